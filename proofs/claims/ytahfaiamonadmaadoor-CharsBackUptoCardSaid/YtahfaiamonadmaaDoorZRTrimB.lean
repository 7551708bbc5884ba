/- A part of the proof of the seat's laws. No condition beyond those in the theorems. -/
import Derived.Test.YtahfaiamonadmaaDoorZTrimB
import Derived.Test.YtahfaiamonadmaaDoorZQ46g2

namespace Go.Proofs.YtahfaiamonadmaaDoor.Pure
open Go.RowKit Go.Proofs.YtahfaiamonadmaaDoor.Q Go.Proofs.YtahfaiamonadmaaDoorW.PrintWords Go.Proofs.YtahfaiamonadmaaDoorW.PrintLast
set_option linter.unusedVariables false
set_option linter.unusedSimpArgs false
theorem blank_two {α : Type} (c : UInt8) (a b : Option α) : (if (c.toNat : Int) = 32 then a else if (c.toNat : Int) = 9 then a else b) = if blankB c = true then a else b := by
  rw [blankB]
  by_cases h : c = 32
  · subst h; rfl
  · rw [if_neg (fun q : (c.toNat : Int) = 32 => h (toNat_eq.mp q)), show (c == 32) = false by simpa using h, Bool.false_or]
    by_cases g : c = 9
    · subst g; rfl
    · rw [if_neg (fun q : (c.toNat : Int) = 9 => g (toNat_eq.mp q)), show (c == 9) = false by simpa using g, if_neg (by simp)]
theorem rtrim_l1 (m : List UInt8) (hm : m.length ≤ 1000000000000000) : Ev (fun k => stowageref3_Trim.l1 k (B m.reverse)) (B (dropB m).reverse) := by
  induction m with
  | nil => exact Ev.step (f := fun _ => some (B [])) (fun k => by rw [stowageref3_Trim.l1, if_neg (by rw [B_size]; simp)]; rfl) (Ev.now _)
  | cons c m ih =>
    rw [List.length_cons] at hm
    have hz : ((B (c :: m).reverse).size : Int) = (m.length : Int) + 1 := by rw [B_size, List.length_reverse, List.length_cons]; omega
    have hw : wrap64 (((B (c :: m).reverse).size : Int) - 1) = (m.length : Int) := by rw [hz, w64 (by omega) (by omega)]; omega
    have hb := bt_B (c :: m).reverse m.length c (last_at m c)
    refine Ev.step (f := fun k => if blankB c = true then stowageref3_Trim.l1 k (B m.reverse) else some (B (c :: m).reverse)) (fun k => ?_) ?_
    · rw [stowageref3_Trim.l1, if_pos (by omega), hw, if_pos (by omega), if_pos (by omega), hb, blank_two]
      by_cases h : blankB c = true
      · rw [if_pos h, if_pos h, if_pos (by omega), B_extract, Int.toNat_natCast, last_off]
      · rw [if_neg h, if_neg h]
    · rw [dropB]
      by_cases h : blankB c = true
      · rw [if_pos h]; exact ev_pos h (ih (by omega))
      · rw [if_neg h]; exact ev_neg h (Ev.now _)
theorem rtrim_l0 (l : List UInt8) (hl : l.length ≤ 1000000000000000) : Ev (fun k => stowageref3_Trim.l0 k (B l)) (B (trimB l)) := by
  have tail : ∀ d : List UInt8, d.length ≤ 1000000000000000 → Ev (fun k => stowageref3_Trim.j1 k (B d)) (B (dropB d.reverse).reverse) := fun d hd => by
    refine Ev.step (f := fun k => stowageref3_Trim.l1 k (B d)) (fun k => by rw [stowageref3_Trim.j1]) ?_
    have := rtrim_l1 d.reverse (by rw [List.length_reverse]; exact hd)
    rwa [List.reverse_reverse] at this
  induction l with
  | nil => exact Ev.step (f := fun k => stowageref3_Trim.j1 k (B [])) (fun k => by rw [stowageref3_Trim.l0, if_neg (by rw [B_size]; simp)]) (tail [] (by simp))
  | cons c l ih =>
    have hb := bt_B (c :: l) 0 c rfl
    have hb' : bt (B (c :: l)) 0 = (c.toNat : Int) := hb
    have hz : ((B (c :: l)).size : Int) = (l.length : Int) + 1 := by rw [B_size, List.length_cons]; omega
    have hz' : (B (c :: l)).size = l.length + 1 := by rw [B_size, List.length_cons]
    refine Ev.step (f := fun k => if blankB c = true then stowageref3_Trim.l0 k (B l) else stowageref3_Trim.j1 k (B (c :: l))) (fun k => ?_) ?_
    · rw [stowageref3_Trim.l0, if_pos (by omega), if_pos (by omega), hb', blank_two]
      by_cases h : blankB c = true
      · rw [if_pos h, if_pos h, if_pos (by omega), hz', B_extract, List.take_of_length_le (by simp), List.drop_one, List.tail_cons]
      · rw [if_neg h, if_neg h]
    · rw [List.length_cons] at hl
      by_cases h : blankB c = true
      · refine ev_pos h ?_
        have e : trimB (c :: l) = trimB l := by rw [trimB, dropB, if_pos h]; rfl
        rw [e]; exact ih (by omega)
      · refine ev_neg h ?_
        have e : trimB (c :: l) = (dropB (c :: l).reverse).reverse := by rw [trimB, dropB, if_neg h]
        rw [e]; exact tail (c :: l) (by rw [List.length_cons]; omega)
theorem rtrim_ev (s : ByteArray) (hs : s.size ≤ 1000000000000000) : Ev (fun k => stowageref3_Trim.f k s) (B (trimB s.toList)) := by
  have := rtrim_l0 s.toList (by rw [length_toList]; exact hs)
  rw [of_B] at this
  exact this
end Go.Proofs.YtahfaiamonadmaaDoor.Pure
