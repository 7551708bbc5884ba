/- A part of the proof of the seat's laws. No condition beyond those in the theorems. -/
import Derived.Test.YtiaihkcadffllaaDoorZByB
import Derived.Test.YtiaihkcadffllaaDoorZQ0g8

namespace Go.Proofs.YtiaihkcadffllaaDoor.Pure
open Go.RowKit Go.Proofs.YtiaihkcadffllaaDoor.Q Go.Proofs.YtiaihkcadffllaaDoorW.PrintWords Go.Proofs.YtiaihkcadffllaaDoorW.PrintLast
set_option linter.unusedVariables false
set_option linter.unusedSimpArgs false
def blankB (c : UInt8) : Bool := c == 32 || c == 9
def dropB : List UInt8 → List UInt8
  | [] => []
  | c :: l => if blankB c = true then dropB l else c :: l
def trimB (l : List UInt8) : List UInt8 := (dropB (dropB l).reverse).reverse
theorem dropB_len (l : List UInt8) : (dropB l).length ≤ l.length := by
  induction l with
  | nil => exact Nat.le_refl _
  | cons c l ih =>
    rw [dropB]
    split
    · rw [List.length_cons]; omega
    · exact Nat.le_refl _
theorem trimB_len (l : List UInt8) : (trimB l).length ≤ l.length := by
  rw [trimB, List.length_reverse]
  have h1 := dropB_len (dropB l).reverse
  have h2 := dropB_len l
  rw [List.length_reverse] at h1
  omega
theorem blank_eq (c : UInt8) : chars_blank.f (c.toNat : Int) = some (blankB c) := by
  rw [chars_blank.f, blankB]
  by_cases h : (c.toNat : Int) = 32
  · rw [if_pos h]
    obtain rfl : c = 32 := toNat_eq.mp (by rw [h]; rfl)
    rfl
  · rw [if_neg h]
    have h' : (c == 32) = false := by rw [beq_eq_false_iff_ne]; intro e; subst e; exact h rfl
    rw [h', Bool.false_or]
    congr 1
    by_cases g : c = 9
    · subst g; rfl
    · rw [show (c == 9) = false by simpa using g, beq_eq_false_iff_ne]
      intro e; exact g (toNat_eq.mp (by rw [e]; rfl))
theorem last_at (m : List UInt8) (c : UInt8) : (c :: m).reverse[m.length]? = some c := by
  rw [List.reverse_cons, List.getElem?_append_right (by rw [List.length_reverse]; exact Nat.le_refl _), List.length_reverse, Nat.sub_self]; rfl
theorem last_off (m : List UInt8) (c : UInt8) : ((c :: m).reverse.take m.length).drop 0 = m.reverse := by
  rw [List.drop_zero, List.reverse_cons]
  have : m.length = m.reverse.length := (List.length_reverse).symm
  rw [this, List.take_left']
  rfl
theorem trim_l1 (m : List UInt8) (hm : m.length ≤ 1000000000000000) : Ev (fun k => chars_Trim.l1 k (B m.reverse)) (B (dropB m).reverse) := by
  induction m with
  | nil => exact Ev.step (f := fun _ => some (B [])) (fun k => by rw [chars_Trim.l1, if_pos (show (B ([] : List UInt8).reverse).toList = [] from B_toList _)]; rfl) (Ev.now _)
  | cons c m ih =>
    rw [List.length_cons] at hm
    have hz : ((B (c :: m).reverse).size : Int) = (m.length : Int) + 1 := by rw [B_size, List.length_reverse, List.length_cons]; omega
    have hw : wrap64 (((B (c :: m).reverse).size : Int) - 1) = (m.length : Int) := by rw [hz, w64 (by omega) (by omega)]; omega
    have hb := bt_B (c :: m).reverse m.length c (last_at m c)
    refine Ev.step (f := fun k => if blankB c = true then chars_Trim.l1 k (B m.reverse) else some (B (c :: m).reverse)) (fun k => ?_) ?_
    · rw [chars_Trim.l1, if_neg (by rw [B_toList]; simp), hw, if_pos (by omega), if_pos (by omega), hb, blank_eq, Option.bind_some]
      by_cases h : blankB c = true
      · rw [if_pos h, if_pos h, if_pos (by omega), B_extract, Int.toNat_natCast, last_off]
      · rw [if_neg h, if_neg h]
    · rw [dropB]
      by_cases h : blankB c = true
      · rw [if_pos h]; exact ev_pos h (ih (by omega))
      · rw [if_neg h]; exact ev_neg h (Ev.now _)
theorem trim_l0 (l : List UInt8) (hl : l.length ≤ 1000000000000000) : Ev (fun k => chars_Trim.l0 k (B l)) (B (trimB l)) := by
  have tail : ∀ d : List UInt8, d.length ≤ 1000000000000000 → Ev (fun k => chars_Trim.j1 k (B d)) (B (dropB d.reverse).reverse) := fun d hd => by
    refine Ev.step (f := fun k => chars_Trim.l1 k (B d)) (fun k => by rw [chars_Trim.j1]) ?_
    have := trim_l1 d.reverse (by rw [List.length_reverse]; exact hd)
    rwa [List.reverse_reverse] at this
  induction l with
  | nil => exact Ev.step (f := fun k => chars_Trim.j1 k (B [])) (fun k => by rw [chars_Trim.l0, if_pos (B_toList _)]) (tail [] (by simp))
  | cons c l ih =>
    have hb := bt_B (c :: l) 0 c rfl
    have hb' : bt (B (c :: l)) 0 = (c.toNat : Int) := hb
    have hz : ((B (c :: l)).size : Int) = (l.length : Int) + 1 := by rw [B_size, List.length_cons]; omega
    have hz' : (B (c :: l)).size = l.length + 1 := by rw [B_size, List.length_cons]
    refine Ev.step (f := fun k => if blankB c = true then chars_Trim.l0 k (B l) else chars_Trim.j1 k (B (c :: l))) (fun k => ?_) ?_
    · rw [chars_Trim.l0, if_neg (by rw [B_toList]; simp), if_pos (by omega), hb', blank_eq, Option.bind_some]
      by_cases h : blankB c = true
      · rw [if_pos h, if_pos h, if_pos (by omega), hz', B_extract, List.take_of_length_le (by simp), List.drop_one, List.tail_cons]
      · rw [if_neg h, if_neg h]
    · rw [List.length_cons] at hl
      by_cases h : blankB c = true
      · refine ev_pos h ?_
        have e : trimB (c :: l) = trimB l := by rw [trimB, dropB, if_pos h]; rfl
        rw [e]; exact ih (by omega)
      · refine ev_neg h ?_
        have e : trimB (c :: l) = (dropB (c :: l).reverse).reverse := by rw [trimB, dropB, if_neg h]
        rw [e]; exact tail (c :: l) (by rw [List.length_cons]; omega)
theorem trim_ev (s : ByteArray) (hs : s.size ≤ 1000000000000000) : Ev (fun k => chars_Trim.f k s) (B (trimB s.toList)) := by
  have := trim_l0 s.toList (by rw [length_toList]; exact hs)
  rw [of_B] at this
  exact this
end Go.Proofs.YtiaihkcadffllaaDoor.Pure
