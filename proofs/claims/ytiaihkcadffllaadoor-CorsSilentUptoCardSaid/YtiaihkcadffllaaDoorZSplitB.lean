/- A part of the proof of the seat's laws. No condition beyond those in the theorems. -/
import Derived.Test.YtiaihkcadffllaaDoorZByB
import Derived.Test.YtiaihkcadffllaaDoorZQ0g8

namespace Go.Proofs.YtiaihkcadffllaaDoor.Pure
open Go.RowKit Go.Proofs.YtiaihkcadffllaaDoor.Q Go.Proofs.YtiaihkcadffllaaDoorW.PrintWords Go.Proofs.YtiaihkcadffllaaDoorW.PrintLast
set_option linter.unusedVariables false
set_option linter.unusedSimpArgs false
def splitB (c : UInt8) : List UInt8 → List UInt8 → List (List UInt8)
  | cur, [] => [cur]
  | cur, b :: l => if b = c then cur :: splitB c [] l else splitB c (cur ++ [b]) l
theorem piece_of (s : ByteArray) (pre cur l : List UInt8) (e : s.toList = pre ++ (cur ++ l)) : s.extract pre.length (pre.length + cur.length) = B cur := by
  apply toList_inj
  rw [toList_extract, B_toList, e, ← List.append_assoc, ← List.length_append, List.take_left', List.drop_left']
  · rfl
  · rfl
theorem take_all {α : Type} (l : List α) : l.take ((l.length : Int)).toNat = l := by rw [Int.toNat_natCast, List.take_length]
theorem split_l0 (s : ByteArray) (c : UInt8) (hs : s.size ≤ 1000000000000000) (l : List UInt8) : ∀ (pre cur : List UInt8) (out : List ByteArray), s.toList = pre ++ (cur ++ l) → out.length + (splitB c cur l).length ≤ 8796093022208 →
    Ev (fun k => chars_Split.l0 k s (c.toNat : Int) out (pre.length : Int) (s.size : Int) ((pre.length + cur.length : Nat) : Int)) (out ++ (splitB c cur l).map B) := by
  have hsl := length_toList s
  induction l with
  | nil =>
    intro pre cur out e hlim
    have hl := congrArg List.length e
    rw [hsl, List.length_append, List.length_append, List.length_nil] at hl
    have hx : s.extract pre.length s.size = B cur := by
      rw [← piece_of s pre cur [] e]; congr 1
    refine Ev.step (f := fun _ => some (out ++ [B cur])) (fun k => ?_) (Ev.now _)
    rw [chars_Split.l0, if_neg (by omega), if_pos (by omega), if_pos (by omega), if_pos (by rw [splitB, List.length_singleton] at hlim; omega), Option.bind_some, Int.toNat_natCast, hx]
    rw [if_pos (by omega), if_pos (by omega), take_all]
  | cons b l ih =>
    intro pre cur out e hlim
    have hl := congrArg List.length e
    rw [hsl, List.length_append, List.length_append, List.length_cons] at hl
    have hb := (bt_drop s (pre.length + cur.length) b l (by rw [e, ← List.append_assoc, ← List.length_append, List.drop_left'] ; rfl)).1
    by_cases h : b = c
    · subst h
      rw [splitB, if_pos rfl, List.length_cons] at hlim
      have hx := piece_of s pre cur (b :: l) e
      have q := ih (pre ++ (cur ++ [b])) [] (out ++ [B cur]) (by rw [e]; simp) (by rw [List.length_append, List.length_singleton]; omega)
      refine Ev.step (f := fun k => chars_Split.l0 k s (b.toNat : Int) (out ++ [B cur]) ((pre.length + cur.length : Nat) + 1 : Int) (s.size : Int) ((pre.length + cur.length : Nat) + 1 : Int)) (fun k => ?_) ?_
      · rw [chars_Split.l0, if_pos (by omega), if_pos (by omega), if_pos (by omega), if_pos hb, if_pos (by omega), if_pos (by omega), if_pos (by omega), if_pos (by omega), w64 (n := ((pre.length + cur.length : Nat) : Int) + 1) (by omega) (by omega), Int.toNat_natCast, Int.toNat_natCast, hx]
      · rw [splitB, if_pos rfl, List.map_cons]
        have e1 : (((pre ++ (cur ++ [b])).length : Nat) : Int) = ((pre.length + cur.length : Nat) : Int) + 1 := by simp; omega
        have e2 : (((pre ++ (cur ++ [b])).length + ([] : List UInt8).length : Nat) : Int) = ((pre.length + cur.length : Nat) : Int) + 1 := by simp; omega
        rw [e1, e2, List.append_assoc] at q
        exact q
    · have hne : ¬ bt s ((pre.length + cur.length : Nat) : Int) = (c.toNat : Int) := by rw [hb]; intro q; exact h (toNat_eq.mp q)
      rw [splitB, if_neg h] at hlim
      have q := ih pre (cur ++ [b]) out (by rw [e]; simp) hlim
      refine Ev.step (f := fun k => chars_Split.l0 k s (c.toNat : Int) out (pre.length : Int) (s.size : Int) ((pre.length + cur.length : Nat) + 1 : Int)) (fun k => ?_) ?_
      · rw [chars_Split.l0, if_pos (by omega), if_pos (by omega), if_pos (by omega), if_neg hne, w64 (n := ((pre.length + cur.length : Nat) : Int) + 1) (by omega) (by omega)]
      · rw [splitB, if_neg h]
        have e2 : ((pre.length + (cur ++ [b]).length : Nat) : Int) = ((pre.length + cur.length : Nat) : Int) + 1 := by simp; omega
        rw [e2] at q
        exact q
theorem split_ev (s : ByteArray) (c : UInt8) (hs : s.size ≤ 1000000000000000) (hn : (splitB c [] s.toList).length ≤ 8796093022208) : Ev (fun k => chars_Split.f k s (c.toNat : Int)) ((splitB c [] s.toList).map B) := by
  have := split_l0 s c hs s.toList [] [] [] rfl (by simp only [List.length_nil]; omega)
  rw [List.nil_append] at this
  exact this
end Go.Proofs.YtiaihkcadffllaaDoor.Pure
