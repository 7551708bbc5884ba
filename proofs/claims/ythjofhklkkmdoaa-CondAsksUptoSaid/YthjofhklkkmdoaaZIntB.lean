/- A part of the proof of the seat's laws. No condition beyond those in the theorems. -/
import Derived.Test.YthjofhklkkmdoaaZEvB
import Derived.Test.YthjofhklkkmdoaaZQ25
import Derived.Test.YthjofhklkkmdoaaZQ48g3

namespace Go.Proofs.Ythjofhklkkmdoaa.Pure
open Go.RowKit Go.Proofs.Ythjofhklkkmdoaa.Q Go.Proofs.YthjofhklkkmdoaaW.PrintWords Go.Proofs.YthjofhklkkmdoaaW.PrintLast
set_option linter.unusedVariables false
set_option linter.unusedSimpArgs false
def digB : List UInt8 → Int → Int × Bool
  | [], n => (n, true)
  | b :: l, n => if (b.toNat : Int) < 48 then (0, false) else if (b.toNat : Int) > 57 then (0, false) else digB l (wrap64 ((wrap64 (10 * n)) + (((b.toNat : Int) - 48) % 256)))
def intB (l : List UInt8) : Int × Bool := if l.length < 1 ∨ 18 < l.length ∨ (1 < l.length ∧ l[0]? = some 48) then (0, false) else digB l 0
theorem enc_l0 (s : ByteArray) (hs : s.size ≤ 1000000000000000) (l : List UInt8) : ∀ (pre : List UInt8) (n : Int), s.toList = pre ++ l →
    Ev (fun k => enc_Int.l0 k s n (s.size : Int) (pre.length : Int)) (digB l n) := by
  have hsl := length_toList s
  induction l with
  | nil =>
    intro pre n e
    rw [List.append_nil] at e
    have : pre.length = s.size := by rw [← hsl, e]
    exact Ev.step (f := fun _ => some (n, true)) (fun k => by rw [enc_Int.l0, if_neg (by omega)]) (Ev.now _)
  | cons b l ih =>
    intro pre n e
    have hl := congrArg List.length e
    rw [hsl, List.length_append, List.length_cons] at hl
    have hb := (bt_drop s pre.length b l (by rw [e]; simp)).1
    refine Ev.step (f := fun k => _) (fun k => by rw [enc_Int.l0, if_pos (by omega), if_pos (by omega), if_pos (by omega), hb, w64 (n := (pre.length : Int) + 1) (by omega) (by omega)]) ?_
    rw [digB]
    by_cases c : (b.toNat : Int) < 48
    · rw [if_pos c]; exact ev_pos c (Ev.now _)
    · rw [if_neg c]
      refine ev_neg c ?_
      by_cases c' : (b.toNat : Int) > 57
      · rw [if_pos c']; exact ev_pos c' (Ev.now _)
      · rw [if_neg c']
        refine ev_neg c' ?_
        have q := ih (pre ++ [b]) (wrap64 ((wrap64 (10 * n)) + (((b.toNat : Int) - 48) % 256))) (by rw [e]; simp)
        rw [show ((pre ++ [b]).length : Int) = (pre.length : Int) + 1 by simp] at q
        exact q
theorem ref_l0 (s : ByteArray) (hs : s.size ≤ 1000000000000000) (l : List UInt8) : ∀ (pre : List UInt8) (n : Int), s.toList = pre ++ l →
    Ev (fun k => stowageref1_Int.l0 k s n (pre.length : Int)) (digB l n) := by
  have hsl := length_toList s
  induction l with
  | nil =>
    intro pre n e
    rw [List.append_nil] at e
    have : pre.length = s.size := by rw [← hsl, e]
    exact Ev.step (f := fun _ => some (n, true)) (fun k => by rw [stowageref1_Int.l0, if_neg (by omega)]) (Ev.now _)
  | cons b l ih =>
    intro pre n e
    have hl := congrArg List.length e
    rw [hsl, List.length_append, List.length_cons] at hl
    have hb := (bt_drop s pre.length b l (by rw [e]; simp)).1
    refine Ev.step (f := fun k => _) (fun k => by rw [stowageref1_Int.l0, if_pos (by omega), if_pos (by omega), hb, w64 (n := (pre.length : Int) + 1) (by omega) (by omega)]) ?_
    rw [digB]
    by_cases c : (b.toNat : Int) < 48
    · rw [if_pos c]; exact ev_pos c (Ev.now _)
    · rw [if_neg c]
      refine ev_neg c ?_
      by_cases c' : (b.toNat : Int) > 57
      · rw [if_pos c']; exact ev_pos c' (Ev.now _)
      · rw [if_neg c']
        refine ev_neg c' ?_
        have q := ih (pre ++ [b]) (wrap64 ((wrap64 (10 * n)) + (((b.toNat : Int) - 48) % 256))) (by rw [e]; simp)
        rw [show ((pre ++ [b]).length : Int) = (pre.length : Int) + 1 by simp] at q
        exact q
theorem bt_zero (s : ByteArray) (h : 0 < s.size) : bt s 0 = 48 ↔ s.toList[0]? = some 48 := by
  have hsl := length_toList s
  have h0 : 0 < s.toList.length := by omega
  have e := bt_get s 0 h0
  rw [List.getElem?_eq_getElem h0, show ((0 : Nat) : Int) = 0 from rfl] at *
  rw [e]
  constructor
  · intro q
    exact congrArg some (UInt8.toNat_inj.mp (show (s.toList[0]).toNat = (48 : UInt8).toNat by have : (48 : UInt8).toNat = 48 := rfl; omega))
  · intro q
    rw [Option.some.inj q]; rfl
theorem encInt_ev (s : ByteArray) (hs : s.size ≤ 1000000000000000) : Ev (fun k => enc_Int.f k s) (intB s.toList) := by
  have hsl := length_toList s
  have bad : Ev (fun k => enc_Int.j0 k s true) ((0, false) : Int × Bool) := Ev.step (f := fun _ => some (0, false)) (fun k => by rw [enc_Int.j0, if_pos rfl]) (Ev.now _)
  have good : Ev (fun k => enc_Int.j0 k s false) (digB s.toList 0) := Ev.step (f := fun k => _) (fun k => by rw [enc_Int.j0, if_neg (by simp)]; rfl) (enc_l0 s hs s.toList [] 0 rfl)
  simp only [enc_Int.f]
  rw [intB]
  by_cases c1 : (s.size : Int) < 1
  · rw [if_pos (by omega)]; exact ev_pos c1 bad
  · refine ev_neg c1 ?_
    by_cases c2 : (s.size : Int) > 18
    · rw [if_pos (by omega)]; exact ev_pos c2 bad
    · refine ev_neg c2 ?_
      have hz := bt_zero s (by omega)
      by_cases c3 : (s.size : Int) > 1
      · refine ev_pos c3 (ev_pos (by omega) ?_)
        by_cases c4 : bt s 0 = 48
        · rw [if_pos (by rw [← hz]; omega), show (bt s 0 == 48) = true from beq_iff_eq.mpr c4]; exact bad
        · rw [if_neg (by rw [← hz]; omega), show (bt s 0 == 48) = false from beq_eq_false_iff_ne.mpr c4]; exact good
      · refine ev_neg c3 ?_
        rw [if_neg (by omega)]; exact good
theorem refInt_ev (s : ByteArray) (hs : s.size ≤ 1000000000000000) : Ev (fun k => stowageref1_Int.f k s) (intB s.toList) := by
  have hsl := length_toList s
  have bad : Ev (fun k => stowageref1_Int.j0 k s true) ((0, false) : Int × Bool) := Ev.step (f := fun _ => some (0, false)) (fun k => by rw [stowageref1_Int.j0, if_pos rfl]) (Ev.now _)
  have good : Ev (fun k => stowageref1_Int.j0 k s false) (digB s.toList 0) := Ev.step (f := fun k => _) (fun k => by rw [stowageref1_Int.j0, if_neg (by simp)]; rfl) (ref_l0 s hs s.toList [] 0 rfl)
  simp only [stowageref1_Int.f]
  rw [intB]
  by_cases c1 : (s.size : Int) = 0
  · rw [if_pos (by omega)]; exact ev_pos c1 bad
  · refine ev_neg c1 ?_
    by_cases c2 : (s.size : Int) > 18
    · rw [if_pos (by omega)]; exact ev_pos c2 bad
    · refine ev_neg c2 (ev_pos (by omega) ?_)
      have hz := bt_zero s (by omega)
      by_cases c4 : bt s 0 = 48
      · refine ev_pos c4 ?_
        by_cases c3 : (s.size : Int) > 1
        · rw [if_pos (by rw [← hz]; omega), decide_eq_true c3]; exact bad
        · rw [if_neg (by rw [← hz]; omega), decide_eq_false c3]; exact good
      · refine ev_neg c4 ?_
        rw [if_neg (by rw [← hz]; omega)]; exact good
theorem intB_nil : intB [] = (0, false) := rfl
theorem intB_empty (l : List UInt8) (h : (intB l).2 = true) : l ≠ [] := by
  intro e; subst e; rw [intB_nil] at h; simp at h
end Go.Proofs.Ythjofhklkkmdoaa.Pure
