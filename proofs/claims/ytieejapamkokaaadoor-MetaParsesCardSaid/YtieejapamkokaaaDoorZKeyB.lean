/- A part of the proof of the seat's laws. No condition beyond those in the theorems. -/
import Derived.Test.YtieejapamkokaaaDoorZBucketB
import Derived.Test.YtieejapamkokaaaDoorZCountL
import Derived.Test.YtieejapamkokaaaDoorZQ54g5
import Derived.Test.YtieejapamkokaaaDoorZQ76g4

namespace Go.Proofs.YtieejapamkokaaaDoor.Pure
open Go.RowKit Go.Proofs.YtieejapamkokaaaDoor.Q Go.Proofs.YtieejapamkokaaaDoorW.PrintWords Go.Proofs.YtieejapamkokaaaDoorW.PrintLast
set_option linter.unusedVariables false
set_option linter.unusedSimpArgs false
theorem ib_neg (l : List UInt8) (c : UInt8) : Lib.indexByte l c < 0 ↔ l.any (fun b => b == c) = false := by
  induction l with
  | nil => simp [Lib.indexByte]
  | cons b l ih =>
    have hge := Lib.indexByte_ge l c
    rw [Lib.indexByte, List.any_cons]
    cases h : b == c
    · rw [if_neg (by decide), Bool.false_or, ← ih]
      by_cases g : Lib.indexByte l c = -1
      · rw [g]; decide
      · rw [if_neg (by simpa using g)]; omega
    · rw [if_pos rfl, Bool.true_or]; simp
theorem in_l0 (s : ByteArray) (c : UInt8) (hs : s.size ≤ 1000000000000000) (l : List UInt8) : ∀ pre, s.toList = pre ++ l → Ev (fun k => stowageref3_in.l0 k s (c.toNat : Int) (pre.length : Int)) (l.any (fun b => b == c)) := by
  induction l with
  | nil =>
    intro pre h
    have e := pre_end s pre h
    exact Ev.step (f := fun _ => some false) (fun k => by rw [stowageref3_in.l0, if_neg (by omega)]) (Ev.now _)
  | cons b l ih =>
    intro pre h
    obtain ⟨hb, hl⟩ := bt_pre s pre l b h
    have hn := pre_next pre b s.size hl (by omega)
    have happ := pre_app s _ l b h
    rw [List.any_cons]
    by_cases g : b = c
    · rw [show (b == c) = true by simpa using g, Bool.true_or]
      exact Ev.step (f := fun _ => some true) (fun k => by rw [stowageref3_in.l0, if_pos (by omega), if_pos (by omega), hb, if_pos (toNat_eq.mpr g)]) (Ev.now _)
    · rw [show (b == c) = false by simpa using g, Bool.false_or]
      exact Ev.step (fun k => by rw [stowageref3_in.l0, if_pos (by omega), if_pos (by omega), hb, if_neg (fun h => g (toNat_eq.mp h)), hn]) (ih (pre ++ [b]) happ)
def keyB (s : ByteArray) : Bool := if 1 ≤ s.size ∧ s.size ≤ 1024 then ((cO s.size s.toList).isSome && !(s.toList.any fun b => b == 0)) else false
theorem key_eq (s : ByteArray) : chars_Key.f s = some (keyB s) := by
  unfold chars_Key.f keyB
  by_cases c : 1 ≤ s.size ∧ s.size ≤ 1024
  · rw [if_pos c, if_pos (by omega), if_pos (by omega)]
    have hi : strings_IndexByte.f s 0 = some (Lib.indexByte s.toList 0) := by
      rw [ByteArray.toList_eq]
      simp [strings_IndexByte.f, stringslite_IndexByte.f]
    rw [hi, Option.bind_some, valid_eq s (by omega), Option.bind_some]
    cases hz : s.toList.any (fun b => b == 0)
    · rw [if_pos ((ib_neg _ _).mpr hz), Bool.not_false, Bool.and_true]
    · rw [if_neg (fun h => by rw [(ib_neg _ _).mp h] at hz; exact absurd hz (by decide)), Bool.not_true, Bool.and_false]
  · rw [if_neg c]
    by_cases c1 : (s.size : Int) ≥ 1
    · rw [if_pos c1, if_neg (by omega)]
    · rw [if_neg c1]
theorem rkey_ev (s : ByteArray) (hs : s.size ≤ 140737488351232) : Ev (fun k => stowageref3_Key.f k s) (keyB s) := by
  have hv : Ev (fun k => stowageref3_Valid.f k s) (cO s.size s.toList).isSome := by
    unfold stowageref3_Valid.f
    refine Ev.bind (rcount_ev s (by omega)) (ev_eq (Ev.now _) ?_)
    cases cO s.size s.toList <;> rfl
  unfold stowageref3_Key.f keyB
  refine Ev.bind hv ?_
  cases cO s.size s.toList with
  | none => exact ev_neg (by decide) (ev_eq (Ev.now _) (by simp))
  | some m =>
    refine ev_pos rfl ?_
    by_cases c : 1 ≤ s.size ∧ s.size ≤ 1024
    · rw [if_pos c]
      refine ev_pos (by omega) (ev_pos (by omega) (Ev.bind (in_l0 s 0 (by omega) s.toList [] rfl) (ev_eq (Ev.now _) (by simp))))
    · rw [if_neg c]
      by_cases c1 : (s.size : Int) ≥ 1
      · exact ev_pos c1 (ev_neg (by omega) (Ev.now _))
      · exact ev_neg c1 (Ev.now _)
end Go.Proofs.YtieejapamkokaaaDoor.Pure
