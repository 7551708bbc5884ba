/- A part of the proof of the seat's laws. No condition beyond those in the theorems. -/
import Derived.Test.YtiaihkcadffllaaZCutB
import Derived.Test.YtiaihkcadffllaaZByB
import Derived.Test.YtiaihkcadffllaaZQ15g5

namespace Go.Proofs.Ytiaihkcadffllaa.Pure
open Go.RowKit Go.Proofs.Ytiaihkcadffllaa.Q Go.Proofs.YtiaihkcadffllaaW.PrintWords Go.Proofs.YtiaihkcadffllaaW.PrintLast
set_option linter.unusedVariables false
set_option linter.unusedSimpArgs false
def matchB (p s : ByteArray) : Bool :=
  let q := cutR p 42
  if q.2.2 = true then decide (q.1.size + q.2.1.size ≤ s.size) && (((s.extract 0 q.1.size).toList == q.1.toList) && ((s.extract (s.size - q.2.1.size) s.size).toList == q.2.1.toList)) else p.toList == s.toList
theorem match_eq (p s : ByteArray) (hp : p.size ≤ 1000000000000000) (hs : s.size ≤ 1000000000000000) : cors_Match.f p s = some (matchB p s) := by
  have hz := cutR_size p 42
  unfold cors_Match.f cors_pattern_matches.f matchB
  rw [cut_eq p 42 hp, Option.bind_some]
  generalize cutR p 42 = q at *
  obtain ⟨a, b, ok⟩ := q
  dsimp only at hz ⊢
  cases ok with
  | false => rfl
  | true =>
    simp only [if_true]
    rw [w64 (n := (a.size : Int) + (b.size : Int)) (by omega) (by omega)]
    by_cases c : (s.size : Int) ≥ (a.size : Int) + (b.size : Int)
    · rw [if_pos c, strings_HasPrefix.f, stringslite_HasPrefix.f, if_pos (by omega), if_pos (by omega), if_pos (by omega), strings_HasSuffix.f, stringslite_HasSuffix.f, w64 (n := (s.size : Int) - (b.size : Int)) (by omega) (by omega), if_pos (by omega), if_pos (by omega), if_pos (by omega)]
      rw [show decide (a.size + b.size ≤ s.size) = true from decide_eq_true (by omega), show ((s.size : Int) - (b.size : Int)).toNat = s.size - b.size by omega]
      simp only [Option.bind_some, Bool.true_and]
      cases ((s.extract 0 a.size).toList == a.toList) <;> rfl
    · rw [if_neg c, show decide (a.size + b.size ≤ s.size) = false from decide_eq_false (by omega)]; rfl
end Go.Proofs.Ytiaihkcadffllaa.Pure
