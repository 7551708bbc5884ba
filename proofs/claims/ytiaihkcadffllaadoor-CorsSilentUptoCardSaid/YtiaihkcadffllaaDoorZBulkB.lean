/- A part of the proof of the seat's laws. No condition beyond those in the theorems. -/
import Derived.Test.YtiaihkcadffllaaDoorZRuleB

namespace Go.Proofs.YtiaihkcadffllaaDoor.Pure
open Go.RowKit Go.Proofs.YtiaihkcadffllaaDoor.Q Go.Proofs.YtiaihkcadffllaaDoorW.PrintWords Go.Proofs.YtiaihkcadffllaaDoorW.PrintLast
set_option linter.unusedVariables false
set_option linter.unusedSimpArgs false
def bulkL (l : List ByteArray) : Nat := (l.map fun s => s.size + 1).sum + 1
theorem bulkL_len (l : List ByteArray) : l.length + 1 ≤ bulkL l := by
  induction l with
  | nil => exact Nat.le_refl _
  | cons s l ih => simp only [bulkL, List.map_cons, List.sum_cons, List.length_cons] at *; omega
theorem bulkL_mem (l : List ByteArray) : ∀ s ∈ l, s.size ≤ bulkL l := by
  induction l with
  | nil => intro s h; cases h
  | cons x l ih =>
    intro s h
    have e : bulkL (x :: l) = x.size + 1 + bulkL l := by simp only [bulkL, List.map_cons, List.sum_cons]; omega
    rw [e]
    cases List.mem_cons.1 h with
    | inl h => subst h; omega
    | inr h => have := ih s h; omega
theorem bulk_held (l : List ByteArray) (h : bulkL l ≤ 1048576) : Held l := ⟨by have := bulkL_len l; omega, fun s hs => by have := bulkL_mem l s hs; omega⟩
def bulkR (r : S40) : Nat := bulkL r.f0 + bulkL r.f1 + bulkL r.f2 + bulkL r.f3
theorem bulk_heldR (r : S40) (h : bulkR r ≤ 1048576) : HeldR r := by
  simp only [bulkR] at h
  exact ⟨bulk_held _ (by omega), bulk_held _ (by omega), bulk_held _ (by omega), bulk_held _ (by omega)⟩
end Go.Proofs.YtiaihkcadffllaaDoor.Pure
