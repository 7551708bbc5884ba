/- A part of the proof of the seat's laws. No condition beyond those in the theorems. -/
import Derived.Test.YtahfaiamonadmaaDoorZByB
import Derived.Test.YtahfaiamonadmaaDoorZQ50g3

namespace Go.Proofs.YtahfaiamonadmaaDoor.Pure
open Go.RowKit Go.Proofs.YtahfaiamonadmaaDoor.Q Go.Proofs.YtahfaiamonadmaaDoorW.PrintWords Go.Proofs.YtahfaiamonadmaaDoorW.PrintLast
set_option linter.unusedVariables false
set_option linter.unusedSimpArgs false
theorem same_l0 (all : List ByteArray) (hn : all.length ≤ 1000000000000000) (j : Nat) : ∀ i : Nat, all.length = i + j → Ev (fun k => stowageref1_SameTexts.l0 k all all (i : Int)) true := by
  induction j with
  | zero => intro i e; exact Ev.step (f := fun _ => some true) (fun k => by rw [stowageref1_SameTexts.l0, if_neg (by omega)]) (Ev.now _)
  | succ j ih =>
    intro i e
    exact Ev.step (f := fun k => stowageref1_SameTexts.l0 k all all ((i + 1 : Nat) : Int)) (fun k => by rw [stowageref1_SameTexts.l0, if_pos (by omega), if_pos (by omega), if_pos (by omega), if_pos rfl, w64 (by omega) (by omega)]; rfl) (ih (i + 1) (by omega))
theorem same_ev (all : List ByteArray) (hn : all.length ≤ 1000000000000000) : Ev (fun k => stowageref1_SameTexts.f k all all) true := by
  simp only [stowageref1_SameTexts.f]
  exact ev_pos trivial (same_l0 all hn all.length 0 (by omega))
end Go.Proofs.YtahfaiamonadmaaDoor.Pure
