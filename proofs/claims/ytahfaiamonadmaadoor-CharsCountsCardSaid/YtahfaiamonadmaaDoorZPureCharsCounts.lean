/- A part of the proof of the seat's laws. No condition beyond those in the theorems. -/
import Derived.Test.YtahfaiamonadmaaDoorZCharsAwake
import Derived.Test.YtahfaiamonadmaaDoorZCountL
import Derived.Test.YtahfaiamonadmaaDoorZQ71g2

namespace Go.Proofs.YtahfaiamonadmaaDoor.Pure
open Go.RowKit Go.Proofs.YtahfaiamonadmaaDoor.Q Go.Proofs.YtahfaiamonadmaaDoorW.PrintWords Go.Proofs.YtahfaiamonadmaaDoorW.PrintLast
set_option linter.unusedVariables false
set_option linter.unusedSimpArgs false
theorem cR_snd (n : Nat) (o : Option Nat) : (cR n o).2 = o.isSome := by cases o <;> rfl
theorem CharsCounts : stowagelaw3_CharsCounts.Pure := by
  intro a0 h
  refine Ev.rounds ?_
  refine ev_some (count_eq a0 (by omega)) (Ev.bind (rcount_ev a0 (by omega)) (ev_pos rfl (ev_pos (by simp) ?_)))
  refine ev_some (valid_eq a0 (by omega)) (ev_pos (by simp [cR_snd]) ?_)
  refine ev_some (legal_eq a0 (by omega)) (Ev.bind (rlegal_ev a0 (by omega)) (ev_pos (by simp) ?_))
  exact Ev.bind awake_ev (Ev.now true)
end Go.Proofs.YtahfaiamonadmaaDoor.Pure
