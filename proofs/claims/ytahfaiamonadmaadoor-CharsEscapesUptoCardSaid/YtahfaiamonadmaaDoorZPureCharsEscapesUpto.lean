/- A part of the proof of the seat's laws. No condition beyond those in the theorems. -/
import Derived.Test.YtahfaiamonadmaaDoorZCharsAwake
import Derived.Test.YtahfaiamonadmaaDoorZEscB
import Derived.Test.YtahfaiamonadmaaDoorZQ57

namespace Go.Proofs.YtahfaiamonadmaaDoor.Pure
open Go.RowKit Go.Proofs.YtahfaiamonadmaaDoor.Q Go.Proofs.YtahfaiamonadmaaDoorW.PrintWords Go.Proofs.YtahfaiamonadmaaDoorW.PrintLast
set_option linter.unusedVariables false
set_option linter.unusedSimpArgs false
theorem CharsEscapesUpto (a0 : ByteArray) (a1 : Bool) (h : a0.size ≤ 1048576) : ∃ k, stowagelaw3_CharsEscapes.f k a0 a1 = some true := by
  refine Ev.rounds ?_
  refine ev_some (show chars_Unescape.f a0 = some (chars_Unescape.g a0 a0.size 0 []) by rw [chars_Unescape.f, if_pos (by omega)]) ?_
  refine Ev.bind (runesc_ev a0 (by omega)) ?_
  refine ev_some (show chars_Escape.f a0 a1 = some (chars_Escape.s a0 a1) by rw [chars_Escape.f, if_pos (by omega)]) ?_
  refine Ev.bind (resc_ev a0 a1 (by omega)) (ev_pos rfl (ev_pos rfl (ev_pos (by simp) ?_)))
  exact Ev.bind awake_ev (Ev.now true)
end Go.Proofs.YtahfaiamonadmaaDoor.Pure
