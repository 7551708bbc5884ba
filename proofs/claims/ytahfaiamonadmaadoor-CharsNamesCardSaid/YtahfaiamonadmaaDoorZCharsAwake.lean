/- A part of the proof of the seat's laws. No condition beyond those in the theorems. -/
import Derived.Test.YtahfaiamonadmaaDoorZEvB
import Derived.Test.YtahfaiamonadmaaDoorZQ40g2

namespace Go.Proofs.YtahfaiamonadmaaDoor.Pure
open Go.RowKit Go.Proofs.YtahfaiamonadmaaDoor.Q Go.Proofs.YtahfaiamonadmaaDoorW.PrintWords Go.Proofs.YtahfaiamonadmaaDoorW.PrintLast
set_option linter.unusedVariables false
set_option linter.unusedSimpArgs false
theorem awake_40 : stowagelaw3_awake.f 40 = some true := by decide +kernel
theorem awake_ev : Ev (fun k => stowagelaw3_awake.f k) true := Ev.of (fun k => stowagelaw3_awake.mono k) awake_40
end Go.Proofs.YtahfaiamonadmaaDoor.Pure
