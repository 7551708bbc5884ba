/- A part of the proof of the seat's laws. No condition beyond those in the theorems. -/
import Derived.Test.YthjofhklkkmdoaaZEvB
import Derived.Test.YthjofhklkkmdoaaZQ46

namespace Go.Proofs.Ythjofhklkkmdoaa.Pure
open Go.RowKit Go.Proofs.Ythjofhklkkmdoaa.Q Go.Proofs.YthjofhklkkmdoaaW.PrintWords Go.Proofs.YthjofhklkkmdoaaW.PrintLast
set_option linter.unusedVariables false
set_option linter.unusedSimpArgs false
theorem awake_30 : stowagelaw21_awake.f 30 = some true := by decide +kernel
theorem awake_ev : Ev (fun k => stowagelaw21_awake.f k) true := Ev.of (fun k => stowagelaw21_awake.mono k) awake_30
end Go.Proofs.Ythjofhklkkmdoaa.Pure
