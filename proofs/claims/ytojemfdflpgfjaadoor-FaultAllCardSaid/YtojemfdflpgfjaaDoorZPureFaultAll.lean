/- A part of the proof of the seat's laws. No condition beyond those in the theorems. -/
import Derived.Test.YtojemfdflpgfjaaDoorZQ31

namespace Go.Proofs.YtojemfdflpgfjaaDoor.Pure
open Go.RowKit Go.Proofs.YtojemfdflpgfjaaDoor.Q Go.Proofs.YtojemfdflpgfjaaDoorW.PrintWords Go.Proofs.YtojemfdflpgfjaaDoorW.PrintLast
set_option linter.unusedVariables false
set_option linter.unusedSimpArgs false
theorem FaultAll : stowagelaw14_FaultAll.Pure := by
  intro a0 _
  exact ⟨200, by kernel_rfl⟩
end Go.Proofs.YtojemfdflpgfjaaDoor.Pure
