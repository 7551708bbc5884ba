/- A part of the proof of the seat's laws. No condition beyond those in the theorems. -/
import Derived.Test.YtiaihkcadffllaaDoorZShelf
import Derived.Test.YtiaihkcadffllaaDoorV1
import Derived.Lib.SmallJoins

namespace Go.Proofs.YtiaihkcadffllaaDoor.Q
open Go.RowKit Go.Proofs.YtiaihkcadffllaaDoorW.PrintWords
set_option linter.unusedVariables false
set_option linter.unusedSimpArgs false
theorem pow_global : Tryd.prog.globalNamed "internal/strconv.uint64pow10" = some 1 := by kernel_rfl
def GOk (w : World) : Prop := Lib.TabIs Tryd.prog w "internal/strconv.uint64pow10" .u64 Lib.pow10Tab
theorem gok_tab {w : World} (h : GOk w) : Lib.TabIs Tryd.prog w "internal/strconv.uint64pow10" .u64 Lib.pow10Tab := h
theorem gok_below {w W : World} (h : GOk w) (hb : Below w.heap.size w W) : GOk W := Go.Joins.tab_stays pow_global h hb (Nat.le_refl _)
theorem gok_drewN {w : World} (h : GOk w) (n : Nat) : GOk (w.drewN n) := h
end Go.Proofs.YtiaihkcadffllaaDoor.Q
