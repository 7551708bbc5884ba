/- A part of the proof of the seat's laws. No condition beyond those in the theorems. -/
import Derived.Test.YtojemfdflpgfjaaDoorZFaultAs
import Derived.Test.YtojemfdflpgfjaaDoorV1

namespace Go.Proofs.YtojemfdflpgfjaaDoor.Q
open Go.RowKit Go.Proofs.YtojemfdflpgfjaaDoorW.PrintWords
set_option linter.unusedVariables false
set_option linter.unusedSimpArgs false
def GOk (w : World) : Prop := w.cell? ⟨0, 0, none⟩ = some (.iface 76 (.agg #[.pointer (some ⟨1, 60, none⟩)]))
theorem gok_below {w W : World} (h : GOk w) (hb : Below w.heap.size w W) : GOk W := pw_cell_below hb h
theorem gok_drewN {w : World} (h : GOk w) (n : Nat) : GOk (w.drewN n) := h
end Go.Proofs.YtojemfdflpgfjaaDoor.Q
