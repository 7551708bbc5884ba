/- A part of the proof of the seat's laws. No condition beyond those in the theorems. -/
import Derived.Test.YthjofhklkkmdoaaZShelf
import Derived.Test.YthjofhklkkmdoaaV1

namespace Go.Proofs.Ythjofhklkkmdoaa.Q
open Go.RowKit Go.Proofs.YthjofhklkkmdoaaW.PrintWords
set_option linter.unusedVariables false
set_option linter.unusedSimpArgs false
def GOk (w : World) : Prop := ∃ m, w.cell? ⟨0, 0, none⟩ = some (.int .i64 m)
theorem gok_below {w W : World} (h : GOk w) (hb : Below w.heap.size w W) : GOk W := by
  obtain ⟨m, hm⟩ := h
  exact ⟨m, pw_cell_below hb hm⟩
theorem gok_drewN {w : World} (h : GOk w) (n : Nat) : GOk (w.drewN n) := h
theorem gok_start {W : World} (h : W.ShapedOpen Try.prog) : GOk W := Try.laysM143.s1_3 W h
end Go.Proofs.Ythjofhklkkmdoaa.Q
