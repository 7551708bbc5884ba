/- A part of the proof of the seat's laws. No condition beyond those in the theorems. -/
import Derived.Test.YtojemfdflpgfjaaDoorRows
import Derived.Test.YtojemfdflpgfjaaDoorZBase
import Derived.LaidLaws
import Derived.LaidHandle
import Derived.Stop.Joined

namespace Go.Proofs.YtojemfdflpgfjaaDoor.Q
open Go.ChangeShapes Go.WideShapes Go.RowKit
abbrev laidList : List (String × DataW Unit) := [("errors.errorType", Rows.laid_errors_errorType)]
theorem laid_et : Tryd.prog.globalNamed "errors.errorType" = some 0 := by kernel_rfl
theorem laid_rt : (Tryd.prog.cutTypes.find? (·.1 == "internal/reflectlite.rtype")).map (·.2) = some 76 := by kernel_rfl
theorem laid_size : Tryd.prog.types.size = 118 := by kernel_rfl
theorem laid_row : ((List.range 118).filter fun t => Tryd.prog.rowNamed t [101, 114, 114, 111, 114]) = [60] := by kernel_rfl
theorem gok_laid {W : World} (h : laidMetH Tryd.prog laidList W) (_ : W.ShapedOpen Tryd.prog) : GOk W := by
  have h' : laidMet Tryd.prog [] W ∧ handlesMet Tryd.prog laidList W := h
  obtain ⟨name, u, ty, e1, e2, e3, e4, e5⟩ := h'.2 _ (List.mem_singleton.2 rfl)
  have en : name = [101, 114, 114, 111, 114] := (Option.some.inj e1).symm
  subst en
  obtain rfl := Option.some.inj (laid_rt.symm.trans e2)
  have hm : ty ∈ (List.range 118).filter fun t => Tryd.prog.rowNamed t [101, 114, 114, 111, 114] := List.mem_filter.2 ⟨List.mem_range.2 (by rw [← laid_size]; exact e3), e4⟩
  rw [laid_row] at hm
  obtain rfl := List.mem_singleton.1 hm
  have hh : typeHandle Tryd.prog 60 = .pointer (some ⟨1, 60, none⟩) := by kernel_rfl
  rw [hh] at e5
  simpa [GOk] using World.var?_cell laid_et e5 0
noncomputable def laidWorld (os : Os) : World :=
  let w0 := World.holding Tryd.prog os ⟨#[], #[], []⟩
  { w0 with heap := w0.heap.modify 0 fun
      | .cells _ t frozen => .cells #[.iface 76 (.agg #[.pointer (some ⟨1, 60, none⟩)])] t frozen
      | o => o }
theorem laid_met (os : Os) (args : Array Value) : laidMetH Tryd.prog laidList ((laidWorld os).forCall (fun _ _ => 0) ⟨#[], args, []⟩).memory :=
  laidMetH_of_parts (laidMet_nil _ _) (by kernel_rfl)
end Go.Proofs.YtojemfdflpgfjaaDoor.Q
