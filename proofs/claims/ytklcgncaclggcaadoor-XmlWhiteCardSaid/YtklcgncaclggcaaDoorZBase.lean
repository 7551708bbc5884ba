/- A part of the proof of the seat's laws. No condition beyond those in the theorems. -/
import Derived.Test.YtklcgncaclggcaaDoorZShelf
import Derived.Test.YtklcgncaclggcaaDoorV1

namespace Go.Proofs.YtklcgncaclggcaaDoor.Q
open Go.RowKit Go.Proofs.YtklcgncaclggcaaDoorW.PrintWords
set_option linter.unusedVariables false
set_option linter.unusedSimpArgs false
def GOk (w:World):Prop:=∃ m,w.cell? ⟨0,0,none⟩=some (.int .i64 m)
theorem gok_max {w:World} (h:GOk w):∃ m,w.cell? ⟨0,0,none⟩=some (.int .i64 m):=h
theorem gok_below {w W:World} (h:GOk w) (hb:Below w.heap.size w W):GOk W:=by
  obtain⟨m,hm⟩:=h
  exact⟨m,pw_cell_below hb hm⟩
theorem gok_drewN {w:World} (h:GOk w) (n:Nat):GOk (w.drewN n):=h
theorem gok_heap {w W:World} (h:GOk w) (e:W.heap=w.heap):GOk W:=by
  obtain⟨m,hm⟩:=h
  refine⟨m,?_⟩
  unfold World.cell? at hm ⊢
  rw [e]
  exact hm
end Go.Proofs.YtklcgncaclggcaaDoor.Q
