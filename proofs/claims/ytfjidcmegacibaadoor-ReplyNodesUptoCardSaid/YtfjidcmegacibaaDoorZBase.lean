/- A part of the proof of the seat's laws. No condition beyond those in the theorems. -/
import Derived.Test.YtfjidcmegacibaaDoorZShelf
import Derived.Test.YtfjidcmegacibaaDoorV1
import Derived.Lib.SmallJoins

namespace Go.Proofs.YtfjidcmegacibaaDoor.Q
open Go.RowKit Go.Proofs.YtfjidcmegacibaaDoorW.PrintWords
set_option linter.unusedVariables false
set_option linter.unusedSimpArgs false
theorem pow_global : Tryd.prog.globalNamed "internal/strconv.uint64pow10" = some 1 := by kernel_rfl
def GOk (w : World) : Prop := (∃ m, w.cell? ⟨0, 0, none⟩ = some (.int .i64 m)) ∧ Lib.TabIs Tryd.prog w "internal/strconv.uint64pow10" .u64 Lib.pow10Tab
theorem gok_max {w:World} (h:GOk w):∃ m,w.cell? ⟨0,0,none⟩=some (.int .i64 m):=h.1
theorem gok_tab {w : World} (h : GOk w) : Lib.TabIs Tryd.prog w "internal/strconv.uint64pow10" .u64 Lib.pow10Tab := h.2
theorem gok_below {w W:World} (h:GOk w) (hb:Below w.heap.size w W):GOk W:=by
  obtain⟨⟨m,hm⟩,ht⟩:=h
  exact⟨⟨m,pw_cell_below hb hm⟩,Go.Joins.tab_stays pow_global ht hb (Nat.le_refl _)⟩
theorem gok_drewN {w:World} (h:GOk w) (n:Nat):GOk (w.drewN n):=h
theorem gok_heap {w W:World} (h:GOk w) (e:W.heap=w.heap):GOk W:=by
  obtain⟨⟨m,hm⟩,ht⟩:=h
  refine⟨⟨m,?_⟩,?_⟩
  · unfold World.cell? at hm ⊢;rw [e];exact hm
  · unfold Lib.TabIs World.var? at ht ⊢;rw [e];exact ht
theorem gok_start_max {W:World} (h:W.ShapedOpen Tryd.prog):∃ m,W.cell? ⟨0,0,none⟩=some (.int .i64 m):=Tryd.laysM219.s1_3 W h
end Go.Proofs.YtfjidcmegacibaaDoor.Q
