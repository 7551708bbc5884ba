/- A part of the proof of the seat's laws. No condition beyond those in the theorems. -/
import Derived.Test.YtojemfdflpgfjaaDoorZBase
import Derived.Lib.Hide
import Derived.IntWalk
import Derived.Deep.RegionWith
import Derived.Test.YtojemfdflpgfjaaDoorZQ1
import Derived.Test.YtojemfdflpgfjaaDoorZQ0

namespace Go.Proofs.YtojemfdflpgfjaaDoor.Q
open Go.RowKit Go.Proofs.YtojemfdflpgfjaaDoorW.PrintWords Go.Proofs.YtojemfdflpgfjaaDoorW.PrintLast Go.Proofs.YtojemfdflpgfjaaDoorW.PrintMore
set_option linter.unusedVariables false
set_option linter.unusedSimpArgs false
attribute [local go_sem] max2_int min2_int max_two min_two max_three min_three max_four min_four   
def fault_of.j (e : Int) : Int := if e < 300 then 36 else if 341 < e then 36 else e - 300
theorem fault_of.j_range (e : Int) : 0 ≤ fault_of.j e ∧ fault_of.j e < 42 := by
 unfold fault_of.j
 by_cases c : e < 300
 ·rw [if_pos c]; omega
 ·rw [if_neg c]
  by_cases c' : 341 < e
  ·rw [if_pos c']; omega
  ·rw [if_neg c']; omega
def fault_of.f (a0 : Option Int) : Option (ByteArray × Int) := match a0 with
 | none => none
 | some e => fault_table.f.bind fun l => if l.length = 42 then some ((rd_T50 l (fault_of.j e)).f0, (rd_T50 l (fault_of.j e)).f1) else none
theorem fault_of.as_ (e : Int) (g : Nat) (old : Value) (w : World) (hG : GOk w) (hb : w.heap[g]? = some (.cells #[old] 22 (0, 0))) :
  Calls Tryd.prog 26 #[.iface 22 (.int .i64 e), .iface 62 (.pointer (some ⟨g, 0, none⟩))] w fun ev w' => ev = .returned (.bool true) ∧ w'.heap[g]? = some (.cells #[.int .i64 e] 22 (0, 0)) ∧ w.grownBy w' (some g) := by
 refine (As.as_hit e ⟨g, 0, none⟩ old w hG (cell_of_one hb) (free_of_one hb)).mono ?_
 rintro ev w' ⟨rfl, rfl⟩
 have h4 := blk_alloc (blk_alloc (blk_alloc (blk_alloc hb (.cells #[.pointer (some ⟨g, 0, none⟩)] 62)) (.cells #[.pointer (some ⟨1, 62, none⟩), .pointer (some ⟨w.heap.size, 0, none⟩), .int .u64 150] 66)) (.cells #[.pointer (some ⟨1, 62, none⟩), .pointer (some ⟨w.heap.size, 0, none⟩), .int .u64 150] 66)) (.cells #[.int .i64 e] 22)
 refine ⟨rfl, one_setCell h4, ?_⟩
 exact World.grownBy.trans (World.grownBy.trans (World.grownBy.trans (World.grownBy.trans (World.grownBy_alloc w _ _) (World.grownBy_alloc _ _ _)) (World.grownBy_alloc _ _ _)) (World.grownBy_alloc _ _ _)) ⟨rfl, rfl, rfl, by simp, fun i _ hne => Below.heap_setCell _ ⟨g, 0, none⟩ _ i (fun h_ => hne (by rw [h_]))⟩
set_option maxHeartbeats 8000000 in
set_option maxRecDepth 100000 in
theorem fault_of.calls (a0 : Option Int) (r1 : ByteArray) (r2 : Int) (w : World) (hG : GOk w) (h : fault_of.f a0 = some (r1, r2)) :
  Calls Tryd.prog 21 #[errW a0] w fun e w' => e = .returned (.agg #[.string r1, .int .i64 r2]) ∧ Below w.heap.size w w' := by
 cases a0 with
 | none => exact absurd h (by simp [fault_of.f])
 | some e =>
 simp only [errW_some]
 unfold fault_of.f at h
 replace h := bndO h
 obtain ⟨l, hl, h⟩ := h
 have hl' := Aside0.mk hl
 clear hl
 have hlen : l.length = 42 := by
  by_cases c : l.length = 42
  ·exact c
  ·simp [c] at h
 simp only [hlen, if_true, Option.some.injEq, Prod.mk.injEq] at h
 obtain ⟨rfl, rfl⟩ := h
 have hlen' := Lib.hid hlen
 clear hlen
 have hjr := fault_of.j_range e
 have hGs := Lib.hid hG
 clear hG
 have hq : ∃ q : Int, 300 ≤ q ∧ q ≤ 341 ∧ Hid (fault_of.j e = q - 300) ∧ (e < 300 → Hid (q = 336)) ∧ (341 < e → Hid (q = 336)) ∧ (¬ e < 300 → ¬ 341 < e → Hid (q = e)) := by
  refine ⟨fault_of.j e + 300, by omega, by omega, Lib.hid (by omega), fun h => Lib.hid ?_, fun h => Lib.hid ?_, fun h h' => Lib.hid ?_⟩
  ·simp [fault_of.j, h]
  ·unfold fault_of.j; rw [if_neg (by omega), if_pos h]; rfl
  ·unfold fault_of.j; rw [if_neg h, if_neg h']; omega
 obtain ⟨q, hq1, hq2, hqj, ha, hb, hc⟩ := hq
 obtain ⟨J, hJ⟩ : ∃ J : Int, q - 300 = J := ⟨_, rfl⟩
 rw [hJ] at hqj
 have hJw : IntKind.i64.wrap J = J := IntWalk.i64_in _ (by omega)
 have hJ0 : 0 ≤ J := by omega
 have hJ1 : J < (l.length : Int) := by rw [hlen'.out]; omega
 have p0 := eq_true hJ0
 have p1 := eq_true hJ1
 have hJh := Lib.hid (And.intro hJ0 hJ1)
 clear hJ0 hJ1 hq1 hq2
 clear hjr
 go_enter Tryd.func21, Tryd.ntmps21
 go_wp2_with fail
 refine (fault_of.as_ e (w.heap.size + 1) (.int .i64 0) _ ?_ ?_).mono ?_
 ·exact gok_below hGs.out (below_alloc (below_alloc (Below.refl _ _) _) _)
 ·have h_ := blk_new (w.alloc (.cells #[.string ⟨#[]⟩, .int .i64 0] 50)) (.cells #[.int .i64 0] 22)
  simpa using h_
 rintro ev w1 ⟨rfl, hb1, hg⟩
 have hs1 : w1.heap[w.heap.size]? = some (.cells #[.string ⟨#[]⟩, .int .i64 0] 50 (0, 0)) := blk_grown (blk_alloc (blk_new w _) _) hg (by simp)
 have hB1 : Below w.heap.size w w1 := pw_below_grown (below_alloc (below_alloc (Below.refl _ _) _) _) _ (by simp; omega) hg (fun k hk => by cases hk; omega)
 have hcl := cell_of_one hb1
 have hfr := free_of_one hb1
 have hs1' := Lib.hid hs1
 have hb1' := Lib.hid hb1
 have hB1' := Lib.hid hB1
 clear hs1 hb1 hB1 hg
 by_cases c1 : e < 300
 ·have hq := ha c1
  have c1b := decide_eq_true c1
  clear ha hb hc c1
  go_wp2_with fail
  obtain ⟨W, hW⟩ : ∃ W, W = w1.setCell ⟨w.heap.size + 1, 0, none⟩ (.int .i64 336) := ⟨_, rfl⟩
  have hWt := Lib.hid (show W.heap[w.heap.size + 1]? = some (.cells #[.int .i64 q] 22 (0, 0)) from (by rw [hW, hq.out]; exact one_setCell hb1'.out))
  have hWs := Lib.hid (show W.heap[w.heap.size]? = some (.cells #[.string ⟨#[]⟩, .int .i64 0] 50 (0, 0)) from (by rw [hW]; exact blk_far hs1'.out (by simp) _))
  have hWB := Lib.hid (show Below w.heap.size w W from (by rw [hW]; exact hB1'.out.setCell (by simp) _))
  rw [← hW]
  clear hW hs1' hb1' hB1' hcl hfr hq
  have hcl := cell_of_one hWt.out
  go_region_with ((go_at_call 19; refine (fault_table.calls l _ hl'.out).mono ?_; rintro e9 w2 ⟨v0, rfl, hR, hb2⟩; obtain ⟨Ao, co, rfl⟩ := Kd.R_slice hR; obtain ⟨ad, e120, hx0, hx1⟩ := at_T50 (Kd.R_reads' hR).2.2 J hJh.out.1 hJh.out.2; subst e120; have hcl2 := cell_of_one (blk_below (blk_drew hWt.out) hb2); have hfs0 := blk_frozen (blk_below (blk_drew hWs.out) hb2) 0; have hfs1 := blk_frozen (blk_below (blk_drew hWs.out) hb2) 1; have hcs0 := (blk_cell (blk_below (blk_drew hWs.out) hb2) 0).trans rfl; have hcs1 := (blk_cell (blk_below (blk_drew hWs.out) hb2) 1).trans rfl; have hbs2 := Lib.hid (blk_below (blk_drew hWs.out) hb2); have hWB2 := Lib.hid (below_step (below_drew hWB.out) hb2); clear hR hb2))
  all_goals
   have hB3 := Below.setCell (Below.setCell hWB2.out (show w.heap.size ≤ (⟨w.heap.size, 0, none⟩ : Addr).block from Nat.le_refl _) (.string (rd_T50 l J).f0)) (show w.heap.size ≤ (⟨w.heap.size, 1, none⟩ : Addr).block from Nat.le_refl _) (.int .i64 (rd_T50 l J).f1)
   have hB3' := Lib.hid hB3
   clear hB3
   go_wp2
   exact bodyPost_ret (results_cell_row rfl _ _ w.heap.size 50 #[.string (rd_T50 l J).f0, .int .i64 (rd_T50 l J).f1] (0, 0) _ rfl (blk_put (cs := #[.string (rd_T50 l J).f0, .int .i64 0]) (blk_put (cs := #[.string ⟨#[]⟩, .int .i64 0]) hbs2.out 0 _ rfl) 1 _ rfl) Tryd.underlying50 rfl (by kernel_rfl)) rfl ⟨by rw [hqj.out], hB3'.out⟩
 ·by_cases c2 : 341 < e
  ·have hq := hb c2
   have c1b := decide_eq_false c1
   have c2b := decide_eq_true c2
   clear ha hb hc c1 c2
   go_wp2_with fail
   obtain ⟨W, hW⟩ : ∃ W, W = w1.setCell ⟨w.heap.size + 1, 0, none⟩ (.int .i64 336) := ⟨_, rfl⟩
   have hWt := Lib.hid (show W.heap[w.heap.size + 1]? = some (.cells #[.int .i64 q] 22 (0, 0)) from (by rw [hW, hq.out]; exact one_setCell hb1'.out))
   have hWs := Lib.hid (show W.heap[w.heap.size]? = some (.cells #[.string ⟨#[]⟩, .int .i64 0] 50 (0, 0)) from (by rw [hW]; exact blk_far hs1'.out (by simp) _))
   have hWB := Lib.hid (show Below w.heap.size w W from (by rw [hW]; exact hB1'.out.setCell (by simp) _))
   rw [← hW]
   clear hW hs1' hb1' hB1' hcl hfr hq
   have hcl := cell_of_one hWt.out
   go_region_with ((go_at_call 19; refine (fault_table.calls l _ hl'.out).mono ?_; rintro e9 w2 ⟨v0, rfl, hR, hb2⟩; obtain ⟨Ao, co, rfl⟩ := Kd.R_slice hR; obtain ⟨ad, e120, hx0, hx1⟩ := at_T50 (Kd.R_reads' hR).2.2 J hJh.out.1 hJh.out.2; subst e120; have hcl2 := cell_of_one (blk_below (blk_drew hWt.out) hb2); have hfs0 := blk_frozen (blk_below (blk_drew hWs.out) hb2) 0; have hfs1 := blk_frozen (blk_below (blk_drew hWs.out) hb2) 1; have hcs0 := (blk_cell (blk_below (blk_drew hWs.out) hb2) 0).trans rfl; have hcs1 := (blk_cell (blk_below (blk_drew hWs.out) hb2) 1).trans rfl; have hbs2 := Lib.hid (blk_below (blk_drew hWs.out) hb2); have hWB2 := Lib.hid (below_step (below_drew hWB.out) hb2); clear hR hb2))
   all_goals
    have hB3 := Below.setCell (Below.setCell hWB2.out (show w.heap.size ≤ (⟨w.heap.size, 0, none⟩ : Addr).block from Nat.le_refl _) (.string (rd_T50 l J).f0)) (show w.heap.size ≤ (⟨w.heap.size, 1, none⟩ : Addr).block from Nat.le_refl _) (.int .i64 (rd_T50 l J).f1)
    have hB3' := Lib.hid hB3
    clear hB3
    go_wp2
    exact bodyPost_ret (results_cell_row rfl _ _ w.heap.size 50 #[.string (rd_T50 l J).f0, .int .i64 (rd_T50 l J).f1] (0, 0) _ rfl (blk_put (cs := #[.string (rd_T50 l J).f0, .int .i64 0]) (blk_put (cs := #[.string ⟨#[]⟩, .int .i64 0]) hbs2.out 0 _ rfl) 1 _ rfl) Tryd.underlying50 rfl (by kernel_rfl)) rfl ⟨by rw [hqj.out], hB3'.out⟩
  ·have hq := hc (by omega) (by omega)
   have c1b := decide_eq_false c1
   have c2b := decide_eq_false c2
   clear ha hb hc c1 c2
   go_wp2_with fail
   obtain ⟨W, hW⟩ : ∃ W, W = w1 := ⟨_, rfl⟩
   have hWt := Lib.hid (show W.heap[w.heap.size + 1]? = some (.cells #[.int .i64 q] 22 (0, 0)) from (by rw [hW, hq.out]; exact hb1'.out))
   have hWs := Lib.hid (show W.heap[w.heap.size]? = some (.cells #[.string ⟨#[]⟩, .int .i64 0] 50 (0, 0)) from (by rw [hW]; exact hs1'.out))
   have hWB := Lib.hid (show Below w.heap.size w W from (by rw [hW]; exact hB1'.out))
   rw [← hW]
   clear hW hs1' hb1' hB1' hcl hfr hq
   have hcl := cell_of_one hWt.out
   go_region_with ((go_at_call 19; refine (fault_table.calls l _ hl'.out).mono ?_; rintro e9 w2 ⟨v0, rfl, hR, hb2⟩; obtain ⟨Ao, co, rfl⟩ := Kd.R_slice hR; obtain ⟨ad, e120, hx0, hx1⟩ := at_T50 (Kd.R_reads' hR).2.2 J hJh.out.1 hJh.out.2; subst e120; have hcl2 := cell_of_one (blk_below (blk_drew hWt.out) hb2); have hfs0 := blk_frozen (blk_below (blk_drew hWs.out) hb2) 0; have hfs1 := blk_frozen (blk_below (blk_drew hWs.out) hb2) 1; have hcs0 := (blk_cell (blk_below (blk_drew hWs.out) hb2) 0).trans rfl; have hcs1 := (blk_cell (blk_below (blk_drew hWs.out) hb2) 1).trans rfl; have hbs2 := Lib.hid (blk_below (blk_drew hWs.out) hb2); have hWB2 := Lib.hid (below_step (below_drew hWB.out) hb2); clear hR hb2))
   all_goals
    have hB3 := Below.setCell (Below.setCell hWB2.out (show w.heap.size ≤ (⟨w.heap.size, 0, none⟩ : Addr).block from Nat.le_refl _) (.string (rd_T50 l J).f0)) (show w.heap.size ≤ (⟨w.heap.size, 1, none⟩ : Addr).block from Nat.le_refl _) (.int .i64 (rd_T50 l J).f1)
    have hB3' := Lib.hid hB3
    clear hB3
    go_wp2
    exact bodyPost_ret (results_cell_row rfl _ _ w.heap.size 50 #[.string (rd_T50 l J).f0, .int .i64 (rd_T50 l J).f1] (0, 0) _ rfl (blk_put (cs := #[.string (rd_T50 l J).f0, .int .i64 0]) (blk_put (cs := #[.string ⟨#[]⟩, .int .i64 0]) hbs2.out 0 _ rfl) 1 _ rfl) Tryd.underlying50 rfl (by kernel_rfl)) rfl ⟨by rw [hqj.out], hB3'.out⟩
end Go.Proofs.YtojemfdflpgfjaaDoor.Q
