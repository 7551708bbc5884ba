/- A part of the proof of the seat's laws. No condition beyond those in the theorems. -/
import Derived.Test.YtfjidcmegacibaaDoorZQ0g2
import Derived.Test.YtfjidcmegacibaaDoorZQ3g6

namespace Go.Proofs.YtfjidcmegacibaaDoor.Q
open Go.RowKit Go.Proofs.YtfjidcmegacibaaDoorW.PrintWords Go.Proofs.YtfjidcmegacibaaDoorW.PrintLast Go.Proofs.YtfjidcmegacibaaDoorW.PrintMore
set_option linter.unusedVariables false
set_option linter.unusedSimpArgs false
attribute [local go_sem] max2_int min2_int max_two min_two max_three min_three max_four min_four   
mutual
def stowageref4_Civil.j0 : Nat → Int → Bool → Option (Int × Int × Int × Int × Int × Int × Bool)
 | 0, _, _ => none
 | k + 1, x0, x11 => if x11 = true then (some (0, 0, 0, 0, 0, 0, false)) else (stowageref4_Civil.l0 k (wrap64 (Int.tdiv x0 86400)) 1970 1 0 (Int.tmod (wrap64 (Int.tdiv x0 3600)) 24) (Int.tmod (wrap64 (Int.tdiv x0 60)) 60) (Int.tmod x0 60))
def stowageref4_Civil.l0 : Nat → Int → Int → Int → Int → Int → Int → Int → Option (Int × Int × Int × Int × Int × Int × Bool)
 | 0, _, _, _, _, _, _, _ => none
 | k + 1, x5, x116000, x116001, x116002, x116003, x116004, x116005 => (stowageref4_year.f x116000).bind fun t116 => (if x5 ≥ t116 then ((stowageref4_year.f x116000).bind fun t117 => (stowageref4_Civil.l0 k (wrap64 (x5 - t117)) (wrap64 (x116000 + 1)) x116001 x116002 x116003 x116004 x116005)) else (stowageref4_Civil.l1 k x5 x116000 x116001 x116002 x116003 x116004 x116005))
def stowageref4_Civil.l1 : Nat → Int → Int → Int → Int → Int → Int → Int → Option (Int × Int × Int × Int × Int × Int × Bool)
 | 0, _, _, _, _, _, _, _ => none
 | k + 1, x5, x116000, x116001, x116002, x116003, x116004, x116005 => (stowageref4_size.f k x116000 x116001).bind fun t118 => (if x5 ≥ t118 then ((stowageref4_size.f k x116000 x116001).bind fun t119 => (stowageref4_Civil.l1 k (wrap64 (x5 - t119)) x116000 (wrap64 (x116001 + 1)) x116002 x116003 x116004 x116005)) else (some (x116000, x116001, wrap64 (x5 + 1), x116003, x116004, x116005, true)))
end
def stowageref4_Civil.f (k : Nat) (a0 : Int) : Option (Int × Int × Int × Int × Int × Int × Bool) := if a0 < 0 then (stowageref4_Civil.j0 k a0 true) else (stowageref4_Civil.j0 k a0 (decide (a0 > 253402300799)))
theorem stowageref4_Civil.mono_l : ∀ k, (∀ y0 y1, LeO (stowageref4_Civil.j0 k y0 y1) (stowageref4_Civil.j0 (k + 1) y0 y1)) ∧ (∀ y0 y1 y2 y3 y4 y5 y6, LeO (stowageref4_Civil.l0 k y0 y1 y2 y3 y4 y5 y6) (stowageref4_Civil.l0 (k + 1) y0 y1 y2 y3 y4 y5 y6)) ∧ (∀ y0 y1 y2 y3 y4 y5 y6, LeO (stowageref4_Civil.l1 k y0 y1 y2 y3 y4 y5 y6) (stowageref4_Civil.l1 (k + 1) y0 y1 y2 y3 y4 y5 y6))
 | 0 => ⟨fun _ _ r h => by simp [stowageref4_Civil.j0] at h, fun _ _ _ _ _ _ _ r h => by simp [stowageref4_Civil.l0] at h, fun _ _ _ _ _ _ _ r h => by simp [stowageref4_Civil.l1] at h⟩
 | k + 1 => by
  obtain ⟨ih0, ih1, ih2⟩ := stowageref4_Civil.mono_l k
  refine ⟨?_, ?_, ?_⟩
  ·intro y0 y1
   unfold stowageref4_Civil.j0
   repeat' first
   | (with_reducible exact ih0 _ _)
   | (with_reducible exact ih1 _ _ _ _ _ _ _)
   | (with_reducible exact ih2 _ _ _ _ _ _ _)
   | (with_reducible exact stowageref4_size.mono _ _ _)
   | (with_reducible exact LeO.refl _)
   | (with_reducible exact LeO.none _)
   | (with_reducible refine LeO.ite ?_ ?_)
   | (with_reducible refine LeO.bind ?_ (fun _ => ?_))
   | exact ih0 _ _
   | exact ih1 _ _ _ _ _ _ _
   | exact ih2 _ _ _ _ _ _ _
   | exact stowageref4_size.mono _ _ _
   | exact LeO.none _
   | refine LeO.ite ?_ ?_
   | refine LeO.bind ?_ (fun _ => ?_)
  ·intro y0 y1 y2 y3 y4 y5 y6
   unfold stowageref4_Civil.l0
   repeat' first
   | (with_reducible exact ih0 _ _)
   | (with_reducible exact ih1 _ _ _ _ _ _ _)
   | (with_reducible exact ih2 _ _ _ _ _ _ _)
   | (with_reducible exact stowageref4_size.mono _ _ _)
   | (with_reducible exact LeO.refl _)
   | (with_reducible exact LeO.none _)
   | (with_reducible refine LeO.ite ?_ ?_)
   | (with_reducible refine LeO.bind ?_ (fun _ => ?_))
   | exact ih0 _ _
   | exact ih1 _ _ _ _ _ _ _
   | exact ih2 _ _ _ _ _ _ _
   | exact stowageref4_size.mono _ _ _
   | exact LeO.none _
   | refine LeO.ite ?_ ?_
   | refine LeO.bind ?_ (fun _ => ?_)
  ·intro y0 y1 y2 y3 y4 y5 y6
   unfold stowageref4_Civil.l1
   repeat' first
   | (with_reducible exact ih0 _ _)
   | (with_reducible exact ih1 _ _ _ _ _ _ _)
   | (with_reducible exact ih2 _ _ _ _ _ _ _)
   | (with_reducible exact stowageref4_size.mono _ _ _)
   | (with_reducible exact LeO.refl _)
   | (with_reducible exact LeO.none _)
   | (with_reducible refine LeO.ite ?_ ?_)
   | (with_reducible refine LeO.bind ?_ (fun _ => ?_))
   | exact ih0 _ _
   | exact ih1 _ _ _ _ _ _ _
   | exact ih2 _ _ _ _ _ _ _
   | exact stowageref4_size.mono _ _ _
   | exact LeO.none _
   | refine LeO.ite ?_ ?_
   | refine LeO.bind ?_ (fun _ => ?_)
theorem stowageref4_Civil.mono : ∀ a0 k, LeO (stowageref4_Civil.f k a0) (stowageref4_Civil.f (k + 1) a0) := by
 intro a0 k
 obtain ⟨ih0, ih1, ih2⟩ := stowageref4_Civil.mono_l k
 unfold stowageref4_Civil.f
 repeat' first
   | (with_reducible exact ih0 _ _)
   | (with_reducible exact ih1 _ _ _ _ _ _ _)
   | (with_reducible exact ih2 _ _ _ _ _ _ _)
   | (with_reducible exact stowageref4_size.mono _ _ _)
   | (with_reducible exact LeO.refl _)
   | (with_reducible exact LeO.none _)
   | (with_reducible refine LeO.ite ?_ ?_)
   | (with_reducible refine LeO.bind ?_ (fun _ => ?_))
   | exact ih0 _ _
   | exact ih1 _ _ _ _ _ _ _
   | exact ih2 _ _ _ _ _ _ _
   | exact stowageref4_size.mono _ _ _
   | exact LeO.none _
   | refine LeO.ite ?_ ?_
   | refine LeO.bind ?_ (fun _ => ?_)
set_option maxHeartbeats 8000000 in
set_option maxRecDepth 100000 in
theorem stowageref4_Civil.calls (k : Nat) (a0 : Int) (r1 : Int) (r2 : Int) (r3 : Int) (r4 : Int) (r5 : Int) (r6 : Int) (r7 : Bool) (w : World) (h : stowageref4_Civil.f k a0 = some (r1, r2, r3, r4, r5, r6, r7)) :
  Calls Tryd.prog 38 #[.int .i64 a0] w fun e w' => e = .returned (.tuple #[.agg #[.int .i64 r1, .int .i64 r2, .int .i64 r3, .int .i64 r4, .int .i64 r5, .int .i64 r6], .bool r7]) ∧ Below w.heap.size w w' := by
 have hu85 := Tryd.underlying85
 have HB := Aside0.mk (Below.refl w.heap.size w)
 unfold stowageref4_Civil.f at h
 have H := h
 clear h
 have HC2 := Aside0.mk H
 clear H
 go_enter Tryd.func38, Tryd.ntmps38
 go_upto_region 1 with (first | ((with_reducible refine gate_dst (N := 2) rfl ?_); refine box_event ?hg (N := 2) ?hd (cs := #[.int .i64 0, .int .i64 0, .int .i64 0, .int .i64 0, .int .i64 0, .int .i64 0]) (t := 85) ?hr ?_; (case hd => rfl); (case hg => rfl); (case hr => first | (go_simp; done) | (go_simp; rfl)); intro gb114 hg w3 hbox hb; have n0_ := Aside0.mk (below_step (by repeat (first | (with_reducible first | exact HB.out | apply below_alloc | apply pw_below_drewN | apply below_drew1) | exact HB.out)) hb); have n1_ := Aside0.mk (hbox); have n2_ := Aside0.mk ((by rw [hg]; exact (below_size (by repeat (first | (with_reducible first | exact HB.out | apply below_alloc | apply pw_below_drewN | apply below_drew1) | exact HB.out))) : w.heap.size ≤ gb114)); have n3_ := Aside0.mk ((by rw [hg]; exact (below_size (by repeat (first | (with_reducible first | exact HB.out | apply below_alloc | apply pw_below_drewN | apply below_drew1) | exact HB.out))) : w.heap.size ≤ gb114)); clear HB; have HB := n0_; have BK114 := n1_; have GW114 := n2_; have GE114 := n3_; clear n0_ n1_ n2_ n3_; clear hb hbox hg))
 (try simp only [Act.put, List.setIfInBounds_toArray, List.set_cons_zero, List.set_cons_succ])
 go_cut [11] (fun v11 wc => ∃ (kq : Nat) (x11_1 : Bool), v11 = .bool x11_1 ∧ Aside0 (stowageref4_Civil.j0 kq a0 x11_1 = some (r1, r2, r3, r4, r5, r6, r7)) ∧ Aside0 (kq ≤ k) ∧ Aside0 (wc.heap[gb114]? = some (.cells #[.int .i64 0, .int .i64 0, .int .i64 0, .int .i64 0, .int .i64 0, .int .i64 0] 85 (0, 0))) ∧ Aside0 (Below w.heap.size w wc))
 case first =>
  have H := HC2.out
  clear HC2
  replace H := itO H
  rcases H with ⟨c4, H⟩ | ⟨c4, H⟩
  ·skip
   have c4b0 : decide (a0 < 0) = true := decide_eq_true c4
   clear c4
   (first | rw [c4b0] | (simp only [i64_w, i32_w]; rw [c4b0]) | skip)
   have H' := Aside0.mk H
   clear H
   go_wp2
   go_meet
   case rel => exact ⟨_, (true), (by first | rfl | (simp; done) | (simp [*]; done)), H', ⟨by first | omega | exact Nat.le_refl _⟩, ⟨by (with_reducible repeat (first | refine blk_drewN ?_ _ | refine blk_drew ?_ | refine blk_alloc ?_ _)); exact BK114.out⟩, ⟨by repeat (first | (with_reducible first | exact HB.out | apply below_alloc | apply pw_below_drewN | apply below_drew1 | refine below_set ?_ GE114.out) | exact HB.out)⟩⟩
  ·skip
   have c4b0 : decide (a0 < 0) = false := decide_eq_false c4
   clear c4
   (first | rw [c4b0] | (simp only [i64_w, i32_w]; rw [c4b0]) | skip)
   have H' := Aside0.mk H
   clear H
   go_wp2
   go_meet
   case rel => exact ⟨_, (decide (a0 > 253402300799)), (by first | rfl | (simp; done) | (simp [*]; done)), H', ⟨by first | omega | exact Nat.le_refl _⟩, ⟨by (with_reducible repeat (first | refine blk_drewN ?_ _ | refine blk_drew ?_ | refine blk_alloc ?_ _)); exact BK114.out⟩, ⟨by repeat (first | (with_reducible first | exact HB.out | apply below_alloc | apply pw_below_drewN | apply below_drew1 | refine below_set ?_ GE114.out) | exact HB.out)⟩⟩
 case rest =>
  clear HC2
  try clear p2
  try clear c3
  try clear c4
  try clear c4b0
  obtain ⟨kq, x11_1, rfl, HA, HJ1, BK114, HB⟩ := hcut
  cases kq with
  | zero => exact absurd HA.out (by simp [stowageref4_Civil.j0])
  | succ kj1 =>
   have H := HA.out
   clear HA
   simp only [stowageref4_Civil.j0] at H
   by_cases c5 : x11_1 = true
   ·subst c5
    replace H := itT H
    simp only [Option.some.injEq, Prod.mk.injEq] at H
    obtain ⟨rfl, rfl, rfl, rfl, rfl, rfl, rfl⟩ := H
    have hcz6_0 : wc.cell? ⟨gb114, 0, none⟩ = some (.int .i64 0) := (blk_cell BK114.out 0).trans rfl
    have hcz6_1 : wc.cell? ⟨gb114, 1, none⟩ = some (.int .i64 0) := (blk_cell BK114.out 1).trans rfl
    have hcz6_2 : wc.cell? ⟨gb114, 2, none⟩ = some (.int .i64 0) := (blk_cell BK114.out 2).trans rfl
    have hcz6_3 : wc.cell? ⟨gb114, 3, none⟩ = some (.int .i64 0) := (blk_cell BK114.out 3).trans rfl
    have hcz6_4 : wc.cell? ⟨gb114, 4, none⟩ = some (.int .i64 0) := (blk_cell BK114.out 4).trans rfl
    have hcz6_5 : wc.cell? ⟨gb114, 5, none⟩ = some (.int .i64 0) := (blk_cell BK114.out 5).trans rfl
    have hfz6_0 := blk_frozen BK114.out 0
    have hfz6_1 := blk_frozen BK114.out 1
    have hfz6_2 := blk_frozen BK114.out 2
    have hfz6_3 := blk_frozen BK114.out 3
    have hfz6_4 := blk_frozen BK114.out 4
    have hfz6_5 := blk_frozen BK114.out 5
    go_wp2
    refine bodyPost_ret (results_ct rfl _ _ gb114 85 #[.int .i64 0, .int .i64 0, .int .i64 0, .int .i64 0, .int .i64 0, .int .i64 0] (0, 0) _ rfl (by (with_reducible repeat (first | refine blk_drewN ?_ _ | refine blk_drew ?_ | refine blk_alloc ?_ _)); refine blk_put (cs := #[.int .i64 0, .int .i64 0, .int .i64 0, .int .i64 0, .int .i64 0, .int .i64 0]) ?_ 5 _ rfl; (with_reducible repeat (first | refine blk_drewN ?_ _ | refine blk_drew ?_ | refine blk_alloc ?_ _)); refine blk_put (cs := #[.int .i64 0, .int .i64 0, .int .i64 0, .int .i64 0, .int .i64 0, .int .i64 0]) ?_ 4 _ rfl; (with_reducible repeat (first | refine blk_drewN ?_ _ | refine blk_drew ?_ | refine blk_alloc ?_ _)); refine blk_put (cs := #[.int .i64 0, .int .i64 0, .int .i64 0, .int .i64 0, .int .i64 0, .int .i64 0]) ?_ 3 _ rfl; (with_reducible repeat (first | refine blk_drewN ?_ _ | refine blk_drew ?_ | refine blk_alloc ?_ _)); refine blk_put (cs := #[.int .i64 0, .int .i64 0, .int .i64 0, .int .i64 0, .int .i64 0, .int .i64 0]) ?_ 2 _ rfl; (with_reducible repeat (first | refine blk_drewN ?_ _ | refine blk_drew ?_ | refine blk_alloc ?_ _)); refine blk_put (cs := #[.int .i64 0, .int .i64 0, .int .i64 0, .int .i64 0, .int .i64 0, .int .i64 0]) ?_ 1 _ rfl; (with_reducible repeat (first | refine blk_drewN ?_ _ | refine blk_drew ?_ | refine blk_alloc ?_ _)); refine blk_put (cs := #[.int .i64 0, .int .i64 0, .int .i64 0, .int .i64 0, .int .i64 0, .int .i64 0]) ?_ 0 _ rfl; (with_reducible repeat (first | refine blk_drewN ?_ _ | refine blk_drew ?_ | refine blk_alloc ?_ _)); exact BK114.out) Tryd.underlying85 rfl (by kernel_rfl)) rfl ?_
    exact ⟨by first | rfl | (simp [errW_none, errW_some] <;> rfl) | (simp [*, errW_none, errW_some] <;> rfl), by repeat (first | (with_reducible first | exact HB.out | apply below_alloc | apply pw_below_drewN | apply below_drew1 | refine below_set ?_ GE114.out) | exact HB.out)⟩
   ·replace c5 := Bool.eq_false_iff.mpr c5
    subst c5
    replace H := itF H
    have H' := Aside0.mk H
    clear H
    go_wp2_with (first | ((with_reducible refine gate_dst (N := 4) rfl ?_); refine box_event ?hg (N := 4) ?hd (cs := #[.int .i64 0, .int .i64 0, .int .i64 0, .int .i64 0, .int .i64 0, .int .i64 0]) (t := 85) ?hr ?_; (case hd => rfl); (case hg => rfl); (case hr => first | (go_simp; done) | (go_simp; rfl)); intro gb115 hg w7 hbox hb; have n0_ := Aside0.mk (blk_below (g := gb114) (o := .cells #[.int .i64 0, .int .i64 0, .int .i64 0, .int .i64 0, .int .i64 0, .int .i64 0] 85 (0, 0)) (by (with_reducible repeat (first | refine blk_drewN ?_ _ | refine blk_drew ?_ | refine blk_alloc ?_ _)); exact BK114.out) hb); have n1_ := Aside0.mk (below_step (by repeat (first | (with_reducible first | exact HB.out | apply below_alloc | apply pw_below_drewN | apply below_drew1 | refine below_set ?_ GE114.out) | exact HB.out)) hb); have n2_ := Aside0.mk (hbox); have n3_ := Aside0.mk ((by rw [hg]; exact (below_size (by repeat (first | (with_reducible first | exact HB.out | apply below_alloc | apply pw_below_drewN | apply below_drew1 | refine below_set ?_ GE114.out) | exact HB.out))) : w.heap.size ≤ gb115)); have n4_ := Aside0.mk ((by rw [hg]; exact (below_size (by repeat (first | (with_reducible first | exact HB.out | apply below_alloc | apply pw_below_drewN | apply below_drew1 | refine below_set ?_ GE114.out) | exact HB.out))) : w.heap.size ≤ gb115)); have n5_ := Aside0.mk ((by rw [hg]; exact Nat.ne_of_lt (blk_lt (g := gb114) (o := .cells #[.int .i64 0, .int .i64 0, .int .i64 0, .int .i64 0, .int .i64 0, .int .i64 0] 85 (0, 0)) (by (with_reducible repeat (first | refine blk_drewN ?_ _ | refine blk_drew ?_ | refine blk_alloc ?_ _)); exact BK114.out)) : gb114 ≠ gb115)); have n6_ := Aside0.mk ((by rw [hg]; exact Nat.ne_of_gt (blk_lt (g := gb114) (o := .cells #[.int .i64 0, .int .i64 0, .int .i64 0, .int .i64 0, .int .i64 0, .int .i64 0] 85 (0, 0)) (by (with_reducible repeat (first | refine blk_drewN ?_ _ | refine blk_drew ?_ | refine blk_alloc ?_ _)); exact BK114.out)) : gb115 ≠ gb114)); clear BK114; clear HB; have BK114 := n0_; have HB := n1_; have BK115 := n2_; have GW115 := n3_; have GE115 := n4_; have NB114_115 := n5_; have NB115_114 := n6_; clear n0_ n1_ n2_ n3_ n4_ n5_ n6_; clear hb hbox hg; have hnb8 := NB115_114.out; have hnc8 := NB114_115.out; have hcz9_0 : w7.cell? ⟨gb115, 0, none⟩ = some (.int .i64 0) := (blk_cell BK115.out 0).trans rfl; have hcz9_1 : w7.cell? ⟨gb115, 1, none⟩ = some (.int .i64 0) := (blk_cell BK115.out 1).trans rfl; have hcz9_2 : w7.cell? ⟨gb115, 2, none⟩ = some (.int .i64 0) := (blk_cell BK115.out 2).trans rfl; have hcz9_3 : w7.cell? ⟨gb115, 3, none⟩ = some (.int .i64 0) := (blk_cell BK115.out 3).trans rfl; have hcz9_4 : w7.cell? ⟨gb115, 4, none⟩ = some (.int .i64 0) := (blk_cell BK115.out 4).trans rfl; have hcz9_5 : w7.cell? ⟨gb115, 5, none⟩ = some (.int .i64 0) := (blk_cell BK115.out 5).trans rfl; have hfz9_0 := blk_frozen BK115.out 0; have hfz9_1 := blk_frozen BK115.out 1; have hfz9_2 := blk_frozen BK115.out 2; have hfz9_3 := blk_frozen BK115.out 3; have hfz9_4 := blk_frozen BK115.out 4; have hfz9_5 := blk_frozen BK115.out 5))
    go_loopg [5] kj1 (fun kq v5 w' => ∃ (x5_2 : Int) (x116000_2 : Int), v5 = .int .i64 x5_2 ∧ Aside0 (stowageref4_Civil.l0 kq x5_2 x116000_2 1 0 (Int.tmod (wrap64 (Int.tdiv a0 3600)) 24) (Int.tmod (wrap64 (Int.tdiv a0 60)) 60) (Int.tmod a0 60) = some (r1, r2, r3, r4, r5, r6, r7)) ∧ Aside0 (kq ≤ kj1) ∧ Aside0 (w'.heap[gb114]? = some (.cells #[.int .i64 0, .int .i64 0, .int .i64 0, .int .i64 0, .int .i64 0, .int .i64 0] 85 (0, 0))) ∧ Aside0 (w'.heap[gb115]? = some (.cells #[.int .i64 x116000_2, .int .i64 1, .int .i64 0, .int .i64 (Int.tmod (wrap64 (Int.tdiv a0 3600)) 24), .int .i64 (Int.tmod (wrap64 (Int.tdiv a0 60)) 60), .int .i64 (Int.tmod a0 60)] 85 (0, 0))) ∧ Aside0 (Below w.heap.size w w'))
    case atStart => exact ⟨(wrap64 (Int.tdiv a0 86400)), (1970), (by first | rfl | (simp; done) | (simp [*]; done)), H', ⟨Nat.le_refl _⟩, ⟨by (with_reducible repeat (first | refine blk_drewN ?_ _ | refine blk_drew ?_ | refine blk_alloc ?_ _)); refine blk_far ?_ NB114_115.out _; (with_reducible repeat (first | refine blk_drewN ?_ _ | refine blk_drew ?_ | refine blk_alloc ?_ _)); refine blk_far ?_ NB114_115.out _; (with_reducible repeat (first | refine blk_drewN ?_ _ | refine blk_drew ?_ | refine blk_alloc ?_ _)); refine blk_far ?_ NB114_115.out _; (with_reducible repeat (first | refine blk_drewN ?_ _ | refine blk_drew ?_ | refine blk_alloc ?_ _)); refine blk_far ?_ NB114_115.out _; (with_reducible repeat (first | refine blk_drewN ?_ _ | refine blk_drew ?_ | refine blk_alloc ?_ _)); refine blk_far ?_ NB114_115.out _; (with_reducible repeat (first | refine blk_drewN ?_ _ | refine blk_drew ?_ | refine blk_alloc ?_ _)); refine blk_far ?_ NB114_115.out _; (with_reducible repeat (first | refine blk_drewN ?_ _ | refine blk_drew ?_ | refine blk_alloc ?_ _)); exact BK114.out⟩, ⟨by (with_reducible repeat (first | refine blk_drewN ?_ _ | refine blk_drew ?_ | refine blk_alloc ?_ _)); refine blk_put (cs := #[.int .i64 1970, .int .i64 1, .int .i64 0, .int .i64 (Int.tmod (wrap64 (Int.tdiv a0 3600)) 24), .int .i64 (Int.tmod (wrap64 (Int.tdiv a0 60)) 60), .int .i64 0]) ?_ 5 _ rfl; (with_reducible repeat (first | refine blk_drewN ?_ _ | refine blk_drew ?_ | refine blk_alloc ?_ _)); refine blk_put (cs := #[.int .i64 1970, .int .i64 1, .int .i64 0, .int .i64 (Int.tmod (wrap64 (Int.tdiv a0 3600)) 24), .int .i64 0, .int .i64 0]) ?_ 4 _ rfl; (with_reducible repeat (first | refine blk_drewN ?_ _ | refine blk_drew ?_ | refine blk_alloc ?_ _)); refine blk_put (cs := #[.int .i64 1970, .int .i64 1, .int .i64 0, .int .i64 0, .int .i64 0, .int .i64 0]) ?_ 3 _ rfl; (with_reducible repeat (first | refine blk_drewN ?_ _ | refine blk_drew ?_ | refine blk_alloc ?_ _)); refine blk_put (cs := #[.int .i64 1970, .int .i64 1, .int .i64 0, .int .i64 0, .int .i64 0, .int .i64 0]) ?_ 2 _ rfl; (with_reducible repeat (first | refine blk_drewN ?_ _ | refine blk_drew ?_ | refine blk_alloc ?_ _)); refine blk_put (cs := #[.int .i64 1970, .int .i64 0, .int .i64 0, .int .i64 0, .int .i64 0, .int .i64 0]) ?_ 1 _ rfl; (with_reducible repeat (first | refine blk_drewN ?_ _ | refine blk_drew ?_ | refine blk_alloc ?_ _)); refine blk_put (cs := #[.int .i64 0, .int .i64 0, .int .i64 0, .int .i64 0, .int .i64 0, .int .i64 0]) ?_ 0 _ rfl; (with_reducible repeat (first | refine blk_drewN ?_ _ | refine blk_drew ?_ | refine blk_alloc ?_ _)); exact BK115.out⟩, ⟨by repeat (first | (with_reducible first | exact HB.out | apply below_alloc | apply pw_below_drewN | apply below_drew1 | refine below_set ?_ GE114.out | refine below_set ?_ GE115.out) | exact HB.out)⟩⟩
    case round =>
     clear H'
     try clear p2
     try clear c3
     try clear c4
     try clear c4b0
     try clear c5
     try clear p6
     try clear c8
     try clear hcz6_0
     try clear hcz6_1
     try clear hcz6_2
     try clear hcz6_3
     try clear hcz6_4
     try clear hcz6_5
     try clear hcz9_0
     try clear hcz9_1
     try clear hcz9_2
     try clear hcz9_3
     try clear hcz9_4
     try clear hcz9_5
     try clear hfz6_0
     try clear hfz6_1
     try clear hfz6_2
     try clear hfz6_3
     try clear hfz6_4
     try clear hfz6_5
     try clear hfz9_0
     try clear hfz9_1
     try clear hfz9_2
     try clear hfz9_3
     try clear hfz9_4
     try clear hfz9_5
     try clear p2
     obtain ⟨x5_2, x116000_2, rfl, HA, HK2, BK114, BK115, HB⟩ := hrel
     cases gk with
     | zero => exact absurd HA.out (by simp [stowageref4_Civil.l0])
     | succ k2 =>
      have H := HA.out
      clear HA
      simp only [stowageref4_Civil.l0] at H
      replace H := bndO H
      obtain ⟨t116, A100, H⟩ := H
      have A10 := Aside0.mk A100
      clear A100
      replace H := itO H
      rcases H with ⟨c11, H⟩ | ⟨c11, H⟩
      ·skip
       have c11b0 : decide (t116 ≤ x5_2) = true := decide_eq_true c11
       clear c11
       replace H := bndO H
       obtain ⟨t117, A120, H⟩ := H
       have A12 := Aside0.mk A120
       clear A120
       have H' := Aside0.mk H
       clear H
       have hnb13 := NB115_114.out
       have hnc13 := NB114_115.out
       have hcz14_0 : wr.cell? ⟨gb115, 0, none⟩ = some (.int .i64 x116000_2) := (blk_cell BK115.out 0).trans rfl
       have hcz14_1 : wr.cell? ⟨gb115, 1, none⟩ = some (.int .i64 1) := (blk_cell BK115.out 1).trans rfl
       have hcz14_2 : wr.cell? ⟨gb115, 2, none⟩ = some (.int .i64 0) := (blk_cell BK115.out 2).trans rfl
       have hcz14_3 : wr.cell? ⟨gb115, 3, none⟩ = some (.int .i64 (Int.tmod (wrap64 (Int.tdiv a0 3600)) 24)) := (blk_cell BK115.out 3).trans rfl
       have hcz14_4 : wr.cell? ⟨gb115, 4, none⟩ = some (.int .i64 (Int.tmod (wrap64 (Int.tdiv a0 60)) 60)) := (blk_cell BK115.out 4).trans rfl
       have hcz14_5 : wr.cell? ⟨gb115, 5, none⟩ = some (.int .i64 (Int.tmod a0 60)) := (blk_cell BK115.out 5).trans rfl
       have hfz14_0 := blk_frozen BK115.out 0
       have hfz14_1 := blk_frozen BK115.out 1
       have hfz14_2 := blk_frozen BK115.out 2
       have hfz14_3 := blk_frozen BK115.out 3
       have hfz14_4 := blk_frozen BK115.out 4
       have hfz14_5 := blk_frozen BK115.out 5
       go_wp2_with (first | ((with_reducible refine gate_callee (f := 63) rfl ?_); refine goesL_ (some 27) rfl rfl Tryd.func63 (by kernel_rfl) rfl #[.int .i64 x116000_2] rfl (by (try simp only [List.map_toArray, List.map_cons, List.map_nil]); first | done | rfl | (simp only [List.length_drop, List.length_take]; rfl)) ?_; (with_reducible refine (stowageref4_year.calls x116000_2 t116 _ A10.out).mono ?_); rintro e w' ⟨rfl, ⟨nd, rfl⟩⟩; refine ⟨_, rfl, ?_⟩; (try (rw [drewN_self wr]; generalize hq_ : World.drewN wr _ = wr; have n0_ : Aside0 (wr.heap[gb114]? = some (.cells #[.int .i64 0, .int .i64 0, .int .i64 0, .int .i64 0, .int .i64 0, .int .i64 0] 85 (0, 0))) := ⟨by rw [← hq_]; exact (by (with_reducible repeat (first | refine blk_drewN ?_ _ | refine blk_drew ?_ | refine blk_alloc ?_ _)); exact BK114.out)⟩; have n1_ : Aside0 (wr.heap[gb115]? = some (.cells #[.int .i64 x116000_2, .int .i64 1, .int .i64 0, .int .i64 (Int.tmod (wrap64 (Int.tdiv a0 3600)) 24), .int .i64 (Int.tmod (wrap64 (Int.tdiv a0 60)) 60), .int .i64 (Int.tmod a0 60)] 85 (0, 0))) := ⟨by rw [← hq_]; exact (by (with_reducible repeat (first | refine blk_drewN ?_ _ | refine blk_drew ?_ | refine blk_alloc ?_ _)); exact BK115.out)⟩; have n2_ : Aside0 (Below w.heap.size w wr) := ⟨by rw [← hq_]; exact (by repeat (first | (with_reducible first | exact HB.out | apply below_alloc | apply pw_below_drewN | apply below_drew1 | refine below_set ?_ GE114.out | refine below_set ?_ GE115.out) | exact HB.out))⟩; clear BK114 BK115 HB hq_; have BK114 := n0_; have BK115 := n1_; have HB := n2_; clear n0_ n1_ n2_)); (try (have hcu114_0 : wr.cell? ⟨gb114, 0, none⟩ = some (.int .i64 0) := (blk_cell BK114.out 0).trans rfl)); (try (have hfu114_0 := blk_frozen BK114.out 0)); (try (have hcu114_1 : wr.cell? ⟨gb114, 1, none⟩ = some (.int .i64 0) := (blk_cell BK114.out 1).trans rfl)); (try (have hfu114_1 := blk_frozen BK114.out 1)); (try (have hcu114_2 : wr.cell? ⟨gb114, 2, none⟩ = some (.int .i64 0) := (blk_cell BK114.out 2).trans rfl)); (try (have hfu114_2 := blk_frozen BK114.out 2)); (try (have hcu114_3 : wr.cell? ⟨gb114, 3, none⟩ = some (.int .i64 0) := (blk_cell BK114.out 3).trans rfl)); (try (have hfu114_3 := blk_frozen BK114.out 3)); (try (have hcu114_4 : wr.cell? ⟨gb114, 4, none⟩ = some (.int .i64 0) := (blk_cell BK114.out 4).trans rfl)); (try (have hfu114_4 := blk_frozen BK114.out 4)); (try (have hcu114_5 : wr.cell? ⟨gb114, 5, none⟩ = some (.int .i64 0) := (blk_cell BK114.out 5).trans rfl)); (try (have hfu114_5 := blk_frozen BK114.out 5)); (try (have hcu115_0 : wr.cell? ⟨gb115, 0, none⟩ = some (.int .i64 x116000_2) := (blk_cell BK115.out 0).trans rfl)); (try (have hfu115_0 := blk_frozen BK115.out 0)); (try (have hcu115_1 : wr.cell? ⟨gb115, 1, none⟩ = some (.int .i64 1) := (blk_cell BK115.out 1).trans rfl)); (try (have hfu115_1 := blk_frozen BK115.out 1)); (try (have hcu115_2 : wr.cell? ⟨gb115, 2, none⟩ = some (.int .i64 0) := (blk_cell BK115.out 2).trans rfl)); (try (have hfu115_2 := blk_frozen BK115.out 2)); (try (have hcu115_3 : wr.cell? ⟨gb115, 3, none⟩ = some (.int .i64 (Int.tmod (wrap64 (Int.tdiv a0 3600)) 24)) := (blk_cell BK115.out 3).trans rfl)); (try (have hfu115_3 := blk_frozen BK115.out 3)); (try (have hcu115_4 : wr.cell? ⟨gb115, 4, none⟩ = some (.int .i64 (Int.tmod (wrap64 (Int.tdiv a0 60)) 60)) := (blk_cell BK115.out 4).trans rfl)); (try (have hfu115_4 := blk_frozen BK115.out 4)); (try (have hcu115_5 : wr.cell? ⟨gb115, 5, none⟩ = some (.int .i64 (Int.tmod a0 60)) := (blk_cell BK115.out 5).trans rfl)); (try (have hfu115_5 := blk_frozen BK115.out 5)); (try clear A10)) | ((with_reducible refine gate_callee (f := 63) rfl ?_); refine goesL_ (some 32) rfl rfl Tryd.func63 (by kernel_rfl) rfl #[.int .i64 x116000_2] rfl (by (try simp only [List.map_toArray, List.map_cons, List.map_nil]); first | done | rfl | (simp only [List.length_drop, List.length_take]; rfl)) ?_; (with_reducible refine (stowageref4_year.calls x116000_2 t117 _ A12.out).mono ?_); rintro e w' ⟨rfl, ⟨nd, rfl⟩⟩; refine ⟨_, rfl, ?_⟩; (try (rw [drewN_self wr]; generalize hq_ : World.drewN wr _ = wr; have n0_ : Aside0 (wr.heap[gb114]? = some (.cells #[.int .i64 0, .int .i64 0, .int .i64 0, .int .i64 0, .int .i64 0, .int .i64 0] 85 (0, 0))) := ⟨by rw [← hq_]; exact (by (with_reducible repeat (first | refine blk_drewN ?_ _ | refine blk_drew ?_ | refine blk_alloc ?_ _)); exact BK114.out)⟩; have n1_ : Aside0 (wr.heap[gb115]? = some (.cells #[.int .i64 x116000_2, .int .i64 1, .int .i64 0, .int .i64 (Int.tmod (wrap64 (Int.tdiv a0 3600)) 24), .int .i64 (Int.tmod (wrap64 (Int.tdiv a0 60)) 60), .int .i64 (Int.tmod a0 60)] 85 (0, 0))) := ⟨by rw [← hq_]; exact (by (with_reducible repeat (first | refine blk_drewN ?_ _ | refine blk_drew ?_ | refine blk_alloc ?_ _)); exact BK115.out)⟩; have n2_ : Aside0 (Below w.heap.size w wr) := ⟨by rw [← hq_]; exact (by repeat (first | (with_reducible first | exact HB.out | apply below_alloc | apply pw_below_drewN | apply below_drew1 | refine below_set ?_ GE114.out | refine below_set ?_ GE115.out) | exact HB.out))⟩; clear BK114 BK115 HB hq_; have BK114 := n0_; have BK115 := n1_; have HB := n2_; clear n0_ n1_ n2_)); (try (have hcu114_0 : wr.cell? ⟨gb114, 0, none⟩ = some (.int .i64 0) := (blk_cell BK114.out 0).trans rfl)); (try (have hfu114_0 := blk_frozen BK114.out 0)); (try (have hcu114_1 : wr.cell? ⟨gb114, 1, none⟩ = some (.int .i64 0) := (blk_cell BK114.out 1).trans rfl)); (try (have hfu114_1 := blk_frozen BK114.out 1)); (try (have hcu114_2 : wr.cell? ⟨gb114, 2, none⟩ = some (.int .i64 0) := (blk_cell BK114.out 2).trans rfl)); (try (have hfu114_2 := blk_frozen BK114.out 2)); (try (have hcu114_3 : wr.cell? ⟨gb114, 3, none⟩ = some (.int .i64 0) := (blk_cell BK114.out 3).trans rfl)); (try (have hfu114_3 := blk_frozen BK114.out 3)); (try (have hcu114_4 : wr.cell? ⟨gb114, 4, none⟩ = some (.int .i64 0) := (blk_cell BK114.out 4).trans rfl)); (try (have hfu114_4 := blk_frozen BK114.out 4)); (try (have hcu114_5 : wr.cell? ⟨gb114, 5, none⟩ = some (.int .i64 0) := (blk_cell BK114.out 5).trans rfl)); (try (have hfu114_5 := blk_frozen BK114.out 5)); (try (have hcu115_0 : wr.cell? ⟨gb115, 0, none⟩ = some (.int .i64 x116000_2) := (blk_cell BK115.out 0).trans rfl)); (try (have hfu115_0 := blk_frozen BK115.out 0)); (try (have hcu115_1 : wr.cell? ⟨gb115, 1, none⟩ = some (.int .i64 1) := (blk_cell BK115.out 1).trans rfl)); (try (have hfu115_1 := blk_frozen BK115.out 1)); (try (have hcu115_2 : wr.cell? ⟨gb115, 2, none⟩ = some (.int .i64 0) := (blk_cell BK115.out 2).trans rfl)); (try (have hfu115_2 := blk_frozen BK115.out 2)); (try (have hcu115_3 : wr.cell? ⟨gb115, 3, none⟩ = some (.int .i64 (Int.tmod (wrap64 (Int.tdiv a0 3600)) 24)) := (blk_cell BK115.out 3).trans rfl)); (try (have hfu115_3 := blk_frozen BK115.out 3)); (try (have hcu115_4 : wr.cell? ⟨gb115, 4, none⟩ = some (.int .i64 (Int.tmod (wrap64 (Int.tdiv a0 60)) 60)) := (blk_cell BK115.out 4).trans rfl)); (try (have hfu115_4 := blk_frozen BK115.out 4)); (try (have hcu115_5 : wr.cell? ⟨gb115, 5, none⟩ = some (.int .i64 (Int.tmod a0 60)) := (blk_cell BK115.out 5).trans rfl)); (try (have hfu115_5 := blk_frozen BK115.out 5)); (try clear A12)))
       go_roundg k2
       case measure => have := HJ1.out; have := HK2.out; omega
       case rel => exact ⟨(wrap64 (x5_2 - t117)), (wrap64 (x116000_2 + 1)), (by first | rfl | (simp; done) | (simp [*]; done)), H', ⟨by have := HJ1.out; have := HK2.out; omega⟩, ⟨by (with_reducible repeat (first | refine blk_drewN ?_ _ | refine blk_drew ?_ | refine blk_alloc ?_ _)); refine blk_far ?_ NB114_115.out _; (with_reducible repeat (first | refine blk_drewN ?_ _ | refine blk_drew ?_ | refine blk_alloc ?_ _)); exact BK114.out⟩, ⟨by (with_reducible repeat (first | refine blk_drewN ?_ _ | refine blk_drew ?_ | refine blk_alloc ?_ _)); refine blk_put (cs := #[.int .i64 x116000_2, .int .i64 1, .int .i64 0, .int .i64 (Int.tmod (wrap64 (Int.tdiv a0 3600)) 24), .int .i64 (Int.tmod (wrap64 (Int.tdiv a0 60)) 60), .int .i64 (Int.tmod a0 60)]) ?_ 0 _ rfl; (with_reducible repeat (first | refine blk_drewN ?_ _ | refine blk_drew ?_ | refine blk_alloc ?_ _)); exact BK115.out⟩, ⟨by repeat (first | (with_reducible first | exact HB.out | apply below_alloc | apply pw_below_drewN | apply below_drew1 | refine below_set ?_ GE114.out | refine below_set ?_ GE115.out) | exact HB.out)⟩⟩
      ·skip
       have c11b0 : decide (t116 ≤ x5_2) = false := decide_eq_false c11
       clear c11
       have H' := Aside0.mk H
       clear H
       have hnb15 := NB115_114.out
       have hnc15 := NB114_115.out
       have hcz16_0 : wr.cell? ⟨gb115, 0, none⟩ = some (.int .i64 x116000_2) := (blk_cell BK115.out 0).trans rfl
       have hcz16_1 : wr.cell? ⟨gb115, 1, none⟩ = some (.int .i64 1) := (blk_cell BK115.out 1).trans rfl
       have hcz16_2 : wr.cell? ⟨gb115, 2, none⟩ = some (.int .i64 0) := (blk_cell BK115.out 2).trans rfl
       have hcz16_3 : wr.cell? ⟨gb115, 3, none⟩ = some (.int .i64 (Int.tmod (wrap64 (Int.tdiv a0 3600)) 24)) := (blk_cell BK115.out 3).trans rfl
       have hcz16_4 : wr.cell? ⟨gb115, 4, none⟩ = some (.int .i64 (Int.tmod (wrap64 (Int.tdiv a0 60)) 60)) := (blk_cell BK115.out 4).trans rfl
       have hcz16_5 : wr.cell? ⟨gb115, 5, none⟩ = some (.int .i64 (Int.tmod a0 60)) := (blk_cell BK115.out 5).trans rfl
       have hfz16_0 := blk_frozen BK115.out 0
       have hfz16_1 := blk_frozen BK115.out 1
       have hfz16_2 := blk_frozen BK115.out 2
       have hfz16_3 := blk_frozen BK115.out 3
       have hfz16_4 := blk_frozen BK115.out 4
       have hfz16_5 := blk_frozen BK115.out 5
       go_wp2_with (first | ((with_reducible refine gate_callee (f := 63) rfl ?_); refine goesL_ (some 27) rfl rfl Tryd.func63 (by kernel_rfl) rfl #[.int .i64 x116000_2] rfl (by (try simp only [List.map_toArray, List.map_cons, List.map_nil]); first | done | rfl | (simp only [List.length_drop, List.length_take]; rfl)) ?_; (with_reducible refine (stowageref4_year.calls x116000_2 t116 _ A10.out).mono ?_); rintro e w' ⟨rfl, ⟨nd, rfl⟩⟩; refine ⟨_, rfl, ?_⟩))
       go_loopg [5] k2 (fun kq v5 w' => ∃ (x5_3 : Int) (x116001_3 : Int), v5 = .int .i64 x5_3 ∧ Aside0 (stowageref4_Civil.l1 kq x5_3 x116000_2 x116001_3 0 (Int.tmod (wrap64 (Int.tdiv a0 3600)) 24) (Int.tmod (wrap64 (Int.tdiv a0 60)) 60) (Int.tmod a0 60) = some (r1, r2, r3, r4, r5, r6, r7)) ∧ Aside0 (kq ≤ k2) ∧ Aside0 (w'.heap[gb114]? = some (.cells #[.int .i64 0, .int .i64 0, .int .i64 0, .int .i64 0, .int .i64 0, .int .i64 0] 85 (0, 0))) ∧ Aside0 (w'.heap[gb115]? = some (.cells #[.int .i64 x116000_2, .int .i64 x116001_3, .int .i64 0, .int .i64 (Int.tmod (wrap64 (Int.tdiv a0 3600)) 24), .int .i64 (Int.tmod (wrap64 (Int.tdiv a0 60)) 60), .int .i64 (Int.tmod a0 60)] 85 (0, 0))) ∧ Aside0 (Below w.heap.size w w'))
       case atStart => exact ⟨(x5_2), (1), (by first | rfl | (simp; done) | (simp [*]; done)), H', ⟨Nat.le_refl _⟩, ⟨by (with_reducible repeat (first | refine blk_drewN ?_ _ | refine blk_drew ?_ | refine blk_alloc ?_ _)); exact BK114.out⟩, ⟨by (with_reducible repeat (first | refine blk_drewN ?_ _ | refine blk_drew ?_ | refine blk_alloc ?_ _)); exact BK115.out⟩, ⟨by repeat (first | (with_reducible first | exact HB.out | apply below_alloc | apply pw_below_drewN | apply below_drew1 | refine below_set ?_ GE114.out | refine below_set ?_ GE115.out) | exact HB.out)⟩⟩
       case round =>
        clear H'
        try clear c1
        try clear p2
        try clear c3
        try clear c4
        try clear c4b0
        try clear c5
        try clear c6
        try clear p6
        try clear c8
        try clear c11
        try clear c11b0
        try clear c13
        try clear c15
        try clear hcz14_0
        try clear hcz14_1
        try clear hcz14_2
        try clear hcz14_3
        try clear hcz14_4
        try clear hcz14_5
        try clear hcz16_0
        try clear hcz16_1
        try clear hcz16_2
        try clear hcz16_3
        try clear hcz16_4
        try clear hcz16_5
        try clear hcz6_0
        try clear hcz6_1
        try clear hcz6_2
        try clear hcz6_3
        try clear hcz6_4
        try clear hcz6_5
        try clear hcz9_0
        try clear hcz9_1
        try clear hcz9_2
        try clear hcz9_3
        try clear hcz9_4
        try clear hcz9_5
        try clear hfz14_0
        try clear hfz14_1
        try clear hfz14_2
        try clear hfz14_3
        try clear hfz14_4
        try clear hfz14_5
        try clear hfz16_0
        try clear hfz16_1
        try clear hfz16_2
        try clear hfz16_3
        try clear hfz16_4
        try clear hfz16_5
        try clear hfz6_0
        try clear hfz6_1
        try clear hfz6_2
        try clear hfz6_3
        try clear hfz6_4
        try clear hfz6_5
        try clear hfz9_0
        try clear hfz9_1
        try clear hfz9_2
        try clear hfz9_3
        try clear hfz9_4
        try clear hfz9_5
        try clear p2
        try clear p6
        obtain ⟨x5_3, x116001_3, rfl, HA, HK3, BK114, BK115, HB⟩ := hrel
        cases gk with
        | zero => exact absurd HA.out (by simp [stowageref4_Civil.l1])
        | succ k3 =>
         have H := HA.out
         clear HA
         simp only [stowageref4_Civil.l1] at H
         replace H := bndO H
         obtain ⟨t118, A170, H⟩ := H
         have A17 := Aside0.mk A170
         clear A170
         replace H := itO H
         rcases H with ⟨c18, H⟩ | ⟨c18, H⟩
         ·skip
          have c18b0 : decide (t118 ≤ x5_3) = true := decide_eq_true c18
          clear c18
          replace H := bndO H
          obtain ⟨t119, A190, H⟩ := H
          have A19 := Aside0.mk A190
          clear A190
          have H' := Aside0.mk H
          clear H
          have hnb20 := NB115_114.out
          have hnc20 := NB114_115.out
          have hcz21_0 : wr.cell? ⟨gb115, 0, none⟩ = some (.int .i64 x116000_2) := (blk_cell BK115.out 0).trans rfl
          have hcz21_1 : wr.cell? ⟨gb115, 1, none⟩ = some (.int .i64 x116001_3) := (blk_cell BK115.out 1).trans rfl
          have hcz21_2 : wr.cell? ⟨gb115, 2, none⟩ = some (.int .i64 0) := (blk_cell BK115.out 2).trans rfl
          have hcz21_3 : wr.cell? ⟨gb115, 3, none⟩ = some (.int .i64 (Int.tmod (wrap64 (Int.tdiv a0 3600)) 24)) := (blk_cell BK115.out 3).trans rfl
          have hcz21_4 : wr.cell? ⟨gb115, 4, none⟩ = some (.int .i64 (Int.tmod (wrap64 (Int.tdiv a0 60)) 60)) := (blk_cell BK115.out 4).trans rfl
          have hcz21_5 : wr.cell? ⟨gb115, 5, none⟩ = some (.int .i64 (Int.tmod a0 60)) := (blk_cell BK115.out 5).trans rfl
          have hfz21_0 := blk_frozen BK115.out 0
          have hfz21_1 := blk_frozen BK115.out 1
          have hfz21_2 := blk_frozen BK115.out 2
          have hfz21_3 := blk_frozen BK115.out 3
          have hfz21_4 := blk_frozen BK115.out 4
          have hfz21_5 := blk_frozen BK115.out 5
          go_wp2_with (first | ((with_reducible refine gate_callee (f := 64) rfl ?_); refine goesL_ (some 43) rfl rfl Tryd.func64 (by kernel_rfl) rfl #[.int .i64 x116000_2, .int .i64 x116001_3] rfl (by (try simp only [List.map_toArray, List.map_cons, List.map_nil]); first | done | rfl | (simp only [List.length_drop, List.length_take]; rfl)) ?_; (with_reducible refine (stowageref4_size.calls k3 x116000_2 x116001_3 t118 _ A17.out).mono ?_); rintro e w' ⟨rfl, ⟨nd, rfl⟩⟩; refine ⟨_, rfl, ?_⟩; (try (rw [drewN_self wr]; generalize hq_ : World.drewN wr _ = wr; have n0_ : Aside0 (wr.heap[gb114]? = some (.cells #[.int .i64 0, .int .i64 0, .int .i64 0, .int .i64 0, .int .i64 0, .int .i64 0] 85 (0, 0))) := ⟨by rw [← hq_]; exact (by (with_reducible repeat (first | refine blk_drewN ?_ _ | refine blk_drew ?_ | refine blk_alloc ?_ _)); exact BK114.out)⟩; have n1_ : Aside0 (wr.heap[gb115]? = some (.cells #[.int .i64 x116000_2, .int .i64 x116001_3, .int .i64 0, .int .i64 (Int.tmod (wrap64 (Int.tdiv a0 3600)) 24), .int .i64 (Int.tmod (wrap64 (Int.tdiv a0 60)) 60), .int .i64 (Int.tmod a0 60)] 85 (0, 0))) := ⟨by rw [← hq_]; exact (by (with_reducible repeat (first | refine blk_drewN ?_ _ | refine blk_drew ?_ | refine blk_alloc ?_ _)); exact BK115.out)⟩; have n2_ : Aside0 (Below w.heap.size w wr) := ⟨by rw [← hq_]; exact (by repeat (first | (with_reducible first | exact HB.out | apply below_alloc | apply pw_below_drewN | apply below_drew1 | refine below_set ?_ GE114.out | refine below_set ?_ GE115.out) | exact HB.out))⟩; clear BK114 BK115 HB hq_; have BK114 := n0_; have BK115 := n1_; have HB := n2_; clear n0_ n1_ n2_)); (try (have hcu114_0 : wr.cell? ⟨gb114, 0, none⟩ = some (.int .i64 0) := (blk_cell BK114.out 0).trans rfl)); (try (have hfu114_0 := blk_frozen BK114.out 0)); (try (have hcu114_1 : wr.cell? ⟨gb114, 1, none⟩ = some (.int .i64 0) := (blk_cell BK114.out 1).trans rfl)); (try (have hfu114_1 := blk_frozen BK114.out 1)); (try (have hcu114_2 : wr.cell? ⟨gb114, 2, none⟩ = some (.int .i64 0) := (blk_cell BK114.out 2).trans rfl)); (try (have hfu114_2 := blk_frozen BK114.out 2)); (try (have hcu114_3 : wr.cell? ⟨gb114, 3, none⟩ = some (.int .i64 0) := (blk_cell BK114.out 3).trans rfl)); (try (have hfu114_3 := blk_frozen BK114.out 3)); (try (have hcu114_4 : wr.cell? ⟨gb114, 4, none⟩ = some (.int .i64 0) := (blk_cell BK114.out 4).trans rfl)); (try (have hfu114_4 := blk_frozen BK114.out 4)); (try (have hcu114_5 : wr.cell? ⟨gb114, 5, none⟩ = some (.int .i64 0) := (blk_cell BK114.out 5).trans rfl)); (try (have hfu114_5 := blk_frozen BK114.out 5)); (try (have hcu115_0 : wr.cell? ⟨gb115, 0, none⟩ = some (.int .i64 x116000_2) := (blk_cell BK115.out 0).trans rfl)); (try (have hfu115_0 := blk_frozen BK115.out 0)); (try (have hcu115_1 : wr.cell? ⟨gb115, 1, none⟩ = some (.int .i64 x116001_3) := (blk_cell BK115.out 1).trans rfl)); (try (have hfu115_1 := blk_frozen BK115.out 1)); (try (have hcu115_2 : wr.cell? ⟨gb115, 2, none⟩ = some (.int .i64 0) := (blk_cell BK115.out 2).trans rfl)); (try (have hfu115_2 := blk_frozen BK115.out 2)); (try (have hcu115_3 : wr.cell? ⟨gb115, 3, none⟩ = some (.int .i64 (Int.tmod (wrap64 (Int.tdiv a0 3600)) 24)) := (blk_cell BK115.out 3).trans rfl)); (try (have hfu115_3 := blk_frozen BK115.out 3)); (try (have hcu115_4 : wr.cell? ⟨gb115, 4, none⟩ = some (.int .i64 (Int.tmod (wrap64 (Int.tdiv a0 60)) 60)) := (blk_cell BK115.out 4).trans rfl)); (try (have hfu115_4 := blk_frozen BK115.out 4)); (try (have hcu115_5 : wr.cell? ⟨gb115, 5, none⟩ = some (.int .i64 (Int.tmod a0 60)) := (blk_cell BK115.out 5).trans rfl)); (try (have hfu115_5 := blk_frozen BK115.out 5)); (try clear A17)) | ((with_reducible refine gate_callee (f := 64) rfl ?_); refine goesL_ (some 50) rfl rfl Tryd.func64 (by kernel_rfl) rfl #[.int .i64 x116000_2, .int .i64 x116001_3] rfl (by (try simp only [List.map_toArray, List.map_cons, List.map_nil]); first | done | rfl | (simp only [List.length_drop, List.length_take]; rfl)) ?_; (with_reducible refine (stowageref4_size.calls k3 x116000_2 x116001_3 t119 _ A19.out).mono ?_); rintro e w' ⟨rfl, ⟨nd, rfl⟩⟩; refine ⟨_, rfl, ?_⟩; (try (rw [drewN_self wr]; generalize hq_ : World.drewN wr _ = wr; have n0_ : Aside0 (wr.heap[gb114]? = some (.cells #[.int .i64 0, .int .i64 0, .int .i64 0, .int .i64 0, .int .i64 0, .int .i64 0] 85 (0, 0))) := ⟨by rw [← hq_]; exact (by (with_reducible repeat (first | refine blk_drewN ?_ _ | refine blk_drew ?_ | refine blk_alloc ?_ _)); exact BK114.out)⟩; have n1_ : Aside0 (wr.heap[gb115]? = some (.cells #[.int .i64 x116000_2, .int .i64 x116001_3, .int .i64 0, .int .i64 (Int.tmod (wrap64 (Int.tdiv a0 3600)) 24), .int .i64 (Int.tmod (wrap64 (Int.tdiv a0 60)) 60), .int .i64 (Int.tmod a0 60)] 85 (0, 0))) := ⟨by rw [← hq_]; exact (by (with_reducible repeat (first | refine blk_drewN ?_ _ | refine blk_drew ?_ | refine blk_alloc ?_ _)); exact BK115.out)⟩; have n2_ : Aside0 (Below w.heap.size w wr) := ⟨by rw [← hq_]; exact (by repeat (first | (with_reducible first | exact HB.out | apply below_alloc | apply pw_below_drewN | apply below_drew1 | refine below_set ?_ GE114.out | refine below_set ?_ GE115.out) | exact HB.out))⟩; clear BK114 BK115 HB hq_; have BK114 := n0_; have BK115 := n1_; have HB := n2_; clear n0_ n1_ n2_)); (try (have hcu114_0 : wr.cell? ⟨gb114, 0, none⟩ = some (.int .i64 0) := (blk_cell BK114.out 0).trans rfl)); (try (have hfu114_0 := blk_frozen BK114.out 0)); (try (have hcu114_1 : wr.cell? ⟨gb114, 1, none⟩ = some (.int .i64 0) := (blk_cell BK114.out 1).trans rfl)); (try (have hfu114_1 := blk_frozen BK114.out 1)); (try (have hcu114_2 : wr.cell? ⟨gb114, 2, none⟩ = some (.int .i64 0) := (blk_cell BK114.out 2).trans rfl)); (try (have hfu114_2 := blk_frozen BK114.out 2)); (try (have hcu114_3 : wr.cell? ⟨gb114, 3, none⟩ = some (.int .i64 0) := (blk_cell BK114.out 3).trans rfl)); (try (have hfu114_3 := blk_frozen BK114.out 3)); (try (have hcu114_4 : wr.cell? ⟨gb114, 4, none⟩ = some (.int .i64 0) := (blk_cell BK114.out 4).trans rfl)); (try (have hfu114_4 := blk_frozen BK114.out 4)); (try (have hcu114_5 : wr.cell? ⟨gb114, 5, none⟩ = some (.int .i64 0) := (blk_cell BK114.out 5).trans rfl)); (try (have hfu114_5 := blk_frozen BK114.out 5)); (try (have hcu115_0 : wr.cell? ⟨gb115, 0, none⟩ = some (.int .i64 x116000_2) := (blk_cell BK115.out 0).trans rfl)); (try (have hfu115_0 := blk_frozen BK115.out 0)); (try (have hcu115_1 : wr.cell? ⟨gb115, 1, none⟩ = some (.int .i64 x116001_3) := (blk_cell BK115.out 1).trans rfl)); (try (have hfu115_1 := blk_frozen BK115.out 1)); (try (have hcu115_2 : wr.cell? ⟨gb115, 2, none⟩ = some (.int .i64 0) := (blk_cell BK115.out 2).trans rfl)); (try (have hfu115_2 := blk_frozen BK115.out 2)); (try (have hcu115_3 : wr.cell? ⟨gb115, 3, none⟩ = some (.int .i64 (Int.tmod (wrap64 (Int.tdiv a0 3600)) 24)) := (blk_cell BK115.out 3).trans rfl)); (try (have hfu115_3 := blk_frozen BK115.out 3)); (try (have hcu115_4 : wr.cell? ⟨gb115, 4, none⟩ = some (.int .i64 (Int.tmod (wrap64 (Int.tdiv a0 60)) 60)) := (blk_cell BK115.out 4).trans rfl)); (try (have hfu115_4 := blk_frozen BK115.out 4)); (try (have hcu115_5 : wr.cell? ⟨gb115, 5, none⟩ = some (.int .i64 (Int.tmod a0 60)) := (blk_cell BK115.out 5).trans rfl)); (try (have hfu115_5 := blk_frozen BK115.out 5)); (try clear A19)))
          go_roundg k3
          case measure => have := HJ1.out; have := HK2.out; have := HK3.out; omega
          case rel => exact ⟨(wrap64 (x5_3 - t119)), (wrap64 (x116001_3 + 1)), (by first | rfl | (simp; done) | (simp [*]; done)), H', ⟨by have := HJ1.out; have := HK2.out; have := HK3.out; omega⟩, ⟨by (with_reducible repeat (first | refine blk_drewN ?_ _ | refine blk_drew ?_ | refine blk_alloc ?_ _)); refine blk_far ?_ NB114_115.out _; (with_reducible repeat (first | refine blk_drewN ?_ _ | refine blk_drew ?_ | refine blk_alloc ?_ _)); exact BK114.out⟩, ⟨by (with_reducible repeat (first | refine blk_drewN ?_ _ | refine blk_drew ?_ | refine blk_alloc ?_ _)); refine blk_put (cs := #[.int .i64 x116000_2, .int .i64 x116001_3, .int .i64 0, .int .i64 (Int.tmod (wrap64 (Int.tdiv a0 3600)) 24), .int .i64 (Int.tmod (wrap64 (Int.tdiv a0 60)) 60), .int .i64 (Int.tmod a0 60)]) ?_ 1 _ rfl; (with_reducible repeat (first | refine blk_drewN ?_ _ | refine blk_drew ?_ | refine blk_alloc ?_ _)); exact BK115.out⟩, ⟨by repeat (first | (with_reducible first | exact HB.out | apply below_alloc | apply pw_below_drewN | apply below_drew1 | refine below_set ?_ GE114.out | refine below_set ?_ GE115.out) | exact HB.out)⟩⟩
         ·skip
          have c18b0 : decide (t118 ≤ x5_3) = false := decide_eq_false c18
          clear c18
          simp only [Option.some.injEq, Prod.mk.injEq] at H
          obtain ⟨rfl, rfl, rfl, rfl, rfl, rfl, rfl⟩ := H
          have hnb22 := NB115_114.out
          have hnc22 := NB114_115.out
          have hcz23_0 : wr.cell? ⟨gb115, 0, none⟩ = some (.int .i64 x116000_2) := (blk_cell BK115.out 0).trans rfl
          have hcz23_1 : wr.cell? ⟨gb115, 1, none⟩ = some (.int .i64 x116001_3) := (blk_cell BK115.out 1).trans rfl
          have hcz23_2 : wr.cell? ⟨gb115, 2, none⟩ = some (.int .i64 0) := (blk_cell BK115.out 2).trans rfl
          have hcz23_3 : wr.cell? ⟨gb115, 3, none⟩ = some (.int .i64 (Int.tmod (wrap64 (Int.tdiv a0 3600)) 24)) := (blk_cell BK115.out 3).trans rfl
          have hcz23_4 : wr.cell? ⟨gb115, 4, none⟩ = some (.int .i64 (Int.tmod (wrap64 (Int.tdiv a0 60)) 60)) := (blk_cell BK115.out 4).trans rfl
          have hcz23_5 : wr.cell? ⟨gb115, 5, none⟩ = some (.int .i64 (Int.tmod a0 60)) := (blk_cell BK115.out 5).trans rfl
          have hfz23_0 := blk_frozen BK115.out 0
          have hfz23_1 := blk_frozen BK115.out 1
          have hfz23_2 := blk_frozen BK115.out 2
          have hfz23_3 := blk_frozen BK115.out 3
          have hfz23_4 := blk_frozen BK115.out 4
          have hfz23_5 := blk_frozen BK115.out 5
          go_wp2_with (first | ((with_reducible refine gate_callee (f := 64) rfl ?_); refine goesL_ (some 43) rfl rfl Tryd.func64 (by kernel_rfl) rfl #[.int .i64 x116000_2, .int .i64 x116001_3] rfl (by (try simp only [List.map_toArray, List.map_cons, List.map_nil]); first | done | rfl | (simp only [List.length_drop, List.length_take]; rfl)) ?_; (with_reducible refine (stowageref4_size.calls k3 x116000_2 x116001_3 t118 _ A17.out).mono ?_); rintro e w' ⟨rfl, ⟨nd, rfl⟩⟩; refine ⟨_, rfl, ?_⟩; (try (rw [drewN_self wr]; generalize hq_ : World.drewN wr _ = wr; have n0_ : Aside0 (wr.heap[gb114]? = some (.cells #[.int .i64 0, .int .i64 0, .int .i64 0, .int .i64 0, .int .i64 0, .int .i64 0] 85 (0, 0))) := ⟨by rw [← hq_]; exact (by (with_reducible repeat (first | refine blk_drewN ?_ _ | refine blk_drew ?_ | refine blk_alloc ?_ _)); exact BK114.out)⟩; have n1_ : Aside0 (wr.heap[gb115]? = some (.cells #[.int .i64 x116000_2, .int .i64 x116001_3, .int .i64 0, .int .i64 (Int.tmod (wrap64 (Int.tdiv a0 3600)) 24), .int .i64 (Int.tmod (wrap64 (Int.tdiv a0 60)) 60), .int .i64 (Int.tmod a0 60)] 85 (0, 0))) := ⟨by rw [← hq_]; exact (by (with_reducible repeat (first | refine blk_drewN ?_ _ | refine blk_drew ?_ | refine blk_alloc ?_ _)); exact BK115.out)⟩; have n2_ : Aside0 (Below w.heap.size w wr) := ⟨by rw [← hq_]; exact (by repeat (first | (with_reducible first | exact HB.out | apply below_alloc | apply pw_below_drewN | apply below_drew1 | refine below_set ?_ GE114.out | refine below_set ?_ GE115.out) | exact HB.out))⟩; clear BK114 BK115 HB hq_; have BK114 := n0_; have BK115 := n1_; have HB := n2_; clear n0_ n1_ n2_)); (try (have hcu114_0 : wr.cell? ⟨gb114, 0, none⟩ = some (.int .i64 0) := (blk_cell BK114.out 0).trans rfl)); (try (have hfu114_0 := blk_frozen BK114.out 0)); (try (have hcu114_1 : wr.cell? ⟨gb114, 1, none⟩ = some (.int .i64 0) := (blk_cell BK114.out 1).trans rfl)); (try (have hfu114_1 := blk_frozen BK114.out 1)); (try (have hcu114_2 : wr.cell? ⟨gb114, 2, none⟩ = some (.int .i64 0) := (blk_cell BK114.out 2).trans rfl)); (try (have hfu114_2 := blk_frozen BK114.out 2)); (try (have hcu114_3 : wr.cell? ⟨gb114, 3, none⟩ = some (.int .i64 0) := (blk_cell BK114.out 3).trans rfl)); (try (have hfu114_3 := blk_frozen BK114.out 3)); (try (have hcu114_4 : wr.cell? ⟨gb114, 4, none⟩ = some (.int .i64 0) := (blk_cell BK114.out 4).trans rfl)); (try (have hfu114_4 := blk_frozen BK114.out 4)); (try (have hcu114_5 : wr.cell? ⟨gb114, 5, none⟩ = some (.int .i64 0) := (blk_cell BK114.out 5).trans rfl)); (try (have hfu114_5 := blk_frozen BK114.out 5)); (try (have hcu115_0 : wr.cell? ⟨gb115, 0, none⟩ = some (.int .i64 x116000_2) := (blk_cell BK115.out 0).trans rfl)); (try (have hfu115_0 := blk_frozen BK115.out 0)); (try (have hcu115_1 : wr.cell? ⟨gb115, 1, none⟩ = some (.int .i64 x116001_3) := (blk_cell BK115.out 1).trans rfl)); (try (have hfu115_1 := blk_frozen BK115.out 1)); (try (have hcu115_2 : wr.cell? ⟨gb115, 2, none⟩ = some (.int .i64 0) := (blk_cell BK115.out 2).trans rfl)); (try (have hfu115_2 := blk_frozen BK115.out 2)); (try (have hcu115_3 : wr.cell? ⟨gb115, 3, none⟩ = some (.int .i64 (Int.tmod (wrap64 (Int.tdiv a0 3600)) 24)) := (blk_cell BK115.out 3).trans rfl)); (try (have hfu115_3 := blk_frozen BK115.out 3)); (try (have hcu115_4 : wr.cell? ⟨gb115, 4, none⟩ = some (.int .i64 (Int.tmod (wrap64 (Int.tdiv a0 60)) 60)) := (blk_cell BK115.out 4).trans rfl)); (try (have hfu115_4 := blk_frozen BK115.out 4)); (try (have hcu115_5 : wr.cell? ⟨gb115, 5, none⟩ = some (.int .i64 (Int.tmod a0 60)) := (blk_cell BK115.out 5).trans rfl)); (try (have hfu115_5 := blk_frozen BK115.out 5)); have hcz24_0 : wr.cell? ⟨gb114, 0, none⟩ = some (.int .i64 0) := (blk_cell BK114.out 0).trans rfl; have hcz24_1 : wr.cell? ⟨gb114, 1, none⟩ = some (.int .i64 0) := (blk_cell BK114.out 1).trans rfl; have hcz24_2 : wr.cell? ⟨gb114, 2, none⟩ = some (.int .i64 0) := (blk_cell BK114.out 2).trans rfl; have hcz24_3 : wr.cell? ⟨gb114, 3, none⟩ = some (.int .i64 0) := (blk_cell BK114.out 3).trans rfl; have hcz24_4 : wr.cell? ⟨gb114, 4, none⟩ = some (.int .i64 0) := (blk_cell BK114.out 4).trans rfl; have hcz24_5 : wr.cell? ⟨gb114, 5, none⟩ = some (.int .i64 0) := (blk_cell BK114.out 5).trans rfl; have hfz24_0 := blk_frozen BK114.out 0; have hfz24_1 := blk_frozen BK114.out 1; have hfz24_2 := blk_frozen BK114.out 2; have hfz24_3 := blk_frozen BK114.out 3; have hfz24_4 := blk_frozen BK114.out 4; have hfz24_5 := blk_frozen BK114.out 5))
          refine bodyPost_ret (results_ct rfl _ _ gb114 85 #[.int .i64 x116000_2, .int .i64 x116001_3, .int .i64 (wrap64 (x5_3 + 1)), .int .i64 (Int.tmod (wrap64 (Int.tdiv a0 3600)) 24), .int .i64 (Int.tmod (wrap64 (Int.tdiv a0 60)) 60), .int .i64 (Int.tmod a0 60)] (0, 0) _ rfl (by (with_reducible repeat (first | refine blk_drewN ?_ _ | refine blk_drew ?_ | refine blk_alloc ?_ _)); refine blk_put (cs := #[.int .i64 x116000_2, .int .i64 x116001_3, .int .i64 (wrap64 (x5_3 + 1)), .int .i64 (Int.tmod (wrap64 (Int.tdiv a0 3600)) 24), .int .i64 (Int.tmod (wrap64 (Int.tdiv a0 60)) 60), .int .i64 0]) ?_ 5 _ rfl; (with_reducible repeat (first | refine blk_drewN ?_ _ | refine blk_drew ?_ | refine blk_alloc ?_ _)); refine blk_put (cs := #[.int .i64 x116000_2, .int .i64 x116001_3, .int .i64 (wrap64 (x5_3 + 1)), .int .i64 (Int.tmod (wrap64 (Int.tdiv a0 3600)) 24), .int .i64 0, .int .i64 0]) ?_ 4 _ rfl; (with_reducible repeat (first | refine blk_drewN ?_ _ | refine blk_drew ?_ | refine blk_alloc ?_ _)); refine blk_put (cs := #[.int .i64 x116000_2, .int .i64 x116001_3, .int .i64 (wrap64 (x5_3 + 1)), .int .i64 0, .int .i64 0, .int .i64 0]) ?_ 3 _ rfl; (with_reducible repeat (first | refine blk_drewN ?_ _ | refine blk_drew ?_ | refine blk_alloc ?_ _)); refine blk_put (cs := #[.int .i64 x116000_2, .int .i64 x116001_3, .int .i64 0, .int .i64 0, .int .i64 0, .int .i64 0]) ?_ 2 _ rfl; (with_reducible repeat (first | refine blk_drewN ?_ _ | refine blk_drew ?_ | refine blk_alloc ?_ _)); refine blk_put (cs := #[.int .i64 x116000_2, .int .i64 0, .int .i64 0, .int .i64 0, .int .i64 0, .int .i64 0]) ?_ 1 _ rfl; (with_reducible repeat (first | refine blk_drewN ?_ _ | refine blk_drew ?_ | refine blk_alloc ?_ _)); refine blk_put (cs := #[.int .i64 0, .int .i64 0, .int .i64 0, .int .i64 0, .int .i64 0, .int .i64 0]) ?_ 0 _ rfl; (with_reducible repeat (first | refine blk_drewN ?_ _ | refine blk_drew ?_ | refine blk_alloc ?_ _)); refine blk_far ?_ NB114_115.out _; (with_reducible repeat (first | refine blk_drewN ?_ _ | refine blk_drew ?_ | refine blk_alloc ?_ _)); exact BK114.out) Tryd.underlying85 rfl (by kernel_rfl)) rfl ?_
          exact ⟨by first | rfl | (simp [errW_none, errW_some] <;> rfl) | (simp [*, errW_none, errW_some] <;> rfl), by repeat (first | (with_reducible first | exact HB.out | apply below_alloc | apply pw_below_drewN | apply below_drew1 | refine below_set ?_ GE114.out | refine below_set ?_ GE115.out) | exact HB.out)⟩
end Go.Proofs.YtfjidcmegacibaaDoor.Q
