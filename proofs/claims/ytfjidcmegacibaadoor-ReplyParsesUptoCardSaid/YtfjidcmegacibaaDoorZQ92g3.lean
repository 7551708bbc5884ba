/- A part of the proof of the seat's laws. No condition beyond those in the theorems. -/
import Derived.Test.YtfjidcmegacibaaDoorZSqzB
import Derived.Test.YtfjidcmegacibaaDoorZQ0g11
import Derived.Lib.Hide
import Derived.Test.YtfjidcmegacibaaDoorZQ59
import Derived.Test.YtfjidcmegacibaaDoorZQ91
import Derived.Test.YtfjidcmegacibaaDoorZQ31g8
import Derived.Test.YtfjidcmegacibaaDoorZQ30

namespace Go.Proofs.YtfjidcmegacibaaDoor.Q
open Go.RowKit Go.Proofs.YtfjidcmegacibaaDoorW.PrintWords Go.Proofs.YtfjidcmegacibaaDoorW.PrintLast Go.Proofs.YtfjidcmegacibaaDoorW.PrintMore
set_option linter.unusedVariables false
set_option linter.unusedSimpArgs false
set_option maxHeartbeats 8000000
set_option maxRecDepth 100000
attribute [local go_sem] max2_int min2_int max_two min_two max_three min_three max_four min_four   
attribute [local go_sem high] eqA52
mutual
def stowageref26_Same.j0 : Nat → Bool → Int → List (S52) → List Int → Int → List (S52) → List Int → Option (Bool)
  | 0, _, _, _, _, _, _, _ => none
  | k + 1, x28, x389000, x389001, x389002, x390000, x390001, x390002 => if x28 = true then (some false) else (stowageref26_Same.l0 k 0 x389000 x389001 x389002 x390000 x390001 x390002)
def stowageref26_Same.l0 : Nat → Int → Int → List (S52) → List Int → Int → List (S52) → List Int → Option (Bool)
  | 0, _, _, _, _, _, _, _ => none
  | k + 1, x5, x389000, x389001, x389002, x390000, x390001, x390002 => if x5 < (x389001.length : Int) then (if 0 ≤ x5 then (if x5 < (x390001.length : Int) then (if (!((((rd_T52 x389001 x5).f0).toList) == (((rd_T52 x390001 x5).f0).toList)) || (!((((rd_T52 x389001 x5).f1).toList) == (((rd_T52 x390001 x5).f1).toList)))) = true then (some false) else (stowageref26_Same.l0 k (wrap64 (x5 + 1)) x389000 x389001 x389002 x390000 x390001 x390002)) else (none)) else (none)) else (some true)
end
def stowageref26_Same.f (k : Nat) (a0_0 : Int) (l0_1 : List (S52)) (l0_2 : List Int) (a1_0 : Int) (l1_1 : List (S52)) (l1_2 : List Int) : Option (Bool) := if a0_0 = a1_0 then (if (l0_1.length : Int) = (l1_1.length : Int) then (stowageref26_Same.j0 k ((strOfNums l0_2).toList != (strOfNums l1_2).toList) a0_0 l0_1 l0_2 a1_0 l1_1 l1_2) else (stowageref26_Same.j0 k true a0_0 l0_1 l0_2 a1_0 l1_1 l1_2)) else (stowageref26_Same.j0 k true a0_0 l0_1 l0_2 a1_0 l1_1 l1_2)
theorem stowageref26_Same.mono_l : ∀ k, (∀ y0 y1 y2 y3 y4 y5 y6, LeO (stowageref26_Same.j0 k y0 y1 y2 y3 y4 y5 y6) (stowageref26_Same.j0 (k + 1) y0 y1 y2 y3 y4 y5 y6)) ∧ (∀ y0 y1 y2 y3 y4 y5 y6, LeO (stowageref26_Same.l0 k y0 y1 y2 y3 y4 y5 y6) (stowageref26_Same.l0 (k + 1) y0 y1 y2 y3 y4 y5 y6))
  | 0 => ⟨fun _ _ _ _ _ _ _ r h => by simp [stowageref26_Same.j0] at h, fun _ _ _ _ _ _ _ r h => by simp [stowageref26_Same.l0] at h⟩
  | k + 1 => by
    obtain ⟨ih0, ih1⟩ := stowageref26_Same.mono_l k
    refine ⟨?_, ?_⟩
    · intro y0 y1 y2 y3 y4 y5 y6
      unfold stowageref26_Same.j0
      with_reducible repeat' first | exact ih0 _ _ _ _ _ _ _ | exact ih1 _ _ _ _ _ _ _ | exact LeO.refl _ | exact LeO.none _ | refine LeO.ite ?_ ?_ | refine LeO.bind ?_ (fun _ => ?_)
    · intro y0 y1 y2 y3 y4 y5 y6
      unfold stowageref26_Same.l0
      with_reducible repeat' first | exact ih0 _ _ _ _ _ _ _ | exact ih1 _ _ _ _ _ _ _ | exact LeO.refl _ | exact LeO.none _ | refine LeO.ite ?_ ?_ | refine LeO.bind ?_ (fun _ => ?_)
theorem stowageref26_Same.mono : ∀ a0 a1 a2 a3 a4 a5 k, LeO (stowageref26_Same.f k a0 a1 a2 a3 a4 a5) (stowageref26_Same.f (k + 1) a0 a1 a2 a3 a4 a5) := by
 intro a0 a1 a2 a3 a4 a5 k
 obtain ⟨ih0, ih1⟩ := stowageref26_Same.mono_l k
 unfold stowageref26_Same.f
 with_reducible repeat' first | exact ih0 _ _ _ _ _ _ _ | exact ih1 _ _ _ _ _ _ _ | exact LeO.refl _ | exact LeO.none _ | refine LeO.ite ?_ ?_ | refine LeO.bind ?_ (fun _ => ?_)
theorem stowageref26_Same.calls (k : Nat) (a0_0 : Int) (A0_1 : Option Addr) (c0_1 : Nat) (l0_1 : List (S52)) (A0_2 : Option Addr) (c0_2 : Nat) (l0_2 : List Int) (a1_0 : Int) (A1_1 : Option Addr) (c1_1 : Nat) (l1_1 : List (S52)) (A1_2 : Option Addr) (c1_2 : Nat) (l1_2 : List Int) (r : Bool) (w : World) (hr0_1 : Kd.C k52 w A0_1 l0_1.length l0_1) (hc0_1 : l0_1.length ≤ c0_1) (hr0_2 : Kd.C (Kd.int .u8) w A0_2 l0_2.length l0_2) (hc0_2 : l0_2.length ≤ c0_2) (hr1_1 : Kd.C k52 w A1_1 l1_1.length l1_1) (hc1_1 : l1_1.length ≤ c1_1) (hr1_2 : Kd.C (Kd.int .u8) w A1_2 l1_2.length l1_2) (hc1_2 : l1_2.length ≤ c1_2) (h : stowageref26_Same.f k a0_0 l0_1 l0_2 a1_0 l1_1 l1_2 = some r) :
    Calls Tryd.prog 11 #[.agg #[.int .i64 a0_0, .slice A0_1 l0_1.length c0_1, .slice A0_2 l0_2.length c0_2], .agg #[.int .i64 a1_0, .slice A1_1 l1_1.length c1_1, .slice A1_2 l1_2.length c1_2]] w fun e w' => e = .returned (.bool r) ∧ Below w.heap.size w w' := by
 have hu27 := Tryd.underlying27
 have hu52 := Tryd.underlying52
 have HR0_1 := Aside0.mk hr0_1
 have HC0_1 := Aside0.mk hc0_1
 clear hr0_1 hc0_1
 have HR0_2 := Aside0.mk hr0_2
 have HC0_2 := Aside0.mk hc0_2
 clear hr0_2 hc0_2
 have HR1_1 := Aside0.mk hr1_1
 have HC1_1 := Aside0.mk hc1_1
 clear hr1_1 hc1_1
 have HR1_2 := Aside0.mk hr1_2
 have HC1_2 := Aside0.mk hc1_2
 clear hr1_2 hc1_2
 have HB := Aside0.mk (Below.refl w.heap.size w)
 unfold stowageref26_Same.f at h
 have H := h
 clear h
 have HC3 := Aside0.mk H
 clear H
 go_enter Tryd.func11, Tryd.ntmps11
 go_upto_region 1 with (first | ((with_reducible refine gate_dst (N := 2) rfl ?_); (try (refine gate_guard (by rfl) ?_; dsimp only)); refine box_event ?hg (N := 2) ?hd (cs := #[.int .i64 a0_0, .slice A0_1 l0_1.length c0_1, .slice A0_2 l0_2.length c0_2]) (t := 27) ?hr ?_; (case hd => rfl); (case hg => rfl); (case hr => first | (go_simp; done) | (go_simp; rfl)); intro gb388 hg w4 hbox hb; have n0_ := Aside0.mk (below_step bl hb); have n1_ := Aside0.mk (hbox); have n2_ := Aside0.mk ((by rw [hg]; exact (below_size bl) : w.heap.size ≤ gb388)); have n3_ := Aside0.mk ((by rw [hg]; exact (below_size bl) : w.heap.size ≤ gb388)); clear HB; have HB := n0_; have BK388 := n1_; have GW388 := n2_; have GE388 := n3_; clear n0_ n1_ n2_ n3_; clear hb hbox hg) | ((with_reducible refine gate_dst (N := 3) rfl ?_); (try (refine gate_guard (by rfl) ?_; dsimp only)); refine box_event ?hg (N := 3) ?hd (cs := #[.int .i64 a1_0, .slice A1_1 l1_1.length c1_1, .slice A1_2 l1_2.length c1_2]) (t := 27) ?hr ?_; (case hd => rfl); (case hg => rfl); (case hr => first | (go_simp; done) | (go_simp; rfl)); intro gb389 hg w5 hbox hb; have n0_ := Aside0.mk (blk_below (g := gb388) (o := .cells #[.int .i64 a0_0, .slice A0_1 l0_1.length c0_1, .slice A0_2 l0_2.length c0_2] 27 (0, 0)) kl hb); have n1_ := Aside0.mk (below_step bl hb); have n2_ := Aside0.mk (hbox); have n3_ := Aside0.mk ((by rw [hg]; exact (below_size bl) : w.heap.size ≤ gb389)); have n4_ := Aside0.mk ((by rw [hg]; exact (below_size bl) : w.heap.size ≤ gb389)); have n5_ := Aside0.mk ((by rw [hg]; exact Nat.ne_of_lt (blk_lt (g := gb388) (o := .cells #[.int .i64 a0_0, .slice A0_1 l0_1.length c0_1, .slice A0_2 l0_2.length c0_2] 27 (0, 0)) kl) : gb388 ≠ gb389)); have n6_ := Aside0.mk ((by rw [hg]; exact Nat.ne_of_gt (blk_lt (g := gb388) (o := .cells #[.int .i64 a0_0, .slice A0_1 l0_1.length c0_1, .slice A0_2 l0_2.length c0_2] 27 (0, 0)) kl) : gb389 ≠ gb388)); clear BK388; clear HB; have BK388 := n0_; have HB := n1_; have BK389 := n2_; have GW389 := n3_; have GE389 := n4_; have NB388_389 := n5_; have NB389_388 := n6_; clear n0_ n1_ n2_ n3_ n4_ n5_ n6_; clear hb hbox hg))
 repeat (go_quiet (fail); go_upto_region 1 with (first | ((with_reducible refine gate_dst (N := 2) rfl ?_); (try (refine gate_guard (by rfl) ?_; dsimp only)); refine box_event ?hg (N := 2) ?hd (cs := #[.int .i64 a0_0, .slice A0_1 l0_1.length c0_1, .slice A0_2 l0_2.length c0_2]) (t := 27) ?hr ?_; (case hd => rfl); (case hg => rfl); (case hr => first | (go_simp; done) | (go_simp; rfl)); intro gb388 hg w4 hbox hb; have n0_ := Aside0.mk (below_step bl hb); have n1_ := Aside0.mk (hbox); have n2_ := Aside0.mk ((by rw [hg]; exact (below_size bl) : w.heap.size ≤ gb388)); have n3_ := Aside0.mk ((by rw [hg]; exact (below_size bl) : w.heap.size ≤ gb388)); clear HB; have HB := n0_; have BK388 := n1_; have GW388 := n2_; have GE388 := n3_; clear n0_ n1_ n2_ n3_; clear hb hbox hg) | ((with_reducible refine gate_dst (N := 3) rfl ?_); (try (refine gate_guard (by rfl) ?_; dsimp only)); refine box_event ?hg (N := 3) ?hd (cs := #[.int .i64 a1_0, .slice A1_1 l1_1.length c1_1, .slice A1_2 l1_2.length c1_2]) (t := 27) ?hr ?_; (case hd => rfl); (case hg => rfl); (case hr => first | (go_simp; done) | (go_simp; rfl)); intro gb389 hg w5 hbox hb; have n0_ := Aside0.mk (blk_below (g := gb388) (o := .cells #[.int .i64 a0_0, .slice A0_1 l0_1.length c0_1, .slice A0_2 l0_2.length c0_2] 27 (0, 0)) kl hb); have n1_ := Aside0.mk (below_step bl hb); have n2_ := Aside0.mk (hbox); have n3_ := Aside0.mk ((by rw [hg]; exact (below_size bl) : w.heap.size ≤ gb389)); have n4_ := Aside0.mk ((by rw [hg]; exact (below_size bl) : w.heap.size ≤ gb389)); have n5_ := Aside0.mk ((by rw [hg]; exact Nat.ne_of_lt (blk_lt (g := gb388) (o := .cells #[.int .i64 a0_0, .slice A0_1 l0_1.length c0_1, .slice A0_2 l0_2.length c0_2] 27 (0, 0)) kl) : gb388 ≠ gb389)); have n6_ := Aside0.mk ((by rw [hg]; exact Nat.ne_of_gt (blk_lt (g := gb388) (o := .cells #[.int .i64 a0_0, .slice A0_1 l0_1.length c0_1, .slice A0_2 l0_2.length c0_2] 27 (0, 0)) kl) : gb389 ≠ gb388)); clear BK388; clear HB; have BK388 := n0_; have HB := n1_; have BK389 := n2_; have GW389 := n3_; have GE389 := n4_; have NB388_389 := n5_; have NB389_388 := n6_; clear n0_ n1_ n2_ n3_ n4_ n5_ n6_; clear hb hbox hg)))
 (try simp only [Act.put, l1, l2, l3])
 go_cut [28] (fun v28 wc => ∃ (kq : Nat) (x28_2 : Bool), v28 = .bool x28_2 ∧ Aside0 (stowageref26_Same.j0 kq x28_2 a0_0 l0_1 l0_2 a1_0 l1_1 l1_2 = some r) ∧ Aside0 (kq ≤ k) ∧ Aside0 (wc.heap[gb388]? = some (.cells #[.int .i64 a0_0, (.slice A0_1 l0_1.length c0_1), (.slice A0_2 l0_2.length c0_2)] 27 (0, 0))) ∧ Aside0 (wc.heap[gb389]? = some (.cells #[.int .i64 a1_0, (.slice A1_1 l1_1.length c1_1), (.slice A1_2 l1_2.length c1_2)] 27 (0, 0))) ∧ Aside0 (Below w.heap.size w wc))
 case first =>
  have H := HC3.out
  clear HC3
  replace H := itO H
  rcases H with ⟨c6, H⟩ | ⟨c6, H⟩
  {
  have c6b0 : (a0_0 == a1_0) = true := beq_iff_eq.mpr c6
  have c6b1 : (a0_0 != a1_0) = false := bne_eq_false_iff_eq.mpr c6
  clear c6
  (first | rw [c6b0] | (simp only [i64_w, i32_w]; rw [c6b0]) | skip)
  replace H := itO H
  rcases H with ⟨c7, H⟩ | ⟨c7, H⟩
  {
  have c7b0 : ((l0_1.length : Int) == (l1_1.length : Int)) = true := beq_iff_eq.mpr c7
  have c7b1 : ((l0_1.length : Int) != (l1_1.length : Int)) = false := bne_eq_false_iff_eq.mpr c7
  have c7b2 : (l0_1.length == l1_1.length) = true := by first | simpa using c7 | (simp at c7 ⊢; omega)
  clear c7
  have H' := Aside0.mk H
  clear H
  have hnb8 := NB388_389.out
  have hnc8 := NB389_388.out
  have hcz9_0 : w5.cell? ⟨gb388, 0, none⟩ = some (.int .i64 a0_0) := (blk_cell BK388.out 0).trans rfl
  have hcz9_1 : w5.cell? ⟨gb388, 1, none⟩ = some (.slice A0_1 l0_1.length c0_1) := (blk_cell BK388.out 1).trans rfl
  have hcz9_2 : w5.cell? ⟨gb388, 2, none⟩ = some (.slice A0_2 l0_2.length c0_2) := (blk_cell BK388.out 2).trans rfl
  have hfz9_0 := blk_frozen BK388.out 0
  have hfz9_1 := blk_frozen BK388.out 1
  have hfz9_2 := blk_frozen BK388.out 2
  have hcz10_0 : w5.cell? ⟨gb389, 0, none⟩ = some (.int .i64 a1_0) := (blk_cell BK389.out 0).trans rfl
  have hcz10_1 : w5.cell? ⟨gb389, 1, none⟩ = some (.slice A1_1 l1_1.length c1_1) := (blk_cell BK389.out 1).trans rfl
  have hcz10_2 : w5.cell? ⟨gb389, 2, none⟩ = some (.slice A1_2 l1_2.length c1_2) := (blk_cell BK389.out 2).trans rfl
  have hfz10_0 := blk_frozen BK389.out 0
  have hfz10_1 := blk_frozen BK389.out 1
  have hfz10_2 := blk_frozen BK389.out 2
  have hcv11 := Kd.C_string (P := Tryd.prog) (A := A0_2) (c := c0_2) Tryd.underlying23 Tryd.underlying5 Tryd.underlying9 (Kd.C_below HR0_2.out HB.out)
  have hcv12 := Kd.C_string (P := Tryd.prog) (A := A1_2) (c := c1_2) Tryd.underlying23 Tryd.underlying5 Tryd.underlying9 (Kd.C_below HR1_2.out HB.out)
  go_wp2
  repeat (go_quiet (fail); try go_wp2)
  go_meet
  case rel => exact ⟨_, (((strOfNums l0_2).toList != (strOfNums l1_2).toList)), rs, H', ⟨by first | omega | exact Nat.le_refl _⟩, ⟨kl⟩, ⟨kl⟩, ⟨bl⟩⟩
  }
  {
  have c7b0 : ((l0_1.length : Int) == (l1_1.length : Int)) = false := beq_eq_false_iff_ne.mpr c7
  have c7b1 : ((l0_1.length : Int) != (l1_1.length : Int)) = true := bne_iff_ne.mpr c7
  have c7b2 : (l0_1.length == l1_1.length) = false := by first | simpa using c7 | (simp at c7 ⊢; omega)
  have H' := Aside0.mk H
  clear H
  have hnb13 := NB388_389.out
  have hnc13 := NB389_388.out
  have hcz14_0 : w5.cell? ⟨gb388, 0, none⟩ = some (.int .i64 a0_0) := (blk_cell BK388.out 0).trans rfl
  have hcz14_1 : w5.cell? ⟨gb388, 1, none⟩ = some (.slice A0_1 l0_1.length c0_1) := (blk_cell BK388.out 1).trans rfl
  have hcz14_2 : w5.cell? ⟨gb388, 2, none⟩ = some (.slice A0_2 l0_2.length c0_2) := (blk_cell BK388.out 2).trans rfl
  have hfz14_0 := blk_frozen BK388.out 0
  have hfz14_1 := blk_frozen BK388.out 1
  have hfz14_2 := blk_frozen BK388.out 2
  have hcz15_0 : w5.cell? ⟨gb389, 0, none⟩ = some (.int .i64 a1_0) := (blk_cell BK389.out 0).trans rfl
  have hcz15_1 : w5.cell? ⟨gb389, 1, none⟩ = some (.slice A1_1 l1_1.length c1_1) := (blk_cell BK389.out 1).trans rfl
  have hcz15_2 : w5.cell? ⟨gb389, 2, none⟩ = some (.slice A1_2 l1_2.length c1_2) := (blk_cell BK389.out 2).trans rfl
  have hfz15_0 := blk_frozen BK389.out 0
  have hfz15_1 := blk_frozen BK389.out 1
  have hfz15_2 := blk_frozen BK389.out 2
  go_wp2
  repeat (go_quiet (fail); try go_wp2)
  go_meet
  case rel => exact ⟨_, (true), rs, H', ⟨by first | omega | exact Nat.le_refl _⟩, ⟨kl⟩, ⟨kl⟩, ⟨bl⟩⟩
  }
  }
  {
  have c6b0 : (a0_0 == a1_0) = false := beq_eq_false_iff_ne.mpr c6
  have c6b1 : (a0_0 != a1_0) = true := bne_iff_ne.mpr c6
  (first | rw [c6b0] | (simp only [i64_w, i32_w]; rw [c6b0]) | skip)
  have H' := Aside0.mk H
  clear H
  have hnb16 := NB388_389.out
  have hnc16 := NB389_388.out
  have hcz17_0 : w5.cell? ⟨gb388, 0, none⟩ = some (.int .i64 a0_0) := (blk_cell BK388.out 0).trans rfl
  have hcz17_1 : w5.cell? ⟨gb388, 1, none⟩ = some (.slice A0_1 l0_1.length c0_1) := (blk_cell BK388.out 1).trans rfl
  have hcz17_2 : w5.cell? ⟨gb388, 2, none⟩ = some (.slice A0_2 l0_2.length c0_2) := (blk_cell BK388.out 2).trans rfl
  have hfz17_0 := blk_frozen BK388.out 0
  have hfz17_1 := blk_frozen BK388.out 1
  have hfz17_2 := blk_frozen BK388.out 2
  have hcz18_0 : w5.cell? ⟨gb389, 0, none⟩ = some (.int .i64 a1_0) := (blk_cell BK389.out 0).trans rfl
  have hcz18_1 : w5.cell? ⟨gb389, 1, none⟩ = some (.slice A1_1 l1_1.length c1_1) := (blk_cell BK389.out 1).trans rfl
  have hcz18_2 : w5.cell? ⟨gb389, 2, none⟩ = some (.slice A1_2 l1_2.length c1_2) := (blk_cell BK389.out 2).trans rfl
  have hfz18_0 := blk_frozen BK389.out 0
  have hfz18_1 := blk_frozen BK389.out 1
  have hfz18_2 := blk_frozen BK389.out 2
  go_wp2
  repeat (go_quiet (fail); try go_wp2)
  go_meet
  case rel => exact ⟨_, (true), rs, H', ⟨by first | omega | exact Nat.le_refl _⟩, ⟨kl⟩, ⟨kl⟩, ⟨bl⟩⟩
  }
 case rest =>
  clear HC3
  obtain ⟨kq, x28_2, rfl, HA, HJ2, BK388, BK389, HB⟩ := hcut
  cases kq with
  | zero => exact absurd HA.out (by simp [stowageref26_Same.j0])
  | succ kj2 =>
   have H := HA.out
   clear HA
   simp only [stowageref26_Same.j0] at H
   by_cases c19 : x28_2 = true
   {
   subst c19
   replace H := itT H
   obtain rfl := Option.some.inj H
   go_wp2
   repeat (go_quiet (fail); try go_wp2)
   go_ret
   exact ⟨by first | rfl | (simp [errW_none, errW_some] <;> rfl) | (simp [*, errW_none, errW_some] <;> rfl), bl⟩
   }
   {
   replace c19 := Bool.eq_false_iff.mpr c19
   subst c19
   replace H := itF H
   have H' := Aside0.mk H
   clear H
   go_wp2
   repeat (go_quiet (fail); try go_wp2)
   go_loopg [5] kj2 (fun kq v5 w' => ∃ (x5_2 : Int), v5 = .int .i64 x5_2 ∧ Aside0 (stowageref26_Same.l0 kq x5_2 a0_0 l0_1 l0_2 a1_0 l1_1 l1_2 = some r) ∧ Aside0 (kq ≤ kj2) ∧ Aside0 (w'.heap[gb388]? = some (.cells #[.int .i64 a0_0, (.slice A0_1 l0_1.length c0_1), (.slice A0_2 l0_2.length c0_2)] 27 (0, 0))) ∧ Aside0 (w'.heap[gb389]? = some (.cells #[.int .i64 a1_0, (.slice A1_1 l1_1.length c1_1), (.slice A1_2 l1_2.length c1_2)] 27 (0, 0))) ∧ Aside0 (Below w.heap.size w w'))
   case atStart => exact ⟨(0), rs, H', ⟨Nat.le_refl _⟩, ⟨kl⟩, ⟨kl⟩, ⟨bl⟩⟩
   case round =>
    clear H'
    obtain ⟨x5_2, rfl, HA, HK2, BK388, BK389, HB⟩ := hrel
    cases gk with
    | zero => exact absurd HA.out (by simp [stowageref26_Same.l0])
    | succ k2 =>
     have H := HA.out
     clear HA
     simp only [stowageref26_Same.l0] at H
     replace H := itO H
     rcases H with ⟨c20, H⟩ | ⟨c20, H⟩
     {
     have c20b0 : decide (x5_2 < (l0_1.length : Int)) = true := decide_eq_true c20
     clear c20
     replace H := itO H
     rcases H with ⟨c21, H⟩ | ⟨c21, H⟩
     {
     have c21b0 : decide (0 ≤ x5_2) = true := decide_eq_true c21
     clear c21
     replace H := itO H
     rcases H with ⟨c22, H⟩ | ⟨c22, H⟩
     {
     have c22b0 : decide (x5_2 < (l1_1.length : Int)) = true := decide_eq_true c22
     clear c22
     replace H := itO H
     rcases H with ⟨c23, H⟩ | ⟨c23, H⟩
     {
     have c23b0 : (!((((rd_T52 l0_1 x5_2).f0).toList) == (((rd_T52 l1_1 x5_2).f0).toList)) || (!((((rd_T52 l0_1 x5_2).f1).toList) == (((rd_T52 l1_1 x5_2).f1).toList)))) = true := c23
     clear c23
     obtain rfl := Option.some.inj H
     have hnb24 := NB388_389.out
     have hnc24 := NB389_388.out
     have hcz25_0 : wr.cell? ⟨gb388, 0, none⟩ = some (.int .i64 a0_0) := (blk_cell BK388.out 0).trans rfl
     have hcz25_1 : wr.cell? ⟨gb388, 1, none⟩ = some (.slice A0_1 l0_1.length c0_1) := (blk_cell BK388.out 1).trans rfl
     have hcz25_2 : wr.cell? ⟨gb388, 2, none⟩ = some (.slice A0_2 l0_2.length c0_2) := (blk_cell BK388.out 2).trans rfl
     have hfz25_0 := blk_frozen BK388.out 0
     have hfz25_1 := blk_frozen BK388.out 1
     have hfz25_2 := blk_frozen BK388.out 2
     have p390 : 0 ≤ (x5_2 : Int) := of_decide_eq_true asm
     have q390 : x5_2 < (l0_1.length : Int) := of_decide_eq_true asm
     obtain ⟨ad390, e390, hx390_0, hx390_1⟩ := at_T52 HR0_1.out x5_2 p390 q390
     cases e390
     replace hx390_0 := (HB.out.cell (World.block_lt_of_cell? w _ hx390_0)).trans hx390_0
     replace hx390_1 := (HB.out.cell (World.block_lt_of_cell? w _ hx390_1)).trans hx390_1
     replace p390 := eq_true p390
     replace q390 := eq_true q390
     have hcz26_0 : wr.cell? ⟨gb389, 0, none⟩ = some (.int .i64 a1_0) := (blk_cell BK389.out 0).trans rfl
     have hcz26_1 : wr.cell? ⟨gb389, 1, none⟩ = some (.slice A1_1 l1_1.length c1_1) := (blk_cell BK389.out 1).trans rfl
     have hcz26_2 : wr.cell? ⟨gb389, 2, none⟩ = some (.slice A1_2 l1_2.length c1_2) := (blk_cell BK389.out 2).trans rfl
     have hfz26_0 := blk_frozen BK389.out 0
     have hfz26_1 := blk_frozen BK389.out 1
     have hfz26_2 := blk_frozen BK389.out 2
     have p391 : 0 ≤ (x5_2 : Int) := of_decide_eq_true asm
     have q391 : x5_2 < (l1_1.length : Int) := of_decide_eq_true asm
     obtain ⟨ad391, e391, hx391_0, hx391_1⟩ := at_T52 HR1_1.out x5_2 p391 q391
     cases e391
     replace hx391_0 := (HB.out.cell (World.block_lt_of_cell? w _ hx391_0)).trans hx391_0
     replace hx391_1 := (HB.out.cell (World.block_lt_of_cell? w _ hx391_1)).trans hx391_1
     replace p391 := eq_true p391
     replace q391 := eq_true q391
     go_wp2
     repeat (go_quiet (fail); try go_wp2)
     go_ret
     exact ⟨by first | rfl | (simp [errW_none, errW_some] <;> rfl) | (simp [*, errW_none, errW_some] <;> rfl), bl⟩
     }
     {
     have c23b0 : (!((((rd_T52 l0_1 x5_2).f0).toList) == (((rd_T52 l1_1 x5_2).f0).toList)) || (!((((rd_T52 l0_1 x5_2).f1).toList) == (((rd_T52 l1_1 x5_2).f1).toList)))) = false := by simpa using c23
     clear c23
     have H' := Aside0.mk H
     clear H
     have hnb27 := NB388_389.out
     have hnc27 := NB389_388.out
     have hcz28_0 : wr.cell? ⟨gb388, 0, none⟩ = some (.int .i64 a0_0) := (blk_cell BK388.out 0).trans rfl
     have hcz28_1 : wr.cell? ⟨gb388, 1, none⟩ = some (.slice A0_1 l0_1.length c0_1) := (blk_cell BK388.out 1).trans rfl
     have hcz28_2 : wr.cell? ⟨gb388, 2, none⟩ = some (.slice A0_2 l0_2.length c0_2) := (blk_cell BK388.out 2).trans rfl
     have hfz28_0 := blk_frozen BK388.out 0
     have hfz28_1 := blk_frozen BK388.out 1
     have hfz28_2 := blk_frozen BK388.out 2
     have p390 : 0 ≤ (x5_2 : Int) := of_decide_eq_true asm
     have q390 : x5_2 < (l0_1.length : Int) := of_decide_eq_true asm
     obtain ⟨ad390, e390, hx390_0, hx390_1⟩ := at_T52 HR0_1.out x5_2 p390 q390
     cases e390
     replace hx390_0 := (HB.out.cell (World.block_lt_of_cell? w _ hx390_0)).trans hx390_0
     replace hx390_1 := (HB.out.cell (World.block_lt_of_cell? w _ hx390_1)).trans hx390_1
     replace p390 := eq_true p390
     replace q390 := eq_true q390
     have hcz29_0 : wr.cell? ⟨gb389, 0, none⟩ = some (.int .i64 a1_0) := (blk_cell BK389.out 0).trans rfl
     have hcz29_1 : wr.cell? ⟨gb389, 1, none⟩ = some (.slice A1_1 l1_1.length c1_1) := (blk_cell BK389.out 1).trans rfl
     have hcz29_2 : wr.cell? ⟨gb389, 2, none⟩ = some (.slice A1_2 l1_2.length c1_2) := (blk_cell BK389.out 2).trans rfl
     have hfz29_0 := blk_frozen BK389.out 0
     have hfz29_1 := blk_frozen BK389.out 1
     have hfz29_2 := blk_frozen BK389.out 2
     have p391 : 0 ≤ (x5_2 : Int) := of_decide_eq_true asm
     have q391 : x5_2 < (l1_1.length : Int) := of_decide_eq_true asm
     obtain ⟨ad391, e391, hx391_0, hx391_1⟩ := at_T52 HR1_1.out x5_2 p391 q391
     cases e391
     replace hx391_0 := (HB.out.cell (World.block_lt_of_cell? w _ hx391_0)).trans hx391_0
     replace hx391_1 := (HB.out.cell (World.block_lt_of_cell? w _ hx391_1)).trans hx391_1
     replace p391 := eq_true p391
     replace q391 := eq_true q391
     go_wp2
     repeat (go_quiet (fail); try go_wp2)
     go_roundg k2
     case measure => have := HJ2.out; have := HK2.out; omega
     case rel => exact ⟨(wrap64 (x5_2 + 1)), rs, H', ⟨by have := HJ2.out; have := HK2.out; omega⟩, ⟨kl⟩, ⟨kl⟩, ⟨bl⟩⟩
     }
     }
     ·exact absurd H (by simp)
     }
     ·exact absurd H (by simp)
     }
     {
     have c20b0 : decide (x5_2 < (l0_1.length : Int)) = false := decide_eq_false c20
     clear c20
     obtain rfl := Option.some.inj H
     have hnb30 := NB388_389.out
     have hnc30 := NB389_388.out
     have hcz31_0 : wr.cell? ⟨gb388, 0, none⟩ = some (.int .i64 a0_0) := (blk_cell BK388.out 0).trans rfl
     have hcz31_1 : wr.cell? ⟨gb388, 1, none⟩ = some (.slice A0_1 l0_1.length c0_1) := (blk_cell BK388.out 1).trans rfl
     have hcz31_2 : wr.cell? ⟨gb388, 2, none⟩ = some (.slice A0_2 l0_2.length c0_2) := (blk_cell BK388.out 2).trans rfl
     have hfz31_0 := blk_frozen BK388.out 0
     have hfz31_1 := blk_frozen BK388.out 1
     have hfz31_2 := blk_frozen BK388.out 2
     go_wp2
     repeat (go_quiet (fail); try go_wp2)
     go_ret
     exact ⟨by first | rfl | (simp [errW_none, errW_some] <;> rfl) | (simp [*, errW_none, errW_some] <;> rfl), bl⟩
     }
   }
end Go.Proofs.YtfjidcmegacibaaDoor.Q


namespace Go.Proofs.YtfjidcmegacibaaDoor.Q
open Go.RowKit Go.Proofs.YtfjidcmegacibaaDoorW.PrintWords Go.Proofs.YtfjidcmegacibaaDoorW.PrintLast Go.Proofs.YtfjidcmegacibaaDoorW.PrintMore
set_option linter.unusedVariables false
set_option linter.unusedSimpArgs false
set_option maxHeartbeats 8000000
set_option maxRecDepth 100000
attribute [local go_sem] max2_int min2_int max_two min_two max_three min_three max_four min_four   
def stowagelaw17_awake.f (k : Nat) : Option Bool := (reply_Print.f k 204 ([] : List S52) ([] : List Int) false 0 (⟨#[48]⟩ : ByteArray) false).bind fun b => (reply_Parse.f k b false).bind fun r => if ((strOfNums b).toList == ([72, 84, 84, 80, 47, 49, 46, 49, 32, 50, 48, 52, 32, 78, 111, 32, 67, 111, 110, 116, 101, 110, 116, 13, 10, 83, 101, 114, 118, 101, 114, 58, 32, 115, 116, 111, 119, 97, 103, 101, 13, 10, 68, 97, 116, 101, 58, 32, 84, 104, 117, 44, 32, 48, 49, 32, 74, 97, 110, 32, 49, 57, 55, 48, 32, 48, 48, 58, 48, 48, 58, 48, 48, 32, 71, 77, 84, 13, 10, 120, 45, 97, 109, 122, 45, 114, 101, 113, 117, 101, 115, 116, 45, 105, 100, 58, 32, 48, 13, 10, 13, 10] : List UInt8)) = true then (if r.2.2.2.2 = true ∧ r.1 = 204 ∧ r.2.2.2.1 = (b.length : Int) then some true else none) else none
theorem stowagelaw17_awake.mono : ∀ k, LeO (stowagelaw17_awake.f k) (stowagelaw17_awake.f (k + 1)) := by
 intro k
 unfold stowagelaw17_awake.f
 exact LeO.bind (reply_Print.mono _ _ _ _ _ _ _ _) fun _ => LeO.bind (reply_Parse.mono _ _ _) fun _ => LeO.refl _
theorem stowagelaw17_awake.calls (k : Nat) (r : Bool) (w : World) (hG : GOk w) (h : stowagelaw17_awake.f k = some r) :
    Calls Tryd.prog 12 #[] w fun e w' => e = .returned (.bool r) ∧ Below w.heap.size w w' := by
 have hu27 := Tryd.underlying27
 unfold stowagelaw17_awake.f at h
 obtain ⟨b, hb, h⟩ := bndO h
 obtain ⟨⟨r1, r2, r3, r4, r5⟩, hp, h⟩ := bndO h
 dsimp only at h
 replace h := itO h
 rcases h with ⟨c3b0, h⟩ | ⟨_, h⟩
 rotate_left
 ·exact absurd h (by simp)
 replace h := itO h
 rcases h with ⟨⟨rfl, rfl, rfl⟩, h⟩ | ⟨_, h⟩
 rotate_left
 ·exact absurd h (by simp)
 obtain rfl := Option.some.inj h
 have hb' := Lib.hid hb
 have hp' := Lib.hid hp
 have hG' := Lib.hid hG
 have hph : reply_Phrase.f 503 = some (⟨#[83, 101, 114, 118, 105, 99, 101, 32, 85, 110, 97, 118, 97, 105, 108, 97, 98, 108, 101]⟩ : ByteArray) := by rfl
 have hph' := Lib.hid hph
 clear hb hp hG h hph
 go_enter Tryd.func12, Tryd.ntmps12
 go_wp2_with fail
 refine (reply_Print.calls k 204 none 0 ([] : List S52) none 0 ([] : List Int) false 0 (⟨#[48]⟩ : ByteArray) false b w (Kd.C_nil _ _) (Nat.le_refl _) (Kd.C_nil _ _) (Nat.le_refl _) hG'.out hb'.out).mono ?_
 rintro e w1 ⟨v0, rfl, hV, hB⟩
 obtain ⟨Ab, cb, rfl⟩ := Kd.V_slice hV
 have hC := Lib.hid (Kd.V_reads' hV).2
 have hB' := Lib.hid hB
 clear hV hB
 go_wp2_with fail
 refine (reply_Parse.calls k Ab cb b false 204 r2 r3 b.length true w1 hC.out.2 hC.out.1 (gok_below hG'.out hB'.out) hp'.out).mono ?_
 rintro e w2 ⟨v1, v2, rfl, hV1, hV2, hB2⟩
 obtain ⟨A1, c1, rfl⟩ := Kd.V_slice hV1
 obtain ⟨A2, c2, rfl⟩ := Kd.V_slice hV2
 have hW := Lib.hid (And.intro (hB'.out.trans (hB2.mono hB'.out.size)) hB'.out.size)
 have hstr := Kd.C_string (P := Tryd.prog) (c := cb) Tryd.underlying23 Tryd.underlying5 Tryd.underlying9 (Kd.C_alloc (Kd.C_below hC.out.2 hB2) (.cells #[.int .i64 204, .slice A1 r2.length c1, .slice A2 r3.length c2] 27))
 have hx0 := (blk_cell (blk_new w2 (.cells #[.int .i64 204, .slice A1 r2.length c1, .slice A2 r3.length c2] 27)) 0).trans rfl
 clear hV1 hV2 hB2
 go_wp2_with fail
 refine (reply_Phrase.calls 503 _ _ hph'.out).mono ?_
 rintro e w9 ⟨rfl, ⟨nd, rfl⟩⟩
 go_wp2
 go_ret
 refine ⟨rfl, ?_⟩
 exact pw_below_drewN (below_alloc hW.out.1 _) nd
end Go.Proofs.YtfjidcmegacibaaDoor.Q


namespace Go.Proofs.YtfjidcmegacibaaDoor.Q
open Go.RowKit Go.Proofs.YtfjidcmegacibaaDoorW.PrintWords Go.Proofs.YtfjidcmegacibaaDoorW.PrintLast Go.Proofs.YtfjidcmegacibaaDoorW.PrintMore
set_option linter.unusedVariables false
set_option linter.unusedSimpArgs false
set_option maxHeartbeats 8000000
set_option maxRecDepth 100000
attribute [local go_sem] max2_int min2_int max_two min_two max_three min_three max_four min_four   
def stowagelaw17_ReplyParses.f (k : Nat) (l0 : List Int) (a1 : Bool) : Option (Bool) := (reply_Parse.f k l0 a1).bind fun bt444 => ((stowageref17_Parse.f k l0 a1).bind fun bt454 => ((stowageref26_Same.f k bt444.1 bt444.2.1 bt444.2.2.1 bt454.1 bt454.2.1 bt454.2.2.1).bind fun t464 => (if t464 = true then (if bt444.2.2.2.1 = bt454.2.2.2.1 then (if (bt444.2.2.2.2 == bt454.2.2.2.2) = true then ((stowagelaw17_awake.f k).bind fun t465 => (some t465)) else (some false)) else (some false)) else (some false))))
theorem stowagelaw17_ReplyParses.mono : ∀ a0 a1 k, LeO (stowagelaw17_ReplyParses.f k a0 a1) (stowagelaw17_ReplyParses.f (k + 1) a0 a1) := by
 intro a0 a1 k
 unfold stowagelaw17_ReplyParses.f
 with_reducible repeat' first | exact reply_Parse.mono _ _ _ | exact stowagelaw17_awake.mono _ | exact stowageref17_Parse.mono _ _ _ | exact stowageref26_Same.mono _ _ _ _ _ _ _ | exact LeO.refl _ | exact LeO.none _ | refine LeO.ite ?_ ?_ | refine LeO.bind ?_ (fun _ => ?_)
theorem stowagelaw17_ReplyParses.calls (k : Nat) (A0 : Option Addr) (c0 : Nat) (l0 : List Int) (a1 : Bool) (r : Bool) (w : World) (hr0 : Kd.C (Kd.int .u8) w A0 l0.length l0) (hc0 : l0.length ≤ c0) (hG : GOk w) (h : stowagelaw17_ReplyParses.f k l0 a1 = some r) (hr : r = true) :
    Calls Tryd.prog 5 #[.slice A0 l0.length c0, .bool a1] w fun e w' => e = .returned (.bool r) ∧ Below w.heap.size w w' := by
 have hu27 := Tryd.underlying27
 have hu29 := Tryd.underlying29
 have HR0 := Aside0.mk hr0
 have HC0 := Aside0.mk hc0
 clear hr0 hc0
 have HB := Aside0.mk (Below.refl w.heap.size w)
 unfold stowagelaw17_ReplyParses.f at h
 have H := h
 clear h
 replace H := bndO H
 obtain ⟨⟨t444, t445, t448, t451, t452⟩, A30, H⟩ := H
 dsimp only at H
 have A3 := Aside0.mk A30
 clear A30
 replace H := bndO H
 obtain ⟨⟨t454, t455, t458, t461, t462⟩, A40, H⟩ := H
 dsimp only at H
 have A4 := Aside0.mk A40
 clear A40
 replace H := bndO H
 obtain ⟨t464, A50, H⟩ := H
 have A5 := Aside0.mk A50
 clear A50
 by_cases c6 : t464 = true
 {
 subst c6
 replace H := itT H
 replace H := itO H
 rcases H with ⟨c7, H⟩ | ⟨c7, H⟩
 {
 have c7b0 : (t451 == t461) = true := beq_iff_eq.mpr c7
 have c7b1 : (t451 != t461) = false := bne_eq_false_iff_eq.mpr c7
 clear c7
 replace H := itO H
 rcases H with ⟨c8, H⟩ | ⟨c8, H⟩
 {
 have c8b0 : (t452 == t462) = true := c8
 (try (have c8b1 : decide (t452 = t462) = true := by simpa using c8))
 (try (have c8b2 : (t452 == t462) = true := by simpa using c8))
 clear c8
 replace H := bndO H
 obtain ⟨t465, A90, H⟩ := H
 have A9 := Aside0.mk A90
 clear A90
 clear hr
 obtain rfl := Option.some.inj H
 go_enter Tryd.func5, Tryd.ntmps5
 go_wp2_with (first | ((with_reducible refine gate_callee (f := 10) rfl ?_); refine goesL_ (some 12) rfl rfl Tryd.func10 kr rfl #[.slice A0 l0.length c0, .bool a1] rfl am ?_; (with_reducible refine (reply_Parse.calls k _ _ l0 a1 t444 t445 t448 t451 t452 _ ?side1 ?side2 (by first | exact hG | exact gok_below hG bl | exact gok_heap hG rfl | exact gok_drewN hG _ | exact gok_below hG (by repeat (first | exact HB.out | exact HBW.out | exact Below.refl _ _ | apply below_alloc | apply pw_below_drewN | apply below_drew1))) A3.out).mono ?_); (case side1 => repeat (first | exact HR0.out | (with_reducible refine Kd.C_alloc ?_ _) | (with_reducible refine Kd.C_drewN ?_ _) | (with_reducible refine Kd.C_drew ?_))); (case side2 => exact HC0.out); rintro e w10 ⟨v446, v449, rfl, ho0, ho1, hb⟩; refine ⟨_, rfl, ?_⟩; have n0_ := Aside0.mk (Kd.V_lower (Kd.V_mono (ok' := fun k_ => True) ho0 (fun k_ hk_ => trivial)) (below_size bl)); have n1_ := Aside0.mk (Kd.V_lower (Kd.V_mono (ok' := fun k_ => True) ho1 (fun k_ hk_ => trivial)) (below_size bl)); have n2_ := Aside0.mk (below_step bl hb); clear HB; have HO447 := n0_; have HO450 := n1_; have HB := n2_; clear n0_ n1_ n2_) | ((with_reducible refine gate_dst (N := 5) rfl ?_); refine box_event ?hg (N := 5) ?hd (cs := #[.int .i64 0, .slice none 0 0, .slice none 0 0]) (t := 27) ?hr ?_; (case hd => rfl); (case hg => rfl); (case hr => first | (go_simp; done) | (go_simp; rfl)); intro gb453 hg w11 hbox hb; have n0_ := Aside0.mk (Kd.V_below (Kd.V_elderB (by (with_reducible repeat (first | apply Kd.V_alloc | apply Kd.V_drewN | apply Kd.V_drew)); exact HO447.out) gb453 (Nat.le_of_eq hg.symm)) hb); have n1_ := Aside0.mk (Kd.V_below (Kd.V_elderB (by (with_reducible repeat (first | apply Kd.V_alloc | apply Kd.V_drewN | apply Kd.V_drew)); exact HO450.out) gb453 (Nat.le_of_eq hg.symm)) hb); have n2_ := Aside0.mk (below_step bl hb); have n3_ := Aside0.mk (hbox); have n4_ := Aside0.mk ((by rw [hg]; exact (below_size bl) : w.heap.size ≤ gb453)); have n5_ := Aside0.mk ((by rw [hg]; exact (below_size bl) : w.heap.size ≤ gb453)); clear HO447; clear HO450; clear HB; have HO447 := n0_; have HO450 := n1_; have HB := n2_; have BK453 := n3_; have GW453 := n4_; have GE453 := n5_; clear n0_ n1_ n2_ n3_ n4_ n5_; clear hb hbox hg; have hcz12_0 : w11.cell? ⟨gb453, 0, none⟩ = some (.int .i64 0) := (blk_cell BK453.out 0).trans rfl; have hcz12_1 : w11.cell? ⟨gb453, 1, none⟩ = some (.slice none 0 0) := (blk_cell BK453.out 1).trans rfl; have hcz12_2 : w11.cell? ⟨gb453, 2, none⟩ = some (.slice none 0 0) := (blk_cell BK453.out 2).trans rfl; have hfz12_0 := blk_frozen BK453.out 0; have hfz12_1 := blk_frozen BK453.out 1; have hfz12_2 := blk_frozen BK453.out 2; obtain ⟨Ao13, co13, eo13⟩ := Kd.V_slice HO447.out; subst eo13; obtain ⟨Ao14, co14, eo14⟩ := Kd.V_slice HO450.out; subst eo14) | ((with_reducible refine gate_callee (f := 8) rfl ?_); refine goesL_ (some 18) rfl rfl Tryd.func8 kr rfl #[.slice A0 l0.length c0, .bool a1] rfl am ?_; (with_reducible refine (stowageref17_Parse.calls k _ _ l0 a1 t454 t455 t458 t461 t462 _ ?side1 ?side2 A4.out).mono ?_); (case side1 => exact Kd.C_below HR0.out bl); (case side2 => exact HC0.out); rintro e w15 ⟨v456, v459, rfl, ho0, ho1, hb⟩; refine ⟨_, rfl, ?_⟩; have n0_ := Aside0.mk (Kd.V_elder' (by (with_reducible repeat (first | apply Kd.V_alloc | apply Kd.V_drewN | apply Kd.V_drew)); exact (Kd.V_mono (Kd.V_far (p := ⟨gb453, 2, none⟩) (Kd.V_far (p := ⟨gb453, 1, none⟩) (Kd.V_far (p := ⟨gb453, 0, none⟩) (Kd.V_mono HO447.out (fun k_ hk => (⟨hk, hk.2⟩ : _ ∧ k_ ≠ gb453))) (fun _ hk => hk.2) (.int .i64 t444)) (fun _ hk => hk.2) (.slice Ao13 t445.length co13)) (fun _ hk => hk.2) (.slice Ao14 t448.length co14)) (fun _ h_ => h_.1))) (by first | exact Kd.R_base ho0 | exact Kd.R_base ho0) hb); have n1_ := Aside0.mk (Kd.V_elder' (by (with_reducible repeat (first | apply Kd.V_alloc | apply Kd.V_drewN | apply Kd.V_drew)); exact (Kd.V_mono (Kd.V_far (p := ⟨gb453, 2, none⟩) (Kd.V_far (p := ⟨gb453, 1, none⟩) (Kd.V_far (p := ⟨gb453, 0, none⟩) (Kd.V_mono HO450.out (fun k_ hk => (⟨hk, hk.2⟩ : _ ∧ k_ ≠ gb453))) (fun _ hk => hk.2) (.int .i64 t444)) (fun _ hk => hk.2) (.slice Ao13 t445.length co13)) (fun _ hk => hk.2) (.slice Ao14 t448.length co14)) (fun _ h_ => h_.1))) (by first | exact Kd.R_base ho0 | exact Kd.R_base ho0) hb); have n2_ := Aside0.mk (Kd.R_lower (Kd.R_mono (ok' := fun k_ => True) ho0 (fun _ hk_ => trivial)) (below_size bl)); have n3_ := Aside0.mk (Kd.V_lower (Kd.V_mono (ok' := fun k_ => some k_ ≠ (v456 : Value).ownBlock ∧ k_ ≠ gb453) ho1 (fun k_ hk_ => ⟨hk_.2, (Kd.freshB (g := gb453) (o := .cells #[.int .i64 t444, .slice Ao13 t445.length co13, .slice Ao14 t448.length co14] 27 (0, 0)) (by (with_reducible repeat (first | refine blk_drewN ?_ _ | refine blk_drew ?_ | refine blk_alloc ?_ _)); refine blk_put (cs := #[.int .i64 t444, .slice Ao13 t445.length co13, .slice none 0 0]) ?_ 2 _ rfl; (with_reducible repeat (first | refine blk_drewN ?_ _ | refine blk_drew ?_ | refine blk_alloc ?_ _)); refine blk_put (cs := #[.int .i64 t444, .slice none 0 0, .slice none 0 0]) ?_ 1 _ rfl; (with_reducible repeat (first | refine blk_drewN ?_ _ | refine blk_drew ?_ | refine blk_alloc ?_ _)); refine blk_put (cs := #[.int .i64 0, .slice none 0 0, .slice none 0 0]) ?_ 0 _ rfl; (with_reducible repeat (first | refine blk_drewN ?_ _ | refine blk_drew ?_ | refine blk_alloc ?_ _)); exact BK453.out) k_ hk_.1)⟩)) (below_size bl)); have n4_ := Aside0.mk (blk_below (g := gb453) (o := .cells #[.int .i64 t444, .slice Ao13 t445.length co13, .slice Ao14 t448.length co14] 27 (0, 0)) (by (with_reducible repeat (first | refine blk_drewN ?_ _ | refine blk_drew ?_ | refine blk_alloc ?_ _)); refine blk_put (cs := #[.int .i64 t444, .slice Ao13 t445.length co13, .slice none 0 0]) ?_ 2 _ rfl; (with_reducible repeat (first | refine blk_drewN ?_ _ | refine blk_drew ?_ | refine blk_alloc ?_ _)); refine blk_put (cs := #[.int .i64 t444, .slice none 0 0, .slice none 0 0]) ?_ 1 _ rfl; (with_reducible repeat (first | refine blk_drewN ?_ _ | refine blk_drew ?_ | refine blk_alloc ?_ _)); refine blk_put (cs := #[.int .i64 0, .slice none 0 0, .slice none 0 0]) ?_ 0 _ rfl; (with_reducible repeat (first | refine blk_drewN ?_ _ | refine blk_drew ?_ | refine blk_alloc ?_ _)); exact BK453.out) hb); have n5_ := Aside0.mk (below_step bl hb); clear HO447; clear HO450; clear BK453; clear HB; have HO447 := n0_; have HO450 := n1_; have HO457 := n2_; have HO460 := n3_; have BK453 := n4_; have HB := n5_; clear n0_ n1_ n2_ n3_ n4_ n5_) | ((with_reducible refine gate_dst (N := 8) rfl ?_); refine box_event ?hg (N := 8) ?hd (cs := #[.int .i64 0, .slice none 0 0, .slice none 0 0, .int .i64 0, .bool false]) (t := 29) ?hr ?_; (case hd => rfl); (case hg => rfl); (case hr => first | (go_simp; done) | (go_simp; rfl)); intro gb463 hg w16 hbox hb; have n0_ := Aside0.mk (Kd.V_below (Kd.V_elderB (by (with_reducible repeat (first | apply Kd.V_alloc | apply Kd.V_drewN | apply Kd.V_drew)); exact HO447.out) gb463 (Nat.le_of_eq hg.symm)) hb); have n1_ := Aside0.mk (Kd.V_below (Kd.V_elderB (by (with_reducible repeat (first | apply Kd.V_alloc | apply Kd.V_drewN | apply Kd.V_drew)); exact HO450.out) gb463 (Nat.le_of_eq hg.symm)) hb); have n2_ := Aside0.mk (Kd.R_below rl hb); have n3_ := Aside0.mk (Kd.V_below (Kd.V_elderB (by (with_reducible repeat (first | apply Kd.V_alloc | apply Kd.V_drewN | apply Kd.V_drew)); exact HO460.out) gb463 (Nat.le_of_eq hg.symm)) hb); have n4_ := Aside0.mk (blk_below (g := gb453) (o := .cells #[.int .i64 t444, .slice Ao13 t445.length co13, .slice Ao14 t448.length co14] 27 (0, 0)) kl hb); have n5_ := Aside0.mk (below_step bl hb); have n6_ := Aside0.mk (hbox); have n7_ := Aside0.mk ((by rw [hg]; exact (below_size bl) : w.heap.size ≤ gb463)); have n8_ := Aside0.mk ((by rw [hg]; exact (below_size bl) : w.heap.size ≤ gb463)); have n9_ := Aside0.mk ((by rw [hg]; exact Nat.ne_of_lt (blk_lt (g := gb453) (o := .cells #[.int .i64 t444, .slice Ao13 t445.length co13, .slice Ao14 t448.length co14] 27 (0, 0)) kl) : gb453 ≠ gb463)); have n10_ := Aside0.mk ((by rw [hg]; exact Nat.ne_of_gt (blk_lt (g := gb453) (o := .cells #[.int .i64 t444, .slice Ao13 t445.length co13, .slice Ao14 t448.length co14] 27 (0, 0)) kl) : gb463 ≠ gb453)); clear HO447; clear HO450; clear HO457; clear HO460; clear BK453; clear HB; have HO447 := n0_; have HO450 := n1_; have HO457 := n2_; have HO460 := n3_; have BK453 := n4_; have HB := n5_; have BK463 := n6_; have GW463 := n7_; have GE463 := n8_; have NB453_463 := n9_; have NB463_453 := n10_; clear n0_ n1_ n2_ n3_ n4_ n5_ n6_ n7_ n8_ n9_ n10_; clear hb hbox hg; have hnb17 := NB463_453.out; have hnc17 := NB453_463.out; have hcz18_0 : w16.cell? ⟨gb463, 0, none⟩ = some (.int .i64 0) := (blk_cell BK463.out 0).trans rfl; have hcz18_1 : w16.cell? ⟨gb463, 1, none⟩ = some (.slice none 0 0) := (blk_cell BK463.out 1).trans rfl; have hcz18_2 : w16.cell? ⟨gb463, 2, none⟩ = some (.slice none 0 0) := (blk_cell BK463.out 2).trans rfl; have hcz18_3 : w16.cell? ⟨gb463, 3, none⟩ = some (.int .i64 0) := (blk_cell BK463.out 3).trans rfl; have hcz18_4 : w16.cell? ⟨gb463, 4, none⟩ = some (.bool false) := (blk_cell BK463.out 4).trans rfl; have hfz18_0 := blk_frozen BK463.out 0; have hfz18_1 := blk_frozen BK463.out 1; have hfz18_2 := blk_frozen BK463.out 2; have hfz18_3 := blk_frozen BK463.out 3; have hfz18_4 := blk_frozen BK463.out 4; obtain ⟨Ao19, co19, eo19⟩ := Kd.R_slice HO457.out; subst eo19; obtain ⟨Ao20, co20, eo20⟩ := Kd.V_slice HO460.out; subst eo20; have hcz21_0 : w16.cell? ⟨gb453, 0, none⟩ = some (.int .i64 t444) := (blk_cell BK453.out 0).trans rfl; have hcz21_1 : w16.cell? ⟨gb453, 1, none⟩ = some (.slice Ao13 t445.length co13) := (blk_cell BK453.out 1).trans rfl; have hcz21_2 : w16.cell? ⟨gb453, 2, none⟩ = some (.slice Ao14 t448.length co14) := (blk_cell BK453.out 2).trans rfl; have hfz21_0 := blk_frozen BK453.out 0; have hfz21_1 := blk_frozen BK453.out 1; have hfz21_2 := blk_frozen BK453.out 2) | ((with_reducible refine gate_callee (f := 11) rfl ?_); refine goesL_ (some 22) rfl rfl Tryd.func11 kr rfl #[.agg #[.int .i64 t444, .slice Ao13 t445.length co13, .slice Ao14 t448.length co14], .agg #[.int .i64 t454, .slice Ao19 t455.length co19, .slice Ao20 t458.length co20]] rfl am ?_; (with_reducible refine (stowageref26_Same.calls k t444 _ _ t445 _ _ t448 t454 _ _ t455 _ _ t458 true _ ?side1 ?side2 ?side3 ?side4 ?side5 ?side6 ?side7 ?side8 A5.out).mono ?_); (case side1 => refine (Kd.V_reads' (e := 52) (base := w.heap.size) (ok := fun k_ => (((True ∧ k_ ≠ gb453) ∧ some k_ ≠ (.slice Ao19 t455.length co19 : Value).ownBlock) ∧ k_ ≠ gb463)) (n := t445.length) (c := co13) ?_).2.2; exact (by (with_reducible repeat (first | apply Kd.V_alloc | apply Kd.V_drewN | apply Kd.V_drew)); exact (Kd.V_mono (Kd.V_far (p := ⟨gb463, 4, none⟩) (Kd.V_far (p := ⟨gb463, 3, none⟩) (Kd.V_far (p := ⟨gb463, 2, none⟩) (Kd.V_far (p := ⟨gb463, 1, none⟩) (Kd.V_far (p := ⟨gb463, 0, none⟩) (Kd.V_mono HO447.out (fun k_ hk => (⟨hk, hk.2⟩ : _ ∧ k_ ≠ gb463))) (fun _ hk => hk.2) (.int .i64 t454)) (fun _ hk => hk.2) (.slice Ao19 t455.length co19)) (fun _ hk => hk.2) (.slice Ao20 t458.length co20)) (fun _ hk => hk.2) (.int .i64 t461)) (fun _ hk => hk.2) (.bool t462)) (fun _ h_ => h_.1)))); (case side2 => exact (Kd.V_reads' HO447.out).2.1); (case side3 => refine (Kd.V_reads' (e := 5) (base := w.heap.size) (ok := fun k_ => (((True ∧ k_ ≠ gb453) ∧ some k_ ≠ (.slice Ao19 t455.length co19 : Value).ownBlock) ∧ k_ ≠ gb463)) (n := t448.length) (c := co14) ?_).2.2; exact (by (with_reducible repeat (first | apply Kd.V_alloc | apply Kd.V_drewN | apply Kd.V_drew)); exact (Kd.V_mono (Kd.V_far (p := ⟨gb463, 4, none⟩) (Kd.V_far (p := ⟨gb463, 3, none⟩) (Kd.V_far (p := ⟨gb463, 2, none⟩) (Kd.V_far (p := ⟨gb463, 1, none⟩) (Kd.V_far (p := ⟨gb463, 0, none⟩) (Kd.V_mono HO450.out (fun k_ hk => (⟨hk, hk.2⟩ : _ ∧ k_ ≠ gb463))) (fun _ hk => hk.2) (.int .i64 t454)) (fun _ hk => hk.2) (.slice Ao19 t455.length co19)) (fun _ hk => hk.2) (.slice Ao20 t458.length co20)) (fun _ hk => hk.2) (.int .i64 t461)) (fun _ hk => hk.2) (.bool t462)) (fun _ h_ => h_.1)))); (case side4 => exact (Kd.V_reads' HO450.out).2.1); (case side5 => refine (Kd.R_reads' (e := 52) (base := w.heap.size) (ok := fun k_ => True) (n := t455.length) (c := co19) ?_).2.2; exact (by (with_reducible repeat (first | apply Kd.R_alloc | apply Kd.R_drewN | apply Kd.R_drew)); exact (Kd.R_mono (Kd.R_far (p := ⟨gb463, 4, none⟩) (Kd.R_far (p := ⟨gb463, 3, none⟩) (Kd.R_far (p := ⟨gb463, 2, none⟩) (Kd.R_far (p := ⟨gb463, 1, none⟩) (Kd.R_far (p := ⟨gb463, 0, none⟩) (Kd.R_types HO457.out BK463.out (by decide)) (fun _ hk => hk.2) (.int .i64 t454)) (fun _ hk => hk.2) (.slice Ao19 t455.length co19)) (fun _ hk => hk.2) (.slice Ao20 t458.length co20)) (fun _ hk => hk.2) (.int .i64 t461)) (fun _ hk => hk.2) (.bool t462)) (fun _ h_ => h_.1)))); (case side6 => exact (Kd.R_reads' HO457.out).2.1); (case side7 => refine (Kd.V_reads' (e := 5) (base := w.heap.size) (ok := fun k_ => ((some k_ ≠ (.slice Ao19 t455.length co19 : Value).ownBlock ∧ k_ ≠ gb453) ∧ k_ ≠ gb463)) (n := t458.length) (c := co20) ?_).2.2; exact (by (with_reducible repeat (first | apply Kd.V_alloc | apply Kd.V_drewN | apply Kd.V_drew)); exact (Kd.V_mono (Kd.V_far (p := ⟨gb463, 4, none⟩) (Kd.V_far (p := ⟨gb463, 3, none⟩) (Kd.V_far (p := ⟨gb463, 2, none⟩) (Kd.V_far (p := ⟨gb463, 1, none⟩) (Kd.V_far (p := ⟨gb463, 0, none⟩) (Kd.V_mono HO460.out (fun k_ hk => (⟨hk, hk.2⟩ : _ ∧ k_ ≠ gb463))) (fun _ hk => hk.2) (.int .i64 t454)) (fun _ hk => hk.2) (.slice Ao19 t455.length co19)) (fun _ hk => hk.2) (.slice Ao20 t458.length co20)) (fun _ hk => hk.2) (.int .i64 t461)) (fun _ hk => hk.2) (.bool t462)) (fun _ h_ => h_.1)))); (case side8 => exact (Kd.V_reads' HO460.out).2.1); rintro e w22 ⟨rfl, hb⟩; refine ⟨_, rfl, ?_⟩; have n0_ := Aside0.mk (Kd.V_below (by (with_reducible repeat (first | apply Kd.V_alloc | apply Kd.V_drewN | apply Kd.V_drew)); exact (Kd.V_mono (Kd.V_far (p := ⟨gb463, 4, none⟩) (Kd.V_far (p := ⟨gb463, 3, none⟩) (Kd.V_far (p := ⟨gb463, 2, none⟩) (Kd.V_far (p := ⟨gb463, 1, none⟩) (Kd.V_far (p := ⟨gb463, 0, none⟩) (Kd.V_mono HO447.out (fun k_ hk => (⟨hk, hk.2⟩ : _ ∧ k_ ≠ gb463))) (fun _ hk => hk.2) (.int .i64 t454)) (fun _ hk => hk.2) (.slice Ao19 t455.length co19)) (fun _ hk => hk.2) (.slice Ao20 t458.length co20)) (fun _ hk => hk.2) (.int .i64 t461)) (fun _ hk => hk.2) (.bool t462)) (fun _ h_ => h_.1))) hb); have n1_ := Aside0.mk (Kd.V_below (by (with_reducible repeat (first | apply Kd.V_alloc | apply Kd.V_drewN | apply Kd.V_drew)); exact (Kd.V_mono (Kd.V_far (p := ⟨gb463, 4, none⟩) (Kd.V_far (p := ⟨gb463, 3, none⟩) (Kd.V_far (p := ⟨gb463, 2, none⟩) (Kd.V_far (p := ⟨gb463, 1, none⟩) (Kd.V_far (p := ⟨gb463, 0, none⟩) (Kd.V_mono HO450.out (fun k_ hk => (⟨hk, hk.2⟩ : _ ∧ k_ ≠ gb463))) (fun _ hk => hk.2) (.int .i64 t454)) (fun _ hk => hk.2) (.slice Ao19 t455.length co19)) (fun _ hk => hk.2) (.slice Ao20 t458.length co20)) (fun _ hk => hk.2) (.int .i64 t461)) (fun _ hk => hk.2) (.bool t462)) (fun _ h_ => h_.1))) hb); have n2_ := Aside0.mk (Kd.R_below (by (with_reducible repeat (first | apply Kd.R_alloc | apply Kd.R_drewN | apply Kd.R_drew)); exact (Kd.R_mono (Kd.R_far (p := ⟨gb463, 4, none⟩) (Kd.R_far (p := ⟨gb463, 3, none⟩) (Kd.R_far (p := ⟨gb463, 2, none⟩) (Kd.R_far (p := ⟨gb463, 1, none⟩) (Kd.R_far (p := ⟨gb463, 0, none⟩) (Kd.R_types HO457.out BK463.out (by decide)) (fun _ hk => hk.2) (.int .i64 t454)) (fun _ hk => hk.2) (.slice Ao19 t455.length co19)) (fun _ hk => hk.2) (.slice Ao20 t458.length co20)) (fun _ hk => hk.2) (.int .i64 t461)) (fun _ hk => hk.2) (.bool t462)) (fun _ h_ => h_.1))) hb); have n3_ := Aside0.mk (Kd.V_below (by (with_reducible repeat (first | apply Kd.V_alloc | apply Kd.V_drewN | apply Kd.V_drew)); exact (Kd.V_mono (Kd.V_far (p := ⟨gb463, 4, none⟩) (Kd.V_far (p := ⟨gb463, 3, none⟩) (Kd.V_far (p := ⟨gb463, 2, none⟩) (Kd.V_far (p := ⟨gb463, 1, none⟩) (Kd.V_far (p := ⟨gb463, 0, none⟩) (Kd.V_mono HO460.out (fun k_ hk => (⟨hk, hk.2⟩ : _ ∧ k_ ≠ gb463))) (fun _ hk => hk.2) (.int .i64 t454)) (fun _ hk => hk.2) (.slice Ao19 t455.length co19)) (fun _ hk => hk.2) (.slice Ao20 t458.length co20)) (fun _ hk => hk.2) (.int .i64 t461)) (fun _ hk => hk.2) (.bool t462)) (fun _ h_ => h_.1))) hb); have n4_ := Aside0.mk (blk_below (g := gb453) (o := .cells #[.int .i64 t444, .slice Ao13 t445.length co13, .slice Ao14 t448.length co14] 27 (0, 0)) (by (with_reducible repeat (first | refine blk_drewN ?_ _ | refine blk_drew ?_ | refine blk_alloc ?_ _)); refine blk_far ?_ NB453_463.out _; (with_reducible repeat (first | refine blk_drewN ?_ _ | refine blk_drew ?_ | refine blk_alloc ?_ _)); refine blk_far ?_ NB453_463.out _; (with_reducible repeat (first | refine blk_drewN ?_ _ | refine blk_drew ?_ | refine blk_alloc ?_ _)); refine blk_far ?_ NB453_463.out _; (with_reducible repeat (first | refine blk_drewN ?_ _ | refine blk_drew ?_ | refine blk_alloc ?_ _)); refine blk_far ?_ NB453_463.out _; (with_reducible repeat (first | refine blk_drewN ?_ _ | refine blk_drew ?_ | refine blk_alloc ?_ _)); refine blk_far ?_ NB453_463.out _; (with_reducible repeat (first | refine blk_drewN ?_ _ | refine blk_drew ?_ | refine blk_alloc ?_ _)); exact BK453.out) hb); have n5_ := Aside0.mk (blk_below (g := gb463) (o := .cells #[.int .i64 t454, .slice Ao19 t455.length co19, .slice Ao20 t458.length co20, .int .i64 t461, .bool t462] 29 (0, 0)) (by (with_reducible repeat (first | refine blk_drewN ?_ _ | refine blk_drew ?_ | refine blk_alloc ?_ _)); refine blk_put (cs := #[.int .i64 t454, .slice Ao19 t455.length co19, .slice Ao20 t458.length co20, .int .i64 t461, .bool false]) ?_ 4 _ rfl; (with_reducible repeat (first | refine blk_drewN ?_ _ | refine blk_drew ?_ | refine blk_alloc ?_ _)); refine blk_put (cs := #[.int .i64 t454, .slice Ao19 t455.length co19, .slice Ao20 t458.length co20, .int .i64 0, .bool false]) ?_ 3 _ rfl; (with_reducible repeat (first | refine blk_drewN ?_ _ | refine blk_drew ?_ | refine blk_alloc ?_ _)); refine blk_put (cs := #[.int .i64 t454, .slice Ao19 t455.length co19, .slice none 0 0, .int .i64 0, .bool false]) ?_ 2 _ rfl; (with_reducible repeat (first | refine blk_drewN ?_ _ | refine blk_drew ?_ | refine blk_alloc ?_ _)); refine blk_put (cs := #[.int .i64 t454, .slice none 0 0, .slice none 0 0, .int .i64 0, .bool false]) ?_ 1 _ rfl; (with_reducible repeat (first | refine blk_drewN ?_ _ | refine blk_drew ?_ | refine blk_alloc ?_ _)); refine blk_put (cs := #[.int .i64 0, .slice none 0 0, .slice none 0 0, .int .i64 0, .bool false]) ?_ 0 _ rfl; (with_reducible repeat (first | refine blk_drewN ?_ _ | refine blk_drew ?_ | refine blk_alloc ?_ _)); exact BK463.out) hb); have n6_ := Aside0.mk (below_step bl hb); clear HO447; clear HO450; clear HO457; clear HO460; clear BK453; clear BK463; clear HB; have HO447 := n0_; have HO450 := n1_; have HO457 := n2_; have HO460 := n3_; have BK453 := n4_; have BK463 := n5_; have HB := n6_; clear n0_ n1_ n2_ n3_ n4_ n5_ n6_; have hcz23_0 : w22.cell? ⟨gb463, 0, none⟩ = some (.int .i64 t454) := (blk_cell BK463.out 0).trans rfl; have hcz23_1 : w22.cell? ⟨gb463, 1, none⟩ = some (.slice Ao19 t455.length co19) := (blk_cell BK463.out 1).trans rfl; have hcz23_2 : w22.cell? ⟨gb463, 2, none⟩ = some (.slice Ao20 t458.length co20) := (blk_cell BK463.out 2).trans rfl; have hcz23_3 : w22.cell? ⟨gb463, 3, none⟩ = some (.int .i64 t461) := (blk_cell BK463.out 3).trans rfl; have hcz23_4 : w22.cell? ⟨gb463, 4, none⟩ = some (.bool t462) := (blk_cell BK463.out 4).trans rfl; have hfz23_0 := blk_frozen BK463.out 0; have hfz23_1 := blk_frozen BK463.out 1; have hfz23_2 := blk_frozen BK463.out 2; have hfz23_3 := blk_frozen BK463.out 3; have hfz23_4 := blk_frozen BK463.out 4) | (go_at_call 12; (with_reducible refine (stowagelaw17_awake.calls k  t465 _ (by first | exact hG | exact gok_below hG bl | exact gok_heap hG rfl | exact gok_drewN hG _ | exact gok_below hG (by repeat (first | exact HB.out | exact HBW.out | exact Below.refl _ _ | apply below_alloc | apply pw_below_drewN | apply below_drew1))) A9.out).mono ?_); rintro e w24 ⟨rfl, hb⟩; have n0_ := Aside0.mk (Kd.V_below (by (with_reducible repeat (first | apply Kd.V_alloc | apply Kd.V_drewN | apply Kd.V_drew)); exact HO447.out) hb); have n1_ := Aside0.mk (Kd.V_below (by (with_reducible repeat (first | apply Kd.V_alloc | apply Kd.V_drewN | apply Kd.V_drew)); exact HO450.out) hb); have n2_ := Aside0.mk (Kd.R_below rl hb); have n3_ := Aside0.mk (Kd.V_below (by (with_reducible repeat (first | apply Kd.V_alloc | apply Kd.V_drewN | apply Kd.V_drew)); exact HO460.out) hb); have n4_ := Aside0.mk (blk_below (g := gb453) (o := .cells #[.int .i64 t444, .slice Ao13 t445.length co13, .slice Ao14 t448.length co14] 27 (0, 0)) kl hb); have n5_ := Aside0.mk (blk_below (g := gb463) (o := .cells #[.int .i64 t454, .slice Ao19 t455.length co19, .slice Ao20 t458.length co20, .int .i64 t461, .bool t462] 29 (0, 0)) kl hb); have n6_ := Aside0.mk (below_step bl hb); clear HO447; clear HO450; clear HO457; clear HO460; clear BK453; clear BK463; clear HB; have HO447 := n0_; have HO450 := n1_; have HO457 := n2_; have HO460 := n3_; have BK453 := n4_; have BK463 := n5_; have HB := n6_; clear n0_ n1_ n2_ n3_ n4_ n5_ n6_))
 go_ret
 exact ⟨by first | rfl | (simp [errW_none, errW_some] <;> rfl) | (simp [*, errW_none, errW_some] <;> rfl), bl⟩
 }
 {
 have c8b0 : (t452 == t462) = false := by simpa using c8
 (try (have c8b1 : decide (t452 = t462) = false := by simpa using c8))
 (try (have c8b2 : (t452 == t462) = false := by simpa using c8))
 (try (have c8b3 : ¬ (t452 = t462) := by simpa using c8))
 clear c8
 rw [hr] at H
 exact absurd H (by simp)
 }
 }
 {
 have c7b0 : (t451 == t461) = false := beq_eq_false_iff_ne.mpr c7
 have c7b1 : (t451 != t461) = true := bne_iff_ne.mpr c7
 rw [hr] at H
 exact absurd H (by simp)
 }
 }
 {
 replace c6 := Bool.eq_false_iff.mpr c6
 subst c6
 replace H := itF H
 rw [hr] at H
 exact absurd H (by simp)
 }
def stowagelaw17_ReplyParses.Pure : Prop := ∀ (l0 : List Int) (a1 : Bool), l0.length ≤ maxLen → l0.length * 1 ≤ 140737488351232 → (∀ x ∈ l0, (Lit.int .u8 x).wf = true) → ∃ k, stowagelaw17_ReplyParses.f k l0 a1 = some true
theorem stowagelaw17_ReplyParses.walk (P : stowagelaw17_ReplyParses.Pure) (a0 : Option Addr) (len0 cap0 : Nat) (z0 : List Int) (a1 : Bool) (w : World) (w0 : (a0 = none ∧ len0 = 0 ∧ cap0 = 0 ∧ z0 = []) ∨ ∃ x, a0 = some x ∧ len0 ≤ cap0 ∧ cap0 ≤ maxLen ∧ z0.length = cap0 ∧ (∀ i, i < z0.length → w.cell? (x.add i) = some (.int .u8 (z0.getD i 0))) ∧ ∀ n ∈ z0, (Lit.int .u8 n).wf = true) (y0 : len0 * 1 ≤ 140737488351232) (hG : GOk w) :
    Calls Tryd.prog 5 #[.slice a0 len0 cap0, .bool a1] w fun e w' => e = .returned (.bool true) ∧ Below w.heap.size w w' := by
 obtain ⟨l0, rfl, hr0, hm0, hw0, hc0⟩ := ReadsInt.ofRowC w0
 obtain ⟨k, h⟩ := P l0 a1 hm0 y0 hw0
 refine (stowagelaw17_ReplyParses.calls k _ _ l0 a1 true w (Kd.C_of_reads (d := (0 : Int)) (h1 := fun _ => rfl) hr0) hc0 hG h rfl).mono ?_
 rintro e w' ⟨rfl, hd⟩
 exact ⟨rfl, hd⟩
end Go.Proofs.YtfjidcmegacibaaDoor.Q
