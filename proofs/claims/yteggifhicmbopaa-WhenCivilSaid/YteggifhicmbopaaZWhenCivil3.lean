/- For all ints the law WhenCivil answers true, and its arguments read behind the call as before. No condition. -/
import Derived.Test.YteggifhicmbopaaZWhenCivil1
import Derived.Test.YteggifhicmbopaaZWhenCivil2
import Derived.KernelRfl
import Derived.Test.YteggifhicmbopaaRows
import Derived.WalkKit
import Derived.ProofKit
import Derived.OpenShut
import Derived.ShutString
import Derived.ChangeOld
import Derived.Below
import Derived.SizedLaws
/- What some Go functions compute, told as plain Lean functions, each with the proof that the call comes to just that, for all arguments. Conditions: those in the theorems. Written by a program of this session. -/
namespace Go.Proofs.Yteggifhicmbopaa.Q
open Go.RowKit Go.Proofs.YteggifhicmbopaaW.PrintWords Go.Proofs.YteggifhicmbopaaW.PrintLast Go.Proofs.YteggifhicmbopaaW.PrintMore
set_option linter.unusedVariables false
set_option linter.unusedSimpArgs false
attribute [local go_sem] max2_int min2_int max_two min_two max_three min_three max_four min_four   -- for this text's walks alone

/-! ### stowageref4_Of: function 12 -/
mutual
def stowageref4_Of.j0 : Nat → Bool → Int → Int → Int → Int → Int → Int → Option (Int × Bool)
  | 0, _, _, _, _, _, _, _ => none
  | k + 1, x69, x228000, x228001, x228002, x228003, x228004, x228005 => if x69 = true then (some (0, false)) else (stowageref4_Of.l0 k (wrap64 (x228002 - 1)) 1970 x228000 x228001 x228002 x228003 x228004 x228005)
def stowageref4_Of.l0 : Nat → Int → Int → Int → Int → Int → Int → Int → Int → Option (Int × Bool)
  | 0, _, _, _, _, _, _, _, _ => none
  | k + 1, x4, x5, x228000, x228001, x228002, x228003, x228004, x228005 => if x5 < x228000 then ((stowageref4_year.f x5).bind fun t229 => (stowageref4_Of.l0 k (wrap64 (x4 + t229)) (wrap64 (x5 + 1)) x228000 x228001 x228002 x228003 x228004 x228005)) else (stowageref4_Of.l1 k x4 1 x228000 x228001 x228002 x228003 x228004 x228005)
def stowageref4_Of.l1 : Nat → Int → Int → Int → Int → Int → Int → Int → Int → Option (Int × Bool)
  | 0, _, _, _, _, _, _, _, _ => none
  | k + 1, x4, x6, x228000, x228001, x228002, x228003, x228004, x228005 => if x6 < x228001 then ((stowageref4_size.f k x228000 x6).bind fun t230 => (stowageref4_Of.l1 k (wrap64 (x4 + t230)) (wrap64 (x6 + 1)) x228000 x228001 x228002 x228003 x228004 x228005)) else (some (wrap64 ((wrap64 ((wrap64 ((wrap64 (x4 * 86400)) + (wrap64 (x228003 * 3600)))) + (wrap64 (x228004 * 60)))) + x228005), true))
end
def stowageref4_Of.f (k : Nat) (a0_0 : Int) (a0_1 : Int) (a0_2 : Int) (a0_3 : Int) (a0_4 : Int) (a0_5 : Int) : Option (Int × Bool) := if a0_0 < 1970 then (stowageref4_Of.j0 k true a0_0 a0_1 a0_2 a0_3 a0_4 a0_5) else (if a0_0 > 9999 then (stowageref4_Of.j0 k true a0_0 a0_1 a0_2 a0_3 a0_4 a0_5) else (if a0_1 < 1 then (stowageref4_Of.j0 k true a0_0 a0_1 a0_2 a0_3 a0_4 a0_5) else (if a0_1 > 12 then (stowageref4_Of.j0 k true a0_0 a0_1 a0_2 a0_3 a0_4 a0_5) else (if a0_2 < 1 then (stowageref4_Of.j0 k true a0_0 a0_1 a0_2 a0_3 a0_4 a0_5) else ((stowageref4_size.f k a0_0 a0_1).bind fun t228 => (if a0_2 > t228 then (stowageref4_Of.j0 k true a0_0 a0_1 a0_2 a0_3 a0_4 a0_5) else (if a0_3 < 0 then (stowageref4_Of.j0 k true a0_0 a0_1 a0_2 a0_3 a0_4 a0_5) else (if a0_3 > 23 then (stowageref4_Of.j0 k true a0_0 a0_1 a0_2 a0_3 a0_4 a0_5) else (if a0_4 < 0 then (stowageref4_Of.j0 k true a0_0 a0_1 a0_2 a0_3 a0_4 a0_5) else (if a0_4 > 59 then (stowageref4_Of.j0 k true a0_0 a0_1 a0_2 a0_3 a0_4 a0_5) else (if a0_5 < 0 then (stowageref4_Of.j0 k true a0_0 a0_1 a0_2 a0_3 a0_4 a0_5) else (stowageref4_Of.j0 k (decide (a0_5 > 59)) a0_0 a0_1 a0_2 a0_3 a0_4 a0_5))))))))))))
theorem stowageref4_Of.mono_l : ∀ k, (∀ y0 y1 y2 y3 y4 y5 y6, LeO (stowageref4_Of.j0 k y0 y1 y2 y3 y4 y5 y6) (stowageref4_Of.j0 (k + 1) y0 y1 y2 y3 y4 y5 y6)) ∧ (∀ y0 y1 y2 y3 y4 y5 y6 y7, LeO (stowageref4_Of.l0 k y0 y1 y2 y3 y4 y5 y6 y7) (stowageref4_Of.l0 (k + 1) y0 y1 y2 y3 y4 y5 y6 y7)) ∧ (∀ y0 y1 y2 y3 y4 y5 y6 y7, LeO (stowageref4_Of.l1 k y0 y1 y2 y3 y4 y5 y6 y7) (stowageref4_Of.l1 (k + 1) y0 y1 y2 y3 y4 y5 y6 y7))
  | 0 => ⟨fun _ _ _ _ _ _ _ r h => by simp [stowageref4_Of.j0] at h, fun _ _ _ _ _ _ _ _ r h => by simp [stowageref4_Of.l0] at h, fun _ _ _ _ _ _ _ _ r h => by simp [stowageref4_Of.l1] at h⟩
  | k + 1 => by
    obtain ⟨ih0, ih1, ih2⟩ := stowageref4_Of.mono_l k
    refine ⟨?_, ?_, ?_⟩
    · intro y0 y1 y2 y3 y4 y5 y6
      unfold stowageref4_Of.j0
      repeat' first
      | (with_reducible exact ih0 _ _ _ _ _ _ _)
      | (with_reducible exact ih1 _ _ _ _ _ _ _ _)
      | (with_reducible exact ih2 _ _ _ _ _ _ _ _)
      | (with_reducible exact stowageref4_size.mono _ _ _)
      | (with_reducible exact LeO.refl _)
      | (with_reducible exact LeO.none _)
      | (with_reducible refine LeO.ite ?_ ?_)
      | (with_reducible refine LeO.bind ?_ (fun _ => ?_))
      | exact ih0 _ _ _ _ _ _ _
      | exact ih1 _ _ _ _ _ _ _ _
      | exact ih2 _ _ _ _ _ _ _ _
      | exact stowageref4_size.mono _ _ _
      | exact LeO.none _
      | refine LeO.ite ?_ ?_
      | refine LeO.bind ?_ (fun _ => ?_)
    · intro y0 y1 y2 y3 y4 y5 y6 y7
      unfold stowageref4_Of.l0
      repeat' first
      | (with_reducible exact ih0 _ _ _ _ _ _ _)
      | (with_reducible exact ih1 _ _ _ _ _ _ _ _)
      | (with_reducible exact ih2 _ _ _ _ _ _ _ _)
      | (with_reducible exact stowageref4_size.mono _ _ _)
      | (with_reducible exact LeO.refl _)
      | (with_reducible exact LeO.none _)
      | (with_reducible refine LeO.ite ?_ ?_)
      | (with_reducible refine LeO.bind ?_ (fun _ => ?_))
      | exact ih0 _ _ _ _ _ _ _
      | exact ih1 _ _ _ _ _ _ _ _
      | exact ih2 _ _ _ _ _ _ _ _
      | exact stowageref4_size.mono _ _ _
      | exact LeO.none _
      | refine LeO.ite ?_ ?_
      | refine LeO.bind ?_ (fun _ => ?_)
    · intro y0 y1 y2 y3 y4 y5 y6 y7
      unfold stowageref4_Of.l1
      repeat' first
      | (with_reducible exact ih0 _ _ _ _ _ _ _)
      | (with_reducible exact ih1 _ _ _ _ _ _ _ _)
      | (with_reducible exact ih2 _ _ _ _ _ _ _ _)
      | (with_reducible exact stowageref4_size.mono _ _ _)
      | (with_reducible exact LeO.refl _)
      | (with_reducible exact LeO.none _)
      | (with_reducible refine LeO.ite ?_ ?_)
      | (with_reducible refine LeO.bind ?_ (fun _ => ?_))
      | exact ih0 _ _ _ _ _ _ _
      | exact ih1 _ _ _ _ _ _ _ _
      | exact ih2 _ _ _ _ _ _ _ _
      | exact stowageref4_size.mono _ _ _
      | exact LeO.none _
      | refine LeO.ite ?_ ?_
      | refine LeO.bind ?_ (fun _ => ?_)
theorem stowageref4_Of.mono : ∀ a0 a1 a2 a3 a4 a5 k, LeO (stowageref4_Of.f k a0 a1 a2 a3 a4 a5) (stowageref4_Of.f (k + 1) a0 a1 a2 a3 a4 a5) := by
  intro a0 a1 a2 a3 a4 a5 k
  obtain ⟨ih0, ih1, ih2⟩ := stowageref4_Of.mono_l k
  unfold stowageref4_Of.f
  repeat' first
      | (with_reducible exact ih0 _ _ _ _ _ _ _)
      | (with_reducible exact ih1 _ _ _ _ _ _ _ _)
      | (with_reducible exact ih2 _ _ _ _ _ _ _ _)
      | (with_reducible exact stowageref4_size.mono _ _ _)
      | (with_reducible exact LeO.refl _)
      | (with_reducible exact LeO.none _)
      | (with_reducible refine LeO.ite ?_ ?_)
      | (with_reducible refine LeO.bind ?_ (fun _ => ?_))
      | exact ih0 _ _ _ _ _ _ _
      | exact ih1 _ _ _ _ _ _ _ _
      | exact ih2 _ _ _ _ _ _ _ _
      | exact stowageref4_size.mono _ _ _
      | exact LeO.none _
      | refine LeO.ite ?_ ?_
      | refine LeO.bind ?_ (fun _ => ?_)
set_option maxHeartbeats 8000000 in
set_option maxRecDepth 100000 in
theorem stowageref4_Of.calls (k : Nat) (a0_0 : Int) (a0_1 : Int) (a0_2 : Int) (a0_3 : Int) (a0_4 : Int) (a0_5 : Int) (r1 : Int) (r2 : Bool) (w : World) (h : stowageref4_Of.f k a0_0 a0_1 a0_2 a0_3 a0_4 a0_5 = some (r1, r2)) :
    Calls Try.prog 12 #[.agg #[.int .i64 a0_0, .int .i64 a0_1, .int .i64 a0_2, .int .i64 a0_3, .int .i64 a0_4, .int .i64 a0_5]] w fun e w' => e = .returned (.tuple #[.int .i64 r1, .bool r2]) ∧ Below w.heap.size w w' := by
  have hu27 := Try.underlying27
  have HB := Aside0.mk (Below.refl w.heap.size w)
  have H : (if a0_0 < 1970 then (stowageref4_Of.j0 k true a0_0 a0_1 a0_2 a0_3 a0_4 a0_5) else (if a0_0 > 9999 then (stowageref4_Of.j0 k true a0_0 a0_1 a0_2 a0_3 a0_4 a0_5) else (if a0_1 < 1 then (stowageref4_Of.j0 k true a0_0 a0_1 a0_2 a0_3 a0_4 a0_5) else (if a0_1 > 12 then (stowageref4_Of.j0 k true a0_0 a0_1 a0_2 a0_3 a0_4 a0_5) else (if a0_2 < 1 then (stowageref4_Of.j0 k true a0_0 a0_1 a0_2 a0_3 a0_4 a0_5) else ((stowageref4_size.f k a0_0 a0_1).bind fun t228 => (if a0_2 > t228 then (stowageref4_Of.j0 k true a0_0 a0_1 a0_2 a0_3 a0_4 a0_5) else (if a0_3 < 0 then (stowageref4_Of.j0 k true a0_0 a0_1 a0_2 a0_3 a0_4 a0_5) else (if a0_3 > 23 then (stowageref4_Of.j0 k true a0_0 a0_1 a0_2 a0_3 a0_4 a0_5) else (if a0_4 < 0 then (stowageref4_Of.j0 k true a0_0 a0_1 a0_2 a0_3 a0_4 a0_5) else (if a0_4 > 59 then (stowageref4_Of.j0 k true a0_0 a0_1 a0_2 a0_3 a0_4 a0_5) else (if a0_5 < 0 then (stowageref4_Of.j0 k true a0_0 a0_1 a0_2 a0_3 a0_4 a0_5) else (stowageref4_Of.j0 k (decide (a0_5 > 59)) a0_0 a0_1 a0_2 a0_3 a0_4 a0_5))))))))))))) = some (r1, r2) := h
  clear h
  have HC2 := Aside0.mk H
  clear H
  go_enter Try.func12, Try.ntmps12
  go_upto_region 1 with (first | ((with_reducible refine gate_dst (N := 1) rfl ?_); refine box_event ?hg (N := 1) ?hd (cs := #[.int .i64 a0_0, .int .i64 a0_1, .int .i64 a0_2, .int .i64 a0_3, .int .i64 a0_4, .int .i64 a0_5]) (t := 27) ?hr ?_; (case hd => rfl); (case hg => rfl); (case hr => first | (go_simp; done) | (go_simp; rfl)); intro gb227 hg w3 hbox hb; have n0_ := Aside0.mk (below_step (by repeat (first | (with_reducible first | exact HB.out | apply below_alloc | apply pw_below_drewN | apply below_drew1) | exact HB.out)) hb); have n1_ := Aside0.mk (hbox); have n2_ := Aside0.mk ((by rw [hg]; exact (below_size (by repeat (first | (with_reducible first | exact HB.out | apply below_alloc | apply pw_below_drewN | apply below_drew1) | exact HB.out))) : w.heap.size ≤ gb227)); have n3_ := Aside0.mk ((by rw [hg]; exact (below_size (by repeat (first | (with_reducible first | exact HB.out | apply below_alloc | apply pw_below_drewN | apply below_drew1) | exact HB.out))) : w.heap.size ≤ gb227)); clear HB; have HB := n0_; have BK227 := n1_; have GW227 := n2_; have GE227 := n3_; clear n0_ n1_ n2_ n3_; clear hb hbox hg))
  repeat (go_quiet (first | ((with_reducible refine gate_dst (N := 1) rfl ?_); refine box_event ?hg (N := 1) ?hd (cs := #[.int .i64 a0_0, .int .i64 a0_1, .int .i64 a0_2, .int .i64 a0_3, .int .i64 a0_4, .int .i64 a0_5]) (t := 27) ?hr ?_; (case hd => rfl); (case hg => rfl); (case hr => first | (go_simp; done) | (go_simp; rfl)); intro gb227 hg w3 hbox hb; have n0_ := Aside0.mk (below_step (by repeat (first | (with_reducible first | exact HB.out | apply below_alloc | apply pw_below_drewN | apply below_drew1) | exact HB.out)) hb); have n1_ := Aside0.mk (hbox); have n2_ := Aside0.mk ((by rw [hg]; exact (below_size (by repeat (first | (with_reducible first | exact HB.out | apply below_alloc | apply pw_below_drewN | apply below_drew1) | exact HB.out))) : w.heap.size ≤ gb227)); have n3_ := Aside0.mk ((by rw [hg]; exact (below_size (by repeat (first | (with_reducible first | exact HB.out | apply below_alloc | apply pw_below_drewN | apply below_drew1) | exact HB.out))) : w.heap.size ≤ gb227)); clear HB; have HB := n0_; have BK227 := n1_; have GW227 := n2_; have GE227 := n3_; clear n0_ n1_ n2_ n3_; clear hb hbox hg)); go_upto_region 1 with (first | ((with_reducible refine gate_dst (N := 1) rfl ?_); refine box_event ?hg (N := 1) ?hd (cs := #[.int .i64 a0_0, .int .i64 a0_1, .int .i64 a0_2, .int .i64 a0_3, .int .i64 a0_4, .int .i64 a0_5]) (t := 27) ?hr ?_; (case hd => rfl); (case hg => rfl); (case hr => first | (go_simp; done) | (go_simp; rfl)); intro gb227 hg w3 hbox hb; have n0_ := Aside0.mk (below_step (by repeat (first | (with_reducible first | exact HB.out | apply below_alloc | apply pw_below_drewN | apply below_drew1) | exact HB.out)) hb); have n1_ := Aside0.mk (hbox); have n2_ := Aside0.mk ((by rw [hg]; exact (below_size (by repeat (first | (with_reducible first | exact HB.out | apply below_alloc | apply pw_below_drewN | apply below_drew1) | exact HB.out))) : w.heap.size ≤ gb227)); have n3_ := Aside0.mk ((by rw [hg]; exact (below_size (by repeat (first | (with_reducible first | exact HB.out | apply below_alloc | apply pw_below_drewN | apply below_drew1) | exact HB.out))) : w.heap.size ≤ gb227)); clear HB; have HB := n0_; have BK227 := n1_; have GW227 := n2_; have GE227 := n3_; clear n0_ n1_ n2_ n3_; clear hb hbox hg)))
  (try simp only [Act.put, List.setIfInBounds_toArray, List.set_cons_zero, List.set_cons_succ])
  go_cut [69] (fun v69 wc => ∃ (kq : Nat) (x69_1 : Bool), v69 = .bool x69_1 ∧ Aside0 (stowageref4_Of.j0 kq x69_1 a0_0 a0_1 a0_2 a0_3 a0_4 a0_5 = some (r1, r2)) ∧ Aside0 (kq ≤ k) ∧ Aside0 (wc.heap[gb227]? = some (.cells #[.int .i64 a0_0, .int .i64 a0_1, .int .i64 a0_2, .int .i64 a0_3, .int .i64 a0_4, .int .i64 a0_5] 27 (0, 0))) ∧ Aside0 (Below w.heap.size w wc))
  case first =>
    have H := HC2.out
    clear HC2
    by_cases c4 : a0_0 < 1970
    · rw [if_pos c4] at H
      have c4b0 : decide (a0_0 < 1970) = true := decide_eq_true c4
      clear c4
      (first | rw [c4b0] | (simp only [i64_w, i32_w]; rw [c4b0]) | skip)
      have H' := Aside0.mk H
      clear H
      have hcz5_0 : w3.cell? ⟨gb227, 0, none⟩ = some (.int .i64 a0_0) := (blk_cell BK227.out 0).trans rfl
      have hcz5_1 : w3.cell? ⟨gb227, 1, none⟩ = some (.int .i64 a0_1) := (blk_cell BK227.out 1).trans rfl
      have hcz5_2 : w3.cell? ⟨gb227, 2, none⟩ = some (.int .i64 a0_2) := (blk_cell BK227.out 2).trans rfl
      have hcz5_3 : w3.cell? ⟨gb227, 3, none⟩ = some (.int .i64 a0_3) := (blk_cell BK227.out 3).trans rfl
      have hcz5_4 : w3.cell? ⟨gb227, 4, none⟩ = some (.int .i64 a0_4) := (blk_cell BK227.out 4).trans rfl
      have hcz5_5 : w3.cell? ⟨gb227, 5, none⟩ = some (.int .i64 a0_5) := (blk_cell BK227.out 5).trans rfl
      have hfz5_0 := blk_frozen BK227.out 0
      have hfz5_1 := blk_frozen BK227.out 1
      have hfz5_2 := blk_frozen BK227.out 2
      have hfz5_3 := blk_frozen BK227.out 3
      have hfz5_4 := blk_frozen BK227.out 4
      have hfz5_5 := blk_frozen BK227.out 5
      go_wp2
      repeat (go_quiet (fail); try go_wp2)
      go_meet
      case rel => exact ⟨_, (true), (by first | rfl | (simp; done) | (simp [*]; done)), H', ⟨by first | omega | exact Nat.le_refl _⟩, ⟨by (with_reducible repeat (first | refine blk_drewN ?_ _ | refine blk_drew ?_ | refine blk_alloc ?_ _)); exact BK227.out⟩, ⟨by repeat (first | (with_reducible first | exact HB.out | apply below_alloc | apply pw_below_drewN | apply below_drew1 | refine below_set ?_ GE227.out) | exact HB.out)⟩⟩
    · rw [if_neg c4] at H
      have c4b0 : decide (a0_0 < 1970) = false := decide_eq_false c4
      clear c4
      (first | rw [c4b0] | (simp only [i64_w, i32_w]; rw [c4b0]) | skip)
      by_cases c6 : a0_0 > 9999
      · rw [if_pos c6] at H
        have c6b0 : decide (9999 < a0_0) = true := decide_eq_true c6
        clear c6
        have H' := Aside0.mk H
        clear H
        have hcz7_0 : w3.cell? ⟨gb227, 0, none⟩ = some (.int .i64 a0_0) := (blk_cell BK227.out 0).trans rfl
        have hcz7_1 : w3.cell? ⟨gb227, 1, none⟩ = some (.int .i64 a0_1) := (blk_cell BK227.out 1).trans rfl
        have hcz7_2 : w3.cell? ⟨gb227, 2, none⟩ = some (.int .i64 a0_2) := (blk_cell BK227.out 2).trans rfl
        have hcz7_3 : w3.cell? ⟨gb227, 3, none⟩ = some (.int .i64 a0_3) := (blk_cell BK227.out 3).trans rfl
        have hcz7_4 : w3.cell? ⟨gb227, 4, none⟩ = some (.int .i64 a0_4) := (blk_cell BK227.out 4).trans rfl
        have hcz7_5 : w3.cell? ⟨gb227, 5, none⟩ = some (.int .i64 a0_5) := (blk_cell BK227.out 5).trans rfl
        have hfz7_0 := blk_frozen BK227.out 0
        have hfz7_1 := blk_frozen BK227.out 1
        have hfz7_2 := blk_frozen BK227.out 2
        have hfz7_3 := blk_frozen BK227.out 3
        have hfz7_4 := blk_frozen BK227.out 4
        have hfz7_5 := blk_frozen BK227.out 5
        go_wp2
        repeat (go_quiet (fail); try go_wp2)
        go_meet
        case rel => exact ⟨_, (true), (by first | rfl | (simp; done) | (simp [*]; done)), H', ⟨by first | omega | exact Nat.le_refl _⟩, ⟨by (with_reducible repeat (first | refine blk_drewN ?_ _ | refine blk_drew ?_ | refine blk_alloc ?_ _)); exact BK227.out⟩, ⟨by repeat (first | (with_reducible first | exact HB.out | apply below_alloc | apply pw_below_drewN | apply below_drew1 | refine below_set ?_ GE227.out) | exact HB.out)⟩⟩
      · rw [if_neg c6] at H
        have c6b0 : decide (9999 < a0_0) = false := decide_eq_false c6
        clear c6
        by_cases c8 : a0_1 < 1
        · rw [if_pos c8] at H
          have c8b0 : decide (a0_1 < 1) = true := decide_eq_true c8
          clear c8
          have H' := Aside0.mk H
          clear H
          have hcz9_0 : w3.cell? ⟨gb227, 0, none⟩ = some (.int .i64 a0_0) := (blk_cell BK227.out 0).trans rfl
          have hcz9_1 : w3.cell? ⟨gb227, 1, none⟩ = some (.int .i64 a0_1) := (blk_cell BK227.out 1).trans rfl
          have hcz9_2 : w3.cell? ⟨gb227, 2, none⟩ = some (.int .i64 a0_2) := (blk_cell BK227.out 2).trans rfl
          have hcz9_3 : w3.cell? ⟨gb227, 3, none⟩ = some (.int .i64 a0_3) := (blk_cell BK227.out 3).trans rfl
          have hcz9_4 : w3.cell? ⟨gb227, 4, none⟩ = some (.int .i64 a0_4) := (blk_cell BK227.out 4).trans rfl
          have hcz9_5 : w3.cell? ⟨gb227, 5, none⟩ = some (.int .i64 a0_5) := (blk_cell BK227.out 5).trans rfl
          have hfz9_0 := blk_frozen BK227.out 0
          have hfz9_1 := blk_frozen BK227.out 1
          have hfz9_2 := blk_frozen BK227.out 2
          have hfz9_3 := blk_frozen BK227.out 3
          have hfz9_4 := blk_frozen BK227.out 4
          have hfz9_5 := blk_frozen BK227.out 5
          go_wp2
          repeat (go_quiet (fail); try go_wp2)
          go_meet
          case rel => exact ⟨_, (true), (by first | rfl | (simp; done) | (simp [*]; done)), H', ⟨by first | omega | exact Nat.le_refl _⟩, ⟨by (with_reducible repeat (first | refine blk_drewN ?_ _ | refine blk_drew ?_ | refine blk_alloc ?_ _)); exact BK227.out⟩, ⟨by repeat (first | (with_reducible first | exact HB.out | apply below_alloc | apply pw_below_drewN | apply below_drew1 | refine below_set ?_ GE227.out) | exact HB.out)⟩⟩
        · rw [if_neg c8] at H
          have c8b0 : decide (a0_1 < 1) = false := decide_eq_false c8
          clear c8
          by_cases c10 : a0_1 > 12
          · rw [if_pos c10] at H
            have c10b0 : decide (12 < a0_1) = true := decide_eq_true c10
            clear c10
            have H' := Aside0.mk H
            clear H
            have hcz11_0 : w3.cell? ⟨gb227, 0, none⟩ = some (.int .i64 a0_0) := (blk_cell BK227.out 0).trans rfl
            have hcz11_1 : w3.cell? ⟨gb227, 1, none⟩ = some (.int .i64 a0_1) := (blk_cell BK227.out 1).trans rfl
            have hcz11_2 : w3.cell? ⟨gb227, 2, none⟩ = some (.int .i64 a0_2) := (blk_cell BK227.out 2).trans rfl
            have hcz11_3 : w3.cell? ⟨gb227, 3, none⟩ = some (.int .i64 a0_3) := (blk_cell BK227.out 3).trans rfl
            have hcz11_4 : w3.cell? ⟨gb227, 4, none⟩ = some (.int .i64 a0_4) := (blk_cell BK227.out 4).trans rfl
            have hcz11_5 : w3.cell? ⟨gb227, 5, none⟩ = some (.int .i64 a0_5) := (blk_cell BK227.out 5).trans rfl
            have hfz11_0 := blk_frozen BK227.out 0
            have hfz11_1 := blk_frozen BK227.out 1
            have hfz11_2 := blk_frozen BK227.out 2
            have hfz11_3 := blk_frozen BK227.out 3
            have hfz11_4 := blk_frozen BK227.out 4
            have hfz11_5 := blk_frozen BK227.out 5
            go_wp2
            repeat (go_quiet (fail); try go_wp2)
            go_meet
            case rel => exact ⟨_, (true), (by first | rfl | (simp; done) | (simp [*]; done)), H', ⟨by first | omega | exact Nat.le_refl _⟩, ⟨by (with_reducible repeat (first | refine blk_drewN ?_ _ | refine blk_drew ?_ | refine blk_alloc ?_ _)); exact BK227.out⟩, ⟨by repeat (first | (with_reducible first | exact HB.out | apply below_alloc | apply pw_below_drewN | apply below_drew1 | refine below_set ?_ GE227.out) | exact HB.out)⟩⟩
          · rw [if_neg c10] at H
            have c10b0 : decide (12 < a0_1) = false := decide_eq_false c10
            clear c10
            by_cases c12 : a0_2 < 1
            · rw [if_pos c12] at H
              have c12b0 : decide (a0_2 < 1) = true := decide_eq_true c12
              clear c12
              have H' := Aside0.mk H
              clear H
              have hcz13_0 : w3.cell? ⟨gb227, 0, none⟩ = some (.int .i64 a0_0) := (blk_cell BK227.out 0).trans rfl
              have hcz13_1 : w3.cell? ⟨gb227, 1, none⟩ = some (.int .i64 a0_1) := (blk_cell BK227.out 1).trans rfl
              have hcz13_2 : w3.cell? ⟨gb227, 2, none⟩ = some (.int .i64 a0_2) := (blk_cell BK227.out 2).trans rfl
              have hcz13_3 : w3.cell? ⟨gb227, 3, none⟩ = some (.int .i64 a0_3) := (blk_cell BK227.out 3).trans rfl
              have hcz13_4 : w3.cell? ⟨gb227, 4, none⟩ = some (.int .i64 a0_4) := (blk_cell BK227.out 4).trans rfl
              have hcz13_5 : w3.cell? ⟨gb227, 5, none⟩ = some (.int .i64 a0_5) := (blk_cell BK227.out 5).trans rfl
              have hfz13_0 := blk_frozen BK227.out 0
              have hfz13_1 := blk_frozen BK227.out 1
              have hfz13_2 := blk_frozen BK227.out 2
              have hfz13_3 := blk_frozen BK227.out 3
              have hfz13_4 := blk_frozen BK227.out 4
              have hfz13_5 := blk_frozen BK227.out 5
              go_wp2
              repeat (go_quiet (fail); try go_wp2)
              go_meet
              case rel => exact ⟨_, (true), (by first | rfl | (simp; done) | (simp [*]; done)), H', ⟨by first | omega | exact Nat.le_refl _⟩, ⟨by (with_reducible repeat (first | refine blk_drewN ?_ _ | refine blk_drew ?_ | refine blk_alloc ?_ _)); exact BK227.out⟩, ⟨by repeat (first | (with_reducible first | exact HB.out | apply below_alloc | apply pw_below_drewN | apply below_drew1 | refine below_set ?_ GE227.out) | exact HB.out)⟩⟩
            · rw [if_neg c12] at H
              have c12b0 : decide (a0_2 < 1) = false := decide_eq_false c12
              clear c12
              replace H := Option.bind_eq_some_iff.mp H
              obtain ⟨t228, A140, H⟩ := H
              replace H : (if a0_2 > t228 then (stowageref4_Of.j0 k true a0_0 a0_1 a0_2 a0_3 a0_4 a0_5) else (if a0_3 < 0 then (stowageref4_Of.j0 k true a0_0 a0_1 a0_2 a0_3 a0_4 a0_5) else (if a0_3 > 23 then (stowageref4_Of.j0 k true a0_0 a0_1 a0_2 a0_3 a0_4 a0_5) else (if a0_4 < 0 then (stowageref4_Of.j0 k true a0_0 a0_1 a0_2 a0_3 a0_4 a0_5) else (if a0_4 > 59 then (stowageref4_Of.j0 k true a0_0 a0_1 a0_2 a0_3 a0_4 a0_5) else (if a0_5 < 0 then (stowageref4_Of.j0 k true a0_0 a0_1 a0_2 a0_3 a0_4 a0_5) else (stowageref4_Of.j0 k (decide (a0_5 > 59)) a0_0 a0_1 a0_2 a0_3 a0_4 a0_5))))))) = some (r1, r2) := H
              have A14 := Aside0.mk A140
              clear A140
              by_cases c15 : a0_2 > t228
              · rw [if_pos c15] at H
                have c15b0 : decide (t228 < a0_2) = true := decide_eq_true c15
                clear c15
                have H' := Aside0.mk H
                clear H
                have hcz16_0 : w3.cell? ⟨gb227, 0, none⟩ = some (.int .i64 a0_0) := (blk_cell BK227.out 0).trans rfl
                have hcz16_1 : w3.cell? ⟨gb227, 1, none⟩ = some (.int .i64 a0_1) := (blk_cell BK227.out 1).trans rfl
                have hcz16_2 : w3.cell? ⟨gb227, 2, none⟩ = some (.int .i64 a0_2) := (blk_cell BK227.out 2).trans rfl
                have hcz16_3 : w3.cell? ⟨gb227, 3, none⟩ = some (.int .i64 a0_3) := (blk_cell BK227.out 3).trans rfl
                have hcz16_4 : w3.cell? ⟨gb227, 4, none⟩ = some (.int .i64 a0_4) := (blk_cell BK227.out 4).trans rfl
                have hcz16_5 : w3.cell? ⟨gb227, 5, none⟩ = some (.int .i64 a0_5) := (blk_cell BK227.out 5).trans rfl
                have hfz16_0 := blk_frozen BK227.out 0
                have hfz16_1 := blk_frozen BK227.out 1
                have hfz16_2 := blk_frozen BK227.out 2
                have hfz16_3 := blk_frozen BK227.out 3
                have hfz16_4 := blk_frozen BK227.out 4
                have hfz16_5 := blk_frozen BK227.out 5
                go_wp2_with (first | (go_at_call 31; (with_reducible refine (stowageref4_size.calls k a0_0 a0_1 t228 _ A14.out).mono ?_); rintro e w' ⟨rfl, ⟨nd, rfl⟩⟩; (try first | exact ⟨rfl, _, World.drewN_drewN _ _ _⟩ | exact ⟨rfl, _, Eq.trans (World.drewN_drewN _ _ _) (congrArg (World.drewN _) (Nat.add_assoc _ _ _))⟩)))
                repeat (go_quiet (first | (go_at_call 31; (with_reducible refine (stowageref4_size.calls k a0_0 a0_1 t228 _ A14.out).mono ?_); rintro e w' ⟨rfl, ⟨nd, rfl⟩⟩; (try first | exact ⟨rfl, _, World.drewN_drewN _ _ _⟩ | exact ⟨rfl, _, Eq.trans (World.drewN_drewN _ _ _) (congrArg (World.drewN _) (Nat.add_assoc _ _ _))⟩))); try go_wp2_with (first | (go_at_call 31; (with_reducible refine (stowageref4_size.calls k a0_0 a0_1 t228 _ A14.out).mono ?_); rintro e w' ⟨rfl, ⟨nd, rfl⟩⟩; (try first | exact ⟨rfl, _, World.drewN_drewN _ _ _⟩ | exact ⟨rfl, _, Eq.trans (World.drewN_drewN _ _ _) (congrArg (World.drewN _) (Nat.add_assoc _ _ _))⟩))))
                go_meet
                case rel => exact ⟨_, (true), (by first | rfl | (simp; done) | (simp [*]; done)), H', ⟨by first | omega | exact Nat.le_refl _⟩, ⟨by (with_reducible repeat (first | refine blk_drewN ?_ _ | refine blk_drew ?_ | refine blk_alloc ?_ _)); exact BK227.out⟩, ⟨by repeat (first | (with_reducible first | exact HB.out | apply below_alloc | apply pw_below_drewN | apply below_drew1 | refine below_set ?_ GE227.out) | exact HB.out)⟩⟩
              · rw [if_neg c15] at H
                have c15b0 : decide (t228 < a0_2) = false := decide_eq_false c15
                clear c15
                by_cases c17 : a0_3 < 0
                · rw [if_pos c17] at H
                  have c17b0 : decide (a0_3 < 0) = true := decide_eq_true c17
                  clear c17
                  have H' := Aside0.mk H
                  clear H
                  have hcz18_0 : w3.cell? ⟨gb227, 0, none⟩ = some (.int .i64 a0_0) := (blk_cell BK227.out 0).trans rfl
                  have hcz18_1 : w3.cell? ⟨gb227, 1, none⟩ = some (.int .i64 a0_1) := (blk_cell BK227.out 1).trans rfl
                  have hcz18_2 : w3.cell? ⟨gb227, 2, none⟩ = some (.int .i64 a0_2) := (blk_cell BK227.out 2).trans rfl
                  have hcz18_3 : w3.cell? ⟨gb227, 3, none⟩ = some (.int .i64 a0_3) := (blk_cell BK227.out 3).trans rfl
                  have hcz18_4 : w3.cell? ⟨gb227, 4, none⟩ = some (.int .i64 a0_4) := (blk_cell BK227.out 4).trans rfl
                  have hcz18_5 : w3.cell? ⟨gb227, 5, none⟩ = some (.int .i64 a0_5) := (blk_cell BK227.out 5).trans rfl
                  have hfz18_0 := blk_frozen BK227.out 0
                  have hfz18_1 := blk_frozen BK227.out 1
                  have hfz18_2 := blk_frozen BK227.out 2
                  have hfz18_3 := blk_frozen BK227.out 3
                  have hfz18_4 := blk_frozen BK227.out 4
                  have hfz18_5 := blk_frozen BK227.out 5
                  go_wp2_with (first | (go_at_call 31; (with_reducible refine (stowageref4_size.calls k a0_0 a0_1 t228 _ A14.out).mono ?_); rintro e w' ⟨rfl, ⟨nd, rfl⟩⟩; (try first | exact ⟨rfl, _, World.drewN_drewN _ _ _⟩ | exact ⟨rfl, _, Eq.trans (World.drewN_drewN _ _ _) (congrArg (World.drewN _) (Nat.add_assoc _ _ _))⟩)))
                  repeat (go_quiet (first | (go_at_call 31; (with_reducible refine (stowageref4_size.calls k a0_0 a0_1 t228 _ A14.out).mono ?_); rintro e w' ⟨rfl, ⟨nd, rfl⟩⟩; (try first | exact ⟨rfl, _, World.drewN_drewN _ _ _⟩ | exact ⟨rfl, _, Eq.trans (World.drewN_drewN _ _ _) (congrArg (World.drewN _) (Nat.add_assoc _ _ _))⟩))); try go_wp2_with (first | (go_at_call 31; (with_reducible refine (stowageref4_size.calls k a0_0 a0_1 t228 _ A14.out).mono ?_); rintro e w' ⟨rfl, ⟨nd, rfl⟩⟩; (try first | exact ⟨rfl, _, World.drewN_drewN _ _ _⟩ | exact ⟨rfl, _, Eq.trans (World.drewN_drewN _ _ _) (congrArg (World.drewN _) (Nat.add_assoc _ _ _))⟩))))
                  go_meet
                  case rel => exact ⟨_, (true), (by first | rfl | (simp; done) | (simp [*]; done)), H', ⟨by first | omega | exact Nat.le_refl _⟩, ⟨by (with_reducible repeat (first | refine blk_drewN ?_ _ | refine blk_drew ?_ | refine blk_alloc ?_ _)); exact BK227.out⟩, ⟨by repeat (first | (with_reducible first | exact HB.out | apply below_alloc | apply pw_below_drewN | apply below_drew1 | refine below_set ?_ GE227.out) | exact HB.out)⟩⟩
                · rw [if_neg c17] at H
                  have c17b0 : decide (a0_3 < 0) = false := decide_eq_false c17
                  clear c17
                  by_cases c19 : a0_3 > 23
                  · rw [if_pos c19] at H
                    have c19b0 : decide (23 < a0_3) = true := decide_eq_true c19
                    clear c19
                    have H' := Aside0.mk H
                    clear H
                    have hcz20_0 : w3.cell? ⟨gb227, 0, none⟩ = some (.int .i64 a0_0) := (blk_cell BK227.out 0).trans rfl
                    have hcz20_1 : w3.cell? ⟨gb227, 1, none⟩ = some (.int .i64 a0_1) := (blk_cell BK227.out 1).trans rfl
                    have hcz20_2 : w3.cell? ⟨gb227, 2, none⟩ = some (.int .i64 a0_2) := (blk_cell BK227.out 2).trans rfl
                    have hcz20_3 : w3.cell? ⟨gb227, 3, none⟩ = some (.int .i64 a0_3) := (blk_cell BK227.out 3).trans rfl
                    have hcz20_4 : w3.cell? ⟨gb227, 4, none⟩ = some (.int .i64 a0_4) := (blk_cell BK227.out 4).trans rfl
                    have hcz20_5 : w3.cell? ⟨gb227, 5, none⟩ = some (.int .i64 a0_5) := (blk_cell BK227.out 5).trans rfl
                    have hfz20_0 := blk_frozen BK227.out 0
                    have hfz20_1 := blk_frozen BK227.out 1
                    have hfz20_2 := blk_frozen BK227.out 2
                    have hfz20_3 := blk_frozen BK227.out 3
                    have hfz20_4 := blk_frozen BK227.out 4
                    have hfz20_5 := blk_frozen BK227.out 5
                    go_wp2_with (first | (go_at_call 31; (with_reducible refine (stowageref4_size.calls k a0_0 a0_1 t228 _ A14.out).mono ?_); rintro e w' ⟨rfl, ⟨nd, rfl⟩⟩; (try first | exact ⟨rfl, _, World.drewN_drewN _ _ _⟩ | exact ⟨rfl, _, Eq.trans (World.drewN_drewN _ _ _) (congrArg (World.drewN _) (Nat.add_assoc _ _ _))⟩)))
                    repeat (go_quiet (first | (go_at_call 31; (with_reducible refine (stowageref4_size.calls k a0_0 a0_1 t228 _ A14.out).mono ?_); rintro e w' ⟨rfl, ⟨nd, rfl⟩⟩; (try first | exact ⟨rfl, _, World.drewN_drewN _ _ _⟩ | exact ⟨rfl, _, Eq.trans (World.drewN_drewN _ _ _) (congrArg (World.drewN _) (Nat.add_assoc _ _ _))⟩))); try go_wp2_with (first | (go_at_call 31; (with_reducible refine (stowageref4_size.calls k a0_0 a0_1 t228 _ A14.out).mono ?_); rintro e w' ⟨rfl, ⟨nd, rfl⟩⟩; (try first | exact ⟨rfl, _, World.drewN_drewN _ _ _⟩ | exact ⟨rfl, _, Eq.trans (World.drewN_drewN _ _ _) (congrArg (World.drewN _) (Nat.add_assoc _ _ _))⟩))))
                    go_meet
                    case rel => exact ⟨_, (true), (by first | rfl | (simp; done) | (simp [*]; done)), H', ⟨by first | omega | exact Nat.le_refl _⟩, ⟨by (with_reducible repeat (first | refine blk_drewN ?_ _ | refine blk_drew ?_ | refine blk_alloc ?_ _)); exact BK227.out⟩, ⟨by repeat (first | (with_reducible first | exact HB.out | apply below_alloc | apply pw_below_drewN | apply below_drew1 | refine below_set ?_ GE227.out) | exact HB.out)⟩⟩
                  · rw [if_neg c19] at H
                    have c19b0 : decide (23 < a0_3) = false := decide_eq_false c19
                    clear c19
                    by_cases c21 : a0_4 < 0
                    · rw [if_pos c21] at H
                      have c21b0 : decide (a0_4 < 0) = true := decide_eq_true c21
                      clear c21
                      have H' := Aside0.mk H
                      clear H
                      have hcz22_0 : w3.cell? ⟨gb227, 0, none⟩ = some (.int .i64 a0_0) := (blk_cell BK227.out 0).trans rfl
                      have hcz22_1 : w3.cell? ⟨gb227, 1, none⟩ = some (.int .i64 a0_1) := (blk_cell BK227.out 1).trans rfl
                      have hcz22_2 : w3.cell? ⟨gb227, 2, none⟩ = some (.int .i64 a0_2) := (blk_cell BK227.out 2).trans rfl
                      have hcz22_3 : w3.cell? ⟨gb227, 3, none⟩ = some (.int .i64 a0_3) := (blk_cell BK227.out 3).trans rfl
                      have hcz22_4 : w3.cell? ⟨gb227, 4, none⟩ = some (.int .i64 a0_4) := (blk_cell BK227.out 4).trans rfl
                      have hcz22_5 : w3.cell? ⟨gb227, 5, none⟩ = some (.int .i64 a0_5) := (blk_cell BK227.out 5).trans rfl
                      have hfz22_0 := blk_frozen BK227.out 0
                      have hfz22_1 := blk_frozen BK227.out 1
                      have hfz22_2 := blk_frozen BK227.out 2
                      have hfz22_3 := blk_frozen BK227.out 3
                      have hfz22_4 := blk_frozen BK227.out 4
                      have hfz22_5 := blk_frozen BK227.out 5
                      go_wp2_with (first | (go_at_call 31; (with_reducible refine (stowageref4_size.calls k a0_0 a0_1 t228 _ A14.out).mono ?_); rintro e w' ⟨rfl, ⟨nd, rfl⟩⟩; (try first | exact ⟨rfl, _, World.drewN_drewN _ _ _⟩ | exact ⟨rfl, _, Eq.trans (World.drewN_drewN _ _ _) (congrArg (World.drewN _) (Nat.add_assoc _ _ _))⟩)))
                      repeat (go_quiet (first | (go_at_call 31; (with_reducible refine (stowageref4_size.calls k a0_0 a0_1 t228 _ A14.out).mono ?_); rintro e w' ⟨rfl, ⟨nd, rfl⟩⟩; (try first | exact ⟨rfl, _, World.drewN_drewN _ _ _⟩ | exact ⟨rfl, _, Eq.trans (World.drewN_drewN _ _ _) (congrArg (World.drewN _) (Nat.add_assoc _ _ _))⟩))); try go_wp2_with (first | (go_at_call 31; (with_reducible refine (stowageref4_size.calls k a0_0 a0_1 t228 _ A14.out).mono ?_); rintro e w' ⟨rfl, ⟨nd, rfl⟩⟩; (try first | exact ⟨rfl, _, World.drewN_drewN _ _ _⟩ | exact ⟨rfl, _, Eq.trans (World.drewN_drewN _ _ _) (congrArg (World.drewN _) (Nat.add_assoc _ _ _))⟩))))
                      go_meet
                      case rel => exact ⟨_, (true), (by first | rfl | (simp; done) | (simp [*]; done)), H', ⟨by first | omega | exact Nat.le_refl _⟩, ⟨by (with_reducible repeat (first | refine blk_drewN ?_ _ | refine blk_drew ?_ | refine blk_alloc ?_ _)); exact BK227.out⟩, ⟨by repeat (first | (with_reducible first | exact HB.out | apply below_alloc | apply pw_below_drewN | apply below_drew1 | refine below_set ?_ GE227.out) | exact HB.out)⟩⟩
                    · rw [if_neg c21] at H
                      have c21b0 : decide (a0_4 < 0) = false := decide_eq_false c21
                      clear c21
                      by_cases c23 : a0_4 > 59
                      · rw [if_pos c23] at H
                        have c23b0 : decide (59 < a0_4) = true := decide_eq_true c23
                        clear c23
                        have H' := Aside0.mk H
                        clear H
                        have hcz24_0 : w3.cell? ⟨gb227, 0, none⟩ = some (.int .i64 a0_0) := (blk_cell BK227.out 0).trans rfl
                        have hcz24_1 : w3.cell? ⟨gb227, 1, none⟩ = some (.int .i64 a0_1) := (blk_cell BK227.out 1).trans rfl
                        have hcz24_2 : w3.cell? ⟨gb227, 2, none⟩ = some (.int .i64 a0_2) := (blk_cell BK227.out 2).trans rfl
                        have hcz24_3 : w3.cell? ⟨gb227, 3, none⟩ = some (.int .i64 a0_3) := (blk_cell BK227.out 3).trans rfl
                        have hcz24_4 : w3.cell? ⟨gb227, 4, none⟩ = some (.int .i64 a0_4) := (blk_cell BK227.out 4).trans rfl
                        have hcz24_5 : w3.cell? ⟨gb227, 5, none⟩ = some (.int .i64 a0_5) := (blk_cell BK227.out 5).trans rfl
                        have hfz24_0 := blk_frozen BK227.out 0
                        have hfz24_1 := blk_frozen BK227.out 1
                        have hfz24_2 := blk_frozen BK227.out 2
                        have hfz24_3 := blk_frozen BK227.out 3
                        have hfz24_4 := blk_frozen BK227.out 4
                        have hfz24_5 := blk_frozen BK227.out 5
                        go_wp2_with (first | (go_at_call 31; (with_reducible refine (stowageref4_size.calls k a0_0 a0_1 t228 _ A14.out).mono ?_); rintro e w' ⟨rfl, ⟨nd, rfl⟩⟩; (try first | exact ⟨rfl, _, World.drewN_drewN _ _ _⟩ | exact ⟨rfl, _, Eq.trans (World.drewN_drewN _ _ _) (congrArg (World.drewN _) (Nat.add_assoc _ _ _))⟩)))
                        repeat (go_quiet (first | (go_at_call 31; (with_reducible refine (stowageref4_size.calls k a0_0 a0_1 t228 _ A14.out).mono ?_); rintro e w' ⟨rfl, ⟨nd, rfl⟩⟩; (try first | exact ⟨rfl, _, World.drewN_drewN _ _ _⟩ | exact ⟨rfl, _, Eq.trans (World.drewN_drewN _ _ _) (congrArg (World.drewN _) (Nat.add_assoc _ _ _))⟩))); try go_wp2_with (first | (go_at_call 31; (with_reducible refine (stowageref4_size.calls k a0_0 a0_1 t228 _ A14.out).mono ?_); rintro e w' ⟨rfl, ⟨nd, rfl⟩⟩; (try first | exact ⟨rfl, _, World.drewN_drewN _ _ _⟩ | exact ⟨rfl, _, Eq.trans (World.drewN_drewN _ _ _) (congrArg (World.drewN _) (Nat.add_assoc _ _ _))⟩))))
                        go_meet
                        case rel => exact ⟨_, (true), (by first | rfl | (simp; done) | (simp [*]; done)), H', ⟨by first | omega | exact Nat.le_refl _⟩, ⟨by (with_reducible repeat (first | refine blk_drewN ?_ _ | refine blk_drew ?_ | refine blk_alloc ?_ _)); exact BK227.out⟩, ⟨by repeat (first | (with_reducible first | exact HB.out | apply below_alloc | apply pw_below_drewN | apply below_drew1 | refine below_set ?_ GE227.out) | exact HB.out)⟩⟩
                      · rw [if_neg c23] at H
                        have c23b0 : decide (59 < a0_4) = false := decide_eq_false c23
                        clear c23
                        by_cases c25 : a0_5 < 0
                        · rw [if_pos c25] at H
                          have c25b0 : decide (a0_5 < 0) = true := decide_eq_true c25
                          clear c25
                          have H' := Aside0.mk H
                          clear H
                          have hcz26_0 : w3.cell? ⟨gb227, 0, none⟩ = some (.int .i64 a0_0) := (blk_cell BK227.out 0).trans rfl
                          have hcz26_1 : w3.cell? ⟨gb227, 1, none⟩ = some (.int .i64 a0_1) := (blk_cell BK227.out 1).trans rfl
                          have hcz26_2 : w3.cell? ⟨gb227, 2, none⟩ = some (.int .i64 a0_2) := (blk_cell BK227.out 2).trans rfl
                          have hcz26_3 : w3.cell? ⟨gb227, 3, none⟩ = some (.int .i64 a0_3) := (blk_cell BK227.out 3).trans rfl
                          have hcz26_4 : w3.cell? ⟨gb227, 4, none⟩ = some (.int .i64 a0_4) := (blk_cell BK227.out 4).trans rfl
                          have hcz26_5 : w3.cell? ⟨gb227, 5, none⟩ = some (.int .i64 a0_5) := (blk_cell BK227.out 5).trans rfl
                          have hfz26_0 := blk_frozen BK227.out 0
                          have hfz26_1 := blk_frozen BK227.out 1
                          have hfz26_2 := blk_frozen BK227.out 2
                          have hfz26_3 := blk_frozen BK227.out 3
                          have hfz26_4 := blk_frozen BK227.out 4
                          have hfz26_5 := blk_frozen BK227.out 5
                          go_wp2_with (first | (go_at_call 31; (with_reducible refine (stowageref4_size.calls k a0_0 a0_1 t228 _ A14.out).mono ?_); rintro e w' ⟨rfl, ⟨nd, rfl⟩⟩; (try first | exact ⟨rfl, _, World.drewN_drewN _ _ _⟩ | exact ⟨rfl, _, Eq.trans (World.drewN_drewN _ _ _) (congrArg (World.drewN _) (Nat.add_assoc _ _ _))⟩)))
                          repeat (go_quiet (first | (go_at_call 31; (with_reducible refine (stowageref4_size.calls k a0_0 a0_1 t228 _ A14.out).mono ?_); rintro e w' ⟨rfl, ⟨nd, rfl⟩⟩; (try first | exact ⟨rfl, _, World.drewN_drewN _ _ _⟩ | exact ⟨rfl, _, Eq.trans (World.drewN_drewN _ _ _) (congrArg (World.drewN _) (Nat.add_assoc _ _ _))⟩))); try go_wp2_with (first | (go_at_call 31; (with_reducible refine (stowageref4_size.calls k a0_0 a0_1 t228 _ A14.out).mono ?_); rintro e w' ⟨rfl, ⟨nd, rfl⟩⟩; (try first | exact ⟨rfl, _, World.drewN_drewN _ _ _⟩ | exact ⟨rfl, _, Eq.trans (World.drewN_drewN _ _ _) (congrArg (World.drewN _) (Nat.add_assoc _ _ _))⟩))))
                          go_meet
                          case rel => exact ⟨_, (true), (by first | rfl | (simp; done) | (simp [*]; done)), H', ⟨by first | omega | exact Nat.le_refl _⟩, ⟨by (with_reducible repeat (first | refine blk_drewN ?_ _ | refine blk_drew ?_ | refine blk_alloc ?_ _)); exact BK227.out⟩, ⟨by repeat (first | (with_reducible first | exact HB.out | apply below_alloc | apply pw_below_drewN | apply below_drew1 | refine below_set ?_ GE227.out) | exact HB.out)⟩⟩
                        · rw [if_neg c25] at H
                          have c25b0 : decide (a0_5 < 0) = false := decide_eq_false c25
                          clear c25
                          have H' := Aside0.mk H
                          clear H
                          have hcz27_0 : w3.cell? ⟨gb227, 0, none⟩ = some (.int .i64 a0_0) := (blk_cell BK227.out 0).trans rfl
                          have hcz27_1 : w3.cell? ⟨gb227, 1, none⟩ = some (.int .i64 a0_1) := (blk_cell BK227.out 1).trans rfl
                          have hcz27_2 : w3.cell? ⟨gb227, 2, none⟩ = some (.int .i64 a0_2) := (blk_cell BK227.out 2).trans rfl
                          have hcz27_3 : w3.cell? ⟨gb227, 3, none⟩ = some (.int .i64 a0_3) := (blk_cell BK227.out 3).trans rfl
                          have hcz27_4 : w3.cell? ⟨gb227, 4, none⟩ = some (.int .i64 a0_4) := (blk_cell BK227.out 4).trans rfl
                          have hcz27_5 : w3.cell? ⟨gb227, 5, none⟩ = some (.int .i64 a0_5) := (blk_cell BK227.out 5).trans rfl
                          have hfz27_0 := blk_frozen BK227.out 0
                          have hfz27_1 := blk_frozen BK227.out 1
                          have hfz27_2 := blk_frozen BK227.out 2
                          have hfz27_3 := blk_frozen BK227.out 3
                          have hfz27_4 := blk_frozen BK227.out 4
                          have hfz27_5 := blk_frozen BK227.out 5
                          go_wp2_with (first | (go_at_call 31; (with_reducible refine (stowageref4_size.calls k a0_0 a0_1 t228 _ A14.out).mono ?_); rintro e w' ⟨rfl, ⟨nd, rfl⟩⟩; (try first | exact ⟨rfl, _, World.drewN_drewN _ _ _⟩ | exact ⟨rfl, _, Eq.trans (World.drewN_drewN _ _ _) (congrArg (World.drewN _) (Nat.add_assoc _ _ _))⟩)))
                          repeat (go_quiet (first | (go_at_call 31; (with_reducible refine (stowageref4_size.calls k a0_0 a0_1 t228 _ A14.out).mono ?_); rintro e w' ⟨rfl, ⟨nd, rfl⟩⟩; (try first | exact ⟨rfl, _, World.drewN_drewN _ _ _⟩ | exact ⟨rfl, _, Eq.trans (World.drewN_drewN _ _ _) (congrArg (World.drewN _) (Nat.add_assoc _ _ _))⟩))); try go_wp2_with (first | (go_at_call 31; (with_reducible refine (stowageref4_size.calls k a0_0 a0_1 t228 _ A14.out).mono ?_); rintro e w' ⟨rfl, ⟨nd, rfl⟩⟩; (try first | exact ⟨rfl, _, World.drewN_drewN _ _ _⟩ | exact ⟨rfl, _, Eq.trans (World.drewN_drewN _ _ _) (congrArg (World.drewN _) (Nat.add_assoc _ _ _))⟩))))
                          go_meet
                          case rel => exact ⟨_, (decide (a0_5 > 59)), (by first | rfl | (simp; done) | (simp [*]; done)), H', ⟨by first | omega | exact Nat.le_refl _⟩, ⟨by (with_reducible repeat (first | refine blk_drewN ?_ _ | refine blk_drew ?_ | refine blk_alloc ?_ _)); exact BK227.out⟩, ⟨by repeat (first | (with_reducible first | exact HB.out | apply below_alloc | apply pw_below_drewN | apply below_drew1 | refine below_set ?_ GE227.out) | exact HB.out)⟩⟩
  case rest =>
    clear HC2
    try clear c1
    try clear c2
    try clear p2
    try clear c4
    try clear c4b0
    try clear c6
    try clear c6b0
    try clear c8
    try clear c8b0
    try clear c10
    try clear c10b0
    try clear c12
    try clear c12b0
    try clear c15
    try clear c15b0
    try clear c17
    try clear c17b0
    try clear c19
    try clear c19b0
    try clear c21
    try clear c21b0
    try clear c23
    try clear c23b0
    try clear c25
    try clear c25b0
    try clear hcz11_0
    try clear hcz11_1
    try clear hcz11_2
    try clear hcz11_3
    try clear hcz11_4
    try clear hcz11_5
    try clear hcz13_0
    try clear hcz13_1
    try clear hcz13_2
    try clear hcz13_3
    try clear hcz13_4
    try clear hcz13_5
    try clear hcz16_0
    try clear hcz16_1
    try clear hcz16_2
    try clear hcz16_3
    try clear hcz16_4
    try clear hcz16_5
    try clear hcz18_0
    try clear hcz18_1
    try clear hcz18_2
    try clear hcz18_3
    try clear hcz18_4
    try clear hcz18_5
    try clear hcz20_0
    try clear hcz20_1
    try clear hcz20_2
    try clear hcz20_3
    try clear hcz20_4
    try clear hcz20_5
    try clear hcz22_0
    try clear hcz22_1
    try clear hcz22_2
    try clear hcz22_3
    try clear hcz22_4
    try clear hcz22_5
    try clear hcz24_0
    try clear hcz24_1
    try clear hcz24_2
    try clear hcz24_3
    try clear hcz24_4
    try clear hcz24_5
    try clear hcz26_0
    try clear hcz26_1
    try clear hcz26_2
    try clear hcz26_3
    try clear hcz26_4
    try clear hcz26_5
    try clear hcz27_0
    try clear hcz27_1
    try clear hcz27_2
    try clear hcz27_3
    try clear hcz27_4
    try clear hcz27_5
    try clear hcz5_0
    try clear hcz5_1
    try clear hcz5_2
    try clear hcz5_3
    try clear hcz5_4
    try clear hcz5_5
    try clear hcz7_0
    try clear hcz7_1
    try clear hcz7_2
    try clear hcz7_3
    try clear hcz7_4
    try clear hcz7_5
    try clear hcz9_0
    try clear hcz9_1
    try clear hcz9_2
    try clear hcz9_3
    try clear hcz9_4
    try clear hcz9_5
    try clear hfz11_0
    try clear hfz11_1
    try clear hfz11_2
    try clear hfz11_3
    try clear hfz11_4
    try clear hfz11_5
    try clear hfz13_0
    try clear hfz13_1
    try clear hfz13_2
    try clear hfz13_3
    try clear hfz13_4
    try clear hfz13_5
    try clear hfz16_0
    try clear hfz16_1
    try clear hfz16_2
    try clear hfz16_3
    try clear hfz16_4
    try clear hfz16_5
    try clear hfz18_0
    try clear hfz18_1
    try clear hfz18_2
    try clear hfz18_3
    try clear hfz18_4
    try clear hfz18_5
    try clear hfz20_0
    try clear hfz20_1
    try clear hfz20_2
    try clear hfz20_3
    try clear hfz20_4
    try clear hfz20_5
    try clear hfz22_0
    try clear hfz22_1
    try clear hfz22_2
    try clear hfz22_3
    try clear hfz22_4
    try clear hfz22_5
    try clear hfz24_0
    try clear hfz24_1
    try clear hfz24_2
    try clear hfz24_3
    try clear hfz24_4
    try clear hfz24_5
    try clear hfz26_0
    try clear hfz26_1
    try clear hfz26_2
    try clear hfz26_3
    try clear hfz26_4
    try clear hfz26_5
    try clear hfz27_0
    try clear hfz27_1
    try clear hfz27_2
    try clear hfz27_3
    try clear hfz27_4
    try clear hfz27_5
    try clear hfz5_0
    try clear hfz5_1
    try clear hfz5_2
    try clear hfz5_3
    try clear hfz5_4
    try clear hfz5_5
    try clear hfz7_0
    try clear hfz7_1
    try clear hfz7_2
    try clear hfz7_3
    try clear hfz7_4
    try clear hfz7_5
    try clear hfz9_0
    try clear hfz9_1
    try clear hfz9_2
    try clear hfz9_3
    try clear hfz9_4
    try clear hfz9_5
    obtain ⟨kq, x69_1, rfl, HA, HJ1, BK227, HB⟩ := hcut
    cases kq with
    | zero => exact absurd HA.out (by simp [stowageref4_Of.j0])
    | succ kj1 =>
      have H := HA.out
      clear HA
      simp only [stowageref4_Of.j0] at H
      by_cases c28 : x69_1 = true
      · subst c28
        have H1 : (some (0, false)) = some (r1, r2) := by rw [if_pos rfl] at H; exact H
        clear H
        have H := H1
        clear H1
        simp only [Option.some.injEq, Prod.mk.injEq] at H
        obtain ⟨rfl, rfl⟩ := H
        go_wp2
        repeat (go_quiet (fail); try go_wp2)
        go_ret2
        exact ⟨by first | rfl | (simp [errW_none, errW_some] <;> rfl) | (simp [*, errW_none, errW_some] <;> rfl), by repeat (first | (with_reducible first | exact HB.out | apply below_alloc | apply pw_below_drewN | apply below_drew1 | refine below_set ?_ GE227.out) | exact HB.out)⟩
      · replace c28 := Bool.eq_false_iff.mpr c28
        subst c28
        have H1 : (stowageref4_Of.l0 kj1 (wrap64 (a0_2 - 1)) 1970 a0_0 a0_1 a0_2 a0_3 a0_4 a0_5) = some (r1, r2) := by rw [if_neg (show ¬ (false = true) by decide)] at H; exact H
        clear H
        have H := H1
        clear H1
        have H' := Aside0.mk H
        clear H
        have hcz29_0 : wc.cell? ⟨gb227, 0, none⟩ = some (.int .i64 a0_0) := (blk_cell BK227.out 0).trans rfl
        have hcz29_1 : wc.cell? ⟨gb227, 1, none⟩ = some (.int .i64 a0_1) := (blk_cell BK227.out 1).trans rfl
        have hcz29_2 : wc.cell? ⟨gb227, 2, none⟩ = some (.int .i64 a0_2) := (blk_cell BK227.out 2).trans rfl
        have hcz29_3 : wc.cell? ⟨gb227, 3, none⟩ = some (.int .i64 a0_3) := (blk_cell BK227.out 3).trans rfl
        have hcz29_4 : wc.cell? ⟨gb227, 4, none⟩ = some (.int .i64 a0_4) := (blk_cell BK227.out 4).trans rfl
        have hcz29_5 : wc.cell? ⟨gb227, 5, none⟩ = some (.int .i64 a0_5) := (blk_cell BK227.out 5).trans rfl
        have hfz29_0 := blk_frozen BK227.out 0
        have hfz29_1 := blk_frozen BK227.out 1
        have hfz29_2 := blk_frozen BK227.out 2
        have hfz29_3 := blk_frozen BK227.out 3
        have hfz29_4 := blk_frozen BK227.out 4
        have hfz29_5 := blk_frozen BK227.out 5
        go_wp2
        repeat (go_quiet (fail); try go_wp2)
        go_loopg [4, 5] kj1 (fun kq v4 v5 w' => ∃ (x4_2 : Int) (x5_2 : Int), v4 = .int .i64 x4_2 ∧ v5 = .int .i64 x5_2 ∧ Aside0 (stowageref4_Of.l0 kq x4_2 x5_2 a0_0 a0_1 a0_2 a0_3 a0_4 a0_5 = some (r1, r2)) ∧ Aside0 (kq ≤ kj1) ∧ Aside0 (w'.heap[gb227]? = some (.cells #[.int .i64 a0_0, .int .i64 a0_1, .int .i64 a0_2, .int .i64 a0_3, .int .i64 a0_4, .int .i64 a0_5] 27 (0, 0))) ∧ Aside0 (Below w.heap.size w w'))
        case atStart => exact ⟨(wrap64 (a0_2 - 1)), (1970), (by first | rfl | (simp; done) | (simp [*]; done)), (by first | rfl | (simp; done) | (simp [*]; done)), H', ⟨Nat.le_refl _⟩, ⟨by (with_reducible repeat (first | refine blk_drewN ?_ _ | refine blk_drew ?_ | refine blk_alloc ?_ _)); exact BK227.out⟩, ⟨by repeat (first | (with_reducible first | exact HB.out | apply below_alloc | apply pw_below_drewN | apply below_drew1 | refine below_set ?_ GE227.out) | exact HB.out)⟩⟩
        case round =>
          clear H'
          try clear c1
          try clear c2
          try clear p2
          try clear c4
          try clear c4b0
          try clear c6
          try clear c6b0
          try clear p6
          try clear c8
          try clear c8b0
          try clear c10
          try clear c10b0
          try clear c12
          try clear c12b0
          try clear c15
          try clear c15b0
          try clear c17
          try clear c17b0
          try clear c19
          try clear c19b0
          try clear c21
          try clear c21b0
          try clear c23
          try clear c23b0
          try clear c25
          try clear c25b0
          try clear c28
          try clear hcz11_0
          try clear hcz11_1
          try clear hcz11_2
          try clear hcz11_3
          try clear hcz11_4
          try clear hcz11_5
          try clear hcz13_0
          try clear hcz13_1
          try clear hcz13_2
          try clear hcz13_3
          try clear hcz13_4
          try clear hcz13_5
          try clear hcz16_0
          try clear hcz16_1
          try clear hcz16_2
          try clear hcz16_3
          try clear hcz16_4
          try clear hcz16_5
          try clear hcz18_0
          try clear hcz18_1
          try clear hcz18_2
          try clear hcz18_3
          try clear hcz18_4
          try clear hcz18_5
          try clear hcz20_0
          try clear hcz20_1
          try clear hcz20_2
          try clear hcz20_3
          try clear hcz20_4
          try clear hcz20_5
          try clear hcz22_0
          try clear hcz22_1
          try clear hcz22_2
          try clear hcz22_3
          try clear hcz22_4
          try clear hcz22_5
          try clear hcz24_0
          try clear hcz24_1
          try clear hcz24_2
          try clear hcz24_3
          try clear hcz24_4
          try clear hcz24_5
          try clear hcz26_0
          try clear hcz26_1
          try clear hcz26_2
          try clear hcz26_3
          try clear hcz26_4
          try clear hcz26_5
          try clear hcz27_0
          try clear hcz27_1
          try clear hcz27_2
          try clear hcz27_3
          try clear hcz27_4
          try clear hcz27_5
          try clear hcz29_0
          try clear hcz29_1
          try clear hcz29_2
          try clear hcz29_3
          try clear hcz29_4
          try clear hcz29_5
          try clear hcz5_0
          try clear hcz5_1
          try clear hcz5_2
          try clear hcz5_3
          try clear hcz5_4
          try clear hcz5_5
          try clear hcz7_0
          try clear hcz7_1
          try clear hcz7_2
          try clear hcz7_3
          try clear hcz7_4
          try clear hcz7_5
          try clear hcz9_0
          try clear hcz9_1
          try clear hcz9_2
          try clear hcz9_3
          try clear hcz9_4
          try clear hcz9_5
          try clear hfz11_0
          try clear hfz11_1
          try clear hfz11_2
          try clear hfz11_3
          try clear hfz11_4
          try clear hfz11_5
          try clear hfz13_0
          try clear hfz13_1
          try clear hfz13_2
          try clear hfz13_3
          try clear hfz13_4
          try clear hfz13_5
          try clear hfz16_0
          try clear hfz16_1
          try clear hfz16_2
          try clear hfz16_3
          try clear hfz16_4
          try clear hfz16_5
          try clear hfz18_0
          try clear hfz18_1
          try clear hfz18_2
          try clear hfz18_3
          try clear hfz18_4
          try clear hfz18_5
          try clear hfz20_0
          try clear hfz20_1
          try clear hfz20_2
          try clear hfz20_3
          try clear hfz20_4
          try clear hfz20_5
          try clear hfz22_0
          try clear hfz22_1
          try clear hfz22_2
          try clear hfz22_3
          try clear hfz22_4
          try clear hfz22_5
          try clear hfz24_0
          try clear hfz24_1
          try clear hfz24_2
          try clear hfz24_3
          try clear hfz24_4
          try clear hfz24_5
          try clear hfz26_0
          try clear hfz26_1
          try clear hfz26_2
          try clear hfz26_3
          try clear hfz26_4
          try clear hfz26_5
          try clear hfz27_0
          try clear hfz27_1
          try clear hfz27_2
          try clear hfz27_3
          try clear hfz27_4
          try clear hfz27_5
          try clear hfz29_0
          try clear hfz29_1
          try clear hfz29_2
          try clear hfz29_3
          try clear hfz29_4
          try clear hfz29_5
          try clear hfz5_0
          try clear hfz5_1
          try clear hfz5_2
          try clear hfz5_3
          try clear hfz5_4
          try clear hfz5_5
          try clear hfz7_0
          try clear hfz7_1
          try clear hfz7_2
          try clear hfz7_3
          try clear hfz7_4
          try clear hfz7_5
          try clear hfz9_0
          try clear hfz9_1
          try clear hfz9_2
          try clear hfz9_3
          try clear hfz9_4
          try clear hfz9_5
          try clear p2
          obtain ⟨x4_2, x5_2, rfl, rfl, HA, HK2, BK227, HB⟩ := hrel
          cases gk with
          | zero => exact absurd HA.out (by simp [stowageref4_Of.l0])
          | succ k2 =>
            have H := HA.out
            clear HA
            simp only [stowageref4_Of.l0] at H
            by_cases c30 : x5_2 < a0_0
            · rw [if_pos c30] at H
              have c30b0 : decide (x5_2 < a0_0) = true := decide_eq_true c30
              clear c30
              replace H := Option.bind_eq_some_iff.mp H
              obtain ⟨t229, A310, H⟩ := H
              replace H : (stowageref4_Of.l0 k2 (wrap64 (x4_2 + t229)) (wrap64 (x5_2 + 1)) a0_0 a0_1 a0_2 a0_3 a0_4 a0_5) = some (r1, r2) := H
              have A31 := Aside0.mk A310
              clear A310
              have H' := Aside0.mk H
              clear H
              have hcz32_0 : wr.cell? ⟨gb227, 0, none⟩ = some (.int .i64 a0_0) := (blk_cell BK227.out 0).trans rfl
              have hcz32_1 : wr.cell? ⟨gb227, 1, none⟩ = some (.int .i64 a0_1) := (blk_cell BK227.out 1).trans rfl
              have hcz32_2 : wr.cell? ⟨gb227, 2, none⟩ = some (.int .i64 a0_2) := (blk_cell BK227.out 2).trans rfl
              have hcz32_3 : wr.cell? ⟨gb227, 3, none⟩ = some (.int .i64 a0_3) := (blk_cell BK227.out 3).trans rfl
              have hcz32_4 : wr.cell? ⟨gb227, 4, none⟩ = some (.int .i64 a0_4) := (blk_cell BK227.out 4).trans rfl
              have hcz32_5 : wr.cell? ⟨gb227, 5, none⟩ = some (.int .i64 a0_5) := (blk_cell BK227.out 5).trans rfl
              have hfz32_0 := blk_frozen BK227.out 0
              have hfz32_1 := blk_frozen BK227.out 1
              have hfz32_2 := blk_frozen BK227.out 2
              have hfz32_3 := blk_frozen BK227.out 3
              have hfz32_4 := blk_frozen BK227.out 4
              have hfz32_5 := blk_frozen BK227.out 5
              go_wp2_with (first | (go_at_call 30; (with_reducible refine (stowageref4_year.calls x5_2 t229 _ A31.out).mono ?_); rintro e w' ⟨rfl, ⟨nd, rfl⟩⟩; (try first | exact ⟨rfl, _, World.drewN_drewN _ _ _⟩ | exact ⟨rfl, _, Eq.trans (World.drewN_drewN _ _ _) (congrArg (World.drewN _) (Nat.add_assoc _ _ _))⟩)))
              repeat (go_quiet (first | (go_at_call 30; (with_reducible refine (stowageref4_year.calls x5_2 t229 _ A31.out).mono ?_); rintro e w' ⟨rfl, ⟨nd, rfl⟩⟩; (try first | exact ⟨rfl, _, World.drewN_drewN _ _ _⟩ | exact ⟨rfl, _, Eq.trans (World.drewN_drewN _ _ _) (congrArg (World.drewN _) (Nat.add_assoc _ _ _))⟩))); try go_wp2_with (first | (go_at_call 30; (with_reducible refine (stowageref4_year.calls x5_2 t229 _ A31.out).mono ?_); rintro e w' ⟨rfl, ⟨nd, rfl⟩⟩; (try first | exact ⟨rfl, _, World.drewN_drewN _ _ _⟩ | exact ⟨rfl, _, Eq.trans (World.drewN_drewN _ _ _) (congrArg (World.drewN _) (Nat.add_assoc _ _ _))⟩))))
              go_roundg k2
              case measure => have := HJ1.out; have := HK2.out; omega
              case rel => exact ⟨(wrap64 (x4_2 + t229)), (wrap64 (x5_2 + 1)), (by first | rfl | (simp; done) | (simp [*]; done)), (by first | rfl | (simp; done) | (simp [*]; done)), H', ⟨by have := HJ1.out; have := HK2.out; omega⟩, ⟨by (with_reducible repeat (first | refine blk_drewN ?_ _ | refine blk_drew ?_ | refine blk_alloc ?_ _)); exact BK227.out⟩, ⟨by repeat (first | (with_reducible first | exact HB.out | apply below_alloc | apply pw_below_drewN | apply below_drew1 | refine below_set ?_ GE227.out) | exact HB.out)⟩⟩
            · rw [if_neg c30] at H
              have c30b0 : decide (x5_2 < a0_0) = false := decide_eq_false c30
              clear c30
              have H' := Aside0.mk H
              clear H
              have hcz33_0 : wr.cell? ⟨gb227, 0, none⟩ = some (.int .i64 a0_0) := (blk_cell BK227.out 0).trans rfl
              have hcz33_1 : wr.cell? ⟨gb227, 1, none⟩ = some (.int .i64 a0_1) := (blk_cell BK227.out 1).trans rfl
              have hcz33_2 : wr.cell? ⟨gb227, 2, none⟩ = some (.int .i64 a0_2) := (blk_cell BK227.out 2).trans rfl
              have hcz33_3 : wr.cell? ⟨gb227, 3, none⟩ = some (.int .i64 a0_3) := (blk_cell BK227.out 3).trans rfl
              have hcz33_4 : wr.cell? ⟨gb227, 4, none⟩ = some (.int .i64 a0_4) := (blk_cell BK227.out 4).trans rfl
              have hcz33_5 : wr.cell? ⟨gb227, 5, none⟩ = some (.int .i64 a0_5) := (blk_cell BK227.out 5).trans rfl
              have hfz33_0 := blk_frozen BK227.out 0
              have hfz33_1 := blk_frozen BK227.out 1
              have hfz33_2 := blk_frozen BK227.out 2
              have hfz33_3 := blk_frozen BK227.out 3
              have hfz33_4 := blk_frozen BK227.out 4
              have hfz33_5 := blk_frozen BK227.out 5
              go_wp2
              repeat (go_quiet (fail); try go_wp2)
              go_loopg [4, 6] k2 (fun kq v4 v6 w' => ∃ (x4_3 : Int) (x6_3 : Int), v4 = .int .i64 x4_3 ∧ v6 = .int .i64 x6_3 ∧ Aside0 (stowageref4_Of.l1 kq x4_3 x6_3 a0_0 a0_1 a0_2 a0_3 a0_4 a0_5 = some (r1, r2)) ∧ Aside0 (kq ≤ k2) ∧ Aside0 (w'.heap[gb227]? = some (.cells #[.int .i64 a0_0, .int .i64 a0_1, .int .i64 a0_2, .int .i64 a0_3, .int .i64 a0_4, .int .i64 a0_5] 27 (0, 0))) ∧ Aside0 (Below w.heap.size w w'))
              case atStart => exact ⟨(x4_2), (1), (by first | rfl | (simp; done) | (simp [*]; done)), (by first | rfl | (simp; done) | (simp [*]; done)), H', ⟨Nat.le_refl _⟩, ⟨by (with_reducible repeat (first | refine blk_drewN ?_ _ | refine blk_drew ?_ | refine blk_alloc ?_ _)); exact BK227.out⟩, ⟨by repeat (first | (with_reducible first | exact HB.out | apply below_alloc | apply pw_below_drewN | apply below_drew1 | refine below_set ?_ GE227.out) | exact HB.out)⟩⟩
              case round =>
                clear H'
                try clear c1
                try clear c2
                try clear p2
                try clear c3
                try clear c4
                try clear c4b0
                try clear c6
                try clear c6b0
                try clear p6
                try clear c8
                try clear c8b0
                try clear c10
                try clear c10b0
                try clear c12
                try clear c12b0
                try clear c15
                try clear c15b0
                try clear c17
                try clear c17b0
                try clear c19
                try clear c19b0
                try clear c21
                try clear c21b0
                try clear c23
                try clear c23b0
                try clear c25
                try clear c25b0
                try clear c28
                try clear c30
                try clear c30b0
                try clear hcz11_0
                try clear hcz11_1
                try clear hcz11_2
                try clear hcz11_3
                try clear hcz11_4
                try clear hcz11_5
                try clear hcz13_0
                try clear hcz13_1
                try clear hcz13_2
                try clear hcz13_3
                try clear hcz13_4
                try clear hcz13_5
                try clear hcz16_0
                try clear hcz16_1
                try clear hcz16_2
                try clear hcz16_3
                try clear hcz16_4
                try clear hcz16_5
                try clear hcz18_0
                try clear hcz18_1
                try clear hcz18_2
                try clear hcz18_3
                try clear hcz18_4
                try clear hcz18_5
                try clear hcz20_0
                try clear hcz20_1
                try clear hcz20_2
                try clear hcz20_3
                try clear hcz20_4
                try clear hcz20_5
                try clear hcz22_0
                try clear hcz22_1
                try clear hcz22_2
                try clear hcz22_3
                try clear hcz22_4
                try clear hcz22_5
                try clear hcz24_0
                try clear hcz24_1
                try clear hcz24_2
                try clear hcz24_3
                try clear hcz24_4
                try clear hcz24_5
                try clear hcz26_0
                try clear hcz26_1
                try clear hcz26_2
                try clear hcz26_3
                try clear hcz26_4
                try clear hcz26_5
                try clear hcz27_0
                try clear hcz27_1
                try clear hcz27_2
                try clear hcz27_3
                try clear hcz27_4
                try clear hcz27_5
                try clear hcz29_0
                try clear hcz29_1
                try clear hcz29_2
                try clear hcz29_3
                try clear hcz29_4
                try clear hcz29_5
                try clear hcz32_0
                try clear hcz32_1
                try clear hcz32_2
                try clear hcz32_3
                try clear hcz32_4
                try clear hcz32_5
                try clear hcz33_0
                try clear hcz33_1
                try clear hcz33_2
                try clear hcz33_3
                try clear hcz33_4
                try clear hcz33_5
                try clear hcz5_0
                try clear hcz5_1
                try clear hcz5_2
                try clear hcz5_3
                try clear hcz5_4
                try clear hcz5_5
                try clear hcz7_0
                try clear hcz7_1
                try clear hcz7_2
                try clear hcz7_3
                try clear hcz7_4
                try clear hcz7_5
                try clear hcz9_0
                try clear hcz9_1
                try clear hcz9_2
                try clear hcz9_3
                try clear hcz9_4
                try clear hcz9_5
                try clear hfz11_0
                try clear hfz11_1
                try clear hfz11_2
                try clear hfz11_3
                try clear hfz11_4
                try clear hfz11_5
                try clear hfz13_0
                try clear hfz13_1
                try clear hfz13_2
                try clear hfz13_3
                try clear hfz13_4
                try clear hfz13_5
                try clear hfz16_0
                try clear hfz16_1
                try clear hfz16_2
                try clear hfz16_3
                try clear hfz16_4
                try clear hfz16_5
                try clear hfz18_0
                try clear hfz18_1
                try clear hfz18_2
                try clear hfz18_3
                try clear hfz18_4
                try clear hfz18_5
                try clear hfz20_0
                try clear hfz20_1
                try clear hfz20_2
                try clear hfz20_3
                try clear hfz20_4
                try clear hfz20_5
                try clear hfz22_0
                try clear hfz22_1
                try clear hfz22_2
                try clear hfz22_3
                try clear hfz22_4
                try clear hfz22_5
                try clear hfz24_0
                try clear hfz24_1
                try clear hfz24_2
                try clear hfz24_3
                try clear hfz24_4
                try clear hfz24_5
                try clear hfz26_0
                try clear hfz26_1
                try clear hfz26_2
                try clear hfz26_3
                try clear hfz26_4
                try clear hfz26_5
                try clear hfz27_0
                try clear hfz27_1
                try clear hfz27_2
                try clear hfz27_3
                try clear hfz27_4
                try clear hfz27_5
                try clear hfz29_0
                try clear hfz29_1
                try clear hfz29_2
                try clear hfz29_3
                try clear hfz29_4
                try clear hfz29_5
                try clear hfz32_0
                try clear hfz32_1
                try clear hfz32_2
                try clear hfz32_3
                try clear hfz32_4
                try clear hfz32_5
                try clear hfz33_0
                try clear hfz33_1
                try clear hfz33_2
                try clear hfz33_3
                try clear hfz33_4
                try clear hfz33_5
                try clear hfz5_0
                try clear hfz5_1
                try clear hfz5_2
                try clear hfz5_3
                try clear hfz5_4
                try clear hfz5_5
                try clear hfz7_0
                try clear hfz7_1
                try clear hfz7_2
                try clear hfz7_3
                try clear hfz7_4
                try clear hfz7_5
                try clear hfz9_0
                try clear hfz9_1
                try clear hfz9_2
                try clear hfz9_3
                try clear hfz9_4
                try clear hfz9_5
                try clear p2
                try clear p6
                obtain ⟨x4_3, x6_3, rfl, rfl, HA, HK3, BK227, HB⟩ := hrel
                cases gk with
                | zero => exact absurd HA.out (by simp [stowageref4_Of.l1])
                | succ k3 =>
                  have H := HA.out
                  clear HA
                  simp only [stowageref4_Of.l1] at H
                  by_cases c34 : x6_3 < a0_1
                  · rw [if_pos c34] at H
                    have c34b0 : decide (x6_3 < a0_1) = true := decide_eq_true c34
                    clear c34
                    replace H := Option.bind_eq_some_iff.mp H
                    obtain ⟨t230, A350, H⟩ := H
                    replace H : (stowageref4_Of.l1 k3 (wrap64 (x4_3 + t230)) (wrap64 (x6_3 + 1)) a0_0 a0_1 a0_2 a0_3 a0_4 a0_5) = some (r1, r2) := H
                    have A35 := Aside0.mk A350
                    clear A350
                    have H' := Aside0.mk H
                    clear H
                    have hcz36_0 : wr.cell? ⟨gb227, 0, none⟩ = some (.int .i64 a0_0) := (blk_cell BK227.out 0).trans rfl
                    have hcz36_1 : wr.cell? ⟨gb227, 1, none⟩ = some (.int .i64 a0_1) := (blk_cell BK227.out 1).trans rfl
                    have hcz36_2 : wr.cell? ⟨gb227, 2, none⟩ = some (.int .i64 a0_2) := (blk_cell BK227.out 2).trans rfl
                    have hcz36_3 : wr.cell? ⟨gb227, 3, none⟩ = some (.int .i64 a0_3) := (blk_cell BK227.out 3).trans rfl
                    have hcz36_4 : wr.cell? ⟨gb227, 4, none⟩ = some (.int .i64 a0_4) := (blk_cell BK227.out 4).trans rfl
                    have hcz36_5 : wr.cell? ⟨gb227, 5, none⟩ = some (.int .i64 a0_5) := (blk_cell BK227.out 5).trans rfl
                    have hfz36_0 := blk_frozen BK227.out 0
                    have hfz36_1 := blk_frozen BK227.out 1
                    have hfz36_2 := blk_frozen BK227.out 2
                    have hfz36_3 := blk_frozen BK227.out 3
                    have hfz36_4 := blk_frozen BK227.out 4
                    have hfz36_5 := blk_frozen BK227.out 5
                    go_wp2_with (first | (go_at_call 31; (with_reducible refine (stowageref4_size.calls k3 a0_0 x6_3 t230 _ A35.out).mono ?_); rintro e w' ⟨rfl, ⟨nd, rfl⟩⟩; (try first | exact ⟨rfl, _, World.drewN_drewN _ _ _⟩ | exact ⟨rfl, _, Eq.trans (World.drewN_drewN _ _ _) (congrArg (World.drewN _) (Nat.add_assoc _ _ _))⟩)))
                    repeat (go_quiet (first | (go_at_call 31; (with_reducible refine (stowageref4_size.calls k3 a0_0 x6_3 t230 _ A35.out).mono ?_); rintro e w' ⟨rfl, ⟨nd, rfl⟩⟩; (try first | exact ⟨rfl, _, World.drewN_drewN _ _ _⟩ | exact ⟨rfl, _, Eq.trans (World.drewN_drewN _ _ _) (congrArg (World.drewN _) (Nat.add_assoc _ _ _))⟩))); try go_wp2_with (first | (go_at_call 31; (with_reducible refine (stowageref4_size.calls k3 a0_0 x6_3 t230 _ A35.out).mono ?_); rintro e w' ⟨rfl, ⟨nd, rfl⟩⟩; (try first | exact ⟨rfl, _, World.drewN_drewN _ _ _⟩ | exact ⟨rfl, _, Eq.trans (World.drewN_drewN _ _ _) (congrArg (World.drewN _) (Nat.add_assoc _ _ _))⟩))))
                    go_roundg k3
                    case measure => have := HJ1.out; have := HK2.out; have := HK3.out; omega
                    case rel => exact ⟨(wrap64 (x4_3 + t230)), (wrap64 (x6_3 + 1)), (by first | rfl | (simp; done) | (simp [*]; done)), (by first | rfl | (simp; done) | (simp [*]; done)), H', ⟨by have := HJ1.out; have := HK2.out; have := HK3.out; omega⟩, ⟨by (with_reducible repeat (first | refine blk_drewN ?_ _ | refine blk_drew ?_ | refine blk_alloc ?_ _)); exact BK227.out⟩, ⟨by repeat (first | (with_reducible first | exact HB.out | apply below_alloc | apply pw_below_drewN | apply below_drew1 | refine below_set ?_ GE227.out) | exact HB.out)⟩⟩
                  · rw [if_neg c34] at H
                    have c34b0 : decide (x6_3 < a0_1) = false := decide_eq_false c34
                    clear c34
                    simp only [Option.some.injEq, Prod.mk.injEq] at H
                    obtain ⟨rfl, rfl⟩ := H
                    have hcz37_0 : wr.cell? ⟨gb227, 0, none⟩ = some (.int .i64 a0_0) := (blk_cell BK227.out 0).trans rfl
                    have hcz37_1 : wr.cell? ⟨gb227, 1, none⟩ = some (.int .i64 a0_1) := (blk_cell BK227.out 1).trans rfl
                    have hcz37_2 : wr.cell? ⟨gb227, 2, none⟩ = some (.int .i64 a0_2) := (blk_cell BK227.out 2).trans rfl
                    have hcz37_3 : wr.cell? ⟨gb227, 3, none⟩ = some (.int .i64 a0_3) := (blk_cell BK227.out 3).trans rfl
                    have hcz37_4 : wr.cell? ⟨gb227, 4, none⟩ = some (.int .i64 a0_4) := (blk_cell BK227.out 4).trans rfl
                    have hcz37_5 : wr.cell? ⟨gb227, 5, none⟩ = some (.int .i64 a0_5) := (blk_cell BK227.out 5).trans rfl
                    have hfz37_0 := blk_frozen BK227.out 0
                    have hfz37_1 := blk_frozen BK227.out 1
                    have hfz37_2 := blk_frozen BK227.out 2
                    have hfz37_3 := blk_frozen BK227.out 3
                    have hfz37_4 := blk_frozen BK227.out 4
                    have hfz37_5 := blk_frozen BK227.out 5
                    go_wp2
                    repeat (go_quiet (fail); try go_wp2)
                    go_ret2
                    exact ⟨by first | rfl | (simp [errW_none, errW_some] <;> rfl) | (simp [*, errW_none, errW_some] <;> rfl), by repeat (first | (with_reducible first | exact HB.out | apply below_alloc | apply pw_below_drewN | apply below_drew1 | refine below_set ?_ GE227.out) | exact HB.out)⟩

end Go.Proofs.Yteggifhicmbopaa.Q

/- What some Go functions compute, told as plain Lean functions, each with the proof that the call comes to just that, for all arguments. Conditions: those in the theorems. Written by a program of this session. -/
namespace Go.Proofs.Yteggifhicmbopaa.Q
open Go.RowKit Go.Proofs.YteggifhicmbopaaW.PrintWords Go.Proofs.YteggifhicmbopaaW.PrintLast Go.Proofs.YteggifhicmbopaaW.PrintMore
set_option linter.unusedVariables false
set_option linter.unusedSimpArgs false
attribute [local go_sem] max2_int min2_int max_two min_two max_three min_three max_four min_four   -- for this text's walks alone

/-! ### stowagelaw4_WhenCivil: function 4 -/
def stowagelaw4_WhenCivil.f (k : Nat) (a0 : Int) (a1 : Int) (a2 : Int) (a3 : Int) (a4 : Int) (a5 : Int) (a6 : Int) : Option (Bool) := (when_Civil.f k a0).bind fun bt231 => ((stowageref4_Civil.f k a0).bind fun bt238 => ((when_Of.f k a1 a2 a3 a4 a5 a6).bind fun bt246 => ((stowageref4_Of.f k a1 a2 a3 a4 a5 a6).bind fun bt248 => (if bt231.1 = bt238.1 then (if bt231.2.1 = bt238.2.1 then (if bt231.2.2.1 = bt238.2.2.1 then (if bt231.2.2.2.1 = bt238.2.2.2.1 then (if bt231.2.2.2.2.1 = bt238.2.2.2.2.1 then (if bt231.2.2.2.2.2.1 = bt238.2.2.2.2.2.1 then (if (bt231.2.2.2.2.2.2 == bt238.2.2.2.2.2.2) = true then (if bt246.1 = bt248.1 then (if (bt246.2 == bt248.2) = true then ((stowagelaw4_awake.f k).bind fun t250 => (some t250)) else (some false)) else (some false)) else (some false)) else (some false)) else (some false)) else (some false)) else (some false)) else (some false)) else (some false)))))
theorem stowagelaw4_WhenCivil.mono : ∀ a0 a1 a2 a3 a4 a5 a6 k, LeO (stowagelaw4_WhenCivil.f k a0 a1 a2 a3 a4 a5 a6) (stowagelaw4_WhenCivil.f (k + 1) a0 a1 a2 a3 a4 a5 a6) := by
  intro a0 a1 a2 a3 a4 a5 a6 k
  unfold stowagelaw4_WhenCivil.f
  repeat' first
      | (with_reducible exact stowagelaw4_awake.mono _)
      | (with_reducible exact stowageref4_Civil.mono _ _)
      | (with_reducible exact stowageref4_Of.mono _ _ _ _ _ _ _)
      | (with_reducible exact when_Civil.mono _ _)
      | (with_reducible exact when_Of.mono _ _ _ _ _ _ _)
      | (with_reducible exact LeO.refl _)
      | (with_reducible exact LeO.none _)
      | (with_reducible refine LeO.ite ?_ ?_)
      | (with_reducible refine LeO.bind ?_ (fun _ => ?_))
      | exact stowagelaw4_awake.mono _
      | exact stowageref4_Civil.mono _ _
      | exact stowageref4_Of.mono _ _ _ _ _ _ _
      | exact when_Civil.mono _ _
      | exact when_Of.mono _ _ _ _ _ _ _
      | exact LeO.none _
      | refine LeO.ite ?_ ?_
      | refine LeO.bind ?_ (fun _ => ?_)
set_option maxHeartbeats 8000000 in
set_option maxRecDepth 100000 in
theorem stowagelaw4_WhenCivil.calls (k : Nat) (a0 : Int) (a1 : Int) (a2 : Int) (a3 : Int) (a4 : Int) (a5 : Int) (a6 : Int) (r : Bool) (w : World) (h : stowagelaw4_WhenCivil.f k a0 a1 a2 a3 a4 a5 a6 = some r) (hr : r = true) :
    Calls Try.prog 4 #[.int .i64 a0, .int .i64 a1, .int .i64 a2, .int .i64 a3, .int .i64 a4, .int .i64 a5, .int .i64 a6] w fun e w' => e = .returned (.bool r) ∧ Below w.heap.size w w' := by
  have hu27 := Try.underlying27
  have HB := Aside0.mk (Below.refl w.heap.size w)
  have H : ((when_Civil.f k a0).bind fun bt231 => ((stowageref4_Civil.f k a0).bind fun bt238 => ((when_Of.f k a1 a2 a3 a4 a5 a6).bind fun bt246 => ((stowageref4_Of.f k a1 a2 a3 a4 a5 a6).bind fun bt248 => (if bt231.1 = bt238.1 then (if bt231.2.1 = bt238.2.1 then (if bt231.2.2.1 = bt238.2.2.1 then (if bt231.2.2.2.1 = bt238.2.2.2.1 then (if bt231.2.2.2.2.1 = bt238.2.2.2.2.1 then (if bt231.2.2.2.2.2.1 = bt238.2.2.2.2.2.1 then (if (bt231.2.2.2.2.2.2 == bt238.2.2.2.2.2.2) = true then (if bt246.1 = bt248.1 then (if (bt246.2 == bt248.2) = true then ((stowagelaw4_awake.f k).bind fun t250 => (some t250)) else (some false)) else (some false)) else (some false)) else (some false)) else (some false)) else (some false)) else (some false)) else (some false)) else (some false)))))) = some r := h
  clear h
  replace H := Option.bind_eq_some_iff.mp H
  obtain ⟨⟨t231, t232, t233, t234, t235, t236, t237⟩, A80, H⟩ := H
  replace H : ((stowageref4_Civil.f k a0).bind fun bt238 => ((when_Of.f k a1 a2 a3 a4 a5 a6).bind fun bt246 => ((stowageref4_Of.f k a1 a2 a3 a4 a5 a6).bind fun bt248 => (if t231 = bt238.1 then (if t232 = bt238.2.1 then (if t233 = bt238.2.2.1 then (if t234 = bt238.2.2.2.1 then (if t235 = bt238.2.2.2.2.1 then (if t236 = bt238.2.2.2.2.2.1 then (if (t237 == bt238.2.2.2.2.2.2) = true then (if bt246.1 = bt248.1 then (if (bt246.2 == bt248.2) = true then ((stowagelaw4_awake.f k).bind fun t250 => (some t250)) else (some false)) else (some false)) else (some false)) else (some false)) else (some false)) else (some false)) else (some false)) else (some false)) else (some false))))) = some r := H
  have A8 := Aside0.mk A80
  clear A80
  replace H := Option.bind_eq_some_iff.mp H
  obtain ⟨⟨t238, t239, t240, t241, t242, t243, t244⟩, A90, H⟩ := H
  replace H : ((when_Of.f k a1 a2 a3 a4 a5 a6).bind fun bt246 => ((stowageref4_Of.f k a1 a2 a3 a4 a5 a6).bind fun bt248 => (if t231 = t238 then (if t232 = t239 then (if t233 = t240 then (if t234 = t241 then (if t235 = t242 then (if t236 = t243 then (if (t237 == t244) = true then (if bt246.1 = bt248.1 then (if (bt246.2 == bt248.2) = true then ((stowagelaw4_awake.f k).bind fun t250 => (some t250)) else (some false)) else (some false)) else (some false)) else (some false)) else (some false)) else (some false)) else (some false)) else (some false)) else (some false)))) = some r := H
  have A9 := Aside0.mk A90
  clear A90
  replace H := Option.bind_eq_some_iff.mp H
  obtain ⟨⟨t246, t247⟩, A100, H⟩ := H
  replace H : ((stowageref4_Of.f k a1 a2 a3 a4 a5 a6).bind fun bt248 => (if t231 = t238 then (if t232 = t239 then (if t233 = t240 then (if t234 = t241 then (if t235 = t242 then (if t236 = t243 then (if (t237 == t244) = true then (if t246 = bt248.1 then (if (t247 == bt248.2) = true then ((stowagelaw4_awake.f k).bind fun t250 => (some t250)) else (some false)) else (some false)) else (some false)) else (some false)) else (some false)) else (some false)) else (some false)) else (some false)) else (some false))) = some r := H
  have A10 := Aside0.mk A100
  clear A100
  replace H := Option.bind_eq_some_iff.mp H
  obtain ⟨⟨t248, t249⟩, A110, H⟩ := H
  replace H : (if t231 = t238 then (if t232 = t239 then (if t233 = t240 then (if t234 = t241 then (if t235 = t242 then (if t236 = t243 then (if (t237 == t244) = true then (if t246 = t248 then (if (t247 == t249) = true then ((stowagelaw4_awake.f k).bind fun t250 => (some t250)) else (some false)) else (some false)) else (some false)) else (some false)) else (some false)) else (some false)) else (some false)) else (some false)) else (some false)) = some r := H
  have A11 := Aside0.mk A110
  clear A110
  by_cases c12 : t231 = t238
  · rw [if_pos c12] at H
    have c12b0 : (t231 == t238) = true := beq_iff_eq.mpr c12
    have c12b1 : (t231 != t238) = false := bne_eq_false_iff_eq.mpr c12
    clear c12
    by_cases c13 : t232 = t239
    · rw [if_pos c13] at H
      have c13b0 : (t232 == t239) = true := beq_iff_eq.mpr c13
      have c13b1 : (t232 != t239) = false := bne_eq_false_iff_eq.mpr c13
      clear c13
      by_cases c14 : t233 = t240
      · rw [if_pos c14] at H
        have c14b0 : (t233 == t240) = true := beq_iff_eq.mpr c14
        have c14b1 : (t233 != t240) = false := bne_eq_false_iff_eq.mpr c14
        clear c14
        by_cases c15 : t234 = t241
        · rw [if_pos c15] at H
          have c15b0 : (t234 == t241) = true := beq_iff_eq.mpr c15
          have c15b1 : (t234 != t241) = false := bne_eq_false_iff_eq.mpr c15
          clear c15
          by_cases c16 : t235 = t242
          · rw [if_pos c16] at H
            have c16b0 : (t235 == t242) = true := beq_iff_eq.mpr c16
            have c16b1 : (t235 != t242) = false := bne_eq_false_iff_eq.mpr c16
            clear c16
            by_cases c17 : t236 = t243
            · rw [if_pos c17] at H
              have c17b0 : (t236 == t243) = true := beq_iff_eq.mpr c17
              have c17b1 : (t236 != t243) = false := bne_eq_false_iff_eq.mpr c17
              clear c17
              by_cases c18 : (t237 == t244) = true
              · rw [if_pos c18] at H
                have c18b0 : (t237 == t244) = true := c18
                (try (have c18b1 : decide (t237 = t244) = true := by simpa using c18))
                (try (have c18b2 : (t237 == t244) = true := by simpa using c18))
                clear c18
                by_cases c19 : t246 = t248
                · rw [if_pos c19] at H
                  have c19b0 : (t246 == t248) = true := beq_iff_eq.mpr c19
                  have c19b1 : (t246 != t248) = false := bne_eq_false_iff_eq.mpr c19
                  clear c19
                  by_cases c20 : (t247 == t249) = true
                  · rw [if_pos c20] at H
                    have c20b0 : (t247 == t249) = true := c20
                    (try (have c20b1 : decide (t247 = t249) = true := by simpa using c20))
                    (try (have c20b2 : (t247 == t249) = true := by simpa using c20))
                    clear c20
                    replace H := Option.bind_eq_some_iff.mp H
                    obtain ⟨t250, A210, H⟩ := H
                    replace H : (some t250) = some r := H
                    have A21 := Aside0.mk A210
                    clear A210
                    clear hr
                    obtain rfl := Option.some.inj H
                    go_enter Try.func4, Try.ntmps4
                    go_wp2_with (first | ((with_reducible refine gate_callee (f := 9) rfl ?_); refine goesL_ (some 30) rfl rfl Try.func9 (by kernel_rfl) rfl #[.int .i64 a0] rfl (by (try simp only [List.map_toArray, List.map_cons, List.map_nil]); first | done | rfl | (simp only [List.length_drop, List.length_take]; rfl)) ?_; (with_reducible refine (when_Civil.calls k a0 t231 t232 t233 t234 t235 t236 t237 _ A8.out).mono ?_); rintro e w' ⟨rfl, ⟨nd, rfl⟩⟩; refine ⟨_, rfl, ?_⟩) | ((with_reducible refine gate_callee (f := 10) rfl ?_); refine goesL_ (some 40) rfl rfl Try.func10 (by kernel_rfl) rfl #[.int .i64 a0] rfl (by (try simp only [List.map_toArray, List.map_cons, List.map_nil]); first | done | rfl | (simp only [List.length_drop, List.length_take]; rfl)) ?_; (with_reducible refine (stowageref4_Civil.calls k a0 t238 t239 t240 t241 t242 t243 t244 _ A9.out).mono ?_); rintro e w22 ⟨rfl, hb⟩; refine ⟨_, rfl, ?_⟩; have n0_ := Aside0.mk (below_step (by repeat (first | (with_reducible first | exact HB.out | apply below_alloc | apply pw_below_drewN | apply below_drew1) | exact HB.out)) hb); clear HB; have HB := n0_; clear n0_; (try clear hb); (try clear hb2); (try clear hk); (try clear hi)) | ((with_reducible refine gate_dst (N := 22) rfl ?_); refine box_event ?hg (N := 22) ?hd (cs := #[.int .i64 0, .int .i64 0, .int .i64 0, .int .i64 0, .int .i64 0, .int .i64 0]) (t := 27) ?hr ?_; (case hd => rfl); (case hg => rfl); (case hr => first | (go_simp; done) | (go_simp; rfl)); intro gb245 hg w23 hbox hb; have n0_ := Aside0.mk (below_step (by repeat (first | (with_reducible first | exact HB.out | apply below_alloc | apply pw_below_drewN | apply below_drew1) | exact HB.out)) hb); have n1_ := Aside0.mk (hbox); have n2_ := Aside0.mk ((by rw [hg]; exact (below_size (by repeat (first | (with_reducible first | exact HB.out | apply below_alloc | apply pw_below_drewN | apply below_drew1) | exact HB.out))) : w.heap.size ≤ gb245)); have n3_ := Aside0.mk ((by rw [hg]; exact (below_size (by repeat (first | (with_reducible first | exact HB.out | apply below_alloc | apply pw_below_drewN | apply below_drew1) | exact HB.out))) : w.heap.size ≤ gb245)); clear HB; have HB := n0_; have BK245 := n1_; have GW245 := n2_; have GE245 := n3_; clear n0_ n1_ n2_ n3_; clear hb hbox hg; have hcz24_0 : w23.cell? ⟨gb245, 0, none⟩ = some (.int .i64 0) := (blk_cell BK245.out 0).trans rfl; have hcz24_1 : w23.cell? ⟨gb245, 1, none⟩ = some (.int .i64 0) := (blk_cell BK245.out 1).trans rfl; have hcz24_2 : w23.cell? ⟨gb245, 2, none⟩ = some (.int .i64 0) := (blk_cell BK245.out 2).trans rfl; have hcz24_3 : w23.cell? ⟨gb245, 3, none⟩ = some (.int .i64 0) := (blk_cell BK245.out 3).trans rfl; have hcz24_4 : w23.cell? ⟨gb245, 4, none⟩ = some (.int .i64 0) := (blk_cell BK245.out 4).trans rfl; have hcz24_5 : w23.cell? ⟨gb245, 5, none⟩ = some (.int .i64 0) := (blk_cell BK245.out 5).trans rfl; have hfz24_0 := blk_frozen BK245.out 0; have hfz24_1 := blk_frozen BK245.out 1; have hfz24_2 := blk_frozen BK245.out 2; have hfz24_3 := blk_frozen BK245.out 3; have hfz24_4 := blk_frozen BK245.out 4; have hfz24_5 := blk_frozen BK245.out 5) | ((with_reducible refine gate_callee (f := 11) rfl ?_); refine goesL_ (some 50) rfl rfl Try.func11 (by kernel_rfl) rfl #[.int .i64 a1, .int .i64 a2, .int .i64 a3, .int .i64 a4, .int .i64 a5, .int .i64 a6] rfl (by (try simp only [List.map_toArray, List.map_cons, List.map_nil]); first | done | rfl | (simp only [List.length_drop, List.length_take]; rfl)) ?_; (with_reducible refine (when_Of.calls k a1 a2 a3 a4 a5 a6 t246 t247 _ A10.out).mono ?_); rintro e w' ⟨rfl, ⟨nd, rfl⟩⟩; refine ⟨_, rfl, ?_⟩) | ((with_reducible refine gate_callee (f := 12) rfl ?_); refine goesL_ (some 61) rfl rfl Try.func12 (by kernel_rfl) rfl #[.agg #[.int .i64 a1, .int .i64 a2, .int .i64 a3, .int .i64 a4, .int .i64 a5, .int .i64 a6]] rfl (by (try simp only [List.map_toArray, List.map_cons, List.map_nil]); first | done | rfl | (simp only [List.length_drop, List.length_take]; rfl)) ?_; (with_reducible refine (stowageref4_Of.calls k a1 a2 a3 a4 a5 a6 t248 t249 _ A11.out).mono ?_); rintro e w25 ⟨rfl, hb⟩; refine ⟨_, rfl, ?_⟩; have n0_ := Aside0.mk (blk_below (g := gb245) (o := .cells #[.int .i64 t238, .int .i64 t239, .int .i64 t240, .int .i64 t241, .int .i64 t242, .int .i64 t243] 27 (0, 0)) (by (with_reducible repeat (first | refine blk_drewN ?_ _ | refine blk_drew ?_ | refine blk_alloc ?_ _)); refine blk_put (cs := #[.int .i64 t238, .int .i64 t239, .int .i64 t240, .int .i64 t241, .int .i64 t242, .int .i64 0]) ?_ 5 _ rfl; (with_reducible repeat (first | refine blk_drewN ?_ _ | refine blk_drew ?_ | refine blk_alloc ?_ _)); refine blk_put (cs := #[.int .i64 t238, .int .i64 t239, .int .i64 t240, .int .i64 t241, .int .i64 0, .int .i64 0]) ?_ 4 _ rfl; (with_reducible repeat (first | refine blk_drewN ?_ _ | refine blk_drew ?_ | refine blk_alloc ?_ _)); refine blk_put (cs := #[.int .i64 t238, .int .i64 t239, .int .i64 t240, .int .i64 0, .int .i64 0, .int .i64 0]) ?_ 3 _ rfl; (with_reducible repeat (first | refine blk_drewN ?_ _ | refine blk_drew ?_ | refine blk_alloc ?_ _)); refine blk_put (cs := #[.int .i64 t238, .int .i64 t239, .int .i64 0, .int .i64 0, .int .i64 0, .int .i64 0]) ?_ 2 _ rfl; (with_reducible repeat (first | refine blk_drewN ?_ _ | refine blk_drew ?_ | refine blk_alloc ?_ _)); refine blk_put (cs := #[.int .i64 t238, .int .i64 0, .int .i64 0, .int .i64 0, .int .i64 0, .int .i64 0]) ?_ 1 _ rfl; (with_reducible repeat (first | refine blk_drewN ?_ _ | refine blk_drew ?_ | refine blk_alloc ?_ _)); refine blk_put (cs := #[.int .i64 0, .int .i64 0, .int .i64 0, .int .i64 0, .int .i64 0, .int .i64 0]) ?_ 0 _ rfl; (with_reducible repeat (first | refine blk_drewN ?_ _ | refine blk_drew ?_ | refine blk_alloc ?_ _)); exact BK245.out) hb); have n1_ := Aside0.mk (below_step (by repeat (first | (with_reducible first | exact HB.out | apply below_alloc | apply pw_below_drewN | apply below_drew1 | refine below_set ?_ GE245.out) | exact HB.out)) hb); clear BK245; clear HB; have BK245 := n0_; have HB := n1_; clear n0_ n1_; (try clear hb); (try clear hb2); (try clear hk); (try clear hi); have hcz26_0 : w25.cell? ⟨gb245, 0, none⟩ = some (.int .i64 t238) := (blk_cell BK245.out 0).trans rfl; have hcz26_1 : w25.cell? ⟨gb245, 1, none⟩ = some (.int .i64 t239) := (blk_cell BK245.out 1).trans rfl; have hcz26_2 : w25.cell? ⟨gb245, 2, none⟩ = some (.int .i64 t240) := (blk_cell BK245.out 2).trans rfl; have hcz26_3 : w25.cell? ⟨gb245, 3, none⟩ = some (.int .i64 t241) := (blk_cell BK245.out 3).trans rfl; have hcz26_4 : w25.cell? ⟨gb245, 4, none⟩ = some (.int .i64 t242) := (blk_cell BK245.out 4).trans rfl; have hcz26_5 : w25.cell? ⟨gb245, 5, none⟩ = some (.int .i64 t243) := (blk_cell BK245.out 5).trans rfl; have hfz26_0 := blk_frozen BK245.out 0; have hfz26_1 := blk_frozen BK245.out 1; have hfz26_2 := blk_frozen BK245.out 2; have hfz26_3 := blk_frozen BK245.out 3; have hfz26_4 := blk_frozen BK245.out 4; have hfz26_5 := blk_frozen BK245.out 5) | (go_at_call 8; (with_reducible refine (stowagelaw4_awake.calls k  t250 _ A21.out).mono ?_); rintro e w27 ⟨rfl, hb⟩; have n0_ := Aside0.mk (blk_below (g := gb245) (o := .cells #[.int .i64 t238, .int .i64 t239, .int .i64 t240, .int .i64 t241, .int .i64 t242, .int .i64 t243] 27 (0, 0)) (by (with_reducible repeat (first | refine blk_drewN ?_ _ | refine blk_drew ?_ | refine blk_alloc ?_ _)); exact BK245.out) hb); have n1_ := Aside0.mk (below_step (by repeat (first | (with_reducible first | exact HB.out | apply below_alloc | apply pw_below_drewN | apply below_drew1 | refine below_set ?_ GE245.out) | exact HB.out)) hb); clear BK245; clear HB; have BK245 := n0_; have HB := n1_; clear n0_ n1_; (try clear hb); (try clear hb2); (try clear hk); (try clear hi)))
                    go_ret
                    exact ⟨by first | rfl | (simp [errW_none, errW_some] <;> rfl) | (simp [*, errW_none, errW_some] <;> rfl), by repeat (first | (with_reducible first | exact HB.out | apply below_alloc | apply pw_below_drewN | apply below_drew1 | refine below_set ?_ GE245.out) | exact HB.out)⟩
                  · rw [if_neg c20] at H
                    have c20b0 : (t247 == t249) = false := by simpa using c20
                    (try (have c20b1 : decide (t247 = t249) = false := by simpa using c20))
                    (try (have c20b2 : (t247 == t249) = false := by simpa using c20))
                    (try (have c20b3 : ¬ (t247 = t249) := by simpa using c20))
                    clear c20
                    rw [hr] at H
                    exact absurd H (by simp)
                · rw [if_neg c19] at H
                  have c19b0 : (t246 == t248) = false := beq_eq_false_iff_ne.mpr c19
                  have c19b1 : (t246 != t248) = true := bne_iff_ne.mpr c19
                  rw [hr] at H
                  exact absurd H (by simp)
              · rw [if_neg c18] at H
                have c18b0 : (t237 == t244) = false := by simpa using c18
                (try (have c18b1 : decide (t237 = t244) = false := by simpa using c18))
                (try (have c18b2 : (t237 == t244) = false := by simpa using c18))
                (try (have c18b3 : ¬ (t237 = t244) := by simpa using c18))
                clear c18
                rw [hr] at H
                exact absurd H (by simp)
            · rw [if_neg c17] at H
              have c17b0 : (t236 == t243) = false := beq_eq_false_iff_ne.mpr c17
              have c17b1 : (t236 != t243) = true := bne_iff_ne.mpr c17
              rw [hr] at H
              exact absurd H (by simp)
          · rw [if_neg c16] at H
            have c16b0 : (t235 == t242) = false := beq_eq_false_iff_ne.mpr c16
            have c16b1 : (t235 != t242) = true := bne_iff_ne.mpr c16
            rw [hr] at H
            exact absurd H (by simp)
        · rw [if_neg c15] at H
          have c15b0 : (t234 == t241) = false := beq_eq_false_iff_ne.mpr c15
          have c15b1 : (t234 != t241) = true := bne_iff_ne.mpr c15
          rw [hr] at H
          exact absurd H (by simp)
      · rw [if_neg c14] at H
        have c14b0 : (t233 == t240) = false := beq_eq_false_iff_ne.mpr c14
        have c14b1 : (t233 != t240) = true := bne_iff_ne.mpr c14
        rw [hr] at H
        exact absurd H (by simp)
    · rw [if_neg c13] at H
      have c13b0 : (t232 == t239) = false := beq_eq_false_iff_ne.mpr c13
      have c13b1 : (t232 != t239) = true := bne_iff_ne.mpr c13
      rw [hr] at H
      exact absurd H (by simp)
  · rw [if_neg c12] at H
    have c12b0 : (t231 == t238) = false := beq_eq_false_iff_ne.mpr c12
    have c12b1 : (t231 != t238) = true := bne_iff_ne.mpr c12
    rw [hr] at H
    exact absurd H (by simp)

/-- THE ONE PURE STATEMENT of stowagelaw4_WhenCivil: yours. -/
def stowagelaw4_WhenCivil.Pure : Prop := ∀ (a0 : Int) (a1 : Int) (a2 : Int) (a3 : Int) (a4 : Int) (a5 : Int) (a6 : Int), (Lit.int .i64 a0).wf = true → (Lit.int .i64 a1).wf = true → (Lit.int .i64 a2).wf = true → (Lit.int .i64 a3).wf = true → (Lit.int .i64 a4).wf = true → (Lit.int .i64 a5).wf = true → (Lit.int .i64 a6).wf = true → ∃ k, stowagelaw4_WhenCivil.f k a0 a1 a2 a3 a4 a5 a6 = some true
theorem stowagelaw4_WhenCivil.walk (P : stowagelaw4_WhenCivil.Pure) (a0 : Int) (a1 : Int) (a2 : Int) (a3 : Int) (a4 : Int) (a5 : Int) (a6 : Int) (w : World) (w0 : (Lit.int .i64 a0).wf = true) (w1 : (Lit.int .i64 a1).wf = true) (w2 : (Lit.int .i64 a2).wf = true) (w3 : (Lit.int .i64 a3).wf = true) (w4 : (Lit.int .i64 a4).wf = true) (w5 : (Lit.int .i64 a5).wf = true) (w6 : (Lit.int .i64 a6).wf = true) :
    Calls Try.prog 4 #[.int .i64 a0, .int .i64 a1, .int .i64 a2, .int .i64 a3, .int .i64 a4, .int .i64 a5, .int .i64 a6] w fun e w' => e = .returned (.bool true) ∧ Below w.heap.size w w' := by
  obtain ⟨k, h⟩ := P a0 a1 a2 a3 a4 a5 a6 w0 w1 w2 w3 w4 w5 w6
  refine (stowagelaw4_WhenCivil.calls k a0 a1 a2 a3 a4 a5 a6 true w h rfl).mono ?_
  rintro e w' ⟨rfl, hd⟩
  exact ⟨rfl, hd⟩

end Go.Proofs.Yteggifhicmbopaa.Q

/- Plain arithmetic of dates: days before a year, days before a month, a date's number of days and that it has just one date. No condition beyond what each lemma says. -/
namespace Go.Proofs.Yteggifhicmbopaa.Cal

def leap (y : Int) : Bool := decide (y % 4 = 0 ∧ (¬ y % 100 = 0 ∨ y % 400 = 0))
def L (y : Int) : Int := if leap y = true then 1 else 0
def size (y m : Int) : Int := if m = 4 ∨ m = 6 ∨ m = 9 ∨ m = 11 then 30 else if m = 2 then 28 + L y else 31
def dby (y : Int) : Int := (y - 1) * 365 + (y - 1) / 4 - (y - 1) / 100 + (y - 1) / 400 - 719162
def cum (y m : Int) : Int :=
  if m ≤ 1 then 0 else if m = 2 then 31 else if m = 3 then 59 + L y else if m = 4 then 90 + L y else if m = 5 then 120 + L y
  else if m = 6 then 151 + L y else if m = 7 then 181 + L y else if m = 8 then 212 + L y else if m = 9 then 243 + L y
  else if m = 10 then 273 + L y else if m = 11 then 304 + L y else if m = 12 then 334 + L y else 365 + L y

theorem L_two (y : Int) : L y = 0 ∨ L y = 1 := by unfold L; split <;> simp
theorem L_leap {y : Int} (h : leap y = true) : L y = 1 := by unfold L; rw [if_pos h]
theorem L_not {y : Int} (h : leap y = false) : L y = 0 := by unfold L; rw [h]; rfl
theorem leap_iff (y : Int) : leap y = true ↔ y % 4 = 0 ∧ (¬ y % 100 = 0 ∨ y % 400 = 0) := by unfold leap; simp
theorem dby_succ (y : Int) : dby (y + 1) = dby y + 365 + L y := by
  cases h : leap y with
  | true => rw [L_leap h]; rw [leap_iff] at h; unfold dby; omega
  | false =>
    rw [L_not h]
    have h' : ¬ (y % 4 = 0 ∧ (¬ y % 100 = 0 ∨ y % 400 = 0)) := by rw [← leap_iff, h]; simp
    unfold dby; omega
theorem size_bd (y m : Int) : 28 ≤ size y m ∧ size y m ≤ 31 := by
  have := L_two y
  unfold size; split
  · omega
  · split <;> omega
theorem cum_succ (y m : Int) (h1 : 1 ≤ m) (h2 : m ≤ 12) : cum y (m + 1) = cum y m + size y m := by
  have hm : m = 1 ∨ m = 2 ∨ m = 3 ∨ m = 4 ∨ m = 5 ∨ m = 6 ∨ m = 7 ∨ m = 8 ∨ m = 9 ∨ m = 10 ∨ m = 11 ∨ m = 12 := by omega
  rcases hm with rfl | rfl | rfl | rfl | rfl | rfl | rfl | rfl | rfl | rfl | rfl | rfl <;> simp [cum, size] <;> omega
theorem cum_one (y : Int) : cum y 1 = 0 := by simp [cum]
theorem cum_end (y : Int) : cum y 13 = 365 + L y := by simp [cum]
theorem cum_mono (y m : Int) (h1 : 1 ≤ m) (d : Nat) : m + d ≤ 13 → cum y m ≤ cum y (m + d) := by
  induction d with
  | zero => intro _; simp
  | succ d ih =>
    intro h
    have hs := cum_succ y (m + d) (by omega) (by omega)
    have hz := size_bd y (m + d)
    have := ih (by omega)
    have e : m + ((d + 1 : Nat) : Int) = m + d + 1 := by omega
    rw [e]; omega
theorem cum_le (y m m' : Int) (h1 : 1 ≤ m) (h : m ≤ m') (h2 : m' ≤ 13) : cum y m ≤ cum y m' := by
  have := cum_mono y m h1 (m' - m).toNat (by omega)
  rwa [show m + ((m' - m).toNat : Int) = m' by omega] at this
theorem cum_bd (y m : Int) (h1 : 1 ≤ m) (h2 : m ≤ 13) : 0 ≤ cum y m ∧ cum y m ≤ 366 := by
  have a := cum_le y 1 m (by omega) h1 h2
  have b := cum_le y m 13 h1 h2 (by omega)
  have := L_two y
  rw [cum_one] at a
  rw [cum_end] at b
  omega
theorem dby_mono (y : Int) (d : Nat) : dby y + 365 * d ≤ dby (y + d) := by
  induction d with
  | zero => simp
  | succ d ih =>
    have hs := dby_succ (y + d)
    have := L_two (y + d)
    have e : y + ((d + 1 : Nat) : Int) = y + d + 1 := by omega
    rw [e]; omega
theorem dby_le (y y' : Int) (h : y ≤ y') : dby y ≤ dby y' := by
  have := dby_mono y (y' - y).toNat
  rw [show y + ((y' - y).toNat : Int) = y' by omega] at this
  omega

/-- A date whose number of days since 1970 is n. -/
structure Valid (y m d n : Int) : Prop where
  y0 : 1970 ≤ y
  y1 : y ≤ 9999
  m0 : 1 ≤ m
  m1 : m ≤ 12
  d0 : 1 ≤ d
  d1 : d ≤ size y m
  num : dby y + cum y m + d - 1 = n

theorem Valid.in_year {y m d n : Int} (h : Valid y m d n) : dby y ≤ n ∧ n < dby (y + 1) := by
  have hc := cum_bd y m h.m0 (by have := h.m1; omega)
  have hs := cum_succ y m h.m0 h.m1
  have hl := cum_le y (m + 1) 13 (by have := h.m0; omega) (by have := h.m1; omega) (by omega)
  rw [cum_end] at hl
  have hd := dby_succ y
  have := h.num; have := h.d0; have := h.d1
  omega
theorem Valid.year_eq {y m d n y' m' d' : Int} (h : Valid y m d n) (h' : Valid y' m' d' n) : y = y' := by
  have a := h.in_year
  have b := h'.in_year
  by_cases c : y < y'
  · have := dby_le (y + 1) y' (by omega); omega
  · by_cases c' : y' < y
    · have := dby_le (y' + 1) y (by omega); omega
    · omega
theorem Valid.unique {y m d n y' m' d' : Int} (h : Valid y m d n) (h' : Valid y' m' d' n) : y = y' ∧ m = m' ∧ d = d' := by
  obtain rfl := h.year_eq h'
  have hm : m = m' := by
    by_cases c : m < m'
    · have := cum_le y (m + 1) m' (by have := h.m0; omega) (by omega) (by have := h'.m1; omega)
      have := cum_succ y m h.m0 h.m1
      have := h.num; have := h'.num; have := h.d1; have := h'.d0
      omega
    · by_cases c' : m' < m
      · have := cum_le y (m' + 1) m (by have := h'.m0; omega) (by omega) (by have := h.m1; omega)
        have := cum_succ y m' h'.m0 h'.m1
        have := h.num; have := h'.num; have := h'.d1; have := h.d0
        omega
      · omega
  subst hm
  have := h.num; have := h'.num
  exact ⟨rfl, rfl, by omega⟩
/-- The next day. -/
theorem Valid.next {y m d n : Int} (h : Valid y m d n) (hn : n + 1 < dby 10000) :
    (Valid y m (d + 1) (n + 1)) ∨ (d = size y m ∧ Valid y (m + 1) 1 (n + 1)) ∨ (d = size y m ∧ m = 12 ∧ Valid (y + 1) 1 1 (n + 1)) := by
  by_cases c : d < size y m
  · exact .inl ⟨h.y0, h.y1, h.m0, h.m1, by have := h.d0; omega, by omega, by have := h.num; omega⟩
  · have hd : d = size y m := by have := h.d1; omega
    by_cases c2 : m < 12
    · refine .inr (.inl ⟨hd, h.y0, h.y1, by have := h.m0; omega, by omega, by omega, by have := size_bd y (m + 1); omega, ?_⟩)
      have := cum_succ y m h.m0 h.m1; have := h.num; omega
    · have hm : m = 12 := by have := h.m1; omega
      subst hm
      have e := cum_succ y 12 (by omega) (by omega)
      have hs := dby_succ y
      rw [show (12 : Int) + 1 = 13 from rfl, cum_end] at e
      have hy : y + 1 ≤ 9999 := by
        by_cases c3 : y + 1 ≤ 9999
        · exact c3
        · have := h.y1
          have : y = 9999 := by omega
          subst this
          have := h.num
          rw [show (9999 : Int) + 1 = 10000 from rfl] at hs
          omega
      refine .inr (.inr ⟨hd, rfl, by have := h.y0; omega, hy, by omega, by omega, by omega, by have := size_bd (y + 1) 1; omega, ?_⟩)
      rw [cum_one]
      have := h.num; omega
theorem dby_1970 : dby 1970 = 0 := by decide
theorem dby_10000 : dby 10000 = 2932897 := by decide
theorem Valid.bd {y m d n : Int} (h : Valid y m d n) : 0 ≤ n ∧ n ≤ 2932896 := by
  have a := h.in_year
  have := dby_le 1970 y h.y0
  have := dby_le (y + 1) 10000 (by have := h.y1; omega)
  rw [dby_1970] at *
  rw [dby_10000] at *
  omega
end Go.Proofs.Yteggifhicmbopaa.Cal

/- What the program's functions on dates compute: Civil's date of a second, the other functions' values, for enough rounds. Conditions: the numbers named lie in the calendar's range. -/
namespace Go.Proofs.Yteggifhicmbopaa.Pure
open Go.RowKit Go.Proofs.Yteggifhicmbopaa.Q Go.Proofs.YteggifhicmbopaaW.PrintWords Go.Proofs.YteggifhicmbopaaW.PrintLast Cal
set_option linter.unusedVariables false
set_option linter.unusedSimpArgs false

theorem ev_pos {α : Type} {c : Prop} [Decidable c] {f g : Nat → Option α} {r : α} (hc : c) (h : Ev f r) : Ev (fun k => if c then f k else g k) r :=
  Ev.congr (fun _ => if_pos hc) h
theorem ev_neg {α : Type} {c : Prop} [Decidable c] {f g : Nat → Option α} {r : α} (hc : ¬ c) (h : Ev g r) : Ev (fun k => if c then f k else g k) r :=
  Ev.congr (fun _ => if_neg hc) h
theorem ev_eq {α : Type} {g : Nat → Option α} {r r' : α} (h : Ev g r) (e : r = r') : Ev g r' := e ▸ h
theorem w64 {n : Int} (h : -9000000000000000000 ≤ n) (h' : n ≤ 9000000000000000000) : wrap64 n = n := by unfold wrap64; omega
theorem tdiv_pos {a b : Int} (h : 0 ≤ a) : Int.tdiv a b = a / b := Int.tdiv_eq_ediv_of_nonneg h
theorem tmod_pos {a b : Int} (h : 0 ≤ a) : Int.tmod a b = a % b := Int.tmod_eq_emod_of_nonneg h

theorem is_eq (t : Int) : when_is.f t = some (decide (0 ≤ t ∧ t ≤ 253402300799)) := by
  unfold when_is.f
  by_cases h : t ≥ 0
  · rw [if_pos h]; simp [h]
  · rw [if_neg h]; simp; intro h2; omega
theorem size_ev (y m : Int) (hy : 0 ≤ y) : Ev (fun k => when_size.f k y m) (size y m) := by
  have hj : ∀ b : Bool, Ev (fun k => when_size.j0 k y m b) (if b = true then 30 else if m = 11 then 30 else if m = 2 then 28 + L y else 31) := by
    intro b
    refine Ev.step (f := fun _ => some _) (fun k => ?_) (Ev.now _)
    simp only [when_size.j0]
    cases b with
    | true => rfl
    | false =>
      simp only [Bool.false_eq_true, if_false]
      split
      · rfl
      · split
        · rw [tmod_pos hy, tmod_pos hy, tmod_pos hy]
          cases hl : leap y with
          | true =>
            rw [L_leap hl]
            rw [leap_iff] at hl
            rw [if_pos hl.1]
            split
            · rw [if_pos (by omega)]; rfl
            · rfl
          | false =>
            rw [L_not hl]
            have hl' : ¬ (y % 4 = 0 ∧ (¬ y % 100 = 0 ∨ y % 400 = 0)) := by rw [← leap_iff, hl]; simp
            split
            · rw [if_pos (by omega), if_neg (by omega)]; rfl
            · rfl
        · rfl
  simp only [when_size.f]
  by_cases h4 : m = 4
  · refine ev_pos h4 (ev_eq (hj _) ?_)
    subst h4; simp [size]
  · refine ev_neg h4 ?_
    by_cases h6 : m = 6
    · refine ev_pos h6 (ev_eq (hj _) ?_)
      subst h6; simp [size]
    · refine ev_neg h6 (ev_eq (hj _) ?_)
      by_cases h9 : m = 9
      · subst h9; simp [size]
      · simp only [size, beq_iff_eq, h9, h4, h6, if_false, false_or]
theorem before_eq (y : Int) (h0 : 1 ≤ y) (h1 : y ≤ 10001) : when_before.f y = some (dby y) := by
  unfold when_before.f dby
  have e : wrap64 (y - 1) = y - 1 := w64 (by omega) (by omega)
  rw [e, tdiv_pos (by omega), tdiv_pos (by omega), tdiv_pos (by omega)]
  rw [w64 (n := (y - 1) * 365) (by omega) (by omega), w64 (n := (y - 1) / 4) (by omega) (by omega), w64 (n := (y - 1) / 100) (by omega) (by omega), w64 (n := (y - 1) / 400) (by omega) (by omega)]
  rw [w64 (n := (y - 1) * 365 + (y - 1) / 4) (by omega) (by omega), w64 (n := (y - 1) * 365 + (y - 1) / 4 - (y - 1) / 100) (by omega) (by omega), w64 (n := (y - 1) * 365 + (y - 1) / 4 - (y - 1) / 100 + (y - 1) / 400) (by omega) (by omega), w64 (by omega) (by omega)]
theorem hour_eq (t : Int) (h0 : 0 ≤ t) (h1 : t ≤ 253402300799) : Int.tmod (wrap64 (Int.tdiv t 3600)) 24 = t / 3600 % 24 := by
  rw [tdiv_pos h0, w64 (by omega) (by omega), tmod_pos (by omega)]
theorem min_eq (t : Int) (h0 : 0 ≤ t) (h1 : t ≤ 253402300799) : Int.tmod (wrap64 (Int.tdiv t 60)) 60 = t / 60 % 60 := by
  rw [tdiv_pos h0, w64 (by omega) (by omega), tmod_pos (by omega)]
theorem civil_l1 (x y : Int) (hy0 : 1970 ≤ y) (hy1 : y ≤ 9999) (j : Nat) : ∀ (m n : Int), 1 ≤ m → m + j = 12 → 0 ≤ n → cum y m + n < 365 + L y →
    ∃ m' d', Valid y m' d' (dby y + cum y m + n) ∧ Ev (fun k => when_Civil.l1 k x y m n) (y, m', d', Int.tmod (wrap64 (Int.tdiv x 3600)) 24, Int.tmod (wrap64 (Int.tdiv x 60)) 60, Int.tmod x 60, true) := by
  induction j with
  | zero =>
    intro m n h1 hj hn hb
    have hm : m = 12 := by omega
    have hs := size_bd y m
    have hc := cum_succ y m h1 (by omega)
    subst hm
    rw [show (12 : Int) + 1 = 13 from rfl, cum_end] at hc
    refine ⟨12, n + 1, ⟨hy0, hy1, by omega, by omega, by omega, by omega, by omega⟩, ?_⟩
    refine Ev.step (f := fun k => _) (fun k => by rw [when_Civil.l1]) ?_
    refine Ev.bind (size_ev y 12 (by omega)) ?_
    refine ev_neg (by omega) (ev_eq (Ev.now _) ?_)
    rw [w64 (by omega) (by omega)]
  | succ j ih =>
    intro m n h1 hj hn hb
    have hs := size_bd y m
    have hc := cum_succ y m h1 (by omega)
    by_cases c : n ≥ size y m
    · obtain ⟨m', d', hv, he⟩ := ih (m + 1) (n - size y m) (by omega) (by omega) (by omega) (by omega)
      refine ⟨m', d', by rw [show dby y + cum y m + n = dby y + cum y (m + 1) + (n - size y m) by omega]; exact hv, ?_⟩
      refine Ev.step (f := fun k => _) (fun k => by rw [when_Civil.l1]) ?_
      refine Ev.bind (size_ev y m (by omega)) ?_
      refine ev_pos c ?_
      refine Ev.bind (size_ev y m (by omega)) ?_
      have hL := L_two y
      have hcb := cum_bd y m h1 (by omega)
      rw [w64 (n := m + 1) (by omega) (by omega), w64 (n := n - size y m) (by omega) (by omega)]
      exact he
    · refine ⟨m, n + 1, ⟨hy0, hy1, by omega, by omega, by omega, by omega, by omega⟩, ?_⟩
      refine Ev.step (f := fun k => _) (fun k => by rw [when_Civil.l1]) ?_
      refine Ev.bind (size_ev y m (by omega)) ?_
      refine ev_neg (by omega) (ev_eq (Ev.now _) ?_)
      rw [w64 (by omega) (by omega)]
theorem civil_l0 (x n : Int) (hn : n < dby 10000) (j : Nat) : ∀ y : Int, 1970 ≤ y → y + j = 9999 → dby y ≤ n →
    ∃ y' m' d', Valid y' m' d' n ∧ Ev (fun k => when_Civil.l0 k x y n) (y', m', d', Int.tmod (wrap64 (Int.tdiv x 3600)) 24, Int.tmod (wrap64 (Int.tdiv x 60)) 60, Int.tmod x 60, true) := by
  have fin : ∀ y : Int, 1970 ≤ y → y ≤ 9999 → dby y ≤ n → n < dby (y + 1) → ∃ y' m' d', Valid y' m' d' n ∧ Ev (fun k => when_Civil.l0 k x y n) (y', m', d', Int.tmod (wrap64 (Int.tdiv x 3600)) 24, Int.tmod (wrap64 (Int.tdiv x 60)) 60, Int.tmod x 60, true) := by
    intro y h0 h1 h2 h3
    have hd := dby_succ y
    obtain ⟨m', d', hv, he⟩ := civil_l1 x y h0 h1 11 1 (n - dby y) (by omega) (by omega) (by omega) (by rw [cum_one]; omega)
    rw [cum_one, show dby y + 0 + (n - dby y) = n by omega] at hv
    refine ⟨y, m', d', hv, ?_⟩
    refine Ev.step (f := fun k => _) (fun k => by rw [when_Civil.l0]) ?_
    rw [w64 (n := y + 1) (by omega) (by omega), before_eq (y + 1) (by omega) (by omega)]
    refine ev_neg (by omega) ?_
    rw [before_eq y (by omega) (by omega)]
    show Ev (fun k => when_Civil.l1 k x y 1 (wrap64 (n - dby y))) _
    have := L_two y
    rw [w64 (n := n - dby y) (by omega) (by omega)]
    exact he
  induction j with
  | zero =>
    intro y h0 hj h2
    obtain rfl : y = 9999 := by omega
    exact fin 9999 (by omega) (by omega) h2 hn
  | succ j ih =>
    intro y h0 hj h2
    by_cases c : dby (y + 1) ≤ n
    · obtain ⟨y', m', d', hv, he⟩ := ih (y + 1) (by omega) (by omega) c
      refine ⟨y', m', d', hv, ?_⟩
      refine Ev.step (f := fun k => _) (fun k => by rw [when_Civil.l0]) ?_
      rw [w64 (n := y + 1) (by omega) (by omega), before_eq (y + 1) (by omega) (by omega)]
      exact ev_pos c he
    · exact fin y h0 (by omega) h2 (by omega)
theorem dby_guess (q : Nat) : dby (1970 + q) ≤ 366 * q := by
  induction q with
  | zero => decide
  | succ q ih =>
    have hs := dby_succ (1970 + q)
    have := L_two (1970 + q)
    rw [show (1970 : Int) + ((q + 1 : Nat) : Int) = 1970 + q + 1 by omega]; omega
theorem civil_ev (t : Int) (h0 : 0 ≤ t) (h1 : t ≤ 253402300799) : ∃ y m d, Valid y m d (t / 86400) ∧ Ev (fun k => when_Civil.f k t) (y, m, d, t / 3600 % 24, t / 60 % 60, t % 60, true) := by
  have hg := dby_guess (t / 86400 / 366).toNat
  rw [show (((t / 86400 / 366).toNat : Nat) : Int) = t / 86400 / 366 by omega] at hg
  obtain ⟨y, m, d, hv, he⟩ := civil_l0 t (t / 86400) (by rw [dby_10000]; omega) (8029 - t / 86400 / 366).toNat (1970 + t / 86400 / 366) (by omega) (by omega) (by omega)
  refine ⟨y, m, d, hv, ?_⟩
  rw [hour_eq t h0 h1, min_eq t h0 h1, tmod_pos h0] at he
  refine Ev.congr (fun k => by rw [when_Civil.f, is_eq t, Option.bind_some, if_pos (by simp; omega)]) ?_
  rw [tdiv_pos h0, w64 (n := t / 86400) (by omega) (by omega), tdiv_pos (by omega), w64 (n := t / 86400 / 366) (by omega) (by omega), w64 (by omega) (by omega)]
  exact he
theorem civil_out (t : Int) (h : ¬ (0 ≤ t ∧ t ≤ 253402300799)) : Ev (fun k => when_Civil.f k t) (0, 0, 0, 0, 0, 0, false) := by
  refine Ev.congr (f := fun _ => _) (fun k => by rw [when_Civil.f, is_eq t, Option.bind_some, if_neg (by simpa using h)]) (Ev.now _)
theorem awake_ev : Ev (fun k => stowagelaw4_awake.f k) true := Ev.of (fun k => stowagelaw4_awake.mono k) (k := 40) (by kernel_rfl)
theorem awb : Ev (fun k => (stowagelaw4_awake.f k).bind fun t => some t) true := Ev.bind awake_ev (Ev.now _)
theorem wf_bd {a : Int} (h : (Lit.int .i64 a).wf = true) : -9223372036854775808 ≤ a ∧ a ≤ 9223372036854775807 := by
  simp [Lit.wf] at h
  have e1 : IntKind.i64.min = -9223372036854775808 := by kernel_rfl
  have e2 : IntKind.i64.max = 9223372036854775807 := by kernel_rfl
  omega
end Go.Proofs.Yteggifhicmbopaa.Pure

/- What the document's functions on dates compute, and what Of computes in program and document: the second of a real date, and nothing else. Conditions: the numbers named are ints. -/
namespace Go.Proofs.Yteggifhicmbopaa.Pure
open Go.RowKit Go.Proofs.Yteggifhicmbopaa.Q Go.Proofs.YteggifhicmbopaaW.PrintWords Go.Proofs.YteggifhicmbopaaW.PrintLast Cal
set_option linter.unusedVariables false
set_option linter.unusedSimpArgs false

theorem rleap_eq (y : Int) (hy : 0 ≤ y) : stowageref4_leap.f y = some (leap y) := by
  unfold stowageref4_leap.f
  rw [tmod_pos hy, tmod_pos hy, tmod_pos hy]
  cases h : leap y with
  | true =>
    rw [leap_iff] at h
    rw [if_pos h.1]
    split
    · have : y % 400 = 0 := by omega
      simp [this]
    · rfl
  | false =>
    have h' : ¬ (y % 4 = 0 ∧ (¬ y % 100 = 0 ∨ y % 400 = 0)) := by rw [← leap_iff, h]; simp
    have h4 : ¬ y % 400 = 0 := by omega
    split
    · split
      · simp [h4]
      · omega
    · simp [h4]
theorem ryear_eq (y : Int) (hy : 0 ≤ y) : stowageref4_year.f y = some (365 + L y) := by
  unfold stowageref4_year.f
  rw [rleap_eq y hy, Option.bind_some]
  cases h : leap y with
  | true => rw [L_leap h]; rfl
  | false => rw [L_not h]; rfl
theorem rsize_ev (y m : Int) (hy : 0 ≤ y) : Ev (fun k => stowageref4_size.f k y m) (size y m) := by
  have hj : ∀ b : Bool, Ev (fun k => stowageref4_size.j0 k y m b) (if b = true then 30 else if m = 2 then 28 + L y else 31) := by
    intro b
    refine Ev.step (f := fun _ => some _) (fun k => ?_) (Ev.now _)
    simp only [stowageref4_size.j0]
    cases b with
    | true => rfl
    | false =>
      simp only [Bool.false_eq_true, if_false]
      split
      · rw [rleap_eq y hy, Option.bind_some]
        cases h : leap y with
        | true => rw [L_leap h]; rfl
        | false => rw [L_not h]; rfl
      · rfl
  simp only [stowageref4_size.f]
  by_cases h4 : m = 4
  · refine ev_pos h4 (ev_eq (hj _) ?_)
    subst h4; simp [size]
  · refine ev_neg h4 ?_
    by_cases h6 : m = 6
    · refine ev_pos h6 (ev_eq (hj _) ?_)
      subst h6; simp [size]
    · refine ev_neg h6 ?_
      by_cases h9 : m = 9
      · refine ev_pos h9 (ev_eq (hj _) ?_)
        subst h9; simp [size]
      · refine ev_neg h9 (ev_eq (hj _) ?_)
        simp only [size, beq_iff_eq, h9, h4, h6, false_or]
theorem rcivil_l1 (y h mi s : Int) (hy0 : 1970 ≤ y) (hy1 : y ≤ 9999) (j : Nat) : ∀ (m n dd : Int), 1 ≤ m → m + j = 12 → 0 ≤ n → cum y m + n < 365 + L y →
    ∃ m' d', Valid y m' d' (dby y + cum y m + n) ∧ Ev (fun k => stowageref4_Civil.l1 k n y m dd h mi s) (y, m', d', h, mi, s, true) := by
  have stop : ∀ (m n dd : Int), 1 ≤ m → m ≤ 12 → 0 ≤ n → ¬ n ≥ size y m → ∃ m' d', Valid y m' d' (dby y + cum y m + n) ∧ Ev (fun k => stowageref4_Civil.l1 k n y m dd h mi s) (y, m', d', h, mi, s, true) := by
    intro m n dd h1 h2 hn c
    have hs := size_bd y m
    refine ⟨m, n + 1, ⟨hy0, hy1, by omega, by omega, by omega, by omega, by omega⟩, ?_⟩
    refine Ev.step (f := fun k => _) (fun k => by rw [stowageref4_Civil.l1]) ?_
    refine Ev.bind (rsize_ev y m (by omega)) ?_
    refine ev_neg c (ev_eq (Ev.now _) ?_)
    rw [w64 (by omega) (by omega)]
  induction j with
  | zero =>
    intro m n dd h1 hj hn hb
    have hm : m = 12 := by omega
    have hc := cum_succ y m h1 (by omega)
    subst hm
    rw [show (12 : Int) + 1 = 13 from rfl, cum_end] at hc
    exact stop 12 n dd (by omega) (by omega) hn (by omega)
  | succ j ih =>
    intro m n dd h1 hj hn hb
    have hs := size_bd y m
    have hc := cum_succ y m h1 (by omega)
    by_cases c : n ≥ size y m
    · obtain ⟨m', d', hv, he⟩ := ih (m + 1) (n - size y m) dd (by omega) (by omega) (by omega) (by omega)
      refine ⟨m', d', by rw [show dby y + cum y m + n = dby y + cum y (m + 1) + (n - size y m) by omega]; exact hv, ?_⟩
      refine Ev.step (f := fun k => _) (fun k => by rw [stowageref4_Civil.l1]) ?_
      refine Ev.bind (rsize_ev y m (by omega)) ?_
      refine ev_pos c ?_
      refine Ev.bind (rsize_ev y m (by omega)) ?_
      have hL := L_two y
      have hcb := cum_bd y m h1 (by omega)
      rw [w64 (n := m + 1) (by omega) (by omega), w64 (n := n - size y m) (by omega) (by omega)]
      exact he
    · exact stop m n dd h1 (by omega) hn c
theorem rcivil_l0 (t h mi s : Int) (ht : t < dby 10000) (j : Nat) : ∀ (y n dd : Int), 1970 ≤ y → y + j = 9999 → dby y ≤ t → n = t - dby y →
    ∃ y' m' d', Valid y' m' d' t ∧ Ev (fun k => stowageref4_Civil.l0 k n y 1 dd h mi s) (y', m', d', h, mi, s, true) := by
  have fin : ∀ (y n dd : Int), 1970 ≤ y → y ≤ 9999 → dby y ≤ t → t < dby (y + 1) → n = t - dby y → ∃ y' m' d', Valid y' m' d' t ∧ Ev (fun k => stowageref4_Civil.l0 k n y 1 dd h mi s) (y', m', d', h, mi, s, true) := by
    intro y n dd h0 h1 h2 h3 hn
    have hd := dby_succ y
    obtain ⟨m', d', hv, he⟩ := rcivil_l1 y h mi s h0 h1 11 1 n dd (by omega) (by omega) (by omega) (by rw [cum_one]; omega)
    rw [cum_one, show dby y + 0 + n = t by omega] at hv
    refine ⟨y, m', d', hv, ?_⟩
    refine Ev.step (f := fun k => _) (fun k => by rw [stowageref4_Civil.l0, ryear_eq y (by omega), Option.bind_some, if_neg (by omega)]) ?_
    exact he
  induction j with
  | zero =>
    intro y n dd h0 hj h2 hn
    obtain rfl : y = 9999 := by omega
    exact fin 9999 n dd (by omega) (by omega) h2 ht hn
  | succ j ih =>
    intro y n dd h0 hj h2 hn
    have hd := dby_succ y
    have hL := L_two y
    by_cases c : dby (y + 1) ≤ t
    · obtain ⟨y', m', d', hv, he⟩ := ih (y + 1) (n - (365 + L y)) dd (by omega) (by omega) c (by omega)
      refine ⟨y', m', d', hv, ?_⟩
      have hb := dby_le y 10000 (by omega)
      have hz := dby_le 1970 y (by omega)
      rw [dby_1970] at hz
      rw [dby_10000] at hb ht
      refine Ev.step (f := fun k => _) (fun k => by rw [stowageref4_Civil.l0, ryear_eq y (by omega), Option.bind_some, if_pos (by omega), Option.bind_some, w64 (n := y + 1) (by omega) (by omega), w64 (n := n - (365 + L y)) (by omega) (by omega)]) ?_
      exact he
    · exact fin y n dd h0 (by omega) h2 (by omega) hn
theorem rcivil_ev (t : Int) (h0 : 0 ≤ t) (h1 : t ≤ 253402300799) : ∃ y m d, Valid y m d (t / 86400) ∧ Ev (fun k => stowageref4_Civil.f k t) (y, m, d, t / 3600 % 24, t / 60 % 60, t % 60, true) := by
  obtain ⟨y, m, d, hv, he⟩ := rcivil_l0 (t / 86400) (t / 3600 % 24) (t / 60 % 60) (t % 60) (by rw [dby_10000]; omega) 8029 1970 (t / 86400) 0 (by omega) (by omega) (by rw [dby_1970]; omega) (by rw [dby_1970]; omega)
  refine ⟨y, m, d, hv, ?_⟩
  refine Ev.congr (fun k => by rw [stowageref4_Civil.f, if_neg (by omega), decide_eq_false (by omega)]) ?_
  refine Ev.step (f := fun k => _) (fun k => by rw [stowageref4_Civil.j0, if_neg (by simp), hour_eq t h0 h1, min_eq t h0 h1, tmod_pos h0, tdiv_pos h0, w64 (n := t / 86400) (by omega) (by omega)]) ?_
  exact he
theorem rcivil_out (t : Int) (h : ¬ (0 ≤ t ∧ t ≤ 253402300799)) : Ev (fun k => stowageref4_Civil.f k t) (0, 0, 0, 0, 0, 0, false) := by
  have hj : Ev (fun k => stowageref4_Civil.j0 k t true) (0, 0, 0, 0, 0, 0, false) := Ev.step (f := fun _ => _) (fun k => by rw [stowageref4_Civil.j0, if_pos rfl]) (Ev.now _)
  simp only [stowageref4_Civil.f]
  by_cases c : t < 0
  · exact ev_pos c hj
  · refine ev_neg c ?_
    rw [decide_eq_true (by omega)]
    exact hj

/-- A date and a time of day that are real. -/
def Real (y m d h mi s : Int) : Prop := 1970 ≤ y ∧ y ≤ 9999 ∧ 1 ≤ m ∧ m ≤ 12 ∧ 1 ≤ d ∧ d ≤ size y m ∧ 0 ≤ h ∧ h ≤ 23 ∧ 0 ≤ mi ∧ mi ≤ 59 ∧ 0 ≤ s ∧ s ≤ 59
instance (y m d h mi s : Int) : Decidable (Real y m d h mi s) := by unfold Real; infer_instance
/-- The second of a real date. -/
def second (y m d h mi s : Int) : Int := (dby y + cum y m + d - 1) * 86400 + h * 3600 + mi * 60 + s
theorem Real.valid {y m d h mi s : Int} (r : Real y m d h mi s) : Valid y m d (dby y + cum y m + d - 1) := by
  obtain ⟨a, b, c, e, f, g, _⟩ := r
  exact ⟨a, b, c, e, f, g, rfl⟩
theorem Real.bd {y m d h mi s : Int} (r : Real y m d h mi s) : 0 ≤ dby y + cum y m + d - 1 ∧ dby y + cum y m + d - 1 ≤ 2932896 := r.valid.bd

theorem of_1 (a b c : Int) : when_Of_1.f a b c = some (decide (b ≤ a ∧ a ≤ c)) := by
  unfold when_Of_1.f
  by_cases h : a ≥ b
  · rw [if_pos h]; simp [h]
  · rw [if_neg h]; simp; intro h2; omega
theorem of_l0 (y m h mi s b : Int) (hy0 : 1970 ≤ y) (hm1 : m ≤ 12) (hh : 0 ≤ h ∧ h ≤ 23) (hmi : 0 ≤ mi ∧ mi ≤ 59) (hs : 0 ≤ s ∧ s ≤ 59) (hb : 0 ≤ b ∧ b ≤ 2932897) (j : Nat) : ∀ i : Int, 1 ≤ i → i + j = m →
    Ev (fun k => when_Of.l0 k y m h mi s (b + cum y i) i) ((b + cum y m) * 86400 + h * 3600 + mi * 60 + s, true) := by
  induction j with
  | zero =>
    intro i h1 hj
    obtain rfl : i = m := by omega
    have hc := cum_bd y i h1 (by omega)
    refine Ev.step (f := fun _ => some ((b + cum y i) * 86400 + h * 3600 + mi * 60 + s, true)) (fun k => ?_) (Ev.now _)
    rw [when_Of.l0, if_neg (by omega)]
    generalize cum y i = c at *
    rw [w64 (n := (b + c) * 24) (by omega) (by omega), w64 (n := (b + c) * 24 + h) (by omega) (by omega), w64 (n := ((b + c) * 24 + h) * 60) (by omega) (by omega), w64 (n := ((b + c) * 24 + h) * 60 + mi) (by omega) (by omega), w64 (n := (((b + c) * 24 + h) * 60 + mi) * 60) (by omega) (by omega), w64 (by omega) (by omega)]
    rw [show (((b + c) * 24 + h) * 60 + mi) * 60 + s = (b + c) * 86400 + h * 3600 + mi * 60 + s by omega]
  | succ j ih =>
    intro i h1 hj
    have hc := cum_bd y i h1 (by omega)
    have hz := size_bd y i
    have e := cum_succ y i h1 (by omega)
    refine Ev.step (f := fun k => _) (fun k => by rw [when_Of.l0, if_pos (by omega)]) ?_
    refine Ev.bind (size_ev y i (by omega)) ?_
    rw [w64 (n := b + cum y i + size y i) (by omega) (by omega), w64 (n := i + 1) (by omega) (by omega), show b + cum y i + size y i = b + cum y (i + 1) by omega]
    exact ih (i + 1) (by omega) (by omega)
theorem of_ev (y m d h mi s : Int) : Ev (fun k => when_Of.f k y m d h mi s) (if Real y m d h mi s then (second y m d h mi s, true) else (0, false)) := by
  have jt : ∀ (b : Bool), (b = true → ¬ Real y m d h mi s) → (b = false → Real y m d h mi s) → Ev (fun k => when_Of.j0 k y m d h mi s b) (if Real y m d h mi s then (second y m d h mi s, true) else (0, false)) := by
    intro b hb1 hb0
    cases b with
    | true => exact Ev.step (f := fun _ => some _) (fun k => by rw [when_Of.j0, if_pos rfl, if_neg (hb1 rfl)]) (Ev.now _)
    | false =>
      have r := hb0 rfl
      have hbd := r.bd
      have hv := r.valid
      obtain ⟨a1, a2, a3, a4, a5, a6, a7, a8, a9, b1, b2, b3⟩ := r
      rw [if_pos (hb0 rfl)]
      have hy := hv.in_year
      have hc := cum_bd y m a3 (by omega)
      have h19 := dby_le 1970 y a1
      have h99 := dby_le y 10000 (by omega)
      rw [dby_1970] at h19
      rw [dby_10000] at h99
      refine Ev.step (f := fun k => _) (fun k => by rw [when_Of.j0, if_neg (by simp), before_eq y (by omega) (by omega), Option.bind_some]) ?_
      have hz := size_bd y m
      rw [w64 (n := dby y + d) (by omega) (by omega), w64 (n := dby y + d - 1) (by omega) (by omega)]
      have q := of_l0 y m h mi s (dby y + d - 1) a1 a4 ⟨a7, a8⟩ ⟨a9, b1⟩ ⟨b2, b3⟩ (by omega) (m - 1).toNat 1 (by omega) (by omega)
      rw [cum_one, show dby y + d - 1 + 0 = dby y + d - 1 by omega, show (dby y + d - 1 + cum y m) * 86400 + h * 3600 + mi * 60 + s = second y m d h mi s by unfold second; omega] at q
      exact q
  refine Ev.congr (fun k => by rw [when_Of.f, of_1, Option.bind_some]) ?_
  by_cases c1 : 1970 ≤ y ∧ y ≤ 9999
  case neg => exact ev_neg (by simpa using c1) (jt true (fun _ r => c1 ⟨r.1, r.2.1⟩) (by simp))
  refine ev_pos (by simpa using c1) ?_
  refine Ev.congr (fun k => by rw [of_1, Option.bind_some]) ?_
  by_cases c2 : 1 ≤ m ∧ m ≤ 12
  case neg => exact ev_neg (by simpa using c2) (jt true (fun _ r => c2 ⟨r.2.2.1, r.2.2.2.1⟩) (by simp))
  refine ev_pos (by simpa using c2) ?_
  refine Ev.bind (size_ev y m (by omega)) ?_
  refine Ev.congr (fun k => by rw [of_1, Option.bind_some]) ?_
  by_cases c3 : 1 ≤ d ∧ d ≤ size y m
  case neg => exact ev_neg (by simpa using c3) (jt true (fun _ r => c3 ⟨r.2.2.2.2.1, r.2.2.2.2.2.1⟩) (by simp))
  refine ev_pos (by simpa using c3) ?_
  refine Ev.congr (fun k => by rw [of_1, Option.bind_some]) ?_
  by_cases c4 : 0 ≤ h ∧ h ≤ 23
  case neg => exact ev_neg (by simpa using c4) (jt true (fun _ r => c4 ⟨r.2.2.2.2.2.2.1, r.2.2.2.2.2.2.2.1⟩) (by simp))
  refine ev_pos (by simpa using c4) ?_
  refine Ev.congr (fun k => by rw [of_1, Option.bind_some]) ?_
  by_cases c5 : 0 ≤ mi ∧ mi ≤ 59
  case neg => exact ev_neg (by simpa using c5) (jt true (fun _ r => c5 ⟨r.2.2.2.2.2.2.2.2.1, r.2.2.2.2.2.2.2.2.2.1⟩) (by simp))
  refine ev_pos (by simpa using c5) ?_
  refine Ev.congr (fun k => by rw [of_1, Option.bind_some]) ?_
  refine jt _ (fun hb r => ?_) (fun hb => ?_)
  · have := r.2.2.2.2.2.2.2.2.2.2
    simp at hb
    omega
  · simp at hb
    exact ⟨c1.1, c1.2, c2.1, c2.2, c3.1, c3.2, c4.1, c4.2, c5.1, c5.2, hb.1, hb.2⟩

theorem rof_l1 (y m d h mi s b : Int) (hy0 : 1970 ≤ y) (hm1 : m ≤ 12) (hh : 0 ≤ h ∧ h ≤ 23) (hmi : 0 ≤ mi ∧ mi ≤ 59) (hs : 0 ≤ s ∧ s ≤ 59) (hb : 0 ≤ b ∧ b ≤ 2932897) (j : Nat) : ∀ i : Int, 1 ≤ i → i + j = m →
    Ev (fun k => stowageref4_Of.l1 k (b + cum y i) i y m d h mi s) ((b + cum y m) * 86400 + h * 3600 + mi * 60 + s, true) := by
  induction j with
  | zero =>
    intro i h1 hj
    obtain rfl : i = m := by omega
    have hc := cum_bd y i h1 (by omega)
    refine Ev.step (f := fun _ => some ((b + cum y i) * 86400 + h * 3600 + mi * 60 + s, true)) (fun k => ?_) (Ev.now _)
    rw [stowageref4_Of.l1, if_neg (by omega)]
    generalize cum y i = c at *
    rw [w64 (n := (b + c) * 86400) (by omega) (by omega), w64 (n := h * 3600) (by omega) (by omega), w64 (n := (b + c) * 86400 + h * 3600) (by omega) (by omega), w64 (n := mi * 60) (by omega) (by omega), w64 (n := (b + c) * 86400 + h * 3600 + mi * 60) (by omega) (by omega), w64 (by omega) (by omega)]
  | succ j ih =>
    intro i h1 hj
    have hc := cum_bd y i h1 (by omega)
    have hz := size_bd y i
    have e := cum_succ y i h1 (by omega)
    refine Ev.step (f := fun k => _) (fun k => by rw [stowageref4_Of.l1, if_pos (by omega)]) ?_
    refine Ev.bind (rsize_ev y i (by omega)) ?_
    rw [w64 (n := b + cum y i + size y i) (by omega) (by omega), w64 (n := i + 1) (by omega) (by omega), show b + cum y i + size y i = b + cum y (i + 1) by omega]
    exact ih (i + 1) (by omega) (by omega)
theorem rof_l0 (y m d h mi s c : Int) (hc0 : 0 ≤ c ∧ c ≤ 31) (hy1 : y ≤ 9999) (r : Int × Bool) (hr : Ev (fun k => stowageref4_Of.l1 k (c + dby y) 1 y m d h mi s) r) (j : Nat) : ∀ i : Int, 1970 ≤ i → i + j = y →
    Ev (fun k => stowageref4_Of.l0 k (c + dby i) i y m d h mi s) r := by
  induction j with
  | zero =>
    intro i h1 hj
    obtain rfl : i = y := by omega
    exact Ev.step (f := fun k => _) (fun k => by rw [stowageref4_Of.l0, if_neg (by omega)]) hr
  | succ j ih =>
    intro i h1 hj
    have hd := dby_succ i
    have hL := L_two i
    have h19 := dby_le 1970 i h1
    have h99 := dby_le i 10000 (by omega)
    rw [dby_1970] at h19
    rw [dby_10000] at h99
    refine Ev.step (f := fun k => _) (fun k => by rw [stowageref4_Of.l0, if_pos (by omega), ryear_eq i (by omega), Option.bind_some, w64 (n := c + dby i + (365 + L i)) (by omega) (by omega), w64 (n := i + 1) (by omega) (by omega)]) ?_
    rw [show c + dby i + (365 + L i) = c + dby (i + 1) by omega]
    exact ih (i + 1) (by omega) (by omega)
theorem rof_ev (y m d h mi s : Int) : Ev (fun k => stowageref4_Of.f k y m d h mi s) (if Real y m d h mi s then (second y m d h mi s, true) else (0, false)) := by
  have jt : ∀ (b : Bool), (b = true → ¬ Real y m d h mi s) → (b = false → Real y m d h mi s) → Ev (fun k => stowageref4_Of.j0 k b y m d h mi s) (if Real y m d h mi s then (second y m d h mi s, true) else (0, false)) := by
    intro b hb1 hb0
    cases b with
    | true => exact Ev.step (f := fun _ => some _) (fun k => by rw [stowageref4_Of.j0, if_pos rfl, if_neg (hb1 rfl)]) (Ev.now _)
    | false =>
      have r := hb0 rfl
      have hbd := r.bd
      have hv := r.valid
      obtain ⟨a1, a2, a3, a4, a5, a6, a7, a8, a9, b1, b2, b3⟩ := r
      rw [if_pos (hb0 rfl)]
      have hy := hv.in_year
      have hc := cum_bd y m a3 (by omega)
      have h19 := dby_le 1970 y a1
      have h99 := dby_le y 10000 (by omega)
      rw [dby_1970] at h19
      rw [dby_10000] at h99
      have hz := size_bd y m
      refine Ev.step (f := fun k => _) (fun k => by rw [stowageref4_Of.j0, if_neg (by simp), w64 (n := d - 1) (by omega) (by omega)]) ?_
      have q := rof_l1 y m d h mi s (dby y + d - 1) a1 a4 ⟨a7, a8⟩ ⟨a9, b1⟩ ⟨b2, b3⟩ (by omega) (m - 1).toNat 1 (by omega) (by omega)
      rw [cum_one, show dby y + d - 1 + 0 = d - 1 + dby y by omega, show (dby y + d - 1 + cum y m) * 86400 + h * 3600 + mi * 60 + s = second y m d h mi s by unfold second; omega] at q
      have q2 := rof_l0 y m d h mi s (d - 1) (by omega) a2 _ q (y - 1970).toNat 1970 (by omega) (by omega)
      rw [dby_1970, show d - 1 + 0 = d - 1 by omega] at q2
      exact q2
  simp only [stowageref4_Of.f]
  by_cases c1 : y < 1970
  · exact ev_pos c1 (jt true (fun _ r => by have := r.1; omega) (by simp))
  refine ev_neg c1 ?_
  by_cases c2 : y > 9999
  · exact ev_pos c2 (jt true (fun _ r => by have := r.2.1; omega) (by simp))
  refine ev_neg c2 ?_
  by_cases c3 : m < 1
  · exact ev_pos c3 (jt true (fun _ r => by have := r.2.2.1; omega) (by simp))
  refine ev_neg c3 ?_
  by_cases c4 : m > 12
  · exact ev_pos c4 (jt true (fun _ r => by have := r.2.2.2.1; omega) (by simp))
  refine ev_neg c4 ?_
  by_cases c5 : d < 1
  · exact ev_pos c5 (jt true (fun _ r => by have := r.2.2.2.2.1; omega) (by simp))
  refine ev_neg c5 ?_
  refine Ev.bind (rsize_ev y m (by omega)) ?_
  by_cases c6 : d > size y m
  · exact ev_pos c6 (jt true (fun _ r => by have := r.2.2.2.2.2.1; omega) (by simp))
  refine ev_neg c6 ?_
  by_cases c7 : h < 0
  · exact ev_pos c7 (jt true (fun _ r => by have := r.2.2.2.2.2.2.1; omega) (by simp))
  refine ev_neg c7 ?_
  by_cases c8 : h > 23
  · exact ev_pos c8 (jt true (fun _ r => by have := r.2.2.2.2.2.2.2.1; omega) (by simp))
  refine ev_neg c8 ?_
  by_cases c9 : mi < 0
  · exact ev_pos c9 (jt true (fun _ r => by have := r.2.2.2.2.2.2.2.2.1; omega) (by simp))
  refine ev_neg c9 ?_
  by_cases d1 : mi > 59
  · exact ev_pos d1 (jt true (fun _ r => by have := r.2.2.2.2.2.2.2.2.2.1; omega) (by simp))
  refine ev_neg d1 ?_
  by_cases d2 : s < 0
  · exact ev_pos d2 (jt true (fun _ r => by have := r.2.2.2.2.2.2.2.2.2.2.1; omega) (by simp))
  refine ev_neg d2 ?_
  refine jt _ (fun hb r => ?_) (fun hb => ?_)
  · have := r.2.2.2.2.2.2.2.2.2.2.2
    simp at hb
    omega
  · simp at hb
    exact ⟨by omega, by omega, by omega, by omega, by omega, by omega, by omega, by omega, by omega, by omega, by omega, by omega⟩
end Go.Proofs.Yteggifhicmbopaa.Pure

/- Seconds are turned into dates and back as the document says, and only real dates are taken. For all ints. -/
namespace Go.Proofs.Yteggifhicmbopaa.Pure
open Go.RowKit Go.Proofs.Yteggifhicmbopaa.Q Go.Proofs.YteggifhicmbopaaW.PrintWords Go.Proofs.YteggifhicmbopaaW.PrintLast Cal
set_option linter.unusedVariables false
set_option linter.unusedSimpArgs false

theorem civil_same (t : Int) : ∃ r, Ev (fun k => when_Civil.f k t) r ∧ Ev (fun k => stowageref4_Civil.f k t) r := by
  by_cases h : 0 ≤ t ∧ t ≤ 253402300799
  · obtain ⟨y, m, d, hv, he⟩ := civil_ev t h.1 h.2
    obtain ⟨y', m', d', hv', he'⟩ := rcivil_ev t h.1 h.2
    obtain ⟨rfl, rfl, rfl⟩ := hv.unique hv'
    exact ⟨_, he, he'⟩
  · exact ⟨_, civil_out t h, rcivil_out t h⟩
theorem WhenCivil : stowagelaw4_WhenCivil.Pure := by
  intro t y m d h mi s _ _ _ _ _ _ _
  apply Ev.rounds
  simp only [stowagelaw4_WhenCivil.f]
  obtain ⟨⟨r1, r2, r3, r4, r5, r6, r7⟩, ha, hb⟩ := civil_same t
  refine Ev.bind ha ?_
  refine Ev.bind hb ?_
  refine Ev.bind (of_ev y m d h mi s) ?_
  refine Ev.bind (rof_ev y m d h mi s) ?_
  generalize (if Real y m d h mi s then (second y m d h mi s, true) else (0, false)) = q
  simp only [if_true, beq_self_eq_true]
  exact awb
end Go.Proofs.Yteggifhicmbopaa.Pure

/- What some Go functions compute, told as plain Lean functions, each with the proof that the call comes to just that, for all arguments. Conditions: those in the theorems. Written by a program of this session. -/
namespace Go.Proofs.Yteggifhicmbopaa.whenCivil
open Go.ChangeShapes Go.WideShapes Go.ChangeAt Go.RowKit
open Go.ChangeMaps (open_string shut_string)
theorem own : ownKnob Try.prog.godebug = none := by kernel_rfl
set_option maxRecDepth 100000 in
theorem lifted (os : Os) (started : os.Started) (H : Type) (enc : TypeId × Value → H) :
    ReturnsInHanded {} Try.checked os 4 .any (Rows.whenCivilSpec.pre6 enc Try.prog Try.f4 Rows.whenCivilRow.domain false) (Rows.whenCivilSpec.post enc Try.prog Try.f4 false true false false) := by
  refine returnsInHanded_of_change_sized (C := Try.checked) own started (by kernel_rfl) Try.func4
    (ChangeSpec.witness6 (enc := enc) (C := Try.checked) false ⟨#[], #[.int .i64 0, .int .i64 0, .int .i64 0, .int .i64 0, .int .i64 0, .int .i64 0, .int .i64 0], []⟩ 8 (by kernel_rfl) (by kernel_rfl) (by kernel_rfl) (by kernel_rfl)) ?_
  intro W base args ds gs before hval0 hW hcnd hsz0 _
  have hsz : (DataW.weightsEach Try.prog (Try.f4.params.toList ++ Rows.whenCivilSpec.plain.varTypes Try.prog) (ds ++ gs)).all (· ≤ reachBytes) = true := hsz0
  have hval : ∀ (j : Nat) t v, Try.f4.params[j]? = some t → args[j]? = some v → Value.okWide Try.prog W .any base t v := hval0
  have hW' := hW
  obtain ⟨p, q, hA0, hV, rfl, hfz, hnd⟩ := hW
  have hA : DataW.TrodAll enc Try.prog W 0 (fun _ => true) true Try.f4.params.toList args.toList ds p := hA0
  rw [Try.params4] at hA hval hsz
  obtain ⟨v0, vs0, d0, ds0, p0, q0, hargs, rfl, rfl, h0, r0⟩ := trodAll_cons hA
  obtain ⟨v1, vs1, d1, ds1, p1, q1, rfl, rfl, rfl, h1, r1⟩ := trodAll_cons r0
  obtain ⟨v2, vs2, d2, ds2, p2, q2, rfl, rfl, rfl, h2, r2⟩ := trodAll_cons r1
  obtain ⟨v3, vs3, d3, ds3, p3, q3, rfl, rfl, rfl, h3, r3⟩ := trodAll_cons r2
  obtain ⟨v4, vs4, d4, ds4, p4, q4, rfl, rfl, rfl, h4, r4⟩ := trodAll_cons r3
  obtain ⟨v5, vs5, d5, ds5, p5, q5, rfl, rfl, rfl, h5, r5⟩ := trodAll_cons r4
  obtain ⟨v6, vs6, d6, ds6, p6, q6, rfl, rfl, rfl, h6, r6⟩ := trodAll_cons r5
  obtain ⟨rfl, rfl, rfl⟩ := trodAll_nil r6
  obtain rfl : args = #[v0, v1, v2, v3, v4, v5, v6] := by cases args; simp_all
  obtain ⟨rfl, rfl⟩ := trodVars_none hV
  obtain ⟨a0, rfl, rfl, rfl, w0⟩ := open_int Try.underlying3 (hval 0 3 v0 rfl rfl) h0
  obtain ⟨a1, rfl, rfl, rfl, w1⟩ := open_int Try.underlying3 (hval 1 3 v1 rfl rfl) h1
  obtain ⟨a2, rfl, rfl, rfl, w2⟩ := open_int Try.underlying3 (hval 2 3 v2 rfl rfl) h2
  obtain ⟨a3, rfl, rfl, rfl, w3⟩ := open_int Try.underlying3 (hval 3 3 v3 rfl rfl) h3
  obtain ⟨a4, rfl, rfl, rfl, w4⟩ := open_int Try.underlying3 (hval 4 3 v4 rfl rfl) h4
  obtain ⟨a5, rfl, rfl, rfl, w5⟩ := open_int Try.underlying3 (hval 5 3 v5 rfl rfl) h5
  obtain ⟨a6, rfl, rfl, rfl, w6⟩ := open_int Try.underlying3 (hval 6 3 v6 rfl rfl) h6
  clear hA0 hval0 hsz0 hsz
  refine (Q.stowagelaw4_WhenCivil.walk Pure.WhenCivil a0 a1 a2 a3 a4 a5 a6 W w0 w1 w2 w3 w4 w5 w6).mono fun e W' ⟨he, bel⟩ => ?_
  subst he
  exact ⟨_, rfl, _, _, _, [], _, [], hW', trodAll_mk1 (shut_bool Try.underlying4 _), (trodAll_cons_mk (shut_int Try.underlying3 w0) (trodAll_cons_mk (shut_int Try.underlying3 w1) (trodAll_cons_mk (shut_int Try.underlying3 w2) (trodAll_cons_mk (shut_int Try.underlying3 w3) (trodAll_cons_mk (shut_int Try.underlying3 w4) (trodAll_cons_mk (shut_int Try.underlying3 w5) (trodAll_cons_mk (shut_int Try.underlying3 w6) trodAll_mk0))))))), rfl, bel.frame _, fun h => by cases h⟩
theorem over : Rows.whenCivilRow.holds Try.pinned (OpenSpec.ofChange Rows.whenCivilSpec) :=
  OpenClaim.holds_of_wide 4 Try.f4 rfl rfl rfl rfl rfl rfl rfl ⟨rfl, rfl, rfl, rfl, rfl⟩ rfl rfl rfl rfl rfl (by kernel_rfl) Try.func4 (by kernel_rfl)
    (of_decide_eq_true (by kernel_rfl)) (by unfold Func.isWrapper; first | (rw [if_pos (by decide +kernel)]; kernel_rfl) | (rw [if_neg (by decide +kernel)]; exact ⟨rfl, rfl⟩))
    (fun os started H enc _ => lifted os started H enc)
theorem proved : Rows.WhenCivilSaid := over
#print axioms proved
end Go.Proofs.Yteggifhicmbopaa.whenCivil
namespace Go.Proofs.Yteggifhicmbopaa
/-- The row, under a short name, for the claim. -/
theorem whenCivil_holds : Rows.WhenCivilSaid := whenCivil.proved
end Go.Proofs.Yteggifhicmbopaa
