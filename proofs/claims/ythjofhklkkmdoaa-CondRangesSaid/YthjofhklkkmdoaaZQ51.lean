/- A part of the proof of the seat's laws. No condition beyond those in the theorems. -/
import Derived.Test.YthjofhklkkmdoaaZQ0
import Derived.Test.YthjofhklkkmdoaaZQ26
import Derived.Test.YthjofhklkkmdoaaZQ46
import Derived.Test.YthjofhklkkmdoaaZQ50

namespace Go.Proofs.Ythjofhklkkmdoaa.Q
open Go.RowKit Go.Proofs.YthjofhklkkmdoaaW.PrintWords Go.Proofs.YthjofhklkkmdoaaW.PrintLast Go.Proofs.YthjofhklkkmdoaaW.PrintMore
set_option linter.unusedVariables false
set_option linter.unusedSimpArgs false
attribute [local go_sem] max2_int min2_int max_two min_two max_three min_three max_four min_four   
def stowagelaw21_CondRanges.f (k : Nat) (a0 : ByteArray) (a1 : Int) : Option (Bool) := (cond_Range.f k a0 a1).bind fun bt285 => ((stowageref21_Range.f k a0 a1).bind fun bt289 => (if bt285.1 = bt289.1 then (if bt285.2.1 = bt289.2.1 then (if (bt285.2.2.1 == bt289.2.2.1) = true then (if bt285.2.2.2 = bt289.2.2.2 then ((stowagelaw21_awake.f k).bind fun t294 => (some t294)) else (some false)) else (some false)) else (some false)) else (some false)))
theorem stowagelaw21_CondRanges.mono : ∀ a0 a1 k, LeO (stowagelaw21_CondRanges.f k a0 a1) (stowagelaw21_CondRanges.f (k + 1) a0 a1) := by
 intro a0 a1 k
 unfold stowagelaw21_CondRanges.f
 repeat' first
   | (with_reducible exact cond_Range.mono _ _ _)
   | (with_reducible exact stowagelaw21_awake.mono _)
   | (with_reducible exact stowageref21_Range.mono _ _ _)
   | (with_reducible exact LeO.refl _)
   | (with_reducible exact LeO.none _)
   | (with_reducible refine LeO.ite ?_ ?_)
   | (with_reducible refine LeO.bind ?_ (fun _ => ?_))
   | exact cond_Range.mono _ _ _
   | exact stowagelaw21_awake.mono _
   | exact stowageref21_Range.mono _ _ _
   | exact LeO.none _
   | refine LeO.ite ?_ ?_
   | refine LeO.bind ?_ (fun _ => ?_)
set_option maxHeartbeats 8000000 in
set_option maxRecDepth 100000 in
theorem stowagelaw21_CondRanges.calls (k : Nat) (a0 : ByteArray) (a1 : Int) (r : Bool) (w : World) (hG : GOk w) (h : stowagelaw21_CondRanges.f k a0 a1 = some r) (hr : r = true) :
  Calls Try.prog 4 #[.string a0, .int .i64 a1] w fun e w' => e = .returned (.bool r) ∧ Below w.heap.size w w' := by
 have hu35 := Try.underlying35
 have HB := Aside0.mk (Below.refl w.heap.size w)
 have H : ((cond_Range.f k a0 a1).bind fun bt285 => ((stowageref21_Range.f k a0 a1).bind fun bt289 => (if bt285.1 = bt289.1 then (if bt285.2.1 = bt289.2.1 then (if (bt285.2.2.1 == bt289.2.2.1) = true then (if bt285.2.2.2 = bt289.2.2.2 then ((stowagelaw21_awake.f k).bind fun t294 => (some t294)) else (some false)) else (some false)) else (some false)) else (some false)))) = some r := h
 clear h
 replace H := Option.bind_eq_some_iff.mp H
 obtain ⟨⟨t285, t286, t287, t288⟩, A30, H⟩ := H
 replace H : ((stowageref21_Range.f k a0 a1).bind fun bt289 => (if t285 = bt289.1 then (if t286 = bt289.2.1 then (if (t287 == bt289.2.2.1) = true then (if t288 = bt289.2.2.2 then ((stowagelaw21_awake.f k).bind fun t294 => (some t294)) else (some false)) else (some false)) else (some false)) else (some false))) = some r := H
 have A3 := Aside0.mk A30
 clear A30
 replace H := Option.bind_eq_some_iff.mp H
 obtain ⟨⟨t289, t290, t291, t292⟩, A40, H⟩ := H
 replace H : (if t285 = t289 then (if t286 = t290 then (if (t287 == t291) = true then (if t288 = t292 then ((stowagelaw21_awake.f k).bind fun t294 => (some t294)) else (some false)) else (some false)) else (some false)) else (some false)) = some r := H
 have A4 := Aside0.mk A40
 clear A40
 by_cases c5 : t285 = t289
 ·rw [if_pos c5] at H
  have c5b0 : (t285 == t289) = true := beq_iff_eq.mpr c5
  have c5b1 : (t285 != t289) = false := bne_eq_false_iff_eq.mpr c5
  clear c5
  by_cases c6 : t286 = t290
  ·rw [if_pos c6] at H
   have c6b0 : (t286 == t290) = true := beq_iff_eq.mpr c6
   have c6b1 : (t286 != t290) = false := bne_eq_false_iff_eq.mpr c6
   clear c6
   by_cases c7 : (t287 == t291) = true
   ·rw [if_pos c7] at H
    have c7b0 : (t287 == t291) = true := c7
    (try (have c7b1 : decide (t287 = t291) = true := by simpa using c7))
    (try (have c7b2 : (t287 == t291) = true := by simpa using c7))
    clear c7
    by_cases c8 : t288 = t292
    ·rw [if_pos c8] at H
     have c8b0 : (t288 == t292) = true := beq_iff_eq.mpr c8
     have c8b1 : (t288 != t292) = false := bne_eq_false_iff_eq.mpr c8
     clear c8
     replace H := Option.bind_eq_some_iff.mp H
     obtain ⟨t294, A90, H⟩ := H
     replace H : (some t294) = some r := H
     have A9 := Aside0.mk A90
     clear A90
     clear hr
     obtain rfl := Option.some.inj H
     go_enter Try.func4, Try.ntmps4
     go_wp2_with (first | ((with_reducible refine gate_callee (f := 15) rfl ?_); refine goesL_ (some 13) rfl rfl Try.func15 (by kernel_rfl) rfl #[.string a0, .int .i64 a1] rfl (by (try simp only [List.map_toArray, List.map_cons, List.map_nil]); first | done | rfl | (simp only [List.length_drop, List.length_take]; rfl)) ?_; (with_reducible refine (cond_Range.calls k a0 a1 t285 t286 t287 t288 _ A3.out).mono ?_); rintro e w10 ⟨rfl, hb⟩; refine ⟨_, rfl, ?_⟩; have n0_ := Aside0.mk (below_step (by repeat (first | (with_reducible first | exact HB.out | apply below_alloc | apply pw_below_drewN | apply below_drew1) | exact HB.out)) hb); clear HB; have HB := n0_; clear n0_; (try clear hb); (try clear hb2); (try clear hk); (try clear hi)) | ((with_reducible refine gate_callee (f := 16) rfl ?_); refine goesL_ (some 20) rfl rfl Try.func16 (by kernel_rfl) rfl #[.string a0, .int .i64 a1] rfl (by (try simp only [List.map_toArray, List.map_cons, List.map_nil]); first | done | rfl | (simp only [List.length_drop, List.length_take]; rfl)) ?_; (with_reducible refine (stowageref21_Range.calls k a0 a1 t289 t290 t291 t292 _ A4.out).mono ?_); rintro e w11 ⟨rfl, hb⟩; refine ⟨_, rfl, ?_⟩; have n0_ := Aside0.mk (below_step (by repeat (first | (with_reducible first | exact HB.out | apply below_alloc | apply pw_below_drewN | apply below_drew1) | exact HB.out)) hb); clear HB; have HB := n0_; clear n0_; (try clear hb); (try clear hb2); (try clear hk); (try clear hi)) | ((with_reducible refine gate_dst (N := 9) rfl ?_); refine box_event ?hg (N := 9) ?hd (cs := #[.int .i64 0, .int .i64 0, .bool false, .int .i64 0]) (t := 35) ?hr ?_; (case hd => rfl); (case hg => rfl); (case hr => first | (go_simp; done) | (go_simp; rfl)); intro gb293 hg w12 hbox hb; have n0_ := Aside0.mk (below_step (by repeat (first | (with_reducible first | exact HB.out | apply below_alloc | apply pw_below_drewN | apply below_drew1) | exact HB.out)) hb); have n1_ := Aside0.mk (hbox); have n2_ := Aside0.mk ((by rw [hg]; exact (below_size (by repeat (first | (with_reducible first | exact HB.out | apply below_alloc | apply pw_below_drewN | apply below_drew1) | exact HB.out))) : w.heap.size ≤ gb293)); have n3_ := Aside0.mk ((by rw [hg]; exact (below_size (by repeat (first | (with_reducible first | exact HB.out | apply below_alloc | apply pw_below_drewN | apply below_drew1) | exact HB.out))) : w.heap.size ≤ gb293)); clear HB; have HB := n0_; have BK293 := n1_; have GW293 := n2_; have GE293 := n3_; clear n0_ n1_ n2_ n3_; clear hb hbox hg; have hcz13_0 : w12.cell? ⟨gb293, 0, none⟩ = some (.int .i64 0) := (blk_cell BK293.out 0).trans rfl; have hcz13_1 : w12.cell? ⟨gb293, 1, none⟩ = some (.int .i64 0) := (blk_cell BK293.out 1).trans rfl; have hcz13_2 : w12.cell? ⟨gb293, 2, none⟩ = some (.bool false) := (blk_cell BK293.out 2).trans rfl; have hcz13_3 : w12.cell? ⟨gb293, 3, none⟩ = some (.int .i64 0) := (blk_cell BK293.out 3).trans rfl; have hfz13_0 := blk_frozen BK293.out 0; have hfz13_1 := blk_frozen BK293.out 1; have hfz13_2 := blk_frozen BK293.out 2; have hfz13_3 := blk_frozen BK293.out 3) | (go_at_call 14; (with_reducible refine (stowagelaw21_awake.calls k  t294 _ (by first | exact hG | exact gok_below hG (by repeat (first | (with_reducible first | exact HB.out | apply below_alloc | apply pw_below_drewN | apply below_drew1 | refine below_set ?_ GE293.out) | exact HB.out)) | exact gok_drewN hG _ | exact gok_below hG (by repeat (first | exact HB.out | exact HBW.out | exact Below.refl _ _ | apply below_alloc | apply pw_below_drewN | apply below_drew1))) A9.out).mono ?_); rintro e w14 ⟨rfl, hb⟩; have n0_ := Aside0.mk (blk_below (g := gb293) (o := .cells #[.int .i64 t289, .int .i64 t290, .bool t291, .int .i64 t292] 35 (0, 0)) (by (with_reducible repeat (first | refine blk_drewN ?_ _ | refine blk_drew ?_ | refine blk_alloc ?_ _)); refine blk_put (cs := #[.int .i64 t289, .int .i64 t290, .bool t291, .int .i64 0]) ?_ 3 _ rfl; (with_reducible repeat (first | refine blk_drewN ?_ _ | refine blk_drew ?_ | refine blk_alloc ?_ _)); refine blk_put (cs := #[.int .i64 t289, .int .i64 t290, .bool false, .int .i64 0]) ?_ 2 _ rfl; (with_reducible repeat (first | refine blk_drewN ?_ _ | refine blk_drew ?_ | refine blk_alloc ?_ _)); refine blk_put (cs := #[.int .i64 t289, .int .i64 0, .bool false, .int .i64 0]) ?_ 1 _ rfl; (with_reducible repeat (first | refine blk_drewN ?_ _ | refine blk_drew ?_ | refine blk_alloc ?_ _)); refine blk_put (cs := #[.int .i64 0, .int .i64 0, .bool false, .int .i64 0]) ?_ 0 _ rfl; (with_reducible repeat (first | refine blk_drewN ?_ _ | refine blk_drew ?_ | refine blk_alloc ?_ _)); exact BK293.out) hb); have n1_ := Aside0.mk (below_step (by repeat (first | (with_reducible first | exact HB.out | apply below_alloc | apply pw_below_drewN | apply below_drew1 | refine below_set ?_ GE293.out) | exact HB.out)) hb); clear BK293; clear HB; have BK293 := n0_; have HB := n1_; clear n0_ n1_; (try clear hb); (try clear hb2); (try clear hk); (try clear hi)))
     go_ret
     exact ⟨by first | rfl | (simp [errW_none, errW_some] <;> rfl) | (simp [*, errW_none, errW_some] <;> rfl), by repeat (first | (with_reducible first | exact HB.out | apply below_alloc | apply pw_below_drewN | apply below_drew1 | refine below_set ?_ GE293.out) | exact HB.out)⟩
    ·rw [if_neg c8] at H
     have c8b0 : (t288 == t292) = false := beq_eq_false_iff_ne.mpr c8
     have c8b1 : (t288 != t292) = true := bne_iff_ne.mpr c8
     rw [hr] at H
     exact absurd H (by simp)
   ·rw [if_neg c7] at H
    have c7b0 : (t287 == t291) = false := by simpa using c7
    (try (have c7b1 : decide (t287 = t291) = false := by simpa using c7))
    (try (have c7b2 : (t287 == t291) = false := by simpa using c7))
    (try (have c7b3 : ¬ (t287 = t291) := by simpa using c7))
    clear c7
    rw [hr] at H
    exact absurd H (by simp)
  ·rw [if_neg c6] at H
   have c6b0 : (t286 == t290) = false := beq_eq_false_iff_ne.mpr c6
   have c6b1 : (t286 != t290) = true := bne_iff_ne.mpr c6
   rw [hr] at H
   exact absurd H (by simp)
 ·rw [if_neg c5] at H
  have c5b0 : (t285 == t289) = false := beq_eq_false_iff_ne.mpr c5
  have c5b1 : (t285 != t289) = true := bne_iff_ne.mpr c5
  rw [hr] at H
  exact absurd H (by simp)
def stowagelaw21_CondRanges.Pure : Prop := ∀ (a0 : ByteArray) (a1 : Int), a0.size ≤ 140737488351232 → (Lit.int .i64 a1).wf = true → ∃ k, stowagelaw21_CondRanges.f k a0 a1 = some true
theorem stowagelaw21_CondRanges.walk (P : stowagelaw21_CondRanges.Pure) (a0 : ByteArray) (a1 : Int) (w : World) (w0 : a0.size ≤ 140737488351232) (w1 : (Lit.int .i64 a1).wf = true) (hG : GOk w) :
  Calls Try.prog 4 #[.string a0, .int .i64 a1] w fun e w' => e = .returned (.bool true) ∧ Below w.heap.size w w' := by
 obtain ⟨k, h⟩ := P a0 a1 w0 w1
 refine (stowagelaw21_CondRanges.calls k a0 a1 true w hG h rfl).mono ?_
 rintro e w' ⟨rfl, hd⟩
 exact ⟨rfl, hd⟩
end Go.Proofs.Ythjofhklkkmdoaa.Q
