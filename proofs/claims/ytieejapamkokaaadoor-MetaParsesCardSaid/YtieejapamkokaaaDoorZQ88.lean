/- A part of the proof of the seat's laws. No condition beyond those in the theorems. -/
import Derived.Test.YtieejapamkokaaaDoorZQ0g7
import Derived.Test.YtieejapamkokaaaDoorZQ54g5
import Derived.Test.YtieejapamkokaaaDoorZQ59g3
import Derived.Test.YtieejapamkokaaaDoorZQ62g4
import Derived.Test.YtieejapamkokaaaDoorZQ71g4
import Derived.Test.YtieejapamkokaaaDoorZQ81g2
import Derived.Test.YtieejapamkokaaaDoorZQ83
import Derived.Test.YtieejapamkokaaaDoorZQ84
import Derived.Test.YtieejapamkokaaaDoorZQ85g3

namespace Go.Proofs.YtieejapamkokaaaDoor.Q
open Go.RowKit Go.Proofs.YtieejapamkokaaaDoorW.PrintWords Go.Proofs.YtieejapamkokaaaDoorW.PrintLast Go.Proofs.YtieejapamkokaaaDoorW.PrintMore
set_option linter.unusedVariables false
set_option linter.unusedSimpArgs false
attribute [local go_sem] max2_int min2_int max_two min_two max_three min_three max_four min_four   
mutual
def stowagelaw12_MetaParses.j0 : Nat → ByteArray → Bool → Option (Bool)
 | 0, _, _ => none
 | k + 1, x0, x29 => if x29 = true then (some false) else ((meta_ParseObject.f k x0).bind fun bt339 => ((stowageref12_ParseObject.f k x0).bind fun bt343 => (if bt339.1.toList = bt343.1.toList then (if bt339.2.1.toList = bt343.2.1.toList then (if bt339.2.2.1 = bt343.2.2.1 then (stowagelaw12_MetaParses.j1 k x0 (bt339.2.2.2 != bt343.2.2.2.2)) else (stowagelaw12_MetaParses.j1 k x0 true)) else (stowagelaw12_MetaParses.j1 k x0 true)) else (stowagelaw12_MetaParses.j1 k x0 true))))
def stowagelaw12_MetaParses.j1 : Nat → ByteArray → Bool → Option (Bool)
 | 0, _, _ => none
 | k + 1, x0, x60 => if x60 = true then (some false) else ((meta_ParseUpload.f k x0).bind fun bt348 => ((stowageref12_ParseUpload.f k x0).bind fun bt352 => (if bt348.1.toList = bt352.1.toList then (if bt348.2.1.toList = bt352.2.1.toList then (if bt348.2.2.1 = bt352.2.2.1 then (stowagelaw12_MetaParses.j2 k x0 (bt348.2.2.2 != bt352.2.2.2.2)) else (stowagelaw12_MetaParses.j2 k x0 true)) else (stowagelaw12_MetaParses.j2 k x0 true)) else (stowagelaw12_MetaParses.j2 k x0 true))))
def stowagelaw12_MetaParses.j2 : Nat → ByteArray → Bool → Option (Bool)
 | 0, _, _ => none
 | k + 1, x0, x91 => if x91 = true then (some false) else ((meta_ParsePart.f k x0).bind fun bt357 => ((stowageref12_ParsePart.f k x0).bind fun bt360 => (if bt357.1 = bt360.2.2.1 then (if bt357.2.1 = bt360.2.2.2.1 then (stowagelaw12_MetaParses.j3 k x0 (bt357.2.2 != bt360.2.2.2.2)) else (stowagelaw12_MetaParses.j3 k x0 true)) else (stowagelaw12_MetaParses.j3 k x0 true))))
def stowagelaw12_MetaParses.j3 : Nat → ByteArray → Bool → Option (Bool)
 | 0, _, _ => none
 | k + 1, x0, x115 => if x115 = true then (some false) else ((meta_Seq.f k x0).bind fun bt365 => ((stowageref12_Seq.f k x0).bind fun bt367 => (if bt365.1 = bt367.1 then (if (bt365.2 == bt367.2) = true then ((stowagelaw12_awake.f k).bind fun t369 => (some t369)) else (some false)) else (some false))))
end
def stowagelaw12_MetaParses.f (k : Nat) (a0 : ByteArray) : Option (Bool) := (meta_ParseBucket.f k a0).bind fun bt331 => ((stowageref12_ParseBucket.f k a0).bind fun bt333 => (if bt331.1.toList = bt333.1.toList then (stowagelaw12_MetaParses.j0 k a0 (bt331.2 != bt333.2.2.2.2)) else (stowagelaw12_MetaParses.j0 k a0 true)))
theorem stowagelaw12_MetaParses.mono_l : ∀ k, (∀ y0 y1, LeO (stowagelaw12_MetaParses.j0 k y0 y1) (stowagelaw12_MetaParses.j0 (k + 1) y0 y1)) ∧ (∀ y0 y1, LeO (stowagelaw12_MetaParses.j1 k y0 y1) (stowagelaw12_MetaParses.j1 (k + 1) y0 y1)) ∧ (∀ y0 y1, LeO (stowagelaw12_MetaParses.j2 k y0 y1) (stowagelaw12_MetaParses.j2 (k + 1) y0 y1)) ∧ (∀ y0 y1, LeO (stowagelaw12_MetaParses.j3 k y0 y1) (stowagelaw12_MetaParses.j3 (k + 1) y0 y1))
 | 0 => ⟨fun _ _ r h => by simp [stowagelaw12_MetaParses.j0] at h, fun _ _ r h => by simp [stowagelaw12_MetaParses.j1] at h, fun _ _ r h => by simp [stowagelaw12_MetaParses.j2] at h, fun _ _ r h => by simp [stowagelaw12_MetaParses.j3] at h⟩
 | k + 1 => by
  obtain ⟨ih0, ih1, ih2, ih3⟩ := stowagelaw12_MetaParses.mono_l k
  refine ⟨?_, ?_, ?_, ?_⟩
  ·intro y0 y1
   unfold stowagelaw12_MetaParses.j0
   repeat' first
   | (with_reducible exact ih0 _ _)
   | (with_reducible exact ih1 _ _)
   | (with_reducible exact ih2 _ _)
   | (with_reducible exact ih3 _ _)
   | (with_reducible exact meta_ParseBucket.mono _ _)
   | (with_reducible exact meta_ParseObject.mono _ _)
   | (with_reducible exact meta_ParsePart.mono _ _)
   | (with_reducible exact meta_ParseUpload.mono _ _)
   | (with_reducible exact meta_Seq.mono _ _)
   | (with_reducible exact stowagelaw12_awake.mono _)
   | (with_reducible exact stowageref12_ParseBucket.mono _ _)
   | (with_reducible exact stowageref12_ParseObject.mono _ _)
   | (with_reducible exact stowageref12_ParsePart.mono _ _)
   | (with_reducible exact stowageref12_ParseUpload.mono _ _)
   | (with_reducible exact stowageref12_Seq.mono _ _)
   | (with_reducible exact LeO.refl _)
   | (with_reducible exact LeO.none _)
   | (with_reducible refine LeO.ite ?_ ?_)
   | (with_reducible refine LeO.bind ?_ (fun _ => ?_))
   | exact ih0 _ _
   | exact ih1 _ _
   | exact ih2 _ _
   | exact ih3 _ _
   | exact meta_ParseBucket.mono _ _
   | exact meta_ParseObject.mono _ _
   | exact meta_ParsePart.mono _ _
   | exact meta_ParseUpload.mono _ _
   | exact meta_Seq.mono _ _
   | exact stowagelaw12_awake.mono _
   | exact stowageref12_ParseBucket.mono _ _
   | exact stowageref12_ParseObject.mono _ _
   | exact stowageref12_ParsePart.mono _ _
   | exact stowageref12_ParseUpload.mono _ _
   | exact stowageref12_Seq.mono _ _
   | exact LeO.none _
   | refine LeO.ite ?_ ?_
   | refine LeO.bind ?_ (fun _ => ?_)
  ·intro y0 y1
   unfold stowagelaw12_MetaParses.j1
   repeat' first
   | (with_reducible exact ih0 _ _)
   | (with_reducible exact ih1 _ _)
   | (with_reducible exact ih2 _ _)
   | (with_reducible exact ih3 _ _)
   | (with_reducible exact meta_ParseBucket.mono _ _)
   | (with_reducible exact meta_ParseObject.mono _ _)
   | (with_reducible exact meta_ParsePart.mono _ _)
   | (with_reducible exact meta_ParseUpload.mono _ _)
   | (with_reducible exact meta_Seq.mono _ _)
   | (with_reducible exact stowagelaw12_awake.mono _)
   | (with_reducible exact stowageref12_ParseBucket.mono _ _)
   | (with_reducible exact stowageref12_ParseObject.mono _ _)
   | (with_reducible exact stowageref12_ParsePart.mono _ _)
   | (with_reducible exact stowageref12_ParseUpload.mono _ _)
   | (with_reducible exact stowageref12_Seq.mono _ _)
   | (with_reducible exact LeO.refl _)
   | (with_reducible exact LeO.none _)
   | (with_reducible refine LeO.ite ?_ ?_)
   | (with_reducible refine LeO.bind ?_ (fun _ => ?_))
   | exact ih0 _ _
   | exact ih1 _ _
   | exact ih2 _ _
   | exact ih3 _ _
   | exact meta_ParseBucket.mono _ _
   | exact meta_ParseObject.mono _ _
   | exact meta_ParsePart.mono _ _
   | exact meta_ParseUpload.mono _ _
   | exact meta_Seq.mono _ _
   | exact stowagelaw12_awake.mono _
   | exact stowageref12_ParseBucket.mono _ _
   | exact stowageref12_ParseObject.mono _ _
   | exact stowageref12_ParsePart.mono _ _
   | exact stowageref12_ParseUpload.mono _ _
   | exact stowageref12_Seq.mono _ _
   | exact LeO.none _
   | refine LeO.ite ?_ ?_
   | refine LeO.bind ?_ (fun _ => ?_)
  ·intro y0 y1
   unfold stowagelaw12_MetaParses.j2
   repeat' first
   | (with_reducible exact ih0 _ _)
   | (with_reducible exact ih1 _ _)
   | (with_reducible exact ih2 _ _)
   | (with_reducible exact ih3 _ _)
   | (with_reducible exact meta_ParseBucket.mono _ _)
   | (with_reducible exact meta_ParseObject.mono _ _)
   | (with_reducible exact meta_ParsePart.mono _ _)
   | (with_reducible exact meta_ParseUpload.mono _ _)
   | (with_reducible exact meta_Seq.mono _ _)
   | (with_reducible exact stowagelaw12_awake.mono _)
   | (with_reducible exact stowageref12_ParseBucket.mono _ _)
   | (with_reducible exact stowageref12_ParseObject.mono _ _)
   | (with_reducible exact stowageref12_ParsePart.mono _ _)
   | (with_reducible exact stowageref12_ParseUpload.mono _ _)
   | (with_reducible exact stowageref12_Seq.mono _ _)
   | (with_reducible exact LeO.refl _)
   | (with_reducible exact LeO.none _)
   | (with_reducible refine LeO.ite ?_ ?_)
   | (with_reducible refine LeO.bind ?_ (fun _ => ?_))
   | exact ih0 _ _
   | exact ih1 _ _
   | exact ih2 _ _
   | exact ih3 _ _
   | exact meta_ParseBucket.mono _ _
   | exact meta_ParseObject.mono _ _
   | exact meta_ParsePart.mono _ _
   | exact meta_ParseUpload.mono _ _
   | exact meta_Seq.mono _ _
   | exact stowagelaw12_awake.mono _
   | exact stowageref12_ParseBucket.mono _ _
   | exact stowageref12_ParseObject.mono _ _
   | exact stowageref12_ParsePart.mono _ _
   | exact stowageref12_ParseUpload.mono _ _
   | exact stowageref12_Seq.mono _ _
   | exact LeO.none _
   | refine LeO.ite ?_ ?_
   | refine LeO.bind ?_ (fun _ => ?_)
  ·intro y0 y1
   unfold stowagelaw12_MetaParses.j3
   repeat' first
   | (with_reducible exact ih0 _ _)
   | (with_reducible exact ih1 _ _)
   | (with_reducible exact ih2 _ _)
   | (with_reducible exact ih3 _ _)
   | (with_reducible exact meta_ParseBucket.mono _ _)
   | (with_reducible exact meta_ParseObject.mono _ _)
   | (with_reducible exact meta_ParsePart.mono _ _)
   | (with_reducible exact meta_ParseUpload.mono _ _)
   | (with_reducible exact meta_Seq.mono _ _)
   | (with_reducible exact stowagelaw12_awake.mono _)
   | (with_reducible exact stowageref12_ParseBucket.mono _ _)
   | (with_reducible exact stowageref12_ParseObject.mono _ _)
   | (with_reducible exact stowageref12_ParsePart.mono _ _)
   | (with_reducible exact stowageref12_ParseUpload.mono _ _)
   | (with_reducible exact stowageref12_Seq.mono _ _)
   | (with_reducible exact LeO.refl _)
   | (with_reducible exact LeO.none _)
   | (with_reducible refine LeO.ite ?_ ?_)
   | (with_reducible refine LeO.bind ?_ (fun _ => ?_))
   | exact ih0 _ _
   | exact ih1 _ _
   | exact ih2 _ _
   | exact ih3 _ _
   | exact meta_ParseBucket.mono _ _
   | exact meta_ParseObject.mono _ _
   | exact meta_ParsePart.mono _ _
   | exact meta_ParseUpload.mono _ _
   | exact meta_Seq.mono _ _
   | exact stowagelaw12_awake.mono _
   | exact stowageref12_ParseBucket.mono _ _
   | exact stowageref12_ParseObject.mono _ _
   | exact stowageref12_ParsePart.mono _ _
   | exact stowageref12_ParseUpload.mono _ _
   | exact stowageref12_Seq.mono _ _
   | exact LeO.none _
   | refine LeO.ite ?_ ?_
   | refine LeO.bind ?_ (fun _ => ?_)
theorem stowagelaw12_MetaParses.mono : ∀ a0 k, LeO (stowagelaw12_MetaParses.f k a0) (stowagelaw12_MetaParses.f (k + 1) a0) := by
 intro a0 k
 obtain ⟨ih0, ih1, ih2, ih3⟩ := stowagelaw12_MetaParses.mono_l k
 unfold stowagelaw12_MetaParses.f
 repeat' first
   | (with_reducible exact ih0 _ _)
   | (with_reducible exact ih1 _ _)
   | (with_reducible exact ih2 _ _)
   | (with_reducible exact ih3 _ _)
   | (with_reducible exact meta_ParseBucket.mono _ _)
   | (with_reducible exact meta_ParseObject.mono _ _)
   | (with_reducible exact meta_ParsePart.mono _ _)
   | (with_reducible exact meta_ParseUpload.mono _ _)
   | (with_reducible exact meta_Seq.mono _ _)
   | (with_reducible exact stowagelaw12_awake.mono _)
   | (with_reducible exact stowageref12_ParseBucket.mono _ _)
   | (with_reducible exact stowageref12_ParseObject.mono _ _)
   | (with_reducible exact stowageref12_ParsePart.mono _ _)
   | (with_reducible exact stowageref12_ParseUpload.mono _ _)
   | (with_reducible exact stowageref12_Seq.mono _ _)
   | (with_reducible exact LeO.refl _)
   | (with_reducible exact LeO.none _)
   | (with_reducible refine LeO.ite ?_ ?_)
   | (with_reducible refine LeO.bind ?_ (fun _ => ?_))
   | exact ih0 _ _
   | exact ih1 _ _
   | exact ih2 _ _
   | exact ih3 _ _
   | exact meta_ParseBucket.mono _ _
   | exact meta_ParseObject.mono _ _
   | exact meta_ParsePart.mono _ _
   | exact meta_ParseUpload.mono _ _
   | exact meta_Seq.mono _ _
   | exact stowagelaw12_awake.mono _
   | exact stowageref12_ParseBucket.mono _ _
   | exact stowageref12_ParseObject.mono _ _
   | exact stowageref12_ParsePart.mono _ _
   | exact stowageref12_ParseUpload.mono _ _
   | exact stowageref12_Seq.mono _ _
   | exact LeO.none _
   | refine LeO.ite ?_ ?_
   | refine LeO.bind ?_ (fun _ => ?_)
set_option maxHeartbeats 8000000 in
set_option maxRecDepth 100000 in
theorem stowagelaw12_MetaParses.calls (k : Nat) (a0 : ByteArray) (r : Bool) (w : World) (h : stowagelaw12_MetaParses.f k a0 = some r) (hr : r = true) :
  Calls Tryd.prog 5 #[.string a0] w fun e w' => e = .returned (.bool r) ∧ Below w.heap.size w w' := by
 have hu34 := Tryd.underlying34
 have HB := Aside0.mk (Below.refl w.heap.size w)
 unfold stowagelaw12_MetaParses.f at h
 have H := h
 clear h
 replace H := bndO H
 obtain ⟨⟨t331, t332⟩, A20, H⟩ := H
 dsimp only at H
 have A2 := Aside0.mk A20
 clear A20
 replace H := bndO H
 obtain ⟨⟨t333, t334, t335, t336, t337⟩, A30, H⟩ := H
 dsimp only at H
 have A3 := Aside0.mk A30
 clear A30
 have HC4 := Aside0.mk H
 clear H
 go_enter Tryd.func5, Tryd.ntmps5
 go_upto_region 3 with (first | ((with_reducible refine gate_callee (f := 21) rfl ?_); refine goesL_ (some 15) rfl rfl Tryd.func21 (by kernel_rfl) rfl #[.string a0] rfl (by (try simp only [List.map_toArray, List.map_cons, List.map_nil]); first | done | rfl | (simp only [List.length_drop, List.length_take]; rfl)) ?_; (with_reducible refine (meta_ParseBucket.calls k a0 t331 t332 _ A2.out).mono ?_); rintro e w5 ⟨rfl, hb⟩; refine ⟨_, rfl, ?_⟩; have n0_ := Aside0.mk (below_step (by repeat (first | (with_reducible first | exact HB.out | apply below_alloc | apply pw_below_drewN | apply below_drew1) | exact HB.out)) hb); clear HB; have HB := n0_; clear n0_; (try clear hb); (try clear hb2); (try clear hk); (try clear hi)) | ((with_reducible refine gate_callee (f := 23) rfl ?_); refine goesL_ (some 19) rfl rfl Tryd.func23 (by kernel_rfl) rfl #[.string a0] rfl (by (try simp only [List.map_toArray, List.map_cons, List.map_nil]); first | done | rfl | (simp only [List.length_drop, List.length_take]; rfl)) ?_; (with_reducible refine (stowageref12_ParseBucket.calls k a0 t333 t334 t335 t336 t337 _ A3.out).mono ?_); rintro e w6 ⟨rfl, hb⟩; refine ⟨_, rfl, ?_⟩; have n0_ := Aside0.mk (below_step (by repeat (first | (with_reducible first | exact HB.out | apply below_alloc | apply pw_below_drewN | apply below_drew1) | exact HB.out)) hb); clear HB; have HB := n0_; clear n0_; (try clear hb); (try clear hb2); (try clear hk); (try clear hi)) | ((with_reducible refine gate_dst (N := 5) rfl ?_); refine box_event ?hg (N := 5) ?hd (cs := #[.string (⟨#[]⟩ : ByteArray), .string (⟨#[]⟩ : ByteArray), .int .i64 0, .int .i64 0, .bool false]) (t := 34) ?hr ?_; (case hd => rfl); (case hg => rfl); (case hr => first | (go_simp; done) | (go_simp; rfl)); intro gb338 hg w7 hbox hb; have n0_ := Aside0.mk (below_step (by repeat (first | (with_reducible first | exact HB.out | apply below_alloc | apply pw_below_drewN | apply below_drew1) | exact HB.out)) hb); have n1_ := Aside0.mk (hbox); have n2_ := Aside0.mk ((by rw [hg]; exact (below_size (by repeat (first | (with_reducible first | exact HB.out | apply below_alloc | apply pw_below_drewN | apply below_drew1) | exact HB.out))) : w.heap.size ≤ gb338)); have n3_ := Aside0.mk ((by rw [hg]; exact (below_size (by repeat (first | (with_reducible first | exact HB.out | apply below_alloc | apply pw_below_drewN | apply below_drew1) | exact HB.out))) : w.heap.size ≤ gb338)); clear HB; have HB := n0_; have BK338 := n1_; have GW338 := n2_; have GE338 := n3_; clear n0_ n1_ n2_ n3_; clear hb hbox hg; have hcz8_0 : w7.cell? ⟨gb338, 0, none⟩ = some (.string (⟨#[]⟩ : ByteArray)) := (blk_cell BK338.out 0).trans rfl; have hcz8_1 : w7.cell? ⟨gb338, 1, none⟩ = some (.string (⟨#[]⟩ : ByteArray)) := (blk_cell BK338.out 1).trans rfl; have hcz8_2 : w7.cell? ⟨gb338, 2, none⟩ = some (.int .i64 0) := (blk_cell BK338.out 2).trans rfl; have hcz8_3 : w7.cell? ⟨gb338, 3, none⟩ = some (.int .i64 0) := (blk_cell BK338.out 3).trans rfl; have hcz8_4 : w7.cell? ⟨gb338, 4, none⟩ = some (.bool false) := (blk_cell BK338.out 4).trans rfl; have hfz8_0 := blk_frozen BK338.out 0; have hfz8_1 := blk_frozen BK338.out 1; have hfz8_2 := blk_frozen BK338.out 2; have hfz8_3 := blk_frozen BK338.out 3; have hfz8_4 := blk_frozen BK338.out 4))
 (try simp only [Act.put, List.setIfInBounds_toArray, List.set_cons_zero, List.set_cons_succ])
 go_cut [29] (fun v29 wc => ∃ (kq : Nat) (x29_3 : Bool), v29 = .bool x29_3 ∧ Aside0 (stowagelaw12_MetaParses.j0 kq a0 x29_3 = some r) ∧ Aside0 (kq ≤ k) ∧ Aside0 (wc.heap[gb338]? = some (.cells #[.string t333, .string t334, .int .i64 t335, .int .i64 t336, .bool t337] 34 (0, 0))) ∧ Aside0 (Below w.heap.size w wc))
 case first =>
  have H := HC4.out
  clear HC4
  replace H := itO H
  rcases H with ⟨c9, H⟩ | ⟨c9, H⟩
  ·skip
   have c9b0 : (t331.toList == t333.toList) = true := beq_iff_eq.mpr c9
   have c9b1 : (t331.toList != t333.toList) = false := bne_eq_false_iff_eq.mpr c9
   clear c9
   (first | rw [c9b0] | (simp only [i64_w, i32_w]; rw [c9b0]) | skip)
   have H' := Aside0.mk H
   clear H
   have hcz10_0 : w7.cell? ⟨gb338, 0, none⟩ = some (.string (⟨#[]⟩ : ByteArray)) := (blk_cell BK338.out 0).trans rfl
   have hcz10_1 : w7.cell? ⟨gb338, 1, none⟩ = some (.string (⟨#[]⟩ : ByteArray)) := (blk_cell BK338.out 1).trans rfl
   have hcz10_2 : w7.cell? ⟨gb338, 2, none⟩ = some (.int .i64 0) := (blk_cell BK338.out 2).trans rfl
   have hcz10_3 : w7.cell? ⟨gb338, 3, none⟩ = some (.int .i64 0) := (blk_cell BK338.out 3).trans rfl
   have hcz10_4 : w7.cell? ⟨gb338, 4, none⟩ = some (.bool false) := (blk_cell BK338.out 4).trans rfl
   have hfz10_0 := blk_frozen BK338.out 0
   have hfz10_1 := blk_frozen BK338.out 1
   have hfz10_2 := blk_frozen BK338.out 2
   have hfz10_3 := blk_frozen BK338.out 3
   have hfz10_4 := blk_frozen BK338.out 4
   go_wp2
   go_meet
   case rel => exact ⟨_, ((t332 != t337)), (by first | rfl | (simp; done) | (simp [*]; done)), H', ⟨by first | omega | exact Nat.le_refl _⟩, ⟨by (with_reducible repeat (first | refine blk_drewN ?_ _ | refine blk_drew ?_ | refine blk_alloc ?_ _)); refine blk_put (cs := #[.string t333, .string t334, .int .i64 t335, .int .i64 t336, .bool false]) ?_ 4 _ rfl; (with_reducible repeat (first | refine blk_drewN ?_ _ | refine blk_drew ?_ | refine blk_alloc ?_ _)); refine blk_put (cs := #[.string t333, .string t334, .int .i64 t335, .int .i64 0, .bool false]) ?_ 3 _ rfl; (with_reducible repeat (first | refine blk_drewN ?_ _ | refine blk_drew ?_ | refine blk_alloc ?_ _)); refine blk_put (cs := #[.string t333, .string t334, .int .i64 0, .int .i64 0, .bool false]) ?_ 2 _ rfl; (with_reducible repeat (first | refine blk_drewN ?_ _ | refine blk_drew ?_ | refine blk_alloc ?_ _)); refine blk_put (cs := #[.string t333, .string (⟨#[]⟩ : ByteArray), .int .i64 0, .int .i64 0, .bool false]) ?_ 1 _ rfl; (with_reducible repeat (first | refine blk_drewN ?_ _ | refine blk_drew ?_ | refine blk_alloc ?_ _)); refine blk_put (cs := #[.string (⟨#[]⟩ : ByteArray), .string (⟨#[]⟩ : ByteArray), .int .i64 0, .int .i64 0, .bool false]) ?_ 0 _ rfl; (with_reducible repeat (first | refine blk_drewN ?_ _ | refine blk_drew ?_ | refine blk_alloc ?_ _)); exact BK338.out⟩, ⟨by repeat (first | (with_reducible first | exact HB.out | apply below_alloc | apply pw_below_drewN | apply below_drew1 | refine below_set ?_ GE338.out) | exact HB.out)⟩⟩
  ·skip
   have c9b0 : (t331.toList == t333.toList) = false := beq_eq_false_iff_ne.mpr c9
   have c9b1 : (t331.toList != t333.toList) = true := bne_iff_ne.mpr c9
   (first | rw [c9b0] | (simp only [i64_w, i32_w]; rw [c9b0]) | skip)
   have H' := Aside0.mk H
   clear H
   have hcz11_0 : w7.cell? ⟨gb338, 0, none⟩ = some (.string (⟨#[]⟩ : ByteArray)) := (blk_cell BK338.out 0).trans rfl
   have hcz11_1 : w7.cell? ⟨gb338, 1, none⟩ = some (.string (⟨#[]⟩ : ByteArray)) := (blk_cell BK338.out 1).trans rfl
   have hcz11_2 : w7.cell? ⟨gb338, 2, none⟩ = some (.int .i64 0) := (blk_cell BK338.out 2).trans rfl
   have hcz11_3 : w7.cell? ⟨gb338, 3, none⟩ = some (.int .i64 0) := (blk_cell BK338.out 3).trans rfl
   have hcz11_4 : w7.cell? ⟨gb338, 4, none⟩ = some (.bool false) := (blk_cell BK338.out 4).trans rfl
   have hfz11_0 := blk_frozen BK338.out 0
   have hfz11_1 := blk_frozen BK338.out 1
   have hfz11_2 := blk_frozen BK338.out 2
   have hfz11_3 := blk_frozen BK338.out 3
   have hfz11_4 := blk_frozen BK338.out 4
   go_wp2
   go_meet
   case rel => exact ⟨_, (true), (by first | rfl | (simp; done) | (simp [*]; done)), H', ⟨by first | omega | exact Nat.le_refl _⟩, ⟨by (with_reducible repeat (first | refine blk_drewN ?_ _ | refine blk_drew ?_ | refine blk_alloc ?_ _)); refine blk_put (cs := #[.string t333, .string t334, .int .i64 t335, .int .i64 t336, .bool false]) ?_ 4 _ rfl; (with_reducible repeat (first | refine blk_drewN ?_ _ | refine blk_drew ?_ | refine blk_alloc ?_ _)); refine blk_put (cs := #[.string t333, .string t334, .int .i64 t335, .int .i64 0, .bool false]) ?_ 3 _ rfl; (with_reducible repeat (first | refine blk_drewN ?_ _ | refine blk_drew ?_ | refine blk_alloc ?_ _)); refine blk_put (cs := #[.string t333, .string t334, .int .i64 0, .int .i64 0, .bool false]) ?_ 2 _ rfl; (with_reducible repeat (first | refine blk_drewN ?_ _ | refine blk_drew ?_ | refine blk_alloc ?_ _)); refine blk_put (cs := #[.string t333, .string (⟨#[]⟩ : ByteArray), .int .i64 0, .int .i64 0, .bool false]) ?_ 1 _ rfl; (with_reducible repeat (first | refine blk_drewN ?_ _ | refine blk_drew ?_ | refine blk_alloc ?_ _)); refine blk_put (cs := #[.string (⟨#[]⟩ : ByteArray), .string (⟨#[]⟩ : ByteArray), .int .i64 0, .int .i64 0, .bool false]) ?_ 0 _ rfl; (with_reducible repeat (first | refine blk_drewN ?_ _ | refine blk_drew ?_ | refine blk_alloc ?_ _)); exact BK338.out⟩, ⟨by repeat (first | (with_reducible first | exact HB.out | apply below_alloc | apply pw_below_drewN | apply below_drew1 | refine below_set ?_ GE338.out) | exact HB.out)⟩⟩
 case rest =>
  clear HC4
  try clear c2
  try clear p2
  try clear c5
  try clear c9
  try clear c9b0
  try clear c9b1
  try clear hcz10_0
  try clear hcz10_1
  try clear hcz10_2
  try clear hcz10_3
  try clear hcz10_4
  try clear hcz11_0
  try clear hcz11_1
  try clear hcz11_2
  try clear hcz11_3
  try clear hcz11_4
  try clear hcz8_0
  try clear hcz8_1
  try clear hcz8_2
  try clear hcz8_3
  try clear hcz8_4
  try clear hfz10_0
  try clear hfz10_1
  try clear hfz10_2
  try clear hfz10_3
  try clear hfz10_4
  try clear hfz11_0
  try clear hfz11_1
  try clear hfz11_2
  try clear hfz11_3
  try clear hfz11_4
  try clear hfz8_0
  try clear hfz8_1
  try clear hfz8_2
  try clear hfz8_3
  try clear hfz8_4
  obtain ⟨kq, x29_3, rfl, HA, HJ3, BK338, HB⟩ := hcut
  cases kq with
  | zero => exact absurd HA.out (by simp [stowagelaw12_MetaParses.j0])
  | succ kj3 =>
   have H := HA.out
   clear HA
   simp only [stowagelaw12_MetaParses.j0] at H
   by_cases c12 : x29_3 = true
   ·subst c12
    replace H := itT H
    rw [hr] at H
    exact absurd H (by simp)
   ·replace c12 := Bool.eq_false_iff.mpr c12
    subst c12
    replace H := itF H
    replace H := bndO H
    obtain ⟨⟨t339, t340, t341, t342⟩, A130, H⟩ := H
    dsimp only at H
    have A13 := Aside0.mk A130
    clear A130
    replace H := bndO H
    obtain ⟨⟨t343, t344, t345, t346, t347⟩, A140, H⟩ := H
    dsimp only at H
    have A14 := Aside0.mk A140
    clear A140
    have HC15 := Aside0.mk H
    clear H
    go_upto_region 7 with (first | ((with_reducible refine gate_callee (f := 24) rfl ?_); refine goesL_ (some 32) rfl rfl Tryd.func24 (by kernel_rfl) rfl #[.string a0] rfl (by (try simp only [List.map_toArray, List.map_cons, List.map_nil]); first | done | rfl | (simp only [List.length_drop, List.length_take]; rfl)) ?_; (with_reducible refine (meta_ParseObject.calls kj3 a0 t339 t340 t341 t342 _ A13.out).mono ?_); rintro e w16 ⟨rfl, hb⟩; refine ⟨_, rfl, ?_⟩; have n0_ := Aside0.mk (blk_below (g := gb338) (o := .cells #[.string t333, .string t334, .int .i64 t335, .int .i64 t336, .bool t337] 34 (0, 0)) (by (with_reducible repeat (first | refine blk_drewN ?_ _ | refine blk_drew ?_ | refine blk_alloc ?_ _)); exact BK338.out) hb); have n1_ := Aside0.mk (below_step (by repeat (first | (with_reducible first | exact HB.out | apply below_alloc | apply pw_below_drewN | apply below_drew1 | refine below_set ?_ GE338.out) | exact HB.out)) hb); clear BK338; clear HB; have BK338 := n0_; have HB := n1_; clear n0_ n1_; (try clear hb); (try clear hb2); (try clear hk); (try clear hi)) | ((with_reducible refine gate_callee (f := 25) rfl ?_); refine goesL_ (some 38) rfl rfl Tryd.func25 (by kernel_rfl) rfl #[.string a0] rfl (by (try simp only [List.map_toArray, List.map_cons, List.map_nil]); first | done | rfl | (simp only [List.length_drop, List.length_take]; rfl)) ?_; (with_reducible refine (stowageref12_ParseObject.calls kj3 a0 t343 t344 t345 t346 t347 _ A14.out).mono ?_); rintro e w17 ⟨rfl, hb⟩; refine ⟨_, rfl, ?_⟩; have n0_ := Aside0.mk (blk_below (g := gb338) (o := .cells #[.string t333, .string t334, .int .i64 t335, .int .i64 t336, .bool t337] 34 (0, 0)) (by (with_reducible repeat (first | refine blk_drewN ?_ _ | refine blk_drew ?_ | refine blk_alloc ?_ _)); exact BK338.out) hb); have n1_ := Aside0.mk (below_step (by repeat (first | (with_reducible first | exact HB.out | apply below_alloc | apply pw_below_drewN | apply below_drew1 | refine below_set ?_ GE338.out) | exact HB.out)) hb); clear BK338; clear HB; have BK338 := n0_; have HB := n1_; clear n0_ n1_; (try clear hb); (try clear hb2); (try clear hk); (try clear hi); have hcz18_0 : w17.cell? ⟨gb338, 0, none⟩ = some (.string t333) := (blk_cell BK338.out 0).trans rfl; have hcz18_1 : w17.cell? ⟨gb338, 1, none⟩ = some (.string t334) := (blk_cell BK338.out 1).trans rfl; have hcz18_2 : w17.cell? ⟨gb338, 2, none⟩ = some (.int .i64 t335) := (blk_cell BK338.out 2).trans rfl; have hcz18_3 : w17.cell? ⟨gb338, 3, none⟩ = some (.int .i64 t336) := (blk_cell BK338.out 3).trans rfl; have hcz18_4 : w17.cell? ⟨gb338, 4, none⟩ = some (.bool t337) := (blk_cell BK338.out 4).trans rfl; have hfz18_0 := blk_frozen BK338.out 0; have hfz18_1 := blk_frozen BK338.out 1; have hfz18_2 := blk_frozen BK338.out 2; have hfz18_3 := blk_frozen BK338.out 3; have hfz18_4 := blk_frozen BK338.out 4))
    (try simp only [Act.put, List.setIfInBounds_toArray, List.set_cons_zero, List.set_cons_succ])
    go_cut [60] (fun v60 wc => ∃ (kq : Nat) (x60_14 : Bool), v60 = .bool x60_14 ∧ Aside0 (stowagelaw12_MetaParses.j1 kq a0 x60_14 = some r) ∧ Aside0 (kq ≤ kj3) ∧ Aside0 (wc.heap[gb338]? = some (.cells #[.string t343, .string t344, .int .i64 t345, .int .i64 t346, .bool t347] 34 (0, 0))) ∧ Aside0 (Below w.heap.size w wc))
    case first =>
     have H := HC15.out
     clear HC15
     replace H := itO H
     rcases H with ⟨c19, H⟩ | ⟨c19, H⟩
     ·skip
      have c19b0 : (t339.toList == t343.toList) = true := beq_iff_eq.mpr c19
      have c19b1 : (t339.toList != t343.toList) = false := bne_eq_false_iff_eq.mpr c19
      clear c19
      (first | rw [c19b0] | (simp only [i64_w, i32_w]; rw [c19b0]) | skip)
      replace H := itO H
      rcases H with ⟨c20, H⟩ | ⟨c20, H⟩
      ·skip
       have c20b0 : (t340.toList == t344.toList) = true := beq_iff_eq.mpr c20
       have c20b1 : (t340.toList != t344.toList) = false := bne_eq_false_iff_eq.mpr c20
       clear c20
       replace H := itO H
       rcases H with ⟨c21, H⟩ | ⟨c21, H⟩
       ·skip
        have c21b0 : (t341 == t345) = true := beq_iff_eq.mpr c21
        have c21b1 : (t341 != t345) = false := bne_eq_false_iff_eq.mpr c21
        clear c21
        have H' := Aside0.mk H
        clear H
        have hcz22_0 : w17.cell? ⟨gb338, 0, none⟩ = some (.string t333) := (blk_cell BK338.out 0).trans rfl
        have hcz22_1 : w17.cell? ⟨gb338, 1, none⟩ = some (.string t334) := (blk_cell BK338.out 1).trans rfl
        have hcz22_2 : w17.cell? ⟨gb338, 2, none⟩ = some (.int .i64 t335) := (blk_cell BK338.out 2).trans rfl
        have hcz22_3 : w17.cell? ⟨gb338, 3, none⟩ = some (.int .i64 t336) := (blk_cell BK338.out 3).trans rfl
        have hcz22_4 : w17.cell? ⟨gb338, 4, none⟩ = some (.bool t337) := (blk_cell BK338.out 4).trans rfl
        have hfz22_0 := blk_frozen BK338.out 0
        have hfz22_1 := blk_frozen BK338.out 1
        have hfz22_2 := blk_frozen BK338.out 2
        have hfz22_3 := blk_frozen BK338.out 3
        have hfz22_4 := blk_frozen BK338.out 4
        go_wp2
        go_meet
        case rel => exact ⟨_, ((t342 != t347)), (by first | rfl | (simp; done) | (simp [*]; done)), H', ⟨by have := HJ3.out; first | omega | exact Nat.le_refl _⟩, ⟨by (with_reducible repeat (first | refine blk_drewN ?_ _ | refine blk_drew ?_ | refine blk_alloc ?_ _)); refine blk_put (cs := #[.string t343, .string t344, .int .i64 t345, .int .i64 t346, .bool t337]) ?_ 4 _ rfl; (with_reducible repeat (first | refine blk_drewN ?_ _ | refine blk_drew ?_ | refine blk_alloc ?_ _)); refine blk_put (cs := #[.string t343, .string t344, .int .i64 t345, .int .i64 t336, .bool t337]) ?_ 3 _ rfl; (with_reducible repeat (first | refine blk_drewN ?_ _ | refine blk_drew ?_ | refine blk_alloc ?_ _)); refine blk_put (cs := #[.string t343, .string t344, .int .i64 t335, .int .i64 t336, .bool t337]) ?_ 2 _ rfl; (with_reducible repeat (first | refine blk_drewN ?_ _ | refine blk_drew ?_ | refine blk_alloc ?_ _)); refine blk_put (cs := #[.string t343, .string t334, .int .i64 t335, .int .i64 t336, .bool t337]) ?_ 1 _ rfl; (with_reducible repeat (first | refine blk_drewN ?_ _ | refine blk_drew ?_ | refine blk_alloc ?_ _)); refine blk_put (cs := #[.string t333, .string t334, .int .i64 t335, .int .i64 t336, .bool t337]) ?_ 0 _ rfl; (with_reducible repeat (first | refine blk_drewN ?_ _ | refine blk_drew ?_ | refine blk_alloc ?_ _)); exact BK338.out⟩, ⟨by repeat (first | (with_reducible first | exact HB.out | apply below_alloc | apply pw_below_drewN | apply below_drew1 | refine below_set ?_ GE338.out) | exact HB.out)⟩⟩
       ·skip
        have c21b0 : (t341 == t345) = false := beq_eq_false_iff_ne.mpr c21
        have c21b1 : (t341 != t345) = true := bne_iff_ne.mpr c21
        have H' := Aside0.mk H
        clear H
        have hcz23_0 : w17.cell? ⟨gb338, 0, none⟩ = some (.string t333) := (blk_cell BK338.out 0).trans rfl
        have hcz23_1 : w17.cell? ⟨gb338, 1, none⟩ = some (.string t334) := (blk_cell BK338.out 1).trans rfl
        have hcz23_2 : w17.cell? ⟨gb338, 2, none⟩ = some (.int .i64 t335) := (blk_cell BK338.out 2).trans rfl
        have hcz23_3 : w17.cell? ⟨gb338, 3, none⟩ = some (.int .i64 t336) := (blk_cell BK338.out 3).trans rfl
        have hcz23_4 : w17.cell? ⟨gb338, 4, none⟩ = some (.bool t337) := (blk_cell BK338.out 4).trans rfl
        have hfz23_0 := blk_frozen BK338.out 0
        have hfz23_1 := blk_frozen BK338.out 1
        have hfz23_2 := blk_frozen BK338.out 2
        have hfz23_3 := blk_frozen BK338.out 3
        have hfz23_4 := blk_frozen BK338.out 4
        go_wp2
        go_meet
        case rel => exact ⟨_, (true), (by first | rfl | (simp; done) | (simp [*]; done)), H', ⟨by have := HJ3.out; first | omega | exact Nat.le_refl _⟩, ⟨by (with_reducible repeat (first | refine blk_drewN ?_ _ | refine blk_drew ?_ | refine blk_alloc ?_ _)); refine blk_put (cs := #[.string t343, .string t344, .int .i64 t345, .int .i64 t346, .bool t337]) ?_ 4 _ rfl; (with_reducible repeat (first | refine blk_drewN ?_ _ | refine blk_drew ?_ | refine blk_alloc ?_ _)); refine blk_put (cs := #[.string t343, .string t344, .int .i64 t345, .int .i64 t336, .bool t337]) ?_ 3 _ rfl; (with_reducible repeat (first | refine blk_drewN ?_ _ | refine blk_drew ?_ | refine blk_alloc ?_ _)); refine blk_put (cs := #[.string t343, .string t344, .int .i64 t335, .int .i64 t336, .bool t337]) ?_ 2 _ rfl; (with_reducible repeat (first | refine blk_drewN ?_ _ | refine blk_drew ?_ | refine blk_alloc ?_ _)); refine blk_put (cs := #[.string t343, .string t334, .int .i64 t335, .int .i64 t336, .bool t337]) ?_ 1 _ rfl; (with_reducible repeat (first | refine blk_drewN ?_ _ | refine blk_drew ?_ | refine blk_alloc ?_ _)); refine blk_put (cs := #[.string t333, .string t334, .int .i64 t335, .int .i64 t336, .bool t337]) ?_ 0 _ rfl; (with_reducible repeat (first | refine blk_drewN ?_ _ | refine blk_drew ?_ | refine blk_alloc ?_ _)); exact BK338.out⟩, ⟨by repeat (first | (with_reducible first | exact HB.out | apply below_alloc | apply pw_below_drewN | apply below_drew1 | refine below_set ?_ GE338.out) | exact HB.out)⟩⟩
      ·skip
       have c20b0 : (t340.toList == t344.toList) = false := beq_eq_false_iff_ne.mpr c20
       have c20b1 : (t340.toList != t344.toList) = true := bne_iff_ne.mpr c20
       have H' := Aside0.mk H
       clear H
       have hcz24_0 : w17.cell? ⟨gb338, 0, none⟩ = some (.string t333) := (blk_cell BK338.out 0).trans rfl
       have hcz24_1 : w17.cell? ⟨gb338, 1, none⟩ = some (.string t334) := (blk_cell BK338.out 1).trans rfl
       have hcz24_2 : w17.cell? ⟨gb338, 2, none⟩ = some (.int .i64 t335) := (blk_cell BK338.out 2).trans rfl
       have hcz24_3 : w17.cell? ⟨gb338, 3, none⟩ = some (.int .i64 t336) := (blk_cell BK338.out 3).trans rfl
       have hcz24_4 : w17.cell? ⟨gb338, 4, none⟩ = some (.bool t337) := (blk_cell BK338.out 4).trans rfl
       have hfz24_0 := blk_frozen BK338.out 0
       have hfz24_1 := blk_frozen BK338.out 1
       have hfz24_2 := blk_frozen BK338.out 2
       have hfz24_3 := blk_frozen BK338.out 3
       have hfz24_4 := blk_frozen BK338.out 4
       go_wp2
       go_meet
       case rel => exact ⟨_, (true), (by first | rfl | (simp; done) | (simp [*]; done)), H', ⟨by have := HJ3.out; first | omega | exact Nat.le_refl _⟩, ⟨by (with_reducible repeat (first | refine blk_drewN ?_ _ | refine blk_drew ?_ | refine blk_alloc ?_ _)); refine blk_put (cs := #[.string t343, .string t344, .int .i64 t345, .int .i64 t346, .bool t337]) ?_ 4 _ rfl; (with_reducible repeat (first | refine blk_drewN ?_ _ | refine blk_drew ?_ | refine blk_alloc ?_ _)); refine blk_put (cs := #[.string t343, .string t344, .int .i64 t345, .int .i64 t336, .bool t337]) ?_ 3 _ rfl; (with_reducible repeat (first | refine blk_drewN ?_ _ | refine blk_drew ?_ | refine blk_alloc ?_ _)); refine blk_put (cs := #[.string t343, .string t344, .int .i64 t335, .int .i64 t336, .bool t337]) ?_ 2 _ rfl; (with_reducible repeat (first | refine blk_drewN ?_ _ | refine blk_drew ?_ | refine blk_alloc ?_ _)); refine blk_put (cs := #[.string t343, .string t334, .int .i64 t335, .int .i64 t336, .bool t337]) ?_ 1 _ rfl; (with_reducible repeat (first | refine blk_drewN ?_ _ | refine blk_drew ?_ | refine blk_alloc ?_ _)); refine blk_put (cs := #[.string t333, .string t334, .int .i64 t335, .int .i64 t336, .bool t337]) ?_ 0 _ rfl; (with_reducible repeat (first | refine blk_drewN ?_ _ | refine blk_drew ?_ | refine blk_alloc ?_ _)); exact BK338.out⟩, ⟨by repeat (first | (with_reducible first | exact HB.out | apply below_alloc | apply pw_below_drewN | apply below_drew1 | refine below_set ?_ GE338.out) | exact HB.out)⟩⟩
     ·skip
      have c19b0 : (t339.toList == t343.toList) = false := beq_eq_false_iff_ne.mpr c19
      have c19b1 : (t339.toList != t343.toList) = true := bne_iff_ne.mpr c19
      (first | rw [c19b0] | (simp only [i64_w, i32_w]; rw [c19b0]) | skip)
      have H' := Aside0.mk H
      clear H
      have hcz25_0 : w17.cell? ⟨gb338, 0, none⟩ = some (.string t333) := (blk_cell BK338.out 0).trans rfl
      have hcz25_1 : w17.cell? ⟨gb338, 1, none⟩ = some (.string t334) := (blk_cell BK338.out 1).trans rfl
      have hcz25_2 : w17.cell? ⟨gb338, 2, none⟩ = some (.int .i64 t335) := (blk_cell BK338.out 2).trans rfl
      have hcz25_3 : w17.cell? ⟨gb338, 3, none⟩ = some (.int .i64 t336) := (blk_cell BK338.out 3).trans rfl
      have hcz25_4 : w17.cell? ⟨gb338, 4, none⟩ = some (.bool t337) := (blk_cell BK338.out 4).trans rfl
      have hfz25_0 := blk_frozen BK338.out 0
      have hfz25_1 := blk_frozen BK338.out 1
      have hfz25_2 := blk_frozen BK338.out 2
      have hfz25_3 := blk_frozen BK338.out 3
      have hfz25_4 := blk_frozen BK338.out 4
      go_wp2
      go_meet
      case rel => exact ⟨_, (true), (by first | rfl | (simp; done) | (simp [*]; done)), H', ⟨by have := HJ3.out; first | omega | exact Nat.le_refl _⟩, ⟨by (with_reducible repeat (first | refine blk_drewN ?_ _ | refine blk_drew ?_ | refine blk_alloc ?_ _)); refine blk_put (cs := #[.string t343, .string t344, .int .i64 t345, .int .i64 t346, .bool t337]) ?_ 4 _ rfl; (with_reducible repeat (first | refine blk_drewN ?_ _ | refine blk_drew ?_ | refine blk_alloc ?_ _)); refine blk_put (cs := #[.string t343, .string t344, .int .i64 t345, .int .i64 t336, .bool t337]) ?_ 3 _ rfl; (with_reducible repeat (first | refine blk_drewN ?_ _ | refine blk_drew ?_ | refine blk_alloc ?_ _)); refine blk_put (cs := #[.string t343, .string t344, .int .i64 t335, .int .i64 t336, .bool t337]) ?_ 2 _ rfl; (with_reducible repeat (first | refine blk_drewN ?_ _ | refine blk_drew ?_ | refine blk_alloc ?_ _)); refine blk_put (cs := #[.string t343, .string t334, .int .i64 t335, .int .i64 t336, .bool t337]) ?_ 1 _ rfl; (with_reducible repeat (first | refine blk_drewN ?_ _ | refine blk_drew ?_ | refine blk_alloc ?_ _)); refine blk_put (cs := #[.string t333, .string t334, .int .i64 t335, .int .i64 t336, .bool t337]) ?_ 0 _ rfl; (with_reducible repeat (first | refine blk_drewN ?_ _ | refine blk_drew ?_ | refine blk_alloc ?_ _)); exact BK338.out⟩, ⟨by repeat (first | (with_reducible first | exact HB.out | apply below_alloc | apply pw_below_drewN | apply below_drew1 | refine below_set ?_ GE338.out) | exact HB.out)⟩⟩
    case rest =>
     clear HC15
     try clear c1
     try clear c2
     try clear p2
     try clear c5
     try clear c9
     try clear c9b0
     try clear c9b1
     try clear c12
     try clear c19
     try clear c19b0
     try clear c19b1
     try clear c20
     try clear c20b0
     try clear c20b1
     try clear c21
     try clear c21b0
     try clear c21b1
     try clear c23
     try clear c24
     try clear c25
     try clear hcz10_0
     try clear hcz10_1
     try clear hcz10_2
     try clear hcz10_3
     try clear hcz10_4
     try clear hcz11_0
     try clear hcz11_1
     try clear hcz11_2
     try clear hcz11_3
     try clear hcz11_4
     try clear hcz18_0
     try clear hcz18_1
     try clear hcz18_2
     try clear hcz18_3
     try clear hcz18_4
     try clear hcz22_0
     try clear hcz22_1
     try clear hcz22_2
     try clear hcz22_3
     try clear hcz22_4
     try clear hcz23_0
     try clear hcz23_1
     try clear hcz23_2
     try clear hcz23_3
     try clear hcz23_4
     try clear hcz24_0
     try clear hcz24_1
     try clear hcz24_2
     try clear hcz24_3
     try clear hcz24_4
     try clear hcz25_0
     try clear hcz25_1
     try clear hcz25_2
     try clear hcz25_3
     try clear hcz25_4
     try clear hcz8_0
     try clear hcz8_1
     try clear hcz8_2
     try clear hcz8_3
     try clear hcz8_4
     try clear hfz10_0
     try clear hfz10_1
     try clear hfz10_2
     try clear hfz10_3
     try clear hfz10_4
     try clear hfz11_0
     try clear hfz11_1
     try clear hfz11_2
     try clear hfz11_3
     try clear hfz11_4
     try clear hfz18_0
     try clear hfz18_1
     try clear hfz18_2
     try clear hfz18_3
     try clear hfz18_4
     try clear hfz22_0
     try clear hfz22_1
     try clear hfz22_2
     try clear hfz22_3
     try clear hfz22_4
     try clear hfz23_0
     try clear hfz23_1
     try clear hfz23_2
     try clear hfz23_3
     try clear hfz23_4
     try clear hfz24_0
     try clear hfz24_1
     try clear hfz24_2
     try clear hfz24_3
     try clear hfz24_4
     try clear hfz25_0
     try clear hfz25_1
     try clear hfz25_2
     try clear hfz25_3
     try clear hfz25_4
     try clear hfz8_0
     try clear hfz8_1
     try clear hfz8_2
     try clear hfz8_3
     try clear hfz8_4
     try clear p2
     obtain ⟨kq, x60_14, rfl, HA, HJ14, BK338, HB⟩ := hcut
     cases kq with
     | zero => exact absurd HA.out (by simp [stowagelaw12_MetaParses.j1])
     | succ kj14 =>
      have H := HA.out
      clear HA
      simp only [stowagelaw12_MetaParses.j1] at H
      by_cases c26 : x60_14 = true
      ·subst c26
       replace H := itT H
       rw [hr] at H
       exact absurd H (by simp)
      ·replace c26 := Bool.eq_false_iff.mpr c26
       subst c26
       replace H := itF H
       replace H := bndO H
       obtain ⟨⟨t348, t349, t350, t351⟩, A270, H⟩ := H
       dsimp only at H
       have A27 := Aside0.mk A270
       clear A270
       replace H := bndO H
       obtain ⟨⟨t352, t353, t354, t355, t356⟩, A280, H⟩ := H
       dsimp only at H
       have A28 := Aside0.mk A280
       clear A280
       have HC29 := Aside0.mk H
       clear H
       go_upto_region 11 with (first | ((with_reducible refine gate_callee (f := 22) rfl ?_); refine goesL_ (some 63) rfl rfl Tryd.func22 (by kernel_rfl) rfl #[.string a0] rfl (by (try simp only [List.map_toArray, List.map_cons, List.map_nil]); first | done | rfl | (simp only [List.length_drop, List.length_take]; rfl)) ?_; (with_reducible refine (meta_ParseUpload.calls kj14 a0 t348 t349 t350 t351 _ A27.out).mono ?_); rintro e w30 ⟨rfl, hb⟩; refine ⟨_, rfl, ?_⟩; have n0_ := Aside0.mk (blk_below (g := gb338) (o := .cells #[.string t343, .string t344, .int .i64 t345, .int .i64 t346, .bool t347] 34 (0, 0)) (by (with_reducible repeat (first | refine blk_drewN ?_ _ | refine blk_drew ?_ | refine blk_alloc ?_ _)); exact BK338.out) hb); have n1_ := Aside0.mk (below_step (by repeat (first | (with_reducible first | exact HB.out | apply below_alloc | apply pw_below_drewN | apply below_drew1 | refine below_set ?_ GE338.out) | exact HB.out)) hb); clear BK338; clear HB; have BK338 := n0_; have HB := n1_; clear n0_ n1_; (try clear hb); (try clear hb2); (try clear hk); (try clear hi)) | ((with_reducible refine gate_callee (f := 26) rfl ?_); refine goesL_ (some 69) rfl rfl Tryd.func26 (by kernel_rfl) rfl #[.string a0] rfl (by (try simp only [List.map_toArray, List.map_cons, List.map_nil]); first | done | rfl | (simp only [List.length_drop, List.length_take]; rfl)) ?_; (with_reducible refine (stowageref12_ParseUpload.calls kj14 a0 t352 t353 t354 t355 t356 _ A28.out).mono ?_); rintro e w31 ⟨rfl, hb⟩; refine ⟨_, rfl, ?_⟩; have n0_ := Aside0.mk (blk_below (g := gb338) (o := .cells #[.string t343, .string t344, .int .i64 t345, .int .i64 t346, .bool t347] 34 (0, 0)) (by (with_reducible repeat (first | refine blk_drewN ?_ _ | refine blk_drew ?_ | refine blk_alloc ?_ _)); exact BK338.out) hb); have n1_ := Aside0.mk (below_step (by repeat (first | (with_reducible first | exact HB.out | apply below_alloc | apply pw_below_drewN | apply below_drew1 | refine below_set ?_ GE338.out) | exact HB.out)) hb); clear BK338; clear HB; have BK338 := n0_; have HB := n1_; clear n0_ n1_; (try clear hb); (try clear hb2); (try clear hk); (try clear hi); have hcz32_0 : w31.cell? ⟨gb338, 0, none⟩ = some (.string t343) := (blk_cell BK338.out 0).trans rfl; have hcz32_1 : w31.cell? ⟨gb338, 1, none⟩ = some (.string t344) := (blk_cell BK338.out 1).trans rfl; have hcz32_2 : w31.cell? ⟨gb338, 2, none⟩ = some (.int .i64 t345) := (blk_cell BK338.out 2).trans rfl; have hcz32_3 : w31.cell? ⟨gb338, 3, none⟩ = some (.int .i64 t346) := (blk_cell BK338.out 3).trans rfl; have hcz32_4 : w31.cell? ⟨gb338, 4, none⟩ = some (.bool t347) := (blk_cell BK338.out 4).trans rfl; have hfz32_0 := blk_frozen BK338.out 0; have hfz32_1 := blk_frozen BK338.out 1; have hfz32_2 := blk_frozen BK338.out 2; have hfz32_3 := blk_frozen BK338.out 3; have hfz32_4 := blk_frozen BK338.out 4))
       (try simp only [Act.put, List.setIfInBounds_toArray, List.set_cons_zero, List.set_cons_succ])
       go_cut [91] (fun v91 wc => ∃ (kq : Nat) (x91_28 : Bool), v91 = .bool x91_28 ∧ Aside0 (stowagelaw12_MetaParses.j2 kq a0 x91_28 = some r) ∧ Aside0 (kq ≤ kj14) ∧ Aside0 (wc.heap[gb338]? = some (.cells #[.string t352, .string t353, .int .i64 t354, .int .i64 t355, .bool t356] 34 (0, 0))) ∧ Aside0 (Below w.heap.size w wc))
       case first =>
        have H := HC29.out
        clear HC29
        replace H := itO H
        rcases H with ⟨c33, H⟩ | ⟨c33, H⟩
        ·skip
         have c33b0 : (t348.toList == t352.toList) = true := beq_iff_eq.mpr c33
         have c33b1 : (t348.toList != t352.toList) = false := bne_eq_false_iff_eq.mpr c33
         clear c33
         (first | rw [c33b0] | (simp only [i64_w, i32_w]; rw [c33b0]) | skip)
         replace H := itO H
         rcases H with ⟨c34, H⟩ | ⟨c34, H⟩
         ·skip
          have c34b0 : (t349.toList == t353.toList) = true := beq_iff_eq.mpr c34
          have c34b1 : (t349.toList != t353.toList) = false := bne_eq_false_iff_eq.mpr c34
          clear c34
          replace H := itO H
          rcases H with ⟨c35, H⟩ | ⟨c35, H⟩
          ·skip
           have c35b0 : (t350 == t354) = true := beq_iff_eq.mpr c35
           have c35b1 : (t350 != t354) = false := bne_eq_false_iff_eq.mpr c35
           clear c35
           have H' := Aside0.mk H
           clear H
           have hcz36_0 : w31.cell? ⟨gb338, 0, none⟩ = some (.string t343) := (blk_cell BK338.out 0).trans rfl
           have hcz36_1 : w31.cell? ⟨gb338, 1, none⟩ = some (.string t344) := (blk_cell BK338.out 1).trans rfl
           have hcz36_2 : w31.cell? ⟨gb338, 2, none⟩ = some (.int .i64 t345) := (blk_cell BK338.out 2).trans rfl
           have hcz36_3 : w31.cell? ⟨gb338, 3, none⟩ = some (.int .i64 t346) := (blk_cell BK338.out 3).trans rfl
           have hcz36_4 : w31.cell? ⟨gb338, 4, none⟩ = some (.bool t347) := (blk_cell BK338.out 4).trans rfl
           have hfz36_0 := blk_frozen BK338.out 0
           have hfz36_1 := blk_frozen BK338.out 1
           have hfz36_2 := blk_frozen BK338.out 2
           have hfz36_3 := blk_frozen BK338.out 3
           have hfz36_4 := blk_frozen BK338.out 4
           go_wp2
           go_meet
           case rel => exact ⟨_, ((t351 != t356)), (by first | rfl | (simp; done) | (simp [*]; done)), H', ⟨by have := HJ3.out; have := HJ14.out; first | omega | exact Nat.le_refl _⟩, ⟨by (with_reducible repeat (first | refine blk_drewN ?_ _ | refine blk_drew ?_ | refine blk_alloc ?_ _)); refine blk_put (cs := #[.string t352, .string t353, .int .i64 t354, .int .i64 t355, .bool t347]) ?_ 4 _ rfl; (with_reducible repeat (first | refine blk_drewN ?_ _ | refine blk_drew ?_ | refine blk_alloc ?_ _)); refine blk_put (cs := #[.string t352, .string t353, .int .i64 t354, .int .i64 t346, .bool t347]) ?_ 3 _ rfl; (with_reducible repeat (first | refine blk_drewN ?_ _ | refine blk_drew ?_ | refine blk_alloc ?_ _)); refine blk_put (cs := #[.string t352, .string t353, .int .i64 t345, .int .i64 t346, .bool t347]) ?_ 2 _ rfl; (with_reducible repeat (first | refine blk_drewN ?_ _ | refine blk_drew ?_ | refine blk_alloc ?_ _)); refine blk_put (cs := #[.string t352, .string t344, .int .i64 t345, .int .i64 t346, .bool t347]) ?_ 1 _ rfl; (with_reducible repeat (first | refine blk_drewN ?_ _ | refine blk_drew ?_ | refine blk_alloc ?_ _)); refine blk_put (cs := #[.string t343, .string t344, .int .i64 t345, .int .i64 t346, .bool t347]) ?_ 0 _ rfl; (with_reducible repeat (first | refine blk_drewN ?_ _ | refine blk_drew ?_ | refine blk_alloc ?_ _)); exact BK338.out⟩, ⟨by repeat (first | (with_reducible first | exact HB.out | apply below_alloc | apply pw_below_drewN | apply below_drew1 | refine below_set ?_ GE338.out) | exact HB.out)⟩⟩
          ·skip
           have c35b0 : (t350 == t354) = false := beq_eq_false_iff_ne.mpr c35
           have c35b1 : (t350 != t354) = true := bne_iff_ne.mpr c35
           have H' := Aside0.mk H
           clear H
           have hcz37_0 : w31.cell? ⟨gb338, 0, none⟩ = some (.string t343) := (blk_cell BK338.out 0).trans rfl
           have hcz37_1 : w31.cell? ⟨gb338, 1, none⟩ = some (.string t344) := (blk_cell BK338.out 1).trans rfl
           have hcz37_2 : w31.cell? ⟨gb338, 2, none⟩ = some (.int .i64 t345) := (blk_cell BK338.out 2).trans rfl
           have hcz37_3 : w31.cell? ⟨gb338, 3, none⟩ = some (.int .i64 t346) := (blk_cell BK338.out 3).trans rfl
           have hcz37_4 : w31.cell? ⟨gb338, 4, none⟩ = some (.bool t347) := (blk_cell BK338.out 4).trans rfl
           have hfz37_0 := blk_frozen BK338.out 0
           have hfz37_1 := blk_frozen BK338.out 1
           have hfz37_2 := blk_frozen BK338.out 2
           have hfz37_3 := blk_frozen BK338.out 3
           have hfz37_4 := blk_frozen BK338.out 4
           go_wp2
           go_meet
           case rel => exact ⟨_, (true), (by first | rfl | (simp; done) | (simp [*]; done)), H', ⟨by have := HJ3.out; have := HJ14.out; first | omega | exact Nat.le_refl _⟩, ⟨by (with_reducible repeat (first | refine blk_drewN ?_ _ | refine blk_drew ?_ | refine blk_alloc ?_ _)); refine blk_put (cs := #[.string t352, .string t353, .int .i64 t354, .int .i64 t355, .bool t347]) ?_ 4 _ rfl; (with_reducible repeat (first | refine blk_drewN ?_ _ | refine blk_drew ?_ | refine blk_alloc ?_ _)); refine blk_put (cs := #[.string t352, .string t353, .int .i64 t354, .int .i64 t346, .bool t347]) ?_ 3 _ rfl; (with_reducible repeat (first | refine blk_drewN ?_ _ | refine blk_drew ?_ | refine blk_alloc ?_ _)); refine blk_put (cs := #[.string t352, .string t353, .int .i64 t345, .int .i64 t346, .bool t347]) ?_ 2 _ rfl; (with_reducible repeat (first | refine blk_drewN ?_ _ | refine blk_drew ?_ | refine blk_alloc ?_ _)); refine blk_put (cs := #[.string t352, .string t344, .int .i64 t345, .int .i64 t346, .bool t347]) ?_ 1 _ rfl; (with_reducible repeat (first | refine blk_drewN ?_ _ | refine blk_drew ?_ | refine blk_alloc ?_ _)); refine blk_put (cs := #[.string t343, .string t344, .int .i64 t345, .int .i64 t346, .bool t347]) ?_ 0 _ rfl; (with_reducible repeat (first | refine blk_drewN ?_ _ | refine blk_drew ?_ | refine blk_alloc ?_ _)); exact BK338.out⟩, ⟨by repeat (first | (with_reducible first | exact HB.out | apply below_alloc | apply pw_below_drewN | apply below_drew1 | refine below_set ?_ GE338.out) | exact HB.out)⟩⟩
         ·skip
          have c34b0 : (t349.toList == t353.toList) = false := beq_eq_false_iff_ne.mpr c34
          have c34b1 : (t349.toList != t353.toList) = true := bne_iff_ne.mpr c34
          have H' := Aside0.mk H
          clear H
          have hcz38_0 : w31.cell? ⟨gb338, 0, none⟩ = some (.string t343) := (blk_cell BK338.out 0).trans rfl
          have hcz38_1 : w31.cell? ⟨gb338, 1, none⟩ = some (.string t344) := (blk_cell BK338.out 1).trans rfl
          have hcz38_2 : w31.cell? ⟨gb338, 2, none⟩ = some (.int .i64 t345) := (blk_cell BK338.out 2).trans rfl
          have hcz38_3 : w31.cell? ⟨gb338, 3, none⟩ = some (.int .i64 t346) := (blk_cell BK338.out 3).trans rfl
          have hcz38_4 : w31.cell? ⟨gb338, 4, none⟩ = some (.bool t347) := (blk_cell BK338.out 4).trans rfl
          have hfz38_0 := blk_frozen BK338.out 0
          have hfz38_1 := blk_frozen BK338.out 1
          have hfz38_2 := blk_frozen BK338.out 2
          have hfz38_3 := blk_frozen BK338.out 3
          have hfz38_4 := blk_frozen BK338.out 4
          go_wp2
          go_meet
          case rel => exact ⟨_, (true), (by first | rfl | (simp; done) | (simp [*]; done)), H', ⟨by have := HJ3.out; have := HJ14.out; first | omega | exact Nat.le_refl _⟩, ⟨by (with_reducible repeat (first | refine blk_drewN ?_ _ | refine blk_drew ?_ | refine blk_alloc ?_ _)); refine blk_put (cs := #[.string t352, .string t353, .int .i64 t354, .int .i64 t355, .bool t347]) ?_ 4 _ rfl; (with_reducible repeat (first | refine blk_drewN ?_ _ | refine blk_drew ?_ | refine blk_alloc ?_ _)); refine blk_put (cs := #[.string t352, .string t353, .int .i64 t354, .int .i64 t346, .bool t347]) ?_ 3 _ rfl; (with_reducible repeat (first | refine blk_drewN ?_ _ | refine blk_drew ?_ | refine blk_alloc ?_ _)); refine blk_put (cs := #[.string t352, .string t353, .int .i64 t345, .int .i64 t346, .bool t347]) ?_ 2 _ rfl; (with_reducible repeat (first | refine blk_drewN ?_ _ | refine blk_drew ?_ | refine blk_alloc ?_ _)); refine blk_put (cs := #[.string t352, .string t344, .int .i64 t345, .int .i64 t346, .bool t347]) ?_ 1 _ rfl; (with_reducible repeat (first | refine blk_drewN ?_ _ | refine blk_drew ?_ | refine blk_alloc ?_ _)); refine blk_put (cs := #[.string t343, .string t344, .int .i64 t345, .int .i64 t346, .bool t347]) ?_ 0 _ rfl; (with_reducible repeat (first | refine blk_drewN ?_ _ | refine blk_drew ?_ | refine blk_alloc ?_ _)); exact BK338.out⟩, ⟨by repeat (first | (with_reducible first | exact HB.out | apply below_alloc | apply pw_below_drewN | apply below_drew1 | refine below_set ?_ GE338.out) | exact HB.out)⟩⟩
        ·skip
         have c33b0 : (t348.toList == t352.toList) = false := beq_eq_false_iff_ne.mpr c33
         have c33b1 : (t348.toList != t352.toList) = true := bne_iff_ne.mpr c33
         (first | rw [c33b0] | (simp only [i64_w, i32_w]; rw [c33b0]) | skip)
         have H' := Aside0.mk H
         clear H
         have hcz39_0 : w31.cell? ⟨gb338, 0, none⟩ = some (.string t343) := (blk_cell BK338.out 0).trans rfl
         have hcz39_1 : w31.cell? ⟨gb338, 1, none⟩ = some (.string t344) := (blk_cell BK338.out 1).trans rfl
         have hcz39_2 : w31.cell? ⟨gb338, 2, none⟩ = some (.int .i64 t345) := (blk_cell BK338.out 2).trans rfl
         have hcz39_3 : w31.cell? ⟨gb338, 3, none⟩ = some (.int .i64 t346) := (blk_cell BK338.out 3).trans rfl
         have hcz39_4 : w31.cell? ⟨gb338, 4, none⟩ = some (.bool t347) := (blk_cell BK338.out 4).trans rfl
         have hfz39_0 := blk_frozen BK338.out 0
         have hfz39_1 := blk_frozen BK338.out 1
         have hfz39_2 := blk_frozen BK338.out 2
         have hfz39_3 := blk_frozen BK338.out 3
         have hfz39_4 := blk_frozen BK338.out 4
         go_wp2
         go_meet
         case rel => exact ⟨_, (true), (by first | rfl | (simp; done) | (simp [*]; done)), H', ⟨by have := HJ3.out; have := HJ14.out; first | omega | exact Nat.le_refl _⟩, ⟨by (with_reducible repeat (first | refine blk_drewN ?_ _ | refine blk_drew ?_ | refine blk_alloc ?_ _)); refine blk_put (cs := #[.string t352, .string t353, .int .i64 t354, .int .i64 t355, .bool t347]) ?_ 4 _ rfl; (with_reducible repeat (first | refine blk_drewN ?_ _ | refine blk_drew ?_ | refine blk_alloc ?_ _)); refine blk_put (cs := #[.string t352, .string t353, .int .i64 t354, .int .i64 t346, .bool t347]) ?_ 3 _ rfl; (with_reducible repeat (first | refine blk_drewN ?_ _ | refine blk_drew ?_ | refine blk_alloc ?_ _)); refine blk_put (cs := #[.string t352, .string t353, .int .i64 t345, .int .i64 t346, .bool t347]) ?_ 2 _ rfl; (with_reducible repeat (first | refine blk_drewN ?_ _ | refine blk_drew ?_ | refine blk_alloc ?_ _)); refine blk_put (cs := #[.string t352, .string t344, .int .i64 t345, .int .i64 t346, .bool t347]) ?_ 1 _ rfl; (with_reducible repeat (first | refine blk_drewN ?_ _ | refine blk_drew ?_ | refine blk_alloc ?_ _)); refine blk_put (cs := #[.string t343, .string t344, .int .i64 t345, .int .i64 t346, .bool t347]) ?_ 0 _ rfl; (with_reducible repeat (first | refine blk_drewN ?_ _ | refine blk_drew ?_ | refine blk_alloc ?_ _)); exact BK338.out⟩, ⟨by repeat (first | (with_reducible first | exact HB.out | apply below_alloc | apply pw_below_drewN | apply below_drew1 | refine below_set ?_ GE338.out) | exact HB.out)⟩⟩
       case rest =>
        clear HC29
        try clear c1
        try clear c2
        try clear p2
        try clear c3
        try clear c5
        try clear c9
        try clear c9b0
        try clear c9b1
        try clear c12
        try clear c19
        try clear c19b0
        try clear c19b1
        try clear c20
        try clear c20b0
        try clear c20b1
        try clear c21
        try clear c21b0
        try clear c21b1
        try clear c22
        try clear c23
        try clear c24
        try clear c25
        try clear c26
        try clear c33
        try clear c33b0
        try clear c33b1
        try clear c34
        try clear c34b0
        try clear c34b1
        try clear c35
        try clear c35b0
        try clear c35b1
        try clear hcz10_0
        try clear hcz10_1
        try clear hcz10_2
        try clear hcz10_3
        try clear hcz10_4
        try clear hcz11_0
        try clear hcz11_1
        try clear hcz11_2
        try clear hcz11_3
        try clear hcz11_4
        try clear hcz18_0
        try clear hcz18_1
        try clear hcz18_2
        try clear hcz18_3
        try clear hcz18_4
        try clear hcz22_0
        try clear hcz22_1
        try clear hcz22_2
        try clear hcz22_3
        try clear hcz22_4
        try clear hcz23_0
        try clear hcz23_1
        try clear hcz23_2
        try clear hcz23_3
        try clear hcz23_4
        try clear hcz24_0
        try clear hcz24_1
        try clear hcz24_2
        try clear hcz24_3
        try clear hcz24_4
        try clear hcz25_0
        try clear hcz25_1
        try clear hcz25_2
        try clear hcz25_3
        try clear hcz25_4
        try clear hcz32_0
        try clear hcz32_1
        try clear hcz32_2
        try clear hcz32_3
        try clear hcz32_4
        try clear hcz36_0
        try clear hcz36_1
        try clear hcz36_2
        try clear hcz36_3
        try clear hcz36_4
        try clear hcz37_0
        try clear hcz37_1
        try clear hcz37_2
        try clear hcz37_3
        try clear hcz37_4
        try clear hcz38_0
        try clear hcz38_1
        try clear hcz38_2
        try clear hcz38_3
        try clear hcz38_4
        try clear hcz39_0
        try clear hcz39_1
        try clear hcz39_2
        try clear hcz39_3
        try clear hcz39_4
        try clear hcz8_0
        try clear hcz8_1
        try clear hcz8_2
        try clear hcz8_3
        try clear hcz8_4
        try clear hfz10_0
        try clear hfz10_1
        try clear hfz10_2
        try clear hfz10_3
        try clear hfz10_4
        try clear hfz11_0
        try clear hfz11_1
        try clear hfz11_2
        try clear hfz11_3
        try clear hfz11_4
        try clear hfz18_0
        try clear hfz18_1
        try clear hfz18_2
        try clear hfz18_3
        try clear hfz18_4
        try clear hfz22_0
        try clear hfz22_1
        try clear hfz22_2
        try clear hfz22_3
        try clear hfz22_4
        try clear hfz23_0
        try clear hfz23_1
        try clear hfz23_2
        try clear hfz23_3
        try clear hfz23_4
        try clear hfz24_0
        try clear hfz24_1
        try clear hfz24_2
        try clear hfz24_3
        try clear hfz24_4
        try clear hfz25_0
        try clear hfz25_1
        try clear hfz25_2
        try clear hfz25_3
        try clear hfz25_4
        try clear hfz32_0
        try clear hfz32_1
        try clear hfz32_2
        try clear hfz32_3
        try clear hfz32_4
        try clear hfz36_0
        try clear hfz36_1
        try clear hfz36_2
        try clear hfz36_3
        try clear hfz36_4
        try clear hfz37_0
        try clear hfz37_1
        try clear hfz37_2
        try clear hfz37_3
        try clear hfz37_4
        try clear hfz38_0
        try clear hfz38_1
        try clear hfz38_2
        try clear hfz38_3
        try clear hfz38_4
        try clear hfz39_0
        try clear hfz39_1
        try clear hfz39_2
        try clear hfz39_3
        try clear hfz39_4
        try clear hfz8_0
        try clear hfz8_1
        try clear hfz8_2
        try clear hfz8_3
        try clear hfz8_4
        try clear p2
        obtain ⟨kq, x91_28, rfl, HA, HJ28, BK338, HB⟩ := hcut
        cases kq with
        | zero => exact absurd HA.out (by simp [stowagelaw12_MetaParses.j2])
        | succ kj28 =>
         have H := HA.out
         clear HA
         simp only [stowagelaw12_MetaParses.j2] at H
         by_cases c40 : x91_28 = true
         ·subst c40
          replace H := itT H
          rw [hr] at H
          exact absurd H (by simp)
         ·replace c40 := Bool.eq_false_iff.mpr c40
          subst c40
          replace H := itF H
          replace H := bndO H
          obtain ⟨⟨t357, t358, t359⟩, A410, H⟩ := H
          dsimp only at H
          have A41 := Aside0.mk A410
          clear A410
          replace H := bndO H
          obtain ⟨⟨t360, t361, t362, t363, t364⟩, A420, H⟩ := H
          dsimp only at H
          have A42 := Aside0.mk A420
          clear A420
          have HC43 := Aside0.mk H
          clear H
          go_upto_region 15 with (first | ((with_reducible refine gate_callee (f := 27) rfl ?_); refine goesL_ (some 94) rfl rfl Tryd.func27 (by kernel_rfl) rfl #[.string a0] rfl (by (try simp only [List.map_toArray, List.map_cons, List.map_nil]); first | done | rfl | (simp only [List.length_drop, List.length_take]; rfl)) ?_; (with_reducible refine (meta_ParsePart.calls kj28 a0 t357 t358 t359 _ A41.out).mono ?_); rintro e w44 ⟨rfl, hb⟩; refine ⟨_, rfl, ?_⟩; have n0_ := Aside0.mk (blk_below (g := gb338) (o := .cells #[.string t352, .string t353, .int .i64 t354, .int .i64 t355, .bool t356] 34 (0, 0)) (by (with_reducible repeat (first | refine blk_drewN ?_ _ | refine blk_drew ?_ | refine blk_alloc ?_ _)); exact BK338.out) hb); have n1_ := Aside0.mk (below_step (by repeat (first | (with_reducible first | exact HB.out | apply below_alloc | apply pw_below_drewN | apply below_drew1 | refine below_set ?_ GE338.out) | exact HB.out)) hb); clear BK338; clear HB; have BK338 := n0_; have HB := n1_; clear n0_ n1_; (try clear hb); (try clear hb2); (try clear hk); (try clear hi)) | ((with_reducible refine gate_callee (f := 28) rfl ?_); refine goesL_ (some 99) rfl rfl Tryd.func28 (by kernel_rfl) rfl #[.string a0] rfl (by (try simp only [List.map_toArray, List.map_cons, List.map_nil]); first | done | rfl | (simp only [List.length_drop, List.length_take]; rfl)) ?_; (with_reducible refine (stowageref12_ParsePart.calls kj28 a0 t360 t361 t362 t363 t364 _ A42.out).mono ?_); rintro e w45 ⟨rfl, hb⟩; refine ⟨_, rfl, ?_⟩; have n0_ := Aside0.mk (blk_below (g := gb338) (o := .cells #[.string t352, .string t353, .int .i64 t354, .int .i64 t355, .bool t356] 34 (0, 0)) (by (with_reducible repeat (first | refine blk_drewN ?_ _ | refine blk_drew ?_ | refine blk_alloc ?_ _)); exact BK338.out) hb); have n1_ := Aside0.mk (below_step (by repeat (first | (with_reducible first | exact HB.out | apply below_alloc | apply pw_below_drewN | apply below_drew1 | refine below_set ?_ GE338.out) | exact HB.out)) hb); clear BK338; clear HB; have BK338 := n0_; have HB := n1_; clear n0_ n1_; (try clear hb); (try clear hb2); (try clear hk); (try clear hi); have hcz46_0 : w45.cell? ⟨gb338, 0, none⟩ = some (.string t352) := (blk_cell BK338.out 0).trans rfl; have hcz46_1 : w45.cell? ⟨gb338, 1, none⟩ = some (.string t353) := (blk_cell BK338.out 1).trans rfl; have hcz46_2 : w45.cell? ⟨gb338, 2, none⟩ = some (.int .i64 t354) := (blk_cell BK338.out 2).trans rfl; have hcz46_3 : w45.cell? ⟨gb338, 3, none⟩ = some (.int .i64 t355) := (blk_cell BK338.out 3).trans rfl; have hcz46_4 : w45.cell? ⟨gb338, 4, none⟩ = some (.bool t356) := (blk_cell BK338.out 4).trans rfl; have hfz46_0 := blk_frozen BK338.out 0; have hfz46_1 := blk_frozen BK338.out 1; have hfz46_2 := blk_frozen BK338.out 2; have hfz46_3 := blk_frozen BK338.out 3; have hfz46_4 := blk_frozen BK338.out 4))
          (try simp only [Act.put, List.setIfInBounds_toArray, List.set_cons_zero, List.set_cons_succ])
          go_cut [115] (fun v115 wc => ∃ (kq : Nat) (x115_42 : Bool), v115 = .bool x115_42 ∧ Aside0 (stowagelaw12_MetaParses.j3 kq a0 x115_42 = some r) ∧ Aside0 (kq ≤ kj28) ∧ Aside0 (wc.heap[gb338]? = some (.cells #[.string t360, .string t361, .int .i64 t362, .int .i64 t363, .bool t364] 34 (0, 0))) ∧ Aside0 (Below w.heap.size w wc))
          case first =>
           have H := HC43.out
           clear HC43
           replace H := itO H
           rcases H with ⟨c47, H⟩ | ⟨c47, H⟩
           ·skip
            have c47b0 : (t357 == t362) = true := beq_iff_eq.mpr c47
            have c47b1 : (t357 != t362) = false := bne_eq_false_iff_eq.mpr c47
            clear c47
            (first | rw [c47b0] | (simp only [i64_w, i32_w]; rw [c47b0]) | skip)
            replace H := itO H
            rcases H with ⟨c48, H⟩ | ⟨c48, H⟩
            ·skip
             have c48b0 : (t358 == t363) = true := beq_iff_eq.mpr c48
             have c48b1 : (t358 != t363) = false := bne_eq_false_iff_eq.mpr c48
             clear c48
             have H' := Aside0.mk H
             clear H
             have hcz49_0 : w45.cell? ⟨gb338, 0, none⟩ = some (.string t352) := (blk_cell BK338.out 0).trans rfl
             have hcz49_1 : w45.cell? ⟨gb338, 1, none⟩ = some (.string t353) := (blk_cell BK338.out 1).trans rfl
             have hcz49_2 : w45.cell? ⟨gb338, 2, none⟩ = some (.int .i64 t354) := (blk_cell BK338.out 2).trans rfl
             have hcz49_3 : w45.cell? ⟨gb338, 3, none⟩ = some (.int .i64 t355) := (blk_cell BK338.out 3).trans rfl
             have hcz49_4 : w45.cell? ⟨gb338, 4, none⟩ = some (.bool t356) := (blk_cell BK338.out 4).trans rfl
             have hfz49_0 := blk_frozen BK338.out 0
             have hfz49_1 := blk_frozen BK338.out 1
             have hfz49_2 := blk_frozen BK338.out 2
             have hfz49_3 := blk_frozen BK338.out 3
             have hfz49_4 := blk_frozen BK338.out 4
             go_wp2
             go_meet
             case rel => exact ⟨_, ((t359 != t364)), (by first | rfl | (simp; done) | (simp [*]; done)), H', ⟨by have := HJ3.out; have := HJ14.out; have := HJ28.out; first | omega | exact Nat.le_refl _⟩, ⟨by (with_reducible repeat (first | refine blk_drewN ?_ _ | refine blk_drew ?_ | refine blk_alloc ?_ _)); refine blk_put (cs := #[.string t360, .string t361, .int .i64 t362, .int .i64 t363, .bool t356]) ?_ 4 _ rfl; (with_reducible repeat (first | refine blk_drewN ?_ _ | refine blk_drew ?_ | refine blk_alloc ?_ _)); refine blk_put (cs := #[.string t360, .string t361, .int .i64 t362, .int .i64 t355, .bool t356]) ?_ 3 _ rfl; (with_reducible repeat (first | refine blk_drewN ?_ _ | refine blk_drew ?_ | refine blk_alloc ?_ _)); refine blk_put (cs := #[.string t360, .string t361, .int .i64 t354, .int .i64 t355, .bool t356]) ?_ 2 _ rfl; (with_reducible repeat (first | refine blk_drewN ?_ _ | refine blk_drew ?_ | refine blk_alloc ?_ _)); refine blk_put (cs := #[.string t360, .string t353, .int .i64 t354, .int .i64 t355, .bool t356]) ?_ 1 _ rfl; (with_reducible repeat (first | refine blk_drewN ?_ _ | refine blk_drew ?_ | refine blk_alloc ?_ _)); refine blk_put (cs := #[.string t352, .string t353, .int .i64 t354, .int .i64 t355, .bool t356]) ?_ 0 _ rfl; (with_reducible repeat (first | refine blk_drewN ?_ _ | refine blk_drew ?_ | refine blk_alloc ?_ _)); exact BK338.out⟩, ⟨by repeat (first | (with_reducible first | exact HB.out | apply below_alloc | apply pw_below_drewN | apply below_drew1 | refine below_set ?_ GE338.out) | exact HB.out)⟩⟩
            ·skip
             have c48b0 : (t358 == t363) = false := beq_eq_false_iff_ne.mpr c48
             have c48b1 : (t358 != t363) = true := bne_iff_ne.mpr c48
             have H' := Aside0.mk H
             clear H
             have hcz50_0 : w45.cell? ⟨gb338, 0, none⟩ = some (.string t352) := (blk_cell BK338.out 0).trans rfl
             have hcz50_1 : w45.cell? ⟨gb338, 1, none⟩ = some (.string t353) := (blk_cell BK338.out 1).trans rfl
             have hcz50_2 : w45.cell? ⟨gb338, 2, none⟩ = some (.int .i64 t354) := (blk_cell BK338.out 2).trans rfl
             have hcz50_3 : w45.cell? ⟨gb338, 3, none⟩ = some (.int .i64 t355) := (blk_cell BK338.out 3).trans rfl
             have hcz50_4 : w45.cell? ⟨gb338, 4, none⟩ = some (.bool t356) := (blk_cell BK338.out 4).trans rfl
             have hfz50_0 := blk_frozen BK338.out 0
             have hfz50_1 := blk_frozen BK338.out 1
             have hfz50_2 := blk_frozen BK338.out 2
             have hfz50_3 := blk_frozen BK338.out 3
             have hfz50_4 := blk_frozen BK338.out 4
             go_wp2
             go_meet
             case rel => exact ⟨_, (true), (by first | rfl | (simp; done) | (simp [*]; done)), H', ⟨by have := HJ3.out; have := HJ14.out; have := HJ28.out; first | omega | exact Nat.le_refl _⟩, ⟨by (with_reducible repeat (first | refine blk_drewN ?_ _ | refine blk_drew ?_ | refine blk_alloc ?_ _)); refine blk_put (cs := #[.string t360, .string t361, .int .i64 t362, .int .i64 t363, .bool t356]) ?_ 4 _ rfl; (with_reducible repeat (first | refine blk_drewN ?_ _ | refine blk_drew ?_ | refine blk_alloc ?_ _)); refine blk_put (cs := #[.string t360, .string t361, .int .i64 t362, .int .i64 t355, .bool t356]) ?_ 3 _ rfl; (with_reducible repeat (first | refine blk_drewN ?_ _ | refine blk_drew ?_ | refine blk_alloc ?_ _)); refine blk_put (cs := #[.string t360, .string t361, .int .i64 t354, .int .i64 t355, .bool t356]) ?_ 2 _ rfl; (with_reducible repeat (first | refine blk_drewN ?_ _ | refine blk_drew ?_ | refine blk_alloc ?_ _)); refine blk_put (cs := #[.string t360, .string t353, .int .i64 t354, .int .i64 t355, .bool t356]) ?_ 1 _ rfl; (with_reducible repeat (first | refine blk_drewN ?_ _ | refine blk_drew ?_ | refine blk_alloc ?_ _)); refine blk_put (cs := #[.string t352, .string t353, .int .i64 t354, .int .i64 t355, .bool t356]) ?_ 0 _ rfl; (with_reducible repeat (first | refine blk_drewN ?_ _ | refine blk_drew ?_ | refine blk_alloc ?_ _)); exact BK338.out⟩, ⟨by repeat (first | (with_reducible first | exact HB.out | apply below_alloc | apply pw_below_drewN | apply below_drew1 | refine below_set ?_ GE338.out) | exact HB.out)⟩⟩
           ·skip
            have c47b0 : (t357 == t362) = false := beq_eq_false_iff_ne.mpr c47
            have c47b1 : (t357 != t362) = true := bne_iff_ne.mpr c47
            (first | rw [c47b0] | (simp only [i64_w, i32_w]; rw [c47b0]) | skip)
            have H' := Aside0.mk H
            clear H
            have hcz51_0 : w45.cell? ⟨gb338, 0, none⟩ = some (.string t352) := (blk_cell BK338.out 0).trans rfl
            have hcz51_1 : w45.cell? ⟨gb338, 1, none⟩ = some (.string t353) := (blk_cell BK338.out 1).trans rfl
            have hcz51_2 : w45.cell? ⟨gb338, 2, none⟩ = some (.int .i64 t354) := (blk_cell BK338.out 2).trans rfl
            have hcz51_3 : w45.cell? ⟨gb338, 3, none⟩ = some (.int .i64 t355) := (blk_cell BK338.out 3).trans rfl
            have hcz51_4 : w45.cell? ⟨gb338, 4, none⟩ = some (.bool t356) := (blk_cell BK338.out 4).trans rfl
            have hfz51_0 := blk_frozen BK338.out 0
            have hfz51_1 := blk_frozen BK338.out 1
            have hfz51_2 := blk_frozen BK338.out 2
            have hfz51_3 := blk_frozen BK338.out 3
            have hfz51_4 := blk_frozen BK338.out 4
            go_wp2
            go_meet
            case rel => exact ⟨_, (true), (by first | rfl | (simp; done) | (simp [*]; done)), H', ⟨by have := HJ3.out; have := HJ14.out; have := HJ28.out; first | omega | exact Nat.le_refl _⟩, ⟨by (with_reducible repeat (first | refine blk_drewN ?_ _ | refine blk_drew ?_ | refine blk_alloc ?_ _)); refine blk_put (cs := #[.string t360, .string t361, .int .i64 t362, .int .i64 t363, .bool t356]) ?_ 4 _ rfl; (with_reducible repeat (first | refine blk_drewN ?_ _ | refine blk_drew ?_ | refine blk_alloc ?_ _)); refine blk_put (cs := #[.string t360, .string t361, .int .i64 t362, .int .i64 t355, .bool t356]) ?_ 3 _ rfl; (with_reducible repeat (first | refine blk_drewN ?_ _ | refine blk_drew ?_ | refine blk_alloc ?_ _)); refine blk_put (cs := #[.string t360, .string t361, .int .i64 t354, .int .i64 t355, .bool t356]) ?_ 2 _ rfl; (with_reducible repeat (first | refine blk_drewN ?_ _ | refine blk_drew ?_ | refine blk_alloc ?_ _)); refine blk_put (cs := #[.string t360, .string t353, .int .i64 t354, .int .i64 t355, .bool t356]) ?_ 1 _ rfl; (with_reducible repeat (first | refine blk_drewN ?_ _ | refine blk_drew ?_ | refine blk_alloc ?_ _)); refine blk_put (cs := #[.string t352, .string t353, .int .i64 t354, .int .i64 t355, .bool t356]) ?_ 0 _ rfl; (with_reducible repeat (first | refine blk_drewN ?_ _ | refine blk_drew ?_ | refine blk_alloc ?_ _)); exact BK338.out⟩, ⟨by repeat (first | (with_reducible first | exact HB.out | apply below_alloc | apply pw_below_drewN | apply below_drew1 | refine below_set ?_ GE338.out) | exact HB.out)⟩⟩
          case rest =>
           clear HC43
           try clear c1
           try clear c2
           try clear p2
           try clear c3
           try clear c4
           try clear c5
           try clear c9
           try clear c9b0
           try clear c9b1
           try clear c12
           try clear c19
           try clear c19b0
           try clear c19b1
           try clear c20
           try clear c20b0
           try clear c20b1
           try clear c21
           try clear c21b0
           try clear c21b1
           try clear c22
           try clear c23
           try clear c24
           try clear c25
           try clear c26
           try clear c27
           try clear c28
           try clear c33
           try clear c33b0
           try clear c33b1
           try clear c34
           try clear c34b0
           try clear c34b1
           try clear c35
           try clear c35b0
           try clear c35b1
           try clear c40
           try clear c47
           try clear c47b0
           try clear c47b1
           try clear c48
           try clear c48b0
           try clear c48b1
           try clear hcz10_0
           try clear hcz10_1
           try clear hcz10_2
           try clear hcz10_3
           try clear hcz10_4
           try clear hcz11_0
           try clear hcz11_1
           try clear hcz11_2
           try clear hcz11_3
           try clear hcz11_4
           try clear hcz18_0
           try clear hcz18_1
           try clear hcz18_2
           try clear hcz18_3
           try clear hcz18_4
           try clear hcz22_0
           try clear hcz22_1
           try clear hcz22_2
           try clear hcz22_3
           try clear hcz22_4
           try clear hcz23_0
           try clear hcz23_1
           try clear hcz23_2
           try clear hcz23_3
           try clear hcz23_4
           try clear hcz24_0
           try clear hcz24_1
           try clear hcz24_2
           try clear hcz24_3
           try clear hcz24_4
           try clear hcz25_0
           try clear hcz25_1
           try clear hcz25_2
           try clear hcz25_3
           try clear hcz25_4
           try clear hcz32_0
           try clear hcz32_1
           try clear hcz32_2
           try clear hcz32_3
           try clear hcz32_4
           try clear hcz36_0
           try clear hcz36_1
           try clear hcz36_2
           try clear hcz36_3
           try clear hcz36_4
           try clear hcz37_0
           try clear hcz37_1
           try clear hcz37_2
           try clear hcz37_3
           try clear hcz37_4
           try clear hcz38_0
           try clear hcz38_1
           try clear hcz38_2
           try clear hcz38_3
           try clear hcz38_4
           try clear hcz39_0
           try clear hcz39_1
           try clear hcz39_2
           try clear hcz39_3
           try clear hcz39_4
           try clear hcz46_0
           try clear hcz46_1
           try clear hcz46_2
           try clear hcz46_3
           try clear hcz46_4
           try clear hcz49_0
           try clear hcz49_1
           try clear hcz49_2
           try clear hcz49_3
           try clear hcz49_4
           try clear hcz50_0
           try clear hcz50_1
           try clear hcz50_2
           try clear hcz50_3
           try clear hcz50_4
           try clear hcz51_0
           try clear hcz51_1
           try clear hcz51_2
           try clear hcz51_3
           try clear hcz51_4
           try clear hcz8_0
           try clear hcz8_1
           try clear hcz8_2
           try clear hcz8_3
           try clear hcz8_4
           try clear hfz10_0
           try clear hfz10_1
           try clear hfz10_2
           try clear hfz10_3
           try clear hfz10_4
           try clear hfz11_0
           try clear hfz11_1
           try clear hfz11_2
           try clear hfz11_3
           try clear hfz11_4
           try clear hfz18_0
           try clear hfz18_1
           try clear hfz18_2
           try clear hfz18_3
           try clear hfz18_4
           try clear hfz22_0
           try clear hfz22_1
           try clear hfz22_2
           try clear hfz22_3
           try clear hfz22_4
           try clear hfz23_0
           try clear hfz23_1
           try clear hfz23_2
           try clear hfz23_3
           try clear hfz23_4
           try clear hfz24_0
           try clear hfz24_1
           try clear hfz24_2
           try clear hfz24_3
           try clear hfz24_4
           try clear hfz25_0
           try clear hfz25_1
           try clear hfz25_2
           try clear hfz25_3
           try clear hfz25_4
           try clear hfz32_0
           try clear hfz32_1
           try clear hfz32_2
           try clear hfz32_3
           try clear hfz32_4
           try clear hfz36_0
           try clear hfz36_1
           try clear hfz36_2
           try clear hfz36_3
           try clear hfz36_4
           try clear hfz37_0
           try clear hfz37_1
           try clear hfz37_2
           try clear hfz37_3
           try clear hfz37_4
           try clear hfz38_0
           try clear hfz38_1
           try clear hfz38_2
           try clear hfz38_3
           try clear hfz38_4
           try clear hfz39_0
           try clear hfz39_1
           try clear hfz39_2
           try clear hfz39_3
           try clear hfz39_4
           try clear hfz46_0
           try clear hfz46_1
           try clear hfz46_2
           try clear hfz46_3
           try clear hfz46_4
           try clear hfz49_0
           try clear hfz49_1
           try clear hfz49_2
           try clear hfz49_3
           try clear hfz49_4
           try clear hfz50_0
           try clear hfz50_1
           try clear hfz50_2
           try clear hfz50_3
           try clear hfz50_4
           try clear hfz51_0
           try clear hfz51_1
           try clear hfz51_2
           try clear hfz51_3
           try clear hfz51_4
           try clear hfz8_0
           try clear hfz8_1
           try clear hfz8_2
           try clear hfz8_3
           try clear hfz8_4
           try clear p2
           obtain ⟨kq, x115_42, rfl, HA, HJ42, BK338, HB⟩ := hcut
           cases kq with
           | zero => exact absurd HA.out (by simp [stowagelaw12_MetaParses.j3])
           | succ kj42 =>
            have H := HA.out
            clear HA
            simp only [stowagelaw12_MetaParses.j3] at H
            by_cases c52 : x115_42 = true
            ·subst c52
             replace H := itT H
             rw [hr] at H
             exact absurd H (by simp)
            ·replace c52 := Bool.eq_false_iff.mpr c52
             subst c52
             replace H := itF H
             replace H := bndO H
             obtain ⟨⟨t365, t366⟩, A530, H⟩ := H
             dsimp only at H
             have A53 := Aside0.mk A530
             clear A530
             replace H := bndO H
             obtain ⟨⟨t367, t368⟩, A540, H⟩ := H
             dsimp only at H
             have A54 := Aside0.mk A540
             clear A540
             replace H := itO H
             rcases H with ⟨c55, H⟩ | ⟨c55, H⟩
             ·skip
              have c55b0 : (t365 == t367) = true := beq_iff_eq.mpr c55
              have c55b1 : (t365 != t367) = false := bne_eq_false_iff_eq.mpr c55
              clear c55
              replace H := itO H
              rcases H with ⟨c56, H⟩ | ⟨c56, H⟩
              ·skip
               have c56b0 : (t366 == t368) = true := c56
               (try (have c56b1 : decide (t366 = t368) = true := by simpa using c56))
               (try (have c56b2 : (t366 == t368) = true := by simpa using c56))
               clear c56
               replace H := bndO H
               obtain ⟨t369, A570, H⟩ := H
               have A57 := Aside0.mk A570
               clear A570
               clear hr
               obtain rfl := Option.some.inj H
               go_wp2_with (first | ((with_reducible refine gate_callee (f := 29) rfl ?_); refine goesL_ (some 118) rfl rfl Tryd.func29 (by kernel_rfl) rfl #[.string a0] rfl (by (try simp only [List.map_toArray, List.map_cons, List.map_nil]); first | done | rfl | (simp only [List.length_drop, List.length_take]; rfl)) ?_; (with_reducible refine (meta_Seq.calls kj42 a0 t365 t366 _ A53.out).mono ?_); rintro e w58 ⟨rfl, hb⟩; refine ⟨_, rfl, ?_⟩; have n0_ := Aside0.mk (blk_below (g := gb338) (o := .cells #[.string t360, .string t361, .int .i64 t362, .int .i64 t363, .bool t364] 34 (0, 0)) (by (with_reducible repeat (first | refine blk_drewN ?_ _ | refine blk_drew ?_ | refine blk_alloc ?_ _)); exact BK338.out) hb); have n1_ := Aside0.mk (below_step (by repeat (first | (with_reducible first | exact HB.out | apply below_alloc | apply pw_below_drewN | apply below_drew1 | refine below_set ?_ GE338.out) | exact HB.out)) hb); clear BK338; clear HB; have BK338 := n0_; have HB := n1_; clear n0_ n1_; (try clear hb); (try clear hb2); (try clear hk); (try clear hi)) | ((with_reducible refine gate_callee (f := 30) rfl ?_); refine goesL_ (some 123) rfl rfl Tryd.func30 (by kernel_rfl) rfl #[.string a0] rfl (by (try simp only [List.map_toArray, List.map_cons, List.map_nil]); first | done | rfl | (simp only [List.length_drop, List.length_take]; rfl)) ?_; (with_reducible refine (stowageref12_Seq.calls kj42 a0 t367 t368 _ A54.out).mono ?_); rintro e w59 ⟨rfl, hb⟩; refine ⟨_, rfl, ?_⟩; have n0_ := Aside0.mk (blk_below (g := gb338) (o := .cells #[.string t360, .string t361, .int .i64 t362, .int .i64 t363, .bool t364] 34 (0, 0)) (by (with_reducible repeat (first | refine blk_drewN ?_ _ | refine blk_drew ?_ | refine blk_alloc ?_ _)); exact BK338.out) hb); have n1_ := Aside0.mk (below_step (by repeat (first | (with_reducible first | exact HB.out | apply below_alloc | apply pw_below_drewN | apply below_drew1 | refine below_set ?_ GE338.out) | exact HB.out)) hb); clear BK338; clear HB; have BK338 := n0_; have HB := n1_; clear n0_ n1_; (try clear hb); (try clear hb2); (try clear hk); (try clear hi)) | (go_at_call 20; (with_reducible refine (stowagelaw12_awake.calls kj42  t369 _ A57.out).mono ?_); rintro e w60 ⟨rfl, hb⟩; have n0_ := Aside0.mk (blk_below (g := gb338) (o := .cells #[.string t360, .string t361, .int .i64 t362, .int .i64 t363, .bool t364] 34 (0, 0)) (by (with_reducible repeat (first | refine blk_drewN ?_ _ | refine blk_drew ?_ | refine blk_alloc ?_ _)); exact BK338.out) hb); have n1_ := Aside0.mk (below_step (by repeat (first | (with_reducible first | exact HB.out | apply below_alloc | apply pw_below_drewN | apply below_drew1 | refine below_set ?_ GE338.out) | exact HB.out)) hb); clear BK338; clear HB; have BK338 := n0_; have HB := n1_; clear n0_ n1_; (try clear hb); (try clear hb2); (try clear hk); (try clear hi)))
               go_ret
               exact ⟨by first | rfl | (simp [errW_none, errW_some] <;> rfl) | (simp [*, errW_none, errW_some] <;> rfl), by repeat (first | (with_reducible first | exact HB.out | apply below_alloc | apply pw_below_drewN | apply below_drew1 | refine below_set ?_ GE338.out) | exact HB.out)⟩
              ·skip
               have c56b0 : (t366 == t368) = false := by simpa using c56
               (try (have c56b1 : decide (t366 = t368) = false := by simpa using c56))
               (try (have c56b2 : (t366 == t368) = false := by simpa using c56))
               (try (have c56b3 : ¬ (t366 = t368) := by simpa using c56))
               clear c56
               rw [hr] at H
               exact absurd H (by simp)
             ·skip
              have c55b0 : (t365 == t367) = false := beq_eq_false_iff_ne.mpr c55
              have c55b1 : (t365 != t367) = true := bne_iff_ne.mpr c55
              rw [hr] at H
              exact absurd H (by simp)
def stowagelaw12_MetaParses.Pure : Prop := ∀ (a0 : ByteArray), a0.size ≤ 140737488351232 → ∃ k, stowagelaw12_MetaParses.f k a0 = some true
theorem stowagelaw12_MetaParses.walk (P : stowagelaw12_MetaParses.Pure) (a0 : ByteArray) (w : World) (w0 : a0.size ≤ 140737488351232) :
  Calls Tryd.prog 5 #[.string a0] w fun e w' => e = .returned (.bool true) ∧ Below w.heap.size w w' := by
 obtain ⟨k, h⟩ := P a0 w0
 refine (stowagelaw12_MetaParses.calls k a0 true w h rfl).mono ?_
 rintro e w' ⟨rfl, hd⟩
 exact ⟨rfl, hd⟩
end Go.Proofs.YtieejapamkokaaaDoor.Q
