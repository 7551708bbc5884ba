/- A part of the proof of the seat's laws. No condition beyond those in the theorems. -/
import Derived.Test.YthjofhklkkmdoaaZQ0g4
import Derived.Test.YthjofhklkkmdoaaZQ67g3
import Derived.Test.YthjofhklkkmdoaaZQ70
import Derived.Test.YthjofhklkkmdoaaZQ74

namespace Go.Proofs.Ythjofhklkkmdoaa.Q
open Go.RowKit Go.Proofs.YthjofhklkkmdoaaW.PrintWords Go.Proofs.YthjofhklkkmdoaaW.PrintLast Go.Proofs.YthjofhklkkmdoaaW.PrintMore
set_option linter.unusedVariables false
set_option linter.unusedSimpArgs false
attribute [local go_sem] max2_int min2_int max_two min_two max_three min_three max_four min_four   
mutual
def stowageref21_ask.j0 : Nat → List (S41) → ByteArray → ByteArray → Int → Bool → Bool → List ByteArray → Bool → Bool → List ByteArray → Bool → Bool → Option (Int)
 | 0, _, _, _, _, _, _, _, _, _, _, _, _ => none
 | k + 1, x0, x1, x2, x3, x4, x32, x430000, x430001, x430002, x436000, x436001, x436002 => if x32 = true then (some 327) else (if x1.size + 19 ≤ 9223372036854775807 then ((stowageref21_date.f k x0 (x1 ++ (⟨#[105, 102, 45, 117, 110, 109, 111, 100, 105, 102, 105, 101, 100, 45, 115, 105, 110, 99, 101]⟩ : ByteArray))).bind fun bt437 => (if x430002 = true then (stowageref21_ask.j1 k x0 x1 x2 x3 x4 false x436000 x436001 x436002) else (if bt437.2 = true then (stowageref21_ask.j1 k x0 x1 x2 x3 x4 (decide (bt437.1 < x3)) x436000 x436001 x436002) else (stowageref21_ask.j1 k x0 x1 x2 x3 x4 false x436000 x436001 x436002)))) else (none))
def stowageref21_ask.j1 : Nat → List (S41) → ByteArray → ByteArray → Int → Bool → Bool → List ByteArray → Bool → Bool → Option (Int)
 | 0, _, _, _, _, _, _, _, _, _ => none
 | k + 1, x0, x1, x2, x3, x4, x50, x436000, x436001, x436002 => if x50 = true then (some 327) else (if x436002 = true then ((stowageref21_List_has.f k x436000 x436001 x436002 x2).bind fun t439 => (stowageref21_ask.j2 k x0 x1 x3 x4 t439 x436000 x436001 x436002)) else (stowageref21_ask.j2 k x0 x1 x3 x4 false x436000 x436001 x436002))
def stowageref21_ask.j2 : Nat → List (S41) → ByteArray → Int → Bool → Bool → List ByteArray → Bool → Bool → Option (Int)
 | 0, _, _, _, _, _, _, _, _ => none
 | k + 1, x0, x1, x3, x4, x57, x436000, x436001, x436002 => if x57 = true then (if x4 = true then (some 328) else (some 327)) else (if x1.size + 17 ≤ 9223372036854775807 then ((stowageref21_date.f k x0 (x1 ++ (⟨#[105, 102, 45, 109, 111, 100, 105, 102, 105, 101, 100, 45, 115, 105, 110, 99, 101]⟩ : ByteArray))).bind fun bt440 => (if x436002 = true then (some 0) else (if x4 = true then (if bt440.2 = true then (if bt440.1 ≥ x3 then (some 328) else (some 0)) else (some 0)) else (some 0)))) else (none))
end
def stowageref21_ask.f (k : Nat) (l0 : List (S41)) (a1 : ByteArray) (a2 : ByteArray) (a3 : Int) (a4 : Bool) : Option (Int) := if a1.size + 8 ≤ 9223372036854775807 then ((stowageref21_list.f k l0 (a1 ++ (⟨#[105, 102, 45, 109, 97, 116, 99, 104]⟩ : ByteArray))).bind fun bt424 => (if a1.size + 13 ≤ 9223372036854775807 then ((stowageref21_list.f k l0 (a1 ++ (⟨#[105, 102, 45, 110, 111, 110, 101, 45, 109, 97, 116, 99, 104]⟩ : ByteArray))).bind fun bt430 => (if bt424.2.2 = true then ((stowageref21_List_has.f k bt424.1 bt424.2.1 bt424.2.2 a2).bind fun t436 => (stowageref21_ask.j0 k l0 a1 a2 a3 a4 (!t436) bt424.1 bt424.2.1 bt424.2.2 bt430.1 bt430.2.1 bt430.2.2)) else (stowageref21_ask.j0 k l0 a1 a2 a3 a4 false bt424.1 bt424.2.1 bt424.2.2 bt430.1 bt430.2.1 bt430.2.2))) else (none))) else (none)
theorem stowageref21_ask.mono_l : ∀ k, (∀ y0 y1 y2 y3 y4 y5 y6 y7 y8 y9 y10 y11, LeO (stowageref21_ask.j0 k y0 y1 y2 y3 y4 y5 y6 y7 y8 y9 y10 y11) (stowageref21_ask.j0 (k + 1) y0 y1 y2 y3 y4 y5 y6 y7 y8 y9 y10 y11)) ∧ (∀ y0 y1 y2 y3 y4 y5 y6 y7 y8, LeO (stowageref21_ask.j1 k y0 y1 y2 y3 y4 y5 y6 y7 y8) (stowageref21_ask.j1 (k + 1) y0 y1 y2 y3 y4 y5 y6 y7 y8)) ∧ (∀ y0 y1 y2 y3 y4 y5 y6 y7, LeO (stowageref21_ask.j2 k y0 y1 y2 y3 y4 y5 y6 y7) (stowageref21_ask.j2 (k + 1) y0 y1 y2 y3 y4 y5 y6 y7))
 | 0 => ⟨fun _ _ _ _ _ _ _ _ _ _ _ _ r h => by simp [stowageref21_ask.j0] at h, fun _ _ _ _ _ _ _ _ _ r h => by simp [stowageref21_ask.j1] at h, fun _ _ _ _ _ _ _ _ r h => by simp [stowageref21_ask.j2] at h⟩
 | k + 1 => by
  obtain ⟨ih0, ih1, ih2⟩ := stowageref21_ask.mono_l k
  refine ⟨?_, ?_, ?_⟩
  ·intro y0 y1 y2 y3 y4 y5 y6 y7 y8 y9 y10 y11
   unfold stowageref21_ask.j0
   repeat' first
   | (with_reducible exact ih0 _ _ _ _ _ _ _ _ _ _ _ _)
   | (with_reducible exact ih1 _ _ _ _ _ _ _ _ _)
   | (with_reducible exact ih2 _ _ _ _ _ _ _ _)
   | (with_reducible exact stowageref21_List_has.mono _ _ _ _ _)
   | (with_reducible exact stowageref21_date.mono _ _ _)
   | (with_reducible exact stowageref21_list.mono _ _ _)
   | (with_reducible exact LeO.refl _)
   | (with_reducible exact LeO.none _)
   | (with_reducible refine LeO.ite ?_ ?_)
   | (with_reducible refine LeO.bind ?_ (fun _ => ?_))
   | exact ih0 _ _ _ _ _ _ _ _ _ _ _ _
   | exact ih1 _ _ _ _ _ _ _ _ _
   | exact ih2 _ _ _ _ _ _ _ _
   | exact stowageref21_List_has.mono _ _ _ _ _
   | exact stowageref21_date.mono _ _ _
   | exact stowageref21_list.mono _ _ _
   | exact LeO.none _
   | refine LeO.ite ?_ ?_
   | refine LeO.bind ?_ (fun _ => ?_)
  ·intro y0 y1 y2 y3 y4 y5 y6 y7 y8
   unfold stowageref21_ask.j1
   repeat' first
   | (with_reducible exact ih0 _ _ _ _ _ _ _ _ _ _ _ _)
   | (with_reducible exact ih1 _ _ _ _ _ _ _ _ _)
   | (with_reducible exact ih2 _ _ _ _ _ _ _ _)
   | (with_reducible exact stowageref21_List_has.mono _ _ _ _ _)
   | (with_reducible exact stowageref21_date.mono _ _ _)
   | (with_reducible exact stowageref21_list.mono _ _ _)
   | (with_reducible exact LeO.refl _)
   | (with_reducible exact LeO.none _)
   | (with_reducible refine LeO.ite ?_ ?_)
   | (with_reducible refine LeO.bind ?_ (fun _ => ?_))
   | exact ih0 _ _ _ _ _ _ _ _ _ _ _ _
   | exact ih1 _ _ _ _ _ _ _ _ _
   | exact ih2 _ _ _ _ _ _ _ _
   | exact stowageref21_List_has.mono _ _ _ _ _
   | exact stowageref21_date.mono _ _ _
   | exact stowageref21_list.mono _ _ _
   | exact LeO.none _
   | refine LeO.ite ?_ ?_
   | refine LeO.bind ?_ (fun _ => ?_)
  ·intro y0 y1 y2 y3 y4 y5 y6 y7
   unfold stowageref21_ask.j2
   repeat' first
   | (with_reducible exact ih0 _ _ _ _ _ _ _ _ _ _ _ _)
   | (with_reducible exact ih1 _ _ _ _ _ _ _ _ _)
   | (with_reducible exact ih2 _ _ _ _ _ _ _ _)
   | (with_reducible exact stowageref21_List_has.mono _ _ _ _ _)
   | (with_reducible exact stowageref21_date.mono _ _ _)
   | (with_reducible exact stowageref21_list.mono _ _ _)
   | (with_reducible exact LeO.refl _)
   | (with_reducible exact LeO.none _)
   | (with_reducible refine LeO.ite ?_ ?_)
   | (with_reducible refine LeO.bind ?_ (fun _ => ?_))
   | exact ih0 _ _ _ _ _ _ _ _ _ _ _ _
   | exact ih1 _ _ _ _ _ _ _ _ _
   | exact ih2 _ _ _ _ _ _ _ _
   | exact stowageref21_List_has.mono _ _ _ _ _
   | exact stowageref21_date.mono _ _ _
   | exact stowageref21_list.mono _ _ _
   | exact LeO.none _
   | refine LeO.ite ?_ ?_
   | refine LeO.bind ?_ (fun _ => ?_)
theorem stowageref21_ask.mono : ∀ a0 a1 a2 a3 a4 k, LeO (stowageref21_ask.f k a0 a1 a2 a3 a4) (stowageref21_ask.f (k + 1) a0 a1 a2 a3 a4) := by
 intro a0 a1 a2 a3 a4 k
 obtain ⟨ih0, ih1, ih2⟩ := stowageref21_ask.mono_l k
 unfold stowageref21_ask.f
 repeat' first
   | (with_reducible exact ih0 _ _ _ _ _ _ _ _ _ _ _ _)
   | (with_reducible exact ih1 _ _ _ _ _ _ _ _ _)
   | (with_reducible exact ih2 _ _ _ _ _ _ _ _)
   | (with_reducible exact stowageref21_List_has.mono _ _ _ _ _)
   | (with_reducible exact stowageref21_date.mono _ _ _)
   | (with_reducible exact stowageref21_list.mono _ _ _)
   | (with_reducible exact LeO.refl _)
   | (with_reducible exact LeO.none _)
   | (with_reducible refine LeO.ite ?_ ?_)
   | (with_reducible refine LeO.bind ?_ (fun _ => ?_))
   | exact ih0 _ _ _ _ _ _ _ _ _ _ _ _
   | exact ih1 _ _ _ _ _ _ _ _ _
   | exact ih2 _ _ _ _ _ _ _ _
   | exact stowageref21_List_has.mono _ _ _ _ _
   | exact stowageref21_date.mono _ _ _
   | exact stowageref21_list.mono _ _ _
   | exact LeO.none _
   | refine LeO.ite ?_ ?_
   | refine LeO.bind ?_ (fun _ => ?_)
set_option maxHeartbeats 8000000 in
set_option maxRecDepth 100000 in
theorem stowageref21_ask.calls (k : Nat) (A0 : Option Addr) (c0 : Nat) (l0 : List (S41)) (a1 : ByteArray) (a2 : ByteArray) (a3 : Int) (a4 : Bool) (r : Int) (w : World) (hr0 : Kd.C k41 w A0 l0.length l0) (hc0 : l0.length ≤ c0) (h : stowageref21_ask.f k l0 a1 a2 a3 a4 = some r) :
  Calls Try.prog 44 #[.slice A0 l0.length c0, .string a1, .string a2, .int .i64 a3, .bool a4] w fun e w' => e = .returned (.int .i64 r) ∧ Below w.heap.size w w' := by
 have hu26 := Try.underlying26
 have HR0 := Aside0.mk hr0
 have HC0 := Aside0.mk hc0
 clear hr0 hc0
 have HB := Aside0.mk (Below.refl w.heap.size w)
 unfold stowageref21_ask.f at h
 have H := h
 clear h
 replace H := itO H
 rcases H with ⟨c6, H⟩ | ⟨c6, H⟩
 ·skip
  have c6b0 := eq_true c6
  have c6b1 := decide_eq_true c6
  try have c6b2 := eq_false (Nat.not_lt.2 c6)
  try (have c6n : a1.size + 8 ≤ 9223372036854775807 := by have h_ := c6; simp only [ByteArray.size_append, ByteArray.size_extract] at h_; exact h_)
  try have c6f : (9223372036854775807 < a1.size + 8) = False := eq_false (by first | omega | (simp only [eq_iff_iff, iff_true] at *; omega))
  replace H := bndO H
  obtain ⟨⟨t424, t427, t428⟩, A70, H⟩ := H
  dsimp only at H
  have A7 := Aside0.mk A70
  clear A70
  replace H := itO H
  rcases H with ⟨c8, H⟩ | ⟨c8, H⟩
  ·skip
   have c8b0 := eq_true c8
   have c8b1 := decide_eq_true c8
   try have c8b2 := eq_false (Nat.not_lt.2 c8)
   try (have c8n : a1.size + 13 ≤ 9223372036854775807 := by have h_ := c8; simp only [ByteArray.size_append, ByteArray.size_extract] at h_; exact h_)
   try have c8f : (9223372036854775807 < a1.size + 13) = False := eq_false (by first | omega | (simp only [eq_iff_iff, iff_true] at *; omega))
   replace H := bndO H
   obtain ⟨⟨t430, t433, t434⟩, A90, H⟩ := H
   dsimp only at H
   have A9 := Aside0.mk A90
   clear A90
   have HC10 := Aside0.mk H
   clear H
   go_enter Try.func44, Try.ntmps44
   go_upto_region 3 with (first | ((with_reducible refine gate_callee (f := 59) rfl ?_); refine goesL_ (some 20) rfl rfl Try.func59 (by kernel_rfl) rfl #[.slice A0 l0.length c0, .string (a1 ++ (⟨#[105, 102, 45, 109, 97, 116, 99, 104]⟩ : ByteArray))] rfl (by (try simp only [List.map_toArray, List.map_cons, List.map_nil]); first | done | rfl | (simp only [List.length_drop, List.length_take]; rfl)) ?_; (with_reducible refine (stowageref21_list.calls k _ _ l0 (a1 ++ (⟨#[105, 102, 45, 109, 97, 116, 99, 104]⟩ : ByteArray)) t424 t427 t428 _ ?side1 ?side2 A7.out).mono ?_); (case side1 => repeat (first | exact HR0.out | (with_reducible refine Kd.C_alloc ?_ _) | (with_reducible refine Kd.C_drewN ?_ _) | (with_reducible refine Kd.C_drew ?_))); (case side2 => exact HC0.out); rintro e w11 ⟨v425, rfl, ho0, hb⟩; refine ⟨_, rfl, ?_⟩; have n0_ := Aside0.mk (Kd.R_lower ho0 (below_size (by repeat (first | (with_reducible first | exact HB.out | apply below_alloc | apply pw_below_drewN | apply below_drew1) | exact HB.out)))); have n1_ := Aside0.mk (below_step (by repeat (first | (with_reducible first | exact HB.out | apply below_alloc | apply pw_below_drewN | apply below_drew1) | exact HB.out)) hb); clear HB; have HO426 := n0_; have HB := n1_; clear n0_ n1_; (try clear hb); (try clear hb2); (try clear hk); (try clear hi); (try clear ho0)) | ((with_reducible refine gate_dst (N := 11) rfl ?_); refine box_event ?hg (N := 11) ?hd (cs := #[.slice none 0 0, .bool false, .bool false]) (t := 26) ?hr ?_; (case hd => rfl); (case hg => rfl); (case hr => first | (go_simp; done) | (go_simp; rfl)); intro gb429 hg w12 hbox hb; have n0_ := Aside0.mk (Kd.R_below (by (with_reducible repeat (first | apply Kd.R_alloc | apply Kd.R_drewN | apply Kd.R_drew)); exact HO426.out) hb); have n1_ := Aside0.mk (below_step (by repeat (first | (with_reducible first | exact HB.out | apply below_alloc | apply pw_below_drewN | apply below_drew1) | exact HB.out)) hb); have n2_ := Aside0.mk (hbox); have n3_ := Aside0.mk ((by rw [hg]; exact (below_size (by repeat (first | (with_reducible first | exact HB.out | apply below_alloc | apply pw_below_drewN | apply below_drew1) | exact HB.out))) : w.heap.size ≤ gb429)); have n4_ := Aside0.mk ((by rw [hg]; exact (below_size (by repeat (first | (with_reducible first | exact HB.out | apply below_alloc | apply pw_below_drewN | apply below_drew1) | exact HB.out))) : w.heap.size ≤ gb429)); clear HO426; clear HB; have HO426 := n0_; have HB := n1_; have BK429 := n2_; have GW429 := n3_; have GE429 := n4_; clear n0_ n1_ n2_ n3_ n4_; clear hb hbox hg; obtain ⟨Ao13, co13, eo13⟩ := Kd.R_slice HO426.out; subst eo13; have hcz14_0 : w12.cell? ⟨gb429, 0, none⟩ = some (.slice none 0 0) := (blk_cell BK429.out 0).trans rfl; have hcz14_1 : w12.cell? ⟨gb429, 1, none⟩ = some (.bool false) := (blk_cell BK429.out 1).trans rfl; have hcz14_2 : w12.cell? ⟨gb429, 2, none⟩ = some (.bool false) := (blk_cell BK429.out 2).trans rfl; have hfz14_0 := blk_frozen BK429.out 0; have hfz14_1 := blk_frozen BK429.out 1; have hfz14_2 := blk_frozen BK429.out 2) | ((with_reducible refine gate_callee (f := 59) rfl ?_); refine goesL_ (some 24) rfl rfl Try.func59 (by kernel_rfl) rfl #[.slice A0 l0.length c0, .string (a1 ++ (⟨#[105, 102, 45, 110, 111, 110, 101, 45, 109, 97, 116, 99, 104]⟩ : ByteArray))] rfl (by (try simp only [List.map_toArray, List.map_cons, List.map_nil]); first | done | rfl | (simp only [List.length_drop, List.length_take]; rfl)) ?_; (with_reducible refine (stowageref21_list.calls k _ _ l0 (a1 ++ (⟨#[105, 102, 45, 110, 111, 110, 101, 45, 109, 97, 116, 99, 104]⟩ : ByteArray)) t430 t433 t434 _ ?side1 ?side2 A9.out).mono ?_); (case side1 => exact Kd.C_below HR0.out (by repeat (first | (with_reducible first | exact HB.out | apply below_alloc | apply pw_below_drewN | apply below_drew1 | refine below_set ?_ GE429.out) | exact HB.out))); (case side2 => exact HC0.out); rintro e w15 ⟨v431, rfl, ho0, hb⟩; refine ⟨_, rfl, ?_⟩; have n0_ := Aside0.mk (Kd.R_elder' (by (with_reducible repeat (first | apply Kd.R_alloc | apply Kd.R_drewN | apply Kd.R_drew)); exact (Kd.R_mono (Kd.R_far (p := ⟨gb429, 2, none⟩) (Kd.R_far (p := ⟨gb429, 1, none⟩) (Kd.R_far (p := ⟨gb429, 0, none⟩) (Kd.R_types HO426.out BK429.out (by decide)) (fun _ hk => hk.2) (.slice Ao13 t424.length co13)) (fun _ hk => hk.2) (.bool t427)) (fun _ hk => hk.2) (.bool t428)) (fun _ h_ => h_.1))) (by first | exact Kd.R_base ho0 | exact Kd.R_base ho0) hb); have n1_ := Aside0.mk (Kd.R_lower (Kd.R_new' ho0 (Kd.R_lt (by (with_reducible repeat (first | apply Kd.R_alloc | apply Kd.R_drewN | apply Kd.R_drew)); exact (Kd.R_mono (Kd.R_far (p := ⟨gb429, 2, none⟩) (Kd.R_far (p := ⟨gb429, 1, none⟩) (Kd.R_far (p := ⟨gb429, 0, none⟩) (Kd.R_types HO426.out BK429.out (by decide)) (fun _ hk => hk.2) (.slice Ao13 t424.length co13)) (fun _ hk => hk.2) (.bool t427)) (fun _ hk => hk.2) (.bool t428)) (fun _ h_ => h_.1))))) (below_size (by repeat (first | (with_reducible first | exact HB.out | apply below_alloc | apply pw_below_drewN | apply below_drew1 | refine below_set ?_ GE429.out) | exact HB.out)))); have n2_ := Aside0.mk (blk_below (g := gb429) (o := .cells #[.slice Ao13 t424.length co13, .bool t427, .bool t428] 26 (0, 0)) (by (with_reducible repeat (first | refine blk_drewN ?_ _ | refine blk_drew ?_ | refine blk_alloc ?_ _)); refine blk_put (cs := #[.slice Ao13 t424.length co13, .bool t427, .bool false]) ?_ 2 _ rfl; (with_reducible repeat (first | refine blk_drewN ?_ _ | refine blk_drew ?_ | refine blk_alloc ?_ _)); refine blk_put (cs := #[.slice Ao13 t424.length co13, .bool false, .bool false]) ?_ 1 _ rfl; (with_reducible repeat (first | refine blk_drewN ?_ _ | refine blk_drew ?_ | refine blk_alloc ?_ _)); refine blk_put (cs := #[.slice none 0 0, .bool false, .bool false]) ?_ 0 _ rfl; (with_reducible repeat (first | refine blk_drewN ?_ _ | refine blk_drew ?_ | refine blk_alloc ?_ _)); exact BK429.out) hb); have n3_ := Aside0.mk (below_step (by repeat (first | (with_reducible first | exact HB.out | apply below_alloc | apply pw_below_drewN | apply below_drew1 | refine below_set ?_ GE429.out) | exact HB.out)) hb); clear HO426; clear BK429; clear HB; have HO426 := n0_; have HO432 := n1_; have BK429 := n2_; have HB := n3_; clear n0_ n1_ n2_ n3_; (try clear hb); (try clear hb2); (try clear hk); (try clear hi); (try clear ho0)) | ((with_reducible refine gate_dst (N := 12) rfl ?_); refine box_event ?hg (N := 12) ?hd (cs := #[.slice none 0 0, .bool false, .bool false]) (t := 26) ?hr ?_; (case hd => rfl); (case hg => rfl); (case hr => first | (go_simp; done) | (go_simp; rfl)); intro gb435 hg w16 hbox hb; have n0_ := Aside0.mk (Kd.R_below (by (with_reducible repeat (first | apply Kd.R_alloc | apply Kd.R_drewN | apply Kd.R_drew)); exact HO426.out) hb); have n1_ := Aside0.mk (Kd.R_below (by (with_reducible repeat (first | apply Kd.R_alloc | apply Kd.R_drewN | apply Kd.R_drew)); exact HO432.out) hb); have n2_ := Aside0.mk (blk_below (g := gb429) (o := .cells #[.slice Ao13 t424.length co13, .bool t427, .bool t428] 26 (0, 0)) (by (with_reducible repeat (first | refine blk_drewN ?_ _ | refine blk_drew ?_ | refine blk_alloc ?_ _)); exact BK429.out) hb); have n3_ := Aside0.mk (below_step (by repeat (first | (with_reducible first | exact HB.out | apply below_alloc | apply pw_below_drewN | apply below_drew1 | refine below_set ?_ GE429.out) | exact HB.out)) hb); have n4_ := Aside0.mk (hbox); have n5_ := Aside0.mk ((by rw [hg]; exact (below_size (by repeat (first | (with_reducible first | exact HB.out | apply below_alloc | apply pw_below_drewN | apply below_drew1 | refine below_set ?_ GE429.out) | exact HB.out))) : w.heap.size ≤ gb435)); have n6_ := Aside0.mk ((by rw [hg]; exact (below_size (by repeat (first | (with_reducible first | exact HB.out | apply below_alloc | apply pw_below_drewN | apply below_drew1 | refine below_set ?_ GE429.out) | exact HB.out))) : w.heap.size ≤ gb435)); have n7_ := Aside0.mk ((by rw [hg]; exact Nat.ne_of_lt (blk_lt (g := gb429) (o := .cells #[.slice Ao13 t424.length co13, .bool t427, .bool t428] 26 (0, 0)) (by (with_reducible repeat (first | refine blk_drewN ?_ _ | refine blk_drew ?_ | refine blk_alloc ?_ _)); exact BK429.out)) : gb429 ≠ gb435)); have n8_ := Aside0.mk ((by rw [hg]; exact Nat.ne_of_gt (blk_lt (g := gb429) (o := .cells #[.slice Ao13 t424.length co13, .bool t427, .bool t428] 26 (0, 0)) (by (with_reducible repeat (first | refine blk_drewN ?_ _ | refine blk_drew ?_ | refine blk_alloc ?_ _)); exact BK429.out)) : gb435 ≠ gb429)); clear HO426; clear HO432; clear BK429; clear HB; have HO426 := n0_; have HO432 := n1_; have BK429 := n2_; have HB := n3_; have BK435 := n4_; have GW435 := n5_; have GE435 := n6_; have NB429_435 := n7_; have NB435_429 := n8_; clear n0_ n1_ n2_ n3_ n4_ n5_ n6_ n7_ n8_; clear hb hbox hg; obtain ⟨Ao17, co17, eo17⟩ := Kd.R_slice HO432.out; subst eo17; have hnb18 := NB435_429.out; have hnc18 := NB429_435.out; have hcz19_0 : w16.cell? ⟨gb435, 0, none⟩ = some (.slice none 0 0) := (blk_cell BK435.out 0).trans rfl; have hcz19_1 : w16.cell? ⟨gb435, 1, none⟩ = some (.bool false) := (blk_cell BK435.out 1).trans rfl; have hcz19_2 : w16.cell? ⟨gb435, 2, none⟩ = some (.bool false) := (blk_cell BK435.out 2).trans rfl; have hfz19_0 := blk_frozen BK435.out 0; have hfz19_1 := blk_frozen BK435.out 1; have hfz19_2 := blk_frozen BK435.out 2))
   (try simp only [Act.put, List.setIfInBounds_toArray, List.set_cons_zero, List.set_cons_succ])
   go_cut [32] (fun v32 wc => ∃ (kq : Nat) (x32_9 : Bool), v32 = .bool x32_9 ∧ Aside0 (stowageref21_ask.j0 kq l0 a1 a2 a3 a4 x32_9 t424 t427 t428 t430 t433 t434 = some r) ∧ Aside0 (kq ≤ k) ∧ Aside0 (Kd.R Kd.string 9 wc w.heap.size (fun k_ => some k_ ≠ ((.slice Ao17 t430.length co17) : Value).ownBlock) (.slice Ao13 t424.length co13) t424) ∧ Aside0 (Kd.R Kd.string 9 wc w.heap.size (fun k_ => some k_ ≠ ((.slice Ao13 t424.length co13) : Value).ownBlock) (.slice Ao17 t430.length co17) t430) ∧ Aside0 (wc.heap[gb429]? = some (.cells #[(.slice Ao13 t424.length co13), .bool t427, .bool t428] 26 (0, 0))) ∧ Aside0 (wc.heap[gb435]? = some (.cells #[(.slice Ao17 t430.length co17), .bool t433, .bool t434] 26 (0, 0))) ∧ Aside0 (Below w.heap.size w wc))
   case first =>
    have H := HC10.out
    clear HC10
    by_cases c20 : t428 = true
    ·subst c20
     replace H := itT H
     replace H := bndO H
     obtain ⟨t436, A210, H⟩ := H
     have A21 := Aside0.mk A210
     clear A210
     have H' := Aside0.mk H
     clear H
     have hnb22 := NB429_435.out
     have hnc22 := NB435_429.out
     have hcz23_0 : w16.cell? ⟨gb429, 0, none⟩ = some (.slice Ao13 t424.length co13) := (blk_cell BK429.out 0).trans rfl
     have hcz23_1 : w16.cell? ⟨gb429, 1, none⟩ = some (.bool t427) := (blk_cell BK429.out 1).trans rfl
     have hcz23_2 : w16.cell? ⟨gb429, 2, none⟩ = some (.bool true) := (blk_cell BK429.out 2).trans rfl
     have hfz23_0 := blk_frozen BK429.out 0
     have hfz23_1 := blk_frozen BK429.out 1
     have hfz23_2 := blk_frozen BK429.out 2
     go_wp2_with (first | (go_at_call 60; (with_reducible refine (stowageref21_List_has.calls k _ _ t424 t427 true a2 t436 _ ?side1 ?side2 A21.out).mono ?_); (case side1 => refine (Kd.R_reads' (e := 9) (base := w.heap.size) (ok := fun k_ => (True ∧ some k_ ≠ (.slice Ao17 t430.length co17 : Value).ownBlock)) (n := t424.length) (c := co13) ?_).2.2; exact (by (with_reducible repeat (first | apply Kd.R_alloc | apply Kd.R_drewN | apply Kd.R_drew)); exact (Kd.R_mono (Kd.R_far (p := ⟨gb435, 2, none⟩) (Kd.R_far (p := ⟨gb435, 1, none⟩) (Kd.R_far (p := ⟨gb435, 0, none⟩) (Kd.R_types HO426.out BK435.out (by decide)) (fun _ hk => hk.2) (.slice Ao17 t430.length co17)) (fun _ hk => hk.2) (.bool t433)) (fun _ hk => hk.2) (.bool t434)) (fun _ h_ => h_.1)))); (case side2 => exact (Kd.R_reads' HO426.out).2.1); rintro e w24 ⟨rfl, hb⟩; have n0_ := Aside0.mk (Kd.R_below (by (with_reducible repeat (first | apply Kd.R_alloc | apply Kd.R_drewN | apply Kd.R_drew)); exact (Kd.R_mono (Kd.R_far (p := ⟨gb435, 2, none⟩) (Kd.R_far (p := ⟨gb435, 1, none⟩) (Kd.R_far (p := ⟨gb435, 0, none⟩) (Kd.R_types HO426.out BK435.out (by decide)) (fun _ hk => hk.2) (.slice Ao17 t430.length co17)) (fun _ hk => hk.2) (.bool t433)) (fun _ hk => hk.2) (.bool t434)) (fun _ h_ => h_.1))) hb); have n1_ := Aside0.mk (Kd.R_below (by (with_reducible repeat (first | apply Kd.R_alloc | apply Kd.R_drewN | apply Kd.R_drew)); exact (Kd.R_mono (Kd.R_far (p := ⟨gb435, 2, none⟩) (Kd.R_far (p := ⟨gb435, 1, none⟩) (Kd.R_far (p := ⟨gb435, 0, none⟩) (Kd.R_types HO432.out BK435.out (by decide)) (fun _ hk => hk.2) (.slice Ao17 t430.length co17)) (fun _ hk => hk.2) (.bool t433)) (fun _ hk => hk.2) (.bool t434)) (fun _ h_ => h_.1))) hb); have n2_ := Aside0.mk (blk_below (g := gb429) (o := .cells #[.slice Ao13 t424.length co13, .bool t427, .bool true] 26 (0, 0)) (by (with_reducible repeat (first | refine blk_drewN ?_ _ | refine blk_drew ?_ | refine blk_alloc ?_ _)); refine blk_far ?_ NB429_435.out _; (with_reducible repeat (first | refine blk_drewN ?_ _ | refine blk_drew ?_ | refine blk_alloc ?_ _)); refine blk_far ?_ NB429_435.out _; (with_reducible repeat (first | refine blk_drewN ?_ _ | refine blk_drew ?_ | refine blk_alloc ?_ _)); refine blk_far ?_ NB429_435.out _; (with_reducible repeat (first | refine blk_drewN ?_ _ | refine blk_drew ?_ | refine blk_alloc ?_ _)); exact BK429.out) hb); have n3_ := Aside0.mk (blk_below (g := gb435) (o := .cells #[.slice Ao17 t430.length co17, .bool t433, .bool t434] 26 (0, 0)) (by (with_reducible repeat (first | refine blk_drewN ?_ _ | refine blk_drew ?_ | refine blk_alloc ?_ _)); refine blk_put (cs := #[.slice Ao17 t430.length co17, .bool t433, .bool false]) ?_ 2 _ rfl; (with_reducible repeat (first | refine blk_drewN ?_ _ | refine blk_drew ?_ | refine blk_alloc ?_ _)); refine blk_put (cs := #[.slice Ao17 t430.length co17, .bool false, .bool false]) ?_ 1 _ rfl; (with_reducible repeat (first | refine blk_drewN ?_ _ | refine blk_drew ?_ | refine blk_alloc ?_ _)); refine blk_put (cs := #[.slice none 0 0, .bool false, .bool false]) ?_ 0 _ rfl; (with_reducible repeat (first | refine blk_drewN ?_ _ | refine blk_drew ?_ | refine blk_alloc ?_ _)); exact BK435.out) hb); have n4_ := Aside0.mk (below_step (by repeat (first | (with_reducible first | exact HB.out | apply below_alloc | apply pw_below_drewN | apply below_drew1 | refine below_set ?_ GE429.out | refine below_set ?_ GE435.out) | exact HB.out)) hb); clear HO426; clear HO432; clear BK429; clear BK435; clear HB; have HO426 := n0_; have HO432 := n1_; have BK429 := n2_; have BK435 := n3_; have HB := n4_; clear n0_ n1_ n2_ n3_ n4_; (try clear hb); (try clear hb2); (try clear hk); (try clear hi)))
     go_meet
     case rel => exact ⟨_, (!t436), (by first | rfl | (simp; done) | (simp [*]; done)), H', ⟨by first | omega | exact Nat.le_refl _⟩, ⟨by (with_reducible repeat (first | apply Kd.R_alloc | apply Kd.R_drewN | apply Kd.R_drew)); exact Kd.R_mono HO426.out (fun _ hk => hk.2)⟩, ⟨by (with_reducible repeat (first | apply Kd.R_alloc | apply Kd.R_drewN | apply Kd.R_drew)); exact Kd.R_mono HO432.out (fun _ hk => hk.2)⟩, ⟨by (with_reducible repeat (first | refine blk_drewN ?_ _ | refine blk_drew ?_ | refine blk_alloc ?_ _)); exact BK429.out⟩, ⟨by (with_reducible repeat (first | refine blk_drewN ?_ _ | refine blk_drew ?_ | refine blk_alloc ?_ _)); exact BK435.out⟩, ⟨by repeat (first | (with_reducible first | exact HB.out | apply below_alloc | apply pw_below_drewN | apply below_drew1 | refine below_set ?_ GE429.out | refine below_set ?_ GE435.out) | exact HB.out)⟩⟩
    ·replace c20 := Bool.eq_false_iff.mpr c20
     subst c20
     replace H := itF H
     have H' := Aside0.mk H
     clear H
     have hnb25 := NB429_435.out
     have hnc25 := NB435_429.out
     have hcz26_0 : w16.cell? ⟨gb429, 0, none⟩ = some (.slice Ao13 t424.length co13) := (blk_cell BK429.out 0).trans rfl
     have hcz26_1 : w16.cell? ⟨gb429, 1, none⟩ = some (.bool t427) := (blk_cell BK429.out 1).trans rfl
     have hcz26_2 : w16.cell? ⟨gb429, 2, none⟩ = some (.bool false) := (blk_cell BK429.out 2).trans rfl
     have hfz26_0 := blk_frozen BK429.out 0
     have hfz26_1 := blk_frozen BK429.out 1
     have hfz26_2 := blk_frozen BK429.out 2
     go_wp2
     go_meet
     case rel => exact ⟨_, (false), (by first | rfl | (simp; done) | (simp [*]; done)), H', ⟨by first | omega | exact Nat.le_refl _⟩, ⟨by (with_reducible repeat (first | apply Kd.R_alloc | apply Kd.R_drewN | apply Kd.R_drew)); exact Kd.R_mono (Kd.R_far (p := ⟨gb435, 2, none⟩) (Kd.R_far (p := ⟨gb435, 1, none⟩) (Kd.R_far (p := ⟨gb435, 0, none⟩) (Kd.R_types HO426.out BK435.out (by decide)) (fun _ hk => hk.2) (.slice Ao17 t430.length co17)) (fun _ hk => hk.2) (.bool t433)) (fun _ hk => hk.2) (.bool t434)) (fun _ hk => hk.1.2)⟩, ⟨by (with_reducible repeat (first | apply Kd.R_alloc | apply Kd.R_drewN | apply Kd.R_drew)); exact Kd.R_mono (Kd.R_far (p := ⟨gb435, 2, none⟩) (Kd.R_far (p := ⟨gb435, 1, none⟩) (Kd.R_far (p := ⟨gb435, 0, none⟩) (Kd.R_types HO432.out BK435.out (by decide)) (fun _ hk => hk.2) (.slice Ao17 t430.length co17)) (fun _ hk => hk.2) (.bool t433)) (fun _ hk => hk.2) (.bool t434)) (fun _ hk => hk.1.2)⟩, ⟨by (with_reducible repeat (first | refine blk_drewN ?_ _ | refine blk_drew ?_ | refine blk_alloc ?_ _)); refine blk_far ?_ NB429_435.out _; (with_reducible repeat (first | refine blk_drewN ?_ _ | refine blk_drew ?_ | refine blk_alloc ?_ _)); refine blk_far ?_ NB429_435.out _; (with_reducible repeat (first | refine blk_drewN ?_ _ | refine blk_drew ?_ | refine blk_alloc ?_ _)); refine blk_far ?_ NB429_435.out _; (with_reducible repeat (first | refine blk_drewN ?_ _ | refine blk_drew ?_ | refine blk_alloc ?_ _)); exact BK429.out⟩, ⟨by (with_reducible repeat (first | refine blk_drewN ?_ _ | refine blk_drew ?_ | refine blk_alloc ?_ _)); refine blk_put (cs := #[.slice Ao17 t430.length co17, .bool t433, .bool false]) ?_ 2 _ rfl; (with_reducible repeat (first | refine blk_drewN ?_ _ | refine blk_drew ?_ | refine blk_alloc ?_ _)); refine blk_put (cs := #[.slice Ao17 t430.length co17, .bool false, .bool false]) ?_ 1 _ rfl; (with_reducible repeat (first | refine blk_drewN ?_ _ | refine blk_drew ?_ | refine blk_alloc ?_ _)); refine blk_put (cs := #[.slice none 0 0, .bool false, .bool false]) ?_ 0 _ rfl; (with_reducible repeat (first | refine blk_drewN ?_ _ | refine blk_drew ?_ | refine blk_alloc ?_ _)); exact BK435.out⟩, ⟨by repeat (first | (with_reducible first | exact HB.out | apply below_alloc | apply pw_below_drewN | apply below_drew1 | refine below_set ?_ GE429.out | refine below_set ?_ GE435.out) | exact HB.out)⟩⟩
   case rest =>
    clear HC10
    try clear c1
    try clear c2
    try clear p2
    try clear c4
    try clear c5
    try clear c6
    try clear c6b0
    try clear c6b1
    try clear c6b2
    try clear c8
    try clear c8b0
    try clear c8b1
    try clear c8b2
    try clear c18
    try clear c20
    try clear c22
    try clear c25
    try clear hcz14_0
    try clear hcz14_1
    try clear hcz14_2
    try clear hcz19_0
    try clear hcz19_1
    try clear hcz19_2
    try clear hcz23_0
    try clear hcz23_1
    try clear hcz23_2
    try clear hcz26_0
    try clear hcz26_1
    try clear hcz26_2
    try clear hfz14_0
    try clear hfz14_1
    try clear hfz14_2
    try clear hfz19_0
    try clear hfz19_1
    try clear hfz19_2
    try clear hfz23_0
    try clear hfz23_1
    try clear hfz23_2
    try clear hfz26_0
    try clear hfz26_1
    try clear hfz26_2
    obtain ⟨kq, x32_9, rfl, HA, HJ9, HO_430000, HO_436000, BK429, BK435, HB⟩ := hcut
    cases kq with
    | zero => exact absurd HA.out (by simp [stowageref21_ask.j0])
    | succ kj9 =>
     have H := HA.out
     clear HA
     simp only [stowageref21_ask.j0] at H
     by_cases c27 : x32_9 = true
     ·subst c27
      replace H := itT H
      obtain rfl := Option.some.inj H
      go_wp2
      go_ret
      exact ⟨by first | rfl | (simp [errW_none, errW_some] <;> rfl) | (simp [*, errW_none, errW_some] <;> rfl), by repeat (first | (with_reducible first | exact HB.out | apply below_alloc | apply pw_below_drewN | apply below_drew1 | refine below_set ?_ GE429.out | refine below_set ?_ GE435.out) | exact HB.out)⟩
     ·replace c27 := Bool.eq_false_iff.mpr c27
      subst c27
      replace H := itF H
      replace H := itO H
      rcases H with ⟨c28, H⟩ | ⟨c28, H⟩
      ·skip
       have c28b0 := eq_true c28
       have c28b1 := decide_eq_true c28
       try have c28b2 := eq_false (Nat.not_lt.2 c28)
       try (have c28n : a1.size + 19 ≤ 9223372036854775807 := by have h_ := c28; simp only [ByteArray.size_append, ByteArray.size_extract] at h_; exact h_)
       try have c28f : (9223372036854775807 < a1.size + 19) = False := eq_false (by first | omega | (simp only [eq_iff_iff, iff_true] at *; omega))
       replace H := bndO H
       obtain ⟨⟨t437, t438⟩, A290, H⟩ := H
       dsimp only at H
       have A29 := Aside0.mk A290
       clear A290
       have HC30 := Aside0.mk H
       clear H
       go_upto_region 6 with (first | ((with_reducible refine gate_callee (f := 61) rfl ?_); refine goesL_ (some 37) rfl rfl Try.func61 (by kernel_rfl) rfl #[.slice A0 l0.length c0, .string (a1 ++ (⟨#[105, 102, 45, 117, 110, 109, 111, 100, 105, 102, 105, 101, 100, 45, 115, 105, 110, 99, 101]⟩ : ByteArray))] rfl (by (try simp only [List.map_toArray, List.map_cons, List.map_nil]); first | done | rfl | (simp only [List.length_drop, List.length_take]; rfl)) ?_; (with_reducible refine (stowageref21_date.calls kj9 _ _ l0 (a1 ++ (⟨#[105, 102, 45, 117, 110, 109, 111, 100, 105, 102, 105, 101, 100, 45, 115, 105, 110, 99, 101]⟩ : ByteArray)) t437 t438 _ ?side1 ?side2 A29.out).mono ?_); (case side1 => repeat (first | exact (Kd.C_below HR0.out HB.out) | (with_reducible refine Kd.C_alloc ?_ _) | (with_reducible refine Kd.C_drewN ?_ _) | (with_reducible refine Kd.C_drew ?_))); (case side2 => exact HC0.out); rintro e w31 ⟨rfl, hb⟩; refine ⟨_, rfl, ?_⟩; have n0_ := Aside0.mk (Kd.R_below (by (with_reducible repeat (first | apply Kd.R_alloc | apply Kd.R_drewN | apply Kd.R_drew)); exact HO_430000.out) hb); have n1_ := Aside0.mk (Kd.R_below (by (with_reducible repeat (first | apply Kd.R_alloc | apply Kd.R_drewN | apply Kd.R_drew)); exact HO_436000.out) hb); have n2_ := Aside0.mk (blk_below (g := gb429) (o := .cells #[.slice Ao13 t424.length co13, .bool t427, .bool t428] 26 (0, 0)) (by (with_reducible repeat (first | refine blk_drewN ?_ _ | refine blk_drew ?_ | refine blk_alloc ?_ _)); exact BK429.out) hb); have n3_ := Aside0.mk (blk_below (g := gb435) (o := .cells #[.slice Ao17 t430.length co17, .bool t433, .bool t434] 26 (0, 0)) (by (with_reducible repeat (first | refine blk_drewN ?_ _ | refine blk_drew ?_ | refine blk_alloc ?_ _)); exact BK435.out) hb); have n4_ := Aside0.mk (below_step (by repeat (first | (with_reducible first | exact HB.out | apply below_alloc | apply pw_below_drewN | apply below_drew1 | refine below_set ?_ GE429.out | refine below_set ?_ GE435.out) | exact HB.out)) hb); clear HO_430000; clear HO_436000; clear BK429; clear BK435; clear HB; have HO_430000 := n0_; have HO_436000 := n1_; have BK429 := n2_; have BK435 := n3_; have HB := n4_; clear n0_ n1_ n2_ n3_ n4_; (try clear hb); (try clear hb2); (try clear hk); (try clear hi)))
       (try simp only [Act.put, List.setIfInBounds_toArray, List.set_cons_zero, List.set_cons_succ])
       go_cut [50] (fun v50 wc => ∃ (kq : Nat) (x50_29 : Bool), v50 = .bool x50_29 ∧ Aside0 (stowageref21_ask.j1 kq l0 a1 a2 a3 a4 x50_29 t430 t433 t434 = some r) ∧ Aside0 (kq ≤ kj9) ∧ Aside0 (Kd.R Kd.string 9 wc w.heap.size (fun k_ => some k_ ≠ ((.slice Ao17 t430.length co17) : Value).ownBlock) (.slice Ao13 t424.length co13) t424) ∧ Aside0 (Kd.R Kd.string 9 wc w.heap.size (fun k_ => some k_ ≠ ((.slice Ao13 t424.length co13) : Value).ownBlock) (.slice Ao17 t430.length co17) t430) ∧ Aside0 (wc.heap[gb429]? = some (.cells #[(.slice Ao13 t424.length co13), .bool t427, .bool t428] 26 (0, 0))) ∧ Aside0 (wc.heap[gb435]? = some (.cells #[(.slice Ao17 t430.length co17), .bool t433, .bool t434] 26 (0, 0))) ∧ Aside0 (Below w.heap.size w wc))
       case first =>
        have H := HC30.out
        clear HC30
        by_cases c32 : t428 = true
        ·subst c32
         replace H := itT H
         have H' := Aside0.mk H
         clear H
         have hnb33 := NB429_435.out
         have hnc33 := NB435_429.out
         have hcz34_0 : w31.cell? ⟨gb429, 0, none⟩ = some (.slice Ao13 t424.length co13) := (blk_cell BK429.out 0).trans rfl
         have hcz34_1 : w31.cell? ⟨gb429, 1, none⟩ = some (.bool t427) := (blk_cell BK429.out 1).trans rfl
         have hcz34_2 : w31.cell? ⟨gb429, 2, none⟩ = some (.bool true) := (blk_cell BK429.out 2).trans rfl
         have hfz34_0 := blk_frozen BK429.out 0
         have hfz34_1 := blk_frozen BK429.out 1
         have hfz34_2 := blk_frozen BK429.out 2
         go_wp2
         go_meet
         case rel => exact ⟨_, (false), (by first | rfl | (simp; done) | (simp [*]; done)), H', ⟨by have := HJ9.out; first | omega | exact Nat.le_refl _⟩, ⟨by (with_reducible repeat (first | apply Kd.R_alloc | apply Kd.R_drewN | apply Kd.R_drew)); exact HO_430000.out⟩, ⟨by (with_reducible repeat (first | apply Kd.R_alloc | apply Kd.R_drewN | apply Kd.R_drew)); exact HO_436000.out⟩, ⟨by (with_reducible repeat (first | refine blk_drewN ?_ _ | refine blk_drew ?_ | refine blk_alloc ?_ _)); exact BK429.out⟩, ⟨by (with_reducible repeat (first | refine blk_drewN ?_ _ | refine blk_drew ?_ | refine blk_alloc ?_ _)); exact BK435.out⟩, ⟨by repeat (first | (with_reducible first | exact HB.out | apply below_alloc | apply pw_below_drewN | apply below_drew1 | refine below_set ?_ GE429.out | refine below_set ?_ GE435.out) | exact HB.out)⟩⟩
        ·replace c32 := Bool.eq_false_iff.mpr c32
         subst c32
         replace H := itF H
         by_cases c35 : t438 = true
         ·subst c35
          replace H := itT H
          have H' := Aside0.mk H
          clear H
          have hnb36 := NB429_435.out
          have hnc36 := NB435_429.out
          have hcz37_0 : w31.cell? ⟨gb429, 0, none⟩ = some (.slice Ao13 t424.length co13) := (blk_cell BK429.out 0).trans rfl
          have hcz37_1 : w31.cell? ⟨gb429, 1, none⟩ = some (.bool t427) := (blk_cell BK429.out 1).trans rfl
          have hcz37_2 : w31.cell? ⟨gb429, 2, none⟩ = some (.bool false) := (blk_cell BK429.out 2).trans rfl
          have hfz37_0 := blk_frozen BK429.out 0
          have hfz37_1 := blk_frozen BK429.out 1
          have hfz37_2 := blk_frozen BK429.out 2
          go_wp2
          go_meet
          case rel => exact ⟨_, (decide (t437 < a3)), (by first | rfl | (simp; done) | (simp [*]; done)), H', ⟨by have := HJ9.out; first | omega | exact Nat.le_refl _⟩, ⟨by (with_reducible repeat (first | apply Kd.R_alloc | apply Kd.R_drewN | apply Kd.R_drew)); exact HO_430000.out⟩, ⟨by (with_reducible repeat (first | apply Kd.R_alloc | apply Kd.R_drewN | apply Kd.R_drew)); exact HO_436000.out⟩, ⟨by (with_reducible repeat (first | refine blk_drewN ?_ _ | refine blk_drew ?_ | refine blk_alloc ?_ _)); exact BK429.out⟩, ⟨by (with_reducible repeat (first | refine blk_drewN ?_ _ | refine blk_drew ?_ | refine blk_alloc ?_ _)); exact BK435.out⟩, ⟨by repeat (first | (with_reducible first | exact HB.out | apply below_alloc | apply pw_below_drewN | apply below_drew1 | refine below_set ?_ GE429.out | refine below_set ?_ GE435.out) | exact HB.out)⟩⟩
         ·replace c35 := Bool.eq_false_iff.mpr c35
          subst c35
          replace H := itF H
          have H' := Aside0.mk H
          clear H
          have hnb38 := NB429_435.out
          have hnc38 := NB435_429.out
          have hcz39_0 : w31.cell? ⟨gb429, 0, none⟩ = some (.slice Ao13 t424.length co13) := (blk_cell BK429.out 0).trans rfl
          have hcz39_1 : w31.cell? ⟨gb429, 1, none⟩ = some (.bool t427) := (blk_cell BK429.out 1).trans rfl
          have hcz39_2 : w31.cell? ⟨gb429, 2, none⟩ = some (.bool false) := (blk_cell BK429.out 2).trans rfl
          have hfz39_0 := blk_frozen BK429.out 0
          have hfz39_1 := blk_frozen BK429.out 1
          have hfz39_2 := blk_frozen BK429.out 2
          go_wp2
          go_meet
          case rel => exact ⟨_, (false), (by first | rfl | (simp; done) | (simp [*]; done)), H', ⟨by have := HJ9.out; first | omega | exact Nat.le_refl _⟩, ⟨by (with_reducible repeat (first | apply Kd.R_alloc | apply Kd.R_drewN | apply Kd.R_drew)); exact HO_430000.out⟩, ⟨by (with_reducible repeat (first | apply Kd.R_alloc | apply Kd.R_drewN | apply Kd.R_drew)); exact HO_436000.out⟩, ⟨by (with_reducible repeat (first | refine blk_drewN ?_ _ | refine blk_drew ?_ | refine blk_alloc ?_ _)); exact BK429.out⟩, ⟨by (with_reducible repeat (first | refine blk_drewN ?_ _ | refine blk_drew ?_ | refine blk_alloc ?_ _)); exact BK435.out⟩, ⟨by repeat (first | (with_reducible first | exact HB.out | apply below_alloc | apply pw_below_drewN | apply below_drew1 | refine below_set ?_ GE429.out | refine below_set ?_ GE435.out) | exact HB.out)⟩⟩
       case rest =>
        clear HC30
        try clear c1
        try clear c2
        try clear p2
        try clear c3
        try clear c4
        try clear c5
        try clear c6
        try clear c6b0
        try clear c6b1
        try clear c6b2
        try clear c8
        try clear c8b0
        try clear c8b1
        try clear c8b2
        try clear c18
        try clear c20
        try clear c22
        try clear c25
        try clear c27
        try clear c28
        try clear c28b0
        try clear c28b1
        try clear c28b2
        try clear c32
        try clear c33
        try clear c35
        try clear c36
        try clear c38
        try clear hcz14_0
        try clear hcz14_1
        try clear hcz14_2
        try clear hcz19_0
        try clear hcz19_1
        try clear hcz19_2
        try clear hcz23_0
        try clear hcz23_1
        try clear hcz23_2
        try clear hcz26_0
        try clear hcz26_1
        try clear hcz26_2
        try clear hcz34_0
        try clear hcz34_1
        try clear hcz34_2
        try clear hcz37_0
        try clear hcz37_1
        try clear hcz37_2
        try clear hcz39_0
        try clear hcz39_1
        try clear hcz39_2
        try clear hfz14_0
        try clear hfz14_1
        try clear hfz14_2
        try clear hfz19_0
        try clear hfz19_1
        try clear hfz19_2
        try clear hfz23_0
        try clear hfz23_1
        try clear hfz23_2
        try clear hfz26_0
        try clear hfz26_1
        try clear hfz26_2
        try clear hfz34_0
        try clear hfz34_1
        try clear hfz34_2
        try clear hfz37_0
        try clear hfz37_1
        try clear hfz37_2
        try clear hfz39_0
        try clear hfz39_1
        try clear hfz39_2
        try clear p2
        obtain ⟨kq, x50_29, rfl, HA, HJ29, HO_430000, HO_436000, BK429, BK435, HB⟩ := hcut
        cases kq with
        | zero => exact absurd HA.out (by simp [stowageref21_ask.j1])
        | succ kj29 =>
         have H := HA.out
         clear HA
         simp only [stowageref21_ask.j1] at H
         by_cases c40 : x50_29 = true
         ·subst c40
          replace H := itT H
          obtain rfl := Option.some.inj H
          go_wp2
          go_ret
          exact ⟨by first | rfl | (simp [errW_none, errW_some] <;> rfl) | (simp [*, errW_none, errW_some] <;> rfl), by repeat (first | (with_reducible first | exact HB.out | apply below_alloc | apply pw_below_drewN | apply below_drew1 | refine below_set ?_ GE429.out | refine below_set ?_ GE435.out) | exact HB.out)⟩
         ·replace c40 := Bool.eq_false_iff.mpr c40
          subst c40
          replace H := itF H
          have HC41 := Aside0.mk H
          clear H
          go_upto_region 8 with (fail)
          go_cut [57] (fun v57 wc => ∃ (kq : Nat) (x57_40 : Bool), v57 = .bool x57_40 ∧ Aside0 (stowageref21_ask.j2 kq l0 a1 a3 a4 x57_40 t430 t433 t434 = some r) ∧ Aside0 (kq ≤ kj29) ∧ Aside0 (Kd.R Kd.string 9 wc w.heap.size (fun k_ => some k_ ≠ ((.slice Ao17 t430.length co17) : Value).ownBlock) (.slice Ao13 t424.length co13) t424) ∧ Aside0 (Kd.R Kd.string 9 wc w.heap.size (fun k_ => some k_ ≠ ((.slice Ao13 t424.length co13) : Value).ownBlock) (.slice Ao17 t430.length co17) t430) ∧ Aside0 (wc.heap[gb429]? = some (.cells #[(.slice Ao13 t424.length co13), .bool t427, .bool t428] 26 (0, 0))) ∧ Aside0 (wc.heap[gb435]? = some (.cells #[(.slice Ao17 t430.length co17), .bool t433, .bool t434] 26 (0, 0))) ∧ Aside0 (Below w.heap.size w wc))
          case first =>
           have H := HC41.out
           clear HC41
           by_cases c42 : t434 = true
           ·subst c42
            replace H := itT H
            replace H := bndO H
            obtain ⟨t439, A430, H⟩ := H
            have A43 := Aside0.mk A430
            clear A430
            have H' := Aside0.mk H
            clear H
            have hnb44 := NB435_429.out
            have hnc44 := NB429_435.out
            have hcz45_0 : wc.cell? ⟨gb435, 0, none⟩ = some (.slice Ao17 t430.length co17) := (blk_cell BK435.out 0).trans rfl
            have hcz45_1 : wc.cell? ⟨gb435, 1, none⟩ = some (.bool t433) := (blk_cell BK435.out 1).trans rfl
            have hcz45_2 : wc.cell? ⟨gb435, 2, none⟩ = some (.bool true) := (blk_cell BK435.out 2).trans rfl
            have hfz45_0 := blk_frozen BK435.out 0
            have hfz45_1 := blk_frozen BK435.out 1
            have hfz45_2 := blk_frozen BK435.out 2
            go_wp2_with (first | (go_at_call 60; (with_reducible refine (stowageref21_List_has.calls kj29 _ _ t430 t433 true a2 t439 _ ?side1 ?side2 A43.out).mono ?_); (case side1 => repeat (first | exact (Kd.R_reads' HO_436000.out).2.2 | (with_reducible refine Kd.C_alloc ?_ _) | (with_reducible refine Kd.C_drewN ?_ _) | (with_reducible refine Kd.C_drew ?_))); (case side2 => exact (Kd.R_reads' HO_436000.out).2.1); rintro e w46 ⟨rfl, hb⟩; have n0_ := Aside0.mk (Kd.R_below (by (with_reducible repeat (first | apply Kd.R_alloc | apply Kd.R_drewN | apply Kd.R_drew)); exact HO_430000.out) hb); have n1_ := Aside0.mk (Kd.R_below (by (with_reducible repeat (first | apply Kd.R_alloc | apply Kd.R_drewN | apply Kd.R_drew)); exact HO_436000.out) hb); have n2_ := Aside0.mk (blk_below (g := gb429) (o := .cells #[.slice Ao13 t424.length co13, .bool t427, .bool t428] 26 (0, 0)) (by (with_reducible repeat (first | refine blk_drewN ?_ _ | refine blk_drew ?_ | refine blk_alloc ?_ _)); exact BK429.out) hb); have n3_ := Aside0.mk (blk_below (g := gb435) (o := .cells #[.slice Ao17 t430.length co17, .bool t433, .bool true] 26 (0, 0)) (by (with_reducible repeat (first | refine blk_drewN ?_ _ | refine blk_drew ?_ | refine blk_alloc ?_ _)); exact BK435.out) hb); have n4_ := Aside0.mk (below_step (by repeat (first | (with_reducible first | exact HB.out | apply below_alloc | apply pw_below_drewN | apply below_drew1 | refine below_set ?_ GE429.out | refine below_set ?_ GE435.out) | exact HB.out)) hb); clear HO_430000; clear HO_436000; clear BK429; clear BK435; clear HB; have HO_430000 := n0_; have HO_436000 := n1_; have BK429 := n2_; have BK435 := n3_; have HB := n4_; clear n0_ n1_ n2_ n3_ n4_; (try clear hb); (try clear hb2); (try clear hk); (try clear hi)))
            go_meet
            case rel => exact ⟨_, (t439), (by first | rfl | (simp; done) | (simp [*]; done)), H', ⟨by have := HJ9.out; have := HJ29.out; first | omega | exact Nat.le_refl _⟩, ⟨by (with_reducible repeat (first | apply Kd.R_alloc | apply Kd.R_drewN | apply Kd.R_drew)); exact HO_430000.out⟩, ⟨by (with_reducible repeat (first | apply Kd.R_alloc | apply Kd.R_drewN | apply Kd.R_drew)); exact HO_436000.out⟩, ⟨by (with_reducible repeat (first | refine blk_drewN ?_ _ | refine blk_drew ?_ | refine blk_alloc ?_ _)); exact BK429.out⟩, ⟨by (with_reducible repeat (first | refine blk_drewN ?_ _ | refine blk_drew ?_ | refine blk_alloc ?_ _)); exact BK435.out⟩, ⟨by repeat (first | (with_reducible first | exact HB.out | apply below_alloc | apply pw_below_drewN | apply below_drew1 | refine below_set ?_ GE429.out | refine below_set ?_ GE435.out) | exact HB.out)⟩⟩
           ·replace c42 := Bool.eq_false_iff.mpr c42
            subst c42
            replace H := itF H
            have H' := Aside0.mk H
            clear H
            have hnb47 := NB435_429.out
            have hnc47 := NB429_435.out
            have hcz48_0 : wc.cell? ⟨gb435, 0, none⟩ = some (.slice Ao17 t430.length co17) := (blk_cell BK435.out 0).trans rfl
            have hcz48_1 : wc.cell? ⟨gb435, 1, none⟩ = some (.bool t433) := (blk_cell BK435.out 1).trans rfl
            have hcz48_2 : wc.cell? ⟨gb435, 2, none⟩ = some (.bool false) := (blk_cell BK435.out 2).trans rfl
            have hfz48_0 := blk_frozen BK435.out 0
            have hfz48_1 := blk_frozen BK435.out 1
            have hfz48_2 := blk_frozen BK435.out 2
            go_wp2
            go_meet
            case rel => exact ⟨_, (false), (by first | rfl | (simp; done) | (simp [*]; done)), H', ⟨by have := HJ9.out; have := HJ29.out; first | omega | exact Nat.le_refl _⟩, ⟨by (with_reducible repeat (first | apply Kd.R_alloc | apply Kd.R_drewN | apply Kd.R_drew)); exact HO_430000.out⟩, ⟨by (with_reducible repeat (first | apply Kd.R_alloc | apply Kd.R_drewN | apply Kd.R_drew)); exact HO_436000.out⟩, ⟨by (with_reducible repeat (first | refine blk_drewN ?_ _ | refine blk_drew ?_ | refine blk_alloc ?_ _)); exact BK429.out⟩, ⟨by (with_reducible repeat (first | refine blk_drewN ?_ _ | refine blk_drew ?_ | refine blk_alloc ?_ _)); exact BK435.out⟩, ⟨by repeat (first | (with_reducible first | exact HB.out | apply below_alloc | apply pw_below_drewN | apply below_drew1 | refine below_set ?_ GE429.out | refine below_set ?_ GE435.out) | exact HB.out)⟩⟩
          case rest =>
           clear HC41
           try clear c1
           try clear c2
           try clear p2
           try clear c3
           try clear c4
           try clear c5
           try clear c6
           try clear c6b0
           try clear c6b1
           try clear c6b2
           try clear c8
           try clear c8b0
           try clear c8b1
           try clear c8b2
           try clear c18
           try clear c20
           try clear c22
           try clear c25
           try clear c27
           try clear c28
           try clear c28b0
           try clear c28b1
           try clear c28b2
           try clear c32
           try clear c33
           try clear c35
           try clear c36
           try clear c38
           try clear c40
           try clear c42
           try clear c44
           try clear c47
           try clear hcz14_0
           try clear hcz14_1
           try clear hcz14_2
           try clear hcz19_0
           try clear hcz19_1
           try clear hcz19_2
           try clear hcz23_0
           try clear hcz23_1
           try clear hcz23_2
           try clear hcz26_0
           try clear hcz26_1
           try clear hcz26_2
           try clear hcz34_0
           try clear hcz34_1
           try clear hcz34_2
           try clear hcz37_0
           try clear hcz37_1
           try clear hcz37_2
           try clear hcz39_0
           try clear hcz39_1
           try clear hcz39_2
           try clear hcz45_0
           try clear hcz45_1
           try clear hcz45_2
           try clear hcz48_0
           try clear hcz48_1
           try clear hcz48_2
           try clear hfz14_0
           try clear hfz14_1
           try clear hfz14_2
           try clear hfz19_0
           try clear hfz19_1
           try clear hfz19_2
           try clear hfz23_0
           try clear hfz23_1
           try clear hfz23_2
           try clear hfz26_0
           try clear hfz26_1
           try clear hfz26_2
           try clear hfz34_0
           try clear hfz34_1
           try clear hfz34_2
           try clear hfz37_0
           try clear hfz37_1
           try clear hfz37_2
           try clear hfz39_0
           try clear hfz39_1
           try clear hfz39_2
           try clear hfz45_0
           try clear hfz45_1
           try clear hfz45_2
           try clear hfz48_0
           try clear hfz48_1
           try clear hfz48_2
           try clear p2
           obtain ⟨kq, x57_40, rfl, HA, HJ40, HO_430000, HO_436000, BK429, BK435, HB⟩ := hcut
           cases kq with
           | zero => exact absurd HA.out (by simp [stowageref21_ask.j2])
           | succ kj40 =>
            have H := HA.out
            clear HA
            simp only [stowageref21_ask.j2] at H
            by_cases c49 : x57_40 = true
            ·subst c49
             replace H := itT H
             by_cases c50 : a4 = true
             ·subst c50
              replace H := itT H
              obtain rfl := Option.some.inj H
              go_wp2
              go_ret
              exact ⟨by first | rfl | (simp [errW_none, errW_some] <;> rfl) | (simp [*, errW_none, errW_some] <;> rfl), by repeat (first | (with_reducible first | exact HB.out | apply below_alloc | apply pw_below_drewN | apply below_drew1 | refine below_set ?_ GE429.out | refine below_set ?_ GE435.out) | exact HB.out)⟩
             ·replace c50 := Bool.eq_false_iff.mpr c50
              subst c50
              replace H := itF H
              obtain rfl := Option.some.inj H
              go_wp2
              go_ret
              exact ⟨by first | rfl | (simp [errW_none, errW_some] <;> rfl) | (simp [*, errW_none, errW_some] <;> rfl), by repeat (first | (with_reducible first | exact HB.out | apply below_alloc | apply pw_below_drewN | apply below_drew1 | refine below_set ?_ GE429.out | refine below_set ?_ GE435.out) | exact HB.out)⟩
            ·replace c49 := Bool.eq_false_iff.mpr c49
             subst c49
             replace H := itF H
             replace H := itO H
             rcases H with ⟨c51, H⟩ | ⟨c51, H⟩
             ·skip
              have c51b0 := eq_true c51
              have c51b1 := decide_eq_true c51
              try have c51b2 := eq_false (Nat.not_lt.2 c51)
              try (have c51n : a1.size + 17 ≤ 9223372036854775807 := by have h_ := c51; simp only [ByteArray.size_append, ByteArray.size_extract] at h_; exact h_)
              try have c51f : (9223372036854775807 < a1.size + 17) = False := eq_false (by first | omega | (simp only [eq_iff_iff, iff_true] at *; omega))
              replace H := bndO H
              obtain ⟨⟨t440, t441⟩, A520, H⟩ := H
              dsimp only at H
              have A52 := Aside0.mk A520
              clear A520
              by_cases c53 : t434 = true
              ·subst c53
               replace H := itT H
               obtain rfl := Option.some.inj H
               go_wp2_with (first | ((with_reducible refine gate_callee (f := 61) rfl ?_); refine goesL_ (some 63) rfl rfl Try.func61 (by kernel_rfl) rfl #[.slice A0 l0.length c0, .string (a1 ++ (⟨#[105, 102, 45, 109, 111, 100, 105, 102, 105, 101, 100, 45, 115, 105, 110, 99, 101]⟩ : ByteArray))] rfl (by (try simp only [List.map_toArray, List.map_cons, List.map_nil]); first | done | rfl | (simp only [List.length_drop, List.length_take]; rfl)) ?_; (with_reducible refine (stowageref21_date.calls kj40 _ _ l0 (a1 ++ (⟨#[105, 102, 45, 109, 111, 100, 105, 102, 105, 101, 100, 45, 115, 105, 110, 99, 101]⟩ : ByteArray)) t440 t441 _ ?side1 ?side2 A52.out).mono ?_); (case side1 => repeat (first | exact (Kd.C_below HR0.out HB.out) | (with_reducible refine Kd.C_alloc ?_ _) | (with_reducible refine Kd.C_drewN ?_ _) | (with_reducible refine Kd.C_drew ?_))); (case side2 => exact HC0.out); rintro e w54 ⟨rfl, hb⟩; refine ⟨_, rfl, ?_⟩; have n0_ := Aside0.mk (Kd.R_below (by (with_reducible repeat (first | apply Kd.R_alloc | apply Kd.R_drewN | apply Kd.R_drew)); exact HO_430000.out) hb); have n1_ := Aside0.mk (Kd.R_below (by (with_reducible repeat (first | apply Kd.R_alloc | apply Kd.R_drewN | apply Kd.R_drew)); exact HO_436000.out) hb); have n2_ := Aside0.mk (blk_below (g := gb429) (o := .cells #[.slice Ao13 t424.length co13, .bool t427, .bool t428] 26 (0, 0)) (by (with_reducible repeat (first | refine blk_drewN ?_ _ | refine blk_drew ?_ | refine blk_alloc ?_ _)); exact BK429.out) hb); have n3_ := Aside0.mk (blk_below (g := gb435) (o := .cells #[.slice Ao17 t430.length co17, .bool t433, .bool true] 26 (0, 0)) (by (with_reducible repeat (first | refine blk_drewN ?_ _ | refine blk_drew ?_ | refine blk_alloc ?_ _)); exact BK435.out) hb); have n4_ := Aside0.mk (below_step (by repeat (first | (with_reducible first | exact HB.out | apply below_alloc | apply pw_below_drewN | apply below_drew1 | refine below_set ?_ GE429.out | refine below_set ?_ GE435.out) | exact HB.out)) hb); clear HO_430000; clear HO_436000; clear BK429; clear BK435; clear HB; have HO_430000 := n0_; have HO_436000 := n1_; have BK429 := n2_; have BK435 := n3_; have HB := n4_; clear n0_ n1_ n2_ n3_ n4_; (try clear hb); (try clear hb2); (try clear hk); (try clear hi); have hnb55 := NB435_429.out; have hnc55 := NB429_435.out; have hcz56_0 : w54.cell? ⟨gb435, 0, none⟩ = some (.slice Ao17 t430.length co17) := (blk_cell BK435.out 0).trans rfl; have hcz56_1 : w54.cell? ⟨gb435, 1, none⟩ = some (.bool t433) := (blk_cell BK435.out 1).trans rfl; have hcz56_2 : w54.cell? ⟨gb435, 2, none⟩ = some (.bool true) := (blk_cell BK435.out 2).trans rfl; have hfz56_0 := blk_frozen BK435.out 0; have hfz56_1 := blk_frozen BK435.out 1; have hfz56_2 := blk_frozen BK435.out 2))
               go_ret
               exact ⟨by first | rfl | (simp [errW_none, errW_some] <;> rfl) | (simp [*, errW_none, errW_some] <;> rfl), by repeat (first | (with_reducible first | exact HB.out | apply below_alloc | apply pw_below_drewN | apply below_drew1 | refine below_set ?_ GE429.out | refine below_set ?_ GE435.out) | exact HB.out)⟩
              ·replace c53 := Bool.eq_false_iff.mpr c53
               subst c53
               replace H := itF H
               by_cases c57 : a4 = true
               ·subst c57
                replace H := itT H
                by_cases c58 : t441 = true
                ·subst c58
                 replace H := itT H
                 replace H := itO H
                 rcases H with ⟨c59, H⟩ | ⟨c59, H⟩
                 ·skip
                  have c59b0 : decide (a3 ≤ t440) = true := decide_eq_true c59
                  clear c59
                  obtain rfl := Option.some.inj H
                  go_wp2_with (first | ((with_reducible refine gate_callee (f := 61) rfl ?_); refine goesL_ (some 63) rfl rfl Try.func61 (by kernel_rfl) rfl #[.slice A0 l0.length c0, .string (a1 ++ (⟨#[105, 102, 45, 109, 111, 100, 105, 102, 105, 101, 100, 45, 115, 105, 110, 99, 101]⟩ : ByteArray))] rfl (by (try simp only [List.map_toArray, List.map_cons, List.map_nil]); first | done | rfl | (simp only [List.length_drop, List.length_take]; rfl)) ?_; (with_reducible refine (stowageref21_date.calls kj40 _ _ l0 (a1 ++ (⟨#[105, 102, 45, 109, 111, 100, 105, 102, 105, 101, 100, 45, 115, 105, 110, 99, 101]⟩ : ByteArray)) t440 true _ ?side1 ?side2 A52.out).mono ?_); (case side1 => repeat (first | exact (Kd.C_below HR0.out HB.out) | (with_reducible refine Kd.C_alloc ?_ _) | (with_reducible refine Kd.C_drewN ?_ _) | (with_reducible refine Kd.C_drew ?_))); (case side2 => exact HC0.out); rintro e w60 ⟨rfl, hb⟩; refine ⟨_, rfl, ?_⟩; have n0_ := Aside0.mk (Kd.R_below (by (with_reducible repeat (first | apply Kd.R_alloc | apply Kd.R_drewN | apply Kd.R_drew)); exact HO_430000.out) hb); have n1_ := Aside0.mk (Kd.R_below (by (with_reducible repeat (first | apply Kd.R_alloc | apply Kd.R_drewN | apply Kd.R_drew)); exact HO_436000.out) hb); have n2_ := Aside0.mk (blk_below (g := gb429) (o := .cells #[.slice Ao13 t424.length co13, .bool t427, .bool t428] 26 (0, 0)) (by (with_reducible repeat (first | refine blk_drewN ?_ _ | refine blk_drew ?_ | refine blk_alloc ?_ _)); exact BK429.out) hb); have n3_ := Aside0.mk (blk_below (g := gb435) (o := .cells #[.slice Ao17 t430.length co17, .bool t433, .bool false] 26 (0, 0)) (by (with_reducible repeat (first | refine blk_drewN ?_ _ | refine blk_drew ?_ | refine blk_alloc ?_ _)); exact BK435.out) hb); have n4_ := Aside0.mk (below_step (by repeat (first | (with_reducible first | exact HB.out | apply below_alloc | apply pw_below_drewN | apply below_drew1 | refine below_set ?_ GE429.out | refine below_set ?_ GE435.out) | exact HB.out)) hb); clear HO_430000; clear HO_436000; clear BK429; clear BK435; clear HB; have HO_430000 := n0_; have HO_436000 := n1_; have BK429 := n2_; have BK435 := n3_; have HB := n4_; clear n0_ n1_ n2_ n3_ n4_; (try clear hb); (try clear hb2); (try clear hk); (try clear hi); have hnb61 := NB435_429.out; have hnc61 := NB429_435.out; have hcz62_0 : w60.cell? ⟨gb435, 0, none⟩ = some (.slice Ao17 t430.length co17) := (blk_cell BK435.out 0).trans rfl; have hcz62_1 : w60.cell? ⟨gb435, 1, none⟩ = some (.bool t433) := (blk_cell BK435.out 1).trans rfl; have hcz62_2 : w60.cell? ⟨gb435, 2, none⟩ = some (.bool false) := (blk_cell BK435.out 2).trans rfl; have hfz62_0 := blk_frozen BK435.out 0; have hfz62_1 := blk_frozen BK435.out 1; have hfz62_2 := blk_frozen BK435.out 2))
                  go_ret
                  exact ⟨by first | rfl | (simp [errW_none, errW_some] <;> rfl) | (simp [*, errW_none, errW_some] <;> rfl), by repeat (first | (with_reducible first | exact HB.out | apply below_alloc | apply pw_below_drewN | apply below_drew1 | refine below_set ?_ GE429.out | refine below_set ?_ GE435.out) | exact HB.out)⟩
                 ·skip
                  have c59b0 : decide (a3 ≤ t440) = false := decide_eq_false c59
                  clear c59
                  obtain rfl := Option.some.inj H
                  go_wp2_with (first | ((with_reducible refine gate_callee (f := 61) rfl ?_); refine goesL_ (some 63) rfl rfl Try.func61 (by kernel_rfl) rfl #[.slice A0 l0.length c0, .string (a1 ++ (⟨#[105, 102, 45, 109, 111, 100, 105, 102, 105, 101, 100, 45, 115, 105, 110, 99, 101]⟩ : ByteArray))] rfl (by (try simp only [List.map_toArray, List.map_cons, List.map_nil]); first | done | rfl | (simp only [List.length_drop, List.length_take]; rfl)) ?_; (with_reducible refine (stowageref21_date.calls kj40 _ _ l0 (a1 ++ (⟨#[105, 102, 45, 109, 111, 100, 105, 102, 105, 101, 100, 45, 115, 105, 110, 99, 101]⟩ : ByteArray)) t440 true _ ?side1 ?side2 A52.out).mono ?_); (case side1 => repeat (first | exact (Kd.C_below HR0.out HB.out) | (with_reducible refine Kd.C_alloc ?_ _) | (with_reducible refine Kd.C_drewN ?_ _) | (with_reducible refine Kd.C_drew ?_))); (case side2 => exact HC0.out); rintro e w63 ⟨rfl, hb⟩; refine ⟨_, rfl, ?_⟩; have n0_ := Aside0.mk (Kd.R_below (by (with_reducible repeat (first | apply Kd.R_alloc | apply Kd.R_drewN | apply Kd.R_drew)); exact HO_430000.out) hb); have n1_ := Aside0.mk (Kd.R_below (by (with_reducible repeat (first | apply Kd.R_alloc | apply Kd.R_drewN | apply Kd.R_drew)); exact HO_436000.out) hb); have n2_ := Aside0.mk (blk_below (g := gb429) (o := .cells #[.slice Ao13 t424.length co13, .bool t427, .bool t428] 26 (0, 0)) (by (with_reducible repeat (first | refine blk_drewN ?_ _ | refine blk_drew ?_ | refine blk_alloc ?_ _)); exact BK429.out) hb); have n3_ := Aside0.mk (blk_below (g := gb435) (o := .cells #[.slice Ao17 t430.length co17, .bool t433, .bool false] 26 (0, 0)) (by (with_reducible repeat (first | refine blk_drewN ?_ _ | refine blk_drew ?_ | refine blk_alloc ?_ _)); exact BK435.out) hb); have n4_ := Aside0.mk (below_step (by repeat (first | (with_reducible first | exact HB.out | apply below_alloc | apply pw_below_drewN | apply below_drew1 | refine below_set ?_ GE429.out | refine below_set ?_ GE435.out) | exact HB.out)) hb); clear HO_430000; clear HO_436000; clear BK429; clear BK435; clear HB; have HO_430000 := n0_; have HO_436000 := n1_; have BK429 := n2_; have BK435 := n3_; have HB := n4_; clear n0_ n1_ n2_ n3_ n4_; (try clear hb); (try clear hb2); (try clear hk); (try clear hi); have hnb64 := NB435_429.out; have hnc64 := NB429_435.out; have hcz65_0 : w63.cell? ⟨gb435, 0, none⟩ = some (.slice Ao17 t430.length co17) := (blk_cell BK435.out 0).trans rfl; have hcz65_1 : w63.cell? ⟨gb435, 1, none⟩ = some (.bool t433) := (blk_cell BK435.out 1).trans rfl; have hcz65_2 : w63.cell? ⟨gb435, 2, none⟩ = some (.bool false) := (blk_cell BK435.out 2).trans rfl; have hfz65_0 := blk_frozen BK435.out 0; have hfz65_1 := blk_frozen BK435.out 1; have hfz65_2 := blk_frozen BK435.out 2))
                  go_ret
                  exact ⟨by first | rfl | (simp [errW_none, errW_some] <;> rfl) | (simp [*, errW_none, errW_some] <;> rfl), by repeat (first | (with_reducible first | exact HB.out | apply below_alloc | apply pw_below_drewN | apply below_drew1 | refine below_set ?_ GE429.out | refine below_set ?_ GE435.out) | exact HB.out)⟩
                ·replace c58 := Bool.eq_false_iff.mpr c58
                 subst c58
                 replace H := itF H
                 obtain rfl := Option.some.inj H
                 go_wp2_with (first | ((with_reducible refine gate_callee (f := 61) rfl ?_); refine goesL_ (some 63) rfl rfl Try.func61 (by kernel_rfl) rfl #[.slice A0 l0.length c0, .string (a1 ++ (⟨#[105, 102, 45, 109, 111, 100, 105, 102, 105, 101, 100, 45, 115, 105, 110, 99, 101]⟩ : ByteArray))] rfl (by (try simp only [List.map_toArray, List.map_cons, List.map_nil]); first | done | rfl | (simp only [List.length_drop, List.length_take]; rfl)) ?_; (with_reducible refine (stowageref21_date.calls kj40 _ _ l0 (a1 ++ (⟨#[105, 102, 45, 109, 111, 100, 105, 102, 105, 101, 100, 45, 115, 105, 110, 99, 101]⟩ : ByteArray)) t440 false _ ?side1 ?side2 A52.out).mono ?_); (case side1 => repeat (first | exact (Kd.C_below HR0.out HB.out) | (with_reducible refine Kd.C_alloc ?_ _) | (with_reducible refine Kd.C_drewN ?_ _) | (with_reducible refine Kd.C_drew ?_))); (case side2 => exact HC0.out); rintro e w66 ⟨rfl, hb⟩; refine ⟨_, rfl, ?_⟩; have n0_ := Aside0.mk (Kd.R_below (by (with_reducible repeat (first | apply Kd.R_alloc | apply Kd.R_drewN | apply Kd.R_drew)); exact HO_430000.out) hb); have n1_ := Aside0.mk (Kd.R_below (by (with_reducible repeat (first | apply Kd.R_alloc | apply Kd.R_drewN | apply Kd.R_drew)); exact HO_436000.out) hb); have n2_ := Aside0.mk (blk_below (g := gb429) (o := .cells #[.slice Ao13 t424.length co13, .bool t427, .bool t428] 26 (0, 0)) (by (with_reducible repeat (first | refine blk_drewN ?_ _ | refine blk_drew ?_ | refine blk_alloc ?_ _)); exact BK429.out) hb); have n3_ := Aside0.mk (blk_below (g := gb435) (o := .cells #[.slice Ao17 t430.length co17, .bool t433, .bool false] 26 (0, 0)) (by (with_reducible repeat (first | refine blk_drewN ?_ _ | refine blk_drew ?_ | refine blk_alloc ?_ _)); exact BK435.out) hb); have n4_ := Aside0.mk (below_step (by repeat (first | (with_reducible first | exact HB.out | apply below_alloc | apply pw_below_drewN | apply below_drew1 | refine below_set ?_ GE429.out | refine below_set ?_ GE435.out) | exact HB.out)) hb); clear HO_430000; clear HO_436000; clear BK429; clear BK435; clear HB; have HO_430000 := n0_; have HO_436000 := n1_; have BK429 := n2_; have BK435 := n3_; have HB := n4_; clear n0_ n1_ n2_ n3_ n4_; (try clear hb); (try clear hb2); (try clear hk); (try clear hi); have hnb67 := NB435_429.out; have hnc67 := NB429_435.out; have hcz68_0 : w66.cell? ⟨gb435, 0, none⟩ = some (.slice Ao17 t430.length co17) := (blk_cell BK435.out 0).trans rfl; have hcz68_1 : w66.cell? ⟨gb435, 1, none⟩ = some (.bool t433) := (blk_cell BK435.out 1).trans rfl; have hcz68_2 : w66.cell? ⟨gb435, 2, none⟩ = some (.bool false) := (blk_cell BK435.out 2).trans rfl; have hfz68_0 := blk_frozen BK435.out 0; have hfz68_1 := blk_frozen BK435.out 1; have hfz68_2 := blk_frozen BK435.out 2))
                 go_ret
                 exact ⟨by first | rfl | (simp [errW_none, errW_some] <;> rfl) | (simp [*, errW_none, errW_some] <;> rfl), by repeat (first | (with_reducible first | exact HB.out | apply below_alloc | apply pw_below_drewN | apply below_drew1 | refine below_set ?_ GE429.out | refine below_set ?_ GE435.out) | exact HB.out)⟩
               ·replace c57 := Bool.eq_false_iff.mpr c57
                subst c57
                replace H := itF H
                obtain rfl := Option.some.inj H
                go_wp2_with (first | ((with_reducible refine gate_callee (f := 61) rfl ?_); refine goesL_ (some 63) rfl rfl Try.func61 (by kernel_rfl) rfl #[.slice A0 l0.length c0, .string (a1 ++ (⟨#[105, 102, 45, 109, 111, 100, 105, 102, 105, 101, 100, 45, 115, 105, 110, 99, 101]⟩ : ByteArray))] rfl (by (try simp only [List.map_toArray, List.map_cons, List.map_nil]); first | done | rfl | (simp only [List.length_drop, List.length_take]; rfl)) ?_; (with_reducible refine (stowageref21_date.calls kj40 _ _ l0 (a1 ++ (⟨#[105, 102, 45, 109, 111, 100, 105, 102, 105, 101, 100, 45, 115, 105, 110, 99, 101]⟩ : ByteArray)) t440 t441 _ ?side1 ?side2 A52.out).mono ?_); (case side1 => repeat (first | exact (Kd.C_below HR0.out HB.out) | (with_reducible refine Kd.C_alloc ?_ _) | (with_reducible refine Kd.C_drewN ?_ _) | (with_reducible refine Kd.C_drew ?_))); (case side2 => exact HC0.out); rintro e w69 ⟨rfl, hb⟩; refine ⟨_, rfl, ?_⟩; have n0_ := Aside0.mk (Kd.R_below (by (with_reducible repeat (first | apply Kd.R_alloc | apply Kd.R_drewN | apply Kd.R_drew)); exact HO_430000.out) hb); have n1_ := Aside0.mk (Kd.R_below (by (with_reducible repeat (first | apply Kd.R_alloc | apply Kd.R_drewN | apply Kd.R_drew)); exact HO_436000.out) hb); have n2_ := Aside0.mk (blk_below (g := gb429) (o := .cells #[.slice Ao13 t424.length co13, .bool t427, .bool t428] 26 (0, 0)) (by (with_reducible repeat (first | refine blk_drewN ?_ _ | refine blk_drew ?_ | refine blk_alloc ?_ _)); exact BK429.out) hb); have n3_ := Aside0.mk (blk_below (g := gb435) (o := .cells #[.slice Ao17 t430.length co17, .bool t433, .bool false] 26 (0, 0)) (by (with_reducible repeat (first | refine blk_drewN ?_ _ | refine blk_drew ?_ | refine blk_alloc ?_ _)); exact BK435.out) hb); have n4_ := Aside0.mk (below_step (by repeat (first | (with_reducible first | exact HB.out | apply below_alloc | apply pw_below_drewN | apply below_drew1 | refine below_set ?_ GE429.out | refine below_set ?_ GE435.out) | exact HB.out)) hb); clear HO_430000; clear HO_436000; clear BK429; clear BK435; clear HB; have HO_430000 := n0_; have HO_436000 := n1_; have BK429 := n2_; have BK435 := n3_; have HB := n4_; clear n0_ n1_ n2_ n3_ n4_; (try clear hb); (try clear hb2); (try clear hk); (try clear hi); have hnb70 := NB435_429.out; have hnc70 := NB429_435.out; have hcz71_0 : w69.cell? ⟨gb435, 0, none⟩ = some (.slice Ao17 t430.length co17) := (blk_cell BK435.out 0).trans rfl; have hcz71_1 : w69.cell? ⟨gb435, 1, none⟩ = some (.bool t433) := (blk_cell BK435.out 1).trans rfl; have hcz71_2 : w69.cell? ⟨gb435, 2, none⟩ = some (.bool false) := (blk_cell BK435.out 2).trans rfl; have hfz71_0 := blk_frozen BK435.out 0; have hfz71_1 := blk_frozen BK435.out 1; have hfz71_2 := blk_frozen BK435.out 2))
                go_ret
                exact ⟨by first | rfl | (simp [errW_none, errW_some] <;> rfl) | (simp [*, errW_none, errW_some] <;> rfl), by repeat (first | (with_reducible first | exact HB.out | apply below_alloc | apply pw_below_drewN | apply below_drew1 | refine below_set ?_ GE429.out | refine below_set ?_ GE435.out) | exact HB.out)⟩
             ·exact absurd H (by simp)
      ·exact absurd H (by simp)
  ·exact absurd H (by simp)
 ·exact absurd H (by simp)
end Go.Proofs.Ythjofhklkkmdoaa.Q
