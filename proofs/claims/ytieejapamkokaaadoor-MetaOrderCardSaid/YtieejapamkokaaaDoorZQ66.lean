/- A part of the proof of the seat's laws. No condition beyond those in the theorems. -/
import Derived.Test.YtieejapamkokaaaDoorZQ0g7
import Derived.Test.YtieejapamkokaaaDoorZQ7g7
import Derived.Test.YtieejapamkokaaaDoorZQ62g3

namespace Go.Proofs.YtieejapamkokaaaDoor.Q
open Go.RowKit Go.Proofs.YtieejapamkokaaaDoorW.PrintWords Go.Proofs.YtieejapamkokaaaDoorW.PrintLast Go.Proofs.YtieejapamkokaaaDoorW.PrintMore
set_option linter.unusedVariables false
set_option linter.unusedSimpArgs false
attribute [local go_sem] max2_int min2_int max_two min_two max_three min_three max_four min_four   
mutual
def stowagelaw12_MetaOrder.j0 : Nat → ByteArray → ByteArray → ByteArray → ByteArray → Int → Int → Bool → Option (Bool)
 | 0, _, _, _, _, _, _, _ => none
 | k + 1, x0, x1, x2, x3, x4, x5, x66 => if x66 = true then ((stowagelaw12_awake.f k).bind fun t255 => (some t255)) else ((meta_UploadKey.f k x1 x3 x5).bind fun t256 => ((meta_ParseUpload.f k t256).bind fun bt257 => (if bt257.2.2.2 = true then (if (Op.bytesLess x0.toList x1.toList) = true then (stowagelaw12_MetaOrder.j1 k x0 x1 x2 x3 x4 x5 true) else (if x0.toList = x1.toList then (stowagelaw12_MetaOrder.j1 k x0 x1 x2 x3 x4 x5 (Op.bytesLess x2.toList x3.toList)) else (stowagelaw12_MetaOrder.j1 k x0 x1 x2 x3 x4 x5 false))) else ((stowagelaw12_awake.f k).bind fun t261 => (some t261)))))
def stowagelaw12_MetaOrder.j1 : Nat → ByteArray → ByteArray → ByteArray → ByteArray → Int → Int → Bool → Option (Bool)
 | 0, _, _, _, _, _, _, _ => none
 | k + 1, x0, x1, x2, x3, x4, x5, x25 => if x0.toList = x1.toList then (stowagelaw12_MetaOrder.j2 k x0 x1 x2 x3 x4 x5 x25 (x2.toList == x3.toList)) else (stowagelaw12_MetaOrder.j2 k x0 x1 x2 x3 x4 x5 x25 false)
def stowagelaw12_MetaOrder.j2 : Nat → ByteArray → ByteArray → ByteArray → ByteArray → Int → Int → Bool → Bool → Option (Bool)
 | 0, _, _, _, _, _, _, _, _ => none
 | k + 1, x0, x1, x2, x3, x4, x5, x25, x26 => (meta_ObjectKey.f k x0 x2 x4).bind fun t262 => ((meta_ObjectKey.f k x1 x3 x5).bind fun t263 => ((meta_UploadKey.f k x0 x2 x4).bind fun t264 => ((meta_UploadKey.f k x1 x3 x5).bind fun t265 => (if x25 = true then (if ((Op.bytesLess t262.toList t263.toList) == true) = true then (if ((Op.bytesLess t264.toList t265.toList) == true) = true then ((stowagelaw12_awake.f k).bind fun t266 => (some t266)) else (some false)) else (some false)) else (if x26 = true then (if ((Op.bytesLess t262.toList t263.toList) == (decide (x4 > x5))) = true then (if ((Op.bytesLess t264.toList t265.toList) == (decide (x4 < x5))) = true then ((stowagelaw12_awake.f k).bind fun t267 => (some t267)) else (some false)) else (some false)) else (if ((Op.bytesLess t262.toList t263.toList) == false) = true then (if ((Op.bytesLess t264.toList t265.toList) == false) = true then ((stowagelaw12_awake.f k).bind fun t268 => (some t268)) else (some false)) else (some false)))))))
end
def stowagelaw12_MetaOrder.f (k : Nat) (a0 : ByteArray) (a1 : ByteArray) (a2 : ByteArray) (a3 : ByteArray) (a4 : Int) (a5 : Int) : Option (Bool) := if 1 + a0.size ≤ 9223372036854775807 then ((meta_ParseBucket.f k ((⟨#[66]⟩ : ByteArray) ++ a0)).bind fun bt244 => (if bt244.2 = true then (if 1 + a1.size ≤ 9223372036854775807 then ((meta_ParseBucket.f k ((⟨#[66]⟩ : ByteArray) ++ a1)).bind fun bt247 => (if bt247.2 = true then ((meta_UploadKey.f k a0 a2 a4).bind fun t250 => ((meta_ParseUpload.f k t250).bind fun bt251 => (if bt251.2.2.2 = true then (if a4 < 0 then (stowagelaw12_MetaOrder.j0 k a0 a1 a2 a3 a4 a5 true) else (stowagelaw12_MetaOrder.j0 k a0 a1 a2 a3 a4 a5 (decide (a5 < 0)))) else (stowagelaw12_MetaOrder.j0 k a0 a1 a2 a3 a4 a5 true)))) else ((stowagelaw12_awake.f k).bind fun t249 => (some t249)))) else (none)) else ((stowagelaw12_awake.f k).bind fun t246 => (some t246)))) else (none)
theorem stowagelaw12_MetaOrder.mono_l : ∀ k, (∀ y0 y1 y2 y3 y4 y5 y6, LeO (stowagelaw12_MetaOrder.j0 k y0 y1 y2 y3 y4 y5 y6) (stowagelaw12_MetaOrder.j0 (k + 1) y0 y1 y2 y3 y4 y5 y6)) ∧ (∀ y0 y1 y2 y3 y4 y5 y6, LeO (stowagelaw12_MetaOrder.j1 k y0 y1 y2 y3 y4 y5 y6) (stowagelaw12_MetaOrder.j1 (k + 1) y0 y1 y2 y3 y4 y5 y6)) ∧ (∀ y0 y1 y2 y3 y4 y5 y6 y7, LeO (stowagelaw12_MetaOrder.j2 k y0 y1 y2 y3 y4 y5 y6 y7) (stowagelaw12_MetaOrder.j2 (k + 1) y0 y1 y2 y3 y4 y5 y6 y7))
 | 0 => ⟨fun _ _ _ _ _ _ _ r h => by simp [stowagelaw12_MetaOrder.j0] at h, fun _ _ _ _ _ _ _ r h => by simp [stowagelaw12_MetaOrder.j1] at h, fun _ _ _ _ _ _ _ _ r h => by simp [stowagelaw12_MetaOrder.j2] at h⟩
 | k + 1 => by
  obtain ⟨ih0, ih1, ih2⟩ := stowagelaw12_MetaOrder.mono_l k
  refine ⟨?_, ?_, ?_⟩
  ·intro y0 y1 y2 y3 y4 y5 y6
   unfold stowagelaw12_MetaOrder.j0
   repeat' first
   | (with_reducible exact ih0 _ _ _ _ _ _ _)
   | (with_reducible exact ih1 _ _ _ _ _ _ _)
   | (with_reducible exact ih2 _ _ _ _ _ _ _ _)
   | (with_reducible exact meta_ObjectKey.mono _ _ _ _)
   | (with_reducible exact meta_ParseBucket.mono _ _)
   | (with_reducible exact meta_ParseUpload.mono _ _)
   | (with_reducible exact meta_UploadKey.mono _ _ _ _)
   | (with_reducible exact stowagelaw12_awake.mono _)
   | (with_reducible exact LeO.refl _)
   | (with_reducible exact LeO.none _)
   | (with_reducible refine LeO.ite ?_ ?_)
   | (with_reducible refine LeO.bind ?_ (fun _ => ?_))
   | exact ih0 _ _ _ _ _ _ _
   | exact ih1 _ _ _ _ _ _ _
   | exact ih2 _ _ _ _ _ _ _ _
   | exact meta_ObjectKey.mono _ _ _ _
   | exact meta_ParseBucket.mono _ _
   | exact meta_ParseUpload.mono _ _
   | exact meta_UploadKey.mono _ _ _ _
   | exact stowagelaw12_awake.mono _
   | exact LeO.none _
   | refine LeO.ite ?_ ?_
   | refine LeO.bind ?_ (fun _ => ?_)
  ·intro y0 y1 y2 y3 y4 y5 y6
   unfold stowagelaw12_MetaOrder.j1
   repeat' first
   | (with_reducible exact ih0 _ _ _ _ _ _ _)
   | (with_reducible exact ih1 _ _ _ _ _ _ _)
   | (with_reducible exact ih2 _ _ _ _ _ _ _ _)
   | (with_reducible exact meta_ObjectKey.mono _ _ _ _)
   | (with_reducible exact meta_ParseBucket.mono _ _)
   | (with_reducible exact meta_ParseUpload.mono _ _)
   | (with_reducible exact meta_UploadKey.mono _ _ _ _)
   | (with_reducible exact stowagelaw12_awake.mono _)
   | (with_reducible exact LeO.refl _)
   | (with_reducible exact LeO.none _)
   | (with_reducible refine LeO.ite ?_ ?_)
   | (with_reducible refine LeO.bind ?_ (fun _ => ?_))
   | exact ih0 _ _ _ _ _ _ _
   | exact ih1 _ _ _ _ _ _ _
   | exact ih2 _ _ _ _ _ _ _ _
   | exact meta_ObjectKey.mono _ _ _ _
   | exact meta_ParseBucket.mono _ _
   | exact meta_ParseUpload.mono _ _
   | exact meta_UploadKey.mono _ _ _ _
   | exact stowagelaw12_awake.mono _
   | exact LeO.none _
   | refine LeO.ite ?_ ?_
   | refine LeO.bind ?_ (fun _ => ?_)
  ·intro y0 y1 y2 y3 y4 y5 y6 y7
   unfold stowagelaw12_MetaOrder.j2
   repeat' first
   | (with_reducible exact ih0 _ _ _ _ _ _ _)
   | (with_reducible exact ih1 _ _ _ _ _ _ _)
   | (with_reducible exact ih2 _ _ _ _ _ _ _ _)
   | (with_reducible exact meta_ObjectKey.mono _ _ _ _)
   | (with_reducible exact meta_ParseBucket.mono _ _)
   | (with_reducible exact meta_ParseUpload.mono _ _)
   | (with_reducible exact meta_UploadKey.mono _ _ _ _)
   | (with_reducible exact stowagelaw12_awake.mono _)
   | (with_reducible exact LeO.refl _)
   | (with_reducible exact LeO.none _)
   | (with_reducible refine LeO.ite ?_ ?_)
   | (with_reducible refine LeO.bind ?_ (fun _ => ?_))
   | exact ih0 _ _ _ _ _ _ _
   | exact ih1 _ _ _ _ _ _ _
   | exact ih2 _ _ _ _ _ _ _ _
   | exact meta_ObjectKey.mono _ _ _ _
   | exact meta_ParseBucket.mono _ _
   | exact meta_ParseUpload.mono _ _
   | exact meta_UploadKey.mono _ _ _ _
   | exact stowagelaw12_awake.mono _
   | exact LeO.none _
   | refine LeO.ite ?_ ?_
   | refine LeO.bind ?_ (fun _ => ?_)
theorem stowagelaw12_MetaOrder.mono : ∀ a0 a1 a2 a3 a4 a5 k, LeO (stowagelaw12_MetaOrder.f k a0 a1 a2 a3 a4 a5) (stowagelaw12_MetaOrder.f (k + 1) a0 a1 a2 a3 a4 a5) := by
 intro a0 a1 a2 a3 a4 a5 k
 obtain ⟨ih0, ih1, ih2⟩ := stowagelaw12_MetaOrder.mono_l k
 unfold stowagelaw12_MetaOrder.f
 repeat' first
   | (with_reducible exact ih0 _ _ _ _ _ _ _)
   | (with_reducible exact ih1 _ _ _ _ _ _ _)
   | (with_reducible exact ih2 _ _ _ _ _ _ _ _)
   | (with_reducible exact meta_ObjectKey.mono _ _ _ _)
   | (with_reducible exact meta_ParseBucket.mono _ _)
   | (with_reducible exact meta_ParseUpload.mono _ _)
   | (with_reducible exact meta_UploadKey.mono _ _ _ _)
   | (with_reducible exact stowagelaw12_awake.mono _)
   | (with_reducible exact LeO.refl _)
   | (with_reducible exact LeO.none _)
   | (with_reducible refine LeO.ite ?_ ?_)
   | (with_reducible refine LeO.bind ?_ (fun _ => ?_))
   | exact ih0 _ _ _ _ _ _ _
   | exact ih1 _ _ _ _ _ _ _
   | exact ih2 _ _ _ _ _ _ _ _
   | exact meta_ObjectKey.mono _ _ _ _
   | exact meta_ParseBucket.mono _ _
   | exact meta_ParseUpload.mono _ _
   | exact meta_UploadKey.mono _ _ _ _
   | exact stowagelaw12_awake.mono _
   | exact LeO.none _
   | refine LeO.ite ?_ ?_
   | refine LeO.bind ?_ (fun _ => ?_)
set_option maxHeartbeats 8000000 in
set_option maxRecDepth 100000 in
theorem stowagelaw12_MetaOrder.calls (k : Nat) (a0 : ByteArray) (a1 : ByteArray) (a2 : ByteArray) (a3 : ByteArray) (a4 : Int) (a5 : Int) (r : Bool) (w : World) (h : stowagelaw12_MetaOrder.f k a0 a1 a2 a3 a4 a5 = some r) (hr : r = true) :
  Calls Tryd.prog 4 #[.string a0, .string a1, .string a2, .string a3, .int .i64 a4, .int .i64 a5] w fun e w' => e = .returned (.bool r) ∧ Below w.heap.size w w' := by
 have HB := Aside0.mk (Below.refl w.heap.size w)
 unfold stowagelaw12_MetaOrder.f at h
 have H := h
 clear h
 replace H := itO H
 rcases H with ⟨c7, H⟩ | ⟨c7, H⟩
 ·skip
  have c7b0 := eq_true c7
  have c7b1 := decide_eq_true c7
  try have c7b2 := eq_false (Nat.not_lt.2 c7)
  try (have c7n : 1 + a0.size ≤ 9223372036854775807 := by have h_ := c7; simp only [ByteArray.size_append, ByteArray.size_extract] at h_; exact h_)
  try have c7f : (9223372036854775807 < 1 + a0.size) = False := eq_false (by first | omega | (simp only [eq_iff_iff, iff_true] at *; omega))
  replace H := bndO H
  obtain ⟨⟨t244, t245⟩, A80, H⟩ := H
  dsimp only at H
  have A8 := Aside0.mk A80
  clear A80
  by_cases c9 : t245 = true
  ·subst c9
   replace H := itT H
   replace H := itO H
   rcases H with ⟨c10, H⟩ | ⟨c10, H⟩
   ·skip
    have c10b0 := eq_true c10
    have c10b1 := decide_eq_true c10
    try have c10b2 := eq_false (Nat.not_lt.2 c10)
    try (have c10n : 1 + a1.size ≤ 9223372036854775807 := by have h_ := c10; simp only [ByteArray.size_append, ByteArray.size_extract] at h_; exact h_)
    try have c10f : (9223372036854775807 < 1 + a1.size) = False := eq_false (by first | omega | (simp only [eq_iff_iff, iff_true] at *; omega))
    replace H := bndO H
    obtain ⟨⟨t247, t248⟩, A110, H⟩ := H
    dsimp only at H
    have A11 := Aside0.mk A110
    clear A110
    by_cases c12 : t248 = true
    ·subst c12
     replace H := itT H
     replace H := bndO H
     obtain ⟨t250, A130, H⟩ := H
     have A13 := Aside0.mk A130
     clear A130
     replace H := bndO H
     obtain ⟨⟨t251, t252, t253, t254⟩, A140, H⟩ := H
     dsimp only at H
     have A14 := Aside0.mk A140
     clear A140
     have HC15 := Aside0.mk H
     clear H
     go_enter Tryd.func4, Tryd.ntmps4
     go_upto_region 8 with (first | ((with_reducible refine gate_callee (f := 21) rfl ?_); refine goesL_ (some 32) rfl rfl Tryd.func21 (by kernel_rfl) rfl #[.string ((⟨#[66]⟩ : ByteArray) ++ a0)] rfl (by (try simp only [List.map_toArray, List.map_cons, List.map_nil]); first | done | rfl | (simp only [List.length_drop, List.length_take]; rfl)) ?_; (with_reducible refine (meta_ParseBucket.calls k ((⟨#[66]⟩ : ByteArray) ++ a0) t244 true _ A8.out).mono ?_); rintro e w16 ⟨rfl, hb⟩; refine ⟨_, rfl, ?_⟩; have n0_ := Aside0.mk (below_step (by repeat (first | (with_reducible first | exact HB.out | apply below_alloc | apply pw_below_drewN | apply below_drew1) | exact HB.out)) hb); clear HB; have HB := n0_; clear n0_; (try clear hb); (try clear hb2); (try clear hk); (try clear hi)) | ((with_reducible refine gate_callee (f := 21) rfl ?_); refine goesL_ (some 41) rfl rfl Tryd.func21 (by kernel_rfl) rfl #[.string ((⟨#[66]⟩ : ByteArray) ++ a1)] rfl (by (try simp only [List.map_toArray, List.map_cons, List.map_nil]); first | done | rfl | (simp only [List.length_drop, List.length_take]; rfl)) ?_; (with_reducible refine (meta_ParseBucket.calls k ((⟨#[66]⟩ : ByteArray) ++ a1) t247 true _ A11.out).mono ?_); rintro e w17 ⟨rfl, hb⟩; refine ⟨_, rfl, ?_⟩; have n0_ := Aside0.mk (below_step (by repeat (first | (with_reducible first | exact HB.out | apply below_alloc | apply pw_below_drewN | apply below_drew1) | exact HB.out)) hb); clear HB; have HB := n0_; clear n0_; (try clear hb); (try clear hb2); (try clear hk); (try clear hi)) | ((with_reducible refine gate_callee (f := 14) rfl ?_); refine goesL_ (some 51) rfl rfl Tryd.func14 (by kernel_rfl) rfl #[.string a0, .string a2, .int .i64 a4] rfl (by (try simp only [List.map_toArray, List.map_cons, List.map_nil]); first | done | rfl | (simp only [List.length_drop, List.length_take]; rfl)) ?_; (with_reducible refine (meta_UploadKey.calls k a0 a2 a4 t250 _ A13.out).mono ?_); rintro e w18 ⟨rfl, hb⟩; refine ⟨_, rfl, ?_⟩; have n0_ := Aside0.mk (below_step (by repeat (first | (with_reducible first | exact HB.out | apply below_alloc | apply pw_below_drewN | apply below_drew1) | exact HB.out)) hb); clear HB; have HB := n0_; clear n0_; (try clear hb); (try clear hb2); (try clear hk); (try clear hi)) | ((with_reducible refine gate_callee (f := 22) rfl ?_); refine goesL_ (some 52) rfl rfl Tryd.func22 (by kernel_rfl) rfl #[.string t250] rfl (by (try simp only [List.map_toArray, List.map_cons, List.map_nil]); first | done | rfl | (simp only [List.length_drop, List.length_take]; rfl)) ?_; (with_reducible refine (meta_ParseUpload.calls k t250 t251 t252 t253 t254 _ A14.out).mono ?_); rintro e w19 ⟨rfl, hb⟩; refine ⟨_, rfl, ?_⟩; have n0_ := Aside0.mk (below_step (by repeat (first | (with_reducible first | exact HB.out | apply below_alloc | apply pw_below_drewN | apply below_drew1) | exact HB.out)) hb); clear HB; have HB := n0_; clear n0_; (try clear hb); (try clear hb2); (try clear hk); (try clear hi)))
     (try simp only [Act.put, List.setIfInBounds_toArray, List.set_cons_zero, List.set_cons_succ])
     go_cut [66] (fun v66 wc => ∃ (kq : Nat) (x66_14 : Bool), v66 = .bool x66_14 ∧ Aside0 (stowagelaw12_MetaOrder.j0 kq a0 a1 a2 a3 a4 a5 x66_14 = some r) ∧ Aside0 (kq ≤ k) ∧ Aside0 (Below w.heap.size w wc))
     case first =>
      have H := HC15.out
      clear HC15
      by_cases c20 : t254 = true
      ·subst c20
       replace H := itT H
       replace H := itO H
       rcases H with ⟨c21, H⟩ | ⟨c21, H⟩
       ·skip
        have c21b0 : decide (a4 < 0) = true := decide_eq_true c21
        clear c21
        (first | rw [c21b0] | (simp only [i64_w, i32_w]; rw [c21b0]) | skip)
        have H' := Aside0.mk H
        clear H
        go_wp2
        go_meet
        case rel => exact ⟨_, (true), (by first | rfl | (simp; done) | (simp [*]; done)), H', ⟨by first | omega | exact Nat.le_refl _⟩, ⟨by repeat (first | (with_reducible first | exact HB.out | apply below_alloc | apply pw_below_drewN | apply below_drew1) | exact HB.out)⟩⟩
       ·skip
        have c21b0 : decide (a4 < 0) = false := decide_eq_false c21
        clear c21
        (first | rw [c21b0] | (simp only [i64_w, i32_w]; rw [c21b0]) | skip)
        have H' := Aside0.mk H
        clear H
        go_wp2
        go_meet
        case rel => exact ⟨_, (decide (a5 < 0)), (by first | rfl | (simp; done) | (simp [*]; done)), H', ⟨by first | omega | exact Nat.le_refl _⟩, ⟨by repeat (first | (with_reducible first | exact HB.out | apply below_alloc | apply pw_below_drewN | apply below_drew1) | exact HB.out)⟩⟩
      ·replace c20 := Bool.eq_false_iff.mpr c20
       subst c20
       replace H := itF H
       have H' := Aside0.mk H
       clear H
       go_wp2
       go_meet
       case rel => exact ⟨_, (true), (by first | rfl | (simp; done) | (simp [*]; done)), H', ⟨by first | omega | exact Nat.le_refl _⟩, ⟨by repeat (first | (with_reducible first | exact HB.out | apply below_alloc | apply pw_below_drewN | apply below_drew1) | exact HB.out)⟩⟩
     case rest =>
      clear HC15
      try clear c1
      try clear c2
      try clear p2
      try clear c4
      try clear c7
      try clear c7b0
      try clear c7b1
      try clear c7b2
      try clear c9
      try clear c10
      try clear c10b0
      try clear c10b1
      try clear c10b2
      try clear c12
      try clear c14
      try clear c20
      try clear c21
      try clear c21b0
      obtain ⟨kq, x66_14, rfl, HA, HJ14, HB⟩ := hcut
      cases kq with
      | zero => exact absurd HA.out (by simp [stowagelaw12_MetaOrder.j0])
      | succ kj14 =>
       have H := HA.out
       clear HA
       simp only [stowagelaw12_MetaOrder.j0] at H
       by_cases c22 : x66_14 = true
       ·subst c22
        replace H := itT H
        replace H := bndO H
        obtain ⟨t255, A230, H⟩ := H
        have A23 := Aside0.mk A230
        clear A230
        clear hr
        obtain rfl := Option.some.inj H
        go_wp2_with (first | ((with_reducible refine gate_callee (f := 20) rfl ?_); refine goesL_ (some 67) rfl rfl Tryd.func20 (by kernel_rfl) rfl #[] rfl (by (try simp only [List.map_toArray, List.map_cons, List.map_nil]); first | done | rfl | (simp only [List.length_drop, List.length_take]; rfl)) ?_; (with_reducible refine (stowagelaw12_awake.calls kj14  t255 _ A23.out).mono ?_); rintro e w24 ⟨rfl, hb⟩; refine ⟨_, rfl, ?_⟩; have n0_ := Aside0.mk (below_step (by repeat (first | (with_reducible first | exact HB.out | apply below_alloc | apply pw_below_drewN | apply below_drew1) | exact HB.out)) hb); clear HB; have HB := n0_; clear n0_; (try clear hb); (try clear hb2); (try clear hk); (try clear hi)))
        go_ret
        exact ⟨by first | rfl | (simp [errW_none, errW_some] <;> rfl) | (simp [*, errW_none, errW_some] <;> rfl), by repeat (first | (with_reducible first | exact HB.out | apply below_alloc | apply pw_below_drewN | apply below_drew1) | exact HB.out)⟩
       ·replace c22 := Bool.eq_false_iff.mpr c22
        subst c22
        replace H := itF H
        replace H := bndO H
        obtain ⟨t256, A250, H⟩ := H
        have A25 := Aside0.mk A250
        clear A250
        replace H := bndO H
        obtain ⟨⟨t257, t258, t259, t260⟩, A260, H⟩ := H
        dsimp only at H
        have A26 := Aside0.mk A260
        clear A260
        by_cases c27 : t260 = true
        ·subst c27
         replace H := itT H
         have HC28 := Aside0.mk H
         clear H
         go_upto_region 13 with (first | ((with_reducible refine gate_callee (f := 14) rfl ?_); refine goesL_ (some 72) rfl rfl Tryd.func14 (by kernel_rfl) rfl #[.string a1, .string a3, .int .i64 a5] rfl (by (try simp only [List.map_toArray, List.map_cons, List.map_nil]); first | done | rfl | (simp only [List.length_drop, List.length_take]; rfl)) ?_; (with_reducible refine (meta_UploadKey.calls kj14 a1 a3 a5 t256 _ A25.out).mono ?_); rintro e w29 ⟨rfl, hb⟩; refine ⟨_, rfl, ?_⟩; have n0_ := Aside0.mk (below_step (by repeat (first | (with_reducible first | exact HB.out | apply below_alloc | apply pw_below_drewN | apply below_drew1) | exact HB.out)) hb); clear HB; have HB := n0_; clear n0_; (try clear hb); (try clear hb2); (try clear hk); (try clear hi)) | ((with_reducible refine gate_callee (f := 22) rfl ?_); refine goesL_ (some 73) rfl rfl Tryd.func22 (by kernel_rfl) rfl #[.string t256] rfl (by (try simp only [List.map_toArray, List.map_cons, List.map_nil]); first | done | rfl | (simp only [List.length_drop, List.length_take]; rfl)) ?_; (with_reducible refine (meta_ParseUpload.calls kj14 t256 t257 t258 t259 true _ A26.out).mono ?_); rintro e w30 ⟨rfl, hb⟩; refine ⟨_, rfl, ?_⟩; have n0_ := Aside0.mk (below_step (by repeat (first | (with_reducible first | exact HB.out | apply below_alloc | apply pw_below_drewN | apply below_drew1) | exact HB.out)) hb); clear HB; have HB := n0_; clear n0_; (try clear hb); (try clear hb2); (try clear hk); (try clear hi)))
         (try simp only [Act.put, List.setIfInBounds_toArray, List.set_cons_zero, List.set_cons_succ])
         go_cut [25] (fun v25 wc => ∃ (kq : Nat) (x25_27 : Bool), v25 = .bool x25_27 ∧ Aside0 (stowagelaw12_MetaOrder.j1 kq a0 a1 a2 a3 a4 a5 x25_27 = some r) ∧ Aside0 (kq ≤ kj14) ∧ Aside0 (Below w.heap.size w wc))
         case first =>
          have H := HC28.out
          clear HC28
          replace H := itO H
          rcases H with ⟨c31, H⟩ | ⟨c31, H⟩
          ·skip
           have c31b0 : (Op.bytesLess a0.toList a1.toList) = true := c31
           clear c31
           (first | rw [c31b0] | (simp only [i64_w, i32_w]; rw [c31b0]) | skip)
           have H' := Aside0.mk H
           clear H
           go_wp2
           go_meet
           case rel => exact ⟨_, (true), (by first | rfl | (simp; done) | (simp [*]; done)), H', ⟨by have := HJ14.out; first | omega | exact Nat.le_refl _⟩, ⟨by repeat (first | (with_reducible first | exact HB.out | apply below_alloc | apply pw_below_drewN | apply below_drew1) | exact HB.out)⟩⟩
          ·skip
           have c31b0 : (Op.bytesLess a0.toList a1.toList) = false := by simpa using c31
           clear c31
           (first | rw [c31b0] | (simp only [i64_w, i32_w]; rw [c31b0]) | skip)
           replace H := itO H
           rcases H with ⟨c32, H⟩ | ⟨c32, H⟩
           ·skip
            have c32b0 : (a0.toList == a1.toList) = true := beq_iff_eq.mpr c32
            have c32b1 : (a0.toList != a1.toList) = false := bne_eq_false_iff_eq.mpr c32
            clear c32
            have H' := Aside0.mk H
            clear H
            go_wp2
            go_meet
            case rel => exact ⟨_, ((Op.bytesLess a2.toList a3.toList)), (by first | rfl | (simp; done) | (simp [*]; done)), H', ⟨by have := HJ14.out; first | omega | exact Nat.le_refl _⟩, ⟨by repeat (first | (with_reducible first | exact HB.out | apply below_alloc | apply pw_below_drewN | apply below_drew1) | exact HB.out)⟩⟩
           ·skip
            have c32b0 : (a0.toList == a1.toList) = false := beq_eq_false_iff_ne.mpr c32
            have c32b1 : (a0.toList != a1.toList) = true := bne_iff_ne.mpr c32
            have H' := Aside0.mk H
            clear H
            go_wp2
            go_meet
            case rel => exact ⟨_, (false), (by first | rfl | (simp; done) | (simp [*]; done)), H', ⟨by have := HJ14.out; first | omega | exact Nat.le_refl _⟩, ⟨by repeat (first | (with_reducible first | exact HB.out | apply below_alloc | apply pw_below_drewN | apply below_drew1) | exact HB.out)⟩⟩
         case rest =>
          clear HC28
          try clear c1
          try clear c2
          try clear p2
          try clear c3
          try clear c4
          try clear c7
          try clear c7b0
          try clear c7b1
          try clear c7b2
          try clear c9
          try clear c10
          try clear c10b0
          try clear c10b1
          try clear c10b2
          try clear c12
          try clear c14
          try clear c20
          try clear c21
          try clear c21b0
          try clear c22
          try clear c27
          try clear c31
          try clear c31b0
          try clear c32
          try clear c32b0
          try clear c32b1
          try clear p2
          obtain ⟨kq, x25_27, rfl, HA, HJ27, HB⟩ := hcut
          cases kq with
          | zero => exact absurd HA.out (by simp [stowagelaw12_MetaOrder.j1])
          | succ kj27 =>
           have H := HA.out
           clear HA
           simp only [stowagelaw12_MetaOrder.j1] at H
           have HC33 := Aside0.mk H
           clear H
           go_upto_region 14 with (fail)
           go_cut [26] (fun v26 wc => ∃ (kq : Nat) (x26_32 : Bool), v26 = .bool x26_32 ∧ Aside0 (stowagelaw12_MetaOrder.j2 kq a0 a1 a2 a3 a4 a5 x25_27 x26_32 = some r) ∧ Aside0 (kq ≤ kj27) ∧ Aside0 (Below w.heap.size w wc))
           case first =>
            have H := HC33.out
            clear HC33
            replace H := itO H
            rcases H with ⟨c34, H⟩ | ⟨c34, H⟩
            ·skip
             have c34b0 : (a0.toList == a1.toList) = true := beq_iff_eq.mpr c34
             have c34b1 : (a0.toList != a1.toList) = false := bne_eq_false_iff_eq.mpr c34
             clear c34
             (first | rw [c34b0] | (simp only [i64_w, i32_w]; rw [c34b0]) | skip)
             have H' := Aside0.mk H
             clear H
             go_wp2
             go_meet
             case rel => exact ⟨_, ((a2.toList == a3.toList)), (by first | rfl | (simp; done) | (simp [*]; done)), H', ⟨by have := HJ14.out; have := HJ27.out; first | omega | exact Nat.le_refl _⟩, ⟨by repeat (first | (with_reducible first | exact HB.out | apply below_alloc | apply pw_below_drewN | apply below_drew1) | exact HB.out)⟩⟩
            ·skip
             have c34b0 : (a0.toList == a1.toList) = false := beq_eq_false_iff_ne.mpr c34
             have c34b1 : (a0.toList != a1.toList) = true := bne_iff_ne.mpr c34
             (first | rw [c34b0] | (simp only [i64_w, i32_w]; rw [c34b0]) | skip)
             have H' := Aside0.mk H
             clear H
             go_wp2
             go_meet
             case rel => exact ⟨_, (false), (by first | rfl | (simp; done) | (simp [*]; done)), H', ⟨by have := HJ14.out; have := HJ27.out; first | omega | exact Nat.le_refl _⟩, ⟨by repeat (first | (with_reducible first | exact HB.out | apply below_alloc | apply pw_below_drewN | apply below_drew1) | exact HB.out)⟩⟩
           case rest =>
            clear HC33
            try clear c1
            try clear c2
            try clear p2
            try clear c3
            try clear c4
            try clear c7
            try clear c7b0
            try clear c7b1
            try clear c7b2
            try clear c9
            try clear c10
            try clear c10b0
            try clear c10b1
            try clear c10b2
            try clear c12
            try clear c14
            try clear c20
            try clear c21
            try clear c21b0
            try clear c22
            try clear c27
            try clear c31
            try clear c31b0
            try clear c32
            try clear c32b0
            try clear c32b1
            try clear c34
            try clear c34b0
            try clear c34b1
            try clear p2
            obtain ⟨kq, x26_32, rfl, HA, HJ32, HB⟩ := hcut
            cases kq with
            | zero => exact absurd HA.out (by simp [stowagelaw12_MetaOrder.j2])
            | succ kj32 =>
             have H := HA.out
             clear HA
             simp only [stowagelaw12_MetaOrder.j2] at H
             replace H := bndO H
             obtain ⟨t262, A350, H⟩ := H
             have A35 := Aside0.mk A350
             clear A350
             replace H := bndO H
             obtain ⟨t263, A360, H⟩ := H
             have A36 := Aside0.mk A360
             clear A360
             replace H := bndO H
             obtain ⟨t264, A370, H⟩ := H
             have A37 := Aside0.mk A370
             clear A370
             replace H := bndO H
             obtain ⟨t265, A380, H⟩ := H
             have A38 := Aside0.mk A380
             clear A380
             by_cases c39 : x25_27 = true
             ·subst c39
              replace H := itT H
              replace H := itO H
              rcases H with ⟨c40, H⟩ | ⟨c40, H⟩
              ·skip
               have c40b0 : ((Op.bytesLess t262.toList t263.toList) == true) = true := c40
               (try (have c40b1 : decide ((Op.bytesLess t262.toList t263.toList) = true) = true := by simpa using c40))
               (try (have c40b2 : ((Op.bytesLess t262.toList t263.toList) == true) = true := by simpa using c40))
               clear c40
               replace H := itO H
               rcases H with ⟨c41, H⟩ | ⟨c41, H⟩
               ·skip
                have c41b0 : ((Op.bytesLess t264.toList t265.toList) == true) = true := c41
                (try (have c41b1 : decide ((Op.bytesLess t264.toList t265.toList) = true) = true := by simpa using c41))
                (try (have c41b2 : ((Op.bytesLess t264.toList t265.toList) == true) = true := by simpa using c41))
                clear c41
                replace H := bndO H
                obtain ⟨t266, A420, H⟩ := H
                have A42 := Aside0.mk A420
                clear A420
                clear hr
                obtain rfl := Option.some.inj H
                go_wp2_with (first | ((with_reducible refine gate_callee (f := 12) rfl ?_); refine goesL_ (some 105) rfl rfl Tryd.func12 (by kernel_rfl) rfl #[.string a0, .string a2, .int .i64 a4] rfl (by (try simp only [List.map_toArray, List.map_cons, List.map_nil]); first | done | rfl | (simp only [List.length_drop, List.length_take]; rfl)) ?_; (with_reducible refine (meta_ObjectKey.calls kj32 a0 a2 a4 t262 _ A35.out).mono ?_); rintro e w43 ⟨rfl, hb⟩; refine ⟨_, rfl, ?_⟩; have n0_ := Aside0.mk (below_step (by repeat (first | (with_reducible first | exact HB.out | apply below_alloc | apply pw_below_drewN | apply below_drew1) | exact HB.out)) hb); clear HB; have HB := n0_; clear n0_; (try clear hb); (try clear hb2); (try clear hk); (try clear hi)) | ((with_reducible refine gate_callee (f := 12) rfl ?_); refine goesL_ (some 109) rfl rfl Tryd.func12 (by kernel_rfl) rfl #[.string a1, .string a3, .int .i64 a5] rfl (by (try simp only [List.map_toArray, List.map_cons, List.map_nil]); first | done | rfl | (simp only [List.length_drop, List.length_take]; rfl)) ?_; (with_reducible refine (meta_ObjectKey.calls kj32 a1 a3 a5 t263 _ A36.out).mono ?_); rintro e w44 ⟨rfl, hb⟩; refine ⟨_, rfl, ?_⟩; have n0_ := Aside0.mk (below_step (by repeat (first | (with_reducible first | exact HB.out | apply below_alloc | apply pw_below_drewN | apply below_drew1) | exact HB.out)) hb); clear HB; have HB := n0_; clear n0_; (try clear hb); (try clear hb2); (try clear hk); (try clear hi)) | ((with_reducible refine gate_callee (f := 14) rfl ?_); refine goesL_ (some 114) rfl rfl Tryd.func14 (by kernel_rfl) rfl #[.string a0, .string a2, .int .i64 a4] rfl (by (try simp only [List.map_toArray, List.map_cons, List.map_nil]); first | done | rfl | (simp only [List.length_drop, List.length_take]; rfl)) ?_; (with_reducible refine (meta_UploadKey.calls kj32 a0 a2 a4 t264 _ A37.out).mono ?_); rintro e w45 ⟨rfl, hb⟩; refine ⟨_, rfl, ?_⟩; have n0_ := Aside0.mk (below_step (by repeat (first | (with_reducible first | exact HB.out | apply below_alloc | apply pw_below_drewN | apply below_drew1) | exact HB.out)) hb); clear HB; have HB := n0_; clear n0_; (try clear hb); (try clear hb2); (try clear hk); (try clear hi)) | ((with_reducible refine gate_callee (f := 14) rfl ?_); refine goesL_ (some 118) rfl rfl Tryd.func14 (by kernel_rfl) rfl #[.string a1, .string a3, .int .i64 a5] rfl (by (try simp only [List.map_toArray, List.map_cons, List.map_nil]); first | done | rfl | (simp only [List.length_drop, List.length_take]; rfl)) ?_; (with_reducible refine (meta_UploadKey.calls kj32 a1 a3 a5 t265 _ A38.out).mono ?_); rintro e w46 ⟨rfl, hb⟩; refine ⟨_, rfl, ?_⟩; have n0_ := Aside0.mk (below_step (by repeat (first | (with_reducible first | exact HB.out | apply below_alloc | apply pw_below_drewN | apply below_drew1) | exact HB.out)) hb); clear HB; have HB := n0_; clear n0_; (try clear hb); (try clear hb2); (try clear hk); (try clear hi)) | (go_at_call 20; (with_reducible refine (stowagelaw12_awake.calls kj32  t266 _ A42.out).mono ?_); rintro e w47 ⟨rfl, hb⟩; have n0_ := Aside0.mk (below_step (by repeat (first | (with_reducible first | exact HB.out | apply below_alloc | apply pw_below_drewN | apply below_drew1) | exact HB.out)) hb); clear HB; have HB := n0_; clear n0_; (try clear hb); (try clear hb2); (try clear hk); (try clear hi)))
                go_ret
                exact ⟨by first | rfl | (simp [errW_none, errW_some] <;> rfl) | (simp [*, errW_none, errW_some] <;> rfl), by repeat (first | (with_reducible first | exact HB.out | apply below_alloc | apply pw_below_drewN | apply below_drew1) | exact HB.out)⟩
               ·skip
                have c41b0 : ((Op.bytesLess t264.toList t265.toList) == true) = false := by simpa using c41
                (try (have c41b1 : decide ((Op.bytesLess t264.toList t265.toList) = true) = false := by simpa using c41))
                (try (have c41b2 : ((Op.bytesLess t264.toList t265.toList) == true) = false := by simpa using c41))
                (try (have c41b3 : ¬ ((Op.bytesLess t264.toList t265.toList) = true) := by simpa using c41))
                clear c41
                rw [hr] at H
                exact absurd H (by simp)
              ·skip
               have c40b0 : ((Op.bytesLess t262.toList t263.toList) == true) = false := by simpa using c40
               (try (have c40b1 : decide ((Op.bytesLess t262.toList t263.toList) = true) = false := by simpa using c40))
               (try (have c40b2 : ((Op.bytesLess t262.toList t263.toList) == true) = false := by simpa using c40))
               (try (have c40b3 : ¬ ((Op.bytesLess t262.toList t263.toList) = true) := by simpa using c40))
               clear c40
               rw [hr] at H
               exact absurd H (by simp)
             ·replace c39 := Bool.eq_false_iff.mpr c39
              subst c39
              replace H := itF H
              by_cases c48 : x26_32 = true
              ·subst c48
               replace H := itT H
               replace H := itO H
               rcases H with ⟨c49, H⟩ | ⟨c49, H⟩
               ·skip
                have c49b0 : ((Op.bytesLess t262.toList t263.toList) == (decide (a4 > a5))) = true := c49
                (try (have c49b1 : decide ((Op.bytesLess t262.toList t263.toList) = (decide (a4 > a5))) = true := by simpa using c49))
                (try (have c49b2 : ((Op.bytesLess t262.toList t263.toList) == (decide (a4 > a5))) = true := by simpa using c49))
                clear c49
                replace H := itO H
                rcases H with ⟨c50, H⟩ | ⟨c50, H⟩
                ·skip
                 have c50b0 : ((Op.bytesLess t264.toList t265.toList) == (decide (a4 < a5))) = true := c50
                 (try (have c50b1 : decide ((Op.bytesLess t264.toList t265.toList) = (decide (a4 < a5))) = true := by simpa using c50))
                 (try (have c50b2 : ((Op.bytesLess t264.toList t265.toList) == (decide (a4 < a5))) = true := by simpa using c50))
                 clear c50
                 replace H := bndO H
                 obtain ⟨t267, A510, H⟩ := H
                 have A51 := Aside0.mk A510
                 clear A510
                 clear hr
                 obtain rfl := Option.some.inj H
                 go_wp2_with (first | ((with_reducible refine gate_callee (f := 12) rfl ?_); refine goesL_ (some 105) rfl rfl Tryd.func12 (by kernel_rfl) rfl #[.string a0, .string a2, .int .i64 a4] rfl (by (try simp only [List.map_toArray, List.map_cons, List.map_nil]); first | done | rfl | (simp only [List.length_drop, List.length_take]; rfl)) ?_; (with_reducible refine (meta_ObjectKey.calls kj32 a0 a2 a4 t262 _ A35.out).mono ?_); rintro e w52 ⟨rfl, hb⟩; refine ⟨_, rfl, ?_⟩; have n0_ := Aside0.mk (below_step (by repeat (first | (with_reducible first | exact HB.out | apply below_alloc | apply pw_below_drewN | apply below_drew1) | exact HB.out)) hb); clear HB; have HB := n0_; clear n0_; (try clear hb); (try clear hb2); (try clear hk); (try clear hi)) | ((with_reducible refine gate_callee (f := 12) rfl ?_); refine goesL_ (some 109) rfl rfl Tryd.func12 (by kernel_rfl) rfl #[.string a1, .string a3, .int .i64 a5] rfl (by (try simp only [List.map_toArray, List.map_cons, List.map_nil]); first | done | rfl | (simp only [List.length_drop, List.length_take]; rfl)) ?_; (with_reducible refine (meta_ObjectKey.calls kj32 a1 a3 a5 t263 _ A36.out).mono ?_); rintro e w53 ⟨rfl, hb⟩; refine ⟨_, rfl, ?_⟩; have n0_ := Aside0.mk (below_step (by repeat (first | (with_reducible first | exact HB.out | apply below_alloc | apply pw_below_drewN | apply below_drew1) | exact HB.out)) hb); clear HB; have HB := n0_; clear n0_; (try clear hb); (try clear hb2); (try clear hk); (try clear hi)) | ((with_reducible refine gate_callee (f := 14) rfl ?_); refine goesL_ (some 114) rfl rfl Tryd.func14 (by kernel_rfl) rfl #[.string a0, .string a2, .int .i64 a4] rfl (by (try simp only [List.map_toArray, List.map_cons, List.map_nil]); first | done | rfl | (simp only [List.length_drop, List.length_take]; rfl)) ?_; (with_reducible refine (meta_UploadKey.calls kj32 a0 a2 a4 t264 _ A37.out).mono ?_); rintro e w54 ⟨rfl, hb⟩; refine ⟨_, rfl, ?_⟩; have n0_ := Aside0.mk (below_step (by repeat (first | (with_reducible first | exact HB.out | apply below_alloc | apply pw_below_drewN | apply below_drew1) | exact HB.out)) hb); clear HB; have HB := n0_; clear n0_; (try clear hb); (try clear hb2); (try clear hk); (try clear hi)) | ((with_reducible refine gate_callee (f := 14) rfl ?_); refine goesL_ (some 118) rfl rfl Tryd.func14 (by kernel_rfl) rfl #[.string a1, .string a3, .int .i64 a5] rfl (by (try simp only [List.map_toArray, List.map_cons, List.map_nil]); first | done | rfl | (simp only [List.length_drop, List.length_take]; rfl)) ?_; (with_reducible refine (meta_UploadKey.calls kj32 a1 a3 a5 t265 _ A38.out).mono ?_); rintro e w55 ⟨rfl, hb⟩; refine ⟨_, rfl, ?_⟩; have n0_ := Aside0.mk (below_step (by repeat (first | (with_reducible first | exact HB.out | apply below_alloc | apply pw_below_drewN | apply below_drew1) | exact HB.out)) hb); clear HB; have HB := n0_; clear n0_; (try clear hb); (try clear hb2); (try clear hk); (try clear hi)) | (go_at_call 20; (with_reducible refine (stowagelaw12_awake.calls kj32  t267 _ A51.out).mono ?_); rintro e w56 ⟨rfl, hb⟩; have n0_ := Aside0.mk (below_step (by repeat (first | (with_reducible first | exact HB.out | apply below_alloc | apply pw_below_drewN | apply below_drew1) | exact HB.out)) hb); clear HB; have HB := n0_; clear n0_; (try clear hb); (try clear hb2); (try clear hk); (try clear hi)))
                 go_ret
                 exact ⟨by first | rfl | (simp [errW_none, errW_some] <;> rfl) | (simp [*, errW_none, errW_some] <;> rfl), by repeat (first | (with_reducible first | exact HB.out | apply below_alloc | apply pw_below_drewN | apply below_drew1) | exact HB.out)⟩
                ·skip
                 have c50b0 : ((Op.bytesLess t264.toList t265.toList) == (decide (a4 < a5))) = false := by simpa using c50
                 (try (have c50b1 : decide ((Op.bytesLess t264.toList t265.toList) = (decide (a4 < a5))) = false := by simpa using c50))
                 (try (have c50b2 : ((Op.bytesLess t264.toList t265.toList) == (decide (a4 < a5))) = false := by simpa using c50))
                 (try (have c50b3 : ¬ ((Op.bytesLess t264.toList t265.toList) = (decide (a4 < a5))) := by simpa using c50))
                 clear c50
                 rw [hr] at H
                 exact absurd H (by simp)
               ·skip
                have c49b0 : ((Op.bytesLess t262.toList t263.toList) == (decide (a4 > a5))) = false := by simpa using c49
                (try (have c49b1 : decide ((Op.bytesLess t262.toList t263.toList) = (decide (a4 > a5))) = false := by simpa using c49))
                (try (have c49b2 : ((Op.bytesLess t262.toList t263.toList) == (decide (a4 > a5))) = false := by simpa using c49))
                (try (have c49b3 : ¬ ((Op.bytesLess t262.toList t263.toList) = (decide (a4 > a5))) := by simpa using c49))
                clear c49
                rw [hr] at H
                exact absurd H (by simp)
              ·replace c48 := Bool.eq_false_iff.mpr c48
               subst c48
               replace H := itF H
               replace H := itO H
               rcases H with ⟨c57, H⟩ | ⟨c57, H⟩
               ·skip
                have c57b0 : ((Op.bytesLess t262.toList t263.toList) == false) = true := c57
                (try (have c57b1 : decide ((Op.bytesLess t262.toList t263.toList) = false) = true := by simpa using c57))
                (try (have c57b2 : ((Op.bytesLess t262.toList t263.toList) == false) = true := by simpa using c57))
                clear c57
                replace H := itO H
                rcases H with ⟨c58, H⟩ | ⟨c58, H⟩
                ·skip
                 have c58b0 : ((Op.bytesLess t264.toList t265.toList) == false) = true := c58
                 (try (have c58b1 : decide ((Op.bytesLess t264.toList t265.toList) = false) = true := by simpa using c58))
                 (try (have c58b2 : ((Op.bytesLess t264.toList t265.toList) == false) = true := by simpa using c58))
                 clear c58
                 replace H := bndO H
                 obtain ⟨t268, A590, H⟩ := H
                 have A59 := Aside0.mk A590
                 clear A590
                 clear hr
                 obtain rfl := Option.some.inj H
                 go_wp2_with (first | ((with_reducible refine gate_callee (f := 12) rfl ?_); refine goesL_ (some 105) rfl rfl Tryd.func12 (by kernel_rfl) rfl #[.string a0, .string a2, .int .i64 a4] rfl (by (try simp only [List.map_toArray, List.map_cons, List.map_nil]); first | done | rfl | (simp only [List.length_drop, List.length_take]; rfl)) ?_; (with_reducible refine (meta_ObjectKey.calls kj32 a0 a2 a4 t262 _ A35.out).mono ?_); rintro e w60 ⟨rfl, hb⟩; refine ⟨_, rfl, ?_⟩; have n0_ := Aside0.mk (below_step (by repeat (first | (with_reducible first | exact HB.out | apply below_alloc | apply pw_below_drewN | apply below_drew1) | exact HB.out)) hb); clear HB; have HB := n0_; clear n0_; (try clear hb); (try clear hb2); (try clear hk); (try clear hi)) | ((with_reducible refine gate_callee (f := 12) rfl ?_); refine goesL_ (some 109) rfl rfl Tryd.func12 (by kernel_rfl) rfl #[.string a1, .string a3, .int .i64 a5] rfl (by (try simp only [List.map_toArray, List.map_cons, List.map_nil]); first | done | rfl | (simp only [List.length_drop, List.length_take]; rfl)) ?_; (with_reducible refine (meta_ObjectKey.calls kj32 a1 a3 a5 t263 _ A36.out).mono ?_); rintro e w61 ⟨rfl, hb⟩; refine ⟨_, rfl, ?_⟩; have n0_ := Aside0.mk (below_step (by repeat (first | (with_reducible first | exact HB.out | apply below_alloc | apply pw_below_drewN | apply below_drew1) | exact HB.out)) hb); clear HB; have HB := n0_; clear n0_; (try clear hb); (try clear hb2); (try clear hk); (try clear hi)) | ((with_reducible refine gate_callee (f := 14) rfl ?_); refine goesL_ (some 114) rfl rfl Tryd.func14 (by kernel_rfl) rfl #[.string a0, .string a2, .int .i64 a4] rfl (by (try simp only [List.map_toArray, List.map_cons, List.map_nil]); first | done | rfl | (simp only [List.length_drop, List.length_take]; rfl)) ?_; (with_reducible refine (meta_UploadKey.calls kj32 a0 a2 a4 t264 _ A37.out).mono ?_); rintro e w62 ⟨rfl, hb⟩; refine ⟨_, rfl, ?_⟩; have n0_ := Aside0.mk (below_step (by repeat (first | (with_reducible first | exact HB.out | apply below_alloc | apply pw_below_drewN | apply below_drew1) | exact HB.out)) hb); clear HB; have HB := n0_; clear n0_; (try clear hb); (try clear hb2); (try clear hk); (try clear hi)) | ((with_reducible refine gate_callee (f := 14) rfl ?_); refine goesL_ (some 118) rfl rfl Tryd.func14 (by kernel_rfl) rfl #[.string a1, .string a3, .int .i64 a5] rfl (by (try simp only [List.map_toArray, List.map_cons, List.map_nil]); first | done | rfl | (simp only [List.length_drop, List.length_take]; rfl)) ?_; (with_reducible refine (meta_UploadKey.calls kj32 a1 a3 a5 t265 _ A38.out).mono ?_); rintro e w63 ⟨rfl, hb⟩; refine ⟨_, rfl, ?_⟩; have n0_ := Aside0.mk (below_step (by repeat (first | (with_reducible first | exact HB.out | apply below_alloc | apply pw_below_drewN | apply below_drew1) | exact HB.out)) hb); clear HB; have HB := n0_; clear n0_; (try clear hb); (try clear hb2); (try clear hk); (try clear hi)) | (go_at_call 20; (with_reducible refine (stowagelaw12_awake.calls kj32  t268 _ A59.out).mono ?_); rintro e w64 ⟨rfl, hb⟩; have n0_ := Aside0.mk (below_step (by repeat (first | (with_reducible first | exact HB.out | apply below_alloc | apply pw_below_drewN | apply below_drew1) | exact HB.out)) hb); clear HB; have HB := n0_; clear n0_; (try clear hb); (try clear hb2); (try clear hk); (try clear hi)))
                 go_ret
                 exact ⟨by first | rfl | (simp [errW_none, errW_some] <;> rfl) | (simp [*, errW_none, errW_some] <;> rfl), by repeat (first | (with_reducible first | exact HB.out | apply below_alloc | apply pw_below_drewN | apply below_drew1) | exact HB.out)⟩
                ·skip
                 have c58b0 : ((Op.bytesLess t264.toList t265.toList) == false) = false := by simpa using c58
                 (try (have c58b1 : decide ((Op.bytesLess t264.toList t265.toList) = false) = false := by simpa using c58))
                 (try (have c58b2 : ((Op.bytesLess t264.toList t265.toList) == false) = false := by simpa using c58))
                 (try (have c58b3 : ¬ ((Op.bytesLess t264.toList t265.toList) = false) := by simpa using c58))
                 clear c58
                 rw [hr] at H
                 exact absurd H (by simp)
               ·skip
                have c57b0 : ((Op.bytesLess t262.toList t263.toList) == false) = false := by simpa using c57
                (try (have c57b1 : decide ((Op.bytesLess t262.toList t263.toList) = false) = false := by simpa using c57))
                (try (have c57b2 : ((Op.bytesLess t262.toList t263.toList) == false) = false := by simpa using c57))
                (try (have c57b3 : ¬ ((Op.bytesLess t262.toList t263.toList) = false) := by simpa using c57))
                clear c57
                rw [hr] at H
                exact absurd H (by simp)
        ·replace c27 := Bool.eq_false_iff.mpr c27
         subst c27
         replace H := itF H
         replace H := bndO H
         obtain ⟨t261, A650, H⟩ := H
         have A65 := Aside0.mk A650
         clear A650
         clear hr
         obtain rfl := Option.some.inj H
         go_wp2_with (first | ((with_reducible refine gate_callee (f := 14) rfl ?_); refine goesL_ (some 72) rfl rfl Tryd.func14 (by kernel_rfl) rfl #[.string a1, .string a3, .int .i64 a5] rfl (by (try simp only [List.map_toArray, List.map_cons, List.map_nil]); first | done | rfl | (simp only [List.length_drop, List.length_take]; rfl)) ?_; (with_reducible refine (meta_UploadKey.calls kj14 a1 a3 a5 t256 _ A25.out).mono ?_); rintro e w66 ⟨rfl, hb⟩; refine ⟨_, rfl, ?_⟩; have n0_ := Aside0.mk (below_step (by repeat (first | (with_reducible first | exact HB.out | apply below_alloc | apply pw_below_drewN | apply below_drew1) | exact HB.out)) hb); clear HB; have HB := n0_; clear n0_; (try clear hb); (try clear hb2); (try clear hk); (try clear hi)) | ((with_reducible refine gate_callee (f := 22) rfl ?_); refine goesL_ (some 73) rfl rfl Tryd.func22 (by kernel_rfl) rfl #[.string t256] rfl (by (try simp only [List.map_toArray, List.map_cons, List.map_nil]); first | done | rfl | (simp only [List.length_drop, List.length_take]; rfl)) ?_; (with_reducible refine (meta_ParseUpload.calls kj14 t256 t257 t258 t259 false _ A26.out).mono ?_); rintro e w67 ⟨rfl, hb⟩; refine ⟨_, rfl, ?_⟩; have n0_ := Aside0.mk (below_step (by repeat (first | (with_reducible first | exact HB.out | apply below_alloc | apply pw_below_drewN | apply below_drew1) | exact HB.out)) hb); clear HB; have HB := n0_; clear n0_; (try clear hb); (try clear hb2); (try clear hk); (try clear hi)) | ((with_reducible refine gate_callee (f := 20) rfl ?_); refine goesL_ (some 80) rfl rfl Tryd.func20 (by kernel_rfl) rfl #[] rfl (by (try simp only [List.map_toArray, List.map_cons, List.map_nil]); first | done | rfl | (simp only [List.length_drop, List.length_take]; rfl)) ?_; (with_reducible refine (stowagelaw12_awake.calls kj14  t261 _ A65.out).mono ?_); rintro e w68 ⟨rfl, hb⟩; refine ⟨_, rfl, ?_⟩; have n0_ := Aside0.mk (below_step (by repeat (first | (with_reducible first | exact HB.out | apply below_alloc | apply pw_below_drewN | apply below_drew1) | exact HB.out)) hb); clear HB; have HB := n0_; clear n0_; (try clear hb); (try clear hb2); (try clear hk); (try clear hi)))
         go_ret
         exact ⟨by first | rfl | (simp [errW_none, errW_some] <;> rfl) | (simp [*, errW_none, errW_some] <;> rfl), by repeat (first | (with_reducible first | exact HB.out | apply below_alloc | apply pw_below_drewN | apply below_drew1) | exact HB.out)⟩
    ·replace c12 := Bool.eq_false_iff.mpr c12
     subst c12
     replace H := itF H
     replace H := bndO H
     obtain ⟨t249, A690, H⟩ := H
     have A69 := Aside0.mk A690
     clear A690
     clear hr
     obtain rfl := Option.some.inj H
     go_enter Tryd.func4, Tryd.ntmps4
     go_wp2_with (first | ((with_reducible refine gate_callee (f := 21) rfl ?_); refine goesL_ (some 32) rfl rfl Tryd.func21 (by kernel_rfl) rfl #[.string ((⟨#[66]⟩ : ByteArray) ++ a0)] rfl (by (try simp only [List.map_toArray, List.map_cons, List.map_nil]); first | done | rfl | (simp only [List.length_drop, List.length_take]; rfl)) ?_; (with_reducible refine (meta_ParseBucket.calls k ((⟨#[66]⟩ : ByteArray) ++ a0) t244 true _ A8.out).mono ?_); rintro e w70 ⟨rfl, hb⟩; refine ⟨_, rfl, ?_⟩; have n0_ := Aside0.mk (below_step (by repeat (first | (with_reducible first | exact HB.out | apply below_alloc | apply pw_below_drewN | apply below_drew1) | exact HB.out)) hb); clear HB; have HB := n0_; clear n0_; (try clear hb); (try clear hb2); (try clear hk); (try clear hi)) | ((with_reducible refine gate_callee (f := 21) rfl ?_); refine goesL_ (some 41) rfl rfl Tryd.func21 (by kernel_rfl) rfl #[.string ((⟨#[66]⟩ : ByteArray) ++ a1)] rfl (by (try simp only [List.map_toArray, List.map_cons, List.map_nil]); first | done | rfl | (simp only [List.length_drop, List.length_take]; rfl)) ?_; (with_reducible refine (meta_ParseBucket.calls k ((⟨#[66]⟩ : ByteArray) ++ a1) t247 false _ A11.out).mono ?_); rintro e w71 ⟨rfl, hb⟩; refine ⟨_, rfl, ?_⟩; have n0_ := Aside0.mk (below_step (by repeat (first | (with_reducible first | exact HB.out | apply below_alloc | apply pw_below_drewN | apply below_drew1) | exact HB.out)) hb); clear HB; have HB := n0_; clear n0_; (try clear hb); (try clear hb2); (try clear hk); (try clear hi)) | ((with_reducible refine gate_callee (f := 20) rfl ?_); refine goesL_ (some 46) rfl rfl Tryd.func20 (by kernel_rfl) rfl #[] rfl (by (try simp only [List.map_toArray, List.map_cons, List.map_nil]); first | done | rfl | (simp only [List.length_drop, List.length_take]; rfl)) ?_; (with_reducible refine (stowagelaw12_awake.calls k  t249 _ A69.out).mono ?_); rintro e w72 ⟨rfl, hb⟩; refine ⟨_, rfl, ?_⟩; have n0_ := Aside0.mk (below_step (by repeat (first | (with_reducible first | exact HB.out | apply below_alloc | apply pw_below_drewN | apply below_drew1) | exact HB.out)) hb); clear HB; have HB := n0_; clear n0_; (try clear hb); (try clear hb2); (try clear hk); (try clear hi)))
     go_ret
     exact ⟨by first | rfl | (simp [errW_none, errW_some] <;> rfl) | (simp [*, errW_none, errW_some] <;> rfl), by repeat (first | (with_reducible first | exact HB.out | apply below_alloc | apply pw_below_drewN | apply below_drew1) | exact HB.out)⟩
   ·exact absurd H (by simp)
  ·replace c9 := Bool.eq_false_iff.mpr c9
   subst c9
   replace H := itF H
   replace H := bndO H
   obtain ⟨t246, A730, H⟩ := H
   have A73 := Aside0.mk A730
   clear A730
   clear hr
   obtain rfl := Option.some.inj H
   go_enter Tryd.func4, Tryd.ntmps4
   go_wp2_with (first | ((with_reducible refine gate_callee (f := 21) rfl ?_); refine goesL_ (some 32) rfl rfl Tryd.func21 (by kernel_rfl) rfl #[.string ((⟨#[66]⟩ : ByteArray) ++ a0)] rfl (by (try simp only [List.map_toArray, List.map_cons, List.map_nil]); first | done | rfl | (simp only [List.length_drop, List.length_take]; rfl)) ?_; (with_reducible refine (meta_ParseBucket.calls k ((⟨#[66]⟩ : ByteArray) ++ a0) t244 false _ A8.out).mono ?_); rintro e w74 ⟨rfl, hb⟩; refine ⟨_, rfl, ?_⟩; have n0_ := Aside0.mk (below_step (by repeat (first | (with_reducible first | exact HB.out | apply below_alloc | apply pw_below_drewN | apply below_drew1) | exact HB.out)) hb); clear HB; have HB := n0_; clear n0_; (try clear hb); (try clear hb2); (try clear hk); (try clear hi)) | ((with_reducible refine gate_callee (f := 20) rfl ?_); refine goesL_ (some 37) rfl rfl Tryd.func20 (by kernel_rfl) rfl #[] rfl (by (try simp only [List.map_toArray, List.map_cons, List.map_nil]); first | done | rfl | (simp only [List.length_drop, List.length_take]; rfl)) ?_; (with_reducible refine (stowagelaw12_awake.calls k  t246 _ A73.out).mono ?_); rintro e w75 ⟨rfl, hb⟩; refine ⟨_, rfl, ?_⟩; have n0_ := Aside0.mk (below_step (by repeat (first | (with_reducible first | exact HB.out | apply below_alloc | apply pw_below_drewN | apply below_drew1) | exact HB.out)) hb); clear HB; have HB := n0_; clear n0_; (try clear hb); (try clear hb2); (try clear hk); (try clear hi)))
   go_ret
   exact ⟨by first | rfl | (simp [errW_none, errW_some] <;> rfl) | (simp [*, errW_none, errW_some] <;> rfl), by repeat (first | (with_reducible first | exact HB.out | apply below_alloc | apply pw_below_drewN | apply below_drew1) | exact HB.out)⟩
 ·exact absurd H (by simp)
def stowagelaw12_MetaOrder.Pure : Prop := ∀ (a0 : ByteArray) (a1 : ByteArray) (a2 : ByteArray) (a3 : ByteArray) (a4 : Int) (a5 : Int), a0.size ≤ 140737488351232 → a1.size ≤ 140737488351232 → a2.size ≤ 140737488351232 → a3.size ≤ 140737488351232 → (Lit.int .i64 a4).wf = true → (Lit.int .i64 a5).wf = true → ∃ k, stowagelaw12_MetaOrder.f k a0 a1 a2 a3 a4 a5 = some true
theorem stowagelaw12_MetaOrder.walk (P : stowagelaw12_MetaOrder.Pure) (a0 : ByteArray) (a1 : ByteArray) (a2 : ByteArray) (a3 : ByteArray) (a4 : Int) (a5 : Int) (w : World) (w0 : a0.size ≤ 140737488351232) (w1 : a1.size ≤ 140737488351232) (w2 : a2.size ≤ 140737488351232) (w3 : a3.size ≤ 140737488351232) (w4 : (Lit.int .i64 a4).wf = true) (w5 : (Lit.int .i64 a5).wf = true) :
  Calls Tryd.prog 4 #[.string a0, .string a1, .string a2, .string a3, .int .i64 a4, .int .i64 a5] w fun e w' => e = .returned (.bool true) ∧ Below w.heap.size w w' := by
 obtain ⟨k, h⟩ := P a0 a1 a2 a3 a4 a5 w0 w1 w2 w3 w4 w5
 refine (stowagelaw12_MetaOrder.calls k a0 a1 a2 a3 a4 a5 true w h rfl).mono ?_
 rintro e w' ⟨rfl, hd⟩
 exact ⟨rfl, hd⟩
end Go.Proofs.YtieejapamkokaaaDoor.Q
