/- A part of the proof of the seat's laws. No condition beyond those in the theorems. -/
import Derived.Test.YtahfaiamonadmaaDoorZQ0g2
import Derived.Test.YtahfaiamonadmaaDoorZQ46g2
import Derived.Lib.Hide

namespace Go.Proofs.YtahfaiamonadmaaDoor.Q
open Go.RowKit Go.Proofs.YtahfaiamonadmaaDoorW.PrintWords Go.Proofs.YtahfaiamonadmaaDoorW.PrintLast Go.Proofs.YtahfaiamonadmaaDoorW.PrintMore
set_option linter.unusedVariables false
set_option linter.unusedSimpArgs false
attribute [local go_sem] max2_int min2_int max_two min_two max_three min_three max_four min_four   
mutual
def stowageref3_Fold.l0 : Nat → ByteArray → ByteArray → Int → Option (ByteArray)
 | 0, _, _, _ => none
 | k + 1, x0, x3, x4 => if x4 < (x0.size : Int) then (if 0 ≤ x4 then (if (bt x0 x4) = 32 then (stowageref3_Fold.j1 k x0 x3 x4 true) else (stowageref3_Fold.j1 k x0 x3 x4 ((bt x0 x4) == 9))) else (none)) else (some x3)
def stowageref3_Fold.j1 : Nat → ByteArray → ByteArray → Int → Bool → Option (ByteArray)
 | 0, _, _, _, _ => none
 | k + 1, x0, x3, x4, x5 => if x5 = true then (if 0 ≤ (wrap64 (x4 - 1)) then (if (wrap64 (x4 - 1)) < (x0.size : Int) then (if (bt x0 (wrap64 (x4 - 1))) = 32 then (stowageref3_Fold.j2 k x0 x3 x4 x5 true) else (stowageref3_Fold.j2 k x0 x3 x4 x5 ((bt x0 (wrap64 (x4 - 1))) == 9))) else (none)) else (none)) else (stowageref3_Fold.j2 k x0 x3 x4 x5 false)
def stowageref3_Fold.j2 : Nat → ByteArray → ByteArray → Int → Bool → Bool → Option (ByteArray)
 | 0, _, _, _, _, _ => none
 | k + 1, x0, x3, x4, x5, x38 => if x38 = true then (stowageref3_Fold.l0 k x0 x3 (wrap64 (x4 + 1))) else (if x5 = true then (if x3.size + 1 ≤ 9223372036854775807 then (stowageref3_Fold.l0 k x0 (x3 ++ (⟨#[32]⟩ : ByteArray)) (wrap64 (x4 + 1))) else (none)) else (if 0 ≤ x4 then (if x4 ≤ (wrap64 (x4 + 1)) then (if (wrap64 (x4 + 1)) ≤ (x0.size : Int) then (if x3.size + (x0.extract (x4 : Int).toNat ((wrap64 (x4 + 1)) : Int).toNat).size ≤ 9223372036854775807 then (stowageref3_Fold.l0 k x0 (x3 ++ (x0.extract (x4 : Int).toNat ((wrap64 (x4 + 1)) : Int).toNat)) (wrap64 (x4 + 1))) else (none)) else (none)) else (none)) else (none)))
end
def stowageref3_Fold.f (k : Nat) (a0 : ByteArray) : Option (ByteArray) := (stowageref3_Trim.f k a0).bind fun t151 => (stowageref3_Fold.l0 k t151 (⟨#[]⟩ : ByteArray) 0)
theorem stowageref3_Fold.mono_l : ∀ k, (∀ y0 y1 y2, LeO (stowageref3_Fold.l0 k y0 y1 y2) (stowageref3_Fold.l0 (k + 1) y0 y1 y2)) ∧ (∀ y0 y1 y2 y3, LeO (stowageref3_Fold.j1 k y0 y1 y2 y3) (stowageref3_Fold.j1 (k + 1) y0 y1 y2 y3)) ∧ (∀ y0 y1 y2 y3 y4, LeO (stowageref3_Fold.j2 k y0 y1 y2 y3 y4) (stowageref3_Fold.j2 (k + 1) y0 y1 y2 y3 y4))
 | 0 => ⟨fun _ _ _ r h => by simp [stowageref3_Fold.l0] at h, fun _ _ _ _ r h => by simp [stowageref3_Fold.j1] at h, fun _ _ _ _ _ r h => by simp [stowageref3_Fold.j2] at h⟩
 | k + 1 => by
  obtain ⟨ih0, ih1, ih2⟩ := stowageref3_Fold.mono_l k
  refine ⟨?_, ?_, ?_⟩
  ·intro y0 y1 y2
   unfold stowageref3_Fold.l0
   repeat' first
   | (with_reducible exact ih0 _ _ _)
   | (with_reducible exact ih1 _ _ _ _)
   | (with_reducible exact ih2 _ _ _ _ _)
   | (with_reducible exact stowageref3_Trim.mono _ _)
   | (with_reducible exact LeO.refl _)
   | (with_reducible exact LeO.none _)
   | (with_reducible refine LeO.ite ?_ ?_)
   | (with_reducible refine LeO.bind ?_ (fun _ => ?_))
   | exact ih0 _ _ _
   | exact ih1 _ _ _ _
   | exact ih2 _ _ _ _ _
   | exact stowageref3_Trim.mono _ _
   | exact LeO.none _
   | refine LeO.ite ?_ ?_
   | refine LeO.bind ?_ (fun _ => ?_)
  ·intro y0 y1 y2 y3
   unfold stowageref3_Fold.j1
   repeat' first
   | (with_reducible exact ih0 _ _ _)
   | (with_reducible exact ih1 _ _ _ _)
   | (with_reducible exact ih2 _ _ _ _ _)
   | (with_reducible exact stowageref3_Trim.mono _ _)
   | (with_reducible exact LeO.refl _)
   | (with_reducible exact LeO.none _)
   | (with_reducible refine LeO.ite ?_ ?_)
   | (with_reducible refine LeO.bind ?_ (fun _ => ?_))
   | exact ih0 _ _ _
   | exact ih1 _ _ _ _
   | exact ih2 _ _ _ _ _
   | exact stowageref3_Trim.mono _ _
   | exact LeO.none _
   | refine LeO.ite ?_ ?_
   | refine LeO.bind ?_ (fun _ => ?_)
  ·intro y0 y1 y2 y3 y4
   unfold stowageref3_Fold.j2
   repeat' first
   | (with_reducible exact ih0 _ _ _)
   | (with_reducible exact ih1 _ _ _ _)
   | (with_reducible exact ih2 _ _ _ _ _)
   | (with_reducible exact stowageref3_Trim.mono _ _)
   | (with_reducible exact LeO.refl _)
   | (with_reducible exact LeO.none _)
   | (with_reducible refine LeO.ite ?_ ?_)
   | (with_reducible refine LeO.bind ?_ (fun _ => ?_))
   | exact ih0 _ _ _
   | exact ih1 _ _ _ _
   | exact ih2 _ _ _ _ _
   | exact stowageref3_Trim.mono _ _
   | exact LeO.none _
   | refine LeO.ite ?_ ?_
   | refine LeO.bind ?_ (fun _ => ?_)
theorem stowageref3_Fold.mono : ∀ a0 k, LeO (stowageref3_Fold.f k a0) (stowageref3_Fold.f (k + 1) a0) := by
 intro a0 k
 obtain ⟨ih0, ih1, ih2⟩ := stowageref3_Fold.mono_l k
 unfold stowageref3_Fold.f
 repeat' first
   | (with_reducible exact ih0 _ _ _)
   | (with_reducible exact ih1 _ _ _ _)
   | (with_reducible exact ih2 _ _ _ _ _)
   | (with_reducible exact stowageref3_Trim.mono _ _)
   | (with_reducible exact LeO.refl _)
   | (with_reducible exact LeO.none _)
   | (with_reducible refine LeO.ite ?_ ?_)
   | (with_reducible refine LeO.bind ?_ (fun _ => ?_))
   | exact ih0 _ _ _
   | exact ih1 _ _ _ _
   | exact ih2 _ _ _ _ _
   | exact stowageref3_Trim.mono _ _
   | exact LeO.none _
   | refine LeO.ite ?_ ?_
   | refine LeO.bind ?_ (fun _ => ?_)
set_option maxHeartbeats 8000000 in
set_option maxRecDepth 100000 in
theorem stowageref3_Fold.calls (k : Nat) (a0 : ByteArray) (r : ByteArray) (w : World) (h : stowageref3_Fold.f k a0 = some r) :
  Calls Tryd.prog 31 #[.string a0] w fun e w' => e = .returned (.string r) ∧ Drawn0 w w' := by
 unfold stowageref3_Fold.f at h
 have H := h
 clear h
 replace H := bndO H
 obtain ⟨t151, A20, H⟩ := H
 have A2 := Aside0.mk A20
 clear A20
 have H' := Aside0.mk H
 clear H
 go_enter Tryd.func31, Tryd.ntmps31
 go_wp2_with (first | ((with_reducible refine gate_callee (f := 30) rfl ?_); refine goesL_ (some 7) rfl rfl Tryd.func30 (by kernel_rfl) rfl #[.string a0] rfl (by (try simp only [List.map_toArray, List.map_cons, List.map_nil]); first | done | rfl | (simp only [List.length_drop, List.length_take]; rfl)) ?_; (with_reducible refine (stowageref3_Trim.calls k a0 t151 _ A2.out).mono ?_); rintro e w' ⟨rfl, ⟨nd, rfl⟩⟩; refine ⟨_, rfl, ?_⟩))
 go_loopg [3, 4] k (fun kq v3 v4 w' => ∃ (x3_1 : ByteArray) (x4_1 : Int), v3 = .string x3_1 ∧ v4 = .int .i64 x4_1 ∧ Aside0 (stowageref3_Fold.l0 kq t151 x3_1 x4_1 = some r) ∧ Aside0 (kq ≤ k) ∧ Drawn0 w w')
 case atStart => exact ⟨((⟨#[]⟩ : ByteArray)), (0), (by first | rfl | (simp; done) | (simp [*]; done)), (by first | rfl | (simp; done) | (simp [*]; done)), H', ⟨Nat.le_refl _⟩, by repeat (first | exact Drawn0.refl _ | apply Drawn0.step)⟩
 case round =>
  clear H'
  try clear p2
  obtain ⟨x3_1, x4_1, rfl, rfl, HA, HK1, ⟨m1, rfl⟩⟩ := hrel
  cases gk with
  | zero => exact absurd HA.out (by simp [stowageref3_Fold.l0])
  | succ k1 =>
   have H := HA.out
   clear HA
   simp only [stowageref3_Fold.l0] at H
   replace H := itO H
   rcases H with ⟨c3, H⟩ | ⟨c3, H⟩
   ·skip
    have c3b0 : decide (x4_1 < (t151.size : Int)) = true := decide_eq_true c3
    clear c3
    have HC4 := Aside0.mk H
    clear H
    go_upto_region 6 with (fail)
    go_cut [5] (fun v5 wc => ∃ (kq : Nat) (x5_3 : Bool), v5 = .bool x5_3 ∧ Aside0 (stowageref3_Fold.j1 kq t151 x3_1 x4_1 x5_3 = some r) ∧ Aside0 (kq ≤ k1) ∧ Drawn0 w wc)
    case first =>
     have H := HC4.out
     clear HC4
     replace H := itO H
     rcases H with ⟨c5, H⟩ | ⟨c5, H⟩
     ·skip
      have c5b0 : decide (0 ≤ x4_1) = true := decide_eq_true c5
      clear c5
      (first | rw [c5b0] | (simp only [i64_w, i32_w]; rw [c5b0]) | skip)
      replace H := itO H
      rcases H with ⟨c7, H⟩ | ⟨c7, H⟩
      ·skip
       have c7b0 : ((bt t151 x4_1) == 32) = true := beq_iff_eq.mpr c7
       have c7b1 : ((bt t151 x4_1) != 32) = false := bne_eq_false_iff_eq.mpr c7
       clear c7
       have H' := Aside0.mk H
       clear H
       have p6 : 0 ≤ (x4_1 : Int) := of_decide_eq_true (by first | (with_reducible assumption) | assumption)
       have q6 : x4_1 < (t151.size : Int) := of_decide_eq_true (by first | (with_reducible assumption) | assumption)
       have hx6 := bt_at t151 x4_1
       replace p6 := eq_true p6
       replace q6 := eq_true q6
       go_wp2
       go_meet
       case rel => exact ⟨_, (true), (by first | rfl | (simp; done) | (simp [*]; done)), H', ⟨by have := HK1.out; first | omega | exact Nat.le_refl _⟩, by repeat (first | exact Drawn0.refl _ | apply Drawn0.step)⟩
      ·skip
       have c7b0 : ((bt t151 x4_1) == 32) = false := beq_eq_false_iff_ne.mpr c7
       have c7b1 : ((bt t151 x4_1) != 32) = true := bne_iff_ne.mpr c7
       have H' := Aside0.mk H
       clear H
       have p6 : 0 ≤ (x4_1 : Int) := of_decide_eq_true (by first | (with_reducible assumption) | assumption)
       have q6 : x4_1 < (t151.size : Int) := of_decide_eq_true (by first | (with_reducible assumption) | assumption)
       have hx6 := bt_at t151 x4_1
       replace p6 := eq_true p6
       replace q6 := eq_true q6
       have p8 : 0 ≤ (x4_1 : Int) := of_decide_eq_true (by first | (with_reducible assumption) | assumption)
       have q8 : x4_1 < (t151.size : Int) := of_decide_eq_true (by first | (with_reducible assumption) | assumption)
       have hx8 := bt_at t151 x4_1
       replace p8 := eq_true p8
       replace q8 := eq_true q8
       go_wp2
       go_meet
       case rel => exact ⟨_, (((bt t151 x4_1) == 9)), (by first | rfl | (simp; done) | (simp [*]; done)), H', ⟨by have := HK1.out; first | omega | exact Nat.le_refl _⟩, by repeat (first | exact Drawn0.refl _ | apply Drawn0.step)⟩
     ·exact absurd H (by simp)
    case rest =>
     clear HC4
     try clear p2
     try clear c3
     try clear c3b0
     try clear c5
     try clear c5b0
     try clear p6
     try clear q6
     try clear hx6
     try clear c7
     try clear c7b0
     try clear c7b1
     try clear p8
     try clear q8
     try clear hx8
     try clear p2
     try clear p6
     try clear p8
     try clear q6
     try clear q8
     obtain ⟨kq, x5_3, rfl, HA, HJ3, ⟨mc3, rfl⟩⟩ := hcut
     cases kq with
     | zero => exact absurd HA.out (by simp [stowageref3_Fold.j1])
     | succ kj3 =>
      have H := HA.out
      clear HA
      simp only [stowageref3_Fold.j1] at H
      have HC9 := Aside0.mk H
      clear H
      go_upto_region 7 with (fail)
      go_cut [38] (fun v38 wc => ∃ (kq : Nat) (x38_8 : Bool), v38 = .bool x38_8 ∧ Aside0 (stowageref3_Fold.j2 kq t151 x3_1 x4_1 x5_3 x38_8 = some r) ∧ Aside0 (kq ≤ kj3) ∧ Drawn0 w wc)
      case first =>
       have H := HC9.out
       clear HC9
       by_cases c10 : x5_3 = true
       ·subst c10
        replace H := itT H
        obtain ⟨ji11, hji11⟩ : ∃ j_ : Int, (wrap64 (x4_1 - 1)) = j_ := ⟨_, rfl⟩
        first | rw [hji11] at H | simp only [hji11] at H
        have hji11w : (IntKind.i64.wrap (x4_1 - 1)) = ji11 := (i64_w _).trans hji11
        replace H := itO H
        rcases H with ⟨c12, H⟩ | ⟨c12, H⟩
        ·skip
         have c12b0 : decide (0 ≤ (ji11)) = true := decide_eq_true c12
         clear c12
         (first | rw [c12b0] | (simp only [i64_w, i32_w]; rw [c12b0]) | skip)
         replace H := itO H
         rcases H with ⟨c13, H⟩ | ⟨c13, H⟩
         ·skip
          have c13b0 : decide ((ji11) < (t151.size : Int)) = true := decide_eq_true c13
          clear c13
          replace H := itO H
          rcases H with ⟨c15, H⟩ | ⟨c15, H⟩
          ·skip
           have c15b0 : ((bt t151 (ji11)) == 32) = true := beq_iff_eq.mpr c15
           have c15b1 : ((bt t151 (ji11)) != 32) = false := bne_eq_false_iff_eq.mpr c15
           clear c15
           have H' := Aside0.mk H
           clear H
           have p14 : 0 ≤ ((ji11) : Int) := of_decide_eq_true (by first | (with_reducible assumption) | assumption)
           have q14 : (ji11) < (t151.size : Int) := of_decide_eq_true (by first | (with_reducible assumption) | assumption)
           have hx14 := bt_at t151 (ji11)
           replace p14 := eq_true p14
           replace q14 := eq_true q14
           go_wp2
           go_meet
           case rel => exact ⟨_, (true), (by first | rfl | (simp; done) | (simp [*]; done)), H', ⟨by have := HK1.out; have := HJ3.out; first | omega | exact Nat.le_refl _⟩, by repeat (first | exact Drawn0.refl _ | apply Drawn0.step)⟩
          ·skip
           have c15b0 : ((bt t151 (ji11)) == 32) = false := beq_eq_false_iff_ne.mpr c15
           have c15b1 : ((bt t151 (ji11)) != 32) = true := bne_iff_ne.mpr c15
           have H' := Aside0.mk H
           clear H
           have p14 : 0 ≤ ((ji11) : Int) := of_decide_eq_true (by first | (with_reducible assumption) | assumption)
           have q14 : (ji11) < (t151.size : Int) := of_decide_eq_true (by first | (with_reducible assumption) | assumption)
           have hx14 := bt_at t151 (ji11)
           replace p14 := eq_true p14
           replace q14 := eq_true q14
           have p16 : 0 ≤ ((ji11) : Int) := of_decide_eq_true (by first | (with_reducible assumption) | assumption)
           have q16 : (ji11) < (t151.size : Int) := of_decide_eq_true (by first | (with_reducible assumption) | assumption)
           have hx16 := bt_at t151 (ji11)
           replace p16 := eq_true p16
           replace q16 := eq_true q16
           go_wp2
           go_meet
           case rel => exact ⟨_, (((bt t151 (ji11)) == 9)), (by first | rfl | (simp; done) | (simp only [← hji11] <;> (first | rfl | simp)) | (simp [*]; done)), H', ⟨by have := HK1.out; have := HJ3.out; first | omega | exact Nat.le_refl _⟩, by repeat (first | exact Drawn0.refl _ | apply Drawn0.step)⟩
         ·exact absurd H (by simp)
        ·exact absurd H (by simp)
       ·replace c10 := Bool.eq_false_iff.mpr c10
        subst c10
        replace H := itF H
        have H' := Aside0.mk H
        clear H
        go_wp2
        go_meet
        case rel => exact ⟨_, (false), (by first | rfl | (simp; done) | (simp [*]; done)), H', ⟨by have := HK1.out; have := HJ3.out; first | omega | exact Nat.le_refl _⟩, by repeat (first | exact Drawn0.refl _ | apply Drawn0.step)⟩
      case rest =>
       clear HC9
       try clear c1
       try clear p1
       try clear q1
       try clear hx1
       try clear p2
       try clear c3
       try clear c3b0
       try clear c5
       try clear c5b0
       try clear p6
       try clear q6
       try clear hx6
       try clear c7
       try clear c7b0
       try clear c7b1
       try clear p8
       try clear q8
       try clear hx8
       try clear c10
       try clear c12
       try clear c12b0
       try clear c13
       try clear c13b0
       try clear p14
       try clear q14
       try clear hx14
       try clear c15
       try clear c15b0
       try clear c15b1
       try clear p16
       try clear q16
       try clear hx16
       try clear p14
       try clear p16
       try clear p2
       try clear p6
       try clear p8
       try clear q14
       try clear q16
       try clear q6
       try clear q8
       obtain ⟨kq, x38_8, rfl, HA, HJ8, ⟨mc8, rfl⟩⟩ := hcut
       cases kq with
       | zero => exact absurd HA.out (by simp [stowageref3_Fold.j2])
       | succ kj8 =>
        have H := HA.out
        clear HA
        simp only [stowageref3_Fold.j2] at H
        by_cases c17 : x38_8 = true
        ·subst c17
         replace H := itT H
         have H' := Aside0.mk H
         clear H
         go_wp2
         go_roundg kj8
         case measure => have := HK1.out; have := HJ3.out; have := HJ8.out; omega
         case rel => exact ⟨(x3_1), (wrap64 (x4_1 + 1)), (by first | rfl | (simp; done) | (simp [*]; done)), (by first | rfl | (simp; done) | (simp [*]; done)), H', ⟨by have := HK1.out; have := HJ3.out; have := HJ8.out; omega⟩, by repeat (first | exact Drawn0.refl _ | apply Drawn0.step)⟩
        ·replace c17 := Bool.eq_false_iff.mpr c17
         subst c17
         replace H := itF H
         by_cases c18 : x5_3 = true
         ·subst c18
          replace H := itT H
          replace H := itO H
          rcases H with ⟨c19, H⟩ | ⟨c19, H⟩
          ·skip
           have c19b0 := eq_true c19
           have c19b1 := decide_eq_true c19
           try have c19b2 := eq_false (Nat.not_lt.2 c19)
           try (have c19n : x3_1.size + 1 ≤ 9223372036854775807 := by have h_ := c19; simp only [ByteArray.size_append, ByteArray.size_extract] at h_; exact h_)
           try have c19f : (9223372036854775807 < x3_1.size + 1) = False := eq_false (by first | omega | (simp only [eq_iff_iff, iff_true] at *; omega))
           have H' := Aside0.mk H
           clear H
           go_wp2
           go_roundg kj8
           case measure => have := HK1.out; have := HJ3.out; have := HJ8.out; omega
           case rel => exact ⟨(x3_1 ++ (⟨#[32]⟩ : ByteArray)), (wrap64 (x4_1 + 1)), (by first | rfl | (simp; done) | (simp [*]; done)), (by first | rfl | (simp; done) | (simp [*]; done)), H', ⟨by have := HK1.out; have := HJ3.out; have := HJ8.out; omega⟩, by repeat (first | exact Drawn0.refl _ | apply Drawn0.step)⟩
          ·exact absurd H (by simp)
         ·replace c18 := Bool.eq_false_iff.mpr c18
          subst c18
          replace H := itF H
          replace H := itO H
          rcases H with ⟨c20, H⟩ | ⟨c20, H⟩
          ·skip
           have c20b0 := eq_true c20
           have c20b1 := decide_eq_true c20
           clear c20
           replace H := itO H
           rcases H with ⟨c21, H⟩ | ⟨c21, H⟩
           ·skip
            have c21b0 := eq_true c21
            have c21b1 := decide_eq_true c21
            replace H := itO H
            rcases H with ⟨c22, H⟩ | ⟨c22, H⟩
            ·skip
             have c22b0 := eq_true c22
             have c22b1 := decide_eq_true c22
             replace H := itO H
             rcases H with ⟨c23, H⟩ | ⟨c23, H⟩
             ·skip
              have c23b0 := eq_true c23
              have c23b1 := decide_eq_true c23
              try have c23b2 := eq_false (Nat.not_lt.2 c23)
              try (have c23n : x3_1.size + (min (((wrap64 (x4_1 + 1)) : Int).toNat) t151.size - ((x4_1 : Int).toNat)) ≤ 9223372036854775807 := by have h_ := c23; simp only [ByteArray.size_append, ByteArray.size_extract] at h_; exact h_)
              try have c23f : (9223372036854775807 < x3_1.size + (((wrap64 (x4_1 + 1)) : Int).toNat - (x4_1 : Int).toNat)) = False := eq_false (by first | omega | (simp only [eq_iff_iff, iff_true] at *; omega))
              have H' := Aside0.mk H
              clear H
              go_wp2
              go_roundg kj8
              case measure => have := HK1.out; have := HJ3.out; have := HJ8.out; omega
              case rel => exact ⟨(x3_1 ++ (t151.extract (x4_1 : Int).toNat ((wrap64 (x4_1 + 1)) : Int).toNat)), (wrap64 (x4_1 + 1)), (by first | rfl | (simp; done) | (simp [*]; done)), (by first | rfl | (simp; done) | (simp [*]; done)), H', ⟨by have := HK1.out; have := HJ3.out; have := HJ8.out; omega⟩, by repeat (first | exact Drawn0.refl _ | apply Drawn0.step)⟩
             ·exact absurd H (by simp)
            ·exact absurd H (by simp)
           ·exact absurd H (by simp)
          ·exact absurd H (by simp)
   ·skip
    have c3b0 : decide (x4_1 < (t151.size : Int)) = false := decide_eq_false c3
    clear c3
    obtain rfl := Option.some.inj H
    go_wp2
    go_ret
    exact ⟨by first | rfl | (simp; done) | (simp [*]; done), by repeat (first | exact Drawn0.refl _ | apply Drawn0.step)⟩
end Go.Proofs.YtahfaiamonadmaaDoor.Q


namespace Go.Proofs.YtahfaiamonadmaaDoor.Q
open Go.RowKit Go.Proofs.YtahfaiamonadmaaDoorW.PrintWords Go.Proofs.YtahfaiamonadmaaDoorW.PrintLast Go.Proofs.YtahfaiamonadmaaDoorW.PrintMore
set_option linter.unusedVariables false
set_option linter.unusedSimpArgs false
attribute [local go_sem] max2_int min2_int max_two min_two max_three min_three max_four min_four   
def chars_Lower.b (c : UInt8) : UInt8 := if 65 ≤ c.toNat ∧ c.toNat ≤ 90 then c + 32 else c
def chars_Lower.s (s : ByteArray) : ByteArray := ⟨(s.data.toList.map chars_Lower.b).toArray⟩
def chars_Lower.f (a0 : ByteArray) : Option ByteArray := if a0.size ≤ 140737488351232 then some (chars_Lower.s a0) else none
theorem chars_Lower.add32 (c : UInt8) (h : c.toNat ≤ 90) : ((c + 32).toNat : Int) = (c.toNat : Int) + 32 := by
 rw [UInt8.toNat_add]
 have : (32 : UInt8).toNat = 32 := rfl
 omega
theorem chars_Lower.set_ (s : ByteArray) (k : Nat) (c : UInt8) (hc : s.data.toList[k]? = some c) (cs : Array Value) (n : Nat) (hn : cs.size = n) (hk : k < n)
  (h : ∀ (j : Nat) d, s.data.toList[j]? = some d → cs[j]? = some (Value.int .u8 (if j < k then ((chars_Lower.b d).toNat : Int) else (d.toNat : Int)))) (x : Int) (hx : x = ((chars_Lower.b c).toNat : Int)) :
  ∀ (j : Nat) d, s.data.toList[j]? = some d → (cs.setIfInBounds k (Value.int .u8 x))[j]? = some (Value.int .u8 (if j < k + 1 then ((chars_Lower.b d).toNat : Int) else (d.toNat : Int))) := by
 intro j d hj
 by_cases e : j = k
 ·subst e
  rw [hc] at hj
  obtain rfl := Option.some.inj hj
  rw [Array.getElem?_setIfInBounds_self_of_lt (by omega), hx, if_pos (by omega)]
 ·rw [Array.getElem?_setIfInBounds_ne (fun h => e h.symm), h j d hj]
  by_cases l : j < k
  ·rw [if_pos l, if_pos (by omega)]
  ·rw [if_neg l, if_neg (by omega)]
theorem chars_Lower.keep_ (s : ByteArray) (k : Nat) (c : UInt8) (hc : s.data.toList[k]? = some c) (cs : Array Value) (hl : chars_Lower.b c = c)
  (h : ∀ (j : Nat) d, s.data.toList[j]? = some d → cs[j]? = some (Value.int .u8 (if j < k then ((chars_Lower.b d).toNat : Int) else (d.toNat : Int)))) :
  ∀ (j : Nat) d, s.data.toList[j]? = some d → cs[j]? = some (Value.int .u8 (if j < k + 1 then ((chars_Lower.b d).toNat : Int) else (d.toNat : Int))) := by
 intro j d hj
 rw [h j d hj]
 by_cases e : j = k
 ·subst e
  rw [hc] at hj
  obtain rfl := Option.some.inj hj
  rw [if_neg (by omega), if_pos (by omega), hl]
 ·by_cases l : j < k
  ·rw [if_pos l, if_pos (by omega)]
  ·rw [if_neg l, if_neg (by omega)]
set_option maxHeartbeats 4000000 in
set_option maxRecDepth 100000 in
theorem chars_Lower.calls (a0 : ByteArray) (r : ByteArray) (w : World) (h : chars_Lower.f a0 = some r) :
  Calls Tryd.prog 32 #[.string a0] w fun e w' => e = .returned (.string r) ∧ Below w.heap.size w w' := by
 unfold chars_Lower.f at h
 have hs : a0.size ≤ 140737488351232 := by
  by_cases c : a0.size ≤ 140737488351232
  ·exact c
  ·simp [c] at h
 rw [if_pos hs] at h
 obtain rfl := Option.some.inj h
 have kb := fun W => print_bytes (P := Tryd.prog) 9 29 5 Tryd.underlying9 Tryd.underlying29 Tryd.underlying5 a0 W
 obtain ⟨n, hn⟩ : ∃ n, (Lib.bytesCells w 5 a0).size = n := ⟨_, rfl⟩
 have hb0 : (Lib.bytesWorld w 5 a0).heap[w.heap.size]? = some (.cells (Lib.bytesCells w 5 a0) 5 (n, n + 1)) := by rw [← hn]; exact Lib.bytesWorld_at_new w 5 a0
 have hc0 : ∀ (j : Nat) d, a0.data.toList[j]? = some d → (Lib.bytesCells w 5 a0)[j]? = some (Value.int .u8 (if j < 0 then ((chars_Lower.b d).toNat : Int) else (d.toNat : Int))) := by
  intro j d hj
  have hj' : j < a0.data.toList.length := (List.getElem?_eq_some_iff.1 hj).1
  have hj2 : j < a0.size := by rw [data_length] at hj'; exact hj'
  have hcell := Lib.bytesWorld_cell w 5 a0 j hj2
  rw [cell_of_row _ w.heap.size j _ 5 (n, n + 1) hb0] at hcell
  rw [hcell, if_neg (by omega)]
  simp [List.getD_eq_getElem?_getD, hj]
 have hn0 : a0.size ≤ n := by
  rcases Nat.eq_zero_or_pos a0.size with h0 | h0
  ·omega
  ·have hl : a0.size - 1 < a0.data.toList.length := by rw [data_length]; omega
   have := hc0 (a0.size - 1) _ (List.getElem?_eq_getElem hl)
   have := (Array.getElem?_eq_some_iff.1 this).1
   omega
 have hB0 : Below w.heap.size w (Lib.bytesWorld w 5 a0) := bytes_below (Below.refl _ w) (Nat.le_refl _) 5 a0
 have hgc := Lib.hid (And.intro hb0 (And.intro hc0 (And.intro hn hB0)))
 clear hb0 hc0 hn hB0
 go_enter Tryd.func32, Tryd.ntmps32
 go_wp2
 go_loopw [10] (fun i wr => ∃ (k : Nat) (cs : Array Value), k ≤ a0.size ∧ i = .int .i64 k ∧ Hid (cs.size = n ∧ wr.heap[w.heap.size]? = some (.cells cs 5 (n, n + 1)) ∧ (∀ (j : Nat) d, a0.data.toList[j]? = some d → cs[j]? = some (Value.int .u8 (if j < k then ((chars_Lower.b d).toNat : Int) else (d.toNat : Int)))) ∧ Below w.heap.size w wr)) (fun i _ => a0.size - (intOf i).toNat)
 case atStart => exact ⟨0, _, Nat.zero_le _, rfl, Lib.hid ⟨hgc.out.2.2.1, hgc.out.1, hgc.out.2.1, hgc.out.2.2.2⟩⟩
 case round =>
  obtain ⟨k, cs, hk, rfl, hI⟩ := hrel
  by_cases hlt : k < a0.size
  ·have hl : k < a0.data.toList.length := by rw [data_length]; exact hlt
   obtain ⟨c, hc⟩ : ∃ c, a0.data.toList[k]? = some c := ⟨_, List.getElem?_eq_getElem hl⟩
   have hcell : wr.cell? ⟨w.heap.size, k, none⟩ = some (.int .u8 (c.toNat : Int)) := by
    rw [cell_of_row _ w.heap.size k _ 5 (n, n + 1) hI.out.2.1, hI.out.2.2.1 k c hc, if_neg (by omega)]
   have hfz : wr.frozen? ⟨w.heap.size, k, none⟩ = false := by simp [World.frozen?, hI.out.2.1]; omega
   have hc8 : c.toNat < 256 := c.toNat_lt
   have hc' := Lib.hid hc
   clear hc hl
   by_cases h1 : 65 ≤ c.toNat
   ·by_cases h2 : c.toNat ≤ 90
    ·go_wp2
     go_roundw
     case rel =>
      refine ⟨k + 1, cs.setIfInBounds k (Value.int .u8 ((c.toNat : Int) + 32)), by omega, by go_num, Lib.hid ⟨?_, ?_, ?_, ?_⟩⟩
      ·rw [Array.size_setIfInBounds]; exact hI.out.1
      ·simp [World.setCell, Array.getElem?_modify, hI.out.2.1]
      ·exact chars_Lower.set_ a0 k c hc'.out cs n hI.out.1 (by omega) hI.out.2.2.1 _ (by rw [chars_Lower.b, if_pos ⟨h1, h2⟩, chars_Lower.add32 c h2])
      ·exact hI.out.2.2.2.setCell (by simp) _
     case measure => simp [intOf]; omega
    ·go_wp2
     go_roundw
     case rel => exact ⟨k + 1, cs, by omega, by go_num, Lib.hid ⟨hI.out.1, hI.out.2.1, chars_Lower.keep_ a0 k c hc'.out cs (by rw [chars_Lower.b, if_neg (by omega)]) hI.out.2.2.1, hI.out.2.2.2⟩⟩
     case measure => simp [intOf]; omega
   ·go_wp2
    go_roundw
    case rel => exact ⟨k + 1, cs, by omega, by go_num, Lib.hid ⟨hI.out.1, hI.out.2.1, chars_Lower.keep_ a0 k c hc'.out cs (by rw [chars_Lower.b, if_neg (by omega)]) hI.out.2.2.1, hI.out.2.2.2⟩⟩
    case measure => simp [intOf]; omega
  ·have hcv := run_convert_bytes_arg (P := Tryd.prog) wr 29 5 Tryd.underlying29 Tryd.underlying5 w.heap.size 0 a0.size (grownCap w a0.size 0 5) (a0.data.toList.map fun d => ((chars_Lower.b d).toNat : Int)) (by rw [List.length_map, data_length]) (fun i hi => by
    have hl : i < a0.data.toList.length := by rw [data_length]; exact hi
    rw [Nat.zero_add, cell_of_row _ w.heap.size i _ 5 (n, n + 1) hI.out.2.1, hI.out.2.2.1 i _ (List.getElem?_eq_getElem hl), if_pos (by omega)]
    simp [List.getD_eq_getElem?_getD, List.getElem?_eq_getElem hl]) 9 Tryd.underlying9
   go_wp2
   go_ret
   refine ⟨?_, hI.out.2.2.2⟩
   congr 2
   unfold strOfNums chars_Lower.s
   simp
end Go.Proofs.YtahfaiamonadmaaDoor.Q
