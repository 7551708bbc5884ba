/- A part of the proof of the seat's laws. No condition beyond those in the theorems. -/
import Derived.Test.YthjofhklkkmdoaaZQ0g7
import Derived.Test.YthjofhklkkmdoaaZQ26
import Derived.Test.YthjofhklkkmdoaaZQ46
import Derived.Test.YthjofhklkkmdoaaZQ55g2

namespace Go.Proofs.Ythjofhklkkmdoaa.Q
open Go.RowKit Go.Proofs.YthjofhklkkmdoaaW.PrintWords Go.Proofs.YthjofhklkkmdoaaW.PrintLast Go.Proofs.YthjofhklkkmdoaaW.PrintMore
set_option linter.unusedVariables false
set_option linter.unusedSimpArgs false
attribute [local go_sem] max2_int min2_int max_two min_two max_three min_three max_four min_four   
mutual
def stowagelaw21_CondPieces.j0 : Nat → Int → Int → Bool → Option (Bool)
 | 0, _, _, _ => none
 | k + 1, x1, x2, x72 => if x72 = true then (some false) else (if x1 < 0 then (stowagelaw21_CondPieces.j1 k x1 x2 true) else (if x1 > 2000 then (stowagelaw21_CondPieces.j1 k x1 x2 true) else (stowagelaw21_CondPieces.j1 k x1 x2 (decide (x2 < 1)))))
def stowagelaw21_CondPieces.j1 : Nat → Int → Int → Bool → Option (Bool)
 | 0, _, _, _ => none
 | k + 1, x1, x2, x82 => if x82 = true then ((stowagelaw21_awake.f k).bind fun t318 => (some t318)) else (stowagelaw21_CondPieces.l0 k x1 x2 0)
def stowagelaw21_CondPieces.l0 : Nat → Int → Int → Int → Option (Bool)
 | 0, _, _, _ => none
 | k + 1, x1, x2, x11 => if x11 < x1 then ((stowageref1_Text.f k x11).bind fun t320 => (if 6 + t320.size ≤ 9223372036854775807 then (if ((⟨#[98, 121, 116, 101, 115, 61]⟩ : ByteArray) ++ t320).size + 1 ≤ 9223372036854775807 then ((stowageref1_Text.f k (wrap64 ((wrap64 (x11 + (mn x2 2000))) - 1))).bind fun t321 => (if (((⟨#[98, 121, 116, 101, 115, 61]⟩ : ByteArray) ++ t320) ++ (⟨#[45]⟩ : ByteArray)).size + t321.size ≤ 9223372036854775807 then ((cond_Range.f k ((((⟨#[98, 121, 116, 101, 115, 61]⟩ : ByteArray) ++ t320) ++ (⟨#[45]⟩ : ByteArray)) ++ t321) x1).bind fun bt322 => (if bt322.2.2.2 = 0 then (if bt322.2.2.1 = true then (if bt322.1 = x11 then (if bt322.2.1 < 1 then (some false) else (stowagelaw21_CondPieces.l0 k x1 x2 (wrap64 (x11 + bt322.2.1)))) else (some false)) else (some false)) else (some false))) else (none))) else (none)) else (none))) else (if x11 = x1 then ((stowagelaw21_awake.f k).bind fun t319 => (some t319)) else (some false))
end
def stowagelaw21_CondPieces.f (k : Nat) (a0 : ByteArray) (a1 : Int) (a2 : Int) : Option (Bool) := (cond_Range.f k a0 a1).bind fun bt313 => (if bt313.2.2.2 = 0 then (if bt313.2.2.1 = true then (if bt313.1 < 0 then (stowagelaw21_CondPieces.j0 k a1 a2 true) else (if bt313.2.1 < 1 then (stowagelaw21_CondPieces.j0 k a1 a2 true) else (if (wrap64 (bt313.1 + bt313.2.1)) > a1 then (stowagelaw21_CondPieces.j0 k a1 a2 true) else (stowagelaw21_CondPieces.j0 k a1 a2 false)))) else (if bt313.1 = 0 then (stowagelaw21_CondPieces.j0 k a1 a2 (bt313.2.1 != (mx a1 0))) else (stowagelaw21_CondPieces.j0 k a1 a2 true))) else (if bt313.1 = 0 then (if bt313.2.1 = 0 then (if bt313.2.2.1 = true then (some false) else (if bt313.2.2.2 = 320 then ((stowagelaw21_awake.f k).bind fun t317 => (some t317)) else (some false))) else (some false)) else (some false)))
theorem stowagelaw21_CondPieces.mono_l : ∀ k, (∀ y0 y1 y2, LeO (stowagelaw21_CondPieces.j0 k y0 y1 y2) (stowagelaw21_CondPieces.j0 (k + 1) y0 y1 y2)) ∧ (∀ y0 y1 y2, LeO (stowagelaw21_CondPieces.j1 k y0 y1 y2) (stowagelaw21_CondPieces.j1 (k + 1) y0 y1 y2)) ∧ (∀ y0 y1 y2, LeO (stowagelaw21_CondPieces.l0 k y0 y1 y2) (stowagelaw21_CondPieces.l0 (k + 1) y0 y1 y2))
 | 0 => ⟨fun _ _ _ r h => by simp [stowagelaw21_CondPieces.j0] at h, fun _ _ _ r h => by simp [stowagelaw21_CondPieces.j1] at h, fun _ _ _ r h => by simp [stowagelaw21_CondPieces.l0] at h⟩
 | k + 1 => by
  obtain ⟨ih0, ih1, ih2⟩ := stowagelaw21_CondPieces.mono_l k
  refine ⟨?_, ?_, ?_⟩
  ·intro y0 y1 y2
   unfold stowagelaw21_CondPieces.j0
   repeat' first
   | (with_reducible exact ih0 _ _ _)
   | (with_reducible exact ih1 _ _ _)
   | (with_reducible exact ih2 _ _ _)
   | (with_reducible exact cond_Range.mono _ _ _)
   | (with_reducible exact stowagelaw21_awake.mono _)
   | (with_reducible exact stowageref1_Text.mono _ _)
   | (with_reducible exact LeO.refl _)
   | (with_reducible exact LeO.none _)
   | (with_reducible refine LeO.ite ?_ ?_)
   | (with_reducible refine LeO.bind ?_ (fun _ => ?_))
   | exact ih0 _ _ _
   | exact ih1 _ _ _
   | exact ih2 _ _ _
   | exact cond_Range.mono _ _ _
   | exact stowagelaw21_awake.mono _
   | exact stowageref1_Text.mono _ _
   | exact LeO.none _
   | refine LeO.ite ?_ ?_
   | refine LeO.bind ?_ (fun _ => ?_)
  ·intro y0 y1 y2
   unfold stowagelaw21_CondPieces.j1
   repeat' first
   | (with_reducible exact ih0 _ _ _)
   | (with_reducible exact ih1 _ _ _)
   | (with_reducible exact ih2 _ _ _)
   | (with_reducible exact cond_Range.mono _ _ _)
   | (with_reducible exact stowagelaw21_awake.mono _)
   | (with_reducible exact stowageref1_Text.mono _ _)
   | (with_reducible exact LeO.refl _)
   | (with_reducible exact LeO.none _)
   | (with_reducible refine LeO.ite ?_ ?_)
   | (with_reducible refine LeO.bind ?_ (fun _ => ?_))
   | exact ih0 _ _ _
   | exact ih1 _ _ _
   | exact ih2 _ _ _
   | exact cond_Range.mono _ _ _
   | exact stowagelaw21_awake.mono _
   | exact stowageref1_Text.mono _ _
   | exact LeO.none _
   | refine LeO.ite ?_ ?_
   | refine LeO.bind ?_ (fun _ => ?_)
  ·intro y0 y1 y2
   unfold stowagelaw21_CondPieces.l0
   repeat' first
   | (with_reducible exact ih0 _ _ _)
   | (with_reducible exact ih1 _ _ _)
   | (with_reducible exact ih2 _ _ _)
   | (with_reducible exact cond_Range.mono _ _ _)
   | (with_reducible exact stowagelaw21_awake.mono _)
   | (with_reducible exact stowageref1_Text.mono _ _)
   | (with_reducible exact LeO.refl _)
   | (with_reducible exact LeO.none _)
   | (with_reducible refine LeO.ite ?_ ?_)
   | (with_reducible refine LeO.bind ?_ (fun _ => ?_))
   | exact ih0 _ _ _
   | exact ih1 _ _ _
   | exact ih2 _ _ _
   | exact cond_Range.mono _ _ _
   | exact stowagelaw21_awake.mono _
   | exact stowageref1_Text.mono _ _
   | exact LeO.none _
   | refine LeO.ite ?_ ?_
   | refine LeO.bind ?_ (fun _ => ?_)
theorem stowagelaw21_CondPieces.mono : ∀ a0 a1 a2 k, LeO (stowagelaw21_CondPieces.f k a0 a1 a2) (stowagelaw21_CondPieces.f (k + 1) a0 a1 a2) := by
 intro a0 a1 a2 k
 obtain ⟨ih0, ih1, ih2⟩ := stowagelaw21_CondPieces.mono_l k
 unfold stowagelaw21_CondPieces.f
 repeat' first
   | (with_reducible exact ih0 _ _ _)
   | (with_reducible exact ih1 _ _ _)
   | (with_reducible exact ih2 _ _ _)
   | (with_reducible exact cond_Range.mono _ _ _)
   | (with_reducible exact stowagelaw21_awake.mono _)
   | (with_reducible exact stowageref1_Text.mono _ _)
   | (with_reducible exact LeO.refl _)
   | (with_reducible exact LeO.none _)
   | (with_reducible refine LeO.ite ?_ ?_)
   | (with_reducible refine LeO.bind ?_ (fun _ => ?_))
   | exact ih0 _ _ _
   | exact ih1 _ _ _
   | exact ih2 _ _ _
   | exact cond_Range.mono _ _ _
   | exact stowagelaw21_awake.mono _
   | exact stowageref1_Text.mono _ _
   | exact LeO.none _
   | refine LeO.ite ?_ ?_
   | refine LeO.bind ?_ (fun _ => ?_)
set_option maxHeartbeats 8000000 in
set_option maxRecDepth 100000 in
theorem stowagelaw21_CondPieces.calls (k : Nat) (a0 : ByteArray) (a1 : Int) (a2 : Int) (r : Bool) (w : World) (hG : GOk w) (h : stowagelaw21_CondPieces.f k a0 a1 a2 = some r) (hr : r = true) :
  Calls Try.prog 6 #[.string a0, .int .i64 a1, .int .i64 a2] w fun e w' => e = .returned (.bool r) ∧ Below w.heap.size w w' := by
 have HB := Aside0.mk (Below.refl w.heap.size w)
 have H : ((cond_Range.f k a0 a1).bind fun bt313 => (if bt313.2.2.2 = 0 then (if bt313.2.2.1 = true then (if bt313.1 < 0 then (stowagelaw21_CondPieces.j0 k a1 a2 true) else (if bt313.2.1 < 1 then (stowagelaw21_CondPieces.j0 k a1 a2 true) else (if (wrap64 (bt313.1 + bt313.2.1)) > a1 then (stowagelaw21_CondPieces.j0 k a1 a2 true) else (stowagelaw21_CondPieces.j0 k a1 a2 false)))) else (if bt313.1 = 0 then (stowagelaw21_CondPieces.j0 k a1 a2 (bt313.2.1 != (mx a1 0))) else (stowagelaw21_CondPieces.j0 k a1 a2 true))) else (if bt313.1 = 0 then (if bt313.2.1 = 0 then (if bt313.2.2.1 = true then (some false) else (if bt313.2.2.2 = 320 then ((stowagelaw21_awake.f k).bind fun t317 => (some t317)) else (some false))) else (some false)) else (some false)))) = some r := h
 clear h
 replace H := Option.bind_eq_some_iff.mp H
 obtain ⟨⟨t313, t314, t315, t316⟩, A40, H⟩ := H
 replace H : (if t316 = 0 then (if t315 = true then (if t313 < 0 then (stowagelaw21_CondPieces.j0 k a1 a2 true) else (if t314 < 1 then (stowagelaw21_CondPieces.j0 k a1 a2 true) else (if (wrap64 (t313 + t314)) > a1 then (stowagelaw21_CondPieces.j0 k a1 a2 true) else (stowagelaw21_CondPieces.j0 k a1 a2 false)))) else (if t313 = 0 then (stowagelaw21_CondPieces.j0 k a1 a2 (t314 != (mx a1 0))) else (stowagelaw21_CondPieces.j0 k a1 a2 true))) else (if t313 = 0 then (if t314 = 0 then (if t315 = true then (some false) else (if t316 = 320 then ((stowagelaw21_awake.f k).bind fun t317 => (some t317)) else (some false))) else (some false)) else (some false))) = some r := H
 have A4 := Aside0.mk A40
 clear A40
 by_cases c5 : t316 = 0
 ·rw [if_pos c5] at H
  have c5b0 : (t316 == 0) = true := beq_iff_eq.mpr c5
  have c5b1 : (t316 != 0) = false := bne_eq_false_iff_eq.mpr c5
  clear c5
  have HC6 := Aside0.mk H
  clear H
  go_enter Try.func6, Try.ntmps6
  go_upto_region 4 with (first | ((with_reducible refine gate_callee (f := 15) rfl ?_); refine goesL_ (some 19) rfl rfl Try.func15 (by kernel_rfl) rfl #[.string a0, .int .i64 a1] rfl (by (try simp only [List.map_toArray, List.map_cons, List.map_nil]); first | done | rfl | (simp only [List.length_drop, List.length_take]; rfl)) ?_; (with_reducible refine (cond_Range.calls k a0 a1 t313 t314 t315 t316 _ A4.out).mono ?_); rintro e w7 ⟨rfl, hb⟩; refine ⟨_, rfl, ?_⟩; have n0_ := Aside0.mk (below_step (by repeat (first | (with_reducible first | exact HB.out | apply below_alloc | apply pw_below_drewN | apply below_drew1) | exact HB.out)) hb); clear HB; have HB := n0_; clear n0_; (try clear hb); (try clear hb2); (try clear hk); (try clear hi)))
  (try simp only [Act.put, List.setIfInBounds_toArray, List.set_cons_zero, List.set_cons_succ])
  go_cut [72] (fun v72 wc => ∃ (kq : Nat) (x72_5 : Bool), v72 = .bool x72_5 ∧ Aside0 (stowagelaw21_CondPieces.j0 kq a1 a2 x72_5 = some r) ∧ Aside0 (kq ≤ k) ∧ Aside0 (Below w.heap.size w wc))
  case first =>
   have H := HC6.out
   clear HC6
   by_cases c8 : t315 = true
   ·subst c8
    have H1 : (if t313 < 0 then (stowagelaw21_CondPieces.j0 k a1 a2 true) else (if t314 < 1 then (stowagelaw21_CondPieces.j0 k a1 a2 true) else (if (wrap64 (t313 + t314)) > a1 then (stowagelaw21_CondPieces.j0 k a1 a2 true) else (stowagelaw21_CondPieces.j0 k a1 a2 false)))) = some r := by rw [if_pos rfl] at H; exact H
    clear H
    have H := H1
    clear H1
    by_cases c9 : t313 < 0
    ·rw [if_pos c9] at H
     have c9b0 : decide (t313 < 0) = true := decide_eq_true c9
     clear c9
     (first | rw [c9b0] | (simp only [i64_w, i32_w]; rw [c9b0]) | skip)
     have H' := Aside0.mk H
     clear H
     go_wp2
     go_meet
     case rel => exact ⟨_, (true), (by first | rfl | (simp; done) | (simp [*]; done)), H', ⟨by first | omega | exact Nat.le_refl _⟩, ⟨by repeat (first | (with_reducible first | exact HB.out | apply below_alloc | apply pw_below_drewN | apply below_drew1) | exact HB.out)⟩⟩
    ·rw [if_neg c9] at H
     have c9b0 : decide (t313 < 0) = false := decide_eq_false c9
     clear c9
     (first | rw [c9b0] | (simp only [i64_w, i32_w]; rw [c9b0]) | skip)
     by_cases c10 : t314 < 1
     ·rw [if_pos c10] at H
      have c10b0 : decide (t314 < 1) = true := decide_eq_true c10
      clear c10
      have H' := Aside0.mk H
      clear H
      go_wp2
      go_meet
      case rel => exact ⟨_, (true), (by first | rfl | (simp; done) | (simp [*]; done)), H', ⟨by first | omega | exact Nat.le_refl _⟩, ⟨by repeat (first | (with_reducible first | exact HB.out | apply below_alloc | apply pw_below_drewN | apply below_drew1) | exact HB.out)⟩⟩
     ·rw [if_neg c10] at H
      have c10b0 : decide (t314 < 1) = false := decide_eq_false c10
      clear c10
      by_cases c11 : (wrap64 (t313 + t314)) > a1
      ·rw [if_pos c11] at H
       have c11b0 : decide (a1 < (wrap64 (t313 + t314))) = true := decide_eq_true c11
       clear c11
       have H' := Aside0.mk H
       clear H
       go_wp2
       go_meet
       case rel => exact ⟨_, (true), (by first | rfl | (simp; done) | (simp [*]; done)), H', ⟨by first | omega | exact Nat.le_refl _⟩, ⟨by repeat (first | (with_reducible first | exact HB.out | apply below_alloc | apply pw_below_drewN | apply below_drew1) | exact HB.out)⟩⟩
      ·rw [if_neg c11] at H
       have c11b0 : decide (a1 < (wrap64 (t313 + t314))) = false := decide_eq_false c11
       clear c11
       have H' := Aside0.mk H
       clear H
       go_wp2
       go_meet
       case rel => exact ⟨_, (false), (by first | rfl | (simp; done) | (simp [*]; done)), H', ⟨by first | omega | exact Nat.le_refl _⟩, ⟨by repeat (first | (with_reducible first | exact HB.out | apply below_alloc | apply pw_below_drewN | apply below_drew1) | exact HB.out)⟩⟩
   ·replace c8 := Bool.eq_false_iff.mpr c8
    subst c8
    have H1 : (if t313 = 0 then (stowagelaw21_CondPieces.j0 k a1 a2 (t314 != (mx a1 0))) else (stowagelaw21_CondPieces.j0 k a1 a2 true)) = some r := by rw [if_neg (show ¬ (false = true) by decide)] at H; exact H
    clear H
    have H := H1
    clear H1
    by_cases c12 : t313 = 0
    ·rw [if_pos c12] at H
     have c12b0 : (t313 == 0) = true := beq_iff_eq.mpr c12
     have c12b1 : (t313 != 0) = false := bne_eq_false_iff_eq.mpr c12
     clear c12
     obtain ⟨ji13, hji13⟩ : ∃ j_ : Int, (mx a1 0) = j_ := ⟨_, rfl⟩
     replace H : (stowagelaw21_CondPieces.j0 k a1 a2 (t314 != (ji13))) = some r := by first | (rw [hji13] at H; exact H) | (simp only [hji13] at H ⊢; exact H)
     (try (have hji13l : 0 ≤ ji13 := by (rw [← hji13]; unfold mx; (repeat' split) <;> omega)))
     (try (have hji13m : 0 ≤ ji13 := by omega))
     have hji13_ : (if a1 < 0 then 0 else a1) = ji13 := hji13
     have H' := Aside0.mk H
     clear H
     go_wp2
     go_meet
     case rel => exact ⟨_, ((t314 != (ji13))), (by first | rfl | (simp; done) | (simp only [← hji13] <;> (first | rfl | simp)) | (simp [*]; done)), H', ⟨by first | omega | exact Nat.le_refl _⟩, ⟨by repeat (first | (with_reducible first | exact HB.out | apply below_alloc | apply pw_below_drewN | apply below_drew1) | exact HB.out)⟩⟩
    ·rw [if_neg c12] at H
     have c12b0 : (t313 == 0) = false := beq_eq_false_iff_ne.mpr c12
     have c12b1 : (t313 != 0) = true := bne_iff_ne.mpr c12
     have H' := Aside0.mk H
     clear H
     go_wp2
     go_meet
     case rel => exact ⟨_, (true), (by first | rfl | (simp; done) | (simp [*]; done)), H', ⟨by first | omega | exact Nat.le_refl _⟩, ⟨by repeat (first | (with_reducible first | exact HB.out | apply below_alloc | apply pw_below_drewN | apply below_drew1) | exact HB.out)⟩⟩
  case rest =>
   clear HC6
   try clear c1
   try clear p2
   try clear c5
   try clear c5b0
   try clear c5b1
   try clear c6
   try clear p6
   try clear c8
   try clear c9
   try clear c9b0
   try clear c10
   try clear c10b0
   try clear c11
   try clear c11b0
   try clear c12
   try clear c12b0
   try clear c12b1
   obtain ⟨kq, x72_5, rfl, HA, HJ5, HB⟩ := hcut
   cases kq with
   | zero => exact absurd HA.out (by simp [stowagelaw21_CondPieces.j0])
   | succ kj5 =>
    have H := HA.out
    clear HA
    simp only [stowagelaw21_CondPieces.j0] at H
    by_cases c14 : x72_5 = true
    ·subst c14
     have H1 : (some false) = some r := by rw [if_pos rfl] at H; exact H
     clear H
     have H := H1
     clear H1
     rw [hr] at H
     exact absurd H (by simp)
    ·replace c14 := Bool.eq_false_iff.mpr c14
     subst c14
     have H1 : (if a1 < 0 then (stowagelaw21_CondPieces.j1 kj5 a1 a2 true) else (if a1 > 2000 then (stowagelaw21_CondPieces.j1 kj5 a1 a2 true) else (stowagelaw21_CondPieces.j1 kj5 a1 a2 (decide (a2 < 1))))) = some r := by rw [if_neg (show ¬ (false = true) by decide)] at H; exact H
     clear H
     have H := H1
     clear H1
     have HC15 := Aside0.mk H
     clear H
     go_upto_region 6 with (fail)
     go_cut [82] (fun v82 wc => ∃ (kq : Nat) (x82_14 : Bool), v82 = .bool x82_14 ∧ Aside0 (stowagelaw21_CondPieces.j1 kq a1 a2 x82_14 = some r) ∧ Aside0 (kq ≤ kj5) ∧ Aside0 (Below w.heap.size w wc))
     case first =>
      have H := HC15.out
      clear HC15
      by_cases c16 : a1 < 0
      ·rw [if_pos c16] at H
       have c16b0 : decide (a1 < 0) = true := decide_eq_true c16
       clear c16
       (first | rw [c16b0] | (simp only [i64_w, i32_w]; rw [c16b0]) | skip)
       have H' := Aside0.mk H
       clear H
       go_wp2
       go_meet
       case rel => exact ⟨_, (true), (by first | rfl | (simp; done) | (simp [*]; done)), H', ⟨by have := HJ5.out; first | omega | exact Nat.le_refl _⟩, ⟨by repeat (first | (with_reducible first | exact HB.out | apply below_alloc | apply pw_below_drewN | apply below_drew1) | exact HB.out)⟩⟩
      ·rw [if_neg c16] at H
       have c16b0 : decide (a1 < 0) = false := decide_eq_false c16
       clear c16
       (first | rw [c16b0] | (simp only [i64_w, i32_w]; rw [c16b0]) | skip)
       by_cases c17 : a1 > 2000
       ·rw [if_pos c17] at H
        have c17b0 : decide (2000 < a1) = true := decide_eq_true c17
        clear c17
        have H' := Aside0.mk H
        clear H
        go_wp2
        go_meet
        case rel => exact ⟨_, (true), (by first | rfl | (simp; done) | (simp [*]; done)), H', ⟨by have := HJ5.out; first | omega | exact Nat.le_refl _⟩, ⟨by repeat (first | (with_reducible first | exact HB.out | apply below_alloc | apply pw_below_drewN | apply below_drew1) | exact HB.out)⟩⟩
       ·rw [if_neg c17] at H
        have c17b0 : decide (2000 < a1) = false := decide_eq_false c17
        clear c17
        have H' := Aside0.mk H
        clear H
        go_wp2
        go_meet
        case rel => exact ⟨_, (decide (a2 < 1)), (by first | rfl | (simp; done) | (simp [*]; done)), H', ⟨by have := HJ5.out; first | omega | exact Nat.le_refl _⟩, ⟨by repeat (first | (with_reducible first | exact HB.out | apply below_alloc | apply pw_below_drewN | apply below_drew1) | exact HB.out)⟩⟩
     case rest =>
      clear HC15
      try clear c1
      try clear p2
      try clear c5
      try clear c5b0
      try clear c5b1
      try clear c6
      try clear p6
      try clear c8
      try clear c9
      try clear c9b0
      try clear c10
      try clear c10b0
      try clear c11
      try clear c11b0
      try clear c12
      try clear c12b0
      try clear c12b1
      try clear c14
      try clear c15
      try clear c16
      try clear c16b0
      try clear c17
      try clear c17b0
      try clear p2
      try clear p6
      obtain ⟨kq, x82_14, rfl, HA, HJ14, HB⟩ := hcut
      cases kq with
      | zero => exact absurd HA.out (by simp [stowagelaw21_CondPieces.j1])
      | succ kj14 =>
       have H := HA.out
       clear HA
       simp only [stowagelaw21_CondPieces.j1] at H
       by_cases c18 : x82_14 = true
       ·subst c18
        have H1 : ((stowagelaw21_awake.f kj14).bind fun t318 => (some t318)) = some r := by rw [if_pos rfl] at H; exact H
        clear H
        have H := H1
        clear H1
        replace H := Option.bind_eq_some_iff.mp H
        obtain ⟨t318, A190, H⟩ := H
        replace H : (some t318) = some r := H
        have A19 := Aside0.mk A190
        clear A190
        clear hr
        obtain rfl := Option.some.inj H
        go_wp2_with (first | ((with_reducible refine gate_callee (f := 14) rfl ?_); refine goesL_ (some 83) rfl rfl Try.func14 (by kernel_rfl) rfl #[] rfl (by (try simp only [List.map_toArray, List.map_cons, List.map_nil]); first | done | rfl | (simp only [List.length_drop, List.length_take]; rfl)) ?_; (with_reducible refine (stowagelaw21_awake.calls kj14  t318 _ (by first | exact hG | exact gok_below hG (by repeat (first | (with_reducible first | exact HB.out | apply below_alloc | apply pw_below_drewN | apply below_drew1) | exact HB.out)) | exact gok_drewN hG _ | exact gok_below hG (by repeat (first | exact HB.out | exact HBW.out | exact Below.refl _ _ | apply below_alloc | apply pw_below_drewN | apply below_drew1))) A19.out).mono ?_); rintro e w20 ⟨rfl, hb⟩; refine ⟨_, rfl, ?_⟩; have n0_ := Aside0.mk (below_step (by repeat (first | (with_reducible first | exact HB.out | apply below_alloc | apply pw_below_drewN | apply below_drew1) | exact HB.out)) hb); clear HB; have HB := n0_; clear n0_; (try clear hb); (try clear hb2); (try clear hk); (try clear hi)))
        go_ret
        exact ⟨by first | rfl | (simp [errW_none, errW_some] <;> rfl) | (simp [*, errW_none, errW_some] <;> rfl), by repeat (first | (with_reducible first | exact HB.out | apply below_alloc | apply pw_below_drewN | apply below_drew1) | exact HB.out)⟩
       ·replace c18 := Bool.eq_false_iff.mpr c18
        subst c18
        have H1 : (stowagelaw21_CondPieces.l0 kj14 a1 a2 0) = some r := by rw [if_neg (show ¬ (false = true) by decide)] at H; exact H
        clear H
        have H := H1
        clear H1
        have H' := Aside0.mk H
        clear H
        go_wp2
        go_loopg [11] kj14 (fun kq v11 w' => ∃ (x11_3 : Int), v11 = .int .i64 x11_3 ∧ Aside0 (stowagelaw21_CondPieces.l0 kq a1 a2 x11_3 = some r) ∧ Aside0 (kq ≤ kj14) ∧ Aside0 (Below w.heap.size w w'))
        case atStart => exact ⟨(0), (by first | rfl | (simp; done) | (simp [*]; done)), H', ⟨Nat.le_refl _⟩, ⟨by repeat (first | (with_reducible first | exact HB.out | apply below_alloc | apply pw_below_drewN | apply below_drew1) | exact HB.out)⟩⟩
        case round =>
         clear H'
         try clear c1
         try clear p2
         try clear c5
         try clear c5b0
         try clear c5b1
         try clear c6
         try clear p6
         try clear c8
         try clear c9
         try clear c9b0
         try clear c10
         try clear c10b0
         try clear c11
         try clear c11b0
         try clear c12
         try clear c12b0
         try clear c12b1
         try clear c14
         try clear c15
         try clear c16
         try clear c16b0
         try clear c17
         try clear c17b0
         try clear c18
         try clear p2
         try clear p6
         obtain ⟨x11_3, rfl, HA, HK3, HB⟩ := hrel
         cases gk with
         | zero => exact absurd HA.out (by simp [stowagelaw21_CondPieces.l0])
         | succ k3 =>
          have H := HA.out
          clear HA
          simp only [stowagelaw21_CondPieces.l0] at H
          by_cases c21 : x11_3 < a1
          ·rw [if_pos c21] at H
           have c21b0 : decide (x11_3 < a1) = true := decide_eq_true c21
           clear c21
           replace H := Option.bind_eq_some_iff.mp H
           obtain ⟨t320, A220, H⟩ := H
           replace H : (if 6 + t320.size ≤ 9223372036854775807 then (if ((⟨#[98, 121, 116, 101, 115, 61]⟩ : ByteArray) ++ t320).size + 1 ≤ 9223372036854775807 then ((stowageref1_Text.f k3 (wrap64 ((wrap64 (x11_3 + (mn a2 2000))) - 1))).bind fun t321 => (if (((⟨#[98, 121, 116, 101, 115, 61]⟩ : ByteArray) ++ t320) ++ (⟨#[45]⟩ : ByteArray)).size + t321.size ≤ 9223372036854775807 then ((cond_Range.f k3 ((((⟨#[98, 121, 116, 101, 115, 61]⟩ : ByteArray) ++ t320) ++ (⟨#[45]⟩ : ByteArray)) ++ t321) a1).bind fun bt322 => (if bt322.2.2.2 = 0 then (if bt322.2.2.1 = true then (if bt322.1 = x11_3 then (if bt322.2.1 < 1 then (some false) else (stowagelaw21_CondPieces.l0 k3 a1 a2 (wrap64 (x11_3 + bt322.2.1)))) else (some false)) else (some false)) else (some false))) else (none))) else (none)) else (none)) = some r := H
           have A22 := Aside0.mk A220
           clear A220
           by_cases c23 : 6 + t320.size ≤ 9223372036854775807
           ·rw [if_pos c23] at H
            have c23b0 := eq_true c23
            have c23b1 : decide (6 + t320.size ≤ 9223372036854775807) = true := decide_eq_true c23
            try have c23b2 : (9223372036854775807 < 6 + t320.size) = False := eq_false (Nat.not_lt.2 c23)
            try (have c23n : 6 + t320.size ≤ 9223372036854775807 := by have h_ := c23; simp only [ByteArray.size_append, ByteArray.size_extract] at h_; exact h_)
            try have c23f : (9223372036854775807 < 6 + t320.size) = False := eq_false (by first | omega | (simp only [eq_iff_iff, iff_true] at *; omega))
            by_cases c24 : ((⟨#[98, 121, 116, 101, 115, 61]⟩ : ByteArray) ++ t320).size + 1 ≤ 9223372036854775807
            ·rw [if_pos c24] at H
             have c24b0 := eq_true c24
             have c24b1 : decide (((⟨#[98, 121, 116, 101, 115, 61]⟩ : ByteArray) ++ t320).size + 1 ≤ 9223372036854775807) = true := decide_eq_true c24
             try have c24b2 : (9223372036854775807 < ((⟨#[98, 121, 116, 101, 115, 61]⟩ : ByteArray) ++ t320).size + 1) = False := eq_false (Nat.not_lt.2 c24)
             try (have c24n : 6 + t320.size + 1 ≤ 9223372036854775807 := by have h_ := c24; simp only [ByteArray.size_append, ByteArray.size_extract] at h_; exact h_)
             try have c24f : (9223372036854775807 < 6 + t320.size + 1) = False := eq_false (by first | omega | (simp only [eq_iff_iff, iff_true] at *; omega))
             obtain ⟨ji25, hji25⟩ : ∃ j_ : Int, (mn a2 2000) = j_ := ⟨_, rfl⟩
             replace H : ((stowageref1_Text.f k3 (wrap64 ((wrap64 (x11_3 + (ji25))) - 1))).bind fun t321 => (if (((⟨#[98, 121, 116, 101, 115, 61]⟩ : ByteArray) ++ t320) ++ (⟨#[45]⟩ : ByteArray)).size + t321.size ≤ 9223372036854775807 then ((cond_Range.f k3 ((((⟨#[98, 121, 116, 101, 115, 61]⟩ : ByteArray) ++ t320) ++ (⟨#[45]⟩ : ByteArray)) ++ t321) a1).bind fun bt322 => (if bt322.2.2.2 = 0 then (if bt322.2.2.1 = true then (if bt322.1 = x11_3 then (if bt322.2.1 < 1 then (some false) else (stowagelaw21_CondPieces.l0 k3 a1 a2 (wrap64 (x11_3 + bt322.2.1)))) else (some false)) else (some false)) else (some false))) else (none))) = some r := by first | (rw [hji25] at H; exact H) | (simp only [hji25] at H ⊢; exact H)
             (try rw [hji25] at A22)
             have hji25_ : (if 2000 < a2 then 2000 else a2) = ji25 := hji25
             replace H := Option.bind_eq_some_iff.mp H
             obtain ⟨t321, A260, H⟩ := H
             replace H : (if (((⟨#[98, 121, 116, 101, 115, 61]⟩ : ByteArray) ++ t320) ++ (⟨#[45]⟩ : ByteArray)).size + t321.size ≤ 9223372036854775807 then ((cond_Range.f k3 ((((⟨#[98, 121, 116, 101, 115, 61]⟩ : ByteArray) ++ t320) ++ (⟨#[45]⟩ : ByteArray)) ++ t321) a1).bind fun bt322 => (if bt322.2.2.2 = 0 then (if bt322.2.2.1 = true then (if bt322.1 = x11_3 then (if bt322.2.1 < 1 then (some false) else (stowagelaw21_CondPieces.l0 k3 a1 a2 (wrap64 (x11_3 + bt322.2.1)))) else (some false)) else (some false)) else (some false))) else (none)) = some r := H
             have A26 := Aside0.mk A260
             clear A260
             by_cases c27 : (((⟨#[98, 121, 116, 101, 115, 61]⟩ : ByteArray) ++ t320) ++ (⟨#[45]⟩ : ByteArray)).size + t321.size ≤ 9223372036854775807
             ·rw [if_pos c27] at H
              have c27b0 := eq_true c27
              have c27b1 : decide ((((⟨#[98, 121, 116, 101, 115, 61]⟩ : ByteArray) ++ t320) ++ (⟨#[45]⟩ : ByteArray)).size + t321.size ≤ 9223372036854775807) = true := decide_eq_true c27
              try have c27b2 : (9223372036854775807 < (((⟨#[98, 121, 116, 101, 115, 61]⟩ : ByteArray) ++ t320) ++ (⟨#[45]⟩ : ByteArray)).size + t321.size) = False := eq_false (Nat.not_lt.2 c27)
              try (have c27n : 6 + t320.size + 1 + t321.size ≤ 9223372036854775807 := by have h_ := c27; simp only [ByteArray.size_append, ByteArray.size_extract] at h_; exact h_)
              try have c27f : (9223372036854775807 < 6 + t320.size + 1 + t321.size) = False := eq_false (by first | omega | (simp only [eq_iff_iff, iff_true] at *; omega))
              replace H := Option.bind_eq_some_iff.mp H
              obtain ⟨⟨t322, t323, t324, t325⟩, A280, H⟩ := H
              replace H : (if t325 = 0 then (if t324 = true then (if t322 = x11_3 then (if t323 < 1 then (some false) else (stowagelaw21_CondPieces.l0 k3 a1 a2 (wrap64 (x11_3 + t323)))) else (some false)) else (some false)) else (some false)) = some r := H
              have A28 := Aside0.mk A280
              clear A280
              by_cases c29 : t325 = 0
              ·rw [if_pos c29] at H
               have c29b0 : (t325 == 0) = true := beq_iff_eq.mpr c29
               have c29b1 : (t325 != 0) = false := bne_eq_false_iff_eq.mpr c29
               clear c29
               by_cases c30 : t324 = true
               ·subst c30
                have H1 : (if t322 = x11_3 then (if t323 < 1 then (some false) else (stowagelaw21_CondPieces.l0 k3 a1 a2 (wrap64 (x11_3 + t323)))) else (some false)) = some r := by rw [if_pos rfl] at H; exact H
                clear H
                have H := H1
                clear H1
                by_cases c31 : t322 = x11_3
                ·rw [if_pos c31] at H
                 have c31b0 : (t322 == x11_3) = true := beq_iff_eq.mpr c31
                 have c31b1 : (t322 != x11_3) = false := bne_eq_false_iff_eq.mpr c31
                 clear c31
                 by_cases c32 : t323 < 1
                 ·rw [if_pos c32] at H
                  have c32b0 : decide (t323 < 1) = true := decide_eq_true c32
                  clear c32
                  rw [hr] at H
                  exact absurd H (by simp)
                 ·rw [if_neg c32] at H
                  have c32b0 : decide (t323 < 1) = false := decide_eq_false c32
                  clear c32
                  have H' := Aside0.mk H
                  clear H
                  go_wp2_with (first | ((with_reducible refine gate_callee (f := 20) rfl ?_); refine goesL_ (some 89) rfl rfl Try.func20 (by kernel_rfl) rfl #[.int .i64 x11_3] rfl (by (try simp only [List.map_toArray, List.map_cons, List.map_nil]); first | done | rfl | (simp only [List.length_drop, List.length_take]; rfl)) ?_; (with_reducible refine (stowageref1_Text.calls k3 x11_3 t320 _ A22.out).mono ?_); rintro e w' ⟨rfl, ⟨nd, rfl⟩⟩; refine ⟨_, rfl, ?_⟩) | ((with_reducible refine gate_callee (f := 20) rfl ?_); refine goesL_ (some 97) rfl rfl Try.func20 (by kernel_rfl) rfl #[.int .i64 (wrap64 ((wrap64 (x11_3 + (ji25))) - 1))] rfl (by (try simp only [List.map_toArray, List.map_cons, List.map_nil]); first | done | (simp only [hji25]; rfl) | rfl | (simp only [List.length_drop, List.length_take]; rfl)) ?_; (with_reducible refine (stowageref1_Text.calls k3 (wrap64 ((wrap64 (x11_3 + (ji25))) - 1)) t321 _ A26.out).mono ?_); rintro e w' ⟨rfl, ⟨nd, rfl⟩⟩; refine ⟨_, rfl, ?_⟩) | ((with_reducible refine gate_callee (f := 15) rfl ?_); refine goesL_ (some 100) rfl rfl Try.func15 (by kernel_rfl) rfl #[.string ((((⟨#[98, 121, 116, 101, 115, 61]⟩ : ByteArray) ++ t320) ++ (⟨#[45]⟩ : ByteArray)) ++ t321), .int .i64 a1] rfl (by (try simp only [List.map_toArray, List.map_cons, List.map_nil]); first | done | rfl | (simp only [List.length_drop, List.length_take]; rfl)) ?_; (with_reducible refine (cond_Range.calls k3 ((((⟨#[98, 121, 116, 101, 115, 61]⟩ : ByteArray) ++ t320) ++ (⟨#[45]⟩ : ByteArray)) ++ t321) a1 t322 t323 true t325 _ A28.out).mono ?_); rintro e w33 ⟨rfl, hb⟩; refine ⟨_, rfl, ?_⟩; have n0_ := Aside0.mk (below_step (by repeat (first | (with_reducible first | exact HB.out | apply below_alloc | apply pw_below_drewN | apply below_drew1) | exact HB.out)) hb); clear HB; have HB := n0_; clear n0_; (try clear hb); (try clear hb2); (try clear hk); (try clear hi)))
                  go_roundg k3
                  case measure => have := HJ5.out; have := HJ14.out; have := HK3.out; omega
                  case rel => exact ⟨(wrap64 (x11_3 + t323)), (by first | rfl | (simp; done) | (simp [*]; done)), H', ⟨by have := HJ5.out; have := HJ14.out; have := HK3.out; omega⟩, ⟨by repeat (first | (with_reducible first | exact HB.out | apply below_alloc | apply pw_below_drewN | apply below_drew1) | exact HB.out)⟩⟩
                ·rw [if_neg c31] at H
                 have c31b0 : (t322 == x11_3) = false := beq_eq_false_iff_ne.mpr c31
                 have c31b1 : (t322 != x11_3) = true := bne_iff_ne.mpr c31
                 rw [hr] at H
                 exact absurd H (by simp)
               ·replace c30 := Bool.eq_false_iff.mpr c30
                subst c30
                have H1 : (some false) = some r := by rw [if_neg (show ¬ (false = true) by decide)] at H; exact H
                clear H
                have H := H1
                clear H1
                rw [hr] at H
                exact absurd H (by simp)
              ·rw [if_neg c29] at H
               have c29b0 : (t325 == 0) = false := beq_eq_false_iff_ne.mpr c29
               have c29b1 : (t325 != 0) = true := bne_iff_ne.mpr c29
               rw [hr] at H
               exact absurd H (by simp)
             ·rw [if_neg c27] at H
              exact absurd H (by simp)
            ·rw [if_neg c24] at H
             exact absurd H (by simp)
           ·rw [if_neg c23] at H
            exact absurd H (by simp)
          ·rw [if_neg c21] at H
           have c21b0 : decide (x11_3 < a1) = false := decide_eq_false c21
           clear c21
           by_cases c34 : x11_3 = a1
           ·rw [if_pos c34] at H
            have c34b0 : (x11_3 == a1) = true := beq_iff_eq.mpr c34
            have c34b1 : (x11_3 != a1) = false := bne_eq_false_iff_eq.mpr c34
            clear c34
            replace H := Option.bind_eq_some_iff.mp H
            obtain ⟨t319, A350, H⟩ := H
            replace H : (some t319) = some r := H
            have A35 := Aside0.mk A350
            clear A350
            clear hr
            obtain rfl := Option.some.inj H
            go_wp2_with (first | (go_at_call 14; (with_reducible refine (stowagelaw21_awake.calls k3  t319 _ (by first | exact hG | exact gok_below hG (by repeat (first | (with_reducible first | exact HB.out | apply below_alloc | apply pw_below_drewN | apply below_drew1) | exact HB.out)) | exact gok_drewN hG _ | exact gok_below hG (by repeat (first | exact HB.out | exact HBW.out | exact Below.refl _ _ | apply below_alloc | apply pw_below_drewN | apply below_drew1))) A35.out).mono ?_); rintro e w36 ⟨rfl, hb⟩; have n0_ := Aside0.mk (below_step (by repeat (first | (with_reducible first | exact HB.out | apply below_alloc | apply pw_below_drewN | apply below_drew1) | exact HB.out)) hb); clear HB; have HB := n0_; clear n0_; (try clear hb); (try clear hb2); (try clear hk); (try clear hi)))
            go_ret
            exact ⟨by first | rfl | (simp [errW_none, errW_some] <;> rfl) | (simp [*, errW_none, errW_some] <;> rfl), by repeat (first | (with_reducible first | exact HB.out | apply below_alloc | apply pw_below_drewN | apply below_drew1) | exact HB.out)⟩
           ·rw [if_neg c34] at H
            have c34b0 : (x11_3 == a1) = false := beq_eq_false_iff_ne.mpr c34
            have c34b1 : (x11_3 != a1) = true := bne_iff_ne.mpr c34
            rw [hr] at H
            exact absurd H (by simp)
 ·rw [if_neg c5] at H
  have c5b0 : (t316 == 0) = false := beq_eq_false_iff_ne.mpr c5
  have c5b1 : (t316 != 0) = true := bne_iff_ne.mpr c5
  by_cases c37 : t313 = 0
  ·rw [if_pos c37] at H
   have c37b0 : (t313 == 0) = true := beq_iff_eq.mpr c37
   have c37b1 : (t313 != 0) = false := bne_eq_false_iff_eq.mpr c37
   clear c37
   by_cases c38 : t314 = 0
   ·rw [if_pos c38] at H
    have c38b0 : (t314 == 0) = true := beq_iff_eq.mpr c38
    have c38b1 : (t314 != 0) = false := bne_eq_false_iff_eq.mpr c38
    clear c38
    by_cases c39 : t315 = true
    ·subst c39
     have H1 : (some false) = some r := by rw [if_pos rfl] at H; exact H
     clear H
     have H := H1
     clear H1
     rw [hr] at H
     exact absurd H (by simp)
    ·replace c39 := Bool.eq_false_iff.mpr c39
     subst c39
     have H1 : (if t316 = 320 then ((stowagelaw21_awake.f k).bind fun t317 => (some t317)) else (some false)) = some r := by rw [if_neg (show ¬ (false = true) by decide)] at H; exact H
     clear H
     have H := H1
     clear H1
     by_cases c40 : t316 = 320
     ·rw [if_pos c40] at H
      have c40b0 : (t316 == 320) = true := beq_iff_eq.mpr c40
      have c40b1 : (t316 != 320) = false := bne_eq_false_iff_eq.mpr c40
      clear c40
      replace H := Option.bind_eq_some_iff.mp H
      obtain ⟨t317, A410, H⟩ := H
      replace H : (some t317) = some r := H
      have A41 := Aside0.mk A410
      clear A410
      clear hr
      obtain rfl := Option.some.inj H
      go_enter Try.func6, Try.ntmps6
      go_wp2_with (first | ((with_reducible refine gate_callee (f := 15) rfl ?_); refine goesL_ (some 19) rfl rfl Try.func15 (by kernel_rfl) rfl #[.string a0, .int .i64 a1] rfl (by (try simp only [List.map_toArray, List.map_cons, List.map_nil]); first | done | rfl | (simp only [List.length_drop, List.length_take]; rfl)) ?_; (with_reducible refine (cond_Range.calls k a0 a1 t313 t314 false t316 _ A4.out).mono ?_); rintro e w42 ⟨rfl, hb⟩; refine ⟨_, rfl, ?_⟩; have n0_ := Aside0.mk (below_step (by repeat (first | (with_reducible first | exact HB.out | apply below_alloc | apply pw_below_drewN | apply below_drew1) | exact HB.out)) hb); clear HB; have HB := n0_; clear n0_; (try clear hb); (try clear hb2); (try clear hk); (try clear hi)) | (go_at_call 14; (with_reducible refine (stowagelaw21_awake.calls k  t317 _ (by first | exact hG | exact gok_below hG (by repeat (first | (with_reducible first | exact HB.out | apply below_alloc | apply pw_below_drewN | apply below_drew1) | exact HB.out)) | exact gok_drewN hG _ | exact gok_below hG (by repeat (first | exact HB.out | exact HBW.out | exact Below.refl _ _ | apply below_alloc | apply pw_below_drewN | apply below_drew1))) A41.out).mono ?_); rintro e w43 ⟨rfl, hb⟩; have n0_ := Aside0.mk (below_step (by repeat (first | (with_reducible first | exact HB.out | apply below_alloc | apply pw_below_drewN | apply below_drew1) | exact HB.out)) hb); clear HB; have HB := n0_; clear n0_; (try clear hb); (try clear hb2); (try clear hk); (try clear hi)))
      go_ret
      exact ⟨by first | rfl | (simp [errW_none, errW_some] <;> rfl) | (simp [*, errW_none, errW_some] <;> rfl), by repeat (first | (with_reducible first | exact HB.out | apply below_alloc | apply pw_below_drewN | apply below_drew1) | exact HB.out)⟩
     ·rw [if_neg c40] at H
      have c40b0 : (t316 == 320) = false := beq_eq_false_iff_ne.mpr c40
      have c40b1 : (t316 != 320) = true := bne_iff_ne.mpr c40
      rw [hr] at H
      exact absurd H (by simp)
   ·rw [if_neg c38] at H
    have c38b0 : (t314 == 0) = false := beq_eq_false_iff_ne.mpr c38
    have c38b1 : (t314 != 0) = true := bne_iff_ne.mpr c38
    rw [hr] at H
    exact absurd H (by simp)
  ·rw [if_neg c37] at H
   have c37b0 : (t313 == 0) = false := beq_eq_false_iff_ne.mpr c37
   have c37b1 : (t313 != 0) = true := bne_iff_ne.mpr c37
   rw [hr] at H
   exact absurd H (by simp)
def stowagelaw21_CondPieces.Pure : Prop := ∀ (a0 : ByteArray) (a1 : Int) (a2 : Int), a0.size ≤ 140737488351232 → (Lit.int .i64 a1).wf = true → (Lit.int .i64 a2).wf = true → ∃ k, stowagelaw21_CondPieces.f k a0 a1 a2 = some true
theorem stowagelaw21_CondPieces.walk (P : stowagelaw21_CondPieces.Pure) (a0 : ByteArray) (a1 : Int) (a2 : Int) (w : World) (w0 : a0.size ≤ 140737488351232) (w1 : (Lit.int .i64 a1).wf = true) (w2 : (Lit.int .i64 a2).wf = true) (hG : GOk w) :
  Calls Try.prog 6 #[.string a0, .int .i64 a1, .int .i64 a2] w fun e w' => e = .returned (.bool true) ∧ Below w.heap.size w w' := by
 obtain ⟨k, h⟩ := P a0 a1 a2 w0 w1 w2
 refine (stowagelaw21_CondPieces.calls k a0 a1 a2 true w hG h rfl).mono ?_
 rintro e w' ⟨rfl, hd⟩
 exact ⟨rfl, hd⟩
end Go.Proofs.Ythjofhklkkmdoaa.Q
