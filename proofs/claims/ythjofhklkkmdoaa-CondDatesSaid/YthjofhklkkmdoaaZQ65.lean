/- A part of the proof of the seat's laws. No condition beyond those in the theorems. -/
import Derived.Test.YthjofhklkkmdoaaZQ0g7
import Derived.Test.YthjofhklkkmdoaaZQ45
import Derived.Test.YthjofhklkkmdoaaZQ46
import Derived.Test.YthjofhklkkmdoaaZQ64

namespace Go.Proofs.Ythjofhklkkmdoaa.Q
open Go.RowKit Go.Proofs.YthjofhklkkmdoaaW.PrintWords Go.Proofs.YthjofhklkkmdoaaW.PrintLast Go.Proofs.YthjofhklkkmdoaaW.PrintMore
set_option linter.unusedVariables false
set_option linter.unusedSimpArgs false
attribute [local go_sem] max2_int min2_int max_two min_two max_three min_three max_four min_four   
def stowagelaw21_CondDates.j0 : Nat → ByteArray → Int → Bool → Option (Bool)
 | 0, _, _, _ => none
 | k + 1, x0, x1, x16 => if x16 = true then ((stowagelaw21_awake.f k).bind fun t352 => (some t352)) else ((stowagelaw21_CondDates_1.f k (⟨#[105, 102, 45, 109, 111, 100, 105, 102, 105, 101, 100, 45, 115, 105, 110, 99, 101]⟩ : ByteArray) x1).bind fun t353 => ((cond_Ask.f k t353 x0 x1 true).bind fun t356 => ((stowagelaw21_CondDates_1.f k (⟨#[105, 102, 45, 109, 111, 100, 105, 102, 105, 101, 100, 45, 115, 105, 110, 99, 101]⟩ : ByteArray) (wrap64 (x1 - 1))).bind fun t357 => ((cond_Ask.f k t357 x0 x1 true).bind fun t360 => ((stowagelaw21_CondDates_1.f k (⟨#[105, 102, 45, 117, 110, 109, 111, 100, 105, 102, 105, 101, 100, 45, 115, 105, 110, 99, 101]⟩ : ByteArray) x1).bind fun t361 => ((cond_Ask.f k t361 x0 x1 false).bind fun t364 => ((stowagelaw21_CondDates_1.f k (⟨#[105, 102, 45, 117, 110, 109, 111, 100, 105, 102, 105, 101, 100, 45, 115, 105, 110, 99, 101]⟩ : ByteArray) (wrap64 (x1 - 1))).bind fun t365 => ((cond_Ask.f k t365 x0 x1 false).bind fun t368 => ((stowagelaw21_CondDates_1.f k (⟨#[105, 102, 45, 109, 111, 100, 105, 102, 105, 101, 100, 45, 115, 105, 110, 99, 101]⟩ : ByteArray) x1).bind fun t369 => ((cond_Ask.f k t369 x0 x1 false).bind fun t372 => (if t356 = 328 then (if t360 = 0 then (if t364 = 0 then (if t368 = 327 then (if t372 = 0 then ((stowagelaw21_awake.f k).bind fun t373 => (some t373)) else (some false)) else (some false)) else (some false)) else (some false)) else (some false))))))))))))
def stowagelaw21_CondDates.f (k : Nat) (a0 : ByteArray) (a1 : Int) : Option (Bool) := if a1 < 1 then (stowagelaw21_CondDates.j0 k a0 a1 true) else (stowagelaw21_CondDates.j0 k a0 a1 (decide (a1 ≥ 253402300799)))
theorem stowagelaw21_CondDates.mono_l : ∀ k, (∀ y0 y1 y2, LeO (stowagelaw21_CondDates.j0 k y0 y1 y2) (stowagelaw21_CondDates.j0 (k + 1) y0 y1 y2))
 | 0 => fun _ _ _ r h => by simp [stowagelaw21_CondDates.j0] at h
 | k + 1 => by
  have ih0 := stowagelaw21_CondDates.mono_l k
  ·intro y0 y1 y2
   unfold stowagelaw21_CondDates.j0
   repeat' first
   | (with_reducible exact ih0 _ _ _)
   | (with_reducible exact cond_Ask.mono _ _ _ _ _)
   | (with_reducible exact stowagelaw21_CondDates_1.mono _ _ _)
   | (with_reducible exact stowagelaw21_awake.mono _)
   | (with_reducible exact LeO.refl _)
   | (with_reducible exact LeO.none _)
   | (with_reducible refine LeO.ite ?_ ?_)
   | (with_reducible refine LeO.bind ?_ (fun _ => ?_))
   | exact ih0 _ _ _
   | exact cond_Ask.mono _ _ _ _ _
   | exact stowagelaw21_CondDates_1.mono _ _ _
   | exact stowagelaw21_awake.mono _
   | exact LeO.none _
   | refine LeO.ite ?_ ?_
   | refine LeO.bind ?_ (fun _ => ?_)
theorem stowagelaw21_CondDates.mono : ∀ a0 a1 k, LeO (stowagelaw21_CondDates.f k a0 a1) (stowagelaw21_CondDates.f (k + 1) a0 a1) := by
 intro a0 a1 k
 have ih0 := stowagelaw21_CondDates.mono_l k
 unfold stowagelaw21_CondDates.f
 repeat' first
   | (with_reducible exact ih0 _ _ _)
   | (with_reducible exact cond_Ask.mono _ _ _ _ _)
   | (with_reducible exact stowagelaw21_CondDates_1.mono _ _ _)
   | (with_reducible exact stowagelaw21_awake.mono _)
   | (with_reducible exact LeO.refl _)
   | (with_reducible exact LeO.none _)
   | (with_reducible refine LeO.ite ?_ ?_)
   | (with_reducible refine LeO.bind ?_ (fun _ => ?_))
   | exact ih0 _ _ _
   | exact cond_Ask.mono _ _ _ _ _
   | exact stowagelaw21_CondDates_1.mono _ _ _
   | exact stowagelaw21_awake.mono _
   | exact LeO.none _
   | refine LeO.ite ?_ ?_
   | refine LeO.bind ?_ (fun _ => ?_)
set_option maxHeartbeats 8000000 in
set_option maxRecDepth 100000 in
theorem stowagelaw21_CondDates.calls (k : Nat) (a0 : ByteArray) (a1 : Int) (r : Bool) (w : World) (hG : GOk w) (h : stowagelaw21_CondDates.f k a0 a1 = some r) (hr : r = true) :
  Calls Try.prog 7 #[.string a0, .int .i64 a1] w fun e w' => e = .returned (.bool r) ∧ Below w.heap.size w w' := by
 have HB := Aside0.mk (Below.refl w.heap.size w)
 have H : (if a1 < 1 then (stowagelaw21_CondDates.j0 k a0 a1 true) else (stowagelaw21_CondDates.j0 k a0 a1 (decide (a1 ≥ 253402300799)))) = some r := h
 clear h
 have HC3 := Aside0.mk H
 clear H
 go_enter Try.func7, Try.ntmps7
 go_upto_region 1 with (fail)
 go_cut [16] (fun v16 wc => ∃ (kq : Nat) (x16_2 : Bool), v16 = .bool x16_2 ∧ Aside0 (stowagelaw21_CondDates.j0 kq a0 a1 x16_2 = some r) ∧ Aside0 (kq ≤ k) ∧ Aside0 (Below w.heap.size w wc))
 case first =>
  have H := HC3.out
  clear HC3
  by_cases c4 : a1 < 1
  ·rw [if_pos c4] at H
   have c4b0 : decide (a1 < 1) = true := decide_eq_true c4
   clear c4
   (first | rw [c4b0] | (simp only [i64_w, i32_w]; rw [c4b0]) | skip)
   have H' := Aside0.mk H
   clear H
   go_wp2
   go_meet
   case rel => exact ⟨_, (true), (by first | rfl | (simp; done) | (simp [*]; done)), H', ⟨by first | omega | exact Nat.le_refl _⟩, ⟨by repeat (first | (with_reducible first | exact HB.out | apply below_alloc | apply pw_below_drewN | apply below_drew1) | exact HB.out)⟩⟩
  ·rw [if_neg c4] at H
   have c4b0 : decide (a1 < 1) = false := decide_eq_false c4
   clear c4
   (first | rw [c4b0] | (simp only [i64_w, i32_w]; rw [c4b0]) | skip)
   have H' := Aside0.mk H
   clear H
   go_wp2
   go_meet
   case rel => exact ⟨_, (decide (a1 ≥ 253402300799)), (by first | rfl | (simp; done) | (simp [*]; done)), H', ⟨by first | omega | exact Nat.le_refl _⟩, ⟨by repeat (first | (with_reducible first | exact HB.out | apply below_alloc | apply pw_below_drewN | apply below_drew1) | exact HB.out)⟩⟩
 case rest =>
  clear HC3
  try clear p2
  try clear c4
  try clear c4b0
  obtain ⟨kq, x16_2, rfl, HA, HJ2, HB⟩ := hcut
  cases kq with
  | zero => exact absurd HA.out (by simp [stowagelaw21_CondDates.j0])
  | succ kj2 =>
   have H := HA.out
   clear HA
   simp only [stowagelaw21_CondDates.j0] at H
   by_cases c5 : x16_2 = true
   ·subst c5
    have H1 : ((stowagelaw21_awake.f kj2).bind fun t352 => (some t352)) = some r := by rw [if_pos rfl] at H; exact H
    clear H
    have H := H1
    clear H1
    replace H := Option.bind_eq_some_iff.mp H
    obtain ⟨t352, A60, H⟩ := H
    replace H : (some t352) = some r := H
    have A6 := Aside0.mk A60
    clear A60
    clear hr
    obtain rfl := Option.some.inj H
    go_wp2_with (first | ((with_reducible refine gate_callee (f := 14) rfl ?_); refine goesL_ (some 17) rfl rfl Try.func14 (by kernel_rfl) rfl #[] rfl (by (try simp only [List.map_toArray, List.map_cons, List.map_nil]); first | done | rfl | (simp only [List.length_drop, List.length_take]; rfl)) ?_; (with_reducible refine (stowagelaw21_awake.calls kj2  t352 _ (by first | exact hG | exact gok_below hG (by repeat (first | (with_reducible first | exact HB.out | apply below_alloc | apply pw_below_drewN | apply below_drew1) | exact HB.out)) | exact gok_drewN hG _ | exact gok_below hG (by repeat (first | exact HB.out | exact HBW.out | exact Below.refl _ _ | apply below_alloc | apply pw_below_drewN | apply below_drew1))) A6.out).mono ?_); rintro e w7 ⟨rfl, hb⟩; refine ⟨_, rfl, ?_⟩; have n0_ := Aside0.mk (below_step (by repeat (first | (with_reducible first | exact HB.out | apply below_alloc | apply pw_below_drewN | apply below_drew1) | exact HB.out)) hb); clear HB; have HB := n0_; clear n0_; (try clear hb); (try clear hb2); (try clear hk); (try clear hi)))
    go_ret
    exact ⟨by first | rfl | (simp [errW_none, errW_some] <;> rfl) | (simp [*, errW_none, errW_some] <;> rfl), by repeat (first | (with_reducible first | exact HB.out | apply below_alloc | apply pw_below_drewN | apply below_drew1) | exact HB.out)⟩
   ·replace c5 := Bool.eq_false_iff.mpr c5
    subst c5
    have H1 : ((stowagelaw21_CondDates_1.f kj2 (⟨#[105, 102, 45, 109, 111, 100, 105, 102, 105, 101, 100, 45, 115, 105, 110, 99, 101]⟩ : ByteArray) a1).bind fun t353 => ((cond_Ask.f kj2 t353 a0 a1 true).bind fun t356 => ((stowagelaw21_CondDates_1.f kj2 (⟨#[105, 102, 45, 109, 111, 100, 105, 102, 105, 101, 100, 45, 115, 105, 110, 99, 101]⟩ : ByteArray) (wrap64 (a1 - 1))).bind fun t357 => ((cond_Ask.f kj2 t357 a0 a1 true).bind fun t360 => ((stowagelaw21_CondDates_1.f kj2 (⟨#[105, 102, 45, 117, 110, 109, 111, 100, 105, 102, 105, 101, 100, 45, 115, 105, 110, 99, 101]⟩ : ByteArray) a1).bind fun t361 => ((cond_Ask.f kj2 t361 a0 a1 false).bind fun t364 => ((stowagelaw21_CondDates_1.f kj2 (⟨#[105, 102, 45, 117, 110, 109, 111, 100, 105, 102, 105, 101, 100, 45, 115, 105, 110, 99, 101]⟩ : ByteArray) (wrap64 (a1 - 1))).bind fun t365 => ((cond_Ask.f kj2 t365 a0 a1 false).bind fun t368 => ((stowagelaw21_CondDates_1.f kj2 (⟨#[105, 102, 45, 109, 111, 100, 105, 102, 105, 101, 100, 45, 115, 105, 110, 99, 101]⟩ : ByteArray) a1).bind fun t369 => ((cond_Ask.f kj2 t369 a0 a1 false).bind fun t372 => (if t356 = 328 then (if t360 = 0 then (if t364 = 0 then (if t368 = 327 then (if t372 = 0 then ((stowagelaw21_awake.f kj2).bind fun t373 => (some t373)) else (some false)) else (some false)) else (some false)) else (some false)) else (some false)))))))))))) = some r := by rw [if_neg (show ¬ (false = true) by decide)] at H; exact H
    clear H
    have H := H1
    clear H1
    replace H := Option.bind_eq_some_iff.mp H
    obtain ⟨t353, A80, H⟩ := H
    replace H : ((cond_Ask.f kj2 t353 a0 a1 true).bind fun t356 => ((stowagelaw21_CondDates_1.f kj2 (⟨#[105, 102, 45, 109, 111, 100, 105, 102, 105, 101, 100, 45, 115, 105, 110, 99, 101]⟩ : ByteArray) (wrap64 (a1 - 1))).bind fun t357 => ((cond_Ask.f kj2 t357 a0 a1 true).bind fun t360 => ((stowagelaw21_CondDates_1.f kj2 (⟨#[105, 102, 45, 117, 110, 109, 111, 100, 105, 102, 105, 101, 100, 45, 115, 105, 110, 99, 101]⟩ : ByteArray) a1).bind fun t361 => ((cond_Ask.f kj2 t361 a0 a1 false).bind fun t364 => ((stowagelaw21_CondDates_1.f kj2 (⟨#[105, 102, 45, 117, 110, 109, 111, 100, 105, 102, 105, 101, 100, 45, 115, 105, 110, 99, 101]⟩ : ByteArray) (wrap64 (a1 - 1))).bind fun t365 => ((cond_Ask.f kj2 t365 a0 a1 false).bind fun t368 => ((stowagelaw21_CondDates_1.f kj2 (⟨#[105, 102, 45, 109, 111, 100, 105, 102, 105, 101, 100, 45, 115, 105, 110, 99, 101]⟩ : ByteArray) a1).bind fun t369 => ((cond_Ask.f kj2 t369 a0 a1 false).bind fun t372 => (if t356 = 328 then (if t360 = 0 then (if t364 = 0 then (if t368 = 327 then (if t372 = 0 then ((stowagelaw21_awake.f kj2).bind fun t373 => (some t373)) else (some false)) else (some false)) else (some false)) else (some false)) else (some false))))))))))) = some r := H
    have A8 := Aside0.mk A80
    clear A80
    replace H := Option.bind_eq_some_iff.mp H
    obtain ⟨t356, A90, H⟩ := H
    replace H : ((stowagelaw21_CondDates_1.f kj2 (⟨#[105, 102, 45, 109, 111, 100, 105, 102, 105, 101, 100, 45, 115, 105, 110, 99, 101]⟩ : ByteArray) (wrap64 (a1 - 1))).bind fun t357 => ((cond_Ask.f kj2 t357 a0 a1 true).bind fun t360 => ((stowagelaw21_CondDates_1.f kj2 (⟨#[105, 102, 45, 117, 110, 109, 111, 100, 105, 102, 105, 101, 100, 45, 115, 105, 110, 99, 101]⟩ : ByteArray) a1).bind fun t361 => ((cond_Ask.f kj2 t361 a0 a1 false).bind fun t364 => ((stowagelaw21_CondDates_1.f kj2 (⟨#[105, 102, 45, 117, 110, 109, 111, 100, 105, 102, 105, 101, 100, 45, 115, 105, 110, 99, 101]⟩ : ByteArray) (wrap64 (a1 - 1))).bind fun t365 => ((cond_Ask.f kj2 t365 a0 a1 false).bind fun t368 => ((stowagelaw21_CondDates_1.f kj2 (⟨#[105, 102, 45, 109, 111, 100, 105, 102, 105, 101, 100, 45, 115, 105, 110, 99, 101]⟩ : ByteArray) a1).bind fun t369 => ((cond_Ask.f kj2 t369 a0 a1 false).bind fun t372 => (if t356 = 328 then (if t360 = 0 then (if t364 = 0 then (if t368 = 327 then (if t372 = 0 then ((stowagelaw21_awake.f kj2).bind fun t373 => (some t373)) else (some false)) else (some false)) else (some false)) else (some false)) else (some false)))))))))) = some r := H
    have A9 := Aside0.mk A90
    clear A90
    replace H := Option.bind_eq_some_iff.mp H
    obtain ⟨t357, A100, H⟩ := H
    replace H : ((cond_Ask.f kj2 t357 a0 a1 true).bind fun t360 => ((stowagelaw21_CondDates_1.f kj2 (⟨#[105, 102, 45, 117, 110, 109, 111, 100, 105, 102, 105, 101, 100, 45, 115, 105, 110, 99, 101]⟩ : ByteArray) a1).bind fun t361 => ((cond_Ask.f kj2 t361 a0 a1 false).bind fun t364 => ((stowagelaw21_CondDates_1.f kj2 (⟨#[105, 102, 45, 117, 110, 109, 111, 100, 105, 102, 105, 101, 100, 45, 115, 105, 110, 99, 101]⟩ : ByteArray) (wrap64 (a1 - 1))).bind fun t365 => ((cond_Ask.f kj2 t365 a0 a1 false).bind fun t368 => ((stowagelaw21_CondDates_1.f kj2 (⟨#[105, 102, 45, 109, 111, 100, 105, 102, 105, 101, 100, 45, 115, 105, 110, 99, 101]⟩ : ByteArray) a1).bind fun t369 => ((cond_Ask.f kj2 t369 a0 a1 false).bind fun t372 => (if t356 = 328 then (if t360 = 0 then (if t364 = 0 then (if t368 = 327 then (if t372 = 0 then ((stowagelaw21_awake.f kj2).bind fun t373 => (some t373)) else (some false)) else (some false)) else (some false)) else (some false)) else (some false))))))))) = some r := H
    have A10 := Aside0.mk A100
    clear A100
    replace H := Option.bind_eq_some_iff.mp H
    obtain ⟨t360, A110, H⟩ := H
    replace H : ((stowagelaw21_CondDates_1.f kj2 (⟨#[105, 102, 45, 117, 110, 109, 111, 100, 105, 102, 105, 101, 100, 45, 115, 105, 110, 99, 101]⟩ : ByteArray) a1).bind fun t361 => ((cond_Ask.f kj2 t361 a0 a1 false).bind fun t364 => ((stowagelaw21_CondDates_1.f kj2 (⟨#[105, 102, 45, 117, 110, 109, 111, 100, 105, 102, 105, 101, 100, 45, 115, 105, 110, 99, 101]⟩ : ByteArray) (wrap64 (a1 - 1))).bind fun t365 => ((cond_Ask.f kj2 t365 a0 a1 false).bind fun t368 => ((stowagelaw21_CondDates_1.f kj2 (⟨#[105, 102, 45, 109, 111, 100, 105, 102, 105, 101, 100, 45, 115, 105, 110, 99, 101]⟩ : ByteArray) a1).bind fun t369 => ((cond_Ask.f kj2 t369 a0 a1 false).bind fun t372 => (if t356 = 328 then (if t360 = 0 then (if t364 = 0 then (if t368 = 327 then (if t372 = 0 then ((stowagelaw21_awake.f kj2).bind fun t373 => (some t373)) else (some false)) else (some false)) else (some false)) else (some false)) else (some false)))))))) = some r := H
    have A11 := Aside0.mk A110
    clear A110
    replace H := Option.bind_eq_some_iff.mp H
    obtain ⟨t361, A120, H⟩ := H
    replace H : ((cond_Ask.f kj2 t361 a0 a1 false).bind fun t364 => ((stowagelaw21_CondDates_1.f kj2 (⟨#[105, 102, 45, 117, 110, 109, 111, 100, 105, 102, 105, 101, 100, 45, 115, 105, 110, 99, 101]⟩ : ByteArray) (wrap64 (a1 - 1))).bind fun t365 => ((cond_Ask.f kj2 t365 a0 a1 false).bind fun t368 => ((stowagelaw21_CondDates_1.f kj2 (⟨#[105, 102, 45, 109, 111, 100, 105, 102, 105, 101, 100, 45, 115, 105, 110, 99, 101]⟩ : ByteArray) a1).bind fun t369 => ((cond_Ask.f kj2 t369 a0 a1 false).bind fun t372 => (if t356 = 328 then (if t360 = 0 then (if t364 = 0 then (if t368 = 327 then (if t372 = 0 then ((stowagelaw21_awake.f kj2).bind fun t373 => (some t373)) else (some false)) else (some false)) else (some false)) else (some false)) else (some false))))))) = some r := H
    have A12 := Aside0.mk A120
    clear A120
    replace H := Option.bind_eq_some_iff.mp H
    obtain ⟨t364, A130, H⟩ := H
    replace H : ((stowagelaw21_CondDates_1.f kj2 (⟨#[105, 102, 45, 117, 110, 109, 111, 100, 105, 102, 105, 101, 100, 45, 115, 105, 110, 99, 101]⟩ : ByteArray) (wrap64 (a1 - 1))).bind fun t365 => ((cond_Ask.f kj2 t365 a0 a1 false).bind fun t368 => ((stowagelaw21_CondDates_1.f kj2 (⟨#[105, 102, 45, 109, 111, 100, 105, 102, 105, 101, 100, 45, 115, 105, 110, 99, 101]⟩ : ByteArray) a1).bind fun t369 => ((cond_Ask.f kj2 t369 a0 a1 false).bind fun t372 => (if t356 = 328 then (if t360 = 0 then (if t364 = 0 then (if t368 = 327 then (if t372 = 0 then ((stowagelaw21_awake.f kj2).bind fun t373 => (some t373)) else (some false)) else (some false)) else (some false)) else (some false)) else (some false)))))) = some r := H
    have A13 := Aside0.mk A130
    clear A130
    replace H := Option.bind_eq_some_iff.mp H
    obtain ⟨t365, A140, H⟩ := H
    replace H : ((cond_Ask.f kj2 t365 a0 a1 false).bind fun t368 => ((stowagelaw21_CondDates_1.f kj2 (⟨#[105, 102, 45, 109, 111, 100, 105, 102, 105, 101, 100, 45, 115, 105, 110, 99, 101]⟩ : ByteArray) a1).bind fun t369 => ((cond_Ask.f kj2 t369 a0 a1 false).bind fun t372 => (if t356 = 328 then (if t360 = 0 then (if t364 = 0 then (if t368 = 327 then (if t372 = 0 then ((stowagelaw21_awake.f kj2).bind fun t373 => (some t373)) else (some false)) else (some false)) else (some false)) else (some false)) else (some false))))) = some r := H
    have A14 := Aside0.mk A140
    clear A140
    replace H := Option.bind_eq_some_iff.mp H
    obtain ⟨t368, A150, H⟩ := H
    replace H : ((stowagelaw21_CondDates_1.f kj2 (⟨#[105, 102, 45, 109, 111, 100, 105, 102, 105, 101, 100, 45, 115, 105, 110, 99, 101]⟩ : ByteArray) a1).bind fun t369 => ((cond_Ask.f kj2 t369 a0 a1 false).bind fun t372 => (if t356 = 328 then (if t360 = 0 then (if t364 = 0 then (if t368 = 327 then (if t372 = 0 then ((stowagelaw21_awake.f kj2).bind fun t373 => (some t373)) else (some false)) else (some false)) else (some false)) else (some false)) else (some false)))) = some r := H
    have A15 := Aside0.mk A150
    clear A150
    replace H := Option.bind_eq_some_iff.mp H
    obtain ⟨t369, A160, H⟩ := H
    replace H : ((cond_Ask.f kj2 t369 a0 a1 false).bind fun t372 => (if t356 = 328 then (if t360 = 0 then (if t364 = 0 then (if t368 = 327 then (if t372 = 0 then ((stowagelaw21_awake.f kj2).bind fun t373 => (some t373)) else (some false)) else (some false)) else (some false)) else (some false)) else (some false))) = some r := H
    have A16 := Aside0.mk A160
    clear A160
    replace H := Option.bind_eq_some_iff.mp H
    obtain ⟨t372, A170, H⟩ := H
    replace H : (if t356 = 328 then (if t360 = 0 then (if t364 = 0 then (if t368 = 327 then (if t372 = 0 then ((stowagelaw21_awake.f kj2).bind fun t373 => (some t373)) else (some false)) else (some false)) else (some false)) else (some false)) else (some false)) = some r := H
    have A17 := Aside0.mk A170
    clear A170
    by_cases c18 : t356 = 328
    ·rw [if_pos c18] at H
     have c18b0 : (t356 == 328) = true := beq_iff_eq.mpr c18
     have c18b1 : (t356 != 328) = false := bne_eq_false_iff_eq.mpr c18
     clear c18
     by_cases c19 : t360 = 0
     ·rw [if_pos c19] at H
      have c19b0 : (t360 == 0) = true := beq_iff_eq.mpr c19
      have c19b1 : (t360 != 0) = false := bne_eq_false_iff_eq.mpr c19
      clear c19
      by_cases c20 : t364 = 0
      ·rw [if_pos c20] at H
       have c20b0 : (t364 == 0) = true := beq_iff_eq.mpr c20
       have c20b1 : (t364 != 0) = false := bne_eq_false_iff_eq.mpr c20
       clear c20
       by_cases c21 : t368 = 327
       ·rw [if_pos c21] at H
        have c21b0 : (t368 == 327) = true := beq_iff_eq.mpr c21
        have c21b1 : (t368 != 327) = false := bne_eq_false_iff_eq.mpr c21
        clear c21
        by_cases c22 : t372 = 0
        ·rw [if_pos c22] at H
         have c22b0 : (t372 == 0) = true := beq_iff_eq.mpr c22
         have c22b1 : (t372 != 0) = false := bne_eq_false_iff_eq.mpr c22
         clear c22
         replace H := Option.bind_eq_some_iff.mp H
         obtain ⟨t373, A230, H⟩ := H
         replace H : (some t373) = some r := H
         have A23 := Aside0.mk A230
         clear A230
         clear hr
         obtain rfl := Option.some.inj H
         go_wp2_with (first | (go_at_call 21; (with_reducible refine (stowagelaw21_CondDates_1.calls kj2 (⟨#[105, 102, 45, 109, 111, 100, 105, 102, 105, 101, 100, 45, 115, 105, 110, 99, 101]⟩ : ByteArray) a1 t353 _ A8.out).mono ?_); rintro e w24 ⟨v354, rfl, ho0, hb⟩; have n0_ := Aside0.mk (Kd.R_lower ho0 (below_size (by repeat (first | (with_reducible first | exact HB.out | apply below_alloc | apply pw_below_drewN | apply below_drew1) | exact HB.out)))); have n1_ := Aside0.mk (below_step (by repeat (first | (with_reducible first | exact HB.out | apply below_alloc | apply pw_below_drewN | apply below_drew1) | exact HB.out)) hb); clear HB; have HO355 := n0_; have HB := n1_; clear n0_ n1_; (try clear hb); (try clear hb2); (try clear hk); (try clear hi); (try clear ho0); (try clear A8); obtain ⟨Ao25, co25, eo25⟩ := Kd.R_slice HO355.out; subst eo25) | ((with_reducible refine gate_callee (f := 19) rfl ?_); refine goesL_ (some 23) rfl rfl Try.func19 (by kernel_rfl) rfl #[.slice Ao25 t353.length co25, .string a0, .int .i64 a1, .bool true] rfl (by (try simp only [List.map_toArray, List.map_cons, List.map_nil]); first | done | rfl | (simp only [List.length_drop, List.length_take]; rfl)) ?_; (with_reducible refine (cond_Ask.calls kj2 _ _ t353 a0 a1 true t356 _ ?side1 ?side2 (by first | exact hG | exact gok_below hG (by repeat (first | (with_reducible first | exact HB.out | apply below_alloc | apply pw_below_drewN | apply below_drew1) | exact HB.out)) | exact gok_drewN hG _ | exact gok_below hG (by repeat (first | exact HB.out | exact HBW.out | exact Below.refl _ _ | apply below_alloc | apply pw_below_drewN | apply below_drew1))) A9.out).mono ?_); (case side1 => repeat (first | exact (Kd.R_reads' HO355.out).2.2 | (with_reducible refine Kd.C_alloc ?_ _) | (with_reducible refine Kd.C_drewN ?_ _) | (with_reducible refine Kd.C_drew ?_))); (case side2 => exact (Kd.R_reads' HO355.out).2.1); rintro e w26 ⟨rfl, hb⟩; refine ⟨_, rfl, ?_⟩; have n0_ := Aside0.mk (Kd.R_below (by (with_reducible repeat (first | apply Kd.R_alloc | apply Kd.R_drewN | apply Kd.R_drew)); exact HO355.out) hb); have n1_ := Aside0.mk (below_step (by repeat (first | (with_reducible first | exact HB.out | apply below_alloc | apply pw_below_drewN | apply below_drew1) | exact HB.out)) hb); clear HO355; clear HB; have HO355 := n0_; have HB := n1_; clear n0_ n1_; (try clear hb); (try clear hb2); (try clear hk); (try clear hi)) | (go_at_call 21; (with_reducible refine (stowagelaw21_CondDates_1.calls kj2 (⟨#[105, 102, 45, 109, 111, 100, 105, 102, 105, 101, 100, 45, 115, 105, 110, 99, 101]⟩ : ByteArray) (wrap64 (a1 - 1)) t357 _ A10.out).mono ?_); rintro e w27 ⟨v358, rfl, ho0, hb⟩; have n0_ := Aside0.mk (Kd.R_elder' (by (with_reducible repeat (first | apply Kd.R_alloc | apply Kd.R_drewN | apply Kd.R_drew)); exact HO355.out) (Kd.R_base ho0) hb); have n1_ := Aside0.mk (Kd.R_lower (Kd.R_new' ho0 (Kd.R_lt (by (with_reducible repeat (first | apply Kd.R_alloc | apply Kd.R_drewN | apply Kd.R_drew)); exact HO355.out))) (below_size (by repeat (first | (with_reducible first | exact HB.out | apply below_alloc | apply pw_below_drewN | apply below_drew1) | exact HB.out)))); have n2_ := Aside0.mk (below_step (by repeat (first | (with_reducible first | exact HB.out | apply below_alloc | apply pw_below_drewN | apply below_drew1) | exact HB.out)) hb); clear HO355; clear HB; have HO355 := n0_; have HO359 := n1_; have HB := n2_; clear n0_ n1_ n2_; (try clear hb); (try clear hb2); (try clear hk); (try clear hi); (try clear ho0); obtain ⟨Ao28, co28, eo28⟩ := Kd.R_slice HO359.out; subst eo28) | ((with_reducible refine gate_callee (f := 19) rfl ?_); refine goesL_ (some 30) rfl rfl Try.func19 (by kernel_rfl) rfl #[.slice Ao28 t357.length co28, .string a0, .int .i64 a1, .bool true] rfl (by (try simp only [List.map_toArray, List.map_cons, List.map_nil]); first | done | rfl | (simp only [List.length_drop, List.length_take]; rfl)) ?_; (with_reducible refine (cond_Ask.calls kj2 _ _ t357 a0 a1 true t360 _ ?side1 ?side2 (by first | exact hG | exact gok_below hG (by repeat (first | (with_reducible first | exact HB.out | apply below_alloc | apply pw_below_drewN | apply below_drew1) | exact HB.out)) | exact gok_drewN hG _ | exact gok_below hG (by repeat (first | exact HB.out | exact HBW.out | exact Below.refl _ _ | apply below_alloc | apply pw_below_drewN | apply below_drew1))) A11.out).mono ?_); (case side1 => repeat (first | exact (Kd.R_reads' HO359.out).2.2 | (with_reducible refine Kd.C_alloc ?_ _) | (with_reducible refine Kd.C_drewN ?_ _) | (with_reducible refine Kd.C_drew ?_))); (case side2 => exact (Kd.R_reads' HO359.out).2.1); rintro e w29 ⟨rfl, hb⟩; refine ⟨_, rfl, ?_⟩; have n0_ := Aside0.mk (Kd.R_below (by (with_reducible repeat (first | apply Kd.R_alloc | apply Kd.R_drewN | apply Kd.R_drew)); exact HO355.out) hb); have n1_ := Aside0.mk (Kd.R_below (by (with_reducible repeat (first | apply Kd.R_alloc | apply Kd.R_drewN | apply Kd.R_drew)); exact HO359.out) hb); have n2_ := Aside0.mk (below_step (by repeat (first | (with_reducible first | exact HB.out | apply below_alloc | apply pw_below_drewN | apply below_drew1) | exact HB.out)) hb); clear HO355; clear HO359; clear HB; have HO355 := n0_; have HO359 := n1_; have HB := n2_; clear n0_ n1_ n2_; (try clear hb); (try clear hb2); (try clear hk); (try clear hi)) | (go_at_call 21; (with_reducible refine (stowagelaw21_CondDates_1.calls kj2 (⟨#[105, 102, 45, 117, 110, 109, 111, 100, 105, 102, 105, 101, 100, 45, 115, 105, 110, 99, 101]⟩ : ByteArray) a1 t361 _ A12.out).mono ?_); rintro e w30 ⟨v362, rfl, ho0, hb⟩; have n0_ := Aside0.mk (Kd.R_elder' (by (with_reducible repeat (first | apply Kd.R_alloc | apply Kd.R_drewN | apply Kd.R_drew)); exact HO355.out) (Kd.R_base ho0) hb); have n1_ := Aside0.mk (Kd.R_elder' (by (with_reducible repeat (first | apply Kd.R_alloc | apply Kd.R_drewN | apply Kd.R_drew)); exact HO359.out) (Kd.R_base ho0) hb); have n2_ := Aside0.mk (Kd.R_lower (Kd.R_new' (Kd.R_new' ho0 (Kd.R_lt (by (with_reducible repeat (first | apply Kd.R_alloc | apply Kd.R_drewN | apply Kd.R_drew)); exact HO355.out))) (Kd.R_lt (by (with_reducible repeat (first | apply Kd.R_alloc | apply Kd.R_drewN | apply Kd.R_drew)); exact HO359.out))) (below_size (by repeat (first | (with_reducible first | exact HB.out | apply below_alloc | apply pw_below_drewN | apply below_drew1) | exact HB.out)))); have n3_ := Aside0.mk (below_step (by repeat (first | (with_reducible first | exact HB.out | apply below_alloc | apply pw_below_drewN | apply below_drew1) | exact HB.out)) hb); clear HO355; clear HO359; clear HB; have HO355 := n0_; have HO359 := n1_; have HO363 := n2_; have HB := n3_; clear n0_ n1_ n2_ n3_; (try clear hb); (try clear hb2); (try clear hk); (try clear hi); (try clear ho0); obtain ⟨Ao31, co31, eo31⟩ := Kd.R_slice HO363.out; subst eo31) | ((with_reducible refine gate_callee (f := 19) rfl ?_); refine goesL_ (some 36) rfl rfl Try.func19 (by kernel_rfl) rfl #[.slice Ao31 t361.length co31, .string a0, .int .i64 a1, .bool false] rfl (by (try simp only [List.map_toArray, List.map_cons, List.map_nil]); first | done | rfl | (simp only [List.length_drop, List.length_take]; rfl)) ?_; (with_reducible refine (cond_Ask.calls kj2 _ _ t361 a0 a1 false t364 _ ?side1 ?side2 (by first | exact hG | exact gok_below hG (by repeat (first | (with_reducible first | exact HB.out | apply below_alloc | apply pw_below_drewN | apply below_drew1) | exact HB.out)) | exact gok_drewN hG _ | exact gok_below hG (by repeat (first | exact HB.out | exact HBW.out | exact Below.refl _ _ | apply below_alloc | apply pw_below_drewN | apply below_drew1))) A13.out).mono ?_); (case side1 => repeat (first | exact (Kd.R_reads' HO363.out).2.2 | (with_reducible refine Kd.C_alloc ?_ _) | (with_reducible refine Kd.C_drewN ?_ _) | (with_reducible refine Kd.C_drew ?_))); (case side2 => exact (Kd.R_reads' HO363.out).2.1); rintro e w32 ⟨rfl, hb⟩; refine ⟨_, rfl, ?_⟩; have n0_ := Aside0.mk (Kd.R_below (by (with_reducible repeat (first | apply Kd.R_alloc | apply Kd.R_drewN | apply Kd.R_drew)); exact HO355.out) hb); have n1_ := Aside0.mk (Kd.R_below (by (with_reducible repeat (first | apply Kd.R_alloc | apply Kd.R_drewN | apply Kd.R_drew)); exact HO359.out) hb); have n2_ := Aside0.mk (Kd.R_below (by (with_reducible repeat (first | apply Kd.R_alloc | apply Kd.R_drewN | apply Kd.R_drew)); exact HO363.out) hb); have n3_ := Aside0.mk (below_step (by repeat (first | (with_reducible first | exact HB.out | apply below_alloc | apply pw_below_drewN | apply below_drew1) | exact HB.out)) hb); clear HO355; clear HO359; clear HO363; clear HB; have HO355 := n0_; have HO359 := n1_; have HO363 := n2_; have HB := n3_; clear n0_ n1_ n2_ n3_; (try clear hb); (try clear hb2); (try clear hk); (try clear hi)) | (go_at_call 21; (with_reducible refine (stowagelaw21_CondDates_1.calls kj2 (⟨#[105, 102, 45, 117, 110, 109, 111, 100, 105, 102, 105, 101, 100, 45, 115, 105, 110, 99, 101]⟩ : ByteArray) (wrap64 (a1 - 1)) t365 _ A14.out).mono ?_); rintro e w33 ⟨v366, rfl, ho0, hb⟩; have n0_ := Aside0.mk (Kd.R_elder' (by (with_reducible repeat (first | apply Kd.R_alloc | apply Kd.R_drewN | apply Kd.R_drew)); exact HO355.out) (Kd.R_base ho0) hb); have n1_ := Aside0.mk (Kd.R_elder' (by (with_reducible repeat (first | apply Kd.R_alloc | apply Kd.R_drewN | apply Kd.R_drew)); exact HO359.out) (Kd.R_base ho0) hb); have n2_ := Aside0.mk (Kd.R_elder' (by (with_reducible repeat (first | apply Kd.R_alloc | apply Kd.R_drewN | apply Kd.R_drew)); exact HO363.out) (Kd.R_base ho0) hb); have n3_ := Aside0.mk (Kd.R_lower (Kd.R_new' (Kd.R_new' (Kd.R_new' ho0 (Kd.R_lt (by (with_reducible repeat (first | apply Kd.R_alloc | apply Kd.R_drewN | apply Kd.R_drew)); exact HO355.out))) (Kd.R_lt (by (with_reducible repeat (first | apply Kd.R_alloc | apply Kd.R_drewN | apply Kd.R_drew)); exact HO359.out))) (Kd.R_lt (by (with_reducible repeat (first | apply Kd.R_alloc | apply Kd.R_drewN | apply Kd.R_drew)); exact HO363.out))) (below_size (by repeat (first | (with_reducible first | exact HB.out | apply below_alloc | apply pw_below_drewN | apply below_drew1) | exact HB.out)))); have n4_ := Aside0.mk (below_step (by repeat (first | (with_reducible first | exact HB.out | apply below_alloc | apply pw_below_drewN | apply below_drew1) | exact HB.out)) hb); clear HO355; clear HO359; clear HO363; clear HB; have HO355 := n0_; have HO359 := n1_; have HO363 := n2_; have HO367 := n3_; have HB := n4_; clear n0_ n1_ n2_ n3_ n4_; (try clear hb); (try clear hb2); (try clear hk); (try clear hi); (try clear ho0); obtain ⟨Ao34, co34, eo34⟩ := Kd.R_slice HO367.out; subst eo34) | ((with_reducible refine gate_callee (f := 19) rfl ?_); refine goesL_ (some 43) rfl rfl Try.func19 (by kernel_rfl) rfl #[.slice Ao34 t365.length co34, .string a0, .int .i64 a1, .bool false] rfl (by (try simp only [List.map_toArray, List.map_cons, List.map_nil]); first | done | rfl | (simp only [List.length_drop, List.length_take]; rfl)) ?_; (with_reducible refine (cond_Ask.calls kj2 _ _ t365 a0 a1 false t368 _ ?side1 ?side2 (by first | exact hG | exact gok_below hG (by repeat (first | (with_reducible first | exact HB.out | apply below_alloc | apply pw_below_drewN | apply below_drew1) | exact HB.out)) | exact gok_drewN hG _ | exact gok_below hG (by repeat (first | exact HB.out | exact HBW.out | exact Below.refl _ _ | apply below_alloc | apply pw_below_drewN | apply below_drew1))) A15.out).mono ?_); (case side1 => repeat (first | exact (Kd.R_reads' HO367.out).2.2 | (with_reducible refine Kd.C_alloc ?_ _) | (with_reducible refine Kd.C_drewN ?_ _) | (with_reducible refine Kd.C_drew ?_))); (case side2 => exact (Kd.R_reads' HO367.out).2.1); rintro e w35 ⟨rfl, hb⟩; refine ⟨_, rfl, ?_⟩; have n0_ := Aside0.mk (Kd.R_below (by (with_reducible repeat (first | apply Kd.R_alloc | apply Kd.R_drewN | apply Kd.R_drew)); exact HO355.out) hb); have n1_ := Aside0.mk (Kd.R_below (by (with_reducible repeat (first | apply Kd.R_alloc | apply Kd.R_drewN | apply Kd.R_drew)); exact HO359.out) hb); have n2_ := Aside0.mk (Kd.R_below (by (with_reducible repeat (first | apply Kd.R_alloc | apply Kd.R_drewN | apply Kd.R_drew)); exact HO363.out) hb); have n3_ := Aside0.mk (Kd.R_below (by (with_reducible repeat (first | apply Kd.R_alloc | apply Kd.R_drewN | apply Kd.R_drew)); exact HO367.out) hb); have n4_ := Aside0.mk (below_step (by repeat (first | (with_reducible first | exact HB.out | apply below_alloc | apply pw_below_drewN | apply below_drew1) | exact HB.out)) hb); clear HO355; clear HO359; clear HO363; clear HO367; clear HB; have HO355 := n0_; have HO359 := n1_; have HO363 := n2_; have HO367 := n3_; have HB := n4_; clear n0_ n1_ n2_ n3_ n4_; (try clear hb); (try clear hb2); (try clear hk); (try clear hi)) | (go_at_call 21; (with_reducible refine (stowagelaw21_CondDates_1.calls kj2 (⟨#[105, 102, 45, 109, 111, 100, 105, 102, 105, 101, 100, 45, 115, 105, 110, 99, 101]⟩ : ByteArray) a1 t369 _ A16.out).mono ?_); rintro e w36 ⟨v370, rfl, ho0, hb⟩; have n0_ := Aside0.mk (Kd.R_elder' (by (with_reducible repeat (first | apply Kd.R_alloc | apply Kd.R_drewN | apply Kd.R_drew)); exact HO355.out) (Kd.R_base ho0) hb); have n1_ := Aside0.mk (Kd.R_elder' (by (with_reducible repeat (first | apply Kd.R_alloc | apply Kd.R_drewN | apply Kd.R_drew)); exact HO359.out) (Kd.R_base ho0) hb); have n2_ := Aside0.mk (Kd.R_elder' (by (with_reducible repeat (first | apply Kd.R_alloc | apply Kd.R_drewN | apply Kd.R_drew)); exact HO363.out) (Kd.R_base ho0) hb); have n3_ := Aside0.mk (Kd.R_elder' (by (with_reducible repeat (first | apply Kd.R_alloc | apply Kd.R_drewN | apply Kd.R_drew)); exact HO367.out) (Kd.R_base ho0) hb); have n4_ := Aside0.mk (Kd.R_lower (Kd.R_new' (Kd.R_new' (Kd.R_new' (Kd.R_new' ho0 (Kd.R_lt (by (with_reducible repeat (first | apply Kd.R_alloc | apply Kd.R_drewN | apply Kd.R_drew)); exact HO355.out))) (Kd.R_lt (by (with_reducible repeat (first | apply Kd.R_alloc | apply Kd.R_drewN | apply Kd.R_drew)); exact HO359.out))) (Kd.R_lt (by (with_reducible repeat (first | apply Kd.R_alloc | apply Kd.R_drewN | apply Kd.R_drew)); exact HO363.out))) (Kd.R_lt (by (with_reducible repeat (first | apply Kd.R_alloc | apply Kd.R_drewN | apply Kd.R_drew)); exact HO367.out))) (below_size (by repeat (first | (with_reducible first | exact HB.out | apply below_alloc | apply pw_below_drewN | apply below_drew1) | exact HB.out)))); have n5_ := Aside0.mk (below_step (by repeat (first | (with_reducible first | exact HB.out | apply below_alloc | apply pw_below_drewN | apply below_drew1) | exact HB.out)) hb); clear HO355; clear HO359; clear HO363; clear HO367; clear HB; have HO355 := n0_; have HO359 := n1_; have HO363 := n2_; have HO367 := n3_; have HO371 := n4_; have HB := n5_; clear n0_ n1_ n2_ n3_ n4_ n5_; (try clear hb); (try clear hb2); (try clear hk); (try clear hi); (try clear ho0); (try clear A16); obtain ⟨Ao37, co37, eo37⟩ := Kd.R_slice HO371.out; subst eo37) | ((with_reducible refine gate_callee (f := 19) rfl ?_); refine goesL_ (some 49) rfl rfl Try.func19 (by kernel_rfl) rfl #[.slice Ao37 t369.length co37, .string a0, .int .i64 a1, .bool false] rfl (by (try simp only [List.map_toArray, List.map_cons, List.map_nil]); first | done | rfl | (simp only [List.length_drop, List.length_take]; rfl)) ?_; (with_reducible refine (cond_Ask.calls kj2 _ _ t369 a0 a1 false t372 _ ?side1 ?side2 (by first | exact hG | exact gok_below hG (by repeat (first | (with_reducible first | exact HB.out | apply below_alloc | apply pw_below_drewN | apply below_drew1) | exact HB.out)) | exact gok_drewN hG _ | exact gok_below hG (by repeat (first | exact HB.out | exact HBW.out | exact Below.refl _ _ | apply below_alloc | apply pw_below_drewN | apply below_drew1))) A17.out).mono ?_); (case side1 => repeat (first | exact (Kd.R_reads' HO371.out).2.2 | (with_reducible refine Kd.C_alloc ?_ _) | (with_reducible refine Kd.C_drewN ?_ _) | (with_reducible refine Kd.C_drew ?_))); (case side2 => exact (Kd.R_reads' HO371.out).2.1); rintro e w38 ⟨rfl, hb⟩; refine ⟨_, rfl, ?_⟩; have n0_ := Aside0.mk (Kd.R_below (by (with_reducible repeat (first | apply Kd.R_alloc | apply Kd.R_drewN | apply Kd.R_drew)); exact HO355.out) hb); have n1_ := Aside0.mk (Kd.R_below (by (with_reducible repeat (first | apply Kd.R_alloc | apply Kd.R_drewN | apply Kd.R_drew)); exact HO359.out) hb); have n2_ := Aside0.mk (Kd.R_below (by (with_reducible repeat (first | apply Kd.R_alloc | apply Kd.R_drewN | apply Kd.R_drew)); exact HO363.out) hb); have n3_ := Aside0.mk (Kd.R_below (by (with_reducible repeat (first | apply Kd.R_alloc | apply Kd.R_drewN | apply Kd.R_drew)); exact HO367.out) hb); have n4_ := Aside0.mk (Kd.R_below (by (with_reducible repeat (first | apply Kd.R_alloc | apply Kd.R_drewN | apply Kd.R_drew)); exact HO371.out) hb); have n5_ := Aside0.mk (below_step (by repeat (first | (with_reducible first | exact HB.out | apply below_alloc | apply pw_below_drewN | apply below_drew1) | exact HB.out)) hb); clear HO355; clear HO359; clear HO363; clear HO367; clear HO371; clear HB; have HO355 := n0_; have HO359 := n1_; have HO363 := n2_; have HO367 := n3_; have HO371 := n4_; have HB := n5_; clear n0_ n1_ n2_ n3_ n4_ n5_; (try clear hb); (try clear hb2); (try clear hk); (try clear hi)) | (go_at_call 14; (with_reducible refine (stowagelaw21_awake.calls kj2  t373 _ (by first | exact hG | exact gok_below hG (by repeat (first | (with_reducible first | exact HB.out | apply below_alloc | apply pw_below_drewN | apply below_drew1) | exact HB.out)) | exact gok_drewN hG _ | exact gok_below hG (by repeat (first | exact HB.out | exact HBW.out | exact Below.refl _ _ | apply below_alloc | apply pw_below_drewN | apply below_drew1))) A23.out).mono ?_); rintro e w39 ⟨rfl, hb⟩; have n0_ := Aside0.mk (Kd.R_below (by (with_reducible repeat (first | apply Kd.R_alloc | apply Kd.R_drewN | apply Kd.R_drew)); exact HO355.out) hb); have n1_ := Aside0.mk (Kd.R_below (by (with_reducible repeat (first | apply Kd.R_alloc | apply Kd.R_drewN | apply Kd.R_drew)); exact HO359.out) hb); have n2_ := Aside0.mk (Kd.R_below (by (with_reducible repeat (first | apply Kd.R_alloc | apply Kd.R_drewN | apply Kd.R_drew)); exact HO363.out) hb); have n3_ := Aside0.mk (Kd.R_below (by (with_reducible repeat (first | apply Kd.R_alloc | apply Kd.R_drewN | apply Kd.R_drew)); exact HO367.out) hb); have n4_ := Aside0.mk (Kd.R_below (by (with_reducible repeat (first | apply Kd.R_alloc | apply Kd.R_drewN | apply Kd.R_drew)); exact HO371.out) hb); have n5_ := Aside0.mk (below_step (by repeat (first | (with_reducible first | exact HB.out | apply below_alloc | apply pw_below_drewN | apply below_drew1) | exact HB.out)) hb); clear HO355; clear HO359; clear HO363; clear HO367; clear HO371; clear HB; have HO355 := n0_; have HO359 := n1_; have HO363 := n2_; have HO367 := n3_; have HO371 := n4_; have HB := n5_; clear n0_ n1_ n2_ n3_ n4_ n5_; (try clear hb); (try clear hb2); (try clear hk); (try clear hi)))
         go_ret
         exact ⟨by first | rfl | (simp [errW_none, errW_some] <;> rfl) | (simp [*, errW_none, errW_some] <;> rfl), by repeat (first | (with_reducible first | exact HB.out | apply below_alloc | apply pw_below_drewN | apply below_drew1) | exact HB.out)⟩
        ·rw [if_neg c22] at H
         have c22b0 : (t372 == 0) = false := beq_eq_false_iff_ne.mpr c22
         have c22b1 : (t372 != 0) = true := bne_iff_ne.mpr c22
         rw [hr] at H
         exact absurd H (by simp)
       ·rw [if_neg c21] at H
        have c21b0 : (t368 == 327) = false := beq_eq_false_iff_ne.mpr c21
        have c21b1 : (t368 != 327) = true := bne_iff_ne.mpr c21
        rw [hr] at H
        exact absurd H (by simp)
      ·rw [if_neg c20] at H
       have c20b0 : (t364 == 0) = false := beq_eq_false_iff_ne.mpr c20
       have c20b1 : (t364 != 0) = true := bne_iff_ne.mpr c20
       rw [hr] at H
       exact absurd H (by simp)
     ·rw [if_neg c19] at H
      have c19b0 : (t360 == 0) = false := beq_eq_false_iff_ne.mpr c19
      have c19b1 : (t360 != 0) = true := bne_iff_ne.mpr c19
      rw [hr] at H
      exact absurd H (by simp)
    ·rw [if_neg c18] at H
     have c18b0 : (t356 == 328) = false := beq_eq_false_iff_ne.mpr c18
     have c18b1 : (t356 != 328) = true := bne_iff_ne.mpr c18
     rw [hr] at H
     exact absurd H (by simp)
def stowagelaw21_CondDates.Pure : Prop := ∀ (a0 : ByteArray) (a1 : Int), a0.size ≤ 140737488351232 → (Lit.int .i64 a1).wf = true → ∃ k, stowagelaw21_CondDates.f k a0 a1 = some true
theorem stowagelaw21_CondDates.walk (P : stowagelaw21_CondDates.Pure) (a0 : ByteArray) (a1 : Int) (w : World) (w0 : a0.size ≤ 140737488351232) (w1 : (Lit.int .i64 a1).wf = true) (hG : GOk w) :
  Calls Try.prog 7 #[.string a0, .int .i64 a1] w fun e w' => e = .returned (.bool true) ∧ Below w.heap.size w w' := by
 obtain ⟨k, h⟩ := P a0 a1 w0 w1
 refine (stowagelaw21_CondDates.calls k a0 a1 true w hG h rfl).mono ?_
 rintro e w' ⟨rfl, hd⟩
 exact ⟨rfl, hd⟩
end Go.Proofs.Ythjofhklkkmdoaa.Q
