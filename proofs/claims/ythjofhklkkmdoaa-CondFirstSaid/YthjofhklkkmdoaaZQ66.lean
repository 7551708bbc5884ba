/- A part of the proof of the seat's laws. No condition beyond those in the theorems. -/
import Derived.Test.YthjofhklkkmdoaaZQ0g7
import Derived.Test.YthjofhklkkmdoaaZQ45
import Derived.Test.YthjofhklkkmdoaaZQ46
import Derived.Test.YthjofhklkkmdoaaZQ63

namespace Go.Proofs.Ythjofhklkkmdoaa.Q
open Go.RowKit Go.Proofs.YthjofhklkkmdoaaW.PrintWords Go.Proofs.YthjofhklkkmdoaaW.PrintLast Go.Proofs.YthjofhklkkmdoaaW.PrintMore
set_option linter.unusedVariables false
set_option linter.unusedSimpArgs false
attribute [local go_sem] max2_int min2_int max_two min_two max_three min_three max_four min_four   
def stowagelaw21_CondFirst.j0 : Nat → Int → Int → Bool → Bool → Option (Bool)
 | 0, _, _, _, _ => none
 | k + 1, x0, x1, x2, x24 => if x24 = true then ((stowagelaw21_awake.f k).bind fun t374 => (some t374)) else ((stowageref4_Http.f k x1).bind fun t375 => ((cond_Ask.f k (([(⟨(⟨#[105, 102, 45, 117, 110, 109, 111, 100, 105, 102, 105, 101, 100, 45, 115, 105, 110, 99, 101]⟩ : ByteArray), t375⟩ : S41), (⟨(⟨#[105, 102, 45, 109, 97, 116, 99, 104]⟩ : ByteArray), (⟨#[34, 120, 34]⟩ : ByteArray)⟩ : S41)] : List (S41))) (⟨#[120]⟩ : ByteArray) x0 x2).bind fun t379 => ((cond_Ask.f k (([(⟨(⟨#[105, 102, 45, 109, 111, 100, 105, 102, 105, 101, 100, 45, 115, 105, 110, 99, 101]⟩ : ByteArray), t375⟩ : S41), (⟨(⟨#[105, 102, 45, 110, 111, 110, 101, 45, 109, 97, 116, 99, 104]⟩ : ByteArray), (⟨#[34, 121, 34]⟩ : ByteArray)⟩ : S41)] : List (S41))) (⟨#[120]⟩ : ByteArray) x0 x2).bind fun t383 => ((cond_Ask.f k (([(⟨(⟨#[105, 102, 45, 109, 97, 116, 99, 104]⟩ : ByteArray), (⟨#[34, 121, 34]⟩ : ByteArray)⟩ : S41), (⟨(⟨#[105, 102, 45, 110, 111, 110, 101, 45, 109, 97, 116, 99, 104]⟩ : ByteArray), (⟨#[34, 120, 34]⟩ : ByteArray)⟩ : S41)] : List (S41))) (⟨#[120]⟩ : ByteArray) x0 x2).bind fun t387 => (if t379 = 0 then (if t383 = 0 then (if t387 = 327 then ((stowagelaw21_awake.f k).bind fun t388 => (some t388)) else (some false)) else (some false)) else (some false))))))
def stowagelaw21_CondFirst.f (k : Nat) (a0 : Int) (a1 : Int) (a2 : Bool) : Option (Bool) := if a0 < 0 then (stowagelaw21_CondFirst.j0 k a0 a1 a2 true) else (if a0 > 253402300799 then (stowagelaw21_CondFirst.j0 k a0 a1 a2 true) else (if a1 < 0 then (stowagelaw21_CondFirst.j0 k a0 a1 a2 true) else (stowagelaw21_CondFirst.j0 k a0 a1 a2 (decide (a1 > 253402300799)))))
theorem stowagelaw21_CondFirst.mono_l : ∀ k, (∀ y0 y1 y2 y3, LeO (stowagelaw21_CondFirst.j0 k y0 y1 y2 y3) (stowagelaw21_CondFirst.j0 (k + 1) y0 y1 y2 y3))
 | 0 => fun _ _ _ _ r h => by simp [stowagelaw21_CondFirst.j0] at h
 | k + 1 => by
  have ih0 := stowagelaw21_CondFirst.mono_l k
  ·intro y0 y1 y2 y3
   unfold stowagelaw21_CondFirst.j0
   repeat' first
   | (with_reducible exact ih0 _ _ _ _)
   | (with_reducible exact cond_Ask.mono _ _ _ _ _)
   | (with_reducible exact stowagelaw21_awake.mono _)
   | (with_reducible exact stowageref4_Http.mono _ _)
   | (with_reducible exact LeO.refl _)
   | (with_reducible exact LeO.none _)
   | (with_reducible refine LeO.ite ?_ ?_)
   | (with_reducible refine LeO.bind ?_ (fun _ => ?_))
   | exact ih0 _ _ _ _
   | exact cond_Ask.mono _ _ _ _ _
   | exact stowagelaw21_awake.mono _
   | exact stowageref4_Http.mono _ _
   | exact LeO.none _
   | refine LeO.ite ?_ ?_
   | refine LeO.bind ?_ (fun _ => ?_)
theorem stowagelaw21_CondFirst.mono : ∀ a0 a1 a2 k, LeO (stowagelaw21_CondFirst.f k a0 a1 a2) (stowagelaw21_CondFirst.f (k + 1) a0 a1 a2) := by
 intro a0 a1 a2 k
 have ih0 := stowagelaw21_CondFirst.mono_l k
 unfold stowagelaw21_CondFirst.f
 repeat' first
   | (with_reducible exact ih0 _ _ _ _)
   | (with_reducible exact cond_Ask.mono _ _ _ _ _)
   | (with_reducible exact stowagelaw21_awake.mono _)
   | (with_reducible exact stowageref4_Http.mono _ _)
   | (with_reducible exact LeO.refl _)
   | (with_reducible exact LeO.none _)
   | (with_reducible refine LeO.ite ?_ ?_)
   | (with_reducible refine LeO.bind ?_ (fun _ => ?_))
   | exact ih0 _ _ _ _
   | exact cond_Ask.mono _ _ _ _ _
   | exact stowagelaw21_awake.mono _
   | exact stowageref4_Http.mono _ _
   | exact LeO.none _
   | refine LeO.ite ?_ ?_
   | refine LeO.bind ?_ (fun _ => ?_)
set_option maxHeartbeats 8000000 in
set_option maxRecDepth 100000 in
theorem stowagelaw21_CondFirst.calls (k : Nat) (a0 : Int) (a1 : Int) (a2 : Bool) (r : Bool) (w : World) (hG : GOk w) (h : stowagelaw21_CondFirst.f k a0 a1 a2 = some r) (hr : r = true) :
  Calls Try.prog 8 #[.int .i64 a0, .int .i64 a1, .bool a2] w fun e w' => e = .returned (.bool r) ∧ Below w.heap.size w w' := by
 have hu41 := Try.underlying41
 have HB := Aside0.mk (Below.refl w.heap.size w)
 have H : (if a0 < 0 then (stowagelaw21_CondFirst.j0 k a0 a1 a2 true) else (if a0 > 253402300799 then (stowagelaw21_CondFirst.j0 k a0 a1 a2 true) else (if a1 < 0 then (stowagelaw21_CondFirst.j0 k a0 a1 a2 true) else (stowagelaw21_CondFirst.j0 k a0 a1 a2 (decide (a1 > 253402300799)))))) = some r := h
 clear h
 have HC4 := Aside0.mk H
 clear H
 go_enter Try.func8, Try.ntmps8
 go_upto_region 1 with (fail)
 go_cut [24] (fun v24 wc => ∃ (kq : Nat) (x24_3 : Bool), v24 = .bool x24_3 ∧ Aside0 (stowagelaw21_CondFirst.j0 kq a0 a1 a2 x24_3 = some r) ∧ Aside0 (kq ≤ k) ∧ Aside0 (Below w.heap.size w wc))
 case first =>
  have H := HC4.out
  clear HC4
  by_cases c5 : a0 < 0
  ·rw [if_pos c5] at H
   have c5b0 : decide (a0 < 0) = true := decide_eq_true c5
   clear c5
   (first | rw [c5b0] | (simp only [i64_w, i32_w]; rw [c5b0]) | skip)
   have H' := Aside0.mk H
   clear H
   go_wp2
   go_meet
   case rel => exact ⟨_, (true), (by first | rfl | (simp; done) | (simp [*]; done)), H', ⟨by first | omega | exact Nat.le_refl _⟩, ⟨by repeat (first | (with_reducible first | exact HB.out | apply below_alloc | apply pw_below_drewN | apply below_drew1) | exact HB.out)⟩⟩
  ·rw [if_neg c5] at H
   have c5b0 : decide (a0 < 0) = false := decide_eq_false c5
   clear c5
   (first | rw [c5b0] | (simp only [i64_w, i32_w]; rw [c5b0]) | skip)
   by_cases c6 : a0 > 253402300799
   ·rw [if_pos c6] at H
    have c6b0 : decide (253402300799 < a0) = true := decide_eq_true c6
    clear c6
    have H' := Aside0.mk H
    clear H
    go_wp2
    go_meet
    case rel => exact ⟨_, (true), (by first | rfl | (simp; done) | (simp [*]; done)), H', ⟨by first | omega | exact Nat.le_refl _⟩, ⟨by repeat (first | (with_reducible first | exact HB.out | apply below_alloc | apply pw_below_drewN | apply below_drew1) | exact HB.out)⟩⟩
   ·rw [if_neg c6] at H
    have c6b0 : decide (253402300799 < a0) = false := decide_eq_false c6
    clear c6
    by_cases c7 : a1 < 0
    ·rw [if_pos c7] at H
     have c7b0 : decide (a1 < 0) = true := decide_eq_true c7
     clear c7
     have H' := Aside0.mk H
     clear H
     go_wp2
     go_meet
     case rel => exact ⟨_, (true), (by first | rfl | (simp; done) | (simp [*]; done)), H', ⟨by first | omega | exact Nat.le_refl _⟩, ⟨by repeat (first | (with_reducible first | exact HB.out | apply below_alloc | apply pw_below_drewN | apply below_drew1) | exact HB.out)⟩⟩
    ·rw [if_neg c7] at H
     have c7b0 : decide (a1 < 0) = false := decide_eq_false c7
     clear c7
     have H' := Aside0.mk H
     clear H
     go_wp2
     go_meet
     case rel => exact ⟨_, (decide (a1 > 253402300799)), (by first | rfl | (simp; done) | (simp [*]; done)), H', ⟨by first | omega | exact Nat.le_refl _⟩, ⟨by repeat (first | (with_reducible first | exact HB.out | apply below_alloc | apply pw_below_drewN | apply below_drew1) | exact HB.out)⟩⟩
 case rest =>
  clear HC4
  try clear p2
  try clear c5
  try clear c5b0
  try clear c6
  try clear c6b0
  try clear c7
  try clear c7b0
  obtain ⟨kq, x24_3, rfl, HA, HJ3, HB⟩ := hcut
  cases kq with
  | zero => exact absurd HA.out (by simp [stowagelaw21_CondFirst.j0])
  | succ kj3 =>
   have H := HA.out
   clear HA
   simp only [stowagelaw21_CondFirst.j0] at H
   by_cases c8 : x24_3 = true
   ·subst c8
    have H1 : ((stowagelaw21_awake.f kj3).bind fun t374 => (some t374)) = some r := by rw [if_pos rfl] at H; exact H
    clear H
    have H := H1
    clear H1
    replace H := Option.bind_eq_some_iff.mp H
    obtain ⟨t374, A90, H⟩ := H
    replace H : (some t374) = some r := H
    have A9 := Aside0.mk A90
    clear A90
    clear hr
    obtain rfl := Option.some.inj H
    go_wp2_with (first | ((with_reducible refine gate_callee (f := 14) rfl ?_); refine goesL_ (some 25) rfl rfl Try.func14 (by kernel_rfl) rfl #[] rfl (by (try simp only [List.map_toArray, List.map_cons, List.map_nil]); first | done | rfl | (simp only [List.length_drop, List.length_take]; rfl)) ?_; (with_reducible refine (stowagelaw21_awake.calls kj3  t374 _ (by first | exact hG | exact gok_below hG (by repeat (first | (with_reducible first | exact HB.out | apply below_alloc | apply pw_below_drewN | apply below_drew1) | exact HB.out)) | exact gok_drewN hG _ | exact gok_below hG (by repeat (first | exact HB.out | exact HBW.out | exact Below.refl _ _ | apply below_alloc | apply pw_below_drewN | apply below_drew1))) A9.out).mono ?_); rintro e w10 ⟨rfl, hb⟩; refine ⟨_, rfl, ?_⟩; have n0_ := Aside0.mk (below_step (by repeat (first | (with_reducible first | exact HB.out | apply below_alloc | apply pw_below_drewN | apply below_drew1) | exact HB.out)) hb); clear HB; have HB := n0_; clear n0_; (try clear hb); (try clear hb2); (try clear hk); (try clear hi)))
    go_ret
    exact ⟨by first | rfl | (simp [errW_none, errW_some] <;> rfl) | (simp [*, errW_none, errW_some] <;> rfl), by repeat (first | (with_reducible first | exact HB.out | apply below_alloc | apply pw_below_drewN | apply below_drew1) | exact HB.out)⟩
   ·replace c8 := Bool.eq_false_iff.mpr c8
    subst c8
    have H1 : ((stowageref4_Http.f kj3 a1).bind fun t375 => ((cond_Ask.f kj3 (([(⟨(⟨#[105, 102, 45, 117, 110, 109, 111, 100, 105, 102, 105, 101, 100, 45, 115, 105, 110, 99, 101]⟩ : ByteArray), t375⟩ : S41), (⟨(⟨#[105, 102, 45, 109, 97, 116, 99, 104]⟩ : ByteArray), (⟨#[34, 120, 34]⟩ : ByteArray)⟩ : S41)] : List (S41))) (⟨#[120]⟩ : ByteArray) a0 a2).bind fun t379 => ((cond_Ask.f kj3 (([(⟨(⟨#[105, 102, 45, 109, 111, 100, 105, 102, 105, 101, 100, 45, 115, 105, 110, 99, 101]⟩ : ByteArray), t375⟩ : S41), (⟨(⟨#[105, 102, 45, 110, 111, 110, 101, 45, 109, 97, 116, 99, 104]⟩ : ByteArray), (⟨#[34, 121, 34]⟩ : ByteArray)⟩ : S41)] : List (S41))) (⟨#[120]⟩ : ByteArray) a0 a2).bind fun t383 => ((cond_Ask.f kj3 (([(⟨(⟨#[105, 102, 45, 109, 97, 116, 99, 104]⟩ : ByteArray), (⟨#[34, 121, 34]⟩ : ByteArray)⟩ : S41), (⟨(⟨#[105, 102, 45, 110, 111, 110, 101, 45, 109, 97, 116, 99, 104]⟩ : ByteArray), (⟨#[34, 120, 34]⟩ : ByteArray)⟩ : S41)] : List (S41))) (⟨#[120]⟩ : ByteArray) a0 a2).bind fun t387 => (if t379 = 0 then (if t383 = 0 then (if t387 = 327 then ((stowagelaw21_awake.f kj3).bind fun t388 => (some t388)) else (some false)) else (some false)) else (some false)))))) = some r := by rw [if_neg (show ¬ (false = true) by decide)] at H; exact H
    clear H
    have H := H1
    clear H1
    replace H := Option.bind_eq_some_iff.mp H
    obtain ⟨t375, A110, H⟩ := H
    replace H : ((cond_Ask.f kj3 (([(⟨(⟨#[105, 102, 45, 117, 110, 109, 111, 100, 105, 102, 105, 101, 100, 45, 115, 105, 110, 99, 101]⟩ : ByteArray), t375⟩ : S41), (⟨(⟨#[105, 102, 45, 109, 97, 116, 99, 104]⟩ : ByteArray), (⟨#[34, 120, 34]⟩ : ByteArray)⟩ : S41)] : List (S41))) (⟨#[120]⟩ : ByteArray) a0 a2).bind fun t379 => ((cond_Ask.f kj3 (([(⟨(⟨#[105, 102, 45, 109, 111, 100, 105, 102, 105, 101, 100, 45, 115, 105, 110, 99, 101]⟩ : ByteArray), t375⟩ : S41), (⟨(⟨#[105, 102, 45, 110, 111, 110, 101, 45, 109, 97, 116, 99, 104]⟩ : ByteArray), (⟨#[34, 121, 34]⟩ : ByteArray)⟩ : S41)] : List (S41))) (⟨#[120]⟩ : ByteArray) a0 a2).bind fun t383 => ((cond_Ask.f kj3 (([(⟨(⟨#[105, 102, 45, 109, 97, 116, 99, 104]⟩ : ByteArray), (⟨#[34, 121, 34]⟩ : ByteArray)⟩ : S41), (⟨(⟨#[105, 102, 45, 110, 111, 110, 101, 45, 109, 97, 116, 99, 104]⟩ : ByteArray), (⟨#[34, 120, 34]⟩ : ByteArray)⟩ : S41)] : List (S41))) (⟨#[120]⟩ : ByteArray) a0 a2).bind fun t387 => (if t379 = 0 then (if t383 = 0 then (if t387 = 327 then ((stowagelaw21_awake.f kj3).bind fun t388 => (some t388)) else (some false)) else (some false)) else (some false))))) = some r := H
    have A11 := Aside0.mk A110
    clear A110
    obtain ⟨y376, hy376⟩ : ∃ y_ : List (S41), y_ = (([(⟨(⟨#[105, 102, 45, 117, 110, 109, 111, 100, 105, 102, 105, 101, 100, 45, 115, 105, 110, 99, 101]⟩ : ByteArray), t375⟩ : S41), (⟨(⟨#[105, 102, 45, 109, 97, 116, 99, 104]⟩ : ByteArray), (⟨#[34, 120, 34]⟩ : ByteArray)⟩ : S41)] : List (S41))) := ⟨_, rfl⟩
    replace H : ((cond_Ask.f kj3 y376 (⟨#[120]⟩ : ByteArray) a0 a2).bind fun t379 => ((cond_Ask.f kj3 (([(⟨(⟨#[105, 102, 45, 109, 111, 100, 105, 102, 105, 101, 100, 45, 115, 105, 110, 99, 101]⟩ : ByteArray), t375⟩ : S41), (⟨(⟨#[105, 102, 45, 110, 111, 110, 101, 45, 109, 97, 116, 99, 104]⟩ : ByteArray), (⟨#[34, 121, 34]⟩ : ByteArray)⟩ : S41)] : List (S41))) (⟨#[120]⟩ : ByteArray) a0 a2).bind fun t383 => ((cond_Ask.f kj3 (([(⟨(⟨#[105, 102, 45, 109, 97, 116, 99, 104]⟩ : ByteArray), (⟨#[34, 121, 34]⟩ : ByteArray)⟩ : S41), (⟨(⟨#[105, 102, 45, 110, 111, 110, 101, 45, 109, 97, 116, 99, 104]⟩ : ByteArray), (⟨#[34, 120, 34]⟩ : ByteArray)⟩ : S41)] : List (S41))) (⟨#[120]⟩ : ByteArray) a0 a2).bind fun t387 => (if t379 = 0 then (if t383 = 0 then (if t387 = 327 then ((stowagelaw21_awake.f kj3).bind fun t388 => (some t388)) else (some false)) else (some false)) else (some false))))) = some r := by first | (rw [hy376]; with_reducible exact H) | (have H2_ := (Option.bind_some _ _).symm.trans H; rw [hy376]; with_reducible exact H2_) | (have H2_ := (Option.bind_some _ _).symm.trans H; with_reducible exact H2_) | with_reducible exact H | (rw [hy376]; exact H) | exact H
    have Ny376 := Aside0.mk hy376
    clear hy376
    replace H := Option.bind_eq_some_iff.mp H
    obtain ⟨t379, A120, H⟩ := H
    replace H : ((cond_Ask.f kj3 (([(⟨(⟨#[105, 102, 45, 109, 111, 100, 105, 102, 105, 101, 100, 45, 115, 105, 110, 99, 101]⟩ : ByteArray), t375⟩ : S41), (⟨(⟨#[105, 102, 45, 110, 111, 110, 101, 45, 109, 97, 116, 99, 104]⟩ : ByteArray), (⟨#[34, 121, 34]⟩ : ByteArray)⟩ : S41)] : List (S41))) (⟨#[120]⟩ : ByteArray) a0 a2).bind fun t383 => ((cond_Ask.f kj3 (([(⟨(⟨#[105, 102, 45, 109, 97, 116, 99, 104]⟩ : ByteArray), (⟨#[34, 121, 34]⟩ : ByteArray)⟩ : S41), (⟨(⟨#[105, 102, 45, 110, 111, 110, 101, 45, 109, 97, 116, 99, 104]⟩ : ByteArray), (⟨#[34, 120, 34]⟩ : ByteArray)⟩ : S41)] : List (S41))) (⟨#[120]⟩ : ByteArray) a0 a2).bind fun t387 => (if t379 = 0 then (if t383 = 0 then (if t387 = 327 then ((stowagelaw21_awake.f kj3).bind fun t388 => (some t388)) else (some false)) else (some false)) else (some false)))) = some r := H
    have A12 := Aside0.mk A120
    clear A120
    obtain ⟨y380, hy380⟩ : ∃ y_ : List (S41), y_ = (([(⟨(⟨#[105, 102, 45, 109, 111, 100, 105, 102, 105, 101, 100, 45, 115, 105, 110, 99, 101]⟩ : ByteArray), t375⟩ : S41), (⟨(⟨#[105, 102, 45, 110, 111, 110, 101, 45, 109, 97, 116, 99, 104]⟩ : ByteArray), (⟨#[34, 121, 34]⟩ : ByteArray)⟩ : S41)] : List (S41))) := ⟨_, rfl⟩
    replace H : ((cond_Ask.f kj3 y380 (⟨#[120]⟩ : ByteArray) a0 a2).bind fun t383 => ((cond_Ask.f kj3 (([(⟨(⟨#[105, 102, 45, 109, 97, 116, 99, 104]⟩ : ByteArray), (⟨#[34, 121, 34]⟩ : ByteArray)⟩ : S41), (⟨(⟨#[105, 102, 45, 110, 111, 110, 101, 45, 109, 97, 116, 99, 104]⟩ : ByteArray), (⟨#[34, 120, 34]⟩ : ByteArray)⟩ : S41)] : List (S41))) (⟨#[120]⟩ : ByteArray) a0 a2).bind fun t387 => (if t379 = 0 then (if t383 = 0 then (if t387 = 327 then ((stowagelaw21_awake.f kj3).bind fun t388 => (some t388)) else (some false)) else (some false)) else (some false)))) = some r := by first | (rw [hy380]; with_reducible exact H) | (have H2_ := (Option.bind_some _ _).symm.trans H; rw [hy380]; with_reducible exact H2_) | (have H2_ := (Option.bind_some _ _).symm.trans H; with_reducible exact H2_) | with_reducible exact H | (rw [hy380]; exact H) | exact H
    have Ny380 := Aside0.mk hy380
    clear hy380
    replace H := Option.bind_eq_some_iff.mp H
    obtain ⟨t383, A130, H⟩ := H
    replace H : ((cond_Ask.f kj3 (([(⟨(⟨#[105, 102, 45, 109, 97, 116, 99, 104]⟩ : ByteArray), (⟨#[34, 121, 34]⟩ : ByteArray)⟩ : S41), (⟨(⟨#[105, 102, 45, 110, 111, 110, 101, 45, 109, 97, 116, 99, 104]⟩ : ByteArray), (⟨#[34, 120, 34]⟩ : ByteArray)⟩ : S41)] : List (S41))) (⟨#[120]⟩ : ByteArray) a0 a2).bind fun t387 => (if t379 = 0 then (if t383 = 0 then (if t387 = 327 then ((stowagelaw21_awake.f kj3).bind fun t388 => (some t388)) else (some false)) else (some false)) else (some false))) = some r := H
    have A13 := Aside0.mk A130
    clear A130
    obtain ⟨y384, hy384⟩ : ∃ y_ : List (S41), y_ = (([(⟨(⟨#[105, 102, 45, 109, 97, 116, 99, 104]⟩ : ByteArray), (⟨#[34, 121, 34]⟩ : ByteArray)⟩ : S41), (⟨(⟨#[105, 102, 45, 110, 111, 110, 101, 45, 109, 97, 116, 99, 104]⟩ : ByteArray), (⟨#[34, 120, 34]⟩ : ByteArray)⟩ : S41)] : List (S41))) := ⟨_, rfl⟩
    replace H : ((cond_Ask.f kj3 y384 (⟨#[120]⟩ : ByteArray) a0 a2).bind fun t387 => (if t379 = 0 then (if t383 = 0 then (if t387 = 327 then ((stowagelaw21_awake.f kj3).bind fun t388 => (some t388)) else (some false)) else (some false)) else (some false))) = some r := by first | (rw [hy384]; with_reducible exact H) | (have H2_ := (Option.bind_some _ _).symm.trans H; rw [hy384]; with_reducible exact H2_) | (have H2_ := (Option.bind_some _ _).symm.trans H; with_reducible exact H2_) | with_reducible exact H | (rw [hy384]; exact H) | exact H
    have Ny384 := Aside0.mk hy384
    clear hy384
    replace H := Option.bind_eq_some_iff.mp H
    obtain ⟨t387, A140, H⟩ := H
    replace H : (if t379 = 0 then (if t383 = 0 then (if t387 = 327 then ((stowagelaw21_awake.f kj3).bind fun t388 => (some t388)) else (some false)) else (some false)) else (some false)) = some r := H
    have A14 := Aside0.mk A140
    clear A140
    by_cases c15 : t379 = 0
    ·rw [if_pos c15] at H
     have c15b0 : (t379 == 0) = true := beq_iff_eq.mpr c15
     have c15b1 : (t379 != 0) = false := bne_eq_false_iff_eq.mpr c15
     clear c15
     by_cases c16 : t383 = 0
     ·rw [if_pos c16] at H
      have c16b0 : (t383 == 0) = true := beq_iff_eq.mpr c16
      have c16b1 : (t383 != 0) = false := bne_eq_false_iff_eq.mpr c16
      clear c16
      by_cases c17 : t387 = 327
      ·rw [if_pos c17] at H
       have c17b0 : (t387 == 327) = true := beq_iff_eq.mpr c17
       have c17b1 : (t387 != 327) = false := bne_eq_false_iff_eq.mpr c17
       clear c17
       replace H := Option.bind_eq_some_iff.mp H
       obtain ⟨t388, A180, H⟩ := H
       replace H : (some t388) = some r := H
       have A18 := Aside0.mk A180
       clear A180
       clear hr
       obtain rfl := Option.some.inj H
       go_wp2_with (first | ((with_reducible refine gate_callee (f := 22) rfl ?_); refine goesL_ (some 27) rfl rfl Try.func22 (by kernel_rfl) rfl #[.int .i64 a1] rfl (by (try simp only [List.map_toArray, List.map_cons, List.map_nil]); first | done | rfl | (simp only [List.length_drop, List.length_take]; rfl)) ?_; (with_reducible refine (stowageref4_Http.calls kj3 a1 t375 _ A11.out).mono ?_); rintro e w19 ⟨rfl, hb⟩; refine ⟨_, rfl, ?_⟩; have n0_ := Aside0.mk (below_step (by repeat (first | (with_reducible first | exact HB.out | apply below_alloc | apply pw_below_drewN | apply below_drew1) | exact HB.out)) hb); clear HB; have HB := n0_; clear n0_; (try clear hb); (try clear hb2); (try clear hk); (try clear hi)) | ((with_reducible refine gate_dst (N := 31) rfl ?_); refine Kd.R_lit k41 _ 41 ?hg (N := 31) ?hd (xs := ([(⟨(⟨#[105, 102, 45, 117, 110, 109, 111, 100, 105, 102, 105, 101, 100, 45, 115, 105, 110, 99, 101]⟩ : ByteArray), t375⟩ : S41), (⟨(⟨#[105, 102, 45, 109, 97, 116, 99, 104]⟩ : ByteArray), (⟨#[34, 120, 34]⟩ : ByteArray)⟩ : S41)] : List (S41))) (inner := [.string (⟨#[105, 102, 45, 117, 110, 109, 111, 100, 105, 102, 105, 101, 100, 45, 115, 105, 110, 99, 101]⟩ : ByteArray), .string t375, .string (⟨#[105, 102, 45, 109, 97, 116, 99, 104]⟩ : ByteArray), .string (⟨#[34, 120, 34]⟩ : ByteArray)]) (ok := fun _ => True) (okp := fun _ => True) ?hr ?hp (fun _ hk => hk) trivial (Below.refl _ _) (Nat.le_refl _) (by simp) ?_; (case hd => rfl); (case hg => rfl); (case hr => first | (go_simp; done) | (go_simp; rfl)); (case hp => exact (Reps.c2 (show Kd.M k41 _ _ _ (⟨(⟨#[105, 102, 45, 117, 110, 109, 111, 100, 105, 102, 105, 101, 100, 45, 115, 105, 110, 99, 101]⟩ : ByteArray), t375⟩ : S41) [.string (⟨#[105, 102, 45, 117, 110, 109, 111, 100, 105, 102, 105, 101, 100, 45, 115, 105, 110, 99, 101]⟩ : ByteArray), .string t375] from (k41_mkM _ _ _ (⟨(⟨#[105, 102, 45, 117, 110, 109, 111, 100, 105, 102, 105, 101, 100, 45, 115, 105, 110, 99, 101]⟩ : ByteArray), t375⟩ : S41) )) (Reps.c2 (show Kd.M k41 _ _ _ (⟨(⟨#[105, 102, 45, 109, 97, 116, 99, 104]⟩ : ByteArray), (⟨#[34, 120, 34]⟩ : ByteArray)⟩ : S41) [.string (⟨#[105, 102, 45, 109, 97, 116, 99, 104]⟩ : ByteArray), .string (⟨#[34, 120, 34]⟩ : ByteArray)] from (k41_mkM _ _ _ (⟨(⟨#[105, 102, 45, 109, 97, 116, 99, 104]⟩ : ByteArray), (⟨#[34, 120, 34]⟩ : ByteArray)⟩ : S41) )) (Reps.none _ _)))); intro v377 w20 ho21 hb hg_ hnew_; clear hg_ hnew_; (first | rw [← Ny376.out] at ho21 | (simp only [Int.reduceToNat] at ho21; rw [← Ny376.out] at ho21)); have n0_ := Aside0.mk (Kd.R_lower ho21 (below_size (by repeat (first | (with_reducible first | exact HB.out | apply below_alloc | apply pw_below_drewN | apply below_drew1) | exact HB.out)))); have n1_ := Aside0.mk (below_step (by repeat (first | (with_reducible first | exact HB.out | apply below_alloc | apply pw_below_drewN | apply below_drew1) | exact HB.out)) hb); clear HB; have HO378 := n0_; have HB := n1_; clear n0_ n1_; clear hb ho21; obtain ⟨Ao22, co22, eo22⟩ := Kd.R_slice HO378.out; subst eo22) | ((with_reducible refine gate_callee (f := 19) rfl ?_); refine goesL_ (some 34) rfl rfl Try.func19 (by kernel_rfl) rfl #[.slice Ao22 y376.length co22, .string (⟨#[120]⟩ : ByteArray), .int .i64 a0, .bool a2] rfl (by (try simp only [List.map_toArray, List.map_cons, List.map_nil]); first | done | rfl | (simp only [List.length_drop, List.length_take]; rfl)) ?_; (with_reducible refine (cond_Ask.calls kj3 _ _ y376 (⟨#[120]⟩ : ByteArray) a0 a2 t379 _ ?side1 ?side2 (by first | exact hG | exact gok_below hG (by repeat (first | (with_reducible first | exact HB.out | apply below_alloc | apply pw_below_drewN | apply below_drew1) | exact HB.out)) | exact gok_drewN hG _ | exact gok_below hG (by repeat (first | exact HB.out | exact HBW.out | exact Below.refl _ _ | apply below_alloc | apply pw_below_drewN | apply below_drew1))) A12.out).mono ?_); (case side1 => repeat (first | exact (Kd.R_reads' HO378.out).2.2 | (with_reducible refine Kd.C_alloc ?_ _) | (with_reducible refine Kd.C_drewN ?_ _) | (with_reducible refine Kd.C_drew ?_))); (case side2 => exact (Kd.R_reads' HO378.out).2.1); rintro e w23 ⟨rfl, hb⟩; refine ⟨_, rfl, ?_⟩; have n0_ := Aside0.mk (Kd.R_below (by (with_reducible repeat (first | apply Kd.R_alloc | apply Kd.R_drewN | apply Kd.R_drew)); exact HO378.out) hb); have n1_ := Aside0.mk (below_step (by repeat (first | (with_reducible first | exact HB.out | apply below_alloc | apply pw_below_drewN | apply below_drew1) | exact HB.out)) hb); clear HO378; clear HB; have HO378 := n0_; have HB := n1_; clear n0_ n1_; (try clear hb); (try clear hb2); (try clear hk); (try clear hi)) | ((with_reducible refine gate_dst (N := 38) rfl ?_); refine Kd.R_lit k41 _ 41 ?hg (N := 38) ?hd (xs := ([(⟨(⟨#[105, 102, 45, 109, 111, 100, 105, 102, 105, 101, 100, 45, 115, 105, 110, 99, 101]⟩ : ByteArray), t375⟩ : S41), (⟨(⟨#[105, 102, 45, 110, 111, 110, 101, 45, 109, 97, 116, 99, 104]⟩ : ByteArray), (⟨#[34, 121, 34]⟩ : ByteArray)⟩ : S41)] : List (S41))) (inner := [.string (⟨#[105, 102, 45, 109, 111, 100, 105, 102, 105, 101, 100, 45, 115, 105, 110, 99, 101]⟩ : ByteArray), .string t375, .string (⟨#[105, 102, 45, 110, 111, 110, 101, 45, 109, 97, 116, 99, 104]⟩ : ByteArray), .string (⟨#[34, 121, 34]⟩ : ByteArray)]) (ok := fun _ => True) (okp := fun _ => True) ?hr ?hp (fun _ hk => hk) trivial (Below.refl _ _) (Nat.le_refl _) (by simp) ?_; (case hd => rfl); (case hg => rfl); (case hr => first | (go_simp; done) | (go_simp; rfl)); (case hp => exact (Reps.c2 (show Kd.M k41 _ _ _ (⟨(⟨#[105, 102, 45, 109, 111, 100, 105, 102, 105, 101, 100, 45, 115, 105, 110, 99, 101]⟩ : ByteArray), t375⟩ : S41) [.string (⟨#[105, 102, 45, 109, 111, 100, 105, 102, 105, 101, 100, 45, 115, 105, 110, 99, 101]⟩ : ByteArray), .string t375] from (k41_mkM _ _ _ (⟨(⟨#[105, 102, 45, 109, 111, 100, 105, 102, 105, 101, 100, 45, 115, 105, 110, 99, 101]⟩ : ByteArray), t375⟩ : S41) )) (Reps.c2 (show Kd.M k41 _ _ _ (⟨(⟨#[105, 102, 45, 110, 111, 110, 101, 45, 109, 97, 116, 99, 104]⟩ : ByteArray), (⟨#[34, 121, 34]⟩ : ByteArray)⟩ : S41) [.string (⟨#[105, 102, 45, 110, 111, 110, 101, 45, 109, 97, 116, 99, 104]⟩ : ByteArray), .string (⟨#[34, 121, 34]⟩ : ByteArray)] from (k41_mkM _ _ _ (⟨(⟨#[105, 102, 45, 110, 111, 110, 101, 45, 109, 97, 116, 99, 104]⟩ : ByteArray), (⟨#[34, 121, 34]⟩ : ByteArray)⟩ : S41) )) (Reps.none _ _)))); intro v381 w24 ho25 hb hg_ hnew_; clear hg_ hnew_; (first | rw [← Ny380.out] at ho25 | (simp only [Int.reduceToNat] at ho25; rw [← Ny380.out] at ho25)); have n0_ := Aside0.mk (Kd.R_elder' (by (with_reducible repeat (first | apply Kd.R_alloc | apply Kd.R_drewN | apply Kd.R_drew)); exact HO378.out) (Kd.R_base ho25) hb); have n1_ := Aside0.mk (Kd.R_lower (Kd.R_new' ho25 (Kd.R_lt (by (with_reducible repeat (first | apply Kd.R_alloc | apply Kd.R_drewN | apply Kd.R_drew)); exact HO378.out))) (below_size (by repeat (first | (with_reducible first | exact HB.out | apply below_alloc | apply pw_below_drewN | apply below_drew1) | exact HB.out)))); have n2_ := Aside0.mk (below_step (by repeat (first | (with_reducible first | exact HB.out | apply below_alloc | apply pw_below_drewN | apply below_drew1) | exact HB.out)) hb); clear HO378; clear HB; have HO378 := n0_; have HO382 := n1_; have HB := n2_; clear n0_ n1_ n2_; clear hb ho25; obtain ⟨Ao26, co26, eo26⟩ := Kd.R_slice HO382.out; subst eo26) | ((with_reducible refine gate_callee (f := 19) rfl ?_); refine goesL_ (some 41) rfl rfl Try.func19 (by kernel_rfl) rfl #[.slice Ao26 y380.length co26, .string (⟨#[120]⟩ : ByteArray), .int .i64 a0, .bool a2] rfl (by (try simp only [List.map_toArray, List.map_cons, List.map_nil]); first | done | rfl | (simp only [List.length_drop, List.length_take]; rfl)) ?_; (with_reducible refine (cond_Ask.calls kj3 _ _ y380 (⟨#[120]⟩ : ByteArray) a0 a2 t383 _ ?side1 ?side2 (by first | exact hG | exact gok_below hG (by repeat (first | (with_reducible first | exact HB.out | apply below_alloc | apply pw_below_drewN | apply below_drew1) | exact HB.out)) | exact gok_drewN hG _ | exact gok_below hG (by repeat (first | exact HB.out | exact HBW.out | exact Below.refl _ _ | apply below_alloc | apply pw_below_drewN | apply below_drew1))) A13.out).mono ?_); (case side1 => repeat (first | exact (Kd.R_reads' HO382.out).2.2 | (with_reducible refine Kd.C_alloc ?_ _) | (with_reducible refine Kd.C_drewN ?_ _) | (with_reducible refine Kd.C_drew ?_))); (case side2 => exact (Kd.R_reads' HO382.out).2.1); rintro e w27 ⟨rfl, hb⟩; refine ⟨_, rfl, ?_⟩; have n0_ := Aside0.mk (Kd.R_below (by (with_reducible repeat (first | apply Kd.R_alloc | apply Kd.R_drewN | apply Kd.R_drew)); exact HO378.out) hb); have n1_ := Aside0.mk (Kd.R_below (by (with_reducible repeat (first | apply Kd.R_alloc | apply Kd.R_drewN | apply Kd.R_drew)); exact HO382.out) hb); have n2_ := Aside0.mk (below_step (by repeat (first | (with_reducible first | exact HB.out | apply below_alloc | apply pw_below_drewN | apply below_drew1) | exact HB.out)) hb); clear HO378; clear HO382; clear HB; have HO378 := n0_; have HO382 := n1_; have HB := n2_; clear n0_ n1_ n2_; (try clear hb); (try clear hb2); (try clear hk); (try clear hi)) | ((with_reducible refine gate_dst (N := 44) rfl ?_); refine Kd.R_lit k41 _ 41 ?hg (N := 44) ?hd (xs := ([(⟨(⟨#[105, 102, 45, 109, 97, 116, 99, 104]⟩ : ByteArray), (⟨#[34, 121, 34]⟩ : ByteArray)⟩ : S41), (⟨(⟨#[105, 102, 45, 110, 111, 110, 101, 45, 109, 97, 116, 99, 104]⟩ : ByteArray), (⟨#[34, 120, 34]⟩ : ByteArray)⟩ : S41)] : List (S41))) (inner := [.string (⟨#[105, 102, 45, 109, 97, 116, 99, 104]⟩ : ByteArray), .string (⟨#[34, 121, 34]⟩ : ByteArray), .string (⟨#[105, 102, 45, 110, 111, 110, 101, 45, 109, 97, 116, 99, 104]⟩ : ByteArray), .string (⟨#[34, 120, 34]⟩ : ByteArray)]) (ok := fun _ => True) (okp := fun _ => True) ?hr ?hp (fun _ hk => hk) trivial (Below.refl _ _) (Nat.le_refl _) (by simp) ?_; (case hd => rfl); (case hg => rfl); (case hr => first | (go_simp; done) | (go_simp; rfl)); (case hp => exact (Reps.c2 (show Kd.M k41 _ _ _ (⟨(⟨#[105, 102, 45, 109, 97, 116, 99, 104]⟩ : ByteArray), (⟨#[34, 121, 34]⟩ : ByteArray)⟩ : S41) [.string (⟨#[105, 102, 45, 109, 97, 116, 99, 104]⟩ : ByteArray), .string (⟨#[34, 121, 34]⟩ : ByteArray)] from (k41_mkM _ _ _ (⟨(⟨#[105, 102, 45, 109, 97, 116, 99, 104]⟩ : ByteArray), (⟨#[34, 121, 34]⟩ : ByteArray)⟩ : S41) )) (Reps.c2 (show Kd.M k41 _ _ _ (⟨(⟨#[105, 102, 45, 110, 111, 110, 101, 45, 109, 97, 116, 99, 104]⟩ : ByteArray), (⟨#[34, 120, 34]⟩ : ByteArray)⟩ : S41) [.string (⟨#[105, 102, 45, 110, 111, 110, 101, 45, 109, 97, 116, 99, 104]⟩ : ByteArray), .string (⟨#[34, 120, 34]⟩ : ByteArray)] from (k41_mkM _ _ _ (⟨(⟨#[105, 102, 45, 110, 111, 110, 101, 45, 109, 97, 116, 99, 104]⟩ : ByteArray), (⟨#[34, 120, 34]⟩ : ByteArray)⟩ : S41) )) (Reps.none _ _)))); intro v385 w28 ho29 hb hg_ hnew_; clear hg_ hnew_; (first | rw [← Ny384.out] at ho29 | (simp only [Int.reduceToNat] at ho29; rw [← Ny384.out] at ho29)); have n0_ := Aside0.mk (Kd.R_elder' (by (with_reducible repeat (first | apply Kd.R_alloc | apply Kd.R_drewN | apply Kd.R_drew)); exact HO378.out) (Kd.R_base ho29) hb); have n1_ := Aside0.mk (Kd.R_elder' (by (with_reducible repeat (first | apply Kd.R_alloc | apply Kd.R_drewN | apply Kd.R_drew)); exact HO382.out) (Kd.R_base ho29) hb); have n2_ := Aside0.mk (Kd.R_lower (Kd.R_new' (Kd.R_new' ho29 (Kd.R_lt (by (with_reducible repeat (first | apply Kd.R_alloc | apply Kd.R_drewN | apply Kd.R_drew)); exact HO378.out))) (Kd.R_lt (by (with_reducible repeat (first | apply Kd.R_alloc | apply Kd.R_drewN | apply Kd.R_drew)); exact HO382.out))) (below_size (by repeat (first | (with_reducible first | exact HB.out | apply below_alloc | apply pw_below_drewN | apply below_drew1) | exact HB.out)))); have n3_ := Aside0.mk (below_step (by repeat (first | (with_reducible first | exact HB.out | apply below_alloc | apply pw_below_drewN | apply below_drew1) | exact HB.out)) hb); clear HO378; clear HO382; clear HB; have HO378 := n0_; have HO382 := n1_; have HO386 := n2_; have HB := n3_; clear n0_ n1_ n2_ n3_; clear hb ho29; obtain ⟨Ao30, co30, eo30⟩ := Kd.R_slice HO386.out; subst eo30) | ((with_reducible refine gate_callee (f := 19) rfl ?_); refine goesL_ (some 47) rfl rfl Try.func19 (by kernel_rfl) rfl #[.slice Ao30 y384.length co30, .string (⟨#[120]⟩ : ByteArray), .int .i64 a0, .bool a2] rfl (by (try simp only [List.map_toArray, List.map_cons, List.map_nil]); first | done | rfl | (simp only [List.length_drop, List.length_take]; rfl)) ?_; (with_reducible refine (cond_Ask.calls kj3 _ _ y384 (⟨#[120]⟩ : ByteArray) a0 a2 t387 _ ?side1 ?side2 (by first | exact hG | exact gok_below hG (by repeat (first | (with_reducible first | exact HB.out | apply below_alloc | apply pw_below_drewN | apply below_drew1) | exact HB.out)) | exact gok_drewN hG _ | exact gok_below hG (by repeat (first | exact HB.out | exact HBW.out | exact Below.refl _ _ | apply below_alloc | apply pw_below_drewN | apply below_drew1))) A14.out).mono ?_); (case side1 => repeat (first | exact (Kd.R_reads' HO386.out).2.2 | (with_reducible refine Kd.C_alloc ?_ _) | (with_reducible refine Kd.C_drewN ?_ _) | (with_reducible refine Kd.C_drew ?_))); (case side2 => exact (Kd.R_reads' HO386.out).2.1); rintro e w31 ⟨rfl, hb⟩; refine ⟨_, rfl, ?_⟩; have n0_ := Aside0.mk (Kd.R_below (by (with_reducible repeat (first | apply Kd.R_alloc | apply Kd.R_drewN | apply Kd.R_drew)); exact HO378.out) hb); have n1_ := Aside0.mk (Kd.R_below (by (with_reducible repeat (first | apply Kd.R_alloc | apply Kd.R_drewN | apply Kd.R_drew)); exact HO382.out) hb); have n2_ := Aside0.mk (Kd.R_below (by (with_reducible repeat (first | apply Kd.R_alloc | apply Kd.R_drewN | apply Kd.R_drew)); exact HO386.out) hb); have n3_ := Aside0.mk (below_step (by repeat (first | (with_reducible first | exact HB.out | apply below_alloc | apply pw_below_drewN | apply below_drew1) | exact HB.out)) hb); clear HO378; clear HO382; clear HO386; clear HB; have HO378 := n0_; have HO382 := n1_; have HO386 := n2_; have HB := n3_; clear n0_ n1_ n2_ n3_; (try clear hb); (try clear hb2); (try clear hk); (try clear hi)) | (go_at_call 14; (with_reducible refine (stowagelaw21_awake.calls kj3  t388 _ (by first | exact hG | exact gok_below hG (by repeat (first | (with_reducible first | exact HB.out | apply below_alloc | apply pw_below_drewN | apply below_drew1) | exact HB.out)) | exact gok_drewN hG _ | exact gok_below hG (by repeat (first | exact HB.out | exact HBW.out | exact Below.refl _ _ | apply below_alloc | apply pw_below_drewN | apply below_drew1))) A18.out).mono ?_); rintro e w32 ⟨rfl, hb⟩; have n0_ := Aside0.mk (Kd.R_below (by (with_reducible repeat (first | apply Kd.R_alloc | apply Kd.R_drewN | apply Kd.R_drew)); exact HO378.out) hb); have n1_ := Aside0.mk (Kd.R_below (by (with_reducible repeat (first | apply Kd.R_alloc | apply Kd.R_drewN | apply Kd.R_drew)); exact HO382.out) hb); have n2_ := Aside0.mk (Kd.R_below (by (with_reducible repeat (first | apply Kd.R_alloc | apply Kd.R_drewN | apply Kd.R_drew)); exact HO386.out) hb); have n3_ := Aside0.mk (below_step (by repeat (first | (with_reducible first | exact HB.out | apply below_alloc | apply pw_below_drewN | apply below_drew1) | exact HB.out)) hb); clear HO378; clear HO382; clear HO386; clear HB; have HO378 := n0_; have HO382 := n1_; have HO386 := n2_; have HB := n3_; clear n0_ n1_ n2_ n3_; (try clear hb); (try clear hb2); (try clear hk); (try clear hi)))
       go_ret
       exact ⟨by first | rfl | (simp [errW_none, errW_some] <;> rfl) | (simp [*, errW_none, errW_some] <;> rfl), by repeat (first | (with_reducible first | exact HB.out | apply below_alloc | apply pw_below_drewN | apply below_drew1) | exact HB.out)⟩
      ·rw [if_neg c17] at H
       have c17b0 : (t387 == 327) = false := beq_eq_false_iff_ne.mpr c17
       have c17b1 : (t387 != 327) = true := bne_iff_ne.mpr c17
       rw [hr] at H
       exact absurd H (by simp)
     ·rw [if_neg c16] at H
      have c16b0 : (t383 == 0) = false := beq_eq_false_iff_ne.mpr c16
      have c16b1 : (t383 != 0) = true := bne_iff_ne.mpr c16
      rw [hr] at H
      exact absurd H (by simp)
    ·rw [if_neg c15] at H
     have c15b0 : (t379 == 0) = false := beq_eq_false_iff_ne.mpr c15
     have c15b1 : (t379 != 0) = true := bne_iff_ne.mpr c15
     rw [hr] at H
     exact absurd H (by simp)
def stowagelaw21_CondFirst.Pure : Prop := ∀ (a0 : Int) (a1 : Int) (a2 : Bool), (Lit.int .i64 a0).wf = true → (Lit.int .i64 a1).wf = true → ∃ k, stowagelaw21_CondFirst.f k a0 a1 a2 = some true
theorem stowagelaw21_CondFirst.walk (P : stowagelaw21_CondFirst.Pure) (a0 : Int) (a1 : Int) (a2 : Bool) (w : World) (w0 : (Lit.int .i64 a0).wf = true) (w1 : (Lit.int .i64 a1).wf = true) (hG : GOk w) :
  Calls Try.prog 8 #[.int .i64 a0, .int .i64 a1, .bool a2] w fun e w' => e = .returned (.bool true) ∧ Below w.heap.size w w' := by
 obtain ⟨k, h⟩ := P a0 a1 a2 w0 w1
 refine (stowagelaw21_CondFirst.calls k a0 a1 a2 true w hG h rfl).mono ?_
 rintro e w' ⟨rfl, hd⟩
 exact ⟨rfl, hd⟩
end Go.Proofs.Ythjofhklkkmdoaa.Q
