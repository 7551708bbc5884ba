/- A part of the proof of the seat's laws. No condition beyond those in the theorems. -/
import Derived.Test.YtiaihkcadffllaaZQ0g3
import Derived.Test.YtiaihkcadffllaaZQ15g5

namespace Go.Proofs.Ytiaihkcadffllaa.Q
open Go.RowKit Go.Proofs.YtiaihkcadffllaaW.PrintWords Go.Proofs.YtiaihkcadffllaaW.PrintLast Go.Proofs.YtiaihkcadffllaaW.PrintMore
set_option linter.unusedVariables false
set_option linter.unusedSimpArgs false
attribute [local go_sem] max2_int min2_int max_two min_two max_three min_three max_four min_four   
def stowagelaw25_CorsStars.l0 : Nat → ByteArray → ByteArray → ByteArray → Int → Option (Bool)
 | 0, _, _, _, _ => none
 | k + 1, x0, x1, x2, x7 => if x7 < (wrap64 ((x0.size : Int) + (x1.size : Int))) then (if x0.size + x1.size ≤ 9223372036854775807 then (if 0 ≤ x7 then (if x7 < ((x0 ++ x1).size : Int) then (if (bt (x0 ++ x1) x7) = 42 then ((stowagelaw25_awake.f).bind fun t124 => (some t124)) else (stowagelaw25_CorsStars.l0 k x0 x1 x2 (wrap64 (x7 + 1)))) else (none)) else (none)) else (none)) else ((cors_Match.f x0 x2).bind fun t125 => (if (t125 == (x0.toList == x2.toList)) = true then ((cors_Match.f (⟨#[42]⟩ : ByteArray) x2).bind fun t126 => (if t126 = true then (if x0.size + 1 ≤ 9223372036854775807 then (if (x0 ++ (⟨#[42]⟩ : ByteArray)).size + x1.size ≤ 9223372036854775807 then (if x0.size + x2.size ≤ 9223372036854775807 then (if (x0 ++ x2).size + x1.size ≤ 9223372036854775807 then ((cors_Match.f ((x0 ++ (⟨#[42]⟩ : ByteArray)) ++ x1) ((x0 ++ x2) ++ x1)).bind fun t127 => (if t127 = true then ((cors_Match.f ((x0 ++ (⟨#[42]⟩ : ByteArray)) ++ x1) x2).bind fun t128 => (if t128 = true then (if (x2.size : Int) ≥ (wrap64 ((x0.size : Int) + (x1.size : Int))) then ((stowagelaw25_awake.f).bind fun t129 => (some t129)) else (some false)) else ((stowagelaw25_awake.f).bind fun t130 => (some t130)))) else (some false))) else (none)) else (none)) else (none)) else (none)) else (some false))) else (some false)))
def stowagelaw25_CorsStars.f (k : Nat) (a0 : ByteArray) (a1 : ByteArray) (a2 : ByteArray) : Option (Bool) := stowagelaw25_CorsStars.l0 k a0 a1 a2 0
theorem stowagelaw25_CorsStars.mono_l : ∀ k, (∀ y0 y1 y2 y3, LeO (stowagelaw25_CorsStars.l0 k y0 y1 y2 y3) (stowagelaw25_CorsStars.l0 (k + 1) y0 y1 y2 y3))
 | 0 => fun _ _ _ _ r h => by simp [stowagelaw25_CorsStars.l0] at h
 | k + 1 => by
  have ih0 := stowagelaw25_CorsStars.mono_l k
  ·intro y0 y1 y2 y3
   unfold stowagelaw25_CorsStars.l0
   repeat' first
   | (with_reducible exact ih0 _ _ _ _)
   | (with_reducible exact LeO.refl _)
   | (with_reducible exact LeO.none _)
   | (with_reducible refine LeO.ite ?_ ?_)
   | (with_reducible refine LeO.bind ?_ (fun _ => ?_))
   | exact ih0 _ _ _ _
   | exact LeO.none _
   | refine LeO.ite ?_ ?_
   | refine LeO.bind ?_ (fun _ => ?_)
theorem stowagelaw25_CorsStars.mono : ∀ a0 a1 a2 k, LeO (stowagelaw25_CorsStars.f k a0 a1 a2) (stowagelaw25_CorsStars.f (k + 1) a0 a1 a2) := by
 intro a0 a1 a2 k
 have ih0 := stowagelaw25_CorsStars.mono_l k
 unfold stowagelaw25_CorsStars.f
 repeat' first
   | (with_reducible exact ih0 _ _ _ _)
   | (with_reducible exact LeO.refl _)
   | (with_reducible exact LeO.none _)
   | (with_reducible refine LeO.ite ?_ ?_)
   | (with_reducible refine LeO.bind ?_ (fun _ => ?_))
   | exact ih0 _ _ _ _
   | exact LeO.none _
   | refine LeO.ite ?_ ?_
   | refine LeO.bind ?_ (fun _ => ?_)
set_option maxHeartbeats 8000000 in
set_option maxRecDepth 100000 in
theorem stowagelaw25_CorsStars.calls (k : Nat) (a0 : ByteArray) (a1 : ByteArray) (a2 : ByteArray) (r : Bool) (w : World) (h : stowagelaw25_CorsStars.f k a0 a1 a2 = some r) (hr : r = true) :
  Calls Try.prog 4 #[.string a0, .string a1, .string a2] w fun e w' => e = .returned (.bool r) ∧ Drawn0 w w' := by
 have H : (stowagelaw25_CorsStars.l0 k a0 a1 a2 0) = some r := h
 clear h
 have H' := Aside0.mk H
 clear H
 go_enter Try.func4, Try.ntmps4
 go_wp2
 go_loopg [7] k (fun kq v7 w' => ∃ (x7_1 : Int), v7 = .int .i64 x7_1 ∧ Aside0 (stowagelaw25_CorsStars.l0 kq a0 a1 a2 x7_1 = some r) ∧ Aside0 (kq ≤ k) ∧ Drawn0 w w')
 case atStart => exact ⟨(0), (by first | rfl | (simp; done) | (simp [*]; done)), H', ⟨Nat.le_refl _⟩, by repeat (first | exact Drawn0.refl _ | apply Drawn0.step)⟩
 case round =>
  clear H'
  try clear p2
  obtain ⟨x7_1, rfl, HA, HK1, ⟨m1, rfl⟩⟩ := hrel
  cases gk with
  | zero => exact absurd HA.out (by simp [stowagelaw25_CorsStars.l0])
  | succ k1 =>
   have H := HA.out
   clear HA
   simp only [stowagelaw25_CorsStars.l0] at H
   by_cases c4 : x7_1 < (wrap64 ((a0.size : Int) + (a1.size : Int)))
   ·rw [if_pos c4] at H
    have c4b0 : decide (x7_1 < (wrap64 ((a0.size : Int) + (a1.size : Int)))) = true := decide_eq_true c4
    clear c4
    by_cases c5 : a0.size + a1.size ≤ 9223372036854775807
    ·rw [if_pos c5] at H
     have c5b0 := eq_true c5
     have c5b1 : decide (a0.size + a1.size ≤ 9223372036854775807) = true := decide_eq_true c5
     try have c5b2 : (9223372036854775807 < a0.size + a1.size) = False := eq_false (Nat.not_lt.2 c5)
     try (have c5n : a0.size + a1.size ≤ 9223372036854775807 := by have h_ := c5; simp only [ByteArray.size_append, ByteArray.size_extract] at h_; exact h_)
     try have c5f : (9223372036854775807 < a0.size + a1.size) = False := eq_false (by first | omega | (simp only [eq_iff_iff, iff_true] at *; omega))
     by_cases c6 : 0 ≤ x7_1
     ·rw [if_pos c6] at H
      have c6b0 : decide (0 ≤ x7_1) = true := decide_eq_true c6
      clear c6
      by_cases c7 : x7_1 < ((a0 ++ a1).size : Int)
      ·rw [if_pos c7] at H
       have c7b0 : decide (x7_1 < ((a0 ++ a1).size : Int)) = true := decide_eq_true c7
       try (have c7m := c7; simp only [ByteArray.size_append, Int.natCast_add, Int.not_lt] at c7m)
       clear c7
       by_cases c9 : (bt (a0 ++ a1) x7_1) = 42
       ·rw [if_pos c9] at H
        have c9b0 : ((bt (a0 ++ a1) x7_1) == 42) = true := beq_iff_eq.mpr c9
        have c9b1 : ((bt (a0 ++ a1) x7_1) != 42) = false := bne_eq_false_iff_eq.mpr c9
        clear c9
        replace H := Option.bind_eq_some_iff.mp H
        obtain ⟨t124, A100, H⟩ := H
        replace H : (some t124) = some r := H
        have A10 := Aside0.mk A100
        clear A100
        clear hr
        obtain rfl := Option.some.inj H
        have p8 : 0 ≤ (x7_1 : Int) := of_decide_eq_true (by first | (with_reducible assumption) | assumption)
        have q8 : x7_1 < ((a0 ++ a1).size : Int) := of_decide_eq_true (by first | (with_reducible assumption) | assumption)
        have hx8 := bt_at (a0 ++ a1) x7_1
        replace p8 := eq_true p8
        replace q8 := eq_true q8
        go_wp2_with (first | ((with_reducible refine gate_callee (f := 9) rfl ?_); refine goesL_ (some 23) rfl rfl Try.func9 (by kernel_rfl) rfl #[] rfl (by (try simp only [List.map_toArray, List.map_cons, List.map_nil]); first | done | rfl | (simp only [List.length_drop, List.length_take]; rfl)) ?_; (with_reducible refine (stowagelaw25_awake.calls  t124 _ A10.out).mono ?_); rintro e w' ⟨rfl, ⟨nd, rfl⟩⟩; refine ⟨_, rfl, ?_⟩))
        go_ret
        exact ⟨by first | rfl | (simp; done) | (simp [*]; done), by repeat (first | exact Drawn0.refl _ | apply Drawn0.step)⟩
       ·rw [if_neg c9] at H
        have c9b0 : ((bt (a0 ++ a1) x7_1) == 42) = false := beq_eq_false_iff_ne.mpr c9
        have c9b1 : ((bt (a0 ++ a1) x7_1) != 42) = true := bne_iff_ne.mpr c9
        have H' := Aside0.mk H
        clear H
        have p8 : 0 ≤ (x7_1 : Int) := of_decide_eq_true (by first | (with_reducible assumption) | assumption)
        have q8 : x7_1 < ((a0 ++ a1).size : Int) := of_decide_eq_true (by first | (with_reducible assumption) | assumption)
        have hx8 := bt_at (a0 ++ a1) x7_1
        replace p8 := eq_true p8
        replace q8 := eq_true q8
        go_wp2
        go_roundg k1
        case measure => have := HK1.out; omega
        case rel => exact ⟨(wrap64 (x7_1 + 1)), (by first | rfl | (simp; done) | (simp [*]; done)), H', ⟨by have := HK1.out; omega⟩, by repeat (first | exact Drawn0.refl _ | apply Drawn0.step)⟩
      ·rw [if_neg c7] at H
       exact absurd H (by simp)
     ·rw [if_neg c6] at H
      exact absurd H (by simp)
    ·rw [if_neg c5] at H
     exact absurd H (by simp)
   ·rw [if_neg c4] at H
    have c4b0 : decide (x7_1 < (wrap64 ((a0.size : Int) + (a1.size : Int)))) = false := decide_eq_false c4
    clear c4
    replace H := Option.bind_eq_some_iff.mp H
    obtain ⟨t125, A110, H⟩ := H
    replace H : (if (t125 == (a0.toList == a2.toList)) = true then ((cors_Match.f (⟨#[42]⟩ : ByteArray) a2).bind fun t126 => (if t126 = true then (if a0.size + 1 ≤ 9223372036854775807 then (if (a0 ++ (⟨#[42]⟩ : ByteArray)).size + a1.size ≤ 9223372036854775807 then (if a0.size + a2.size ≤ 9223372036854775807 then (if (a0 ++ a2).size + a1.size ≤ 9223372036854775807 then ((cors_Match.f ((a0 ++ (⟨#[42]⟩ : ByteArray)) ++ a1) ((a0 ++ a2) ++ a1)).bind fun t127 => (if t127 = true then ((cors_Match.f ((a0 ++ (⟨#[42]⟩ : ByteArray)) ++ a1) a2).bind fun t128 => (if t128 = true then (if (a2.size : Int) ≥ (wrap64 ((a0.size : Int) + (a1.size : Int))) then ((stowagelaw25_awake.f).bind fun t129 => (some t129)) else (some false)) else ((stowagelaw25_awake.f).bind fun t130 => (some t130)))) else (some false))) else (none)) else (none)) else (none)) else (none)) else (some false))) else (some false)) = some r := H
    have A11 := Aside0.mk A110
    clear A110
    by_cases c12 : (t125 == (a0.toList == a2.toList)) = true
    ·rw [if_pos c12] at H
     have c12b0 : (t125 == (a0.toList == a2.toList)) = true := c12
     (try (have c12b1 : decide (t125 = (a0.toList == a2.toList)) = true := by simpa using c12))
     (try (have c12b2 : (t125 == (a0.toList == a2.toList)) = true := by simpa using c12))
     clear c12
     replace H := Option.bind_eq_some_iff.mp H
     obtain ⟨t126, A130, H⟩ := H
     replace H : (if t126 = true then (if a0.size + 1 ≤ 9223372036854775807 then (if (a0 ++ (⟨#[42]⟩ : ByteArray)).size + a1.size ≤ 9223372036854775807 then (if a0.size + a2.size ≤ 9223372036854775807 then (if (a0 ++ a2).size + a1.size ≤ 9223372036854775807 then ((cors_Match.f ((a0 ++ (⟨#[42]⟩ : ByteArray)) ++ a1) ((a0 ++ a2) ++ a1)).bind fun t127 => (if t127 = true then ((cors_Match.f ((a0 ++ (⟨#[42]⟩ : ByteArray)) ++ a1) a2).bind fun t128 => (if t128 = true then (if (a2.size : Int) ≥ (wrap64 ((a0.size : Int) + (a1.size : Int))) then ((stowagelaw25_awake.f).bind fun t129 => (some t129)) else (some false)) else ((stowagelaw25_awake.f).bind fun t130 => (some t130)))) else (some false))) else (none)) else (none)) else (none)) else (none)) else (some false)) = some r := H
     have A13 := Aside0.mk A130
     clear A130
     by_cases c14 : t126 = true
     ·subst c14
      have H1 : (if a0.size + 1 ≤ 9223372036854775807 then (if (a0 ++ (⟨#[42]⟩ : ByteArray)).size + a1.size ≤ 9223372036854775807 then (if a0.size + a2.size ≤ 9223372036854775807 then (if (a0 ++ a2).size + a1.size ≤ 9223372036854775807 then ((cors_Match.f ((a0 ++ (⟨#[42]⟩ : ByteArray)) ++ a1) ((a0 ++ a2) ++ a1)).bind fun t127 => (if t127 = true then ((cors_Match.f ((a0 ++ (⟨#[42]⟩ : ByteArray)) ++ a1) a2).bind fun t128 => (if t128 = true then (if (a2.size : Int) ≥ (wrap64 ((a0.size : Int) + (a1.size : Int))) then ((stowagelaw25_awake.f).bind fun t129 => (some t129)) else (some false)) else ((stowagelaw25_awake.f).bind fun t130 => (some t130)))) else (some false))) else (none)) else (none)) else (none)) else (none)) = some r := by rw [if_pos rfl] at H; exact H
      clear H
      have H := H1
      clear H1
      by_cases c15 : a0.size + 1 ≤ 9223372036854775807
      ·rw [if_pos c15] at H
       have c15b0 := eq_true c15
       have c15b1 : decide (a0.size + 1 ≤ 9223372036854775807) = true := decide_eq_true c15
       try have c15b2 : (9223372036854775807 < a0.size + 1) = False := eq_false (Nat.not_lt.2 c15)
       try (have c15n : a0.size + 1 ≤ 9223372036854775807 := by have h_ := c15; simp only [ByteArray.size_append, ByteArray.size_extract] at h_; exact h_)
       try have c15f : (9223372036854775807 < a0.size + 1) = False := eq_false (by first | omega | (simp only [eq_iff_iff, iff_true] at *; omega))
       by_cases c16 : (a0 ++ (⟨#[42]⟩ : ByteArray)).size + a1.size ≤ 9223372036854775807
       ·rw [if_pos c16] at H
        have c16b0 := eq_true c16
        have c16b1 : decide ((a0 ++ (⟨#[42]⟩ : ByteArray)).size + a1.size ≤ 9223372036854775807) = true := decide_eq_true c16
        try have c16b2 : (9223372036854775807 < (a0 ++ (⟨#[42]⟩ : ByteArray)).size + a1.size) = False := eq_false (Nat.not_lt.2 c16)
        try (have c16n : a0.size + 1 + a1.size ≤ 9223372036854775807 := by have h_ := c16; simp only [ByteArray.size_append, ByteArray.size_extract] at h_; exact h_)
        try have c16f : (9223372036854775807 < a0.size + 1 + a1.size) = False := eq_false (by first | omega | (simp only [eq_iff_iff, iff_true] at *; omega))
        by_cases c17 : a0.size + a2.size ≤ 9223372036854775807
        ·rw [if_pos c17] at H
         have c17b0 := eq_true c17
         have c17b1 : decide (a0.size + a2.size ≤ 9223372036854775807) = true := decide_eq_true c17
         try have c17b2 : (9223372036854775807 < a0.size + a2.size) = False := eq_false (Nat.not_lt.2 c17)
         try (have c17n : a0.size + a2.size ≤ 9223372036854775807 := by have h_ := c17; simp only [ByteArray.size_append, ByteArray.size_extract] at h_; exact h_)
         try have c17f : (9223372036854775807 < a0.size + a2.size) = False := eq_false (by first | omega | (simp only [eq_iff_iff, iff_true] at *; omega))
         by_cases c18 : (a0 ++ a2).size + a1.size ≤ 9223372036854775807
         ·rw [if_pos c18] at H
          have c18b0 := eq_true c18
          have c18b1 : decide ((a0 ++ a2).size + a1.size ≤ 9223372036854775807) = true := decide_eq_true c18
          try have c18b2 : (9223372036854775807 < (a0 ++ a2).size + a1.size) = False := eq_false (Nat.not_lt.2 c18)
          try (have c18n : a0.size + a2.size + a1.size ≤ 9223372036854775807 := by have h_ := c18; simp only [ByteArray.size_append, ByteArray.size_extract] at h_; exact h_)
          try have c18f : (9223372036854775807 < a0.size + a2.size + a1.size) = False := eq_false (by first | omega | (simp only [eq_iff_iff, iff_true] at *; omega))
          replace H := Option.bind_eq_some_iff.mp H
          obtain ⟨t127, A190, H⟩ := H
          replace H : (if t127 = true then ((cors_Match.f ((a0 ++ (⟨#[42]⟩ : ByteArray)) ++ a1) a2).bind fun t128 => (if t128 = true then (if (a2.size : Int) ≥ (wrap64 ((a0.size : Int) + (a1.size : Int))) then ((stowagelaw25_awake.f).bind fun t129 => (some t129)) else (some false)) else ((stowagelaw25_awake.f).bind fun t130 => (some t130)))) else (some false)) = some r := H
          have A19 := Aside0.mk A190
          clear A190
          by_cases c20 : t127 = true
          ·subst c20
           have H1 : ((cors_Match.f ((a0 ++ (⟨#[42]⟩ : ByteArray)) ++ a1) a2).bind fun t128 => (if t128 = true then (if (a2.size : Int) ≥ (wrap64 ((a0.size : Int) + (a1.size : Int))) then ((stowagelaw25_awake.f).bind fun t129 => (some t129)) else (some false)) else ((stowagelaw25_awake.f).bind fun t130 => (some t130)))) = some r := by rw [if_pos rfl] at H; exact H
           clear H
           have H := H1
           clear H1
           replace H := Option.bind_eq_some_iff.mp H
           obtain ⟨t128, A210, H⟩ := H
           replace H : (if t128 = true then (if (a2.size : Int) ≥ (wrap64 ((a0.size : Int) + (a1.size : Int))) then ((stowagelaw25_awake.f).bind fun t129 => (some t129)) else (some false)) else ((stowagelaw25_awake.f).bind fun t130 => (some t130))) = some r := H
           have A21 := Aside0.mk A210
           clear A210
           by_cases c22 : t128 = true
           ·subst c22
            have H1 : (if (a2.size : Int) ≥ (wrap64 ((a0.size : Int) + (a1.size : Int))) then ((stowagelaw25_awake.f).bind fun t129 => (some t129)) else (some false)) = some r := by rw [if_pos rfl] at H; exact H
            clear H
            have H := H1
            clear H1
            by_cases c23 : (a2.size : Int) ≥ (wrap64 ((a0.size : Int) + (a1.size : Int)))
            ·rw [if_pos c23] at H
             have c23b0 : decide ((wrap64 ((a0.size : Int) + (a1.size : Int))) ≤ (a2.size : Int)) = true := decide_eq_true c23
             clear c23
             replace H := Option.bind_eq_some_iff.mp H
             obtain ⟨t129, A240, H⟩ := H
             replace H : (some t129) = some r := H
             have A24 := Aside0.mk A240
             clear A240
             clear hr
             obtain rfl := Option.some.inj H
             have hw9_ : wrap64 ((a0.size : Int) + (a1.size : Int)) = (a0.size : Int) + (a1.size : Int) := by unfold wrap64; omega
             rw [hw9_] at c4b0
             (try rw [hw9_] at c23b0)
             clear hw9_
             go_wp2_with (first | ((with_reducible refine gate_callee (f := 7) rfl ?_); refine goesL_ (some 26) rfl rfl Try.func7 (by kernel_rfl) rfl #[.string a0, .string a2] rfl (by (try simp only [List.map_toArray, List.map_cons, List.map_nil]); first | done | rfl | (simp only [List.length_drop, List.length_take]; rfl)) ?_; (with_reducible refine (cors_Match.calls a0 a2 t125 _ A11.out).mono ?_); rintro e w' ⟨rfl, ⟨nd, rfl⟩⟩; refine ⟨_, rfl, ?_⟩) | (go_at_call 7; (with_reducible refine (cors_Match.calls (⟨#[42]⟩ : ByteArray) a2 true _ A13.out).mono ?_); rintro e w' ⟨rfl, ⟨nd, rfl⟩⟩) | (go_at_call 7; (with_reducible refine (cors_Match.calls ((a0 ++ (⟨#[42]⟩ : ByteArray)) ++ a1) ((a0 ++ a2) ++ a1) true _ A19.out).mono ?_); rintro e w' ⟨rfl, ⟨nd, rfl⟩⟩) | (go_at_call 7; (with_reducible refine (cors_Match.calls ((a0 ++ (⟨#[42]⟩ : ByteArray)) ++ a1) a2 true _ A21.out).mono ?_); rintro e w' ⟨rfl, ⟨nd, rfl⟩⟩) | (go_at_call 9; (with_reducible refine (stowagelaw25_awake.calls  t129 _ A24.out).mono ?_); rintro e w' ⟨rfl, ⟨nd, rfl⟩⟩))
             go_ret
             exact ⟨by first | rfl | (simp; done) | (simp [*]; done), by repeat (first | exact Drawn0.refl _ | apply Drawn0.step)⟩
            ·rw [if_neg c23] at H
             have c23b0 : decide ((wrap64 ((a0.size : Int) + (a1.size : Int))) ≤ (a2.size : Int)) = false := decide_eq_false c23
             clear c23
             rw [hr] at H
             exact absurd H (by simp)
           ·replace c22 := Bool.eq_false_iff.mpr c22
            subst c22
            have H1 : ((stowagelaw25_awake.f).bind fun t130 => (some t130)) = some r := by rw [if_neg (show ¬ (false = true) by decide)] at H; exact H
            clear H
            have H := H1
            clear H1
            replace H := Option.bind_eq_some_iff.mp H
            obtain ⟨t130, A250, H⟩ := H
            replace H : (some t130) = some r := H
            have A25 := Aside0.mk A250
            clear A250
            clear hr
            obtain rfl := Option.some.inj H
            have hw9_ : wrap64 ((a0.size : Int) + (a1.size : Int)) = (a0.size : Int) + (a1.size : Int) := by unfold wrap64; omega
            rw [hw9_] at c4b0
            (try rw [hw9_] at c23b0)
            clear hw9_
            go_wp2_with (first | ((with_reducible refine gate_callee (f := 7) rfl ?_); refine goesL_ (some 26) rfl rfl Try.func7 (by kernel_rfl) rfl #[.string a0, .string a2] rfl (by (try simp only [List.map_toArray, List.map_cons, List.map_nil]); first | done | rfl | (simp only [List.length_drop, List.length_take]; rfl)) ?_; (with_reducible refine (cors_Match.calls a0 a2 t125 _ A11.out).mono ?_); rintro e w' ⟨rfl, ⟨nd, rfl⟩⟩; refine ⟨_, rfl, ?_⟩) | (go_at_call 7; (with_reducible refine (cors_Match.calls (⟨#[42]⟩ : ByteArray) a2 true _ A13.out).mono ?_); rintro e w' ⟨rfl, ⟨nd, rfl⟩⟩) | (go_at_call 7; (with_reducible refine (cors_Match.calls ((a0 ++ (⟨#[42]⟩ : ByteArray)) ++ a1) ((a0 ++ a2) ++ a1) true _ A19.out).mono ?_); rintro e w' ⟨rfl, ⟨nd, rfl⟩⟩) | (go_at_call 7; (with_reducible refine (cors_Match.calls ((a0 ++ (⟨#[42]⟩ : ByteArray)) ++ a1) a2 false _ A21.out).mono ?_); rintro e w' ⟨rfl, ⟨nd, rfl⟩⟩) | (go_at_call 9; (with_reducible refine (stowagelaw25_awake.calls  t130 _ A25.out).mono ?_); rintro e w' ⟨rfl, ⟨nd, rfl⟩⟩))
            go_ret
            exact ⟨by first | rfl | (simp; done) | (simp [*]; done), by repeat (first | exact Drawn0.refl _ | apply Drawn0.step)⟩
          ·replace c20 := Bool.eq_false_iff.mpr c20
           subst c20
           have H1 : (some false) = some r := by rw [if_neg (show ¬ (false = true) by decide)] at H; exact H
           clear H
           have H := H1
           clear H1
           rw [hr] at H
           exact absurd H (by simp)
         ·rw [if_neg c18] at H
          exact absurd H (by simp)
        ·rw [if_neg c17] at H
         exact absurd H (by simp)
       ·rw [if_neg c16] at H
        exact absurd H (by simp)
      ·rw [if_neg c15] at H
       exact absurd H (by simp)
     ·replace c14 := Bool.eq_false_iff.mpr c14
      subst c14
      have H1 : (some false) = some r := by rw [if_neg (show ¬ (false = true) by decide)] at H; exact H
      clear H
      have H := H1
      clear H1
      rw [hr] at H
      exact absurd H (by simp)
    ·rw [if_neg c12] at H
     have c12b0 : (t125 == (a0.toList == a2.toList)) = false := by simpa using c12
     (try (have c12b1 : decide (t125 = (a0.toList == a2.toList)) = false := by simpa using c12))
     (try (have c12b2 : (t125 == (a0.toList == a2.toList)) = false := by simpa using c12))
     (try (have c12b3 : ¬ (t125 = (a0.toList == a2.toList)) := by simpa using c12))
     clear c12
     rw [hr] at H
     exact absurd H (by simp)
def stowagelaw25_CorsStars.Pure : Prop := ∀ (a0 : ByteArray) (a1 : ByteArray) (a2 : ByteArray), a0.size ≤ 140737488351232 → a1.size ≤ 140737488351232 → a2.size ≤ 140737488351232 → ∃ k, stowagelaw25_CorsStars.f k a0 a1 a2 = some true
theorem stowagelaw25_CorsStars.walk (P : stowagelaw25_CorsStars.Pure) (a0 : ByteArray) (a1 : ByteArray) (a2 : ByteArray) (w : World) (w0 : a0.size ≤ 140737488351232) (w1 : a1.size ≤ 140737488351232) (w2 : a2.size ≤ 140737488351232) :
  Calls Try.prog 4 #[.string a0, .string a1, .string a2] w fun e w' => e = .returned (.bool true) ∧ Below w.heap.size w w' := by
 obtain ⟨k, h⟩ := P a0 a1 a2 w0 w1 w2
 refine (stowagelaw25_CorsStars.calls k a0 a1 a2 true w h rfl).mono ?_
 rintro e w' ⟨rfl, hd⟩
 exact ⟨rfl, hd.below⟩
end Go.Proofs.Ytiaihkcadffllaa.Q


namespace Go.Proofs.Ytiaihkcadffllaa.Q
open Go.RowKit Go.Proofs.YtiaihkcadffllaaW.PrintWords Go.Proofs.YtiaihkcadffllaaW.PrintLast Go.Proofs.YtiaihkcadffllaaW.PrintMore
set_option linter.unusedVariables false
set_option linter.unusedSimpArgs false
attribute [local go_sem] max2_int min2_int max_two min_two max_three min_three max_four min_four   
end Go.Proofs.Ytiaihkcadffllaa.Q
