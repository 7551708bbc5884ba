/- A part of the proof of the seat's laws. No condition beyond those in the theorems. -/
import Derived.Test.YtiaihkcadffllaaZQ0g3
import Derived.Test.YtiaihkcadffllaaZQ7g8

namespace Go.Proofs.Ytiaihkcadffllaa.Q
open Go.RowKit Go.Proofs.YtiaihkcadffllaaW.PrintWords Go.Proofs.YtiaihkcadffllaaW.PrintLast Go.Proofs.YtiaihkcadffllaaW.PrintMore
set_option linter.unusedVariables false
set_option linter.unusedSimpArgs false
attribute [local go_sem] max2_int min2_int max_two min_two max_three min_three max_four min_four   
def cors_Match.f (a0 : ByteArray) (a1 : ByteArray) : Option (Bool) := (cors_pattern_matches.f a0 a1).bind fun t114 => (some t114)
set_option maxHeartbeats 8000000 in
set_option maxRecDepth 100000 in
theorem cors_Match.calls (a0 : ByteArray) (a1 : ByteArray) (r : Bool) (w : World) (h : cors_Match.f a0 a1 = some r) :
  Calls Try.prog 7 #[.string a0, .string a1] w fun e w' => e = .returned (.bool r) ∧ Drawn0 w w' := by
 have H : ((cors_pattern_matches.f a0 a1).bind fun t114 => (some t114)) = some r := h
 clear h
 replace H := Option.bind_eq_some_iff.mp H
 obtain ⟨t114, A30, H⟩ := H
 replace H : (some t114) = some r := H
 have A3 := Aside0.mk A30
 clear A30
 obtain rfl := Option.some.inj H
 go_enter Try.func7, Try.ntmps7
 go_wp2_with (first | (go_at_call 13; (with_reducible refine (cors_pattern_matches.calls a0 a1 t114 _ A3.out).mono ?_); rintro e w' ⟨rfl, ⟨nd, rfl⟩⟩))
 go_ret
 exact ⟨by first | rfl | (simp; done) | (simp [*]; done), by repeat (first | exact Drawn0.refl _ | apply Drawn0.step)⟩
end Go.Proofs.Ytiaihkcadffllaa.Q


namespace Go.Proofs.Ytiaihkcadffllaa.Q
open Go.RowKit Go.Proofs.YtiaihkcadffllaaW.PrintWords Go.Proofs.YtiaihkcadffllaaW.PrintLast Go.Proofs.YtiaihkcadffllaaW.PrintMore
set_option linter.unusedVariables false
set_option linter.unusedSimpArgs false
attribute [local go_sem] max2_int min2_int max_two min_two max_three min_three max_four min_four   
def stowageref3_Cut.l0 : Nat → ByteArray → Int → Int → Option (ByteArray × ByteArray × Bool)
 | 0, _, _, _ => none
 | k + 1, x0, x1, x7 => if x7 < (x0.size : Int) then (if 0 ≤ x7 then (if (bt x0 x7) = x1 then (if x7 ≤ (x0.size : Int) then (if 0 ≤ (wrap64 (x7 + 1)) then (if (wrap64 (x7 + 1)) ≤ (x0.size : Int) then (some (x0.extract 0 (x7 : Int).toNat, x0.extract ((wrap64 (x7 + 1)) : Int).toNat x0.size, true)) else (none)) else (none)) else (none)) else (stowageref3_Cut.l0 k x0 x1 (wrap64 (x7 + 1)))) else (none)) else (some (x0, (⟨#[]⟩ : ByteArray), false))
def stowageref3_Cut.f (k : Nat) (a0 : ByteArray) (a1 : Int) : Option (ByteArray × ByteArray × Bool) := stowageref3_Cut.l0 k a0 a1 0
theorem stowageref3_Cut.mono_l : ∀ k, (∀ y0 y1 y2, LeO (stowageref3_Cut.l0 k y0 y1 y2) (stowageref3_Cut.l0 (k + 1) y0 y1 y2))
 | 0 => fun _ _ _ r h => by simp [stowageref3_Cut.l0] at h
 | k + 1 => by
  have ih0 := stowageref3_Cut.mono_l k
  ·intro y0 y1 y2
   unfold stowageref3_Cut.l0
   repeat' first
   | (with_reducible exact ih0 _ _ _)
   | (with_reducible exact LeO.refl _)
   | (with_reducible exact LeO.none _)
   | (with_reducible refine LeO.ite ?_ ?_)
   | (with_reducible refine LeO.bind ?_ (fun _ => ?_))
   | exact ih0 _ _ _
   | exact LeO.none _
   | refine LeO.ite ?_ ?_
   | refine LeO.bind ?_ (fun _ => ?_)
theorem stowageref3_Cut.mono : ∀ a0 a1 k, LeO (stowageref3_Cut.f k a0 a1) (stowageref3_Cut.f (k + 1) a0 a1) := by
 intro a0 a1 k
 have ih0 := stowageref3_Cut.mono_l k
 unfold stowageref3_Cut.f
 repeat' first
   | (with_reducible exact ih0 _ _ _)
   | (with_reducible exact LeO.refl _)
   | (with_reducible exact LeO.none _)
   | (with_reducible refine LeO.ite ?_ ?_)
   | (with_reducible refine LeO.bind ?_ (fun _ => ?_))
   | exact ih0 _ _ _
   | exact LeO.none _
   | refine LeO.ite ?_ ?_
   | refine LeO.bind ?_ (fun _ => ?_)
set_option maxHeartbeats 8000000 in
set_option maxRecDepth 100000 in
theorem stowageref3_Cut.calls (k : Nat) (a0 : ByteArray) (a1 : Int) (r1 : ByteArray) (r2 : ByteArray) (r3 : Bool) (w : World) (h : stowageref3_Cut.f k a0 a1 = some (r1, r2, r3)) :
  Calls Try.prog 14 #[.string a0, .int .u8 a1] w fun e w' => e = .returned (.tuple #[.string r1, .string r2, .bool r3]) ∧ Drawn0 w w' := by
 have H : (stowageref3_Cut.l0 k a0 a1 0) = some (r1, r2, r3) := h
 clear h
 have H' := Aside0.mk H
 clear H
 go_enter Try.func14, Try.ntmps14
 go_wp2
 repeat (go_quiet (fail); try go_wp2)
 go_loopg [7] k (fun kq v7 w' => ∃ (x7_1 : Int), v7 = .int .i64 x7_1 ∧ Aside0 (stowageref3_Cut.l0 kq a0 a1 x7_1 = some (r1, r2, r3)) ∧ Aside0 (kq ≤ k) ∧ Drawn0 w w')
 case atStart => exact ⟨(0), (by first | rfl | (simp; done) | (simp [*]; done)), H', ⟨Nat.le_refl _⟩, by repeat (first | exact Drawn0.refl _ | apply Drawn0.step)⟩
 case round =>
  clear H'
  try clear c1
  try clear p2
  obtain ⟨x7_1, rfl, HA, HK1, ⟨m1, rfl⟩⟩ := hrel
  cases gk with
  | zero => exact absurd HA.out (by simp [stowageref3_Cut.l0])
  | succ k1 =>
   have H := HA.out
   clear HA
   simp only [stowageref3_Cut.l0] at H
   by_cases c3 : x7_1 < (a0.size : Int)
   ·rw [if_pos c3] at H
    have c3b0 : decide (x7_1 < (a0.size : Int)) = true := decide_eq_true c3
    clear c3
    by_cases c4 : 0 ≤ x7_1
    ·rw [if_pos c4] at H
     have c4b0 : decide (0 ≤ x7_1) = true := decide_eq_true c4
     clear c4
     by_cases c6 : (bt a0 x7_1) = a1
     ·rw [if_pos c6] at H
      have c6b0 : ((bt a0 x7_1) == a1) = true := beq_iff_eq.mpr c6
      have c6b1 : ((bt a0 x7_1) != a1) = false := bne_eq_false_iff_eq.mpr c6
      clear c6
      have c7b0 := eq_true (of_decide_eq_true (by first | (with_reducible assumption) | assumption) : 0 ≤ x7_1)
      by_cases c8 : x7_1 ≤ (a0.size : Int)
      ·rw [if_pos c8] at H
       have c8b0 := eq_true c8
       have c8b1 : decide (x7_1 ≤ (a0.size : Int)) = true := decide_eq_true c8
       clear c8
       obtain ⟨ji9, hji9⟩ : ∃ j_ : Int, (wrap64 (x7_1 + 1)) = j_ := ⟨_, rfl⟩
       replace H : (if 0 ≤ (ji9) then (if (ji9) ≤ (a0.size : Int) then (some (a0.extract 0 (x7_1 : Int).toNat, a0.extract ((ji9) : Int).toNat a0.size, true)) else (none)) else (none)) = some (r1, r2, r3) := by first | (rw [hji9] at H; exact H) | (simp only [hji9] at H ⊢; exact H)
       have hji9w : (IntKind.i64.wrap (x7_1 + 1)) = ji9 := (i64_w _).trans hji9
       by_cases c10 : 0 ≤ (ji9)
       ·rw [if_pos c10] at H
        have c10b0 := eq_true c10
        have c10b1 : decide (0 ≤ (ji9)) = true := decide_eq_true c10
        clear c10
        by_cases c11 : (ji9) ≤ (a0.size : Int)
        ·rw [if_pos c11] at H
         have c11b0 := eq_true c11
         have c11b1 : decide ((ji9) ≤ (a0.size : Int)) = true := decide_eq_true c11
         clear c11
         simp only [Option.some.injEq, Prod.mk.injEq] at H
         obtain ⟨rfl, rfl, rfl⟩ := H
         have p5 : 0 ≤ (x7_1 : Int) := of_decide_eq_true (by first | (with_reducible assumption) | assumption)
         have q5 : x7_1 < (a0.size : Int) := of_decide_eq_true (by first | (with_reducible assumption) | assumption)
         have hx5 := bt_at a0 x7_1
         replace p5 := eq_true p5
         replace q5 := eq_true q5
         go_wp2
         repeat (go_quiet (fail); try go_wp2)
         go_ret3
         exact ⟨by first | rfl | (simp; done) | (simp only [← hji9] <;> (first | rfl | simp)) | (simp [*]; done), by repeat (first | exact Drawn0.refl _ | apply Drawn0.step)⟩
        ·rw [if_neg c11] at H
         exact absurd H (by simp)
       ·rw [if_neg c10] at H
        exact absurd H (by simp)
      ·rw [if_neg c8] at H
       exact absurd H (by simp)
     ·rw [if_neg c6] at H
      have c6b0 : ((bt a0 x7_1) == a1) = false := beq_eq_false_iff_ne.mpr c6
      have c6b1 : ((bt a0 x7_1) != a1) = true := bne_iff_ne.mpr c6
      have H' := Aside0.mk H
      clear H
      have p5 : 0 ≤ (x7_1 : Int) := of_decide_eq_true (by first | (with_reducible assumption) | assumption)
      have q5 : x7_1 < (a0.size : Int) := of_decide_eq_true (by first | (with_reducible assumption) | assumption)
      have hx5 := bt_at a0 x7_1
      replace p5 := eq_true p5
      replace q5 := eq_true q5
      go_wp2
      repeat (go_quiet (fail); try go_wp2)
      go_roundg k1
      case measure => have := HK1.out; omega
      case rel => exact ⟨(wrap64 (x7_1 + 1)), (by first | rfl | (simp; done) | (simp [*]; done)), H', ⟨by have := HK1.out; omega⟩, by repeat (first | exact Drawn0.refl _ | apply Drawn0.step)⟩
    ·rw [if_neg c4] at H
     exact absurd H (by simp)
   ·rw [if_neg c3] at H
    have c3b0 : decide (x7_1 < (a0.size : Int)) = false := decide_eq_false c3
    clear c3
    simp only [Option.some.injEq, Prod.mk.injEq] at H
    obtain ⟨rfl, rfl, rfl⟩ := H
    go_wp2
    repeat (go_quiet (fail); try go_wp2)
    go_ret3
    exact ⟨by first | rfl | (simp; done) | (simp [*]; done), by repeat (first | exact Drawn0.refl _ | apply Drawn0.step)⟩
end Go.Proofs.Ytiaihkcadffllaa.Q


namespace Go.Proofs.Ytiaihkcadffllaa.Q
open Go.RowKit Go.Proofs.YtiaihkcadffllaaW.PrintWords Go.Proofs.YtiaihkcadffllaaW.PrintLast Go.Proofs.YtiaihkcadffllaaW.PrintMore
set_option linter.unusedVariables false
set_option linter.unusedSimpArgs false
attribute [local go_sem] max2_int min2_int max_two min_two max_three min_three max_four min_four   
def stowageref25_Match.f (k : Nat) (a0 : ByteArray) (a1 : ByteArray) : Option (Bool) := (stowageref3_Cut.f k a0 42).bind fun bt115 => (if bt115.2.2 = true then (if (a1.size : Int) ≥ (wrap64 ((bt115.1.size : Int) + (bt115.2.1.size : Int))) then (if 0 ≤ (bt115.1.size : Int) then (if (bt115.1.size : Int) ≤ (a1.size : Int) then (if (a1.extract 0 bt115.1.size).toList = bt115.1.toList then (if 0 ≤ (wrap64 ((a1.size : Int) - (bt115.2.1.size : Int))) then (if (wrap64 ((a1.size : Int) - (bt115.2.1.size : Int))) ≤ (a1.size : Int) then (some ((a1.extract ((wrap64 ((a1.size : Int) - (bt115.2.1.size : Int))) : Int).toNat a1.size).toList == bt115.2.1.toList)) else (none)) else (none)) else (some false)) else (none)) else (none)) else (some false)) else (some (a0.toList == a1.toList)))
theorem stowageref25_Match.mono : ∀ a0 a1 k, LeO (stowageref25_Match.f k a0 a1) (stowageref25_Match.f (k + 1) a0 a1) := by
 intro a0 a1 k
 unfold stowageref25_Match.f
 repeat' first
   | (with_reducible exact stowageref3_Cut.mono _ _ _)
   | (with_reducible exact LeO.refl _)
   | (with_reducible exact LeO.none _)
   | (with_reducible refine LeO.ite ?_ ?_)
   | (with_reducible refine LeO.bind ?_ (fun _ => ?_))
   | exact stowageref3_Cut.mono _ _ _
   | exact LeO.none _
   | refine LeO.ite ?_ ?_
   | refine LeO.bind ?_ (fun _ => ?_)
set_option maxHeartbeats 8000000 in
set_option maxRecDepth 100000 in
theorem stowageref25_Match.calls (k : Nat) (a0 : ByteArray) (a1 : ByteArray) (r : Bool) (w : World) (h : stowageref25_Match.f k a0 a1 = some r) :
  Calls Try.prog 8 #[.string a0, .string a1] w fun e w' => e = .returned (.bool r) ∧ Drawn0 w w' := by
 have H : ((stowageref3_Cut.f k a0 42).bind fun bt115 => (if bt115.2.2 = true then (if (a1.size : Int) ≥ (wrap64 ((bt115.1.size : Int) + (bt115.2.1.size : Int))) then (if 0 ≤ (bt115.1.size : Int) then (if (bt115.1.size : Int) ≤ (a1.size : Int) then (if (a1.extract 0 bt115.1.size).toList = bt115.1.toList then (if 0 ≤ (wrap64 ((a1.size : Int) - (bt115.2.1.size : Int))) then (if (wrap64 ((a1.size : Int) - (bt115.2.1.size : Int))) ≤ (a1.size : Int) then (some ((a1.extract ((wrap64 ((a1.size : Int) - (bt115.2.1.size : Int))) : Int).toNat a1.size).toList == bt115.2.1.toList)) else (none)) else (none)) else (some false)) else (none)) else (none)) else (some false)) else (some (a0.toList == a1.toList)))) = some r := h
 clear h
 replace H := Option.bind_eq_some_iff.mp H
 obtain ⟨⟨t115, t116, t117⟩, A30, H⟩ := H
 replace H : (if t117 = true then (if (a1.size : Int) ≥ (wrap64 ((t115.size : Int) + (t116.size : Int))) then (if 0 ≤ (t115.size : Int) then (if (t115.size : Int) ≤ (a1.size : Int) then (if (a1.extract 0 t115.size).toList = t115.toList then (if 0 ≤ (wrap64 ((a1.size : Int) - (t116.size : Int))) then (if (wrap64 ((a1.size : Int) - (t116.size : Int))) ≤ (a1.size : Int) then (some ((a1.extract ((wrap64 ((a1.size : Int) - (t116.size : Int))) : Int).toNat a1.size).toList == t116.toList)) else (none)) else (none)) else (some false)) else (none)) else (none)) else (some false)) else (some (a0.toList == a1.toList))) = some r := H
 have A3 := Aside0.mk A30
 clear A30
 by_cases c4 : t117 = true
 ·subst c4
  have H1 : (if (a1.size : Int) ≥ (wrap64 ((t115.size : Int) + (t116.size : Int))) then (if 0 ≤ (t115.size : Int) then (if (t115.size : Int) ≤ (a1.size : Int) then (if (a1.extract 0 t115.size).toList = t115.toList then (if 0 ≤ (wrap64 ((a1.size : Int) - (t116.size : Int))) then (if (wrap64 ((a1.size : Int) - (t116.size : Int))) ≤ (a1.size : Int) then (some ((a1.extract ((wrap64 ((a1.size : Int) - (t116.size : Int))) : Int).toNat a1.size).toList == t116.toList)) else (none)) else (none)) else (some false)) else (none)) else (none)) else (some false)) = some r := by rw [if_pos rfl] at H; exact H
  clear H
  have H := H1
  clear H1
  by_cases c5 : (a1.size : Int) ≥ (wrap64 ((t115.size : Int) + (t116.size : Int)))
  ·rw [if_pos c5] at H
   have c5b0 : decide ((wrap64 ((t115.size : Int) + (t116.size : Int))) ≤ (a1.size : Int)) = true := decide_eq_true c5
   clear c5
   by_cases c6 : 0 ≤ (t115.size : Int)
   ·rw [if_pos c6] at H
    have c6b0 := eq_true c6
    have c6b1 : decide (0 ≤ (t115.size : Int)) = true := decide_eq_true c6
    clear c6
    by_cases c7 : (t115.size : Int) ≤ (a1.size : Int)
    ·rw [if_pos c7] at H
     have c7b0 := eq_true c7
     have c7b1 : decide ((t115.size : Int) ≤ (a1.size : Int)) = true := decide_eq_true c7
     clear c7
     by_cases c8 : (a1.extract 0 t115.size).toList = t115.toList
     ·rw [if_pos c8] at H
      have c8b0 : ((a1.extract 0 t115.size).toList == t115.toList) = true := beq_iff_eq.mpr c8
      have c8b1 : ((a1.extract 0 t115.size).toList != t115.toList) = false := bne_eq_false_iff_eq.mpr c8
      clear c8
      obtain ⟨ji9, hji9⟩ : ∃ j_ : Int, (wrap64 ((a1.size : Int) - (t116.size : Int))) = j_ := ⟨_, rfl⟩
      replace H : (if 0 ≤ (ji9) then (if (ji9) ≤ (a1.size : Int) then (some ((a1.extract ((ji9) : Int).toNat a1.size).toList == t116.toList)) else (none)) else (none)) = some r := by first | (rw [hji9] at H; exact H) | (simp only [hji9] at H ⊢; exact H)
      (try rw [hji9] at A3)
      have hji9w : (IntKind.i64.wrap ((a1.size : Int) - (t116.size : Int))) = ji9 := (i64_w _).trans hji9
      by_cases c10 : 0 ≤ (ji9)
      ·rw [if_pos c10] at H
       have c10b0 := eq_true c10
       have c10b1 : decide (0 ≤ (ji9)) = true := decide_eq_true c10
       clear c10
       by_cases c11 : (ji9) ≤ (a1.size : Int)
       ·rw [if_pos c11] at H
        have c11b0 := eq_true c11
        have c11b1 : decide ((ji9) ≤ (a1.size : Int)) = true := decide_eq_true c11
        clear c11
        obtain rfl := Option.some.inj H
        go_enter Try.func8, Try.ntmps8
        go_wp2_with (first | ((with_reducible refine gate_callee (f := 14) rfl ?_); refine goesL_ (some 10) rfl rfl Try.func14 (by kernel_rfl) rfl #[.string a0, .int .u8 42] rfl (by (try simp only [List.map_toArray, List.map_cons, List.map_nil]); first | done | rfl | (simp only [List.length_drop, List.length_take]; rfl)) ?_; (with_reducible refine (stowageref3_Cut.calls k a0 42 t115 t116 true _ A3.out).mono ?_); rintro e w' ⟨rfl, ⟨nd, rfl⟩⟩; refine ⟨_, rfl, ?_⟩))
        go_ret
        exact ⟨by first | rfl | (simp; done) | (simp only [← hji9] <;> (first | rfl | simp)) | (simp [*]; done), by repeat (first | exact Drawn0.refl _ | apply Drawn0.step)⟩
       ·rw [if_neg c11] at H
        exact absurd H (by simp)
      ·rw [if_neg c10] at H
       exact absurd H (by simp)
     ·rw [if_neg c8] at H
      have c8b0 : ((a1.extract 0 t115.size).toList == t115.toList) = false := beq_eq_false_iff_ne.mpr c8
      have c8b1 : ((a1.extract 0 t115.size).toList != t115.toList) = true := bne_iff_ne.mpr c8
      obtain rfl := Option.some.inj H
      go_enter Try.func8, Try.ntmps8
      go_wp2_with (first | ((with_reducible refine gate_callee (f := 14) rfl ?_); refine goesL_ (some 10) rfl rfl Try.func14 (by kernel_rfl) rfl #[.string a0, .int .u8 42] rfl (by (try simp only [List.map_toArray, List.map_cons, List.map_nil]); first | done | rfl | (simp only [List.length_drop, List.length_take]; rfl)) ?_; (with_reducible refine (stowageref3_Cut.calls k a0 42 t115 t116 true _ A3.out).mono ?_); rintro e w' ⟨rfl, ⟨nd, rfl⟩⟩; refine ⟨_, rfl, ?_⟩))
      go_ret
      exact ⟨by first | rfl | (simp; done) | (simp [*]; done), by repeat (first | exact Drawn0.refl _ | apply Drawn0.step)⟩
    ·rw [if_neg c7] at H
     exact absurd H (by simp)
   ·rw [if_neg c6] at H
    exact absurd H (by simp)
  ·rw [if_neg c5] at H
   have c5b0 : decide ((wrap64 ((t115.size : Int) + (t116.size : Int))) ≤ (a1.size : Int)) = false := decide_eq_false c5
   clear c5
   obtain rfl := Option.some.inj H
   go_enter Try.func8, Try.ntmps8
   go_wp2_with (first | ((with_reducible refine gate_callee (f := 14) rfl ?_); refine goesL_ (some 10) rfl rfl Try.func14 (by kernel_rfl) rfl #[.string a0, .int .u8 42] rfl (by (try simp only [List.map_toArray, List.map_cons, List.map_nil]); first | done | rfl | (simp only [List.length_drop, List.length_take]; rfl)) ?_; (with_reducible refine (stowageref3_Cut.calls k a0 42 t115 t116 true _ A3.out).mono ?_); rintro e w' ⟨rfl, ⟨nd, rfl⟩⟩; refine ⟨_, rfl, ?_⟩))
   go_ret
   exact ⟨by first | rfl | (simp; done) | (simp [*]; done), by repeat (first | exact Drawn0.refl _ | apply Drawn0.step)⟩
 ·replace c4 := Bool.eq_false_iff.mpr c4
  subst c4
  have H1 : (some (a0.toList == a1.toList)) = some r := by rw [if_neg (show ¬ (false = true) by decide)] at H; exact H
  clear H
  have H := H1
  clear H1
  obtain rfl := Option.some.inj H
  go_enter Try.func8, Try.ntmps8
  go_wp2_with (first | ((with_reducible refine gate_callee (f := 14) rfl ?_); refine goesL_ (some 10) rfl rfl Try.func14 (by kernel_rfl) rfl #[.string a0, .int .u8 42] rfl (by (try simp only [List.map_toArray, List.map_cons, List.map_nil]); first | done | rfl | (simp only [List.length_drop, List.length_take]; rfl)) ?_; (with_reducible refine (stowageref3_Cut.calls k a0 42 t115 t116 false _ A3.out).mono ?_); rintro e w' ⟨rfl, ⟨nd, rfl⟩⟩; refine ⟨_, rfl, ?_⟩))
  go_ret
  exact ⟨by first | rfl | (simp; done) | (simp [*]; done), by repeat (first | exact Drawn0.refl _ | apply Drawn0.step)⟩
end Go.Proofs.Ytiaihkcadffllaa.Q


namespace Go.Proofs.Ytiaihkcadffllaa.Q
open Go.RowKit Go.Proofs.YtiaihkcadffllaaW.PrintWords Go.Proofs.YtiaihkcadffllaaW.PrintLast Go.Proofs.YtiaihkcadffllaaW.PrintMore
set_option linter.unusedVariables false
set_option linter.unusedSimpArgs false
attribute [local go_sem] max2_int min2_int max_two min_two max_three min_three max_four min_four   
def stowagelaw25_awake.f  : Option (Bool) := (cors_Match.f (⟨#[104, 116, 116, 112, 58, 47, 47, 42, 46, 97]⟩ : ByteArray) (⟨#[104, 116, 116, 112, 58, 47, 47, 120, 46, 97]⟩ : ByteArray)).bind fun t118 => (if t118 = true then ((cors_Match.f (⟨#[97, 98, 42, 98, 97]⟩ : ByteArray) (⟨#[97, 98, 97]⟩ : ByteArray)).bind fun t119 => (if t119 = true then (some false) else ((cors_Match.f (⟨#[97, 42]⟩ : ByteArray) (⟨#[97]⟩ : ByteArray)).bind fun t120 => (some t120)))) else (some false))
set_option maxHeartbeats 8000000 in
set_option maxRecDepth 100000 in
theorem stowagelaw25_awake.calls  (r : Bool) (w : World) (h : stowagelaw25_awake.f  = some r) :
  Calls Try.prog 9 #[] w fun e w' => e = .returned (.bool r) ∧ Drawn0 w w' := by
 have H : ((cors_Match.f (⟨#[104, 116, 116, 112, 58, 47, 47, 42, 46, 97]⟩ : ByteArray) (⟨#[104, 116, 116, 112, 58, 47, 47, 120, 46, 97]⟩ : ByteArray)).bind fun t118 => (if t118 = true then ((cors_Match.f (⟨#[97, 98, 42, 98, 97]⟩ : ByteArray) (⟨#[97, 98, 97]⟩ : ByteArray)).bind fun t119 => (if t119 = true then (some false) else ((cors_Match.f (⟨#[97, 42]⟩ : ByteArray) (⟨#[97]⟩ : ByteArray)).bind fun t120 => (some t120)))) else (some false))) = some r := h
 clear h
 replace H := Option.bind_eq_some_iff.mp H
 obtain ⟨t118, A10, H⟩ := H
 replace H : (if t118 = true then ((cors_Match.f (⟨#[97, 98, 42, 98, 97]⟩ : ByteArray) (⟨#[97, 98, 97]⟩ : ByteArray)).bind fun t119 => (if t119 = true then (some false) else ((cors_Match.f (⟨#[97, 42]⟩ : ByteArray) (⟨#[97]⟩ : ByteArray)).bind fun t120 => (some t120)))) else (some false)) = some r := H
 have A1 := Aside0.mk A10
 clear A10
 by_cases c2 : t118 = true
 ·subst c2
  have H1 : ((cors_Match.f (⟨#[97, 98, 42, 98, 97]⟩ : ByteArray) (⟨#[97, 98, 97]⟩ : ByteArray)).bind fun t119 => (if t119 = true then (some false) else ((cors_Match.f (⟨#[97, 42]⟩ : ByteArray) (⟨#[97]⟩ : ByteArray)).bind fun t120 => (some t120)))) = some r := by rw [if_pos rfl] at H; exact H
  clear H
  have H := H1
  clear H1
  replace H := Option.bind_eq_some_iff.mp H
  obtain ⟨t119, A30, H⟩ := H
  replace H : (if t119 = true then (some false) else ((cors_Match.f (⟨#[97, 42]⟩ : ByteArray) (⟨#[97]⟩ : ByteArray)).bind fun t120 => (some t120))) = some r := H
  have A3 := Aside0.mk A30
  clear A30
  by_cases c4 : t119 = true
  ·subst c4
   have H1 : (some false) = some r := by rw [if_pos rfl] at H; exact H
   clear H
   have H := H1
   clear H1
   obtain rfl := Option.some.inj H
   go_enter Try.func9, Try.ntmps9
   go_wp2_with (first | ((with_reducible refine gate_callee (f := 7) rfl ?_); refine goesL_ (some 1) rfl rfl Try.func7 (by kernel_rfl) rfl #[.string (⟨#[104, 116, 116, 112, 58, 47, 47, 42, 46, 97]⟩ : ByteArray), .string (⟨#[104, 116, 116, 112, 58, 47, 47, 120, 46, 97]⟩ : ByteArray)] rfl (by (try simp only [List.map_toArray, List.map_cons, List.map_nil]); first | done | rfl | (simp only [List.length_drop, List.length_take]; rfl)) ?_; (with_reducible refine (cors_Match.calls (⟨#[104, 116, 116, 112, 58, 47, 47, 42, 46, 97]⟩ : ByteArray) (⟨#[104, 116, 116, 112, 58, 47, 47, 120, 46, 97]⟩ : ByteArray) true _ A1.out).mono ?_); rintro e w' ⟨rfl, ⟨nd, rfl⟩⟩; refine ⟨_, rfl, ?_⟩) | (go_at_call 7; (with_reducible refine (cors_Match.calls (⟨#[97, 98, 42, 98, 97]⟩ : ByteArray) (⟨#[97, 98, 97]⟩ : ByteArray) true _ A3.out).mono ?_); rintro e w' ⟨rfl, ⟨nd, rfl⟩⟩))
   go_ret
   exact ⟨by first | rfl | (simp; done) | (simp [*]; done), by repeat (first | exact Drawn0.refl _ | apply Drawn0.step)⟩
  ·replace c4 := Bool.eq_false_iff.mpr c4
   subst c4
   have H1 : ((cors_Match.f (⟨#[97, 42]⟩ : ByteArray) (⟨#[97]⟩ : ByteArray)).bind fun t120 => (some t120)) = some r := by rw [if_neg (show ¬ (false = true) by decide)] at H; exact H
   clear H
   have H := H1
   clear H1
   replace H := Option.bind_eq_some_iff.mp H
   obtain ⟨t120, A50, H⟩ := H
   replace H : (some t120) = some r := H
   have A5 := Aside0.mk A50
   clear A50
   obtain rfl := Option.some.inj H
   go_enter Try.func9, Try.ntmps9
   go_wp2_with (first | ((with_reducible refine gate_callee (f := 7) rfl ?_); refine goesL_ (some 1) rfl rfl Try.func7 (by kernel_rfl) rfl #[.string (⟨#[104, 116, 116, 112, 58, 47, 47, 42, 46, 97]⟩ : ByteArray), .string (⟨#[104, 116, 116, 112, 58, 47, 47, 120, 46, 97]⟩ : ByteArray)] rfl (by (try simp only [List.map_toArray, List.map_cons, List.map_nil]); first | done | rfl | (simp only [List.length_drop, List.length_take]; rfl)) ?_; (with_reducible refine (cors_Match.calls (⟨#[104, 116, 116, 112, 58, 47, 47, 42, 46, 97]⟩ : ByteArray) (⟨#[104, 116, 116, 112, 58, 47, 47, 120, 46, 97]⟩ : ByteArray) true _ A1.out).mono ?_); rintro e w' ⟨rfl, ⟨nd, rfl⟩⟩; refine ⟨_, rfl, ?_⟩) | (go_at_call 7; (with_reducible refine (cors_Match.calls (⟨#[97, 98, 42, 98, 97]⟩ : ByteArray) (⟨#[97, 98, 97]⟩ : ByteArray) false _ A3.out).mono ?_); rintro e w' ⟨rfl, ⟨nd, rfl⟩⟩) | (go_at_call 7; (with_reducible refine (cors_Match.calls (⟨#[97, 42]⟩ : ByteArray) (⟨#[97]⟩ : ByteArray) t120 _ A5.out).mono ?_); rintro e w' ⟨rfl, ⟨nd, rfl⟩⟩))
   go_ret
   exact ⟨by first | rfl | (simp; done) | (simp [*]; done), by repeat (first | exact Drawn0.refl _ | apply Drawn0.step)⟩
 ·replace c2 := Bool.eq_false_iff.mpr c2
  subst c2
  have H1 : (some false) = some r := by rw [if_neg (show ¬ (false = true) by decide)] at H; exact H
  clear H
  have H := H1
  clear H1
  obtain rfl := Option.some.inj H
  go_enter Try.func9, Try.ntmps9
  go_wp2_with (first | ((with_reducible refine gate_callee (f := 7) rfl ?_); refine goesL_ (some 1) rfl rfl Try.func7 (by kernel_rfl) rfl #[.string (⟨#[104, 116, 116, 112, 58, 47, 47, 42, 46, 97]⟩ : ByteArray), .string (⟨#[104, 116, 116, 112, 58, 47, 47, 120, 46, 97]⟩ : ByteArray)] rfl (by (try simp only [List.map_toArray, List.map_cons, List.map_nil]); first | done | rfl | (simp only [List.length_drop, List.length_take]; rfl)) ?_; (with_reducible refine (cors_Match.calls (⟨#[104, 116, 116, 112, 58, 47, 47, 42, 46, 97]⟩ : ByteArray) (⟨#[104, 116, 116, 112, 58, 47, 47, 120, 46, 97]⟩ : ByteArray) false _ A1.out).mono ?_); rintro e w' ⟨rfl, ⟨nd, rfl⟩⟩; refine ⟨_, rfl, ?_⟩))
  go_ret
  exact ⟨by first | rfl | (simp; done) | (simp [*]; done), by repeat (first | exact Drawn0.refl _ | apply Drawn0.step)⟩
end Go.Proofs.Ytiaihkcadffllaa.Q


namespace Go.Proofs.Ytiaihkcadffllaa.Q
open Go.RowKit Go.Proofs.YtiaihkcadffllaaW.PrintWords Go.Proofs.YtiaihkcadffllaaW.PrintLast Go.Proofs.YtiaihkcadffllaaW.PrintMore
set_option linter.unusedVariables false
set_option linter.unusedSimpArgs false
attribute [local go_sem] max2_int min2_int max_two min_two max_three min_three max_four min_four   
def stowagelaw25_CorsMatches.f (k : Nat) (a0 : ByteArray) (a1 : ByteArray) : Option (Bool) := (cors_Match.f a0 a1).bind fun t121 => ((stowageref25_Match.f k a0 a1).bind fun t122 => (if (t121 == t122) = true then ((stowagelaw25_awake.f).bind fun t123 => (some t123)) else (some false)))
theorem stowagelaw25_CorsMatches.mono : ∀ a0 a1 k, LeO (stowagelaw25_CorsMatches.f k a0 a1) (stowagelaw25_CorsMatches.f (k + 1) a0 a1) := by
 intro a0 a1 k
 unfold stowagelaw25_CorsMatches.f
 repeat' first
   | (with_reducible exact stowageref25_Match.mono _ _ _)
   | (with_reducible exact LeO.refl _)
   | (with_reducible exact LeO.none _)
   | (with_reducible refine LeO.ite ?_ ?_)
   | (with_reducible refine LeO.bind ?_ (fun _ => ?_))
   | exact stowageref25_Match.mono _ _ _
   | exact LeO.none _
   | refine LeO.ite ?_ ?_
   | refine LeO.bind ?_ (fun _ => ?_)
set_option maxHeartbeats 8000000 in
set_option maxRecDepth 100000 in
theorem stowagelaw25_CorsMatches.calls (k : Nat) (a0 : ByteArray) (a1 : ByteArray) (r : Bool) (w : World) (h : stowagelaw25_CorsMatches.f k a0 a1 = some r) (hr : r = true) :
  Calls Try.prog 3 #[.string a0, .string a1] w fun e w' => e = .returned (.bool r) ∧ Drawn0 w w' := by
 have H : ((cors_Match.f a0 a1).bind fun t121 => ((stowageref25_Match.f k a0 a1).bind fun t122 => (if (t121 == t122) = true then ((stowagelaw25_awake.f).bind fun t123 => (some t123)) else (some false)))) = some r := h
 clear h
 replace H := Option.bind_eq_some_iff.mp H
 obtain ⟨t121, A30, H⟩ := H
 replace H : ((stowageref25_Match.f k a0 a1).bind fun t122 => (if (t121 == t122) = true then ((stowagelaw25_awake.f).bind fun t123 => (some t123)) else (some false))) = some r := H
 have A3 := Aside0.mk A30
 clear A30
 replace H := Option.bind_eq_some_iff.mp H
 obtain ⟨t122, A40, H⟩ := H
 replace H : (if (t121 == t122) = true then ((stowagelaw25_awake.f).bind fun t123 => (some t123)) else (some false)) = some r := H
 have A4 := Aside0.mk A40
 clear A40
 by_cases c5 : (t121 == t122) = true
 ·rw [if_pos c5] at H
  have c5b0 : (t121 == t122) = true := c5
  (try (have c5b1 : decide (t121 = t122) = true := by simpa using c5))
  (try (have c5b2 : (t121 == t122) = true := by simpa using c5))
  clear c5
  replace H := Option.bind_eq_some_iff.mp H
  obtain ⟨t123, A60, H⟩ := H
  replace H : (some t123) = some r := H
  have A6 := Aside0.mk A60
  clear A60
  clear hr
  obtain rfl := Option.some.inj H
  go_enter Try.func3, Try.ntmps3
  go_wp2_with (first | ((with_reducible refine gate_callee (f := 7) rfl ?_); refine goesL_ (some 7) rfl rfl Try.func7 (by kernel_rfl) rfl #[.string a0, .string a1] rfl (by (try simp only [List.map_toArray, List.map_cons, List.map_nil]); first | done | rfl | (simp only [List.length_drop, List.length_take]; rfl)) ?_; (with_reducible refine (cors_Match.calls a0 a1 t121 _ A3.out).mono ?_); rintro e w' ⟨rfl, ⟨nd, rfl⟩⟩; refine ⟨_, rfl, ?_⟩) | ((with_reducible refine gate_callee (f := 8) rfl ?_); refine goesL_ (some 10) rfl rfl Try.func8 (by kernel_rfl) rfl #[.string a0, .string a1] rfl (by (try simp only [List.map_toArray, List.map_cons, List.map_nil]); first | done | rfl | (simp only [List.length_drop, List.length_take]; rfl)) ?_; (with_reducible refine (stowageref25_Match.calls k a0 a1 t122 _ A4.out).mono ?_); rintro e w' ⟨rfl, ⟨nd, rfl⟩⟩; refine ⟨_, rfl, ?_⟩) | (go_at_call 9; (with_reducible refine (stowagelaw25_awake.calls  t123 _ A6.out).mono ?_); rintro e w' ⟨rfl, ⟨nd, rfl⟩⟩))
  go_ret
  exact ⟨by first | rfl | (simp; done) | (simp [*]; done), by repeat (first | exact Drawn0.refl _ | apply Drawn0.step)⟩
 ·rw [if_neg c5] at H
  have c5b0 : (t121 == t122) = false := by simpa using c5
  (try (have c5b1 : decide (t121 = t122) = false := by simpa using c5))
  (try (have c5b2 : (t121 == t122) = false := by simpa using c5))
  (try (have c5b3 : ¬ (t121 = t122) := by simpa using c5))
  clear c5
  rw [hr] at H
  exact absurd H (by simp)
def stowagelaw25_CorsMatches.Pure : Prop := ∀ (a0 : ByteArray) (a1 : ByteArray), a0.size ≤ 140737488351232 → a1.size ≤ 140737488351232 → ∃ k, stowagelaw25_CorsMatches.f k a0 a1 = some true
theorem stowagelaw25_CorsMatches.walk (P : stowagelaw25_CorsMatches.Pure) (a0 : ByteArray) (a1 : ByteArray) (w : World) (w0 : a0.size ≤ 140737488351232) (w1 : a1.size ≤ 140737488351232) :
  Calls Try.prog 3 #[.string a0, .string a1] w fun e w' => e = .returned (.bool true) ∧ Below w.heap.size w w' := by
 obtain ⟨k, h⟩ := P a0 a1 w0 w1
 refine (stowagelaw25_CorsMatches.calls k a0 a1 true w h rfl).mono ?_
 rintro e w' ⟨rfl, hd⟩
 exact ⟨rfl, hd.below⟩
end Go.Proofs.Ytiaihkcadffllaa.Q
