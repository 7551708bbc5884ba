/- A part of the proof of the seat's laws. No condition beyond those in the theorems. -/
import Derived.Test.YtiaihkcadffllaaZQ0g11
import Derived.Lib.Hide

namespace Go.Proofs.Ytiaihkcadffllaa.Q
open Go.RowKit Go.Proofs.YtiaihkcadffllaaW.PrintWords Go.Proofs.YtiaihkcadffllaaW.PrintLast Go.Proofs.YtiaihkcadffllaaW.PrintMore
set_option linter.unusedVariables false
set_option linter.unusedSimpArgs false
attribute [local go_sem] max2_int min2_int max_two min_two max_three min_three max_four min_four   
def stowageref25_Match.f (k : Nat) (a0 : ByteArray) (a1 : ByteArray) : Option (Bool) := (stowageref3_Cut.f k a0 42).bind fun bt115 => (if bt115.2.2 = true then (if (a1.size : Int) ≥ (wrap64 ((bt115.1.size : Int) + (bt115.2.1.size : Int))) then (if 0 ≤ (bt115.1.size : Int) then (if (bt115.1.size : Int) ≤ (a1.size : Int) then (if (a1.extract 0 bt115.1.size).toList = bt115.1.toList then (if 0 ≤ (wrap64 ((a1.size : Int) - (bt115.2.1.size : Int))) then (if (wrap64 ((a1.size : Int) - (bt115.2.1.size : Int))) ≤ (a1.size : Int) then (some ((a1.extract ((wrap64 ((a1.size : Int) - (bt115.2.1.size : Int))) : Int).toNat a1.size).toList == bt115.2.1.toList)) else (none)) else (none)) else (some false)) else (none)) else (none)) else (some false)) else (some (a0.toList == a1.toList)))
theorem stowageref25_Match.mono : ∀ a0 a1 k, LeO (stowageref25_Match.f k a0 a1) (stowageref25_Match.f (k + 1) a0 a1) := by
 intro a0 a1 k
 unfold stowageref25_Match.f
 repeat' first
   | (with_reducible exact stowageref3_Cut.mono _ _ _)
   | (with_reducible exact LeO.refl _)
   | (with_reducible exact LeO.none _)
   | (with_reducible refine LeO.ite ?_ ?_)
   | (with_reducible refine LeO.bind ?_ (fun _ => ?_))
   | exact stowageref3_Cut.mono _ _ _
   | exact LeO.none _
   | refine LeO.ite ?_ ?_
   | refine LeO.bind ?_ (fun _ => ?_)
set_option maxHeartbeats 8000000 in
set_option maxRecDepth 100000 in
theorem stowageref25_Match.calls (k : Nat) (a0 : ByteArray) (a1 : ByteArray) (r : Bool) (w : World) (h : stowageref25_Match.f k a0 a1 = some r) :
  Calls Try.prog 8 #[.string a0, .string a1] w fun e w' => e = .returned (.bool r) ∧ Drawn0 w w' := by
 unfold stowageref25_Match.f at h
 have H := h
 clear h
 replace H := bndO H
 obtain ⟨⟨t115, t116, t117⟩, A30, H⟩ := H
 dsimp only at H
 have A3 := Aside0.mk A30
 clear A30
 by_cases c4 : t117 = true
 ·subst c4
  replace H := itT H
  replace H := itO H
  rcases H with ⟨c5, H⟩ | ⟨c5, H⟩
  ·skip
   have c5b0 : decide ((wrap64 ((t115.size : Int) + (t116.size : Int))) ≤ (a1.size : Int)) = true := decide_eq_true c5
   clear c5
   replace H := itO H
   rcases H with ⟨c6, H⟩ | ⟨c6, H⟩
   ·skip
    have c6b0 := eq_true c6
    have c6b1 := decide_eq_true c6
    clear c6
    replace H := itO H
    rcases H with ⟨c7, H⟩ | ⟨c7, H⟩
    ·skip
     have c7b0 := eq_true c7
     have c7b1 := decide_eq_true c7
     clear c7
     replace H := itO H
     rcases H with ⟨c8, H⟩ | ⟨c8, H⟩
     ·skip
      have c8b0 : ((a1.extract 0 t115.size).toList == t115.toList) = true := beq_iff_eq.mpr c8
      have c8b1 : ((a1.extract 0 t115.size).toList != t115.toList) = false := bne_eq_false_iff_eq.mpr c8
      clear c8
      obtain ⟨ji9, hji9⟩ : ∃ j_ : Int, (wrap64 ((a1.size : Int) - (t116.size : Int))) = j_ := ⟨_, rfl⟩
      first | rw [hji9] at H | simp only [hji9] at H
      (try rw [hji9] at A3)
      have hji9w : (IntKind.i64.wrap ((a1.size : Int) - (t116.size : Int))) = ji9 := (i64_w _).trans hji9
      replace H := itO H
      rcases H with ⟨c10, H⟩ | ⟨c10, H⟩
      ·skip
       have c10b0 := eq_true c10
       have c10b1 := decide_eq_true c10
       clear c10
       replace H := itO H
       rcases H with ⟨c11, H⟩ | ⟨c11, H⟩
       ·skip
        have c11b0 := eq_true c11
        have c11b1 := decide_eq_true c11
        clear c11
        obtain rfl := Option.some.inj H
        go_enter Try.func8, Try.ntmps8
        go_wp2_with (first | ((with_reducible refine gate_callee (f := 14) rfl ?_); refine goesL_ (some 10) rfl rfl Try.func14 (by kernel_rfl) rfl #[.string a0, .int .u8 42] rfl (by (try simp only [List.map_toArray, List.map_cons, List.map_nil]); first | done | rfl | (simp only [List.length_drop, List.length_take]; rfl)) ?_; (with_reducible refine (stowageref3_Cut.calls k a0 42 t115 t116 true _ A3.out).mono ?_); rintro e w' ⟨rfl, ⟨nd, rfl⟩⟩; refine ⟨_, rfl, ?_⟩))
        go_ret
        exact ⟨by first | rfl | (simp; done) | (simp only [← hji9] <;> (first | rfl | simp)) | (simp [*]; done), by repeat (first | exact Drawn0.refl _ | apply Drawn0.step)⟩
       ·exact absurd H (by simp)
      ·exact absurd H (by simp)
     ·skip
      have c8b0 : ((a1.extract 0 t115.size).toList == t115.toList) = false := beq_eq_false_iff_ne.mpr c8
      have c8b1 : ((a1.extract 0 t115.size).toList != t115.toList) = true := bne_iff_ne.mpr c8
      obtain rfl := Option.some.inj H
      go_enter Try.func8, Try.ntmps8
      go_wp2_with (first | ((with_reducible refine gate_callee (f := 14) rfl ?_); refine goesL_ (some 10) rfl rfl Try.func14 (by kernel_rfl) rfl #[.string a0, .int .u8 42] rfl (by (try simp only [List.map_toArray, List.map_cons, List.map_nil]); first | done | rfl | (simp only [List.length_drop, List.length_take]; rfl)) ?_; (with_reducible refine (stowageref3_Cut.calls k a0 42 t115 t116 true _ A3.out).mono ?_); rintro e w' ⟨rfl, ⟨nd, rfl⟩⟩; refine ⟨_, rfl, ?_⟩))
      go_ret
      exact ⟨by first | rfl | (simp; done) | (simp [*]; done), by repeat (first | exact Drawn0.refl _ | apply Drawn0.step)⟩
    ·exact absurd H (by simp)
   ·exact absurd H (by simp)
  ·skip
   have c5b0 : decide ((wrap64 ((t115.size : Int) + (t116.size : Int))) ≤ (a1.size : Int)) = false := decide_eq_false c5
   clear c5
   obtain rfl := Option.some.inj H
   go_enter Try.func8, Try.ntmps8
   go_wp2_with (first | ((with_reducible refine gate_callee (f := 14) rfl ?_); refine goesL_ (some 10) rfl rfl Try.func14 (by kernel_rfl) rfl #[.string a0, .int .u8 42] rfl (by (try simp only [List.map_toArray, List.map_cons, List.map_nil]); first | done | rfl | (simp only [List.length_drop, List.length_take]; rfl)) ?_; (with_reducible refine (stowageref3_Cut.calls k a0 42 t115 t116 true _ A3.out).mono ?_); rintro e w' ⟨rfl, ⟨nd, rfl⟩⟩; refine ⟨_, rfl, ?_⟩))
   go_ret
   exact ⟨by first | rfl | (simp; done) | (simp [*]; done), by repeat (first | exact Drawn0.refl _ | apply Drawn0.step)⟩
 ·replace c4 := Bool.eq_false_iff.mpr c4
  subst c4
  replace H := itF H
  obtain rfl := Option.some.inj H
  go_enter Try.func8, Try.ntmps8
  go_wp2_with (first | ((with_reducible refine gate_callee (f := 14) rfl ?_); refine goesL_ (some 10) rfl rfl Try.func14 (by kernel_rfl) rfl #[.string a0, .int .u8 42] rfl (by (try simp only [List.map_toArray, List.map_cons, List.map_nil]); first | done | rfl | (simp only [List.length_drop, List.length_take]; rfl)) ?_; (with_reducible refine (stowageref3_Cut.calls k a0 42 t115 t116 false _ A3.out).mono ?_); rintro e w' ⟨rfl, ⟨nd, rfl⟩⟩; refine ⟨_, rfl, ?_⟩))
  go_ret
  exact ⟨by first | rfl | (simp; done) | (simp [*]; done), by repeat (first | exact Drawn0.refl _ | apply Drawn0.step)⟩
end Go.Proofs.Ytiaihkcadffllaa.Q


namespace Go.Proofs.Ytiaihkcadffllaa.Q
open Go.RowKit Go.Proofs.YtiaihkcadffllaaW.PrintWords Go.Proofs.YtiaihkcadffllaaW.PrintLast Go.Proofs.YtiaihkcadffllaaW.PrintMore
set_option linter.unusedVariables false
set_option linter.unusedSimpArgs false
attribute [local go_sem] max2_int min2_int max_two min_two max_three min_three max_four min_four   
def stowagelaw25_awake.f  : Option (Bool) := (cors_Match.f (⟨#[104, 116, 116, 112, 58, 47, 47, 42, 46, 97]⟩ : ByteArray) (⟨#[104, 116, 116, 112, 58, 47, 47, 120, 46, 97]⟩ : ByteArray)).bind fun t118 => (if t118 = true then ((cors_Match.f (⟨#[97, 98, 42, 98, 97]⟩ : ByteArray) (⟨#[97, 98, 97]⟩ : ByteArray)).bind fun t119 => (if t119 = true then (some false) else ((cors_Match.f (⟨#[97, 42]⟩ : ByteArray) (⟨#[97]⟩ : ByteArray)).bind fun t120 => (some t120)))) else (some false))
set_option maxHeartbeats 8000000 in
set_option maxRecDepth 100000 in
theorem stowagelaw25_awake.calls  (r : Bool) (w : World) (h : stowagelaw25_awake.f  = some r) :
  Calls Try.prog 9 #[] w fun e w' => e = .returned (.bool r) ∧ Drawn0 w w' := by
 unfold stowagelaw25_awake.f at h
 have H := h
 clear h
 replace H := bndO H
 obtain ⟨t118, A10, H⟩ := H
 have A1 := Aside0.mk A10
 clear A10
 by_cases c2 : t118 = true
 ·subst c2
  replace H := itT H
  replace H := bndO H
  obtain ⟨t119, A30, H⟩ := H
  have A3 := Aside0.mk A30
  clear A30
  by_cases c4 : t119 = true
  ·subst c4
   replace H := itT H
   obtain rfl := Option.some.inj H
   go_enter Try.func9, Try.ntmps9
   go_wp2_with (first | ((with_reducible refine gate_callee (f := 7) rfl ?_); refine goesL_ (some 1) rfl rfl Try.func7 (by kernel_rfl) rfl #[.string (⟨#[104, 116, 116, 112, 58, 47, 47, 42, 46, 97]⟩ : ByteArray), .string (⟨#[104, 116, 116, 112, 58, 47, 47, 120, 46, 97]⟩ : ByteArray)] rfl (by (try simp only [List.map_toArray, List.map_cons, List.map_nil]); first | done | rfl | (simp only [List.length_drop, List.length_take]; rfl)) ?_; (with_reducible refine (cors_Match.calls (⟨#[104, 116, 116, 112, 58, 47, 47, 42, 46, 97]⟩ : ByteArray) (⟨#[104, 116, 116, 112, 58, 47, 47, 120, 46, 97]⟩ : ByteArray) true _ A1.out).mono ?_); rintro e w' ⟨rfl, ⟨nd, rfl⟩⟩; refine ⟨_, rfl, ?_⟩) | (go_at_call 7; (with_reducible refine (cors_Match.calls (⟨#[97, 98, 42, 98, 97]⟩ : ByteArray) (⟨#[97, 98, 97]⟩ : ByteArray) true _ A3.out).mono ?_); rintro e w' ⟨rfl, ⟨nd, rfl⟩⟩))
   go_ret
   exact ⟨by first | rfl | (simp; done) | (simp [*]; done), by repeat (first | exact Drawn0.refl _ | apply Drawn0.step)⟩
  ·replace c4 := Bool.eq_false_iff.mpr c4
   subst c4
   replace H := itF H
   replace H := bndO H
   obtain ⟨t120, A50, H⟩ := H
   have A5 := Aside0.mk A50
   clear A50
   obtain rfl := Option.some.inj H
   go_enter Try.func9, Try.ntmps9
   go_wp2_with (first | ((with_reducible refine gate_callee (f := 7) rfl ?_); refine goesL_ (some 1) rfl rfl Try.func7 (by kernel_rfl) rfl #[.string (⟨#[104, 116, 116, 112, 58, 47, 47, 42, 46, 97]⟩ : ByteArray), .string (⟨#[104, 116, 116, 112, 58, 47, 47, 120, 46, 97]⟩ : ByteArray)] rfl (by (try simp only [List.map_toArray, List.map_cons, List.map_nil]); first | done | rfl | (simp only [List.length_drop, List.length_take]; rfl)) ?_; (with_reducible refine (cors_Match.calls (⟨#[104, 116, 116, 112, 58, 47, 47, 42, 46, 97]⟩ : ByteArray) (⟨#[104, 116, 116, 112, 58, 47, 47, 120, 46, 97]⟩ : ByteArray) true _ A1.out).mono ?_); rintro e w' ⟨rfl, ⟨nd, rfl⟩⟩; refine ⟨_, rfl, ?_⟩) | (go_at_call 7; (with_reducible refine (cors_Match.calls (⟨#[97, 98, 42, 98, 97]⟩ : ByteArray) (⟨#[97, 98, 97]⟩ : ByteArray) false _ A3.out).mono ?_); rintro e w' ⟨rfl, ⟨nd, rfl⟩⟩) | (go_at_call 7; (with_reducible refine (cors_Match.calls (⟨#[97, 42]⟩ : ByteArray) (⟨#[97]⟩ : ByteArray) t120 _ A5.out).mono ?_); rintro e w' ⟨rfl, ⟨nd, rfl⟩⟩))
   go_ret
   exact ⟨by first | rfl | (simp; done) | (simp [*]; done), by repeat (first | exact Drawn0.refl _ | apply Drawn0.step)⟩
 ·replace c2 := Bool.eq_false_iff.mpr c2
  subst c2
  replace H := itF H
  obtain rfl := Option.some.inj H
  go_enter Try.func9, Try.ntmps9
  go_wp2_with (first | ((with_reducible refine gate_callee (f := 7) rfl ?_); refine goesL_ (some 1) rfl rfl Try.func7 (by kernel_rfl) rfl #[.string (⟨#[104, 116, 116, 112, 58, 47, 47, 42, 46, 97]⟩ : ByteArray), .string (⟨#[104, 116, 116, 112, 58, 47, 47, 120, 46, 97]⟩ : ByteArray)] rfl (by (try simp only [List.map_toArray, List.map_cons, List.map_nil]); first | done | rfl | (simp only [List.length_drop, List.length_take]; rfl)) ?_; (with_reducible refine (cors_Match.calls (⟨#[104, 116, 116, 112, 58, 47, 47, 42, 46, 97]⟩ : ByteArray) (⟨#[104, 116, 116, 112, 58, 47, 47, 120, 46, 97]⟩ : ByteArray) false _ A1.out).mono ?_); rintro e w' ⟨rfl, ⟨nd, rfl⟩⟩; refine ⟨_, rfl, ?_⟩))
  go_ret
  exact ⟨by first | rfl | (simp; done) | (simp [*]; done), by repeat (first | exact Drawn0.refl _ | apply Drawn0.step)⟩
end Go.Proofs.Ytiaihkcadffllaa.Q


namespace Go.Proofs.Ytiaihkcadffllaa.Q
open Go.RowKit Go.Proofs.YtiaihkcadffllaaW.PrintWords Go.Proofs.YtiaihkcadffllaaW.PrintLast Go.Proofs.YtiaihkcadffllaaW.PrintMore
set_option linter.unusedVariables false
set_option linter.unusedSimpArgs false
attribute [local go_sem] max2_int min2_int max_two min_two max_three min_three max_four min_four   
def stowagelaw25_CorsMatches.f (k : Nat) (a0 : ByteArray) (a1 : ByteArray) : Option (Bool) := (cors_Match.f a0 a1).bind fun t121 => ((stowageref25_Match.f k a0 a1).bind fun t122 => (if (t121 == t122) = true then ((stowagelaw25_awake.f).bind fun t123 => (some t123)) else (some false)))
theorem stowagelaw25_CorsMatches.mono : ∀ a0 a1 k, LeO (stowagelaw25_CorsMatches.f k a0 a1) (stowagelaw25_CorsMatches.f (k + 1) a0 a1) := by
 intro a0 a1 k
 unfold stowagelaw25_CorsMatches.f
 repeat' first
   | (with_reducible exact stowageref25_Match.mono _ _ _)
   | (with_reducible exact LeO.refl _)
   | (with_reducible exact LeO.none _)
   | (with_reducible refine LeO.ite ?_ ?_)
   | (with_reducible refine LeO.bind ?_ (fun _ => ?_))
   | exact stowageref25_Match.mono _ _ _
   | exact LeO.none _
   | refine LeO.ite ?_ ?_
   | refine LeO.bind ?_ (fun _ => ?_)
set_option maxHeartbeats 8000000 in
set_option maxRecDepth 100000 in
theorem stowagelaw25_CorsMatches.calls (k : Nat) (a0 : ByteArray) (a1 : ByteArray) (r : Bool) (w : World) (h : stowagelaw25_CorsMatches.f k a0 a1 = some r) (hr : r = true) :
  Calls Try.prog 3 #[.string a0, .string a1] w fun e w' => e = .returned (.bool r) ∧ Drawn0 w w' := by
 unfold stowagelaw25_CorsMatches.f at h
 have H := h
 clear h
 replace H := bndO H
 obtain ⟨t121, A30, H⟩ := H
 have A3 := Aside0.mk A30
 clear A30
 replace H := bndO H
 obtain ⟨t122, A40, H⟩ := H
 have A4 := Aside0.mk A40
 clear A40
 replace H := itO H
 rcases H with ⟨c5, H⟩ | ⟨c5, H⟩
 ·skip
  have c5b0 : (t121 == t122) = true := c5
  (try (have c5b1 : decide (t121 = t122) = true := by simpa using c5))
  (try (have c5b2 : (t121 == t122) = true := by simpa using c5))
  clear c5
  replace H := bndO H
  obtain ⟨t123, A60, H⟩ := H
  have A6 := Aside0.mk A60
  clear A60
  clear hr
  obtain rfl := Option.some.inj H
  go_enter Try.func3, Try.ntmps3
  go_wp2_with (first | ((with_reducible refine gate_callee (f := 7) rfl ?_); refine goesL_ (some 7) rfl rfl Try.func7 (by kernel_rfl) rfl #[.string a0, .string a1] rfl (by (try simp only [List.map_toArray, List.map_cons, List.map_nil]); first | done | rfl | (simp only [List.length_drop, List.length_take]; rfl)) ?_; (with_reducible refine (cors_Match.calls a0 a1 t121 _ A3.out).mono ?_); rintro e w' ⟨rfl, ⟨nd, rfl⟩⟩; refine ⟨_, rfl, ?_⟩) | ((with_reducible refine gate_callee (f := 8) rfl ?_); refine goesL_ (some 10) rfl rfl Try.func8 (by kernel_rfl) rfl #[.string a0, .string a1] rfl (by (try simp only [List.map_toArray, List.map_cons, List.map_nil]); first | done | rfl | (simp only [List.length_drop, List.length_take]; rfl)) ?_; (with_reducible refine (stowageref25_Match.calls k a0 a1 t122 _ A4.out).mono ?_); rintro e w' ⟨rfl, ⟨nd, rfl⟩⟩; refine ⟨_, rfl, ?_⟩) | (go_at_call 9; (with_reducible refine (stowagelaw25_awake.calls  t123 _ A6.out).mono ?_); rintro e w' ⟨rfl, ⟨nd, rfl⟩⟩))
  go_ret
  exact ⟨by first | rfl | (simp; done) | (simp [*]; done), by repeat (first | exact Drawn0.refl _ | apply Drawn0.step)⟩
 ·skip
  have c5b0 : (t121 == t122) = false := by simpa using c5
  (try (have c5b1 : decide (t121 = t122) = false := by simpa using c5))
  (try (have c5b2 : (t121 == t122) = false := by simpa using c5))
  (try (have c5b3 : ¬ (t121 = t122) := by simpa using c5))
  clear c5
  rw [hr] at H
  exact absurd H (by simp)
def stowagelaw25_CorsMatches.Pure : Prop := ∀ (a0 : ByteArray) (a1 : ByteArray), a0.size ≤ 140737488351232 → a1.size ≤ 140737488351232 → ∃ k, stowagelaw25_CorsMatches.f k a0 a1 = some true
theorem stowagelaw25_CorsMatches.walk (P : stowagelaw25_CorsMatches.Pure) (a0 : ByteArray) (a1 : ByteArray) (w : World) (w0 : a0.size ≤ 140737488351232) (w1 : a1.size ≤ 140737488351232) :
  Calls Try.prog 3 #[.string a0, .string a1] w fun e w' => e = .returned (.bool true) ∧ Below w.heap.size w w' := by
 obtain ⟨k, h⟩ := P a0 a1 w0 w1
 refine (stowagelaw25_CorsMatches.calls k a0 a1 true w h rfl).mono ?_
 rintro e w' ⟨rfl, hd⟩
 exact ⟨rfl, hd.below⟩
end Go.Proofs.Ytiaihkcadffllaa.Q


namespace Go.Proofs.Ytiaihkcadffllaa.Q
open Go.RowKit Go.Proofs.YtiaihkcadffllaaW.PrintWords Go.Proofs.YtiaihkcadffllaaW.PrintLast Go.Proofs.YtiaihkcadffllaaW.PrintMore
set_option linter.unusedVariables false
set_option linter.unusedSimpArgs false
attribute [local go_sem] max2_int min2_int max_two min_two max_three min_three max_four min_four   
def cors_first.ix (s : ByteArray) : List ByteArray → Nat → Option Int
 | [], _ => some (-1)
 | p :: l, i => (cors_Match.f p s).bind fun b => if b = true then some (i : Int) else cors_first.ix s l (i + 1)
def cors_first.f (l0 : List ByteArray) (a1 : ByteArray) : Option (ByteArray × Bool) := (cors_first.ix a1 l0 0).bind fun i => if i < 0 then some (⟨#[]⟩, false) else some (rdOf ByteArray.empty l0 i, true)
theorem cors_first.ix_lt (s : ByteArray) (l : List ByteArray) : ∀ (n : Nat) (i : Int), cors_first.ix s l n = some i → 0 ≤ i → i < ((n + l.length : Nat) : Int) := by
 induction l with
 | nil => intro n i h h0; simp only [cors_first.ix, Option.some.injEq] at h; omega
 | cons p l ih =>
  intro n i h h0
  rw [cors_first.ix] at h
  obtain ⟨b, _, h⟩ := bndO h
  cases b with
  | true => simp only [if_true, Option.some.injEq] at h; rw [List.length_cons]; omega
  | false =>
   have := ih (n + 1) i (by simpa using h) h0
   rw [List.length_cons]
   omega
set_option maxHeartbeats 4000000 in
set_option maxRecDepth 100000 in
theorem cors_first.each (p s : ByteArray) (g : Nat) (b : Bool) (w : World) (hm : cors_Match.f p s = some b) (hc : w.cell? ⟨g, 0, none⟩ = some (.string s)) :
  Calls Try.prog 36 #[.string p, .pointer (some ⟨g, 0, none⟩)] w fun e w' => e = .returned (.bool b) ∧ Drawn0 w w' := by
 have hm' := Lib.hid hm
 clear hm
 go_enter Try.func36, Try.ntmps36
 go_wp2_with (first | (go_at_call 7; (with_reducible refine (cors_Match.calls p s b _ hm'.out).mono ?_); rintro e w9 ⟨rfl, ⟨nd, rfl⟩⟩))
 go_ret
 exact ⟨rfl, by first | exact ⟨_, rfl⟩ | exact Drawn0.refl _⟩
set_option maxHeartbeats 4000000 in
set_option maxRecDepth 100000 in
theorem cors_first.index (l : List ByteArray) (s : ByteArray) (A0 : Option Addr) (c0 g : Nat) (r : Int) (w : World) (hr0 : Kd.C Kd.string w A0 l.length l) (_hc0 : l.length ≤ c0) (hc : w.cell? ⟨g, 0, none⟩ = some (.string s)) (h : cors_first.ix s l 0 = some r) :
  Calls Try.prog 35 #[.slice A0 l.length c0, .func (Fn.func 36) #[] #[.pointer (some ⟨g, 0, none⟩)]] w fun e w' => e = .returned (.int .i64 r) ∧ Drawn0 w w' := by
 have hl : l.length ≤ 9223372036854775807 := hr0.2.1
 have hh := Lib.hid (And.intro hr0 (And.intro hc h))
 clear hr0 hc h
 go_enter Try.func35, Try.ntmps35
 go_wp2
 go_loopw [8] (fun i8 wr => ∃ (k m : Nat), k ≤ l.length ∧ i8 = .int .i64 k ∧ Hid (wr = w.drewN m ∧ cors_first.ix s (l.drop k) k = some r)) (fun i8 _ => l.length - (intOf i8).toNat)
 case atStart => exact ⟨0, 0, Nat.zero_le _, rfl, Lib.hid ⟨rfl, by rw [List.drop_zero]; exact hh.out.2.2⟩⟩
 case round =>
  obtain ⟨k, m, hk, rfl, hI⟩ := hrel
  obtain ⟨rfl, hix⟩ := hI.out
  clear hI
  by_cases hlt : k < l.length
  ·rw [List.drop_eq_getElem_cons hlt, cors_first.ix] at hix
   obtain ⟨b, hb, hix⟩ := bndO hix
   obtain ⟨ad, e0, hcell⟩ := Kd.at_string hh.out.1 (k : Int) (by omega) (by omega)
   have hp : rdOf ByteArray.empty l (k : Int) = l[k] := by simp [rdOf, List.getD_eq_getElem?_getD, List.getElem?_eq_getElem hlt]
   rw [hp, Int.toNat_natCast] at hcell
   subst e0
   have hb' := Lib.hid hb
   have hix' := Lib.hid hix
   clear hb hix
   have c0b : decide ((k : Int) < (l.length : Int)) = true := decide_eq_true (by omega)
   cases b with
   | true =>
    go_wp2_with (first | (go_at_call 36; refine (cors_first.each l[k] s g true (w.drewN m) hb'.out (show (w.drewN m).cell? _ = _ from hh.out.2.1)).mono ?_; rintro e w9 ⟨rfl, ⟨nd, rfl⟩⟩))
    go_ret
    have hr := hix'.out
    simp only [if_true, Option.some.injEq] at hr
    subst hr
    exact ⟨rfl, _, rfl⟩
   | false =>
    go_wp2_with (first | (go_at_call 36; refine (cors_first.each l[k] s g false (w.drewN m) hb'.out (show (w.drewN m).cell? _ = _ from hh.out.2.1)).mono ?_; rintro e w9 ⟨rfl, ⟨nd, rfl⟩⟩))
    go_roundw
    case rel => exact ⟨k + 1, _, by omega, by go_num, Lib.hid ⟨rfl, by have hr := hix'.out; simpa using hr⟩⟩
    case measure => simp [intOf]; omega
  ·have e : k = l.length := by omega
   subst e
   have c0b : decide ((l.length : Int) < (l.length : Int)) = false := decide_eq_false (by omega)
   rw [List.drop_length, cors_first.ix] at hix
   obtain rfl := Option.some.inj hix
   go_wp2
   go_ret
   exact ⟨rfl, _, rfl⟩
set_option maxHeartbeats 4000000 in
set_option maxRecDepth 100000 in
theorem cors_first.calls (A0 : Option Addr) (c0 : Nat) (l0 : List ByteArray) (a1 : ByteArray) (r1 : ByteArray) (r2 : Bool) (w : World) (hr0 : Kd.C Kd.string w A0 l0.length l0) (hc0 : l0.length ≤ c0) (h : cors_first.f l0 a1 = some (r1, r2)) :
  Calls Try.prog 23 #[.slice A0 l0.length c0, .string a1] w fun e w' => e = .returned (.tuple #[.string r1, .bool r2]) ∧ Below w.heap.size w w' := by
 unfold cors_first.f at h
 obtain ⟨i, hi, h⟩ := bndO h
 have hmf : ∀ (fn : Fn) (first cap : Array Value) (w : World), (Instr.makeFunc fn first cap).run Try.prog w = .ok (.func fn first cap) w := fun _ _ _ _ => rfl
 have hh := Lib.hid (And.intro hr0 (And.intro hi h))
 clear hr0 hi h
 go_enter Try.func23, Try.ntmps23
 by_cases c : i < 0
 ·have c1 := decide_eq_true c
  go_wp2_with (first | ((with_reducible refine gate_dst (N := 3) rfl ?_); refine box_event ?hg (N := 3) ?hd (cs := #[.string a1]) (t := 9) ?hr ?_; (case hd => rfl); (case hg => rfl); (case hr => first | (go_simp; done) | (go_simp; rfl)); intro g hg w4 hbox hb; have F := Lib.hid (And.intro hbox hb); clear hbox hb hg) | (go_at_call 35; (refine (cors_first.index l0 a1 A0 c0 g i _ (Kd.C_below hh.out.1 F.out.2) hc0 ((blk_cell F.out.1 0).trans rfl) hh.out.2.1).mono ?_; rintro e w9 ⟨rfl, ⟨nd, rfl⟩⟩)))
  have hr := hh.out.2.2
  rw [if_pos c] at hr
  obtain ⟨rfl, rfl⟩ := Prod.mk.inj (Option.some.inj hr)
  go_ret2
  exact ⟨rfl, pw_below_drewN F.out.2 _⟩
 ·have c1 := decide_eq_false c
  have hlt := cors_first.ix_lt a1 l0 0 i hh.out.2.1 (by omega)
  obtain ⟨ad, e0, hcell⟩ := Kd.at_string hh.out.1 i (by omega) (by omega)
  subst e0
  have p0 := eq_true (show 0 ≤ i by omega)
  have q0 := eq_true (show i < (l0.length : Int) by omega)
  clear hlt c
  go_wp2_with (first | ((with_reducible refine gate_dst (N := 3) rfl ?_); refine box_event ?hg (N := 3) ?hd (cs := #[.string a1]) (t := 9) ?hr ?_; (case hd => rfl); (case hg => rfl); (case hr => first | (go_simp; done) | (go_simp; rfl)); intro g hg w4 hbox hb; have F := Lib.hid (And.intro hbox hb); have hcell2 := (hb.cell (World.block_lt_of_cell? w _ hcell)).trans hcell; clear hbox hb hg) | (go_at_call 35; (refine (cors_first.index l0 a1 (some ad) c0 g i _ (Kd.C_below hh.out.1 F.out.2) hc0 ((blk_cell F.out.1 0).trans rfl) hh.out.2.1).mono ?_; rintro e w9 ⟨rfl, ⟨nd, rfl⟩⟩)))
  have hr := hh.out.2.2
  rw [if_neg (by rintro h; rw [decide_eq_false_iff_not] at c1; exact c1 h)] at hr
  obtain ⟨rfl, rfl⟩ := Prod.mk.inj (Option.some.inj hr)
  go_ret2
  exact ⟨rfl, pw_below_drewN F.out.2 _⟩
end Go.Proofs.Ytiaihkcadffllaa.Q


namespace Go.Proofs.Ytiaihkcadffllaa.Q
open Go.RowKit Go.Proofs.YtiaihkcadffllaaW.PrintWords Go.Proofs.YtiaihkcadffllaaW.PrintLast Go.Proofs.YtiaihkcadffllaaW.PrintMore
set_option linter.unusedVariables false
set_option linter.unusedSimpArgs false
attribute [local go_sem] max2_int min2_int max_two min_two max_three min_three max_four min_four   
def slices_Index_string_string.l0 : Nat → List ByteArray → ByteArray → Int → Int → Option (Int)
 | 0, _, _, _, _ => none
 | k + 1, x0, x1, x7, x8 => if x8 < x7 then (if 0 ≤ x8 then (if x8 < (x0.length : Int) then (if x1.toList = (rdOf ByteArray.empty x0 x8).toList then (some x8) else (slices_Index_string_string.l0 k x0 x1 x7 (wrap64 (x8 + 1)))) else (none)) else (none)) else (some (-1))
def slices_Index_string_string.f (k : Nat) (l0 : List ByteArray) (a1 : ByteArray) : Option (Int) := slices_Index_string_string.l0 k l0 a1 (l0.length : Int) 0
theorem slices_Index_string_string.mono_l : ∀ k, (∀ y0 y1 y2 y3, LeO (slices_Index_string_string.l0 k y0 y1 y2 y3) (slices_Index_string_string.l0 (k + 1) y0 y1 y2 y3))
 | 0 => fun _ _ _ _ r h => by simp [slices_Index_string_string.l0] at h
 | k + 1 => by
  have ih0 := slices_Index_string_string.mono_l k
  ·intro y0 y1 y2 y3
   unfold slices_Index_string_string.l0
   repeat' first
   | (with_reducible exact ih0 _ _ _ _)
   | (with_reducible exact LeO.refl _)
   | (with_reducible exact LeO.none _)
   | (with_reducible refine LeO.ite ?_ ?_)
   | (with_reducible refine LeO.bind ?_ (fun _ => ?_))
   | exact ih0 _ _ _ _
   | exact LeO.none _
   | refine LeO.ite ?_ ?_
   | refine LeO.bind ?_ (fun _ => ?_)
theorem slices_Index_string_string.mono : ∀ a0 a1 k, LeO (slices_Index_string_string.f k a0 a1) (slices_Index_string_string.f (k + 1) a0 a1) := by
 intro a0 a1 k
 have ih0 := slices_Index_string_string.mono_l k
 unfold slices_Index_string_string.f
 repeat' first
   | (with_reducible exact ih0 _ _ _ _)
   | (with_reducible exact LeO.refl _)
   | (with_reducible exact LeO.none _)
   | (with_reducible refine LeO.ite ?_ ?_)
   | (with_reducible refine LeO.bind ?_ (fun _ => ?_))
   | exact ih0 _ _ _ _
   | exact LeO.none _
   | refine LeO.ite ?_ ?_
   | refine LeO.bind ?_ (fun _ => ?_)
set_option maxHeartbeats 8000000 in
set_option maxRecDepth 100000 in
theorem slices_Index_string_string.calls (k : Nat) (A0 : Option Addr) (c0 : Nat) (l0 : List ByteArray) (a1 : ByteArray) (r : Int) (w : World) (hr0 : Kd.C Kd.string w A0 l0.length l0) (hc0 : l0.length ≤ c0) (h : slices_Index_string_string.f k l0 a1 = some r) :
  Calls Try.prog 37 #[.slice A0 l0.length c0, .string a1] w fun e w' => e = .returned (.int .i64 r) ∧ Drawn0 w w' := by
 have HR0 := Aside0.mk hr0
 have HC0 := Aside0.mk hc0
 clear hr0 hc0
 unfold slices_Index_string_string.f at h
 have H := h
 clear h
 have H' := Aside0.mk H
 clear H
 go_enter Try.func37, Try.ntmps37
 go_wp2
 go_loopg [8] k (fun kq v8 w' => ∃ (x8_1 : Int), v8 = .int .i64 x8_1 ∧ Aside0 (slices_Index_string_string.l0 kq l0 a1 (l0.length : Int) x8_1 = some r) ∧ Aside0 (kq ≤ k) ∧ Drawn0 w w')
 case atStart => exact ⟨(0), (by first | rfl | (simp; done) | (simp [*]; done)), H', ⟨Nat.le_refl _⟩, by repeat (first | exact Drawn0.refl _ | apply Drawn0.step)⟩
 case round =>
  clear H'
  try clear p2
  obtain ⟨x8_1, rfl, HA, HK1, ⟨m1, rfl⟩⟩ := hrel
  cases gk with
  | zero => exact absurd HA.out (by simp [slices_Index_string_string.l0])
  | succ k1 =>
   have H := HA.out
   clear HA
   simp only [slices_Index_string_string.l0] at H
   replace H := itO H
   rcases H with ⟨c3, H⟩ | ⟨c3, H⟩
   ·skip
    have c3b0 : decide (x8_1 < (l0.length : Int)) = true := decide_eq_true c3
    clear c3
    replace H := itO H
    rcases H with ⟨c4, H⟩ | ⟨c4, H⟩
    ·skip
     have c4b0 : decide (0 ≤ x8_1) = true := decide_eq_true c4
     clear c4
     replace H := itO H
     rcases H with ⟨c5, H⟩ | ⟨c5, H⟩
     ·skip
      have c5b0 : decide (x8_1 < (l0.length : Int)) = true := decide_eq_true c5
      clear c5
      replace H := itO H
      rcases H with ⟨c6, H⟩ | ⟨c6, H⟩
      ·skip
       have c6b0 : (a1.toList == (rdOf ByteArray.empty l0 x8_1).toList) = true := beq_iff_eq.mpr c6
       have c6b1 : (a1.toList != (rdOf ByteArray.empty l0 x8_1).toList) = false := bne_eq_false_iff_eq.mpr c6
       clear c6
       obtain rfl := Option.some.inj H
       have p131 : 0 ≤ (x8_1 : Int) := of_decide_eq_true (by first | (with_reducible assumption) | assumption)
       have q131 : x8_1 < (l0.length : Int) := of_decide_eq_true (by first | (with_reducible assumption) | assumption)
       obtain ⟨ad131, e131, hx131_0⟩ := Kd.at_string HR0.out x8_1 p131 q131
       cases e131
       replace p131 := eq_true p131
       replace q131 := eq_true q131
       go_wp2
       go_ret
       exact ⟨by first | rfl | (simp; done) | (simp [*]; done), by repeat (first | exact Drawn0.refl _ | apply Drawn0.step)⟩
      ·skip
       have c6b0 : (a1.toList == (rdOf ByteArray.empty l0 x8_1).toList) = false := beq_eq_false_iff_ne.mpr c6
       have c6b1 : (a1.toList != (rdOf ByteArray.empty l0 x8_1).toList) = true := bne_iff_ne.mpr c6
       have H' := Aside0.mk H
       clear H
       have p131 : 0 ≤ (x8_1 : Int) := of_decide_eq_true (by first | (with_reducible assumption) | assumption)
       have q131 : x8_1 < (l0.length : Int) := of_decide_eq_true (by first | (with_reducible assumption) | assumption)
       obtain ⟨ad131, e131, hx131_0⟩ := Kd.at_string HR0.out x8_1 p131 q131
       cases e131
       replace p131 := eq_true p131
       replace q131 := eq_true q131
       go_wp2
       go_roundg k1
       case measure => have := HK1.out; omega
       case rel => exact ⟨(wrap64 (x8_1 + 1)), (by first | rfl | (simp; done) | (simp [*]; done)), H', ⟨by have := HK1.out; omega⟩, by repeat (first | exact Drawn0.refl _ | apply Drawn0.step)⟩
     ·exact absurd H (by simp)
    ·exact absurd H (by simp)
   ·skip
    have c3b0 : decide (x8_1 < (l0.length : Int)) = false := decide_eq_false c3
    clear c3
    obtain rfl := Option.some.inj H
    go_wp2
    go_ret
    exact ⟨by first | rfl | (simp; done) | (simp [*]; done), by repeat (first | exact Drawn0.refl _ | apply Drawn0.step)⟩
end Go.Proofs.Ytiaihkcadffllaa.Q


namespace Go.Proofs.Ytiaihkcadffllaa.Q
open Go.RowKit Go.Proofs.YtiaihkcadffllaaW.PrintWords Go.Proofs.YtiaihkcadffllaaW.PrintLast Go.Proofs.YtiaihkcadffllaaW.PrintMore
set_option linter.unusedVariables false
set_option linter.unusedSimpArgs false
attribute [local go_sem] max2_int min2_int max_two min_two max_three min_three max_four min_four   
def slices_Contains_string_string.f (k : Nat) (l0 : List ByteArray) (a1 : ByteArray) : Option (Bool) := (slices_Index_string_string.f k l0 a1).bind fun t132 => (some (decide (t132 ≥ 0)))
theorem slices_Contains_string_string.mono : ∀ a0 a1 k, LeO (slices_Contains_string_string.f k a0 a1) (slices_Contains_string_string.f (k + 1) a0 a1) := by
 intro a0 a1 k
 unfold slices_Contains_string_string.f
 repeat' first
   | (with_reducible exact slices_Index_string_string.mono _ _ _)
   | (with_reducible exact LeO.refl _)
   | (with_reducible exact LeO.none _)
   | (with_reducible refine LeO.ite ?_ ?_)
   | (with_reducible refine LeO.bind ?_ (fun _ => ?_))
   | exact slices_Index_string_string.mono _ _ _
   | exact LeO.none _
   | refine LeO.ite ?_ ?_
   | refine LeO.bind ?_ (fun _ => ?_)
set_option maxHeartbeats 8000000 in
set_option maxRecDepth 100000 in
theorem slices_Contains_string_string.calls (k : Nat) (A0 : Option Addr) (c0 : Nat) (l0 : List ByteArray) (a1 : ByteArray) (r : Bool) (w : World) (hr0 : Kd.C Kd.string w A0 l0.length l0) (hc0 : l0.length ≤ c0) (h : slices_Contains_string_string.f k l0 a1 = some r) :
  Calls Try.prog 24 #[.slice A0 l0.length c0, .string a1] w fun e w' => e = .returned (.bool r) ∧ Drawn0 w w' := by
 have HR0 := Aside0.mk hr0
 have HC0 := Aside0.mk hc0
 clear hr0 hc0
 unfold slices_Contains_string_string.f at h
 have H := h
 clear h
 replace H := bndO H
 obtain ⟨t132, A30, H⟩ := H
 have A3 := Aside0.mk A30
 clear A30
 obtain rfl := Option.some.inj H
 go_enter Try.func24, Try.ntmps24
 go_wp2_with (first | ((with_reducible refine gate_callee (f := 37) rfl ?_); refine goesL_ (some 7) rfl rfl Try.func37 (by kernel_rfl) rfl #[.slice A0 l0.length c0, .string a1] rfl (by (try simp only [List.map_toArray, List.map_cons, List.map_nil]); first | done | rfl | (simp only [List.length_drop, List.length_take]; rfl)) ?_; (with_reducible refine (slices_Index_string_string.calls k _ _ l0 a1 t132 _ ?side1 ?side2 A3.out).mono ?_); (case side1 => repeat (first | exact HR0.out | (with_reducible refine Kd.C_alloc ?_ _) | (with_reducible refine Kd.C_drewN ?_ _) | (with_reducible refine Kd.C_drew ?_))); (case side2 => exact HC0.out); rintro e w' ⟨rfl, ⟨nd, rfl⟩⟩; refine ⟨_, rfl, ?_⟩))
 go_ret
 exact ⟨by first | rfl | (simp; done) | (simp [*]; done), by repeat (first | exact Drawn0.refl _ | apply Drawn0.step)⟩
end Go.Proofs.Ytiaihkcadffllaa.Q
