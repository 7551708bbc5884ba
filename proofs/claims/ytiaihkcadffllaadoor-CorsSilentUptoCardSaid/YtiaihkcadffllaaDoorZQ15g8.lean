/- A part of the proof of the seat's laws. No condition beyond those in the theorems. -/
import Derived.Test.YtiaihkcadffllaaDoorZQ0g8
import Derived.Lib.Hide

namespace Go.Proofs.YtiaihkcadffllaaDoor.Q
open Go.RowKit Go.Proofs.YtiaihkcadffllaaDoorW.PrintWords Go.Proofs.YtiaihkcadffllaaDoorW.PrintLast Go.Proofs.YtiaihkcadffllaaDoorW.PrintMore
set_option linter.unusedVariables false
set_option linter.unusedSimpArgs false
attribute [local go_sem] max2_int min2_int max_two min_two max_three min_three max_four min_four   
def strings_Cut.f (a0 : ByteArray) (a1 : ByteArray) : Option (ByteArray × ByteArray × Bool) := (stringslite_Cut.f a0 a1).bind fun bt119 => (some (bt119.1, bt119.2.1, bt119.2.2))
set_option maxHeartbeats 8000000 in
set_option maxRecDepth 100000 in
theorem strings_Cut.calls (a0 : ByteArray) (a1 : ByteArray) (r1 : ByteArray) (r2 : ByteArray) (r3 : Bool) (w : World) (h : strings_Cut.f a0 a1 = some (r1, r2, r3)) :
  Calls Tryd.prog 57 #[.string a0, .string a1] w fun e w' => e = .returned (.tuple #[.string r1, .string r2, .bool r3]) ∧ Drawn0 w w' := by
 unfold strings_Cut.f at h
 have H := h
 clear h
 replace H := bndO H
 obtain ⟨⟨t119, t120, t121⟩, A30, H⟩ := H
 dsimp only at H
 have A3 := Aside0.mk A30
 clear A30
 simp only [Option.some.injEq, Prod.mk.injEq] at H
 obtain ⟨rfl, rfl, rfl⟩ := H
 go_enter Tryd.func57, Tryd.ntmps57
 go_wp2_with (first | ((with_reducible refine gate_callee (f := 65) rfl ?_); refine goesL_ (some 9) rfl rfl Tryd.func65 (by kernel_rfl) rfl #[.string a0, .string a1] rfl (by (try simp only [List.map_toArray, List.map_cons, List.map_nil]); first | done | rfl | (simp only [List.length_drop, List.length_take]; rfl)) ?_; (with_reducible refine (stringslite_Cut.calls a0 a1 t119 t120 t121 _ A3.out).mono ?_); rintro e w' ⟨rfl, ⟨nd, rfl⟩⟩; refine ⟨_, rfl, ?_⟩))
 go_ret3
 exact ⟨by first | rfl | (simp; done) | (simp [*]; done), by repeat (first | exact Drawn0.refl _ | apply Drawn0.step)⟩
end Go.Proofs.YtiaihkcadffllaaDoor.Q


namespace Go.Proofs.YtiaihkcadffllaaDoor.Q
open Go.RowKit Go.Proofs.YtiaihkcadffllaaDoorW.PrintWords Go.Proofs.YtiaihkcadffllaaDoorW.PrintLast Go.Proofs.YtiaihkcadffllaaDoorW.PrintMore
set_option linter.unusedVariables false
set_option linter.unusedSimpArgs false
attribute [local go_sem] max2_int min2_int max_two min_two max_three min_three max_four min_four   
def stringslite_HasPrefix.f (a0 : ByteArray) (a1 : ByteArray) : Option (Bool) := if (a0.size : Int) ≥ (a1.size : Int) then (if 0 ≤ (a1.size : Int) then (if (a1.size : Int) ≤ (a0.size : Int) then (some ((a0.extract 0 a1.size).toList == a1.toList)) else (none)) else (none)) else (some false)
set_option maxHeartbeats 8000000 in
set_option maxRecDepth 100000 in
theorem stringslite_HasPrefix.calls (a0 : ByteArray) (a1 : ByteArray) (r : Bool) (w : World) (h : stringslite_HasPrefix.f a0 a1 = some r) :
  Calls Tryd.prog 66 #[.string a0, .string a1] w fun e w' => e = .returned (.bool r) ∧ Drawn0 w w' := by
 unfold stringslite_HasPrefix.f at h
 have H := h
 clear h
 replace H := itO H
 rcases H with ⟨c3, H⟩ | ⟨c3, H⟩
 ·skip
  have c3b0 : decide ((a1.size : Int) ≤ (a0.size : Int)) = true := decide_eq_true c3
  have c3b1 : decide (a1.size ≤ a0.size) = true := decide_eq_true (Int.ofNat_le.mp c3)
  clear c3
  replace H := itO H
  rcases H with ⟨c4, H⟩ | ⟨c4, H⟩
  ·skip
   have c4b0 := eq_true c4
   have c4b1 := decide_eq_true c4
   clear c4
   replace H := itO H
   rcases H with ⟨c5, H⟩ | ⟨c5, H⟩
   ·skip
    have c5b0 := eq_true c5
    have c5b1 := decide_eq_true c5
    clear c5
    obtain rfl := Option.some.inj H
    go_enter Tryd.func66, Tryd.ntmps66
    go_wp2
    go_ret
    exact ⟨by first | rfl | (simp; done) | (simp [*]; done), by repeat (first | exact Drawn0.refl _ | apply Drawn0.step)⟩
   ·exact absurd H (by simp)
  ·exact absurd H (by simp)
 ·skip
  have c3b0 : decide ((a1.size : Int) ≤ (a0.size : Int)) = false := decide_eq_false c3
  have c3b1 : decide (a1.size ≤ a0.size) = false := decide_eq_false (fun h => c3 (Int.ofNat_le.mpr h))
  clear c3
  obtain rfl := Option.some.inj H
  go_enter Tryd.func66, Tryd.ntmps66
  go_wp2
  go_ret
  exact ⟨by first | rfl | (simp; done) | (simp [*]; done), by repeat (first | exact Drawn0.refl _ | apply Drawn0.step)⟩
end Go.Proofs.YtiaihkcadffllaaDoor.Q


namespace Go.Proofs.YtiaihkcadffllaaDoor.Q
open Go.RowKit Go.Proofs.YtiaihkcadffllaaDoorW.PrintWords Go.Proofs.YtiaihkcadffllaaDoorW.PrintLast Go.Proofs.YtiaihkcadffllaaDoorW.PrintMore
set_option linter.unusedVariables false
set_option linter.unusedSimpArgs false
attribute [local go_sem] max2_int min2_int max_two min_two max_three min_three max_four min_four   
def strings_HasPrefix.f (a0 : ByteArray) (a1 : ByteArray) : Option (Bool) := (stringslite_HasPrefix.f a0 a1).bind fun t122 => (some t122)
set_option maxHeartbeats 8000000 in
set_option maxRecDepth 100000 in
theorem strings_HasPrefix.calls (a0 : ByteArray) (a1 : ByteArray) (r : Bool) (w : World) (h : strings_HasPrefix.f a0 a1 = some r) :
  Calls Tryd.prog 58 #[.string a0, .string a1] w fun e w' => e = .returned (.bool r) ∧ Drawn0 w w' := by
 unfold strings_HasPrefix.f at h
 have H := h
 clear h
 replace H := bndO H
 obtain ⟨t122, A30, H⟩ := H
 have A3 := Aside0.mk A30
 clear A30
 obtain rfl := Option.some.inj H
 go_enter Tryd.func58, Tryd.ntmps58
 go_wp2_with (first | ((with_reducible refine gate_callee (f := 66) rfl ?_); refine goesL_ (some 7) rfl rfl Tryd.func66 (by kernel_rfl) rfl #[.string a0, .string a1] rfl (by (try simp only [List.map_toArray, List.map_cons, List.map_nil]); first | done | rfl | (simp only [List.length_drop, List.length_take]; rfl)) ?_; (with_reducible refine (stringslite_HasPrefix.calls a0 a1 t122 _ A3.out).mono ?_); rintro e w' ⟨rfl, ⟨nd, rfl⟩⟩; refine ⟨_, rfl, ?_⟩))
 go_ret
 exact ⟨by first | rfl | (simp; done) | (simp [*]; done), by repeat (first | exact Drawn0.refl _ | apply Drawn0.step)⟩
end Go.Proofs.YtiaihkcadffllaaDoor.Q


namespace Go.Proofs.YtiaihkcadffllaaDoor.Q
open Go.RowKit Go.Proofs.YtiaihkcadffllaaDoorW.PrintWords Go.Proofs.YtiaihkcadffllaaDoorW.PrintLast Go.Proofs.YtiaihkcadffllaaDoorW.PrintMore
set_option linter.unusedVariables false
set_option linter.unusedSimpArgs false
attribute [local go_sem] max2_int min2_int max_two min_two max_three min_three max_four min_four   
def stringslite_HasSuffix.f (a0 : ByteArray) (a1 : ByteArray) : Option (Bool) := if (a0.size : Int) ≥ (a1.size : Int) then (if 0 ≤ (wrap64 ((a0.size : Int) - (a1.size : Int))) then (if (wrap64 ((a0.size : Int) - (a1.size : Int))) ≤ (a0.size : Int) then (some ((a0.extract ((wrap64 ((a0.size : Int) - (a1.size : Int))) : Int).toNat a0.size).toList == a1.toList)) else (none)) else (none)) else (some false)
set_option maxHeartbeats 8000000 in
set_option maxRecDepth 100000 in
theorem stringslite_HasSuffix.calls (a0 : ByteArray) (a1 : ByteArray) (r : Bool) (w : World) (h : stringslite_HasSuffix.f a0 a1 = some r) :
  Calls Tryd.prog 67 #[.string a0, .string a1] w fun e w' => e = .returned (.bool r) ∧ Drawn0 w w' := by
 unfold stringslite_HasSuffix.f at h
 have H := h
 clear h
 replace H := itO H
 rcases H with ⟨c3, H⟩ | ⟨c3, H⟩
 ·skip
  have c3b0 : decide ((a1.size : Int) ≤ (a0.size : Int)) = true := decide_eq_true c3
  have c3b1 : decide (a1.size ≤ a0.size) = true := decide_eq_true (Int.ofNat_le.mp c3)
  clear c3
  obtain ⟨ji4, hji4⟩ : ∃ j_ : Int, (wrap64 ((a0.size : Int) - (a1.size : Int))) = j_ := ⟨_, rfl⟩
  first | rw [hji4] at H | simp only [hji4] at H
  have hji4w : (IntKind.i64.wrap ((a0.size : Int) - (a1.size : Int))) = ji4 := (i64_w _).trans hji4
  replace H := itO H
  rcases H with ⟨c5, H⟩ | ⟨c5, H⟩
  ·skip
   have c5b0 := eq_true c5
   have c5b1 := decide_eq_true c5
   clear c5
   replace H := itO H
   rcases H with ⟨c6, H⟩ | ⟨c6, H⟩
   ·skip
    have c6b0 := eq_true c6
    have c6b1 := decide_eq_true c6
    clear c6
    obtain rfl := Option.some.inj H
    go_enter Tryd.func67, Tryd.ntmps67
    go_wp2
    go_ret
    exact ⟨by first | rfl | (simp; done) | (simp only [← hji4] <;> (first | rfl | simp)) | (simp [*]; done), by repeat (first | exact Drawn0.refl _ | apply Drawn0.step)⟩
   ·exact absurd H (by simp)
  ·exact absurd H (by simp)
 ·skip
  have c3b0 : decide ((a1.size : Int) ≤ (a0.size : Int)) = false := decide_eq_false c3
  have c3b1 : decide (a1.size ≤ a0.size) = false := decide_eq_false (fun h => c3 (Int.ofNat_le.mpr h))
  clear c3
  obtain rfl := Option.some.inj H
  go_enter Tryd.func67, Tryd.ntmps67
  go_wp2
  go_ret
  exact ⟨by first | rfl | (simp; done) | (simp [*]; done), by repeat (first | exact Drawn0.refl _ | apply Drawn0.step)⟩
end Go.Proofs.YtiaihkcadffllaaDoor.Q


namespace Go.Proofs.YtiaihkcadffllaaDoor.Q
open Go.RowKit Go.Proofs.YtiaihkcadffllaaDoorW.PrintWords Go.Proofs.YtiaihkcadffllaaDoorW.PrintLast Go.Proofs.YtiaihkcadffllaaDoorW.PrintMore
set_option linter.unusedVariables false
set_option linter.unusedSimpArgs false
attribute [local go_sem] max2_int min2_int max_two min_two max_three min_three max_four min_four   
def strings_HasSuffix.f (a0 : ByteArray) (a1 : ByteArray) : Option (Bool) := (stringslite_HasSuffix.f a0 a1).bind fun t123 => (some t123)
set_option maxHeartbeats 8000000 in
set_option maxRecDepth 100000 in
theorem strings_HasSuffix.calls (a0 : ByteArray) (a1 : ByteArray) (r : Bool) (w : World) (h : strings_HasSuffix.f a0 a1 = some r) :
  Calls Tryd.prog 59 #[.string a0, .string a1] w fun e w' => e = .returned (.bool r) ∧ Drawn0 w w' := by
 unfold strings_HasSuffix.f at h
 have H := h
 clear h
 replace H := bndO H
 obtain ⟨t123, A30, H⟩ := H
 have A3 := Aside0.mk A30
 clear A30
 obtain rfl := Option.some.inj H
 go_enter Tryd.func59, Tryd.ntmps59
 go_wp2_with (first | ((with_reducible refine gate_callee (f := 67) rfl ?_); refine goesL_ (some 7) rfl rfl Tryd.func67 (by kernel_rfl) rfl #[.string a0, .string a1] rfl (by (try simp only [List.map_toArray, List.map_cons, List.map_nil]); first | done | rfl | (simp only [List.length_drop, List.length_take]; rfl)) ?_; (with_reducible refine (stringslite_HasSuffix.calls a0 a1 t123 _ A3.out).mono ?_); rintro e w' ⟨rfl, ⟨nd, rfl⟩⟩; refine ⟨_, rfl, ?_⟩))
 go_ret
 exact ⟨by first | rfl | (simp; done) | (simp [*]; done), by repeat (first | exact Drawn0.refl _ | apply Drawn0.step)⟩
end Go.Proofs.YtiaihkcadffllaaDoor.Q


namespace Go.Proofs.YtiaihkcadffllaaDoor.Q
open Go.RowKit Go.Proofs.YtiaihkcadffllaaDoorW.PrintWords Go.Proofs.YtiaihkcadffllaaDoorW.PrintLast Go.Proofs.YtiaihkcadffllaaDoorW.PrintMore
set_option linter.unusedVariables false
set_option linter.unusedSimpArgs false
attribute [local go_sem] max2_int min2_int max_two min_two max_three min_three max_four min_four   
def cors_pattern_matches.f (a0 : ByteArray) (a1 : ByteArray) : Option (Bool) := (strings_Cut.f a0 (⟨#[42]⟩ : ByteArray)).bind fun bt124 => (if bt124.2.2 = true then (if (a1.size : Int) ≥ (wrap64 ((bt124.1.size : Int) + (bt124.2.1.size : Int))) then ((strings_HasPrefix.f a1 bt124.1).bind fun t127 => (if t127 = true then ((strings_HasSuffix.f a1 bt124.2.1).bind fun t128 => (some t128)) else (some false))) else (some false)) else (some (a0.toList == a1.toList)))
set_option maxHeartbeats 8000000 in
set_option maxRecDepth 100000 in
theorem cors_pattern_matches.calls (a0 : ByteArray) (a1 : ByteArray) (r : Bool) (w : World) (h : cors_pattern_matches.f a0 a1 = some r) :
  Calls Tryd.prog 49 #[.string a0, .string a1] w fun e w' => e = .returned (.bool r) ∧ Drawn0 w w' := by
 unfold cors_pattern_matches.f at h
 have H := h
 clear h
 replace H := bndO H
 obtain ⟨⟨t124, t125, t126⟩, A30, H⟩ := H
 dsimp only at H
 have A3 := Aside0.mk A30
 clear A30
 by_cases c4 : t126 = true
 ·subst c4
  replace H := itT H
  replace H := itO H
  rcases H with ⟨c5, H⟩ | ⟨c5, H⟩
  ·skip
   have c5b0 : decide ((wrap64 ((t124.size : Int) + (t125.size : Int))) ≤ (a1.size : Int)) = true := decide_eq_true c5
   clear c5
   replace H := bndO H
   obtain ⟨t127, A60, H⟩ := H
   have A6 := Aside0.mk A60
   clear A60
   by_cases c7 : t127 = true
   ·subst c7
    replace H := itT H
    replace H := bndO H
    obtain ⟨t128, A80, H⟩ := H
    have A8 := Aside0.mk A80
    clear A80
    obtain rfl := Option.some.inj H
    go_enter Tryd.func49, Tryd.ntmps49
    go_wp2_with (first | ((with_reducible refine gate_callee (f := 57) rfl ?_); refine goesL_ (some 10) rfl rfl Tryd.func57 (by kernel_rfl) rfl #[.string a0, .string (⟨#[42]⟩ : ByteArray)] rfl (by (try simp only [List.map_toArray, List.map_cons, List.map_nil]); first | done | rfl | (simp only [List.length_drop, List.length_take]; rfl)) ?_; (with_reducible refine (strings_Cut.calls a0 (⟨#[42]⟩ : ByteArray) t124 t125 true _ A3.out).mono ?_); rintro e w' ⟨rfl, ⟨nd, rfl⟩⟩; refine ⟨_, rfl, ?_⟩) | (go_at_call 58; (with_reducible refine (strings_HasPrefix.calls a1 t124 true _ A6.out).mono ?_); rintro e w' ⟨rfl, ⟨nd, rfl⟩⟩) | (go_at_call 59; (with_reducible refine (strings_HasSuffix.calls a1 t125 t128 _ A8.out).mono ?_); rintro e w' ⟨rfl, ⟨nd, rfl⟩⟩))
    go_ret
    exact ⟨by first | rfl | (simp; done) | (simp [*]; done), by repeat (first | exact Drawn0.refl _ | apply Drawn0.step)⟩
   ·replace c7 := Bool.eq_false_iff.mpr c7
    subst c7
    replace H := itF H
    obtain rfl := Option.some.inj H
    go_enter Tryd.func49, Tryd.ntmps49
    go_wp2_with (first | ((with_reducible refine gate_callee (f := 57) rfl ?_); refine goesL_ (some 10) rfl rfl Tryd.func57 (by kernel_rfl) rfl #[.string a0, .string (⟨#[42]⟩ : ByteArray)] rfl (by (try simp only [List.map_toArray, List.map_cons, List.map_nil]); first | done | rfl | (simp only [List.length_drop, List.length_take]; rfl)) ?_; (with_reducible refine (strings_Cut.calls a0 (⟨#[42]⟩ : ByteArray) t124 t125 true _ A3.out).mono ?_); rintro e w' ⟨rfl, ⟨nd, rfl⟩⟩; refine ⟨_, rfl, ?_⟩) | (go_at_call 58; (with_reducible refine (strings_HasPrefix.calls a1 t124 false _ A6.out).mono ?_); rintro e w' ⟨rfl, ⟨nd, rfl⟩⟩))
    go_ret
    exact ⟨by first | rfl | (simp; done) | (simp [*]; done), by repeat (first | exact Drawn0.refl _ | apply Drawn0.step)⟩
  ·skip
   have c5b0 : decide ((wrap64 ((t124.size : Int) + (t125.size : Int))) ≤ (a1.size : Int)) = false := decide_eq_false c5
   clear c5
   obtain rfl := Option.some.inj H
   go_enter Tryd.func49, Tryd.ntmps49
   go_wp2_with (first | ((with_reducible refine gate_callee (f := 57) rfl ?_); refine goesL_ (some 10) rfl rfl Tryd.func57 (by kernel_rfl) rfl #[.string a0, .string (⟨#[42]⟩ : ByteArray)] rfl (by (try simp only [List.map_toArray, List.map_cons, List.map_nil]); first | done | rfl | (simp only [List.length_drop, List.length_take]; rfl)) ?_; (with_reducible refine (strings_Cut.calls a0 (⟨#[42]⟩ : ByteArray) t124 t125 true _ A3.out).mono ?_); rintro e w' ⟨rfl, ⟨nd, rfl⟩⟩; refine ⟨_, rfl, ?_⟩))
   go_ret
   exact ⟨by first | rfl | (simp; done) | (simp [*]; done), by repeat (first | exact Drawn0.refl _ | apply Drawn0.step)⟩
 ·replace c4 := Bool.eq_false_iff.mpr c4
  subst c4
  replace H := itF H
  obtain rfl := Option.some.inj H
  go_enter Tryd.func49, Tryd.ntmps49
  go_wp2_with (first | ((with_reducible refine gate_callee (f := 57) rfl ?_); refine goesL_ (some 10) rfl rfl Tryd.func57 (by kernel_rfl) rfl #[.string a0, .string (⟨#[42]⟩ : ByteArray)] rfl (by (try simp only [List.map_toArray, List.map_cons, List.map_nil]); first | done | rfl | (simp only [List.length_drop, List.length_take]; rfl)) ?_; (with_reducible refine (strings_Cut.calls a0 (⟨#[42]⟩ : ByteArray) t124 t125 false _ A3.out).mono ?_); rintro e w' ⟨rfl, ⟨nd, rfl⟩⟩; refine ⟨_, rfl, ?_⟩))
  go_ret
  exact ⟨by first | rfl | (simp; done) | (simp [*]; done), by repeat (first | exact Drawn0.refl _ | apply Drawn0.step)⟩
end Go.Proofs.YtiaihkcadffllaaDoor.Q


namespace Go.Proofs.YtiaihkcadffllaaDoor.Q
open Go.RowKit Go.Proofs.YtiaihkcadffllaaDoorW.PrintWords Go.Proofs.YtiaihkcadffllaaDoorW.PrintLast Go.Proofs.YtiaihkcadffllaaDoorW.PrintMore
set_option linter.unusedVariables false
set_option linter.unusedSimpArgs false
attribute [local go_sem] max2_int min2_int max_two min_two max_three min_three max_four min_four   
def cors_Match.f (a0 : ByteArray) (a1 : ByteArray) : Option (Bool) := (cors_pattern_matches.f a0 a1).bind fun t129 => (some t129)
set_option maxHeartbeats 8000000 in
set_option maxRecDepth 100000 in
theorem cors_Match.calls (a0 : ByteArray) (a1 : ByteArray) (r : Bool) (w : World) (h : cors_Match.f a0 a1 = some r) :
  Calls Tryd.prog 33 #[.string a0, .string a1] w fun e w' => e = .returned (.bool r) ∧ Drawn0 w w' := by
 unfold cors_Match.f at h
 have H := h
 clear h
 replace H := bndO H
 obtain ⟨t129, A30, H⟩ := H
 have A3 := Aside0.mk A30
 clear A30
 obtain rfl := Option.some.inj H
 go_enter Tryd.func33, Tryd.ntmps33
 go_wp2_with (first | (go_at_call 49; (with_reducible refine (cors_pattern_matches.calls a0 a1 t129 _ A3.out).mono ?_); rintro e w' ⟨rfl, ⟨nd, rfl⟩⟩))
 go_ret
 exact ⟨by first | rfl | (simp; done) | (simp [*]; done), by repeat (first | exact Drawn0.refl _ | apply Drawn0.step)⟩
end Go.Proofs.YtiaihkcadffllaaDoor.Q


namespace Go.Proofs.YtiaihkcadffllaaDoor.Q
open Go.RowKit Go.Proofs.YtiaihkcadffllaaDoorW.PrintWords Go.Proofs.YtiaihkcadffllaaDoorW.PrintLast Go.Proofs.YtiaihkcadffllaaDoorW.PrintMore
set_option linter.unusedVariables false
set_option linter.unusedSimpArgs false
attribute [local go_sem] max2_int min2_int max_two min_two max_three min_three max_four min_four   
def cors_first.ix (s : ByteArray) : List ByteArray → Nat → Option Int
 | [], _ => some (-1)
 | p :: l, i => (cors_Match.f p s).bind fun b => if b = true then some (i : Int) else cors_first.ix s l (i + 1)
def cors_first.f (l0 : List ByteArray) (a1 : ByteArray) : Option (ByteArray × Bool) := (cors_first.ix a1 l0 0).bind fun i => if i < 0 then some (⟨#[]⟩, false) else some (rdOf ByteArray.empty l0 i, true)
theorem cors_first.ix_lt (s : ByteArray) (l : List ByteArray) : ∀ (n : Nat) (i : Int), cors_first.ix s l n = some i → 0 ≤ i → i < ((n + l.length : Nat) : Int) := by
 induction l with
 | nil => intro n i h h0; simp only [cors_first.ix, Option.some.injEq] at h; omega
 | cons p l ih =>
  intro n i h h0
  rw [cors_first.ix] at h
  obtain ⟨b, _, h⟩ := bndO h
  cases b with
  | true => simp only [if_true, Option.some.injEq] at h; rw [List.length_cons]; omega
  | false =>
   have := ih (n + 1) i (by simpa using h) h0
   rw [List.length_cons]
   omega
set_option maxHeartbeats 4000000 in
set_option maxRecDepth 100000 in
theorem cors_first.each (p s : ByteArray) (g : Nat) (b : Bool) (w : World) (hm : cors_Match.f p s = some b) (hc : w.cell? ⟨g, 0, none⟩ = some (.string s)) :
  Calls Tryd.prog 52 #[.string p, .pointer (some ⟨g, 0, none⟩)] w fun e w' => e = .returned (.bool b) ∧ Drawn0 w w' := by
 have hm' := Lib.hid hm
 clear hm
 go_enter Tryd.func52, Tryd.ntmps52
 go_wp2_with (first | (go_at_call 33; (with_reducible refine (cors_Match.calls p s b _ hm'.out).mono ?_); rintro e w9 ⟨rfl, ⟨nd, rfl⟩⟩))
 go_ret
 exact ⟨rfl, by first | exact ⟨_, rfl⟩ | exact Drawn0.refl _⟩
set_option maxHeartbeats 4000000 in
set_option maxRecDepth 100000 in
theorem cors_first.index (l : List ByteArray) (s : ByteArray) (A0 : Option Addr) (c0 g : Nat) (r : Int) (w : World) (hr0 : Kd.C Kd.string w A0 l.length l) (_hc0 : l.length ≤ c0) (hc : w.cell? ⟨g, 0, none⟩ = some (.string s)) (h : cors_first.ix s l 0 = some r) :
  Calls Tryd.prog 51 #[.slice A0 l.length c0, .func (Fn.func 52) #[] #[.pointer (some ⟨g, 0, none⟩)]] w fun e w' => e = .returned (.int .i64 r) ∧ Drawn0 w w' := by
 have hl : l.length ≤ 9223372036854775807 := hr0.2.1
 have hh := Lib.hid (And.intro hr0 (And.intro hc h))
 clear hr0 hc h
 go_enter Tryd.func51, Tryd.ntmps51
 go_wp2
 go_loopw [8] (fun i8 wr => ∃ (k m : Nat), k ≤ l.length ∧ i8 = .int .i64 k ∧ Hid (wr = w.drewN m ∧ cors_first.ix s (l.drop k) k = some r)) (fun i8 _ => l.length - (intOf i8).toNat)
 case atStart => exact ⟨0, 0, Nat.zero_le _, rfl, Lib.hid ⟨rfl, by rw [List.drop_zero]; exact hh.out.2.2⟩⟩
 case round =>
  obtain ⟨k, m, hk, rfl, hI⟩ := hrel
  obtain ⟨rfl, hix⟩ := hI.out
  clear hI
  by_cases hlt : k < l.length
  ·rw [List.drop_eq_getElem_cons hlt, cors_first.ix] at hix
   obtain ⟨b, hb, hix⟩ := bndO hix
   obtain ⟨ad, e0, hcell⟩ := Kd.at_string hh.out.1 (k : Int) (by omega) (by omega)
   have hp : rdOf ByteArray.empty l (k : Int) = l[k] := by simp [rdOf, List.getD_eq_getElem?_getD, List.getElem?_eq_getElem hlt]
   rw [hp, Int.toNat_natCast] at hcell
   subst e0
   have hb' := Lib.hid hb
   have hix' := Lib.hid hix
   clear hb hix
   have c0b : decide ((k : Int) < (l.length : Int)) = true := decide_eq_true (by omega)
   cases b with
   | true =>
    go_wp2_with (first | (go_at_call 52; refine (cors_first.each l[k] s g true (w.drewN m) hb'.out (show (w.drewN m).cell? _ = _ from hh.out.2.1)).mono ?_; rintro e w9 ⟨rfl, ⟨nd, rfl⟩⟩))
    go_ret
    have hr := hix'.out
    simp only [if_true, Option.some.injEq] at hr
    subst hr
    exact ⟨rfl, _, rfl⟩
   | false =>
    go_wp2_with (first | (go_at_call 52; refine (cors_first.each l[k] s g false (w.drewN m) hb'.out (show (w.drewN m).cell? _ = _ from hh.out.2.1)).mono ?_; rintro e w9 ⟨rfl, ⟨nd, rfl⟩⟩))
    go_roundw
    case rel => exact ⟨k + 1, _, by omega, by go_num, Lib.hid ⟨rfl, by have hr := hix'.out; simpa using hr⟩⟩
    case measure => simp [intOf]; omega
  ·have e : k = l.length := by omega
   subst e
   have c0b : decide ((l.length : Int) < (l.length : Int)) = false := decide_eq_false (by omega)
   rw [List.drop_length, cors_first.ix] at hix
   obtain rfl := Option.some.inj hix
   go_wp2
   go_ret
   exact ⟨rfl, _, rfl⟩
set_option maxHeartbeats 4000000 in
set_option maxRecDepth 100000 in
theorem cors_first.calls (A0 : Option Addr) (c0 : Nat) (l0 : List ByteArray) (a1 : ByteArray) (r1 : ByteArray) (r2 : Bool) (w : World) (hr0 : Kd.C Kd.string w A0 l0.length l0) (hc0 : l0.length ≤ c0) (h : cors_first.f l0 a1 = some (r1, r2)) :
  Calls Tryd.prog 38 #[.slice A0 l0.length c0, .string a1] w fun e w' => e = .returned (.tuple #[.string r1, .bool r2]) ∧ Below w.heap.size w w' := by
 unfold cors_first.f at h
 obtain ⟨i, hi, h⟩ := bndO h
 have hmf : ∀ (fn : Fn) (first cap : Array Value) (w : World), (Instr.makeFunc fn first cap).run Tryd.prog w = .ok (.func fn first cap) w := fun _ _ _ _ => rfl
 have hh := Lib.hid (And.intro hr0 (And.intro hi h))
 clear hr0 hi h
 go_enter Tryd.func38, Tryd.ntmps38
 by_cases c : i < 0
 ·have c1 := decide_eq_true c
  go_wp2_with (first | ((with_reducible refine gate_dst (N := 3) rfl ?_); refine box_event ?hg (N := 3) ?hd (cs := #[.string a1]) (t := 9) ?hr ?_; (case hd => rfl); (case hg => rfl); (case hr => first | (go_simp; done) | (go_simp; rfl)); intro g hg w4 hbox hb; have F := Lib.hid (And.intro hbox hb); clear hbox hb hg) | (go_at_call 51; (refine (cors_first.index l0 a1 A0 c0 g i _ (Kd.C_below hh.out.1 F.out.2) hc0 ((blk_cell F.out.1 0).trans rfl) hh.out.2.1).mono ?_; rintro e w9 ⟨rfl, ⟨nd, rfl⟩⟩)))
  have hr := hh.out.2.2
  rw [if_pos c] at hr
  obtain ⟨rfl, rfl⟩ := Prod.mk.inj (Option.some.inj hr)
  go_ret2
  exact ⟨rfl, pw_below_drewN F.out.2 _⟩
 ·have c1 := decide_eq_false c
  have hlt := cors_first.ix_lt a1 l0 0 i hh.out.2.1 (by omega)
  obtain ⟨ad, e0, hcell⟩ := Kd.at_string hh.out.1 i (by omega) (by omega)
  subst e0
  have p0 := eq_true (show 0 ≤ i by omega)
  have q0 := eq_true (show i < (l0.length : Int) by omega)
  clear hlt c
  go_wp2_with (first | ((with_reducible refine gate_dst (N := 3) rfl ?_); refine box_event ?hg (N := 3) ?hd (cs := #[.string a1]) (t := 9) ?hr ?_; (case hd => rfl); (case hg => rfl); (case hr => first | (go_simp; done) | (go_simp; rfl)); intro g hg w4 hbox hb; have F := Lib.hid (And.intro hbox hb); have hcell2 := (hb.cell (World.block_lt_of_cell? w _ hcell)).trans hcell; clear hbox hb hg) | (go_at_call 51; (refine (cors_first.index l0 a1 (some ad) c0 g i _ (Kd.C_below hh.out.1 F.out.2) hc0 ((blk_cell F.out.1 0).trans rfl) hh.out.2.1).mono ?_; rintro e w9 ⟨rfl, ⟨nd, rfl⟩⟩)))
  have hr := hh.out.2.2
  rw [if_neg (by rintro h; rw [decide_eq_false_iff_not] at c1; exact c1 h)] at hr
  obtain ⟨rfl, rfl⟩ := Prod.mk.inj (Option.some.inj hr)
  go_ret2
  exact ⟨rfl, pw_below_drewN F.out.2 _⟩
end Go.Proofs.YtiaihkcadffllaaDoor.Q
