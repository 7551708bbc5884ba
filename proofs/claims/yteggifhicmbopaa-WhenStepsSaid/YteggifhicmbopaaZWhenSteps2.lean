/- For every int the law WhenSteps answers true, and its argument reads behind the call as before. No condition. -/
import Derived.Test.YteggifhicmbopaaZWhenSteps1
import Derived.KernelRfl
import Derived.Test.YteggifhicmbopaaRows
import Derived.WalkKit
import Derived.ProofKit
import Derived.OpenShut
import Derived.ShutString
import Derived.ChangeOld
import Derived.Below
import Derived.SizedLaws
/- What some Go functions compute, told as plain Lean functions, each with the proof that the call comes to just that, for all arguments. Conditions: those in the theorems. Written by a program of this session. -/
namespace Go.Proofs.Yteggifhicmbopaa.Q
open Go.RowKit Go.Proofs.YteggifhicmbopaaW.PrintWords Go.Proofs.YteggifhicmbopaaW.PrintLast Go.Proofs.YteggifhicmbopaaW.PrintMore
set_option linter.unusedVariables false
set_option linter.unusedSimpArgs false
attribute [local go_sem] max2_int min2_int max_two min_two max_three min_three max_four min_four   -- for this text's walks alone

/-! ### when_Day: function 15 -/
def when_Day.f (k : Nat) (a0 : Int) : Option (ByteArray) := (when_Civil.f k a0).bind fun bt144 => (if bt144.2.2.2.2.2.2 = true then ((when_put.f k bt144.1 4).bind fun t151 => ((when_put.f k bt144.2.1 2).bind fun t152 => (if t151.size + t152.size ≤ 9223372036854775807 then ((when_put.f k bt144.2.2.1 2).bind fun t153 => (if (t151 ++ t152).size + t153.size ≤ 9223372036854775807 then (some ((t151 ++ t152) ++ t153)) else (none))) else (none)))) else (some (⟨#[]⟩ : ByteArray)))
theorem when_Day.mono : ∀ a0 k, LeO (when_Day.f k a0) (when_Day.f (k + 1) a0) := by
  intro a0 k
  unfold when_Day.f
  repeat' first
      | (with_reducible exact when_Civil.mono _ _)
      | (with_reducible exact when_put.mono _ _ _)
      | (with_reducible exact LeO.refl _)
      | (with_reducible exact LeO.none _)
      | (with_reducible refine LeO.ite ?_ ?_)
      | (with_reducible refine LeO.bind ?_ (fun _ => ?_))
      | exact when_Civil.mono _ _
      | exact when_put.mono _ _ _
      | exact LeO.none _
      | refine LeO.ite ?_ ?_
      | refine LeO.bind ?_ (fun _ => ?_)
set_option maxHeartbeats 8000000 in
set_option maxRecDepth 100000 in
theorem when_Day.calls (k : Nat) (a0 : Int) (r : ByteArray) (w : World) (h : when_Day.f k a0 = some r) :
    Calls Try.prog 15 #[.int .i64 a0] w fun e w' => e = .returned (.string r) ∧ Below w.heap.size w w' := by
  have HB := Aside0.mk (Below.refl w.heap.size w)
  have H : ((when_Civil.f k a0).bind fun bt144 => (if bt144.2.2.2.2.2.2 = true then ((when_put.f k bt144.1 4).bind fun t151 => ((when_put.f k bt144.2.1 2).bind fun t152 => (if t151.size + t152.size ≤ 9223372036854775807 then ((when_put.f k bt144.2.2.1 2).bind fun t153 => (if (t151 ++ t152).size + t153.size ≤ 9223372036854775807 then (some ((t151 ++ t152) ++ t153)) else (none))) else (none)))) else (some (⟨#[]⟩ : ByteArray)))) = some r := h
  clear h
  replace H := Option.bind_eq_some_iff.mp H
  obtain ⟨⟨t144, t145, t146, t147, t148, t149, t150⟩, A20, H⟩ := H
  replace H : (if t150 = true then ((when_put.f k t144 4).bind fun t151 => ((when_put.f k t145 2).bind fun t152 => (if t151.size + t152.size ≤ 9223372036854775807 then ((when_put.f k t146 2).bind fun t153 => (if (t151 ++ t152).size + t153.size ≤ 9223372036854775807 then (some ((t151 ++ t152) ++ t153)) else (none))) else (none)))) else (some (⟨#[]⟩ : ByteArray))) = some r := H
  have A2 := Aside0.mk A20
  clear A20
  by_cases c3 : t150 = true
  · subst c3
    have H1 : ((when_put.f k t144 4).bind fun t151 => ((when_put.f k t145 2).bind fun t152 => (if t151.size + t152.size ≤ 9223372036854775807 then ((when_put.f k t146 2).bind fun t153 => (if (t151 ++ t152).size + t153.size ≤ 9223372036854775807 then (some ((t151 ++ t152) ++ t153)) else (none))) else (none)))) = some r := by rw [if_pos rfl] at H; exact H
    clear H
    have H := H1
    clear H1
    replace H := Option.bind_eq_some_iff.mp H
    obtain ⟨t151, A40, H⟩ := H
    replace H : ((when_put.f k t145 2).bind fun t152 => (if t151.size + t152.size ≤ 9223372036854775807 then ((when_put.f k t146 2).bind fun t153 => (if (t151 ++ t152).size + t153.size ≤ 9223372036854775807 then (some ((t151 ++ t152) ++ t153)) else (none))) else (none))) = some r := H
    have A4 := Aside0.mk A40
    clear A40
    replace H := Option.bind_eq_some_iff.mp H
    obtain ⟨t152, A50, H⟩ := H
    replace H : (if t151.size + t152.size ≤ 9223372036854775807 then ((when_put.f k t146 2).bind fun t153 => (if (t151 ++ t152).size + t153.size ≤ 9223372036854775807 then (some ((t151 ++ t152) ++ t153)) else (none))) else (none)) = some r := H
    have A5 := Aside0.mk A50
    clear A50
    by_cases c6 : t151.size + t152.size ≤ 9223372036854775807
    · rw [if_pos c6] at H
      have c6b0 := eq_true c6
      have c6b1 : decide (t151.size + t152.size ≤ 9223372036854775807) = true := decide_eq_true c6
      try have c6b2 : (9223372036854775807 < t151.size + t152.size) = False := eq_false (Nat.not_lt.2 c6)
      try (have c6n : t151.size + t152.size ≤ 9223372036854775807 := by have h_ := c6; simp only [ByteArray.size_append, ByteArray.size_extract] at h_; exact h_)
      try have c6f : (9223372036854775807 < t151.size + t152.size) = False := eq_false (by first | omega | (simp only [eq_iff_iff, iff_true] at *; omega))
      replace H := Option.bind_eq_some_iff.mp H
      obtain ⟨t153, A70, H⟩ := H
      replace H : (if (t151 ++ t152).size + t153.size ≤ 9223372036854775807 then (some ((t151 ++ t152) ++ t153)) else (none)) = some r := H
      have A7 := Aside0.mk A70
      clear A70
      by_cases c8 : (t151 ++ t152).size + t153.size ≤ 9223372036854775807
      · rw [if_pos c8] at H
        have c8b0 := eq_true c8
        have c8b1 : decide ((t151 ++ t152).size + t153.size ≤ 9223372036854775807) = true := decide_eq_true c8
        try have c8b2 : (9223372036854775807 < (t151 ++ t152).size + t153.size) = False := eq_false (Nat.not_lt.2 c8)
        try (have c8n : t151.size + t152.size + t153.size ≤ 9223372036854775807 := by have h_ := c8; simp only [ByteArray.size_append, ByteArray.size_extract] at h_; exact h_)
        try have c8f : (9223372036854775807 < t151.size + t152.size + t153.size) = False := eq_false (by first | omega | (simp only [eq_iff_iff, iff_true] at *; omega))
        obtain rfl := Option.some.inj H
        go_enter Try.func15, Try.ntmps15
        go_wp2_with (first | ((with_reducible refine gate_callee (f := 9) rfl ?_); refine goesL_ (some 12) rfl rfl Try.func9 (by kernel_rfl) rfl #[.int .i64 a0] rfl (by (try simp only [List.map_toArray, List.map_cons, List.map_nil]); first | done | rfl | (simp only [List.length_drop, List.length_take]; rfl)) ?_; (with_reducible refine (when_Civil.calls k a0 t144 t145 t146 t147 t148 t149 true _ A2.out).mono ?_); rintro e w' ⟨rfl, ⟨nd, rfl⟩⟩; refine ⟨_, rfl, ?_⟩) | ((with_reducible refine gate_callee (f := 33) rfl ?_); refine goesL_ (some 23) rfl rfl Try.func33 (by kernel_rfl) rfl #[.int .i64 t144, .int .i64 4] rfl (by (try simp only [List.map_toArray, List.map_cons, List.map_nil]); first | done | rfl | (simp only [List.length_drop, List.length_take]; rfl)) ?_; (with_reducible refine (when_put.calls k t144 4 t151 _ A4.out).mono ?_); rintro e w9 ⟨rfl, hb⟩; refine ⟨_, rfl, ?_⟩; have n0_ := Aside0.mk (below_step (by repeat (first | (with_reducible first | exact HB.out | apply below_alloc | apply pw_below_drewN | apply below_drew1) | exact HB.out)) hb); clear HB; have HB := n0_; clear n0_; (try clear hb); (try clear hb2); (try clear hk); (try clear hi)) | ((with_reducible refine gate_callee (f := 33) rfl ?_); refine goesL_ (some 25) rfl rfl Try.func33 (by kernel_rfl) rfl #[.int .i64 t145, .int .i64 2] rfl (by (try simp only [List.map_toArray, List.map_cons, List.map_nil]); first | done | rfl | (simp only [List.length_drop, List.length_take]; rfl)) ?_; (with_reducible refine (when_put.calls k t145 2 t152 _ A5.out).mono ?_); rintro e w10 ⟨rfl, hb⟩; refine ⟨_, rfl, ?_⟩; have n0_ := Aside0.mk (below_step (by repeat (first | (with_reducible first | exact HB.out | apply below_alloc | apply pw_below_drewN | apply below_drew1) | exact HB.out)) hb); clear HB; have HB := n0_; clear n0_; (try clear hb); (try clear hb2); (try clear hk); (try clear hi)) | ((with_reducible refine gate_callee (f := 33) rfl ?_); refine goesL_ (some 28) rfl rfl Try.func33 (by kernel_rfl) rfl #[.int .i64 t146, .int .i64 2] rfl (by (try simp only [List.map_toArray, List.map_cons, List.map_nil]); first | done | rfl | (simp only [List.length_drop, List.length_take]; rfl)) ?_; (with_reducible refine (when_put.calls k t146 2 t153 _ A7.out).mono ?_); rintro e w11 ⟨rfl, hb⟩; refine ⟨_, rfl, ?_⟩; have n0_ := Aside0.mk (below_step (by repeat (first | (with_reducible first | exact HB.out | apply below_alloc | apply pw_below_drewN | apply below_drew1) | exact HB.out)) hb); clear HB; have HB := n0_; clear n0_; (try clear hb); (try clear hb2); (try clear hk); (try clear hi)))
        go_ret
        exact ⟨by first | rfl | (simp [errW_none, errW_some] <;> rfl) | (simp [*, errW_none, errW_some] <;> rfl), by repeat (first | (with_reducible first | exact HB.out | apply below_alloc | apply pw_below_drewN | apply below_drew1) | exact HB.out)⟩
      · rw [if_neg c8] at H
        exact absurd H (by simp)
    · rw [if_neg c6] at H
      exact absurd H (by simp)
  · replace c3 := Bool.eq_false_iff.mpr c3
    subst c3
    have H1 : (some (⟨#[]⟩ : ByteArray)) = some r := by rw [if_neg (show ¬ (false = true) by decide)] at H; exact H
    clear H
    have H := H1
    clear H1
    obtain rfl := Option.some.inj H
    go_enter Try.func15, Try.ntmps15
    go_wp2_with (first | ((with_reducible refine gate_callee (f := 9) rfl ?_); refine goesL_ (some 12) rfl rfl Try.func9 (by kernel_rfl) rfl #[.int .i64 a0] rfl (by (try simp only [List.map_toArray, List.map_cons, List.map_nil]); first | done | rfl | (simp only [List.length_drop, List.length_take]; rfl)) ?_; (with_reducible refine (when_Civil.calls k a0 t144 t145 t146 t147 t148 t149 false _ A2.out).mono ?_); rintro e w' ⟨rfl, ⟨nd, rfl⟩⟩; refine ⟨_, rfl, ?_⟩))
    go_ret
    exact ⟨by first | rfl | (simp [errW_none, errW_some] <;> rfl) | (simp [*, errW_none, errW_some] <;> rfl), by repeat (first | (with_reducible first | exact HB.out | apply below_alloc | apply pw_below_drewN | apply below_drew1) | exact HB.out)⟩

end Go.Proofs.Yteggifhicmbopaa.Q

/- What some Go functions compute, told as plain Lean functions, each with the proof that the call comes to just that, for all arguments. Conditions: those in the theorems. Written by a program of this session. -/
namespace Go.Proofs.Yteggifhicmbopaa.Q
open Go.RowKit Go.Proofs.YteggifhicmbopaaW.PrintWords Go.Proofs.YteggifhicmbopaaW.PrintLast Go.Proofs.YteggifhicmbopaaW.PrintMore
set_option linter.unusedVariables false
set_option linter.unusedSimpArgs false
attribute [local go_sem] max2_int min2_int max_two min_two max_three min_three max_four min_four   -- for this text's walks alone

/-! ### when_Basic: function 13 -/
def when_Basic.f (k : Nat) (a0 : Int) : Option (ByteArray) := (when_Civil.f k a0).bind fun bt154 => (if bt154.2.2.2.2.2.2 = true then ((when_Day.f k a0).bind fun t161 => (if t161.size + 1 ≤ 9223372036854775807 then ((when_put.f k bt154.2.2.2.1 2).bind fun t162 => (if (t161 ++ (⟨#[84]⟩ : ByteArray)).size + t162.size ≤ 9223372036854775807 then ((when_put.f k bt154.2.2.2.2.1 2).bind fun t163 => (if ((t161 ++ (⟨#[84]⟩ : ByteArray)) ++ t162).size + t163.size ≤ 9223372036854775807 then ((when_put.f k bt154.2.2.2.2.2.1 2).bind fun t164 => (if (((t161 ++ (⟨#[84]⟩ : ByteArray)) ++ t162) ++ t163).size + t164.size ≤ 9223372036854775807 then (if ((((t161 ++ (⟨#[84]⟩ : ByteArray)) ++ t162) ++ t163) ++ t164).size + 1 ≤ 9223372036854775807 then (some (((((t161 ++ (⟨#[84]⟩ : ByteArray)) ++ t162) ++ t163) ++ t164) ++ (⟨#[90]⟩ : ByteArray))) else (none)) else (none))) else (none))) else (none))) else (none))) else (some (⟨#[]⟩ : ByteArray)))
theorem when_Basic.mono : ∀ a0 k, LeO (when_Basic.f k a0) (when_Basic.f (k + 1) a0) := by
  intro a0 k
  unfold when_Basic.f
  repeat' first
      | (with_reducible exact when_Civil.mono _ _)
      | (with_reducible exact when_Day.mono _ _)
      | (with_reducible exact when_put.mono _ _ _)
      | (with_reducible exact LeO.refl _)
      | (with_reducible exact LeO.none _)
      | (with_reducible refine LeO.ite ?_ ?_)
      | (with_reducible refine LeO.bind ?_ (fun _ => ?_))
      | exact when_Civil.mono _ _
      | exact when_Day.mono _ _
      | exact when_put.mono _ _ _
      | exact LeO.none _
      | refine LeO.ite ?_ ?_
      | refine LeO.bind ?_ (fun _ => ?_)
set_option maxHeartbeats 8000000 in
set_option maxRecDepth 100000 in
theorem when_Basic.calls (k : Nat) (a0 : Int) (r : ByteArray) (w : World) (h : when_Basic.f k a0 = some r) :
    Calls Try.prog 13 #[.int .i64 a0] w fun e w' => e = .returned (.string r) ∧ Below w.heap.size w w' := by
  have HB := Aside0.mk (Below.refl w.heap.size w)
  have H : ((when_Civil.f k a0).bind fun bt154 => (if bt154.2.2.2.2.2.2 = true then ((when_Day.f k a0).bind fun t161 => (if t161.size + 1 ≤ 9223372036854775807 then ((when_put.f k bt154.2.2.2.1 2).bind fun t162 => (if (t161 ++ (⟨#[84]⟩ : ByteArray)).size + t162.size ≤ 9223372036854775807 then ((when_put.f k bt154.2.2.2.2.1 2).bind fun t163 => (if ((t161 ++ (⟨#[84]⟩ : ByteArray)) ++ t162).size + t163.size ≤ 9223372036854775807 then ((when_put.f k bt154.2.2.2.2.2.1 2).bind fun t164 => (if (((t161 ++ (⟨#[84]⟩ : ByteArray)) ++ t162) ++ t163).size + t164.size ≤ 9223372036854775807 then (if ((((t161 ++ (⟨#[84]⟩ : ByteArray)) ++ t162) ++ t163) ++ t164).size + 1 ≤ 9223372036854775807 then (some (((((t161 ++ (⟨#[84]⟩ : ByteArray)) ++ t162) ++ t163) ++ t164) ++ (⟨#[90]⟩ : ByteArray))) else (none)) else (none))) else (none))) else (none))) else (none))) else (some (⟨#[]⟩ : ByteArray)))) = some r := h
  clear h
  replace H := Option.bind_eq_some_iff.mp H
  obtain ⟨⟨t154, t155, t156, t157, t158, t159, t160⟩, A20, H⟩ := H
  replace H : (if t160 = true then ((when_Day.f k a0).bind fun t161 => (if t161.size + 1 ≤ 9223372036854775807 then ((when_put.f k t157 2).bind fun t162 => (if (t161 ++ (⟨#[84]⟩ : ByteArray)).size + t162.size ≤ 9223372036854775807 then ((when_put.f k t158 2).bind fun t163 => (if ((t161 ++ (⟨#[84]⟩ : ByteArray)) ++ t162).size + t163.size ≤ 9223372036854775807 then ((when_put.f k t159 2).bind fun t164 => (if (((t161 ++ (⟨#[84]⟩ : ByteArray)) ++ t162) ++ t163).size + t164.size ≤ 9223372036854775807 then (if ((((t161 ++ (⟨#[84]⟩ : ByteArray)) ++ t162) ++ t163) ++ t164).size + 1 ≤ 9223372036854775807 then (some (((((t161 ++ (⟨#[84]⟩ : ByteArray)) ++ t162) ++ t163) ++ t164) ++ (⟨#[90]⟩ : ByteArray))) else (none)) else (none))) else (none))) else (none))) else (none))) else (some (⟨#[]⟩ : ByteArray))) = some r := H
  have A2 := Aside0.mk A20
  clear A20
  by_cases c3 : t160 = true
  · subst c3
    have H1 : ((when_Day.f k a0).bind fun t161 => (if t161.size + 1 ≤ 9223372036854775807 then ((when_put.f k t157 2).bind fun t162 => (if (t161 ++ (⟨#[84]⟩ : ByteArray)).size + t162.size ≤ 9223372036854775807 then ((when_put.f k t158 2).bind fun t163 => (if ((t161 ++ (⟨#[84]⟩ : ByteArray)) ++ t162).size + t163.size ≤ 9223372036854775807 then ((when_put.f k t159 2).bind fun t164 => (if (((t161 ++ (⟨#[84]⟩ : ByteArray)) ++ t162) ++ t163).size + t164.size ≤ 9223372036854775807 then (if ((((t161 ++ (⟨#[84]⟩ : ByteArray)) ++ t162) ++ t163) ++ t164).size + 1 ≤ 9223372036854775807 then (some (((((t161 ++ (⟨#[84]⟩ : ByteArray)) ++ t162) ++ t163) ++ t164) ++ (⟨#[90]⟩ : ByteArray))) else (none)) else (none))) else (none))) else (none))) else (none))) = some r := by rw [if_pos rfl] at H; exact H
    clear H
    have H := H1
    clear H1
    replace H := Option.bind_eq_some_iff.mp H
    obtain ⟨t161, A40, H⟩ := H
    replace H : (if t161.size + 1 ≤ 9223372036854775807 then ((when_put.f k t157 2).bind fun t162 => (if (t161 ++ (⟨#[84]⟩ : ByteArray)).size + t162.size ≤ 9223372036854775807 then ((when_put.f k t158 2).bind fun t163 => (if ((t161 ++ (⟨#[84]⟩ : ByteArray)) ++ t162).size + t163.size ≤ 9223372036854775807 then ((when_put.f k t159 2).bind fun t164 => (if (((t161 ++ (⟨#[84]⟩ : ByteArray)) ++ t162) ++ t163).size + t164.size ≤ 9223372036854775807 then (if ((((t161 ++ (⟨#[84]⟩ : ByteArray)) ++ t162) ++ t163) ++ t164).size + 1 ≤ 9223372036854775807 then (some (((((t161 ++ (⟨#[84]⟩ : ByteArray)) ++ t162) ++ t163) ++ t164) ++ (⟨#[90]⟩ : ByteArray))) else (none)) else (none))) else (none))) else (none))) else (none)) = some r := H
    have A4 := Aside0.mk A40
    clear A40
    by_cases c5 : t161.size + 1 ≤ 9223372036854775807
    · rw [if_pos c5] at H
      have c5b0 := eq_true c5
      have c5b1 : decide (t161.size + 1 ≤ 9223372036854775807) = true := decide_eq_true c5
      try have c5b2 : (9223372036854775807 < t161.size + 1) = False := eq_false (Nat.not_lt.2 c5)
      try (have c5n : t161.size + 1 ≤ 9223372036854775807 := by have h_ := c5; simp only [ByteArray.size_append, ByteArray.size_extract] at h_; exact h_)
      try have c5f : (9223372036854775807 < t161.size + 1) = False := eq_false (by first | omega | (simp only [eq_iff_iff, iff_true] at *; omega))
      replace H := Option.bind_eq_some_iff.mp H
      obtain ⟨t162, A60, H⟩ := H
      replace H : (if (t161 ++ (⟨#[84]⟩ : ByteArray)).size + t162.size ≤ 9223372036854775807 then ((when_put.f k t158 2).bind fun t163 => (if ((t161 ++ (⟨#[84]⟩ : ByteArray)) ++ t162).size + t163.size ≤ 9223372036854775807 then ((when_put.f k t159 2).bind fun t164 => (if (((t161 ++ (⟨#[84]⟩ : ByteArray)) ++ t162) ++ t163).size + t164.size ≤ 9223372036854775807 then (if ((((t161 ++ (⟨#[84]⟩ : ByteArray)) ++ t162) ++ t163) ++ t164).size + 1 ≤ 9223372036854775807 then (some (((((t161 ++ (⟨#[84]⟩ : ByteArray)) ++ t162) ++ t163) ++ t164) ++ (⟨#[90]⟩ : ByteArray))) else (none)) else (none))) else (none))) else (none)) = some r := H
      have A6 := Aside0.mk A60
      clear A60
      by_cases c7 : (t161 ++ (⟨#[84]⟩ : ByteArray)).size + t162.size ≤ 9223372036854775807
      · rw [if_pos c7] at H
        have c7b0 := eq_true c7
        have c7b1 : decide ((t161 ++ (⟨#[84]⟩ : ByteArray)).size + t162.size ≤ 9223372036854775807) = true := decide_eq_true c7
        try have c7b2 : (9223372036854775807 < (t161 ++ (⟨#[84]⟩ : ByteArray)).size + t162.size) = False := eq_false (Nat.not_lt.2 c7)
        try (have c7n : t161.size + 1 + t162.size ≤ 9223372036854775807 := by have h_ := c7; simp only [ByteArray.size_append, ByteArray.size_extract] at h_; exact h_)
        try have c7f : (9223372036854775807 < t161.size + 1 + t162.size) = False := eq_false (by first | omega | (simp only [eq_iff_iff, iff_true] at *; omega))
        replace H := Option.bind_eq_some_iff.mp H
        obtain ⟨t163, A80, H⟩ := H
        replace H : (if ((t161 ++ (⟨#[84]⟩ : ByteArray)) ++ t162).size + t163.size ≤ 9223372036854775807 then ((when_put.f k t159 2).bind fun t164 => (if (((t161 ++ (⟨#[84]⟩ : ByteArray)) ++ t162) ++ t163).size + t164.size ≤ 9223372036854775807 then (if ((((t161 ++ (⟨#[84]⟩ : ByteArray)) ++ t162) ++ t163) ++ t164).size + 1 ≤ 9223372036854775807 then (some (((((t161 ++ (⟨#[84]⟩ : ByteArray)) ++ t162) ++ t163) ++ t164) ++ (⟨#[90]⟩ : ByteArray))) else (none)) else (none))) else (none)) = some r := H
        have A8 := Aside0.mk A80
        clear A80
        by_cases c9 : ((t161 ++ (⟨#[84]⟩ : ByteArray)) ++ t162).size + t163.size ≤ 9223372036854775807
        · rw [if_pos c9] at H
          have c9b0 := eq_true c9
          have c9b1 : decide (((t161 ++ (⟨#[84]⟩ : ByteArray)) ++ t162).size + t163.size ≤ 9223372036854775807) = true := decide_eq_true c9
          try have c9b2 : (9223372036854775807 < ((t161 ++ (⟨#[84]⟩ : ByteArray)) ++ t162).size + t163.size) = False := eq_false (Nat.not_lt.2 c9)
          try (have c9n : t161.size + 1 + t162.size + t163.size ≤ 9223372036854775807 := by have h_ := c9; simp only [ByteArray.size_append, ByteArray.size_extract] at h_; exact h_)
          try have c9f : (9223372036854775807 < t161.size + 1 + t162.size + t163.size) = False := eq_false (by first | omega | (simp only [eq_iff_iff, iff_true] at *; omega))
          replace H := Option.bind_eq_some_iff.mp H
          obtain ⟨t164, A100, H⟩ := H
          replace H : (if (((t161 ++ (⟨#[84]⟩ : ByteArray)) ++ t162) ++ t163).size + t164.size ≤ 9223372036854775807 then (if ((((t161 ++ (⟨#[84]⟩ : ByteArray)) ++ t162) ++ t163) ++ t164).size + 1 ≤ 9223372036854775807 then (some (((((t161 ++ (⟨#[84]⟩ : ByteArray)) ++ t162) ++ t163) ++ t164) ++ (⟨#[90]⟩ : ByteArray))) else (none)) else (none)) = some r := H
          have A10 := Aside0.mk A100
          clear A100
          by_cases c11 : (((t161 ++ (⟨#[84]⟩ : ByteArray)) ++ t162) ++ t163).size + t164.size ≤ 9223372036854775807
          · rw [if_pos c11] at H
            have c11b0 := eq_true c11
            have c11b1 : decide ((((t161 ++ (⟨#[84]⟩ : ByteArray)) ++ t162) ++ t163).size + t164.size ≤ 9223372036854775807) = true := decide_eq_true c11
            try have c11b2 : (9223372036854775807 < (((t161 ++ (⟨#[84]⟩ : ByteArray)) ++ t162) ++ t163).size + t164.size) = False := eq_false (Nat.not_lt.2 c11)
            try (have c11n : t161.size + 1 + t162.size + t163.size + t164.size ≤ 9223372036854775807 := by have h_ := c11; simp only [ByteArray.size_append, ByteArray.size_extract] at h_; exact h_)
            try have c11f : (9223372036854775807 < t161.size + 1 + t162.size + t163.size + t164.size) = False := eq_false (by first | omega | (simp only [eq_iff_iff, iff_true] at *; omega))
            by_cases c12 : ((((t161 ++ (⟨#[84]⟩ : ByteArray)) ++ t162) ++ t163) ++ t164).size + 1 ≤ 9223372036854775807
            · rw [if_pos c12] at H
              have c12b0 := eq_true c12
              have c12b1 : decide (((((t161 ++ (⟨#[84]⟩ : ByteArray)) ++ t162) ++ t163) ++ t164).size + 1 ≤ 9223372036854775807) = true := decide_eq_true c12
              try have c12b2 : (9223372036854775807 < ((((t161 ++ (⟨#[84]⟩ : ByteArray)) ++ t162) ++ t163) ++ t164).size + 1) = False := eq_false (Nat.not_lt.2 c12)
              try (have c12n : t161.size + 1 + t162.size + t163.size + t164.size + 1 ≤ 9223372036854775807 := by have h_ := c12; simp only [ByteArray.size_append, ByteArray.size_extract] at h_; exact h_)
              try have c12f : (9223372036854775807 < t161.size + 1 + t162.size + t163.size + t164.size + 1) = False := eq_false (by first | omega | (simp only [eq_iff_iff, iff_true] at *; omega))
              obtain rfl := Option.some.inj H
              go_enter Try.func13, Try.ntmps13
              go_wp2_with (first | ((with_reducible refine gate_callee (f := 9) rfl ?_); refine goesL_ (some 12) rfl rfl Try.func9 (by kernel_rfl) rfl #[.int .i64 a0] rfl (by (try simp only [List.map_toArray, List.map_cons, List.map_nil]); first | done | rfl | (simp only [List.length_drop, List.length_take]; rfl)) ?_; (with_reducible refine (when_Civil.calls k a0 t154 t155 t156 t157 t158 t159 true _ A2.out).mono ?_); rintro e w' ⟨rfl, ⟨nd, rfl⟩⟩; refine ⟨_, rfl, ?_⟩) | ((with_reducible refine gate_callee (f := 15) rfl ?_); refine goesL_ (some 23) rfl rfl Try.func15 (by kernel_rfl) rfl #[.int .i64 a0] rfl (by (try simp only [List.map_toArray, List.map_cons, List.map_nil]); first | done | rfl | (simp only [List.length_drop, List.length_take]; rfl)) ?_; (with_reducible refine (when_Day.calls k a0 t161 _ A4.out).mono ?_); rintro e w13 ⟨rfl, hb⟩; refine ⟨_, rfl, ?_⟩; have n0_ := Aside0.mk (below_step (by repeat (first | (with_reducible first | exact HB.out | apply below_alloc | apply pw_below_drewN | apply below_drew1) | exact HB.out)) hb); clear HB; have HB := n0_; clear n0_; (try clear hb); (try clear hb2); (try clear hk); (try clear hi)) | ((with_reducible refine gate_callee (f := 33) rfl ?_); refine goesL_ (some 26) rfl rfl Try.func33 (by kernel_rfl) rfl #[.int .i64 t157, .int .i64 2] rfl (by (try simp only [List.map_toArray, List.map_cons, List.map_nil]); first | done | rfl | (simp only [List.length_drop, List.length_take]; rfl)) ?_; (with_reducible refine (when_put.calls k t157 2 t162 _ A6.out).mono ?_); rintro e w14 ⟨rfl, hb⟩; refine ⟨_, rfl, ?_⟩; have n0_ := Aside0.mk (below_step (by repeat (first | (with_reducible first | exact HB.out | apply below_alloc | apply pw_below_drewN | apply below_drew1) | exact HB.out)) hb); clear HB; have HB := n0_; clear n0_; (try clear hb); (try clear hb2); (try clear hk); (try clear hi)) | ((with_reducible refine gate_callee (f := 33) rfl ?_); refine goesL_ (some 29) rfl rfl Try.func33 (by kernel_rfl) rfl #[.int .i64 t158, .int .i64 2] rfl (by (try simp only [List.map_toArray, List.map_cons, List.map_nil]); first | done | rfl | (simp only [List.length_drop, List.length_take]; rfl)) ?_; (with_reducible refine (when_put.calls k t158 2 t163 _ A8.out).mono ?_); rintro e w15 ⟨rfl, hb⟩; refine ⟨_, rfl, ?_⟩; have n0_ := Aside0.mk (below_step (by repeat (first | (with_reducible first | exact HB.out | apply below_alloc | apply pw_below_drewN | apply below_drew1) | exact HB.out)) hb); clear HB; have HB := n0_; clear n0_; (try clear hb); (try clear hb2); (try clear hk); (try clear hi)) | ((with_reducible refine gate_callee (f := 33) rfl ?_); refine goesL_ (some 32) rfl rfl Try.func33 (by kernel_rfl) rfl #[.int .i64 t159, .int .i64 2] rfl (by (try simp only [List.map_toArray, List.map_cons, List.map_nil]); first | done | rfl | (simp only [List.length_drop, List.length_take]; rfl)) ?_; (with_reducible refine (when_put.calls k t159 2 t164 _ A10.out).mono ?_); rintro e w16 ⟨rfl, hb⟩; refine ⟨_, rfl, ?_⟩; have n0_ := Aside0.mk (below_step (by repeat (first | (with_reducible first | exact HB.out | apply below_alloc | apply pw_below_drewN | apply below_drew1) | exact HB.out)) hb); clear HB; have HB := n0_; clear n0_; (try clear hb); (try clear hb2); (try clear hk); (try clear hi)))
              go_ret
              exact ⟨by first | rfl | (simp [errW_none, errW_some] <;> rfl) | (simp [*, errW_none, errW_some] <;> rfl), by repeat (first | (with_reducible first | exact HB.out | apply below_alloc | apply pw_below_drewN | apply below_drew1) | exact HB.out)⟩
            · rw [if_neg c12] at H
              exact absurd H (by simp)
          · rw [if_neg c11] at H
            exact absurd H (by simp)
        · rw [if_neg c9] at H
          exact absurd H (by simp)
      · rw [if_neg c7] at H
        exact absurd H (by simp)
    · rw [if_neg c5] at H
      exact absurd H (by simp)
  · replace c3 := Bool.eq_false_iff.mpr c3
    subst c3
    have H1 : (some (⟨#[]⟩ : ByteArray)) = some r := by rw [if_neg (show ¬ (false = true) by decide)] at H; exact H
    clear H
    have H := H1
    clear H1
    obtain rfl := Option.some.inj H
    go_enter Try.func13, Try.ntmps13
    go_wp2_with (first | ((with_reducible refine gate_callee (f := 9) rfl ?_); refine goesL_ (some 12) rfl rfl Try.func9 (by kernel_rfl) rfl #[.int .i64 a0] rfl (by (try simp only [List.map_toArray, List.map_cons, List.map_nil]); first | done | rfl | (simp only [List.length_drop, List.length_take]; rfl)) ?_; (with_reducible refine (when_Civil.calls k a0 t154 t155 t156 t157 t158 t159 false _ A2.out).mono ?_); rintro e w' ⟨rfl, ⟨nd, rfl⟩⟩; refine ⟨_, rfl, ?_⟩))
    go_ret
    exact ⟨by first | rfl | (simp [errW_none, errW_some] <;> rfl) | (simp [*, errW_none, errW_some] <;> rfl), by repeat (first | (with_reducible first | exact HB.out | apply below_alloc | apply pw_below_drewN | apply below_drew1) | exact HB.out)⟩

end Go.Proofs.Yteggifhicmbopaa.Q

/- What some Go functions compute, told as plain Lean functions, each with the proof that the call comes to just that, for all arguments. Conditions: those in the theorems. Written by a program of this session. -/
namespace Go.Proofs.Yteggifhicmbopaa.Q
open Go.RowKit Go.Proofs.YteggifhicmbopaaW.PrintWords Go.Proofs.YteggifhicmbopaaW.PrintLast Go.Proofs.YteggifhicmbopaaW.PrintMore
set_option linter.unusedVariables false
set_option linter.unusedSimpArgs false
attribute [local go_sem] max2_int min2_int max_two min_two max_three min_three max_four min_four   -- for this text's walks alone

/-! ### when_get: function 40 -/
def when_get.l0 : Nat → ByteArray → Int → Int → Int → Int → Option (Int × Bool)
  | 0, _, _, _, _, _ => none
  | k + 1, x0, x1, x2, x8, x9 => if x9 < (wrap64 (x1 + x2)) then (if x9 ≥ (x0.size : Int) then (some (0, false)) else (if 0 ≤ x9 then (if x9 < (x0.size : Int) then (if (bt x0 x9) < 48 then (some (0, false)) else (if (bt x0 x9) > 57 then (some (0, false)) else (when_get.l0 k x0 x1 x2 (wrap64 ((wrap64 (10 * x8)) + (((bt x0 x9) - 48) % 256))) (wrap64 (x9 + 1))))) else (none)) else (none))) else (some (x8, true))
def when_get.f (k : Nat) (a0 : ByteArray) (a1 : Int) (a2 : Int) : Option (Int × Bool) := when_get.l0 k a0 a1 a2 0 a1
theorem when_get.mono_l : ∀ k, (∀ y0 y1 y2 y3 y4, LeO (when_get.l0 k y0 y1 y2 y3 y4) (when_get.l0 (k + 1) y0 y1 y2 y3 y4))
  | 0 => fun _ _ _ _ _ r h => by simp [when_get.l0] at h
  | k + 1 => by
    have ih0 := when_get.mono_l k
    · intro y0 y1 y2 y3 y4
      unfold when_get.l0
      repeat' first
      | (with_reducible exact ih0 _ _ _ _ _)
      | (with_reducible exact LeO.refl _)
      | (with_reducible exact LeO.none _)
      | (with_reducible refine LeO.ite ?_ ?_)
      | (with_reducible refine LeO.bind ?_ (fun _ => ?_))
      | exact ih0 _ _ _ _ _
      | exact LeO.none _
      | refine LeO.ite ?_ ?_
      | refine LeO.bind ?_ (fun _ => ?_)
theorem when_get.mono : ∀ a0 a1 a2 k, LeO (when_get.f k a0 a1 a2) (when_get.f (k + 1) a0 a1 a2) := by
  intro a0 a1 a2 k
  have ih0 := when_get.mono_l k
  unfold when_get.f
  repeat' first
      | (with_reducible exact ih0 _ _ _ _ _)
      | (with_reducible exact LeO.refl _)
      | (with_reducible exact LeO.none _)
      | (with_reducible refine LeO.ite ?_ ?_)
      | (with_reducible refine LeO.bind ?_ (fun _ => ?_))
      | exact ih0 _ _ _ _ _
      | exact LeO.none _
      | refine LeO.ite ?_ ?_
      | refine LeO.bind ?_ (fun _ => ?_)
set_option maxHeartbeats 8000000 in
set_option maxRecDepth 100000 in
theorem when_get.calls (k : Nat) (a0 : ByteArray) (a1 : Int) (a2 : Int) (r1 : Int) (r2 : Bool) (w : World) (h : when_get.f k a0 a1 a2 = some (r1, r2)) :
    Calls Try.prog 40 #[.string a0, .int .i64 a1, .int .i64 a2] w fun e w' => e = .returned (.tuple #[.int .i64 r1, .bool r2]) ∧ Drawn0 w w' := by
  have H : (when_get.l0 k a0 a1 a2 0 a1) = some (r1, r2) := h
  clear h
  have H' := Aside0.mk H
  clear H
  go_enter Try.func40, Try.ntmps40
  go_wp2
  go_loopg [8, 9] k (fun kq v8 v9 w' => ∃ (x8_1 : Int) (x9_1 : Int), v8 = .int .i64 x8_1 ∧ v9 = .int .i64 x9_1 ∧ Aside0 (when_get.l0 kq a0 a1 a2 x8_1 x9_1 = some (r1, r2)) ∧ Aside0 (kq ≤ k) ∧ Drawn0 w w')
  case atStart => exact ⟨(0), (a1), (by first | rfl | (simp; done) | (simp [*]; done)), (by first | rfl | (simp; done) | (simp [*]; done)), H', ⟨Nat.le_refl _⟩, by repeat (first | exact Drawn0.refl _ | apply Drawn0.step)⟩
  case round =>
    clear H'
    try clear p2
    obtain ⟨x8_1, x9_1, rfl, rfl, HA, HK1, ⟨m1, rfl⟩⟩ := hrel
    cases gk with
    | zero => exact absurd HA.out (by simp [when_get.l0])
    | succ k1 =>
      have H := HA.out
      clear HA
      simp only [when_get.l0] at H
      by_cases c4 : x9_1 < (wrap64 (a1 + a2))
      · rw [if_pos c4] at H
        have c4b0 : decide (x9_1 < (wrap64 (a1 + a2))) = true := decide_eq_true c4
        clear c4
        by_cases c5 : x9_1 ≥ (a0.size : Int)
        · rw [if_pos c5] at H
          have c5b0 : decide ((a0.size : Int) ≤ x9_1) = true := decide_eq_true c5
          clear c5
          simp only [Option.some.injEq, Prod.mk.injEq] at H
          obtain ⟨rfl, rfl⟩ := H
          go_wp2
          go_ret2
          exact ⟨by first | rfl | (simp; done) | (simp [*]; done), by repeat (first | exact Drawn0.refl _ | apply Drawn0.step)⟩
        · rw [if_neg c5] at H
          have c5b0 : decide ((a0.size : Int) ≤ x9_1) = false := decide_eq_false c5
          clear c5
          by_cases c6 : 0 ≤ x9_1
          · rw [if_pos c6] at H
            have c6b0 : decide (0 ≤ x9_1) = true := decide_eq_true c6
            clear c6
            by_cases c7 : x9_1 < (a0.size : Int)
            · rw [if_pos c7] at H
              have c7b0 : decide (x9_1 < (a0.size : Int)) = true := decide_eq_true c7
              clear c7
              by_cases c9 : (bt a0 x9_1) < 48
              · rw [if_pos c9] at H
                have c9b0 : decide ((bt a0 x9_1) < 48) = true := decide_eq_true c9
                clear c9
                simp only [Option.some.injEq, Prod.mk.injEq] at H
                obtain ⟨rfl, rfl⟩ := H
                have p8 : 0 ≤ (x9_1 : Int) := of_decide_eq_true (by first | (with_reducible assumption) | assumption)
                have q8 : x9_1 < (a0.size : Int) := of_decide_eq_true (by first | (with_reducible assumption) | assumption)
                have hx8 := bt_at a0 x9_1
                replace p8 := eq_true p8
                replace q8 := eq_true q8
                go_wp2
                go_ret2
                exact ⟨by first | rfl | (simp; done) | (simp [*]; done), by repeat (first | exact Drawn0.refl _ | apply Drawn0.step)⟩
              · rw [if_neg c9] at H
                have c9b0 : decide ((bt a0 x9_1) < 48) = false := decide_eq_false c9
                clear c9
                by_cases c11 : (bt a0 x9_1) > 57
                · rw [if_pos c11] at H
                  have c11b0 : decide (57 < (bt a0 x9_1)) = true := decide_eq_true c11
                  clear c11
                  simp only [Option.some.injEq, Prod.mk.injEq] at H
                  obtain ⟨rfl, rfl⟩ := H
                  have p8 : 0 ≤ (x9_1 : Int) := of_decide_eq_true (by first | (with_reducible assumption) | assumption)
                  have q8 : x9_1 < (a0.size : Int) := of_decide_eq_true (by first | (with_reducible assumption) | assumption)
                  have hx8 := bt_at a0 x9_1
                  replace p8 := eq_true p8
                  replace q8 := eq_true q8
                  have p10 : 0 ≤ (x9_1 : Int) := of_decide_eq_true (by first | (with_reducible assumption) | assumption)
                  have q10 : x9_1 < (a0.size : Int) := of_decide_eq_true (by first | (with_reducible assumption) | assumption)
                  have hx10 := bt_at a0 x9_1
                  replace p10 := eq_true p10
                  replace q10 := eq_true q10
                  go_wp2
                  go_ret2
                  exact ⟨by first | rfl | (simp; done) | (simp [*]; done), by repeat (first | exact Drawn0.refl _ | apply Drawn0.step)⟩
                · rw [if_neg c11] at H
                  have c11b0 : decide (57 < (bt a0 x9_1)) = false := decide_eq_false c11
                  clear c11
                  have H' := Aside0.mk H
                  clear H
                  have p8 : 0 ≤ (x9_1 : Int) := of_decide_eq_true (by first | (with_reducible assumption) | assumption)
                  have q8 : x9_1 < (a0.size : Int) := of_decide_eq_true (by first | (with_reducible assumption) | assumption)
                  have hx8 := bt_at a0 x9_1
                  replace p8 := eq_true p8
                  replace q8 := eq_true q8
                  have p10 : 0 ≤ (x9_1 : Int) := of_decide_eq_true (by first | (with_reducible assumption) | assumption)
                  have q10 : x9_1 < (a0.size : Int) := of_decide_eq_true (by first | (with_reducible assumption) | assumption)
                  have hx10 := bt_at a0 x9_1
                  replace p10 := eq_true p10
                  replace q10 := eq_true q10
                  have p12 : 0 ≤ (x9_1 : Int) := of_decide_eq_true (by first | (with_reducible assumption) | assumption)
                  have q12 : x9_1 < (a0.size : Int) := of_decide_eq_true (by first | (with_reducible assumption) | assumption)
                  have hx12 := bt_at a0 x9_1
                  replace p12 := eq_true p12
                  replace q12 := eq_true q12
                  go_wp2
                  go_roundg k1
                  case measure => have := HK1.out; omega
                  case rel => exact ⟨(wrap64 ((wrap64 (10 * x8_1)) + (((bt a0 x9_1) - 48) % 256))), (wrap64 (x9_1 + 1)), (by first | rfl | (simp; done) | (simp [*]; done)), (by first | rfl | (simp; done) | (simp [*]; done)), H', ⟨by have := HK1.out; omega⟩, by repeat (first | exact Drawn0.refl _ | apply Drawn0.step)⟩
            · rw [if_neg c7] at H
              exact absurd H (by simp)
          · rw [if_neg c6] at H
            exact absurd H (by simp)
      · rw [if_neg c4] at H
        have c4b0 : decide (x9_1 < (wrap64 (a1 + a2))) = false := decide_eq_false c4
        clear c4
        simp only [Option.some.injEq, Prod.mk.injEq] at H
        obtain ⟨rfl, rfl⟩ := H
        go_wp2
        go_ret2
        exact ⟨by first | rfl | (simp; done) | (simp [*]; done), by repeat (first | exact Drawn0.refl _ | apply Drawn0.step)⟩

end Go.Proofs.Yteggifhicmbopaa.Q

/- What some Go functions compute, told as plain Lean functions, each with the proof that the call comes to just that, for all arguments. Conditions: those in the theorems. Written by a program of this session. -/
namespace Go.Proofs.Yteggifhicmbopaa.Q
open Go.RowKit Go.Proofs.YteggifhicmbopaaW.PrintWords Go.Proofs.YteggifhicmbopaaW.PrintLast Go.Proofs.YteggifhicmbopaaW.PrintMore
set_option linter.unusedVariables false
set_option linter.unusedSimpArgs false
attribute [local go_sem] max2_int min2_int max_two min_two max_three min_three max_four min_four   -- for this text's walks alone

/-! ### when_all: function 35 -/
def when_all.l0 : Nat → ByteArray → List Int → List (S45) → Int → Int → Option (List Int × Bool)
  | 0, _, _, _, _, _ => none
  | k + 1, x0, x6, x11, x12, x13 => if x13 < x12 then (if 0 ≤ x13 then (if x13 < (x11.length : Int) then ((when_get.f k x0 ((rd_T45 x11 x13).f0) ((rd_T45 x11 x13).f1)).bind fun bt167 => (if bt167.2 = true then (if x6.length < 17592186044416 then (when_all.l0 k x0 (x6 ++ [bt167.1]) x11 x12 (wrap64 (x13 + 1))) else (none)) else (some (([] : List Int), false)))) else (none)) else (none)) else (some (x6, true))
def when_all.f (k : Nat) (a0 : ByteArray) (l1 : List (S45)) : Option (List Int × Bool) := when_all.l0 k a0 ([] : List Int) l1 (l1.length : Int) 0
theorem when_all.mono_l : ∀ k, (∀ y0 y1 y2 y3 y4, LeO (when_all.l0 k y0 y1 y2 y3 y4) (when_all.l0 (k + 1) y0 y1 y2 y3 y4))
  | 0 => fun _ _ _ _ _ r h => by simp [when_all.l0] at h
  | k + 1 => by
    have ih0 := when_all.mono_l k
    · intro y0 y1 y2 y3 y4
      unfold when_all.l0
      repeat' first
      | (with_reducible exact ih0 _ _ _ _ _)
      | (with_reducible exact when_get.mono _ _ _ _)
      | (with_reducible exact LeO.refl _)
      | (with_reducible exact LeO.none _)
      | (with_reducible refine LeO.ite ?_ ?_)
      | (with_reducible refine LeO.bind ?_ (fun _ => ?_))
      | exact ih0 _ _ _ _ _
      | exact when_get.mono _ _ _ _
      | exact LeO.none _
      | refine LeO.ite ?_ ?_
      | refine LeO.bind ?_ (fun _ => ?_)
theorem when_all.mono : ∀ a0 a1 k, LeO (when_all.f k a0 a1) (when_all.f (k + 1) a0 a1) := by
  intro a0 a1 k
  have ih0 := when_all.mono_l k
  unfold when_all.f
  repeat' first
      | (with_reducible exact ih0 _ _ _ _ _)
      | (with_reducible exact when_get.mono _ _ _ _)
      | (with_reducible exact LeO.refl _)
      | (with_reducible exact LeO.none _)
      | (with_reducible refine LeO.ite ?_ ?_)
      | (with_reducible refine LeO.bind ?_ (fun _ => ?_))
      | exact ih0 _ _ _ _ _
      | exact when_get.mono _ _ _ _
      | exact LeO.none _
      | refine LeO.ite ?_ ?_
      | refine LeO.bind ?_ (fun _ => ?_)
set_option maxHeartbeats 8000000 in
set_option maxRecDepth 100000 in
theorem when_all.calls (k : Nat) (a0 : ByteArray) (A1 : Option Addr) (c1 : Nat) (l1 : List (S45)) (r1 : List Int) (r2 : Bool) (w : World) (hr1 : Kd.C k45 w A1 l1.length l1) (hc1 : l1.length ≤ c1) (h : when_all.f k a0 l1 = some (r1, r2)) :
    Calls Try.prog 35 #[.string a0, .slice A1 l1.length c1] w fun e w' => ∃ v0_ : Value, e = .returned (.tuple #[v0_, .bool r2]) ∧ Kd.R (Kd.int .i64) 3 w' w.heap.size (fun _ => True) v0_ r1 ∧ Below w.heap.size w w' := by
  have hu45 := Try.underlying45
  have HR1 := Aside0.mk hr1
  have HC1 := Aside0.mk hc1
  clear hr1 hc1
  have HB := Aside0.mk (Below.refl w.heap.size w)
  have H : (when_all.l0 k a0 ([] : List Int) l1 (l1.length : Int) 0) = some (r1, r2) := h
  clear h
  have H' := Aside0.mk H
  clear H
  go_enter Try.func35, Try.ntmps35
  go_wp2
  go_loopg [6, 13] k (fun kq v6 v13 w' => ∃ (x6_1 : List Int) (x13_1 : Int), v13 = .int .i64 x13_1 ∧ Aside0 (when_all.l0 kq a0 x6_1 l1 (l1.length : Int) x13_1 = some (r1, r2)) ∧ Aside0 (kq ≤ k) ∧ Aside0 (Kd.R (Kd.int .i64) 3 w' w.heap.size (fun _ => True) v6 x6_1) ∧ Aside0 (Below w.heap.size w w'))
  case atStart => exact ⟨(([] : List Int)), (0), (by first | rfl | (simp; done) | (simp [*]; done)), H', ⟨Nat.le_refl _⟩, ⟨by first | exact Kd.R_nil _ _ _ _ _ | exact Kd.N_nil _ _ _ _ _ | exact Kd.V_nil _ _ _ _ _ | exact Kd.Q_nil _ _ _ _ _ | exact Kd.S_nil _ _ _ _ _⟩, ⟨by repeat (first | (with_reducible first | exact HB.out | apply below_alloc | apply pw_below_drewN | apply below_drew1) | exact HB.out)⟩⟩
  case round =>
    clear H'
    try clear c1
    try clear p2
    obtain ⟨x6_1, x13_1, rfl, HA, HK1, HO_6, HB⟩ := hrel
    cases gk with
    | zero => exact absurd HA.out (by simp [when_all.l0])
    | succ k1 =>
      have H := HA.out
      clear HA
      simp only [when_all.l0] at H
      by_cases c3 : x13_1 < (l1.length : Int)
      · rw [if_pos c3] at H
        have c3b0 : decide (x13_1 < (l1.length : Int)) = true := decide_eq_true c3
        clear c3
        by_cases c4 : 0 ≤ x13_1
        · rw [if_pos c4] at H
          have c4b0 : decide (0 ≤ x13_1) = true := decide_eq_true c4
          clear c4
          by_cases c5 : x13_1 < (l1.length : Int)
          · rw [if_pos c5] at H
            have c5b0 : decide (x13_1 < (l1.length : Int)) = true := decide_eq_true c5
            clear c5
            replace H := Option.bind_eq_some_iff.mp H
            obtain ⟨⟨t167, t168⟩, A60, H⟩ := H
            replace H : (if t168 = true then (if x6_1.length < 17592186044416 then (when_all.l0 k1 a0 (x6_1 ++ [t167]) l1 (l1.length : Int) (wrap64 (x13_1 + 1))) else (none)) else (some (([] : List Int), false))) = some (r1, r2) := H
            have A6 := Aside0.mk A60
            clear A60
            by_cases c7 : t168 = true
            · subst c7
              have H1 : (if x6_1.length < 17592186044416 then (when_all.l0 k1 a0 (x6_1 ++ [t167]) l1 (l1.length : Int) (wrap64 (x13_1 + 1))) else (none)) = some (r1, r2) := by rw [if_pos rfl] at H; exact H
              clear H
              have H := H1
              clear H1
              by_cases c8 : x6_1.length < 17592186044416
              · rw [if_pos c8] at H
                have LMc8 := Aside0.mk c8
                clear c8
                obtain ⟨y169, hy169⟩ : ∃ y_ : List Int, y_ = (x6_1 ++ [t167]) := ⟨_, rfl⟩
                replace H : (when_all.l0 k1 a0 y169 l1 (l1.length : Int) (wrap64 (x13_1 + 1))) = some (r1, r2) := by first | (rw [hy169]; with_reducible exact H) | (have H2_ := (Option.bind_some _ _).symm.trans H; rw [hy169]; with_reducible exact H2_) | (have H2_ := (Option.bind_some _ _).symm.trans H; with_reducible exact H2_) | with_reducible exact H | (rw [hy169]; exact H) | exact H
                have Ny169 := Aside0.mk hy169
                clear hy169
                have H' := Aside0.mk H
                clear H
                have p165 : 0 ≤ (x13_1 : Int) := of_decide_eq_true (by first | (with_reducible assumption) | assumption)
                have q165 : x13_1 < (l1.length : Int) := of_decide_eq_true (by first | (with_reducible assumption) | assumption)
                obtain ⟨ad165, e165, hx165_0, hx165_1⟩ := at_T45 HR1.out x13_1 p165 q165
                cases e165
                replace hx165_0 := (HB.out.cell (World.block_lt_of_cell? w _ hx165_0)).trans hx165_0
                replace hx165_1 := (HB.out.cell (World.block_lt_of_cell? w _ hx165_1)).trans hx165_1
                replace p165 := eq_true p165
                replace q165 := eq_true q165
                go_wp2_with (first | ((with_reducible refine gate_dst (N := 8) rfl ?_); refine box_event ?hg (N := 8) ?hd (cs := #[.int .i64 0, .int .i64 0]) (t := 45) ?hr ?_; (case hd => rfl); (case hg => rfl); (case hr => first | (go_simp; done) | (go_simp; rfl)); intro gb166 hg w9 hbox hb; have n0_ := Aside0.mk (Kd.R_below (by (with_reducible repeat (first | apply Kd.R_alloc | apply Kd.R_drewN | apply Kd.R_drew)); exact HO_6.out) hb); have n1_ := Aside0.mk (below_step (by repeat (first | (with_reducible first | exact HB.out | apply below_alloc | apply pw_below_drewN | apply below_drew1) | exact HB.out)) hb); have n2_ := Aside0.mk (hbox); have n3_ := Aside0.mk ((by rw [hg]; exact (below_size (by repeat (first | (with_reducible first | exact HB.out | apply below_alloc | apply pw_below_drewN | apply below_drew1) | exact HB.out))) : w.heap.size ≤ gb166)); have n4_ := Aside0.mk ((by rw [hg]; exact (below_size (by repeat (first | (with_reducible first | exact HB.out | apply below_alloc | apply pw_below_drewN | apply below_drew1) | exact HB.out))) : w.heap.size ≤ gb166)); clear HO_6; clear HB; have HO_6 := n0_; have HB := n1_; have BK166 := n2_; have GW166 := n3_; have GE166 := n4_; clear n0_ n1_ n2_ n3_ n4_; clear hb hbox hg; have hcz10_0 : w9.cell? ⟨gb166, 0, none⟩ = some (.int .i64 0) := (blk_cell BK166.out 0).trans rfl; have hcz10_1 : w9.cell? ⟨gb166, 1, none⟩ = some (.int .i64 0) := (blk_cell BK166.out 1).trans rfl; have hfz10_0 := blk_frozen BK166.out 0; have hfz10_1 := blk_frozen BK166.out 1) | ((with_reducible refine gate_callee (f := 40) rfl ?_); refine goesL_ (some 23) rfl rfl Try.func40 (by kernel_rfl) rfl #[.string a0, .int .i64 ((rd_T45 l1 x13_1).f0), .int .i64 ((rd_T45 l1 x13_1).f1)] rfl (by (try simp only [List.map_toArray, List.map_cons, List.map_nil]); first | done | rfl | (simp only [List.length_drop, List.length_take]; rfl)) ?_; (with_reducible refine (when_get.calls k1 a0 ((rd_T45 l1 x13_1).f0) ((rd_T45 l1 x13_1).f1) t167 true _ A6.out).mono ?_); rintro e w' ⟨rfl, ⟨nd, rfl⟩⟩; refine ⟨_, rfl, ?_⟩) | ((with_reducible refine gate_builtin (b := .append) (xs := #[.tmp 28, .tmp 30]) rfl ?_); at_builtin; refine Kd.R_append (Kd.int .i64) (w0 := w) w.heap.size rfl (.tmp 28) (.tmp 30) 42 3 (.int .i64 0) 8 rfl Try.underlying42 info3 rfl (by decide) (by omega) u6 x6_1 t167 [.int .i64 t167] (fun _ => True) (fun _ => False) rfl (by first | (go_simp; done) | (go_simp; rfl)) ?aP (fun _ hk => hk.elim) ?aF ?aO ?aB ?aS ?aL ?_; (case aP => exact rfl); (case aB => exact (by repeat (first | (with_reducible first | exact HB.out | apply below_alloc | apply pw_below_drewN | apply below_drew1 | refine below_set ?_ GE166.out) | exact HB.out))); (case aF => exact (fun _ _ => trivial)); (case aO => exact (by (with_reducible repeat (first | apply Kd.R_alloc | apply Kd.R_drewN | apply Kd.R_drew)); exact Kd.R_mono (Kd.R_far (p := ⟨gb166, 1, none⟩) (Kd.R_far (p := ⟨gb166, 0, none⟩) (Kd.R_types HO_6.out BK166.out (by decide)) (fun _ hk => hk.2) (.int .i64 ((rd_T45 l1 x13_1).f0))) (fun _ hk => hk.2) (.int .i64 ((rd_T45 l1 x13_1).f1))) (fun _ hk => trivial))); (case aS => exact (below_size (by repeat (first | (with_reducible first | exact HB.out | apply below_alloc | apply pw_below_drewN | apply below_drew1 | refine below_set ?_ GE166.out) | exact HB.out)))); (case aL => have := LMc8.out; omega); intro v170 w11 ho hb hg hat; rw [← Ny169.out] at ho; have n0_ := Aside0.mk (blk_grown (g := gb166) (o := .cells #[.int .i64 ((rd_T45 l1 x13_1).f0), .int .i64 ((rd_T45 l1 x13_1).f1)] 45 (0, 0)) (by (with_reducible repeat (first | refine blk_drewN ?_ _ | refine blk_drew ?_ | refine blk_alloc ?_ _)); refine blk_put (cs := #[.int .i64 ((rd_T45 l1 x13_1).f0), .int .i64 0]) ?_ 1 _ rfl; (with_reducible repeat (first | refine blk_drewN ?_ _ | refine blk_drew ?_ | refine blk_alloc ?_ _)); refine blk_put (cs := #[.int .i64 0, .int .i64 0]) ?_ 0 _ rfl; (with_reducible repeat (first | refine blk_drewN ?_ _ | refine blk_drew ?_ | refine blk_alloc ?_ _)); exact BK166.out) hg (Kd.R_ne HO_6.out BK166.out (by decide))); have n1_ := Aside0.mk (hb); have n2_ := Aside0.mk (ho); clear BK166; clear HB; clear HO_6; have BK166 := n0_; have HB := n1_; have HO171 := n2_; clear n0_ n1_ n2_; clear ho hb hg hat))
                go_roundg k1
                case measure => have := HK1.out; omega
                case rel => exact ⟨(y169), (wrap64 (x13_1 + 1)), (by first | rfl | (simp; done) | (simp [*]; done)), H', ⟨by have := HK1.out; omega⟩, ⟨by (with_reducible repeat (first | apply Kd.R_alloc | apply Kd.R_drewN | apply Kd.R_drew)); exact HO171.out⟩, ⟨by repeat (first | (with_reducible first | exact HB.out | apply below_alloc | apply pw_below_drewN | apply below_drew1 | refine below_set ?_ GE166.out) | exact HB.out)⟩⟩
              · rw [if_neg c8] at H
                exact absurd H (by simp)
            · replace c7 := Bool.eq_false_iff.mpr c7
              subst c7
              have H1 : (some (([] : List Int), false)) = some (r1, r2) := by rw [if_neg (show ¬ (false = true) by decide)] at H; exact H
              clear H
              have H := H1
              clear H1
              simp only [Option.some.injEq, Prod.mk.injEq] at H
              obtain ⟨rfl, rfl⟩ := H
              have p165 : 0 ≤ (x13_1 : Int) := of_decide_eq_true (by first | (with_reducible assumption) | assumption)
              have q165 : x13_1 < (l1.length : Int) := of_decide_eq_true (by first | (with_reducible assumption) | assumption)
              obtain ⟨ad165, e165, hx165_0, hx165_1⟩ := at_T45 HR1.out x13_1 p165 q165
              cases e165
              replace hx165_0 := (HB.out.cell (World.block_lt_of_cell? w _ hx165_0)).trans hx165_0
              replace hx165_1 := (HB.out.cell (World.block_lt_of_cell? w _ hx165_1)).trans hx165_1
              replace p165 := eq_true p165
              replace q165 := eq_true q165
              go_wp2_with (first | ((with_reducible refine gate_dst (N := 8) rfl ?_); refine box_event ?hg (N := 8) ?hd (cs := #[.int .i64 0, .int .i64 0]) (t := 45) ?hr ?_; (case hd => rfl); (case hg => rfl); (case hr => first | (go_simp; done) | (go_simp; rfl)); intro gb166 hg w12 hbox hb; have n0_ := Aside0.mk (Kd.R_below (by (with_reducible repeat (first | apply Kd.R_alloc | apply Kd.R_drewN | apply Kd.R_drew)); exact HO_6.out) hb); have n1_ := Aside0.mk (below_step (by repeat (first | (with_reducible first | exact HB.out | apply below_alloc | apply pw_below_drewN | apply below_drew1) | exact HB.out)) hb); have n2_ := Aside0.mk (hbox); have n3_ := Aside0.mk ((by rw [hg]; exact (below_size (by repeat (first | (with_reducible first | exact HB.out | apply below_alloc | apply pw_below_drewN | apply below_drew1) | exact HB.out))) : w.heap.size ≤ gb166)); have n4_ := Aside0.mk ((by rw [hg]; exact (below_size (by repeat (first | (with_reducible first | exact HB.out | apply below_alloc | apply pw_below_drewN | apply below_drew1) | exact HB.out))) : w.heap.size ≤ gb166)); clear HO_6; clear HB; have HO_6 := n0_; have HB := n1_; have BK166 := n2_; have GW166 := n3_; have GE166 := n4_; clear n0_ n1_ n2_ n3_ n4_; clear hb hbox hg; have hcz13_0 : w12.cell? ⟨gb166, 0, none⟩ = some (.int .i64 0) := (blk_cell BK166.out 0).trans rfl; have hcz13_1 : w12.cell? ⟨gb166, 1, none⟩ = some (.int .i64 0) := (blk_cell BK166.out 1).trans rfl; have hfz13_0 := blk_frozen BK166.out 0; have hfz13_1 := blk_frozen BK166.out 1) | ((with_reducible refine gate_callee (f := 40) rfl ?_); refine goesL_ (some 23) rfl rfl Try.func40 (by kernel_rfl) rfl #[.string a0, .int .i64 ((rd_T45 l1 x13_1).f0), .int .i64 ((rd_T45 l1 x13_1).f1)] rfl (by (try simp only [List.map_toArray, List.map_cons, List.map_nil]); first | done | rfl | (simp only [List.length_drop, List.length_take]; rfl)) ?_; (with_reducible refine (when_get.calls k1 a0 ((rd_T45 l1 x13_1).f0) ((rd_T45 l1 x13_1).f1) t167 false _ A6.out).mono ?_); rintro e w' ⟨rfl, ⟨nd, rfl⟩⟩; refine ⟨_, rfl, ?_⟩))
              go_ret2
              exact ⟨_, by first | rfl | (simp [errW_none, errW_some] <;> rfl) | (simp [*, errW_none, errW_some] <;> rfl), by first | exact Kd.R_nil _ _ _ _ _ | exact Kd.N_nil _ _ _ _ _ | exact Kd.V_nil _ _ _ _ _ | exact Kd.Q_nil _ _ _ _ _ | exact Kd.S_nil _ _ _ _ _, by repeat (first | (with_reducible first | exact HB.out | apply below_alloc | apply pw_below_drewN | apply below_drew1 | refine below_set ?_ GE166.out) | exact HB.out)⟩
          · rw [if_neg c5] at H
            exact absurd H (by simp)
        · rw [if_neg c4] at H
          exact absurd H (by simp)
      · rw [if_neg c3] at H
        have c3b0 : decide (x13_1 < (l1.length : Int)) = false := decide_eq_false c3
        clear c3
        simp only [Option.some.injEq, Prod.mk.injEq] at H
        obtain ⟨rfl, rfl⟩ := H
        go_wp2
        go_ret2
        exact ⟨_, by first | rfl | (simp [errW_none, errW_some] <;> rfl) | (simp [*, errW_none, errW_some] <;> rfl), by (with_reducible repeat (first | apply Kd.R_alloc | apply Kd.R_drewN | apply Kd.R_drew)); exact HO_6.out, by repeat (first | (with_reducible first | exact HB.out | apply below_alloc | apply pw_below_drewN | apply below_drew1) | exact HB.out)⟩

end Go.Proofs.Yteggifhicmbopaa.Q

/- What some Go functions compute, told as plain Lean functions, each with the proof that the call comes to just that, for all arguments. Conditions: those in the theorems. Written by a program of this session. -/
namespace Go.Proofs.Yteggifhicmbopaa.Q
open Go.RowKit Go.Proofs.YteggifhicmbopaaW.PrintWords Go.Proofs.YteggifhicmbopaaW.PrintLast Go.Proofs.YteggifhicmbopaaW.PrintMore
set_option linter.unusedVariables false
set_option linter.unusedSimpArgs false
attribute [local go_sem] max2_int min2_int max_two min_two max_three min_three max_four min_four   -- for this text's walks alone

/-! ### when_ParseBasic: function 21 -/
def when_ParseBasic.f (k : Nat) (a0 : ByteArray) : Option (Int × Bool) := (when_all.f k a0 (([(⟨0, 4⟩ : S45), (⟨4, 2⟩ : S45), (⟨6, 2⟩ : S45), (⟨9, 2⟩ : S45), (⟨11, 2⟩ : S45), (⟨13, 2⟩ : S45)] : List (S45)))).bind fun bt175 => (if bt175.2 = true then (if 0 < (bt175.1.length : Int) then (if 1 < (bt175.1.length : Int) then (if 2 < (bt175.1.length : Int) then (if 3 < (bt175.1.length : Int) then (if 4 < (bt175.1.length : Int) then (if 5 < (bt175.1.length : Int) then ((when_Of.f k (rd bt175.1 0) (rd bt175.1 1) (rd bt175.1 2) (rd bt175.1 3) (rd bt175.1 4) (rd bt175.1 5)).bind fun bt185 => (if bt185.2 = true then ((when_Basic.f k bt185.1).bind fun t187 => (if t187.toList = a0.toList then (some (bt185.1, true)) else (some (0, false)))) else (some (0, false)))) else (none)) else (none)) else (none)) else (none)) else (none)) else (none)) else (some (0, false)))
theorem when_ParseBasic.mono : ∀ a0 k, LeO (when_ParseBasic.f k a0) (when_ParseBasic.f (k + 1) a0) := by
  intro a0 k
  unfold when_ParseBasic.f
  repeat' first
      | (with_reducible exact when_Basic.mono _ _)
      | (with_reducible exact when_Of.mono _ _ _ _ _ _ _)
      | (with_reducible exact when_all.mono _ _ _)
      | (with_reducible exact LeO.refl _)
      | (with_reducible exact LeO.none _)
      | (with_reducible refine LeO.ite ?_ ?_)
      | (with_reducible refine LeO.bind ?_ (fun _ => ?_))
      | exact when_Basic.mono _ _
      | exact when_Of.mono _ _ _ _ _ _ _
      | exact when_all.mono _ _ _
      | exact LeO.none _
      | refine LeO.ite ?_ ?_
      | refine LeO.bind ?_ (fun _ => ?_)
set_option maxHeartbeats 8000000 in
set_option maxRecDepth 100000 in
theorem when_ParseBasic.calls (k : Nat) (a0 : ByteArray) (r1 : Int) (r2 : Bool) (w : World) (h : when_ParseBasic.f k a0 = some (r1, r2)) :
    Calls Try.prog 21 #[.string a0] w fun e w' => e = .returned (.tuple #[.int .i64 r1, .bool r2]) ∧ Below w.heap.size w w' := by
  have hu45 := Try.underlying45
  have HB := Aside0.mk (Below.refl w.heap.size w)
  have H : ((when_all.f k a0 (([(⟨0, 4⟩ : S45), (⟨4, 2⟩ : S45), (⟨6, 2⟩ : S45), (⟨9, 2⟩ : S45), (⟨11, 2⟩ : S45), (⟨13, 2⟩ : S45)] : List (S45)))).bind fun bt175 => (if bt175.2 = true then (if 0 < (bt175.1.length : Int) then (if 1 < (bt175.1.length : Int) then (if 2 < (bt175.1.length : Int) then (if 3 < (bt175.1.length : Int) then (if 4 < (bt175.1.length : Int) then (if 5 < (bt175.1.length : Int) then ((when_Of.f k (rd bt175.1 0) (rd bt175.1 1) (rd bt175.1 2) (rd bt175.1 3) (rd bt175.1 4) (rd bt175.1 5)).bind fun bt185 => (if bt185.2 = true then ((when_Basic.f k bt185.1).bind fun t187 => (if t187.toList = a0.toList then (some (bt185.1, true)) else (some (0, false)))) else (some (0, false)))) else (none)) else (none)) else (none)) else (none)) else (none)) else (none)) else (some (0, false)))) = some (r1, r2) := h
  clear h
  obtain ⟨y172, hy172⟩ : ∃ y_ : List (S45), y_ = (([(⟨0, 4⟩ : S45), (⟨4, 2⟩ : S45), (⟨6, 2⟩ : S45), (⟨9, 2⟩ : S45), (⟨11, 2⟩ : S45), (⟨13, 2⟩ : S45)] : List (S45))) := ⟨_, rfl⟩
  replace H : ((when_all.f k a0 y172).bind fun bt175 => (if bt175.2 = true then (if 0 < (bt175.1.length : Int) then (if 1 < (bt175.1.length : Int) then (if 2 < (bt175.1.length : Int) then (if 3 < (bt175.1.length : Int) then (if 4 < (bt175.1.length : Int) then (if 5 < (bt175.1.length : Int) then ((when_Of.f k (rd bt175.1 0) (rd bt175.1 1) (rd bt175.1 2) (rd bt175.1 3) (rd bt175.1 4) (rd bt175.1 5)).bind fun bt185 => (if bt185.2 = true then ((when_Basic.f k bt185.1).bind fun t187 => (if t187.toList = a0.toList then (some (bt185.1, true)) else (some (0, false)))) else (some (0, false)))) else (none)) else (none)) else (none)) else (none)) else (none)) else (none)) else (some (0, false)))) = some (r1, r2) := by first | (rw [hy172]; with_reducible exact H) | (have H2_ := (Option.bind_some _ _).symm.trans H; rw [hy172]; with_reducible exact H2_) | (have H2_ := (Option.bind_some _ _).symm.trans H; with_reducible exact H2_) | with_reducible exact H | (rw [hy172]; exact H) | exact H
  have Ny172 := Aside0.mk hy172
  clear hy172
  replace H := Option.bind_eq_some_iff.mp H
  obtain ⟨⟨t175, t176⟩, A20, H⟩ := H
  replace H : (if t176 = true then (if 0 < (t175.length : Int) then (if 1 < (t175.length : Int) then (if 2 < (t175.length : Int) then (if 3 < (t175.length : Int) then (if 4 < (t175.length : Int) then (if 5 < (t175.length : Int) then ((when_Of.f k (rd t175 0) (rd t175 1) (rd t175 2) (rd t175 3) (rd t175 4) (rd t175 5)).bind fun bt185 => (if bt185.2 = true then ((when_Basic.f k bt185.1).bind fun t187 => (if t187.toList = a0.toList then (some (bt185.1, true)) else (some (0, false)))) else (some (0, false)))) else (none)) else (none)) else (none)) else (none)) else (none)) else (none)) else (some (0, false))) = some (r1, r2) := H
  have A2 := Aside0.mk A20
  clear A20
  by_cases c3 : t176 = true
  · subst c3
    have H1 : (if 0 < (t175.length : Int) then (if 1 < (t175.length : Int) then (if 2 < (t175.length : Int) then (if 3 < (t175.length : Int) then (if 4 < (t175.length : Int) then (if 5 < (t175.length : Int) then ((when_Of.f k (rd t175 0) (rd t175 1) (rd t175 2) (rd t175 3) (rd t175 4) (rd t175 5)).bind fun bt185 => (if bt185.2 = true then ((when_Basic.f k bt185.1).bind fun t187 => (if t187.toList = a0.toList then (some (bt185.1, true)) else (some (0, false)))) else (some (0, false)))) else (none)) else (none)) else (none)) else (none)) else (none)) else (none)) = some (r1, r2) := by rw [if_pos rfl] at H; exact H
    clear H
    have H := H1
    clear H1
    by_cases c4 : 0 < (t175.length : Int)
    · rw [if_pos c4] at H
      have c4b0 : decide (0 < (t175.length : Int)) = true := decide_eq_true c4
      have c4b1 : decide (0 < t175.length) = true := decide_eq_true (by omega)
      clear c4
      by_cases c5 : 1 < (t175.length : Int)
      · rw [if_pos c5] at H
        have c5b0 : decide (1 < (t175.length : Int)) = true := decide_eq_true c5
        have c5b1 : decide (1 < t175.length) = true := decide_eq_true (by omega)
        clear c5
        by_cases c6 : 2 < (t175.length : Int)
        · rw [if_pos c6] at H
          have c6b0 : decide (2 < (t175.length : Int)) = true := decide_eq_true c6
          have c6b1 : decide (2 < t175.length) = true := decide_eq_true (by omega)
          clear c6
          by_cases c7 : 3 < (t175.length : Int)
          · rw [if_pos c7] at H
            have c7b0 : decide (3 < (t175.length : Int)) = true := decide_eq_true c7
            have c7b1 : decide (3 < t175.length) = true := decide_eq_true (by omega)
            clear c7
            by_cases c8 : 4 < (t175.length : Int)
            · rw [if_pos c8] at H
              have c8b0 : decide (4 < (t175.length : Int)) = true := decide_eq_true c8
              have c8b1 : decide (4 < t175.length) = true := decide_eq_true (by omega)
              clear c8
              by_cases c9 : 5 < (t175.length : Int)
              · rw [if_pos c9] at H
                have c9b0 : decide (5 < (t175.length : Int)) = true := decide_eq_true c9
                have c9b1 : decide (5 < t175.length) = true := decide_eq_true (by omega)
                clear c9
                replace H := Option.bind_eq_some_iff.mp H
                obtain ⟨⟨t185, t186⟩, A100, H⟩ := H
                replace H : (if t186 = true then ((when_Basic.f k t185).bind fun t187 => (if t187.toList = a0.toList then (some (t185, true)) else (some (0, false)))) else (some (0, false))) = some (r1, r2) := H
                have A10 := Aside0.mk A100
                clear A100
                by_cases c11 : t186 = true
                · subst c11
                  have H1 : ((when_Basic.f k t185).bind fun t187 => (if t187.toList = a0.toList then (some (t185, true)) else (some (0, false)))) = some (r1, r2) := by rw [if_pos rfl] at H; exact H
                  clear H
                  have H := H1
                  clear H1
                  replace H := Option.bind_eq_some_iff.mp H
                  obtain ⟨t187, A120, H⟩ := H
                  replace H : (if t187.toList = a0.toList then (some (t185, true)) else (some (0, false))) = some (r1, r2) := H
                  have A12 := Aside0.mk A120
                  clear A120
                  by_cases c13 : t187.toList = a0.toList
                  · rw [if_pos c13] at H
                    have c13b0 : (t187.toList == a0.toList) = true := beq_iff_eq.mpr c13
                    have c13b1 : (t187.toList != a0.toList) = false := bne_eq_false_iff_eq.mpr c13
                    clear c13
                    simp only [Option.some.injEq, Prod.mk.injEq] at H
                    obtain ⟨rfl, rfl⟩ := H
                    go_enter Try.func21, Try.ntmps21
                    go_wp2_with (first | ((with_reducible refine gate_dst (N := 15) rfl ?_); refine Kd.R_lit k45 _ 45 ?hg (N := 15) ?hd (xs := ([(⟨0, 4⟩ : S45), (⟨4, 2⟩ : S45), (⟨6, 2⟩ : S45), (⟨9, 2⟩ : S45), (⟨11, 2⟩ : S45), (⟨13, 2⟩ : S45)] : List (S45))) (inner := [.int .i64 0, .int .i64 4, .int .i64 4, .int .i64 2, .int .i64 6, .int .i64 2, .int .i64 9, .int .i64 2, .int .i64 11, .int .i64 2, .int .i64 13, .int .i64 2]) (ok := fun _ => True) (okp := fun _ => True) ?hr ?hp (fun _ hk => hk) trivial (Below.refl _ _) (Nat.le_refl _) (by simp) ?_; (case hd => rfl); (case hg => rfl); (case hr => first | (go_simp; done) | (go_simp; rfl)); (case hp => exact (Reps.c2 (show Kd.M k45 _ _ _ (⟨0, 4⟩ : S45) [.int .i64 0, .int .i64 4] from (k45_mkM _ _ _ (⟨0, 4⟩ : S45) )) (Reps.c2 (show Kd.M k45 _ _ _ (⟨4, 2⟩ : S45) [.int .i64 4, .int .i64 2] from (k45_mkM _ _ _ (⟨4, 2⟩ : S45) )) (Reps.c2 (show Kd.M k45 _ _ _ (⟨6, 2⟩ : S45) [.int .i64 6, .int .i64 2] from (k45_mkM _ _ _ (⟨6, 2⟩ : S45) )) (Reps.c2 (show Kd.M k45 _ _ _ (⟨9, 2⟩ : S45) [.int .i64 9, .int .i64 2] from (k45_mkM _ _ _ (⟨9, 2⟩ : S45) )) (Reps.c2 (show Kd.M k45 _ _ _ (⟨11, 2⟩ : S45) [.int .i64 11, .int .i64 2] from (k45_mkM _ _ _ (⟨11, 2⟩ : S45) )) (Reps.c2 (show Kd.M k45 _ _ _ (⟨13, 2⟩ : S45) [.int .i64 13, .int .i64 2] from (k45_mkM _ _ _ (⟨13, 2⟩ : S45) )) (Reps.none _ _)))))))); intro v173 w14 ho15 hb hg_ hnew_; clear hg_ hnew_; (first | rw [← Ny172.out] at ho15 | (simp only [Int.reduceToNat] at ho15; rw [← Ny172.out] at ho15)); have n0_ := Aside0.mk (Kd.R_lower ho15 (below_size (by repeat (first | (with_reducible first | exact HB.out | apply below_alloc | apply pw_below_drewN | apply below_drew1) | exact HB.out)))); have n1_ := Aside0.mk (below_step (by repeat (first | (with_reducible first | exact HB.out | apply below_alloc | apply pw_below_drewN | apply below_drew1) | exact HB.out)) hb); clear HB; have HO174 := n0_; have HB := n1_; clear n0_ n1_; clear hb ho15; obtain ⟨Ao16, co16, eo16⟩ := Kd.R_slice HO174.out; subst eo16) | (go_at_call 35; (with_reducible refine (when_all.calls k a0 _ _ y172 t175 true _ ?side1 ?side2 A2.out).mono ?_); (case side1 => repeat (first | exact (Kd.R_reads' HO174.out).2.2 | (with_reducible refine Kd.C_alloc ?_ _) | (with_reducible refine Kd.C_drewN ?_ _) | (with_reducible refine Kd.C_drew ?_))); (case side2 => exact (Kd.R_reads' HO174.out).2.1); rintro e w17 ⟨v177, rfl, ho0, hb⟩; have n0_ := Aside0.mk (Kd.R_below (by (with_reducible repeat (first | apply Kd.R_alloc | apply Kd.R_drewN | apply Kd.R_drew)); exact HO174.out) hb); have n1_ := Aside0.mk (Kd.R_lower ho0 (below_size (by repeat (first | (with_reducible first | exact HB.out | apply below_alloc | apply pw_below_drewN | apply below_drew1) | exact HB.out)))); have n2_ := Aside0.mk (below_step (by repeat (first | (with_reducible first | exact HB.out | apply below_alloc | apply pw_below_drewN | apply below_drew1) | exact HB.out)) hb); clear HO174; clear HB; have HO174 := n0_; have HO178 := n1_; have HB := n2_; clear n0_ n1_ n2_; (try clear hb); (try clear hb2); (try clear hk); (try clear hi); (try clear ho0); obtain ⟨Ao18, co18, eo18⟩ := Kd.R_slice HO178.out; subst eo18; have p179 : 0 ≤ (0 : Int) := (by omega); have q179 : 0 < (t175.length : Int) := of_decide_eq_true (by first | (with_reducible assumption) | assumption); obtain ⟨ad179, e179, hx179_0⟩ := Kd.at_int (Kd.R_reads' HO178.out).2.2 0 p179 q179; cases e179; have qi179 : (0 < t175.length) = True := eq_true (by omega); (try rw [show ((0 : Int)).toNat = 0 from rfl] at hx179_0); (try rw [Addr.add_zero'] at hx179_0); replace p179 := eq_true p179; replace q179 := eq_true q179; have p180 : 0 ≤ (1 : Int) := (by omega); have q180 : 1 < (t175.length : Int) := of_decide_eq_true (by first | (with_reducible assumption) | assumption); obtain ⟨ad180, e180, hx180_0⟩ := Kd.at_int (Kd.R_reads' HO178.out).2.2 1 p180 q180; obtain rfl : ad179 = ad180 := (by injection e180); (try simp only [show (1 : Int).toNat = 1 from rfl, Nat.reduceMul, Nat.reduceEqDiff, Go.Addr.add, ↓reduceIte] at hx180_0); have qi180 : (1 < t175.length) = True := eq_true (by omega); (try rw [show ((1 : Int)).toNat = 1 from rfl] at hx180_0); replace p180 := eq_true p180; replace q180 := eq_true q180; have p181 : 0 ≤ (2 : Int) := (by omega); have q181 : 2 < (t175.length : Int) := of_decide_eq_true (by first | (with_reducible assumption) | assumption); obtain ⟨ad181, e181, hx181_0⟩ := Kd.at_int (Kd.R_reads' HO178.out).2.2 2 p181 q181; obtain rfl : ad179 = ad181 := (by injection e181); (try simp only [show (2 : Int).toNat = 2 from rfl, Nat.reduceMul, Nat.reduceEqDiff, Go.Addr.add, ↓reduceIte] at hx181_0); have qi181 : (2 < t175.length) = True := eq_true (by omega); (try rw [show ((2 : Int)).toNat = 2 from rfl] at hx181_0); replace p181 := eq_true p181; replace q181 := eq_true q181; have p182 : 0 ≤ (3 : Int) := (by omega); have q182 : 3 < (t175.length : Int) := of_decide_eq_true (by first | (with_reducible assumption) | assumption); obtain ⟨ad182, e182, hx182_0⟩ := Kd.at_int (Kd.R_reads' HO178.out).2.2 3 p182 q182; obtain rfl : ad179 = ad182 := (by injection e182); (try simp only [show (3 : Int).toNat = 3 from rfl, Nat.reduceMul, Nat.reduceEqDiff, Go.Addr.add, ↓reduceIte] at hx182_0); have qi182 : (3 < t175.length) = True := eq_true (by omega); (try rw [show ((3 : Int)).toNat = 3 from rfl] at hx182_0); replace p182 := eq_true p182; replace q182 := eq_true q182; have p183 : 0 ≤ (4 : Int) := (by omega); have q183 : 4 < (t175.length : Int) := of_decide_eq_true (by first | (with_reducible assumption) | assumption); obtain ⟨ad183, e183, hx183_0⟩ := Kd.at_int (Kd.R_reads' HO178.out).2.2 4 p183 q183; obtain rfl : ad179 = ad183 := (by injection e183); (try simp only [show (4 : Int).toNat = 4 from rfl, Nat.reduceMul, Nat.reduceEqDiff, Go.Addr.add, ↓reduceIte] at hx183_0); have qi183 : (4 < t175.length) = True := eq_true (by omega); (try rw [show ((4 : Int)).toNat = 4 from rfl] at hx183_0); replace p183 := eq_true p183; replace q183 := eq_true q183; have p184 : 0 ≤ (5 : Int) := (by omega); have q184 : 5 < (t175.length : Int) := of_decide_eq_true (by first | (with_reducible assumption) | assumption); obtain ⟨ad184, e184, hx184_0⟩ := Kd.at_int (Kd.R_reads' HO178.out).2.2 5 p184 q184; obtain rfl : ad179 = ad184 := (by injection e184); (try simp only [show (5 : Int).toNat = 5 from rfl, Nat.reduceMul, Nat.reduceEqDiff, Go.Addr.add, ↓reduceIte] at hx184_0); have qi184 : (5 < t175.length) = True := eq_true (by omega); (try rw [show ((5 : Int)).toNat = 5 from rfl] at hx184_0); replace p184 := eq_true p184; replace q184 := eq_true q184) | (go_at_call 11; (with_reducible refine (when_Of.calls k (rd t175 0) (rd t175 1) (rd t175 2) (rd t175 3) (rd t175 4) (rd t175 5) t185 true _ A10.out).mono ?_); rintro e w' ⟨rfl, ⟨nd, rfl⟩⟩; (try first | exact ⟨rfl, _, World.drewN_drewN _ _ _⟩ | exact ⟨rfl, _, Eq.trans (World.drewN_drewN _ _ _) (congrArg (World.drewN _) (Nat.add_assoc _ _ _))⟩)) | (go_at_call 13; (with_reducible refine (when_Basic.calls k t185 t187 _ A12.out).mono ?_); rintro e w19 ⟨rfl, hb⟩; have n0_ := Aside0.mk (Kd.R_below (by (with_reducible repeat (first | apply Kd.R_alloc | apply Kd.R_drewN | apply Kd.R_drew)); exact HO174.out) hb); have n1_ := Aside0.mk (Kd.R_below (by (with_reducible repeat (first | apply Kd.R_alloc | apply Kd.R_drewN | apply Kd.R_drew)); exact HO178.out) hb); have n2_ := Aside0.mk (below_step (by repeat (first | (with_reducible first | exact HB.out | apply below_alloc | apply pw_below_drewN | apply below_drew1) | exact HB.out)) hb); clear HO174; clear HO178; clear HB; have HO174 := n0_; have HO178 := n1_; have HB := n2_; clear n0_ n1_ n2_; (try clear hb); (try clear hb2); (try clear hk); (try clear hi)))
                    repeat (go_quiet (first | ((with_reducible refine gate_dst (N := 15) rfl ?_); refine Kd.R_lit k45 _ 45 ?hg (N := 15) ?hd (xs := ([(⟨0, 4⟩ : S45), (⟨4, 2⟩ : S45), (⟨6, 2⟩ : S45), (⟨9, 2⟩ : S45), (⟨11, 2⟩ : S45), (⟨13, 2⟩ : S45)] : List (S45))) (inner := [.int .i64 0, .int .i64 4, .int .i64 4, .int .i64 2, .int .i64 6, .int .i64 2, .int .i64 9, .int .i64 2, .int .i64 11, .int .i64 2, .int .i64 13, .int .i64 2]) (ok := fun _ => True) (okp := fun _ => True) ?hr ?hp (fun _ hk => hk) trivial (Below.refl _ _) (Nat.le_refl _) (by simp) ?_; (case hd => rfl); (case hg => rfl); (case hr => first | (go_simp; done) | (go_simp; rfl)); (case hp => exact (Reps.c2 (show Kd.M k45 _ _ _ (⟨0, 4⟩ : S45) [.int .i64 0, .int .i64 4] from (k45_mkM _ _ _ (⟨0, 4⟩ : S45) )) (Reps.c2 (show Kd.M k45 _ _ _ (⟨4, 2⟩ : S45) [.int .i64 4, .int .i64 2] from (k45_mkM _ _ _ (⟨4, 2⟩ : S45) )) (Reps.c2 (show Kd.M k45 _ _ _ (⟨6, 2⟩ : S45) [.int .i64 6, .int .i64 2] from (k45_mkM _ _ _ (⟨6, 2⟩ : S45) )) (Reps.c2 (show Kd.M k45 _ _ _ (⟨9, 2⟩ : S45) [.int .i64 9, .int .i64 2] from (k45_mkM _ _ _ (⟨9, 2⟩ : S45) )) (Reps.c2 (show Kd.M k45 _ _ _ (⟨11, 2⟩ : S45) [.int .i64 11, .int .i64 2] from (k45_mkM _ _ _ (⟨11, 2⟩ : S45) )) (Reps.c2 (show Kd.M k45 _ _ _ (⟨13, 2⟩ : S45) [.int .i64 13, .int .i64 2] from (k45_mkM _ _ _ (⟨13, 2⟩ : S45) )) (Reps.none _ _)))))))); intro v173 w14 ho15 hb hg_ hnew_; clear hg_ hnew_; (first | rw [← Ny172.out] at ho15 | (simp only [Int.reduceToNat] at ho15; rw [← Ny172.out] at ho15)); have n0_ := Aside0.mk (Kd.R_lower ho15 (below_size (by repeat (first | (with_reducible first | exact HB.out | apply below_alloc | apply pw_below_drewN | apply below_drew1) | exact HB.out)))); have n1_ := Aside0.mk (below_step (by repeat (first | (with_reducible first | exact HB.out | apply below_alloc | apply pw_below_drewN | apply below_drew1) | exact HB.out)) hb); clear HB; have HO174 := n0_; have HB := n1_; clear n0_ n1_; clear hb ho15; obtain ⟨Ao16, co16, eo16⟩ := Kd.R_slice HO174.out; subst eo16) | (go_at_call 35; (with_reducible refine (when_all.calls k a0 _ _ y172 t175 true _ ?side1 ?side2 A2.out).mono ?_); (case side1 => repeat (first | exact (Kd.R_reads' HO174.out).2.2 | (with_reducible refine Kd.C_alloc ?_ _) | (with_reducible refine Kd.C_drewN ?_ _) | (with_reducible refine Kd.C_drew ?_))); (case side2 => exact (Kd.R_reads' HO174.out).2.1); rintro e w17 ⟨v177, rfl, ho0, hb⟩; have n0_ := Aside0.mk (Kd.R_below (by (with_reducible repeat (first | apply Kd.R_alloc | apply Kd.R_drewN | apply Kd.R_drew)); exact HO174.out) hb); have n1_ := Aside0.mk (Kd.R_lower ho0 (below_size (by repeat (first | (with_reducible first | exact HB.out | apply below_alloc | apply pw_below_drewN | apply below_drew1) | exact HB.out)))); have n2_ := Aside0.mk (below_step (by repeat (first | (with_reducible first | exact HB.out | apply below_alloc | apply pw_below_drewN | apply below_drew1) | exact HB.out)) hb); clear HO174; clear HB; have HO174 := n0_; have HO178 := n1_; have HB := n2_; clear n0_ n1_ n2_; (try clear hb); (try clear hb2); (try clear hk); (try clear hi); (try clear ho0); obtain ⟨Ao18, co18, eo18⟩ := Kd.R_slice HO178.out; subst eo18; have p179 : 0 ≤ (0 : Int) := (by omega); have q179 : 0 < (t175.length : Int) := of_decide_eq_true (by first | (with_reducible assumption) | assumption); obtain ⟨ad179, e179, hx179_0⟩ := Kd.at_int (Kd.R_reads' HO178.out).2.2 0 p179 q179; cases e179; have qi179 : (0 < t175.length) = True := eq_true (by omega); (try rw [show ((0 : Int)).toNat = 0 from rfl] at hx179_0); (try rw [Addr.add_zero'] at hx179_0); replace p179 := eq_true p179; replace q179 := eq_true q179; have p180 : 0 ≤ (1 : Int) := (by omega); have q180 : 1 < (t175.length : Int) := of_decide_eq_true (by first | (with_reducible assumption) | assumption); obtain ⟨ad180, e180, hx180_0⟩ := Kd.at_int (Kd.R_reads' HO178.out).2.2 1 p180 q180; obtain rfl : ad179 = ad180 := (by injection e180); (try simp only [show (1 : Int).toNat = 1 from rfl, Nat.reduceMul, Nat.reduceEqDiff, Go.Addr.add, ↓reduceIte] at hx180_0); have qi180 : (1 < t175.length) = True := eq_true (by omega); (try rw [show ((1 : Int)).toNat = 1 from rfl] at hx180_0); replace p180 := eq_true p180; replace q180 := eq_true q180; have p181 : 0 ≤ (2 : Int) := (by omega); have q181 : 2 < (t175.length : Int) := of_decide_eq_true (by first | (with_reducible assumption) | assumption); obtain ⟨ad181, e181, hx181_0⟩ := Kd.at_int (Kd.R_reads' HO178.out).2.2 2 p181 q181; obtain rfl : ad179 = ad181 := (by injection e181); (try simp only [show (2 : Int).toNat = 2 from rfl, Nat.reduceMul, Nat.reduceEqDiff, Go.Addr.add, ↓reduceIte] at hx181_0); have qi181 : (2 < t175.length) = True := eq_true (by omega); (try rw [show ((2 : Int)).toNat = 2 from rfl] at hx181_0); replace p181 := eq_true p181; replace q181 := eq_true q181; have p182 : 0 ≤ (3 : Int) := (by omega); have q182 : 3 < (t175.length : Int) := of_decide_eq_true (by first | (with_reducible assumption) | assumption); obtain ⟨ad182, e182, hx182_0⟩ := Kd.at_int (Kd.R_reads' HO178.out).2.2 3 p182 q182; obtain rfl : ad179 = ad182 := (by injection e182); (try simp only [show (3 : Int).toNat = 3 from rfl, Nat.reduceMul, Nat.reduceEqDiff, Go.Addr.add, ↓reduceIte] at hx182_0); have qi182 : (3 < t175.length) = True := eq_true (by omega); (try rw [show ((3 : Int)).toNat = 3 from rfl] at hx182_0); replace p182 := eq_true p182; replace q182 := eq_true q182; have p183 : 0 ≤ (4 : Int) := (by omega); have q183 : 4 < (t175.length : Int) := of_decide_eq_true (by first | (with_reducible assumption) | assumption); obtain ⟨ad183, e183, hx183_0⟩ := Kd.at_int (Kd.R_reads' HO178.out).2.2 4 p183 q183; obtain rfl : ad179 = ad183 := (by injection e183); (try simp only [show (4 : Int).toNat = 4 from rfl, Nat.reduceMul, Nat.reduceEqDiff, Go.Addr.add, ↓reduceIte] at hx183_0); have qi183 : (4 < t175.length) = True := eq_true (by omega); (try rw [show ((4 : Int)).toNat = 4 from rfl] at hx183_0); replace p183 := eq_true p183; replace q183 := eq_true q183; have p184 : 0 ≤ (5 : Int) := (by omega); have q184 : 5 < (t175.length : Int) := of_decide_eq_true (by first | (with_reducible assumption) | assumption); obtain ⟨ad184, e184, hx184_0⟩ := Kd.at_int (Kd.R_reads' HO178.out).2.2 5 p184 q184; obtain rfl : ad179 = ad184 := (by injection e184); (try simp only [show (5 : Int).toNat = 5 from rfl, Nat.reduceMul, Nat.reduceEqDiff, Go.Addr.add, ↓reduceIte] at hx184_0); have qi184 : (5 < t175.length) = True := eq_true (by omega); (try rw [show ((5 : Int)).toNat = 5 from rfl] at hx184_0); replace p184 := eq_true p184; replace q184 := eq_true q184) | (go_at_call 11; (with_reducible refine (when_Of.calls k (rd t175 0) (rd t175 1) (rd t175 2) (rd t175 3) (rd t175 4) (rd t175 5) t185 true _ A10.out).mono ?_); rintro e w' ⟨rfl, ⟨nd, rfl⟩⟩; (try first | exact ⟨rfl, _, World.drewN_drewN _ _ _⟩ | exact ⟨rfl, _, Eq.trans (World.drewN_drewN _ _ _) (congrArg (World.drewN _) (Nat.add_assoc _ _ _))⟩)) | (go_at_call 13; (with_reducible refine (when_Basic.calls k t185 t187 _ A12.out).mono ?_); rintro e w19 ⟨rfl, hb⟩; have n0_ := Aside0.mk (Kd.R_below (by (with_reducible repeat (first | apply Kd.R_alloc | apply Kd.R_drewN | apply Kd.R_drew)); exact HO174.out) hb); have n1_ := Aside0.mk (Kd.R_below (by (with_reducible repeat (first | apply Kd.R_alloc | apply Kd.R_drewN | apply Kd.R_drew)); exact HO178.out) hb); have n2_ := Aside0.mk (below_step (by repeat (first | (with_reducible first | exact HB.out | apply below_alloc | apply pw_below_drewN | apply below_drew1) | exact HB.out)) hb); clear HO174; clear HO178; clear HB; have HO174 := n0_; have HO178 := n1_; have HB := n2_; clear n0_ n1_ n2_; (try clear hb); (try clear hb2); (try clear hk); (try clear hi))); try go_wp2_with (first | ((with_reducible refine gate_dst (N := 15) rfl ?_); refine Kd.R_lit k45 _ 45 ?hg (N := 15) ?hd (xs := ([(⟨0, 4⟩ : S45), (⟨4, 2⟩ : S45), (⟨6, 2⟩ : S45), (⟨9, 2⟩ : S45), (⟨11, 2⟩ : S45), (⟨13, 2⟩ : S45)] : List (S45))) (inner := [.int .i64 0, .int .i64 4, .int .i64 4, .int .i64 2, .int .i64 6, .int .i64 2, .int .i64 9, .int .i64 2, .int .i64 11, .int .i64 2, .int .i64 13, .int .i64 2]) (ok := fun _ => True) (okp := fun _ => True) ?hr ?hp (fun _ hk => hk) trivial (Below.refl _ _) (Nat.le_refl _) (by simp) ?_; (case hd => rfl); (case hg => rfl); (case hr => first | (go_simp; done) | (go_simp; rfl)); (case hp => exact (Reps.c2 (show Kd.M k45 _ _ _ (⟨0, 4⟩ : S45) [.int .i64 0, .int .i64 4] from (k45_mkM _ _ _ (⟨0, 4⟩ : S45) )) (Reps.c2 (show Kd.M k45 _ _ _ (⟨4, 2⟩ : S45) [.int .i64 4, .int .i64 2] from (k45_mkM _ _ _ (⟨4, 2⟩ : S45) )) (Reps.c2 (show Kd.M k45 _ _ _ (⟨6, 2⟩ : S45) [.int .i64 6, .int .i64 2] from (k45_mkM _ _ _ (⟨6, 2⟩ : S45) )) (Reps.c2 (show Kd.M k45 _ _ _ (⟨9, 2⟩ : S45) [.int .i64 9, .int .i64 2] from (k45_mkM _ _ _ (⟨9, 2⟩ : S45) )) (Reps.c2 (show Kd.M k45 _ _ _ (⟨11, 2⟩ : S45) [.int .i64 11, .int .i64 2] from (k45_mkM _ _ _ (⟨11, 2⟩ : S45) )) (Reps.c2 (show Kd.M k45 _ _ _ (⟨13, 2⟩ : S45) [.int .i64 13, .int .i64 2] from (k45_mkM _ _ _ (⟨13, 2⟩ : S45) )) (Reps.none _ _)))))))); intro v173 w14 ho15 hb hg_ hnew_; clear hg_ hnew_; (first | rw [← Ny172.out] at ho15 | (simp only [Int.reduceToNat] at ho15; rw [← Ny172.out] at ho15)); have n0_ := Aside0.mk (Kd.R_lower ho15 (below_size (by repeat (first | (with_reducible first | exact HB.out | apply below_alloc | apply pw_below_drewN | apply below_drew1) | exact HB.out)))); have n1_ := Aside0.mk (below_step (by repeat (first | (with_reducible first | exact HB.out | apply below_alloc | apply pw_below_drewN | apply below_drew1) | exact HB.out)) hb); clear HB; have HO174 := n0_; have HB := n1_; clear n0_ n1_; clear hb ho15; obtain ⟨Ao16, co16, eo16⟩ := Kd.R_slice HO174.out; subst eo16) | (go_at_call 35; (with_reducible refine (when_all.calls k a0 _ _ y172 t175 true _ ?side1 ?side2 A2.out).mono ?_); (case side1 => repeat (first | exact (Kd.R_reads' HO174.out).2.2 | (with_reducible refine Kd.C_alloc ?_ _) | (with_reducible refine Kd.C_drewN ?_ _) | (with_reducible refine Kd.C_drew ?_))); (case side2 => exact (Kd.R_reads' HO174.out).2.1); rintro e w17 ⟨v177, rfl, ho0, hb⟩; have n0_ := Aside0.mk (Kd.R_below (by (with_reducible repeat (first | apply Kd.R_alloc | apply Kd.R_drewN | apply Kd.R_drew)); exact HO174.out) hb); have n1_ := Aside0.mk (Kd.R_lower ho0 (below_size (by repeat (first | (with_reducible first | exact HB.out | apply below_alloc | apply pw_below_drewN | apply below_drew1) | exact HB.out)))); have n2_ := Aside0.mk (below_step (by repeat (first | (with_reducible first | exact HB.out | apply below_alloc | apply pw_below_drewN | apply below_drew1) | exact HB.out)) hb); clear HO174; clear HB; have HO174 := n0_; have HO178 := n1_; have HB := n2_; clear n0_ n1_ n2_; (try clear hb); (try clear hb2); (try clear hk); (try clear hi); (try clear ho0); obtain ⟨Ao18, co18, eo18⟩ := Kd.R_slice HO178.out; subst eo18; have p179 : 0 ≤ (0 : Int) := (by omega); have q179 : 0 < (t175.length : Int) := of_decide_eq_true (by first | (with_reducible assumption) | assumption); obtain ⟨ad179, e179, hx179_0⟩ := Kd.at_int (Kd.R_reads' HO178.out).2.2 0 p179 q179; cases e179; have qi179 : (0 < t175.length) = True := eq_true (by omega); (try rw [show ((0 : Int)).toNat = 0 from rfl] at hx179_0); (try rw [Addr.add_zero'] at hx179_0); replace p179 := eq_true p179; replace q179 := eq_true q179; have p180 : 0 ≤ (1 : Int) := (by omega); have q180 : 1 < (t175.length : Int) := of_decide_eq_true (by first | (with_reducible assumption) | assumption); obtain ⟨ad180, e180, hx180_0⟩ := Kd.at_int (Kd.R_reads' HO178.out).2.2 1 p180 q180; obtain rfl : ad179 = ad180 := (by injection e180); (try simp only [show (1 : Int).toNat = 1 from rfl, Nat.reduceMul, Nat.reduceEqDiff, Go.Addr.add, ↓reduceIte] at hx180_0); have qi180 : (1 < t175.length) = True := eq_true (by omega); (try rw [show ((1 : Int)).toNat = 1 from rfl] at hx180_0); replace p180 := eq_true p180; replace q180 := eq_true q180; have p181 : 0 ≤ (2 : Int) := (by omega); have q181 : 2 < (t175.length : Int) := of_decide_eq_true (by first | (with_reducible assumption) | assumption); obtain ⟨ad181, e181, hx181_0⟩ := Kd.at_int (Kd.R_reads' HO178.out).2.2 2 p181 q181; obtain rfl : ad179 = ad181 := (by injection e181); (try simp only [show (2 : Int).toNat = 2 from rfl, Nat.reduceMul, Nat.reduceEqDiff, Go.Addr.add, ↓reduceIte] at hx181_0); have qi181 : (2 < t175.length) = True := eq_true (by omega); (try rw [show ((2 : Int)).toNat = 2 from rfl] at hx181_0); replace p181 := eq_true p181; replace q181 := eq_true q181; have p182 : 0 ≤ (3 : Int) := (by omega); have q182 : 3 < (t175.length : Int) := of_decide_eq_true (by first | (with_reducible assumption) | assumption); obtain ⟨ad182, e182, hx182_0⟩ := Kd.at_int (Kd.R_reads' HO178.out).2.2 3 p182 q182; obtain rfl : ad179 = ad182 := (by injection e182); (try simp only [show (3 : Int).toNat = 3 from rfl, Nat.reduceMul, Nat.reduceEqDiff, Go.Addr.add, ↓reduceIte] at hx182_0); have qi182 : (3 < t175.length) = True := eq_true (by omega); (try rw [show ((3 : Int)).toNat = 3 from rfl] at hx182_0); replace p182 := eq_true p182; replace q182 := eq_true q182; have p183 : 0 ≤ (4 : Int) := (by omega); have q183 : 4 < (t175.length : Int) := of_decide_eq_true (by first | (with_reducible assumption) | assumption); obtain ⟨ad183, e183, hx183_0⟩ := Kd.at_int (Kd.R_reads' HO178.out).2.2 4 p183 q183; obtain rfl : ad179 = ad183 := (by injection e183); (try simp only [show (4 : Int).toNat = 4 from rfl, Nat.reduceMul, Nat.reduceEqDiff, Go.Addr.add, ↓reduceIte] at hx183_0); have qi183 : (4 < t175.length) = True := eq_true (by omega); (try rw [show ((4 : Int)).toNat = 4 from rfl] at hx183_0); replace p183 := eq_true p183; replace q183 := eq_true q183; have p184 : 0 ≤ (5 : Int) := (by omega); have q184 : 5 < (t175.length : Int) := of_decide_eq_true (by first | (with_reducible assumption) | assumption); obtain ⟨ad184, e184, hx184_0⟩ := Kd.at_int (Kd.R_reads' HO178.out).2.2 5 p184 q184; obtain rfl : ad179 = ad184 := (by injection e184); (try simp only [show (5 : Int).toNat = 5 from rfl, Nat.reduceMul, Nat.reduceEqDiff, Go.Addr.add, ↓reduceIte] at hx184_0); have qi184 : (5 < t175.length) = True := eq_true (by omega); (try rw [show ((5 : Int)).toNat = 5 from rfl] at hx184_0); replace p184 := eq_true p184; replace q184 := eq_true q184) | (go_at_call 11; (with_reducible refine (when_Of.calls k (rd t175 0) (rd t175 1) (rd t175 2) (rd t175 3) (rd t175 4) (rd t175 5) t185 true _ A10.out).mono ?_); rintro e w' ⟨rfl, ⟨nd, rfl⟩⟩; (try first | exact ⟨rfl, _, World.drewN_drewN _ _ _⟩ | exact ⟨rfl, _, Eq.trans (World.drewN_drewN _ _ _) (congrArg (World.drewN _) (Nat.add_assoc _ _ _))⟩)) | (go_at_call 13; (with_reducible refine (when_Basic.calls k t185 t187 _ A12.out).mono ?_); rintro e w19 ⟨rfl, hb⟩; have n0_ := Aside0.mk (Kd.R_below (by (with_reducible repeat (first | apply Kd.R_alloc | apply Kd.R_drewN | apply Kd.R_drew)); exact HO174.out) hb); have n1_ := Aside0.mk (Kd.R_below (by (with_reducible repeat (first | apply Kd.R_alloc | apply Kd.R_drewN | apply Kd.R_drew)); exact HO178.out) hb); have n2_ := Aside0.mk (below_step (by repeat (first | (with_reducible first | exact HB.out | apply below_alloc | apply pw_below_drewN | apply below_drew1) | exact HB.out)) hb); clear HO174; clear HO178; clear HB; have HO174 := n0_; have HO178 := n1_; have HB := n2_; clear n0_ n1_ n2_; (try clear hb); (try clear hb2); (try clear hk); (try clear hi))))
                    go_ret2
                    exact ⟨by first | rfl | (simp [errW_none, errW_some] <;> rfl) | (simp [*, errW_none, errW_some] <;> rfl), by repeat (first | (with_reducible first | exact HB.out | apply below_alloc | apply pw_below_drewN | apply below_drew1) | exact HB.out)⟩
                  · rw [if_neg c13] at H
                    have c13b0 : (t187.toList == a0.toList) = false := beq_eq_false_iff_ne.mpr c13
                    have c13b1 : (t187.toList != a0.toList) = true := bne_iff_ne.mpr c13
                    simp only [Option.some.injEq, Prod.mk.injEq] at H
                    obtain ⟨rfl, rfl⟩ := H
                    go_enter Try.func21, Try.ntmps21
                    go_wp2_with (first | ((with_reducible refine gate_dst (N := 15) rfl ?_); refine Kd.R_lit k45 _ 45 ?hg (N := 15) ?hd (xs := ([(⟨0, 4⟩ : S45), (⟨4, 2⟩ : S45), (⟨6, 2⟩ : S45), (⟨9, 2⟩ : S45), (⟨11, 2⟩ : S45), (⟨13, 2⟩ : S45)] : List (S45))) (inner := [.int .i64 0, .int .i64 4, .int .i64 4, .int .i64 2, .int .i64 6, .int .i64 2, .int .i64 9, .int .i64 2, .int .i64 11, .int .i64 2, .int .i64 13, .int .i64 2]) (ok := fun _ => True) (okp := fun _ => True) ?hr ?hp (fun _ hk => hk) trivial (Below.refl _ _) (Nat.le_refl _) (by simp) ?_; (case hd => rfl); (case hg => rfl); (case hr => first | (go_simp; done) | (go_simp; rfl)); (case hp => exact (Reps.c2 (show Kd.M k45 _ _ _ (⟨0, 4⟩ : S45) [.int .i64 0, .int .i64 4] from (k45_mkM _ _ _ (⟨0, 4⟩ : S45) )) (Reps.c2 (show Kd.M k45 _ _ _ (⟨4, 2⟩ : S45) [.int .i64 4, .int .i64 2] from (k45_mkM _ _ _ (⟨4, 2⟩ : S45) )) (Reps.c2 (show Kd.M k45 _ _ _ (⟨6, 2⟩ : S45) [.int .i64 6, .int .i64 2] from (k45_mkM _ _ _ (⟨6, 2⟩ : S45) )) (Reps.c2 (show Kd.M k45 _ _ _ (⟨9, 2⟩ : S45) [.int .i64 9, .int .i64 2] from (k45_mkM _ _ _ (⟨9, 2⟩ : S45) )) (Reps.c2 (show Kd.M k45 _ _ _ (⟨11, 2⟩ : S45) [.int .i64 11, .int .i64 2] from (k45_mkM _ _ _ (⟨11, 2⟩ : S45) )) (Reps.c2 (show Kd.M k45 _ _ _ (⟨13, 2⟩ : S45) [.int .i64 13, .int .i64 2] from (k45_mkM _ _ _ (⟨13, 2⟩ : S45) )) (Reps.none _ _)))))))); intro v173 w20 ho21 hb hg_ hnew_; clear hg_ hnew_; (first | rw [← Ny172.out] at ho21 | (simp only [Int.reduceToNat] at ho21; rw [← Ny172.out] at ho21)); have n0_ := Aside0.mk (Kd.R_lower ho21 (below_size (by repeat (first | (with_reducible first | exact HB.out | apply below_alloc | apply pw_below_drewN | apply below_drew1) | exact HB.out)))); have n1_ := Aside0.mk (below_step (by repeat (first | (with_reducible first | exact HB.out | apply below_alloc | apply pw_below_drewN | apply below_drew1) | exact HB.out)) hb); clear HB; have HO174 := n0_; have HB := n1_; clear n0_ n1_; clear hb ho21; obtain ⟨Ao22, co22, eo22⟩ := Kd.R_slice HO174.out; subst eo22) | (go_at_call 35; (with_reducible refine (when_all.calls k a0 _ _ y172 t175 true _ ?side1 ?side2 A2.out).mono ?_); (case side1 => repeat (first | exact (Kd.R_reads' HO174.out).2.2 | (with_reducible refine Kd.C_alloc ?_ _) | (with_reducible refine Kd.C_drewN ?_ _) | (with_reducible refine Kd.C_drew ?_))); (case side2 => exact (Kd.R_reads' HO174.out).2.1); rintro e w23 ⟨v177, rfl, ho0, hb⟩; have n0_ := Aside0.mk (Kd.R_below (by (with_reducible repeat (first | apply Kd.R_alloc | apply Kd.R_drewN | apply Kd.R_drew)); exact HO174.out) hb); have n1_ := Aside0.mk (Kd.R_lower ho0 (below_size (by repeat (first | (with_reducible first | exact HB.out | apply below_alloc | apply pw_below_drewN | apply below_drew1) | exact HB.out)))); have n2_ := Aside0.mk (below_step (by repeat (first | (with_reducible first | exact HB.out | apply below_alloc | apply pw_below_drewN | apply below_drew1) | exact HB.out)) hb); clear HO174; clear HB; have HO174 := n0_; have HO178 := n1_; have HB := n2_; clear n0_ n1_ n2_; (try clear hb); (try clear hb2); (try clear hk); (try clear hi); (try clear ho0); obtain ⟨Ao24, co24, eo24⟩ := Kd.R_slice HO178.out; subst eo24; have p179 : 0 ≤ (0 : Int) := (by omega); have q179 : 0 < (t175.length : Int) := of_decide_eq_true (by first | (with_reducible assumption) | assumption); obtain ⟨ad179, e179, hx179_0⟩ := Kd.at_int (Kd.R_reads' HO178.out).2.2 0 p179 q179; cases e179; have qi179 : (0 < t175.length) = True := eq_true (by omega); (try rw [show ((0 : Int)).toNat = 0 from rfl] at hx179_0); (try rw [Addr.add_zero'] at hx179_0); replace p179 := eq_true p179; replace q179 := eq_true q179; have p180 : 0 ≤ (1 : Int) := (by omega); have q180 : 1 < (t175.length : Int) := of_decide_eq_true (by first | (with_reducible assumption) | assumption); obtain ⟨ad180, e180, hx180_0⟩ := Kd.at_int (Kd.R_reads' HO178.out).2.2 1 p180 q180; obtain rfl : ad179 = ad180 := (by injection e180); (try simp only [show (1 : Int).toNat = 1 from rfl, Nat.reduceMul, Nat.reduceEqDiff, Go.Addr.add, ↓reduceIte] at hx180_0); have qi180 : (1 < t175.length) = True := eq_true (by omega); (try rw [show ((1 : Int)).toNat = 1 from rfl] at hx180_0); replace p180 := eq_true p180; replace q180 := eq_true q180; have p181 : 0 ≤ (2 : Int) := (by omega); have q181 : 2 < (t175.length : Int) := of_decide_eq_true (by first | (with_reducible assumption) | assumption); obtain ⟨ad181, e181, hx181_0⟩ := Kd.at_int (Kd.R_reads' HO178.out).2.2 2 p181 q181; obtain rfl : ad179 = ad181 := (by injection e181); (try simp only [show (2 : Int).toNat = 2 from rfl, Nat.reduceMul, Nat.reduceEqDiff, Go.Addr.add, ↓reduceIte] at hx181_0); have qi181 : (2 < t175.length) = True := eq_true (by omega); (try rw [show ((2 : Int)).toNat = 2 from rfl] at hx181_0); replace p181 := eq_true p181; replace q181 := eq_true q181; have p182 : 0 ≤ (3 : Int) := (by omega); have q182 : 3 < (t175.length : Int) := of_decide_eq_true (by first | (with_reducible assumption) | assumption); obtain ⟨ad182, e182, hx182_0⟩ := Kd.at_int (Kd.R_reads' HO178.out).2.2 3 p182 q182; obtain rfl : ad179 = ad182 := (by injection e182); (try simp only [show (3 : Int).toNat = 3 from rfl, Nat.reduceMul, Nat.reduceEqDiff, Go.Addr.add, ↓reduceIte] at hx182_0); have qi182 : (3 < t175.length) = True := eq_true (by omega); (try rw [show ((3 : Int)).toNat = 3 from rfl] at hx182_0); replace p182 := eq_true p182; replace q182 := eq_true q182; have p183 : 0 ≤ (4 : Int) := (by omega); have q183 : 4 < (t175.length : Int) := of_decide_eq_true (by first | (with_reducible assumption) | assumption); obtain ⟨ad183, e183, hx183_0⟩ := Kd.at_int (Kd.R_reads' HO178.out).2.2 4 p183 q183; obtain rfl : ad179 = ad183 := (by injection e183); (try simp only [show (4 : Int).toNat = 4 from rfl, Nat.reduceMul, Nat.reduceEqDiff, Go.Addr.add, ↓reduceIte] at hx183_0); have qi183 : (4 < t175.length) = True := eq_true (by omega); (try rw [show ((4 : Int)).toNat = 4 from rfl] at hx183_0); replace p183 := eq_true p183; replace q183 := eq_true q183; have p184 : 0 ≤ (5 : Int) := (by omega); have q184 : 5 < (t175.length : Int) := of_decide_eq_true (by first | (with_reducible assumption) | assumption); obtain ⟨ad184, e184, hx184_0⟩ := Kd.at_int (Kd.R_reads' HO178.out).2.2 5 p184 q184; obtain rfl : ad179 = ad184 := (by injection e184); (try simp only [show (5 : Int).toNat = 5 from rfl, Nat.reduceMul, Nat.reduceEqDiff, Go.Addr.add, ↓reduceIte] at hx184_0); have qi184 : (5 < t175.length) = True := eq_true (by omega); (try rw [show ((5 : Int)).toNat = 5 from rfl] at hx184_0); replace p184 := eq_true p184; replace q184 := eq_true q184) | (go_at_call 11; (with_reducible refine (when_Of.calls k (rd t175 0) (rd t175 1) (rd t175 2) (rd t175 3) (rd t175 4) (rd t175 5) t185 true _ A10.out).mono ?_); rintro e w' ⟨rfl, ⟨nd, rfl⟩⟩; (try first | exact ⟨rfl, _, World.drewN_drewN _ _ _⟩ | exact ⟨rfl, _, Eq.trans (World.drewN_drewN _ _ _) (congrArg (World.drewN _) (Nat.add_assoc _ _ _))⟩)) | (go_at_call 13; (with_reducible refine (when_Basic.calls k t185 t187 _ A12.out).mono ?_); rintro e w25 ⟨rfl, hb⟩; have n0_ := Aside0.mk (Kd.R_below (by (with_reducible repeat (first | apply Kd.R_alloc | apply Kd.R_drewN | apply Kd.R_drew)); exact HO174.out) hb); have n1_ := Aside0.mk (Kd.R_below (by (with_reducible repeat (first | apply Kd.R_alloc | apply Kd.R_drewN | apply Kd.R_drew)); exact HO178.out) hb); have n2_ := Aside0.mk (below_step (by repeat (first | (with_reducible first | exact HB.out | apply below_alloc | apply pw_below_drewN | apply below_drew1) | exact HB.out)) hb); clear HO174; clear HO178; clear HB; have HO174 := n0_; have HO178 := n1_; have HB := n2_; clear n0_ n1_ n2_; (try clear hb); (try clear hb2); (try clear hk); (try clear hi)))
                    repeat (go_quiet (first | ((with_reducible refine gate_dst (N := 15) rfl ?_); refine Kd.R_lit k45 _ 45 ?hg (N := 15) ?hd (xs := ([(⟨0, 4⟩ : S45), (⟨4, 2⟩ : S45), (⟨6, 2⟩ : S45), (⟨9, 2⟩ : S45), (⟨11, 2⟩ : S45), (⟨13, 2⟩ : S45)] : List (S45))) (inner := [.int .i64 0, .int .i64 4, .int .i64 4, .int .i64 2, .int .i64 6, .int .i64 2, .int .i64 9, .int .i64 2, .int .i64 11, .int .i64 2, .int .i64 13, .int .i64 2]) (ok := fun _ => True) (okp := fun _ => True) ?hr ?hp (fun _ hk => hk) trivial (Below.refl _ _) (Nat.le_refl _) (by simp) ?_; (case hd => rfl); (case hg => rfl); (case hr => first | (go_simp; done) | (go_simp; rfl)); (case hp => exact (Reps.c2 (show Kd.M k45 _ _ _ (⟨0, 4⟩ : S45) [.int .i64 0, .int .i64 4] from (k45_mkM _ _ _ (⟨0, 4⟩ : S45) )) (Reps.c2 (show Kd.M k45 _ _ _ (⟨4, 2⟩ : S45) [.int .i64 4, .int .i64 2] from (k45_mkM _ _ _ (⟨4, 2⟩ : S45) )) (Reps.c2 (show Kd.M k45 _ _ _ (⟨6, 2⟩ : S45) [.int .i64 6, .int .i64 2] from (k45_mkM _ _ _ (⟨6, 2⟩ : S45) )) (Reps.c2 (show Kd.M k45 _ _ _ (⟨9, 2⟩ : S45) [.int .i64 9, .int .i64 2] from (k45_mkM _ _ _ (⟨9, 2⟩ : S45) )) (Reps.c2 (show Kd.M k45 _ _ _ (⟨11, 2⟩ : S45) [.int .i64 11, .int .i64 2] from (k45_mkM _ _ _ (⟨11, 2⟩ : S45) )) (Reps.c2 (show Kd.M k45 _ _ _ (⟨13, 2⟩ : S45) [.int .i64 13, .int .i64 2] from (k45_mkM _ _ _ (⟨13, 2⟩ : S45) )) (Reps.none _ _)))))))); intro v173 w20 ho21 hb hg_ hnew_; clear hg_ hnew_; (first | rw [← Ny172.out] at ho21 | (simp only [Int.reduceToNat] at ho21; rw [← Ny172.out] at ho21)); have n0_ := Aside0.mk (Kd.R_lower ho21 (below_size (by repeat (first | (with_reducible first | exact HB.out | apply below_alloc | apply pw_below_drewN | apply below_drew1) | exact HB.out)))); have n1_ := Aside0.mk (below_step (by repeat (first | (with_reducible first | exact HB.out | apply below_alloc | apply pw_below_drewN | apply below_drew1) | exact HB.out)) hb); clear HB; have HO174 := n0_; have HB := n1_; clear n0_ n1_; clear hb ho21; obtain ⟨Ao22, co22, eo22⟩ := Kd.R_slice HO174.out; subst eo22) | (go_at_call 35; (with_reducible refine (when_all.calls k a0 _ _ y172 t175 true _ ?side1 ?side2 A2.out).mono ?_); (case side1 => repeat (first | exact (Kd.R_reads' HO174.out).2.2 | (with_reducible refine Kd.C_alloc ?_ _) | (with_reducible refine Kd.C_drewN ?_ _) | (with_reducible refine Kd.C_drew ?_))); (case side2 => exact (Kd.R_reads' HO174.out).2.1); rintro e w23 ⟨v177, rfl, ho0, hb⟩; have n0_ := Aside0.mk (Kd.R_below (by (with_reducible repeat (first | apply Kd.R_alloc | apply Kd.R_drewN | apply Kd.R_drew)); exact HO174.out) hb); have n1_ := Aside0.mk (Kd.R_lower ho0 (below_size (by repeat (first | (with_reducible first | exact HB.out | apply below_alloc | apply pw_below_drewN | apply below_drew1) | exact HB.out)))); have n2_ := Aside0.mk (below_step (by repeat (first | (with_reducible first | exact HB.out | apply below_alloc | apply pw_below_drewN | apply below_drew1) | exact HB.out)) hb); clear HO174; clear HB; have HO174 := n0_; have HO178 := n1_; have HB := n2_; clear n0_ n1_ n2_; (try clear hb); (try clear hb2); (try clear hk); (try clear hi); (try clear ho0); obtain ⟨Ao24, co24, eo24⟩ := Kd.R_slice HO178.out; subst eo24; have p179 : 0 ≤ (0 : Int) := (by omega); have q179 : 0 < (t175.length : Int) := of_decide_eq_true (by first | (with_reducible assumption) | assumption); obtain ⟨ad179, e179, hx179_0⟩ := Kd.at_int (Kd.R_reads' HO178.out).2.2 0 p179 q179; cases e179; have qi179 : (0 < t175.length) = True := eq_true (by omega); (try rw [show ((0 : Int)).toNat = 0 from rfl] at hx179_0); (try rw [Addr.add_zero'] at hx179_0); replace p179 := eq_true p179; replace q179 := eq_true q179; have p180 : 0 ≤ (1 : Int) := (by omega); have q180 : 1 < (t175.length : Int) := of_decide_eq_true (by first | (with_reducible assumption) | assumption); obtain ⟨ad180, e180, hx180_0⟩ := Kd.at_int (Kd.R_reads' HO178.out).2.2 1 p180 q180; obtain rfl : ad179 = ad180 := (by injection e180); (try simp only [show (1 : Int).toNat = 1 from rfl, Nat.reduceMul, Nat.reduceEqDiff, Go.Addr.add, ↓reduceIte] at hx180_0); have qi180 : (1 < t175.length) = True := eq_true (by omega); (try rw [show ((1 : Int)).toNat = 1 from rfl] at hx180_0); replace p180 := eq_true p180; replace q180 := eq_true q180; have p181 : 0 ≤ (2 : Int) := (by omega); have q181 : 2 < (t175.length : Int) := of_decide_eq_true (by first | (with_reducible assumption) | assumption); obtain ⟨ad181, e181, hx181_0⟩ := Kd.at_int (Kd.R_reads' HO178.out).2.2 2 p181 q181; obtain rfl : ad179 = ad181 := (by injection e181); (try simp only [show (2 : Int).toNat = 2 from rfl, Nat.reduceMul, Nat.reduceEqDiff, Go.Addr.add, ↓reduceIte] at hx181_0); have qi181 : (2 < t175.length) = True := eq_true (by omega); (try rw [show ((2 : Int)).toNat = 2 from rfl] at hx181_0); replace p181 := eq_true p181; replace q181 := eq_true q181; have p182 : 0 ≤ (3 : Int) := (by omega); have q182 : 3 < (t175.length : Int) := of_decide_eq_true (by first | (with_reducible assumption) | assumption); obtain ⟨ad182, e182, hx182_0⟩ := Kd.at_int (Kd.R_reads' HO178.out).2.2 3 p182 q182; obtain rfl : ad179 = ad182 := (by injection e182); (try simp only [show (3 : Int).toNat = 3 from rfl, Nat.reduceMul, Nat.reduceEqDiff, Go.Addr.add, ↓reduceIte] at hx182_0); have qi182 : (3 < t175.length) = True := eq_true (by omega); (try rw [show ((3 : Int)).toNat = 3 from rfl] at hx182_0); replace p182 := eq_true p182; replace q182 := eq_true q182; have p183 : 0 ≤ (4 : Int) := (by omega); have q183 : 4 < (t175.length : Int) := of_decide_eq_true (by first | (with_reducible assumption) | assumption); obtain ⟨ad183, e183, hx183_0⟩ := Kd.at_int (Kd.R_reads' HO178.out).2.2 4 p183 q183; obtain rfl : ad179 = ad183 := (by injection e183); (try simp only [show (4 : Int).toNat = 4 from rfl, Nat.reduceMul, Nat.reduceEqDiff, Go.Addr.add, ↓reduceIte] at hx183_0); have qi183 : (4 < t175.length) = True := eq_true (by omega); (try rw [show ((4 : Int)).toNat = 4 from rfl] at hx183_0); replace p183 := eq_true p183; replace q183 := eq_true q183; have p184 : 0 ≤ (5 : Int) := (by omega); have q184 : 5 < (t175.length : Int) := of_decide_eq_true (by first | (with_reducible assumption) | assumption); obtain ⟨ad184, e184, hx184_0⟩ := Kd.at_int (Kd.R_reads' HO178.out).2.2 5 p184 q184; obtain rfl : ad179 = ad184 := (by injection e184); (try simp only [show (5 : Int).toNat = 5 from rfl, Nat.reduceMul, Nat.reduceEqDiff, Go.Addr.add, ↓reduceIte] at hx184_0); have qi184 : (5 < t175.length) = True := eq_true (by omega); (try rw [show ((5 : Int)).toNat = 5 from rfl] at hx184_0); replace p184 := eq_true p184; replace q184 := eq_true q184) | (go_at_call 11; (with_reducible refine (when_Of.calls k (rd t175 0) (rd t175 1) (rd t175 2) (rd t175 3) (rd t175 4) (rd t175 5) t185 true _ A10.out).mono ?_); rintro e w' ⟨rfl, ⟨nd, rfl⟩⟩; (try first | exact ⟨rfl, _, World.drewN_drewN _ _ _⟩ | exact ⟨rfl, _, Eq.trans (World.drewN_drewN _ _ _) (congrArg (World.drewN _) (Nat.add_assoc _ _ _))⟩)) | (go_at_call 13; (with_reducible refine (when_Basic.calls k t185 t187 _ A12.out).mono ?_); rintro e w25 ⟨rfl, hb⟩; have n0_ := Aside0.mk (Kd.R_below (by (with_reducible repeat (first | apply Kd.R_alloc | apply Kd.R_drewN | apply Kd.R_drew)); exact HO174.out) hb); have n1_ := Aside0.mk (Kd.R_below (by (with_reducible repeat (first | apply Kd.R_alloc | apply Kd.R_drewN | apply Kd.R_drew)); exact HO178.out) hb); have n2_ := Aside0.mk (below_step (by repeat (first | (with_reducible first | exact HB.out | apply below_alloc | apply pw_below_drewN | apply below_drew1) | exact HB.out)) hb); clear HO174; clear HO178; clear HB; have HO174 := n0_; have HO178 := n1_; have HB := n2_; clear n0_ n1_ n2_; (try clear hb); (try clear hb2); (try clear hk); (try clear hi))); try go_wp2_with (first | ((with_reducible refine gate_dst (N := 15) rfl ?_); refine Kd.R_lit k45 _ 45 ?hg (N := 15) ?hd (xs := ([(⟨0, 4⟩ : S45), (⟨4, 2⟩ : S45), (⟨6, 2⟩ : S45), (⟨9, 2⟩ : S45), (⟨11, 2⟩ : S45), (⟨13, 2⟩ : S45)] : List (S45))) (inner := [.int .i64 0, .int .i64 4, .int .i64 4, .int .i64 2, .int .i64 6, .int .i64 2, .int .i64 9, .int .i64 2, .int .i64 11, .int .i64 2, .int .i64 13, .int .i64 2]) (ok := fun _ => True) (okp := fun _ => True) ?hr ?hp (fun _ hk => hk) trivial (Below.refl _ _) (Nat.le_refl _) (by simp) ?_; (case hd => rfl); (case hg => rfl); (case hr => first | (go_simp; done) | (go_simp; rfl)); (case hp => exact (Reps.c2 (show Kd.M k45 _ _ _ (⟨0, 4⟩ : S45) [.int .i64 0, .int .i64 4] from (k45_mkM _ _ _ (⟨0, 4⟩ : S45) )) (Reps.c2 (show Kd.M k45 _ _ _ (⟨4, 2⟩ : S45) [.int .i64 4, .int .i64 2] from (k45_mkM _ _ _ (⟨4, 2⟩ : S45) )) (Reps.c2 (show Kd.M k45 _ _ _ (⟨6, 2⟩ : S45) [.int .i64 6, .int .i64 2] from (k45_mkM _ _ _ (⟨6, 2⟩ : S45) )) (Reps.c2 (show Kd.M k45 _ _ _ (⟨9, 2⟩ : S45) [.int .i64 9, .int .i64 2] from (k45_mkM _ _ _ (⟨9, 2⟩ : S45) )) (Reps.c2 (show Kd.M k45 _ _ _ (⟨11, 2⟩ : S45) [.int .i64 11, .int .i64 2] from (k45_mkM _ _ _ (⟨11, 2⟩ : S45) )) (Reps.c2 (show Kd.M k45 _ _ _ (⟨13, 2⟩ : S45) [.int .i64 13, .int .i64 2] from (k45_mkM _ _ _ (⟨13, 2⟩ : S45) )) (Reps.none _ _)))))))); intro v173 w20 ho21 hb hg_ hnew_; clear hg_ hnew_; (first | rw [← Ny172.out] at ho21 | (simp only [Int.reduceToNat] at ho21; rw [← Ny172.out] at ho21)); have n0_ := Aside0.mk (Kd.R_lower ho21 (below_size (by repeat (first | (with_reducible first | exact HB.out | apply below_alloc | apply pw_below_drewN | apply below_drew1) | exact HB.out)))); have n1_ := Aside0.mk (below_step (by repeat (first | (with_reducible first | exact HB.out | apply below_alloc | apply pw_below_drewN | apply below_drew1) | exact HB.out)) hb); clear HB; have HO174 := n0_; have HB := n1_; clear n0_ n1_; clear hb ho21; obtain ⟨Ao22, co22, eo22⟩ := Kd.R_slice HO174.out; subst eo22) | (go_at_call 35; (with_reducible refine (when_all.calls k a0 _ _ y172 t175 true _ ?side1 ?side2 A2.out).mono ?_); (case side1 => repeat (first | exact (Kd.R_reads' HO174.out).2.2 | (with_reducible refine Kd.C_alloc ?_ _) | (with_reducible refine Kd.C_drewN ?_ _) | (with_reducible refine Kd.C_drew ?_))); (case side2 => exact (Kd.R_reads' HO174.out).2.1); rintro e w23 ⟨v177, rfl, ho0, hb⟩; have n0_ := Aside0.mk (Kd.R_below (by (with_reducible repeat (first | apply Kd.R_alloc | apply Kd.R_drewN | apply Kd.R_drew)); exact HO174.out) hb); have n1_ := Aside0.mk (Kd.R_lower ho0 (below_size (by repeat (first | (with_reducible first | exact HB.out | apply below_alloc | apply pw_below_drewN | apply below_drew1) | exact HB.out)))); have n2_ := Aside0.mk (below_step (by repeat (first | (with_reducible first | exact HB.out | apply below_alloc | apply pw_below_drewN | apply below_drew1) | exact HB.out)) hb); clear HO174; clear HB; have HO174 := n0_; have HO178 := n1_; have HB := n2_; clear n0_ n1_ n2_; (try clear hb); (try clear hb2); (try clear hk); (try clear hi); (try clear ho0); obtain ⟨Ao24, co24, eo24⟩ := Kd.R_slice HO178.out; subst eo24; have p179 : 0 ≤ (0 : Int) := (by omega); have q179 : 0 < (t175.length : Int) := of_decide_eq_true (by first | (with_reducible assumption) | assumption); obtain ⟨ad179, e179, hx179_0⟩ := Kd.at_int (Kd.R_reads' HO178.out).2.2 0 p179 q179; cases e179; have qi179 : (0 < t175.length) = True := eq_true (by omega); (try rw [show ((0 : Int)).toNat = 0 from rfl] at hx179_0); (try rw [Addr.add_zero'] at hx179_0); replace p179 := eq_true p179; replace q179 := eq_true q179; have p180 : 0 ≤ (1 : Int) := (by omega); have q180 : 1 < (t175.length : Int) := of_decide_eq_true (by first | (with_reducible assumption) | assumption); obtain ⟨ad180, e180, hx180_0⟩ := Kd.at_int (Kd.R_reads' HO178.out).2.2 1 p180 q180; obtain rfl : ad179 = ad180 := (by injection e180); (try simp only [show (1 : Int).toNat = 1 from rfl, Nat.reduceMul, Nat.reduceEqDiff, Go.Addr.add, ↓reduceIte] at hx180_0); have qi180 : (1 < t175.length) = True := eq_true (by omega); (try rw [show ((1 : Int)).toNat = 1 from rfl] at hx180_0); replace p180 := eq_true p180; replace q180 := eq_true q180; have p181 : 0 ≤ (2 : Int) := (by omega); have q181 : 2 < (t175.length : Int) := of_decide_eq_true (by first | (with_reducible assumption) | assumption); obtain ⟨ad181, e181, hx181_0⟩ := Kd.at_int (Kd.R_reads' HO178.out).2.2 2 p181 q181; obtain rfl : ad179 = ad181 := (by injection e181); (try simp only [show (2 : Int).toNat = 2 from rfl, Nat.reduceMul, Nat.reduceEqDiff, Go.Addr.add, ↓reduceIte] at hx181_0); have qi181 : (2 < t175.length) = True := eq_true (by omega); (try rw [show ((2 : Int)).toNat = 2 from rfl] at hx181_0); replace p181 := eq_true p181; replace q181 := eq_true q181; have p182 : 0 ≤ (3 : Int) := (by omega); have q182 : 3 < (t175.length : Int) := of_decide_eq_true (by first | (with_reducible assumption) | assumption); obtain ⟨ad182, e182, hx182_0⟩ := Kd.at_int (Kd.R_reads' HO178.out).2.2 3 p182 q182; obtain rfl : ad179 = ad182 := (by injection e182); (try simp only [show (3 : Int).toNat = 3 from rfl, Nat.reduceMul, Nat.reduceEqDiff, Go.Addr.add, ↓reduceIte] at hx182_0); have qi182 : (3 < t175.length) = True := eq_true (by omega); (try rw [show ((3 : Int)).toNat = 3 from rfl] at hx182_0); replace p182 := eq_true p182; replace q182 := eq_true q182; have p183 : 0 ≤ (4 : Int) := (by omega); have q183 : 4 < (t175.length : Int) := of_decide_eq_true (by first | (with_reducible assumption) | assumption); obtain ⟨ad183, e183, hx183_0⟩ := Kd.at_int (Kd.R_reads' HO178.out).2.2 4 p183 q183; obtain rfl : ad179 = ad183 := (by injection e183); (try simp only [show (4 : Int).toNat = 4 from rfl, Nat.reduceMul, Nat.reduceEqDiff, Go.Addr.add, ↓reduceIte] at hx183_0); have qi183 : (4 < t175.length) = True := eq_true (by omega); (try rw [show ((4 : Int)).toNat = 4 from rfl] at hx183_0); replace p183 := eq_true p183; replace q183 := eq_true q183; have p184 : 0 ≤ (5 : Int) := (by omega); have q184 : 5 < (t175.length : Int) := of_decide_eq_true (by first | (with_reducible assumption) | assumption); obtain ⟨ad184, e184, hx184_0⟩ := Kd.at_int (Kd.R_reads' HO178.out).2.2 5 p184 q184; obtain rfl : ad179 = ad184 := (by injection e184); (try simp only [show (5 : Int).toNat = 5 from rfl, Nat.reduceMul, Nat.reduceEqDiff, Go.Addr.add, ↓reduceIte] at hx184_0); have qi184 : (5 < t175.length) = True := eq_true (by omega); (try rw [show ((5 : Int)).toNat = 5 from rfl] at hx184_0); replace p184 := eq_true p184; replace q184 := eq_true q184) | (go_at_call 11; (with_reducible refine (when_Of.calls k (rd t175 0) (rd t175 1) (rd t175 2) (rd t175 3) (rd t175 4) (rd t175 5) t185 true _ A10.out).mono ?_); rintro e w' ⟨rfl, ⟨nd, rfl⟩⟩; (try first | exact ⟨rfl, _, World.drewN_drewN _ _ _⟩ | exact ⟨rfl, _, Eq.trans (World.drewN_drewN _ _ _) (congrArg (World.drewN _) (Nat.add_assoc _ _ _))⟩)) | (go_at_call 13; (with_reducible refine (when_Basic.calls k t185 t187 _ A12.out).mono ?_); rintro e w25 ⟨rfl, hb⟩; have n0_ := Aside0.mk (Kd.R_below (by (with_reducible repeat (first | apply Kd.R_alloc | apply Kd.R_drewN | apply Kd.R_drew)); exact HO174.out) hb); have n1_ := Aside0.mk (Kd.R_below (by (with_reducible repeat (first | apply Kd.R_alloc | apply Kd.R_drewN | apply Kd.R_drew)); exact HO178.out) hb); have n2_ := Aside0.mk (below_step (by repeat (first | (with_reducible first | exact HB.out | apply below_alloc | apply pw_below_drewN | apply below_drew1) | exact HB.out)) hb); clear HO174; clear HO178; clear HB; have HO174 := n0_; have HO178 := n1_; have HB := n2_; clear n0_ n1_ n2_; (try clear hb); (try clear hb2); (try clear hk); (try clear hi))))
                    go_ret2
                    exact ⟨by first | rfl | (simp [errW_none, errW_some] <;> rfl) | (simp [*, errW_none, errW_some] <;> rfl), by repeat (first | (with_reducible first | exact HB.out | apply below_alloc | apply pw_below_drewN | apply below_drew1) | exact HB.out)⟩
                · replace c11 := Bool.eq_false_iff.mpr c11
                  subst c11
                  have H1 : (some (0, false)) = some (r1, r2) := by rw [if_neg (show ¬ (false = true) by decide)] at H; exact H
                  clear H
                  have H := H1
                  clear H1
                  simp only [Option.some.injEq, Prod.mk.injEq] at H
                  obtain ⟨rfl, rfl⟩ := H
                  go_enter Try.func21, Try.ntmps21
                  go_wp2_with (first | ((with_reducible refine gate_dst (N := 15) rfl ?_); refine Kd.R_lit k45 _ 45 ?hg (N := 15) ?hd (xs := ([(⟨0, 4⟩ : S45), (⟨4, 2⟩ : S45), (⟨6, 2⟩ : S45), (⟨9, 2⟩ : S45), (⟨11, 2⟩ : S45), (⟨13, 2⟩ : S45)] : List (S45))) (inner := [.int .i64 0, .int .i64 4, .int .i64 4, .int .i64 2, .int .i64 6, .int .i64 2, .int .i64 9, .int .i64 2, .int .i64 11, .int .i64 2, .int .i64 13, .int .i64 2]) (ok := fun _ => True) (okp := fun _ => True) ?hr ?hp (fun _ hk => hk) trivial (Below.refl _ _) (Nat.le_refl _) (by simp) ?_; (case hd => rfl); (case hg => rfl); (case hr => first | (go_simp; done) | (go_simp; rfl)); (case hp => exact (Reps.c2 (show Kd.M k45 _ _ _ (⟨0, 4⟩ : S45) [.int .i64 0, .int .i64 4] from (k45_mkM _ _ _ (⟨0, 4⟩ : S45) )) (Reps.c2 (show Kd.M k45 _ _ _ (⟨4, 2⟩ : S45) [.int .i64 4, .int .i64 2] from (k45_mkM _ _ _ (⟨4, 2⟩ : S45) )) (Reps.c2 (show Kd.M k45 _ _ _ (⟨6, 2⟩ : S45) [.int .i64 6, .int .i64 2] from (k45_mkM _ _ _ (⟨6, 2⟩ : S45) )) (Reps.c2 (show Kd.M k45 _ _ _ (⟨9, 2⟩ : S45) [.int .i64 9, .int .i64 2] from (k45_mkM _ _ _ (⟨9, 2⟩ : S45) )) (Reps.c2 (show Kd.M k45 _ _ _ (⟨11, 2⟩ : S45) [.int .i64 11, .int .i64 2] from (k45_mkM _ _ _ (⟨11, 2⟩ : S45) )) (Reps.c2 (show Kd.M k45 _ _ _ (⟨13, 2⟩ : S45) [.int .i64 13, .int .i64 2] from (k45_mkM _ _ _ (⟨13, 2⟩ : S45) )) (Reps.none _ _)))))))); intro v173 w26 ho27 hb hg_ hnew_; clear hg_ hnew_; (first | rw [← Ny172.out] at ho27 | (simp only [Int.reduceToNat] at ho27; rw [← Ny172.out] at ho27)); have n0_ := Aside0.mk (Kd.R_lower ho27 (below_size (by repeat (first | (with_reducible first | exact HB.out | apply below_alloc | apply pw_below_drewN | apply below_drew1) | exact HB.out)))); have n1_ := Aside0.mk (below_step (by repeat (first | (with_reducible first | exact HB.out | apply below_alloc | apply pw_below_drewN | apply below_drew1) | exact HB.out)) hb); clear HB; have HO174 := n0_; have HB := n1_; clear n0_ n1_; clear hb ho27; obtain ⟨Ao28, co28, eo28⟩ := Kd.R_slice HO174.out; subst eo28) | (go_at_call 35; (with_reducible refine (when_all.calls k a0 _ _ y172 t175 true _ ?side1 ?side2 A2.out).mono ?_); (case side1 => repeat (first | exact (Kd.R_reads' HO174.out).2.2 | (with_reducible refine Kd.C_alloc ?_ _) | (with_reducible refine Kd.C_drewN ?_ _) | (with_reducible refine Kd.C_drew ?_))); (case side2 => exact (Kd.R_reads' HO174.out).2.1); rintro e w29 ⟨v177, rfl, ho0, hb⟩; have n0_ := Aside0.mk (Kd.R_below (by (with_reducible repeat (first | apply Kd.R_alloc | apply Kd.R_drewN | apply Kd.R_drew)); exact HO174.out) hb); have n1_ := Aside0.mk (Kd.R_lower ho0 (below_size (by repeat (first | (with_reducible first | exact HB.out | apply below_alloc | apply pw_below_drewN | apply below_drew1) | exact HB.out)))); have n2_ := Aside0.mk (below_step (by repeat (first | (with_reducible first | exact HB.out | apply below_alloc | apply pw_below_drewN | apply below_drew1) | exact HB.out)) hb); clear HO174; clear HB; have HO174 := n0_; have HO178 := n1_; have HB := n2_; clear n0_ n1_ n2_; (try clear hb); (try clear hb2); (try clear hk); (try clear hi); (try clear ho0); obtain ⟨Ao30, co30, eo30⟩ := Kd.R_slice HO178.out; subst eo30; have p179 : 0 ≤ (0 : Int) := (by omega); have q179 : 0 < (t175.length : Int) := of_decide_eq_true (by first | (with_reducible assumption) | assumption); obtain ⟨ad179, e179, hx179_0⟩ := Kd.at_int (Kd.R_reads' HO178.out).2.2 0 p179 q179; cases e179; have qi179 : (0 < t175.length) = True := eq_true (by omega); (try rw [show ((0 : Int)).toNat = 0 from rfl] at hx179_0); (try rw [Addr.add_zero'] at hx179_0); replace p179 := eq_true p179; replace q179 := eq_true q179; have p180 : 0 ≤ (1 : Int) := (by omega); have q180 : 1 < (t175.length : Int) := of_decide_eq_true (by first | (with_reducible assumption) | assumption); obtain ⟨ad180, e180, hx180_0⟩ := Kd.at_int (Kd.R_reads' HO178.out).2.2 1 p180 q180; obtain rfl : ad179 = ad180 := (by injection e180); (try simp only [show (1 : Int).toNat = 1 from rfl, Nat.reduceMul, Nat.reduceEqDiff, Go.Addr.add, ↓reduceIte] at hx180_0); have qi180 : (1 < t175.length) = True := eq_true (by omega); (try rw [show ((1 : Int)).toNat = 1 from rfl] at hx180_0); replace p180 := eq_true p180; replace q180 := eq_true q180; have p181 : 0 ≤ (2 : Int) := (by omega); have q181 : 2 < (t175.length : Int) := of_decide_eq_true (by first | (with_reducible assumption) | assumption); obtain ⟨ad181, e181, hx181_0⟩ := Kd.at_int (Kd.R_reads' HO178.out).2.2 2 p181 q181; obtain rfl : ad179 = ad181 := (by injection e181); (try simp only [show (2 : Int).toNat = 2 from rfl, Nat.reduceMul, Nat.reduceEqDiff, Go.Addr.add, ↓reduceIte] at hx181_0); have qi181 : (2 < t175.length) = True := eq_true (by omega); (try rw [show ((2 : Int)).toNat = 2 from rfl] at hx181_0); replace p181 := eq_true p181; replace q181 := eq_true q181; have p182 : 0 ≤ (3 : Int) := (by omega); have q182 : 3 < (t175.length : Int) := of_decide_eq_true (by first | (with_reducible assumption) | assumption); obtain ⟨ad182, e182, hx182_0⟩ := Kd.at_int (Kd.R_reads' HO178.out).2.2 3 p182 q182; obtain rfl : ad179 = ad182 := (by injection e182); (try simp only [show (3 : Int).toNat = 3 from rfl, Nat.reduceMul, Nat.reduceEqDiff, Go.Addr.add, ↓reduceIte] at hx182_0); have qi182 : (3 < t175.length) = True := eq_true (by omega); (try rw [show ((3 : Int)).toNat = 3 from rfl] at hx182_0); replace p182 := eq_true p182; replace q182 := eq_true q182; have p183 : 0 ≤ (4 : Int) := (by omega); have q183 : 4 < (t175.length : Int) := of_decide_eq_true (by first | (with_reducible assumption) | assumption); obtain ⟨ad183, e183, hx183_0⟩ := Kd.at_int (Kd.R_reads' HO178.out).2.2 4 p183 q183; obtain rfl : ad179 = ad183 := (by injection e183); (try simp only [show (4 : Int).toNat = 4 from rfl, Nat.reduceMul, Nat.reduceEqDiff, Go.Addr.add, ↓reduceIte] at hx183_0); have qi183 : (4 < t175.length) = True := eq_true (by omega); (try rw [show ((4 : Int)).toNat = 4 from rfl] at hx183_0); replace p183 := eq_true p183; replace q183 := eq_true q183; have p184 : 0 ≤ (5 : Int) := (by omega); have q184 : 5 < (t175.length : Int) := of_decide_eq_true (by first | (with_reducible assumption) | assumption); obtain ⟨ad184, e184, hx184_0⟩ := Kd.at_int (Kd.R_reads' HO178.out).2.2 5 p184 q184; obtain rfl : ad179 = ad184 := (by injection e184); (try simp only [show (5 : Int).toNat = 5 from rfl, Nat.reduceMul, Nat.reduceEqDiff, Go.Addr.add, ↓reduceIte] at hx184_0); have qi184 : (5 < t175.length) = True := eq_true (by omega); (try rw [show ((5 : Int)).toNat = 5 from rfl] at hx184_0); replace p184 := eq_true p184; replace q184 := eq_true q184) | (go_at_call 11; (with_reducible refine (when_Of.calls k (rd t175 0) (rd t175 1) (rd t175 2) (rd t175 3) (rd t175 4) (rd t175 5) t185 false _ A10.out).mono ?_); rintro e w' ⟨rfl, ⟨nd, rfl⟩⟩; (try first | exact ⟨rfl, _, World.drewN_drewN _ _ _⟩ | exact ⟨rfl, _, Eq.trans (World.drewN_drewN _ _ _) (congrArg (World.drewN _) (Nat.add_assoc _ _ _))⟩)))
                  repeat (go_quiet (first | ((with_reducible refine gate_dst (N := 15) rfl ?_); refine Kd.R_lit k45 _ 45 ?hg (N := 15) ?hd (xs := ([(⟨0, 4⟩ : S45), (⟨4, 2⟩ : S45), (⟨6, 2⟩ : S45), (⟨9, 2⟩ : S45), (⟨11, 2⟩ : S45), (⟨13, 2⟩ : S45)] : List (S45))) (inner := [.int .i64 0, .int .i64 4, .int .i64 4, .int .i64 2, .int .i64 6, .int .i64 2, .int .i64 9, .int .i64 2, .int .i64 11, .int .i64 2, .int .i64 13, .int .i64 2]) (ok := fun _ => True) (okp := fun _ => True) ?hr ?hp (fun _ hk => hk) trivial (Below.refl _ _) (Nat.le_refl _) (by simp) ?_; (case hd => rfl); (case hg => rfl); (case hr => first | (go_simp; done) | (go_simp; rfl)); (case hp => exact (Reps.c2 (show Kd.M k45 _ _ _ (⟨0, 4⟩ : S45) [.int .i64 0, .int .i64 4] from (k45_mkM _ _ _ (⟨0, 4⟩ : S45) )) (Reps.c2 (show Kd.M k45 _ _ _ (⟨4, 2⟩ : S45) [.int .i64 4, .int .i64 2] from (k45_mkM _ _ _ (⟨4, 2⟩ : S45) )) (Reps.c2 (show Kd.M k45 _ _ _ (⟨6, 2⟩ : S45) [.int .i64 6, .int .i64 2] from (k45_mkM _ _ _ (⟨6, 2⟩ : S45) )) (Reps.c2 (show Kd.M k45 _ _ _ (⟨9, 2⟩ : S45) [.int .i64 9, .int .i64 2] from (k45_mkM _ _ _ (⟨9, 2⟩ : S45) )) (Reps.c2 (show Kd.M k45 _ _ _ (⟨11, 2⟩ : S45) [.int .i64 11, .int .i64 2] from (k45_mkM _ _ _ (⟨11, 2⟩ : S45) )) (Reps.c2 (show Kd.M k45 _ _ _ (⟨13, 2⟩ : S45) [.int .i64 13, .int .i64 2] from (k45_mkM _ _ _ (⟨13, 2⟩ : S45) )) (Reps.none _ _)))))))); intro v173 w26 ho27 hb hg_ hnew_; clear hg_ hnew_; (first | rw [← Ny172.out] at ho27 | (simp only [Int.reduceToNat] at ho27; rw [← Ny172.out] at ho27)); have n0_ := Aside0.mk (Kd.R_lower ho27 (below_size (by repeat (first | (with_reducible first | exact HB.out | apply below_alloc | apply pw_below_drewN | apply below_drew1) | exact HB.out)))); have n1_ := Aside0.mk (below_step (by repeat (first | (with_reducible first | exact HB.out | apply below_alloc | apply pw_below_drewN | apply below_drew1) | exact HB.out)) hb); clear HB; have HO174 := n0_; have HB := n1_; clear n0_ n1_; clear hb ho27; obtain ⟨Ao28, co28, eo28⟩ := Kd.R_slice HO174.out; subst eo28) | (go_at_call 35; (with_reducible refine (when_all.calls k a0 _ _ y172 t175 true _ ?side1 ?side2 A2.out).mono ?_); (case side1 => repeat (first | exact (Kd.R_reads' HO174.out).2.2 | (with_reducible refine Kd.C_alloc ?_ _) | (with_reducible refine Kd.C_drewN ?_ _) | (with_reducible refine Kd.C_drew ?_))); (case side2 => exact (Kd.R_reads' HO174.out).2.1); rintro e w29 ⟨v177, rfl, ho0, hb⟩; have n0_ := Aside0.mk (Kd.R_below (by (with_reducible repeat (first | apply Kd.R_alloc | apply Kd.R_drewN | apply Kd.R_drew)); exact HO174.out) hb); have n1_ := Aside0.mk (Kd.R_lower ho0 (below_size (by repeat (first | (with_reducible first | exact HB.out | apply below_alloc | apply pw_below_drewN | apply below_drew1) | exact HB.out)))); have n2_ := Aside0.mk (below_step (by repeat (first | (with_reducible first | exact HB.out | apply below_alloc | apply pw_below_drewN | apply below_drew1) | exact HB.out)) hb); clear HO174; clear HB; have HO174 := n0_; have HO178 := n1_; have HB := n2_; clear n0_ n1_ n2_; (try clear hb); (try clear hb2); (try clear hk); (try clear hi); (try clear ho0); obtain ⟨Ao30, co30, eo30⟩ := Kd.R_slice HO178.out; subst eo30; have p179 : 0 ≤ (0 : Int) := (by omega); have q179 : 0 < (t175.length : Int) := of_decide_eq_true (by first | (with_reducible assumption) | assumption); obtain ⟨ad179, e179, hx179_0⟩ := Kd.at_int (Kd.R_reads' HO178.out).2.2 0 p179 q179; cases e179; have qi179 : (0 < t175.length) = True := eq_true (by omega); (try rw [show ((0 : Int)).toNat = 0 from rfl] at hx179_0); (try rw [Addr.add_zero'] at hx179_0); replace p179 := eq_true p179; replace q179 := eq_true q179; have p180 : 0 ≤ (1 : Int) := (by omega); have q180 : 1 < (t175.length : Int) := of_decide_eq_true (by first | (with_reducible assumption) | assumption); obtain ⟨ad180, e180, hx180_0⟩ := Kd.at_int (Kd.R_reads' HO178.out).2.2 1 p180 q180; obtain rfl : ad179 = ad180 := (by injection e180); (try simp only [show (1 : Int).toNat = 1 from rfl, Nat.reduceMul, Nat.reduceEqDiff, Go.Addr.add, ↓reduceIte] at hx180_0); have qi180 : (1 < t175.length) = True := eq_true (by omega); (try rw [show ((1 : Int)).toNat = 1 from rfl] at hx180_0); replace p180 := eq_true p180; replace q180 := eq_true q180; have p181 : 0 ≤ (2 : Int) := (by omega); have q181 : 2 < (t175.length : Int) := of_decide_eq_true (by first | (with_reducible assumption) | assumption); obtain ⟨ad181, e181, hx181_0⟩ := Kd.at_int (Kd.R_reads' HO178.out).2.2 2 p181 q181; obtain rfl : ad179 = ad181 := (by injection e181); (try simp only [show (2 : Int).toNat = 2 from rfl, Nat.reduceMul, Nat.reduceEqDiff, Go.Addr.add, ↓reduceIte] at hx181_0); have qi181 : (2 < t175.length) = True := eq_true (by omega); (try rw [show ((2 : Int)).toNat = 2 from rfl] at hx181_0); replace p181 := eq_true p181; replace q181 := eq_true q181; have p182 : 0 ≤ (3 : Int) := (by omega); have q182 : 3 < (t175.length : Int) := of_decide_eq_true (by first | (with_reducible assumption) | assumption); obtain ⟨ad182, e182, hx182_0⟩ := Kd.at_int (Kd.R_reads' HO178.out).2.2 3 p182 q182; obtain rfl : ad179 = ad182 := (by injection e182); (try simp only [show (3 : Int).toNat = 3 from rfl, Nat.reduceMul, Nat.reduceEqDiff, Go.Addr.add, ↓reduceIte] at hx182_0); have qi182 : (3 < t175.length) = True := eq_true (by omega); (try rw [show ((3 : Int)).toNat = 3 from rfl] at hx182_0); replace p182 := eq_true p182; replace q182 := eq_true q182; have p183 : 0 ≤ (4 : Int) := (by omega); have q183 : 4 < (t175.length : Int) := of_decide_eq_true (by first | (with_reducible assumption) | assumption); obtain ⟨ad183, e183, hx183_0⟩ := Kd.at_int (Kd.R_reads' HO178.out).2.2 4 p183 q183; obtain rfl : ad179 = ad183 := (by injection e183); (try simp only [show (4 : Int).toNat = 4 from rfl, Nat.reduceMul, Nat.reduceEqDiff, Go.Addr.add, ↓reduceIte] at hx183_0); have qi183 : (4 < t175.length) = True := eq_true (by omega); (try rw [show ((4 : Int)).toNat = 4 from rfl] at hx183_0); replace p183 := eq_true p183; replace q183 := eq_true q183; have p184 : 0 ≤ (5 : Int) := (by omega); have q184 : 5 < (t175.length : Int) := of_decide_eq_true (by first | (with_reducible assumption) | assumption); obtain ⟨ad184, e184, hx184_0⟩ := Kd.at_int (Kd.R_reads' HO178.out).2.2 5 p184 q184; obtain rfl : ad179 = ad184 := (by injection e184); (try simp only [show (5 : Int).toNat = 5 from rfl, Nat.reduceMul, Nat.reduceEqDiff, Go.Addr.add, ↓reduceIte] at hx184_0); have qi184 : (5 < t175.length) = True := eq_true (by omega); (try rw [show ((5 : Int)).toNat = 5 from rfl] at hx184_0); replace p184 := eq_true p184; replace q184 := eq_true q184) | (go_at_call 11; (with_reducible refine (when_Of.calls k (rd t175 0) (rd t175 1) (rd t175 2) (rd t175 3) (rd t175 4) (rd t175 5) t185 false _ A10.out).mono ?_); rintro e w' ⟨rfl, ⟨nd, rfl⟩⟩; (try first | exact ⟨rfl, _, World.drewN_drewN _ _ _⟩ | exact ⟨rfl, _, Eq.trans (World.drewN_drewN _ _ _) (congrArg (World.drewN _) (Nat.add_assoc _ _ _))⟩))); try go_wp2_with (first | ((with_reducible refine gate_dst (N := 15) rfl ?_); refine Kd.R_lit k45 _ 45 ?hg (N := 15) ?hd (xs := ([(⟨0, 4⟩ : S45), (⟨4, 2⟩ : S45), (⟨6, 2⟩ : S45), (⟨9, 2⟩ : S45), (⟨11, 2⟩ : S45), (⟨13, 2⟩ : S45)] : List (S45))) (inner := [.int .i64 0, .int .i64 4, .int .i64 4, .int .i64 2, .int .i64 6, .int .i64 2, .int .i64 9, .int .i64 2, .int .i64 11, .int .i64 2, .int .i64 13, .int .i64 2]) (ok := fun _ => True) (okp := fun _ => True) ?hr ?hp (fun _ hk => hk) trivial (Below.refl _ _) (Nat.le_refl _) (by simp) ?_; (case hd => rfl); (case hg => rfl); (case hr => first | (go_simp; done) | (go_simp; rfl)); (case hp => exact (Reps.c2 (show Kd.M k45 _ _ _ (⟨0, 4⟩ : S45) [.int .i64 0, .int .i64 4] from (k45_mkM _ _ _ (⟨0, 4⟩ : S45) )) (Reps.c2 (show Kd.M k45 _ _ _ (⟨4, 2⟩ : S45) [.int .i64 4, .int .i64 2] from (k45_mkM _ _ _ (⟨4, 2⟩ : S45) )) (Reps.c2 (show Kd.M k45 _ _ _ (⟨6, 2⟩ : S45) [.int .i64 6, .int .i64 2] from (k45_mkM _ _ _ (⟨6, 2⟩ : S45) )) (Reps.c2 (show Kd.M k45 _ _ _ (⟨9, 2⟩ : S45) [.int .i64 9, .int .i64 2] from (k45_mkM _ _ _ (⟨9, 2⟩ : S45) )) (Reps.c2 (show Kd.M k45 _ _ _ (⟨11, 2⟩ : S45) [.int .i64 11, .int .i64 2] from (k45_mkM _ _ _ (⟨11, 2⟩ : S45) )) (Reps.c2 (show Kd.M k45 _ _ _ (⟨13, 2⟩ : S45) [.int .i64 13, .int .i64 2] from (k45_mkM _ _ _ (⟨13, 2⟩ : S45) )) (Reps.none _ _)))))))); intro v173 w26 ho27 hb hg_ hnew_; clear hg_ hnew_; (first | rw [← Ny172.out] at ho27 | (simp only [Int.reduceToNat] at ho27; rw [← Ny172.out] at ho27)); have n0_ := Aside0.mk (Kd.R_lower ho27 (below_size (by repeat (first | (with_reducible first | exact HB.out | apply below_alloc | apply pw_below_drewN | apply below_drew1) | exact HB.out)))); have n1_ := Aside0.mk (below_step (by repeat (first | (with_reducible first | exact HB.out | apply below_alloc | apply pw_below_drewN | apply below_drew1) | exact HB.out)) hb); clear HB; have HO174 := n0_; have HB := n1_; clear n0_ n1_; clear hb ho27; obtain ⟨Ao28, co28, eo28⟩ := Kd.R_slice HO174.out; subst eo28) | (go_at_call 35; (with_reducible refine (when_all.calls k a0 _ _ y172 t175 true _ ?side1 ?side2 A2.out).mono ?_); (case side1 => repeat (first | exact (Kd.R_reads' HO174.out).2.2 | (with_reducible refine Kd.C_alloc ?_ _) | (with_reducible refine Kd.C_drewN ?_ _) | (with_reducible refine Kd.C_drew ?_))); (case side2 => exact (Kd.R_reads' HO174.out).2.1); rintro e w29 ⟨v177, rfl, ho0, hb⟩; have n0_ := Aside0.mk (Kd.R_below (by (with_reducible repeat (first | apply Kd.R_alloc | apply Kd.R_drewN | apply Kd.R_drew)); exact HO174.out) hb); have n1_ := Aside0.mk (Kd.R_lower ho0 (below_size (by repeat (first | (with_reducible first | exact HB.out | apply below_alloc | apply pw_below_drewN | apply below_drew1) | exact HB.out)))); have n2_ := Aside0.mk (below_step (by repeat (first | (with_reducible first | exact HB.out | apply below_alloc | apply pw_below_drewN | apply below_drew1) | exact HB.out)) hb); clear HO174; clear HB; have HO174 := n0_; have HO178 := n1_; have HB := n2_; clear n0_ n1_ n2_; (try clear hb); (try clear hb2); (try clear hk); (try clear hi); (try clear ho0); obtain ⟨Ao30, co30, eo30⟩ := Kd.R_slice HO178.out; subst eo30; have p179 : 0 ≤ (0 : Int) := (by omega); have q179 : 0 < (t175.length : Int) := of_decide_eq_true (by first | (with_reducible assumption) | assumption); obtain ⟨ad179, e179, hx179_0⟩ := Kd.at_int (Kd.R_reads' HO178.out).2.2 0 p179 q179; cases e179; have qi179 : (0 < t175.length) = True := eq_true (by omega); (try rw [show ((0 : Int)).toNat = 0 from rfl] at hx179_0); (try rw [Addr.add_zero'] at hx179_0); replace p179 := eq_true p179; replace q179 := eq_true q179; have p180 : 0 ≤ (1 : Int) := (by omega); have q180 : 1 < (t175.length : Int) := of_decide_eq_true (by first | (with_reducible assumption) | assumption); obtain ⟨ad180, e180, hx180_0⟩ := Kd.at_int (Kd.R_reads' HO178.out).2.2 1 p180 q180; obtain rfl : ad179 = ad180 := (by injection e180); (try simp only [show (1 : Int).toNat = 1 from rfl, Nat.reduceMul, Nat.reduceEqDiff, Go.Addr.add, ↓reduceIte] at hx180_0); have qi180 : (1 < t175.length) = True := eq_true (by omega); (try rw [show ((1 : Int)).toNat = 1 from rfl] at hx180_0); replace p180 := eq_true p180; replace q180 := eq_true q180; have p181 : 0 ≤ (2 : Int) := (by omega); have q181 : 2 < (t175.length : Int) := of_decide_eq_true (by first | (with_reducible assumption) | assumption); obtain ⟨ad181, e181, hx181_0⟩ := Kd.at_int (Kd.R_reads' HO178.out).2.2 2 p181 q181; obtain rfl : ad179 = ad181 := (by injection e181); (try simp only [show (2 : Int).toNat = 2 from rfl, Nat.reduceMul, Nat.reduceEqDiff, Go.Addr.add, ↓reduceIte] at hx181_0); have qi181 : (2 < t175.length) = True := eq_true (by omega); (try rw [show ((2 : Int)).toNat = 2 from rfl] at hx181_0); replace p181 := eq_true p181; replace q181 := eq_true q181; have p182 : 0 ≤ (3 : Int) := (by omega); have q182 : 3 < (t175.length : Int) := of_decide_eq_true (by first | (with_reducible assumption) | assumption); obtain ⟨ad182, e182, hx182_0⟩ := Kd.at_int (Kd.R_reads' HO178.out).2.2 3 p182 q182; obtain rfl : ad179 = ad182 := (by injection e182); (try simp only [show (3 : Int).toNat = 3 from rfl, Nat.reduceMul, Nat.reduceEqDiff, Go.Addr.add, ↓reduceIte] at hx182_0); have qi182 : (3 < t175.length) = True := eq_true (by omega); (try rw [show ((3 : Int)).toNat = 3 from rfl] at hx182_0); replace p182 := eq_true p182; replace q182 := eq_true q182; have p183 : 0 ≤ (4 : Int) := (by omega); have q183 : 4 < (t175.length : Int) := of_decide_eq_true (by first | (with_reducible assumption) | assumption); obtain ⟨ad183, e183, hx183_0⟩ := Kd.at_int (Kd.R_reads' HO178.out).2.2 4 p183 q183; obtain rfl : ad179 = ad183 := (by injection e183); (try simp only [show (4 : Int).toNat = 4 from rfl, Nat.reduceMul, Nat.reduceEqDiff, Go.Addr.add, ↓reduceIte] at hx183_0); have qi183 : (4 < t175.length) = True := eq_true (by omega); (try rw [show ((4 : Int)).toNat = 4 from rfl] at hx183_0); replace p183 := eq_true p183; replace q183 := eq_true q183; have p184 : 0 ≤ (5 : Int) := (by omega); have q184 : 5 < (t175.length : Int) := of_decide_eq_true (by first | (with_reducible assumption) | assumption); obtain ⟨ad184, e184, hx184_0⟩ := Kd.at_int (Kd.R_reads' HO178.out).2.2 5 p184 q184; obtain rfl : ad179 = ad184 := (by injection e184); (try simp only [show (5 : Int).toNat = 5 from rfl, Nat.reduceMul, Nat.reduceEqDiff, Go.Addr.add, ↓reduceIte] at hx184_0); have qi184 : (5 < t175.length) = True := eq_true (by omega); (try rw [show ((5 : Int)).toNat = 5 from rfl] at hx184_0); replace p184 := eq_true p184; replace q184 := eq_true q184) | (go_at_call 11; (with_reducible refine (when_Of.calls k (rd t175 0) (rd t175 1) (rd t175 2) (rd t175 3) (rd t175 4) (rd t175 5) t185 false _ A10.out).mono ?_); rintro e w' ⟨rfl, ⟨nd, rfl⟩⟩; (try first | exact ⟨rfl, _, World.drewN_drewN _ _ _⟩ | exact ⟨rfl, _, Eq.trans (World.drewN_drewN _ _ _) (congrArg (World.drewN _) (Nat.add_assoc _ _ _))⟩))))
                  go_ret2
                  exact ⟨by first | rfl | (simp [errW_none, errW_some] <;> rfl) | (simp [*, errW_none, errW_some] <;> rfl), by repeat (first | (with_reducible first | exact HB.out | apply below_alloc | apply pw_below_drewN | apply below_drew1) | exact HB.out)⟩
              · rw [if_neg c9] at H
                exact absurd H (by simp)
            · rw [if_neg c8] at H
              exact absurd H (by simp)
          · rw [if_neg c7] at H
            exact absurd H (by simp)
        · rw [if_neg c6] at H
          exact absurd H (by simp)
      · rw [if_neg c5] at H
        exact absurd H (by simp)
    · rw [if_neg c4] at H
      exact absurd H (by simp)
  · replace c3 := Bool.eq_false_iff.mpr c3
    subst c3
    have H1 : (some (0, false)) = some (r1, r2) := by rw [if_neg (show ¬ (false = true) by decide)] at H; exact H
    clear H
    have H := H1
    clear H1
    simp only [Option.some.injEq, Prod.mk.injEq] at H
    obtain ⟨rfl, rfl⟩ := H
    go_enter Try.func21, Try.ntmps21
    go_wp2_with (first | ((with_reducible refine gate_dst (N := 15) rfl ?_); refine Kd.R_lit k45 _ 45 ?hg (N := 15) ?hd (xs := ([(⟨0, 4⟩ : S45), (⟨4, 2⟩ : S45), (⟨6, 2⟩ : S45), (⟨9, 2⟩ : S45), (⟨11, 2⟩ : S45), (⟨13, 2⟩ : S45)] : List (S45))) (inner := [.int .i64 0, .int .i64 4, .int .i64 4, .int .i64 2, .int .i64 6, .int .i64 2, .int .i64 9, .int .i64 2, .int .i64 11, .int .i64 2, .int .i64 13, .int .i64 2]) (ok := fun _ => True) (okp := fun _ => True) ?hr ?hp (fun _ hk => hk) trivial (Below.refl _ _) (Nat.le_refl _) (by simp) ?_; (case hd => rfl); (case hg => rfl); (case hr => first | (go_simp; done) | (go_simp; rfl)); (case hp => exact (Reps.c2 (show Kd.M k45 _ _ _ (⟨0, 4⟩ : S45) [.int .i64 0, .int .i64 4] from (k45_mkM _ _ _ (⟨0, 4⟩ : S45) )) (Reps.c2 (show Kd.M k45 _ _ _ (⟨4, 2⟩ : S45) [.int .i64 4, .int .i64 2] from (k45_mkM _ _ _ (⟨4, 2⟩ : S45) )) (Reps.c2 (show Kd.M k45 _ _ _ (⟨6, 2⟩ : S45) [.int .i64 6, .int .i64 2] from (k45_mkM _ _ _ (⟨6, 2⟩ : S45) )) (Reps.c2 (show Kd.M k45 _ _ _ (⟨9, 2⟩ : S45) [.int .i64 9, .int .i64 2] from (k45_mkM _ _ _ (⟨9, 2⟩ : S45) )) (Reps.c2 (show Kd.M k45 _ _ _ (⟨11, 2⟩ : S45) [.int .i64 11, .int .i64 2] from (k45_mkM _ _ _ (⟨11, 2⟩ : S45) )) (Reps.c2 (show Kd.M k45 _ _ _ (⟨13, 2⟩ : S45) [.int .i64 13, .int .i64 2] from (k45_mkM _ _ _ (⟨13, 2⟩ : S45) )) (Reps.none _ _)))))))); intro v173 w31 ho32 hb hg_ hnew_; clear hg_ hnew_; (first | rw [← Ny172.out] at ho32 | (simp only [Int.reduceToNat] at ho32; rw [← Ny172.out] at ho32)); have n0_ := Aside0.mk (Kd.R_lower ho32 (below_size (by repeat (first | (with_reducible first | exact HB.out | apply below_alloc | apply pw_below_drewN | apply below_drew1) | exact HB.out)))); have n1_ := Aside0.mk (below_step (by repeat (first | (with_reducible first | exact HB.out | apply below_alloc | apply pw_below_drewN | apply below_drew1) | exact HB.out)) hb); clear HB; have HO174 := n0_; have HB := n1_; clear n0_ n1_; clear hb ho32; obtain ⟨Ao33, co33, eo33⟩ := Kd.R_slice HO174.out; subst eo33) | (go_at_call 35; (with_reducible refine (when_all.calls k a0 _ _ y172 t175 false _ ?side1 ?side2 A2.out).mono ?_); (case side1 => repeat (first | exact (Kd.R_reads' HO174.out).2.2 | (with_reducible refine Kd.C_alloc ?_ _) | (with_reducible refine Kd.C_drewN ?_ _) | (with_reducible refine Kd.C_drew ?_))); (case side2 => exact (Kd.R_reads' HO174.out).2.1); rintro e w34 ⟨v177, rfl, ho0, hb⟩; have n0_ := Aside0.mk (Kd.R_below (by (with_reducible repeat (first | apply Kd.R_alloc | apply Kd.R_drewN | apply Kd.R_drew)); exact HO174.out) hb); have n1_ := Aside0.mk (Kd.R_lower ho0 (below_size (by repeat (first | (with_reducible first | exact HB.out | apply below_alloc | apply pw_below_drewN | apply below_drew1) | exact HB.out)))); have n2_ := Aside0.mk (below_step (by repeat (first | (with_reducible first | exact HB.out | apply below_alloc | apply pw_below_drewN | apply below_drew1) | exact HB.out)) hb); clear HO174; clear HB; have HO174 := n0_; have HO178 := n1_; have HB := n2_; clear n0_ n1_ n2_; (try clear hb); (try clear hb2); (try clear hk); (try clear hi); (try clear ho0)))
    repeat (go_quiet (first | ((with_reducible refine gate_dst (N := 15) rfl ?_); refine Kd.R_lit k45 _ 45 ?hg (N := 15) ?hd (xs := ([(⟨0, 4⟩ : S45), (⟨4, 2⟩ : S45), (⟨6, 2⟩ : S45), (⟨9, 2⟩ : S45), (⟨11, 2⟩ : S45), (⟨13, 2⟩ : S45)] : List (S45))) (inner := [.int .i64 0, .int .i64 4, .int .i64 4, .int .i64 2, .int .i64 6, .int .i64 2, .int .i64 9, .int .i64 2, .int .i64 11, .int .i64 2, .int .i64 13, .int .i64 2]) (ok := fun _ => True) (okp := fun _ => True) ?hr ?hp (fun _ hk => hk) trivial (Below.refl _ _) (Nat.le_refl _) (by simp) ?_; (case hd => rfl); (case hg => rfl); (case hr => first | (go_simp; done) | (go_simp; rfl)); (case hp => exact (Reps.c2 (show Kd.M k45 _ _ _ (⟨0, 4⟩ : S45) [.int .i64 0, .int .i64 4] from (k45_mkM _ _ _ (⟨0, 4⟩ : S45) )) (Reps.c2 (show Kd.M k45 _ _ _ (⟨4, 2⟩ : S45) [.int .i64 4, .int .i64 2] from (k45_mkM _ _ _ (⟨4, 2⟩ : S45) )) (Reps.c2 (show Kd.M k45 _ _ _ (⟨6, 2⟩ : S45) [.int .i64 6, .int .i64 2] from (k45_mkM _ _ _ (⟨6, 2⟩ : S45) )) (Reps.c2 (show Kd.M k45 _ _ _ (⟨9, 2⟩ : S45) [.int .i64 9, .int .i64 2] from (k45_mkM _ _ _ (⟨9, 2⟩ : S45) )) (Reps.c2 (show Kd.M k45 _ _ _ (⟨11, 2⟩ : S45) [.int .i64 11, .int .i64 2] from (k45_mkM _ _ _ (⟨11, 2⟩ : S45) )) (Reps.c2 (show Kd.M k45 _ _ _ (⟨13, 2⟩ : S45) [.int .i64 13, .int .i64 2] from (k45_mkM _ _ _ (⟨13, 2⟩ : S45) )) (Reps.none _ _)))))))); intro v173 w31 ho32 hb hg_ hnew_; clear hg_ hnew_; (first | rw [← Ny172.out] at ho32 | (simp only [Int.reduceToNat] at ho32; rw [← Ny172.out] at ho32)); have n0_ := Aside0.mk (Kd.R_lower ho32 (below_size (by repeat (first | (with_reducible first | exact HB.out | apply below_alloc | apply pw_below_drewN | apply below_drew1) | exact HB.out)))); have n1_ := Aside0.mk (below_step (by repeat (first | (with_reducible first | exact HB.out | apply below_alloc | apply pw_below_drewN | apply below_drew1) | exact HB.out)) hb); clear HB; have HO174 := n0_; have HB := n1_; clear n0_ n1_; clear hb ho32; obtain ⟨Ao33, co33, eo33⟩ := Kd.R_slice HO174.out; subst eo33) | (go_at_call 35; (with_reducible refine (when_all.calls k a0 _ _ y172 t175 false _ ?side1 ?side2 A2.out).mono ?_); (case side1 => repeat (first | exact (Kd.R_reads' HO174.out).2.2 | (with_reducible refine Kd.C_alloc ?_ _) | (with_reducible refine Kd.C_drewN ?_ _) | (with_reducible refine Kd.C_drew ?_))); (case side2 => exact (Kd.R_reads' HO174.out).2.1); rintro e w34 ⟨v177, rfl, ho0, hb⟩; have n0_ := Aside0.mk (Kd.R_below (by (with_reducible repeat (first | apply Kd.R_alloc | apply Kd.R_drewN | apply Kd.R_drew)); exact HO174.out) hb); have n1_ := Aside0.mk (Kd.R_lower ho0 (below_size (by repeat (first | (with_reducible first | exact HB.out | apply below_alloc | apply pw_below_drewN | apply below_drew1) | exact HB.out)))); have n2_ := Aside0.mk (below_step (by repeat (first | (with_reducible first | exact HB.out | apply below_alloc | apply pw_below_drewN | apply below_drew1) | exact HB.out)) hb); clear HO174; clear HB; have HO174 := n0_; have HO178 := n1_; have HB := n2_; clear n0_ n1_ n2_; (try clear hb); (try clear hb2); (try clear hk); (try clear hi); (try clear ho0))); try go_wp2_with (first | ((with_reducible refine gate_dst (N := 15) rfl ?_); refine Kd.R_lit k45 _ 45 ?hg (N := 15) ?hd (xs := ([(⟨0, 4⟩ : S45), (⟨4, 2⟩ : S45), (⟨6, 2⟩ : S45), (⟨9, 2⟩ : S45), (⟨11, 2⟩ : S45), (⟨13, 2⟩ : S45)] : List (S45))) (inner := [.int .i64 0, .int .i64 4, .int .i64 4, .int .i64 2, .int .i64 6, .int .i64 2, .int .i64 9, .int .i64 2, .int .i64 11, .int .i64 2, .int .i64 13, .int .i64 2]) (ok := fun _ => True) (okp := fun _ => True) ?hr ?hp (fun _ hk => hk) trivial (Below.refl _ _) (Nat.le_refl _) (by simp) ?_; (case hd => rfl); (case hg => rfl); (case hr => first | (go_simp; done) | (go_simp; rfl)); (case hp => exact (Reps.c2 (show Kd.M k45 _ _ _ (⟨0, 4⟩ : S45) [.int .i64 0, .int .i64 4] from (k45_mkM _ _ _ (⟨0, 4⟩ : S45) )) (Reps.c2 (show Kd.M k45 _ _ _ (⟨4, 2⟩ : S45) [.int .i64 4, .int .i64 2] from (k45_mkM _ _ _ (⟨4, 2⟩ : S45) )) (Reps.c2 (show Kd.M k45 _ _ _ (⟨6, 2⟩ : S45) [.int .i64 6, .int .i64 2] from (k45_mkM _ _ _ (⟨6, 2⟩ : S45) )) (Reps.c2 (show Kd.M k45 _ _ _ (⟨9, 2⟩ : S45) [.int .i64 9, .int .i64 2] from (k45_mkM _ _ _ (⟨9, 2⟩ : S45) )) (Reps.c2 (show Kd.M k45 _ _ _ (⟨11, 2⟩ : S45) [.int .i64 11, .int .i64 2] from (k45_mkM _ _ _ (⟨11, 2⟩ : S45) )) (Reps.c2 (show Kd.M k45 _ _ _ (⟨13, 2⟩ : S45) [.int .i64 13, .int .i64 2] from (k45_mkM _ _ _ (⟨13, 2⟩ : S45) )) (Reps.none _ _)))))))); intro v173 w31 ho32 hb hg_ hnew_; clear hg_ hnew_; (first | rw [← Ny172.out] at ho32 | (simp only [Int.reduceToNat] at ho32; rw [← Ny172.out] at ho32)); have n0_ := Aside0.mk (Kd.R_lower ho32 (below_size (by repeat (first | (with_reducible first | exact HB.out | apply below_alloc | apply pw_below_drewN | apply below_drew1) | exact HB.out)))); have n1_ := Aside0.mk (below_step (by repeat (first | (with_reducible first | exact HB.out | apply below_alloc | apply pw_below_drewN | apply below_drew1) | exact HB.out)) hb); clear HB; have HO174 := n0_; have HB := n1_; clear n0_ n1_; clear hb ho32; obtain ⟨Ao33, co33, eo33⟩ := Kd.R_slice HO174.out; subst eo33) | (go_at_call 35; (with_reducible refine (when_all.calls k a0 _ _ y172 t175 false _ ?side1 ?side2 A2.out).mono ?_); (case side1 => repeat (first | exact (Kd.R_reads' HO174.out).2.2 | (with_reducible refine Kd.C_alloc ?_ _) | (with_reducible refine Kd.C_drewN ?_ _) | (with_reducible refine Kd.C_drew ?_))); (case side2 => exact (Kd.R_reads' HO174.out).2.1); rintro e w34 ⟨v177, rfl, ho0, hb⟩; have n0_ := Aside0.mk (Kd.R_below (by (with_reducible repeat (first | apply Kd.R_alloc | apply Kd.R_drewN | apply Kd.R_drew)); exact HO174.out) hb); have n1_ := Aside0.mk (Kd.R_lower ho0 (below_size (by repeat (first | (with_reducible first | exact HB.out | apply below_alloc | apply pw_below_drewN | apply below_drew1) | exact HB.out)))); have n2_ := Aside0.mk (below_step (by repeat (first | (with_reducible first | exact HB.out | apply below_alloc | apply pw_below_drewN | apply below_drew1) | exact HB.out)) hb); clear HO174; clear HB; have HO174 := n0_; have HO178 := n1_; have HB := n2_; clear n0_ n1_ n2_; (try clear hb); (try clear hb2); (try clear hk); (try clear hi); (try clear ho0))))
    go_ret2
    exact ⟨by first | rfl | (simp [errW_none, errW_some] <;> rfl) | (simp [*, errW_none, errW_some] <;> rfl), by repeat (first | (with_reducible first | exact HB.out | apply below_alloc | apply pw_below_drewN | apply below_drew1) | exact HB.out)⟩

end Go.Proofs.Yteggifhicmbopaa.Q

/- What some Go functions compute, told as plain Lean functions, each with the proof that the call comes to just that, for all arguments. Conditions: those in the theorems. Written by a program of this session. -/
namespace Go.Proofs.Yteggifhicmbopaa.Q
open Go.RowKit Go.Proofs.YteggifhicmbopaaW.PrintWords Go.Proofs.YteggifhicmbopaaW.PrintLast Go.Proofs.YteggifhicmbopaaW.PrintMore
set_option linter.unusedVariables false
set_option linter.unusedSimpArgs false
attribute [local go_sem] max2_int min2_int max_two min_two max_three min_three max_four min_four   -- for this text's walks alone

/-! ### stowagelaw4_awake: function 8 -/
def stowagelaw4_awake.f (k : Nat)  : Option (Bool) := (when_ParseBasic.f k (⟨#[50, 48, 49, 51, 48, 53, 50, 52, 84, 48, 48, 48, 48, 48, 48, 90]⟩ : ByteArray)).bind fun bt188 => (if bt188.2 = true then (if bt188.1 = 1369353600 then ((when_Http.f k 0).bind fun t190 => (if t190.toList = ([84, 104, 117, 44, 32, 48, 49, 32, 74, 97, 110, 32, 49, 57, 55, 48, 32, 48, 48, 58, 48, 48, 58, 48, 48, 32, 71, 77, 84] : List UInt8) then ((when_Iso.f k bt188.1).bind fun t191 => (some (t191.toList == ([50, 48, 49, 51, 45, 48, 53, 45, 50, 52, 84, 48, 48, 58, 48, 48, 58, 48, 48, 46, 48, 48, 48, 90] : List UInt8)))) else (some false))) else (some false)) else (some false))
theorem stowagelaw4_awake.mono : ∀ k, LeO (stowagelaw4_awake.f k ) (stowagelaw4_awake.f (k + 1) ) := by
  intro  k
  unfold stowagelaw4_awake.f
  repeat' first
      | (with_reducible exact when_Http.mono _ _)
      | (with_reducible exact when_Iso.mono _ _)
      | (with_reducible exact when_ParseBasic.mono _ _)
      | (with_reducible exact LeO.refl _)
      | (with_reducible exact LeO.none _)
      | (with_reducible refine LeO.ite ?_ ?_)
      | (with_reducible refine LeO.bind ?_ (fun _ => ?_))
      | exact when_Http.mono _ _
      | exact when_Iso.mono _ _
      | exact when_ParseBasic.mono _ _
      | exact LeO.none _
      | refine LeO.ite ?_ ?_
      | refine LeO.bind ?_ (fun _ => ?_)
set_option maxHeartbeats 8000000 in
set_option maxRecDepth 100000 in
theorem stowagelaw4_awake.calls (k : Nat)  (r : Bool) (w : World) (h : stowagelaw4_awake.f k  = some r) :
    Calls Try.prog 8 #[] w fun e w' => e = .returned (.bool r) ∧ Below w.heap.size w w' := by
  have HB := Aside0.mk (Below.refl w.heap.size w)
  have H : ((when_ParseBasic.f k (⟨#[50, 48, 49, 51, 48, 53, 50, 52, 84, 48, 48, 48, 48, 48, 48, 90]⟩ : ByteArray)).bind fun bt188 => (if bt188.2 = true then (if bt188.1 = 1369353600 then ((when_Http.f k 0).bind fun t190 => (if t190.toList = ([84, 104, 117, 44, 32, 48, 49, 32, 74, 97, 110, 32, 49, 57, 55, 48, 32, 48, 48, 58, 48, 48, 58, 48, 48, 32, 71, 77, 84] : List UInt8) then ((when_Iso.f k bt188.1).bind fun t191 => (some (t191.toList == ([50, 48, 49, 51, 45, 48, 53, 45, 50, 52, 84, 48, 48, 58, 48, 48, 58, 48, 48, 46, 48, 48, 48, 90] : List UInt8)))) else (some false))) else (some false)) else (some false))) = some r := h
  clear h
  replace H := Option.bind_eq_some_iff.mp H
  obtain ⟨⟨t188, t189⟩, A10, H⟩ := H
  replace H : (if t189 = true then (if t188 = 1369353600 then ((when_Http.f k 0).bind fun t190 => (if t190.toList = ([84, 104, 117, 44, 32, 48, 49, 32, 74, 97, 110, 32, 49, 57, 55, 48, 32, 48, 48, 58, 48, 48, 58, 48, 48, 32, 71, 77, 84] : List UInt8) then ((when_Iso.f k t188).bind fun t191 => (some (t191.toList == ([50, 48, 49, 51, 45, 48, 53, 45, 50, 52, 84, 48, 48, 58, 48, 48, 58, 48, 48, 46, 48, 48, 48, 90] : List UInt8)))) else (some false))) else (some false)) else (some false)) = some r := H
  have A1 := Aside0.mk A10
  clear A10
  by_cases c2 : t189 = true
  · subst c2
    have H1 : (if t188 = 1369353600 then ((when_Http.f k 0).bind fun t190 => (if t190.toList = ([84, 104, 117, 44, 32, 48, 49, 32, 74, 97, 110, 32, 49, 57, 55, 48, 32, 48, 48, 58, 48, 48, 58, 48, 48, 32, 71, 77, 84] : List UInt8) then ((when_Iso.f k t188).bind fun t191 => (some (t191.toList == ([50, 48, 49, 51, 45, 48, 53, 45, 50, 52, 84, 48, 48, 58, 48, 48, 58, 48, 48, 46, 48, 48, 48, 90] : List UInt8)))) else (some false))) else (some false)) = some r := by rw [if_pos rfl] at H; exact H
    clear H
    have H := H1
    clear H1
    by_cases c3 : t188 = 1369353600
    · rw [if_pos c3] at H
      have c3b0 : (t188 == 1369353600) = true := beq_iff_eq.mpr c3
      have c3b1 : (t188 != 1369353600) = false := bne_eq_false_iff_eq.mpr c3
      clear c3
      replace H := Option.bind_eq_some_iff.mp H
      obtain ⟨t190, A40, H⟩ := H
      replace H : (if t190.toList = ([84, 104, 117, 44, 32, 48, 49, 32, 74, 97, 110, 32, 49, 57, 55, 48, 32, 48, 48, 58, 48, 48, 58, 48, 48, 32, 71, 77, 84] : List UInt8) then ((when_Iso.f k t188).bind fun t191 => (some (t191.toList == ([50, 48, 49, 51, 45, 48, 53, 45, 50, 52, 84, 48, 48, 58, 48, 48, 58, 48, 48, 46, 48, 48, 48, 90] : List UInt8)))) else (some false)) = some r := H
      have A4 := Aside0.mk A40
      clear A40
      by_cases c5 : t190.toList = ([84, 104, 117, 44, 32, 48, 49, 32, 74, 97, 110, 32, 49, 57, 55, 48, 32, 48, 48, 58, 48, 48, 58, 48, 48, 32, 71, 77, 84] : List UInt8)
      · rw [if_pos c5] at H
        have c5b0 : (t190.toList == ([84, 104, 117, 44, 32, 48, 49, 32, 74, 97, 110, 32, 49, 57, 55, 48, 32, 48, 48, 58, 48, 48, 58, 48, 48, 32, 71, 77, 84] : List UInt8)) = true := beq_iff_eq.mpr c5
        have c5b1 : (t190.toList != ([84, 104, 117, 44, 32, 48, 49, 32, 74, 97, 110, 32, 49, 57, 55, 48, 32, 48, 48, 58, 48, 48, 58, 48, 48, 32, 71, 77, 84] : List UInt8)) = false := bne_eq_false_iff_eq.mpr c5
        clear c5
        replace H := Option.bind_eq_some_iff.mp H
        obtain ⟨t191, A60, H⟩ := H
        replace H : (some (t191.toList == ([50, 48, 49, 51, 45, 48, 53, 45, 50, 52, 84, 48, 48, 58, 48, 48, 58, 48, 48, 46, 48, 48, 48, 90] : List UInt8))) = some r := H
        have A6 := Aside0.mk A60
        clear A60
        obtain rfl := Option.some.inj H
        go_enter Try.func8, Try.ntmps8
        go_wp2_with (first | ((with_reducible refine gate_callee (f := 21) rfl ?_); refine goesL_ (some 4) rfl rfl Try.func21 (by kernel_rfl) rfl #[.string (⟨#[50, 48, 49, 51, 48, 53, 50, 52, 84, 48, 48, 48, 48, 48, 48, 90]⟩ : ByteArray)] rfl (by (try simp only [List.map_toArray, List.map_cons, List.map_nil]); first | done | rfl | (simp only [List.length_drop, List.length_take]; rfl)) ?_; (with_reducible refine (when_ParseBasic.calls k (⟨#[50, 48, 49, 51, 48, 53, 50, 52, 84, 48, 48, 48, 48, 48, 48, 90]⟩ : ByteArray) t188 true _ A1.out).mono ?_); rintro e w7 ⟨rfl, hb⟩; refine ⟨_, rfl, ?_⟩; have n0_ := Aside0.mk (below_step (by repeat (first | (with_reducible first | exact HB.out | apply below_alloc | apply pw_below_drewN | apply below_drew1) | exact HB.out)) hb); clear HB; have HB := n0_; clear n0_; (try clear hb); (try clear hb2); (try clear hk); (try clear hi)) | (go_at_call 19; (with_reducible refine (when_Http.calls k 0 t190 _ A4.out).mono ?_); rintro e w8 ⟨rfl, hb⟩; have n0_ := Aside0.mk (below_step (by repeat (first | (with_reducible first | exact HB.out | apply below_alloc | apply pw_below_drewN | apply below_drew1) | exact HB.out)) hb); clear HB; have HB := n0_; clear n0_; (try clear hb); (try clear hb2); (try clear hk); (try clear hi)) | (go_at_call 17; (with_reducible refine (when_Iso.calls k t188 t191 _ A6.out).mono ?_); rintro e w9 ⟨rfl, hb⟩; have n0_ := Aside0.mk (below_step (by repeat (first | (with_reducible first | exact HB.out | apply below_alloc | apply pw_below_drewN | apply below_drew1) | exact HB.out)) hb); clear HB; have HB := n0_; clear n0_; (try clear hb); (try clear hb2); (try clear hk); (try clear hi)))
        go_ret
        exact ⟨by first | rfl | (simp [errW_none, errW_some] <;> rfl) | (simp [*, errW_none, errW_some] <;> rfl), by repeat (first | (with_reducible first | exact HB.out | apply below_alloc | apply pw_below_drewN | apply below_drew1) | exact HB.out)⟩
      · rw [if_neg c5] at H
        have c5b0 : (t190.toList == ([84, 104, 117, 44, 32, 48, 49, 32, 74, 97, 110, 32, 49, 57, 55, 48, 32, 48, 48, 58, 48, 48, 58, 48, 48, 32, 71, 77, 84] : List UInt8)) = false := beq_eq_false_iff_ne.mpr c5
        have c5b1 : (t190.toList != ([84, 104, 117, 44, 32, 48, 49, 32, 74, 97, 110, 32, 49, 57, 55, 48, 32, 48, 48, 58, 48, 48, 58, 48, 48, 32, 71, 77, 84] : List UInt8)) = true := bne_iff_ne.mpr c5
        obtain rfl := Option.some.inj H
        go_enter Try.func8, Try.ntmps8
        go_wp2_with (first | ((with_reducible refine gate_callee (f := 21) rfl ?_); refine goesL_ (some 4) rfl rfl Try.func21 (by kernel_rfl) rfl #[.string (⟨#[50, 48, 49, 51, 48, 53, 50, 52, 84, 48, 48, 48, 48, 48, 48, 90]⟩ : ByteArray)] rfl (by (try simp only [List.map_toArray, List.map_cons, List.map_nil]); first | done | rfl | (simp only [List.length_drop, List.length_take]; rfl)) ?_; (with_reducible refine (when_ParseBasic.calls k (⟨#[50, 48, 49, 51, 48, 53, 50, 52, 84, 48, 48, 48, 48, 48, 48, 90]⟩ : ByteArray) t188 true _ A1.out).mono ?_); rintro e w10 ⟨rfl, hb⟩; refine ⟨_, rfl, ?_⟩; have n0_ := Aside0.mk (below_step (by repeat (first | (with_reducible first | exact HB.out | apply below_alloc | apply pw_below_drewN | apply below_drew1) | exact HB.out)) hb); clear HB; have HB := n0_; clear n0_; (try clear hb); (try clear hb2); (try clear hk); (try clear hi)) | (go_at_call 19; (with_reducible refine (when_Http.calls k 0 t190 _ A4.out).mono ?_); rintro e w11 ⟨rfl, hb⟩; have n0_ := Aside0.mk (below_step (by repeat (first | (with_reducible first | exact HB.out | apply below_alloc | apply pw_below_drewN | apply below_drew1) | exact HB.out)) hb); clear HB; have HB := n0_; clear n0_; (try clear hb); (try clear hb2); (try clear hk); (try clear hi)))
        go_ret
        exact ⟨by first | rfl | (simp [errW_none, errW_some] <;> rfl) | (simp [*, errW_none, errW_some] <;> rfl), by repeat (first | (with_reducible first | exact HB.out | apply below_alloc | apply pw_below_drewN | apply below_drew1) | exact HB.out)⟩
    · rw [if_neg c3] at H
      have c3b0 : (t188 == 1369353600) = false := beq_eq_false_iff_ne.mpr c3
      have c3b1 : (t188 != 1369353600) = true := bne_iff_ne.mpr c3
      obtain rfl := Option.some.inj H
      go_enter Try.func8, Try.ntmps8
      go_wp2_with (first | ((with_reducible refine gate_callee (f := 21) rfl ?_); refine goesL_ (some 4) rfl rfl Try.func21 (by kernel_rfl) rfl #[.string (⟨#[50, 48, 49, 51, 48, 53, 50, 52, 84, 48, 48, 48, 48, 48, 48, 90]⟩ : ByteArray)] rfl (by (try simp only [List.map_toArray, List.map_cons, List.map_nil]); first | done | rfl | (simp only [List.length_drop, List.length_take]; rfl)) ?_; (with_reducible refine (when_ParseBasic.calls k (⟨#[50, 48, 49, 51, 48, 53, 50, 52, 84, 48, 48, 48, 48, 48, 48, 90]⟩ : ByteArray) t188 true _ A1.out).mono ?_); rintro e w12 ⟨rfl, hb⟩; refine ⟨_, rfl, ?_⟩; have n0_ := Aside0.mk (below_step (by repeat (first | (with_reducible first | exact HB.out | apply below_alloc | apply pw_below_drewN | apply below_drew1) | exact HB.out)) hb); clear HB; have HB := n0_; clear n0_; (try clear hb); (try clear hb2); (try clear hk); (try clear hi)))
      go_ret
      exact ⟨by first | rfl | (simp [errW_none, errW_some] <;> rfl) | (simp [*, errW_none, errW_some] <;> rfl), by repeat (first | (with_reducible first | exact HB.out | apply below_alloc | apply pw_below_drewN | apply below_drew1) | exact HB.out)⟩
  · replace c2 := Bool.eq_false_iff.mpr c2
    subst c2
    have H1 : (some false) = some r := by rw [if_neg (show ¬ (false = true) by decide)] at H; exact H
    clear H
    have H := H1
    clear H1
    obtain rfl := Option.some.inj H
    go_enter Try.func8, Try.ntmps8
    go_wp2_with (first | ((with_reducible refine gate_callee (f := 21) rfl ?_); refine goesL_ (some 4) rfl rfl Try.func21 (by kernel_rfl) rfl #[.string (⟨#[50, 48, 49, 51, 48, 53, 50, 52, 84, 48, 48, 48, 48, 48, 48, 90]⟩ : ByteArray)] rfl (by (try simp only [List.map_toArray, List.map_cons, List.map_nil]); first | done | rfl | (simp only [List.length_drop, List.length_take]; rfl)) ?_; (with_reducible refine (when_ParseBasic.calls k (⟨#[50, 48, 49, 51, 48, 53, 50, 52, 84, 48, 48, 48, 48, 48, 48, 90]⟩ : ByteArray) t188 false _ A1.out).mono ?_); rintro e w13 ⟨rfl, hb⟩; refine ⟨_, rfl, ?_⟩; have n0_ := Aside0.mk (below_step (by repeat (first | (with_reducible first | exact HB.out | apply below_alloc | apply pw_below_drewN | apply below_drew1) | exact HB.out)) hb); clear HB; have HB := n0_; clear n0_; (try clear hb); (try clear hb2); (try clear hk); (try clear hi)))
    go_ret
    exact ⟨by first | rfl | (simp [errW_none, errW_some] <;> rfl) | (simp [*, errW_none, errW_some] <;> rfl), by repeat (first | (with_reducible first | exact HB.out | apply below_alloc | apply pw_below_drewN | apply below_drew1) | exact HB.out)⟩

end Go.Proofs.Yteggifhicmbopaa.Q

/- What some Go functions compute, told as plain Lean functions, each with the proof that the call comes to just that, for all arguments. Conditions: those in the theorems. Written by a program of this session. -/
namespace Go.Proofs.Yteggifhicmbopaa.Q
open Go.RowKit Go.Proofs.YteggifhicmbopaaW.PrintWords Go.Proofs.YteggifhicmbopaaW.PrintLast Go.Proofs.YteggifhicmbopaaW.PrintMore
set_option linter.unusedVariables false
set_option linter.unusedSimpArgs false
attribute [local go_sem] max2_int min2_int max_two min_two max_three min_three max_four min_four   -- for this text's walks alone

/-! ### stowagelaw4_WhenSteps: function 3 -/
mutual
def stowagelaw4_WhenSteps.j0 : Nat → Int → Bool → Option (Bool)
  | 0, _, _ => none
  | k + 1, x0, x23 => if x23 = true then ((stowagelaw4_awake.f k).bind fun t192 => (some t192)) else ((when_Civil.f k x0).bind fun bt193 => ((when_Civil.f k (wrap64 (x0 + 1))).bind fun bt200 => (if bt193.2.2.2.2.2.2 = true then (stowagelaw4_WhenSteps.j1 k bt193.1 bt193.2.1 bt193.2.2.1 bt193.2.2.2.1 bt193.2.2.2.2.1 bt193.2.2.2.2.2.1 bt200.1 bt200.2.1 bt200.2.2.1 bt200.2.2.2.1 bt200.2.2.2.2.1 bt200.2.2.2.2.2.1 (!bt200.2.2.2.2.2.2)) else (stowagelaw4_WhenSteps.j1 k bt193.1 bt193.2.1 bt193.2.2.1 bt193.2.2.2.1 bt193.2.2.2.2.1 bt193.2.2.2.2.2.1 bt200.1 bt200.2.1 bt200.2.2.1 bt200.2.2.2.1 bt200.2.2.2.2.1 bt200.2.2.2.2.2.1 true))))
def stowagelaw4_WhenSteps.j1 : Nat → Int → Int → Int → Int → Int → Int → Int → Int → Int → Int → Int → Int → Bool → Option (Bool)
  | 0, _, _, _, _, _, _, _, _, _, _, _, _, _ => none
  | k + 1, x3, x4, x5, x6, x7, x8, x10, x11, x12, x13, x14, x15, x51 => if x51 = true then (some false) else (if x8 < 59 then (if x10 = x3 then (if x11 = x4 then (if x12 = x5 then (if x13 = x6 then (if x14 = x7 then (if x15 = (wrap64 (x8 + 1)) then ((stowagelaw4_awake.f k).bind fun t207 => (some t207)) else (some false)) else (some false)) else (some false)) else (some false)) else (some false)) else (some false)) else (if x7 < 59 then (if x10 = x3 then (if x11 = x4 then (if x12 = x5 then (if x13 = x6 then (if x14 = (wrap64 (x7 + 1)) then (if x15 = 0 then ((stowagelaw4_awake.f k).bind fun t208 => (some t208)) else (some false)) else (some false)) else (some false)) else (some false)) else (some false)) else (some false)) else (if x6 < 23 then (if x10 = x3 then (if x11 = x4 then (if x12 = x5 then (if x13 = (wrap64 (x6 + 1)) then (if x14 = 0 then (if x15 = 0 then ((stowagelaw4_awake.f k).bind fun t209 => (some t209)) else (some false)) else (some false)) else (some false)) else (some false)) else (some false)) else (some false)) else (if x12 = (wrap64 (x5 + 1)) then (if x11 = x4 then (if x10 = x3 then (if x13 = 0 then (if x14 = 0 then (if x15 = 0 then ((stowagelaw4_awake.f k).bind fun t210 => (some t210)) else (some false)) else (some false)) else (some false)) else (if x12 = 1 then (if x5 ≥ 28 then (if x11 = (wrap64 (x4 + 1)) then (if x11 = 1 then (if x4 = 12 then (if x10 = (wrap64 (x3 + 1)) then (if x13 = 0 then (if x14 = 0 then (if x15 = 0 then ((stowagelaw4_awake.f k).bind fun t211 => (some t211)) else (some false)) else (some false)) else (some false)) else (some false)) else (some false)) else (some false)) else (if x11 = 1 then (if x4 = 12 then (if x10 = (wrap64 (x3 + 1)) then (if x13 = 0 then (if x14 = 0 then (if x15 = 0 then ((stowagelaw4_awake.f k).bind fun t212 => (some t212)) else (some false)) else (some false)) else (some false)) else (some false)) else (some false)) else (some false))) else (some false)) else (some false))) else (if x12 = 1 then (if x5 ≥ 28 then (if x11 = (wrap64 (x4 + 1)) then (if x10 = x3 then (if x13 = 0 then (if x14 = 0 then (if x15 = 0 then ((stowagelaw4_awake.f k).bind fun t213 => (some t213)) else (some false)) else (some false)) else (some false)) else (if x11 = 1 then (if x4 = 12 then (if x10 = (wrap64 (x3 + 1)) then (if x13 = 0 then (if x14 = 0 then (if x15 = 0 then ((stowagelaw4_awake.f k).bind fun t214 => (some t214)) else (some false)) else (some false)) else (some false)) else (some false)) else (some false)) else (some false))) else (if x11 = 1 then (if x4 = 12 then (if x10 = (wrap64 (x3 + 1)) then (if x13 = 0 then (if x14 = 0 then (if x15 = 0 then ((stowagelaw4_awake.f k).bind fun t215 => (some t215)) else (some false)) else (some false)) else (some false)) else (some false)) else (some false)) else (some false))) else (some false)) else (some false))) else (if x12 = 1 then (if x5 ≥ 28 then (if x11 = (wrap64 (x4 + 1)) then (if x10 = x3 then (if x13 = 0 then (if x14 = 0 then (if x15 = 0 then ((stowagelaw4_awake.f k).bind fun t216 => (some t216)) else (some false)) else (some false)) else (some false)) else (if x11 = 1 then (if x4 = 12 then (if x10 = (wrap64 (x3 + 1)) then (if x13 = 0 then (if x14 = 0 then (if x15 = 0 then ((stowagelaw4_awake.f k).bind fun t217 => (some t217)) else (some false)) else (some false)) else (some false)) else (some false)) else (some false)) else (some false))) else (if x11 = 1 then (if x4 = 12 then (if x10 = (wrap64 (x3 + 1)) then (if x13 = 0 then (if x14 = 0 then (if x15 = 0 then ((stowagelaw4_awake.f k).bind fun t218 => (some t218)) else (some false)) else (some false)) else (some false)) else (some false)) else (some false)) else (some false))) else (some false)) else (some false))))))
end
def stowagelaw4_WhenSteps.f (k : Nat) (a0 : Int) : Option (Bool) := if a0 < 0 then (stowagelaw4_WhenSteps.j0 k a0 true) else (stowagelaw4_WhenSteps.j0 k a0 (decide (a0 ≥ 253402300799)))
theorem stowagelaw4_WhenSteps.mono_l : ∀ k, (∀ y0 y1, LeO (stowagelaw4_WhenSteps.j0 k y0 y1) (stowagelaw4_WhenSteps.j0 (k + 1) y0 y1)) ∧ (∀ y0 y1 y2 y3 y4 y5 y6 y7 y8 y9 y10 y11 y12, LeO (stowagelaw4_WhenSteps.j1 k y0 y1 y2 y3 y4 y5 y6 y7 y8 y9 y10 y11 y12) (stowagelaw4_WhenSteps.j1 (k + 1) y0 y1 y2 y3 y4 y5 y6 y7 y8 y9 y10 y11 y12))
  | 0 => ⟨fun _ _ r h => by simp [stowagelaw4_WhenSteps.j0] at h, fun _ _ _ _ _ _ _ _ _ _ _ _ _ r h => by simp [stowagelaw4_WhenSteps.j1] at h⟩
  | k + 1 => by
    obtain ⟨ih0, ih1⟩ := stowagelaw4_WhenSteps.mono_l k
    refine ⟨?_, ?_⟩
    · intro y0 y1
      unfold stowagelaw4_WhenSteps.j0
      repeat' first
      | (with_reducible exact ih0 _ _)
      | (with_reducible exact ih1 _ _ _ _ _ _ _ _ _ _ _ _ _)
      | (with_reducible exact stowagelaw4_awake.mono _)
      | (with_reducible exact when_Civil.mono _ _)
      | (with_reducible exact LeO.refl _)
      | (with_reducible exact LeO.none _)
      | (with_reducible refine LeO.ite ?_ ?_)
      | (with_reducible refine LeO.bind ?_ (fun _ => ?_))
      | exact ih0 _ _
      | exact ih1 _ _ _ _ _ _ _ _ _ _ _ _ _
      | exact stowagelaw4_awake.mono _
      | exact when_Civil.mono _ _
      | exact LeO.none _
      | refine LeO.ite ?_ ?_
      | refine LeO.bind ?_ (fun _ => ?_)
    · intro y0 y1 y2 y3 y4 y5 y6 y7 y8 y9 y10 y11 y12
      unfold stowagelaw4_WhenSteps.j1
      repeat' first
      | (with_reducible exact ih0 _ _)
      | (with_reducible exact ih1 _ _ _ _ _ _ _ _ _ _ _ _ _)
      | (with_reducible exact stowagelaw4_awake.mono _)
      | (with_reducible exact when_Civil.mono _ _)
      | (with_reducible exact LeO.refl _)
      | (with_reducible exact LeO.none _)
      | (with_reducible refine LeO.ite ?_ ?_)
      | (with_reducible refine LeO.bind ?_ (fun _ => ?_))
      | exact ih0 _ _
      | exact ih1 _ _ _ _ _ _ _ _ _ _ _ _ _
      | exact stowagelaw4_awake.mono _
      | exact when_Civil.mono _ _
      | exact LeO.none _
      | refine LeO.ite ?_ ?_
      | refine LeO.bind ?_ (fun _ => ?_)
theorem stowagelaw4_WhenSteps.mono : ∀ a0 k, LeO (stowagelaw4_WhenSteps.f k a0) (stowagelaw4_WhenSteps.f (k + 1) a0) := by
  intro a0 k
  obtain ⟨ih0, ih1⟩ := stowagelaw4_WhenSteps.mono_l k
  unfold stowagelaw4_WhenSteps.f
  repeat' first
      | (with_reducible exact ih0 _ _)
      | (with_reducible exact ih1 _ _ _ _ _ _ _ _ _ _ _ _ _)
      | (with_reducible exact stowagelaw4_awake.mono _)
      | (with_reducible exact when_Civil.mono _ _)
      | (with_reducible exact LeO.refl _)
      | (with_reducible exact LeO.none _)
      | (with_reducible refine LeO.ite ?_ ?_)
      | (with_reducible refine LeO.bind ?_ (fun _ => ?_))
      | exact ih0 _ _
      | exact ih1 _ _ _ _ _ _ _ _ _ _ _ _ _
      | exact stowagelaw4_awake.mono _
      | exact when_Civil.mono _ _
      | exact LeO.none _
      | refine LeO.ite ?_ ?_
      | refine LeO.bind ?_ (fun _ => ?_)
set_option maxHeartbeats 8000000 in
set_option maxRecDepth 100000 in
theorem stowagelaw4_WhenSteps.calls (k : Nat) (a0 : Int) (r : Bool) (w : World) (h : stowagelaw4_WhenSteps.f k a0 = some r) (hr : r = true) :
    Calls Try.prog 3 #[.int .i64 a0] w fun e w' => e = .returned (.bool r) ∧ Below w.heap.size w w' := by
  have HB := Aside0.mk (Below.refl w.heap.size w)
  have H : (if a0 < 0 then (stowagelaw4_WhenSteps.j0 k a0 true) else (stowagelaw4_WhenSteps.j0 k a0 (decide (a0 ≥ 253402300799)))) = some r := h
  clear h
  have HC2 := Aside0.mk H
  clear H
  go_enter Try.func3, Try.ntmps3
  go_upto_region 1 with (fail)
  go_cut [23] (fun v23 wc => ∃ (kq : Nat) (x23_1 : Bool), v23 = .bool x23_1 ∧ Aside0 (stowagelaw4_WhenSteps.j0 kq a0 x23_1 = some r) ∧ Aside0 (kq ≤ k) ∧ Aside0 (Below w.heap.size w wc))
  case first =>
    have H := HC2.out
    clear HC2
    by_cases c3 : a0 < 0
    · rw [if_pos c3] at H
      have c3b0 : decide (a0 < 0) = true := decide_eq_true c3
      clear c3
      (first | rw [c3b0] | (simp only [i64_w, i32_w]; rw [c3b0]) | skip)
      have H' := Aside0.mk H
      clear H
      go_wp2
      go_meet
      case rel => exact ⟨_, (true), (by first | rfl | (simp; done) | (simp [*]; done)), H', ⟨by first | omega | exact Nat.le_refl _⟩, ⟨by repeat (first | (with_reducible first | exact HB.out | apply below_alloc | apply pw_below_drewN | apply below_drew1) | exact HB.out)⟩⟩
    · rw [if_neg c3] at H
      have c3b0 : decide (a0 < 0) = false := decide_eq_false c3
      clear c3
      (first | rw [c3b0] | (simp only [i64_w, i32_w]; rw [c3b0]) | skip)
      have H' := Aside0.mk H
      clear H
      go_wp2
      go_meet
      case rel => exact ⟨_, (decide (a0 ≥ 253402300799)), (by first | rfl | (simp; done) | (simp [*]; done)), H', ⟨by first | omega | exact Nat.le_refl _⟩, ⟨by repeat (first | (with_reducible first | exact HB.out | apply below_alloc | apply pw_below_drewN | apply below_drew1) | exact HB.out)⟩⟩
  case rest =>
    clear HC2
    try clear p2
    try clear c3
    try clear c3b0
    obtain ⟨kq, x23_1, rfl, HA, HJ1, HB⟩ := hcut
    cases kq with
    | zero => exact absurd HA.out (by simp [stowagelaw4_WhenSteps.j0])
    | succ kj1 =>
      have H := HA.out
      clear HA
      simp only [stowagelaw4_WhenSteps.j0] at H
      by_cases c4 : x23_1 = true
      · subst c4
        have H1 : ((stowagelaw4_awake.f kj1).bind fun t192 => (some t192)) = some r := by rw [if_pos rfl] at H; exact H
        clear H
        have H := H1
        clear H1
        replace H := Option.bind_eq_some_iff.mp H
        obtain ⟨t192, A50, H⟩ := H
        replace H : (some t192) = some r := H
        have A5 := Aside0.mk A50
        clear A50
        clear hr
        obtain rfl := Option.some.inj H
        go_wp2_with (first | ((with_reducible refine gate_callee (f := 8) rfl ?_); refine goesL_ (some 24) rfl rfl Try.func8 (by kernel_rfl) rfl #[] rfl (by (try simp only [List.map_toArray, List.map_cons, List.map_nil]); first | done | rfl | (simp only [List.length_drop, List.length_take]; rfl)) ?_; (with_reducible refine (stowagelaw4_awake.calls kj1  t192 _ A5.out).mono ?_); rintro e w6 ⟨rfl, hb⟩; refine ⟨_, rfl, ?_⟩; have n0_ := Aside0.mk (below_step (by repeat (first | (with_reducible first | exact HB.out | apply below_alloc | apply pw_below_drewN | apply below_drew1) | exact HB.out)) hb); clear HB; have HB := n0_; clear n0_; (try clear hb); (try clear hb2); (try clear hk); (try clear hi)))
        go_ret
        exact ⟨by first | rfl | (simp [errW_none, errW_some] <;> rfl) | (simp [*, errW_none, errW_some] <;> rfl), by repeat (first | (with_reducible first | exact HB.out | apply below_alloc | apply pw_below_drewN | apply below_drew1) | exact HB.out)⟩
      · replace c4 := Bool.eq_false_iff.mpr c4
        subst c4
        have H1 : ((when_Civil.f kj1 a0).bind fun bt193 => ((when_Civil.f kj1 (wrap64 (a0 + 1))).bind fun bt200 => (if bt193.2.2.2.2.2.2 = true then (stowagelaw4_WhenSteps.j1 kj1 bt193.1 bt193.2.1 bt193.2.2.1 bt193.2.2.2.1 bt193.2.2.2.2.1 bt193.2.2.2.2.2.1 bt200.1 bt200.2.1 bt200.2.2.1 bt200.2.2.2.1 bt200.2.2.2.2.1 bt200.2.2.2.2.2.1 (!bt200.2.2.2.2.2.2)) else (stowagelaw4_WhenSteps.j1 kj1 bt193.1 bt193.2.1 bt193.2.2.1 bt193.2.2.2.1 bt193.2.2.2.2.1 bt193.2.2.2.2.2.1 bt200.1 bt200.2.1 bt200.2.2.1 bt200.2.2.2.1 bt200.2.2.2.2.1 bt200.2.2.2.2.2.1 true)))) = some r := by rw [if_neg (show ¬ (false = true) by decide)] at H; exact H
        clear H
        have H := H1
        clear H1
        replace H := Option.bind_eq_some_iff.mp H
        obtain ⟨⟨t193, t194, t195, t196, t197, t198, t199⟩, A70, H⟩ := H
        replace H : ((when_Civil.f kj1 (wrap64 (a0 + 1))).bind fun bt200 => (if t199 = true then (stowagelaw4_WhenSteps.j1 kj1 t193 t194 t195 t196 t197 t198 bt200.1 bt200.2.1 bt200.2.2.1 bt200.2.2.2.1 bt200.2.2.2.2.1 bt200.2.2.2.2.2.1 (!bt200.2.2.2.2.2.2)) else (stowagelaw4_WhenSteps.j1 kj1 t193 t194 t195 t196 t197 t198 bt200.1 bt200.2.1 bt200.2.2.1 bt200.2.2.2.1 bt200.2.2.2.2.1 bt200.2.2.2.2.2.1 true))) = some r := H
        have A7 := Aside0.mk A70
        clear A70
        replace H := Option.bind_eq_some_iff.mp H
        obtain ⟨⟨t200, t201, t202, t203, t204, t205, t206⟩, A80, H⟩ := H
        replace H : (if t199 = true then (stowagelaw4_WhenSteps.j1 kj1 t193 t194 t195 t196 t197 t198 t200 t201 t202 t203 t204 t205 (!t206)) else (stowagelaw4_WhenSteps.j1 kj1 t193 t194 t195 t196 t197 t198 t200 t201 t202 t203 t204 t205 true)) = some r := H
        have A8 := Aside0.mk A80
        clear A80
        have HC9 := Aside0.mk H
        clear H
        go_upto_region 5 with (first | ((with_reducible refine gate_callee (f := 9) rfl ?_); refine goesL_ (some 27) rfl rfl Try.func9 (by kernel_rfl) rfl #[.int .i64 a0] rfl (by (try simp only [List.map_toArray, List.map_cons, List.map_nil]); first | done | rfl | (simp only [List.length_drop, List.length_take]; rfl)) ?_; (with_reducible refine (when_Civil.calls kj1 a0 t193 t194 t195 t196 t197 t198 t199 _ A7.out).mono ?_); rintro e w' ⟨rfl, ⟨nd, rfl⟩⟩; refine ⟨_, rfl, ?_⟩) | ((with_reducible refine gate_callee (f := 9) rfl ?_); refine goesL_ (some 38) rfl rfl Try.func9 (by kernel_rfl) rfl #[.int .i64 (wrap64 (a0 + 1))] rfl (by (try simp only [List.map_toArray, List.map_cons, List.map_nil]); first | done | rfl | (simp only [List.length_drop, List.length_take]; rfl)) ?_; (with_reducible refine (when_Civil.calls kj1 (wrap64 (a0 + 1)) t200 t201 t202 t203 t204 t205 t206 _ A8.out).mono ?_); rintro e w' ⟨rfl, ⟨nd, rfl⟩⟩; refine ⟨_, rfl, ?_⟩))
        (try simp only [Act.put, List.setIfInBounds_toArray, List.set_cons_zero, List.set_cons_succ])
        go_cut [51] (fun v51 wc => ∃ (kq : Nat) (x51_8 : Bool), v51 = .bool x51_8 ∧ Aside0 (stowagelaw4_WhenSteps.j1 kq t193 t194 t195 t196 t197 t198 t200 t201 t202 t203 t204 t205 x51_8 = some r) ∧ Aside0 (kq ≤ kj1) ∧ Aside0 (Below w.heap.size w wc))
        case first =>
          have H := HC9.out
          clear HC9
          by_cases c10 : t199 = true
          · subst c10
            have H1 : (stowagelaw4_WhenSteps.j1 kj1 t193 t194 t195 t196 t197 t198 t200 t201 t202 t203 t204 t205 (!t206)) = some r := by rw [if_pos rfl] at H; exact H
            clear H
            have H := H1
            clear H1
            have H' := Aside0.mk H
            clear H
            go_wp2
            go_meet
            case rel => exact ⟨_, (!t206), (by first | rfl | (simp; done) | (simp [*]; done)), H', ⟨by have := HJ1.out; first | omega | exact Nat.le_refl _⟩, ⟨by repeat (first | (with_reducible first | exact HB.out | apply below_alloc | apply pw_below_drewN | apply below_drew1) | exact HB.out)⟩⟩
          · replace c10 := Bool.eq_false_iff.mpr c10
            subst c10
            have H1 : (stowagelaw4_WhenSteps.j1 kj1 t193 t194 t195 t196 t197 t198 t200 t201 t202 t203 t204 t205 true) = some r := by rw [if_neg (show ¬ (false = true) by decide)] at H; exact H
            clear H
            have H := H1
            clear H1
            have H' := Aside0.mk H
            clear H
            go_wp2
            go_meet
            case rel => exact ⟨_, (true), (by first | rfl | (simp; done) | (simp [*]; done)), H', ⟨by have := HJ1.out; first | omega | exact Nat.le_refl _⟩, ⟨by repeat (first | (with_reducible first | exact HB.out | apply below_alloc | apply pw_below_drewN | apply below_drew1) | exact HB.out)⟩⟩
        case rest =>
          clear HC9
          try clear c1
          try clear p2
          try clear c3
          try clear c3b0
          try clear c4
          try clear p6
          try clear c8
          try clear c9
          try clear c10
          try clear p2
          obtain ⟨kq, x51_8, rfl, HA, HJ8, HB⟩ := hcut
          cases kq with
          | zero => exact absurd HA.out (by simp [stowagelaw4_WhenSteps.j1])
          | succ kj8 =>
            have H := HA.out
            clear HA
            simp only [stowagelaw4_WhenSteps.j1] at H
            by_cases c11 : x51_8 = true
            · subst c11
              have H1 : (some false) = some r := by rw [if_pos rfl] at H; exact H
              clear H
              have H := H1
              clear H1
              rw [hr] at H
              exact absurd H (by simp)
            · replace c11 := Bool.eq_false_iff.mpr c11
              subst c11
              have H1 : (if t198 < 59 then (if t200 = t193 then (if t201 = t194 then (if t202 = t195 then (if t203 = t196 then (if t204 = t197 then (if t205 = (wrap64 (t198 + 1)) then ((stowagelaw4_awake.f kj8).bind fun t207 => (some t207)) else (some false)) else (some false)) else (some false)) else (some false)) else (some false)) else (some false)) else (if t197 < 59 then (if t200 = t193 then (if t201 = t194 then (if t202 = t195 then (if t203 = t196 then (if t204 = (wrap64 (t197 + 1)) then (if t205 = 0 then ((stowagelaw4_awake.f kj8).bind fun t208 => (some t208)) else (some false)) else (some false)) else (some false)) else (some false)) else (some false)) else (some false)) else (if t196 < 23 then (if t200 = t193 then (if t201 = t194 then (if t202 = t195 then (if t203 = (wrap64 (t196 + 1)) then (if t204 = 0 then (if t205 = 0 then ((stowagelaw4_awake.f kj8).bind fun t209 => (some t209)) else (some false)) else (some false)) else (some false)) else (some false)) else (some false)) else (some false)) else (if t202 = (wrap64 (t195 + 1)) then (if t201 = t194 then (if t200 = t193 then (if t203 = 0 then (if t204 = 0 then (if t205 = 0 then ((stowagelaw4_awake.f kj8).bind fun t210 => (some t210)) else (some false)) else (some false)) else (some false)) else (if t202 = 1 then (if t195 ≥ 28 then (if t201 = (wrap64 (t194 + 1)) then (if t201 = 1 then (if t194 = 12 then (if t200 = (wrap64 (t193 + 1)) then (if t203 = 0 then (if t204 = 0 then (if t205 = 0 then ((stowagelaw4_awake.f kj8).bind fun t211 => (some t211)) else (some false)) else (some false)) else (some false)) else (some false)) else (some false)) else (some false)) else (if t201 = 1 then (if t194 = 12 then (if t200 = (wrap64 (t193 + 1)) then (if t203 = 0 then (if t204 = 0 then (if t205 = 0 then ((stowagelaw4_awake.f kj8).bind fun t212 => (some t212)) else (some false)) else (some false)) else (some false)) else (some false)) else (some false)) else (some false))) else (some false)) else (some false))) else (if t202 = 1 then (if t195 ≥ 28 then (if t201 = (wrap64 (t194 + 1)) then (if t200 = t193 then (if t203 = 0 then (if t204 = 0 then (if t205 = 0 then ((stowagelaw4_awake.f kj8).bind fun t213 => (some t213)) else (some false)) else (some false)) else (some false)) else (if t201 = 1 then (if t194 = 12 then (if t200 = (wrap64 (t193 + 1)) then (if t203 = 0 then (if t204 = 0 then (if t205 = 0 then ((stowagelaw4_awake.f kj8).bind fun t214 => (some t214)) else (some false)) else (some false)) else (some false)) else (some false)) else (some false)) else (some false))) else (if t201 = 1 then (if t194 = 12 then (if t200 = (wrap64 (t193 + 1)) then (if t203 = 0 then (if t204 = 0 then (if t205 = 0 then ((stowagelaw4_awake.f kj8).bind fun t215 => (some t215)) else (some false)) else (some false)) else (some false)) else (some false)) else (some false)) else (some false))) else (some false)) else (some false))) else (if t202 = 1 then (if t195 ≥ 28 then (if t201 = (wrap64 (t194 + 1)) then (if t200 = t193 then (if t203 = 0 then (if t204 = 0 then (if t205 = 0 then ((stowagelaw4_awake.f kj8).bind fun t216 => (some t216)) else (some false)) else (some false)) else (some false)) else (if t201 = 1 then (if t194 = 12 then (if t200 = (wrap64 (t193 + 1)) then (if t203 = 0 then (if t204 = 0 then (if t205 = 0 then ((stowagelaw4_awake.f kj8).bind fun t217 => (some t217)) else (some false)) else (some false)) else (some false)) else (some false)) else (some false)) else (some false))) else (if t201 = 1 then (if t194 = 12 then (if t200 = (wrap64 (t193 + 1)) then (if t203 = 0 then (if t204 = 0 then (if t205 = 0 then ((stowagelaw4_awake.f kj8).bind fun t218 => (some t218)) else (some false)) else (some false)) else (some false)) else (some false)) else (some false)) else (some false))) else (some false)) else (some false)))))) = some r := by rw [if_neg (show ¬ (false = true) by decide)] at H; exact H
              clear H
              have H := H1
              clear H1
              by_cases c12 : t198 < 59
              · rw [if_pos c12] at H
                have c12b0 : decide (t198 < 59) = true := decide_eq_true c12
                clear c12
                by_cases c13 : t200 = t193
                · rw [if_pos c13] at H
                  have c13b0 : (t200 == t193) = true := beq_iff_eq.mpr c13
                  have c13b1 : (t200 != t193) = false := bne_eq_false_iff_eq.mpr c13
                  clear c13
                  by_cases c14 : t201 = t194
                  · rw [if_pos c14] at H
                    have c14b0 : (t201 == t194) = true := beq_iff_eq.mpr c14
                    have c14b1 : (t201 != t194) = false := bne_eq_false_iff_eq.mpr c14
                    clear c14
                    by_cases c15 : t202 = t195
                    · rw [if_pos c15] at H
                      have c15b0 : (t202 == t195) = true := beq_iff_eq.mpr c15
                      have c15b1 : (t202 != t195) = false := bne_eq_false_iff_eq.mpr c15
                      clear c15
                      by_cases c16 : t203 = t196
                      · rw [if_pos c16] at H
                        have c16b0 : (t203 == t196) = true := beq_iff_eq.mpr c16
                        have c16b1 : (t203 != t196) = false := bne_eq_false_iff_eq.mpr c16
                        clear c16
                        by_cases c17 : t204 = t197
                        · rw [if_pos c17] at H
                          have c17b0 : (t204 == t197) = true := beq_iff_eq.mpr c17
                          have c17b1 : (t204 != t197) = false := bne_eq_false_iff_eq.mpr c17
                          clear c17
                          by_cases c18 : t205 = (wrap64 (t198 + 1))
                          · rw [if_pos c18] at H
                            have c18b0 : (t205 == (wrap64 (t198 + 1))) = true := beq_iff_eq.mpr c18
                            have c18b1 : (t205 != (wrap64 (t198 + 1))) = false := bne_eq_false_iff_eq.mpr c18
                            clear c18
                            replace H := Option.bind_eq_some_iff.mp H
                            obtain ⟨t207, A190, H⟩ := H
                            replace H : (some t207) = some r := H
                            have A19 := Aside0.mk A190
                            clear A190
                            clear hr
                            obtain rfl := Option.some.inj H
                            go_wp2_with (first | (go_at_call 8; (with_reducible refine (stowagelaw4_awake.calls kj8  t207 _ A19.out).mono ?_); rintro e w20 ⟨rfl, hb⟩; have n0_ := Aside0.mk (below_step (by repeat (first | (with_reducible first | exact HB.out | apply below_alloc | apply pw_below_drewN | apply below_drew1) | exact HB.out)) hb); clear HB; have HB := n0_; clear n0_; (try clear hb); (try clear hb2); (try clear hk); (try clear hi)))
                            go_ret
                            exact ⟨by first | rfl | (simp [errW_none, errW_some] <;> rfl) | (simp [*, errW_none, errW_some] <;> rfl), by repeat (first | (with_reducible first | exact HB.out | apply below_alloc | apply pw_below_drewN | apply below_drew1) | exact HB.out)⟩
                          · rw [if_neg c18] at H
                            have c18b0 : (t205 == (wrap64 (t198 + 1))) = false := beq_eq_false_iff_ne.mpr c18
                            have c18b1 : (t205 != (wrap64 (t198 + 1))) = true := bne_iff_ne.mpr c18
                            rw [hr] at H
                            exact absurd H (by simp)
                        · rw [if_neg c17] at H
                          have c17b0 : (t204 == t197) = false := beq_eq_false_iff_ne.mpr c17
                          have c17b1 : (t204 != t197) = true := bne_iff_ne.mpr c17
                          rw [hr] at H
                          exact absurd H (by simp)
                      · rw [if_neg c16] at H
                        have c16b0 : (t203 == t196) = false := beq_eq_false_iff_ne.mpr c16
                        have c16b1 : (t203 != t196) = true := bne_iff_ne.mpr c16
                        rw [hr] at H
                        exact absurd H (by simp)
                    · rw [if_neg c15] at H
                      have c15b0 : (t202 == t195) = false := beq_eq_false_iff_ne.mpr c15
                      have c15b1 : (t202 != t195) = true := bne_iff_ne.mpr c15
                      rw [hr] at H
                      exact absurd H (by simp)
                  · rw [if_neg c14] at H
                    have c14b0 : (t201 == t194) = false := beq_eq_false_iff_ne.mpr c14
                    have c14b1 : (t201 != t194) = true := bne_iff_ne.mpr c14
                    rw [hr] at H
                    exact absurd H (by simp)
                · rw [if_neg c13] at H
                  have c13b0 : (t200 == t193) = false := beq_eq_false_iff_ne.mpr c13
                  have c13b1 : (t200 != t193) = true := bne_iff_ne.mpr c13
                  rw [hr] at H
                  exact absurd H (by simp)
              · rw [if_neg c12] at H
                have c12b0 : decide (t198 < 59) = false := decide_eq_false c12
                clear c12
                by_cases c21 : t197 < 59
                · rw [if_pos c21] at H
                  have c21b0 : decide (t197 < 59) = true := decide_eq_true c21
                  clear c21
                  by_cases c22 : t200 = t193
                  · rw [if_pos c22] at H
                    have c22b0 : (t200 == t193) = true := beq_iff_eq.mpr c22
                    have c22b1 : (t200 != t193) = false := bne_eq_false_iff_eq.mpr c22
                    clear c22
                    by_cases c23 : t201 = t194
                    · rw [if_pos c23] at H
                      have c23b0 : (t201 == t194) = true := beq_iff_eq.mpr c23
                      have c23b1 : (t201 != t194) = false := bne_eq_false_iff_eq.mpr c23
                      clear c23
                      by_cases c24 : t202 = t195
                      · rw [if_pos c24] at H
                        have c24b0 : (t202 == t195) = true := beq_iff_eq.mpr c24
                        have c24b1 : (t202 != t195) = false := bne_eq_false_iff_eq.mpr c24
                        clear c24
                        by_cases c25 : t203 = t196
                        · rw [if_pos c25] at H
                          have c25b0 : (t203 == t196) = true := beq_iff_eq.mpr c25
                          have c25b1 : (t203 != t196) = false := bne_eq_false_iff_eq.mpr c25
                          clear c25
                          by_cases c26 : t204 = (wrap64 (t197 + 1))
                          · rw [if_pos c26] at H
                            have c26b0 : (t204 == (wrap64 (t197 + 1))) = true := beq_iff_eq.mpr c26
                            have c26b1 : (t204 != (wrap64 (t197 + 1))) = false := bne_eq_false_iff_eq.mpr c26
                            clear c26
                            by_cases c27 : t205 = 0
                            · rw [if_pos c27] at H
                              have c27b0 : (t205 == 0) = true := beq_iff_eq.mpr c27
                              have c27b1 : (t205 != 0) = false := bne_eq_false_iff_eq.mpr c27
                              clear c27
                              replace H := Option.bind_eq_some_iff.mp H
                              obtain ⟨t208, A280, H⟩ := H
                              replace H : (some t208) = some r := H
                              have A28 := Aside0.mk A280
                              clear A280
                              clear hr
                              obtain rfl := Option.some.inj H
                              go_wp2_with (first | (go_at_call 8; (with_reducible refine (stowagelaw4_awake.calls kj8  t208 _ A28.out).mono ?_); rintro e w29 ⟨rfl, hb⟩; have n0_ := Aside0.mk (below_step (by repeat (first | (with_reducible first | exact HB.out | apply below_alloc | apply pw_below_drewN | apply below_drew1) | exact HB.out)) hb); clear HB; have HB := n0_; clear n0_; (try clear hb); (try clear hb2); (try clear hk); (try clear hi)))
                              go_ret
                              exact ⟨by first | rfl | (simp [errW_none, errW_some] <;> rfl) | (simp [*, errW_none, errW_some] <;> rfl), by repeat (first | (with_reducible first | exact HB.out | apply below_alloc | apply pw_below_drewN | apply below_drew1) | exact HB.out)⟩
                            · rw [if_neg c27] at H
                              have c27b0 : (t205 == 0) = false := beq_eq_false_iff_ne.mpr c27
                              have c27b1 : (t205 != 0) = true := bne_iff_ne.mpr c27
                              rw [hr] at H
                              exact absurd H (by simp)
                          · rw [if_neg c26] at H
                            have c26b0 : (t204 == (wrap64 (t197 + 1))) = false := beq_eq_false_iff_ne.mpr c26
                            have c26b1 : (t204 != (wrap64 (t197 + 1))) = true := bne_iff_ne.mpr c26
                            rw [hr] at H
                            exact absurd H (by simp)
                        · rw [if_neg c25] at H
                          have c25b0 : (t203 == t196) = false := beq_eq_false_iff_ne.mpr c25
                          have c25b1 : (t203 != t196) = true := bne_iff_ne.mpr c25
                          rw [hr] at H
                          exact absurd H (by simp)
                      · rw [if_neg c24] at H
                        have c24b0 : (t202 == t195) = false := beq_eq_false_iff_ne.mpr c24
                        have c24b1 : (t202 != t195) = true := bne_iff_ne.mpr c24
                        rw [hr] at H
                        exact absurd H (by simp)
                    · rw [if_neg c23] at H
                      have c23b0 : (t201 == t194) = false := beq_eq_false_iff_ne.mpr c23
                      have c23b1 : (t201 != t194) = true := bne_iff_ne.mpr c23
                      rw [hr] at H
                      exact absurd H (by simp)
                  · rw [if_neg c22] at H
                    have c22b0 : (t200 == t193) = false := beq_eq_false_iff_ne.mpr c22
                    have c22b1 : (t200 != t193) = true := bne_iff_ne.mpr c22
                    rw [hr] at H
                    exact absurd H (by simp)
                · rw [if_neg c21] at H
                  have c21b0 : decide (t197 < 59) = false := decide_eq_false c21
                  clear c21
                  by_cases c30 : t196 < 23
                  · rw [if_pos c30] at H
                    have c30b0 : decide (t196 < 23) = true := decide_eq_true c30
                    clear c30
                    by_cases c31 : t200 = t193
                    · rw [if_pos c31] at H
                      have c31b0 : (t200 == t193) = true := beq_iff_eq.mpr c31
                      have c31b1 : (t200 != t193) = false := bne_eq_false_iff_eq.mpr c31
                      clear c31
                      by_cases c32 : t201 = t194
                      · rw [if_pos c32] at H
                        have c32b0 : (t201 == t194) = true := beq_iff_eq.mpr c32
                        have c32b1 : (t201 != t194) = false := bne_eq_false_iff_eq.mpr c32
                        clear c32
                        by_cases c33 : t202 = t195
                        · rw [if_pos c33] at H
                          have c33b0 : (t202 == t195) = true := beq_iff_eq.mpr c33
                          have c33b1 : (t202 != t195) = false := bne_eq_false_iff_eq.mpr c33
                          clear c33
                          by_cases c34 : t203 = (wrap64 (t196 + 1))
                          · rw [if_pos c34] at H
                            have c34b0 : (t203 == (wrap64 (t196 + 1))) = true := beq_iff_eq.mpr c34
                            have c34b1 : (t203 != (wrap64 (t196 + 1))) = false := bne_eq_false_iff_eq.mpr c34
                            clear c34
                            by_cases c35 : t204 = 0
                            · rw [if_pos c35] at H
                              have c35b0 : (t204 == 0) = true := beq_iff_eq.mpr c35
                              have c35b1 : (t204 != 0) = false := bne_eq_false_iff_eq.mpr c35
                              clear c35
                              by_cases c36 : t205 = 0
                              · rw [if_pos c36] at H
                                have c36b0 : (t205 == 0) = true := beq_iff_eq.mpr c36
                                have c36b1 : (t205 != 0) = false := bne_eq_false_iff_eq.mpr c36
                                clear c36
                                replace H := Option.bind_eq_some_iff.mp H
                                obtain ⟨t209, A370, H⟩ := H
                                replace H : (some t209) = some r := H
                                have A37 := Aside0.mk A370
                                clear A370
                                clear hr
                                obtain rfl := Option.some.inj H
                                go_wp2_with (first | (go_at_call 8; (with_reducible refine (stowagelaw4_awake.calls kj8  t209 _ A37.out).mono ?_); rintro e w38 ⟨rfl, hb⟩; have n0_ := Aside0.mk (below_step (by repeat (first | (with_reducible first | exact HB.out | apply below_alloc | apply pw_below_drewN | apply below_drew1) | exact HB.out)) hb); clear HB; have HB := n0_; clear n0_; (try clear hb); (try clear hb2); (try clear hk); (try clear hi)))
                                go_ret
                                exact ⟨by first | rfl | (simp [errW_none, errW_some] <;> rfl) | (simp [*, errW_none, errW_some] <;> rfl), by repeat (first | (with_reducible first | exact HB.out | apply below_alloc | apply pw_below_drewN | apply below_drew1) | exact HB.out)⟩
                              · rw [if_neg c36] at H
                                have c36b0 : (t205 == 0) = false := beq_eq_false_iff_ne.mpr c36
                                have c36b1 : (t205 != 0) = true := bne_iff_ne.mpr c36
                                rw [hr] at H
                                exact absurd H (by simp)
                            · rw [if_neg c35] at H
                              have c35b0 : (t204 == 0) = false := beq_eq_false_iff_ne.mpr c35
                              have c35b1 : (t204 != 0) = true := bne_iff_ne.mpr c35
                              rw [hr] at H
                              exact absurd H (by simp)
                          · rw [if_neg c34] at H
                            have c34b0 : (t203 == (wrap64 (t196 + 1))) = false := beq_eq_false_iff_ne.mpr c34
                            have c34b1 : (t203 != (wrap64 (t196 + 1))) = true := bne_iff_ne.mpr c34
                            rw [hr] at H
                            exact absurd H (by simp)
                        · rw [if_neg c33] at H
                          have c33b0 : (t202 == t195) = false := beq_eq_false_iff_ne.mpr c33
                          have c33b1 : (t202 != t195) = true := bne_iff_ne.mpr c33
                          rw [hr] at H
                          exact absurd H (by simp)
                      · rw [if_neg c32] at H
                        have c32b0 : (t201 == t194) = false := beq_eq_false_iff_ne.mpr c32
                        have c32b1 : (t201 != t194) = true := bne_iff_ne.mpr c32
                        rw [hr] at H
                        exact absurd H (by simp)
                    · rw [if_neg c31] at H
                      have c31b0 : (t200 == t193) = false := beq_eq_false_iff_ne.mpr c31
                      have c31b1 : (t200 != t193) = true := bne_iff_ne.mpr c31
                      rw [hr] at H
                      exact absurd H (by simp)
                  · rw [if_neg c30] at H
                    have c30b0 : decide (t196 < 23) = false := decide_eq_false c30
                    clear c30
                    by_cases c39 : t202 = (wrap64 (t195 + 1))
                    · rw [if_pos c39] at H
                      have c39b0 : (t202 == (wrap64 (t195 + 1))) = true := beq_iff_eq.mpr c39
                      have c39b1 : (t202 != (wrap64 (t195 + 1))) = false := bne_eq_false_iff_eq.mpr c39
                      clear c39
                      by_cases c40 : t201 = t194
                      · rw [if_pos c40] at H
                        have c40b0 : (t201 == t194) = true := beq_iff_eq.mpr c40
                        have c40b1 : (t201 != t194) = false := bne_eq_false_iff_eq.mpr c40
                        clear c40
                        by_cases c41 : t200 = t193
                        · rw [if_pos c41] at H
                          have c41b0 : (t200 == t193) = true := beq_iff_eq.mpr c41
                          have c41b1 : (t200 != t193) = false := bne_eq_false_iff_eq.mpr c41
                          clear c41
                          by_cases c42 : t203 = 0
                          · rw [if_pos c42] at H
                            have c42b0 : (t203 == 0) = true := beq_iff_eq.mpr c42
                            have c42b1 : (t203 != 0) = false := bne_eq_false_iff_eq.mpr c42
                            clear c42
                            by_cases c43 : t204 = 0
                            · rw [if_pos c43] at H
                              have c43b0 : (t204 == 0) = true := beq_iff_eq.mpr c43
                              have c43b1 : (t204 != 0) = false := bne_eq_false_iff_eq.mpr c43
                              clear c43
                              by_cases c44 : t205 = 0
                              · rw [if_pos c44] at H
                                have c44b0 : (t205 == 0) = true := beq_iff_eq.mpr c44
                                have c44b1 : (t205 != 0) = false := bne_eq_false_iff_eq.mpr c44
                                clear c44
                                replace H := Option.bind_eq_some_iff.mp H
                                obtain ⟨t210, A450, H⟩ := H
                                replace H : (some t210) = some r := H
                                have A45 := Aside0.mk A450
                                clear A450
                                clear hr
                                obtain rfl := Option.some.inj H
                                go_wp2_with (first | (go_at_call 8; (with_reducible refine (stowagelaw4_awake.calls kj8  t210 _ A45.out).mono ?_); rintro e w46 ⟨rfl, hb⟩; have n0_ := Aside0.mk (below_step (by repeat (first | (with_reducible first | exact HB.out | apply below_alloc | apply pw_below_drewN | apply below_drew1) | exact HB.out)) hb); clear HB; have HB := n0_; clear n0_; (try clear hb); (try clear hb2); (try clear hk); (try clear hi)))
                                go_ret
                                exact ⟨by first | rfl | (simp [errW_none, errW_some] <;> rfl) | (simp [*, errW_none, errW_some] <;> rfl), by repeat (first | (with_reducible first | exact HB.out | apply below_alloc | apply pw_below_drewN | apply below_drew1) | exact HB.out)⟩
                              · rw [if_neg c44] at H
                                have c44b0 : (t205 == 0) = false := beq_eq_false_iff_ne.mpr c44
                                have c44b1 : (t205 != 0) = true := bne_iff_ne.mpr c44
                                rw [hr] at H
                                exact absurd H (by simp)
                            · rw [if_neg c43] at H
                              have c43b0 : (t204 == 0) = false := beq_eq_false_iff_ne.mpr c43
                              have c43b1 : (t204 != 0) = true := bne_iff_ne.mpr c43
                              rw [hr] at H
                              exact absurd H (by simp)
                          · rw [if_neg c42] at H
                            have c42b0 : (t203 == 0) = false := beq_eq_false_iff_ne.mpr c42
                            have c42b1 : (t203 != 0) = true := bne_iff_ne.mpr c42
                            rw [hr] at H
                            exact absurd H (by simp)
                        · rw [if_neg c41] at H
                          have c41b0 : (t200 == t193) = false := beq_eq_false_iff_ne.mpr c41
                          have c41b1 : (t200 != t193) = true := bne_iff_ne.mpr c41
                          by_cases c47 : t202 = 1
                          · rw [if_pos c47] at H
                            have c47b0 : (t202 == 1) = true := beq_iff_eq.mpr c47
                            have c47b1 : (t202 != 1) = false := bne_eq_false_iff_eq.mpr c47
                            clear c47
                            by_cases c48 : t195 ≥ 28
                            · rw [if_pos c48] at H
                              have c48b0 : decide (28 ≤ t195) = true := decide_eq_true c48
                              clear c48
                              by_cases c49 : t201 = (wrap64 (t194 + 1))
                              · rw [if_pos c49] at H
                                have c49b0 : (t201 == (wrap64 (t194 + 1))) = true := beq_iff_eq.mpr c49
                                have c49b1 : (t201 != (wrap64 (t194 + 1))) = false := bne_eq_false_iff_eq.mpr c49
                                clear c49
                                by_cases c50 : t201 = 1
                                · rw [if_pos c50] at H
                                  have c50b0 : (t201 == 1) = true := beq_iff_eq.mpr c50
                                  have c50b1 : (t201 != 1) = false := bne_eq_false_iff_eq.mpr c50
                                  clear c50
                                  by_cases c51 : t194 = 12
                                  · rw [if_pos c51] at H
                                    have c51b0 : (t194 == 12) = true := beq_iff_eq.mpr c51
                                    have c51b1 : (t194 != 12) = false := bne_eq_false_iff_eq.mpr c51
                                    clear c51
                                    by_cases c52 : t200 = (wrap64 (t193 + 1))
                                    · rw [if_pos c52] at H
                                      have c52b0 : (t200 == (wrap64 (t193 + 1))) = true := beq_iff_eq.mpr c52
                                      have c52b1 : (t200 != (wrap64 (t193 + 1))) = false := bne_eq_false_iff_eq.mpr c52
                                      clear c52
                                      by_cases c53 : t203 = 0
                                      · rw [if_pos c53] at H
                                        have c53b0 : (t203 == 0) = true := beq_iff_eq.mpr c53
                                        have c53b1 : (t203 != 0) = false := bne_eq_false_iff_eq.mpr c53
                                        clear c53
                                        by_cases c54 : t204 = 0
                                        · rw [if_pos c54] at H
                                          have c54b0 : (t204 == 0) = true := beq_iff_eq.mpr c54
                                          have c54b1 : (t204 != 0) = false := bne_eq_false_iff_eq.mpr c54
                                          clear c54
                                          by_cases c55 : t205 = 0
                                          · rw [if_pos c55] at H
                                            have c55b0 : (t205 == 0) = true := beq_iff_eq.mpr c55
                                            have c55b1 : (t205 != 0) = false := bne_eq_false_iff_eq.mpr c55
                                            clear c55
                                            replace H := Option.bind_eq_some_iff.mp H
                                            obtain ⟨t211, A560, H⟩ := H
                                            replace H : (some t211) = some r := H
                                            have A56 := Aside0.mk A560
                                            clear A560
                                            clear hr
                                            obtain rfl := Option.some.inj H
                                            go_wp2_with (first | (go_at_call 8; (with_reducible refine (stowagelaw4_awake.calls kj8  t211 _ A56.out).mono ?_); rintro e w57 ⟨rfl, hb⟩; have n0_ := Aside0.mk (below_step (by repeat (first | (with_reducible first | exact HB.out | apply below_alloc | apply pw_below_drewN | apply below_drew1) | exact HB.out)) hb); clear HB; have HB := n0_; clear n0_; (try clear hb); (try clear hb2); (try clear hk); (try clear hi)))
                                            go_ret
                                            exact ⟨by first | rfl | (simp [errW_none, errW_some] <;> rfl) | (simp [*, errW_none, errW_some] <;> rfl), by repeat (first | (with_reducible first | exact HB.out | apply below_alloc | apply pw_below_drewN | apply below_drew1) | exact HB.out)⟩
                                          · rw [if_neg c55] at H
                                            have c55b0 : (t205 == 0) = false := beq_eq_false_iff_ne.mpr c55
                                            have c55b1 : (t205 != 0) = true := bne_iff_ne.mpr c55
                                            rw [hr] at H
                                            exact absurd H (by simp)
                                        · rw [if_neg c54] at H
                                          have c54b0 : (t204 == 0) = false := beq_eq_false_iff_ne.mpr c54
                                          have c54b1 : (t204 != 0) = true := bne_iff_ne.mpr c54
                                          rw [hr] at H
                                          exact absurd H (by simp)
                                      · rw [if_neg c53] at H
                                        have c53b0 : (t203 == 0) = false := beq_eq_false_iff_ne.mpr c53
                                        have c53b1 : (t203 != 0) = true := bne_iff_ne.mpr c53
                                        rw [hr] at H
                                        exact absurd H (by simp)
                                    · rw [if_neg c52] at H
                                      have c52b0 : (t200 == (wrap64 (t193 + 1))) = false := beq_eq_false_iff_ne.mpr c52
                                      have c52b1 : (t200 != (wrap64 (t193 + 1))) = true := bne_iff_ne.mpr c52
                                      rw [hr] at H
                                      exact absurd H (by simp)
                                  · rw [if_neg c51] at H
                                    have c51b0 : (t194 == 12) = false := beq_eq_false_iff_ne.mpr c51
                                    have c51b1 : (t194 != 12) = true := bne_iff_ne.mpr c51
                                    rw [hr] at H
                                    exact absurd H (by simp)
                                · rw [if_neg c50] at H
                                  have c50b0 : (t201 == 1) = false := beq_eq_false_iff_ne.mpr c50
                                  have c50b1 : (t201 != 1) = true := bne_iff_ne.mpr c50
                                  rw [hr] at H
                                  exact absurd H (by simp)
                              · rw [if_neg c49] at H
                                have c49b0 : (t201 == (wrap64 (t194 + 1))) = false := beq_eq_false_iff_ne.mpr c49
                                have c49b1 : (t201 != (wrap64 (t194 + 1))) = true := bne_iff_ne.mpr c49
                                by_cases c58 : t201 = 1
                                · rw [if_pos c58] at H
                                  have c58b0 : (t201 == 1) = true := beq_iff_eq.mpr c58
                                  have c58b1 : (t201 != 1) = false := bne_eq_false_iff_eq.mpr c58
                                  clear c58
                                  by_cases c59 : t194 = 12
                                  · rw [if_pos c59] at H
                                    have c59b0 : (t194 == 12) = true := beq_iff_eq.mpr c59
                                    have c59b1 : (t194 != 12) = false := bne_eq_false_iff_eq.mpr c59
                                    clear c59
                                    by_cases c60 : t200 = (wrap64 (t193 + 1))
                                    · rw [if_pos c60] at H
                                      have c60b0 : (t200 == (wrap64 (t193 + 1))) = true := beq_iff_eq.mpr c60
                                      have c60b1 : (t200 != (wrap64 (t193 + 1))) = false := bne_eq_false_iff_eq.mpr c60
                                      clear c60
                                      by_cases c61 : t203 = 0
                                      · rw [if_pos c61] at H
                                        have c61b0 : (t203 == 0) = true := beq_iff_eq.mpr c61
                                        have c61b1 : (t203 != 0) = false := bne_eq_false_iff_eq.mpr c61
                                        clear c61
                                        by_cases c62 : t204 = 0
                                        · rw [if_pos c62] at H
                                          have c62b0 : (t204 == 0) = true := beq_iff_eq.mpr c62
                                          have c62b1 : (t204 != 0) = false := bne_eq_false_iff_eq.mpr c62
                                          clear c62
                                          by_cases c63 : t205 = 0
                                          · rw [if_pos c63] at H
                                            have c63b0 : (t205 == 0) = true := beq_iff_eq.mpr c63
                                            have c63b1 : (t205 != 0) = false := bne_eq_false_iff_eq.mpr c63
                                            clear c63
                                            replace H := Option.bind_eq_some_iff.mp H
                                            obtain ⟨t212, A640, H⟩ := H
                                            replace H : (some t212) = some r := H
                                            have A64 := Aside0.mk A640
                                            clear A640
                                            clear hr
                                            obtain rfl := Option.some.inj H
                                            go_wp2_with (first | (go_at_call 8; (with_reducible refine (stowagelaw4_awake.calls kj8  t212 _ A64.out).mono ?_); rintro e w65 ⟨rfl, hb⟩; have n0_ := Aside0.mk (below_step (by repeat (first | (with_reducible first | exact HB.out | apply below_alloc | apply pw_below_drewN | apply below_drew1) | exact HB.out)) hb); clear HB; have HB := n0_; clear n0_; (try clear hb); (try clear hb2); (try clear hk); (try clear hi)))
                                            go_ret
                                            exact ⟨by first | rfl | (simp [errW_none, errW_some] <;> rfl) | (simp [*, errW_none, errW_some] <;> rfl), by repeat (first | (with_reducible first | exact HB.out | apply below_alloc | apply pw_below_drewN | apply below_drew1) | exact HB.out)⟩
                                          · rw [if_neg c63] at H
                                            have c63b0 : (t205 == 0) = false := beq_eq_false_iff_ne.mpr c63
                                            have c63b1 : (t205 != 0) = true := bne_iff_ne.mpr c63
                                            rw [hr] at H
                                            exact absurd H (by simp)
                                        · rw [if_neg c62] at H
                                          have c62b0 : (t204 == 0) = false := beq_eq_false_iff_ne.mpr c62
                                          have c62b1 : (t204 != 0) = true := bne_iff_ne.mpr c62
                                          rw [hr] at H
                                          exact absurd H (by simp)
                                      · rw [if_neg c61] at H
                                        have c61b0 : (t203 == 0) = false := beq_eq_false_iff_ne.mpr c61
                                        have c61b1 : (t203 != 0) = true := bne_iff_ne.mpr c61
                                        rw [hr] at H
                                        exact absurd H (by simp)
                                    · rw [if_neg c60] at H
                                      have c60b0 : (t200 == (wrap64 (t193 + 1))) = false := beq_eq_false_iff_ne.mpr c60
                                      have c60b1 : (t200 != (wrap64 (t193 + 1))) = true := bne_iff_ne.mpr c60
                                      rw [hr] at H
                                      exact absurd H (by simp)
                                  · rw [if_neg c59] at H
                                    have c59b0 : (t194 == 12) = false := beq_eq_false_iff_ne.mpr c59
                                    have c59b1 : (t194 != 12) = true := bne_iff_ne.mpr c59
                                    rw [hr] at H
                                    exact absurd H (by simp)
                                · rw [if_neg c58] at H
                                  have c58b0 : (t201 == 1) = false := beq_eq_false_iff_ne.mpr c58
                                  have c58b1 : (t201 != 1) = true := bne_iff_ne.mpr c58
                                  rw [hr] at H
                                  exact absurd H (by simp)
                            · rw [if_neg c48] at H
                              have c48b0 : decide (28 ≤ t195) = false := decide_eq_false c48
                              clear c48
                              rw [hr] at H
                              exact absurd H (by simp)
                          · rw [if_neg c47] at H
                            have c47b0 : (t202 == 1) = false := beq_eq_false_iff_ne.mpr c47
                            have c47b1 : (t202 != 1) = true := bne_iff_ne.mpr c47
                            rw [hr] at H
                            exact absurd H (by simp)
                      · rw [if_neg c40] at H
                        have c40b0 : (t201 == t194) = false := beq_eq_false_iff_ne.mpr c40
                        have c40b1 : (t201 != t194) = true := bne_iff_ne.mpr c40
                        by_cases c66 : t202 = 1
                        · rw [if_pos c66] at H
                          have c66b0 : (t202 == 1) = true := beq_iff_eq.mpr c66
                          have c66b1 : (t202 != 1) = false := bne_eq_false_iff_eq.mpr c66
                          clear c66
                          by_cases c67 : t195 ≥ 28
                          · rw [if_pos c67] at H
                            have c67b0 : decide (28 ≤ t195) = true := decide_eq_true c67
                            clear c67
                            by_cases c68 : t201 = (wrap64 (t194 + 1))
                            · rw [if_pos c68] at H
                              have c68b0 : (t201 == (wrap64 (t194 + 1))) = true := beq_iff_eq.mpr c68
                              have c68b1 : (t201 != (wrap64 (t194 + 1))) = false := bne_eq_false_iff_eq.mpr c68
                              clear c68
                              by_cases c69 : t200 = t193
                              · rw [if_pos c69] at H
                                have c69b0 : (t200 == t193) = true := beq_iff_eq.mpr c69
                                have c69b1 : (t200 != t193) = false := bne_eq_false_iff_eq.mpr c69
                                clear c69
                                by_cases c70 : t203 = 0
                                · rw [if_pos c70] at H
                                  have c70b0 : (t203 == 0) = true := beq_iff_eq.mpr c70
                                  have c70b1 : (t203 != 0) = false := bne_eq_false_iff_eq.mpr c70
                                  clear c70
                                  by_cases c71 : t204 = 0
                                  · rw [if_pos c71] at H
                                    have c71b0 : (t204 == 0) = true := beq_iff_eq.mpr c71
                                    have c71b1 : (t204 != 0) = false := bne_eq_false_iff_eq.mpr c71
                                    clear c71
                                    by_cases c72 : t205 = 0
                                    · rw [if_pos c72] at H
                                      have c72b0 : (t205 == 0) = true := beq_iff_eq.mpr c72
                                      have c72b1 : (t205 != 0) = false := bne_eq_false_iff_eq.mpr c72
                                      clear c72
                                      replace H := Option.bind_eq_some_iff.mp H
                                      obtain ⟨t213, A730, H⟩ := H
                                      replace H : (some t213) = some r := H
                                      have A73 := Aside0.mk A730
                                      clear A730
                                      clear hr
                                      obtain rfl := Option.some.inj H
                                      go_wp2_with (first | (go_at_call 8; (with_reducible refine (stowagelaw4_awake.calls kj8  t213 _ A73.out).mono ?_); rintro e w74 ⟨rfl, hb⟩; have n0_ := Aside0.mk (below_step (by repeat (first | (with_reducible first | exact HB.out | apply below_alloc | apply pw_below_drewN | apply below_drew1) | exact HB.out)) hb); clear HB; have HB := n0_; clear n0_; (try clear hb); (try clear hb2); (try clear hk); (try clear hi)))
                                      go_ret
                                      exact ⟨by first | rfl | (simp [errW_none, errW_some] <;> rfl) | (simp [*, errW_none, errW_some] <;> rfl), by repeat (first | (with_reducible first | exact HB.out | apply below_alloc | apply pw_below_drewN | apply below_drew1) | exact HB.out)⟩
                                    · rw [if_neg c72] at H
                                      have c72b0 : (t205 == 0) = false := beq_eq_false_iff_ne.mpr c72
                                      have c72b1 : (t205 != 0) = true := bne_iff_ne.mpr c72
                                      rw [hr] at H
                                      exact absurd H (by simp)
                                  · rw [if_neg c71] at H
                                    have c71b0 : (t204 == 0) = false := beq_eq_false_iff_ne.mpr c71
                                    have c71b1 : (t204 != 0) = true := bne_iff_ne.mpr c71
                                    rw [hr] at H
                                    exact absurd H (by simp)
                                · rw [if_neg c70] at H
                                  have c70b0 : (t203 == 0) = false := beq_eq_false_iff_ne.mpr c70
                                  have c70b1 : (t203 != 0) = true := bne_iff_ne.mpr c70
                                  rw [hr] at H
                                  exact absurd H (by simp)
                              · rw [if_neg c69] at H
                                have c69b0 : (t200 == t193) = false := beq_eq_false_iff_ne.mpr c69
                                have c69b1 : (t200 != t193) = true := bne_iff_ne.mpr c69
                                by_cases c75 : t201 = 1
                                · rw [if_pos c75] at H
                                  have c75b0 : (t201 == 1) = true := beq_iff_eq.mpr c75
                                  have c75b1 : (t201 != 1) = false := bne_eq_false_iff_eq.mpr c75
                                  clear c75
                                  by_cases c76 : t194 = 12
                                  · rw [if_pos c76] at H
                                    have c76b0 : (t194 == 12) = true := beq_iff_eq.mpr c76
                                    have c76b1 : (t194 != 12) = false := bne_eq_false_iff_eq.mpr c76
                                    clear c76
                                    by_cases c77 : t200 = (wrap64 (t193 + 1))
                                    · rw [if_pos c77] at H
                                      have c77b0 : (t200 == (wrap64 (t193 + 1))) = true := beq_iff_eq.mpr c77
                                      have c77b1 : (t200 != (wrap64 (t193 + 1))) = false := bne_eq_false_iff_eq.mpr c77
                                      clear c77
                                      by_cases c78 : t203 = 0
                                      · rw [if_pos c78] at H
                                        have c78b0 : (t203 == 0) = true := beq_iff_eq.mpr c78
                                        have c78b1 : (t203 != 0) = false := bne_eq_false_iff_eq.mpr c78
                                        clear c78
                                        by_cases c79 : t204 = 0
                                        · rw [if_pos c79] at H
                                          have c79b0 : (t204 == 0) = true := beq_iff_eq.mpr c79
                                          have c79b1 : (t204 != 0) = false := bne_eq_false_iff_eq.mpr c79
                                          clear c79
                                          by_cases c80 : t205 = 0
                                          · rw [if_pos c80] at H
                                            have c80b0 : (t205 == 0) = true := beq_iff_eq.mpr c80
                                            have c80b1 : (t205 != 0) = false := bne_eq_false_iff_eq.mpr c80
                                            clear c80
                                            replace H := Option.bind_eq_some_iff.mp H
                                            obtain ⟨t214, A810, H⟩ := H
                                            replace H : (some t214) = some r := H
                                            have A81 := Aside0.mk A810
                                            clear A810
                                            clear hr
                                            obtain rfl := Option.some.inj H
                                            go_wp2_with (first | (go_at_call 8; (with_reducible refine (stowagelaw4_awake.calls kj8  t214 _ A81.out).mono ?_); rintro e w82 ⟨rfl, hb⟩; have n0_ := Aside0.mk (below_step (by repeat (first | (with_reducible first | exact HB.out | apply below_alloc | apply pw_below_drewN | apply below_drew1) | exact HB.out)) hb); clear HB; have HB := n0_; clear n0_; (try clear hb); (try clear hb2); (try clear hk); (try clear hi)))
                                            go_ret
                                            exact ⟨by first | rfl | (simp [errW_none, errW_some] <;> rfl) | (simp [*, errW_none, errW_some] <;> rfl), by repeat (first | (with_reducible first | exact HB.out | apply below_alloc | apply pw_below_drewN | apply below_drew1) | exact HB.out)⟩
                                          · rw [if_neg c80] at H
                                            have c80b0 : (t205 == 0) = false := beq_eq_false_iff_ne.mpr c80
                                            have c80b1 : (t205 != 0) = true := bne_iff_ne.mpr c80
                                            rw [hr] at H
                                            exact absurd H (by simp)
                                        · rw [if_neg c79] at H
                                          have c79b0 : (t204 == 0) = false := beq_eq_false_iff_ne.mpr c79
                                          have c79b1 : (t204 != 0) = true := bne_iff_ne.mpr c79
                                          rw [hr] at H
                                          exact absurd H (by simp)
                                      · rw [if_neg c78] at H
                                        have c78b0 : (t203 == 0) = false := beq_eq_false_iff_ne.mpr c78
                                        have c78b1 : (t203 != 0) = true := bne_iff_ne.mpr c78
                                        rw [hr] at H
                                        exact absurd H (by simp)
                                    · rw [if_neg c77] at H
                                      have c77b0 : (t200 == (wrap64 (t193 + 1))) = false := beq_eq_false_iff_ne.mpr c77
                                      have c77b1 : (t200 != (wrap64 (t193 + 1))) = true := bne_iff_ne.mpr c77
                                      rw [hr] at H
                                      exact absurd H (by simp)
                                  · rw [if_neg c76] at H
                                    have c76b0 : (t194 == 12) = false := beq_eq_false_iff_ne.mpr c76
                                    have c76b1 : (t194 != 12) = true := bne_iff_ne.mpr c76
                                    rw [hr] at H
                                    exact absurd H (by simp)
                                · rw [if_neg c75] at H
                                  have c75b0 : (t201 == 1) = false := beq_eq_false_iff_ne.mpr c75
                                  have c75b1 : (t201 != 1) = true := bne_iff_ne.mpr c75
                                  rw [hr] at H
                                  exact absurd H (by simp)
                            · rw [if_neg c68] at H
                              have c68b0 : (t201 == (wrap64 (t194 + 1))) = false := beq_eq_false_iff_ne.mpr c68
                              have c68b1 : (t201 != (wrap64 (t194 + 1))) = true := bne_iff_ne.mpr c68
                              by_cases c83 : t201 = 1
                              · rw [if_pos c83] at H
                                have c83b0 : (t201 == 1) = true := beq_iff_eq.mpr c83
                                have c83b1 : (t201 != 1) = false := bne_eq_false_iff_eq.mpr c83
                                clear c83
                                by_cases c84 : t194 = 12
                                · rw [if_pos c84] at H
                                  have c84b0 : (t194 == 12) = true := beq_iff_eq.mpr c84
                                  have c84b1 : (t194 != 12) = false := bne_eq_false_iff_eq.mpr c84
                                  clear c84
                                  by_cases c85 : t200 = (wrap64 (t193 + 1))
                                  · rw [if_pos c85] at H
                                    have c85b0 : (t200 == (wrap64 (t193 + 1))) = true := beq_iff_eq.mpr c85
                                    have c85b1 : (t200 != (wrap64 (t193 + 1))) = false := bne_eq_false_iff_eq.mpr c85
                                    clear c85
                                    by_cases c86 : t203 = 0
                                    · rw [if_pos c86] at H
                                      have c86b0 : (t203 == 0) = true := beq_iff_eq.mpr c86
                                      have c86b1 : (t203 != 0) = false := bne_eq_false_iff_eq.mpr c86
                                      clear c86
                                      by_cases c87 : t204 = 0
                                      · rw [if_pos c87] at H
                                        have c87b0 : (t204 == 0) = true := beq_iff_eq.mpr c87
                                        have c87b1 : (t204 != 0) = false := bne_eq_false_iff_eq.mpr c87
                                        clear c87
                                        by_cases c88 : t205 = 0
                                        · rw [if_pos c88] at H
                                          have c88b0 : (t205 == 0) = true := beq_iff_eq.mpr c88
                                          have c88b1 : (t205 != 0) = false := bne_eq_false_iff_eq.mpr c88
                                          clear c88
                                          replace H := Option.bind_eq_some_iff.mp H
                                          obtain ⟨t215, A890, H⟩ := H
                                          replace H : (some t215) = some r := H
                                          have A89 := Aside0.mk A890
                                          clear A890
                                          clear hr
                                          obtain rfl := Option.some.inj H
                                          go_wp2_with (first | (go_at_call 8; (with_reducible refine (stowagelaw4_awake.calls kj8  t215 _ A89.out).mono ?_); rintro e w90 ⟨rfl, hb⟩; have n0_ := Aside0.mk (below_step (by repeat (first | (with_reducible first | exact HB.out | apply below_alloc | apply pw_below_drewN | apply below_drew1) | exact HB.out)) hb); clear HB; have HB := n0_; clear n0_; (try clear hb); (try clear hb2); (try clear hk); (try clear hi)))
                                          go_ret
                                          exact ⟨by first | rfl | (simp [errW_none, errW_some] <;> rfl) | (simp [*, errW_none, errW_some] <;> rfl), by repeat (first | (with_reducible first | exact HB.out | apply below_alloc | apply pw_below_drewN | apply below_drew1) | exact HB.out)⟩
                                        · rw [if_neg c88] at H
                                          have c88b0 : (t205 == 0) = false := beq_eq_false_iff_ne.mpr c88
                                          have c88b1 : (t205 != 0) = true := bne_iff_ne.mpr c88
                                          rw [hr] at H
                                          exact absurd H (by simp)
                                      · rw [if_neg c87] at H
                                        have c87b0 : (t204 == 0) = false := beq_eq_false_iff_ne.mpr c87
                                        have c87b1 : (t204 != 0) = true := bne_iff_ne.mpr c87
                                        rw [hr] at H
                                        exact absurd H (by simp)
                                    · rw [if_neg c86] at H
                                      have c86b0 : (t203 == 0) = false := beq_eq_false_iff_ne.mpr c86
                                      have c86b1 : (t203 != 0) = true := bne_iff_ne.mpr c86
                                      rw [hr] at H
                                      exact absurd H (by simp)
                                  · rw [if_neg c85] at H
                                    have c85b0 : (t200 == (wrap64 (t193 + 1))) = false := beq_eq_false_iff_ne.mpr c85
                                    have c85b1 : (t200 != (wrap64 (t193 + 1))) = true := bne_iff_ne.mpr c85
                                    rw [hr] at H
                                    exact absurd H (by simp)
                                · rw [if_neg c84] at H
                                  have c84b0 : (t194 == 12) = false := beq_eq_false_iff_ne.mpr c84
                                  have c84b1 : (t194 != 12) = true := bne_iff_ne.mpr c84
                                  rw [hr] at H
                                  exact absurd H (by simp)
                              · rw [if_neg c83] at H
                                have c83b0 : (t201 == 1) = false := beq_eq_false_iff_ne.mpr c83
                                have c83b1 : (t201 != 1) = true := bne_iff_ne.mpr c83
                                rw [hr] at H
                                exact absurd H (by simp)
                          · rw [if_neg c67] at H
                            have c67b0 : decide (28 ≤ t195) = false := decide_eq_false c67
                            clear c67
                            rw [hr] at H
                            exact absurd H (by simp)
                        · rw [if_neg c66] at H
                          have c66b0 : (t202 == 1) = false := beq_eq_false_iff_ne.mpr c66
                          have c66b1 : (t202 != 1) = true := bne_iff_ne.mpr c66
                          rw [hr] at H
                          exact absurd H (by simp)
                    · rw [if_neg c39] at H
                      have c39b0 : (t202 == (wrap64 (t195 + 1))) = false := beq_eq_false_iff_ne.mpr c39
                      have c39b1 : (t202 != (wrap64 (t195 + 1))) = true := bne_iff_ne.mpr c39
                      by_cases c91 : t202 = 1
                      · rw [if_pos c91] at H
                        have c91b0 : (t202 == 1) = true := beq_iff_eq.mpr c91
                        have c91b1 : (t202 != 1) = false := bne_eq_false_iff_eq.mpr c91
                        clear c91
                        by_cases c92 : t195 ≥ 28
                        · rw [if_pos c92] at H
                          have c92b0 : decide (28 ≤ t195) = true := decide_eq_true c92
                          clear c92
                          by_cases c93 : t201 = (wrap64 (t194 + 1))
                          · rw [if_pos c93] at H
                            have c93b0 : (t201 == (wrap64 (t194 + 1))) = true := beq_iff_eq.mpr c93
                            have c93b1 : (t201 != (wrap64 (t194 + 1))) = false := bne_eq_false_iff_eq.mpr c93
                            clear c93
                            by_cases c94 : t200 = t193
                            · rw [if_pos c94] at H
                              have c94b0 : (t200 == t193) = true := beq_iff_eq.mpr c94
                              have c94b1 : (t200 != t193) = false := bne_eq_false_iff_eq.mpr c94
                              clear c94
                              by_cases c95 : t203 = 0
                              · rw [if_pos c95] at H
                                have c95b0 : (t203 == 0) = true := beq_iff_eq.mpr c95
                                have c95b1 : (t203 != 0) = false := bne_eq_false_iff_eq.mpr c95
                                clear c95
                                by_cases c96 : t204 = 0
                                · rw [if_pos c96] at H
                                  have c96b0 : (t204 == 0) = true := beq_iff_eq.mpr c96
                                  have c96b1 : (t204 != 0) = false := bne_eq_false_iff_eq.mpr c96
                                  clear c96
                                  by_cases c97 : t205 = 0
                                  · rw [if_pos c97] at H
                                    have c97b0 : (t205 == 0) = true := beq_iff_eq.mpr c97
                                    have c97b1 : (t205 != 0) = false := bne_eq_false_iff_eq.mpr c97
                                    clear c97
                                    replace H := Option.bind_eq_some_iff.mp H
                                    obtain ⟨t216, A980, H⟩ := H
                                    replace H : (some t216) = some r := H
                                    have A98 := Aside0.mk A980
                                    clear A980
                                    clear hr
                                    obtain rfl := Option.some.inj H
                                    go_wp2_with (first | (go_at_call 8; (with_reducible refine (stowagelaw4_awake.calls kj8  t216 _ A98.out).mono ?_); rintro e w99 ⟨rfl, hb⟩; have n0_ := Aside0.mk (below_step (by repeat (first | (with_reducible first | exact HB.out | apply below_alloc | apply pw_below_drewN | apply below_drew1) | exact HB.out)) hb); clear HB; have HB := n0_; clear n0_; (try clear hb); (try clear hb2); (try clear hk); (try clear hi)))
                                    go_ret
                                    exact ⟨by first | rfl | (simp [errW_none, errW_some] <;> rfl) | (simp [*, errW_none, errW_some] <;> rfl), by repeat (first | (with_reducible first | exact HB.out | apply below_alloc | apply pw_below_drewN | apply below_drew1) | exact HB.out)⟩
                                  · rw [if_neg c97] at H
                                    have c97b0 : (t205 == 0) = false := beq_eq_false_iff_ne.mpr c97
                                    have c97b1 : (t205 != 0) = true := bne_iff_ne.mpr c97
                                    rw [hr] at H
                                    exact absurd H (by simp)
                                · rw [if_neg c96] at H
                                  have c96b0 : (t204 == 0) = false := beq_eq_false_iff_ne.mpr c96
                                  have c96b1 : (t204 != 0) = true := bne_iff_ne.mpr c96
                                  rw [hr] at H
                                  exact absurd H (by simp)
                              · rw [if_neg c95] at H
                                have c95b0 : (t203 == 0) = false := beq_eq_false_iff_ne.mpr c95
                                have c95b1 : (t203 != 0) = true := bne_iff_ne.mpr c95
                                rw [hr] at H
                                exact absurd H (by simp)
                            · rw [if_neg c94] at H
                              have c94b0 : (t200 == t193) = false := beq_eq_false_iff_ne.mpr c94
                              have c94b1 : (t200 != t193) = true := bne_iff_ne.mpr c94
                              by_cases c100 : t201 = 1
                              · rw [if_pos c100] at H
                                have c100b0 : (t201 == 1) = true := beq_iff_eq.mpr c100
                                have c100b1 : (t201 != 1) = false := bne_eq_false_iff_eq.mpr c100
                                clear c100
                                by_cases c101 : t194 = 12
                                · rw [if_pos c101] at H
                                  have c101b0 : (t194 == 12) = true := beq_iff_eq.mpr c101
                                  have c101b1 : (t194 != 12) = false := bne_eq_false_iff_eq.mpr c101
                                  clear c101
                                  by_cases c102 : t200 = (wrap64 (t193 + 1))
                                  · rw [if_pos c102] at H
                                    have c102b0 : (t200 == (wrap64 (t193 + 1))) = true := beq_iff_eq.mpr c102
                                    have c102b1 : (t200 != (wrap64 (t193 + 1))) = false := bne_eq_false_iff_eq.mpr c102
                                    clear c102
                                    by_cases c103 : t203 = 0
                                    · rw [if_pos c103] at H
                                      have c103b0 : (t203 == 0) = true := beq_iff_eq.mpr c103
                                      have c103b1 : (t203 != 0) = false := bne_eq_false_iff_eq.mpr c103
                                      clear c103
                                      by_cases c104 : t204 = 0
                                      · rw [if_pos c104] at H
                                        have c104b0 : (t204 == 0) = true := beq_iff_eq.mpr c104
                                        have c104b1 : (t204 != 0) = false := bne_eq_false_iff_eq.mpr c104
                                        clear c104
                                        by_cases c105 : t205 = 0
                                        · rw [if_pos c105] at H
                                          have c105b0 : (t205 == 0) = true := beq_iff_eq.mpr c105
                                          have c105b1 : (t205 != 0) = false := bne_eq_false_iff_eq.mpr c105
                                          clear c105
                                          replace H := Option.bind_eq_some_iff.mp H
                                          obtain ⟨t217, A1060, H⟩ := H
                                          replace H : (some t217) = some r := H
                                          have A106 := Aside0.mk A1060
                                          clear A1060
                                          clear hr
                                          obtain rfl := Option.some.inj H
                                          go_wp2_with (first | (go_at_call 8; (with_reducible refine (stowagelaw4_awake.calls kj8  t217 _ A106.out).mono ?_); rintro e w107 ⟨rfl, hb⟩; have n0_ := Aside0.mk (below_step (by repeat (first | (with_reducible first | exact HB.out | apply below_alloc | apply pw_below_drewN | apply below_drew1) | exact HB.out)) hb); clear HB; have HB := n0_; clear n0_; (try clear hb); (try clear hb2); (try clear hk); (try clear hi)))
                                          go_ret
                                          exact ⟨by first | rfl | (simp [errW_none, errW_some] <;> rfl) | (simp [*, errW_none, errW_some] <;> rfl), by repeat (first | (with_reducible first | exact HB.out | apply below_alloc | apply pw_below_drewN | apply below_drew1) | exact HB.out)⟩
                                        · rw [if_neg c105] at H
                                          have c105b0 : (t205 == 0) = false := beq_eq_false_iff_ne.mpr c105
                                          have c105b1 : (t205 != 0) = true := bne_iff_ne.mpr c105
                                          rw [hr] at H
                                          exact absurd H (by simp)
                                      · rw [if_neg c104] at H
                                        have c104b0 : (t204 == 0) = false := beq_eq_false_iff_ne.mpr c104
                                        have c104b1 : (t204 != 0) = true := bne_iff_ne.mpr c104
                                        rw [hr] at H
                                        exact absurd H (by simp)
                                    · rw [if_neg c103] at H
                                      have c103b0 : (t203 == 0) = false := beq_eq_false_iff_ne.mpr c103
                                      have c103b1 : (t203 != 0) = true := bne_iff_ne.mpr c103
                                      rw [hr] at H
                                      exact absurd H (by simp)
                                  · rw [if_neg c102] at H
                                    have c102b0 : (t200 == (wrap64 (t193 + 1))) = false := beq_eq_false_iff_ne.mpr c102
                                    have c102b1 : (t200 != (wrap64 (t193 + 1))) = true := bne_iff_ne.mpr c102
                                    rw [hr] at H
                                    exact absurd H (by simp)
                                · rw [if_neg c101] at H
                                  have c101b0 : (t194 == 12) = false := beq_eq_false_iff_ne.mpr c101
                                  have c101b1 : (t194 != 12) = true := bne_iff_ne.mpr c101
                                  rw [hr] at H
                                  exact absurd H (by simp)
                              · rw [if_neg c100] at H
                                have c100b0 : (t201 == 1) = false := beq_eq_false_iff_ne.mpr c100
                                have c100b1 : (t201 != 1) = true := bne_iff_ne.mpr c100
                                rw [hr] at H
                                exact absurd H (by simp)
                          · rw [if_neg c93] at H
                            have c93b0 : (t201 == (wrap64 (t194 + 1))) = false := beq_eq_false_iff_ne.mpr c93
                            have c93b1 : (t201 != (wrap64 (t194 + 1))) = true := bne_iff_ne.mpr c93
                            by_cases c108 : t201 = 1
                            · rw [if_pos c108] at H
                              have c108b0 : (t201 == 1) = true := beq_iff_eq.mpr c108
                              have c108b1 : (t201 != 1) = false := bne_eq_false_iff_eq.mpr c108
                              clear c108
                              by_cases c109 : t194 = 12
                              · rw [if_pos c109] at H
                                have c109b0 : (t194 == 12) = true := beq_iff_eq.mpr c109
                                have c109b1 : (t194 != 12) = false := bne_eq_false_iff_eq.mpr c109
                                clear c109
                                by_cases c110 : t200 = (wrap64 (t193 + 1))
                                · rw [if_pos c110] at H
                                  have c110b0 : (t200 == (wrap64 (t193 + 1))) = true := beq_iff_eq.mpr c110
                                  have c110b1 : (t200 != (wrap64 (t193 + 1))) = false := bne_eq_false_iff_eq.mpr c110
                                  clear c110
                                  by_cases c111 : t203 = 0
                                  · rw [if_pos c111] at H
                                    have c111b0 : (t203 == 0) = true := beq_iff_eq.mpr c111
                                    have c111b1 : (t203 != 0) = false := bne_eq_false_iff_eq.mpr c111
                                    clear c111
                                    by_cases c112 : t204 = 0
                                    · rw [if_pos c112] at H
                                      have c112b0 : (t204 == 0) = true := beq_iff_eq.mpr c112
                                      have c112b1 : (t204 != 0) = false := bne_eq_false_iff_eq.mpr c112
                                      clear c112
                                      by_cases c113 : t205 = 0
                                      · rw [if_pos c113] at H
                                        have c113b0 : (t205 == 0) = true := beq_iff_eq.mpr c113
                                        have c113b1 : (t205 != 0) = false := bne_eq_false_iff_eq.mpr c113
                                        clear c113
                                        replace H := Option.bind_eq_some_iff.mp H
                                        obtain ⟨t218, A1140, H⟩ := H
                                        replace H : (some t218) = some r := H
                                        have A114 := Aside0.mk A1140
                                        clear A1140
                                        clear hr
                                        obtain rfl := Option.some.inj H
                                        go_wp2_with (first | (go_at_call 8; (with_reducible refine (stowagelaw4_awake.calls kj8  t218 _ A114.out).mono ?_); rintro e w115 ⟨rfl, hb⟩; have n0_ := Aside0.mk (below_step (by repeat (first | (with_reducible first | exact HB.out | apply below_alloc | apply pw_below_drewN | apply below_drew1) | exact HB.out)) hb); clear HB; have HB := n0_; clear n0_; (try clear hb); (try clear hb2); (try clear hk); (try clear hi)))
                                        go_ret
                                        exact ⟨by first | rfl | (simp [errW_none, errW_some] <;> rfl) | (simp [*, errW_none, errW_some] <;> rfl), by repeat (first | (with_reducible first | exact HB.out | apply below_alloc | apply pw_below_drewN | apply below_drew1) | exact HB.out)⟩
                                      · rw [if_neg c113] at H
                                        have c113b0 : (t205 == 0) = false := beq_eq_false_iff_ne.mpr c113
                                        have c113b1 : (t205 != 0) = true := bne_iff_ne.mpr c113
                                        rw [hr] at H
                                        exact absurd H (by simp)
                                    · rw [if_neg c112] at H
                                      have c112b0 : (t204 == 0) = false := beq_eq_false_iff_ne.mpr c112
                                      have c112b1 : (t204 != 0) = true := bne_iff_ne.mpr c112
                                      rw [hr] at H
                                      exact absurd H (by simp)
                                  · rw [if_neg c111] at H
                                    have c111b0 : (t203 == 0) = false := beq_eq_false_iff_ne.mpr c111
                                    have c111b1 : (t203 != 0) = true := bne_iff_ne.mpr c111
                                    rw [hr] at H
                                    exact absurd H (by simp)
                                · rw [if_neg c110] at H
                                  have c110b0 : (t200 == (wrap64 (t193 + 1))) = false := beq_eq_false_iff_ne.mpr c110
                                  have c110b1 : (t200 != (wrap64 (t193 + 1))) = true := bne_iff_ne.mpr c110
                                  rw [hr] at H
                                  exact absurd H (by simp)
                              · rw [if_neg c109] at H
                                have c109b0 : (t194 == 12) = false := beq_eq_false_iff_ne.mpr c109
                                have c109b1 : (t194 != 12) = true := bne_iff_ne.mpr c109
                                rw [hr] at H
                                exact absurd H (by simp)
                            · rw [if_neg c108] at H
                              have c108b0 : (t201 == 1) = false := beq_eq_false_iff_ne.mpr c108
                              have c108b1 : (t201 != 1) = true := bne_iff_ne.mpr c108
                              rw [hr] at H
                              exact absurd H (by simp)
                        · rw [if_neg c92] at H
                          have c92b0 : decide (28 ≤ t195) = false := decide_eq_false c92
                          clear c92
                          rw [hr] at H
                          exact absurd H (by simp)
                      · rw [if_neg c91] at H
                        have c91b0 : (t202 == 1) = false := beq_eq_false_iff_ne.mpr c91
                        have c91b1 : (t202 != 1) = true := bne_iff_ne.mpr c91
                        rw [hr] at H
                        exact absurd H (by simp)

/-- THE ONE PURE STATEMENT of stowagelaw4_WhenSteps: yours. -/
def stowagelaw4_WhenSteps.Pure : Prop := ∀ (a0 : Int), (Lit.int .i64 a0).wf = true → ∃ k, stowagelaw4_WhenSteps.f k a0 = some true
theorem stowagelaw4_WhenSteps.walk (P : stowagelaw4_WhenSteps.Pure) (a0 : Int) (w : World) (w0 : (Lit.int .i64 a0).wf = true) :
    Calls Try.prog 3 #[.int .i64 a0] w fun e w' => e = .returned (.bool true) ∧ Below w.heap.size w w' := by
  obtain ⟨k, h⟩ := P a0 w0
  refine (stowagelaw4_WhenSteps.calls k a0 true w h rfl).mono ?_
  rintro e w' ⟨rfl, hd⟩
  exact ⟨rfl, hd⟩

end Go.Proofs.Yteggifhicmbopaa.Q

/- Plain arithmetic of dates: days before a year, days before a month, a date's number of days and that it has just one date. No condition beyond what each lemma says. -/
namespace Go.Proofs.Yteggifhicmbopaa.Cal

def leap (y : Int) : Bool := decide (y % 4 = 0 ∧ (¬ y % 100 = 0 ∨ y % 400 = 0))
def L (y : Int) : Int := if leap y = true then 1 else 0
def size (y m : Int) : Int := if m = 4 ∨ m = 6 ∨ m = 9 ∨ m = 11 then 30 else if m = 2 then 28 + L y else 31
def dby (y : Int) : Int := (y - 1) * 365 + (y - 1) / 4 - (y - 1) / 100 + (y - 1) / 400 - 719162
def cum (y m : Int) : Int :=
  if m ≤ 1 then 0 else if m = 2 then 31 else if m = 3 then 59 + L y else if m = 4 then 90 + L y else if m = 5 then 120 + L y
  else if m = 6 then 151 + L y else if m = 7 then 181 + L y else if m = 8 then 212 + L y else if m = 9 then 243 + L y
  else if m = 10 then 273 + L y else if m = 11 then 304 + L y else if m = 12 then 334 + L y else 365 + L y

theorem L_two (y : Int) : L y = 0 ∨ L y = 1 := by unfold L; split <;> simp
theorem L_leap {y : Int} (h : leap y = true) : L y = 1 := by unfold L; rw [if_pos h]
theorem L_not {y : Int} (h : leap y = false) : L y = 0 := by unfold L; rw [h]; rfl
theorem leap_iff (y : Int) : leap y = true ↔ y % 4 = 0 ∧ (¬ y % 100 = 0 ∨ y % 400 = 0) := by unfold leap; simp
theorem dby_succ (y : Int) : dby (y + 1) = dby y + 365 + L y := by
  cases h : leap y with
  | true => rw [L_leap h]; rw [leap_iff] at h; unfold dby; omega
  | false =>
    rw [L_not h]
    have h' : ¬ (y % 4 = 0 ∧ (¬ y % 100 = 0 ∨ y % 400 = 0)) := by rw [← leap_iff, h]; simp
    unfold dby; omega
theorem size_bd (y m : Int) : 28 ≤ size y m ∧ size y m ≤ 31 := by
  have := L_two y
  unfold size; split
  · omega
  · split <;> omega
theorem cum_succ (y m : Int) (h1 : 1 ≤ m) (h2 : m ≤ 12) : cum y (m + 1) = cum y m + size y m := by
  have hm : m = 1 ∨ m = 2 ∨ m = 3 ∨ m = 4 ∨ m = 5 ∨ m = 6 ∨ m = 7 ∨ m = 8 ∨ m = 9 ∨ m = 10 ∨ m = 11 ∨ m = 12 := by omega
  rcases hm with rfl | rfl | rfl | rfl | rfl | rfl | rfl | rfl | rfl | rfl | rfl | rfl <;> simp [cum, size] <;> omega
theorem cum_one (y : Int) : cum y 1 = 0 := by simp [cum]
theorem cum_end (y : Int) : cum y 13 = 365 + L y := by simp [cum]
theorem cum_mono (y m : Int) (h1 : 1 ≤ m) (d : Nat) : m + d ≤ 13 → cum y m ≤ cum y (m + d) := by
  induction d with
  | zero => intro _; simp
  | succ d ih =>
    intro h
    have hs := cum_succ y (m + d) (by omega) (by omega)
    have hz := size_bd y (m + d)
    have := ih (by omega)
    have e : m + ((d + 1 : Nat) : Int) = m + d + 1 := by omega
    rw [e]; omega
theorem cum_le (y m m' : Int) (h1 : 1 ≤ m) (h : m ≤ m') (h2 : m' ≤ 13) : cum y m ≤ cum y m' := by
  have := cum_mono y m h1 (m' - m).toNat (by omega)
  rwa [show m + ((m' - m).toNat : Int) = m' by omega] at this
theorem cum_bd (y m : Int) (h1 : 1 ≤ m) (h2 : m ≤ 13) : 0 ≤ cum y m ∧ cum y m ≤ 366 := by
  have a := cum_le y 1 m (by omega) h1 h2
  have b := cum_le y m 13 h1 h2 (by omega)
  have := L_two y
  rw [cum_one] at a
  rw [cum_end] at b
  omega
theorem dby_mono (y : Int) (d : Nat) : dby y + 365 * d ≤ dby (y + d) := by
  induction d with
  | zero => simp
  | succ d ih =>
    have hs := dby_succ (y + d)
    have := L_two (y + d)
    have e : y + ((d + 1 : Nat) : Int) = y + d + 1 := by omega
    rw [e]; omega
theorem dby_le (y y' : Int) (h : y ≤ y') : dby y ≤ dby y' := by
  have := dby_mono y (y' - y).toNat
  rw [show y + ((y' - y).toNat : Int) = y' by omega] at this
  omega

/-- A date whose number of days since 1970 is n. -/
structure Valid (y m d n : Int) : Prop where
  y0 : 1970 ≤ y
  y1 : y ≤ 9999
  m0 : 1 ≤ m
  m1 : m ≤ 12
  d0 : 1 ≤ d
  d1 : d ≤ size y m
  num : dby y + cum y m + d - 1 = n

theorem Valid.in_year {y m d n : Int} (h : Valid y m d n) : dby y ≤ n ∧ n < dby (y + 1) := by
  have hc := cum_bd y m h.m0 (by have := h.m1; omega)
  have hs := cum_succ y m h.m0 h.m1
  have hl := cum_le y (m + 1) 13 (by have := h.m0; omega) (by have := h.m1; omega) (by omega)
  rw [cum_end] at hl
  have hd := dby_succ y
  have := h.num; have := h.d0; have := h.d1
  omega
theorem Valid.year_eq {y m d n y' m' d' : Int} (h : Valid y m d n) (h' : Valid y' m' d' n) : y = y' := by
  have a := h.in_year
  have b := h'.in_year
  by_cases c : y < y'
  · have := dby_le (y + 1) y' (by omega); omega
  · by_cases c' : y' < y
    · have := dby_le (y' + 1) y (by omega); omega
    · omega
theorem Valid.unique {y m d n y' m' d' : Int} (h : Valid y m d n) (h' : Valid y' m' d' n) : y = y' ∧ m = m' ∧ d = d' := by
  obtain rfl := h.year_eq h'
  have hm : m = m' := by
    by_cases c : m < m'
    · have := cum_le y (m + 1) m' (by have := h.m0; omega) (by omega) (by have := h'.m1; omega)
      have := cum_succ y m h.m0 h.m1
      have := h.num; have := h'.num; have := h.d1; have := h'.d0
      omega
    · by_cases c' : m' < m
      · have := cum_le y (m' + 1) m (by have := h'.m0; omega) (by omega) (by have := h.m1; omega)
        have := cum_succ y m' h'.m0 h'.m1
        have := h.num; have := h'.num; have := h'.d1; have := h.d0
        omega
      · omega
  subst hm
  have := h.num; have := h'.num
  exact ⟨rfl, rfl, by omega⟩
/-- The next day. -/
theorem Valid.next {y m d n : Int} (h : Valid y m d n) (hn : n + 1 < dby 10000) :
    (Valid y m (d + 1) (n + 1)) ∨ (d = size y m ∧ Valid y (m + 1) 1 (n + 1)) ∨ (d = size y m ∧ m = 12 ∧ Valid (y + 1) 1 1 (n + 1)) := by
  by_cases c : d < size y m
  · exact .inl ⟨h.y0, h.y1, h.m0, h.m1, by have := h.d0; omega, by omega, by have := h.num; omega⟩
  · have hd : d = size y m := by have := h.d1; omega
    by_cases c2 : m < 12
    · refine .inr (.inl ⟨hd, h.y0, h.y1, by have := h.m0; omega, by omega, by omega, by have := size_bd y (m + 1); omega, ?_⟩)
      have := cum_succ y m h.m0 h.m1; have := h.num; omega
    · have hm : m = 12 := by have := h.m1; omega
      subst hm
      have e := cum_succ y 12 (by omega) (by omega)
      have hs := dby_succ y
      rw [show (12 : Int) + 1 = 13 from rfl, cum_end] at e
      have hy : y + 1 ≤ 9999 := by
        by_cases c3 : y + 1 ≤ 9999
        · exact c3
        · have := h.y1
          have : y = 9999 := by omega
          subst this
          have := h.num
          rw [show (9999 : Int) + 1 = 10000 from rfl] at hs
          omega
      refine .inr (.inr ⟨hd, rfl, by have := h.y0; omega, hy, by omega, by omega, by omega, by have := size_bd (y + 1) 1; omega, ?_⟩)
      rw [cum_one]
      have := h.num; omega
theorem dby_1970 : dby 1970 = 0 := by decide
theorem dby_10000 : dby 10000 = 2932897 := by decide
theorem Valid.bd {y m d n : Int} (h : Valid y m d n) : 0 ≤ n ∧ n ≤ 2932896 := by
  have a := h.in_year
  have := dby_le 1970 y h.y0
  have := dby_le (y + 1) 10000 (by have := h.y1; omega)
  rw [dby_1970] at *
  rw [dby_10000] at *
  omega
end Go.Proofs.Yteggifhicmbopaa.Cal

/- What the program's functions on dates compute: Civil's date of a second, the other functions' values, for enough rounds. Conditions: the numbers named lie in the calendar's range. -/
namespace Go.Proofs.Yteggifhicmbopaa.Pure
open Go.RowKit Go.Proofs.Yteggifhicmbopaa.Q Go.Proofs.YteggifhicmbopaaW.PrintWords Go.Proofs.YteggifhicmbopaaW.PrintLast Cal
set_option linter.unusedVariables false
set_option linter.unusedSimpArgs false

theorem ev_pos {α : Type} {c : Prop} [Decidable c] {f g : Nat → Option α} {r : α} (hc : c) (h : Ev f r) : Ev (fun k => if c then f k else g k) r :=
  Ev.congr (fun _ => if_pos hc) h
theorem ev_neg {α : Type} {c : Prop} [Decidable c] {f g : Nat → Option α} {r : α} (hc : ¬ c) (h : Ev g r) : Ev (fun k => if c then f k else g k) r :=
  Ev.congr (fun _ => if_neg hc) h
theorem ev_eq {α : Type} {g : Nat → Option α} {r r' : α} (h : Ev g r) (e : r = r') : Ev g r' := e ▸ h
theorem w64 {n : Int} (h : -9000000000000000000 ≤ n) (h' : n ≤ 9000000000000000000) : wrap64 n = n := by unfold wrap64; omega
theorem tdiv_pos {a b : Int} (h : 0 ≤ a) : Int.tdiv a b = a / b := Int.tdiv_eq_ediv_of_nonneg h
theorem tmod_pos {a b : Int} (h : 0 ≤ a) : Int.tmod a b = a % b := Int.tmod_eq_emod_of_nonneg h

theorem is_eq (t : Int) : when_is.f t = some (decide (0 ≤ t ∧ t ≤ 253402300799)) := by
  unfold when_is.f
  by_cases h : t ≥ 0
  · rw [if_pos h]; simp [h]
  · rw [if_neg h]; simp; intro h2; omega
theorem size_ev (y m : Int) (hy : 0 ≤ y) : Ev (fun k => when_size.f k y m) (size y m) := by
  have hj : ∀ b : Bool, Ev (fun k => when_size.j0 k y m b) (if b = true then 30 else if m = 11 then 30 else if m = 2 then 28 + L y else 31) := by
    intro b
    refine Ev.step (f := fun _ => some _) (fun k => ?_) (Ev.now _)
    simp only [when_size.j0]
    cases b with
    | true => rfl
    | false =>
      simp only [Bool.false_eq_true, if_false]
      split
      · rfl
      · split
        · rw [tmod_pos hy, tmod_pos hy, tmod_pos hy]
          cases hl : leap y with
          | true =>
            rw [L_leap hl]
            rw [leap_iff] at hl
            rw [if_pos hl.1]
            split
            · rw [if_pos (by omega)]; rfl
            · rfl
          | false =>
            rw [L_not hl]
            have hl' : ¬ (y % 4 = 0 ∧ (¬ y % 100 = 0 ∨ y % 400 = 0)) := by rw [← leap_iff, hl]; simp
            split
            · rw [if_pos (by omega), if_neg (by omega)]; rfl
            · rfl
        · rfl
  simp only [when_size.f]
  by_cases h4 : m = 4
  · refine ev_pos h4 (ev_eq (hj _) ?_)
    subst h4; simp [size]
  · refine ev_neg h4 ?_
    by_cases h6 : m = 6
    · refine ev_pos h6 (ev_eq (hj _) ?_)
      subst h6; simp [size]
    · refine ev_neg h6 (ev_eq (hj _) ?_)
      by_cases h9 : m = 9
      · subst h9; simp [size]
      · simp only [size, beq_iff_eq, h9, h4, h6, if_false, false_or]
theorem before_eq (y : Int) (h0 : 1 ≤ y) (h1 : y ≤ 10001) : when_before.f y = some (dby y) := by
  unfold when_before.f dby
  have e : wrap64 (y - 1) = y - 1 := w64 (by omega) (by omega)
  rw [e, tdiv_pos (by omega), tdiv_pos (by omega), tdiv_pos (by omega)]
  rw [w64 (n := (y - 1) * 365) (by omega) (by omega), w64 (n := (y - 1) / 4) (by omega) (by omega), w64 (n := (y - 1) / 100) (by omega) (by omega), w64 (n := (y - 1) / 400) (by omega) (by omega)]
  rw [w64 (n := (y - 1) * 365 + (y - 1) / 4) (by omega) (by omega), w64 (n := (y - 1) * 365 + (y - 1) / 4 - (y - 1) / 100) (by omega) (by omega), w64 (n := (y - 1) * 365 + (y - 1) / 4 - (y - 1) / 100 + (y - 1) / 400) (by omega) (by omega), w64 (by omega) (by omega)]
theorem hour_eq (t : Int) (h0 : 0 ≤ t) (h1 : t ≤ 253402300799) : Int.tmod (wrap64 (Int.tdiv t 3600)) 24 = t / 3600 % 24 := by
  rw [tdiv_pos h0, w64 (by omega) (by omega), tmod_pos (by omega)]
theorem min_eq (t : Int) (h0 : 0 ≤ t) (h1 : t ≤ 253402300799) : Int.tmod (wrap64 (Int.tdiv t 60)) 60 = t / 60 % 60 := by
  rw [tdiv_pos h0, w64 (by omega) (by omega), tmod_pos (by omega)]
theorem civil_l1 (x y : Int) (hy0 : 1970 ≤ y) (hy1 : y ≤ 9999) (j : Nat) : ∀ (m n : Int), 1 ≤ m → m + j = 12 → 0 ≤ n → cum y m + n < 365 + L y →
    ∃ m' d', Valid y m' d' (dby y + cum y m + n) ∧ Ev (fun k => when_Civil.l1 k x y m n) (y, m', d', Int.tmod (wrap64 (Int.tdiv x 3600)) 24, Int.tmod (wrap64 (Int.tdiv x 60)) 60, Int.tmod x 60, true) := by
  induction j with
  | zero =>
    intro m n h1 hj hn hb
    have hm : m = 12 := by omega
    have hs := size_bd y m
    have hc := cum_succ y m h1 (by omega)
    subst hm
    rw [show (12 : Int) + 1 = 13 from rfl, cum_end] at hc
    refine ⟨12, n + 1, ⟨hy0, hy1, by omega, by omega, by omega, by omega, by omega⟩, ?_⟩
    refine Ev.step (f := fun k => _) (fun k => by rw [when_Civil.l1]) ?_
    refine Ev.bind (size_ev y 12 (by omega)) ?_
    refine ev_neg (by omega) (ev_eq (Ev.now _) ?_)
    rw [w64 (by omega) (by omega)]
  | succ j ih =>
    intro m n h1 hj hn hb
    have hs := size_bd y m
    have hc := cum_succ y m h1 (by omega)
    by_cases c : n ≥ size y m
    · obtain ⟨m', d', hv, he⟩ := ih (m + 1) (n - size y m) (by omega) (by omega) (by omega) (by omega)
      refine ⟨m', d', by rw [show dby y + cum y m + n = dby y + cum y (m + 1) + (n - size y m) by omega]; exact hv, ?_⟩
      refine Ev.step (f := fun k => _) (fun k => by rw [when_Civil.l1]) ?_
      refine Ev.bind (size_ev y m (by omega)) ?_
      refine ev_pos c ?_
      refine Ev.bind (size_ev y m (by omega)) ?_
      have hL := L_two y
      have hcb := cum_bd y m h1 (by omega)
      rw [w64 (n := m + 1) (by omega) (by omega), w64 (n := n - size y m) (by omega) (by omega)]
      exact he
    · refine ⟨m, n + 1, ⟨hy0, hy1, by omega, by omega, by omega, by omega, by omega⟩, ?_⟩
      refine Ev.step (f := fun k => _) (fun k => by rw [when_Civil.l1]) ?_
      refine Ev.bind (size_ev y m (by omega)) ?_
      refine ev_neg (by omega) (ev_eq (Ev.now _) ?_)
      rw [w64 (by omega) (by omega)]
theorem civil_l0 (x n : Int) (hn : n < dby 10000) (j : Nat) : ∀ y : Int, 1970 ≤ y → y + j = 9999 → dby y ≤ n →
    ∃ y' m' d', Valid y' m' d' n ∧ Ev (fun k => when_Civil.l0 k x y n) (y', m', d', Int.tmod (wrap64 (Int.tdiv x 3600)) 24, Int.tmod (wrap64 (Int.tdiv x 60)) 60, Int.tmod x 60, true) := by
  have fin : ∀ y : Int, 1970 ≤ y → y ≤ 9999 → dby y ≤ n → n < dby (y + 1) → ∃ y' m' d', Valid y' m' d' n ∧ Ev (fun k => when_Civil.l0 k x y n) (y', m', d', Int.tmod (wrap64 (Int.tdiv x 3600)) 24, Int.tmod (wrap64 (Int.tdiv x 60)) 60, Int.tmod x 60, true) := by
    intro y h0 h1 h2 h3
    have hd := dby_succ y
    obtain ⟨m', d', hv, he⟩ := civil_l1 x y h0 h1 11 1 (n - dby y) (by omega) (by omega) (by omega) (by rw [cum_one]; omega)
    rw [cum_one, show dby y + 0 + (n - dby y) = n by omega] at hv
    refine ⟨y, m', d', hv, ?_⟩
    refine Ev.step (f := fun k => _) (fun k => by rw [when_Civil.l0]) ?_
    rw [w64 (n := y + 1) (by omega) (by omega), before_eq (y + 1) (by omega) (by omega)]
    refine ev_neg (by omega) ?_
    rw [before_eq y (by omega) (by omega)]
    show Ev (fun k => when_Civil.l1 k x y 1 (wrap64 (n - dby y))) _
    have := L_two y
    rw [w64 (n := n - dby y) (by omega) (by omega)]
    exact he
  induction j with
  | zero =>
    intro y h0 hj h2
    obtain rfl : y = 9999 := by omega
    exact fin 9999 (by omega) (by omega) h2 hn
  | succ j ih =>
    intro y h0 hj h2
    by_cases c : dby (y + 1) ≤ n
    · obtain ⟨y', m', d', hv, he⟩ := ih (y + 1) (by omega) (by omega) c
      refine ⟨y', m', d', hv, ?_⟩
      refine Ev.step (f := fun k => _) (fun k => by rw [when_Civil.l0]) ?_
      rw [w64 (n := y + 1) (by omega) (by omega), before_eq (y + 1) (by omega) (by omega)]
      exact ev_pos c he
    · exact fin y h0 (by omega) h2 (by omega)
theorem dby_guess (q : Nat) : dby (1970 + q) ≤ 366 * q := by
  induction q with
  | zero => decide
  | succ q ih =>
    have hs := dby_succ (1970 + q)
    have := L_two (1970 + q)
    rw [show (1970 : Int) + ((q + 1 : Nat) : Int) = 1970 + q + 1 by omega]; omega
theorem civil_ev (t : Int) (h0 : 0 ≤ t) (h1 : t ≤ 253402300799) : ∃ y m d, Valid y m d (t / 86400) ∧ Ev (fun k => when_Civil.f k t) (y, m, d, t / 3600 % 24, t / 60 % 60, t % 60, true) := by
  have hg := dby_guess (t / 86400 / 366).toNat
  rw [show (((t / 86400 / 366).toNat : Nat) : Int) = t / 86400 / 366 by omega] at hg
  obtain ⟨y, m, d, hv, he⟩ := civil_l0 t (t / 86400) (by rw [dby_10000]; omega) (8029 - t / 86400 / 366).toNat (1970 + t / 86400 / 366) (by omega) (by omega) (by omega)
  refine ⟨y, m, d, hv, ?_⟩
  rw [hour_eq t h0 h1, min_eq t h0 h1, tmod_pos h0] at he
  refine Ev.congr (fun k => by rw [when_Civil.f, is_eq t, Option.bind_some, if_pos (by simp; omega)]) ?_
  rw [tdiv_pos h0, w64 (n := t / 86400) (by omega) (by omega), tdiv_pos (by omega), w64 (n := t / 86400 / 366) (by omega) (by omega), w64 (by omega) (by omega)]
  exact he
theorem civil_out (t : Int) (h : ¬ (0 ≤ t ∧ t ≤ 253402300799)) : Ev (fun k => when_Civil.f k t) (0, 0, 0, 0, 0, 0, false) := by
  refine Ev.congr (f := fun _ => _) (fun k => by rw [when_Civil.f, is_eq t, Option.bind_some, if_neg (by simpa using h)]) (Ev.now _)
theorem awake_ev : Ev (fun k => stowagelaw4_awake.f k) true := Ev.of (fun k => stowagelaw4_awake.mono k) (k := 40) (by kernel_rfl)
theorem awb : Ev (fun k => (stowagelaw4_awake.f k).bind fun t => some t) true := Ev.bind awake_ev (Ev.now _)
theorem wf_bd {a : Int} (h : (Lit.int .i64 a).wf = true) : -9223372036854775808 ≤ a ∧ a ≤ 9223372036854775807 := by
  simp [Lit.wf] at h
  have e1 : IntKind.i64.min = -9223372036854775808 := by kernel_rfl
  have e2 : IntKind.i64.max = 9223372036854775807 := by kernel_rfl
  omega
end Go.Proofs.Yteggifhicmbopaa.Pure

/- A second later is the next second: dates run on without a gap. For every int. -/
namespace Go.Proofs.Yteggifhicmbopaa.Pure
open Go.RowKit Go.Proofs.Yteggifhicmbopaa.Q Go.Proofs.YteggifhicmbopaaW.PrintWords Go.Proofs.YteggifhicmbopaaW.PrintLast Cal
set_option linter.unusedVariables false
set_option linter.unusedSimpArgs false

theorem WhenSteps : stowagelaw4_WhenSteps.Pure := by
  intro t wt
  apply Ev.rounds
  simp only [stowagelaw4_WhenSteps.f]
  have out : ∀ x, Ev (fun k => stowagelaw4_WhenSteps.j0 k x true) true := fun x =>
    Ev.step (f := fun k => (stowagelaw4_awake.f k).bind fun t => some t) (fun k => by simp only [stowagelaw4_WhenSteps.j0, if_true]) awb
  by_cases h0 : t < 0
  · exact ev_pos h0 (out t)
  refine ev_neg h0 ?_
  by_cases h1 : t ≥ 253402300799
  · rw [decide_eq_true h1]; exact out t
  rw [decide_eq_false h1]
  obtain ⟨y, m, d, hv, he⟩ := civil_ev t (by omega) (by omega)
  obtain ⟨y', m', d', hv', he'⟩ := civil_ev (t + 1) (by omega) (by omega)
  refine Ev.step (f := fun k => _) (fun k => by rw [stowagelaw4_WhenSteps.j0, if_neg (by simp)]) ?_
  refine Ev.bind he ?_
  rw [w64 (n := t + 1) (by omega) (by omega)]
  refine Ev.bind he' ?_
  dsimp only
  refine ev_pos rfl ?_
  refine Ev.step (f := fun k => (stowagelaw4_awake.f k).bind fun t => some t) (fun k => ?_) awb
  have hs := size_bd y m
  have := hv.y0; have := hv.y1; have := hv.m0; have := hv.m1; have := hv.d0; have := hv.d1
  simp only [stowagelaw4_WhenSteps.j1, Bool.not_true, Bool.false_eq_true, if_false]
  by_cases c1 : t % 60 < 59
  · have ed : (t + 1) / 86400 = t / 86400 := by omega
    rw [ed] at hv'
    obtain ⟨rfl, rfl, rfl⟩ := hv.unique hv'
    rw [if_pos c1, if_pos rfl, if_pos rfl, if_pos rfl, if_pos (by omega), if_pos (by omega), w64 (by omega) (by omega), if_pos (by omega)]
  rw [if_neg c1]
  by_cases c2 : t / 60 % 60 < 59
  · have ed : (t + 1) / 86400 = t / 86400 := by omega
    rw [ed] at hv'
    obtain ⟨rfl, rfl, rfl⟩ := hv.unique hv'
    rw [if_pos c2, if_pos rfl, if_pos rfl, if_pos rfl, if_pos (by omega), w64 (by omega) (by omega), if_pos (by omega), if_pos (by omega)]
  rw [if_neg c2]
  by_cases c3 : t / 3600 % 24 < 23
  · have ed : (t + 1) / 86400 = t / 86400 := by omega
    rw [ed] at hv'
    obtain ⟨rfl, rfl, rfl⟩ := hv.unique hv'
    rw [if_pos c3, if_pos rfl, if_pos rfl, if_pos rfl, w64 (by omega) (by omega), if_pos (by omega), if_pos (by omega), if_pos (by omega)]
  rw [if_neg c3]
  have ed : (t + 1) / 86400 = t / 86400 + 1 := by omega
  rw [ed] at hv'
  have z1 : (t + 1) / 3600 % 24 = 0 := by omega
  have z2 : (t + 1) / 60 % 60 = 0 := by omega
  have z3 : (t + 1) % 60 = 0 := by omega
  rw [w64 (n := d + 1) (by omega) (by omega), w64 (n := m + 1) (by omega) (by omega), w64 (n := y + 1) (by omega) (by omega), z1, z2, z3]
  simp only [if_true]
  rcases hv.next (by rw [dby_10000]; omega) with h | ⟨hd, h⟩ | ⟨hd, hm, h⟩
  · obtain ⟨rfl, rfl, rfl⟩ := h.unique hv'
    rw [if_pos rfl, if_pos rfl, if_pos rfl]
  · obtain ⟨rfl, rfl, rfl⟩ := h.unique hv'
    rw [if_neg (by omega), if_pos rfl, if_pos (by omega), if_pos rfl, if_pos rfl]
  · obtain ⟨rfl, rfl, rfl⟩ := h.unique hv'
    rw [if_neg (by omega), if_pos rfl, if_pos (by omega), if_neg (by omega), if_pos rfl, if_pos hm, if_pos rfl]
end Go.Proofs.Yteggifhicmbopaa.Pure

/- What some Go functions compute, told as plain Lean functions, each with the proof that the call comes to just that, for all arguments. Conditions: those in the theorems. Written by a program of this session. -/
namespace Go.Proofs.Yteggifhicmbopaa.whenSteps
open Go.ChangeShapes Go.WideShapes Go.ChangeAt Go.RowKit
open Go.ChangeMaps (open_string shut_string)
theorem own : ownKnob Try.prog.godebug = none := by kernel_rfl
set_option maxRecDepth 100000 in
theorem lifted (os : Os) (started : os.Started) (H : Type) (enc : TypeId × Value → H) :
    ReturnsInHanded {} Try.checked os 3 .any (Rows.whenStepsSpec.pre6 enc Try.prog Try.f3 Rows.whenStepsRow.domain false) (Rows.whenStepsSpec.post enc Try.prog Try.f3 false true false false) := by
  refine returnsInHanded_of_change_sized (C := Try.checked) own started (by kernel_rfl) Try.func3
    (ChangeSpec.witness6 (enc := enc) (C := Try.checked) false ⟨#[], #[.int .i64 0], []⟩ 8 (by kernel_rfl) (by kernel_rfl) (by kernel_rfl) (by kernel_rfl)) ?_
  intro W base args ds gs before hval0 hW hcnd hsz0 _
  have hsz : (DataW.weightsEach Try.prog (Try.f3.params.toList ++ Rows.whenStepsSpec.plain.varTypes Try.prog) (ds ++ gs)).all (· ≤ reachBytes) = true := hsz0
  have hval : ∀ (j : Nat) t v, Try.f3.params[j]? = some t → args[j]? = some v → Value.okWide Try.prog W .any base t v := hval0
  have hW' := hW
  obtain ⟨p, q, hA0, hV, rfl, hfz, hnd⟩ := hW
  have hA : DataW.TrodAll enc Try.prog W 0 (fun _ => true) true Try.f3.params.toList args.toList ds p := hA0
  rw [Try.params3] at hA hval hsz
  obtain ⟨v0, vs0, d0, ds0, p0, q0, hargs, rfl, rfl, h0, r0⟩ := trodAll_cons hA
  obtain ⟨rfl, rfl, rfl⟩ := trodAll_nil r0
  obtain rfl : args = #[v0] := by cases args; simp_all
  obtain ⟨rfl, rfl⟩ := trodVars_none hV
  obtain ⟨a0, rfl, rfl, rfl, w0⟩ := open_int Try.underlying3 (hval 0 3 v0 rfl rfl) h0
  clear hA0 hval0 hsz0 hsz
  refine (Q.stowagelaw4_WhenSteps.walk Pure.WhenSteps a0 W w0).mono fun e W' ⟨he, bel⟩ => ?_
  subst he
  exact ⟨_, rfl, _, _, _, [], _, [], hW', trodAll_mk1 (shut_bool Try.underlying4 _), (trodAll_cons_mk (shut_int Try.underlying3 w0) trodAll_mk0), rfl, bel.frame _, fun h => by cases h⟩
theorem over : Rows.whenStepsRow.holds Try.pinned (OpenSpec.ofChange Rows.whenStepsSpec) :=
  OpenClaim.holds_of_wide 3 Try.f3 rfl rfl rfl rfl rfl rfl rfl ⟨rfl, rfl, rfl, rfl, rfl⟩ rfl rfl rfl rfl rfl (by kernel_rfl) Try.func3 (by kernel_rfl)
    (of_decide_eq_true (by kernel_rfl)) (by unfold Func.isWrapper; first | (rw [if_pos (by decide +kernel)]; kernel_rfl) | (rw [if_neg (by decide +kernel)]; exact ⟨rfl, rfl⟩))
    (fun os started H enc _ => lifted os started H enc)
theorem proved : Rows.WhenStepsSaid := over
#print axioms proved
end Go.Proofs.Yteggifhicmbopaa.whenSteps
namespace Go.Proofs.Yteggifhicmbopaa
/-- The row, under a short name, for the claim. -/
theorem whenSteps_holds : Rows.WhenStepsSaid := whenSteps.proved
end Go.Proofs.Yteggifhicmbopaa
