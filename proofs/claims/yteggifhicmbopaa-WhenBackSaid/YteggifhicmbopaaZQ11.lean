/- A part of the proof of the seat's laws. No condition beyond those in the theorems. -/
import Derived.Test.YteggifhicmbopaaZQ0
import Derived.Test.YteggifhicmbopaaZQ4
import Derived.Test.YteggifhicmbopaaZQ5
import Derived.Test.YteggifhicmbopaaZQ10

namespace Go.Proofs.Yteggifhicmbopaa.Q
open Go.RowKit Go.Proofs.YteggifhicmbopaaW.PrintWords Go.Proofs.YteggifhicmbopaaW.PrintLast Go.Proofs.YteggifhicmbopaaW.PrintMore
set_option linter.unusedVariables false
set_option linter.unusedSimpArgs false
attribute [local go_sem] max2_int min2_int max_two min_two max_three min_three max_four min_four   
def when_Basic.f (k : Nat) (a0 : Int) : Option (ByteArray) := (when_Civil.f k a0).bind fun bt154 => (if bt154.2.2.2.2.2.2 = true then ((when_Day.f k a0).bind fun t161 => (if t161.size + 1 ≤ 9223372036854775807 then ((when_put.f k bt154.2.2.2.1 2).bind fun t162 => (if (t161 ++ (⟨#[84]⟩ : ByteArray)).size + t162.size ≤ 9223372036854775807 then ((when_put.f k bt154.2.2.2.2.1 2).bind fun t163 => (if ((t161 ++ (⟨#[84]⟩ : ByteArray)) ++ t162).size + t163.size ≤ 9223372036854775807 then ((when_put.f k bt154.2.2.2.2.2.1 2).bind fun t164 => (if (((t161 ++ (⟨#[84]⟩ : ByteArray)) ++ t162) ++ t163).size + t164.size ≤ 9223372036854775807 then (if ((((t161 ++ (⟨#[84]⟩ : ByteArray)) ++ t162) ++ t163) ++ t164).size + 1 ≤ 9223372036854775807 then (some (((((t161 ++ (⟨#[84]⟩ : ByteArray)) ++ t162) ++ t163) ++ t164) ++ (⟨#[90]⟩ : ByteArray))) else (none)) else (none))) else (none))) else (none))) else (none))) else (some (⟨#[]⟩ : ByteArray)))
theorem when_Basic.mono : ∀ a0 k, LeO (when_Basic.f k a0) (when_Basic.f (k + 1) a0) := by
 intro a0 k
 unfold when_Basic.f
 repeat' first
   | (with_reducible exact when_Civil.mono _ _)
   | (with_reducible exact when_Day.mono _ _)
   | (with_reducible exact when_put.mono _ _ _)
   | (with_reducible exact LeO.refl _)
   | (with_reducible exact LeO.none _)
   | (with_reducible refine LeO.ite ?_ ?_)
   | (with_reducible refine LeO.bind ?_ (fun _ => ?_))
   | exact when_Civil.mono _ _
   | exact when_Day.mono _ _
   | exact when_put.mono _ _ _
   | exact LeO.none _
   | refine LeO.ite ?_ ?_
   | refine LeO.bind ?_ (fun _ => ?_)
set_option maxHeartbeats 8000000 in
set_option maxRecDepth 100000 in
theorem when_Basic.calls (k : Nat) (a0 : Int) (r : ByteArray) (w : World) (h : when_Basic.f k a0 = some r) :
  Calls Try.prog 13 #[.int .i64 a0] w fun e w' => e = .returned (.string r) ∧ Below w.heap.size w w' := by
 have HB := Aside0.mk (Below.refl w.heap.size w)
 have H : ((when_Civil.f k a0).bind fun bt154 => (if bt154.2.2.2.2.2.2 = true then ((when_Day.f k a0).bind fun t161 => (if t161.size + 1 ≤ 9223372036854775807 then ((when_put.f k bt154.2.2.2.1 2).bind fun t162 => (if (t161 ++ (⟨#[84]⟩ : ByteArray)).size + t162.size ≤ 9223372036854775807 then ((when_put.f k bt154.2.2.2.2.1 2).bind fun t163 => (if ((t161 ++ (⟨#[84]⟩ : ByteArray)) ++ t162).size + t163.size ≤ 9223372036854775807 then ((when_put.f k bt154.2.2.2.2.2.1 2).bind fun t164 => (if (((t161 ++ (⟨#[84]⟩ : ByteArray)) ++ t162) ++ t163).size + t164.size ≤ 9223372036854775807 then (if ((((t161 ++ (⟨#[84]⟩ : ByteArray)) ++ t162) ++ t163) ++ t164).size + 1 ≤ 9223372036854775807 then (some (((((t161 ++ (⟨#[84]⟩ : ByteArray)) ++ t162) ++ t163) ++ t164) ++ (⟨#[90]⟩ : ByteArray))) else (none)) else (none))) else (none))) else (none))) else (none))) else (some (⟨#[]⟩ : ByteArray)))) = some r := h
 clear h
 replace H := Option.bind_eq_some_iff.mp H
 obtain ⟨⟨t154, t155, t156, t157, t158, t159, t160⟩, A20, H⟩ := H
 replace H : (if t160 = true then ((when_Day.f k a0).bind fun t161 => (if t161.size + 1 ≤ 9223372036854775807 then ((when_put.f k t157 2).bind fun t162 => (if (t161 ++ (⟨#[84]⟩ : ByteArray)).size + t162.size ≤ 9223372036854775807 then ((when_put.f k t158 2).bind fun t163 => (if ((t161 ++ (⟨#[84]⟩ : ByteArray)) ++ t162).size + t163.size ≤ 9223372036854775807 then ((when_put.f k t159 2).bind fun t164 => (if (((t161 ++ (⟨#[84]⟩ : ByteArray)) ++ t162) ++ t163).size + t164.size ≤ 9223372036854775807 then (if ((((t161 ++ (⟨#[84]⟩ : ByteArray)) ++ t162) ++ t163) ++ t164).size + 1 ≤ 9223372036854775807 then (some (((((t161 ++ (⟨#[84]⟩ : ByteArray)) ++ t162) ++ t163) ++ t164) ++ (⟨#[90]⟩ : ByteArray))) else (none)) else (none))) else (none))) else (none))) else (none))) else (some (⟨#[]⟩ : ByteArray))) = some r := H
 have A2 := Aside0.mk A20
 clear A20
 by_cases c3 : t160 = true
 ·subst c3
  have H1 : ((when_Day.f k a0).bind fun t161 => (if t161.size + 1 ≤ 9223372036854775807 then ((when_put.f k t157 2).bind fun t162 => (if (t161 ++ (⟨#[84]⟩ : ByteArray)).size + t162.size ≤ 9223372036854775807 then ((when_put.f k t158 2).bind fun t163 => (if ((t161 ++ (⟨#[84]⟩ : ByteArray)) ++ t162).size + t163.size ≤ 9223372036854775807 then ((when_put.f k t159 2).bind fun t164 => (if (((t161 ++ (⟨#[84]⟩ : ByteArray)) ++ t162) ++ t163).size + t164.size ≤ 9223372036854775807 then (if ((((t161 ++ (⟨#[84]⟩ : ByteArray)) ++ t162) ++ t163) ++ t164).size + 1 ≤ 9223372036854775807 then (some (((((t161 ++ (⟨#[84]⟩ : ByteArray)) ++ t162) ++ t163) ++ t164) ++ (⟨#[90]⟩ : ByteArray))) else (none)) else (none))) else (none))) else (none))) else (none))) = some r := by rw [if_pos rfl] at H; exact H
  clear H
  have H := H1
  clear H1
  replace H := Option.bind_eq_some_iff.mp H
  obtain ⟨t161, A40, H⟩ := H
  replace H : (if t161.size + 1 ≤ 9223372036854775807 then ((when_put.f k t157 2).bind fun t162 => (if (t161 ++ (⟨#[84]⟩ : ByteArray)).size + t162.size ≤ 9223372036854775807 then ((when_put.f k t158 2).bind fun t163 => (if ((t161 ++ (⟨#[84]⟩ : ByteArray)) ++ t162).size + t163.size ≤ 9223372036854775807 then ((when_put.f k t159 2).bind fun t164 => (if (((t161 ++ (⟨#[84]⟩ : ByteArray)) ++ t162) ++ t163).size + t164.size ≤ 9223372036854775807 then (if ((((t161 ++ (⟨#[84]⟩ : ByteArray)) ++ t162) ++ t163) ++ t164).size + 1 ≤ 9223372036854775807 then (some (((((t161 ++ (⟨#[84]⟩ : ByteArray)) ++ t162) ++ t163) ++ t164) ++ (⟨#[90]⟩ : ByteArray))) else (none)) else (none))) else (none))) else (none))) else (none)) = some r := H
  have A4 := Aside0.mk A40
  clear A40
  by_cases c5 : t161.size + 1 ≤ 9223372036854775807
  ·rw [if_pos c5] at H
   have c5b0 := eq_true c5
   have c5b1 : decide (t161.size + 1 ≤ 9223372036854775807) = true := decide_eq_true c5
   try have c5b2 : (9223372036854775807 < t161.size + 1) = False := eq_false (Nat.not_lt.2 c5)
   try (have c5n : t161.size + 1 ≤ 9223372036854775807 := by have h_ := c5; simp only [ByteArray.size_append, ByteArray.size_extract] at h_; exact h_)
   try have c5f : (9223372036854775807 < t161.size + 1) = False := eq_false (by first | omega | (simp only [eq_iff_iff, iff_true] at *; omega))
   replace H := Option.bind_eq_some_iff.mp H
   obtain ⟨t162, A60, H⟩ := H
   replace H : (if (t161 ++ (⟨#[84]⟩ : ByteArray)).size + t162.size ≤ 9223372036854775807 then ((when_put.f k t158 2).bind fun t163 => (if ((t161 ++ (⟨#[84]⟩ : ByteArray)) ++ t162).size + t163.size ≤ 9223372036854775807 then ((when_put.f k t159 2).bind fun t164 => (if (((t161 ++ (⟨#[84]⟩ : ByteArray)) ++ t162) ++ t163).size + t164.size ≤ 9223372036854775807 then (if ((((t161 ++ (⟨#[84]⟩ : ByteArray)) ++ t162) ++ t163) ++ t164).size + 1 ≤ 9223372036854775807 then (some (((((t161 ++ (⟨#[84]⟩ : ByteArray)) ++ t162) ++ t163) ++ t164) ++ (⟨#[90]⟩ : ByteArray))) else (none)) else (none))) else (none))) else (none)) = some r := H
   have A6 := Aside0.mk A60
   clear A60
   by_cases c7 : (t161 ++ (⟨#[84]⟩ : ByteArray)).size + t162.size ≤ 9223372036854775807
   ·rw [if_pos c7] at H
    have c7b0 := eq_true c7
    have c7b1 : decide ((t161 ++ (⟨#[84]⟩ : ByteArray)).size + t162.size ≤ 9223372036854775807) = true := decide_eq_true c7
    try have c7b2 : (9223372036854775807 < (t161 ++ (⟨#[84]⟩ : ByteArray)).size + t162.size) = False := eq_false (Nat.not_lt.2 c7)
    try (have c7n : t161.size + 1 + t162.size ≤ 9223372036854775807 := by have h_ := c7; simp only [ByteArray.size_append, ByteArray.size_extract] at h_; exact h_)
    try have c7f : (9223372036854775807 < t161.size + 1 + t162.size) = False := eq_false (by first | omega | (simp only [eq_iff_iff, iff_true] at *; omega))
    replace H := Option.bind_eq_some_iff.mp H
    obtain ⟨t163, A80, H⟩ := H
    replace H : (if ((t161 ++ (⟨#[84]⟩ : ByteArray)) ++ t162).size + t163.size ≤ 9223372036854775807 then ((when_put.f k t159 2).bind fun t164 => (if (((t161 ++ (⟨#[84]⟩ : ByteArray)) ++ t162) ++ t163).size + t164.size ≤ 9223372036854775807 then (if ((((t161 ++ (⟨#[84]⟩ : ByteArray)) ++ t162) ++ t163) ++ t164).size + 1 ≤ 9223372036854775807 then (some (((((t161 ++ (⟨#[84]⟩ : ByteArray)) ++ t162) ++ t163) ++ t164) ++ (⟨#[90]⟩ : ByteArray))) else (none)) else (none))) else (none)) = some r := H
    have A8 := Aside0.mk A80
    clear A80
    by_cases c9 : ((t161 ++ (⟨#[84]⟩ : ByteArray)) ++ t162).size + t163.size ≤ 9223372036854775807
    ·rw [if_pos c9] at H
     have c9b0 := eq_true c9
     have c9b1 : decide (((t161 ++ (⟨#[84]⟩ : ByteArray)) ++ t162).size + t163.size ≤ 9223372036854775807) = true := decide_eq_true c9
     try have c9b2 : (9223372036854775807 < ((t161 ++ (⟨#[84]⟩ : ByteArray)) ++ t162).size + t163.size) = False := eq_false (Nat.not_lt.2 c9)
     try (have c9n : t161.size + 1 + t162.size + t163.size ≤ 9223372036854775807 := by have h_ := c9; simp only [ByteArray.size_append, ByteArray.size_extract] at h_; exact h_)
     try have c9f : (9223372036854775807 < t161.size + 1 + t162.size + t163.size) = False := eq_false (by first | omega | (simp only [eq_iff_iff, iff_true] at *; omega))
     replace H := Option.bind_eq_some_iff.mp H
     obtain ⟨t164, A100, H⟩ := H
     replace H : (if (((t161 ++ (⟨#[84]⟩ : ByteArray)) ++ t162) ++ t163).size + t164.size ≤ 9223372036854775807 then (if ((((t161 ++ (⟨#[84]⟩ : ByteArray)) ++ t162) ++ t163) ++ t164).size + 1 ≤ 9223372036854775807 then (some (((((t161 ++ (⟨#[84]⟩ : ByteArray)) ++ t162) ++ t163) ++ t164) ++ (⟨#[90]⟩ : ByteArray))) else (none)) else (none)) = some r := H
     have A10 := Aside0.mk A100
     clear A100
     by_cases c11 : (((t161 ++ (⟨#[84]⟩ : ByteArray)) ++ t162) ++ t163).size + t164.size ≤ 9223372036854775807
     ·rw [if_pos c11] at H
      have c11b0 := eq_true c11
      have c11b1 : decide ((((t161 ++ (⟨#[84]⟩ : ByteArray)) ++ t162) ++ t163).size + t164.size ≤ 9223372036854775807) = true := decide_eq_true c11
      try have c11b2 : (9223372036854775807 < (((t161 ++ (⟨#[84]⟩ : ByteArray)) ++ t162) ++ t163).size + t164.size) = False := eq_false (Nat.not_lt.2 c11)
      try (have c11n : t161.size + 1 + t162.size + t163.size + t164.size ≤ 9223372036854775807 := by have h_ := c11; simp only [ByteArray.size_append, ByteArray.size_extract] at h_; exact h_)
      try have c11f : (9223372036854775807 < t161.size + 1 + t162.size + t163.size + t164.size) = False := eq_false (by first | omega | (simp only [eq_iff_iff, iff_true] at *; omega))
      by_cases c12 : ((((t161 ++ (⟨#[84]⟩ : ByteArray)) ++ t162) ++ t163) ++ t164).size + 1 ≤ 9223372036854775807
      ·rw [if_pos c12] at H
       have c12b0 := eq_true c12
       have c12b1 : decide (((((t161 ++ (⟨#[84]⟩ : ByteArray)) ++ t162) ++ t163) ++ t164).size + 1 ≤ 9223372036854775807) = true := decide_eq_true c12
       try have c12b2 : (9223372036854775807 < ((((t161 ++ (⟨#[84]⟩ : ByteArray)) ++ t162) ++ t163) ++ t164).size + 1) = False := eq_false (Nat.not_lt.2 c12)
       try (have c12n : t161.size + 1 + t162.size + t163.size + t164.size + 1 ≤ 9223372036854775807 := by have h_ := c12; simp only [ByteArray.size_append, ByteArray.size_extract] at h_; exact h_)
       try have c12f : (9223372036854775807 < t161.size + 1 + t162.size + t163.size + t164.size + 1) = False := eq_false (by first | omega | (simp only [eq_iff_iff, iff_true] at *; omega))
       obtain rfl := Option.some.inj H
       go_enter Try.func13, Try.ntmps13
       go_wp2_with (first | ((with_reducible refine gate_callee (f := 9) rfl ?_); refine goesL_ (some 12) rfl rfl Try.func9 (by kernel_rfl) rfl #[.int .i64 a0] rfl (by (try simp only [List.map_toArray, List.map_cons, List.map_nil]); first | done | rfl | (simp only [List.length_drop, List.length_take]; rfl)) ?_; (with_reducible refine (when_Civil.calls k a0 t154 t155 t156 t157 t158 t159 true _ A2.out).mono ?_); rintro e w' ⟨rfl, ⟨nd, rfl⟩⟩; refine ⟨_, rfl, ?_⟩) | ((with_reducible refine gate_callee (f := 15) rfl ?_); refine goesL_ (some 23) rfl rfl Try.func15 (by kernel_rfl) rfl #[.int .i64 a0] rfl (by (try simp only [List.map_toArray, List.map_cons, List.map_nil]); first | done | rfl | (simp only [List.length_drop, List.length_take]; rfl)) ?_; (with_reducible refine (when_Day.calls k a0 t161 _ A4.out).mono ?_); rintro e w13 ⟨rfl, hb⟩; refine ⟨_, rfl, ?_⟩; have n0_ := Aside0.mk (below_step (by repeat (first | (with_reducible first | exact HB.out | apply below_alloc | apply pw_below_drewN | apply below_drew1) | exact HB.out)) hb); clear HB; have HB := n0_; clear n0_; (try clear hb); (try clear hb2); (try clear hk); (try clear hi)) | ((with_reducible refine gate_callee (f := 33) rfl ?_); refine goesL_ (some 26) rfl rfl Try.func33 (by kernel_rfl) rfl #[.int .i64 t157, .int .i64 2] rfl (by (try simp only [List.map_toArray, List.map_cons, List.map_nil]); first | done | rfl | (simp only [List.length_drop, List.length_take]; rfl)) ?_; (with_reducible refine (when_put.calls k t157 2 t162 _ A6.out).mono ?_); rintro e w14 ⟨rfl, hb⟩; refine ⟨_, rfl, ?_⟩; have n0_ := Aside0.mk (below_step (by repeat (first | (with_reducible first | exact HB.out | apply below_alloc | apply pw_below_drewN | apply below_drew1) | exact HB.out)) hb); clear HB; have HB := n0_; clear n0_; (try clear hb); (try clear hb2); (try clear hk); (try clear hi)) | ((with_reducible refine gate_callee (f := 33) rfl ?_); refine goesL_ (some 29) rfl rfl Try.func33 (by kernel_rfl) rfl #[.int .i64 t158, .int .i64 2] rfl (by (try simp only [List.map_toArray, List.map_cons, List.map_nil]); first | done | rfl | (simp only [List.length_drop, List.length_take]; rfl)) ?_; (with_reducible refine (when_put.calls k t158 2 t163 _ A8.out).mono ?_); rintro e w15 ⟨rfl, hb⟩; refine ⟨_, rfl, ?_⟩; have n0_ := Aside0.mk (below_step (by repeat (first | (with_reducible first | exact HB.out | apply below_alloc | apply pw_below_drewN | apply below_drew1) | exact HB.out)) hb); clear HB; have HB := n0_; clear n0_; (try clear hb); (try clear hb2); (try clear hk); (try clear hi)) | ((with_reducible refine gate_callee (f := 33) rfl ?_); refine goesL_ (some 32) rfl rfl Try.func33 (by kernel_rfl) rfl #[.int .i64 t159, .int .i64 2] rfl (by (try simp only [List.map_toArray, List.map_cons, List.map_nil]); first | done | rfl | (simp only [List.length_drop, List.length_take]; rfl)) ?_; (with_reducible refine (when_put.calls k t159 2 t164 _ A10.out).mono ?_); rintro e w16 ⟨rfl, hb⟩; refine ⟨_, rfl, ?_⟩; have n0_ := Aside0.mk (below_step (by repeat (first | (with_reducible first | exact HB.out | apply below_alloc | apply pw_below_drewN | apply below_drew1) | exact HB.out)) hb); clear HB; have HB := n0_; clear n0_; (try clear hb); (try clear hb2); (try clear hk); (try clear hi)))
       go_ret
       exact ⟨by first | rfl | (simp [errW_none, errW_some] <;> rfl) | (simp [*, errW_none, errW_some] <;> rfl), by repeat (first | (with_reducible first | exact HB.out | apply below_alloc | apply pw_below_drewN | apply below_drew1) | exact HB.out)⟩
      ·rw [if_neg c12] at H
       exact absurd H (by simp)
     ·rw [if_neg c11] at H
      exact absurd H (by simp)
    ·rw [if_neg c9] at H
     exact absurd H (by simp)
   ·rw [if_neg c7] at H
    exact absurd H (by simp)
  ·rw [if_neg c5] at H
   exact absurd H (by simp)
 ·replace c3 := Bool.eq_false_iff.mpr c3
  subst c3
  have H1 : (some (⟨#[]⟩ : ByteArray)) = some r := by rw [if_neg (show ¬ (false = true) by decide)] at H; exact H
  clear H
  have H := H1
  clear H1
  obtain rfl := Option.some.inj H
  go_enter Try.func13, Try.ntmps13
  go_wp2_with (first | ((with_reducible refine gate_callee (f := 9) rfl ?_); refine goesL_ (some 12) rfl rfl Try.func9 (by kernel_rfl) rfl #[.int .i64 a0] rfl (by (try simp only [List.map_toArray, List.map_cons, List.map_nil]); first | done | rfl | (simp only [List.length_drop, List.length_take]; rfl)) ?_; (with_reducible refine (when_Civil.calls k a0 t154 t155 t156 t157 t158 t159 false _ A2.out).mono ?_); rintro e w' ⟨rfl, ⟨nd, rfl⟩⟩; refine ⟨_, rfl, ?_⟩))
  go_ret
  exact ⟨by first | rfl | (simp [errW_none, errW_some] <;> rfl) | (simp [*, errW_none, errW_some] <;> rfl), by repeat (first | (with_reducible first | exact HB.out | apply below_alloc | apply pw_below_drewN | apply below_drew1) | exact HB.out)⟩
end Go.Proofs.Yteggifhicmbopaa.Q
