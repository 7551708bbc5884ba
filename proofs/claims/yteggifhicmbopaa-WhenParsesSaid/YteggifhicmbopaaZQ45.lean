/- A part of the proof of the seat's laws. No condition beyond those in the theorems. -/
import Derived.Test.YteggifhicmbopaaZQ0
import Derived.Test.YteggifhicmbopaaZQ14
import Derived.Test.YteggifhicmbopaaZQ15
import Derived.Test.YteggifhicmbopaaZQ32
import Derived.Test.YteggifhicmbopaaZQ41
import Derived.Test.YteggifhicmbopaaZQ42
import Derived.Test.YteggifhicmbopaaZQ43
import Derived.Test.YteggifhicmbopaaZQ44

namespace Go.Proofs.Yteggifhicmbopaa.Q
open Go.RowKit Go.Proofs.YteggifhicmbopaaW.PrintWords Go.Proofs.YteggifhicmbopaaW.PrintLast Go.Proofs.YteggifhicmbopaaW.PrintMore
set_option linter.unusedVariables false
set_option linter.unusedSimpArgs false
attribute [local go_sem] max2_int min2_int max_two min_two max_three min_three max_four min_four   
def stowagelaw4_WhenParses.f (k : Nat) (a0 : ByteArray) : Option (Bool) := (when_ParseBasic.f k a0).bind fun bt355 => ((stowageref4_ParseBasic.f k a0).bind fun bt357 => ((when_ParseHttp.f k a0).bind fun bt359 => ((stowageref4_ParseHttp.f k a0).bind fun bt361 => ((when_ParseDay.f k a0).bind fun bt363 => ((stowageref4_ParseDay.f k a0).bind fun bt365 => (if bt355.1 = bt357.1 then (if (bt355.2 == bt357.2) = true then (if bt359.1 = bt361.1 then (if (bt359.2 == bt361.2) = true then (if bt363.1 = bt365.1 then (if (bt363.2 == bt365.2) = true then ((stowagelaw4_awake.f k).bind fun t367 => (some t367)) else (some false)) else (some false)) else (some false)) else (some false)) else (some false)) else (some false)))))))
theorem stowagelaw4_WhenParses.mono : ∀ a0 k, LeO (stowagelaw4_WhenParses.f k a0) (stowagelaw4_WhenParses.f (k + 1) a0) := by
 intro a0 k
 unfold stowagelaw4_WhenParses.f
 repeat' first
   | (with_reducible exact stowagelaw4_awake.mono _)
   | (with_reducible exact stowageref4_ParseBasic.mono _ _)
   | (with_reducible exact stowageref4_ParseDay.mono _ _)
   | (with_reducible exact stowageref4_ParseHttp.mono _ _)
   | (with_reducible exact when_ParseBasic.mono _ _)
   | (with_reducible exact when_ParseDay.mono _ _)
   | (with_reducible exact when_ParseHttp.mono _ _)
   | (with_reducible exact LeO.refl _)
   | (with_reducible exact LeO.none _)
   | (with_reducible refine LeO.ite ?_ ?_)
   | (with_reducible refine LeO.bind ?_ (fun _ => ?_))
   | exact stowagelaw4_awake.mono _
   | exact stowageref4_ParseBasic.mono _ _
   | exact stowageref4_ParseDay.mono _ _
   | exact stowageref4_ParseHttp.mono _ _
   | exact when_ParseBasic.mono _ _
   | exact when_ParseDay.mono _ _
   | exact when_ParseHttp.mono _ _
   | exact LeO.none _
   | refine LeO.ite ?_ ?_
   | refine LeO.bind ?_ (fun _ => ?_)
set_option maxHeartbeats 8000000 in
set_option maxRecDepth 100000 in
theorem stowagelaw4_WhenParses.calls (k : Nat) (a0 : ByteArray) (r : Bool) (w : World) (hG : GOk w) (h : stowagelaw4_WhenParses.f k a0 = some r) (hr : r = true) :
  Calls Try.prog 6 #[.string a0] w fun e w' => e = .returned (.bool r) ∧ Below w.heap.size w w' := by
 have HB := Aside0.mk (Below.refl w.heap.size w)
 have H : ((when_ParseBasic.f k a0).bind fun bt355 => ((stowageref4_ParseBasic.f k a0).bind fun bt357 => ((when_ParseHttp.f k a0).bind fun bt359 => ((stowageref4_ParseHttp.f k a0).bind fun bt361 => ((when_ParseDay.f k a0).bind fun bt363 => ((stowageref4_ParseDay.f k a0).bind fun bt365 => (if bt355.1 = bt357.1 then (if (bt355.2 == bt357.2) = true then (if bt359.1 = bt361.1 then (if (bt359.2 == bt361.2) = true then (if bt363.1 = bt365.1 then (if (bt363.2 == bt365.2) = true then ((stowagelaw4_awake.f k).bind fun t367 => (some t367)) else (some false)) else (some false)) else (some false)) else (some false)) else (some false)) else (some false)))))))) = some r := h
 clear h
 replace H := Option.bind_eq_some_iff.mp H
 obtain ⟨⟨t355, t356⟩, A20, H⟩ := H
 replace H : ((stowageref4_ParseBasic.f k a0).bind fun bt357 => ((when_ParseHttp.f k a0).bind fun bt359 => ((stowageref4_ParseHttp.f k a0).bind fun bt361 => ((when_ParseDay.f k a0).bind fun bt363 => ((stowageref4_ParseDay.f k a0).bind fun bt365 => (if t355 = bt357.1 then (if (t356 == bt357.2) = true then (if bt359.1 = bt361.1 then (if (bt359.2 == bt361.2) = true then (if bt363.1 = bt365.1 then (if (bt363.2 == bt365.2) = true then ((stowagelaw4_awake.f k).bind fun t367 => (some t367)) else (some false)) else (some false)) else (some false)) else (some false)) else (some false)) else (some false))))))) = some r := H
 have A2 := Aside0.mk A20
 clear A20
 replace H := Option.bind_eq_some_iff.mp H
 obtain ⟨⟨t357, t358⟩, A30, H⟩ := H
 replace H : ((when_ParseHttp.f k a0).bind fun bt359 => ((stowageref4_ParseHttp.f k a0).bind fun bt361 => ((when_ParseDay.f k a0).bind fun bt363 => ((stowageref4_ParseDay.f k a0).bind fun bt365 => (if t355 = t357 then (if (t356 == t358) = true then (if bt359.1 = bt361.1 then (if (bt359.2 == bt361.2) = true then (if bt363.1 = bt365.1 then (if (bt363.2 == bt365.2) = true then ((stowagelaw4_awake.f k).bind fun t367 => (some t367)) else (some false)) else (some false)) else (some false)) else (some false)) else (some false)) else (some false)))))) = some r := H
 have A3 := Aside0.mk A30
 clear A30
 replace H := Option.bind_eq_some_iff.mp H
 obtain ⟨⟨t359, t360⟩, A40, H⟩ := H
 replace H : ((stowageref4_ParseHttp.f k a0).bind fun bt361 => ((when_ParseDay.f k a0).bind fun bt363 => ((stowageref4_ParseDay.f k a0).bind fun bt365 => (if t355 = t357 then (if (t356 == t358) = true then (if t359 = bt361.1 then (if (t360 == bt361.2) = true then (if bt363.1 = bt365.1 then (if (bt363.2 == bt365.2) = true then ((stowagelaw4_awake.f k).bind fun t367 => (some t367)) else (some false)) else (some false)) else (some false)) else (some false)) else (some false)) else (some false))))) = some r := H
 have A4 := Aside0.mk A40
 clear A40
 replace H := Option.bind_eq_some_iff.mp H
 obtain ⟨⟨t361, t362⟩, A50, H⟩ := H
 replace H : ((when_ParseDay.f k a0).bind fun bt363 => ((stowageref4_ParseDay.f k a0).bind fun bt365 => (if t355 = t357 then (if (t356 == t358) = true then (if t359 = t361 then (if (t360 == t362) = true then (if bt363.1 = bt365.1 then (if (bt363.2 == bt365.2) = true then ((stowagelaw4_awake.f k).bind fun t367 => (some t367)) else (some false)) else (some false)) else (some false)) else (some false)) else (some false)) else (some false)))) = some r := H
 have A5 := Aside0.mk A50
 clear A50
 replace H := Option.bind_eq_some_iff.mp H
 obtain ⟨⟨t363, t364⟩, A60, H⟩ := H
 replace H : ((stowageref4_ParseDay.f k a0).bind fun bt365 => (if t355 = t357 then (if (t356 == t358) = true then (if t359 = t361 then (if (t360 == t362) = true then (if t363 = bt365.1 then (if (t364 == bt365.2) = true then ((stowagelaw4_awake.f k).bind fun t367 => (some t367)) else (some false)) else (some false)) else (some false)) else (some false)) else (some false)) else (some false))) = some r := H
 have A6 := Aside0.mk A60
 clear A60
 replace H := Option.bind_eq_some_iff.mp H
 obtain ⟨⟨t365, t366⟩, A70, H⟩ := H
 replace H : (if t355 = t357 then (if (t356 == t358) = true then (if t359 = t361 then (if (t360 == t362) = true then (if t363 = t365 then (if (t364 == t366) = true then ((stowagelaw4_awake.f k).bind fun t367 => (some t367)) else (some false)) else (some false)) else (some false)) else (some false)) else (some false)) else (some false)) = some r := H
 have A7 := Aside0.mk A70
 clear A70
 by_cases c8 : t355 = t357
 ·rw [if_pos c8] at H
  have c8b0 : (t355 == t357) = true := beq_iff_eq.mpr c8
  have c8b1 : (t355 != t357) = false := bne_eq_false_iff_eq.mpr c8
  clear c8
  by_cases c9 : (t356 == t358) = true
  ·rw [if_pos c9] at H
   have c9b0 : (t356 == t358) = true := c9
   (try (have c9b1 : decide (t356 = t358) = true := by simpa using c9))
   (try (have c9b2 : (t356 == t358) = true := by simpa using c9))
   clear c9
   by_cases c10 : t359 = t361
   ·rw [if_pos c10] at H
    have c10b0 : (t359 == t361) = true := beq_iff_eq.mpr c10
    have c10b1 : (t359 != t361) = false := bne_eq_false_iff_eq.mpr c10
    clear c10
    by_cases c11 : (t360 == t362) = true
    ·rw [if_pos c11] at H
     have c11b0 : (t360 == t362) = true := c11
     (try (have c11b1 : decide (t360 = t362) = true := by simpa using c11))
     (try (have c11b2 : (t360 == t362) = true := by simpa using c11))
     clear c11
     by_cases c12 : t363 = t365
     ·rw [if_pos c12] at H
      have c12b0 : (t363 == t365) = true := beq_iff_eq.mpr c12
      have c12b1 : (t363 != t365) = false := bne_eq_false_iff_eq.mpr c12
      clear c12
      by_cases c13 : (t364 == t366) = true
      ·rw [if_pos c13] at H
       have c13b0 : (t364 == t366) = true := c13
       (try (have c13b1 : decide (t364 = t366) = true := by simpa using c13))
       (try (have c13b2 : (t364 == t366) = true := by simpa using c13))
       clear c13
       replace H := Option.bind_eq_some_iff.mp H
       obtain ⟨t367, A140, H⟩ := H
       replace H : (some t367) = some r := H
       have A14 := Aside0.mk A140
       clear A140
       clear hr
       obtain rfl := Option.some.inj H
       go_enter Try.func6, Try.ntmps6
       go_wp2_with (first | ((with_reducible refine gate_callee (f := 21) rfl ?_); refine goesL_ (some 17) rfl rfl Try.func21 (by kernel_rfl) rfl #[.string a0] rfl (by (try simp only [List.map_toArray, List.map_cons, List.map_nil]); first | done | rfl | (simp only [List.length_drop, List.length_take]; rfl)) ?_; (with_reducible refine (when_ParseBasic.calls k a0 t355 t356 _ A2.out).mono ?_); rintro e w15 ⟨rfl, hb⟩; refine ⟨_, rfl, ?_⟩; have n0_ := Aside0.mk (below_step (by repeat (first | (with_reducible first | exact HB.out | apply below_alloc | apply pw_below_drewN | apply below_drew1) | exact HB.out)) hb); clear HB; have HB := n0_; clear n0_; (try clear hb); (try clear hb2); (try clear hk); (try clear hi)) | ((with_reducible refine gate_callee (f := 22) rfl ?_); refine goesL_ (some 22) rfl rfl Try.func22 (by kernel_rfl) rfl #[.string a0] rfl (by (try simp only [List.map_toArray, List.map_cons, List.map_nil]); first | done | rfl | (simp only [List.length_drop, List.length_take]; rfl)) ?_; (with_reducible refine (stowageref4_ParseBasic.calls k a0 t357 t358 _ A3.out).mono ?_); rintro e w16 ⟨rfl, hb⟩; refine ⟨_, rfl, ?_⟩; have n0_ := Aside0.mk (below_step (by repeat (first | (with_reducible first | exact HB.out | apply below_alloc | apply pw_below_drewN | apply below_drew1) | exact HB.out)) hb); clear HB; have HB := n0_; clear n0_; (try clear hb); (try clear hb2); (try clear hk); (try clear hi)) | ((with_reducible refine gate_callee (f := 23) rfl ?_); refine goesL_ (some 27) rfl rfl Try.func23 (by kernel_rfl) rfl #[.string a0] rfl (by (try simp only [List.map_toArray, List.map_cons, List.map_nil]); first | done | rfl | (simp only [List.length_drop, List.length_take]; rfl)) ?_; (with_reducible refine (when_ParseHttp.calls k a0 t359 t360 _ (by first | exact hG | exact gok_drewN hG _ | exact gok_below hG (by repeat (first | exact HB.out | exact HBW.out | exact Below.refl _ _ | apply below_alloc | apply pw_below_drewN | apply below_drew1))) A4.out).mono ?_); rintro e w17 ⟨rfl, hb⟩; refine ⟨_, rfl, ?_⟩; have n0_ := Aside0.mk (below_step (by repeat (first | (with_reducible first | exact HB.out | apply below_alloc | apply pw_below_drewN | apply below_drew1) | exact HB.out)) hb); clear HB; have HB := n0_; clear n0_; (try clear hb); (try clear hb2); (try clear hk); (try clear hi)) | ((with_reducible refine gate_callee (f := 24) rfl ?_); refine goesL_ (some 32) rfl rfl Try.func24 (by kernel_rfl) rfl #[.string a0] rfl (by (try simp only [List.map_toArray, List.map_cons, List.map_nil]); first | done | rfl | (simp only [List.length_drop, List.length_take]; rfl)) ?_; (with_reducible refine (stowageref4_ParseHttp.calls k a0 t361 t362 _ A5.out).mono ?_); rintro e w18 ⟨rfl, hb⟩; refine ⟨_, rfl, ?_⟩; have n0_ := Aside0.mk (below_step (by repeat (first | (with_reducible first | exact HB.out | apply below_alloc | apply pw_below_drewN | apply below_drew1) | exact HB.out)) hb); clear HB; have HB := n0_; clear n0_; (try clear hb); (try clear hb2); (try clear hk); (try clear hi)) | ((with_reducible refine gate_callee (f := 25) rfl ?_); refine goesL_ (some 37) rfl rfl Try.func25 (by kernel_rfl) rfl #[.string a0] rfl (by (try simp only [List.map_toArray, List.map_cons, List.map_nil]); first | done | rfl | (simp only [List.length_drop, List.length_take]; rfl)) ?_; (with_reducible refine (when_ParseDay.calls k a0 t363 t364 _ A6.out).mono ?_); rintro e w19 ⟨rfl, hb⟩; refine ⟨_, rfl, ?_⟩; have n0_ := Aside0.mk (below_step (by repeat (first | (with_reducible first | exact HB.out | apply below_alloc | apply pw_below_drewN | apply below_drew1) | exact HB.out)) hb); clear HB; have HB := n0_; clear n0_; (try clear hb); (try clear hb2); (try clear hk); (try clear hi)) | ((with_reducible refine gate_callee (f := 26) rfl ?_); refine goesL_ (some 42) rfl rfl Try.func26 (by kernel_rfl) rfl #[.string a0] rfl (by (try simp only [List.map_toArray, List.map_cons, List.map_nil]); first | done | rfl | (simp only [List.length_drop, List.length_take]; rfl)) ?_; (with_reducible refine (stowageref4_ParseDay.calls k a0 t365 t366 _ A7.out).mono ?_); rintro e w20 ⟨rfl, hb⟩; refine ⟨_, rfl, ?_⟩; have n0_ := Aside0.mk (below_step (by repeat (first | (with_reducible first | exact HB.out | apply below_alloc | apply pw_below_drewN | apply below_drew1) | exact HB.out)) hb); clear HB; have HB := n0_; clear n0_; (try clear hb); (try clear hb2); (try clear hk); (try clear hi)) | (go_at_call 8; (with_reducible refine (stowagelaw4_awake.calls k  t367 _ A14.out).mono ?_); rintro e w21 ⟨rfl, hb⟩; have n0_ := Aside0.mk (below_step (by repeat (first | (with_reducible first | exact HB.out | apply below_alloc | apply pw_below_drewN | apply below_drew1) | exact HB.out)) hb); clear HB; have HB := n0_; clear n0_; (try clear hb); (try clear hb2); (try clear hk); (try clear hi)))
       go_ret
       exact ⟨by first | rfl | (simp [errW_none, errW_some] <;> rfl) | (simp [*, errW_none, errW_some] <;> rfl), by repeat (first | (with_reducible first | exact HB.out | apply below_alloc | apply pw_below_drewN | apply below_drew1) | exact HB.out)⟩
      ·rw [if_neg c13] at H
       have c13b0 : (t364 == t366) = false := by simpa using c13
       (try (have c13b1 : decide (t364 = t366) = false := by simpa using c13))
       (try (have c13b2 : (t364 == t366) = false := by simpa using c13))
       (try (have c13b3 : ¬ (t364 = t366) := by simpa using c13))
       clear c13
       rw [hr] at H
       exact absurd H (by simp)
     ·rw [if_neg c12] at H
      have c12b0 : (t363 == t365) = false := beq_eq_false_iff_ne.mpr c12
      have c12b1 : (t363 != t365) = true := bne_iff_ne.mpr c12
      rw [hr] at H
      exact absurd H (by simp)
    ·rw [if_neg c11] at H
     have c11b0 : (t360 == t362) = false := by simpa using c11
     (try (have c11b1 : decide (t360 = t362) = false := by simpa using c11))
     (try (have c11b2 : (t360 == t362) = false := by simpa using c11))
     (try (have c11b3 : ¬ (t360 = t362) := by simpa using c11))
     clear c11
     rw [hr] at H
     exact absurd H (by simp)
   ·rw [if_neg c10] at H
    have c10b0 : (t359 == t361) = false := beq_eq_false_iff_ne.mpr c10
    have c10b1 : (t359 != t361) = true := bne_iff_ne.mpr c10
    rw [hr] at H
    exact absurd H (by simp)
  ·rw [if_neg c9] at H
   have c9b0 : (t356 == t358) = false := by simpa using c9
   (try (have c9b1 : decide (t356 = t358) = false := by simpa using c9))
   (try (have c9b2 : (t356 == t358) = false := by simpa using c9))
   (try (have c9b3 : ¬ (t356 = t358) := by simpa using c9))
   clear c9
   rw [hr] at H
   exact absurd H (by simp)
 ·rw [if_neg c8] at H
  have c8b0 : (t355 == t357) = false := beq_eq_false_iff_ne.mpr c8
  have c8b1 : (t355 != t357) = true := bne_iff_ne.mpr c8
  rw [hr] at H
  exact absurd H (by simp)
def stowagelaw4_WhenParses.Pure : Prop := ∀ (a0 : ByteArray), a0.size ≤ 140737488351232 → ∃ k, stowagelaw4_WhenParses.f k a0 = some true
theorem stowagelaw4_WhenParses.walk (P : stowagelaw4_WhenParses.Pure) (a0 : ByteArray) (w : World) (w0 : a0.size ≤ 140737488351232) (hG : GOk w) :
  Calls Try.prog 6 #[.string a0] w fun e w' => e = .returned (.bool true) ∧ Below w.heap.size w w' := by
 obtain ⟨k, h⟩ := P a0 w0
 refine (stowagelaw4_WhenParses.calls k a0 true w hG h rfl).mono ?_
 rintro e w' ⟨rfl, hd⟩
 exact ⟨rfl, hd⟩
end Go.Proofs.Yteggifhicmbopaa.Q
