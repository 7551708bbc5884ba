/- A part of the proof of the seat's laws. No condition beyond those in the theorems. -/
import Derived.Test.YteggifhicmbopaaZQ0
import Derived.Test.YteggifhicmbopaaZQ6
import Derived.Test.YteggifhicmbopaaZQ7
import Derived.Test.YteggifhicmbopaaZQ10
import Derived.Test.YteggifhicmbopaaZQ11
import Derived.Test.YteggifhicmbopaaZQ15
import Derived.Test.YteggifhicmbopaaZQ26
import Derived.Test.YteggifhicmbopaaZQ27
import Derived.Test.YteggifhicmbopaaZQ28
import Derived.Test.YteggifhicmbopaaZQ29

namespace Go.Proofs.Yteggifhicmbopaa.Q
open Go.RowKit Go.Proofs.YteggifhicmbopaaW.PrintWords Go.Proofs.YteggifhicmbopaaW.PrintLast Go.Proofs.YteggifhicmbopaaW.PrintMore
set_option linter.unusedVariables false
set_option linter.unusedSimpArgs false
attribute [local go_sem] max2_int min2_int max_two min_two max_three min_three max_four min_four   
def stowagelaw4_WhenTexts.f (k : Nat) (a0 : Int) : Option (Bool) := (when_Basic.f k a0).bind fun t297 => ((stowageref4_Basic.f k a0).bind fun t298 => (if t297.toList = t298.toList then ((when_Day.f k a0).bind fun t299 => ((stowageref4_Day.f k a0).bind fun t300 => (if t299.toList = t300.toList then ((when_Iso.f k a0).bind fun t301 => ((stowageref4_Iso.f k a0).bind fun t302 => (if t301.toList = t302.toList then ((when_Http.f k a0).bind fun t303 => ((stowageref4_Http.f k a0).bind fun t304 => (if t303.toList = t304.toList then ((stowagelaw4_awake.f k).bind fun t305 => (some t305)) else (some false)))) else (some false)))) else (some false)))) else (some false)))
theorem stowagelaw4_WhenTexts.mono : ∀ a0 k, LeO (stowagelaw4_WhenTexts.f k a0) (stowagelaw4_WhenTexts.f (k + 1) a0) := by
 intro a0 k
 unfold stowagelaw4_WhenTexts.f
 repeat' first
   | (with_reducible exact stowagelaw4_awake.mono _)
   | (with_reducible exact stowageref4_Basic.mono _ _)
   | (with_reducible exact stowageref4_Day.mono _ _)
   | (with_reducible exact stowageref4_Http.mono _ _)
   | (with_reducible exact stowageref4_Iso.mono _ _)
   | (with_reducible exact when_Basic.mono _ _)
   | (with_reducible exact when_Day.mono _ _)
   | (with_reducible exact when_Http.mono _ _)
   | (with_reducible exact when_Iso.mono _ _)
   | (with_reducible exact LeO.refl _)
   | (with_reducible exact LeO.none _)
   | (with_reducible refine LeO.ite ?_ ?_)
   | (with_reducible refine LeO.bind ?_ (fun _ => ?_))
   | exact stowagelaw4_awake.mono _
   | exact stowageref4_Basic.mono _ _
   | exact stowageref4_Day.mono _ _
   | exact stowageref4_Http.mono _ _
   | exact stowageref4_Iso.mono _ _
   | exact when_Basic.mono _ _
   | exact when_Day.mono _ _
   | exact when_Http.mono _ _
   | exact when_Iso.mono _ _
   | exact LeO.none _
   | refine LeO.ite ?_ ?_
   | refine LeO.bind ?_ (fun _ => ?_)
set_option maxHeartbeats 8000000 in
set_option maxRecDepth 100000 in
theorem stowagelaw4_WhenTexts.calls (k : Nat) (a0 : Int) (r : Bool) (w : World) (h : stowagelaw4_WhenTexts.f k a0 = some r) (hr : r = true) :
  Calls Try.prog 5 #[.int .i64 a0] w fun e w' => e = .returned (.bool r) ∧ Below w.heap.size w w' := by
 have HB := Aside0.mk (Below.refl w.heap.size w)
 have H : ((when_Basic.f k a0).bind fun t297 => ((stowageref4_Basic.f k a0).bind fun t298 => (if t297.toList = t298.toList then ((when_Day.f k a0).bind fun t299 => ((stowageref4_Day.f k a0).bind fun t300 => (if t299.toList = t300.toList then ((when_Iso.f k a0).bind fun t301 => ((stowageref4_Iso.f k a0).bind fun t302 => (if t301.toList = t302.toList then ((when_Http.f k a0).bind fun t303 => ((stowageref4_Http.f k a0).bind fun t304 => (if t303.toList = t304.toList then ((stowagelaw4_awake.f k).bind fun t305 => (some t305)) else (some false)))) else (some false)))) else (some false)))) else (some false)))) = some r := h
 clear h
 replace H := Option.bind_eq_some_iff.mp H
 obtain ⟨t297, A20, H⟩ := H
 replace H : ((stowageref4_Basic.f k a0).bind fun t298 => (if t297.toList = t298.toList then ((when_Day.f k a0).bind fun t299 => ((stowageref4_Day.f k a0).bind fun t300 => (if t299.toList = t300.toList then ((when_Iso.f k a0).bind fun t301 => ((stowageref4_Iso.f k a0).bind fun t302 => (if t301.toList = t302.toList then ((when_Http.f k a0).bind fun t303 => ((stowageref4_Http.f k a0).bind fun t304 => (if t303.toList = t304.toList then ((stowagelaw4_awake.f k).bind fun t305 => (some t305)) else (some false)))) else (some false)))) else (some false)))) else (some false))) = some r := H
 have A2 := Aside0.mk A20
 clear A20
 replace H := Option.bind_eq_some_iff.mp H
 obtain ⟨t298, A30, H⟩ := H
 replace H : (if t297.toList = t298.toList then ((when_Day.f k a0).bind fun t299 => ((stowageref4_Day.f k a0).bind fun t300 => (if t299.toList = t300.toList then ((when_Iso.f k a0).bind fun t301 => ((stowageref4_Iso.f k a0).bind fun t302 => (if t301.toList = t302.toList then ((when_Http.f k a0).bind fun t303 => ((stowageref4_Http.f k a0).bind fun t304 => (if t303.toList = t304.toList then ((stowagelaw4_awake.f k).bind fun t305 => (some t305)) else (some false)))) else (some false)))) else (some false)))) else (some false)) = some r := H
 have A3 := Aside0.mk A30
 clear A30
 by_cases c4 : t297.toList = t298.toList
 ·rw [if_pos c4] at H
  have c4b0 : (t297.toList == t298.toList) = true := beq_iff_eq.mpr c4
  have c4b1 : (t297.toList != t298.toList) = false := bne_eq_false_iff_eq.mpr c4
  clear c4
  replace H := Option.bind_eq_some_iff.mp H
  obtain ⟨t299, A50, H⟩ := H
  replace H : ((stowageref4_Day.f k a0).bind fun t300 => (if t299.toList = t300.toList then ((when_Iso.f k a0).bind fun t301 => ((stowageref4_Iso.f k a0).bind fun t302 => (if t301.toList = t302.toList then ((when_Http.f k a0).bind fun t303 => ((stowageref4_Http.f k a0).bind fun t304 => (if t303.toList = t304.toList then ((stowagelaw4_awake.f k).bind fun t305 => (some t305)) else (some false)))) else (some false)))) else (some false))) = some r := H
  have A5 := Aside0.mk A50
  clear A50
  replace H := Option.bind_eq_some_iff.mp H
  obtain ⟨t300, A60, H⟩ := H
  replace H : (if t299.toList = t300.toList then ((when_Iso.f k a0).bind fun t301 => ((stowageref4_Iso.f k a0).bind fun t302 => (if t301.toList = t302.toList then ((when_Http.f k a0).bind fun t303 => ((stowageref4_Http.f k a0).bind fun t304 => (if t303.toList = t304.toList then ((stowagelaw4_awake.f k).bind fun t305 => (some t305)) else (some false)))) else (some false)))) else (some false)) = some r := H
  have A6 := Aside0.mk A60
  clear A60
  by_cases c7 : t299.toList = t300.toList
  ·rw [if_pos c7] at H
   have c7b0 : (t299.toList == t300.toList) = true := beq_iff_eq.mpr c7
   have c7b1 : (t299.toList != t300.toList) = false := bne_eq_false_iff_eq.mpr c7
   clear c7
   replace H := Option.bind_eq_some_iff.mp H
   obtain ⟨t301, A80, H⟩ := H
   replace H : ((stowageref4_Iso.f k a0).bind fun t302 => (if t301.toList = t302.toList then ((when_Http.f k a0).bind fun t303 => ((stowageref4_Http.f k a0).bind fun t304 => (if t303.toList = t304.toList then ((stowagelaw4_awake.f k).bind fun t305 => (some t305)) else (some false)))) else (some false))) = some r := H
   have A8 := Aside0.mk A80
   clear A80
   replace H := Option.bind_eq_some_iff.mp H
   obtain ⟨t302, A90, H⟩ := H
   replace H : (if t301.toList = t302.toList then ((when_Http.f k a0).bind fun t303 => ((stowageref4_Http.f k a0).bind fun t304 => (if t303.toList = t304.toList then ((stowagelaw4_awake.f k).bind fun t305 => (some t305)) else (some false)))) else (some false)) = some r := H
   have A9 := Aside0.mk A90
   clear A90
   by_cases c10 : t301.toList = t302.toList
   ·rw [if_pos c10] at H
    have c10b0 : (t301.toList == t302.toList) = true := beq_iff_eq.mpr c10
    have c10b1 : (t301.toList != t302.toList) = false := bne_eq_false_iff_eq.mpr c10
    clear c10
    replace H := Option.bind_eq_some_iff.mp H
    obtain ⟨t303, A110, H⟩ := H
    replace H : ((stowageref4_Http.f k a0).bind fun t304 => (if t303.toList = t304.toList then ((stowagelaw4_awake.f k).bind fun t305 => (some t305)) else (some false))) = some r := H
    have A11 := Aside0.mk A110
    clear A110
    replace H := Option.bind_eq_some_iff.mp H
    obtain ⟨t304, A120, H⟩ := H
    replace H : (if t303.toList = t304.toList then ((stowagelaw4_awake.f k).bind fun t305 => (some t305)) else (some false)) = some r := H
    have A12 := Aside0.mk A120
    clear A120
    by_cases c13 : t303.toList = t304.toList
    ·rw [if_pos c13] at H
     have c13b0 : (t303.toList == t304.toList) = true := beq_iff_eq.mpr c13
     have c13b1 : (t303.toList != t304.toList) = false := bne_eq_false_iff_eq.mpr c13
     clear c13
     replace H := Option.bind_eq_some_iff.mp H
     obtain ⟨t305, A140, H⟩ := H
     replace H : (some t305) = some r := H
     have A14 := Aside0.mk A140
     clear A140
     clear hr
     obtain rfl := Option.some.inj H
     go_enter Try.func5, Try.ntmps5
     go_wp2_with (first | ((with_reducible refine gate_callee (f := 13) rfl ?_); refine goesL_ (some 4) rfl rfl Try.func13 (by kernel_rfl) rfl #[.int .i64 a0] rfl (by (try simp only [List.map_toArray, List.map_cons, List.map_nil]); first | done | rfl | (simp only [List.length_drop, List.length_take]; rfl)) ?_; (with_reducible refine (when_Basic.calls k a0 t297 _ A2.out).mono ?_); rintro e w15 ⟨rfl, hb⟩; refine ⟨_, rfl, ?_⟩; have n0_ := Aside0.mk (below_step (by repeat (first | (with_reducible first | exact HB.out | apply below_alloc | apply pw_below_drewN | apply below_drew1) | exact HB.out)) hb); clear HB; have HB := n0_; clear n0_; (try clear hb); (try clear hb2); (try clear hk); (try clear hi)) | ((with_reducible refine gate_callee (f := 14) rfl ?_); refine goesL_ (some 6) rfl rfl Try.func14 (by kernel_rfl) rfl #[.int .i64 a0] rfl (by (try simp only [List.map_toArray, List.map_cons, List.map_nil]); first | done | rfl | (simp only [List.length_drop, List.length_take]; rfl)) ?_; (with_reducible refine (stowageref4_Basic.calls k a0 t298 _ A3.out).mono ?_); rintro e w16 ⟨rfl, hb⟩; refine ⟨_, rfl, ?_⟩; have n0_ := Aside0.mk (below_step (by repeat (first | (with_reducible first | exact HB.out | apply below_alloc | apply pw_below_drewN | apply below_drew1) | exact HB.out)) hb); clear HB; have HB := n0_; clear n0_; (try clear hb); (try clear hb2); (try clear hk); (try clear hi)) | (go_at_call 15; (with_reducible refine (when_Day.calls k a0 t299 _ A5.out).mono ?_); rintro e w17 ⟨rfl, hb⟩; have n0_ := Aside0.mk (below_step (by repeat (first | (with_reducible first | exact HB.out | apply below_alloc | apply pw_below_drewN | apply below_drew1) | exact HB.out)) hb); clear HB; have HB := n0_; clear n0_; (try clear hb); (try clear hb2); (try clear hk); (try clear hi)) | (go_at_call 16; (with_reducible refine (stowageref4_Day.calls k a0 t300 _ A6.out).mono ?_); rintro e w18 ⟨rfl, hb⟩; have n0_ := Aside0.mk (below_step (by repeat (first | (with_reducible first | exact HB.out | apply below_alloc | apply pw_below_drewN | apply below_drew1) | exact HB.out)) hb); clear HB; have HB := n0_; clear n0_; (try clear hb); (try clear hb2); (try clear hk); (try clear hi)) | (go_at_call 17; (with_reducible refine (when_Iso.calls k a0 t301 _ A8.out).mono ?_); rintro e w19 ⟨rfl, hb⟩; have n0_ := Aside0.mk (below_step (by repeat (first | (with_reducible first | exact HB.out | apply below_alloc | apply pw_below_drewN | apply below_drew1) | exact HB.out)) hb); clear HB; have HB := n0_; clear n0_; (try clear hb); (try clear hb2); (try clear hk); (try clear hi)) | (go_at_call 18; (with_reducible refine (stowageref4_Iso.calls k a0 t302 _ A9.out).mono ?_); rintro e w20 ⟨rfl, hb⟩; have n0_ := Aside0.mk (below_step (by repeat (first | (with_reducible first | exact HB.out | apply below_alloc | apply pw_below_drewN | apply below_drew1) | exact HB.out)) hb); clear HB; have HB := n0_; clear n0_; (try clear hb); (try clear hb2); (try clear hk); (try clear hi)) | (go_at_call 19; (with_reducible refine (when_Http.calls k a0 t303 _ A11.out).mono ?_); rintro e w21 ⟨rfl, hb⟩; have n0_ := Aside0.mk (below_step (by repeat (first | (with_reducible first | exact HB.out | apply below_alloc | apply pw_below_drewN | apply below_drew1) | exact HB.out)) hb); clear HB; have HB := n0_; clear n0_; (try clear hb); (try clear hb2); (try clear hk); (try clear hi)) | (go_at_call 20; (with_reducible refine (stowageref4_Http.calls k a0 t304 _ A12.out).mono ?_); rintro e w22 ⟨rfl, hb⟩; have n0_ := Aside0.mk (below_step (by repeat (first | (with_reducible first | exact HB.out | apply below_alloc | apply pw_below_drewN | apply below_drew1) | exact HB.out)) hb); clear HB; have HB := n0_; clear n0_; (try clear hb); (try clear hb2); (try clear hk); (try clear hi)) | (go_at_call 8; (with_reducible refine (stowagelaw4_awake.calls k  t305 _ A14.out).mono ?_); rintro e w23 ⟨rfl, hb⟩; have n0_ := Aside0.mk (below_step (by repeat (first | (with_reducible first | exact HB.out | apply below_alloc | apply pw_below_drewN | apply below_drew1) | exact HB.out)) hb); clear HB; have HB := n0_; clear n0_; (try clear hb); (try clear hb2); (try clear hk); (try clear hi)))
     go_ret
     exact ⟨by first | rfl | (simp [errW_none, errW_some] <;> rfl) | (simp [*, errW_none, errW_some] <;> rfl), by repeat (first | (with_reducible first | exact HB.out | apply below_alloc | apply pw_below_drewN | apply below_drew1) | exact HB.out)⟩
    ·rw [if_neg c13] at H
     have c13b0 : (t303.toList == t304.toList) = false := beq_eq_false_iff_ne.mpr c13
     have c13b1 : (t303.toList != t304.toList) = true := bne_iff_ne.mpr c13
     rw [hr] at H
     exact absurd H (by simp)
   ·rw [if_neg c10] at H
    have c10b0 : (t301.toList == t302.toList) = false := beq_eq_false_iff_ne.mpr c10
    have c10b1 : (t301.toList != t302.toList) = true := bne_iff_ne.mpr c10
    rw [hr] at H
    exact absurd H (by simp)
  ·rw [if_neg c7] at H
   have c7b0 : (t299.toList == t300.toList) = false := beq_eq_false_iff_ne.mpr c7
   have c7b1 : (t299.toList != t300.toList) = true := bne_iff_ne.mpr c7
   rw [hr] at H
   exact absurd H (by simp)
 ·rw [if_neg c4] at H
  have c4b0 : (t297.toList == t298.toList) = false := beq_eq_false_iff_ne.mpr c4
  have c4b1 : (t297.toList != t298.toList) = true := bne_iff_ne.mpr c4
  rw [hr] at H
  exact absurd H (by simp)
def stowagelaw4_WhenTexts.Pure : Prop := ∀ (a0 : Int), (Lit.int .i64 a0).wf = true → ∃ k, stowagelaw4_WhenTexts.f k a0 = some true
theorem stowagelaw4_WhenTexts.walk (P : stowagelaw4_WhenTexts.Pure) (a0 : Int) (w : World) (w0 : (Lit.int .i64 a0).wf = true) :
  Calls Try.prog 5 #[.int .i64 a0] w fun e w' => e = .returned (.bool true) ∧ Below w.heap.size w w' := by
 obtain ⟨k, h⟩ := P a0 w0
 refine (stowagelaw4_WhenTexts.calls k a0 true w h rfl).mono ?_
 rintro e w' ⟨rfl, hd⟩
 exact ⟨rfl, hd⟩
end Go.Proofs.Yteggifhicmbopaa.Q
