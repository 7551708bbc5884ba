/- A part of the proof of the seat's laws. No condition beyond those in the theorems. -/
import Derived.Test.YteggifhicmbopaaZQ0
import Derived.Test.YteggifhicmbopaaZQ4
import Derived.Test.YteggifhicmbopaaZQ6
import Derived.Test.YteggifhicmbopaaZQ7
import Derived.Test.YteggifhicmbopaaZQ9
import Derived.Test.YteggifhicmbopaaZQ10
import Derived.Test.YteggifhicmbopaaZQ11
import Derived.Test.YteggifhicmbopaaZQ14
import Derived.Test.YteggifhicmbopaaZQ15
import Derived.Test.YteggifhicmbopaaZQ41
import Derived.Test.YteggifhicmbopaaZQ43

namespace Go.Proofs.Yteggifhicmbopaa.Q
open Go.RowKit Go.Proofs.YteggifhicmbopaaW.PrintWords Go.Proofs.YteggifhicmbopaaW.PrintLast Go.Proofs.YteggifhicmbopaaW.PrintMore
set_option linter.unusedVariables false
set_option linter.unusedSimpArgs false
attribute [local go_sem] max2_int min2_int max_two min_two max_three min_three max_four min_four   
mutual
def stowagelaw4_WhenBack.j0 : Nat → Int → Int → Bool → Option (Bool)
 | 0, _, _, _ => none
 | k + 1, x0, x1, x34 => if x34 = true then ((when_Basic.f k x0).bind fun t368 => (if t368.toList = ([] : List UInt8) then ((stowagelaw4_awake.f k).bind fun t369 => (some t369)) else (if x0 ≥ 0 then (if x0 ≤ 253402300799 then ((stowagelaw4_awake.f k).bind fun t370 => (some t370)) else (some false)) else (some false)))) else ((when_Basic.f k x0).bind fun t371 => ((when_ParseBasic.f k t371).bind fun bt372 => ((when_Http.f k x0).bind fun t374 => ((when_ParseHttp.f k t374).bind fun bt375 => ((when_Day.f k x0).bind fun t377 => ((when_ParseDay.f k t377).bind fun bt378 => ((when_Civil.f k x0).bind fun bt380 => ((when_Of.f k bt380.1 bt380.2.1 bt380.2.2.1 bt380.2.2.2.1 bt380.2.2.2.2.1 bt380.2.2.2.2.2.1).bind fun bt387 => (if bt372.2 = true then (if bt375.2 = true then (if bt378.2 = true then (if bt380.2.2.2.2.2.2 = true then (if bt387.2 = true then (if bt372.1 = x0 then (if bt375.1 = x0 then (if bt387.1 = x0 then (if bt378.1 > x0 then (stowagelaw4_WhenBack.j1 k x0 x1 true) else (stowagelaw4_WhenBack.j1 k x0 x1 (decide ((wrap64 (x0 - bt378.1)) ≥ 86400)))) else (stowagelaw4_WhenBack.j1 k x0 x1 true)) else (stowagelaw4_WhenBack.j1 k x0 x1 true)) else (stowagelaw4_WhenBack.j1 k x0 x1 true)) else (stowagelaw4_WhenBack.j1 k x0 x1 true)) else (stowagelaw4_WhenBack.j1 k x0 x1 true)) else (stowagelaw4_WhenBack.j1 k x0 x1 true)) else (stowagelaw4_WhenBack.j1 k x0 x1 true)) else (stowagelaw4_WhenBack.j1 k x0 x1 true))))))))))
def stowagelaw4_WhenBack.j1 : Nat → Int → Int → Bool → Option (Bool)
 | 0, _, _, _ => none
 | k + 1, x0, x1, x130 => if x130 = true then (some false) else ((when_Basic.f k x0).bind fun t389 => ((when_Basic.f k x1).bind fun t390 => (if ((Op.bytesLess t389.toList t390.toList) != (decide (x0 < x1))) = true then (stowagelaw4_WhenBack.j2 k x0 true) else ((when_Iso.f k x0).bind fun t391 => ((when_Iso.f k x1).bind fun t392 => (stowagelaw4_WhenBack.j2 k x0 ((Op.bytesLess t391.toList t392.toList) != (decide (x0 < x1)))))))))
def stowagelaw4_WhenBack.j2 : Nat → Int → Bool → Option (Bool)
 | 0, _, _ => none
 | k + 1, x0, x150 => if x150 = true then (some false) else (if (wrap64 (x0 + 604800)) > 253402300799 then ((stowagelaw4_awake.f k).bind fun t393 => (some t393)) else ((when_Http.f k (wrap64 (x0 + 604800))).bind fun t394 => (if 0 ≤ 3 then (if 3 ≤ (t394.size : Int) then ((when_Http.f k x0).bind fun t395 => (if 3 ≤ (t395.size : Int) then (if (t394.extract 0 3).toList = (t395.extract 0 3).toList then ((stowagelaw4_awake.f k).bind fun t396 => (some t396)) else (some false)) else (none))) else (none)) else (none))))
end
def stowagelaw4_WhenBack.f (k : Nat) (a0 : Int) (a1 : Int) : Option (Bool) := if a0 < 0 then (stowagelaw4_WhenBack.j0 k a0 a1 true) else (if a0 > 253402300799 then (stowagelaw4_WhenBack.j0 k a0 a1 true) else (if a1 < 0 then (stowagelaw4_WhenBack.j0 k a0 a1 true) else (stowagelaw4_WhenBack.j0 k a0 a1 (decide (a1 > 253402300799)))))
theorem stowagelaw4_WhenBack.mono_l : ∀ k, (∀ y0 y1 y2, LeO (stowagelaw4_WhenBack.j0 k y0 y1 y2) (stowagelaw4_WhenBack.j0 (k + 1) y0 y1 y2)) ∧ (∀ y0 y1 y2, LeO (stowagelaw4_WhenBack.j1 k y0 y1 y2) (stowagelaw4_WhenBack.j1 (k + 1) y0 y1 y2)) ∧ (∀ y0 y1, LeO (stowagelaw4_WhenBack.j2 k y0 y1) (stowagelaw4_WhenBack.j2 (k + 1) y0 y1))
 | 0 => ⟨fun _ _ _ r h => by simp [stowagelaw4_WhenBack.j0] at h, fun _ _ _ r h => by simp [stowagelaw4_WhenBack.j1] at h, fun _ _ r h => by simp [stowagelaw4_WhenBack.j2] at h⟩
 | k + 1 => by
  obtain ⟨ih0, ih1, ih2⟩ := stowagelaw4_WhenBack.mono_l k
  refine ⟨?_, ?_, ?_⟩
  ·intro y0 y1 y2
   unfold stowagelaw4_WhenBack.j0
   repeat' first
   | (with_reducible exact ih0 _ _ _)
   | (with_reducible exact ih1 _ _ _)
   | (with_reducible exact ih2 _ _)
   | (with_reducible exact stowagelaw4_awake.mono _)
   | (with_reducible exact when_Basic.mono _ _)
   | (with_reducible exact when_Civil.mono _ _)
   | (with_reducible exact when_Day.mono _ _)
   | (with_reducible exact when_Http.mono _ _)
   | (with_reducible exact when_Iso.mono _ _)
   | (with_reducible exact when_Of.mono _ _ _ _ _ _ _)
   | (with_reducible exact when_ParseBasic.mono _ _)
   | (with_reducible exact when_ParseDay.mono _ _)
   | (with_reducible exact when_ParseHttp.mono _ _)
   | (with_reducible exact LeO.refl _)
   | (with_reducible exact LeO.none _)
   | (with_reducible refine LeO.ite ?_ ?_)
   | (with_reducible refine LeO.bind ?_ (fun _ => ?_))
   | exact ih0 _ _ _
   | exact ih1 _ _ _
   | exact ih2 _ _
   | exact stowagelaw4_awake.mono _
   | exact when_Basic.mono _ _
   | exact when_Civil.mono _ _
   | exact when_Day.mono _ _
   | exact when_Http.mono _ _
   | exact when_Iso.mono _ _
   | exact when_Of.mono _ _ _ _ _ _ _
   | exact when_ParseBasic.mono _ _
   | exact when_ParseDay.mono _ _
   | exact when_ParseHttp.mono _ _
   | exact LeO.none _
   | refine LeO.ite ?_ ?_
   | refine LeO.bind ?_ (fun _ => ?_)
  ·intro y0 y1 y2
   unfold stowagelaw4_WhenBack.j1
   repeat' first
   | (with_reducible exact ih0 _ _ _)
   | (with_reducible exact ih1 _ _ _)
   | (with_reducible exact ih2 _ _)
   | (with_reducible exact stowagelaw4_awake.mono _)
   | (with_reducible exact when_Basic.mono _ _)
   | (with_reducible exact when_Civil.mono _ _)
   | (with_reducible exact when_Day.mono _ _)
   | (with_reducible exact when_Http.mono _ _)
   | (with_reducible exact when_Iso.mono _ _)
   | (with_reducible exact when_Of.mono _ _ _ _ _ _ _)
   | (with_reducible exact when_ParseBasic.mono _ _)
   | (with_reducible exact when_ParseDay.mono _ _)
   | (with_reducible exact when_ParseHttp.mono _ _)
   | (with_reducible exact LeO.refl _)
   | (with_reducible exact LeO.none _)
   | (with_reducible refine LeO.ite ?_ ?_)
   | (with_reducible refine LeO.bind ?_ (fun _ => ?_))
   | exact ih0 _ _ _
   | exact ih1 _ _ _
   | exact ih2 _ _
   | exact stowagelaw4_awake.mono _
   | exact when_Basic.mono _ _
   | exact when_Civil.mono _ _
   | exact when_Day.mono _ _
   | exact when_Http.mono _ _
   | exact when_Iso.mono _ _
   | exact when_Of.mono _ _ _ _ _ _ _
   | exact when_ParseBasic.mono _ _
   | exact when_ParseDay.mono _ _
   | exact when_ParseHttp.mono _ _
   | exact LeO.none _
   | refine LeO.ite ?_ ?_
   | refine LeO.bind ?_ (fun _ => ?_)
  ·intro y0 y1
   unfold stowagelaw4_WhenBack.j2
   repeat' first
   | (with_reducible exact ih0 _ _ _)
   | (with_reducible exact ih1 _ _ _)
   | (with_reducible exact ih2 _ _)
   | (with_reducible exact stowagelaw4_awake.mono _)
   | (with_reducible exact when_Basic.mono _ _)
   | (with_reducible exact when_Civil.mono _ _)
   | (with_reducible exact when_Day.mono _ _)
   | (with_reducible exact when_Http.mono _ _)
   | (with_reducible exact when_Iso.mono _ _)
   | (with_reducible exact when_Of.mono _ _ _ _ _ _ _)
   | (with_reducible exact when_ParseBasic.mono _ _)
   | (with_reducible exact when_ParseDay.mono _ _)
   | (with_reducible exact when_ParseHttp.mono _ _)
   | (with_reducible exact LeO.refl _)
   | (with_reducible exact LeO.none _)
   | (with_reducible refine LeO.ite ?_ ?_)
   | (with_reducible refine LeO.bind ?_ (fun _ => ?_))
   | exact ih0 _ _ _
   | exact ih1 _ _ _
   | exact ih2 _ _
   | exact stowagelaw4_awake.mono _
   | exact when_Basic.mono _ _
   | exact when_Civil.mono _ _
   | exact when_Day.mono _ _
   | exact when_Http.mono _ _
   | exact when_Iso.mono _ _
   | exact when_Of.mono _ _ _ _ _ _ _
   | exact when_ParseBasic.mono _ _
   | exact when_ParseDay.mono _ _
   | exact when_ParseHttp.mono _ _
   | exact LeO.none _
   | refine LeO.ite ?_ ?_
   | refine LeO.bind ?_ (fun _ => ?_)
theorem stowagelaw4_WhenBack.mono : ∀ a0 a1 k, LeO (stowagelaw4_WhenBack.f k a0 a1) (stowagelaw4_WhenBack.f (k + 1) a0 a1) := by
 intro a0 a1 k
 obtain ⟨ih0, ih1, ih2⟩ := stowagelaw4_WhenBack.mono_l k
 unfold stowagelaw4_WhenBack.f
 repeat' first
   | (with_reducible exact ih0 _ _ _)
   | (with_reducible exact ih1 _ _ _)
   | (with_reducible exact ih2 _ _)
   | (with_reducible exact stowagelaw4_awake.mono _)
   | (with_reducible exact when_Basic.mono _ _)
   | (with_reducible exact when_Civil.mono _ _)
   | (with_reducible exact when_Day.mono _ _)
   | (with_reducible exact when_Http.mono _ _)
   | (with_reducible exact when_Iso.mono _ _)
   | (with_reducible exact when_Of.mono _ _ _ _ _ _ _)
   | (with_reducible exact when_ParseBasic.mono _ _)
   | (with_reducible exact when_ParseDay.mono _ _)
   | (with_reducible exact when_ParseHttp.mono _ _)
   | (with_reducible exact LeO.refl _)
   | (with_reducible exact LeO.none _)
   | (with_reducible refine LeO.ite ?_ ?_)
   | (with_reducible refine LeO.bind ?_ (fun _ => ?_))
   | exact ih0 _ _ _
   | exact ih1 _ _ _
   | exact ih2 _ _
   | exact stowagelaw4_awake.mono _
   | exact when_Basic.mono _ _
   | exact when_Civil.mono _ _
   | exact when_Day.mono _ _
   | exact when_Http.mono _ _
   | exact when_Iso.mono _ _
   | exact when_Of.mono _ _ _ _ _ _ _
   | exact when_ParseBasic.mono _ _
   | exact when_ParseDay.mono _ _
   | exact when_ParseHttp.mono _ _
   | exact LeO.none _
   | refine LeO.ite ?_ ?_
   | refine LeO.bind ?_ (fun _ => ?_)
def stowagelaw4_WhenBack.T13 : Bool × List (List Nat × List Nat) := (true, [([], []), ([0], [0]), ([1], [1]), ([2], [2]), ([3, 2, 2], [2, 3]), ([4, 2], [2, 4]), ([2], [2]), ([6, 4, 2], [2, 6]), ([7, 2], [2, 7]), ([5, 8, 2], [2, 5, 8]), ([2, 9], [2, 9]), ([10, 7], [10]), ([11, 11], [11]), ([11, 12], [11, 12]), ([13, 12, 0, 1, 2, 3, 4, 5, 6, 7, 8, 9, 10, 11, 12, 13], [13])])
def stowagelaw4_WhenBack.B13 : List Nat := [0, 1, 3, 7, 15, 31, 7, 95, 223, 511, 1023, 2047, 4095, 8191, 16383]
theorem stowagelaw4_WhenBack.tab13 : rtab .any (opsOf Try.f7 13) = stowagelaw4_WhenBack.T13 := by kernel_rfl
theorem stowagelaw4_WhenBack.bits13 : waitsOk stowagelaw4_WhenBack.T13.2 stowagelaw4_WhenBack.B13 = true := by kernel_rfl
set_option maxHeartbeats 8000000 in
set_option maxRecDepth 100000 in
theorem stowagelaw4_WhenBack.calls (k : Nat) (a0 : Int) (a1 : Int) (r : Bool) (w : World) (hG : GOk w) (h : stowagelaw4_WhenBack.f k a0 a1 = some r) (hr : r = true) :
  Calls Try.prog 7 #[.int .i64 a0, .int .i64 a1] w fun e w' => e = .returned (.bool r) ∧ Below w.heap.size w w' := by
 have HB := Aside0.mk (Below.refl w.heap.size w)
 have H : (if a0 < 0 then (stowagelaw4_WhenBack.j0 k a0 a1 true) else (if a0 > 253402300799 then (stowagelaw4_WhenBack.j0 k a0 a1 true) else (if a1 < 0 then (stowagelaw4_WhenBack.j0 k a0 a1 true) else (stowagelaw4_WhenBack.j0 k a0 a1 (decide (a1 > 253402300799)))))) = some r := h
 clear h
 have HC3 := Aside0.mk H
 clear H
 go_enter Try.func7, Try.ntmps7
 go_upto_region 1 with (fail)
 go_cut [34] (fun v34 wc => ∃ (kq : Nat) (x34_2 : Bool), v34 = .bool x34_2 ∧ Aside0 (stowagelaw4_WhenBack.j0 kq a0 a1 x34_2 = some r) ∧ Aside0 (kq ≤ k) ∧ Aside0 (Below w.heap.size w wc))
 case first =>
  have H := HC3.out
  clear HC3
  by_cases c4 : a0 < 0
  ·rw [if_pos c4] at H
   have c4b0 : decide (a0 < 0) = true := decide_eq_true c4
   clear c4
   (first | rw [c4b0] | (simp only [i64_w, i32_w]; rw [c4b0]) | skip)
   have H' := Aside0.mk H
   clear H
   go_wp2
   go_meet
   case rel => exact ⟨_, (true), (by first | rfl | (simp; done) | (simp [*]; done)), H', ⟨by first | omega | exact Nat.le_refl _⟩, ⟨by repeat (first | (with_reducible first | exact HB.out | apply below_alloc | apply pw_below_drewN | apply below_drew1) | exact HB.out)⟩⟩
  ·rw [if_neg c4] at H
   have c4b0 : decide (a0 < 0) = false := decide_eq_false c4
   clear c4
   (first | rw [c4b0] | (simp only [i64_w, i32_w]; rw [c4b0]) | skip)
   by_cases c5 : a0 > 253402300799
   ·rw [if_pos c5] at H
    have c5b0 : decide (253402300799 < a0) = true := decide_eq_true c5
    clear c5
    have H' := Aside0.mk H
    clear H
    go_wp2
    go_meet
    case rel => exact ⟨_, (true), (by first | rfl | (simp; done) | (simp [*]; done)), H', ⟨by first | omega | exact Nat.le_refl _⟩, ⟨by repeat (first | (with_reducible first | exact HB.out | apply below_alloc | apply pw_below_drewN | apply below_drew1) | exact HB.out)⟩⟩
   ·rw [if_neg c5] at H
    have c5b0 : decide (253402300799 < a0) = false := decide_eq_false c5
    clear c5
    by_cases c6 : a1 < 0
    ·rw [if_pos c6] at H
     have c6b0 : decide (a1 < 0) = true := decide_eq_true c6
     clear c6
     have H' := Aside0.mk H
     clear H
     go_wp2
     go_meet
     case rel => exact ⟨_, (true), (by first | rfl | (simp; done) | (simp [*]; done)), H', ⟨by first | omega | exact Nat.le_refl _⟩, ⟨by repeat (first | (with_reducible first | exact HB.out | apply below_alloc | apply pw_below_drewN | apply below_drew1) | exact HB.out)⟩⟩
    ·rw [if_neg c6] at H
     have c6b0 : decide (a1 < 0) = false := decide_eq_false c6
     clear c6
     have H' := Aside0.mk H
     clear H
     go_wp2
     go_meet
     case rel => exact ⟨_, (decide (a1 > 253402300799)), (by first | rfl | (simp; done) | (simp [*]; done)), H', ⟨by first | omega | exact Nat.le_refl _⟩, ⟨by repeat (first | (with_reducible first | exact HB.out | apply below_alloc | apply pw_below_drewN | apply below_drew1) | exact HB.out)⟩⟩
 case rest =>
  clear HC3
  try clear p2
  try clear c4
  try clear c4b0
  try clear c5
  try clear c5b0
  try clear c6
  try clear c6b0
  obtain ⟨kq, x34_2, rfl, HA, HJ2, HB⟩ := hcut
  cases kq with
  | zero => exact absurd HA.out (by simp [stowagelaw4_WhenBack.j0])
  | succ kj2 =>
   have H := HA.out
   clear HA
   simp only [stowagelaw4_WhenBack.j0] at H
   by_cases c7 : x34_2 = true
   ·subst c7
    have H1 : ((when_Basic.f kj2 a0).bind fun t368 => (if t368.toList = ([] : List UInt8) then ((stowagelaw4_awake.f kj2).bind fun t369 => (some t369)) else (if a0 ≥ 0 then (if a0 ≤ 253402300799 then ((stowagelaw4_awake.f kj2).bind fun t370 => (some t370)) else (some false)) else (some false)))) = some r := by rw [if_pos rfl] at H; exact H
    clear H
    have H := H1
    clear H1
    replace H := Option.bind_eq_some_iff.mp H
    obtain ⟨t368, A80, H⟩ := H
    replace H : (if t368.toList = ([] : List UInt8) then ((stowagelaw4_awake.f kj2).bind fun t369 => (some t369)) else (if a0 ≥ 0 then (if a0 ≤ 253402300799 then ((stowagelaw4_awake.f kj2).bind fun t370 => (some t370)) else (some false)) else (some false))) = some r := H
    have A8 := Aside0.mk A80
    clear A80
    by_cases c9 : t368.toList = ([] : List UInt8)
    ·rw [if_pos c9] at H
     have c9b0 : (t368.toList == ([] : List UInt8)) = true := beq_iff_eq.mpr c9
     have c9b1 : (t368.toList != ([] : List UInt8)) = false := bne_eq_false_iff_eq.mpr c9
     clear c9
     replace H := Option.bind_eq_some_iff.mp H
     obtain ⟨t369, A100, H⟩ := H
     replace H : (some t369) = some r := H
     have A10 := Aside0.mk A100
     clear A100
     clear hr
     obtain rfl := Option.some.inj H
     go_wp2_with (first | ((with_reducible refine gate_callee (f := 13) rfl ?_); refine goesL_ (some 36) rfl rfl Try.func13 (by kernel_rfl) rfl #[.int .i64 a0] rfl (by (try simp only [List.map_toArray, List.map_cons, List.map_nil]); first | done | rfl | (simp only [List.length_drop, List.length_take]; rfl)) ?_; (with_reducible refine (when_Basic.calls kj2 a0 t368 _ A8.out).mono ?_); rintro e w11 ⟨rfl, hb⟩; refine ⟨_, rfl, ?_⟩; have n0_ := Aside0.mk (below_step (by repeat (first | (with_reducible first | exact HB.out | apply below_alloc | apply pw_below_drewN | apply below_drew1) | exact HB.out)) hb); clear HB; have HB := n0_; clear n0_; (try clear hb); (try clear hb2); (try clear hk); (try clear hi)) | (go_at_call 8; (with_reducible refine (stowagelaw4_awake.calls kj2  t369 _ A10.out).mono ?_); rintro e w12 ⟨rfl, hb⟩; have n0_ := Aside0.mk (below_step (by repeat (first | (with_reducible first | exact HB.out | apply below_alloc | apply pw_below_drewN | apply below_drew1) | exact HB.out)) hb); clear HB; have HB := n0_; clear n0_; (try clear hb); (try clear hb2); (try clear hk); (try clear hi)))
     go_ret
     exact ⟨by first | rfl | (simp [errW_none, errW_some] <;> rfl) | (simp [*, errW_none, errW_some] <;> rfl), by repeat (first | (with_reducible first | exact HB.out | apply below_alloc | apply pw_below_drewN | apply below_drew1) | exact HB.out)⟩
    ·rw [if_neg c9] at H
     have c9b0 : (t368.toList == ([] : List UInt8)) = false := beq_eq_false_iff_ne.mpr c9
     have c9b1 : (t368.toList != ([] : List UInt8)) = true := bne_iff_ne.mpr c9
     by_cases c13 : a0 ≥ 0
     ·rw [if_pos c13] at H
      have c13b0 : decide (0 ≤ a0) = true := decide_eq_true c13
      clear c13
      by_cases c14 : a0 ≤ 253402300799
      ·rw [if_pos c14] at H
       have c14b0 : decide (a0 ≤ 253402300799) = true := decide_eq_true c14
       clear c14
       replace H := Option.bind_eq_some_iff.mp H
       obtain ⟨t370, A150, H⟩ := H
       replace H : (some t370) = some r := H
       have A15 := Aside0.mk A150
       clear A150
       clear hr
       obtain rfl := Option.some.inj H
       go_wp2_with (first | ((with_reducible refine gate_callee (f := 13) rfl ?_); refine goesL_ (some 36) rfl rfl Try.func13 (by kernel_rfl) rfl #[.int .i64 a0] rfl (by (try simp only [List.map_toArray, List.map_cons, List.map_nil]); first | done | rfl | (simp only [List.length_drop, List.length_take]; rfl)) ?_; (with_reducible refine (when_Basic.calls kj2 a0 t368 _ A8.out).mono ?_); rintro e w16 ⟨rfl, hb⟩; refine ⟨_, rfl, ?_⟩; have n0_ := Aside0.mk (below_step (by repeat (first | (with_reducible first | exact HB.out | apply below_alloc | apply pw_below_drewN | apply below_drew1) | exact HB.out)) hb); clear HB; have HB := n0_; clear n0_; (try clear hb); (try clear hb2); (try clear hk); (try clear hi)) | (go_at_call 8; (with_reducible refine (stowagelaw4_awake.calls kj2  t370 _ A15.out).mono ?_); rintro e w17 ⟨rfl, hb⟩; have n0_ := Aside0.mk (below_step (by repeat (first | (with_reducible first | exact HB.out | apply below_alloc | apply pw_below_drewN | apply below_drew1) | exact HB.out)) hb); clear HB; have HB := n0_; clear n0_; (try clear hb); (try clear hb2); (try clear hk); (try clear hi)))
       go_ret
       exact ⟨by first | rfl | (simp [errW_none, errW_some] <;> rfl) | (simp [*, errW_none, errW_some] <;> rfl), by repeat (first | (with_reducible first | exact HB.out | apply below_alloc | apply pw_below_drewN | apply below_drew1) | exact HB.out)⟩
      ·rw [if_neg c14] at H
       have c14b0 : decide (a0 ≤ 253402300799) = false := decide_eq_false c14
       clear c14
       rw [hr] at H
       exact absurd H (by simp)
     ·rw [if_neg c13] at H
      have c13b0 : decide (0 ≤ a0) = false := decide_eq_false c13
      clear c13
      rw [hr] at H
      exact absurd H (by simp)
   ·replace c7 := Bool.eq_false_iff.mpr c7
    subst c7
    have H1 : ((when_Basic.f kj2 a0).bind fun t371 => ((when_ParseBasic.f kj2 t371).bind fun bt372 => ((when_Http.f kj2 a0).bind fun t374 => ((when_ParseHttp.f kj2 t374).bind fun bt375 => ((when_Day.f kj2 a0).bind fun t377 => ((when_ParseDay.f kj2 t377).bind fun bt378 => ((when_Civil.f kj2 a0).bind fun bt380 => ((when_Of.f kj2 bt380.1 bt380.2.1 bt380.2.2.1 bt380.2.2.2.1 bt380.2.2.2.2.1 bt380.2.2.2.2.2.1).bind fun bt387 => (if bt372.2 = true then (if bt375.2 = true then (if bt378.2 = true then (if bt380.2.2.2.2.2.2 = true then (if bt387.2 = true then (if bt372.1 = a0 then (if bt375.1 = a0 then (if bt387.1 = a0 then (if bt378.1 > a0 then (stowagelaw4_WhenBack.j1 kj2 a0 a1 true) else (stowagelaw4_WhenBack.j1 kj2 a0 a1 (decide ((wrap64 (a0 - bt378.1)) ≥ 86400)))) else (stowagelaw4_WhenBack.j1 kj2 a0 a1 true)) else (stowagelaw4_WhenBack.j1 kj2 a0 a1 true)) else (stowagelaw4_WhenBack.j1 kj2 a0 a1 true)) else (stowagelaw4_WhenBack.j1 kj2 a0 a1 true)) else (stowagelaw4_WhenBack.j1 kj2 a0 a1 true)) else (stowagelaw4_WhenBack.j1 kj2 a0 a1 true)) else (stowagelaw4_WhenBack.j1 kj2 a0 a1 true)) else (stowagelaw4_WhenBack.j1 kj2 a0 a1 true)))))))))) = some r := by rw [if_neg (show ¬ (false = true) by decide)] at H; exact H
    clear H
    have H := H1
    clear H1
    replace H := Option.bind_eq_some_iff.mp H
    obtain ⟨t371, A180, H⟩ := H
    replace H : ((when_ParseBasic.f kj2 t371).bind fun bt372 => ((when_Http.f kj2 a0).bind fun t374 => ((when_ParseHttp.f kj2 t374).bind fun bt375 => ((when_Day.f kj2 a0).bind fun t377 => ((when_ParseDay.f kj2 t377).bind fun bt378 => ((when_Civil.f kj2 a0).bind fun bt380 => ((when_Of.f kj2 bt380.1 bt380.2.1 bt380.2.2.1 bt380.2.2.2.1 bt380.2.2.2.2.1 bt380.2.2.2.2.2.1).bind fun bt387 => (if bt372.2 = true then (if bt375.2 = true then (if bt378.2 = true then (if bt380.2.2.2.2.2.2 = true then (if bt387.2 = true then (if bt372.1 = a0 then (if bt375.1 = a0 then (if bt387.1 = a0 then (if bt378.1 > a0 then (stowagelaw4_WhenBack.j1 kj2 a0 a1 true) else (stowagelaw4_WhenBack.j1 kj2 a0 a1 (decide ((wrap64 (a0 - bt378.1)) ≥ 86400)))) else (stowagelaw4_WhenBack.j1 kj2 a0 a1 true)) else (stowagelaw4_WhenBack.j1 kj2 a0 a1 true)) else (stowagelaw4_WhenBack.j1 kj2 a0 a1 true)) else (stowagelaw4_WhenBack.j1 kj2 a0 a1 true)) else (stowagelaw4_WhenBack.j1 kj2 a0 a1 true)) else (stowagelaw4_WhenBack.j1 kj2 a0 a1 true)) else (stowagelaw4_WhenBack.j1 kj2 a0 a1 true)) else (stowagelaw4_WhenBack.j1 kj2 a0 a1 true))))))))) = some r := H
    have A18 := Aside0.mk A180
    clear A180
    replace H := Option.bind_eq_some_iff.mp H
    obtain ⟨⟨t372, t373⟩, A190, H⟩ := H
    replace H : ((when_Http.f kj2 a0).bind fun t374 => ((when_ParseHttp.f kj2 t374).bind fun bt375 => ((when_Day.f kj2 a0).bind fun t377 => ((when_ParseDay.f kj2 t377).bind fun bt378 => ((when_Civil.f kj2 a0).bind fun bt380 => ((when_Of.f kj2 bt380.1 bt380.2.1 bt380.2.2.1 bt380.2.2.2.1 bt380.2.2.2.2.1 bt380.2.2.2.2.2.1).bind fun bt387 => (if t373 = true then (if bt375.2 = true then (if bt378.2 = true then (if bt380.2.2.2.2.2.2 = true then (if bt387.2 = true then (if t372 = a0 then (if bt375.1 = a0 then (if bt387.1 = a0 then (if bt378.1 > a0 then (stowagelaw4_WhenBack.j1 kj2 a0 a1 true) else (stowagelaw4_WhenBack.j1 kj2 a0 a1 (decide ((wrap64 (a0 - bt378.1)) ≥ 86400)))) else (stowagelaw4_WhenBack.j1 kj2 a0 a1 true)) else (stowagelaw4_WhenBack.j1 kj2 a0 a1 true)) else (stowagelaw4_WhenBack.j1 kj2 a0 a1 true)) else (stowagelaw4_WhenBack.j1 kj2 a0 a1 true)) else (stowagelaw4_WhenBack.j1 kj2 a0 a1 true)) else (stowagelaw4_WhenBack.j1 kj2 a0 a1 true)) else (stowagelaw4_WhenBack.j1 kj2 a0 a1 true)) else (stowagelaw4_WhenBack.j1 kj2 a0 a1 true)))))))) = some r := H
    have A19 := Aside0.mk A190
    clear A190
    replace H := Option.bind_eq_some_iff.mp H
    obtain ⟨t374, A200, H⟩ := H
    replace H : ((when_ParseHttp.f kj2 t374).bind fun bt375 => ((when_Day.f kj2 a0).bind fun t377 => ((when_ParseDay.f kj2 t377).bind fun bt378 => ((when_Civil.f kj2 a0).bind fun bt380 => ((when_Of.f kj2 bt380.1 bt380.2.1 bt380.2.2.1 bt380.2.2.2.1 bt380.2.2.2.2.1 bt380.2.2.2.2.2.1).bind fun bt387 => (if t373 = true then (if bt375.2 = true then (if bt378.2 = true then (if bt380.2.2.2.2.2.2 = true then (if bt387.2 = true then (if t372 = a0 then (if bt375.1 = a0 then (if bt387.1 = a0 then (if bt378.1 > a0 then (stowagelaw4_WhenBack.j1 kj2 a0 a1 true) else (stowagelaw4_WhenBack.j1 kj2 a0 a1 (decide ((wrap64 (a0 - bt378.1)) ≥ 86400)))) else (stowagelaw4_WhenBack.j1 kj2 a0 a1 true)) else (stowagelaw4_WhenBack.j1 kj2 a0 a1 true)) else (stowagelaw4_WhenBack.j1 kj2 a0 a1 true)) else (stowagelaw4_WhenBack.j1 kj2 a0 a1 true)) else (stowagelaw4_WhenBack.j1 kj2 a0 a1 true)) else (stowagelaw4_WhenBack.j1 kj2 a0 a1 true)) else (stowagelaw4_WhenBack.j1 kj2 a0 a1 true)) else (stowagelaw4_WhenBack.j1 kj2 a0 a1 true))))))) = some r := H
    have A20 := Aside0.mk A200
    clear A200
    replace H := Option.bind_eq_some_iff.mp H
    obtain ⟨⟨t375, t376⟩, A210, H⟩ := H
    replace H : ((when_Day.f kj2 a0).bind fun t377 => ((when_ParseDay.f kj2 t377).bind fun bt378 => ((when_Civil.f kj2 a0).bind fun bt380 => ((when_Of.f kj2 bt380.1 bt380.2.1 bt380.2.2.1 bt380.2.2.2.1 bt380.2.2.2.2.1 bt380.2.2.2.2.2.1).bind fun bt387 => (if t373 = true then (if t376 = true then (if bt378.2 = true then (if bt380.2.2.2.2.2.2 = true then (if bt387.2 = true then (if t372 = a0 then (if t375 = a0 then (if bt387.1 = a0 then (if bt378.1 > a0 then (stowagelaw4_WhenBack.j1 kj2 a0 a1 true) else (stowagelaw4_WhenBack.j1 kj2 a0 a1 (decide ((wrap64 (a0 - bt378.1)) ≥ 86400)))) else (stowagelaw4_WhenBack.j1 kj2 a0 a1 true)) else (stowagelaw4_WhenBack.j1 kj2 a0 a1 true)) else (stowagelaw4_WhenBack.j1 kj2 a0 a1 true)) else (stowagelaw4_WhenBack.j1 kj2 a0 a1 true)) else (stowagelaw4_WhenBack.j1 kj2 a0 a1 true)) else (stowagelaw4_WhenBack.j1 kj2 a0 a1 true)) else (stowagelaw4_WhenBack.j1 kj2 a0 a1 true)) else (stowagelaw4_WhenBack.j1 kj2 a0 a1 true)))))) = some r := H
    have A21 := Aside0.mk A210
    clear A210
    replace H := Option.bind_eq_some_iff.mp H
    obtain ⟨t377, A220, H⟩ := H
    replace H : ((when_ParseDay.f kj2 t377).bind fun bt378 => ((when_Civil.f kj2 a0).bind fun bt380 => ((when_Of.f kj2 bt380.1 bt380.2.1 bt380.2.2.1 bt380.2.2.2.1 bt380.2.2.2.2.1 bt380.2.2.2.2.2.1).bind fun bt387 => (if t373 = true then (if t376 = true then (if bt378.2 = true then (if bt380.2.2.2.2.2.2 = true then (if bt387.2 = true then (if t372 = a0 then (if t375 = a0 then (if bt387.1 = a0 then (if bt378.1 > a0 then (stowagelaw4_WhenBack.j1 kj2 a0 a1 true) else (stowagelaw4_WhenBack.j1 kj2 a0 a1 (decide ((wrap64 (a0 - bt378.1)) ≥ 86400)))) else (stowagelaw4_WhenBack.j1 kj2 a0 a1 true)) else (stowagelaw4_WhenBack.j1 kj2 a0 a1 true)) else (stowagelaw4_WhenBack.j1 kj2 a0 a1 true)) else (stowagelaw4_WhenBack.j1 kj2 a0 a1 true)) else (stowagelaw4_WhenBack.j1 kj2 a0 a1 true)) else (stowagelaw4_WhenBack.j1 kj2 a0 a1 true)) else (stowagelaw4_WhenBack.j1 kj2 a0 a1 true)) else (stowagelaw4_WhenBack.j1 kj2 a0 a1 true))))) = some r := H
    have A22 := Aside0.mk A220
    clear A220
    replace H := Option.bind_eq_some_iff.mp H
    obtain ⟨⟨t378, t379⟩, A230, H⟩ := H
    replace H : ((when_Civil.f kj2 a0).bind fun bt380 => ((when_Of.f kj2 bt380.1 bt380.2.1 bt380.2.2.1 bt380.2.2.2.1 bt380.2.2.2.2.1 bt380.2.2.2.2.2.1).bind fun bt387 => (if t373 = true then (if t376 = true then (if t379 = true then (if bt380.2.2.2.2.2.2 = true then (if bt387.2 = true then (if t372 = a0 then (if t375 = a0 then (if bt387.1 = a0 then (if t378 > a0 then (stowagelaw4_WhenBack.j1 kj2 a0 a1 true) else (stowagelaw4_WhenBack.j1 kj2 a0 a1 (decide ((wrap64 (a0 - t378)) ≥ 86400)))) else (stowagelaw4_WhenBack.j1 kj2 a0 a1 true)) else (stowagelaw4_WhenBack.j1 kj2 a0 a1 true)) else (stowagelaw4_WhenBack.j1 kj2 a0 a1 true)) else (stowagelaw4_WhenBack.j1 kj2 a0 a1 true)) else (stowagelaw4_WhenBack.j1 kj2 a0 a1 true)) else (stowagelaw4_WhenBack.j1 kj2 a0 a1 true)) else (stowagelaw4_WhenBack.j1 kj2 a0 a1 true)) else (stowagelaw4_WhenBack.j1 kj2 a0 a1 true)))) = some r := H
    have A23 := Aside0.mk A230
    clear A230
    replace H := Option.bind_eq_some_iff.mp H
    obtain ⟨⟨t380, t381, t382, t383, t384, t385, t386⟩, A240, H⟩ := H
    replace H : ((when_Of.f kj2 t380 t381 t382 t383 t384 t385).bind fun bt387 => (if t373 = true then (if t376 = true then (if t379 = true then (if t386 = true then (if bt387.2 = true then (if t372 = a0 then (if t375 = a0 then (if bt387.1 = a0 then (if t378 > a0 then (stowagelaw4_WhenBack.j1 kj2 a0 a1 true) else (stowagelaw4_WhenBack.j1 kj2 a0 a1 (decide ((wrap64 (a0 - t378)) ≥ 86400)))) else (stowagelaw4_WhenBack.j1 kj2 a0 a1 true)) else (stowagelaw4_WhenBack.j1 kj2 a0 a1 true)) else (stowagelaw4_WhenBack.j1 kj2 a0 a1 true)) else (stowagelaw4_WhenBack.j1 kj2 a0 a1 true)) else (stowagelaw4_WhenBack.j1 kj2 a0 a1 true)) else (stowagelaw4_WhenBack.j1 kj2 a0 a1 true)) else (stowagelaw4_WhenBack.j1 kj2 a0 a1 true)) else (stowagelaw4_WhenBack.j1 kj2 a0 a1 true))) = some r := H
    have A24 := Aside0.mk A240
    clear A240
    replace H := Option.bind_eq_some_iff.mp H
    obtain ⟨⟨t387, t388⟩, A250, H⟩ := H
    replace H : (if t373 = true then (if t376 = true then (if t379 = true then (if t386 = true then (if t388 = true then (if t372 = a0 then (if t375 = a0 then (if t387 = a0 then (if t378 > a0 then (stowagelaw4_WhenBack.j1 kj2 a0 a1 true) else (stowagelaw4_WhenBack.j1 kj2 a0 a1 (decide ((wrap64 (a0 - t378)) ≥ 86400)))) else (stowagelaw4_WhenBack.j1 kj2 a0 a1 true)) else (stowagelaw4_WhenBack.j1 kj2 a0 a1 true)) else (stowagelaw4_WhenBack.j1 kj2 a0 a1 true)) else (stowagelaw4_WhenBack.j1 kj2 a0 a1 true)) else (stowagelaw4_WhenBack.j1 kj2 a0 a1 true)) else (stowagelaw4_WhenBack.j1 kj2 a0 a1 true)) else (stowagelaw4_WhenBack.j1 kj2 a0 a1 true)) else (stowagelaw4_WhenBack.j1 kj2 a0 a1 true)) = some r := H
    have A25 := Aside0.mk A250
    clear A250
    have HC26 := Aside0.mk H
    clear H
    go_upto_region 8 with (first | ((with_reducible refine gate_callee (f := 13) rfl ?_); refine goesL_ (some 51) rfl rfl Try.func13 (by kernel_rfl) rfl #[.int .i64 a0] rfl (by (try simp only [List.map_toArray, List.map_cons, List.map_nil]); first | done | rfl | (simp only [List.length_drop, List.length_take]; rfl)) ?_; (with_reducible refine (when_Basic.calls kj2 a0 t371 _ A18.out).mono ?_); rintro e w27 ⟨rfl, hb⟩; refine ⟨_, rfl, ?_⟩; have n0_ := Aside0.mk (below_step (by repeat (first | (with_reducible first | exact HB.out | apply below_alloc | apply pw_below_drewN | apply below_drew1) | exact HB.out)) hb); clear HB; have HB := n0_; clear n0_; (try clear hb); (try clear hb2); (try clear hk); (try clear hi)) | ((with_reducible refine gate_callee (f := 21) rfl ?_); refine goesL_ (some 52) rfl rfl Try.func21 (by kernel_rfl) rfl #[.string t371] rfl (by (try simp only [List.map_toArray, List.map_cons, List.map_nil]); first | done | rfl | (simp only [List.length_drop, List.length_take]; rfl)) ?_; (with_reducible refine (when_ParseBasic.calls kj2 t371 t372 t373 _ A19.out).mono ?_); rintro e w28 ⟨rfl, hb⟩; refine ⟨_, rfl, ?_⟩; have n0_ := Aside0.mk (below_step (by repeat (first | (with_reducible first | exact HB.out | apply below_alloc | apply pw_below_drewN | apply below_drew1) | exact HB.out)) hb); clear HB; have HB := n0_; clear n0_; (try clear hb); (try clear hb2); (try clear hk); (try clear hi)) | ((with_reducible refine gate_callee (f := 19) rfl ?_); refine goesL_ (some 57) rfl rfl Try.func19 (by kernel_rfl) rfl #[.int .i64 a0] rfl (by (try simp only [List.map_toArray, List.map_cons, List.map_nil]); first | done | rfl | (simp only [List.length_drop, List.length_take]; rfl)) ?_; (with_reducible refine (when_Http.calls kj2 a0 t374 _ A20.out).mono ?_); rintro e w29 ⟨rfl, hb⟩; refine ⟨_, rfl, ?_⟩; have n0_ := Aside0.mk (below_step (by repeat (first | (with_reducible first | exact HB.out | apply below_alloc | apply pw_below_drewN | apply below_drew1) | exact HB.out)) hb); clear HB; have HB := n0_; clear n0_; (try clear hb); (try clear hb2); (try clear hk); (try clear hi)) | ((with_reducible refine gate_callee (f := 23) rfl ?_); refine goesL_ (some 58) rfl rfl Try.func23 (by kernel_rfl) rfl #[.string t374] rfl (by (try simp only [List.map_toArray, List.map_cons, List.map_nil]); first | done | rfl | (simp only [List.length_drop, List.length_take]; rfl)) ?_; (with_reducible refine (when_ParseHttp.calls kj2 t374 t375 t376 _ (by first | exact hG | exact gok_drewN hG _ | exact gok_below hG (by repeat (first | exact HB.out | exact HBW.out | exact Below.refl _ _ | apply below_alloc | apply pw_below_drewN | apply below_drew1))) A21.out).mono ?_); rintro e w30 ⟨rfl, hb⟩; refine ⟨_, rfl, ?_⟩; have n0_ := Aside0.mk (below_step (by repeat (first | (with_reducible first | exact HB.out | apply below_alloc | apply pw_below_drewN | apply below_drew1) | exact HB.out)) hb); clear HB; have HB := n0_; clear n0_; (try clear hb); (try clear hb2); (try clear hk); (try clear hi)) | ((with_reducible refine gate_callee (f := 15) rfl ?_); refine goesL_ (some 63) rfl rfl Try.func15 (by kernel_rfl) rfl #[.int .i64 a0] rfl (by (try simp only [List.map_toArray, List.map_cons, List.map_nil]); first | done | rfl | (simp only [List.length_drop, List.length_take]; rfl)) ?_; (with_reducible refine (when_Day.calls kj2 a0 t377 _ A22.out).mono ?_); rintro e w31 ⟨rfl, hb⟩; refine ⟨_, rfl, ?_⟩; have n0_ := Aside0.mk (below_step (by repeat (first | (with_reducible first | exact HB.out | apply below_alloc | apply pw_below_drewN | apply below_drew1) | exact HB.out)) hb); clear HB; have HB := n0_; clear n0_; (try clear hb); (try clear hb2); (try clear hk); (try clear hi)) | ((with_reducible refine gate_callee (f := 25) rfl ?_); refine goesL_ (some 64) rfl rfl Try.func25 (by kernel_rfl) rfl #[.string t377] rfl (by (try simp only [List.map_toArray, List.map_cons, List.map_nil]); first | done | rfl | (simp only [List.length_drop, List.length_take]; rfl)) ?_; (with_reducible refine (when_ParseDay.calls kj2 t377 t378 t379 _ A23.out).mono ?_); rintro e w32 ⟨rfl, hb⟩; refine ⟨_, rfl, ?_⟩; have n0_ := Aside0.mk (below_step (by repeat (first | (with_reducible first | exact HB.out | apply below_alloc | apply pw_below_drewN | apply below_drew1) | exact HB.out)) hb); clear HB; have HB := n0_; clear n0_; (try clear hb); (try clear hb2); (try clear hk); (try clear hi)) | ((with_reducible refine gate_callee (f := 9) rfl ?_); refine goesL_ (some 69) rfl rfl Try.func9 (by kernel_rfl) rfl #[.int .i64 a0] rfl (by (try simp only [List.map_toArray, List.map_cons, List.map_nil]); first | done | rfl | (simp only [List.length_drop, List.length_take]; rfl)) ?_; (with_reducible refine (when_Civil.calls kj2 a0 t380 t381 t382 t383 t384 t385 t386 _ A24.out).mono ?_); rintro e w' ⟨rfl, ⟨nd, rfl⟩⟩; refine ⟨_, rfl, ?_⟩) | ((with_reducible refine gate_callee (f := 11) rfl ?_); refine goesL_ (some 84) rfl rfl Try.func11 (by kernel_rfl) rfl #[.int .i64 t380, .int .i64 t381, .int .i64 t382, .int .i64 t383, .int .i64 t384, .int .i64 t385] rfl (by (try simp only [List.map_toArray, List.map_cons, List.map_nil]); first | done | rfl | (simp only [List.length_drop, List.length_take]; rfl)) ?_; (with_reducible refine (when_Of.calls kj2 t380 t381 t382 t383 t384 t385 t387 t388 _ A25.out).mono ?_); rintro e w' ⟨rfl, ⟨nd, rfl⟩⟩; refine ⟨_, rfl, ?_⟩))
    (try simp only [Act.put, List.setIfInBounds_toArray, List.set_cons_zero, List.set_cons_succ])
    go_cut [130] (fun v130 wc => ∃ (kq : Nat) (x130_25 : Bool), v130 = .bool x130_25 ∧ Aside0 (stowagelaw4_WhenBack.j1 kq a0 a1 x130_25 = some r) ∧ Aside0 (kq ≤ kj2) ∧ Aside0 (Below w.heap.size w wc))
    case first =>
     have H := HC26.out
     clear HC26
     by_cases c33 : t373 = true
     ·subst c33
      have H1 : (if t376 = true then (if t379 = true then (if t386 = true then (if t388 = true then (if t372 = a0 then (if t375 = a0 then (if t387 = a0 then (if t378 > a0 then (stowagelaw4_WhenBack.j1 kj2 a0 a1 true) else (stowagelaw4_WhenBack.j1 kj2 a0 a1 (decide ((wrap64 (a0 - t378)) ≥ 86400)))) else (stowagelaw4_WhenBack.j1 kj2 a0 a1 true)) else (stowagelaw4_WhenBack.j1 kj2 a0 a1 true)) else (stowagelaw4_WhenBack.j1 kj2 a0 a1 true)) else (stowagelaw4_WhenBack.j1 kj2 a0 a1 true)) else (stowagelaw4_WhenBack.j1 kj2 a0 a1 true)) else (stowagelaw4_WhenBack.j1 kj2 a0 a1 true)) else (stowagelaw4_WhenBack.j1 kj2 a0 a1 true)) = some r := by rw [if_pos rfl] at H; exact H
      clear H
      have H := H1
      clear H1
      by_cases c34 : t376 = true
      ·subst c34
       have H1 : (if t379 = true then (if t386 = true then (if t388 = true then (if t372 = a0 then (if t375 = a0 then (if t387 = a0 then (if t378 > a0 then (stowagelaw4_WhenBack.j1 kj2 a0 a1 true) else (stowagelaw4_WhenBack.j1 kj2 a0 a1 (decide ((wrap64 (a0 - t378)) ≥ 86400)))) else (stowagelaw4_WhenBack.j1 kj2 a0 a1 true)) else (stowagelaw4_WhenBack.j1 kj2 a0 a1 true)) else (stowagelaw4_WhenBack.j1 kj2 a0 a1 true)) else (stowagelaw4_WhenBack.j1 kj2 a0 a1 true)) else (stowagelaw4_WhenBack.j1 kj2 a0 a1 true)) else (stowagelaw4_WhenBack.j1 kj2 a0 a1 true)) = some r := by rw [if_pos rfl] at H; exact H
       clear H
       have H := H1
       clear H1
       by_cases c35 : t379 = true
       ·subst c35
        have H1 : (if t386 = true then (if t388 = true then (if t372 = a0 then (if t375 = a0 then (if t387 = a0 then (if t378 > a0 then (stowagelaw4_WhenBack.j1 kj2 a0 a1 true) else (stowagelaw4_WhenBack.j1 kj2 a0 a1 (decide ((wrap64 (a0 - t378)) ≥ 86400)))) else (stowagelaw4_WhenBack.j1 kj2 a0 a1 true)) else (stowagelaw4_WhenBack.j1 kj2 a0 a1 true)) else (stowagelaw4_WhenBack.j1 kj2 a0 a1 true)) else (stowagelaw4_WhenBack.j1 kj2 a0 a1 true)) else (stowagelaw4_WhenBack.j1 kj2 a0 a1 true)) = some r := by rw [if_pos rfl] at H; exact H
        clear H
        have H := H1
        clear H1
        by_cases c36 : t386 = true
        ·subst c36
         have H1 : (if t388 = true then (if t372 = a0 then (if t375 = a0 then (if t387 = a0 then (if t378 > a0 then (stowagelaw4_WhenBack.j1 kj2 a0 a1 true) else (stowagelaw4_WhenBack.j1 kj2 a0 a1 (decide ((wrap64 (a0 - t378)) ≥ 86400)))) else (stowagelaw4_WhenBack.j1 kj2 a0 a1 true)) else (stowagelaw4_WhenBack.j1 kj2 a0 a1 true)) else (stowagelaw4_WhenBack.j1 kj2 a0 a1 true)) else (stowagelaw4_WhenBack.j1 kj2 a0 a1 true)) = some r := by rw [if_pos rfl] at H; exact H
         clear H
         have H := H1
         clear H1
         by_cases c37 : t388 = true
         ·subst c37
          have H1 : (if t372 = a0 then (if t375 = a0 then (if t387 = a0 then (if t378 > a0 then (stowagelaw4_WhenBack.j1 kj2 a0 a1 true) else (stowagelaw4_WhenBack.j1 kj2 a0 a1 (decide ((wrap64 (a0 - t378)) ≥ 86400)))) else (stowagelaw4_WhenBack.j1 kj2 a0 a1 true)) else (stowagelaw4_WhenBack.j1 kj2 a0 a1 true)) else (stowagelaw4_WhenBack.j1 kj2 a0 a1 true)) = some r := by rw [if_pos rfl] at H; exact H
          clear H
          have H := H1
          clear H1
          by_cases c38 : t372 = a0
          ·rw [if_pos c38] at H
           have c38b0 : (t372 == a0) = true := beq_iff_eq.mpr c38
           have c38b1 : (t372 != a0) = false := bne_eq_false_iff_eq.mpr c38
           clear c38
           (first | rw [c38b0] | (simp only [i64_w, i32_w]; rw [c38b0]) | skip)
           by_cases c39 : t375 = a0
           ·rw [if_pos c39] at H
            have c39b0 : (t375 == a0) = true := beq_iff_eq.mpr c39
            have c39b1 : (t375 != a0) = false := bne_eq_false_iff_eq.mpr c39
            clear c39
            by_cases c40 : t387 = a0
            ·rw [if_pos c40] at H
             have c40b0 : (t387 == a0) = true := beq_iff_eq.mpr c40
             have c40b1 : (t387 != a0) = false := bne_eq_false_iff_eq.mpr c40
             clear c40
             by_cases c41 : t378 > a0
             ·rw [if_pos c41] at H
              have c41b0 : decide (a0 < t378) = true := decide_eq_true c41
              clear c41
              have H' := Aside0.mk H
              clear H
              go_wp2
              go_meet
              case rel => exact ⟨_, (true), (by first | rfl | (simp; done) | (simp [*]; done)), H', ⟨by have := HJ2.out; first | omega | exact Nat.le_refl _⟩, ⟨by repeat (first | (with_reducible first | exact HB.out | apply below_alloc | apply pw_below_drewN | apply below_drew1) | exact HB.out)⟩⟩
             ·rw [if_neg c41] at H
              have c41b0 : decide (a0 < t378) = false := decide_eq_false c41
              clear c41
              have H' := Aside0.mk H
              clear H
              go_wp2
              go_meet
              case rel => exact ⟨_, (decide ((wrap64 (a0 - t378)) ≥ 86400)), (by first | rfl | (simp; done) | (simp [*]; done)), H', ⟨by have := HJ2.out; first | omega | exact Nat.le_refl _⟩, ⟨by repeat (first | (with_reducible first | exact HB.out | apply below_alloc | apply pw_below_drewN | apply below_drew1) | exact HB.out)⟩⟩
            ·rw [if_neg c40] at H
             have c40b0 : (t387 == a0) = false := beq_eq_false_iff_ne.mpr c40
             have c40b1 : (t387 != a0) = true := bne_iff_ne.mpr c40
             have H' := Aside0.mk H
             clear H
             go_wp2
             go_meet
             case rel => exact ⟨_, (true), (by first | rfl | (simp; done) | (simp [*]; done)), H', ⟨by have := HJ2.out; first | omega | exact Nat.le_refl _⟩, ⟨by repeat (first | (with_reducible first | exact HB.out | apply below_alloc | apply pw_below_drewN | apply below_drew1) | exact HB.out)⟩⟩
           ·rw [if_neg c39] at H
            have c39b0 : (t375 == a0) = false := beq_eq_false_iff_ne.mpr c39
            have c39b1 : (t375 != a0) = true := bne_iff_ne.mpr c39
            have H' := Aside0.mk H
            clear H
            go_wp2
            go_meet
            case rel => exact ⟨_, (true), (by first | rfl | (simp; done) | (simp [*]; done)), H', ⟨by have := HJ2.out; first | omega | exact Nat.le_refl _⟩, ⟨by repeat (first | (with_reducible first | exact HB.out | apply below_alloc | apply pw_below_drewN | apply below_drew1) | exact HB.out)⟩⟩
          ·rw [if_neg c38] at H
           have c38b0 : (t372 == a0) = false := beq_eq_false_iff_ne.mpr c38
           have c38b1 : (t372 != a0) = true := bne_iff_ne.mpr c38
           (first | rw [c38b0] | (simp only [i64_w, i32_w]; rw [c38b0]) | skip)
           have H' := Aside0.mk H
           clear H
           go_wp2
           go_meet
           case rel => exact ⟨_, (true), (by first | rfl | (simp; done) | (simp [*]; done)), H', ⟨by have := HJ2.out; first | omega | exact Nat.le_refl _⟩, ⟨by repeat (first | (with_reducible first | exact HB.out | apply below_alloc | apply pw_below_drewN | apply below_drew1) | exact HB.out)⟩⟩
         ·replace c37 := Bool.eq_false_iff.mpr c37
          subst c37
          have H1 : (stowagelaw4_WhenBack.j1 kj2 a0 a1 true) = some r := by rw [if_neg (show ¬ (false = true) by decide)] at H; exact H
          clear H
          have H := H1
          clear H1
          have H' := Aside0.mk H
          clear H
          go_wp2
          go_meet
          case rel => exact ⟨_, (true), (by first | rfl | (simp; done) | (simp [*]; done)), H', ⟨by have := HJ2.out; first | omega | exact Nat.le_refl _⟩, ⟨by repeat (first | (with_reducible first | exact HB.out | apply below_alloc | apply pw_below_drewN | apply below_drew1) | exact HB.out)⟩⟩
        ·replace c36 := Bool.eq_false_iff.mpr c36
         subst c36
         have H1 : (stowagelaw4_WhenBack.j1 kj2 a0 a1 true) = some r := by rw [if_neg (show ¬ (false = true) by decide)] at H; exact H
         clear H
         have H := H1
         clear H1
         have H' := Aside0.mk H
         clear H
         go_wp2
         go_meet
         case rel => exact ⟨_, (true), (by first | rfl | (simp; done) | (simp [*]; done)), H', ⟨by have := HJ2.out; first | omega | exact Nat.le_refl _⟩, ⟨by repeat (first | (with_reducible first | exact HB.out | apply below_alloc | apply pw_below_drewN | apply below_drew1) | exact HB.out)⟩⟩
       ·replace c35 := Bool.eq_false_iff.mpr c35
        subst c35
        have H1 : (stowagelaw4_WhenBack.j1 kj2 a0 a1 true) = some r := by rw [if_neg (show ¬ (false = true) by decide)] at H; exact H
        clear H
        have H := H1
        clear H1
        have H' := Aside0.mk H
        clear H
        go_wp2
        go_meet
        case rel => exact ⟨_, (true), (by first | rfl | (simp; done) | (simp [*]; done)), H', ⟨by have := HJ2.out; first | omega | exact Nat.le_refl _⟩, ⟨by repeat (first | (with_reducible first | exact HB.out | apply below_alloc | apply pw_below_drewN | apply below_drew1) | exact HB.out)⟩⟩
      ·replace c34 := Bool.eq_false_iff.mpr c34
       subst c34
       have H1 : (stowagelaw4_WhenBack.j1 kj2 a0 a1 true) = some r := by rw [if_neg (show ¬ (false = true) by decide)] at H; exact H
       clear H
       have H := H1
       clear H1
       have H' := Aside0.mk H
       clear H
       go_wp2
       go_meet
       case rel => exact ⟨_, (true), (by first | rfl | (simp; done) | (simp [*]; done)), H', ⟨by have := HJ2.out; first | omega | exact Nat.le_refl _⟩, ⟨by repeat (first | (with_reducible first | exact HB.out | apply below_alloc | apply pw_below_drewN | apply below_drew1) | exact HB.out)⟩⟩
     ·replace c33 := Bool.eq_false_iff.mpr c33
      subst c33
      have H1 : (stowagelaw4_WhenBack.j1 kj2 a0 a1 true) = some r := by rw [if_neg (show ¬ (false = true) by decide)] at H; exact H
      clear H
      have H := H1
      clear H1
      have H' := Aside0.mk H
      clear H
      go_wp2
      go_meet
      case rel => exact ⟨_, (true), (by first | rfl | (simp; done) | (simp [*]; done)), H', ⟨by have := HJ2.out; first | omega | exact Nat.le_refl _⟩, ⟨by repeat (first | (with_reducible first | exact HB.out | apply below_alloc | apply pw_below_drewN | apply below_drew1) | exact HB.out)⟩⟩
    case rest =>
     clear HC26
     try clear c1
     try clear c2
     try clear p2
     try clear c3
     try clear c4
     try clear c4b0
     try clear c5
     try clear c5b0
     try clear c6
     try clear c6b0
     try clear p6
     try clear c7
     try clear c9
     try clear c9b0
     try clear c9b1
     try clear c11
     try clear c13
     try clear c13b0
     try clear c14
     try clear c14b0
     try clear c15
     try clear c19
     try clear c21
     try clear c23
     try clear c25
     try clear c33
     try clear c34
     try clear c35
     try clear c36
     try clear c37
     try clear c38
     try clear c38b0
     try clear c38b1
     try clear c39
     try clear c39b0
     try clear c39b1
     try clear c40
     try clear c40b0
     try clear c40b1
     try clear c41
     try clear c41b0
     try clear p2
     obtain ⟨kq, x130_25, rfl, HA, HJ25, HB⟩ := hcut
     cases kq with
     | zero => exact absurd HA.out (by simp [stowagelaw4_WhenBack.j1])
     | succ kj25 =>
      have H := HA.out
      clear HA
      simp only [stowagelaw4_WhenBack.j1] at H
      by_cases c42 : x130_25 = true
      ·subst c42
       have H1 : (some false) = some r := by rw [if_pos rfl] at H; exact H
       clear H
       have H := H1
       clear H1
       rw [hr] at H
       exact absurd H (by simp)
      ·replace c42 := Bool.eq_false_iff.mpr c42
       subst c42
       have H1 : ((when_Basic.f kj25 a0).bind fun t389 => ((when_Basic.f kj25 a1).bind fun t390 => (if ((Op.bytesLess t389.toList t390.toList) != (decide (a0 < a1))) = true then (stowagelaw4_WhenBack.j2 kj25 a0 true) else ((when_Iso.f kj25 a0).bind fun t391 => ((when_Iso.f kj25 a1).bind fun t392 => (stowagelaw4_WhenBack.j2 kj25 a0 ((Op.bytesLess t391.toList t392.toList) != (decide (a0 < a1))))))))) = some r := by rw [if_neg (show ¬ (false = true) by decide)] at H; exact H
       clear H
       have H := H1
       clear H1
       have HC43 := Aside0.mk H
       clear H
       go_upto_region 10 with (fail)
       go_cut [150] (fun v150 wc => ∃ (kq : Nat) (x150_42 : Bool), v150 = .bool x150_42 ∧ Aside0 (stowagelaw4_WhenBack.j2 kq a0 x150_42 = some r) ∧ Aside0 (kq ≤ kj25) ∧ Aside0 (Below w.heap.size w wc))
       case first =>
        have H := HC43.out
        clear HC43
        replace H := Option.bind_eq_some_iff.mp H
        obtain ⟨t389, A440, H⟩ := H
        replace H : ((when_Basic.f kj25 a1).bind fun t390 => (if ((Op.bytesLess t389.toList t390.toList) != (decide (a0 < a1))) = true then (stowagelaw4_WhenBack.j2 kj25 a0 true) else ((when_Iso.f kj25 a0).bind fun t391 => ((when_Iso.f kj25 a1).bind fun t392 => (stowagelaw4_WhenBack.j2 kj25 a0 ((Op.bytesLess t391.toList t392.toList) != (decide (a0 < a1)))))))) = some r := H
        have A44 := Aside0.mk A440
        clear A440
        replace H := Option.bind_eq_some_iff.mp H
        obtain ⟨t390, A450, H⟩ := H
        replace H : (if ((Op.bytesLess t389.toList t390.toList) != (decide (a0 < a1))) = true then (stowagelaw4_WhenBack.j2 kj25 a0 true) else ((when_Iso.f kj25 a0).bind fun t391 => ((when_Iso.f kj25 a1).bind fun t392 => (stowagelaw4_WhenBack.j2 kj25 a0 ((Op.bytesLess t391.toList t392.toList) != (decide (a0 < a1))))))) = some r := H
        have A45 := Aside0.mk A450
        clear A450
        by_cases c46 : ((Op.bytesLess t389.toList t390.toList) != (decide (a0 < a1))) = true
        ·rw [if_pos c46] at H
         have c46b0 : ((Op.bytesLess t389.toList t390.toList) != (decide (a0 < a1))) = true := c46
         (try (have c46b1 : decide ((Op.bytesLess t389.toList t390.toList) = (decide (a0 < a1))) = false := by simpa using c46))
         (try (have c46b2 : ((Op.bytesLess t389.toList t390.toList) == (decide (a0 < a1))) = false := by simpa using c46))
         (try (have c46b3 : ¬ ((Op.bytesLess t389.toList t390.toList) = (decide (a0 < a1))) := by simpa using c46))
         clear c46
         (first | rw [c46b0] | (simp only [i64_w, i32_w]; rw [c46b0]) | skip)
         have H' := Aside0.mk H
         clear H
         go_wp2_with (first | ((with_reducible refine gate_callee (f := 13) rfl ?_); refine goesL_ (some 132) rfl rfl Try.func13 (by kernel_rfl) rfl #[.int .i64 a0] rfl (by (try simp only [List.map_toArray, List.map_cons, List.map_nil]); first | done | rfl | (simp only [List.length_drop, List.length_take]; rfl)) ?_; (with_reducible refine (when_Basic.calls kj25 a0 t389 _ A44.out).mono ?_); rintro e w47 ⟨rfl, hb⟩; refine ⟨_, rfl, ?_⟩; have n0_ := Aside0.mk (below_step (by repeat (first | (with_reducible first | exact HB.out | apply below_alloc | apply pw_below_drewN | apply below_drew1) | exact HB.out)) hb); clear HB; have HB := n0_; clear n0_; (try clear hb); (try clear hb2); (try clear hk); (try clear hi)) | ((with_reducible refine gate_callee (f := 13) rfl ?_); refine goesL_ (some 134) rfl rfl Try.func13 (by kernel_rfl) rfl #[.int .i64 a1] rfl (by (try simp only [List.map_toArray, List.map_cons, List.map_nil]); first | done | rfl | (simp only [List.length_drop, List.length_take]; rfl)) ?_; (with_reducible refine (when_Basic.calls kj25 a1 t390 _ A45.out).mono ?_); rintro e w48 ⟨rfl, hb⟩; refine ⟨_, rfl, ?_⟩; have n0_ := Aside0.mk (below_step (by repeat (first | (with_reducible first | exact HB.out | apply below_alloc | apply pw_below_drewN | apply below_drew1) | exact HB.out)) hb); clear HB; have HB := n0_; clear n0_; (try clear hb); (try clear hb2); (try clear hk); (try clear hi)))
         go_meet
         case rel => exact ⟨_, (true), (by first | rfl | (simp; done) | (simp [*]; done)), H', ⟨by have := HJ2.out; have := HJ25.out; first | omega | exact Nat.le_refl _⟩, ⟨by repeat (first | (with_reducible first | exact HB.out | apply below_alloc | apply pw_below_drewN | apply below_drew1) | exact HB.out)⟩⟩
        ·rw [if_neg c46] at H
         have c46b0 : ((Op.bytesLess t389.toList t390.toList) != (decide (a0 < a1))) = false := by simpa using c46
         (try (have c46b1 : decide ((Op.bytesLess t389.toList t390.toList) = (decide (a0 < a1))) = true := by simpa using c46))
         (try (have c46b2 : ((Op.bytesLess t389.toList t390.toList) == (decide (a0 < a1))) = true := by simpa using c46))
         clear c46
         (first | rw [c46b0] | (simp only [i64_w, i32_w]; rw [c46b0]) | skip)
         replace H := Option.bind_eq_some_iff.mp H
         obtain ⟨t391, A490, H⟩ := H
         replace H : ((when_Iso.f kj25 a1).bind fun t392 => (stowagelaw4_WhenBack.j2 kj25 a0 ((Op.bytesLess t391.toList t392.toList) != (decide (a0 < a1))))) = some r := H
         have A49 := Aside0.mk A490
         clear A490
         replace H := Option.bind_eq_some_iff.mp H
         obtain ⟨t392, A500, H⟩ := H
         replace H : (stowagelaw4_WhenBack.j2 kj25 a0 ((Op.bytesLess t391.toList t392.toList) != (decide (a0 < a1)))) = some r := H
         have A50 := Aside0.mk A500
         clear A500
         have H' := Aside0.mk H
         clear H
         go_wp2_with (first | ((with_reducible refine gate_callee (f := 13) rfl ?_); refine goesL_ (some 132) rfl rfl Try.func13 (by kernel_rfl) rfl #[.int .i64 a0] rfl (by (try simp only [List.map_toArray, List.map_cons, List.map_nil]); first | done | rfl | (simp only [List.length_drop, List.length_take]; rfl)) ?_; (with_reducible refine (when_Basic.calls kj25 a0 t389 _ A44.out).mono ?_); rintro e w51 ⟨rfl, hb⟩; refine ⟨_, rfl, ?_⟩; have n0_ := Aside0.mk (below_step (by repeat (first | (with_reducible first | exact HB.out | apply below_alloc | apply pw_below_drewN | apply below_drew1) | exact HB.out)) hb); clear HB; have HB := n0_; clear n0_; (try clear hb); (try clear hb2); (try clear hk); (try clear hi)) | ((with_reducible refine gate_callee (f := 13) rfl ?_); refine goesL_ (some 134) rfl rfl Try.func13 (by kernel_rfl) rfl #[.int .i64 a1] rfl (by (try simp only [List.map_toArray, List.map_cons, List.map_nil]); first | done | rfl | (simp only [List.length_drop, List.length_take]; rfl)) ?_; (with_reducible refine (when_Basic.calls kj25 a1 t390 _ A45.out).mono ?_); rintro e w52 ⟨rfl, hb⟩; refine ⟨_, rfl, ?_⟩; have n0_ := Aside0.mk (below_step (by repeat (first | (with_reducible first | exact HB.out | apply below_alloc | apply pw_below_drewN | apply below_drew1) | exact HB.out)) hb); clear HB; have HB := n0_; clear n0_; (try clear hb); (try clear hb2); (try clear hk); (try clear hi)) | (go_at_call 17; (with_reducible refine (when_Iso.calls kj25 a0 t391 _ A49.out).mono ?_); rintro e w53 ⟨rfl, hb⟩; have n0_ := Aside0.mk (below_step (by repeat (first | (with_reducible first | exact HB.out | apply below_alloc | apply pw_below_drewN | apply below_drew1) | exact HB.out)) hb); clear HB; have HB := n0_; clear n0_; (try clear hb); (try clear hb2); (try clear hk); (try clear hi)) | (go_at_call 17; (with_reducible refine (when_Iso.calls kj25 a1 t392 _ A50.out).mono ?_); rintro e w54 ⟨rfl, hb⟩; have n0_ := Aside0.mk (below_step (by repeat (first | (with_reducible first | exact HB.out | apply below_alloc | apply pw_below_drewN | apply below_drew1) | exact HB.out)) hb); clear HB; have HB := n0_; clear n0_; (try clear hb); (try clear hb2); (try clear hk); (try clear hi)))
         go_meet
         case rel => exact ⟨_, (((Op.bytesLess t391.toList t392.toList) != (decide (a0 < a1)))), (by first | rfl | (simp; done) | (simp [*]; done)), H', ⟨by have := HJ2.out; have := HJ25.out; first | omega | exact Nat.le_refl _⟩, ⟨by repeat (first | (with_reducible first | exact HB.out | apply below_alloc | apply pw_below_drewN | apply below_drew1) | exact HB.out)⟩⟩
       case rest =>
        clear HC43
        try clear c1
        try clear c2
        try clear p2
        try clear c3
        try clear c4
        try clear c4b0
        try clear c5
        try clear c5b0
        try clear c6
        try clear c6b0
        try clear p6
        try clear c7
        try clear c9
        try clear c9b0
        try clear c9b1
        try clear c11
        try clear c13
        try clear c13b0
        try clear c14
        try clear c14b0
        try clear c15
        try clear c19
        try clear c21
        try clear c23
        try clear c25
        try clear c33
        try clear c34
        try clear c35
        try clear c36
        try clear c37
        try clear c38
        try clear c38b0
        try clear c38b1
        try clear c39
        try clear c39b0
        try clear c39b1
        try clear c40
        try clear c40b0
        try clear c40b1
        try clear c41
        try clear c41b0
        try clear c42
        try clear c46
        try clear c46b0
        try clear c46b1
        try clear c46b2
        try clear p2
        try clear p6
        obtain ⟨kq, x150_42, rfl, HA, HJ42, HB⟩ := hcut
        cases kq with
        | zero => exact absurd HA.out (by simp [stowagelaw4_WhenBack.j2])
        | succ kj42 =>
         have H := HA.out
         clear HA
         simp only [stowagelaw4_WhenBack.j2] at H
         by_cases c55 : x150_42 = true
         ·subst c55
          have H1 : (some false) = some r := by rw [if_pos rfl] at H; exact H
          clear H
          have H := H1
          clear H1
          rw [hr] at H
          exact absurd H (by simp)
         ·replace c55 := Bool.eq_false_iff.mpr c55
          subst c55
          have H1 : (if (wrap64 (a0 + 604800)) > 253402300799 then ((stowagelaw4_awake.f kj42).bind fun t393 => (some t393)) else ((when_Http.f kj42 (wrap64 (a0 + 604800))).bind fun t394 => (if 0 ≤ 3 then (if 3 ≤ (t394.size : Int) then ((when_Http.f kj42 a0).bind fun t395 => (if 3 ≤ (t395.size : Int) then (if (t394.extract 0 3).toList = (t395.extract 0 3).toList then ((stowagelaw4_awake.f kj42).bind fun t396 => (some t396)) else (some false)) else (none))) else (none)) else (none)))) = some r := by rw [if_neg (show ¬ (false = true) by decide)] at H; exact H
          clear H
          have H := H1
          clear H1
          by_cases c56 : (wrap64 (a0 + 604800)) > 253402300799
          ·rw [if_pos c56] at H
           have c56b0 : decide (253402300799 < (wrap64 (a0 + 604800))) = true := decide_eq_true c56
           clear c56
           replace H := Option.bind_eq_some_iff.mp H
           obtain ⟨t393, A570, H⟩ := H
           replace H : (some t393) = some r := H
           have A57 := Aside0.mk A570
           clear A570
           clear hr
           obtain rfl := Option.some.inj H
           try go_wp2
           have n0_ := Aside0.mk (below_drew1 HB.out)
           clear HB
           have HB := n0_
           clear n0_
           refine start_ (n := 15) (S := fun w' => True) (ds := []) #[false, false, false, false, false, false, false, false, false, false, false, false, false, false, false] (by kernel_rfl) rfl rfl trivial (fun hHeld => ?_); refine with_tabW stowagelaw4_WhenBack.tab13 stowagelaw4_WhenBack.bits13 (fun HT_ HW_ => ?_)
           generalize wc.drew = w58 at HB hHeld ⊢
           refine pure_ (i := 0) (N := some 153) (v := ?_) (a' := ?_) #[true, false, false, false, false, false, false, false, false, false, false, false, false, false, false] rfl rfl (any_of HT_.out (by kernel_rfl)) (fun _ _ _ h => h) (Or.inl ⟨by rfl, ?_⟩) ?_ ?_
           rotate_left
           ·intro w'
            go_simp
            with_reducible rfl
           rotate_left
           ·simp only [Act.put, List.setIfInBounds_toArray, List.set_cons_zero, List.set_cons_succ, i64_w, i32_w]
            rfl
           refine pure_ (i := 1) (N := some 154) (v := ?_) (a' := ?_) #[true, true, false, false, false, false, false, false, false, false, false, false, false, false, false] rfl rfl (any_of HT_.out (by kernel_rfl)) (fun _ _ _ h => h) (Or.inl ⟨by rfl, ?_⟩) ?_ ?_
           rotate_left
           ·intro w'
            go_simp
            with_reducible rfl
           rotate_left
           ·simp only [Act.put, List.setIfInBounds_toArray, List.set_cons_zero, List.set_cons_succ, i64_w, i32_w]
            rfl
           refine pure_ (i := 2) (N := some 155) (v := ?_) (a' := ?_) #[true, true, true, false, false, false, false, false, false, false, false, false, false, false, false] rfl rfl (any_of HT_.out (by kernel_rfl)) (fun _ _ _ h => h) (Or.inl ⟨by rfl, ?_⟩) ?_ ?_
           rotate_left
           ·intro w'
            go_simp
            with_reducible rfl
           rotate_left
           ·simp only [Act.put, List.setIfInBounds_toArray, List.set_cons_zero, List.set_cons_succ, i64_w, i32_w]
            rfl
           refine pure_ (i := 3) (N := some 156) (v := undef) (a' := ?_) #[true, true, true, true, false, false, false, false, false, false, false, false, false, false, false] rfl rfl (any_of HT_.out (by kernel_rfl)) (fun _ _ _ h => h) (Or.inr ⟨by rfl, rfl⟩) ?_ ?_
           rotate_left
           ·simp only [Act.put, List.setIfInBounds_toArray, List.set_cons_zero, List.set_cons_succ, i64_w, i32_w]
            rfl
           refine pure_ (i := 4) (N := some 157) (v := undef) (a' := ?_) #[true, true, true, true, true, false, false, false, false, false, false, false, false, false, false] rfl rfl (any_of HT_.out (by kernel_rfl)) (fun _ _ _ h => h) (Or.inr ⟨by rfl, rfl⟩) ?_ ?_
           rotate_left
           ·simp only [Act.put, List.setIfInBounds_toArray, List.set_cons_zero, List.set_cons_succ, i64_w, i32_w]
            rfl
           refine pure_ (i := 5) (N := some 158) (v := undef) (a' := ?_) #[true, true, true, true, true, true, false, false, false, false, false, false, false, false, false] rfl rfl (any_of HT_.out (by kernel_rfl)) (fun _ _ _ h => h) (Or.inr ⟨by rfl, rfl⟩) ?_ ?_
           rotate_left
           ·simp only [Act.put, List.setIfInBounds_toArray, List.set_cons_zero, List.set_cons_succ, i64_w, i32_w]
            rfl
           refine pure_ (i := 6) (N := some 159) (v := undef) (a' := ?_) #[true, true, true, true, true, true, true, false, false, false, false, false, false, false, false] rfl rfl (any_of HT_.out (by kernel_rfl)) (fun _ _ _ h => h) (Or.inr ⟨by rfl, rfl⟩) ?_ ?_
           rotate_left
           ·simp only [Act.put, List.setIfInBounds_toArray, List.set_cons_zero, List.set_cons_succ, i64_w, i32_w]
            rfl
           refine pure_ (i := 7) (N := some 160) (v := undef) (a' := ?_) #[true, true, true, true, true, true, true, true, false, false, false, false, false, false, false] rfl rfl (any_of HT_.out (by kernel_rfl)) (fun _ _ _ h => h) (Or.inr ⟨by rfl, rfl⟩) ?_ ?_
           rotate_left
           ·simp only [Act.put, List.setIfInBounds_toArray, List.set_cons_zero, List.set_cons_succ, i64_w, i32_w]
            rfl
           refine pure_ (i := 8) (N := some 161) (v := undef) (a' := ?_) #[true, true, true, true, true, true, true, true, true, false, false, false, false, false, false] rfl rfl (any_of HT_.out (by kernel_rfl)) (fun _ _ _ h => h) (Or.inr ⟨by rfl, rfl⟩) ?_ ?_
           rotate_left
           ·simp only [Act.put, List.setIfInBounds_toArray, List.set_cons_zero, List.set_cons_succ, i64_w, i32_w]
            rfl
           refine pure_ (i := 9) (N := some 162) (v := undef) (a' := ?_) #[true, true, true, true, true, true, true, true, true, true, false, false, false, false, false] rfl rfl (any_of HT_.out (by kernel_rfl)) (fun _ _ _ h => h) (Or.inr ⟨by rfl, rfl⟩) ?_ ?_
           rotate_left
           ·simp only [Act.put, List.setIfInBounds_toArray, List.set_cons_zero, List.set_cons_succ, i64_w, i32_w]
            rfl
           refine pure_ (i := 10) (N := some 163) (v := ?_) (a' := ?_) #[true, true, true, true, true, true, true, true, true, true, true, false, false, false, false] rfl rfl (any_of HT_.out (by kernel_rfl)) (fun _ _ _ h => h) (Or.inl ⟨by rfl, ?_⟩) ?_ ?_
           rotate_left
           ·intro w'
            go_simp
            with_reducible rfl
           rotate_left
           ·simp only [Act.put, List.setIfInBounds_toArray, List.set_cons_zero, List.set_cons_succ, i64_w, i32_w]
            rfl
           refine pure_ (i := 11) (N := some 164) (v := ?_) (a' := ?_) #[true, true, true, true, true, true, true, true, true, true, true, true, false, false, false] rfl rfl (any_of HT_.out (by kernel_rfl)) (fun _ _ _ h => h) (Or.inl ⟨by rfl, ?_⟩) ?_ ?_
           rotate_left
           ·intro w'
            go_simp
            with_reducible rfl
           rotate_left
           ·simp only [Act.put, List.setIfInBounds_toArray, List.set_cons_zero, List.set_cons_succ, i64_w, i32_w]
            rfl
           refine one_ (i := 12) (N := some 165) #[true, true, true, true, true, true, true, true, true, true, true, true, true, false, false] rfl rfl (one_of HT_.out (by kernel_rfl)) (by decide) (fun K hK => ?_)
           refine goes_ Try.func8 (by kernel_rfl) rfl #[] (by rfl) rfl rfl (by (try simp only [List.map_toArray, List.map_cons, List.map_nil]); first | done | rfl | (simp only [List.length_drop, List.length_take]; rfl)) ?_
           with_reducible refine (stowagelaw4_awake.calls kj42  t393 _ A57.out).mono ?_
           rintro e w59 ⟨rfl, hb⟩
           refine ⟨_, rfl, ?_⟩
           have n0_ := Aside0.mk (below_step (by repeat (first | (with_reducible first | exact HB.out | apply below_alloc | apply pw_below_drewN | apply below_drew1) | exact HB.out)) hb)
           clear HB
           have HB := n0_
           clear n0_
           (try clear hb)
           (try clear hb2)
           (try clear hk)
           (try clear hi)
           refine hK.out _ _ trivial (fun hHeld => ?_)
           clear hK K
           refine norm_ (a' := ?_) ?_ ?_
           rotate_left
           ·show Act.put _ (some 165) _ = _
            simp only [Act.put, List.setIfInBounds_toArray, List.set_cons_zero, List.set_cons_succ, i64_w, i32_w]
            rfl
           refine pure_ (i := 13) (N := some 166) (v := ?_) (a' := ?_) #[true, true, true, true, true, true, true, true, true, true, true, true, true, true, false] rfl rfl (any_of HT_.out (by kernel_rfl)) (fun _ _ _ h => h) (Or.inl ⟨by rfl, ?_⟩) ?_ ?_
           rotate_left
           ·intro w'
            go_simp
            with_reducible rfl
           rotate_left
           ·simp only [Act.put, List.setIfInBounds_toArray, List.set_cons_zero, List.set_cons_succ, i64_w, i32_w]
            rfl
           refine pure_ (i := 14) (N := some 4) (v := ?_) (a' := ?_) #[true, true, true, true, true, true, true, true, true, true, true, true, true, true, true] rfl rfl (any_of HT_.out (by kernel_rfl)) (fun _ _ _ h => h) (Or.inl ⟨by rfl, ?_⟩) ?_ ?_
           rotate_left
           ·intro w'
            go_simp
            with_reducible rfl
           rotate_left
           ·simp only [Act.put, List.setIfInBounds_toArray, List.set_cons_zero, List.set_cons_succ, i64_w, i32_w]
            rfl
           refine done_ (done_of HT_.out (by kernel_rfl)) ?_
           try go_wp2
           go_ret
           exact ⟨by first | rfl | (simp [errW_none, errW_some] <;> rfl) | (simp [*, errW_none, errW_some] <;> rfl), by repeat (first | (with_reducible first | exact HB.out | apply below_alloc | apply pw_below_drewN | apply below_drew1) | exact HB.out)⟩
          ·rw [if_neg c56] at H
           have c56b0 : decide (253402300799 < (wrap64 (a0 + 604800))) = false := decide_eq_false c56
           clear c56
           replace H := Option.bind_eq_some_iff.mp H
           obtain ⟨t394, A600, H⟩ := H
           replace H : (if 0 ≤ 3 then (if 3 ≤ (t394.size : Int) then ((when_Http.f kj42 a0).bind fun t395 => (if 3 ≤ (t395.size : Int) then (if (t394.extract 0 3).toList = (t395.extract 0 3).toList then ((stowagelaw4_awake.f kj42).bind fun t396 => (some t396)) else (some false)) else (none))) else (none)) else (none)) = some r := H
           have A60 := Aside0.mk A600
           clear A600
           by_cases c61 : 0 ≤ 3
           ·rw [if_pos c61] at H
            have c61b0 := eq_true c61
            have c61b1 : decide (0 ≤ 3) = true := decide_eq_true c61
            clear c61
            by_cases c62 : 3 ≤ (t394.size : Int)
            ·rw [if_pos c62] at H
             have c62b0 := eq_true c62
             have c62b1 : decide (3 ≤ (t394.size : Int)) = true := decide_eq_true c62
             clear c62
             replace H := Option.bind_eq_some_iff.mp H
             obtain ⟨t395, A630, H⟩ := H
             replace H : (if 3 ≤ (t395.size : Int) then (if (t394.extract 0 3).toList = (t395.extract 0 3).toList then ((stowagelaw4_awake.f kj42).bind fun t396 => (some t396)) else (some false)) else (none)) = some r := H
             have A63 := Aside0.mk A630
             clear A630
             have c64b0 := eq_true (of_decide_eq_true (by first | (with_reducible assumption) | assumption) : 0 ≤ 3)
             by_cases c65 : 3 ≤ (t395.size : Int)
             ·rw [if_pos c65] at H
              have c65b0 := eq_true c65
              have c65b1 : decide (3 ≤ (t395.size : Int)) = true := decide_eq_true c65
              clear c65
              by_cases c66 : (t394.extract 0 3).toList = (t395.extract 0 3).toList
              ·rw [if_pos c66] at H
               have c66b0 : ((t394.extract 0 3).toList == (t395.extract 0 3).toList) = true := beq_iff_eq.mpr c66
               have c66b1 : ((t394.extract 0 3).toList != (t395.extract 0 3).toList) = false := bne_eq_false_iff_eq.mpr c66
               clear c66
               replace H := Option.bind_eq_some_iff.mp H
               obtain ⟨t396, A670, H⟩ := H
               replace H : (some t396) = some r := H
               have A67 := Aside0.mk A670
               clear A670
               clear hr
               obtain rfl := Option.some.inj H
               try go_wp2
               have n0_ := Aside0.mk (below_drew1 HB.out)
               clear HB
               have HB := n0_
               clear n0_
               refine start_ (n := 15) (S := fun w' => True) (ds := []) #[false, false, false, false, false, false, false, false, false, false, false, false, false, false, false] (by kernel_rfl) rfl rfl trivial (fun hHeld => ?_); refine with_tabW stowagelaw4_WhenBack.tab13 stowagelaw4_WhenBack.bits13 (fun HT_ HW_ => ?_)
               generalize wc.drew = w68 at HB hHeld ⊢
               refine pure_ (i := 0) (N := some 153) (v := ?_) (a' := ?_) #[true, false, false, false, false, false, false, false, false, false, false, false, false, false, false] rfl rfl (any_of HT_.out (by kernel_rfl)) (fun _ _ _ h => h) (Or.inl ⟨by rfl, ?_⟩) ?_ ?_
               rotate_left
               ·intro w'
                go_simp
                with_reducible rfl
               rotate_left
               ·simp only [Act.put, List.setIfInBounds_toArray, List.set_cons_zero, List.set_cons_succ, i64_w, i32_w]
                rfl
               refine pure_ (i := 1) (N := some 154) (v := ?_) (a' := ?_) #[true, true, false, false, false, false, false, false, false, false, false, false, false, false, false] rfl rfl (any_of HT_.out (by kernel_rfl)) (fun _ _ _ h => h) (Or.inl ⟨by rfl, ?_⟩) ?_ ?_
               rotate_left
               ·intro w'
                go_simp
                with_reducible rfl
               rotate_left
               ·simp only [Act.put, List.setIfInBounds_toArray, List.set_cons_zero, List.set_cons_succ, i64_w, i32_w]
                rfl
               refine pure_ (i := 2) (N := some 155) (v := ?_) (a' := ?_) #[true, true, true, false, false, false, false, false, false, false, false, false, false, false, false] rfl rfl (any_of HT_.out (by kernel_rfl)) (fun _ _ _ h => h) (Or.inl ⟨by rfl, ?_⟩) ?_ ?_
               rotate_left
               ·intro w'
                go_simp
                with_reducible rfl
               rotate_left
               ·simp only [Act.put, List.setIfInBounds_toArray, List.set_cons_zero, List.set_cons_succ, i64_w, i32_w]
                rfl
               refine pure_ (i := 3) (N := some 156) (v := ?_) (a' := ?_) #[true, true, true, true, false, false, false, false, false, false, false, false, false, false, false] rfl rfl (any_of HT_.out (by kernel_rfl)) (fun _ _ _ h => h) (Or.inl ⟨by rfl, ?_⟩) ?_ ?_
               rotate_left
               ·intro w'
                go_simp
                with_reducible rfl
               rotate_left
               ·simp only [Act.put, List.setIfInBounds_toArray, List.set_cons_zero, List.set_cons_succ, i64_w, i32_w]
                rfl
               refine pure_ (i := 6) (N := some 159) (v := ?_) (a' := ?_) #[true, true, true, true, false, false, true, false, false, false, false, false, false, false, false] rfl rfl (any_of HT_.out (by kernel_rfl)) (fun _ _ _ h => h) (Or.inl ⟨by rfl, ?_⟩) ?_ ?_
               rotate_left
               ·intro w'
                go_simp
                with_reducible rfl
               rotate_left
               ·simp only [Act.put, List.setIfInBounds_toArray, List.set_cons_zero, List.set_cons_succ, i64_w, i32_w]
                rfl
               refine one_ (i := 4) (N := some 157) #[true, true, true, true, true, false, true, false, false, false, false, false, false, false, false] rfl rfl (one_of HT_.out (by kernel_rfl)) (by decide) (fun K hK => ?_)
               refine goes_ Try.func19 (by kernel_rfl) rfl #[.int .i64 (wrap64 (a0 + 604800))] (by rfl) rfl rfl (by (try simp only [List.map_toArray, List.map_cons, List.map_nil]); first | done | rfl | (simp only [List.length_drop, List.length_take]; rfl)) ?_
               with_reducible refine (when_Http.calls kj42 (wrap64 (a0 + 604800)) t394 _ A60.out).mono ?_
               rintro e w69 ⟨rfl, hb⟩
               refine ⟨_, rfl, ?_⟩
               have n0_ := Aside0.mk (below_step (by repeat (first | (with_reducible first | exact HB.out | apply below_alloc | apply pw_below_drewN | apply below_drew1) | exact HB.out)) hb)
               clear HB
               have HB := n0_
               clear n0_
               (try clear hb)
               (try clear hb2)
               (try clear hk)
               (try clear hi)
               refine hK.out _ _ trivial (fun hHeld => ?_)
               clear hK K
               refine norm_ (a' := ?_) ?_ ?_
               rotate_left
               ·show Act.put _ (some 157) _ = _
                simp only [Act.put, List.setIfInBounds_toArray, List.set_cons_zero, List.set_cons_succ, i64_w, i32_w]
                rfl
               refine pure_ (i := 5) (N := some 158) (v := ?_) (a' := ?_) #[true, true, true, true, true, true, true, false, false, false, false, false, false, false, false] rfl rfl (any_of HT_.out (by kernel_rfl)) (fun _ _ _ h => h) (Or.inl ⟨by rfl, ?_⟩) ?_ ?_
               rotate_left
               ·intro w'
                go_simp
                with_reducible rfl
               rotate_left
               ·simp only [Act.put, List.setIfInBounds_toArray, List.set_cons_zero, List.set_cons_succ, i64_w, i32_w]
                rfl
               refine one_ (i := 7) (N := some 160) #[true, true, true, true, true, true, true, true, false, false, false, false, false, false, false] rfl rfl (one_of HT_.out (by kernel_rfl)) (by decide) (fun K hK => ?_)
               refine goes_ Try.func19 (by kernel_rfl) rfl #[.int .i64 a0] (by rfl) rfl rfl (by (try simp only [List.map_toArray, List.map_cons, List.map_nil]); first | done | rfl | (simp only [List.length_drop, List.length_take]; rfl)) ?_
               with_reducible refine (when_Http.calls kj42 a0 t395 _ A63.out).mono ?_
               rintro e w70 ⟨rfl, hb⟩
               refine ⟨_, rfl, ?_⟩
               have n0_ := Aside0.mk (below_step (by repeat (first | (with_reducible first | exact HB.out | apply below_alloc | apply pw_below_drewN | apply below_drew1) | exact HB.out)) hb)
               clear HB
               have HB := n0_
               clear n0_
               (try clear hb)
               (try clear hb2)
               (try clear hk)
               (try clear hi)
               refine hK.out _ _ trivial (fun hHeld => ?_)
               clear hK K
               refine norm_ (a' := ?_) ?_ ?_
               rotate_left
               ·show Act.put _ (some 160) _ = _
                simp only [Act.put, List.setIfInBounds_toArray, List.set_cons_zero, List.set_cons_succ, i64_w, i32_w]
                rfl
               refine pure_ (i := 8) (N := some 161) (v := ?_) (a' := ?_) #[true, true, true, true, true, true, true, true, true, false, false, false, false, false, false] rfl rfl (any_of HT_.out (by kernel_rfl)) (fun _ _ _ h => h) (Or.inl ⟨by rfl, ?_⟩) ?_ ?_
               rotate_left
               ·intro w'
                go_simp
                with_reducible rfl
               rotate_left
               ·simp only [Act.put, List.setIfInBounds_toArray, List.set_cons_zero, List.set_cons_succ, i64_w, i32_w]
                rfl
               refine pure_ (i := 9) (N := some 162) (v := ?_) (a' := ?_) #[true, true, true, true, true, true, true, true, true, true, false, false, false, false, false] rfl rfl (any_of HT_.out (by kernel_rfl)) (fun _ _ _ h => h) (Or.inl ⟨by rfl, ?_⟩) ?_ ?_
               rotate_left
               ·intro w'
                go_simp
                with_reducible rfl
               rotate_left
               ·simp only [Act.put, List.setIfInBounds_toArray, List.set_cons_zero, List.set_cons_succ, i64_w, i32_w]
                rfl
               refine pure_ (i := 10) (N := some 163) (v := ?_) (a' := ?_) #[true, true, true, true, true, true, true, true, true, true, true, false, false, false, false] rfl rfl (any_of HT_.out (by kernel_rfl)) (fun _ _ _ h => h) (Or.inl ⟨by rfl, ?_⟩) ?_ ?_
               rotate_left
               ·intro w'
                go_simp
                with_reducible rfl
               rotate_left
               ·simp only [Act.put, List.setIfInBounds_toArray, List.set_cons_zero, List.set_cons_succ, i64_w, i32_w]
                rfl
               refine pure_ (i := 11) (N := some 164) (v := ?_) (a' := ?_) #[true, true, true, true, true, true, true, true, true, true, true, true, false, false, false] rfl rfl (any_of HT_.out (by kernel_rfl)) (fun _ _ _ h => h) (Or.inl ⟨by rfl, ?_⟩) ?_ ?_
               rotate_left
               ·intro w'
                go_simp
                with_reducible rfl
               rotate_left
               ·simp only [Act.put, List.setIfInBounds_toArray, List.set_cons_zero, List.set_cons_succ, i64_w, i32_w]
                rfl
               refine one_ (i := 12) (N := some 165) #[true, true, true, true, true, true, true, true, true, true, true, true, true, false, false] rfl rfl (one_of HT_.out (by kernel_rfl)) (by decide) (fun K hK => ?_)
               refine goes_ Try.func8 (by kernel_rfl) rfl #[] (by rfl) rfl rfl (by (try simp only [List.map_toArray, List.map_cons, List.map_nil]); first | done | rfl | (simp only [List.length_drop, List.length_take]; rfl)) ?_
               with_reducible refine (stowagelaw4_awake.calls kj42  t396 _ A67.out).mono ?_
               rintro e w71 ⟨rfl, hb⟩
               refine ⟨_, rfl, ?_⟩
               have n0_ := Aside0.mk (below_step (by repeat (first | (with_reducible first | exact HB.out | apply below_alloc | apply pw_below_drewN | apply below_drew1) | exact HB.out)) hb)
               clear HB
               have HB := n0_
               clear n0_
               (try clear hb)
               (try clear hb2)
               (try clear hk)
               (try clear hi)
               refine hK.out _ _ trivial (fun hHeld => ?_)
               clear hK K
               refine norm_ (a' := ?_) ?_ ?_
               rotate_left
               ·show Act.put _ (some 165) _ = _
                simp only [Act.put, List.setIfInBounds_toArray, List.set_cons_zero, List.set_cons_succ, i64_w, i32_w]
                rfl
               refine pure_ (i := 13) (N := some 166) (v := ?_) (a' := ?_) #[true, true, true, true, true, true, true, true, true, true, true, true, true, true, false] rfl rfl (any_of HT_.out (by kernel_rfl)) (fun _ _ _ h => h) (Or.inl ⟨by rfl, ?_⟩) ?_ ?_
               rotate_left
               ·intro w'
                go_simp
                with_reducible rfl
               rotate_left
               ·simp only [Act.put, List.setIfInBounds_toArray, List.set_cons_zero, List.set_cons_succ, i64_w, i32_w]
                rfl
               refine pure_ (i := 14) (N := some 4) (v := ?_) (a' := ?_) #[true, true, true, true, true, true, true, true, true, true, true, true, true, true, true] rfl rfl (any_of HT_.out (by kernel_rfl)) (fun _ _ _ h => h) (Or.inl ⟨by rfl, ?_⟩) ?_ ?_
               rotate_left
               ·intro w'
                go_simp
                with_reducible rfl
               rotate_left
               ·simp only [Act.put, List.setIfInBounds_toArray, List.set_cons_zero, List.set_cons_succ, i64_w, i32_w]
                rfl
               refine done_ (done_of HT_.out (by kernel_rfl)) ?_
               try go_wp2
               go_ret
               exact ⟨by first | rfl | (simp [errW_none, errW_some] <;> rfl) | (simp [*, errW_none, errW_some] <;> rfl), by repeat (first | (with_reducible first | exact HB.out | apply below_alloc | apply pw_below_drewN | apply below_drew1) | exact HB.out)⟩
              ·rw [if_neg c66] at H
               have c66b0 : ((t394.extract 0 3).toList == (t395.extract 0 3).toList) = false := beq_eq_false_iff_ne.mpr c66
               have c66b1 : ((t394.extract 0 3).toList != (t395.extract 0 3).toList) = true := bne_iff_ne.mpr c66
               rw [hr] at H
               exact absurd H (by simp)
             ·rw [if_neg c65] at H
              exact absurd H (by simp)
            ·rw [if_neg c62] at H
             exact absurd H (by simp)
           ·rw [if_neg c61] at H
            exact absurd H (by simp)
def stowagelaw4_WhenBack.Pure : Prop := ∀ (a0 : Int) (a1 : Int), (Lit.int .i64 a0).wf = true → (Lit.int .i64 a1).wf = true → ∃ k, stowagelaw4_WhenBack.f k a0 a1 = some true
theorem stowagelaw4_WhenBack.walk (P : stowagelaw4_WhenBack.Pure) (a0 : Int) (a1 : Int) (w : World) (w0 : (Lit.int .i64 a0).wf = true) (w1 : (Lit.int .i64 a1).wf = true) (hG : GOk w) :
  Calls Try.prog 7 #[.int .i64 a0, .int .i64 a1] w fun e w' => e = .returned (.bool true) ∧ Below w.heap.size w w' := by
 obtain ⟨k, h⟩ := P a0 a1 w0 w1
 refine (stowagelaw4_WhenBack.calls k a0 a1 true w hG h rfl).mono ?_
 rintro e w' ⟨rfl, hd⟩
 exact ⟨rfl, hd⟩
end Go.Proofs.Yteggifhicmbopaa.Q
