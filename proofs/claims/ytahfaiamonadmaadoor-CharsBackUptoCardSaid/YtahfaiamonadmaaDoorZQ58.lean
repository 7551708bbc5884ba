/- A part of the proof of the seat's laws. No condition beyond those in the theorems. -/
import Derived.Test.YtahfaiamonadmaaDoorZQ0g2
import Derived.Test.YtahfaiamonadmaaDoorZQ6
import Derived.Test.YtahfaiamonadmaaDoorZQ12
import Derived.Test.YtahfaiamonadmaaDoorZQ13g3
import Derived.Test.YtahfaiamonadmaaDoorZQ16g3
import Derived.Test.YtahfaiamonadmaaDoorZQ40g2

namespace Go.Proofs.YtahfaiamonadmaaDoor.Q
open Go.RowKit Go.Proofs.YtahfaiamonadmaaDoorW.PrintWords Go.Proofs.YtahfaiamonadmaaDoorW.PrintLast Go.Proofs.YtahfaiamonadmaaDoorW.PrintMore
set_option linter.unusedVariables false
set_option linter.unusedSimpArgs false
attribute [local go_sem] max2_int min2_int max_two min_two max_three min_three max_four min_four   
mutual
def stowagelaw3_CharsBack.j0 : Nat → ByteArray → Bool → Int → ByteArray → Bool → Option (Bool)
 | 0, _, _, _, _, _ => none
 | k + 1, x0, x1, x2, x7, x30 => if x30 = true then (some false) else (stowagelaw3_CharsBack.l0 k x0 x1 x2 x7 0)
def stowagelaw3_CharsBack.l0 : Nat → ByteArray → Bool → Int → ByteArray → Int → Option (Bool)
 | 0, _, _, _, _, _ => none
 | k + 1, x0, x1, x2, x7, x10 => if x10 < (x7.size : Int) then (if 0 ≤ x10 then (if (bt x7 x10) ≥ 65 then (if (bt x7 x10) ≤ 90 then (stowagelaw3_CharsBack.l0 k x0 x1 x2 x7 (wrap64 (x10 + 1))) else (if (bt x7 x10) ≥ 97 then (if (bt x7 x10) ≤ 122 then (stowagelaw3_CharsBack.l0 k x0 x1 x2 x7 (wrap64 (x10 + 1))) else (if (bt x7 x10) ≥ 48 then (if (bt x7 x10) ≤ 57 then (stowagelaw3_CharsBack.l0 k x0 x1 x2 x7 (wrap64 (x10 + 1))) else (if (bt x7 x10) = 45 then (stowagelaw3_CharsBack.l0 k x0 x1 x2 x7 (wrap64 (x10 + 1))) else (if (bt x7 x10) = 46 then (stowagelaw3_CharsBack.l0 k x0 x1 x2 x7 (wrap64 (x10 + 1))) else (if (bt x7 x10) = 95 then (stowagelaw3_CharsBack.l0 k x0 x1 x2 x7 (wrap64 (x10 + 1))) else (if (bt x7 x10) = 126 then (stowagelaw3_CharsBack.l0 k x0 x1 x2 x7 (wrap64 (x10 + 1))) else (if ((bt x7 x10) = 37) then (stowagelaw3_CharsBack.l0 k x0 x1 x2 x7 (wrap64 (x10 + 1))) else (if x1 = true then (if ((bt x7 x10) = 47) then (stowagelaw3_CharsBack.l0 k x0 x1 x2 x7 (wrap64 (x10 + 1))) else (some false)) else (some false)))))))) else (if (bt x7 x10) = 45 then (stowagelaw3_CharsBack.l0 k x0 x1 x2 x7 (wrap64 (x10 + 1))) else (if (bt x7 x10) = 46 then (stowagelaw3_CharsBack.l0 k x0 x1 x2 x7 (wrap64 (x10 + 1))) else (if (bt x7 x10) = 95 then (stowagelaw3_CharsBack.l0 k x0 x1 x2 x7 (wrap64 (x10 + 1))) else (if (bt x7 x10) = 126 then (stowagelaw3_CharsBack.l0 k x0 x1 x2 x7 (wrap64 (x10 + 1))) else (if ((bt x7 x10) = 37) then (stowagelaw3_CharsBack.l0 k x0 x1 x2 x7 (wrap64 (x10 + 1))) else (if x1 = true then (if ((bt x7 x10) = 47) then (stowagelaw3_CharsBack.l0 k x0 x1 x2 x7 (wrap64 (x10 + 1))) else (some false)) else (some false))))))))) else (if (bt x7 x10) ≥ 48 then (if (bt x7 x10) ≤ 57 then (stowagelaw3_CharsBack.l0 k x0 x1 x2 x7 (wrap64 (x10 + 1))) else (if (bt x7 x10) = 45 then (stowagelaw3_CharsBack.l0 k x0 x1 x2 x7 (wrap64 (x10 + 1))) else (if (bt x7 x10) = 46 then (stowagelaw3_CharsBack.l0 k x0 x1 x2 x7 (wrap64 (x10 + 1))) else (if (bt x7 x10) = 95 then (stowagelaw3_CharsBack.l0 k x0 x1 x2 x7 (wrap64 (x10 + 1))) else (if (bt x7 x10) = 126 then (stowagelaw3_CharsBack.l0 k x0 x1 x2 x7 (wrap64 (x10 + 1))) else (if ((bt x7 x10) = 37) then (stowagelaw3_CharsBack.l0 k x0 x1 x2 x7 (wrap64 (x10 + 1))) else (if x1 = true then (if ((bt x7 x10) = 47) then (stowagelaw3_CharsBack.l0 k x0 x1 x2 x7 (wrap64 (x10 + 1))) else (some false)) else (some false)))))))) else (if (bt x7 x10) = 45 then (stowagelaw3_CharsBack.l0 k x0 x1 x2 x7 (wrap64 (x10 + 1))) else (if (bt x7 x10) = 46 then (stowagelaw3_CharsBack.l0 k x0 x1 x2 x7 (wrap64 (x10 + 1))) else (if (bt x7 x10) = 95 then (stowagelaw3_CharsBack.l0 k x0 x1 x2 x7 (wrap64 (x10 + 1))) else (if (bt x7 x10) = 126 then (stowagelaw3_CharsBack.l0 k x0 x1 x2 x7 (wrap64 (x10 + 1))) else (if ((bt x7 x10) = 37) then (stowagelaw3_CharsBack.l0 k x0 x1 x2 x7 (wrap64 (x10 + 1))) else (if x1 = true then (if ((bt x7 x10) = 47) then (stowagelaw3_CharsBack.l0 k x0 x1 x2 x7 (wrap64 (x10 + 1))) else (some false)) else (some false)))))))))) else (if (bt x7 x10) ≥ 97 then (if (bt x7 x10) ≤ 122 then (stowagelaw3_CharsBack.l0 k x0 x1 x2 x7 (wrap64 (x10 + 1))) else (if (bt x7 x10) ≥ 48 then (if (bt x7 x10) ≤ 57 then (stowagelaw3_CharsBack.l0 k x0 x1 x2 x7 (wrap64 (x10 + 1))) else (if (bt x7 x10) = 45 then (stowagelaw3_CharsBack.l0 k x0 x1 x2 x7 (wrap64 (x10 + 1))) else (if (bt x7 x10) = 46 then (stowagelaw3_CharsBack.l0 k x0 x1 x2 x7 (wrap64 (x10 + 1))) else (if (bt x7 x10) = 95 then (stowagelaw3_CharsBack.l0 k x0 x1 x2 x7 (wrap64 (x10 + 1))) else (if (bt x7 x10) = 126 then (stowagelaw3_CharsBack.l0 k x0 x1 x2 x7 (wrap64 (x10 + 1))) else (if ((bt x7 x10) = 37) then (stowagelaw3_CharsBack.l0 k x0 x1 x2 x7 (wrap64 (x10 + 1))) else (if x1 = true then (if ((bt x7 x10) = 47) then (stowagelaw3_CharsBack.l0 k x0 x1 x2 x7 (wrap64 (x10 + 1))) else (some false)) else (some false)))))))) else (if (bt x7 x10) = 45 then (stowagelaw3_CharsBack.l0 k x0 x1 x2 x7 (wrap64 (x10 + 1))) else (if (bt x7 x10) = 46 then (stowagelaw3_CharsBack.l0 k x0 x1 x2 x7 (wrap64 (x10 + 1))) else (if (bt x7 x10) = 95 then (stowagelaw3_CharsBack.l0 k x0 x1 x2 x7 (wrap64 (x10 + 1))) else (if (bt x7 x10) = 126 then (stowagelaw3_CharsBack.l0 k x0 x1 x2 x7 (wrap64 (x10 + 1))) else (if ((bt x7 x10) = 37) then (stowagelaw3_CharsBack.l0 k x0 x1 x2 x7 (wrap64 (x10 + 1))) else (if x1 = true then (if ((bt x7 x10) = 47) then (stowagelaw3_CharsBack.l0 k x0 x1 x2 x7 (wrap64 (x10 + 1))) else (some false)) else (some false))))))))) else (if (bt x7 x10) ≥ 48 then (if (bt x7 x10) ≤ 57 then (stowagelaw3_CharsBack.l0 k x0 x1 x2 x7 (wrap64 (x10 + 1))) else (if (bt x7 x10) = 45 then (stowagelaw3_CharsBack.l0 k x0 x1 x2 x7 (wrap64 (x10 + 1))) else (if (bt x7 x10) = 46 then (stowagelaw3_CharsBack.l0 k x0 x1 x2 x7 (wrap64 (x10 + 1))) else (if (bt x7 x10) = 95 then (stowagelaw3_CharsBack.l0 k x0 x1 x2 x7 (wrap64 (x10 + 1))) else (if (bt x7 x10) = 126 then (stowagelaw3_CharsBack.l0 k x0 x1 x2 x7 (wrap64 (x10 + 1))) else (if ((bt x7 x10) = 37) then (stowagelaw3_CharsBack.l0 k x0 x1 x2 x7 (wrap64 (x10 + 1))) else (if x1 = true then (if ((bt x7 x10) = 47) then (stowagelaw3_CharsBack.l0 k x0 x1 x2 x7 (wrap64 (x10 + 1))) else (some false)) else (some false)))))))) else (if (bt x7 x10) = 45 then (stowagelaw3_CharsBack.l0 k x0 x1 x2 x7 (wrap64 (x10 + 1))) else (if (bt x7 x10) = 46 then (stowagelaw3_CharsBack.l0 k x0 x1 x2 x7 (wrap64 (x10 + 1))) else (if (bt x7 x10) = 95 then (stowagelaw3_CharsBack.l0 k x0 x1 x2 x7 (wrap64 (x10 + 1))) else (if (bt x7 x10) = 126 then (stowagelaw3_CharsBack.l0 k x0 x1 x2 x7 (wrap64 (x10 + 1))) else (if ((bt x7 x10) = 37) then (stowagelaw3_CharsBack.l0 k x0 x1 x2 x7 (wrap64 (x10 + 1))) else (if x1 = true then (if ((bt x7 x10) = 47) then (stowagelaw3_CharsBack.l0 k x0 x1 x2 x7 (wrap64 (x10 + 1))) else (some false)) else (some false)))))))))) else (none)) else ((chars_Split.f k x0 x2).bind fun t209 => (stowagelaw3_CharsBack.l1 k x0 x2 t209 (⟨#[]⟩ : ByteArray) 0))
def stowagelaw3_CharsBack.l1 : Nat → ByteArray → Int → List ByteArray → ByteArray → Int → Option (Bool)
 | 0, _, _, _, _, _ => none
 | k + 1, x0, x2, x13, x14, x15 => if x15 < (x13.length : Int) then (if x15 > 0 then ((some (([x2] : List Int) : List Int)).bind fun y212 => (if x14.size + (strOfNums y212).size ≤ 9223372036854775807 then (if 0 ≤ x15 then (if (x14 ++ (strOfNums y212)).size + (rdOf ByteArray.empty x13 x15).size ≤ 9223372036854775807 then (stowagelaw3_CharsBack.l1 k x0 x2 x13 ((x14 ++ (strOfNums y212)) ++ (rdOf ByteArray.empty x13 x15)) (wrap64 (x15 + 1))) else (none)) else (none)) else (none))) else (if 0 ≤ x15 then (if x14.size + (rdOf ByteArray.empty x13 x15).size ≤ 9223372036854775807 then (stowagelaw3_CharsBack.l1 k x0 x2 x13 (x14 ++ (rdOf ByteArray.empty x13 x15)) (wrap64 (x15 + 1))) else (none)) else (none))) else (if x14.toList = x0.toList then ((chars_Fold.f k x0).bind fun t217 => ((chars_Fold.f k t217).bind fun t218 => ((chars_Fold.f k x0).bind fun t219 => (if t218.toList = t219.toList then ((chars_Trim.f k x0).bind fun t220 => ((chars_Trim.f k t220).bind fun t221 => ((chars_Trim.f k x0).bind fun t222 => (if t221.toList = t222.toList then ((stowagelaw3_awake.f k).bind fun t223 => (some t223)) else (some false))))) else (some false))))) else (some false))
end
def stowagelaw3_CharsBack.f (k : Nat) (a0 : ByteArray) (a1 : Bool) (a2 : Int) : Option (Bool) := (chars_Escape.f a0 a1).bind fun t206 => ((chars_Unescape.f t206).bind fun bt207 => (if bt207.2 = true then (stowagelaw3_CharsBack.j0 k a0 a1 a2 t206 (bt207.1.toList != a0.toList)) else (stowagelaw3_CharsBack.j0 k a0 a1 a2 t206 true)))
theorem stowagelaw3_CharsBack.mono_l : ∀ k, (∀ y0 y1 y2 y3 y4, LeO (stowagelaw3_CharsBack.j0 k y0 y1 y2 y3 y4) (stowagelaw3_CharsBack.j0 (k + 1) y0 y1 y2 y3 y4)) ∧ (∀ y0 y1 y2 y3 y4, LeO (stowagelaw3_CharsBack.l0 k y0 y1 y2 y3 y4) (stowagelaw3_CharsBack.l0 (k + 1) y0 y1 y2 y3 y4)) ∧ (∀ y0 y1 y2 y3 y4, LeO (stowagelaw3_CharsBack.l1 k y0 y1 y2 y3 y4) (stowagelaw3_CharsBack.l1 (k + 1) y0 y1 y2 y3 y4))
 | 0 => ⟨fun _ _ _ _ _ r h => by simp [stowagelaw3_CharsBack.j0] at h, fun _ _ _ _ _ r h => by simp [stowagelaw3_CharsBack.l0] at h, fun _ _ _ _ _ r h => by simp [stowagelaw3_CharsBack.l1] at h⟩
 | k + 1 => by
  obtain ⟨ih0, ih1, ih2⟩ := stowagelaw3_CharsBack.mono_l k
  refine ⟨?_, ?_, ?_⟩
  ·intro y0 y1 y2 y3 y4
   unfold stowagelaw3_CharsBack.j0
   repeat' first
   | (with_reducible exact ih0 _ _ _ _ _)
   | (with_reducible exact ih1 _ _ _ _ _)
   | (with_reducible exact ih2 _ _ _ _ _)
   | (with_reducible exact chars_Fold.mono _ _)
   | (with_reducible exact chars_Split.mono _ _ _)
   | (with_reducible exact chars_Trim.mono _ _)
   | (with_reducible exact stowagelaw3_awake.mono _)
   | (with_reducible exact LeO.refl _)
   | (with_reducible exact LeO.none _)
   | (with_reducible refine LeO.ite ?_ ?_)
   | (with_reducible refine LeO.bind ?_ (fun _ => ?_))
   | exact ih0 _ _ _ _ _
   | exact ih1 _ _ _ _ _
   | exact ih2 _ _ _ _ _
   | exact chars_Fold.mono _ _
   | exact chars_Split.mono _ _ _
   | exact chars_Trim.mono _ _
   | exact stowagelaw3_awake.mono _
   | exact LeO.none _
   | refine LeO.ite ?_ ?_
   | refine LeO.bind ?_ (fun _ => ?_)
  ·intro y0 y1 y2 y3 y4
   unfold stowagelaw3_CharsBack.l0
   repeat' first
   | (with_reducible exact ih0 _ _ _ _ _)
   | (with_reducible exact ih1 _ _ _ _ _)
   | (with_reducible exact ih2 _ _ _ _ _)
   | (with_reducible exact chars_Fold.mono _ _)
   | (with_reducible exact chars_Split.mono _ _ _)
   | (with_reducible exact chars_Trim.mono _ _)
   | (with_reducible exact stowagelaw3_awake.mono _)
   | (with_reducible exact LeO.refl _)
   | (with_reducible exact LeO.none _)
   | (with_reducible refine LeO.ite ?_ ?_)
   | (with_reducible refine LeO.bind ?_ (fun _ => ?_))
   | exact ih0 _ _ _ _ _
   | exact ih1 _ _ _ _ _
   | exact ih2 _ _ _ _ _
   | exact chars_Fold.mono _ _
   | exact chars_Split.mono _ _ _
   | exact chars_Trim.mono _ _
   | exact stowagelaw3_awake.mono _
   | exact LeO.none _
   | refine LeO.ite ?_ ?_
   | refine LeO.bind ?_ (fun _ => ?_)
  ·intro y0 y1 y2 y3 y4
   unfold stowagelaw3_CharsBack.l1
   repeat' first
   | (with_reducible exact ih0 _ _ _ _ _)
   | (with_reducible exact ih1 _ _ _ _ _)
   | (with_reducible exact ih2 _ _ _ _ _)
   | (with_reducible exact chars_Fold.mono _ _)
   | (with_reducible exact chars_Split.mono _ _ _)
   | (with_reducible exact chars_Trim.mono _ _)
   | (with_reducible exact stowagelaw3_awake.mono _)
   | (with_reducible exact LeO.refl _)
   | (with_reducible exact LeO.none _)
   | (with_reducible refine LeO.ite ?_ ?_)
   | (with_reducible refine LeO.bind ?_ (fun _ => ?_))
   | exact ih0 _ _ _ _ _
   | exact ih1 _ _ _ _ _
   | exact ih2 _ _ _ _ _
   | exact chars_Fold.mono _ _
   | exact chars_Split.mono _ _ _
   | exact chars_Trim.mono _ _
   | exact stowagelaw3_awake.mono _
   | exact LeO.none _
   | refine LeO.ite ?_ ?_
   | refine LeO.bind ?_ (fun _ => ?_)
theorem stowagelaw3_CharsBack.mono : ∀ a0 a1 a2 k, LeO (stowagelaw3_CharsBack.f k a0 a1 a2) (stowagelaw3_CharsBack.f (k + 1) a0 a1 a2) := by
 intro a0 a1 a2 k
 obtain ⟨ih0, ih1, ih2⟩ := stowagelaw3_CharsBack.mono_l k
 unfold stowagelaw3_CharsBack.f
 repeat' first
   | (with_reducible exact ih0 _ _ _ _ _)
   | (with_reducible exact ih1 _ _ _ _ _)
   | (with_reducible exact ih2 _ _ _ _ _)
   | (with_reducible exact chars_Fold.mono _ _)
   | (with_reducible exact chars_Split.mono _ _ _)
   | (with_reducible exact chars_Trim.mono _ _)
   | (with_reducible exact stowagelaw3_awake.mono _)
   | (with_reducible exact LeO.refl _)
   | (with_reducible exact LeO.none _)
   | (with_reducible refine LeO.ite ?_ ?_)
   | (with_reducible refine LeO.bind ?_ (fun _ => ?_))
   | exact ih0 _ _ _ _ _
   | exact ih1 _ _ _ _ _
   | exact ih2 _ _ _ _ _
   | exact chars_Fold.mono _ _
   | exact chars_Split.mono _ _ _
   | exact chars_Trim.mono _ _
   | exact stowagelaw3_awake.mono _
   | exact LeO.none _
   | refine LeO.ite ?_ ?_
   | refine LeO.bind ?_ (fun _ => ?_)
set_option maxHeartbeats 8000000 in
set_option maxRecDepth 100000 in
theorem stowagelaw3_CharsBack.calls (k : Nat) (a0 : ByteArray) (a1 : Bool) (a2 : Int) (r : Bool) (w : World) (h : stowagelaw3_CharsBack.f k a0 a1 a2 = some r) (hr : r = true) :
  Calls Tryd.prog 4 #[.string a0, .bool a1, .int .u8 a2] w fun e w' => e = .returned (.bool r) ∧ Below w.heap.size w w' := by
 have HB := Aside0.mk (Below.refl w.heap.size w)
 unfold stowagelaw3_CharsBack.f at h
 have H := h
 clear h
 replace H := bndO H
 obtain ⟨t206, A40, H⟩ := H
 have A4 := Aside0.mk A40
 clear A40
 replace H := bndO H
 obtain ⟨⟨t207, t208⟩, A50, H⟩ := H
 dsimp only at H
 have A5 := Aside0.mk A50
 clear A50
 have HC6 := Aside0.mk H
 clear H
 go_enter Tryd.func4, Tryd.ntmps4
 go_upto_region 3 with (first | ((with_reducible refine gate_callee (f := 11) rfl ?_); refine goesL_ (some 18) rfl rfl Tryd.func11 (by kernel_rfl) rfl #[.string a0, .bool a1] rfl (by (try simp only [List.map_toArray, List.map_cons, List.map_nil]); first | done | rfl | (simp only [List.length_drop, List.length_take]; rfl)) ?_; (with_reducible refine (chars_Escape.calls a0 a1 t206 _ A4.out).mono ?_); rintro e w7 ⟨rfl, hb⟩; refine ⟨_, rfl, ?_⟩; have n0_ := Aside0.mk (below_step (by repeat (first | (with_reducible first | exact HB.out | apply below_alloc | apply pw_below_drewN | apply below_drew1) | exact HB.out)) hb); clear HB; have HB := n0_; clear n0_; (try clear hb); (try clear hb2); (try clear hk); (try clear hi)) | ((with_reducible refine gate_callee (f := 9) rfl ?_); refine goesL_ (some 21) rfl rfl Tryd.func9 (by kernel_rfl) rfl #[.string t206] rfl (by (try simp only [List.map_toArray, List.map_cons, List.map_nil]); first | done | rfl | (simp only [List.length_drop, List.length_take]; rfl)) ?_; (with_reducible refine (chars_Unescape.calls t206 t207 t208 _ A5.out).mono ?_); rintro e w8 ⟨rfl, hb⟩; refine ⟨_, rfl, ?_⟩; have n0_ := Aside0.mk (below_step (by repeat (first | (with_reducible first | exact HB.out | apply below_alloc | apply pw_below_drewN | apply below_drew1) | exact HB.out)) hb); clear HB; have HB := n0_; clear n0_; (try clear hb); (try clear hb2); (try clear hk); (try clear hi)))
 (try simp only [Act.put, List.setIfInBounds_toArray, List.set_cons_zero, List.set_cons_succ])
 go_cut [30] (fun v30 wc => ∃ (kq : Nat) (x30_5 : Bool), v30 = .bool x30_5 ∧ Aside0 (stowagelaw3_CharsBack.j0 kq a0 a1 a2 t206 x30_5 = some r) ∧ Aside0 (kq ≤ k) ∧ Aside0 (Below w.heap.size w wc))
 case first =>
  have H := HC6.out
  clear HC6
  by_cases c9 : t208 = true
  ·subst c9
   replace H := itT H
   have H' := Aside0.mk H
   clear H
   go_wp2
   go_meet
   case rel => exact ⟨_, ((t207.toList != a0.toList)), (by first | rfl | (simp; done) | (simp [*]; done)), H', ⟨by first | omega | exact Nat.le_refl _⟩, ⟨by repeat (first | (with_reducible first | exact HB.out | apply below_alloc | apply pw_below_drewN | apply below_drew1) | exact HB.out)⟩⟩
  ·replace c9 := Bool.eq_false_iff.mpr c9
   subst c9
   replace H := itF H
   have H' := Aside0.mk H
   clear H
   go_wp2
   go_meet
   case rel => exact ⟨_, (true), (by first | rfl | (simp; done) | (simp [*]; done)), H', ⟨by first | omega | exact Nat.le_refl _⟩, ⟨by repeat (first | (with_reducible first | exact HB.out | apply below_alloc | apply pw_below_drewN | apply below_drew1) | exact HB.out)⟩⟩
 case rest =>
  clear HC6
  try clear c1
  try clear p2
  try clear c4
  try clear c9
  obtain ⟨kq, x30_5, rfl, HA, HJ5, HB⟩ := hcut
  cases kq with
  | zero => exact absurd HA.out (by simp [stowagelaw3_CharsBack.j0])
  | succ kj5 =>
   have H := HA.out
   clear HA
   simp only [stowagelaw3_CharsBack.j0] at H
   by_cases c10 : x30_5 = true
   ·subst c10
    replace H := itT H
    rw [hr] at H
    exact absurd H (by simp)
   ·replace c10 := Bool.eq_false_iff.mpr c10
    subst c10
    replace H := itF H
    have H' := Aside0.mk H
    clear H
    go_wp2
    go_loopg [10] kj5 (fun kq v10 w' => ∃ (x10_2 : Int), v10 = .int .i64 x10_2 ∧ Aside0 (stowagelaw3_CharsBack.l0 kq a0 a1 a2 t206 x10_2 = some r) ∧ Aside0 (kq ≤ kj5) ∧ Aside0 (Below w.heap.size w w'))
    case atStart => exact ⟨(0), (by first | rfl | (simp; done) | (simp [*]; done)), H', ⟨Nat.le_refl _⟩, ⟨by repeat (first | (with_reducible first | exact HB.out | apply below_alloc | apply pw_below_drewN | apply below_drew1) | exact HB.out)⟩⟩
    case round =>
     clear H'
     try clear c1
     try clear p2
     try clear c4
     try clear c9
     try clear c10
     try clear p2
     obtain ⟨x10_2, rfl, HA, HK2, HB⟩ := hrel
     cases gk with
     | zero => exact absurd HA.out (by simp [stowagelaw3_CharsBack.l0])
     | succ k2 =>
      have H := HA.out
      clear HA
      simp only [stowagelaw3_CharsBack.l0] at H
      replace H := itO H
      rcases H with ⟨c11, H⟩ | ⟨c11, H⟩
      ·skip
       have c11b0 : decide (x10_2 < (t206.size : Int)) = true := decide_eq_true c11
       clear c11
       replace H := itO H
       rcases H with ⟨c12, H⟩ | ⟨c12, H⟩
       ·skip
        have c12b0 : decide (0 ≤ x10_2) = true := decide_eq_true c12
        clear c12
        replace H := itO H
        rcases H with ⟨c14, H⟩ | ⟨c14, H⟩
        ·skip
         have c14b0 : decide (65 ≤ (bt t206 x10_2)) = true := decide_eq_true c14
         clear c14
         replace H := itO H
         rcases H with ⟨c15, H⟩ | ⟨c15, H⟩
         ·skip
          have c15b0 : decide ((bt t206 x10_2) ≤ 90) = true := decide_eq_true c15
          clear c15
          have H' := Aside0.mk H
          clear H
          have p13 : 0 ≤ (x10_2 : Int) := of_decide_eq_true (by first | (with_reducible assumption) | assumption)
          have q13 : x10_2 < (t206.size : Int) := of_decide_eq_true (by first | (with_reducible assumption) | assumption)
          have hx13 := bt_at t206 x10_2
          replace p13 := eq_true p13
          replace q13 := eq_true q13
          go_wp2
          go_roundg k2
          case measure => have := HJ5.out; have := HK2.out; omega
          case rel => exact ⟨(wrap64 (x10_2 + 1)), (by first | rfl | (simp; done) | (simp [*]; done)), H', ⟨by have := HJ5.out; have := HK2.out; omega⟩, ⟨by repeat (first | (with_reducible first | exact HB.out | apply below_alloc | apply pw_below_drewN | apply below_drew1) | exact HB.out)⟩⟩
         ·skip
          have c15b0 : decide ((bt t206 x10_2) ≤ 90) = false := decide_eq_false c15
          clear c15
          replace H := itO H
          rcases H with ⟨c16, H⟩ | ⟨c16, H⟩
          ·skip
           have c16b0 : decide (97 ≤ (bt t206 x10_2)) = true := decide_eq_true c16
           clear c16
           replace H := itO H
           rcases H with ⟨c17, H⟩ | ⟨c17, H⟩
           ·skip
            have c17b0 : decide ((bt t206 x10_2) ≤ 122) = true := decide_eq_true c17
            clear c17
            have H' := Aside0.mk H
            clear H
            have p13 : 0 ≤ (x10_2 : Int) := of_decide_eq_true (by first | (with_reducible assumption) | assumption)
            have q13 : x10_2 < (t206.size : Int) := of_decide_eq_true (by first | (with_reducible assumption) | assumption)
            have hx13 := bt_at t206 x10_2
            replace p13 := eq_true p13
            replace q13 := eq_true q13
            go_wp2
            go_roundg k2
            case measure => have := HJ5.out; have := HK2.out; omega
            case rel => exact ⟨(wrap64 (x10_2 + 1)), (by first | rfl | (simp; done) | (simp [*]; done)), H', ⟨by have := HJ5.out; have := HK2.out; omega⟩, ⟨by repeat (first | (with_reducible first | exact HB.out | apply below_alloc | apply pw_below_drewN | apply below_drew1) | exact HB.out)⟩⟩
           ·skip
            have c17b0 : decide ((bt t206 x10_2) ≤ 122) = false := decide_eq_false c17
            clear c17
            replace H := itO H
            rcases H with ⟨c18, H⟩ | ⟨c18, H⟩
            ·skip
             have c18b0 : decide (48 ≤ (bt t206 x10_2)) = true := decide_eq_true c18
             clear c18
             replace H := itO H
             rcases H with ⟨c19, H⟩ | ⟨c19, H⟩
             ·skip
              have c19b0 : decide ((bt t206 x10_2) ≤ 57) = true := decide_eq_true c19
              clear c19
              have H' := Aside0.mk H
              clear H
              have p13 : 0 ≤ (x10_2 : Int) := of_decide_eq_true (by first | (with_reducible assumption) | assumption)
              have q13 : x10_2 < (t206.size : Int) := of_decide_eq_true (by first | (with_reducible assumption) | assumption)
              have hx13 := bt_at t206 x10_2
              replace p13 := eq_true p13
              replace q13 := eq_true q13
              go_wp2
              go_roundg k2
              case measure => have := HJ5.out; have := HK2.out; omega
              case rel => exact ⟨(wrap64 (x10_2 + 1)), (by first | rfl | (simp; done) | (simp [*]; done)), H', ⟨by have := HJ5.out; have := HK2.out; omega⟩, ⟨by repeat (first | (with_reducible first | exact HB.out | apply below_alloc | apply pw_below_drewN | apply below_drew1) | exact HB.out)⟩⟩
             ·skip
              have c19b0 : decide ((bt t206 x10_2) ≤ 57) = false := decide_eq_false c19
              clear c19
              replace H := itO H
              rcases H with ⟨c20, H⟩ | ⟨c20, H⟩
              ·skip
               have c20b0 : ((bt t206 x10_2) == 45) = true := beq_iff_eq.mpr c20
               have c20b1 : ((bt t206 x10_2) != 45) = false := bne_eq_false_iff_eq.mpr c20
               clear c20
               have H' := Aside0.mk H
               clear H
               have p13 : 0 ≤ (x10_2 : Int) := of_decide_eq_true (by first | (with_reducible assumption) | assumption)
               have q13 : x10_2 < (t206.size : Int) := of_decide_eq_true (by first | (with_reducible assumption) | assumption)
               have hx13 := bt_at t206 x10_2
               replace p13 := eq_true p13
               replace q13 := eq_true q13
               go_wp2
               go_roundg k2
               case measure => have := HJ5.out; have := HK2.out; omega
               case rel => exact ⟨(wrap64 (x10_2 + 1)), (by first | rfl | (simp; done) | (simp [*]; done)), H', ⟨by have := HJ5.out; have := HK2.out; omega⟩, ⟨by repeat (first | (with_reducible first | exact HB.out | apply below_alloc | apply pw_below_drewN | apply below_drew1) | exact HB.out)⟩⟩
              ·skip
               have c20b0 : ((bt t206 x10_2) == 45) = false := beq_eq_false_iff_ne.mpr c20
               have c20b1 : ((bt t206 x10_2) != 45) = true := bne_iff_ne.mpr c20
               replace H := itO H
               rcases H with ⟨c21, H⟩ | ⟨c21, H⟩
               ·skip
                have c21b0 : ((bt t206 x10_2) == 46) = true := beq_iff_eq.mpr c21
                have c21b1 : ((bt t206 x10_2) != 46) = false := bne_eq_false_iff_eq.mpr c21
                clear c21
                have H' := Aside0.mk H
                clear H
                have p13 : 0 ≤ (x10_2 : Int) := of_decide_eq_true (by first | (with_reducible assumption) | assumption)
                have q13 : x10_2 < (t206.size : Int) := of_decide_eq_true (by first | (with_reducible assumption) | assumption)
                have hx13 := bt_at t206 x10_2
                replace p13 := eq_true p13
                replace q13 := eq_true q13
                go_wp2
                go_roundg k2
                case measure => have := HJ5.out; have := HK2.out; omega
                case rel => exact ⟨(wrap64 (x10_2 + 1)), (by first | rfl | (simp; done) | (simp [*]; done)), H', ⟨by have := HJ5.out; have := HK2.out; omega⟩, ⟨by repeat (first | (with_reducible first | exact HB.out | apply below_alloc | apply pw_below_drewN | apply below_drew1) | exact HB.out)⟩⟩
               ·skip
                have c21b0 : ((bt t206 x10_2) == 46) = false := beq_eq_false_iff_ne.mpr c21
                have c21b1 : ((bt t206 x10_2) != 46) = true := bne_iff_ne.mpr c21
                replace H := itO H
                rcases H with ⟨c22, H⟩ | ⟨c22, H⟩
                ·skip
                 have c22b0 : ((bt t206 x10_2) == 95) = true := beq_iff_eq.mpr c22
                 have c22b1 : ((bt t206 x10_2) != 95) = false := bne_eq_false_iff_eq.mpr c22
                 clear c22
                 have H' := Aside0.mk H
                 clear H
                 have p13 : 0 ≤ (x10_2 : Int) := of_decide_eq_true (by first | (with_reducible assumption) | assumption)
                 have q13 : x10_2 < (t206.size : Int) := of_decide_eq_true (by first | (with_reducible assumption) | assumption)
                 have hx13 := bt_at t206 x10_2
                 replace p13 := eq_true p13
                 replace q13 := eq_true q13
                 go_wp2
                 go_roundg k2
                 case measure => have := HJ5.out; have := HK2.out; omega
                 case rel => exact ⟨(wrap64 (x10_2 + 1)), (by first | rfl | (simp; done) | (simp [*]; done)), H', ⟨by have := HJ5.out; have := HK2.out; omega⟩, ⟨by repeat (first | (with_reducible first | exact HB.out | apply below_alloc | apply pw_below_drewN | apply below_drew1) | exact HB.out)⟩⟩
                ·skip
                 have c22b0 : ((bt t206 x10_2) == 95) = false := beq_eq_false_iff_ne.mpr c22
                 have c22b1 : ((bt t206 x10_2) != 95) = true := bne_iff_ne.mpr c22
                 replace H := itO H
                 rcases H with ⟨c23, H⟩ | ⟨c23, H⟩
                 ·skip
                  have c23b0 : ((bt t206 x10_2) == 126) = true := beq_iff_eq.mpr c23
                  have c23b1 : ((bt t206 x10_2) != 126) = false := bne_eq_false_iff_eq.mpr c23
                  clear c23
                  have H' := Aside0.mk H
                  clear H
                  have p13 : 0 ≤ (x10_2 : Int) := of_decide_eq_true (by first | (with_reducible assumption) | assumption)
                  have q13 : x10_2 < (t206.size : Int) := of_decide_eq_true (by first | (with_reducible assumption) | assumption)
                  have hx13 := bt_at t206 x10_2
                  replace p13 := eq_true p13
                  replace q13 := eq_true q13
                  go_wp2
                  go_roundg k2
                  case measure => have := HJ5.out; have := HK2.out; omega
                  case rel => exact ⟨(wrap64 (x10_2 + 1)), (by first | rfl | (simp; done) | (simp [*]; done)), H', ⟨by have := HJ5.out; have := HK2.out; omega⟩, ⟨by repeat (first | (with_reducible first | exact HB.out | apply below_alloc | apply pw_below_drewN | apply below_drew1) | exact HB.out)⟩⟩
                 ·skip
                  have c23b0 : ((bt t206 x10_2) == 126) = false := beq_eq_false_iff_ne.mpr c23
                  have c23b1 : ((bt t206 x10_2) != 126) = true := bne_iff_ne.mpr c23
                  replace H := itO H
                  rcases H with ⟨c24, H⟩ | ⟨c24, H⟩
                  ·skip
                   have c24b0 : ((bt t206 x10_2) == 37) = true := beq_iff_eq.mpr c24
                   have c24b1 : ((bt t206 x10_2) != 37) = false := bne_eq_false_iff_eq.mpr c24
                   clear c24
                   have H' := Aside0.mk H
                   clear H
                   have p13 : 0 ≤ (x10_2 : Int) := of_decide_eq_true (by first | (with_reducible assumption) | assumption)
                   have q13 : x10_2 < (t206.size : Int) := of_decide_eq_true (by first | (with_reducible assumption) | assumption)
                   have hx13 := bt_at t206 x10_2
                   replace p13 := eq_true p13
                   replace q13 := eq_true q13
                   go_wp2
                   go_roundg k2
                   case measure => have := HJ5.out; have := HK2.out; omega
                   case rel => exact ⟨(wrap64 (x10_2 + 1)), (by first | rfl | (simp; done) | (simp [*]; done)), H', ⟨by have := HJ5.out; have := HK2.out; omega⟩, ⟨by repeat (first | (with_reducible first | exact HB.out | apply below_alloc | apply pw_below_drewN | apply below_drew1) | exact HB.out)⟩⟩
                  ·skip
                   have c24b0 : ((bt t206 x10_2) == 37) = false := beq_eq_false_iff_ne.mpr c24
                   have c24b1 : ((bt t206 x10_2) != 37) = true := bne_iff_ne.mpr c24
                   by_cases c25 : a1 = true
                   ·subst c25
                    replace H := itT H
                    replace H := itO H
                    rcases H with ⟨c26, H⟩ | ⟨c26, H⟩
                    ·skip
                     have c26b0 : ((bt t206 x10_2) == 47) = true := beq_iff_eq.mpr c26
                     have c26b1 : ((bt t206 x10_2) != 47) = false := bne_eq_false_iff_eq.mpr c26
                     clear c26
                     have H' := Aside0.mk H
                     clear H
                     have p13 : 0 ≤ (x10_2 : Int) := of_decide_eq_true (by first | (with_reducible assumption) | assumption)
                     have q13 : x10_2 < (t206.size : Int) := of_decide_eq_true (by first | (with_reducible assumption) | assumption)
                     have hx13 := bt_at t206 x10_2
                     replace p13 := eq_true p13
                     replace q13 := eq_true q13
                     go_wp2
                     go_roundg k2
                     case measure => have := HJ5.out; have := HK2.out; omega
                     case rel => exact ⟨(wrap64 (x10_2 + 1)), (by first | rfl | (simp; done) | (simp [*]; done)), H', ⟨by have := HJ5.out; have := HK2.out; omega⟩, ⟨by repeat (first | (with_reducible first | exact HB.out | apply below_alloc | apply pw_below_drewN | apply below_drew1) | exact HB.out)⟩⟩
                    ·skip
                     have c26b0 : ((bt t206 x10_2) == 47) = false := beq_eq_false_iff_ne.mpr c26
                     have c26b1 : ((bt t206 x10_2) != 47) = true := bne_iff_ne.mpr c26
                     rw [hr] at H
                     exact absurd H (by simp)
                   ·replace c25 := Bool.eq_false_iff.mpr c25
                    subst c25
                    replace H := itF H
                    rw [hr] at H
                    exact absurd H (by simp)
            ·skip
             have c18b0 : decide (48 ≤ (bt t206 x10_2)) = false := decide_eq_false c18
             clear c18
             replace H := itO H
             rcases H with ⟨c27, H⟩ | ⟨c27, H⟩
             ·skip
              have c27b0 : ((bt t206 x10_2) == 45) = true := beq_iff_eq.mpr c27
              have c27b1 : ((bt t206 x10_2) != 45) = false := bne_eq_false_iff_eq.mpr c27
              clear c27
              have H' := Aside0.mk H
              clear H
              have p13 : 0 ≤ (x10_2 : Int) := of_decide_eq_true (by first | (with_reducible assumption) | assumption)
              have q13 : x10_2 < (t206.size : Int) := of_decide_eq_true (by first | (with_reducible assumption) | assumption)
              have hx13 := bt_at t206 x10_2
              replace p13 := eq_true p13
              replace q13 := eq_true q13
              go_wp2
              go_roundg k2
              case measure => have := HJ5.out; have := HK2.out; omega
              case rel => exact ⟨(wrap64 (x10_2 + 1)), (by first | rfl | (simp; done) | (simp [*]; done)), H', ⟨by have := HJ5.out; have := HK2.out; omega⟩, ⟨by repeat (first | (with_reducible first | exact HB.out | apply below_alloc | apply pw_below_drewN | apply below_drew1) | exact HB.out)⟩⟩
             ·skip
              have c27b0 : ((bt t206 x10_2) == 45) = false := beq_eq_false_iff_ne.mpr c27
              have c27b1 : ((bt t206 x10_2) != 45) = true := bne_iff_ne.mpr c27
              replace H := itO H
              rcases H with ⟨c28, H⟩ | ⟨c28, H⟩
              ·skip
               have c28b0 : ((bt t206 x10_2) == 46) = true := beq_iff_eq.mpr c28
               have c28b1 : ((bt t206 x10_2) != 46) = false := bne_eq_false_iff_eq.mpr c28
               clear c28
               have H' := Aside0.mk H
               clear H
               have p13 : 0 ≤ (x10_2 : Int) := of_decide_eq_true (by first | (with_reducible assumption) | assumption)
               have q13 : x10_2 < (t206.size : Int) := of_decide_eq_true (by first | (with_reducible assumption) | assumption)
               have hx13 := bt_at t206 x10_2
               replace p13 := eq_true p13
               replace q13 := eq_true q13
               go_wp2
               go_roundg k2
               case measure => have := HJ5.out; have := HK2.out; omega
               case rel => exact ⟨(wrap64 (x10_2 + 1)), (by first | rfl | (simp; done) | (simp [*]; done)), H', ⟨by have := HJ5.out; have := HK2.out; omega⟩, ⟨by repeat (first | (with_reducible first | exact HB.out | apply below_alloc | apply pw_below_drewN | apply below_drew1) | exact HB.out)⟩⟩
              ·skip
               have c28b0 : ((bt t206 x10_2) == 46) = false := beq_eq_false_iff_ne.mpr c28
               have c28b1 : ((bt t206 x10_2) != 46) = true := bne_iff_ne.mpr c28
               replace H := itO H
               rcases H with ⟨c29, H⟩ | ⟨c29, H⟩
               ·skip
                have c29b0 : ((bt t206 x10_2) == 95) = true := beq_iff_eq.mpr c29
                have c29b1 : ((bt t206 x10_2) != 95) = false := bne_eq_false_iff_eq.mpr c29
                clear c29
                have H' := Aside0.mk H
                clear H
                have p13 : 0 ≤ (x10_2 : Int) := of_decide_eq_true (by first | (with_reducible assumption) | assumption)
                have q13 : x10_2 < (t206.size : Int) := of_decide_eq_true (by first | (with_reducible assumption) | assumption)
                have hx13 := bt_at t206 x10_2
                replace p13 := eq_true p13
                replace q13 := eq_true q13
                go_wp2
                go_roundg k2
                case measure => have := HJ5.out; have := HK2.out; omega
                case rel => exact ⟨(wrap64 (x10_2 + 1)), (by first | rfl | (simp; done) | (simp [*]; done)), H', ⟨by have := HJ5.out; have := HK2.out; omega⟩, ⟨by repeat (first | (with_reducible first | exact HB.out | apply below_alloc | apply pw_below_drewN | apply below_drew1) | exact HB.out)⟩⟩
               ·skip
                have c29b0 : ((bt t206 x10_2) == 95) = false := beq_eq_false_iff_ne.mpr c29
                have c29b1 : ((bt t206 x10_2) != 95) = true := bne_iff_ne.mpr c29
                replace H := itO H
                rcases H with ⟨c30, H⟩ | ⟨c30, H⟩
                ·skip
                 have c30b0 : ((bt t206 x10_2) == 126) = true := beq_iff_eq.mpr c30
                 have c30b1 : ((bt t206 x10_2) != 126) = false := bne_eq_false_iff_eq.mpr c30
                 clear c30
                 have H' := Aside0.mk H
                 clear H
                 have p13 : 0 ≤ (x10_2 : Int) := of_decide_eq_true (by first | (with_reducible assumption) | assumption)
                 have q13 : x10_2 < (t206.size : Int) := of_decide_eq_true (by first | (with_reducible assumption) | assumption)
                 have hx13 := bt_at t206 x10_2
                 replace p13 := eq_true p13
                 replace q13 := eq_true q13
                 go_wp2
                 go_roundg k2
                 case measure => have := HJ5.out; have := HK2.out; omega
                 case rel => exact ⟨(wrap64 (x10_2 + 1)), (by first | rfl | (simp; done) | (simp [*]; done)), H', ⟨by have := HJ5.out; have := HK2.out; omega⟩, ⟨by repeat (first | (with_reducible first | exact HB.out | apply below_alloc | apply pw_below_drewN | apply below_drew1) | exact HB.out)⟩⟩
                ·skip
                 have c30b0 : ((bt t206 x10_2) == 126) = false := beq_eq_false_iff_ne.mpr c30
                 have c30b1 : ((bt t206 x10_2) != 126) = true := bne_iff_ne.mpr c30
                 replace H := itO H
                 rcases H with ⟨c31, H⟩ | ⟨c31, H⟩
                 ·skip
                  have c31b0 : ((bt t206 x10_2) == 37) = true := beq_iff_eq.mpr c31
                  have c31b1 : ((bt t206 x10_2) != 37) = false := bne_eq_false_iff_eq.mpr c31
                  clear c31
                  have H' := Aside0.mk H
                  clear H
                  have p13 : 0 ≤ (x10_2 : Int) := of_decide_eq_true (by first | (with_reducible assumption) | assumption)
                  have q13 : x10_2 < (t206.size : Int) := of_decide_eq_true (by first | (with_reducible assumption) | assumption)
                  have hx13 := bt_at t206 x10_2
                  replace p13 := eq_true p13
                  replace q13 := eq_true q13
                  go_wp2
                  go_roundg k2
                  case measure => have := HJ5.out; have := HK2.out; omega
                  case rel => exact ⟨(wrap64 (x10_2 + 1)), (by first | rfl | (simp; done) | (simp [*]; done)), H', ⟨by have := HJ5.out; have := HK2.out; omega⟩, ⟨by repeat (first | (with_reducible first | exact HB.out | apply below_alloc | apply pw_below_drewN | apply below_drew1) | exact HB.out)⟩⟩
                 ·skip
                  have c31b0 : ((bt t206 x10_2) == 37) = false := beq_eq_false_iff_ne.mpr c31
                  have c31b1 : ((bt t206 x10_2) != 37) = true := bne_iff_ne.mpr c31
                  by_cases c32 : a1 = true
                  ·subst c32
                   replace H := itT H
                   replace H := itO H
                   rcases H with ⟨c33, H⟩ | ⟨c33, H⟩
                   ·skip
                    have c33b0 : ((bt t206 x10_2) == 47) = true := beq_iff_eq.mpr c33
                    have c33b1 : ((bt t206 x10_2) != 47) = false := bne_eq_false_iff_eq.mpr c33
                    clear c33
                    have H' := Aside0.mk H
                    clear H
                    have p13 : 0 ≤ (x10_2 : Int) := of_decide_eq_true (by first | (with_reducible assumption) | assumption)
                    have q13 : x10_2 < (t206.size : Int) := of_decide_eq_true (by first | (with_reducible assumption) | assumption)
                    have hx13 := bt_at t206 x10_2
                    replace p13 := eq_true p13
                    replace q13 := eq_true q13
                    go_wp2
                    go_roundg k2
                    case measure => have := HJ5.out; have := HK2.out; omega
                    case rel => exact ⟨(wrap64 (x10_2 + 1)), (by first | rfl | (simp; done) | (simp [*]; done)), H', ⟨by have := HJ5.out; have := HK2.out; omega⟩, ⟨by repeat (first | (with_reducible first | exact HB.out | apply below_alloc | apply pw_below_drewN | apply below_drew1) | exact HB.out)⟩⟩
                   ·skip
                    have c33b0 : ((bt t206 x10_2) == 47) = false := beq_eq_false_iff_ne.mpr c33
                    have c33b1 : ((bt t206 x10_2) != 47) = true := bne_iff_ne.mpr c33
                    rw [hr] at H
                    exact absurd H (by simp)
                  ·replace c32 := Bool.eq_false_iff.mpr c32
                   subst c32
                   replace H := itF H
                   rw [hr] at H
                   exact absurd H (by simp)
          ·skip
           have c16b0 : decide (97 ≤ (bt t206 x10_2)) = false := decide_eq_false c16
           clear c16
           replace H := itO H
           rcases H with ⟨c34, H⟩ | ⟨c34, H⟩
           ·skip
            have c34b0 : decide (48 ≤ (bt t206 x10_2)) = true := decide_eq_true c34
            clear c34
            replace H := itO H
            rcases H with ⟨c35, H⟩ | ⟨c35, H⟩
            ·skip
             have c35b0 : decide ((bt t206 x10_2) ≤ 57) = true := decide_eq_true c35
             clear c35
             have H' := Aside0.mk H
             clear H
             have p13 : 0 ≤ (x10_2 : Int) := of_decide_eq_true (by first | (with_reducible assumption) | assumption)
             have q13 : x10_2 < (t206.size : Int) := of_decide_eq_true (by first | (with_reducible assumption) | assumption)
             have hx13 := bt_at t206 x10_2
             replace p13 := eq_true p13
             replace q13 := eq_true q13
             go_wp2
             go_roundg k2
             case measure => have := HJ5.out; have := HK2.out; omega
             case rel => exact ⟨(wrap64 (x10_2 + 1)), (by first | rfl | (simp; done) | (simp [*]; done)), H', ⟨by have := HJ5.out; have := HK2.out; omega⟩, ⟨by repeat (first | (with_reducible first | exact HB.out | apply below_alloc | apply pw_below_drewN | apply below_drew1) | exact HB.out)⟩⟩
            ·skip
             have c35b0 : decide ((bt t206 x10_2) ≤ 57) = false := decide_eq_false c35
             clear c35
             replace H := itO H
             rcases H with ⟨c36, H⟩ | ⟨c36, H⟩
             ·skip
              have c36b0 : ((bt t206 x10_2) == 45) = true := beq_iff_eq.mpr c36
              have c36b1 : ((bt t206 x10_2) != 45) = false := bne_eq_false_iff_eq.mpr c36
              clear c36
              have H' := Aside0.mk H
              clear H
              have p13 : 0 ≤ (x10_2 : Int) := of_decide_eq_true (by first | (with_reducible assumption) | assumption)
              have q13 : x10_2 < (t206.size : Int) := of_decide_eq_true (by first | (with_reducible assumption) | assumption)
              have hx13 := bt_at t206 x10_2
              replace p13 := eq_true p13
              replace q13 := eq_true q13
              go_wp2
              go_roundg k2
              case measure => have := HJ5.out; have := HK2.out; omega
              case rel => exact ⟨(wrap64 (x10_2 + 1)), (by first | rfl | (simp; done) | (simp [*]; done)), H', ⟨by have := HJ5.out; have := HK2.out; omega⟩, ⟨by repeat (first | (with_reducible first | exact HB.out | apply below_alloc | apply pw_below_drewN | apply below_drew1) | exact HB.out)⟩⟩
             ·skip
              have c36b0 : ((bt t206 x10_2) == 45) = false := beq_eq_false_iff_ne.mpr c36
              have c36b1 : ((bt t206 x10_2) != 45) = true := bne_iff_ne.mpr c36
              replace H := itO H
              rcases H with ⟨c37, H⟩ | ⟨c37, H⟩
              ·skip
               have c37b0 : ((bt t206 x10_2) == 46) = true := beq_iff_eq.mpr c37
               have c37b1 : ((bt t206 x10_2) != 46) = false := bne_eq_false_iff_eq.mpr c37
               clear c37
               have H' := Aside0.mk H
               clear H
               have p13 : 0 ≤ (x10_2 : Int) := of_decide_eq_true (by first | (with_reducible assumption) | assumption)
               have q13 : x10_2 < (t206.size : Int) := of_decide_eq_true (by first | (with_reducible assumption) | assumption)
               have hx13 := bt_at t206 x10_2
               replace p13 := eq_true p13
               replace q13 := eq_true q13
               go_wp2
               go_roundg k2
               case measure => have := HJ5.out; have := HK2.out; omega
               case rel => exact ⟨(wrap64 (x10_2 + 1)), (by first | rfl | (simp; done) | (simp [*]; done)), H', ⟨by have := HJ5.out; have := HK2.out; omega⟩, ⟨by repeat (first | (with_reducible first | exact HB.out | apply below_alloc | apply pw_below_drewN | apply below_drew1) | exact HB.out)⟩⟩
              ·skip
               have c37b0 : ((bt t206 x10_2) == 46) = false := beq_eq_false_iff_ne.mpr c37
               have c37b1 : ((bt t206 x10_2) != 46) = true := bne_iff_ne.mpr c37
               replace H := itO H
               rcases H with ⟨c38, H⟩ | ⟨c38, H⟩
               ·skip
                have c38b0 : ((bt t206 x10_2) == 95) = true := beq_iff_eq.mpr c38
                have c38b1 : ((bt t206 x10_2) != 95) = false := bne_eq_false_iff_eq.mpr c38
                clear c38
                have H' := Aside0.mk H
                clear H
                have p13 : 0 ≤ (x10_2 : Int) := of_decide_eq_true (by first | (with_reducible assumption) | assumption)
                have q13 : x10_2 < (t206.size : Int) := of_decide_eq_true (by first | (with_reducible assumption) | assumption)
                have hx13 := bt_at t206 x10_2
                replace p13 := eq_true p13
                replace q13 := eq_true q13
                go_wp2
                go_roundg k2
                case measure => have := HJ5.out; have := HK2.out; omega
                case rel => exact ⟨(wrap64 (x10_2 + 1)), (by first | rfl | (simp; done) | (simp [*]; done)), H', ⟨by have := HJ5.out; have := HK2.out; omega⟩, ⟨by repeat (first | (with_reducible first | exact HB.out | apply below_alloc | apply pw_below_drewN | apply below_drew1) | exact HB.out)⟩⟩
               ·skip
                have c38b0 : ((bt t206 x10_2) == 95) = false := beq_eq_false_iff_ne.mpr c38
                have c38b1 : ((bt t206 x10_2) != 95) = true := bne_iff_ne.mpr c38
                replace H := itO H
                rcases H with ⟨c39, H⟩ | ⟨c39, H⟩
                ·skip
                 have c39b0 : ((bt t206 x10_2) == 126) = true := beq_iff_eq.mpr c39
                 have c39b1 : ((bt t206 x10_2) != 126) = false := bne_eq_false_iff_eq.mpr c39
                 clear c39
                 have H' := Aside0.mk H
                 clear H
                 have p13 : 0 ≤ (x10_2 : Int) := of_decide_eq_true (by first | (with_reducible assumption) | assumption)
                 have q13 : x10_2 < (t206.size : Int) := of_decide_eq_true (by first | (with_reducible assumption) | assumption)
                 have hx13 := bt_at t206 x10_2
                 replace p13 := eq_true p13
                 replace q13 := eq_true q13
                 go_wp2
                 go_roundg k2
                 case measure => have := HJ5.out; have := HK2.out; omega
                 case rel => exact ⟨(wrap64 (x10_2 + 1)), (by first | rfl | (simp; done) | (simp [*]; done)), H', ⟨by have := HJ5.out; have := HK2.out; omega⟩, ⟨by repeat (first | (with_reducible first | exact HB.out | apply below_alloc | apply pw_below_drewN | apply below_drew1) | exact HB.out)⟩⟩
                ·skip
                 have c39b0 : ((bt t206 x10_2) == 126) = false := beq_eq_false_iff_ne.mpr c39
                 have c39b1 : ((bt t206 x10_2) != 126) = true := bne_iff_ne.mpr c39
                 replace H := itO H
                 rcases H with ⟨c40, H⟩ | ⟨c40, H⟩
                 ·skip
                  have c40b0 : ((bt t206 x10_2) == 37) = true := beq_iff_eq.mpr c40
                  have c40b1 : ((bt t206 x10_2) != 37) = false := bne_eq_false_iff_eq.mpr c40
                  clear c40
                  have H' := Aside0.mk H
                  clear H
                  have p13 : 0 ≤ (x10_2 : Int) := of_decide_eq_true (by first | (with_reducible assumption) | assumption)
                  have q13 : x10_2 < (t206.size : Int) := of_decide_eq_true (by first | (with_reducible assumption) | assumption)
                  have hx13 := bt_at t206 x10_2
                  replace p13 := eq_true p13
                  replace q13 := eq_true q13
                  go_wp2
                  go_roundg k2
                  case measure => have := HJ5.out; have := HK2.out; omega
                  case rel => exact ⟨(wrap64 (x10_2 + 1)), (by first | rfl | (simp; done) | (simp [*]; done)), H', ⟨by have := HJ5.out; have := HK2.out; omega⟩, ⟨by repeat (first | (with_reducible first | exact HB.out | apply below_alloc | apply pw_below_drewN | apply below_drew1) | exact HB.out)⟩⟩
                 ·skip
                  have c40b0 : ((bt t206 x10_2) == 37) = false := beq_eq_false_iff_ne.mpr c40
                  have c40b1 : ((bt t206 x10_2) != 37) = true := bne_iff_ne.mpr c40
                  by_cases c41 : a1 = true
                  ·subst c41
                   replace H := itT H
                   replace H := itO H
                   rcases H with ⟨c42, H⟩ | ⟨c42, H⟩
                   ·skip
                    have c42b0 : ((bt t206 x10_2) == 47) = true := beq_iff_eq.mpr c42
                    have c42b1 : ((bt t206 x10_2) != 47) = false := bne_eq_false_iff_eq.mpr c42
                    clear c42
                    have H' := Aside0.mk H
                    clear H
                    have p13 : 0 ≤ (x10_2 : Int) := of_decide_eq_true (by first | (with_reducible assumption) | assumption)
                    have q13 : x10_2 < (t206.size : Int) := of_decide_eq_true (by first | (with_reducible assumption) | assumption)
                    have hx13 := bt_at t206 x10_2
                    replace p13 := eq_true p13
                    replace q13 := eq_true q13
                    go_wp2
                    go_roundg k2
                    case measure => have := HJ5.out; have := HK2.out; omega
                    case rel => exact ⟨(wrap64 (x10_2 + 1)), (by first | rfl | (simp; done) | (simp [*]; done)), H', ⟨by have := HJ5.out; have := HK2.out; omega⟩, ⟨by repeat (first | (with_reducible first | exact HB.out | apply below_alloc | apply pw_below_drewN | apply below_drew1) | exact HB.out)⟩⟩
                   ·skip
                    have c42b0 : ((bt t206 x10_2) == 47) = false := beq_eq_false_iff_ne.mpr c42
                    have c42b1 : ((bt t206 x10_2) != 47) = true := bne_iff_ne.mpr c42
                    rw [hr] at H
                    exact absurd H (by simp)
                  ·replace c41 := Bool.eq_false_iff.mpr c41
                   subst c41
                   replace H := itF H
                   rw [hr] at H
                   exact absurd H (by simp)
           ·skip
            have c34b0 : decide (48 ≤ (bt t206 x10_2)) = false := decide_eq_false c34
            clear c34
            replace H := itO H
            rcases H with ⟨c43, H⟩ | ⟨c43, H⟩
            ·skip
             have c43b0 : ((bt t206 x10_2) == 45) = true := beq_iff_eq.mpr c43
             have c43b1 : ((bt t206 x10_2) != 45) = false := bne_eq_false_iff_eq.mpr c43
             clear c43
             have H' := Aside0.mk H
             clear H
             have p13 : 0 ≤ (x10_2 : Int) := of_decide_eq_true (by first | (with_reducible assumption) | assumption)
             have q13 : x10_2 < (t206.size : Int) := of_decide_eq_true (by first | (with_reducible assumption) | assumption)
             have hx13 := bt_at t206 x10_2
             replace p13 := eq_true p13
             replace q13 := eq_true q13
             go_wp2
             go_roundg k2
             case measure => have := HJ5.out; have := HK2.out; omega
             case rel => exact ⟨(wrap64 (x10_2 + 1)), (by first | rfl | (simp; done) | (simp [*]; done)), H', ⟨by have := HJ5.out; have := HK2.out; omega⟩, ⟨by repeat (first | (with_reducible first | exact HB.out | apply below_alloc | apply pw_below_drewN | apply below_drew1) | exact HB.out)⟩⟩
            ·skip
             have c43b0 : ((bt t206 x10_2) == 45) = false := beq_eq_false_iff_ne.mpr c43
             have c43b1 : ((bt t206 x10_2) != 45) = true := bne_iff_ne.mpr c43
             replace H := itO H
             rcases H with ⟨c44, H⟩ | ⟨c44, H⟩
             ·skip
              have c44b0 : ((bt t206 x10_2) == 46) = true := beq_iff_eq.mpr c44
              have c44b1 : ((bt t206 x10_2) != 46) = false := bne_eq_false_iff_eq.mpr c44
              clear c44
              have H' := Aside0.mk H
              clear H
              have p13 : 0 ≤ (x10_2 : Int) := of_decide_eq_true (by first | (with_reducible assumption) | assumption)
              have q13 : x10_2 < (t206.size : Int) := of_decide_eq_true (by first | (with_reducible assumption) | assumption)
              have hx13 := bt_at t206 x10_2
              replace p13 := eq_true p13
              replace q13 := eq_true q13
              go_wp2
              go_roundg k2
              case measure => have := HJ5.out; have := HK2.out; omega
              case rel => exact ⟨(wrap64 (x10_2 + 1)), (by first | rfl | (simp; done) | (simp [*]; done)), H', ⟨by have := HJ5.out; have := HK2.out; omega⟩, ⟨by repeat (first | (with_reducible first | exact HB.out | apply below_alloc | apply pw_below_drewN | apply below_drew1) | exact HB.out)⟩⟩
             ·skip
              have c44b0 : ((bt t206 x10_2) == 46) = false := beq_eq_false_iff_ne.mpr c44
              have c44b1 : ((bt t206 x10_2) != 46) = true := bne_iff_ne.mpr c44
              replace H := itO H
              rcases H with ⟨c45, H⟩ | ⟨c45, H⟩
              ·skip
               have c45b0 : ((bt t206 x10_2) == 95) = true := beq_iff_eq.mpr c45
               have c45b1 : ((bt t206 x10_2) != 95) = false := bne_eq_false_iff_eq.mpr c45
               clear c45
               have H' := Aside0.mk H
               clear H
               have p13 : 0 ≤ (x10_2 : Int) := of_decide_eq_true (by first | (with_reducible assumption) | assumption)
               have q13 : x10_2 < (t206.size : Int) := of_decide_eq_true (by first | (with_reducible assumption) | assumption)
               have hx13 := bt_at t206 x10_2
               replace p13 := eq_true p13
               replace q13 := eq_true q13
               go_wp2
               go_roundg k2
               case measure => have := HJ5.out; have := HK2.out; omega
               case rel => exact ⟨(wrap64 (x10_2 + 1)), (by first | rfl | (simp; done) | (simp [*]; done)), H', ⟨by have := HJ5.out; have := HK2.out; omega⟩, ⟨by repeat (first | (with_reducible first | exact HB.out | apply below_alloc | apply pw_below_drewN | apply below_drew1) | exact HB.out)⟩⟩
              ·skip
               have c45b0 : ((bt t206 x10_2) == 95) = false := beq_eq_false_iff_ne.mpr c45
               have c45b1 : ((bt t206 x10_2) != 95) = true := bne_iff_ne.mpr c45
               replace H := itO H
               rcases H with ⟨c46, H⟩ | ⟨c46, H⟩
               ·skip
                have c46b0 : ((bt t206 x10_2) == 126) = true := beq_iff_eq.mpr c46
                have c46b1 : ((bt t206 x10_2) != 126) = false := bne_eq_false_iff_eq.mpr c46
                clear c46
                have H' := Aside0.mk H
                clear H
                have p13 : 0 ≤ (x10_2 : Int) := of_decide_eq_true (by first | (with_reducible assumption) | assumption)
                have q13 : x10_2 < (t206.size : Int) := of_decide_eq_true (by first | (with_reducible assumption) | assumption)
                have hx13 := bt_at t206 x10_2
                replace p13 := eq_true p13
                replace q13 := eq_true q13
                go_wp2
                go_roundg k2
                case measure => have := HJ5.out; have := HK2.out; omega
                case rel => exact ⟨(wrap64 (x10_2 + 1)), (by first | rfl | (simp; done) | (simp [*]; done)), H', ⟨by have := HJ5.out; have := HK2.out; omega⟩, ⟨by repeat (first | (with_reducible first | exact HB.out | apply below_alloc | apply pw_below_drewN | apply below_drew1) | exact HB.out)⟩⟩
               ·skip
                have c46b0 : ((bt t206 x10_2) == 126) = false := beq_eq_false_iff_ne.mpr c46
                have c46b1 : ((bt t206 x10_2) != 126) = true := bne_iff_ne.mpr c46
                replace H := itO H
                rcases H with ⟨c47, H⟩ | ⟨c47, H⟩
                ·skip
                 have c47b0 : ((bt t206 x10_2) == 37) = true := beq_iff_eq.mpr c47
                 have c47b1 : ((bt t206 x10_2) != 37) = false := bne_eq_false_iff_eq.mpr c47
                 clear c47
                 have H' := Aside0.mk H
                 clear H
                 have p13 : 0 ≤ (x10_2 : Int) := of_decide_eq_true (by first | (with_reducible assumption) | assumption)
                 have q13 : x10_2 < (t206.size : Int) := of_decide_eq_true (by first | (with_reducible assumption) | assumption)
                 have hx13 := bt_at t206 x10_2
                 replace p13 := eq_true p13
                 replace q13 := eq_true q13
                 go_wp2
                 go_roundg k2
                 case measure => have := HJ5.out; have := HK2.out; omega
                 case rel => exact ⟨(wrap64 (x10_2 + 1)), (by first | rfl | (simp; done) | (simp [*]; done)), H', ⟨by have := HJ5.out; have := HK2.out; omega⟩, ⟨by repeat (first | (with_reducible first | exact HB.out | apply below_alloc | apply pw_below_drewN | apply below_drew1) | exact HB.out)⟩⟩
                ·skip
                 have c47b0 : ((bt t206 x10_2) == 37) = false := beq_eq_false_iff_ne.mpr c47
                 have c47b1 : ((bt t206 x10_2) != 37) = true := bne_iff_ne.mpr c47
                 by_cases c48 : a1 = true
                 ·subst c48
                  replace H := itT H
                  replace H := itO H
                  rcases H with ⟨c49, H⟩ | ⟨c49, H⟩
                  ·skip
                   have c49b0 : ((bt t206 x10_2) == 47) = true := beq_iff_eq.mpr c49
                   have c49b1 : ((bt t206 x10_2) != 47) = false := bne_eq_false_iff_eq.mpr c49
                   clear c49
                   have H' := Aside0.mk H
                   clear H
                   have p13 : 0 ≤ (x10_2 : Int) := of_decide_eq_true (by first | (with_reducible assumption) | assumption)
                   have q13 : x10_2 < (t206.size : Int) := of_decide_eq_true (by first | (with_reducible assumption) | assumption)
                   have hx13 := bt_at t206 x10_2
                   replace p13 := eq_true p13
                   replace q13 := eq_true q13
                   go_wp2
                   go_roundg k2
                   case measure => have := HJ5.out; have := HK2.out; omega
                   case rel => exact ⟨(wrap64 (x10_2 + 1)), (by first | rfl | (simp; done) | (simp [*]; done)), H', ⟨by have := HJ5.out; have := HK2.out; omega⟩, ⟨by repeat (first | (with_reducible first | exact HB.out | apply below_alloc | apply pw_below_drewN | apply below_drew1) | exact HB.out)⟩⟩
                  ·skip
                   have c49b0 : ((bt t206 x10_2) == 47) = false := beq_eq_false_iff_ne.mpr c49
                   have c49b1 : ((bt t206 x10_2) != 47) = true := bne_iff_ne.mpr c49
                   rw [hr] at H
                   exact absurd H (by simp)
                 ·replace c48 := Bool.eq_false_iff.mpr c48
                  subst c48
                  replace H := itF H
                  rw [hr] at H
                  exact absurd H (by simp)
        ·skip
         have c14b0 : decide (65 ≤ (bt t206 x10_2)) = false := decide_eq_false c14
         clear c14
         replace H := itO H
         rcases H with ⟨c50, H⟩ | ⟨c50, H⟩
         ·skip
          have c50b0 : decide (97 ≤ (bt t206 x10_2)) = true := decide_eq_true c50
          clear c50
          replace H := itO H
          rcases H with ⟨c51, H⟩ | ⟨c51, H⟩
          ·skip
           have c51b0 : decide ((bt t206 x10_2) ≤ 122) = true := decide_eq_true c51
           clear c51
           have H' := Aside0.mk H
           clear H
           have p13 : 0 ≤ (x10_2 : Int) := of_decide_eq_true (by first | (with_reducible assumption) | assumption)
           have q13 : x10_2 < (t206.size : Int) := of_decide_eq_true (by first | (with_reducible assumption) | assumption)
           have hx13 := bt_at t206 x10_2
           replace p13 := eq_true p13
           replace q13 := eq_true q13
           go_wp2
           go_roundg k2
           case measure => have := HJ5.out; have := HK2.out; omega
           case rel => exact ⟨(wrap64 (x10_2 + 1)), (by first | rfl | (simp; done) | (simp [*]; done)), H', ⟨by have := HJ5.out; have := HK2.out; omega⟩, ⟨by repeat (first | (with_reducible first | exact HB.out | apply below_alloc | apply pw_below_drewN | apply below_drew1) | exact HB.out)⟩⟩
          ·skip
           have c51b0 : decide ((bt t206 x10_2) ≤ 122) = false := decide_eq_false c51
           clear c51
           replace H := itO H
           rcases H with ⟨c52, H⟩ | ⟨c52, H⟩
           ·skip
            have c52b0 : decide (48 ≤ (bt t206 x10_2)) = true := decide_eq_true c52
            clear c52
            replace H := itO H
            rcases H with ⟨c53, H⟩ | ⟨c53, H⟩
            ·skip
             have c53b0 : decide ((bt t206 x10_2) ≤ 57) = true := decide_eq_true c53
             clear c53
             have H' := Aside0.mk H
             clear H
             have p13 : 0 ≤ (x10_2 : Int) := of_decide_eq_true (by first | (with_reducible assumption) | assumption)
             have q13 : x10_2 < (t206.size : Int) := of_decide_eq_true (by first | (with_reducible assumption) | assumption)
             have hx13 := bt_at t206 x10_2
             replace p13 := eq_true p13
             replace q13 := eq_true q13
             go_wp2
             go_roundg k2
             case measure => have := HJ5.out; have := HK2.out; omega
             case rel => exact ⟨(wrap64 (x10_2 + 1)), (by first | rfl | (simp; done) | (simp [*]; done)), H', ⟨by have := HJ5.out; have := HK2.out; omega⟩, ⟨by repeat (first | (with_reducible first | exact HB.out | apply below_alloc | apply pw_below_drewN | apply below_drew1) | exact HB.out)⟩⟩
            ·skip
             have c53b0 : decide ((bt t206 x10_2) ≤ 57) = false := decide_eq_false c53
             clear c53
             replace H := itO H
             rcases H with ⟨c54, H⟩ | ⟨c54, H⟩
             ·skip
              have c54b0 : ((bt t206 x10_2) == 45) = true := beq_iff_eq.mpr c54
              have c54b1 : ((bt t206 x10_2) != 45) = false := bne_eq_false_iff_eq.mpr c54
              clear c54
              have H' := Aside0.mk H
              clear H
              have p13 : 0 ≤ (x10_2 : Int) := of_decide_eq_true (by first | (with_reducible assumption) | assumption)
              have q13 : x10_2 < (t206.size : Int) := of_decide_eq_true (by first | (with_reducible assumption) | assumption)
              have hx13 := bt_at t206 x10_2
              replace p13 := eq_true p13
              replace q13 := eq_true q13
              go_wp2
              go_roundg k2
              case measure => have := HJ5.out; have := HK2.out; omega
              case rel => exact ⟨(wrap64 (x10_2 + 1)), (by first | rfl | (simp; done) | (simp [*]; done)), H', ⟨by have := HJ5.out; have := HK2.out; omega⟩, ⟨by repeat (first | (with_reducible first | exact HB.out | apply below_alloc | apply pw_below_drewN | apply below_drew1) | exact HB.out)⟩⟩
             ·skip
              have c54b0 : ((bt t206 x10_2) == 45) = false := beq_eq_false_iff_ne.mpr c54
              have c54b1 : ((bt t206 x10_2) != 45) = true := bne_iff_ne.mpr c54
              replace H := itO H
              rcases H with ⟨c55, H⟩ | ⟨c55, H⟩
              ·skip
               have c55b0 : ((bt t206 x10_2) == 46) = true := beq_iff_eq.mpr c55
               have c55b1 : ((bt t206 x10_2) != 46) = false := bne_eq_false_iff_eq.mpr c55
               clear c55
               have H' := Aside0.mk H
               clear H
               have p13 : 0 ≤ (x10_2 : Int) := of_decide_eq_true (by first | (with_reducible assumption) | assumption)
               have q13 : x10_2 < (t206.size : Int) := of_decide_eq_true (by first | (with_reducible assumption) | assumption)
               have hx13 := bt_at t206 x10_2
               replace p13 := eq_true p13
               replace q13 := eq_true q13
               go_wp2
               go_roundg k2
               case measure => have := HJ5.out; have := HK2.out; omega
               case rel => exact ⟨(wrap64 (x10_2 + 1)), (by first | rfl | (simp; done) | (simp [*]; done)), H', ⟨by have := HJ5.out; have := HK2.out; omega⟩, ⟨by repeat (first | (with_reducible first | exact HB.out | apply below_alloc | apply pw_below_drewN | apply below_drew1) | exact HB.out)⟩⟩
              ·skip
               have c55b0 : ((bt t206 x10_2) == 46) = false := beq_eq_false_iff_ne.mpr c55
               have c55b1 : ((bt t206 x10_2) != 46) = true := bne_iff_ne.mpr c55
               replace H := itO H
               rcases H with ⟨c56, H⟩ | ⟨c56, H⟩
               ·skip
                have c56b0 : ((bt t206 x10_2) == 95) = true := beq_iff_eq.mpr c56
                have c56b1 : ((bt t206 x10_2) != 95) = false := bne_eq_false_iff_eq.mpr c56
                clear c56
                have H' := Aside0.mk H
                clear H
                have p13 : 0 ≤ (x10_2 : Int) := of_decide_eq_true (by first | (with_reducible assumption) | assumption)
                have q13 : x10_2 < (t206.size : Int) := of_decide_eq_true (by first | (with_reducible assumption) | assumption)
                have hx13 := bt_at t206 x10_2
                replace p13 := eq_true p13
                replace q13 := eq_true q13
                go_wp2
                go_roundg k2
                case measure => have := HJ5.out; have := HK2.out; omega
                case rel => exact ⟨(wrap64 (x10_2 + 1)), (by first | rfl | (simp; done) | (simp [*]; done)), H', ⟨by have := HJ5.out; have := HK2.out; omega⟩, ⟨by repeat (first | (with_reducible first | exact HB.out | apply below_alloc | apply pw_below_drewN | apply below_drew1) | exact HB.out)⟩⟩
               ·skip
                have c56b0 : ((bt t206 x10_2) == 95) = false := beq_eq_false_iff_ne.mpr c56
                have c56b1 : ((bt t206 x10_2) != 95) = true := bne_iff_ne.mpr c56
                replace H := itO H
                rcases H with ⟨c57, H⟩ | ⟨c57, H⟩
                ·skip
                 have c57b0 : ((bt t206 x10_2) == 126) = true := beq_iff_eq.mpr c57
                 have c57b1 : ((bt t206 x10_2) != 126) = false := bne_eq_false_iff_eq.mpr c57
                 clear c57
                 have H' := Aside0.mk H
                 clear H
                 have p13 : 0 ≤ (x10_2 : Int) := of_decide_eq_true (by first | (with_reducible assumption) | assumption)
                 have q13 : x10_2 < (t206.size : Int) := of_decide_eq_true (by first | (with_reducible assumption) | assumption)
                 have hx13 := bt_at t206 x10_2
                 replace p13 := eq_true p13
                 replace q13 := eq_true q13
                 go_wp2
                 go_roundg k2
                 case measure => have := HJ5.out; have := HK2.out; omega
                 case rel => exact ⟨(wrap64 (x10_2 + 1)), (by first | rfl | (simp; done) | (simp [*]; done)), H', ⟨by have := HJ5.out; have := HK2.out; omega⟩, ⟨by repeat (first | (with_reducible first | exact HB.out | apply below_alloc | apply pw_below_drewN | apply below_drew1) | exact HB.out)⟩⟩
                ·skip
                 have c57b0 : ((bt t206 x10_2) == 126) = false := beq_eq_false_iff_ne.mpr c57
                 have c57b1 : ((bt t206 x10_2) != 126) = true := bne_iff_ne.mpr c57
                 replace H := itO H
                 rcases H with ⟨c58, H⟩ | ⟨c58, H⟩
                 ·skip
                  have c58b0 : ((bt t206 x10_2) == 37) = true := beq_iff_eq.mpr c58
                  have c58b1 : ((bt t206 x10_2) != 37) = false := bne_eq_false_iff_eq.mpr c58
                  clear c58
                  have H' := Aside0.mk H
                  clear H
                  have p13 : 0 ≤ (x10_2 : Int) := of_decide_eq_true (by first | (with_reducible assumption) | assumption)
                  have q13 : x10_2 < (t206.size : Int) := of_decide_eq_true (by first | (with_reducible assumption) | assumption)
                  have hx13 := bt_at t206 x10_2
                  replace p13 := eq_true p13
                  replace q13 := eq_true q13
                  go_wp2
                  go_roundg k2
                  case measure => have := HJ5.out; have := HK2.out; omega
                  case rel => exact ⟨(wrap64 (x10_2 + 1)), (by first | rfl | (simp; done) | (simp [*]; done)), H', ⟨by have := HJ5.out; have := HK2.out; omega⟩, ⟨by repeat (first | (with_reducible first | exact HB.out | apply below_alloc | apply pw_below_drewN | apply below_drew1) | exact HB.out)⟩⟩
                 ·skip
                  have c58b0 : ((bt t206 x10_2) == 37) = false := beq_eq_false_iff_ne.mpr c58
                  have c58b1 : ((bt t206 x10_2) != 37) = true := bne_iff_ne.mpr c58
                  by_cases c59 : a1 = true
                  ·subst c59
                   replace H := itT H
                   replace H := itO H
                   rcases H with ⟨c60, H⟩ | ⟨c60, H⟩
                   ·skip
                    have c60b0 : ((bt t206 x10_2) == 47) = true := beq_iff_eq.mpr c60
                    have c60b1 : ((bt t206 x10_2) != 47) = false := bne_eq_false_iff_eq.mpr c60
                    clear c60
                    have H' := Aside0.mk H
                    clear H
                    have p13 : 0 ≤ (x10_2 : Int) := of_decide_eq_true (by first | (with_reducible assumption) | assumption)
                    have q13 : x10_2 < (t206.size : Int) := of_decide_eq_true (by first | (with_reducible assumption) | assumption)
                    have hx13 := bt_at t206 x10_2
                    replace p13 := eq_true p13
                    replace q13 := eq_true q13
                    go_wp2
                    go_roundg k2
                    case measure => have := HJ5.out; have := HK2.out; omega
                    case rel => exact ⟨(wrap64 (x10_2 + 1)), (by first | rfl | (simp; done) | (simp [*]; done)), H', ⟨by have := HJ5.out; have := HK2.out; omega⟩, ⟨by repeat (first | (with_reducible first | exact HB.out | apply below_alloc | apply pw_below_drewN | apply below_drew1) | exact HB.out)⟩⟩
                   ·skip
                    have c60b0 : ((bt t206 x10_2) == 47) = false := beq_eq_false_iff_ne.mpr c60
                    have c60b1 : ((bt t206 x10_2) != 47) = true := bne_iff_ne.mpr c60
                    rw [hr] at H
                    exact absurd H (by simp)
                  ·replace c59 := Bool.eq_false_iff.mpr c59
                   subst c59
                   replace H := itF H
                   rw [hr] at H
                   exact absurd H (by simp)
           ·skip
            have c52b0 : decide (48 ≤ (bt t206 x10_2)) = false := decide_eq_false c52
            clear c52
            replace H := itO H
            rcases H with ⟨c61, H⟩ | ⟨c61, H⟩
            ·skip
             have c61b0 : ((bt t206 x10_2) == 45) = true := beq_iff_eq.mpr c61
             have c61b1 : ((bt t206 x10_2) != 45) = false := bne_eq_false_iff_eq.mpr c61
             clear c61
             have H' := Aside0.mk H
             clear H
             have p13 : 0 ≤ (x10_2 : Int) := of_decide_eq_true (by first | (with_reducible assumption) | assumption)
             have q13 : x10_2 < (t206.size : Int) := of_decide_eq_true (by first | (with_reducible assumption) | assumption)
             have hx13 := bt_at t206 x10_2
             replace p13 := eq_true p13
             replace q13 := eq_true q13
             go_wp2
             go_roundg k2
             case measure => have := HJ5.out; have := HK2.out; omega
             case rel => exact ⟨(wrap64 (x10_2 + 1)), (by first | rfl | (simp; done) | (simp [*]; done)), H', ⟨by have := HJ5.out; have := HK2.out; omega⟩, ⟨by repeat (first | (with_reducible first | exact HB.out | apply below_alloc | apply pw_below_drewN | apply below_drew1) | exact HB.out)⟩⟩
            ·skip
             have c61b0 : ((bt t206 x10_2) == 45) = false := beq_eq_false_iff_ne.mpr c61
             have c61b1 : ((bt t206 x10_2) != 45) = true := bne_iff_ne.mpr c61
             replace H := itO H
             rcases H with ⟨c62, H⟩ | ⟨c62, H⟩
             ·skip
              have c62b0 : ((bt t206 x10_2) == 46) = true := beq_iff_eq.mpr c62
              have c62b1 : ((bt t206 x10_2) != 46) = false := bne_eq_false_iff_eq.mpr c62
              clear c62
              have H' := Aside0.mk H
              clear H
              have p13 : 0 ≤ (x10_2 : Int) := of_decide_eq_true (by first | (with_reducible assumption) | assumption)
              have q13 : x10_2 < (t206.size : Int) := of_decide_eq_true (by first | (with_reducible assumption) | assumption)
              have hx13 := bt_at t206 x10_2
              replace p13 := eq_true p13
              replace q13 := eq_true q13
              go_wp2
              go_roundg k2
              case measure => have := HJ5.out; have := HK2.out; omega
              case rel => exact ⟨(wrap64 (x10_2 + 1)), (by first | rfl | (simp; done) | (simp [*]; done)), H', ⟨by have := HJ5.out; have := HK2.out; omega⟩, ⟨by repeat (first | (with_reducible first | exact HB.out | apply below_alloc | apply pw_below_drewN | apply below_drew1) | exact HB.out)⟩⟩
             ·skip
              have c62b0 : ((bt t206 x10_2) == 46) = false := beq_eq_false_iff_ne.mpr c62
              have c62b1 : ((bt t206 x10_2) != 46) = true := bne_iff_ne.mpr c62
              replace H := itO H
              rcases H with ⟨c63, H⟩ | ⟨c63, H⟩
              ·skip
               have c63b0 : ((bt t206 x10_2) == 95) = true := beq_iff_eq.mpr c63
               have c63b1 : ((bt t206 x10_2) != 95) = false := bne_eq_false_iff_eq.mpr c63
               clear c63
               have H' := Aside0.mk H
               clear H
               have p13 : 0 ≤ (x10_2 : Int) := of_decide_eq_true (by first | (with_reducible assumption) | assumption)
               have q13 : x10_2 < (t206.size : Int) := of_decide_eq_true (by first | (with_reducible assumption) | assumption)
               have hx13 := bt_at t206 x10_2
               replace p13 := eq_true p13
               replace q13 := eq_true q13
               go_wp2
               go_roundg k2
               case measure => have := HJ5.out; have := HK2.out; omega
               case rel => exact ⟨(wrap64 (x10_2 + 1)), (by first | rfl | (simp; done) | (simp [*]; done)), H', ⟨by have := HJ5.out; have := HK2.out; omega⟩, ⟨by repeat (first | (with_reducible first | exact HB.out | apply below_alloc | apply pw_below_drewN | apply below_drew1) | exact HB.out)⟩⟩
              ·skip
               have c63b0 : ((bt t206 x10_2) == 95) = false := beq_eq_false_iff_ne.mpr c63
               have c63b1 : ((bt t206 x10_2) != 95) = true := bne_iff_ne.mpr c63
               replace H := itO H
               rcases H with ⟨c64, H⟩ | ⟨c64, H⟩
               ·skip
                have c64b0 : ((bt t206 x10_2) == 126) = true := beq_iff_eq.mpr c64
                have c64b1 : ((bt t206 x10_2) != 126) = false := bne_eq_false_iff_eq.mpr c64
                clear c64
                have H' := Aside0.mk H
                clear H
                have p13 : 0 ≤ (x10_2 : Int) := of_decide_eq_true (by first | (with_reducible assumption) | assumption)
                have q13 : x10_2 < (t206.size : Int) := of_decide_eq_true (by first | (with_reducible assumption) | assumption)
                have hx13 := bt_at t206 x10_2
                replace p13 := eq_true p13
                replace q13 := eq_true q13
                go_wp2
                go_roundg k2
                case measure => have := HJ5.out; have := HK2.out; omega
                case rel => exact ⟨(wrap64 (x10_2 + 1)), (by first | rfl | (simp; done) | (simp [*]; done)), H', ⟨by have := HJ5.out; have := HK2.out; omega⟩, ⟨by repeat (first | (with_reducible first | exact HB.out | apply below_alloc | apply pw_below_drewN | apply below_drew1) | exact HB.out)⟩⟩
               ·skip
                have c64b0 : ((bt t206 x10_2) == 126) = false := beq_eq_false_iff_ne.mpr c64
                have c64b1 : ((bt t206 x10_2) != 126) = true := bne_iff_ne.mpr c64
                replace H := itO H
                rcases H with ⟨c65, H⟩ | ⟨c65, H⟩
                ·skip
                 have c65b0 : ((bt t206 x10_2) == 37) = true := beq_iff_eq.mpr c65
                 have c65b1 : ((bt t206 x10_2) != 37) = false := bne_eq_false_iff_eq.mpr c65
                 clear c65
                 have H' := Aside0.mk H
                 clear H
                 have p13 : 0 ≤ (x10_2 : Int) := of_decide_eq_true (by first | (with_reducible assumption) | assumption)
                 have q13 : x10_2 < (t206.size : Int) := of_decide_eq_true (by first | (with_reducible assumption) | assumption)
                 have hx13 := bt_at t206 x10_2
                 replace p13 := eq_true p13
                 replace q13 := eq_true q13
                 go_wp2
                 go_roundg k2
                 case measure => have := HJ5.out; have := HK2.out; omega
                 case rel => exact ⟨(wrap64 (x10_2 + 1)), (by first | rfl | (simp; done) | (simp [*]; done)), H', ⟨by have := HJ5.out; have := HK2.out; omega⟩, ⟨by repeat (first | (with_reducible first | exact HB.out | apply below_alloc | apply pw_below_drewN | apply below_drew1) | exact HB.out)⟩⟩
                ·skip
                 have c65b0 : ((bt t206 x10_2) == 37) = false := beq_eq_false_iff_ne.mpr c65
                 have c65b1 : ((bt t206 x10_2) != 37) = true := bne_iff_ne.mpr c65
                 by_cases c66 : a1 = true
                 ·subst c66
                  replace H := itT H
                  replace H := itO H
                  rcases H with ⟨c67, H⟩ | ⟨c67, H⟩
                  ·skip
                   have c67b0 : ((bt t206 x10_2) == 47) = true := beq_iff_eq.mpr c67
                   have c67b1 : ((bt t206 x10_2) != 47) = false := bne_eq_false_iff_eq.mpr c67
                   clear c67
                   have H' := Aside0.mk H
                   clear H
                   have p13 : 0 ≤ (x10_2 : Int) := of_decide_eq_true (by first | (with_reducible assumption) | assumption)
                   have q13 : x10_2 < (t206.size : Int) := of_decide_eq_true (by first | (with_reducible assumption) | assumption)
                   have hx13 := bt_at t206 x10_2
                   replace p13 := eq_true p13
                   replace q13 := eq_true q13
                   go_wp2
                   go_roundg k2
                   case measure => have := HJ5.out; have := HK2.out; omega
                   case rel => exact ⟨(wrap64 (x10_2 + 1)), (by first | rfl | (simp; done) | (simp [*]; done)), H', ⟨by have := HJ5.out; have := HK2.out; omega⟩, ⟨by repeat (first | (with_reducible first | exact HB.out | apply below_alloc | apply pw_below_drewN | apply below_drew1) | exact HB.out)⟩⟩
                  ·skip
                   have c67b0 : ((bt t206 x10_2) == 47) = false := beq_eq_false_iff_ne.mpr c67
                   have c67b1 : ((bt t206 x10_2) != 47) = true := bne_iff_ne.mpr c67
                   rw [hr] at H
                   exact absurd H (by simp)
                 ·replace c66 := Bool.eq_false_iff.mpr c66
                  subst c66
                  replace H := itF H
                  rw [hr] at H
                  exact absurd H (by simp)
         ·skip
          have c50b0 : decide (97 ≤ (bt t206 x10_2)) = false := decide_eq_false c50
          clear c50
          replace H := itO H
          rcases H with ⟨c68, H⟩ | ⟨c68, H⟩
          ·skip
           have c68b0 : decide (48 ≤ (bt t206 x10_2)) = true := decide_eq_true c68
           clear c68
           replace H := itO H
           rcases H with ⟨c69, H⟩ | ⟨c69, H⟩
           ·skip
            have c69b0 : decide ((bt t206 x10_2) ≤ 57) = true := decide_eq_true c69
            clear c69
            have H' := Aside0.mk H
            clear H
            have p13 : 0 ≤ (x10_2 : Int) := of_decide_eq_true (by first | (with_reducible assumption) | assumption)
            have q13 : x10_2 < (t206.size : Int) := of_decide_eq_true (by first | (with_reducible assumption) | assumption)
            have hx13 := bt_at t206 x10_2
            replace p13 := eq_true p13
            replace q13 := eq_true q13
            go_wp2
            go_roundg k2
            case measure => have := HJ5.out; have := HK2.out; omega
            case rel => exact ⟨(wrap64 (x10_2 + 1)), (by first | rfl | (simp; done) | (simp [*]; done)), H', ⟨by have := HJ5.out; have := HK2.out; omega⟩, ⟨by repeat (first | (with_reducible first | exact HB.out | apply below_alloc | apply pw_below_drewN | apply below_drew1) | exact HB.out)⟩⟩
           ·skip
            have c69b0 : decide ((bt t206 x10_2) ≤ 57) = false := decide_eq_false c69
            clear c69
            replace H := itO H
            rcases H with ⟨c70, H⟩ | ⟨c70, H⟩
            ·skip
             have c70b0 : ((bt t206 x10_2) == 45) = true := beq_iff_eq.mpr c70
             have c70b1 : ((bt t206 x10_2) != 45) = false := bne_eq_false_iff_eq.mpr c70
             clear c70
             have H' := Aside0.mk H
             clear H
             have p13 : 0 ≤ (x10_2 : Int) := of_decide_eq_true (by first | (with_reducible assumption) | assumption)
             have q13 : x10_2 < (t206.size : Int) := of_decide_eq_true (by first | (with_reducible assumption) | assumption)
             have hx13 := bt_at t206 x10_2
             replace p13 := eq_true p13
             replace q13 := eq_true q13
             go_wp2
             go_roundg k2
             case measure => have := HJ5.out; have := HK2.out; omega
             case rel => exact ⟨(wrap64 (x10_2 + 1)), (by first | rfl | (simp; done) | (simp [*]; done)), H', ⟨by have := HJ5.out; have := HK2.out; omega⟩, ⟨by repeat (first | (with_reducible first | exact HB.out | apply below_alloc | apply pw_below_drewN | apply below_drew1) | exact HB.out)⟩⟩
            ·skip
             have c70b0 : ((bt t206 x10_2) == 45) = false := beq_eq_false_iff_ne.mpr c70
             have c70b1 : ((bt t206 x10_2) != 45) = true := bne_iff_ne.mpr c70
             replace H := itO H
             rcases H with ⟨c71, H⟩ | ⟨c71, H⟩
             ·skip
              have c71b0 : ((bt t206 x10_2) == 46) = true := beq_iff_eq.mpr c71
              have c71b1 : ((bt t206 x10_2) != 46) = false := bne_eq_false_iff_eq.mpr c71
              clear c71
              have H' := Aside0.mk H
              clear H
              have p13 : 0 ≤ (x10_2 : Int) := of_decide_eq_true (by first | (with_reducible assumption) | assumption)
              have q13 : x10_2 < (t206.size : Int) := of_decide_eq_true (by first | (with_reducible assumption) | assumption)
              have hx13 := bt_at t206 x10_2
              replace p13 := eq_true p13
              replace q13 := eq_true q13
              go_wp2
              go_roundg k2
              case measure => have := HJ5.out; have := HK2.out; omega
              case rel => exact ⟨(wrap64 (x10_2 + 1)), (by first | rfl | (simp; done) | (simp [*]; done)), H', ⟨by have := HJ5.out; have := HK2.out; omega⟩, ⟨by repeat (first | (with_reducible first | exact HB.out | apply below_alloc | apply pw_below_drewN | apply below_drew1) | exact HB.out)⟩⟩
             ·skip
              have c71b0 : ((bt t206 x10_2) == 46) = false := beq_eq_false_iff_ne.mpr c71
              have c71b1 : ((bt t206 x10_2) != 46) = true := bne_iff_ne.mpr c71
              replace H := itO H
              rcases H with ⟨c72, H⟩ | ⟨c72, H⟩
              ·skip
               have c72b0 : ((bt t206 x10_2) == 95) = true := beq_iff_eq.mpr c72
               have c72b1 : ((bt t206 x10_2) != 95) = false := bne_eq_false_iff_eq.mpr c72
               clear c72
               have H' := Aside0.mk H
               clear H
               have p13 : 0 ≤ (x10_2 : Int) := of_decide_eq_true (by first | (with_reducible assumption) | assumption)
               have q13 : x10_2 < (t206.size : Int) := of_decide_eq_true (by first | (with_reducible assumption) | assumption)
               have hx13 := bt_at t206 x10_2
               replace p13 := eq_true p13
               replace q13 := eq_true q13
               go_wp2
               go_roundg k2
               case measure => have := HJ5.out; have := HK2.out; omega
               case rel => exact ⟨(wrap64 (x10_2 + 1)), (by first | rfl | (simp; done) | (simp [*]; done)), H', ⟨by have := HJ5.out; have := HK2.out; omega⟩, ⟨by repeat (first | (with_reducible first | exact HB.out | apply below_alloc | apply pw_below_drewN | apply below_drew1) | exact HB.out)⟩⟩
              ·skip
               have c72b0 : ((bt t206 x10_2) == 95) = false := beq_eq_false_iff_ne.mpr c72
               have c72b1 : ((bt t206 x10_2) != 95) = true := bne_iff_ne.mpr c72
               replace H := itO H
               rcases H with ⟨c73, H⟩ | ⟨c73, H⟩
               ·skip
                have c73b0 : ((bt t206 x10_2) == 126) = true := beq_iff_eq.mpr c73
                have c73b1 : ((bt t206 x10_2) != 126) = false := bne_eq_false_iff_eq.mpr c73
                clear c73
                have H' := Aside0.mk H
                clear H
                have p13 : 0 ≤ (x10_2 : Int) := of_decide_eq_true (by first | (with_reducible assumption) | assumption)
                have q13 : x10_2 < (t206.size : Int) := of_decide_eq_true (by first | (with_reducible assumption) | assumption)
                have hx13 := bt_at t206 x10_2
                replace p13 := eq_true p13
                replace q13 := eq_true q13
                go_wp2
                go_roundg k2
                case measure => have := HJ5.out; have := HK2.out; omega
                case rel => exact ⟨(wrap64 (x10_2 + 1)), (by first | rfl | (simp; done) | (simp [*]; done)), H', ⟨by have := HJ5.out; have := HK2.out; omega⟩, ⟨by repeat (first | (with_reducible first | exact HB.out | apply below_alloc | apply pw_below_drewN | apply below_drew1) | exact HB.out)⟩⟩
               ·skip
                have c73b0 : ((bt t206 x10_2) == 126) = false := beq_eq_false_iff_ne.mpr c73
                have c73b1 : ((bt t206 x10_2) != 126) = true := bne_iff_ne.mpr c73
                replace H := itO H
                rcases H with ⟨c74, H⟩ | ⟨c74, H⟩
                ·skip
                 have c74b0 : ((bt t206 x10_2) == 37) = true := beq_iff_eq.mpr c74
                 have c74b1 : ((bt t206 x10_2) != 37) = false := bne_eq_false_iff_eq.mpr c74
                 clear c74
                 have H' := Aside0.mk H
                 clear H
                 have p13 : 0 ≤ (x10_2 : Int) := of_decide_eq_true (by first | (with_reducible assumption) | assumption)
                 have q13 : x10_2 < (t206.size : Int) := of_decide_eq_true (by first | (with_reducible assumption) | assumption)
                 have hx13 := bt_at t206 x10_2
                 replace p13 := eq_true p13
                 replace q13 := eq_true q13
                 go_wp2
                 go_roundg k2
                 case measure => have := HJ5.out; have := HK2.out; omega
                 case rel => exact ⟨(wrap64 (x10_2 + 1)), (by first | rfl | (simp; done) | (simp [*]; done)), H', ⟨by have := HJ5.out; have := HK2.out; omega⟩, ⟨by repeat (first | (with_reducible first | exact HB.out | apply below_alloc | apply pw_below_drewN | apply below_drew1) | exact HB.out)⟩⟩
                ·skip
                 have c74b0 : ((bt t206 x10_2) == 37) = false := beq_eq_false_iff_ne.mpr c74
                 have c74b1 : ((bt t206 x10_2) != 37) = true := bne_iff_ne.mpr c74
                 by_cases c75 : a1 = true
                 ·subst c75
                  replace H := itT H
                  replace H := itO H
                  rcases H with ⟨c76, H⟩ | ⟨c76, H⟩
                  ·skip
                   have c76b0 : ((bt t206 x10_2) == 47) = true := beq_iff_eq.mpr c76
                   have c76b1 : ((bt t206 x10_2) != 47) = false := bne_eq_false_iff_eq.mpr c76
                   clear c76
                   have H' := Aside0.mk H
                   clear H
                   have p13 : 0 ≤ (x10_2 : Int) := of_decide_eq_true (by first | (with_reducible assumption) | assumption)
                   have q13 : x10_2 < (t206.size : Int) := of_decide_eq_true (by first | (with_reducible assumption) | assumption)
                   have hx13 := bt_at t206 x10_2
                   replace p13 := eq_true p13
                   replace q13 := eq_true q13
                   go_wp2
                   go_roundg k2
                   case measure => have := HJ5.out; have := HK2.out; omega
                   case rel => exact ⟨(wrap64 (x10_2 + 1)), (by first | rfl | (simp; done) | (simp [*]; done)), H', ⟨by have := HJ5.out; have := HK2.out; omega⟩, ⟨by repeat (first | (with_reducible first | exact HB.out | apply below_alloc | apply pw_below_drewN | apply below_drew1) | exact HB.out)⟩⟩
                  ·skip
                   have c76b0 : ((bt t206 x10_2) == 47) = false := beq_eq_false_iff_ne.mpr c76
                   have c76b1 : ((bt t206 x10_2) != 47) = true := bne_iff_ne.mpr c76
                   rw [hr] at H
                   exact absurd H (by simp)
                 ·replace c75 := Bool.eq_false_iff.mpr c75
                  subst c75
                  replace H := itF H
                  rw [hr] at H
                  exact absurd H (by simp)
          ·skip
           have c68b0 : decide (48 ≤ (bt t206 x10_2)) = false := decide_eq_false c68
           clear c68
           replace H := itO H
           rcases H with ⟨c77, H⟩ | ⟨c77, H⟩
           ·skip
            have c77b0 : ((bt t206 x10_2) == 45) = true := beq_iff_eq.mpr c77
            have c77b1 : ((bt t206 x10_2) != 45) = false := bne_eq_false_iff_eq.mpr c77
            clear c77
            have H' := Aside0.mk H
            clear H
            have p13 : 0 ≤ (x10_2 : Int) := of_decide_eq_true (by first | (with_reducible assumption) | assumption)
            have q13 : x10_2 < (t206.size : Int) := of_decide_eq_true (by first | (with_reducible assumption) | assumption)
            have hx13 := bt_at t206 x10_2
            replace p13 := eq_true p13
            replace q13 := eq_true q13
            go_wp2
            go_roundg k2
            case measure => have := HJ5.out; have := HK2.out; omega
            case rel => exact ⟨(wrap64 (x10_2 + 1)), (by first | rfl | (simp; done) | (simp [*]; done)), H', ⟨by have := HJ5.out; have := HK2.out; omega⟩, ⟨by repeat (first | (with_reducible first | exact HB.out | apply below_alloc | apply pw_below_drewN | apply below_drew1) | exact HB.out)⟩⟩
           ·skip
            have c77b0 : ((bt t206 x10_2) == 45) = false := beq_eq_false_iff_ne.mpr c77
            have c77b1 : ((bt t206 x10_2) != 45) = true := bne_iff_ne.mpr c77
            replace H := itO H
            rcases H with ⟨c78, H⟩ | ⟨c78, H⟩
            ·skip
             have c78b0 : ((bt t206 x10_2) == 46) = true := beq_iff_eq.mpr c78
             have c78b1 : ((bt t206 x10_2) != 46) = false := bne_eq_false_iff_eq.mpr c78
             clear c78
             have H' := Aside0.mk H
             clear H
             have p13 : 0 ≤ (x10_2 : Int) := of_decide_eq_true (by first | (with_reducible assumption) | assumption)
             have q13 : x10_2 < (t206.size : Int) := of_decide_eq_true (by first | (with_reducible assumption) | assumption)
             have hx13 := bt_at t206 x10_2
             replace p13 := eq_true p13
             replace q13 := eq_true q13
             go_wp2
             go_roundg k2
             case measure => have := HJ5.out; have := HK2.out; omega
             case rel => exact ⟨(wrap64 (x10_2 + 1)), (by first | rfl | (simp; done) | (simp [*]; done)), H', ⟨by have := HJ5.out; have := HK2.out; omega⟩, ⟨by repeat (first | (with_reducible first | exact HB.out | apply below_alloc | apply pw_below_drewN | apply below_drew1) | exact HB.out)⟩⟩
            ·skip
             have c78b0 : ((bt t206 x10_2) == 46) = false := beq_eq_false_iff_ne.mpr c78
             have c78b1 : ((bt t206 x10_2) != 46) = true := bne_iff_ne.mpr c78
             replace H := itO H
             rcases H with ⟨c79, H⟩ | ⟨c79, H⟩
             ·skip
              have c79b0 : ((bt t206 x10_2) == 95) = true := beq_iff_eq.mpr c79
              have c79b1 : ((bt t206 x10_2) != 95) = false := bne_eq_false_iff_eq.mpr c79
              clear c79
              have H' := Aside0.mk H
              clear H
              have p13 : 0 ≤ (x10_2 : Int) := of_decide_eq_true (by first | (with_reducible assumption) | assumption)
              have q13 : x10_2 < (t206.size : Int) := of_decide_eq_true (by first | (with_reducible assumption) | assumption)
              have hx13 := bt_at t206 x10_2
              replace p13 := eq_true p13
              replace q13 := eq_true q13
              go_wp2
              go_roundg k2
              case measure => have := HJ5.out; have := HK2.out; omega
              case rel => exact ⟨(wrap64 (x10_2 + 1)), (by first | rfl | (simp; done) | (simp [*]; done)), H', ⟨by have := HJ5.out; have := HK2.out; omega⟩, ⟨by repeat (first | (with_reducible first | exact HB.out | apply below_alloc | apply pw_below_drewN | apply below_drew1) | exact HB.out)⟩⟩
             ·skip
              have c79b0 : ((bt t206 x10_2) == 95) = false := beq_eq_false_iff_ne.mpr c79
              have c79b1 : ((bt t206 x10_2) != 95) = true := bne_iff_ne.mpr c79
              replace H := itO H
              rcases H with ⟨c80, H⟩ | ⟨c80, H⟩
              ·skip
               have c80b0 : ((bt t206 x10_2) == 126) = true := beq_iff_eq.mpr c80
               have c80b1 : ((bt t206 x10_2) != 126) = false := bne_eq_false_iff_eq.mpr c80
               clear c80
               have H' := Aside0.mk H
               clear H
               have p13 : 0 ≤ (x10_2 : Int) := of_decide_eq_true (by first | (with_reducible assumption) | assumption)
               have q13 : x10_2 < (t206.size : Int) := of_decide_eq_true (by first | (with_reducible assumption) | assumption)
               have hx13 := bt_at t206 x10_2
               replace p13 := eq_true p13
               replace q13 := eq_true q13
               go_wp2
               go_roundg k2
               case measure => have := HJ5.out; have := HK2.out; omega
               case rel => exact ⟨(wrap64 (x10_2 + 1)), (by first | rfl | (simp; done) | (simp [*]; done)), H', ⟨by have := HJ5.out; have := HK2.out; omega⟩, ⟨by repeat (first | (with_reducible first | exact HB.out | apply below_alloc | apply pw_below_drewN | apply below_drew1) | exact HB.out)⟩⟩
              ·skip
               have c80b0 : ((bt t206 x10_2) == 126) = false := beq_eq_false_iff_ne.mpr c80
               have c80b1 : ((bt t206 x10_2) != 126) = true := bne_iff_ne.mpr c80
               replace H := itO H
               rcases H with ⟨c81, H⟩ | ⟨c81, H⟩
               ·skip
                have c81b0 : ((bt t206 x10_2) == 37) = true := beq_iff_eq.mpr c81
                have c81b1 : ((bt t206 x10_2) != 37) = false := bne_eq_false_iff_eq.mpr c81
                clear c81
                have H' := Aside0.mk H
                clear H
                have p13 : 0 ≤ (x10_2 : Int) := of_decide_eq_true (by first | (with_reducible assumption) | assumption)
                have q13 : x10_2 < (t206.size : Int) := of_decide_eq_true (by first | (with_reducible assumption) | assumption)
                have hx13 := bt_at t206 x10_2
                replace p13 := eq_true p13
                replace q13 := eq_true q13
                go_wp2
                go_roundg k2
                case measure => have := HJ5.out; have := HK2.out; omega
                case rel => exact ⟨(wrap64 (x10_2 + 1)), (by first | rfl | (simp; done) | (simp [*]; done)), H', ⟨by have := HJ5.out; have := HK2.out; omega⟩, ⟨by repeat (first | (with_reducible first | exact HB.out | apply below_alloc | apply pw_below_drewN | apply below_drew1) | exact HB.out)⟩⟩
               ·skip
                have c81b0 : ((bt t206 x10_2) == 37) = false := beq_eq_false_iff_ne.mpr c81
                have c81b1 : ((bt t206 x10_2) != 37) = true := bne_iff_ne.mpr c81
                by_cases c82 : a1 = true
                ·subst c82
                 replace H := itT H
                 replace H := itO H
                 rcases H with ⟨c83, H⟩ | ⟨c83, H⟩
                 ·skip
                  have c83b0 : ((bt t206 x10_2) == 47) = true := beq_iff_eq.mpr c83
                  have c83b1 : ((bt t206 x10_2) != 47) = false := bne_eq_false_iff_eq.mpr c83
                  clear c83
                  have H' := Aside0.mk H
                  clear H
                  have p13 : 0 ≤ (x10_2 : Int) := of_decide_eq_true (by first | (with_reducible assumption) | assumption)
                  have q13 : x10_2 < (t206.size : Int) := of_decide_eq_true (by first | (with_reducible assumption) | assumption)
                  have hx13 := bt_at t206 x10_2
                  replace p13 := eq_true p13
                  replace q13 := eq_true q13
                  go_wp2
                  go_roundg k2
                  case measure => have := HJ5.out; have := HK2.out; omega
                  case rel => exact ⟨(wrap64 (x10_2 + 1)), (by first | rfl | (simp; done) | (simp [*]; done)), H', ⟨by have := HJ5.out; have := HK2.out; omega⟩, ⟨by repeat (first | (with_reducible first | exact HB.out | apply below_alloc | apply pw_below_drewN | apply below_drew1) | exact HB.out)⟩⟩
                 ·skip
                  have c83b0 : ((bt t206 x10_2) == 47) = false := beq_eq_false_iff_ne.mpr c83
                  have c83b1 : ((bt t206 x10_2) != 47) = true := bne_iff_ne.mpr c83
                  rw [hr] at H
                  exact absurd H (by simp)
                ·replace c82 := Bool.eq_false_iff.mpr c82
                 subst c82
                 replace H := itF H
                 rw [hr] at H
                 exact absurd H (by simp)
       ·exact absurd H (by simp)
      ·skip
       have c11b0 : decide (x10_2 < (t206.size : Int)) = false := decide_eq_false c11
       clear c11
       replace H := bndO H
       obtain ⟨t209, A840, H⟩ := H
       have A84 := Aside0.mk A840
       clear A840
       have H' := Aside0.mk H
       clear H
       go_wp2_with (first | ((with_reducible refine gate_callee (f := 14) rfl ?_); refine goesL_ (some 94) rfl rfl Tryd.func14 (by kernel_rfl) rfl #[.string a0, .int .u8 a2] rfl (by (try simp only [List.map_toArray, List.map_cons, List.map_nil]); first | done | rfl | (simp only [List.length_drop, List.length_take]; rfl)) ?_; (with_reducible refine (chars_Split.calls k2 a0 a2 t209 _ A84.out).mono ?_); rintro e w85 ⟨v210, rfl, ho0, hb⟩; refine ⟨_, rfl, ?_⟩; have n0_ := Aside0.mk (Kd.V_lower (Kd.V_mono (ok' := fun k_ => True) ho0 (fun k_ hk_ => trivial)) (below_size (by repeat (first | (with_reducible first | exact HB.out | apply below_alloc | apply pw_below_drewN | apply below_drew1) | exact HB.out)))); have n1_ := Aside0.mk (below_step (by repeat (first | (with_reducible first | exact HB.out | apply below_alloc | apply pw_below_drewN | apply below_drew1) | exact HB.out)) hb); clear HB; have HO211 := n0_; have HB := n1_; clear n0_ n1_; (try clear hb); (try clear hb2); (try clear hk); (try clear hi); (try clear ho0)))
       go_loopg [14, 15] k2 (fun kq v14 v15 w' => ∃ (x14_3 : ByteArray) (x15_3 : Int), v14 = .string x14_3 ∧ v15 = .int .i64 x15_3 ∧ Aside0 (stowagelaw3_CharsBack.l1 kq a0 a2 t209 x14_3 x15_3 = some r) ∧ Aside0 (kq ≤ k2) ∧ Aside0 (Kd.V Kd.string 9 w' w.heap.size (fun _ => True) v210 t209) ∧ Aside0 (Below w.heap.size w w'))
       case atStart => exact ⟨((⟨#[]⟩ : ByteArray)), (0), (by first | rfl | (simp; done) | (simp [*]; done)), (by first | rfl | (simp; done) | (simp [*]; done)), H', ⟨Nat.le_refl _⟩, ⟨by (with_reducible repeat (first | apply Kd.V_alloc | apply Kd.V_drewN | apply Kd.V_drew)); exact HO211.out⟩, ⟨by repeat (first | (with_reducible first | exact HB.out | apply below_alloc | apply pw_below_drewN | apply below_drew1) | exact HB.out)⟩⟩
       case round =>
        clear H'
        try clear c1
        try clear p1
        try clear q1
        try clear hx1
        try clear p2
        try clear c5
        try clear c6
        try clear p6
        try clear c7
        try clear c8
        try clear c11
        try clear c11b0
        try clear p13
        try clear q13
        try clear hx13
        try clear c14
        try clear c50
        try clear c50b0
        try clear c51
        try clear c51b0
        try clear c52
        try clear c52b0
        try clear c53
        try clear c53b0
        try clear c54
        try clear c54b0
        try clear c54b1
        try clear c55
        try clear c55b0
        try clear c55b1
        try clear c56
        try clear c56b0
        try clear c56b1
        try clear c57
        try clear c57b0
        try clear c57b1
        try clear c58
        try clear c58b0
        try clear c58b1
        try clear c59
        try clear c60
        try clear c60b0
        try clear c60b1
        try clear c61
        try clear c61b0
        try clear c61b1
        try clear c62
        try clear c62b0
        try clear c62b1
        try clear c63
        try clear c63b0
        try clear c63b1
        try clear c64
        try clear c64b0
        try clear c64b1
        try clear p64
        try clear c65
        try clear c65b0
        try clear c65b1
        try clear c66
        try clear c67
        try clear c67b0
        try clear c67b1
        try clear c68
        try clear c68b0
        try clear c69
        try clear c69b0
        try clear c70
        try clear c70b0
        try clear c70b1
        try clear c71
        try clear c71b0
        try clear c71b1
        try clear c72
        try clear c72b0
        try clear c72b1
        try clear c73
        try clear c73b0
        try clear c73b1
        try clear c74
        try clear c74b0
        try clear c74b1
        try clear c75
        try clear c76
        try clear c76b0
        try clear c76b1
        try clear c77
        try clear c77b0
        try clear c77b1
        try clear c78
        try clear c78b0
        try clear c78b1
        try clear c79
        try clear c79b0
        try clear c79b1
        try clear c80
        try clear c80b0
        try clear c80b1
        try clear c81
        try clear c81b0
        try clear c81b1
        try clear c82
        try clear c83
        try clear c83b0
        try clear c83b1
        try clear p13
        try clear q13
        obtain ⟨x14_3, x15_3, rfl, rfl, HA, HK3, HO_13, HB⟩ := hrel
        cases gk with
        | zero => exact absurd HA.out (by simp [stowagelaw3_CharsBack.l1])
        | succ k3 =>
         have H := HA.out
         clear HA
         simp only [stowagelaw3_CharsBack.l1] at H
         replace H := itO H
         rcases H with ⟨c86, H⟩ | ⟨c86, H⟩
         ·skip
          have c86b0 : decide (x15_3 < (t209.length : Int)) = true := decide_eq_true c86
          clear c86
          replace H := itO H
          rcases H with ⟨c87, H⟩ | ⟨c87, H⟩
          ·skip
           have c87b0 : decide (0 < x15_3) = true := decide_eq_true c87
           clear c87
           obtain ⟨y212, hy212⟩ : ∃ y_ : List Int, y_ = (([a2] : List Int)) := ⟨_, rfl⟩
           replace H : (if x14_3.size + (strOfNums y212).size ≤ 9223372036854775807 then (if 0 ≤ x15_3 then (if (x14_3 ++ (strOfNums y212)).size + (rdOf ByteArray.empty t209 x15_3).size ≤ 9223372036854775807 then (stowagelaw3_CharsBack.l1 k3 a0 a2 t209 ((x14_3 ++ (strOfNums y212)) ++ (rdOf ByteArray.empty t209 x15_3)) (wrap64 (x15_3 + 1))) else (none)) else (none)) else (none)) = some r := by first | (rw [hy212]; with_reducible exact H) | (have H2_ := (Option.bind_some _ _).symm.trans H; rw [hy212]; with_reducible exact H2_) | (have H2_ := (Option.bind_some _ _).symm.trans H; with_reducible exact H2_) | with_reducible exact H | (rw [hy212]; exact H) | exact H
           have Ny212 := Aside0.mk hy212
           clear hy212
           replace H := itO H
           rcases H with ⟨c88, H⟩ | ⟨c88, H⟩
           ·skip
            have c88b0 := eq_true c88
            have c88b1 := decide_eq_true c88
            try have c88b2 := eq_false (Nat.not_lt.2 c88)
            try (have c88n : x14_3.size + (strOfNums y212).size ≤ 9223372036854775807 := by have h_ := c88; simp only [ByteArray.size_append, ByteArray.size_extract] at h_; exact h_)
            try have c88f : (9223372036854775807 < x14_3.size + (strOfNums y212).size) = False := eq_false (by first | omega | (simp only [eq_iff_iff, iff_true] at *; omega))
            replace H := itO H
            rcases H with ⟨c89, H⟩ | ⟨c89, H⟩
            ·skip
             have c89b0 : decide (0 ≤ x15_3) = true := decide_eq_true c89
             clear c89
             replace H := itO H
             rcases H with ⟨c90, H⟩ | ⟨c90, H⟩
             ·skip
              have c90b0 := eq_true c90
              have c90b1 := decide_eq_true c90
              try have c90b2 := eq_false (Nat.not_lt.2 c90)
              try (have c90n : x14_3.size + (strOfNums y212).size + (rdOf ByteArray.empty t209 x15_3).size ≤ 9223372036854775807 := by have h_ := c90; simp only [ByteArray.size_append, ByteArray.size_extract] at h_; exact h_)
              try have c90f : (9223372036854775807 < x14_3.size + (strOfNums y212).size + (rdOf ByteArray.empty t209 x15_3).size) = False := eq_false (by first | omega | (simp only [eq_iff_iff, iff_true] at *; omega))
              have H' := Aside0.mk H
              clear H
              obtain ⟨Ao91, co91, eo91⟩ := Kd.V_slice HO_13.out
              subst eo91
              go_wp2_with (first | ((with_reducible refine gate_dst (N := 105) rfl ?_); refine Kd.R_lit (Kd.int .u8) _ 5 ?hg (N := 105) ?hd (xs := ([a2] : List Int)) (inner := [.int .u8 a2]) (ok := fun _ => True) (okp := fun _ => True) ?hr ?hp (fun _ hk => hk) trivial (Below.refl _ _) (Nat.le_refl _) (by simp) ?_; (case hd => rfl); (case hg => rfl); (case hr => first | (go_simp; done) | (go_simp; rfl)); (case hp => exact (Reps.one (show Kd.M (Kd.int .u8) _ _ _ a2 [.int .u8 a2] from rfl) (Reps.none _ _))); intro v213 w92 ho93 hb hg_ hnew_; clear hg_ hnew_; (first | rw [← Ny212.out] at ho93 | (simp only [Int.reduceToNat] at ho93; rw [← Ny212.out] at ho93)); have n0_ := Aside0.mk (Kd.V_elder' (by (with_reducible repeat (first | apply Kd.V_alloc | apply Kd.V_drewN | apply Kd.V_drew)); exact HO_13.out) (by first | exact Kd.R_base ho93 | exact Kd.R_base ho93) hb); have n1_ := Aside0.mk (Kd.R_lower ho93 (below_size (by repeat (first | (with_reducible first | exact HB.out | apply below_alloc | apply pw_below_drewN | apply below_drew1) | exact HB.out)))); have n2_ := Aside0.mk (below_step (by repeat (first | (with_reducible first | exact HB.out | apply below_alloc | apply pw_below_drewN | apply below_drew1) | exact HB.out)) hb); clear HO_13; clear HB; have HO_13 := n0_; have HO214 := n1_; have HB := n2_; clear n0_ n1_ n2_; clear hb ho93; have hcv94 := own_string (P := Tryd.prog) Tryd.underlying29 Tryd.underlying5 Tryd.underlying9 (Kd.own_of_R HO214.out); have p215 : 0 ≤ (x15_3 : Int) := of_decide_eq_true (by first | (with_reducible assumption) | assumption); have q215 : x15_3 < (t209.length : Int) := of_decide_eq_true (by first | (with_reducible assumption) | assumption); obtain ⟨ad215, e215, hx215_0⟩ := Kd.at_string (Kd.V_reads' HO_13.out).2.2 x15_3 p215 q215; cases e215; replace p215 := eq_true p215; replace q215 := eq_true q215))
              go_roundg k3
              case measure => have := HJ5.out; have := HK2.out; have := HK3.out; omega
              case rel => exact ⟨((x14_3 ++ (strOfNums y212)) ++ (rdOf ByteArray.empty t209 x15_3)), (wrap64 (x15_3 + 1)), (by first | rfl | (simp; done) | (simp [*]; done)), (by first | rfl | (simp; done) | (simp [*]; done)), H', ⟨by have := HJ5.out; have := HK2.out; have := HK3.out; omega⟩, ⟨by (with_reducible repeat (first | apply Kd.V_alloc | apply Kd.V_drewN | apply Kd.V_drew)); exact Kd.V_mono HO_13.out (fun _ hk => trivial)⟩, ⟨by repeat (first | (with_reducible first | exact HB.out | apply below_alloc | apply pw_below_drewN | apply below_drew1) | exact HB.out)⟩⟩
             ·exact absurd H (by simp)
            ·exact absurd H (by simp)
           ·exact absurd H (by simp)
          ·skip
           have c87b0 : decide (0 < x15_3) = false := decide_eq_false c87
           clear c87
           replace H := itO H
           rcases H with ⟨c95, H⟩ | ⟨c95, H⟩
           ·skip
            have c95b0 : decide (0 ≤ x15_3) = true := decide_eq_true c95
            clear c95
            replace H := itO H
            rcases H with ⟨c96, H⟩ | ⟨c96, H⟩
            ·skip
             have c96b0 := eq_true c96
             have c96b1 := decide_eq_true c96
             try have c96b2 := eq_false (Nat.not_lt.2 c96)
             try (have c96n : x14_3.size + (rdOf ByteArray.empty t209 x15_3).size ≤ 9223372036854775807 := by have h_ := c96; simp only [ByteArray.size_append, ByteArray.size_extract] at h_; exact h_)
             try have c96f : (9223372036854775807 < x14_3.size + (rdOf ByteArray.empty t209 x15_3).size) = False := eq_false (by first | omega | (simp only [eq_iff_iff, iff_true] at *; omega))
             have H' := Aside0.mk H
             clear H
             obtain ⟨Ao97, co97, eo97⟩ := Kd.V_slice HO_13.out
             subst eo97
             have p216 : 0 ≤ (x15_3 : Int) := of_decide_eq_true (by first | (with_reducible assumption) | assumption)
             have q216 : x15_3 < (t209.length : Int) := of_decide_eq_true (by first | (with_reducible assumption) | assumption)
             obtain ⟨ad216, e216, hx216_0⟩ := Kd.at_string (Kd.V_reads' HO_13.out).2.2 x15_3 p216 q216
             cases e216
             replace p216 := eq_true p216
             replace q216 := eq_true q216
             go_wp2
             go_roundg k3
             case measure => have := HJ5.out; have := HK2.out; have := HK3.out; omega
             case rel => exact ⟨(x14_3 ++ (rdOf ByteArray.empty t209 x15_3)), (wrap64 (x15_3 + 1)), (by first | rfl | (simp; done) | (simp [*]; done)), (by first | rfl | (simp; done) | (simp [*]; done)), H', ⟨by have := HJ5.out; have := HK2.out; have := HK3.out; omega⟩, ⟨by (with_reducible repeat (first | apply Kd.V_alloc | apply Kd.V_drewN | apply Kd.V_drew)); exact HO_13.out⟩, ⟨by repeat (first | (with_reducible first | exact HB.out | apply below_alloc | apply pw_below_drewN | apply below_drew1) | exact HB.out)⟩⟩
            ·exact absurd H (by simp)
           ·exact absurd H (by simp)
         ·skip
          have c86b0 : decide (x15_3 < (t209.length : Int)) = false := decide_eq_false c86
          clear c86
          replace H := itO H
          rcases H with ⟨c98, H⟩ | ⟨c98, H⟩
          ·skip
           have c98b0 : (x14_3.toList == a0.toList) = true := beq_iff_eq.mpr c98
           have c98b1 : (x14_3.toList != a0.toList) = false := bne_eq_false_iff_eq.mpr c98
           clear c98
           replace H := bndO H
           obtain ⟨t217, A990, H⟩ := H
           have A99 := Aside0.mk A990
           clear A990
           replace H := bndO H
           obtain ⟨t218, A1000, H⟩ := H
           have A100 := Aside0.mk A1000
           clear A1000
           replace H := bndO H
           obtain ⟨t219, A1010, H⟩ := H
           have A101 := Aside0.mk A1010
           clear A1010
           replace H := itO H
           rcases H with ⟨c102, H⟩ | ⟨c102, H⟩
           ·skip
            have c102b0 : (t218.toList == t219.toList) = true := beq_iff_eq.mpr c102
            have c102b1 : (t218.toList != t219.toList) = false := bne_eq_false_iff_eq.mpr c102
            clear c102
            replace H := bndO H
            obtain ⟨t220, A1030, H⟩ := H
            have A103 := Aside0.mk A1030
            clear A1030
            replace H := bndO H
            obtain ⟨t221, A1040, H⟩ := H
            have A104 := Aside0.mk A1040
            clear A1040
            replace H := bndO H
            obtain ⟨t222, A1050, H⟩ := H
            have A105 := Aside0.mk A1050
            clear A1050
            replace H := itO H
            rcases H with ⟨c106, H⟩ | ⟨c106, H⟩
            ·skip
             have c106b0 : (t221.toList == t222.toList) = true := beq_iff_eq.mpr c106
             have c106b1 : (t221.toList != t222.toList) = false := bne_eq_false_iff_eq.mpr c106
             clear c106
             replace H := bndO H
             obtain ⟨t223, A1070, H⟩ := H
             have A107 := Aside0.mk A1070
             clear A1070
             clear hr
             obtain rfl := Option.some.inj H
             obtain ⟨Ao108, co108, eo108⟩ := Kd.V_slice HO_13.out
             subst eo108
             go_wp2_with (first | (go_at_call 15; (with_reducible refine (chars_Fold.calls k3 a0 t217 _ A99.out).mono ?_); rintro e w109 ⟨rfl, hb⟩; have n0_ := Aside0.mk (Kd.V_below (by (with_reducible repeat (first | apply Kd.V_alloc | apply Kd.V_drewN | apply Kd.V_drew)); exact HO_13.out) hb); have n1_ := Aside0.mk (below_step (by repeat (first | (with_reducible first | exact HB.out | apply below_alloc | apply pw_below_drewN | apply below_drew1) | exact HB.out)) hb); clear HO_13; clear HB; have HO_13 := n0_; have HB := n1_; clear n0_ n1_; (try clear hb); (try clear hb2); (try clear hk); (try clear hi); (try clear A99)) | (go_at_call 15; (with_reducible refine (chars_Fold.calls k3 t217 t218 _ A100.out).mono ?_); rintro e w110 ⟨rfl, hb⟩; have n0_ := Aside0.mk (Kd.V_below (by (with_reducible repeat (first | apply Kd.V_alloc | apply Kd.V_drewN | apply Kd.V_drew)); exact HO_13.out) hb); have n1_ := Aside0.mk (below_step (by repeat (first | (with_reducible first | exact HB.out | apply below_alloc | apply pw_below_drewN | apply below_drew1) | exact HB.out)) hb); clear HO_13; clear HB; have HO_13 := n0_; have HB := n1_; clear n0_ n1_; (try clear hb); (try clear hb2); (try clear hk); (try clear hi)) | (go_at_call 15; (with_reducible refine (chars_Fold.calls k3 a0 t219 _ A101.out).mono ?_); rintro e w111 ⟨rfl, hb⟩; have n0_ := Aside0.mk (Kd.V_below (by (with_reducible repeat (first | apply Kd.V_alloc | apply Kd.V_drewN | apply Kd.V_drew)); exact HO_13.out) hb); have n1_ := Aside0.mk (below_step (by repeat (first | (with_reducible first | exact HB.out | apply below_alloc | apply pw_below_drewN | apply below_drew1) | exact HB.out)) hb); clear HO_13; clear HB; have HO_13 := n0_; have HB := n1_; clear n0_ n1_; (try clear hb); (try clear hb2); (try clear hk); (try clear hi); (try clear A101)) | (go_at_call 16; (with_reducible refine (chars_Trim.calls k3 a0 t220 _ A103.out).mono ?_); rintro e w' ⟨rfl, ⟨nd, rfl⟩⟩; (try clear A103)) | (go_at_call 16; (with_reducible refine (chars_Trim.calls k3 t220 t221 _ A104.out).mono ?_); rintro e w' ⟨rfl, ⟨nd, rfl⟩⟩) | (go_at_call 16; (with_reducible refine (chars_Trim.calls k3 a0 t222 _ A105.out).mono ?_); rintro e w' ⟨rfl, ⟨nd, rfl⟩⟩; (try clear A105)) | (go_at_call 13; (with_reducible refine (stowagelaw3_awake.calls k3  t223 _ A107.out).mono ?_); rintro e w112 ⟨rfl, hb⟩; have n0_ := Aside0.mk (Kd.V_below (by (with_reducible repeat (first | apply Kd.V_alloc | apply Kd.V_drewN | apply Kd.V_drew)); exact HO_13.out) hb); have n1_ := Aside0.mk (below_step (by repeat (first | (with_reducible first | exact HB.out | apply below_alloc | apply pw_below_drewN | apply below_drew1) | exact HB.out)) hb); clear HO_13; clear HB; have HO_13 := n0_; have HB := n1_; clear n0_ n1_; (try clear hb); (try clear hb2); (try clear hk); (try clear hi)))
             go_ret
             exact ⟨by first | rfl | (simp [errW_none, errW_some] <;> rfl) | (simp [*, errW_none, errW_some] <;> rfl), by repeat (first | (with_reducible first | exact HB.out | apply below_alloc | apply pw_below_drewN | apply below_drew1) | exact HB.out)⟩
            ·skip
             have c106b0 : (t221.toList == t222.toList) = false := beq_eq_false_iff_ne.mpr c106
             have c106b1 : (t221.toList != t222.toList) = true := bne_iff_ne.mpr c106
             rw [hr] at H
             exact absurd H (by simp)
           ·skip
            have c102b0 : (t218.toList == t219.toList) = false := beq_eq_false_iff_ne.mpr c102
            have c102b1 : (t218.toList != t219.toList) = true := bne_iff_ne.mpr c102
            rw [hr] at H
            exact absurd H (by simp)
          ·skip
           have c98b0 : (x14_3.toList == a0.toList) = false := beq_eq_false_iff_ne.mpr c98
           have c98b1 : (x14_3.toList != a0.toList) = true := bne_iff_ne.mpr c98
           rw [hr] at H
           exact absurd H (by simp)
def stowagelaw3_CharsBack.Pure : Prop := ∀ (a0 : ByteArray) (a1 : Bool) (a2 : Int), a0.size ≤ 140737488351232 → (Lit.int .u8 a2).wf = true → ∃ k, stowagelaw3_CharsBack.f k a0 a1 a2 = some true
theorem stowagelaw3_CharsBack.walk (P : stowagelaw3_CharsBack.Pure) (a0 : ByteArray) (a1 : Bool) (a2 : Int) (w : World) (w0 : a0.size ≤ 140737488351232) (w2 : (Lit.int .u8 a2).wf = true) :
  Calls Tryd.prog 4 #[.string a0, .bool a1, .int .u8 a2] w fun e w' => e = .returned (.bool true) ∧ Below w.heap.size w w' := by
 obtain ⟨k, h⟩ := P a0 a1 a2 w0 w2
 refine (stowagelaw3_CharsBack.calls k a0 a1 a2 true w h rfl).mono ?_
 rintro e w' ⟨rfl, hd⟩
 exact ⟨rfl, hd⟩
end Go.Proofs.YtahfaiamonadmaaDoor.Q
