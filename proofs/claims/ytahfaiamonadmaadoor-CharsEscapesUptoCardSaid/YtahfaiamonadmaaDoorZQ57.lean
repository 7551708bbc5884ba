/- A part of the proof of the seat's laws. No condition beyond those in the theorems. -/
import Derived.Test.YtahfaiamonadmaaDoorZQ0g2
import Derived.Test.YtahfaiamonadmaaDoorZQ6
import Derived.Test.YtahfaiamonadmaaDoorZQ12
import Derived.Test.YtahfaiamonadmaaDoorZQ40g2
import Derived.Test.YtahfaiamonadmaaDoorZQ55
import Derived.Test.YtahfaiamonadmaaDoorZQ56

namespace Go.Proofs.YtahfaiamonadmaaDoor.Q
open Go.RowKit Go.Proofs.YtahfaiamonadmaaDoorW.PrintWords Go.Proofs.YtahfaiamonadmaaDoorW.PrintLast Go.Proofs.YtahfaiamonadmaaDoorW.PrintMore
set_option linter.unusedVariables false
set_option linter.unusedSimpArgs false
attribute [local go_sem] max2_int min2_int max_two min_two max_three min_three max_four min_four   
def stowagelaw3_CharsEscapes.f (k : Nat) (a0 : ByteArray) (a1 : Bool) : Option (Bool) := (chars_Unescape.f a0).bind fun bt199 => ((stowageref3_Unescape.f k a0).bind fun bt201 => ((chars_Escape.f a0 a1).bind fun t203 => ((stowageref3_Escape.f k a0 a1).bind fun t204 => (if t203.toList = t204.toList then (if bt199.1.toList = bt201.1.toList then (if (bt199.2 == bt201.2) = true then ((stowagelaw3_awake.f k).bind fun t205 => (some t205)) else (some false)) else (some false)) else (some false)))))
theorem stowagelaw3_CharsEscapes.mono : ∀ a0 a1 k, LeO (stowagelaw3_CharsEscapes.f k a0 a1) (stowagelaw3_CharsEscapes.f (k + 1) a0 a1) := by
 intro a0 a1 k
 unfold stowagelaw3_CharsEscapes.f
 repeat' first
   | (with_reducible exact stowagelaw3_awake.mono _)
   | (with_reducible exact stowageref3_Escape.mono _ _ _)
   | (with_reducible exact stowageref3_Unescape.mono _ _)
   | (with_reducible exact LeO.refl _)
   | (with_reducible exact LeO.none _)
   | (with_reducible refine LeO.ite ?_ ?_)
   | (with_reducible refine LeO.bind ?_ (fun _ => ?_))
   | exact stowagelaw3_awake.mono _
   | exact stowageref3_Escape.mono _ _ _
   | exact stowageref3_Unescape.mono _ _
   | exact LeO.none _
   | refine LeO.ite ?_ ?_
   | refine LeO.bind ?_ (fun _ => ?_)
set_option maxHeartbeats 8000000 in
set_option maxRecDepth 100000 in
theorem stowagelaw3_CharsEscapes.calls (k : Nat) (a0 : ByteArray) (a1 : Bool) (r : Bool) (w : World) (h : stowagelaw3_CharsEscapes.f k a0 a1 = some r) (hr : r = true) :
  Calls Tryd.prog 3 #[.string a0, .bool a1] w fun e w' => e = .returned (.bool r) ∧ Below w.heap.size w w' := by
 have HB := Aside0.mk (Below.refl w.heap.size w)
 unfold stowagelaw3_CharsEscapes.f at h
 have H := h
 clear h
 replace H := bndO H
 obtain ⟨⟨t199, t200⟩, A30, H⟩ := H
 dsimp only at H
 have A3 := Aside0.mk A30
 clear A30
 replace H := bndO H
 obtain ⟨⟨t201, t202⟩, A40, H⟩ := H
 dsimp only at H
 have A4 := Aside0.mk A40
 clear A40
 replace H := bndO H
 obtain ⟨t203, A50, H⟩ := H
 have A5 := Aside0.mk A50
 clear A50
 replace H := bndO H
 obtain ⟨t204, A60, H⟩ := H
 have A6 := Aside0.mk A60
 clear A60
 replace H := itO H
 rcases H with ⟨c7, H⟩ | ⟨c7, H⟩
 ·skip
  have c7b0 : (t203.toList == t204.toList) = true := beq_iff_eq.mpr c7
  have c7b1 : (t203.toList != t204.toList) = false := bne_eq_false_iff_eq.mpr c7
  clear c7
  replace H := itO H
  rcases H with ⟨c8, H⟩ | ⟨c8, H⟩
  ·skip
   have c8b0 : (t199.toList == t201.toList) = true := beq_iff_eq.mpr c8
   have c8b1 : (t199.toList != t201.toList) = false := bne_eq_false_iff_eq.mpr c8
   clear c8
   replace H := itO H
   rcases H with ⟨c9, H⟩ | ⟨c9, H⟩
   ·skip
    have c9b0 : (t200 == t202) = true := c9
    (try (have c9b1 : decide (t200 = t202) = true := by simpa using c9))
    (try (have c9b2 : (t200 == t202) = true := by simpa using c9))
    clear c9
    replace H := bndO H
    obtain ⟨t205, A100, H⟩ := H
    have A10 := Aside0.mk A100
    clear A100
    clear hr
    obtain rfl := Option.some.inj H
    go_enter Tryd.func3, Tryd.ntmps3
    go_wp2_with (first | ((with_reducible refine gate_callee (f := 9) rfl ?_); refine goesL_ (some 11) rfl rfl Tryd.func9 (by kernel_rfl) rfl #[.string a0] rfl (by (try simp only [List.map_toArray, List.map_cons, List.map_nil]); first | done | rfl | (simp only [List.length_drop, List.length_take]; rfl)) ?_; (with_reducible refine (chars_Unescape.calls a0 t199 t200 _ A3.out).mono ?_); rintro e w11 ⟨rfl, hb⟩; refine ⟨_, rfl, ?_⟩; have n0_ := Aside0.mk (below_step (by repeat (first | (with_reducible first | exact HB.out | apply below_alloc | apply pw_below_drewN | apply below_drew1) | exact HB.out)) hb); clear HB; have HB := n0_; clear n0_; (try clear hb); (try clear hb2); (try clear hk); (try clear hi)) | ((with_reducible refine gate_callee (f := 10) rfl ?_); refine goesL_ (some 16) rfl rfl Tryd.func10 (by kernel_rfl) rfl #[.string a0] rfl (by (try simp only [List.map_toArray, List.map_cons, List.map_nil]); first | done | rfl | (simp only [List.length_drop, List.length_take]; rfl)) ?_; (with_reducible refine (stowageref3_Unescape.calls k a0 t201 t202 _ A4.out).mono ?_); rintro e w12 ⟨rfl, hb⟩; refine ⟨_, rfl, ?_⟩; have n0_ := Aside0.mk (below_step (by repeat (first | (with_reducible first | exact HB.out | apply below_alloc | apply pw_below_drewN | apply below_drew1) | exact HB.out)) hb); clear HB; have HB := n0_; clear n0_; (try clear hb); (try clear hb2); (try clear hk); (try clear hi)) | ((with_reducible refine gate_callee (f := 11) rfl ?_); refine goesL_ (some 21) rfl rfl Tryd.func11 (by kernel_rfl) rfl #[.string a0, .bool a1] rfl (by (try simp only [List.map_toArray, List.map_cons, List.map_nil]); first | done | rfl | (simp only [List.length_drop, List.length_take]; rfl)) ?_; (with_reducible refine (chars_Escape.calls a0 a1 t203 _ A5.out).mono ?_); rintro e w13 ⟨rfl, hb⟩; refine ⟨_, rfl, ?_⟩; have n0_ := Aside0.mk (below_step (by repeat (first | (with_reducible first | exact HB.out | apply below_alloc | apply pw_below_drewN | apply below_drew1) | exact HB.out)) hb); clear HB; have HB := n0_; clear n0_; (try clear hb); (try clear hb2); (try clear hk); (try clear hi)) | ((with_reducible refine gate_callee (f := 12) rfl ?_); refine goesL_ (some 24) rfl rfl Tryd.func12 (by kernel_rfl) rfl #[.string a0, .bool a1] rfl (by (try simp only [List.map_toArray, List.map_cons, List.map_nil]); first | done | rfl | (simp only [List.length_drop, List.length_take]; rfl)) ?_; (with_reducible refine (stowageref3_Escape.calls k a0 a1 t204 _ A6.out).mono ?_); rintro e w' ⟨rfl, ⟨nd, rfl⟩⟩; refine ⟨_, rfl, ?_⟩) | (go_at_call 13; (with_reducible refine (stowagelaw3_awake.calls k  t205 _ A10.out).mono ?_); rintro e w14 ⟨rfl, hb⟩; have n0_ := Aside0.mk (below_step (by repeat (first | (with_reducible first | exact HB.out | apply below_alloc | apply pw_below_drewN | apply below_drew1) | exact HB.out)) hb); clear HB; have HB := n0_; clear n0_; (try clear hb); (try clear hb2); (try clear hk); (try clear hi)))
    go_ret
    exact ⟨by first | rfl | (simp [errW_none, errW_some] <;> rfl) | (simp [*, errW_none, errW_some] <;> rfl), by repeat (first | (with_reducible first | exact HB.out | apply below_alloc | apply pw_below_drewN | apply below_drew1) | exact HB.out)⟩
   ·skip
    have c9b0 : (t200 == t202) = false := by simpa using c9
    (try (have c9b1 : decide (t200 = t202) = false := by simpa using c9))
    (try (have c9b2 : (t200 == t202) = false := by simpa using c9))
    (try (have c9b3 : ¬ (t200 = t202) := by simpa using c9))
    clear c9
    rw [hr] at H
    exact absurd H (by simp)
  ·skip
   have c8b0 : (t199.toList == t201.toList) = false := beq_eq_false_iff_ne.mpr c8
   have c8b1 : (t199.toList != t201.toList) = true := bne_iff_ne.mpr c8
   rw [hr] at H
   exact absurd H (by simp)
 ·skip
  have c7b0 : (t203.toList == t204.toList) = false := beq_eq_false_iff_ne.mpr c7
  have c7b1 : (t203.toList != t204.toList) = true := bne_iff_ne.mpr c7
  rw [hr] at H
  exact absurd H (by simp)
def stowagelaw3_CharsEscapes.Pure : Prop := ∀ (a0 : ByteArray) (a1 : Bool), a0.size ≤ 140737488351232 → ∃ k, stowagelaw3_CharsEscapes.f k a0 a1 = some true
theorem stowagelaw3_CharsEscapes.walk (P : stowagelaw3_CharsEscapes.Pure) (a0 : ByteArray) (a1 : Bool) (w : World) (w0 : a0.size ≤ 140737488351232) :
  Calls Tryd.prog 3 #[.string a0, .bool a1] w fun e w' => e = .returned (.bool true) ∧ Below w.heap.size w w' := by
 obtain ⟨k, h⟩ := P a0 a1 w0
 refine (stowagelaw3_CharsEscapes.calls k a0 a1 true w h rfl).mono ?_
 rintro e w' ⟨rfl, hd⟩
 exact ⟨rfl, hd⟩
end Go.Proofs.YtahfaiamonadmaaDoor.Q
