/- A part of the proof of the seat's laws. No condition beyond those in the theorems. -/
import Derived.Test.YtahfaiamonadmaaDoorZQ0g2
import Derived.Test.YtahfaiamonadmaaDoorZQ13g3
import Derived.Test.YtahfaiamonadmaaDoorZQ16g3
import Derived.Test.YtahfaiamonadmaaDoorZQ40g2
import Derived.Test.YtahfaiamonadmaaDoorZQ42g4
import Derived.Test.YtahfaiamonadmaaDoorZQ46g2
import Derived.Test.YtahfaiamonadmaaDoorZQ48g2
import Derived.Test.YtahfaiamonadmaaDoorZQ50g3

namespace Go.Proofs.YtahfaiamonadmaaDoor.Q
open Go.RowKit Go.Proofs.YtahfaiamonadmaaDoorW.PrintWords Go.Proofs.YtahfaiamonadmaaDoorW.PrintLast Go.Proofs.YtahfaiamonadmaaDoorW.PrintMore
set_option linter.unusedVariables false
set_option linter.unusedSimpArgs false
attribute [local go_sem] max2_int min2_int max_two min_two max_three min_three max_four min_four   
def stowagelaw3_CharsWords.f (k : Nat) (a0 : ByteArray) (a1 : Int) : Option (Bool) := (chars_Token.f k a0).bind fun t169 => ((stowageref3_Token.f k a0).bind fun t170 => (if (t169 == t170) = true then ((chars_Value.f k a0).bind fun t171 => ((stowageref3_Value.f k a0).bind fun t172 => (if (t171 == t172) = true then ((chars_Trim.f k a0).bind fun t173 => ((stowageref3_Trim.f k a0).bind fun t174 => (if t173.toList = t174.toList then ((chars_Fold.f k a0).bind fun t175 => ((stowageref3_Fold.f k a0).bind fun t176 => (if t175.toList = t176.toList then ((chars_Lower.f a0).bind fun t177 => ((stowageref3_Lower.f k a0).bind fun t178 => (if t177.toList = t178.toList then ((chars_Split.f k a0 a1).bind fun t179 => ((stowageref3_Split.f k a0 a1).bind fun t182 => ((stowageref1_SameTexts.f k t179 t182).bind fun t185 => (if t185 = true then ((stowagelaw3_awake.f k).bind fun t186 => (some t186)) else (some false))))) else (some false)))) else (some false)))) else (some false)))) else (some false)))) else (some false)))
theorem stowagelaw3_CharsWords.mono : ∀ a0 a1 k, LeO (stowagelaw3_CharsWords.f k a0 a1) (stowagelaw3_CharsWords.f (k + 1) a0 a1) := by
 intro a0 a1 k
 unfold stowagelaw3_CharsWords.f
 repeat' first
   | (with_reducible exact chars_Fold.mono _ _)
   | (with_reducible exact chars_Split.mono _ _ _)
   | (with_reducible exact chars_Token.mono _ _)
   | (with_reducible exact chars_Trim.mono _ _)
   | (with_reducible exact chars_Value.mono _ _)
   | (with_reducible exact stowagelaw3_awake.mono _)
   | (with_reducible exact stowageref1_SameTexts.mono _ _ _)
   | (with_reducible exact stowageref3_Fold.mono _ _)
   | (with_reducible exact stowageref3_Lower.mono _ _)
   | (with_reducible exact stowageref3_Split.mono _ _ _)
   | (with_reducible exact stowageref3_Token.mono _ _)
   | (with_reducible exact stowageref3_Trim.mono _ _)
   | (with_reducible exact stowageref3_Value.mono _ _)
   | (with_reducible exact LeO.refl _)
   | (with_reducible exact LeO.none _)
   | (with_reducible refine LeO.ite ?_ ?_)
   | (with_reducible refine LeO.bind ?_ (fun _ => ?_))
   | exact chars_Fold.mono _ _
   | exact chars_Split.mono _ _ _
   | exact chars_Token.mono _ _
   | exact chars_Trim.mono _ _
   | exact chars_Value.mono _ _
   | exact stowagelaw3_awake.mono _
   | exact stowageref1_SameTexts.mono _ _ _
   | exact stowageref3_Fold.mono _ _
   | exact stowageref3_Lower.mono _ _
   | exact stowageref3_Split.mono _ _ _
   | exact stowageref3_Token.mono _ _
   | exact stowageref3_Trim.mono _ _
   | exact stowageref3_Value.mono _ _
   | exact LeO.none _
   | refine LeO.ite ?_ ?_
   | refine LeO.bind ?_ (fun _ => ?_)
set_option maxHeartbeats 8000000 in
set_option maxRecDepth 100000 in
theorem stowagelaw3_CharsWords.calls (k : Nat) (a0 : ByteArray) (a1 : Int) (r : Bool) (w : World) (h : stowagelaw3_CharsWords.f k a0 a1 = some r) (hr : r = true) :
  Calls Tryd.prog 8 #[.string a0, .int .u8 a1] w fun e w' => e = .returned (.bool r) ∧ Below w.heap.size w w' := by
 have HB := Aside0.mk (Below.refl w.heap.size w)
 unfold stowagelaw3_CharsWords.f at h
 have H := h
 clear h
 replace H := bndO H
 obtain ⟨t169, A30, H⟩ := H
 have A3 := Aside0.mk A30
 clear A30
 replace H := bndO H
 obtain ⟨t170, A40, H⟩ := H
 have A4 := Aside0.mk A40
 clear A40
 replace H := itO H
 rcases H with ⟨c5, H⟩ | ⟨c5, H⟩
 ·skip
  have c5b0 : (t169 == t170) = true := c5
  (try (have c5b1 : decide (t169 = t170) = true := by simpa using c5))
  (try (have c5b2 : (t169 == t170) = true := by simpa using c5))
  clear c5
  replace H := bndO H
  obtain ⟨t171, A60, H⟩ := H
  have A6 := Aside0.mk A60
  clear A60
  replace H := bndO H
  obtain ⟨t172, A70, H⟩ := H
  have A7 := Aside0.mk A70
  clear A70
  replace H := itO H
  rcases H with ⟨c8, H⟩ | ⟨c8, H⟩
  ·skip
   have c8b0 : (t171 == t172) = true := c8
   (try (have c8b1 : decide (t171 = t172) = true := by simpa using c8))
   (try (have c8b2 : (t171 == t172) = true := by simpa using c8))
   clear c8
   replace H := bndO H
   obtain ⟨t173, A90, H⟩ := H
   have A9 := Aside0.mk A90
   clear A90
   replace H := bndO H
   obtain ⟨t174, A100, H⟩ := H
   have A10 := Aside0.mk A100
   clear A100
   replace H := itO H
   rcases H with ⟨c11, H⟩ | ⟨c11, H⟩
   ·skip
    have c11b0 : (t173.toList == t174.toList) = true := beq_iff_eq.mpr c11
    have c11b1 : (t173.toList != t174.toList) = false := bne_eq_false_iff_eq.mpr c11
    clear c11
    replace H := bndO H
    obtain ⟨t175, A120, H⟩ := H
    have A12 := Aside0.mk A120
    clear A120
    replace H := bndO H
    obtain ⟨t176, A130, H⟩ := H
    have A13 := Aside0.mk A130
    clear A130
    replace H := itO H
    rcases H with ⟨c14, H⟩ | ⟨c14, H⟩
    ·skip
     have c14b0 : (t175.toList == t176.toList) = true := beq_iff_eq.mpr c14
     have c14b1 : (t175.toList != t176.toList) = false := bne_eq_false_iff_eq.mpr c14
     clear c14
     replace H := bndO H
     obtain ⟨t177, A150, H⟩ := H
     have A15 := Aside0.mk A150
     clear A150
     replace H := bndO H
     obtain ⟨t178, A160, H⟩ := H
     have A16 := Aside0.mk A160
     clear A160
     replace H := itO H
     rcases H with ⟨c17, H⟩ | ⟨c17, H⟩
     ·skip
      have c17b0 : (t177.toList == t178.toList) = true := beq_iff_eq.mpr c17
      have c17b1 : (t177.toList != t178.toList) = false := bne_eq_false_iff_eq.mpr c17
      clear c17
      replace H := bndO H
      obtain ⟨t179, A180, H⟩ := H
      have A18 := Aside0.mk A180
      clear A180
      replace H := bndO H
      obtain ⟨t182, A190, H⟩ := H
      have A19 := Aside0.mk A190
      clear A190
      replace H := bndO H
      obtain ⟨t185, A200, H⟩ := H
      have A20 := Aside0.mk A200
      clear A200
      by_cases c21 : t185 = true
      ·subst c21
       replace H := itT H
       replace H := bndO H
       obtain ⟨t186, A220, H⟩ := H
       have A22 := Aside0.mk A220
       clear A220
       clear hr
       obtain rfl := Option.some.inj H
       go_enter Tryd.func8, Tryd.ntmps8
       go_wp2_with (first | ((with_reducible refine gate_callee (f := 26) rfl ?_); refine goesL_ (some 6) rfl rfl Tryd.func26 (by kernel_rfl) rfl #[.string a0] rfl (by (try simp only [List.map_toArray, List.map_cons, List.map_nil]); first | done | rfl | (simp only [List.length_drop, List.length_take]; rfl)) ?_; (with_reducible refine (chars_Token.calls k a0 t169 _ A3.out).mono ?_); rintro e w' ⟨rfl, ⟨nd, rfl⟩⟩; refine ⟨_, rfl, ?_⟩) | ((with_reducible refine gate_callee (f := 27) rfl ?_); refine goesL_ (some 8) rfl rfl Tryd.func27 (by kernel_rfl) rfl #[.string a0] rfl (by (try simp only [List.map_toArray, List.map_cons, List.map_nil]); first | done | rfl | (simp only [List.length_drop, List.length_take]; rfl)) ?_; (with_reducible refine (stowageref3_Token.calls k a0 t170 _ A4.out).mono ?_); rintro e w' ⟨rfl, ⟨nd, rfl⟩⟩; refine ⟨_, rfl, ?_⟩) | (go_at_call 28; (with_reducible refine (chars_Value.calls k a0 t171 _ A6.out).mono ?_); rintro e w' ⟨rfl, ⟨nd, rfl⟩⟩) | (go_at_call 29; (with_reducible refine (stowageref3_Value.calls k a0 t172 _ A7.out).mono ?_); rintro e w' ⟨rfl, ⟨nd, rfl⟩⟩) | (go_at_call 16; (with_reducible refine (chars_Trim.calls k a0 t173 _ A9.out).mono ?_); rintro e w' ⟨rfl, ⟨nd, rfl⟩⟩) | (go_at_call 30; (with_reducible refine (stowageref3_Trim.calls k a0 t174 _ A10.out).mono ?_); rintro e w' ⟨rfl, ⟨nd, rfl⟩⟩) | (go_at_call 15; (with_reducible refine (chars_Fold.calls k a0 t175 _ A12.out).mono ?_); rintro e w23 ⟨rfl, hb⟩; have n0_ := Aside0.mk (below_step (by repeat (first | (with_reducible first | exact HB.out | apply below_alloc | apply pw_below_drewN | apply below_drew1) | exact HB.out)) hb); clear HB; have HB := n0_; clear n0_; (try clear hb); (try clear hb2); (try clear hk); (try clear hi)) | (go_at_call 31; (with_reducible refine (stowageref3_Fold.calls k a0 t176 _ A13.out).mono ?_); rintro e w' ⟨rfl, ⟨nd, rfl⟩⟩) | (go_at_call 32; (with_reducible refine (chars_Lower.calls a0 t177 _ A15.out).mono ?_); rintro e w24 ⟨rfl, hb⟩; have n0_ := Aside0.mk (below_step (by repeat (first | (with_reducible first | exact HB.out | apply below_alloc | apply pw_below_drewN | apply below_drew1) | exact HB.out)) hb); clear HB; have HB := n0_; clear n0_; (try clear hb); (try clear hb2); (try clear hk); (try clear hi)) | (go_at_call 33; (with_reducible refine (stowageref3_Lower.calls k a0 t178 _ A16.out).mono ?_); rintro e w25 ⟨rfl, hb⟩; have n0_ := Aside0.mk (below_step (by repeat (first | (with_reducible first | exact HB.out | apply below_alloc | apply pw_below_drewN | apply below_drew1) | exact HB.out)) hb); clear HB; have HB := n0_; clear n0_; (try clear hb); (try clear hb2); (try clear hk); (try clear hi)) | (go_at_call 14; (with_reducible refine (chars_Split.calls k a0 a1 t179 _ A18.out).mono ?_); rintro e w26 ⟨v180, rfl, ho0, hb⟩; have n0_ := Aside0.mk (Kd.V_lower (Kd.V_mono (ok' := fun k_ => True) ho0 (fun k_ hk_ => trivial)) (below_size (by repeat (first | (with_reducible first | exact HB.out | apply below_alloc | apply pw_below_drewN | apply below_drew1) | exact HB.out)))); have n1_ := Aside0.mk (below_step (by repeat (first | (with_reducible first | exact HB.out | apply below_alloc | apply pw_below_drewN | apply below_drew1) | exact HB.out)) hb); clear HB; have HO181 := n0_; have HB := n1_; clear n0_ n1_; (try clear hb); (try clear hb2); (try clear hk); (try clear hi); (try clear ho0)) | (go_at_call 35; (with_reducible refine (stowageref3_Split.calls k a0 a1 t182 _ A19.out).mono ?_); rintro e w27 ⟨v183, rfl, ho0, hb⟩; have n0_ := Aside0.mk (Kd.V_elder' (by (with_reducible repeat (first | apply Kd.V_alloc | apply Kd.V_drewN | apply Kd.V_drew)); exact HO181.out) (by first | exact Kd.R_base ho0 | exact Kd.R_base ho0) hb); have n1_ := Aside0.mk (Kd.R_lower ho0 (below_size (by repeat (first | (with_reducible first | exact HB.out | apply below_alloc | apply pw_below_drewN | apply below_drew1) | exact HB.out)))); have n2_ := Aside0.mk (below_step (by repeat (first | (with_reducible first | exact HB.out | apply below_alloc | apply pw_below_drewN | apply below_drew1) | exact HB.out)) hb); clear HO181; clear HB; have HO181 := n0_; have HO184 := n1_; have HB := n2_; clear n0_ n1_ n2_; (try clear hb); (try clear hb2); (try clear hk); (try clear hi); (try clear ho0); obtain ⟨Ao28, co28, eo28⟩ := Kd.V_slice HO181.out; subst eo28; obtain ⟨Ao29, co29, eo29⟩ := Kd.R_slice HO184.out; subst eo29) | (go_at_call 34; (with_reducible refine (stowageref1_SameTexts.calls k _ _ t179 _ _ t182 true _ ?side1 ?side2 ?side3 ?side4 A20.out).mono ?_); (case side1 => repeat (first | exact (Kd.V_reads' HO181.out).2.2 | (with_reducible refine Kd.C_alloc ?_ _) | (with_reducible refine Kd.C_drewN ?_ _) | (with_reducible refine Kd.C_drew ?_))); (case side2 => exact (Kd.V_reads' HO181.out).2.1); (case side3 => repeat (first | exact (Kd.R_reads' HO184.out).2.2 | (with_reducible refine Kd.C_alloc ?_ _) | (with_reducible refine Kd.C_drewN ?_ _) | (with_reducible refine Kd.C_drew ?_))); (case side4 => exact (Kd.R_reads' HO184.out).2.1); rintro e w' ⟨rfl, ⟨nd, rfl⟩⟩) | (go_at_call 13; (with_reducible refine (stowagelaw3_awake.calls k  t186 _ A22.out).mono ?_); rintro e w30 ⟨rfl, hb⟩; have n0_ := Aside0.mk (Kd.V_below (by (with_reducible repeat (first | apply Kd.V_alloc | apply Kd.V_drewN | apply Kd.V_drew)); exact HO181.out) hb); have n1_ := Aside0.mk (Kd.R_below (by (with_reducible repeat (first | apply Kd.R_alloc | apply Kd.R_drewN | apply Kd.R_drew)); exact HO184.out) hb); have n2_ := Aside0.mk (below_step (by repeat (first | (with_reducible first | exact HB.out | apply below_alloc | apply pw_below_drewN | apply below_drew1) | exact HB.out)) hb); clear HO181; clear HO184; clear HB; have HO181 := n0_; have HO184 := n1_; have HB := n2_; clear n0_ n1_ n2_; (try clear hb); (try clear hb2); (try clear hk); (try clear hi)))
       go_ret
       exact ⟨by first | rfl | (simp [errW_none, errW_some] <;> rfl) | (simp [*, errW_none, errW_some] <;> rfl), by repeat (first | (with_reducible first | exact HB.out | apply below_alloc | apply pw_below_drewN | apply below_drew1) | exact HB.out)⟩
      ·replace c21 := Bool.eq_false_iff.mpr c21
       subst c21
       replace H := itF H
       rw [hr] at H
       exact absurd H (by simp)
     ·skip
      have c17b0 : (t177.toList == t178.toList) = false := beq_eq_false_iff_ne.mpr c17
      have c17b1 : (t177.toList != t178.toList) = true := bne_iff_ne.mpr c17
      rw [hr] at H
      exact absurd H (by simp)
    ·skip
     have c14b0 : (t175.toList == t176.toList) = false := beq_eq_false_iff_ne.mpr c14
     have c14b1 : (t175.toList != t176.toList) = true := bne_iff_ne.mpr c14
     rw [hr] at H
     exact absurd H (by simp)
   ·skip
    have c11b0 : (t173.toList == t174.toList) = false := beq_eq_false_iff_ne.mpr c11
    have c11b1 : (t173.toList != t174.toList) = true := bne_iff_ne.mpr c11
    rw [hr] at H
    exact absurd H (by simp)
  ·skip
   have c8b0 : (t171 == t172) = false := by simpa using c8
   (try (have c8b1 : decide (t171 = t172) = false := by simpa using c8))
   (try (have c8b2 : (t171 == t172) = false := by simpa using c8))
   (try (have c8b3 : ¬ (t171 = t172) := by simpa using c8))
   clear c8
   rw [hr] at H
   exact absurd H (by simp)
 ·skip
  have c5b0 : (t169 == t170) = false := by simpa using c5
  (try (have c5b1 : decide (t169 = t170) = false := by simpa using c5))
  (try (have c5b2 : (t169 == t170) = false := by simpa using c5))
  (try (have c5b3 : ¬ (t169 = t170) := by simpa using c5))
  clear c5
  rw [hr] at H
  exact absurd H (by simp)
def stowagelaw3_CharsWords.Pure : Prop := ∀ (a0 : ByteArray) (a1 : Int), a0.size ≤ 140737488351232 → (Lit.int .u8 a1).wf = true → ∃ k, stowagelaw3_CharsWords.f k a0 a1 = some true
theorem stowagelaw3_CharsWords.walk (P : stowagelaw3_CharsWords.Pure) (a0 : ByteArray) (a1 : Int) (w : World) (w0 : a0.size ≤ 140737488351232) (w1 : (Lit.int .u8 a1).wf = true) :
  Calls Tryd.prog 8 #[.string a0, .int .u8 a1] w fun e w' => e = .returned (.bool true) ∧ Below w.heap.size w w' := by
 obtain ⟨k, h⟩ := P a0 a1 w0 w1
 refine (stowagelaw3_CharsWords.calls k a0 a1 true w h rfl).mono ?_
 rintro e w' ⟨rfl, hd⟩
 exact ⟨rfl, hd⟩
end Go.Proofs.YtahfaiamonadmaaDoor.Q


namespace Go.Proofs.YtahfaiamonadmaaDoor.Q
open Go.RowKit Go.Proofs.YtahfaiamonadmaaDoorW.PrintWords Go.Proofs.YtahfaiamonadmaaDoorW.PrintLast Go.Proofs.YtahfaiamonadmaaDoorW.PrintMore
set_option linter.unusedVariables false
set_option linter.unusedSimpArgs false
attribute [local go_sem] max2_int min2_int max_two min_two max_three min_three max_four min_four   
mutual
def stowageref3_Digit.j0 : Nat → Int → Bool → Option (Int)
 | 0, _, _ => none
 | k + 1, x0, x3 => if x3 = true then (some ((x0 - 48) % 256)) else (if x0 ≥ 97 then (stowageref3_Digit.j1 k x0 (decide (x0 ≤ 102))) else (stowageref3_Digit.j1 k x0 false))
def stowageref3_Digit.j1 : Nat → Int → Bool → Option (Int)
 | 0, _, _ => none
 | k + 1, x0, x13 => if x13 = true then (some (((x0 - 97) % 256) + 10)) else (if x0 ≥ 65 then (if x0 ≤ 70 then (some (((x0 - 65) % 256) + 10)) else (some (-1))) else (some (-1)))
end
def stowageref3_Digit.f (k : Nat) (a0 : Int) : Option (Int) := if a0 ≥ 48 then (stowageref3_Digit.j0 k a0 (decide (a0 ≤ 57))) else (stowageref3_Digit.j0 k a0 false)
theorem stowageref3_Digit.mono_l : ∀ k, (∀ y0 y1, LeO (stowageref3_Digit.j0 k y0 y1) (stowageref3_Digit.j0 (k + 1) y0 y1)) ∧ (∀ y0 y1, LeO (stowageref3_Digit.j1 k y0 y1) (stowageref3_Digit.j1 (k + 1) y0 y1))
 | 0 => ⟨fun _ _ r h => by simp [stowageref3_Digit.j0] at h, fun _ _ r h => by simp [stowageref3_Digit.j1] at h⟩
 | k + 1 => by
  obtain ⟨ih0, ih1⟩ := stowageref3_Digit.mono_l k
  refine ⟨?_, ?_⟩
  ·intro y0 y1
   unfold stowageref3_Digit.j0
   repeat' first
   | (with_reducible exact ih0 _ _)
   | (with_reducible exact ih1 _ _)
   | (with_reducible exact LeO.refl _)
   | (with_reducible exact LeO.none _)
   | (with_reducible refine LeO.ite ?_ ?_)
   | (with_reducible refine LeO.bind ?_ (fun _ => ?_))
   | exact ih0 _ _
   | exact ih1 _ _
   | exact LeO.none _
   | refine LeO.ite ?_ ?_
   | refine LeO.bind ?_ (fun _ => ?_)
  ·intro y0 y1
   unfold stowageref3_Digit.j1
   repeat' first
   | (with_reducible exact ih0 _ _)
   | (with_reducible exact ih1 _ _)
   | (with_reducible exact LeO.refl _)
   | (with_reducible exact LeO.none _)
   | (with_reducible refine LeO.ite ?_ ?_)
   | (with_reducible refine LeO.bind ?_ (fun _ => ?_))
   | exact ih0 _ _
   | exact ih1 _ _
   | exact LeO.none _
   | refine LeO.ite ?_ ?_
   | refine LeO.bind ?_ (fun _ => ?_)
theorem stowageref3_Digit.mono : ∀ a0 k, LeO (stowageref3_Digit.f k a0) (stowageref3_Digit.f (k + 1) a0) := by
 intro a0 k
 obtain ⟨ih0, ih1⟩ := stowageref3_Digit.mono_l k
 unfold stowageref3_Digit.f
 repeat' first
   | (with_reducible exact ih0 _ _)
   | (with_reducible exact ih1 _ _)
   | (with_reducible exact LeO.refl _)
   | (with_reducible exact LeO.none _)
   | (with_reducible refine LeO.ite ?_ ?_)
   | (with_reducible refine LeO.bind ?_ (fun _ => ?_))
   | exact ih0 _ _
   | exact ih1 _ _
   | exact LeO.none _
   | refine LeO.ite ?_ ?_
   | refine LeO.bind ?_ (fun _ => ?_)
set_option maxHeartbeats 8000000 in
set_option maxRecDepth 100000 in
theorem stowageref3_Digit.calls (k : Nat) (a0 : Int) (r : Int) (w : World) (h : stowageref3_Digit.f k a0 = some r) :
  Calls Tryd.prog 39 #[.int .u8 a0] w fun e w' => e = .returned (.int .i64 r) ∧ Drawn0 w w' := by
 unfold stowageref3_Digit.f at h
 have H := h
 clear h
 have HC2 := Aside0.mk H
 clear H
 go_enter Tryd.func39, Tryd.ntmps39
 go_upto_region 1 with (fail)
 go_cut [3] (fun v3 wc => ∃ (kq : Nat) (x3_1 : Bool), v3 = .bool x3_1 ∧ Aside0 (stowageref3_Digit.j0 kq a0 x3_1 = some r) ∧ Aside0 (kq ≤ k) ∧ Drawn0 w wc)
 case first =>
  have H := HC2.out
  clear HC2
  replace H := itO H
  rcases H with ⟨c3, H⟩ | ⟨c3, H⟩
  ·skip
   have c3b0 : decide (48 ≤ a0) = true := decide_eq_true c3
   clear c3
   (first | rw [c3b0] | (simp only [i64_w, i32_w]; rw [c3b0]) | skip)
   have H' := Aside0.mk H
   clear H
   go_wp2
   go_meet
   case rel => exact ⟨_, (decide (a0 ≤ 57)), (by first | rfl | (simp; done) | (simp [*]; done)), H', ⟨by first | omega | exact Nat.le_refl _⟩, by repeat (first | exact Drawn0.refl _ | apply Drawn0.step)⟩
  ·skip
   have c3b0 : decide (48 ≤ a0) = false := decide_eq_false c3
   clear c3
   (first | rw [c3b0] | (simp only [i64_w, i32_w]; rw [c3b0]) | skip)
   have H' := Aside0.mk H
   clear H
   go_wp2
   go_meet
   case rel => exact ⟨_, (false), (by first | rfl | (simp; done) | (simp [*]; done)), H', ⟨by first | omega | exact Nat.le_refl _⟩, by repeat (first | exact Drawn0.refl _ | apply Drawn0.step)⟩
 case rest =>
  clear HC2
  try clear p2
  try clear c3
  try clear c3b0
  obtain ⟨kq, x3_1, rfl, HA, HJ1, ⟨mc1, rfl⟩⟩ := hcut
  cases kq with
  | zero => exact absurd HA.out (by simp [stowageref3_Digit.j0])
  | succ kj1 =>
   have H := HA.out
   clear HA
   simp only [stowageref3_Digit.j0] at H
   by_cases c4 : x3_1 = true
   ·subst c4
    replace H := itT H
    obtain rfl := Option.some.inj H
    go_wp2
    go_ret
    exact ⟨by first | rfl | (simp; done) | (simp [*]; done), by repeat (first | exact Drawn0.refl _ | apply Drawn0.step)⟩
   ·replace c4 := Bool.eq_false_iff.mpr c4
    subst c4
    replace H := itF H
    have HC5 := Aside0.mk H
    clear H
    go_upto_region 3 with (fail)
    go_cut [13] (fun v13 wc => ∃ (kq : Nat) (x13_4 : Bool), v13 = .bool x13_4 ∧ Aside0 (stowageref3_Digit.j1 kq a0 x13_4 = some r) ∧ Aside0 (kq ≤ kj1) ∧ Drawn0 w wc)
    case first =>
     have H := HC5.out
     clear HC5
     replace H := itO H
     rcases H with ⟨c6, H⟩ | ⟨c6, H⟩
     ·skip
      have c6b0 : decide (97 ≤ a0) = true := decide_eq_true c6
      clear c6
      (first | rw [c6b0] | (simp only [i64_w, i32_w]; rw [c6b0]) | skip)
      have H' := Aside0.mk H
      clear H
      go_wp2
      go_meet
      case rel => exact ⟨_, (decide (a0 ≤ 102)), (by first | rfl | (simp; done) | (simp [*]; done)), H', ⟨by have := HJ1.out; first | omega | exact Nat.le_refl _⟩, by repeat (first | exact Drawn0.refl _ | apply Drawn0.step)⟩
     ·skip
      have c6b0 : decide (97 ≤ a0) = false := decide_eq_false c6
      clear c6
      (first | rw [c6b0] | (simp only [i64_w, i32_w]; rw [c6b0]) | skip)
      have H' := Aside0.mk H
      clear H
      go_wp2
      go_meet
      case rel => exact ⟨_, (false), (by first | rfl | (simp; done) | (simp [*]; done)), H', ⟨by have := HJ1.out; first | omega | exact Nat.le_refl _⟩, by repeat (first | exact Drawn0.refl _ | apply Drawn0.step)⟩
    case rest =>
     clear HC5
     try clear c1
     try clear p2
     try clear c3
     try clear c3b0
     try clear c4
     try clear c6
     try clear c6b0
     try clear p2
     obtain ⟨kq, x13_4, rfl, HA, HJ4, ⟨mc4, rfl⟩⟩ := hcut
     cases kq with
     | zero => exact absurd HA.out (by simp [stowageref3_Digit.j1])
     | succ kj4 =>
      have H := HA.out
      clear HA
      simp only [stowageref3_Digit.j1] at H
      by_cases c7 : x13_4 = true
      ·subst c7
       replace H := itT H
       obtain rfl := Option.some.inj H
       go_wp2
       go_ret
       exact ⟨by first | rfl | (simp; done) | (simp [*]; done), by repeat (first | exact Drawn0.refl _ | apply Drawn0.step)⟩
      ·replace c7 := Bool.eq_false_iff.mpr c7
       subst c7
       replace H := itF H
       replace H := itO H
       rcases H with ⟨c8, H⟩ | ⟨c8, H⟩
       ·skip
        have c8b0 : decide (65 ≤ a0) = true := decide_eq_true c8
        clear c8
        replace H := itO H
        rcases H with ⟨c9, H⟩ | ⟨c9, H⟩
        ·skip
         have c9b0 : decide (a0 ≤ 70) = true := decide_eq_true c9
         clear c9
         obtain rfl := Option.some.inj H
         go_wp2
         go_ret
         exact ⟨by first | rfl | (simp; done) | (simp [*]; done), by repeat (first | exact Drawn0.refl _ | apply Drawn0.step)⟩
        ·skip
         have c9b0 : decide (a0 ≤ 70) = false := decide_eq_false c9
         clear c9
         obtain rfl := Option.some.inj H
         go_wp2
         go_ret
         exact ⟨by first | rfl | (simp; done) | (simp [*]; done), by repeat (first | exact Drawn0.refl _ | apply Drawn0.step)⟩
       ·skip
        have c8b0 : decide (65 ≤ a0) = false := decide_eq_false c8
        clear c8
        obtain rfl := Option.some.inj H
        go_wp2
        go_ret
        exact ⟨by first | rfl | (simp; done) | (simp [*]; done), by repeat (first | exact Drawn0.refl _ | apply Drawn0.step)⟩
end Go.Proofs.YtahfaiamonadmaaDoor.Q
