/- A part of the proof of the seat's laws. No condition beyond those in the theorems. -/
import Derived.Test.YtahfaiamonadmaaDoorZQ0g2
import Derived.Test.YtahfaiamonadmaaDoorZQ63
import Derived.Test.YtahfaiamonadmaaDoorZQ64g4
import Derived.Test.YtahfaiamonadmaaDoorZQ37g3
import Derived.Test.YtahfaiamonadmaaDoorZQ40g2
import Derived.Test.YtahfaiamonadmaaDoorZQ46g2

namespace Go.Proofs.YtahfaiamonadmaaDoor.Q
open Go.RowKit Go.Proofs.YtahfaiamonadmaaDoorW.PrintWords Go.Proofs.YtahfaiamonadmaaDoorW.PrintLast Go.Proofs.YtahfaiamonadmaaDoorW.PrintMore
set_option linter.unusedVariables false
set_option linter.unusedSimpArgs false
attribute [local go_sem] max2_int min2_int max_two min_two max_three min_three max_four min_four   
def stowageref3_Legal.l0 : Nat → ByteArray → Option (Bool)
 | 0, _ => none
 | k + 1, x0 => if (x0.size : Int) > 0 then ((stowageref3_Step.f k x0).bind fun bt250 => (if bt250.2 = 0 then (some false) else ((stowageref3_Char.f bt250.1).bind fun t252 => (if t252 = true then (if 0 ≤ bt250.2 then (if bt250.2 ≤ (x0.size : Int) then (stowageref3_Legal.l0 k (x0.extract (bt250.2 : Int).toNat x0.size)) else (none)) else (none)) else (some false))))) else (some true)
def stowageref3_Legal.f (k : Nat) (a0 : ByteArray) : Option (Bool) := stowageref3_Legal.l0 k a0
theorem stowageref3_Legal.mono_l : ∀ k, (∀ y0, LeO (stowageref3_Legal.l0 k y0) (stowageref3_Legal.l0 (k + 1) y0))
 | 0 => fun _ r h => by simp [stowageref3_Legal.l0] at h
 | k + 1 => by
  have ih0 := stowageref3_Legal.mono_l k
  ·intro y0
   unfold stowageref3_Legal.l0
   repeat' first
   | (with_reducible exact ih0 _)
   | (with_reducible exact stowageref3_Step.mono _ _)
   | (with_reducible exact LeO.refl _)
   | (with_reducible exact LeO.none _)
   | (with_reducible refine LeO.ite ?_ ?_)
   | (with_reducible refine LeO.bind ?_ (fun _ => ?_))
   | exact ih0 _
   | exact stowageref3_Step.mono _ _
   | exact LeO.none _
   | refine LeO.ite ?_ ?_
   | refine LeO.bind ?_ (fun _ => ?_)
theorem stowageref3_Legal.mono : ∀ a0 k, LeO (stowageref3_Legal.f k a0) (stowageref3_Legal.f (k + 1) a0) := by
 intro a0 k
 have ih0 := stowageref3_Legal.mono_l k
 unfold stowageref3_Legal.f
 repeat' first
   | (with_reducible exact ih0 _)
   | (with_reducible exact stowageref3_Step.mono _ _)
   | (with_reducible exact LeO.refl _)
   | (with_reducible exact LeO.none _)
   | (with_reducible refine LeO.ite ?_ ?_)
   | (with_reducible refine LeO.bind ?_ (fun _ => ?_))
   | exact ih0 _
   | exact stowageref3_Step.mono _ _
   | exact LeO.none _
   | refine LeO.ite ?_ ?_
   | refine LeO.bind ?_ (fun _ => ?_)
set_option maxHeartbeats 8000000 in
set_option maxRecDepth 100000 in
theorem stowageref3_Legal.calls (k : Nat) (a0 : ByteArray) (r : Bool) (w : World) (h : stowageref3_Legal.f k a0 = some r) :
  Calls Tryd.prog 25 #[.string a0] w fun e w' => e = .returned (.bool r) ∧ Drawn0 w w' := by
 unfold stowageref3_Legal.f at h
 have H := h
 clear h
 have H' := Aside0.mk H
 clear H
 go_enter Tryd.func25, Tryd.ntmps25
 go_wp2
 go_loopg [0] k (fun kq v0 w' => ∃ (x0_1 : ByteArray), v0 = .string x0_1 ∧ Aside0 (stowageref3_Legal.l0 kq x0_1 = some r) ∧ Aside0 (kq ≤ k) ∧ Drawn0 w w')
 case atStart => exact ⟨(a0), (by first | rfl | (simp; done) | (simp [*]; done)), H', ⟨Nat.le_refl _⟩, by repeat (first | exact Drawn0.refl _ | apply Drawn0.step)⟩
 case round =>
  clear H'
  obtain ⟨x0_1, rfl, HA, HK1, ⟨m1, rfl⟩⟩ := hrel
  cases gk with
  | zero => exact absurd HA.out (by simp [stowageref3_Legal.l0])
  | succ k1 =>
   have H := HA.out
   clear HA
   simp only [stowageref3_Legal.l0] at H
   replace H := itO H
   rcases H with ⟨c2, H⟩ | ⟨c2, H⟩
   ·skip
    have c2b0 : decide (0 < (x0_1.size : Int)) = true := decide_eq_true c2
    have c2b1 : decide (0 < x0_1.size) = true := decide_eq_true (by omega)
    clear c2
    replace H := bndO H
    obtain ⟨⟨t250, t251⟩, A30, H⟩ := H
    dsimp only at H
    have A3 := Aside0.mk A30
    clear A30
    replace H := itO H
    rcases H with ⟨c4, H⟩ | ⟨c4, H⟩
    ·skip
     have c4b0 : (t251 == 0) = true := beq_iff_eq.mpr c4
     have c4b1 : (t251 != 0) = false := bne_eq_false_iff_eq.mpr c4
     clear c4
     obtain rfl := Option.some.inj H
     go_wp2_with (first | ((with_reducible refine gate_callee (f := 50) rfl ?_); refine goesL_ (some 10) rfl rfl Tryd.func50 (by kernel_rfl) rfl #[.string x0_1] rfl (by (try simp only [List.map_toArray, List.map_cons, List.map_nil]); first | done | rfl | (simp only [List.length_drop, List.length_take]; rfl)) ?_; (with_reducible refine (stowageref3_Step.calls k1 x0_1 t250 t251 _ A3.out).mono ?_); rintro e w' ⟨rfl, ⟨nd, rfl⟩⟩; refine ⟨_, rfl, ?_⟩))
     go_ret
     exact ⟨by first | rfl | (simp; done) | (simp [*]; done), by repeat (first | exact Drawn0.refl _ | apply Drawn0.step)⟩
    ·skip
     have c4b0 : (t251 == 0) = false := beq_eq_false_iff_ne.mpr c4
     have c4b1 : (t251 != 0) = true := bne_iff_ne.mpr c4
     replace H := bndO H
     obtain ⟨t252, A50, H⟩ := H
     have A5 := Aside0.mk A50
     clear A50
     by_cases c6 : t252 = true
     ·subst c6
      replace H := itT H
      replace H := itO H
      rcases H with ⟨c7, H⟩ | ⟨c7, H⟩
      ·skip
       have c7b0 := eq_true c7
       have c7b1 := decide_eq_true c7
       clear c7
       replace H := itO H
       rcases H with ⟨c8, H⟩ | ⟨c8, H⟩
       ·skip
        have c8b0 := eq_true c8
        have c8b1 := decide_eq_true c8
        clear c8
        have H' := Aside0.mk H
        clear H
        go_wp2_with (first | ((with_reducible refine gate_callee (f := 50) rfl ?_); refine goesL_ (some 10) rfl rfl Tryd.func50 (by kernel_rfl) rfl #[.string x0_1] rfl (by (try simp only [List.map_toArray, List.map_cons, List.map_nil]); first | done | rfl | (simp only [List.length_drop, List.length_take]; rfl)) ?_; (with_reducible refine (stowageref3_Step.calls k1 x0_1 t250 t251 _ A3.out).mono ?_); rintro e w' ⟨rfl, ⟨nd, rfl⟩⟩; refine ⟨_, rfl, ?_⟩) | (go_at_call 52; (with_reducible refine (stowageref3_Char.calls t250 true _ A5.out).mono ?_); rintro e w' ⟨rfl, ⟨nd, rfl⟩⟩))
        go_roundg k1
        case measure => have := HK1.out; omega
        case rel => exact ⟨(x0_1.extract (t251 : Int).toNat x0_1.size), (by first | rfl | (simp; done) | (simp [*]; done)), H', ⟨by have := HK1.out; omega⟩, by repeat (first | exact Drawn0.refl _ | apply Drawn0.step)⟩
       ·exact absurd H (by simp)
      ·exact absurd H (by simp)
     ·replace c6 := Bool.eq_false_iff.mpr c6
      subst c6
      replace H := itF H
      obtain rfl := Option.some.inj H
      go_wp2_with (first | ((with_reducible refine gate_callee (f := 50) rfl ?_); refine goesL_ (some 10) rfl rfl Tryd.func50 (by kernel_rfl) rfl #[.string x0_1] rfl (by (try simp only [List.map_toArray, List.map_cons, List.map_nil]); first | done | rfl | (simp only [List.length_drop, List.length_take]; rfl)) ?_; (with_reducible refine (stowageref3_Step.calls k1 x0_1 t250 t251 _ A3.out).mono ?_); rintro e w' ⟨rfl, ⟨nd, rfl⟩⟩; refine ⟨_, rfl, ?_⟩) | (go_at_call 52; (with_reducible refine (stowageref3_Char.calls t250 false _ A5.out).mono ?_); rintro e w' ⟨rfl, ⟨nd, rfl⟩⟩))
      go_ret
      exact ⟨by first | rfl | (simp; done) | (simp [*]; done), by repeat (first | exact Drawn0.refl _ | apply Drawn0.step)⟩
   ·skip
    have c2b0 : decide (0 < (x0_1.size : Int)) = false := decide_eq_false c2
    have c2b1 : decide (0 < x0_1.size) = false := decide_eq_false (by omega)
    clear c2
    obtain rfl := Option.some.inj H
    go_wp2
    go_ret
    exact ⟨by first | rfl | (simp; done) | (simp [*]; done), by repeat (first | exact Drawn0.refl _ | apply Drawn0.step)⟩
end Go.Proofs.YtahfaiamonadmaaDoor.Q


namespace Go.Proofs.YtahfaiamonadmaaDoor.Q
open Go.RowKit Go.Proofs.YtahfaiamonadmaaDoorW.PrintWords Go.Proofs.YtahfaiamonadmaaDoorW.PrintLast Go.Proofs.YtahfaiamonadmaaDoorW.PrintMore
set_option linter.unusedVariables false
set_option linter.unusedSimpArgs false
attribute [local go_sem] max2_int min2_int max_two min_two max_three min_three max_four min_four   
def stowagelaw3_CharsCounts.f (k : Nat) (a0 : ByteArray) : Option (Bool) := (chars_Count.f a0).bind fun bt253 => ((stowageref3_Count.f k a0).bind fun bt255 => (if bt253.1 = bt255.1 then (if (bt253.2 == bt255.2) = true then ((chars_Valid.f a0).bind fun t257 => (if (t257 == bt255.2) = true then ((chars_Legal.f a0).bind fun t258 => ((stowageref3_Legal.f k a0).bind fun t259 => (if (t258 == t259) = true then ((stowagelaw3_awake.f k).bind fun t260 => (some t260)) else (some false)))) else (some false))) else (some false)) else (some false)))
theorem stowagelaw3_CharsCounts.mono : ∀ a0 k, LeO (stowagelaw3_CharsCounts.f k a0) (stowagelaw3_CharsCounts.f (k + 1) a0) := by
 intro a0 k
 unfold stowagelaw3_CharsCounts.f
 repeat' first
   | (with_reducible exact stowagelaw3_awake.mono _)
   | (with_reducible exact stowageref3_Count.mono _ _)
   | (with_reducible exact stowageref3_Legal.mono _ _)
   | (with_reducible exact LeO.refl _)
   | (with_reducible exact LeO.none _)
   | (with_reducible refine LeO.ite ?_ ?_)
   | (with_reducible refine LeO.bind ?_ (fun _ => ?_))
   | exact stowagelaw3_awake.mono _
   | exact stowageref3_Count.mono _ _
   | exact stowageref3_Legal.mono _ _
   | exact LeO.none _
   | refine LeO.ite ?_ ?_
   | refine LeO.bind ?_ (fun _ => ?_)
set_option maxHeartbeats 8000000 in
set_option maxRecDepth 100000 in
theorem stowagelaw3_CharsCounts.calls (k : Nat) (a0 : ByteArray) (r : Bool) (w : World) (h : stowagelaw3_CharsCounts.f k a0 = some r) (hr : r = true) :
  Calls Tryd.prog 6 #[.string a0] w fun e w' => e = .returned (.bool r) ∧ Below w.heap.size w w' := by
 have HB := Aside0.mk (Below.refl w.heap.size w)
 unfold stowagelaw3_CharsCounts.f at h
 have H := h
 clear h
 replace H := bndO H
 obtain ⟨⟨t253, t254⟩, A20, H⟩ := H
 dsimp only at H
 have A2 := Aside0.mk A20
 clear A20
 replace H := bndO H
 obtain ⟨⟨t255, t256⟩, A30, H⟩ := H
 dsimp only at H
 have A3 := Aside0.mk A30
 clear A30
 replace H := itO H
 rcases H with ⟨c4, H⟩ | ⟨c4, H⟩
 ·skip
  have c4b0 : (t253 == t255) = true := beq_iff_eq.mpr c4
  have c4b1 : (t253 != t255) = false := bne_eq_false_iff_eq.mpr c4
  clear c4
  replace H := itO H
  rcases H with ⟨c5, H⟩ | ⟨c5, H⟩
  ·skip
   have c5b0 : (t254 == t256) = true := c5
   (try (have c5b1 : decide (t254 = t256) = true := by simpa using c5))
   (try (have c5b2 : (t254 == t256) = true := by simpa using c5))
   clear c5
   replace H := bndO H
   obtain ⟨t257, A60, H⟩ := H
   have A6 := Aside0.mk A60
   clear A60
   replace H := itO H
   rcases H with ⟨c7, H⟩ | ⟨c7, H⟩
   ·skip
    have c7b0 : (t257 == t256) = true := c7
    (try (have c7b1 : decide (t257 = t256) = true := by simpa using c7))
    (try (have c7b2 : (t257 == t256) = true := by simpa using c7))
    clear c7
    replace H := bndO H
    obtain ⟨t258, A80, H⟩ := H
    have A8 := Aside0.mk A80
    clear A80
    replace H := bndO H
    obtain ⟨t259, A90, H⟩ := H
    have A9 := Aside0.mk A90
    clear A90
    replace H := itO H
    rcases H with ⟨c10, H⟩ | ⟨c10, H⟩
    ·skip
     have c10b0 : (t258 == t259) = true := c10
     (try (have c10b1 : decide (t258 = t259) = true := by simpa using c10))
     (try (have c10b2 : (t258 == t259) = true := by simpa using c10))
     clear c10
     replace H := bndO H
     obtain ⟨t260, A110, H⟩ := H
     have A11 := Aside0.mk A110
     clear A110
     clear hr
     obtain rfl := Option.some.inj H
     go_enter Tryd.func6, Tryd.ntmps6
     go_wp2_with (first | ((with_reducible refine gate_callee (f := 21) rfl ?_); refine goesL_ (some 9) rfl rfl Tryd.func21 (by kernel_rfl) rfl #[.string a0] rfl (by (try simp only [List.map_toArray, List.map_cons, List.map_nil]); first | done | rfl | (simp only [List.length_drop, List.length_take]; rfl)) ?_; (with_reducible refine (chars_Count.calls a0 t253 t254 _ A2.out).mono ?_); rintro e w12 ⟨rfl, hb⟩; refine ⟨_, rfl, ?_⟩; have n0_ := Aside0.mk (below_step (by repeat (first | (with_reducible first | exact HB.out | apply below_alloc | apply pw_below_drewN | apply below_drew1) | exact HB.out)) hb); clear HB; have HB := n0_; clear n0_; (try clear hb); (try clear hb2); (try clear hk); (try clear hi)) | ((with_reducible refine gate_callee (f := 22) rfl ?_); refine goesL_ (some 14) rfl rfl Tryd.func22 (by kernel_rfl) rfl #[.string a0] rfl (by (try simp only [List.map_toArray, List.map_cons, List.map_nil]); first | done | rfl | (simp only [List.length_drop, List.length_take]; rfl)) ?_; (with_reducible refine (stowageref3_Count.calls k a0 t255 t256 _ A3.out).mono ?_); rintro e w' ⟨rfl, ⟨nd, rfl⟩⟩; refine ⟨_, rfl, ?_⟩) | (go_at_call 23; (with_reducible refine (chars_Valid.calls a0 t257 _ A6.out).mono ?_); rintro e w13 ⟨rfl, hb⟩; have n0_ := Aside0.mk (below_step (by repeat (first | (with_reducible first | exact HB.out | apply below_alloc | apply pw_below_drewN | apply below_drew1) | exact HB.out)) hb); clear HB; have HB := n0_; clear n0_; (try clear hb); (try clear hb2); (try clear hk); (try clear hi)) | (go_at_call 24; (with_reducible refine (chars_Legal.calls a0 t258 _ A8.out).mono ?_); rintro e w14 ⟨rfl, hb⟩; have n0_ := Aside0.mk (below_step (by repeat (first | (with_reducible first | exact HB.out | apply below_alloc | apply pw_below_drewN | apply below_drew1) | exact HB.out)) hb); clear HB; have HB := n0_; clear n0_; (try clear hb); (try clear hb2); (try clear hk); (try clear hi)) | (go_at_call 25; (with_reducible refine (stowageref3_Legal.calls k a0 t259 _ A9.out).mono ?_); rintro e w' ⟨rfl, ⟨nd, rfl⟩⟩) | (go_at_call 13; (with_reducible refine (stowagelaw3_awake.calls k  t260 _ A11.out).mono ?_); rintro e w15 ⟨rfl, hb⟩; have n0_ := Aside0.mk (below_step (by repeat (first | (with_reducible first | exact HB.out | apply below_alloc | apply pw_below_drewN | apply below_drew1) | exact HB.out)) hb); clear HB; have HB := n0_; clear n0_; (try clear hb); (try clear hb2); (try clear hk); (try clear hi)))
     go_ret
     exact ⟨by first | rfl | (simp [errW_none, errW_some] <;> rfl) | (simp [*, errW_none, errW_some] <;> rfl), by repeat (first | (with_reducible first | exact HB.out | apply below_alloc | apply pw_below_drewN | apply below_drew1) | exact HB.out)⟩
    ·skip
     have c10b0 : (t258 == t259) = false := by simpa using c10
     (try (have c10b1 : decide (t258 = t259) = false := by simpa using c10))
     (try (have c10b2 : (t258 == t259) = false := by simpa using c10))
     (try (have c10b3 : ¬ (t258 = t259) := by simpa using c10))
     clear c10
     rw [hr] at H
     exact absurd H (by simp)
   ·skip
    have c7b0 : (t257 == t256) = false := by simpa using c7
    (try (have c7b1 : decide (t257 = t256) = false := by simpa using c7))
    (try (have c7b2 : (t257 == t256) = false := by simpa using c7))
    (try (have c7b3 : ¬ (t257 = t256) := by simpa using c7))
    clear c7
    rw [hr] at H
    exact absurd H (by simp)
  ·skip
   have c5b0 : (t254 == t256) = false := by simpa using c5
   (try (have c5b1 : decide (t254 = t256) = false := by simpa using c5))
   (try (have c5b2 : (t254 == t256) = false := by simpa using c5))
   (try (have c5b3 : ¬ (t254 = t256) := by simpa using c5))
   clear c5
   rw [hr] at H
   exact absurd H (by simp)
 ·skip
  have c4b0 : (t253 == t255) = false := beq_eq_false_iff_ne.mpr c4
  have c4b1 : (t253 != t255) = true := bne_iff_ne.mpr c4
  rw [hr] at H
  exact absurd H (by simp)
def stowagelaw3_CharsCounts.Pure : Prop := ∀ (a0 : ByteArray), a0.size ≤ 140737488351232 → ∃ k, stowagelaw3_CharsCounts.f k a0 = some true
theorem stowagelaw3_CharsCounts.walk (P : stowagelaw3_CharsCounts.Pure) (a0 : ByteArray) (w : World) (w0 : a0.size ≤ 140737488351232) :
  Calls Tryd.prog 6 #[.string a0] w fun e w' => e = .returned (.bool true) ∧ Below w.heap.size w w' := by
 obtain ⟨k, h⟩ := P a0 w0
 refine (stowagelaw3_CharsCounts.calls k a0 true w h rfl).mono ?_
 rintro e w' ⟨rfl, hd⟩
 exact ⟨rfl, hd⟩
end Go.Proofs.YtahfaiamonadmaaDoor.Q
