/- A part of the proof of the seat's laws. No condition beyond those in the theorems. -/
import Derived.Test.YtahfaiamonadmaaDoorZQ0g2
import Derived.Test.YtahfaiamonadmaaDoorZQ63
import Derived.Test.YtahfaiamonadmaaDoorZQ64g4
import Derived.Test.YtahfaiamonadmaaDoorZQ37g3
import Derived.Test.YtahfaiamonadmaaDoorZQ40g2

namespace Go.Proofs.YtahfaiamonadmaaDoor.Q
open Go.RowKit Go.Proofs.YtahfaiamonadmaaDoorW.PrintWords Go.Proofs.YtahfaiamonadmaaDoorW.PrintLast Go.Proofs.YtahfaiamonadmaaDoorW.PrintMore
set_option linter.unusedVariables false
set_option linter.unusedSimpArgs false
attribute [local go_sem] max2_int min2_int max_two min_two max_three min_three max_four min_four   
def stowageref3_Legal.l0 : Nat → ByteArray → Option (Bool)
 | 0, _ => none
 | k + 1, x0 => if (x0.size : Int) > 0 then ((stowageref3_Step.f k x0).bind fun bt250 => (if bt250.2 = 0 then (some false) else ((stowageref3_Char.f bt250.1).bind fun t252 => (if t252 = true then (if 0 ≤ bt250.2 then (if bt250.2 ≤ (x0.size : Int) then (stowageref3_Legal.l0 k (x0.extract (bt250.2 : Int).toNat x0.size)) else (none)) else (none)) else (some false))))) else (some true)
def stowageref3_Legal.f (k : Nat) (a0 : ByteArray) : Option (Bool) := stowageref3_Legal.l0 k a0
theorem stowageref3_Legal.mono_l : ∀ k, (∀ y0, LeO (stowageref3_Legal.l0 k y0) (stowageref3_Legal.l0 (k + 1) y0))
 | 0 => fun _ r h => by simp [stowageref3_Legal.l0] at h
 | k + 1 => by
  have ih0 := stowageref3_Legal.mono_l k
  ·intro y0
   unfold stowageref3_Legal.l0
   repeat' first
   | (with_reducible exact ih0 _)
   | (with_reducible exact stowageref3_Step.mono _ _)
   | (with_reducible exact LeO.refl _)
   | (with_reducible exact LeO.none _)
   | (with_reducible refine LeO.ite ?_ ?_)
   | (with_reducible refine LeO.bind ?_ (fun _ => ?_))
   | exact ih0 _
   | exact stowageref3_Step.mono _ _
   | exact LeO.none _
   | refine LeO.ite ?_ ?_
   | refine LeO.bind ?_ (fun _ => ?_)
theorem stowageref3_Legal.mono : ∀ a0 k, LeO (stowageref3_Legal.f k a0) (stowageref3_Legal.f (k + 1) a0) := by
 intro a0 k
 have ih0 := stowageref3_Legal.mono_l k
 unfold stowageref3_Legal.f
 repeat' first
   | (with_reducible exact ih0 _)
   | (with_reducible exact stowageref3_Step.mono _ _)
   | (with_reducible exact LeO.refl _)
   | (with_reducible exact LeO.none _)
   | (with_reducible refine LeO.ite ?_ ?_)
   | (with_reducible refine LeO.bind ?_ (fun _ => ?_))
   | exact ih0 _
   | exact stowageref3_Step.mono _ _
   | exact LeO.none _
   | refine LeO.ite ?_ ?_
   | refine LeO.bind ?_ (fun _ => ?_)
set_option maxHeartbeats 8000000 in
set_option maxRecDepth 100000 in
theorem stowageref3_Legal.calls (k : Nat) (a0 : ByteArray) (r : Bool) (w : World) (h : stowageref3_Legal.f k a0 = some r) :
  Calls Tryd.prog 25 #[.string a0] w fun e w' => e = .returned (.bool r) ∧ Drawn0 w w' := by
 unfold stowageref3_Legal.f at h
 have H := h
 clear h
 have H' := Aside0.mk H
 clear H
 go_enter Tryd.func25, Tryd.ntmps25
 go_wp2
 go_loopg [0] k (fun kq v0 w' => ∃ (x0_1 : ByteArray), v0 = .string x0_1 ∧ Aside0 (stowageref3_Legal.l0 kq x0_1 = some r) ∧ Aside0 (kq ≤ k) ∧ Drawn0 w w')
 case atStart => exact ⟨(a0), (by first | rfl | (simp; done) | (simp [*]; done)), H', ⟨Nat.le_refl _⟩, by repeat (first | exact Drawn0.refl _ | apply Drawn0.step)⟩
 case round =>
  clear H'
  obtain ⟨x0_1, rfl, HA, HK1, ⟨m1, rfl⟩⟩ := hrel
  cases gk with
  | zero => exact absurd HA.out (by simp [stowageref3_Legal.l0])
  | succ k1 =>
   have H := HA.out
   clear HA
   simp only [stowageref3_Legal.l0] at H
   replace H := itO H
   rcases H with ⟨c2, H⟩ | ⟨c2, H⟩
   ·skip
    have c2b0 : decide (0 < (x0_1.size : Int)) = true := decide_eq_true c2
    have c2b1 : decide (0 < x0_1.size) = true := decide_eq_true (by omega)
    clear c2
    replace H := bndO H
    obtain ⟨⟨t250, t251⟩, A30, H⟩ := H
    dsimp only at H
    have A3 := Aside0.mk A30
    clear A30
    replace H := itO H
    rcases H with ⟨c4, H⟩ | ⟨c4, H⟩
    ·skip
     have c4b0 : (t251 == 0) = true := beq_iff_eq.mpr c4
     have c4b1 : (t251 != 0) = false := bne_eq_false_iff_eq.mpr c4
     clear c4
     obtain rfl := Option.some.inj H
     go_wp2_with (first | ((with_reducible refine gate_callee (f := 50) rfl ?_); refine goesL_ (some 10) rfl rfl Tryd.func50 (by kernel_rfl) rfl #[.string x0_1] rfl (by (try simp only [List.map_toArray, List.map_cons, List.map_nil]); first | done | rfl | (simp only [List.length_drop, List.length_take]; rfl)) ?_; (with_reducible refine (stowageref3_Step.calls k1 x0_1 t250 t251 _ A3.out).mono ?_); rintro e w' ⟨rfl, ⟨nd, rfl⟩⟩; refine ⟨_, rfl, ?_⟩))
     go_ret
     exact ⟨by first | rfl | (simp; done) | (simp [*]; done), by repeat (first | exact Drawn0.refl _ | apply Drawn0.step)⟩
    ·skip
     have c4b0 : (t251 == 0) = false := beq_eq_false_iff_ne.mpr c4
     have c4b1 : (t251 != 0) = true := bne_iff_ne.mpr c4
     replace H := bndO H
     obtain ⟨t252, A50, H⟩ := H
     have A5 := Aside0.mk A50
     clear A50
     by_cases c6 : t252 = true
     ·subst c6
      replace H := itT H
      replace H := itO H
      rcases H with ⟨c7, H⟩ | ⟨c7, H⟩
      ·skip
       have c7b0 := eq_true c7
       have c7b1 := decide_eq_true c7
       clear c7
       replace H := itO H
       rcases H with ⟨c8, H⟩ | ⟨c8, H⟩
       ·skip
        have c8b0 := eq_true c8
        have c8b1 := decide_eq_true c8
        clear c8
        have H' := Aside0.mk H
        clear H
        go_wp2_with (first | ((with_reducible refine gate_callee (f := 50) rfl ?_); refine goesL_ (some 10) rfl rfl Tryd.func50 (by kernel_rfl) rfl #[.string x0_1] rfl (by (try simp only [List.map_toArray, List.map_cons, List.map_nil]); first | done | rfl | (simp only [List.length_drop, List.length_take]; rfl)) ?_; (with_reducible refine (stowageref3_Step.calls k1 x0_1 t250 t251 _ A3.out).mono ?_); rintro e w' ⟨rfl, ⟨nd, rfl⟩⟩; refine ⟨_, rfl, ?_⟩) | (go_at_call 52; (with_reducible refine (stowageref3_Char.calls t250 true _ A5.out).mono ?_); rintro e w' ⟨rfl, ⟨nd, rfl⟩⟩))
        go_roundg k1
        case measure => have := HK1.out; omega
        case rel => exact ⟨(x0_1.extract (t251 : Int).toNat x0_1.size), (by first | rfl | (simp; done) | (simp [*]; done)), H', ⟨by have := HK1.out; omega⟩, by repeat (first | exact Drawn0.refl _ | apply Drawn0.step)⟩
       ·exact absurd H (by simp)
      ·exact absurd H (by simp)
     ·replace c6 := Bool.eq_false_iff.mpr c6
      subst c6
      replace H := itF H
      obtain rfl := Option.some.inj H
      go_wp2_with (first | ((with_reducible refine gate_callee (f := 50) rfl ?_); refine goesL_ (some 10) rfl rfl Tryd.func50 (by kernel_rfl) rfl #[.string x0_1] rfl (by (try simp only [List.map_toArray, List.map_cons, List.map_nil]); first | done | rfl | (simp only [List.length_drop, List.length_take]; rfl)) ?_; (with_reducible refine (stowageref3_Step.calls k1 x0_1 t250 t251 _ A3.out).mono ?_); rintro e w' ⟨rfl, ⟨nd, rfl⟩⟩; refine ⟨_, rfl, ?_⟩) | (go_at_call 52; (with_reducible refine (stowageref3_Char.calls t250 false _ A5.out).mono ?_); rintro e w' ⟨rfl, ⟨nd, rfl⟩⟩))
      go_ret
      exact ⟨by first | rfl | (simp; done) | (simp [*]; done), by repeat (first | exact Drawn0.refl _ | apply Drawn0.step)⟩
   ·skip
    have c2b0 : decide (0 < (x0_1.size : Int)) = false := decide_eq_false c2
    have c2b1 : decide (0 < x0_1.size) = false := decide_eq_false (by omega)
    clear c2
    obtain rfl := Option.some.inj H
    go_wp2
    go_ret
    exact ⟨by first | rfl | (simp; done) | (simp [*]; done), by repeat (first | exact Drawn0.refl _ | apply Drawn0.step)⟩
end Go.Proofs.YtahfaiamonadmaaDoor.Q


namespace Go.Proofs.YtahfaiamonadmaaDoor.Q
open Go.RowKit Go.Proofs.YtahfaiamonadmaaDoorW.PrintWords Go.Proofs.YtahfaiamonadmaaDoorW.PrintLast Go.Proofs.YtahfaiamonadmaaDoorW.PrintMore
set_option linter.unusedVariables false
set_option linter.unusedSimpArgs false
attribute [local go_sem] max2_int min2_int max_two min_two max_three min_three max_four min_four   
def stowagelaw3_CharsPairs.j0 : Nat → ByteArray → ByteArray → Int → Bool → Int → Int → Bool → Bool → Option (Bool)
 | 0, _, _, _, _, _, _, _, _ => none
 | k + 1, x0, x1, x5, x6, x7, x9, x10, x31 => if x31 = true then (if x10 = true then (if x9 = (wrap64 (x5 + x7)) then (if x0.size + x1.size ≤ 9223372036854775807 then ((chars_Legal.f (x0 ++ x1)).bind fun t267 => ((chars_Legal.f x0).bind fun t268 => (if t268 = true then ((chars_Legal.f x1).bind fun t269 => (if (t267 == t269) = true then ((stowagelaw3_awake.f k).bind fun t270 => (some t270)) else (some false))) else (if (t267 == false) = true then ((stowagelaw3_awake.f k).bind fun t271 => (some t271)) else (some false))))) else (none)) else (some false)) else (some false)) else (if x6 = true then (if x10 = true then (some false) else ((stowagelaw3_awake.f k).bind fun t272 => (some t272))) else ((stowagelaw3_awake.f k).bind fun t273 => (some t273)))
def stowagelaw3_CharsPairs.f (k : Nat) (a0 : ByteArray) (a1 : ByteArray) : Option (Bool) := (chars_Count.f a0).bind fun bt261 => ((chars_Count.f a1).bind fun bt263 => (if a0.size + a1.size ≤ 9223372036854775807 then ((chars_Count.f (a0 ++ a1)).bind fun bt265 => (if bt261.2 = true then (stowagelaw3_CharsPairs.j0 k a0 a1 bt261.1 bt261.2 bt263.1 bt265.1 bt265.2 bt263.2) else (stowagelaw3_CharsPairs.j0 k a0 a1 bt261.1 bt261.2 bt263.1 bt265.1 bt265.2 false))) else (none)))
theorem stowagelaw3_CharsPairs.mono_l : ∀ k, (∀ y0 y1 y2 y3 y4 y5 y6 y7, LeO (stowagelaw3_CharsPairs.j0 k y0 y1 y2 y3 y4 y5 y6 y7) (stowagelaw3_CharsPairs.j0 (k + 1) y0 y1 y2 y3 y4 y5 y6 y7))
 | 0 => fun _ _ _ _ _ _ _ _ r h => by simp [stowagelaw3_CharsPairs.j0] at h
 | k + 1 => by
  have ih0 := stowagelaw3_CharsPairs.mono_l k
  ·intro y0 y1 y2 y3 y4 y5 y6 y7
   unfold stowagelaw3_CharsPairs.j0
   repeat' first
   | (with_reducible exact ih0 _ _ _ _ _ _ _ _)
   | (with_reducible exact stowagelaw3_awake.mono _)
   | (with_reducible exact LeO.refl _)
   | (with_reducible exact LeO.none _)
   | (with_reducible refine LeO.ite ?_ ?_)
   | (with_reducible refine LeO.bind ?_ (fun _ => ?_))
   | exact ih0 _ _ _ _ _ _ _ _
   | exact stowagelaw3_awake.mono _
   | exact LeO.none _
   | refine LeO.ite ?_ ?_
   | refine LeO.bind ?_ (fun _ => ?_)
theorem stowagelaw3_CharsPairs.mono : ∀ a0 a1 k, LeO (stowagelaw3_CharsPairs.f k a0 a1) (stowagelaw3_CharsPairs.f (k + 1) a0 a1) := by
 intro a0 a1 k
 have ih0 := stowagelaw3_CharsPairs.mono_l k
 unfold stowagelaw3_CharsPairs.f
 repeat' first
   | (with_reducible exact ih0 _ _ _ _ _ _ _ _)
   | (with_reducible exact stowagelaw3_awake.mono _)
   | (with_reducible exact LeO.refl _)
   | (with_reducible exact LeO.none _)
   | (with_reducible refine LeO.ite ?_ ?_)
   | (with_reducible refine LeO.bind ?_ (fun _ => ?_))
   | exact ih0 _ _ _ _ _ _ _ _
   | exact stowagelaw3_awake.mono _
   | exact LeO.none _
   | refine LeO.ite ?_ ?_
   | refine LeO.bind ?_ (fun _ => ?_)
set_option maxHeartbeats 8000000 in
set_option maxRecDepth 100000 in
theorem stowagelaw3_CharsPairs.calls (k : Nat) (a0 : ByteArray) (a1 : ByteArray) (r : Bool) (w : World) (h : stowagelaw3_CharsPairs.f k a0 a1 = some r) (hr : r = true) :
  Calls Tryd.prog 7 #[.string a0, .string a1] w fun e w' => e = .returned (.bool r) ∧ Below w.heap.size w w' := by
 have HB := Aside0.mk (Below.refl w.heap.size w)
 unfold stowagelaw3_CharsPairs.f at h
 have H := h
 clear h
 replace H := bndO H
 obtain ⟨⟨t261, t262⟩, A30, H⟩ := H
 dsimp only at H
 have A3 := Aside0.mk A30
 clear A30
 replace H := bndO H
 obtain ⟨⟨t263, t264⟩, A40, H⟩ := H
 dsimp only at H
 have A4 := Aside0.mk A40
 clear A40
 replace H := itO H
 rcases H with ⟨c5, H⟩ | ⟨c5, H⟩
 ·skip
  have c5b0 := eq_true c5
  have c5b1 := decide_eq_true c5
  try have c5b2 := eq_false (Nat.not_lt.2 c5)
  try (have c5n : a0.size + a1.size ≤ 9223372036854775807 := by have h_ := c5; simp only [ByteArray.size_append, ByteArray.size_extract] at h_; exact h_)
  try have c5f : (9223372036854775807 < a0.size + a1.size) = False := eq_false (by first | omega | (simp only [eq_iff_iff, iff_true] at *; omega))
  replace H := bndO H
  obtain ⟨⟨t265, t266⟩, A60, H⟩ := H
  dsimp only at H
  have A6 := Aside0.mk A60
  clear A60
  have HC7 := Aside0.mk H
  clear H
  go_enter Tryd.func7, Tryd.ntmps7
  go_upto_region 4 with (first | ((with_reducible refine gate_callee (f := 21) rfl ?_); refine goesL_ (some 13) rfl rfl Tryd.func21 (by kernel_rfl) rfl #[.string a0] rfl (by (try simp only [List.map_toArray, List.map_cons, List.map_nil]); first | done | rfl | (simp only [List.length_drop, List.length_take]; rfl)) ?_; (with_reducible refine (chars_Count.calls a0 t261 t262 _ A3.out).mono ?_); rintro e w8 ⟨rfl, hb⟩; refine ⟨_, rfl, ?_⟩; have n0_ := Aside0.mk (below_step (by repeat (first | (with_reducible first | exact HB.out | apply below_alloc | apply pw_below_drewN | apply below_drew1) | exact HB.out)) hb); clear HB; have HB := n0_; clear n0_; (try clear hb); (try clear hb2); (try clear hk); (try clear hi)) | ((with_reducible refine gate_callee (f := 21) rfl ?_); refine goesL_ (some 18) rfl rfl Tryd.func21 (by kernel_rfl) rfl #[.string a1] rfl (by (try simp only [List.map_toArray, List.map_cons, List.map_nil]); first | done | rfl | (simp only [List.length_drop, List.length_take]; rfl)) ?_; (with_reducible refine (chars_Count.calls a1 t263 t264 _ A4.out).mono ?_); rintro e w9 ⟨rfl, hb⟩; refine ⟨_, rfl, ?_⟩; have n0_ := Aside0.mk (below_step (by repeat (first | (with_reducible first | exact HB.out | apply below_alloc | apply pw_below_drewN | apply below_drew1) | exact HB.out)) hb); clear HB; have HB := n0_; clear n0_; (try clear hb); (try clear hb2); (try clear hk); (try clear hi)) | ((with_reducible refine gate_callee (f := 21) rfl ?_); refine goesL_ (some 25) rfl rfl Tryd.func21 (by kernel_rfl) rfl #[.string (a0 ++ a1)] rfl (by (try simp only [List.map_toArray, List.map_cons, List.map_nil]); first | done | rfl | (simp only [List.length_drop, List.length_take]; rfl)) ?_; (with_reducible refine (chars_Count.calls (a0 ++ a1) t265 t266 _ A6.out).mono ?_); rintro e w10 ⟨rfl, hb⟩; refine ⟨_, rfl, ?_⟩; have n0_ := Aside0.mk (below_step (by repeat (first | (with_reducible first | exact HB.out | apply below_alloc | apply pw_below_drewN | apply below_drew1) | exact HB.out)) hb); clear HB; have HB := n0_; clear n0_; (try clear hb); (try clear hb2); (try clear hk); (try clear hi)))
  (try simp only [Act.put, List.setIfInBounds_toArray, List.set_cons_zero, List.set_cons_succ])
  go_cut [31] (fun v31 wc => ∃ (kq : Nat) (x31_6 : Bool), v31 = .bool x31_6 ∧ Aside0 (stowagelaw3_CharsPairs.j0 kq a0 a1 t261 t262 t263 t265 t266 x31_6 = some r) ∧ Aside0 (kq ≤ k) ∧ Aside0 (Below w.heap.size w wc))
  case first =>
   have H := HC7.out
   clear HC7
   by_cases c11 : t262 = true
   ·subst c11
    replace H := itT H
    have H' := Aside0.mk H
    clear H
    go_wp2
    go_meet
    case rel => exact ⟨_, (t264), (by first | rfl | (simp; done) | (simp [*]; done)), H', ⟨by first | omega | exact Nat.le_refl _⟩, ⟨by repeat (first | (with_reducible first | exact HB.out | apply below_alloc | apply pw_below_drewN | apply below_drew1) | exact HB.out)⟩⟩
   ·replace c11 := Bool.eq_false_iff.mpr c11
    subst c11
    replace H := itF H
    have H' := Aside0.mk H
    clear H
    go_wp2
    go_meet
    case rel => exact ⟨_, (false), (by first | rfl | (simp; done) | (simp [*]; done)), H', ⟨by first | omega | exact Nat.le_refl _⟩, ⟨by repeat (first | (with_reducible first | exact HB.out | apply below_alloc | apply pw_below_drewN | apply below_drew1) | exact HB.out)⟩⟩
  case rest =>
   clear HC7
   try clear c1
   try clear c2
   try clear p2
   try clear c5
   try clear c5b0
   try clear c5b1
   try clear c5b2
   try clear c7
   try clear c11
   obtain ⟨kq, x31_6, rfl, HA, HJ6, HB⟩ := hcut
   cases kq with
   | zero => exact absurd HA.out (by simp [stowagelaw3_CharsPairs.j0])
   | succ kj6 =>
    have H := HA.out
    clear HA
    simp only [stowagelaw3_CharsPairs.j0] at H
    by_cases c12 : x31_6 = true
    ·subst c12
     replace H := itT H
     by_cases c13 : t266 = true
     ·subst c13
      replace H := itT H
      replace H := itO H
      rcases H with ⟨c14, H⟩ | ⟨c14, H⟩
      ·skip
       have c14b0 : (t265 == (wrap64 (t261 + t263))) = true := beq_iff_eq.mpr c14
       have c14b1 : (t265 != (wrap64 (t261 + t263))) = false := bne_eq_false_iff_eq.mpr c14
       clear c14
       replace H := itO H
       rcases H with ⟨c15, H⟩ | ⟨c15, H⟩
       ·skip
        have c15b0 := eq_true c15
        have c15b1 := decide_eq_true c15
        try have c15b2 := eq_false (Nat.not_lt.2 c15)
        try (have c15n : a0.size + a1.size ≤ 9223372036854775807 := by have h_ := c15; simp only [ByteArray.size_append, ByteArray.size_extract] at h_; exact h_)
        try have c15f : (9223372036854775807 < a0.size + a1.size) = False := eq_false (by first | omega | (simp only [eq_iff_iff, iff_true] at *; omega))
        replace H := bndO H
        obtain ⟨t267, A160, H⟩ := H
        have A16 := Aside0.mk A160
        clear A160
        replace H := bndO H
        obtain ⟨t268, A170, H⟩ := H
        have A17 := Aside0.mk A170
        clear A170
        by_cases c18 : t268 = true
        ·subst c18
         replace H := itT H
         replace H := bndO H
         obtain ⟨t269, A190, H⟩ := H
         have A19 := Aside0.mk A190
         clear A190
         replace H := itO H
         rcases H with ⟨c20, H⟩ | ⟨c20, H⟩
         ·skip
          have c20b0 : (t267 == t269) = true := c20
          (try (have c20b1 : decide (t267 = t269) = true := by simpa using c20))
          (try (have c20b2 : (t267 == t269) = true := by simpa using c20))
          clear c20
          replace H := bndO H
          obtain ⟨t270, A210, H⟩ := H
          have A21 := Aside0.mk A210
          clear A210
          clear hr
          obtain rfl := Option.some.inj H
          go_wp2_with (first | (go_at_call 24; (with_reducible refine (chars_Legal.calls (a0 ++ a1) t267 _ A16.out).mono ?_); rintro e w22 ⟨rfl, hb⟩; have n0_ := Aside0.mk (below_step (by repeat (first | (with_reducible first | exact HB.out | apply below_alloc | apply pw_below_drewN | apply below_drew1) | exact HB.out)) hb); clear HB; have HB := n0_; clear n0_; (try clear hb); (try clear hb2); (try clear hk); (try clear hi)) | (go_at_call 24; (with_reducible refine (chars_Legal.calls a0 true _ A17.out).mono ?_); rintro e w23 ⟨rfl, hb⟩; have n0_ := Aside0.mk (below_step (by repeat (first | (with_reducible first | exact HB.out | apply below_alloc | apply pw_below_drewN | apply below_drew1) | exact HB.out)) hb); clear HB; have HB := n0_; clear n0_; (try clear hb); (try clear hb2); (try clear hk); (try clear hi)) | (go_at_call 24; (with_reducible refine (chars_Legal.calls a1 t269 _ A19.out).mono ?_); rintro e w24 ⟨rfl, hb⟩; have n0_ := Aside0.mk (below_step (by repeat (first | (with_reducible first | exact HB.out | apply below_alloc | apply pw_below_drewN | apply below_drew1) | exact HB.out)) hb); clear HB; have HB := n0_; clear n0_; (try clear hb); (try clear hb2); (try clear hk); (try clear hi)) | (go_at_call 13; (with_reducible refine (stowagelaw3_awake.calls kj6  t270 _ A21.out).mono ?_); rintro e w25 ⟨rfl, hb⟩; have n0_ := Aside0.mk (below_step (by repeat (first | (with_reducible first | exact HB.out | apply below_alloc | apply pw_below_drewN | apply below_drew1) | exact HB.out)) hb); clear HB; have HB := n0_; clear n0_; (try clear hb); (try clear hb2); (try clear hk); (try clear hi)))
          go_ret
          exact ⟨by first | rfl | (simp [errW_none, errW_some] <;> rfl) | (simp [*, errW_none, errW_some] <;> rfl), by repeat (first | (with_reducible first | exact HB.out | apply below_alloc | apply pw_below_drewN | apply below_drew1) | exact HB.out)⟩
         ·skip
          have c20b0 : (t267 == t269) = false := by simpa using c20
          (try (have c20b1 : decide (t267 = t269) = false := by simpa using c20))
          (try (have c20b2 : (t267 == t269) = false := by simpa using c20))
          (try (have c20b3 : ¬ (t267 = t269) := by simpa using c20))
          clear c20
          rw [hr] at H
          exact absurd H (by simp)
        ·replace c18 := Bool.eq_false_iff.mpr c18
         subst c18
         replace H := itF H
         replace H := itO H
         rcases H with ⟨c26, H⟩ | ⟨c26, H⟩
         ·skip
          have c26b0 : (t267 == false) = true := c26
          (try (have c26b1 : decide (t267 = false) = true := by simpa using c26))
          (try (have c26b2 : (t267 == false) = true := by simpa using c26))
          clear c26
          replace H := bndO H
          obtain ⟨t271, A270, H⟩ := H
          have A27 := Aside0.mk A270
          clear A270
          clear hr
          obtain rfl := Option.some.inj H
          go_wp2_with (first | (go_at_call 24; (with_reducible refine (chars_Legal.calls (a0 ++ a1) t267 _ A16.out).mono ?_); rintro e w28 ⟨rfl, hb⟩; have n0_ := Aside0.mk (below_step (by repeat (first | (with_reducible first | exact HB.out | apply below_alloc | apply pw_below_drewN | apply below_drew1) | exact HB.out)) hb); clear HB; have HB := n0_; clear n0_; (try clear hb); (try clear hb2); (try clear hk); (try clear hi)) | (go_at_call 24; (with_reducible refine (chars_Legal.calls a0 false _ A17.out).mono ?_); rintro e w29 ⟨rfl, hb⟩; have n0_ := Aside0.mk (below_step (by repeat (first | (with_reducible first | exact HB.out | apply below_alloc | apply pw_below_drewN | apply below_drew1) | exact HB.out)) hb); clear HB; have HB := n0_; clear n0_; (try clear hb); (try clear hb2); (try clear hk); (try clear hi)) | (go_at_call 13; (with_reducible refine (stowagelaw3_awake.calls kj6  t271 _ A27.out).mono ?_); rintro e w30 ⟨rfl, hb⟩; have n0_ := Aside0.mk (below_step (by repeat (first | (with_reducible first | exact HB.out | apply below_alloc | apply pw_below_drewN | apply below_drew1) | exact HB.out)) hb); clear HB; have HB := n0_; clear n0_; (try clear hb); (try clear hb2); (try clear hk); (try clear hi)))
          go_ret
          exact ⟨by first | rfl | (simp [errW_none, errW_some] <;> rfl) | (simp [*, errW_none, errW_some] <;> rfl), by repeat (first | (with_reducible first | exact HB.out | apply below_alloc | apply pw_below_drewN | apply below_drew1) | exact HB.out)⟩
         ·skip
          have c26b0 : (t267 == false) = false := by simpa using c26
          (try (have c26b1 : decide (t267 = false) = false := by simpa using c26))
          (try (have c26b2 : (t267 == false) = false := by simpa using c26))
          (try (have c26b3 : ¬ (t267 = false) := by simpa using c26))
          clear c26
          rw [hr] at H
          exact absurd H (by simp)
       ·exact absurd H (by simp)
      ·skip
       have c14b0 : (t265 == (wrap64 (t261 + t263))) = false := beq_eq_false_iff_ne.mpr c14
       have c14b1 : (t265 != (wrap64 (t261 + t263))) = true := bne_iff_ne.mpr c14
       rw [hr] at H
       exact absurd H (by simp)
     ·replace c13 := Bool.eq_false_iff.mpr c13
      subst c13
      replace H := itF H
      rw [hr] at H
      exact absurd H (by simp)
    ·replace c12 := Bool.eq_false_iff.mpr c12
     subst c12
     replace H := itF H
     by_cases c31 : t262 = true
     ·subst c31
      replace H := itT H
      by_cases c32 : t266 = true
      ·subst c32
       replace H := itT H
       rw [hr] at H
       exact absurd H (by simp)
      ·replace c32 := Bool.eq_false_iff.mpr c32
       subst c32
       replace H := itF H
       replace H := bndO H
       obtain ⟨t272, A330, H⟩ := H
       have A33 := Aside0.mk A330
       clear A330
       clear hr
       obtain rfl := Option.some.inj H
       go_wp2_with (first | (go_at_call 13; (with_reducible refine (stowagelaw3_awake.calls kj6  t272 _ A33.out).mono ?_); rintro e w34 ⟨rfl, hb⟩; have n0_ := Aside0.mk (below_step (by repeat (first | (with_reducible first | exact HB.out | apply below_alloc | apply pw_below_drewN | apply below_drew1) | exact HB.out)) hb); clear HB; have HB := n0_; clear n0_; (try clear hb); (try clear hb2); (try clear hk); (try clear hi)))
       go_ret
       exact ⟨by first | rfl | (simp [errW_none, errW_some] <;> rfl) | (simp [*, errW_none, errW_some] <;> rfl), by repeat (first | (with_reducible first | exact HB.out | apply below_alloc | apply pw_below_drewN | apply below_drew1) | exact HB.out)⟩
     ·replace c31 := Bool.eq_false_iff.mpr c31
      subst c31
      replace H := itF H
      replace H := bndO H
      obtain ⟨t273, A350, H⟩ := H
      have A35 := Aside0.mk A350
      clear A350
      clear hr
      obtain rfl := Option.some.inj H
      go_wp2_with (first | (go_at_call 13; (with_reducible refine (stowagelaw3_awake.calls kj6  t273 _ A35.out).mono ?_); rintro e w36 ⟨rfl, hb⟩; have n0_ := Aside0.mk (below_step (by repeat (first | (with_reducible first | exact HB.out | apply below_alloc | apply pw_below_drewN | apply below_drew1) | exact HB.out)) hb); clear HB; have HB := n0_; clear n0_; (try clear hb); (try clear hb2); (try clear hk); (try clear hi)))
      go_ret
      exact ⟨by first | rfl | (simp [errW_none, errW_some] <;> rfl) | (simp [*, errW_none, errW_some] <;> rfl), by repeat (first | (with_reducible first | exact HB.out | apply below_alloc | apply pw_below_drewN | apply below_drew1) | exact HB.out)⟩
 ·exact absurd H (by simp)
def stowagelaw3_CharsPairs.Pure : Prop := ∀ (a0 : ByteArray) (a1 : ByteArray), a0.size ≤ 140737488351232 → a1.size ≤ 140737488351232 → ∃ k, stowagelaw3_CharsPairs.f k a0 a1 = some true
theorem stowagelaw3_CharsPairs.walk (P : stowagelaw3_CharsPairs.Pure) (a0 : ByteArray) (a1 : ByteArray) (w : World) (w0 : a0.size ≤ 140737488351232) (w1 : a1.size ≤ 140737488351232) :
  Calls Tryd.prog 7 #[.string a0, .string a1] w fun e w' => e = .returned (.bool true) ∧ Below w.heap.size w w' := by
 obtain ⟨k, h⟩ := P a0 a1 w0 w1
 refine (stowagelaw3_CharsPairs.calls k a0 a1 true w h rfl).mono ?_
 rintro e w' ⟨rfl, hd⟩
 exact ⟨rfl, hd⟩
end Go.Proofs.YtahfaiamonadmaaDoor.Q
