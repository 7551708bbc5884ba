/- A part of the proof of the seat's laws. No condition beyond those in the theorems. -/
import Derived.Test.YtahfaiamonadmaaDoorZQ0g2
import Derived.Test.YtahfaiamonadmaaDoorZQ63
import Derived.Test.YtahfaiamonadmaaDoorZQ42g4
import Derived.Test.YtahfaiamonadmaaDoorZQ36
import Derived.Test.YtahfaiamonadmaaDoorZQ40g2
import Derived.Test.YtahfaiamonadmaaDoorZQ60
import Derived.Test.YtahfaiamonadmaaDoorZQ61g2
import Derived.Lib.Hide
import Derived.Lib.OthersKept
import Derived.Test.YtahfaiamonadmaaDoorZQ37g3

namespace Go.Proofs.YtahfaiamonadmaaDoor.Q
open Go.RowKit Go.Proofs.YtahfaiamonadmaaDoorW.PrintWords Go.Proofs.YtahfaiamonadmaaDoorW.PrintLast Go.Proofs.YtahfaiamonadmaaDoorW.PrintMore
set_option linter.unusedVariables false
set_option linter.unusedSimpArgs false
attribute [local go_sem] max2_int min2_int max_two min_two max_three min_three max_four min_four   
def stowageref3_Count.l0 : Nat → ByteArray → Int → Option (Int × Bool)
 | 0, _, _ => none
 | k + 1, x0, x4 => if (x0.size : Int) > 0 then ((stowageref3_Step.f k x0).bind fun bt239 => (if bt239.2 = 0 then (some (0, false)) else (if 0 ≤ bt239.2 then (if bt239.2 ≤ (x0.size : Int) then (stowageref3_Count.l0 k (x0.extract (bt239.2 : Int).toNat x0.size) (wrap64 (x4 + 1))) else (none)) else (none)))) else (some (x4, true))
def stowageref3_Count.f (k : Nat) (a0 : ByteArray) : Option (Int × Bool) := stowageref3_Count.l0 k a0 0
theorem stowageref3_Count.mono_l : ∀ k, (∀ y0 y1, LeO (stowageref3_Count.l0 k y0 y1) (stowageref3_Count.l0 (k + 1) y0 y1))
 | 0 => fun _ _ r h => by simp [stowageref3_Count.l0] at h
 | k + 1 => by
  have ih0 := stowageref3_Count.mono_l k
  ·intro y0 y1
   unfold stowageref3_Count.l0
   repeat' first
   | (with_reducible exact ih0 _ _)
   | (with_reducible exact stowageref3_Step.mono _ _)
   | (with_reducible exact LeO.refl _)
   | (with_reducible exact LeO.none _)
   | (with_reducible refine LeO.ite ?_ ?_)
   | (with_reducible refine LeO.bind ?_ (fun _ => ?_))
   | exact ih0 _ _
   | exact stowageref3_Step.mono _ _
   | exact LeO.none _
   | refine LeO.ite ?_ ?_
   | refine LeO.bind ?_ (fun _ => ?_)
theorem stowageref3_Count.mono : ∀ a0 k, LeO (stowageref3_Count.f k a0) (stowageref3_Count.f (k + 1) a0) := by
 intro a0 k
 have ih0 := stowageref3_Count.mono_l k
 unfold stowageref3_Count.f
 repeat' first
   | (with_reducible exact ih0 _ _)
   | (with_reducible exact stowageref3_Step.mono _ _)
   | (with_reducible exact LeO.refl _)
   | (with_reducible exact LeO.none _)
   | (with_reducible refine LeO.ite ?_ ?_)
   | (with_reducible refine LeO.bind ?_ (fun _ => ?_))
   | exact ih0 _ _
   | exact stowageref3_Step.mono _ _
   | exact LeO.none _
   | refine LeO.ite ?_ ?_
   | refine LeO.bind ?_ (fun _ => ?_)
set_option maxHeartbeats 8000000 in
set_option maxRecDepth 100000 in
theorem stowageref3_Count.calls (k : Nat) (a0 : ByteArray) (r1 : Int) (r2 : Bool) (w : World) (h : stowageref3_Count.f k a0 = some (r1, r2)) :
  Calls Tryd.prog 22 #[.string a0] w fun e w' => e = .returned (.tuple #[.int .i64 r1, .bool r2]) ∧ Drawn0 w w' := by
 unfold stowageref3_Count.f at h
 have H := h
 clear h
 have H' := Aside0.mk H
 clear H
 go_enter Tryd.func22, Tryd.ntmps22
 go_wp2
 go_loopg [0, 4] k (fun kq v0 v4 w' => ∃ (x0_1 : ByteArray) (x4_1 : Int), v0 = .string x0_1 ∧ v4 = .int .i64 x4_1 ∧ Aside0 (stowageref3_Count.l0 kq x0_1 x4_1 = some (r1, r2)) ∧ Aside0 (kq ≤ k) ∧ Drawn0 w w')
 case atStart => exact ⟨(a0), (0), (by first | rfl | (simp; done) | (simp [*]; done)), (by first | rfl | (simp; done) | (simp [*]; done)), H', ⟨Nat.le_refl _⟩, by repeat (first | exact Drawn0.refl _ | apply Drawn0.step)⟩
 case round =>
  clear H'
  obtain ⟨x0_1, x4_1, rfl, rfl, HA, HK1, ⟨m1, rfl⟩⟩ := hrel
  cases gk with
  | zero => exact absurd HA.out (by simp [stowageref3_Count.l0])
  | succ k1 =>
   have H := HA.out
   clear HA
   simp only [stowageref3_Count.l0] at H
   replace H := itO H
   rcases H with ⟨c2, H⟩ | ⟨c2, H⟩
   ·skip
    have c2b0 : decide (0 < (x0_1.size : Int)) = true := decide_eq_true c2
    have c2b1 : decide (0 < x0_1.size) = true := decide_eq_true (by omega)
    clear c2
    replace H := bndO H
    obtain ⟨⟨t239, t240⟩, A30, H⟩ := H
    dsimp only at H
    have A3 := Aside0.mk A30
    clear A30
    replace H := itO H
    rcases H with ⟨c4, H⟩ | ⟨c4, H⟩
    ·skip
     have c4b0 : (t240 == 0) = true := beq_iff_eq.mpr c4
     have c4b1 : (t240 != 0) = false := bne_eq_false_iff_eq.mpr c4
     clear c4
     simp only [Option.some.injEq, Prod.mk.injEq] at H
     obtain ⟨rfl, rfl⟩ := H
     go_wp2_with (first | ((with_reducible refine gate_callee (f := 50) rfl ?_); refine goesL_ (some 12) rfl rfl Tryd.func50 (by kernel_rfl) rfl #[.string x0_1] rfl (by (try simp only [List.map_toArray, List.map_cons, List.map_nil]); first | done | rfl | (simp only [List.length_drop, List.length_take]; rfl)) ?_; (with_reducible refine (stowageref3_Step.calls k1 x0_1 t239 t240 _ A3.out).mono ?_); rintro e w' ⟨rfl, ⟨nd, rfl⟩⟩; refine ⟨_, rfl, ?_⟩))
     go_ret2
     exact ⟨by first | rfl | (simp; done) | (simp [*]; done), by repeat (first | exact Drawn0.refl _ | apply Drawn0.step)⟩
    ·skip
     have c4b0 : (t240 == 0) = false := beq_eq_false_iff_ne.mpr c4
     have c4b1 : (t240 != 0) = true := bne_iff_ne.mpr c4
     replace H := itO H
     rcases H with ⟨c5, H⟩ | ⟨c5, H⟩
     ·skip
      have c5b0 := eq_true c5
      have c5b1 := decide_eq_true c5
      clear c5
      replace H := itO H
      rcases H with ⟨c6, H⟩ | ⟨c6, H⟩
      ·skip
       have c6b0 := eq_true c6
       have c6b1 := decide_eq_true c6
       clear c6
       have H' := Aside0.mk H
       clear H
       go_wp2_with (first | ((with_reducible refine gate_callee (f := 50) rfl ?_); refine goesL_ (some 12) rfl rfl Tryd.func50 (by kernel_rfl) rfl #[.string x0_1] rfl (by (try simp only [List.map_toArray, List.map_cons, List.map_nil]); first | done | rfl | (simp only [List.length_drop, List.length_take]; rfl)) ?_; (with_reducible refine (stowageref3_Step.calls k1 x0_1 t239 t240 _ A3.out).mono ?_); rintro e w' ⟨rfl, ⟨nd, rfl⟩⟩; refine ⟨_, rfl, ?_⟩))
       go_roundg k1
       case measure => have := HK1.out; omega
       case rel => exact ⟨(x0_1.extract (t240 : Int).toNat x0_1.size), (wrap64 (x4_1 + 1)), (by first | rfl | (simp; done) | (simp [*]; done)), (by first | rfl | (simp; done) | (simp [*]; done)), H', ⟨by have := HK1.out; omega⟩, by repeat (first | exact Drawn0.refl _ | apply Drawn0.step)⟩
      ·exact absurd H (by simp)
     ·exact absurd H (by simp)
   ·skip
    have c2b0 : decide (0 < (x0_1.size : Int)) = false := decide_eq_false c2
    have c2b1 : decide (0 < x0_1.size) = false := decide_eq_false (by omega)
    clear c2
    simp only [Option.some.injEq, Prod.mk.injEq] at H
    obtain ⟨rfl, rfl⟩ := H
    go_wp2
    go_ret2
    exact ⟨by first | rfl | (simp; done) | (simp [*]; done), by repeat (first | exact Drawn0.refl _ | apply Drawn0.step)⟩
end Go.Proofs.YtahfaiamonadmaaDoor.Q


namespace Go.Proofs.YtahfaiamonadmaaDoor.Q
open Go.RowKit Go.Proofs.YtahfaiamonadmaaDoorW.PrintWords Go.Proofs.YtahfaiamonadmaaDoorW.PrintLast Go.Proofs.YtahfaiamonadmaaDoorW.PrintMore
set_option linter.unusedVariables false
set_option linter.unusedSimpArgs false
attribute [local go_sem] max2_int min2_int max_two min_two max_three min_three max_four min_four   
def stowageref3_Valid.f (k : Nat) (a0 : ByteArray) : Option (Bool) := (stowageref3_Count.f k a0).bind fun bt241 => (some bt241.2)
theorem stowageref3_Valid.mono : ∀ a0 k, LeO (stowageref3_Valid.f k a0) (stowageref3_Valid.f (k + 1) a0) := by
 intro a0 k
 unfold stowageref3_Valid.f
 repeat' first
   | (with_reducible exact stowageref3_Count.mono _ _)
   | (with_reducible exact LeO.refl _)
   | (with_reducible exact LeO.none _)
   | (with_reducible refine LeO.ite ?_ ?_)
   | (with_reducible refine LeO.bind ?_ (fun _ => ?_))
   | exact stowageref3_Count.mono _ _
   | exact LeO.none _
   | refine LeO.ite ?_ ?_
   | refine LeO.bind ?_ (fun _ => ?_)
set_option maxHeartbeats 8000000 in
set_option maxRecDepth 100000 in
theorem stowageref3_Valid.calls (k : Nat) (a0 : ByteArray) (r : Bool) (w : World) (h : stowageref3_Valid.f k a0 = some r) :
  Calls Tryd.prog 48 #[.string a0] w fun e w' => e = .returned (.bool r) ∧ Drawn0 w w' := by
 unfold stowageref3_Valid.f at h
 have H := h
 clear h
 replace H := bndO H
 obtain ⟨⟨t241, t242⟩, A20, H⟩ := H
 dsimp only at H
 have A2 := Aside0.mk A20
 clear A20
 obtain rfl := Option.some.inj H
 go_enter Tryd.func48, Tryd.ntmps48
 go_wp2_with (first | ((with_reducible refine gate_callee (f := 22) rfl ?_); refine goesL_ (some 7) rfl rfl Tryd.func22 (by kernel_rfl) rfl #[.string a0] rfl (by (try simp only [List.map_toArray, List.map_cons, List.map_nil]); first | done | rfl | (simp only [List.length_drop, List.length_take]; rfl)) ?_; (with_reducible refine (stowageref3_Count.calls k a0 t241 t242 _ A2.out).mono ?_); rintro e w' ⟨rfl, ⟨nd, rfl⟩⟩; refine ⟨_, rfl, ?_⟩))
 go_ret
 exact ⟨by first | rfl | (simp; done) | (simp [*]; done), by repeat (first | exact Drawn0.refl _ | apply Drawn0.step)⟩
end Go.Proofs.YtahfaiamonadmaaDoor.Q


namespace Go.Proofs.YtahfaiamonadmaaDoor.Q
open Go.RowKit Go.Proofs.YtahfaiamonadmaaDoorW.PrintWords Go.Proofs.YtahfaiamonadmaaDoorW.PrintLast Go.Proofs.YtahfaiamonadmaaDoorW.PrintMore
set_option linter.unusedVariables false
set_option linter.unusedSimpArgs false
attribute [local go_sem] max2_int min2_int max_two min_two max_three min_three max_four min_four   
def stowageref3_Key.f (k : Nat) (a0 : ByteArray) : Option (Bool) := (stowageref3_Valid.f k a0).bind fun t243 => (if t243 = true then (if (a0.size : Int) ≥ 1 then (if (a0.size : Int) ≤ 1024 then ((stowageref3_in.f k a0 0).bind fun t244 => (some (!t244))) else (some false)) else (some false)) else (some false))
theorem stowageref3_Key.mono : ∀ a0 k, LeO (stowageref3_Key.f k a0) (stowageref3_Key.f (k + 1) a0) := by
 intro a0 k
 unfold stowageref3_Key.f
 repeat' first
   | (with_reducible exact stowageref3_Valid.mono _ _)
   | (with_reducible exact stowageref3_in.mono _ _ _)
   | (with_reducible exact LeO.refl _)
   | (with_reducible exact LeO.none _)
   | (with_reducible refine LeO.ite ?_ ?_)
   | (with_reducible refine LeO.bind ?_ (fun _ => ?_))
   | exact stowageref3_Valid.mono _ _
   | exact stowageref3_in.mono _ _ _
   | exact LeO.none _
   | refine LeO.ite ?_ ?_
   | refine LeO.bind ?_ (fun _ => ?_)
set_option maxHeartbeats 8000000 in
set_option maxRecDepth 100000 in
theorem stowageref3_Key.calls (k : Nat) (a0 : ByteArray) (r : Bool) (w : World) (h : stowageref3_Key.f k a0 = some r) :
  Calls Tryd.prog 20 #[.string a0] w fun e w' => e = .returned (.bool r) ∧ Drawn0 w w' := by
 unfold stowageref3_Key.f at h
 have H := h
 clear h
 replace H := bndO H
 obtain ⟨t243, A20, H⟩ := H
 have A2 := Aside0.mk A20
 clear A20
 by_cases c3 : t243 = true
 ·subst c3
  replace H := itT H
  replace H := itO H
  rcases H with ⟨c4, H⟩ | ⟨c4, H⟩
  ·skip
   have c4b0 : decide (1 ≤ (a0.size : Int)) = true := decide_eq_true c4
   have c4b1 : decide (1 ≤ a0.size) = true := decide_eq_true (by omega)
   clear c4
   replace H := itO H
   rcases H with ⟨c5, H⟩ | ⟨c5, H⟩
   ·skip
    have c5b0 : decide ((a0.size : Int) ≤ 1024) = true := decide_eq_true c5
    have c5b1 : decide (a0.size ≤ 1024) = true := decide_eq_true (by omega)
    clear c5
    replace H := bndO H
    obtain ⟨t244, A60, H⟩ := H
    have A6 := Aside0.mk A60
    clear A60
    obtain rfl := Option.some.inj H
    go_enter Tryd.func20, Tryd.ntmps20
    go_wp2_with (first | ((with_reducible refine gate_callee (f := 48) rfl ?_); refine goesL_ (some 4) rfl rfl Tryd.func48 (by kernel_rfl) rfl #[.string a0] rfl (by (try simp only [List.map_toArray, List.map_cons, List.map_nil]); first | done | rfl | (simp only [List.length_drop, List.length_take]; rfl)) ?_; (with_reducible refine (stowageref3_Valid.calls k a0 true _ A2.out).mono ?_); rintro e w' ⟨rfl, ⟨nd, rfl⟩⟩; refine ⟨_, rfl, ?_⟩) | (go_at_call 44; (with_reducible refine (stowageref3_in.calls k a0 0 t244 _ A6.out).mono ?_); rintro e w' ⟨rfl, ⟨nd, rfl⟩⟩))
    go_ret
    exact ⟨by first | rfl | (simp; done) | (simp [*]; done), by repeat (first | exact Drawn0.refl _ | apply Drawn0.step)⟩
   ·skip
    have c5b0 : decide ((a0.size : Int) ≤ 1024) = false := decide_eq_false c5
    have c5b1 : decide (a0.size ≤ 1024) = false := decide_eq_false (by omega)
    clear c5
    obtain rfl := Option.some.inj H
    go_enter Tryd.func20, Tryd.ntmps20
    go_wp2_with (first | ((with_reducible refine gate_callee (f := 48) rfl ?_); refine goesL_ (some 4) rfl rfl Tryd.func48 (by kernel_rfl) rfl #[.string a0] rfl (by (try simp only [List.map_toArray, List.map_cons, List.map_nil]); first | done | rfl | (simp only [List.length_drop, List.length_take]; rfl)) ?_; (with_reducible refine (stowageref3_Valid.calls k a0 true _ A2.out).mono ?_); rintro e w' ⟨rfl, ⟨nd, rfl⟩⟩; refine ⟨_, rfl, ?_⟩))
    go_ret
    exact ⟨by first | rfl | (simp; done) | (simp [*]; done), by repeat (first | exact Drawn0.refl _ | apply Drawn0.step)⟩
  ·skip
   have c4b0 : decide (1 ≤ (a0.size : Int)) = false := decide_eq_false c4
   have c4b1 : decide (1 ≤ a0.size) = false := decide_eq_false (by omega)
   clear c4
   obtain rfl := Option.some.inj H
   go_enter Tryd.func20, Tryd.ntmps20
   go_wp2_with (first | ((with_reducible refine gate_callee (f := 48) rfl ?_); refine goesL_ (some 4) rfl rfl Tryd.func48 (by kernel_rfl) rfl #[.string a0] rfl (by (try simp only [List.map_toArray, List.map_cons, List.map_nil]); first | done | rfl | (simp only [List.length_drop, List.length_take]; rfl)) ?_; (with_reducible refine (stowageref3_Valid.calls k a0 true _ A2.out).mono ?_); rintro e w' ⟨rfl, ⟨nd, rfl⟩⟩; refine ⟨_, rfl, ?_⟩))
   go_ret
   exact ⟨by first | rfl | (simp; done) | (simp [*]; done), by repeat (first | exact Drawn0.refl _ | apply Drawn0.step)⟩
 ·replace c3 := Bool.eq_false_iff.mpr c3
  subst c3
  replace H := itF H
  obtain rfl := Option.some.inj H
  go_enter Tryd.func20, Tryd.ntmps20
  go_wp2_with (first | ((with_reducible refine gate_callee (f := 48) rfl ?_); refine goesL_ (some 4) rfl rfl Tryd.func48 (by kernel_rfl) rfl #[.string a0] rfl (by (try simp only [List.map_toArray, List.map_cons, List.map_nil]); first | done | rfl | (simp only [List.length_drop, List.length_take]; rfl)) ?_; (with_reducible refine (stowageref3_Valid.calls k a0 false _ A2.out).mono ?_); rintro e w' ⟨rfl, ⟨nd, rfl⟩⟩; refine ⟨_, rfl, ?_⟩))
  go_ret
  exact ⟨by first | rfl | (simp; done) | (simp [*]; done), by repeat (first | exact Drawn0.refl _ | apply Drawn0.step)⟩
end Go.Proofs.YtahfaiamonadmaaDoor.Q


namespace Go.Proofs.YtahfaiamonadmaaDoor.Q
open Go.RowKit Go.Proofs.YtahfaiamonadmaaDoorW.PrintWords Go.Proofs.YtahfaiamonadmaaDoorW.PrintLast Go.Proofs.YtahfaiamonadmaaDoorW.PrintMore
set_option linter.unusedVariables false
set_option linter.unusedSimpArgs false
attribute [local go_sem] max2_int min2_int max_two min_two max_three min_three max_four min_four   
def stowagelaw3_CharsNames.f (k : Nat) (a0 : ByteArray) : Option (Bool) := (chars_Bucket.f k a0).bind fun t245 => ((stowageref3_Bucket.f k a0).bind fun t246 => (if (t245 == t246) = true then ((chars_Key.f a0).bind fun t247 => ((stowageref3_Key.f k a0).bind fun t248 => (if (t247 == t248) = true then ((stowagelaw3_awake.f k).bind fun t249 => (some t249)) else (some false)))) else (some false)))
theorem stowagelaw3_CharsNames.mono : ∀ a0 k, LeO (stowagelaw3_CharsNames.f k a0) (stowagelaw3_CharsNames.f (k + 1) a0) := by
 intro a0 k
 unfold stowagelaw3_CharsNames.f
 repeat' first
   | (with_reducible exact chars_Bucket.mono _ _)
   | (with_reducible exact stowagelaw3_awake.mono _)
   | (with_reducible exact stowageref3_Bucket.mono _ _)
   | (with_reducible exact stowageref3_Key.mono _ _)
   | (with_reducible exact LeO.refl _)
   | (with_reducible exact LeO.none _)
   | (with_reducible refine LeO.ite ?_ ?_)
   | (with_reducible refine LeO.bind ?_ (fun _ => ?_))
   | exact chars_Bucket.mono _ _
   | exact stowagelaw3_awake.mono _
   | exact stowageref3_Bucket.mono _ _
   | exact stowageref3_Key.mono _ _
   | exact LeO.none _
   | refine LeO.ite ?_ ?_
   | refine LeO.bind ?_ (fun _ => ?_)
set_option maxHeartbeats 8000000 in
set_option maxRecDepth 100000 in
theorem stowagelaw3_CharsNames.calls (k : Nat) (a0 : ByteArray) (r : Bool) (w : World) (h : stowagelaw3_CharsNames.f k a0 = some r) (hr : r = true) :
  Calls Tryd.prog 5 #[.string a0] w fun e w' => e = .returned (.bool r) ∧ Below w.heap.size w w' := by
 have HB := Aside0.mk (Below.refl w.heap.size w)
 unfold stowagelaw3_CharsNames.f at h
 have H := h
 clear h
 replace H := bndO H
 obtain ⟨t245, A20, H⟩ := H
 have A2 := Aside0.mk A20
 clear A20
 replace H := bndO H
 obtain ⟨t246, A30, H⟩ := H
 have A3 := Aside0.mk A30
 clear A30
 replace H := itO H
 rcases H with ⟨c4, H⟩ | ⟨c4, H⟩
 ·skip
  have c4b0 : (t245 == t246) = true := c4
  (try (have c4b1 : decide (t245 = t246) = true := by simpa using c4))
  (try (have c4b2 : (t245 == t246) = true := by simpa using c4))
  clear c4
  replace H := bndO H
  obtain ⟨t247, A50, H⟩ := H
  have A5 := Aside0.mk A50
  clear A50
  replace H := bndO H
  obtain ⟨t248, A60, H⟩ := H
  have A6 := Aside0.mk A60
  clear A60
  replace H := itO H
  rcases H with ⟨c7, H⟩ | ⟨c7, H⟩
  ·skip
   have c7b0 : (t247 == t248) = true := c7
   (try (have c7b1 : decide (t247 = t248) = true := by simpa using c7))
   (try (have c7b2 : (t247 == t248) = true := by simpa using c7))
   clear c7
   replace H := bndO H
   obtain ⟨t249, A80, H⟩ := H
   have A8 := Aside0.mk A80
   clear A80
   clear hr
   obtain rfl := Option.some.inj H
   go_enter Tryd.func5, Tryd.ntmps5
   go_wp2_with (first | ((with_reducible refine gate_callee (f := 17) rfl ?_); refine goesL_ (some 4) rfl rfl Tryd.func17 (by kernel_rfl) rfl #[.string a0] rfl (by (try simp only [List.map_toArray, List.map_cons, List.map_nil]); first | done | rfl | (simp only [List.length_drop, List.length_take]; rfl)) ?_; (with_reducible refine (chars_Bucket.calls k a0 t245 _ A2.out).mono ?_); rintro e w9 ⟨rfl, hb⟩; refine ⟨_, rfl, ?_⟩; have n0_ := Aside0.mk (below_step (by repeat (first | (with_reducible first | exact HB.out | apply below_alloc | apply pw_below_drewN | apply below_drew1) | exact HB.out)) hb); clear HB; have HB := n0_; clear n0_; (try clear hb); (try clear hb2); (try clear hk); (try clear hi)) | ((with_reducible refine gate_callee (f := 18) rfl ?_); refine goesL_ (some 6) rfl rfl Tryd.func18 (by kernel_rfl) rfl #[.string a0] rfl (by (try simp only [List.map_toArray, List.map_cons, List.map_nil]); first | done | rfl | (simp only [List.length_drop, List.length_take]; rfl)) ?_; (with_reducible refine (stowageref3_Bucket.calls k a0 t246 _ A3.out).mono ?_); rintro e w10 ⟨rfl, hb⟩; refine ⟨_, rfl, ?_⟩; have n0_ := Aside0.mk (below_step (by repeat (first | (with_reducible first | exact HB.out | apply below_alloc | apply pw_below_drewN | apply below_drew1) | exact HB.out)) hb); clear HB; have HB := n0_; clear n0_; (try clear hb); (try clear hb2); (try clear hk); (try clear hi)) | (go_at_call 19; (with_reducible refine (chars_Key.calls a0 t247 _ A5.out).mono ?_); rintro e w11 ⟨rfl, hb⟩; have n0_ := Aside0.mk (below_step (by repeat (first | (with_reducible first | exact HB.out | apply below_alloc | apply pw_below_drewN | apply below_drew1) | exact HB.out)) hb); clear HB; have HB := n0_; clear n0_; (try clear hb); (try clear hb2); (try clear hk); (try clear hi)) | (go_at_call 20; (with_reducible refine (stowageref3_Key.calls k a0 t248 _ A6.out).mono ?_); rintro e w' ⟨rfl, ⟨nd, rfl⟩⟩) | (go_at_call 13; (with_reducible refine (stowagelaw3_awake.calls k  t249 _ A8.out).mono ?_); rintro e w12 ⟨rfl, hb⟩; have n0_ := Aside0.mk (below_step (by repeat (first | (with_reducible first | exact HB.out | apply below_alloc | apply pw_below_drewN | apply below_drew1) | exact HB.out)) hb); clear HB; have HB := n0_; clear n0_; (try clear hb); (try clear hb2); (try clear hk); (try clear hi)))
   go_ret
   exact ⟨by first | rfl | (simp [errW_none, errW_some] <;> rfl) | (simp [*, errW_none, errW_some] <;> rfl), by repeat (first | (with_reducible first | exact HB.out | apply below_alloc | apply pw_below_drewN | apply below_drew1) | exact HB.out)⟩
  ·skip
   have c7b0 : (t247 == t248) = false := by simpa using c7
   (try (have c7b1 : decide (t247 = t248) = false := by simpa using c7))
   (try (have c7b2 : (t247 == t248) = false := by simpa using c7))
   (try (have c7b3 : ¬ (t247 = t248) := by simpa using c7))
   clear c7
   rw [hr] at H
   exact absurd H (by simp)
 ·skip
  have c4b0 : (t245 == t246) = false := by simpa using c4
  (try (have c4b1 : decide (t245 = t246) = false := by simpa using c4))
  (try (have c4b2 : (t245 == t246) = false := by simpa using c4))
  (try (have c4b3 : ¬ (t245 = t246) := by simpa using c4))
  clear c4
  rw [hr] at H
  exact absurd H (by simp)
def stowagelaw3_CharsNames.Pure : Prop := ∀ (a0 : ByteArray), a0.size ≤ 140737488351232 → ∃ k, stowagelaw3_CharsNames.f k a0 = some true
theorem stowagelaw3_CharsNames.walk (P : stowagelaw3_CharsNames.Pure) (a0 : ByteArray) (w : World) (w0 : a0.size ≤ 140737488351232) :
  Calls Tryd.prog 5 #[.string a0] w fun e w' => e = .returned (.bool true) ∧ Below w.heap.size w w' := by
 obtain ⟨k, h⟩ := P a0 w0
 refine (stowagelaw3_CharsNames.calls k a0 true w h rfl).mono ?_
 rintro e w' ⟨rfl, hd⟩
 exact ⟨rfl, hd⟩
end Go.Proofs.YtahfaiamonadmaaDoor.Q


namespace Go.Proofs.YtahfaiamonadmaaDoor.Q
open Go.RowKit Go.Proofs.YtahfaiamonadmaaDoorW.PrintWords Go.Proofs.YtahfaiamonadmaaDoorW.PrintLast Go.Proofs.YtahfaiamonadmaaDoorW.PrintMore
set_option linter.unusedVariables false
set_option linter.unusedSimpArgs false
attribute [local go_sem] max2_int min2_int max_two min_two max_three min_three max_four min_four   
mutual
def chars_legal.j0 : Nat → Int → Bool → Option (Bool)
 | 0, _, _ => none
 | k + 1, x0, x3 => if x3 = true then (some true) else (if x0 ≥ 57344 then (chars_legal.j1 k x0 (decide (x0 ≤ 65533))) else (chars_legal.j1 k x0 false))
def chars_legal.j1 : Nat → Int → Bool → Option (Bool)
 | 0, _, _ => none
 | k + 1, x0, x3 => if x3 = true then (some true) else (if x0 ≥ 65536 then (some true) else (some false))
end
def chars_legal.f (k : Nat) (a0 : Int) : Option (Bool) := if a0 = 9 then (some true) else (if a0 = 10 then (some true) else (if a0 = 13 then (some true) else (if a0 ≥ 32 then (chars_legal.j0 k a0 (decide (a0 ≤ 55295))) else (chars_legal.j0 k a0 false))))
theorem chars_legal.mono_l : ∀ k, (∀ y0 y1, LeO (chars_legal.j0 k y0 y1) (chars_legal.j0 (k + 1) y0 y1)) ∧ (∀ y0 y1, LeO (chars_legal.j1 k y0 y1) (chars_legal.j1 (k + 1) y0 y1))
 | 0 => ⟨fun _ _ r h => by simp [chars_legal.j0] at h, fun _ _ r h => by simp [chars_legal.j1] at h⟩
 | k + 1 => by
  obtain ⟨ih0, ih1⟩ := chars_legal.mono_l k
  refine ⟨?_, ?_⟩
  ·intro y0 y1
   unfold chars_legal.j0
   repeat' first
   | (with_reducible exact ih0 _ _)
   | (with_reducible exact ih1 _ _)
   | (with_reducible exact LeO.refl _)
   | (with_reducible exact LeO.none _)
   | (with_reducible refine LeO.ite ?_ ?_)
   | (with_reducible refine LeO.bind ?_ (fun _ => ?_))
   | exact ih0 _ _
   | exact ih1 _ _
   | exact LeO.none _
   | refine LeO.ite ?_ ?_
   | refine LeO.bind ?_ (fun _ => ?_)
  ·intro y0 y1
   unfold chars_legal.j1
   repeat' first
   | (with_reducible exact ih0 _ _)
   | (with_reducible exact ih1 _ _)
   | (with_reducible exact LeO.refl _)
   | (with_reducible exact LeO.none _)
   | (with_reducible refine LeO.ite ?_ ?_)
   | (with_reducible refine LeO.bind ?_ (fun _ => ?_))
   | exact ih0 _ _
   | exact ih1 _ _
   | exact LeO.none _
   | refine LeO.ite ?_ ?_
   | refine LeO.bind ?_ (fun _ => ?_)
theorem chars_legal.mono : ∀ a0 k, LeO (chars_legal.f k a0) (chars_legal.f (k + 1) a0) := by
 intro a0 k
 obtain ⟨ih0, ih1⟩ := chars_legal.mono_l k
 unfold chars_legal.f
 repeat' first
   | (with_reducible exact ih0 _ _)
   | (with_reducible exact ih1 _ _)
   | (with_reducible exact LeO.refl _)
   | (with_reducible exact LeO.none _)
   | (with_reducible refine LeO.ite ?_ ?_)
   | (with_reducible refine LeO.bind ?_ (fun _ => ?_))
   | exact ih0 _ _
   | exact ih1 _ _
   | exact LeO.none _
   | refine LeO.ite ?_ ?_
   | refine LeO.bind ?_ (fun _ => ?_)
set_option maxHeartbeats 8000000 in
set_option maxRecDepth 100000 in
theorem chars_legal.calls (k : Nat) (a0 : Int) (r : Bool) (w : World) (h : chars_legal.f k a0 = some r) :
  Calls Tryd.prog 51 #[.int .i32 a0] w fun e w' => e = .returned (.bool r) ∧ Drawn0 w w' := by
 unfold chars_legal.f at h
 have H := h
 clear h
 replace H := itO H
 rcases H with ⟨c2, H⟩ | ⟨c2, H⟩
 ·skip
  have c2b0 : (a0 == 9) = true := beq_iff_eq.mpr c2
  have c2b1 : (a0 != 9) = false := bne_eq_false_iff_eq.mpr c2
  clear c2
  obtain rfl := Option.some.inj H
  go_enter Tryd.func51, Tryd.ntmps51
  go_wp2
  go_ret
  exact ⟨by first | rfl | (simp; done) | (simp [*]; done), by repeat (first | exact Drawn0.refl _ | apply Drawn0.step)⟩
 ·skip
  have c2b0 : (a0 == 9) = false := beq_eq_false_iff_ne.mpr c2
  have c2b1 : (a0 != 9) = true := bne_iff_ne.mpr c2
  replace H := itO H
  rcases H with ⟨c3, H⟩ | ⟨c3, H⟩
  ·skip
   have c3b0 : (a0 == 10) = true := beq_iff_eq.mpr c3
   have c3b1 : (a0 != 10) = false := bne_eq_false_iff_eq.mpr c3
   clear c3
   obtain rfl := Option.some.inj H
   go_enter Tryd.func51, Tryd.ntmps51
   go_wp2
   go_ret
   exact ⟨by first | rfl | (simp; done) | (simp [*]; done), by repeat (first | exact Drawn0.refl _ | apply Drawn0.step)⟩
  ·skip
   have c3b0 : (a0 == 10) = false := beq_eq_false_iff_ne.mpr c3
   have c3b1 : (a0 != 10) = true := bne_iff_ne.mpr c3
   replace H := itO H
   rcases H with ⟨c4, H⟩ | ⟨c4, H⟩
   ·skip
    have c4b0 : (a0 == 13) = true := beq_iff_eq.mpr c4
    have c4b1 : (a0 != 13) = false := bne_eq_false_iff_eq.mpr c4
    clear c4
    obtain rfl := Option.some.inj H
    go_enter Tryd.func51, Tryd.ntmps51
    go_wp2
    go_ret
    exact ⟨by first | rfl | (simp; done) | (simp [*]; done), by repeat (first | exact Drawn0.refl _ | apply Drawn0.step)⟩
   ·skip
    have c4b0 : (a0 == 13) = false := beq_eq_false_iff_ne.mpr c4
    have c4b1 : (a0 != 13) = true := bne_iff_ne.mpr c4
    have HC5 := Aside0.mk H
    clear H
    go_enter Tryd.func51, Tryd.ntmps51
    go_upto_region 4 with (fail)
    go_cut [3] (fun v3 wc => ∃ (kq : Nat) (x3_4 : Bool), v3 = .bool x3_4 ∧ Aside0 (chars_legal.j0 kq a0 x3_4 = some r) ∧ Aside0 (kq ≤ k) ∧ Drawn0 w wc)
    case first =>
     have H := HC5.out
     clear HC5
     replace H := itO H
     rcases H with ⟨c6, H⟩ | ⟨c6, H⟩
     ·skip
      have c6b0 : decide (32 ≤ a0) = true := decide_eq_true c6
      clear c6
      (first | rw [c6b0] | (simp only [i64_w, i32_w]; rw [c6b0]) | skip)
      have H' := Aside0.mk H
      clear H
      go_wp2
      go_meet
      case rel => exact ⟨_, (decide (a0 ≤ 55295)), (by first | rfl | (simp; done) | (simp [*]; done)), H', ⟨by first | omega | exact Nat.le_refl _⟩, by repeat (first | exact Drawn0.refl _ | apply Drawn0.step)⟩
     ·skip
      have c6b0 : decide (32 ≤ a0) = false := decide_eq_false c6
      clear c6
      (first | rw [c6b0] | (simp only [i64_w, i32_w]; rw [c6b0]) | skip)
      have H' := Aside0.mk H
      clear H
      go_wp2
      go_meet
      case rel => exact ⟨_, (false), (by first | rfl | (simp; done) | (simp [*]; done)), H', ⟨by first | omega | exact Nat.le_refl _⟩, by repeat (first | exact Drawn0.refl _ | apply Drawn0.step)⟩
    case rest =>
     clear HC5
     try clear c2
     try clear c2b0
     try clear c2b1
     try clear p2
     try clear c3
     try clear c3b0
     try clear c3b1
     try clear c4
     try clear c4b0
     try clear c4b1
     try clear c5
     try clear c6
     try clear c6b0
     obtain ⟨kq, x3_4, rfl, HA, HJ4, ⟨mc4, rfl⟩⟩ := hcut
     cases kq with
     | zero => exact absurd HA.out (by simp [chars_legal.j0])
     | succ kj4 =>
      have H := HA.out
      clear HA
      simp only [chars_legal.j0] at H
      by_cases c7 : x3_4 = true
      ·subst c7
       replace H := itT H
       obtain rfl := Option.some.inj H
       go_wp2
       go_ret
       exact ⟨by first | rfl | (simp; done) | (simp [*]; done), by repeat (first | exact Drawn0.refl _ | apply Drawn0.step)⟩
      ·replace c7 := Bool.eq_false_iff.mpr c7
       subst c7
       replace H := itF H
       have HC8 := Aside0.mk H
       clear H
       go_upto_region 5 with (fail)
       go_cut [3] (fun v3 wc => ∃ (kq : Nat) (x3_7 : Bool), v3 = .bool x3_7 ∧ Aside0 (chars_legal.j1 kq a0 x3_7 = some r) ∧ Aside0 (kq ≤ kj4) ∧ Drawn0 w wc)
       case first =>
        have H := HC8.out
        clear HC8
        replace H := itO H
        rcases H with ⟨c9, H⟩ | ⟨c9, H⟩
        ·skip
         have c9b0 : decide (57344 ≤ a0) = true := decide_eq_true c9
         clear c9
         (first | rw [c9b0] | (simp only [i64_w, i32_w]; rw [c9b0]) | skip)
         have H' := Aside0.mk H
         clear H
         go_wp2
         go_meet
         case rel => exact ⟨_, (decide (a0 ≤ 65533)), (by first | rfl | (simp; done) | (simp [*]; done)), H', ⟨by have := HJ4.out; first | omega | exact Nat.le_refl _⟩, by repeat (first | exact Drawn0.refl _ | apply Drawn0.step)⟩
        ·skip
         have c9b0 : decide (57344 ≤ a0) = false := decide_eq_false c9
         clear c9
         (first | rw [c9b0] | (simp only [i64_w, i32_w]; rw [c9b0]) | skip)
         have H' := Aside0.mk H
         clear H
         go_wp2
         go_meet
         case rel => exact ⟨_, (false), (by first | rfl | (simp; done) | (simp [*]; done)), H', ⟨by have := HJ4.out; first | omega | exact Nat.le_refl _⟩, by repeat (first | exact Drawn0.refl _ | apply Drawn0.step)⟩
       case rest =>
        clear HC8
        try clear c2
        try clear c2b0
        try clear c2b1
        try clear p2
        try clear c3
        try clear c3b0
        try clear c3b1
        try clear c4
        try clear c4b0
        try clear c4b1
        try clear c5
        try clear c6
        try clear c6b0
        try clear c7
        try clear c9
        try clear c9b0
        try clear p2
        obtain ⟨kq, x3_7, rfl, HA, HJ7, ⟨mc7, rfl⟩⟩ := hcut
        cases kq with
        | zero => exact absurd HA.out (by simp [chars_legal.j1])
        | succ kj7 =>
         have H := HA.out
         clear HA
         simp only [chars_legal.j1] at H
         by_cases c10 : x3_7 = true
         ·subst c10
          replace H := itT H
          obtain rfl := Option.some.inj H
          go_wp2
          go_ret
          exact ⟨by first | rfl | (simp; done) | (simp [*]; done), by repeat (first | exact Drawn0.refl _ | apply Drawn0.step)⟩
         ·replace c10 := Bool.eq_false_iff.mpr c10
          subst c10
          replace H := itF H
          replace H := itO H
          rcases H with ⟨c11, H⟩ | ⟨c11, H⟩
          ·skip
           have c11b0 : decide (65536 ≤ a0) = true := decide_eq_true c11
           clear c11
           obtain rfl := Option.some.inj H
           go_wp2
           go_ret
           exact ⟨by first | rfl | (simp; done) | (simp [*]; done), by repeat (first | exact Drawn0.refl _ | apply Drawn0.step)⟩
          ·skip
           have c11b0 : decide (65536 ≤ a0) = false := decide_eq_false c11
           clear c11
           obtain rfl := Option.some.inj H
           go_wp2
           go_ret
           exact ⟨by first | rfl | (simp; done) | (simp [*]; done), by repeat (first | exact Drawn0.refl _ | apply Drawn0.step)⟩
end Go.Proofs.YtahfaiamonadmaaDoor.Q


namespace Go.Proofs.YtahfaiamonadmaaDoor.Q
open Go.RowKit Go.Proofs.YtahfaiamonadmaaDoorW.PrintWords Go.Proofs.YtahfaiamonadmaaDoorW.PrintLast Go.Proofs.YtahfaiamonadmaaDoorW.PrintMore
set_option linter.unusedVariables false
set_option linter.unusedSimpArgs false
attribute [local go_sem] max2_int min2_int max_two min_two max_three min_three max_four min_four   
def chars_Legal.ok (c : Int) : Bool := decide (c = 9 ∨ c = 10 ∨ c = 13 ∨ (32 ≤ c ∧ c ≤ 55295) ∨ (57344 ≤ c ∧ c ≤ 65533) ∨ 65536 ≤ c)
theorem chars_Legal.ok_eq (c : Int) : chars_legal.f 3 c = some (chars_Legal.ok c) := by
 unfold chars_legal.f chars_Legal.ok
 by_cases h1 : c = 9
 ·rw [if_pos h1, decide_eq_true (by omega)]
 ·rw [if_neg h1]
  by_cases h2 : c = 10
  ·rw [if_pos h2, decide_eq_true (by omega)]
  ·rw [if_neg h2]
   by_cases h3 : c = 13
   ·rw [if_pos h3, decide_eq_true (by omega)]
   ·rw [if_neg h3]
    have tail : chars_legal.j0 3 c false = some (decide ((57344 ≤ c ∧ c ≤ 65533) ∨ 65536 ≤ c)) := by
     simp only [chars_legal.j0]
     rw [if_neg (by decide)]
     by_cases h5 : c ≥ 57344
     ·rw [if_pos h5]
      by_cases h6 : c ≤ 65533
      ·rw [chars_legal.j1, if_pos (decide_eq_true h6), decide_eq_true (by omega)]
      ·rw [chars_legal.j1, if_neg (by simpa using h6)]
       by_cases h7 : c ≥ 65536
       ·rw [if_pos h7, decide_eq_true (by omega)]
       ·rw [if_neg h7, decide_eq_false (by omega)]
     ·rw [if_neg h5, chars_legal.j1, if_neg (by decide), if_neg (by omega), decide_eq_false (by omega)]
    by_cases h4 : c ≥ 32
    ·rw [if_pos h4]
     by_cases h5 : c ≤ 55295
     ·rw [chars_legal.j0, if_pos (decide_eq_true h5), decide_eq_true (by omega)]
     ·rw [decide_eq_false h5, tail]
      congr 1
      rw [decide_eq_decide]
      omega
    ·rw [if_neg h4, tail]
     congr 1
     rw [decide_eq_decide]
     omega
def chars_Legal.g (s : ByteArray) : Nat → Nat → Bool
 | 0, _ => true
 | k + 1, pos => if pos < s.size then (if chars_Legal.ok (Utf8.decode s pos).1 = false then false else chars_Legal.g s k (pos + (Utf8.decode s pos).2)) else true
def chars_Legal.f (a0 : ByteArray) : Option Bool := if a0.size ≤ 9007199254740992 then (if chars_Legal.g a0 a0.size 0 = true then chars_Valid.f a0 else some false) else none
theorem chars_Legal.g_bad (s : ByteArray) (k pos : Nat) (h : pos < s.size) (hd : chars_Legal.ok (Utf8.decode s pos).1 = false) : chars_Legal.g s (k + 1) pos = false := by
 rw [chars_Legal.g, if_pos h, if_pos hd]
theorem chars_Legal.g_on (s : ByteArray) (k pos : Nat) (h : pos < s.size) (hd : chars_Legal.ok (Utf8.decode s pos).1 = true) : chars_Legal.g s (k + 1) pos = chars_Legal.g s k (pos + (Utf8.decode s pos).2) := by
 rw [chars_Legal.g, if_pos h, if_neg (by rw [hd]; decide)]
theorem chars_Legal.g_end (s : ByteArray) (k pos : Nat) (h : ¬ pos < s.size) : chars_Legal.g s k pos = true := by
 cases k with
 | zero => rfl
 | succ k => rw [chars_Legal.g, if_neg h]
set_option maxHeartbeats 4000000 in
set_option maxRecDepth 100000 in
theorem chars_Legal.calls (a0 : ByteArray) (r : Bool) (w : World) (h : chars_Legal.f a0 = some r) :
  Calls Tryd.prog 24 #[.string a0] w fun e w' => e = .returned (.bool r) ∧ Below w.heap.size w w' := by
 unfold chars_Legal.f at h
 have hs : a0.size ≤ 9007199254740992 := by
  by_cases c : a0.size ≤ 9007199254740992
  ·exact c
  ·simp [c] at h
 rw [if_pos hs] at h
 have hR : Hid (∀ v, chars_Legal.g a0 a0.size 0 = v → (v = true → chars_Valid.f a0 = some r) ∧ (v = false → r = false)) := by
  refine Lib.hid fun v hv => ?_
  rw [hv] at h
  cases v
  ·exact ⟨fun h_ => by simp at h_, fun _ => (Option.some.inj h).symm⟩
  ·exact ⟨fun _ => h, fun h_ => by simp at h_⟩
 clear h
 go_enter Tryd.func24, Tryd.ntmps24
 go_wp2
 go_loopw [] (fun wr => ∃ (pos fuel : Nat), Hid (wr.heap[w.heap.size]? = some (.stringIter a0 pos) ∧ Below w.heap.size w wr ∧ chars_Legal.g a0 fuel pos = chars_Legal.g a0 a0.size 0 ∧ a0.size ≤ pos + fuel)) (fun wr => a0.size - wr.iterPos w.heap.size)
 case atStart =>
  refine ⟨0, a0.size, Lib.hid ⟨?_, (Below.refl _ w).alloc (Nat.le_refl _) _, rfl, by omega⟩⟩
  exact World.iter_heap w a0 0
 case round =>
  obtain ⟨pos, fuel, hI⟩ := hrel
  by_cases hp : pos < a0.size
  ·have hit := hI.out.1
   have hnx : ∀ ty, (Instr.next (.pointer (some ⟨w.heap.size, 0, none⟩)) true ty).run Tryd.prog wr = _ := fun ty => Lib.run_next_any_at wr w.heap.size a0 pos ty hit hp
   have hwd := chars_Count.width_pos a0 pos hp
   have hB2 := Lib.below_iterAt hI.out.2.1 (k := w.heap.size) (Nat.le_refl _) a0 (pos + (Utf8.decode a0 pos).2)
   have hit2 := Lib.iterAt_heap wr w.heap.size a0 pos (pos + (Utf8.decode a0 pos).2) hit
   obtain ⟨W2, hW2⟩ : ∃ W2, wr.iterAt w.heap.size a0 (pos + (Utf8.decode a0 pos).2) = W2 := ⟨_, rfl⟩
   rw [hW2] at hB2 hit2
   simp only [hW2] at hnx
   obtain ⟨f, rfl⟩ : ∃ f, fuel = f + 1 := ⟨fuel - 1, by have := hI.out.2.2.2; omega⟩
   have hmeas : a0.size - W2.iterPos w.heap.size < a0.size - wr.iterPos w.heap.size := by simp only [World.iterPos, hit2, hit]; omega
   have hpos := Lib.hid (And.intro hp hwd)
   have hkeep := Lib.hid (And.intro hB2 (And.intro hit2 hmeas))
   have hfr : Hid (a0.size ≤ pos + (f + 1)) := Lib.hid hI.out.2.2.2
   clear hW2 hB2 hit2 hmeas hwd hit hp
   obtain ⟨o, ho⟩ : ∃ o, chars_Legal.ok (Utf8.decode a0 pos).1 = o := ⟨_, rfl⟩
   have hok := Lib.hid (chars_Legal.ok_eq (Utf8.decode a0 pos).1)
   rw [ho] at hok
   have ho' := Lib.hid ho
   clear ho
   cases o
   ·go_wp2_with (go_at_call 51; refine (chars_legal.calls 3 _ false _ hok.out).mono ?_; rintro e w9 ⟨rfl, ⟨⟨nd, rfl⟩⟩⟩)
    go_ret
    have hr := (hR.out false (hI.out.2.2.1.symm.trans (chars_Legal.g_bad a0 f pos hpos.out.1 ho'.out))).2 rfl
    subst hr
    exact ⟨rfl, pw_below_drewN hkeep.out.1 _⟩
   ·go_wp2_with (go_at_call 51; refine (chars_legal.calls 3 _ true _ hok.out).mono ?_; rintro e w9 ⟨rfl, ⟨⟨nd, rfl⟩⟩⟩)
    go_roundw
    case rel => exact ⟨pos + (Utf8.decode a0 pos).2, f, Lib.hid ⟨hkeep.out.2.1, pw_below_drewN hkeep.out.1 _, (chars_Legal.g_on a0 f pos hpos.out.1 ho'.out).symm.trans hI.out.2.2.1, by have := hfr.out; have := hpos.out.2; omega⟩⟩
    case measure => exact hkeep.out.2.2
  ·have hnx : ∀ ty, (Instr.next (.pointer (some ⟨w.heap.size, 0, none⟩)) true ty).run Tryd.prog wr = _ := fun ty => Lib.run_next_end_at wr w.heap.size a0 pos ty hI.out.1 hp
   have hv := Lib.hid ((hR.out true (hI.out.2.2.1.symm.trans (chars_Legal.g_end a0 fuel pos hp))).1 rfl)
   go_wp2_with (go_at_call 23; refine (chars_Valid.calls _ r _ hv.out).mono ?_; rintro e w9 ⟨rfl, hb9⟩; have hb9' := Lib.hid hb9; clear hb9)
   go_ret
   exact ⟨rfl, below_step hI.out.2.1 hb9'.out⟩
end Go.Proofs.YtahfaiamonadmaaDoor.Q
