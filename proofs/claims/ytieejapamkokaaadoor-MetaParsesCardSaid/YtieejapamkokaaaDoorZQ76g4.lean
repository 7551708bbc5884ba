/- A part of the proof of the seat's laws. No condition beyond those in the theorems. -/
import Derived.Test.YtieejapamkokaaaDoorZQ0g7
import Derived.Test.YtieejapamkokaaaDoorZQ75

namespace Go.Proofs.YtieejapamkokaaaDoor.Q
open Go.RowKit Go.Proofs.YtieejapamkokaaaDoorW.PrintWords Go.Proofs.YtieejapamkokaaaDoorW.PrintLast Go.Proofs.YtieejapamkokaaaDoorW.PrintMore
set_option linter.unusedVariables false
set_option linter.unusedSimpArgs false
attribute [local go_sem] max2_int min2_int max_two min_two max_three min_three max_four min_four   
def stowageref3_Count.l0 : Nat → ByteArray → Int → Option (Int × Bool)
 | 0, _, _ => none
 | k + 1, x0, x4 => if (x0.size : Int) > 0 then ((stowageref3_Step.f k x0).bind fun bt290 => (if bt290.2 = 0 then (some (0, false)) else (if 0 ≤ bt290.2 then (if bt290.2 ≤ (x0.size : Int) then (stowageref3_Count.l0 k (x0.extract (bt290.2 : Int).toNat x0.size) (wrap64 (x4 + 1))) else (none)) else (none)))) else (some (x4, true))
def stowageref3_Count.f (k : Nat) (a0 : ByteArray) : Option (Int × Bool) := stowageref3_Count.l0 k a0 0
theorem stowageref3_Count.mono_l : ∀ k, (∀ y0 y1, LeO (stowageref3_Count.l0 k y0 y1) (stowageref3_Count.l0 (k + 1) y0 y1))
 | 0 => fun _ _ r h => by simp [stowageref3_Count.l0] at h
 | k + 1 => by
  have ih0 := stowageref3_Count.mono_l k
  ·intro y0 y1
   unfold stowageref3_Count.l0
   repeat' first
   | (with_reducible exact ih0 _ _)
   | (with_reducible exact stowageref3_Step.mono _ _)
   | (with_reducible exact LeO.refl _)
   | (with_reducible exact LeO.none _)
   | (with_reducible refine LeO.ite ?_ ?_)
   | (with_reducible refine LeO.bind ?_ (fun _ => ?_))
   | exact ih0 _ _
   | exact stowageref3_Step.mono _ _
   | exact LeO.none _
   | refine LeO.ite ?_ ?_
   | refine LeO.bind ?_ (fun _ => ?_)
theorem stowageref3_Count.mono : ∀ a0 k, LeO (stowageref3_Count.f k a0) (stowageref3_Count.f (k + 1) a0) := by
 intro a0 k
 have ih0 := stowageref3_Count.mono_l k
 unfold stowageref3_Count.f
 repeat' first
   | (with_reducible exact ih0 _ _)
   | (with_reducible exact stowageref3_Step.mono _ _)
   | (with_reducible exact LeO.refl _)
   | (with_reducible exact LeO.none _)
   | (with_reducible refine LeO.ite ?_ ?_)
   | (with_reducible refine LeO.bind ?_ (fun _ => ?_))
   | exact ih0 _ _
   | exact stowageref3_Step.mono _ _
   | exact LeO.none _
   | refine LeO.ite ?_ ?_
   | refine LeO.bind ?_ (fun _ => ?_)
set_option maxHeartbeats 8000000 in
set_option maxRecDepth 100000 in
theorem stowageref3_Count.calls (k : Nat) (a0 : ByteArray) (r1 : Int) (r2 : Bool) (w : World) (h : stowageref3_Count.f k a0 = some (r1, r2)) :
  Calls Tryd.prog 142 #[.string a0] w fun e w' => e = .returned (.tuple #[.int .i64 r1, .bool r2]) ∧ Drawn0 w w' := by
 unfold stowageref3_Count.f at h
 have H := h
 clear h
 have H' := Aside0.mk H
 clear H
 go_enter Tryd.func142, Tryd.ntmps142
 go_wp2
 go_loopg [0, 4] k (fun kq v0 v4 w' => ∃ (x0_1 : ByteArray) (x4_1 : Int), v0 = .string x0_1 ∧ v4 = .int .i64 x4_1 ∧ Aside0 (stowageref3_Count.l0 kq x0_1 x4_1 = some (r1, r2)) ∧ Aside0 (kq ≤ k) ∧ Drawn0 w w')
 case atStart => exact ⟨(a0), (0), (by first | rfl | (simp; done) | (simp [*]; done)), (by first | rfl | (simp; done) | (simp [*]; done)), H', ⟨Nat.le_refl _⟩, by repeat (first | exact Drawn0.refl _ | apply Drawn0.step)⟩
 case round =>
  clear H'
  try clear c1
  obtain ⟨x0_1, x4_1, rfl, rfl, HA, HK1, ⟨m1, rfl⟩⟩ := hrel
  cases gk with
  | zero => exact absurd HA.out (by simp [stowageref3_Count.l0])
  | succ k1 =>
   have H := HA.out
   clear HA
   simp only [stowageref3_Count.l0] at H
   replace H := itO H
   rcases H with ⟨c2, H⟩ | ⟨c2, H⟩
   ·skip
    have c2b0 : decide (0 < (x0_1.size : Int)) = true := decide_eq_true c2
    have c2b1 : decide (0 < x0_1.size) = true := decide_eq_true (by omega)
    clear c2
    replace H := bndO H
    obtain ⟨⟨t290, t291⟩, A30, H⟩ := H
    dsimp only at H
    have A3 := Aside0.mk A30
    clear A30
    replace H := itO H
    rcases H with ⟨c4, H⟩ | ⟨c4, H⟩
    ·skip
     have c4b0 : (t291 == 0) = true := beq_iff_eq.mpr c4
     have c4b1 : (t291 != 0) = false := bne_eq_false_iff_eq.mpr c4
     clear c4
     simp only [Option.some.injEq, Prod.mk.injEq] at H
     obtain ⟨rfl, rfl⟩ := H
     go_wp2_with (first | ((with_reducible refine gate_callee (f := 152) rfl ?_); refine goesL_ (some 12) rfl rfl Tryd.func152 (by kernel_rfl) rfl #[.string x0_1] rfl (by (try simp only [List.map_toArray, List.map_cons, List.map_nil]); first | done | rfl | (simp only [List.length_drop, List.length_take]; rfl)) ?_; (with_reducible refine (stowageref3_Step.calls k1 x0_1 t290 t291 _ A3.out).mono ?_); rintro e w' ⟨rfl, ⟨nd, rfl⟩⟩; refine ⟨_, rfl, ?_⟩))
     go_ret2
     exact ⟨by first | rfl | (simp; done) | (simp [*]; done), by repeat (first | exact Drawn0.refl _ | apply Drawn0.step)⟩
    ·skip
     have c4b0 : (t291 == 0) = false := beq_eq_false_iff_ne.mpr c4
     have c4b1 : (t291 != 0) = true := bne_iff_ne.mpr c4
     replace H := itO H
     rcases H with ⟨c5, H⟩ | ⟨c5, H⟩
     ·skip
      have c5b0 := eq_true c5
      have c5b1 := decide_eq_true c5
      clear c5
      replace H := itO H
      rcases H with ⟨c6, H⟩ | ⟨c6, H⟩
      ·skip
       have c6b0 := eq_true c6
       have c6b1 := decide_eq_true c6
       clear c6
       have H' := Aside0.mk H
       clear H
       go_wp2_with (first | ((with_reducible refine gate_callee (f := 152) rfl ?_); refine goesL_ (some 12) rfl rfl Tryd.func152 (by kernel_rfl) rfl #[.string x0_1] rfl (by (try simp only [List.map_toArray, List.map_cons, List.map_nil]); first | done | rfl | (simp only [List.length_drop, List.length_take]; rfl)) ?_; (with_reducible refine (stowageref3_Step.calls k1 x0_1 t290 t291 _ A3.out).mono ?_); rintro e w' ⟨rfl, ⟨nd, rfl⟩⟩; refine ⟨_, rfl, ?_⟩))
       go_roundg k1
       case measure => have := HK1.out; omega
       case rel => exact ⟨(x0_1.extract (t291 : Int).toNat x0_1.size), (wrap64 (x4_1 + 1)), (by first | rfl | (simp; done) | (simp [*]; done)), (by first | rfl | (simp; done) | (simp [*]; done)), H', ⟨by have := HK1.out; omega⟩, by repeat (first | exact Drawn0.refl _ | apply Drawn0.step)⟩
      ·exact absurd H (by simp)
     ·exact absurd H (by simp)
   ·skip
    have c2b0 : decide (0 < (x0_1.size : Int)) = false := decide_eq_false c2
    have c2b1 : decide (0 < x0_1.size) = false := decide_eq_false (by omega)
    clear c2
    simp only [Option.some.injEq, Prod.mk.injEq] at H
    obtain ⟨rfl, rfl⟩ := H
    go_wp2
    go_ret2
    exact ⟨by first | rfl | (simp; done) | (simp [*]; done), by repeat (first | exact Drawn0.refl _ | apply Drawn0.step)⟩
end Go.Proofs.YtieejapamkokaaaDoor.Q


namespace Go.Proofs.YtieejapamkokaaaDoor.Q
open Go.RowKit Go.Proofs.YtieejapamkokaaaDoorW.PrintWords Go.Proofs.YtieejapamkokaaaDoorW.PrintLast Go.Proofs.YtieejapamkokaaaDoorW.PrintMore
set_option linter.unusedVariables false
set_option linter.unusedSimpArgs false
attribute [local go_sem] max2_int min2_int max_two min_two max_three min_three max_four min_four   
def stowageref3_Valid.f (k : Nat) (a0 : ByteArray) : Option (Bool) := (stowageref3_Count.f k a0).bind fun bt292 => (some bt292.2)
theorem stowageref3_Valid.mono : ∀ a0 k, LeO (stowageref3_Valid.f k a0) (stowageref3_Valid.f (k + 1) a0) := by
 intro a0 k
 unfold stowageref3_Valid.f
 repeat' first
   | (with_reducible exact stowageref3_Count.mono _ _)
   | (with_reducible exact LeO.refl _)
   | (with_reducible exact LeO.none _)
   | (with_reducible refine LeO.ite ?_ ?_)
   | (with_reducible refine LeO.bind ?_ (fun _ => ?_))
   | exact stowageref3_Count.mono _ _
   | exact LeO.none _
   | refine LeO.ite ?_ ?_
   | refine LeO.bind ?_ (fun _ => ?_)
set_option maxHeartbeats 8000000 in
set_option maxRecDepth 100000 in
theorem stowageref3_Valid.calls (k : Nat) (a0 : ByteArray) (r : Bool) (w : World) (h : stowageref3_Valid.f k a0 = some r) :
  Calls Tryd.prog 129 #[.string a0] w fun e w' => e = .returned (.bool r) ∧ Drawn0 w w' := by
 unfold stowageref3_Valid.f at h
 have H := h
 clear h
 replace H := bndO H
 obtain ⟨⟨t292, t293⟩, A20, H⟩ := H
 dsimp only at H
 have A2 := Aside0.mk A20
 clear A20
 obtain rfl := Option.some.inj H
 go_enter Tryd.func129, Tryd.ntmps129
 go_wp2_with (first | ((with_reducible refine gate_callee (f := 142) rfl ?_); refine goesL_ (some 7) rfl rfl Tryd.func142 (by kernel_rfl) rfl #[.string a0] rfl (by (try simp only [List.map_toArray, List.map_cons, List.map_nil]); first | done | rfl | (simp only [List.length_drop, List.length_take]; rfl)) ?_; (with_reducible refine (stowageref3_Count.calls k a0 t292 t293 _ A2.out).mono ?_); rintro e w' ⟨rfl, ⟨nd, rfl⟩⟩; refine ⟨_, rfl, ?_⟩))
 go_ret
 exact ⟨by first | rfl | (simp; done) | (simp [*]; done), by repeat (first | exact Drawn0.refl _ | apply Drawn0.step)⟩
end Go.Proofs.YtieejapamkokaaaDoor.Q


namespace Go.Proofs.YtieejapamkokaaaDoor.Q
open Go.RowKit Go.Proofs.YtieejapamkokaaaDoorW.PrintWords Go.Proofs.YtieejapamkokaaaDoorW.PrintLast Go.Proofs.YtieejapamkokaaaDoorW.PrintMore
set_option linter.unusedVariables false
set_option linter.unusedSimpArgs false
attribute [local go_sem] max2_int min2_int max_two min_two max_three min_three max_four min_four   
def stowageref3_in.l0 : Nat → ByteArray → Int → Int → Option (Bool)
 | 0, _, _, _ => none
 | k + 1, x0, x1, x5 => if x5 < (x0.size : Int) then (if 0 ≤ x5 then (if (bt x0 x5) = x1 then (some true) else (stowageref3_in.l0 k x0 x1 (wrap64 (x5 + 1)))) else (none)) else (some false)
def stowageref3_in.f (k : Nat) (a0 : ByteArray) (a1 : Int) : Option (Bool) := stowageref3_in.l0 k a0 a1 0
theorem stowageref3_in.mono_l : ∀ k, (∀ y0 y1 y2, LeO (stowageref3_in.l0 k y0 y1 y2) (stowageref3_in.l0 (k + 1) y0 y1 y2))
 | 0 => fun _ _ _ r h => by simp [stowageref3_in.l0] at h
 | k + 1 => by
  have ih0 := stowageref3_in.mono_l k
  ·intro y0 y1 y2
   unfold stowageref3_in.l0
   repeat' first
   | (with_reducible exact ih0 _ _ _)
   | (with_reducible exact LeO.refl _)
   | (with_reducible exact LeO.none _)
   | (with_reducible refine LeO.ite ?_ ?_)
   | (with_reducible refine LeO.bind ?_ (fun _ => ?_))
   | exact ih0 _ _ _
   | exact LeO.none _
   | refine LeO.ite ?_ ?_
   | refine LeO.bind ?_ (fun _ => ?_)
theorem stowageref3_in.mono : ∀ a0 a1 k, LeO (stowageref3_in.f k a0 a1) (stowageref3_in.f (k + 1) a0 a1) := by
 intro a0 a1 k
 have ih0 := stowageref3_in.mono_l k
 unfold stowageref3_in.f
 repeat' first
   | (with_reducible exact ih0 _ _ _)
   | (with_reducible exact LeO.refl _)
   | (with_reducible exact LeO.none _)
   | (with_reducible refine LeO.ite ?_ ?_)
   | (with_reducible refine LeO.bind ?_ (fun _ => ?_))
   | exact ih0 _ _ _
   | exact LeO.none _
   | refine LeO.ite ?_ ?_
   | refine LeO.bind ?_ (fun _ => ?_)
set_option maxHeartbeats 8000000 in
set_option maxRecDepth 100000 in
theorem stowageref3_in.calls (k : Nat) (a0 : ByteArray) (a1 : Int) (r : Bool) (w : World) (h : stowageref3_in.f k a0 a1 = some r) :
  Calls Tryd.prog 130 #[.string a0, .int .u8 a1] w fun e w' => e = .returned (.bool r) ∧ Drawn0 w w' := by
 unfold stowageref3_in.f at h
 have H := h
 clear h
 have H' := Aside0.mk H
 clear H
 go_enter Tryd.func130, Tryd.ntmps130
 go_wp2
 go_loopg [5] k (fun kq v5 w' => ∃ (x5_1 : Int), v5 = .int .i64 x5_1 ∧ Aside0 (stowageref3_in.l0 kq a0 a1 x5_1 = some r) ∧ Aside0 (kq ≤ k) ∧ Drawn0 w w')
 case atStart => exact ⟨(0), (by first | rfl | (simp; done) | (simp [*]; done)), H', ⟨Nat.le_refl _⟩, by repeat (first | exact Drawn0.refl _ | apply Drawn0.step)⟩
 case round =>
  clear H'
  try clear c1
  try clear p2
  obtain ⟨x5_1, rfl, HA, HK1, ⟨m1, rfl⟩⟩ := hrel
  cases gk with
  | zero => exact absurd HA.out (by simp [stowageref3_in.l0])
  | succ k1 =>
   have H := HA.out
   clear HA
   simp only [stowageref3_in.l0] at H
   replace H := itO H
   rcases H with ⟨c3, H⟩ | ⟨c3, H⟩
   ·skip
    have c3b0 : decide (x5_1 < (a0.size : Int)) = true := decide_eq_true c3
    clear c3
    replace H := itO H
    rcases H with ⟨c4, H⟩ | ⟨c4, H⟩
    ·skip
     have c4b0 : decide (0 ≤ x5_1) = true := decide_eq_true c4
     clear c4
     replace H := itO H
     rcases H with ⟨c6, H⟩ | ⟨c6, H⟩
     ·skip
      have c6b0 : ((bt a0 x5_1) == a1) = true := beq_iff_eq.mpr c6
      have c6b1 : ((bt a0 x5_1) != a1) = false := bne_eq_false_iff_eq.mpr c6
      clear c6
      obtain rfl := Option.some.inj H
      have p5 : 0 ≤ (x5_1 : Int) := of_decide_eq_true (by first | (with_reducible assumption) | assumption)
      have q5 : x5_1 < (a0.size : Int) := of_decide_eq_true (by first | (with_reducible assumption) | assumption)
      have hx5 := bt_at a0 x5_1
      replace p5 := eq_true p5
      replace q5 := eq_true q5
      go_wp2
      go_ret
      exact ⟨by first | rfl | (simp; done) | (simp [*]; done), by repeat (first | exact Drawn0.refl _ | apply Drawn0.step)⟩
     ·skip
      have c6b0 : ((bt a0 x5_1) == a1) = false := beq_eq_false_iff_ne.mpr c6
      have c6b1 : ((bt a0 x5_1) != a1) = true := bne_iff_ne.mpr c6
      have H' := Aside0.mk H
      clear H
      have p5 : 0 ≤ (x5_1 : Int) := of_decide_eq_true (by first | (with_reducible assumption) | assumption)
      have q5 : x5_1 < (a0.size : Int) := of_decide_eq_true (by first | (with_reducible assumption) | assumption)
      have hx5 := bt_at a0 x5_1
      replace p5 := eq_true p5
      replace q5 := eq_true q5
      go_wp2
      go_roundg k1
      case measure => have := HK1.out; omega
      case rel => exact ⟨(wrap64 (x5_1 + 1)), (by first | rfl | (simp; done) | (simp [*]; done)), H', ⟨by have := HK1.out; omega⟩, by repeat (first | exact Drawn0.refl _ | apply Drawn0.step)⟩
    ·exact absurd H (by simp)
   ·skip
    have c3b0 : decide (x5_1 < (a0.size : Int)) = false := decide_eq_false c3
    clear c3
    obtain rfl := Option.some.inj H
    go_wp2
    go_ret
    exact ⟨by first | rfl | (simp; done) | (simp [*]; done), by repeat (first | exact Drawn0.refl _ | apply Drawn0.step)⟩
end Go.Proofs.YtieejapamkokaaaDoor.Q


namespace Go.Proofs.YtieejapamkokaaaDoor.Q
open Go.RowKit Go.Proofs.YtieejapamkokaaaDoorW.PrintWords Go.Proofs.YtieejapamkokaaaDoorW.PrintLast Go.Proofs.YtieejapamkokaaaDoorW.PrintMore
set_option linter.unusedVariables false
set_option linter.unusedSimpArgs false
attribute [local go_sem] max2_int min2_int max_two min_two max_three min_three max_four min_four   
def stowageref3_Key.f (k : Nat) (a0 : ByteArray) : Option (Bool) := (stowageref3_Valid.f k a0).bind fun t294 => (if t294 = true then (if (a0.size : Int) ≥ 1 then (if (a0.size : Int) ≤ 1024 then ((stowageref3_in.f k a0 0).bind fun t295 => (some (!t295))) else (some false)) else (some false)) else (some false))
theorem stowageref3_Key.mono : ∀ a0 k, LeO (stowageref3_Key.f k a0) (stowageref3_Key.f (k + 1) a0) := by
 intro a0 k
 unfold stowageref3_Key.f
 repeat' first
   | (with_reducible exact stowageref3_Valid.mono _ _)
   | (with_reducible exact stowageref3_in.mono _ _ _)
   | (with_reducible exact LeO.refl _)
   | (with_reducible exact LeO.none _)
   | (with_reducible refine LeO.ite ?_ ?_)
   | (with_reducible refine LeO.bind ?_ (fun _ => ?_))
   | exact stowageref3_Valid.mono _ _
   | exact stowageref3_in.mono _ _ _
   | exact LeO.none _
   | refine LeO.ite ?_ ?_
   | refine LeO.bind ?_ (fun _ => ?_)
set_option maxHeartbeats 8000000 in
set_option maxRecDepth 100000 in
theorem stowageref3_Key.calls (k : Nat) (a0 : ByteArray) (r : Bool) (w : World) (h : stowageref3_Key.f k a0 = some r) :
  Calls Tryd.prog 107 #[.string a0] w fun e w' => e = .returned (.bool r) ∧ Drawn0 w w' := by
 unfold stowageref3_Key.f at h
 have H := h
 clear h
 replace H := bndO H
 obtain ⟨t294, A20, H⟩ := H
 have A2 := Aside0.mk A20
 clear A20
 by_cases c3 : t294 = true
 ·subst c3
  replace H := itT H
  replace H := itO H
  rcases H with ⟨c4, H⟩ | ⟨c4, H⟩
  ·skip
   have c4b0 : decide (1 ≤ (a0.size : Int)) = true := decide_eq_true c4
   have c4b1 : decide (1 ≤ a0.size) = true := decide_eq_true (by omega)
   clear c4
   replace H := itO H
   rcases H with ⟨c5, H⟩ | ⟨c5, H⟩
   ·skip
    have c5b0 : decide ((a0.size : Int) ≤ 1024) = true := decide_eq_true c5
    have c5b1 : decide (a0.size ≤ 1024) = true := decide_eq_true (by omega)
    clear c5
    replace H := bndO H
    obtain ⟨t295, A60, H⟩ := H
    have A6 := Aside0.mk A60
    clear A60
    obtain rfl := Option.some.inj H
    go_enter Tryd.func107, Tryd.ntmps107
    go_wp2_with (first | ((with_reducible refine gate_callee (f := 129) rfl ?_); refine goesL_ (some 4) rfl rfl Tryd.func129 (by kernel_rfl) rfl #[.string a0] rfl (by (try simp only [List.map_toArray, List.map_cons, List.map_nil]); first | done | rfl | (simp only [List.length_drop, List.length_take]; rfl)) ?_; (with_reducible refine (stowageref3_Valid.calls k a0 true _ A2.out).mono ?_); rintro e w' ⟨rfl, ⟨nd, rfl⟩⟩; refine ⟨_, rfl, ?_⟩) | (go_at_call 130; (with_reducible refine (stowageref3_in.calls k a0 0 t295 _ A6.out).mono ?_); rintro e w' ⟨rfl, ⟨nd, rfl⟩⟩))
    go_ret
    exact ⟨by first | rfl | (simp; done) | (simp [*]; done), by repeat (first | exact Drawn0.refl _ | apply Drawn0.step)⟩
   ·skip
    have c5b0 : decide ((a0.size : Int) ≤ 1024) = false := decide_eq_false c5
    have c5b1 : decide (a0.size ≤ 1024) = false := decide_eq_false (by omega)
    clear c5
    obtain rfl := Option.some.inj H
    go_enter Tryd.func107, Tryd.ntmps107
    go_wp2_with (first | ((with_reducible refine gate_callee (f := 129) rfl ?_); refine goesL_ (some 4) rfl rfl Tryd.func129 (by kernel_rfl) rfl #[.string a0] rfl (by (try simp only [List.map_toArray, List.map_cons, List.map_nil]); first | done | rfl | (simp only [List.length_drop, List.length_take]; rfl)) ?_; (with_reducible refine (stowageref3_Valid.calls k a0 true _ A2.out).mono ?_); rintro e w' ⟨rfl, ⟨nd, rfl⟩⟩; refine ⟨_, rfl, ?_⟩))
    go_ret
    exact ⟨by first | rfl | (simp; done) | (simp [*]; done), by repeat (first | exact Drawn0.refl _ | apply Drawn0.step)⟩
  ·skip
   have c4b0 : decide (1 ≤ (a0.size : Int)) = false := decide_eq_false c4
   have c4b1 : decide (1 ≤ a0.size) = false := decide_eq_false (by omega)
   clear c4
   obtain rfl := Option.some.inj H
   go_enter Tryd.func107, Tryd.ntmps107
   go_wp2_with (first | ((with_reducible refine gate_callee (f := 129) rfl ?_); refine goesL_ (some 4) rfl rfl Tryd.func129 (by kernel_rfl) rfl #[.string a0] rfl (by (try simp only [List.map_toArray, List.map_cons, List.map_nil]); first | done | rfl | (simp only [List.length_drop, List.length_take]; rfl)) ?_; (with_reducible refine (stowageref3_Valid.calls k a0 true _ A2.out).mono ?_); rintro e w' ⟨rfl, ⟨nd, rfl⟩⟩; refine ⟨_, rfl, ?_⟩))
   go_ret
   exact ⟨by first | rfl | (simp; done) | (simp [*]; done), by repeat (first | exact Drawn0.refl _ | apply Drawn0.step)⟩
 ·replace c3 := Bool.eq_false_iff.mpr c3
  subst c3
  replace H := itF H
  obtain rfl := Option.some.inj H
  go_enter Tryd.func107, Tryd.ntmps107
  go_wp2_with (first | ((with_reducible refine gate_callee (f := 129) rfl ?_); refine goesL_ (some 4) rfl rfl Tryd.func129 (by kernel_rfl) rfl #[.string a0] rfl (by (try simp only [List.map_toArray, List.map_cons, List.map_nil]); first | done | rfl | (simp only [List.length_drop, List.length_take]; rfl)) ?_; (with_reducible refine (stowageref3_Valid.calls k a0 false _ A2.out).mono ?_); rintro e w' ⟨rfl, ⟨nd, rfl⟩⟩; refine ⟨_, rfl, ?_⟩))
  go_ret
  exact ⟨by first | rfl | (simp; done) | (simp [*]; done), by repeat (first | exact Drawn0.refl _ | apply Drawn0.step)⟩
end Go.Proofs.YtieejapamkokaaaDoor.Q
