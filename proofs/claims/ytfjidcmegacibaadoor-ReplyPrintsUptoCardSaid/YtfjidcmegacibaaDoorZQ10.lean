/- A part of the proof of the seat's laws. No condition beyond those in the theorems. -/
import Derived.Test.YtfjidcmegacibaaDoorZQ0g2
import Derived.Test.YtfjidcmegacibaaDoorZQ3g6

namespace Go.Proofs.YtfjidcmegacibaaDoor.Q
open Go.RowKit Go.Proofs.YtfjidcmegacibaaDoorW.PrintWords Go.Proofs.YtfjidcmegacibaaDoorW.PrintLast Go.Proofs.YtfjidcmegacibaaDoorW.PrintMore
set_option linter.unusedVariables false
set_option linter.unusedSimpArgs false
attribute [local go_sem] max2_int min2_int max_two min_two max_three min_three max_four min_four   
def stowageref4_wide.l0 : Nat → Int → ByteArray → Option (ByteArray)
 | 0, _, _ => none
 | k + 1, x1, x5 => if (x5.size : Int) < x1 then (if 1 + x5.size ≤ 9223372036854775807 then (stowageref4_wide.l0 k x1 ((⟨#[48]⟩ : ByteArray) ++ x5)) else (none)) else (some x5)
def stowageref4_wide.f (k : Nat) (a0 : Int) (a1 : Int) : Option (ByteArray) := (stowageref1_Text.f k a0).bind fun t120 => (stowageref4_wide.l0 k a1 t120)
theorem stowageref4_wide.mono_l : ∀ k, (∀ y0 y1, LeO (stowageref4_wide.l0 k y0 y1) (stowageref4_wide.l0 (k + 1) y0 y1))
 | 0 => fun _ _ r h => by simp [stowageref4_wide.l0] at h
 | k + 1 => by
  have ih0 := stowageref4_wide.mono_l k
  ·intro y0 y1
   unfold stowageref4_wide.l0
   repeat' first
   | (with_reducible exact ih0 _ _)
   | (with_reducible exact stowageref1_Text.mono _ _)
   | (with_reducible exact LeO.refl _)
   | (with_reducible exact LeO.none _)
   | (with_reducible refine LeO.ite ?_ ?_)
   | (with_reducible refine LeO.bind ?_ (fun _ => ?_))
   | exact ih0 _ _
   | exact stowageref1_Text.mono _ _
   | exact LeO.none _
   | refine LeO.ite ?_ ?_
   | refine LeO.bind ?_ (fun _ => ?_)
theorem stowageref4_wide.mono : ∀ a0 a1 k, LeO (stowageref4_wide.f k a0 a1) (stowageref4_wide.f (k + 1) a0 a1) := by
 intro a0 a1 k
 have ih0 := stowageref4_wide.mono_l k
 unfold stowageref4_wide.f
 repeat' first
   | (with_reducible exact ih0 _ _)
   | (with_reducible exact stowageref1_Text.mono _ _)
   | (with_reducible exact LeO.refl _)
   | (with_reducible exact LeO.none _)
   | (with_reducible refine LeO.ite ?_ ?_)
   | (with_reducible refine LeO.bind ?_ (fun _ => ?_))
   | exact ih0 _ _
   | exact stowageref1_Text.mono _ _
   | exact LeO.none _
   | refine LeO.ite ?_ ?_
   | refine LeO.bind ?_ (fun _ => ?_)
set_option maxHeartbeats 8000000 in
set_option maxRecDepth 100000 in
theorem stowageref4_wide.calls (k : Nat) (a0 : Int) (a1 : Int) (r : ByteArray) (w : World) (h : stowageref4_wide.f k a0 a1 = some r) :
  Calls Tryd.prog 39 #[.int .i64 a0, .int .i64 a1] w fun e w' => e = .returned (.string r) ∧ Drawn0 w w' := by
 unfold stowageref4_wide.f at h
 have H := h
 clear h
 replace H := bndO H
 obtain ⟨t120, A30, H⟩ := H
 have A3 := Aside0.mk A30
 clear A30
 have H' := Aside0.mk H
 clear H
 go_enter Tryd.func39, Tryd.ntmps39
 go_wp2_with (first | ((with_reducible refine gate_callee (f := 21) rfl ?_); refine goesL_ (some 7) rfl rfl Tryd.func21 (by kernel_rfl) rfl #[.int .i64 a0] rfl (by (try simp only [List.map_toArray, List.map_cons, List.map_nil]); first | done | rfl | (simp only [List.length_drop, List.length_take]; rfl)) ?_; (with_reducible refine (stowageref1_Text.calls k a0 t120 _ A3.out).mono ?_); rintro e w' ⟨rfl, ⟨nd, rfl⟩⟩; refine ⟨_, rfl, ?_⟩))
 go_loopg [5] k (fun kq v5 w' => ∃ (x5_1 : ByteArray), v5 = .string x5_1 ∧ Aside0 (stowageref4_wide.l0 kq a1 x5_1 = some r) ∧ Aside0 (kq ≤ k) ∧ Drawn0 w w')
 case atStart => exact ⟨(t120), (by first | rfl | (simp; done) | (simp [*]; done)), H', ⟨Nat.le_refl _⟩, by repeat (first | exact Drawn0.refl _ | apply Drawn0.step)⟩
 case round =>
  clear H'
  try clear c2
  try clear p2
  try clear c3
  obtain ⟨x5_1, rfl, HA, HK1, ⟨m1, rfl⟩⟩ := hrel
  cases gk with
  | zero => exact absurd HA.out (by simp [stowageref4_wide.l0])
  | succ k1 =>
   have H := HA.out
   clear HA
   simp only [stowageref4_wide.l0] at H
   replace H := itO H
   rcases H with ⟨c4, H⟩ | ⟨c4, H⟩
   ·skip
    have c4b0 : decide ((x5_1.size : Int) < a1) = true := decide_eq_true c4
    clear c4
    replace H := itO H
    rcases H with ⟨c5, H⟩ | ⟨c5, H⟩
    ·skip
     have c5b0 := eq_true c5
     have c5b1 := decide_eq_true c5
     try have c5b2 := eq_false (Nat.not_lt.2 c5)
     try (have c5n : 1 + x5_1.size ≤ 9223372036854775807 := by have h_ := c5; simp only [ByteArray.size_append, ByteArray.size_extract] at h_; exact h_)
     try have c5f : (9223372036854775807 < 1 + x5_1.size) = False := eq_false (by first | omega | (simp only [eq_iff_iff, iff_true] at *; omega))
     have H' := Aside0.mk H
     clear H
     go_wp2
     go_roundg k1
     case measure => have := HK1.out; omega
     case rel => exact ⟨((⟨#[48]⟩ : ByteArray) ++ x5_1), (by first | rfl | (simp; done) | (simp [*]; done)), H', ⟨by have := HK1.out; omega⟩, by repeat (first | exact Drawn0.refl _ | apply Drawn0.step)⟩
    ·exact absurd H (by simp)
   ·skip
    have c4b0 : decide ((x5_1.size : Int) < a1) = false := decide_eq_false c4
    clear c4
    obtain rfl := Option.some.inj H
    go_wp2
    go_ret
    exact ⟨by first | rfl | (simp; done) | (simp [*]; done), by repeat (first | exact Drawn0.refl _ | apply Drawn0.step)⟩
end Go.Proofs.YtfjidcmegacibaaDoor.Q
