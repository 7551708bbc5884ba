/- A part of the proof of the seat's laws. No condition beyond those in the theorems. -/
import Derived.Test.YthjofhklkkmdoaaZXWg2

namespace Go.Proofs.Ythjofhklkkmdoaa.Q
open Go.RowKit Go.Proofs.YthjofhklkkmdoaaW.PrintWords Go.Proofs.YthjofhklkkmdoaaW.PrintLast Go.Proofs.YthjofhklkkmdoaaW.PrintMore
set_option linter.unusedVariables false
set_option linter.unusedSimpArgs false
attribute [local go_sem] max2_int min2_int max_two min_two max_three min_three max_four min_four   
def stowagelaw21_CondPairs_1.f (a0 : ByteArray) : Option (ByteArray) := if 10 + a0.size ≤ 9223372036854775807 then (if ((⟨#[32, 87, 47, 34, 122, 122, 34, 44, 32, 34]⟩ : ByteArray) ++ a0).size + 2 ≤ 9223372036854775807 then (some (((⟨#[32, 87, 47, 34, 122, 122, 34, 44, 32, 34]⟩ : ByteArray) ++ a0) ++ (⟨#[34, 32]⟩ : ByteArray))) else (none)) else (none)
set_option maxHeartbeats 8000000 in
set_option maxRecDepth 100000 in
theorem stowagelaw21_CondPairs_1.calls (a0 : ByteArray) (r : ByteArray) (w : World) (h : stowagelaw21_CondPairs_1.f a0 = some r) :
  Calls Try.prog 18 #[.string a0] w fun e w' => e = .returned (.string r) ∧ Drawn0 w w' := by
 have H : (if 10 + a0.size ≤ 9223372036854775807 then (if ((⟨#[32, 87, 47, 34, 122, 122, 34, 44, 32, 34]⟩ : ByteArray) ++ a0).size + 2 ≤ 9223372036854775807 then (some (((⟨#[32, 87, 47, 34, 122, 122, 34, 44, 32, 34]⟩ : ByteArray) ++ a0) ++ (⟨#[34, 32]⟩ : ByteArray))) else (none)) else (none)) = some r := h
 clear h
 by_cases c2 : 10 + a0.size ≤ 9223372036854775807
 ·rw [if_pos c2] at H
  have c2b0 := eq_true c2
  have c2b1 : decide (10 + a0.size ≤ 9223372036854775807) = true := decide_eq_true c2
  try have c2b2 : (9223372036854775807 < 10 + a0.size) = False := eq_false (Nat.not_lt.2 c2)
  try (have c2n : 10 + a0.size ≤ 9223372036854775807 := by have h_ := c2; simp only [ByteArray.size_append, ByteArray.size_extract] at h_; exact h_)
  try have c2f : (9223372036854775807 < 10 + a0.size) = False := eq_false (by first | omega | (simp only [eq_iff_iff, iff_true] at *; omega))
  by_cases c3 : ((⟨#[32, 87, 47, 34, 122, 122, 34, 44, 32, 34]⟩ : ByteArray) ++ a0).size + 2 ≤ 9223372036854775807
  ·rw [if_pos c3] at H
   have c3b0 := eq_true c3
   have c3b1 : decide (((⟨#[32, 87, 47, 34, 122, 122, 34, 44, 32, 34]⟩ : ByteArray) ++ a0).size + 2 ≤ 9223372036854775807) = true := decide_eq_true c3
   try have c3b2 : (9223372036854775807 < ((⟨#[32, 87, 47, 34, 122, 122, 34, 44, 32, 34]⟩ : ByteArray) ++ a0).size + 2) = False := eq_false (Nat.not_lt.2 c3)
   try (have c3n : 10 + a0.size + 2 ≤ 9223372036854775807 := by have h_ := c3; simp only [ByteArray.size_append, ByteArray.size_extract] at h_; exact h_)
   try have c3f : (9223372036854775807 < 10 + a0.size + 2) = False := eq_false (by first | omega | (simp only [eq_iff_iff, iff_true] at *; omega))
   obtain rfl := Option.some.inj H
   go_enter Try.func18, Try.ntmps18
   go_wp2
   go_ret
   exact ⟨by first | rfl | (simp; done) | (simp [*]; done), by repeat (first | exact Drawn0.refl _ | apply Drawn0.step)⟩
  ·rw [if_neg c3] at H
   exact absurd H (by simp)
 ·rw [if_neg c2] at H
  exact absurd H (by simp)
end Go.Proofs.Ythjofhklkkmdoaa.Q
