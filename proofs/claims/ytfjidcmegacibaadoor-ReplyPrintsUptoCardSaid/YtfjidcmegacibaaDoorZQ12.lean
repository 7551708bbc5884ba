/- A part of the proof of the seat's laws. No condition beyond those in the theorems. -/
import Derived.Test.YtfjidcmegacibaaDoorZMarkB
import Derived.Test.YtfjidcmegacibaaDoorZQ0g2
import Derived.Test.YtfjidcmegacibaaDoorZQ2
import Derived.Test.YtfjidcmegacibaaDoorZQ3g6
import Derived.Test.YtfjidcmegacibaaDoorZQ11

namespace Go.Proofs.YtfjidcmegacibaaDoor.Q
open Go.RowKit Go.Proofs.YtfjidcmegacibaaDoorW.PrintWords Go.Proofs.YtfjidcmegacibaaDoorW.PrintLast Go.Proofs.YtfjidcmegacibaaDoorW.PrintMore
set_option linter.unusedVariables false
set_option linter.unusedSimpArgs false
attribute [local go_sem] max2_int min2_int max_two min_two max_three min_three max_four min_four   
mutual
def stowageref17_Print.l0 : Nat → Bool → Bool → ByteArray → Int → Int → List (S52) → List Int → Option (List Int)
 | 0, _, _, _, _, _, _, _ => none
 | k + 1, x1, x4, x11, x12, x135000, x135001, x135002 => if x12 < (x135001.length : Int) then (if 0 ≤ x12 then (if x11.size + ((rd_T52 x135001 x12).f0).size ≤ 9223372036854775807 then (if (x11 ++ ((rd_T52 x135001 x12).f0)).size + 2 ≤ 9223372036854775807 then (if ((x11 ++ ((rd_T52 x135001 x12).f0)) ++ (⟨#[58, 32]⟩ : ByteArray)).size + ((rd_T52 x135001 x12).f1).size ≤ 9223372036854775807 then (if (((x11 ++ ((rd_T52 x135001 x12).f0)) ++ (⟨#[58, 32]⟩ : ByteArray)) ++ ((rd_T52 x135001 x12).f1)).size + 2 ≤ 9223372036854775807 then (stowageref17_Print.l0 k x1 x4 ((((x11 ++ ((rd_T52 x135001 x12).f0)) ++ (⟨#[58, 32]⟩ : ByteArray)) ++ ((rd_T52 x135001 x12).f1)) ++ (⟨#[13, 10]⟩ : ByteArray)) (wrap64 (x12 + 1)) x135000 x135001 x135002) else (none)) else (none)) else (none)) else (none)) else (none)) else ((stowageref17_Bare.f x135000).bind fun t140 => (if t140 = true then (stowageref17_Print.j1 k x1 x4 x11 x135000 x135001 x135002) else (if x11.size + 16 ≤ 9223372036854775807 then ((stowageref1_Text.f k (x135002.length : Int)).bind fun t141 => (if (x11 ++ (⟨#[67, 111, 110, 116, 101, 110, 116, 45, 76, 101, 110, 103, 116, 104, 58, 32]⟩ : ByteArray)).size + t141.size ≤ 9223372036854775807 then (if ((x11 ++ (⟨#[67, 111, 110, 116, 101, 110, 116, 45, 76, 101, 110, 103, 116, 104, 58, 32]⟩ : ByteArray)) ++ t141).size + 2 ≤ 9223372036854775807 then (stowageref17_Print.j1 k x1 x4 (((x11 ++ (⟨#[67, 111, 110, 116, 101, 110, 116, 45, 76, 101, 110, 103, 116, 104, 58, 32]⟩ : ByteArray)) ++ t141) ++ (⟨#[13, 10]⟩ : ByteArray)) x135000 x135001 x135002) else (none)) else (none))) else (none))))
def stowageref17_Print.j1 : Nat → Bool → Bool → ByteArray → Int → List (S52) → List Int → Option (List Int)
 | 0, _, _, _, _, _, _ => none
 | k + 1, x1, x4, x11, x135000, x135001, x135002 => if x4 = true then (if x11.size + 19 ≤ 9223372036854775807 then (if (x11 ++ (⟨#[67, 111, 110, 110, 101, 99, 116, 105, 111, 110, 58, 32, 99, 108, 111, 115, 101, 13, 10]⟩ : ByteArray)).size + 2 ≤ 9223372036854775807 then (if ((x11 ++ (⟨#[67, 111, 110, 110, 101, 99, 116, 105, 111, 110, 58, 32, 99, 108, 111, 115, 101, 13, 10]⟩ : ByteArray)) ++ (⟨#[13, 10]⟩ : ByteArray)).size ≤ 140737488355328 then ((some (bytesOf ((x11 ++ (⟨#[67, 111, 110, 110, 101, 99, 116, 105, 111, 110, 58, 32, 99, 108, 111, 115, 101, 13, 10]⟩ : ByteArray)) ++ (⟨#[13, 10]⟩ : ByteArray)) : List Int)).bind fun y142 => (if x1 = true then (some y142) else ((stowageref17_Bare.f x135000).bind fun t145 => (if t145 = true then (some y142) else (if y142.length + x135002.length ≤ 140737488355328 then (some (y142 ++ x135002)) else (none)))))) else (none)) else (none)) else (none)) else (if x11.size + 2 ≤ 9223372036854775807 then (if (x11 ++ (⟨#[13, 10]⟩ : ByteArray)).size ≤ 140737488355328 then ((some (bytesOf (x11 ++ (⟨#[13, 10]⟩ : ByteArray)) : List Int)).bind fun y149 => (if x1 = true then (some y149) else ((stowageref17_Bare.f x135000).bind fun t152 => (if t152 = true then (some y149) else (if y149.length + x135002.length ≤ 140737488355328 then (some (y149 ++ x135002)) else (none)))))) else (none)) else (none))
end
def stowageref17_Print.f (k : Nat) (a0_0 : Int) (l0_1 : List (S52)) (l0_2 : List Int) (a1 : Bool) (a2 : Int) (a3 : ByteArray) (a4 : Bool) : Option (List Int) := (stowageref1_Text.f k a0_0).bind fun t135 => (if 9 + t135.size ≤ 9223372036854775807 then (if ((⟨#[72, 84, 84, 80, 47, 49, 46, 49, 32]⟩ : ByteArray) ++ t135).size + 1 ≤ 9223372036854775807 then ((stowageref17_Phrase.f k a0_0).bind fun t136 => (if (((⟨#[72, 84, 84, 80, 47, 49, 46, 49, 32]⟩ : ByteArray) ++ t135) ++ (⟨#[32]⟩ : ByteArray)).size + t136.size ≤ 9223372036854775807 then (if ((((⟨#[72, 84, 84, 80, 47, 49, 46, 49, 32]⟩ : ByteArray) ++ t135) ++ (⟨#[32]⟩ : ByteArray)) ++ t136).size + 25 ≤ 9223372036854775807 then ((stowageref4_Http.f k a2).bind fun t137 => (if (((((⟨#[72, 84, 84, 80, 47, 49, 46, 49, 32]⟩ : ByteArray) ++ t135) ++ (⟨#[32]⟩ : ByteArray)) ++ t136) ++ (⟨#[13, 10, 83, 101, 114, 118, 101, 114, 58, 32, 115, 116, 111, 119, 97, 103, 101, 13, 10, 68, 97, 116, 101, 58, 32]⟩ : ByteArray)).size + t137.size ≤ 9223372036854775807 then (if ((((((⟨#[72, 84, 84, 80, 47, 49, 46, 49, 32]⟩ : ByteArray) ++ t135) ++ (⟨#[32]⟩ : ByteArray)) ++ t136) ++ (⟨#[13, 10, 83, 101, 114, 118, 101, 114, 58, 32, 115, 116, 111, 119, 97, 103, 101, 13, 10, 68, 97, 116, 101, 58, 32]⟩ : ByteArray)) ++ t137).size + 20 ≤ 9223372036854775807 then (if (((((((⟨#[72, 84, 84, 80, 47, 49, 46, 49, 32]⟩ : ByteArray) ++ t135) ++ (⟨#[32]⟩ : ByteArray)) ++ t136) ++ (⟨#[13, 10, 83, 101, 114, 118, 101, 114, 58, 32, 115, 116, 111, 119, 97, 103, 101, 13, 10, 68, 97, 116, 101, 58, 32]⟩ : ByteArray)) ++ t137) ++ (⟨#[13, 10, 120, 45, 97, 109, 122, 45, 114, 101, 113, 117, 101, 115, 116, 45, 105, 100, 58, 32]⟩ : ByteArray)).size + a3.size ≤ 9223372036854775807 then (if ((((((((⟨#[72, 84, 84, 80, 47, 49, 46, 49, 32]⟩ : ByteArray) ++ t135) ++ (⟨#[32]⟩ : ByteArray)) ++ t136) ++ (⟨#[13, 10, 83, 101, 114, 118, 101, 114, 58, 32, 115, 116, 111, 119, 97, 103, 101, 13, 10, 68, 97, 116, 101, 58, 32]⟩ : ByteArray)) ++ t137) ++ (⟨#[13, 10, 120, 45, 97, 109, 122, 45, 114, 101, 113, 117, 101, 115, 116, 45, 105, 100, 58, 32]⟩ : ByteArray)) ++ a3).size + 2 ≤ 9223372036854775807 then (stowageref17_Print.l0 k a1 a4 (((((((((⟨#[72, 84, 84, 80, 47, 49, 46, 49, 32]⟩ : ByteArray) ++ t135) ++ (⟨#[32]⟩ : ByteArray)) ++ t136) ++ (⟨#[13, 10, 83, 101, 114, 118, 101, 114, 58, 32, 115, 116, 111, 119, 97, 103, 101, 13, 10, 68, 97, 116, 101, 58, 32]⟩ : ByteArray)) ++ t137) ++ (⟨#[13, 10, 120, 45, 97, 109, 122, 45, 114, 101, 113, 117, 101, 115, 116, 45, 105, 100, 58, 32]⟩ : ByteArray)) ++ a3) ++ (⟨#[13, 10]⟩ : ByteArray)) 0 a0_0 l0_1 l0_2) else (none)) else (none)) else (none)) else (none))) else (none)) else (none))) else (none)) else (none))
theorem stowageref17_Print.mono_l : ∀ k, (∀ y0 y1 y2 y3 y4 y5 y6, LeO (stowageref17_Print.l0 k y0 y1 y2 y3 y4 y5 y6) (stowageref17_Print.l0 (k + 1) y0 y1 y2 y3 y4 y5 y6)) ∧ (∀ y0 y1 y2 y3 y4 y5, LeO (stowageref17_Print.j1 k y0 y1 y2 y3 y4 y5) (stowageref17_Print.j1 (k + 1) y0 y1 y2 y3 y4 y5))
 | 0 => ⟨fun _ _ _ _ _ _ _ r h => by simp [stowageref17_Print.l0] at h, fun _ _ _ _ _ _ r h => by simp [stowageref17_Print.j1] at h⟩
 | k + 1 => by
  obtain ⟨ih0, ih1⟩ := stowageref17_Print.mono_l k
  refine ⟨?_, ?_⟩
  ·intro y0 y1 y2 y3 y4 y5 y6
   unfold stowageref17_Print.l0
   repeat' first
   | (with_reducible exact ih0 _ _ _ _ _ _ _)
   | (with_reducible exact ih1 _ _ _ _ _ _)
   | (with_reducible exact stowageref17_Phrase.mono _ _)
   | (with_reducible exact stowageref1_Text.mono _ _)
   | (with_reducible exact stowageref4_Http.mono _ _)
   | (with_reducible exact LeO.refl _)
   | (with_reducible exact LeO.none _)
   | (with_reducible refine LeO.ite ?_ ?_)
   | (with_reducible refine LeO.bind ?_ (fun _ => ?_))
   | exact ih0 _ _ _ _ _ _ _
   | exact ih1 _ _ _ _ _ _
   | exact stowageref17_Phrase.mono _ _
   | exact stowageref1_Text.mono _ _
   | exact stowageref4_Http.mono _ _
   | exact LeO.none _
   | refine LeO.ite ?_ ?_
   | refine LeO.bind ?_ (fun _ => ?_)
  ·intro y0 y1 y2 y3 y4 y5
   unfold stowageref17_Print.j1
   repeat' first
   | (with_reducible exact ih0 _ _ _ _ _ _ _)
   | (with_reducible exact ih1 _ _ _ _ _ _)
   | (with_reducible exact stowageref17_Phrase.mono _ _)
   | (with_reducible exact stowageref1_Text.mono _ _)
   | (with_reducible exact stowageref4_Http.mono _ _)
   | (with_reducible exact LeO.refl _)
   | (with_reducible exact LeO.none _)
   | (with_reducible refine LeO.ite ?_ ?_)
   | (with_reducible refine LeO.bind ?_ (fun _ => ?_))
   | exact ih0 _ _ _ _ _ _ _
   | exact ih1 _ _ _ _ _ _
   | exact stowageref17_Phrase.mono _ _
   | exact stowageref1_Text.mono _ _
   | exact stowageref4_Http.mono _ _
   | exact LeO.none _
   | refine LeO.ite ?_ ?_
   | refine LeO.bind ?_ (fun _ => ?_)
theorem stowageref17_Print.mono : ∀ a0 a1 a2 a3 a4 a5 a6 k, LeO (stowageref17_Print.f k a0 a1 a2 a3 a4 a5 a6) (stowageref17_Print.f (k + 1) a0 a1 a2 a3 a4 a5 a6) := by
 intro a0 a1 a2 a3 a4 a5 a6 k
 obtain ⟨ih0, ih1⟩ := stowageref17_Print.mono_l k
 unfold stowageref17_Print.f
 repeat' first
   | (with_reducible exact ih0 _ _ _ _ _ _ _)
   | (with_reducible exact ih1 _ _ _ _ _ _)
   | (with_reducible exact stowageref17_Phrase.mono _ _)
   | (with_reducible exact stowageref1_Text.mono _ _)
   | (with_reducible exact stowageref4_Http.mono _ _)
   | (with_reducible exact LeO.refl _)
   | (with_reducible exact LeO.none _)
   | (with_reducible refine LeO.ite ?_ ?_)
   | (with_reducible refine LeO.bind ?_ (fun _ => ?_))
   | exact ih0 _ _ _ _ _ _ _
   | exact ih1 _ _ _ _ _ _
   | exact stowageref17_Phrase.mono _ _
   | exact stowageref1_Text.mono _ _
   | exact stowageref4_Http.mono _ _
   | exact LeO.none _
   | refine LeO.ite ?_ ?_
   | refine LeO.bind ?_ (fun _ => ?_)
def stowageref17_Print.T1 : Bool × List (List Nat × List Nat) := (true, [([], []), ([0], [0]), ([1], [1]), ([2], [2]), ([3], [3]), ([], []), ([5], [5]), ([6, 2], [6]), ([4, 7], [4, 7]), ([8], [8]), ([], []), ([10, 7], [10]), ([9, 11], [9, 11]), ([12], [12]), ([], []), ([13, 14], [13, 14]), ([15], [15]), ([16, 11, 0, 1, 2, 3, 4, 5, 6, 7, 8, 9, 10, 11, 12, 13, 14, 15, 16], [16])])
def stowageref17_Print.B1 : List Nat := [0, 1, 3, 7, 15, 0, 32, 103, 255, 511, 0, 1255, 4095, 8191, 0, 32767, 65535, 131071]
theorem stowageref17_Print.tab1 : rtab .any (opsOf Tryd.f7 1) = stowageref17_Print.T1 := by kernel_rfl
theorem stowageref17_Print.bits1 : waitsOk stowageref17_Print.T1.2 stowageref17_Print.B1 = true := by kernel_rfl
def stowageref17_Print.T5 : Bool × List (List Nat × List Nat) := (true, [([], []), ([], []), ([1], [1]), ([], []), ([2, 3], [2, 3]), ([4], [4]), ([5], [5]), ([0, 6], [0, 6]), ([7], [7]), ([], []), ([9], [9]), ([], []), ([10, 11], [10, 11]), ([12], [12]), ([13], [13]), ([8, 14], [8, 14]), ([15], [15]), ([16, 0, 1, 2, 3, 4, 5, 6, 7, 8, 9, 10, 11, 12, 13, 14, 15, 16], [0, 16])])
def stowageref17_Print.B5 : List Nat := [0, 0, 2, 0, 14, 30, 62, 127, 255, 0, 512, 0, 3584, 7680, 15872, 32767, 65535, 131071]
theorem stowageref17_Print.tab5 : rtab .any (opsOf Tryd.f7 5) = stowageref17_Print.T5 := by kernel_rfl
theorem stowageref17_Print.bits5 : waitsOk stowageref17_Print.T5.2 stowageref17_Print.B5 = true := by kernel_rfl
set_option maxHeartbeats 8000000 in
set_option maxRecDepth 100000 in
theorem stowageref17_Print.calls (k : Nat) (a0_0 : Int) (A0_1 : Option Addr) (c0_1 : Nat) (l0_1 : List (S52)) (A0_2 : Option Addr) (c0_2 : Nat) (l0_2 : List Int) (a1 : Bool) (a2 : Int) (a3 : ByteArray) (a4 : Bool) (r : List Int) (w : World) (hr0_1 : Kd.C k52 w A0_1 l0_1.length l0_1) (hc0_1 : l0_1.length ≤ c0_1) (hr0_2 : Kd.C (Kd.int .u8) w A0_2 l0_2.length l0_2) (hc0_2 : l0_2.length ≤ c0_2) (h : stowageref17_Print.f k a0_0 l0_1 l0_2 a1 a2 a3 a4 = some r) :
  Calls Tryd.prog 7 #[.agg #[.int .i64 a0_0, .slice A0_1 l0_1.length c0_1, .slice A0_2 l0_2.length c0_2], .bool a1, .int .i64 a2, .string a3, .bool a4] w fun e w' => ∃ v0_ : Value, e = .returned (v0_) ∧ Kd.V (Kd.int .u8) 5 w' w.heap.size (fun k_ => (w.heap.size ≤ k_)) v0_ r ∧ Below w.heap.size w w' := by
 have hu27 := Tryd.underlying27
 have HR0_1 := Aside0.mk hr0_1
 have HC0_1 := Aside0.mk hc0_1
 clear hr0_1 hc0_1
 have HR0_2 := Aside0.mk hr0_2
 have HC0_2 := Aside0.mk hc0_2
 clear hr0_2 hc0_2
 have HB := Aside0.mk (Below.refl w.heap.size w)
 unfold stowageref17_Print.f at h
 have H := h
 clear h
 replace H := bndO H
 obtain ⟨t135, A60, H⟩ := H
 have A6 := Aside0.mk A60
 clear A60
 replace H := itO H
 rcases H with ⟨c7, H⟩ | ⟨c7, H⟩
 ·skip
  have c7b0 := eq_true c7
  have c7b1 := decide_eq_true c7
  try have c7b2 := eq_false (Nat.not_lt.2 c7)
  try (have c7n : 9 + t135.size ≤ 9223372036854775807 := by have h_ := c7; simp only [ByteArray.size_append, ByteArray.size_extract] at h_; exact h_)
  try have c7f : (9223372036854775807 < 9 + t135.size) = False := eq_false (by first | omega | (simp only [eq_iff_iff, iff_true] at *; omega))
  replace H := itO H
  rcases H with ⟨c8, H⟩ | ⟨c8, H⟩
  ·skip
   have c8b0 := eq_true c8
   have c8b1 := decide_eq_true c8
   try have c8b2 := eq_false (Nat.not_lt.2 c8)
   try (have c8n : 9 + t135.size + 1 ≤ 9223372036854775807 := by have h_ := c8; simp only [ByteArray.size_append, ByteArray.size_extract] at h_; exact h_)
   try have c8f : (9223372036854775807 < 9 + t135.size + 1) = False := eq_false (by first | omega | (simp only [eq_iff_iff, iff_true] at *; omega))
   replace H := bndO H
   obtain ⟨t136, A90, H⟩ := H
   have A9 := Aside0.mk A90
   clear A90
   replace H := itO H
   rcases H with ⟨c10, H⟩ | ⟨c10, H⟩
   ·skip
    have c10b0 := eq_true c10
    have c10b1 := decide_eq_true c10
    try have c10b2 := eq_false (Nat.not_lt.2 c10)
    try (have c10n : 9 + t135.size + 1 + t136.size ≤ 9223372036854775807 := by have h_ := c10; simp only [ByteArray.size_append, ByteArray.size_extract] at h_; exact h_)
    try have c10f : (9223372036854775807 < 9 + t135.size + 1 + t136.size) = False := eq_false (by first | omega | (simp only [eq_iff_iff, iff_true] at *; omega))
    replace H := itO H
    rcases H with ⟨c11, H⟩ | ⟨c11, H⟩
    ·skip
     have c11b0 := eq_true c11
     have c11b1 := decide_eq_true c11
     try have c11b2 := eq_false (Nat.not_lt.2 c11)
     try (have c11n : 9 + t135.size + 1 + t136.size + 25 ≤ 9223372036854775807 := by have h_ := c11; simp only [ByteArray.size_append, ByteArray.size_extract] at h_; exact h_)
     try have c11f : (9223372036854775807 < 9 + t135.size + 1 + t136.size + 25) = False := eq_false (by first | omega | (simp only [eq_iff_iff, iff_true] at *; omega))
     replace H := bndO H
     obtain ⟨t137, A120, H⟩ := H
     have A12 := Aside0.mk A120
     clear A120
     replace H := itO H
     rcases H with ⟨c13, H⟩ | ⟨c13, H⟩
     ·skip
      have c13b0 := eq_true c13
      have c13b1 := decide_eq_true c13
      try have c13b2 := eq_false (Nat.not_lt.2 c13)
      try (have c13n : 9 + t135.size + 1 + t136.size + 25 + t137.size ≤ 9223372036854775807 := by have h_ := c13; simp only [ByteArray.size_append, ByteArray.size_extract] at h_; exact h_)
      try have c13f : (9223372036854775807 < 9 + t135.size + 1 + t136.size + 25 + t137.size) = False := eq_false (by first | omega | (simp only [eq_iff_iff, iff_true] at *; omega))
      replace H := itO H
      rcases H with ⟨c14, H⟩ | ⟨c14, H⟩
      ·skip
       have c14b0 := eq_true c14
       have c14b1 := decide_eq_true c14
       try have c14b2 := eq_false (Nat.not_lt.2 c14)
       try (have c14n : 9 + t135.size + 1 + t136.size + 25 + t137.size + 20 ≤ 9223372036854775807 := by have h_ := c14; simp only [ByteArray.size_append, ByteArray.size_extract] at h_; exact h_)
       try have c14f : (9223372036854775807 < 9 + t135.size + 1 + t136.size + 25 + t137.size + 20) = False := eq_false (by first | omega | (simp only [eq_iff_iff, iff_true] at *; omega))
       replace H := itO H
       rcases H with ⟨c15, H⟩ | ⟨c15, H⟩
       ·skip
        have c15b0 := eq_true c15
        have c15b1 := decide_eq_true c15
        try have c15b2 := eq_false (Nat.not_lt.2 c15)
        try (have c15n : 9 + t135.size + 1 + t136.size + 25 + t137.size + 20 + a3.size ≤ 9223372036854775807 := by have h_ := c15; simp only [ByteArray.size_append, ByteArray.size_extract] at h_; exact h_)
        try have c15f : (9223372036854775807 < 9 + t135.size + 1 + t136.size + 25 + t137.size + 20 + a3.size) = False := eq_false (by first | omega | (simp only [eq_iff_iff, iff_true] at *; omega))
        replace H := itO H
        rcases H with ⟨c16, H⟩ | ⟨c16, H⟩
        ·skip
         have c16b0 := eq_true c16
         have c16b1 := decide_eq_true c16
         try have c16b2 := eq_false (Nat.not_lt.2 c16)
         try (have c16n : 9 + t135.size + 1 + t136.size + 25 + t137.size + 20 + a3.size + 2 ≤ 9223372036854775807 := by have h_ := c16; simp only [ByteArray.size_append, ByteArray.size_extract] at h_; exact h_)
         try have c16f : (9223372036854775807 < 9 + t135.size + 1 + t136.size + 25 + t137.size + 20 + a3.size + 2) = False := eq_false (by first | omega | (simp only [eq_iff_iff, iff_true] at *; omega))
         have H' := Aside0.mk H
         clear H
         go_enter Tryd.func7, Tryd.ntmps7
         try go_wp2_with (first | ((with_reducible refine gate_dst (N := 5) rfl ?_); refine box_event ?hg (N := 5) ?hd (cs := #[.int .i64 a0_0, .slice A0_1 l0_1.length c0_1, .slice A0_2 l0_2.length c0_2]) (t := 27) ?hr ?_; (case hd => rfl); (case hg => rfl); (case hr => first | (go_simp; done) | (go_simp; rfl)); intro gb134 hg w17 hbox hb; have n0_ := Aside0.mk (below_step (by repeat (first | (with_reducible first | exact HB.out | apply below_alloc | apply pw_below_drewN | apply below_drew1) | exact HB.out)) hb); have n1_ := Aside0.mk (hbox); have n2_ := Aside0.mk ((by rw [hg]; exact (below_size (by repeat (first | (with_reducible first | exact HB.out | apply below_alloc | apply pw_below_drewN | apply below_drew1) | exact HB.out))) : w.heap.size ≤ gb134)); have n3_ := Aside0.mk ((by rw [hg]; exact (below_size (by repeat (first | (with_reducible first | exact HB.out | apply below_alloc | apply pw_below_drewN | apply below_drew1) | exact HB.out))) : w.heap.size ≤ gb134)); clear HB; have HB := n0_; have BK134 := n1_; have GW134 := n2_; have GE134 := n3_; clear n0_ n1_ n2_ n3_; clear hb hbox hg))
         have n0_ := Aside0.mk (blk_drew BK134.out)
         have n1_ := Aside0.mk (below_drew1 HB.out)
         clear BK134
         clear HB
         have BK134 := n0_
         have HB := n1_
         clear n0_ n1_
         refine start_ (n := 18) (S := fun w' => w'.cell? ⟨gb134, 0, none⟩ = some (.int .i64 a0_0) ∧ w'.cell? ⟨gb134, 1, none⟩ = some (.slice A0_1 l0_1.length c0_1) ∧ w'.cell? ⟨gb134, 2, none⟩ = some (.slice A0_2 l0_2.length c0_2)) (ds := []) #[false, false, false, false, false, false, false, false, false, false, false, false, false, false, false, false, false, false] (by kernel_rfl) rfl rfl ⟨(blk_cell BK134.out 0).trans rfl, (blk_cell BK134.out 1).trans rfl, (blk_cell BK134.out 2).trans rfl⟩ (fun hHeld => ?_); refine with_tabW stowageref17_Print.tab1 stowageref17_Print.bits1 (fun HT_ HW_ => ?_)
         generalize w17.drew = w18 at BK134 HB hHeld ⊢
         refine pure_ (i := 0) (N := some 14) (v := ?_) (a' := ?_) #[true, false, false, false, false, false, false, false, false, false, false, false, false, false, false, false, false, false] rfl rfl (any_of HT_.out (by kernel_rfl)) (fun _ _ _ h => h) (Or.inl ⟨by rfl, ?_⟩) ?_ ?_
         rotate_left
         ·intro w'
          go_simp
          with_reducible rfl
         rotate_left
         ·simp only [Act.put, List.setIfInBounds_toArray, List.set_cons_zero, List.set_cons_succ, i64_w, i32_w]
          rfl
         refine pure_ (i := 5) (N := some 19) (v := ?_) (a' := ?_) #[true, false, false, false, false, true, false, false, false, false, false, false, false, false, false, false, false, false] rfl rfl (any_of HT_.out (by kernel_rfl)) (fun _ _ _ h => h) (Or.inl ⟨by rfl, ?_⟩) ?_ ?_
         rotate_left
         ·intro w'
          go_simp
          with_reducible rfl
         rotate_left
         ·simp only [Act.put, List.setIfInBounds_toArray, List.set_cons_zero, List.set_cons_succ, i64_w, i32_w]
          rfl
         refine pure_ (i := 10) (N := some 24) (v := ?_) (a' := ?_) #[true, false, false, false, false, true, false, false, false, false, true, false, false, false, false, false, false, false] rfl rfl (any_of HT_.out (by kernel_rfl)) (fun _ _ _ h => h) (Or.inl ⟨by rfl, ?_⟩) ?_ ?_
         rotate_left
         ·intro w'
          go_simp
          with_reducible rfl
         rotate_left
         ·simp only [Act.put, List.setIfInBounds_toArray, List.set_cons_zero, List.set_cons_succ, i64_w, i32_w]
          rfl
         refine pure_ (i := 14) (N := some 28) (v := ?_) (a' := ?_) #[true, false, false, false, false, true, false, false, false, false, true, false, false, false, true, false, false, false] rfl rfl (any_of HT_.out (by kernel_rfl)) (fun _ _ _ h => h) (Or.inl ⟨by rfl, ?_⟩) ?_ ?_
         rotate_left
         ·intro w'
          go_simp
          with_reducible rfl
         rotate_left
         ·simp only [Act.put, List.setIfInBounds_toArray, List.set_cons_zero, List.set_cons_succ, i64_w, i32_w]
          rfl
         refine take_ (i := 1) (N := some 15) (v := ?_) (a' := ?_) #[true, true, false, false, false, true, false, false, false, false, true, false, false, false, true, false, false, false] rfl rfl (take_ofW HT_.out HW_.out (by kernel_rfl)) (fun _ _ _ h => h) (Or.inl ⟨by rfl, ?_⟩) hHeld ?_ ?_
         rotate_left
         ·rintro w' ⟨s0, s1, s2⟩
          go_simp
          with_reducible rfl
         rotate_left
         ·simp only [Act.put, List.setIfInBounds_toArray, List.set_cons_zero, List.set_cons_succ, i64_w, i32_w]
          rfl
         refine take_ (i := 6) (N := some 20) (v := ?_) (a' := ?_) #[true, true, false, false, false, true, true, false, false, false, true, false, false, false, true, false, false, false] rfl rfl (take_ofW HT_.out HW_.out (by kernel_rfl)) (fun _ _ _ h => h) (Or.inl ⟨by rfl, ?_⟩) hHeld ?_ ?_
         rotate_left
         ·rintro w' ⟨s0, s1, s2⟩
          go_simp
          with_reducible rfl
         rotate_left
         ·simp only [Act.put, List.setIfInBounds_toArray, List.set_cons_zero, List.set_cons_succ, i64_w, i32_w]
          rfl
         refine one_ (i := 2) (N := some 16) #[true, true, true, false, false, true, true, false, false, false, true, false, false, false, true, false, false, false] rfl rfl (one_of HT_.out (by kernel_rfl)) (by decide) (fun K hK => ?_)
         refine goes_ Tryd.func21 (by kernel_rfl) rfl #[.int .i64 a0_0] (by rfl) rfl rfl (by (try simp only [List.map_toArray, List.map_cons, List.map_nil]); first | done | rfl | (simp only [List.length_drop, List.length_take]; rfl)) ?_
         with_reducible refine (stowageref1_Text.calls k a0_0 t135 _ A6.out).mono ?_
         rintro e w' ⟨rfl, ⟨nd, rfl⟩⟩
         refine ⟨_, rfl, ?_⟩
         refine hK.out _ _ ⟨(blk_cell BK134.out 0).trans rfl, (blk_cell BK134.out 1).trans rfl, (blk_cell BK134.out 2).trans rfl⟩ (fun hHeld => ?_)
         clear hK K
         refine norm_ (a' := ?_) ?_ ?_
         rotate_left
         ·show Act.put _ (some 16) _ = _
          simp only [Act.put, List.setIfInBounds_toArray, List.set_cons_zero, List.set_cons_succ, i64_w, i32_w]
          rfl
         refine pure_ (i := 3) (N := some 17) (v := ?_) (a' := ?_) #[true, true, true, true, false, true, true, false, false, false, true, false, false, false, true, false, false, false] rfl rfl (any_of HT_.out (by kernel_rfl)) (fun _ _ _ h => h) (Or.inl ⟨by rfl, ?_⟩) ?_ ?_
         rotate_left
         ·intro w'
          go_simp
          with_reducible rfl
         rotate_left
         ·simp only [Act.put, List.setIfInBounds_toArray, List.set_cons_zero, List.set_cons_succ, i64_w, i32_w]
          rfl
         refine pure_ (i := 4) (N := some 18) (v := ?_) (a' := ?_) #[true, true, true, true, true, true, true, false, false, false, true, false, false, false, true, false, false, false] rfl rfl (any_of HT_.out (by kernel_rfl)) (fun _ _ _ h => h) (Or.inl ⟨by rfl, ?_⟩) ?_ ?_
         rotate_left
         ·intro w'
          go_simp
          with_reducible rfl
         rotate_left
         ·simp only [Act.put, List.setIfInBounds_toArray, List.set_cons_zero, List.set_cons_succ, i64_w, i32_w]
          rfl
         refine one_ (i := 7) (N := some 21) #[true, true, true, true, true, true, true, true, false, false, true, false, false, false, true, false, false, false] rfl rfl (one_of HT_.out (by kernel_rfl)) (by decide) (fun K hK => ?_)
         refine goes_ Tryd.func14 (by kernel_rfl) rfl #[.int .i64 a0_0] (by rfl) rfl rfl (by (try simp only [List.map_toArray, List.map_cons, List.map_nil]); first | done | rfl | (simp only [List.length_drop, List.length_take]; rfl)) ?_
         with_reducible refine (stowageref17_Phrase.calls k a0_0 t136 _ A9.out).mono ?_
         rintro e w19 ⟨rfl, hb⟩
         refine ⟨_, rfl, ?_⟩
         have n0_ := Aside0.mk (blk_below (g := gb134) (o := .cells #[.int .i64 a0_0, .slice A0_1 l0_1.length c0_1, .slice A0_2 l0_2.length c0_2] 27 (0, 0)) (by (with_reducible repeat (first | refine blk_drewN ?_ _ | refine blk_drew ?_ | refine blk_alloc ?_ _)); exact BK134.out) hb)
         have n1_ := Aside0.mk (below_step (by repeat (first | (with_reducible first | exact HB.out | apply below_alloc | apply pw_below_drewN | apply below_drew1 | refine below_set ?_ GE134.out) | exact HB.out)) hb)
         clear BK134
         clear HB
         have BK134 := n0_
         have HB := n1_
         clear n0_ n1_
         (try clear hb)
         (try clear hb2)
         (try clear hk)
         (try clear hi)
         refine hK.out _ _ ⟨(blk_cell BK134.out 0).trans rfl, (blk_cell BK134.out 1).trans rfl, (blk_cell BK134.out 2).trans rfl⟩ (fun hHeld => ?_)
         clear hK K
         refine norm_ (a' := ?_) ?_ ?_
         rotate_left
         ·show Act.put _ (some 21) _ = _
          simp only [Act.put, List.setIfInBounds_toArray, List.set_cons_zero, List.set_cons_succ, i64_w, i32_w]
          rfl
         refine pure_ (i := 8) (N := some 22) (v := ?_) (a' := ?_) #[true, true, true, true, true, true, true, true, true, false, true, false, false, false, true, false, false, false] rfl rfl (any_of HT_.out (by kernel_rfl)) (fun _ _ _ h => h) (Or.inl ⟨by rfl, ?_⟩) ?_ ?_
         rotate_left
         ·intro w'
          go_simp
          with_reducible rfl
         rotate_left
         ·simp only [Act.put, List.setIfInBounds_toArray, List.set_cons_zero, List.set_cons_succ, i64_w, i32_w]
          rfl
         refine pure_ (i := 9) (N := some 23) (v := ?_) (a' := ?_) #[true, true, true, true, true, true, true, true, true, true, true, false, false, false, true, false, false, false] rfl rfl (any_of HT_.out (by kernel_rfl)) (fun _ _ _ h => h) (Or.inl ⟨by rfl, ?_⟩) ?_ ?_
         rotate_left
         ·intro w'
          go_simp
          with_reducible rfl
         rotate_left
         ·simp only [Act.put, List.setIfInBounds_toArray, List.set_cons_zero, List.set_cons_succ, i64_w, i32_w]
          rfl
         refine one_ (i := 11) (N := some 25) #[true, true, true, true, true, true, true, true, true, true, true, true, false, false, true, false, false, false] rfl rfl (one_of HT_.out (by kernel_rfl)) (by decide) (fun K hK => ?_)
         refine goes_ Tryd.func22 (by kernel_rfl) rfl #[.int .i64 a2] (by rfl) rfl rfl (by (try simp only [List.map_toArray, List.map_cons, List.map_nil]); first | done | rfl | (simp only [List.length_drop, List.length_take]; rfl)) ?_
         with_reducible refine (stowageref4_Http.calls k a2 t137 _ A12.out).mono ?_
         rintro e w20 ⟨rfl, hb⟩
         refine ⟨_, rfl, ?_⟩
         have n0_ := Aside0.mk (blk_below (g := gb134) (o := .cells #[.int .i64 a0_0, .slice A0_1 l0_1.length c0_1, .slice A0_2 l0_2.length c0_2] 27 (0, 0)) (by (with_reducible repeat (first | refine blk_drewN ?_ _ | refine blk_drew ?_ | refine blk_alloc ?_ _)); exact BK134.out) hb)
         have n1_ := Aside0.mk (below_step (by repeat (first | (with_reducible first | exact HB.out | apply below_alloc | apply pw_below_drewN | apply below_drew1 | refine below_set ?_ GE134.out) | exact HB.out)) hb)
         clear BK134
         clear HB
         have BK134 := n0_
         have HB := n1_
         clear n0_ n1_
         (try clear hb)
         (try clear hb2)
         (try clear hk)
         (try clear hi)
         refine hK.out _ _ ⟨(blk_cell BK134.out 0).trans rfl, (blk_cell BK134.out 1).trans rfl, (blk_cell BK134.out 2).trans rfl⟩ (fun hHeld => ?_)
         clear hK K
         refine norm_ (a' := ?_) ?_ ?_
         rotate_left
         ·show Act.put _ (some 25) _ = _
          simp only [Act.put, List.setIfInBounds_toArray, List.set_cons_zero, List.set_cons_succ, i64_w, i32_w]
          rfl
         refine pure_ (i := 12) (N := some 26) (v := ?_) (a' := ?_) #[true, true, true, true, true, true, true, true, true, true, true, true, true, false, true, false, false, false] rfl rfl (any_of HT_.out (by kernel_rfl)) (fun _ _ _ h => h) (Or.inl ⟨by rfl, ?_⟩) ?_ ?_
         rotate_left
         ·intro w'
          go_simp
          with_reducible rfl
         rotate_left
         ·simp only [Act.put, List.setIfInBounds_toArray, List.set_cons_zero, List.set_cons_succ, i64_w, i32_w]
          rfl
         refine pure_ (i := 13) (N := some 27) (v := ?_) (a' := ?_) #[true, true, true, true, true, true, true, true, true, true, true, true, true, true, true, false, false, false] rfl rfl (any_of HT_.out (by kernel_rfl)) (fun _ _ _ h => h) (Or.inl ⟨by rfl, ?_⟩) ?_ ?_
         rotate_left
         ·intro w'
          go_simp
          with_reducible rfl
         rotate_left
         ·simp only [Act.put, List.setIfInBounds_toArray, List.set_cons_zero, List.set_cons_succ, i64_w, i32_w]
          rfl
         refine pure_ (i := 15) (N := some 29) (v := ?_) (a' := ?_) #[true, true, true, true, true, true, true, true, true, true, true, true, true, true, true, true, false, false] rfl rfl (any_of HT_.out (by kernel_rfl)) (fun _ _ _ h => h) (Or.inl ⟨by rfl, ?_⟩) ?_ ?_
         rotate_left
         ·intro w'
          go_simp
          with_reducible rfl
         rotate_left
         ·simp only [Act.put, List.setIfInBounds_toArray, List.set_cons_zero, List.set_cons_succ, i64_w, i32_w]
          rfl
         refine pure_ (i := 16) (N := some 30) (v := ?_) (a' := ?_) #[true, true, true, true, true, true, true, true, true, true, true, true, true, true, true, true, true, false] rfl rfl (any_of HT_.out (by kernel_rfl)) (fun _ _ _ h => h) (Or.inl ⟨by rfl, ?_⟩) ?_ ?_
         rotate_left
         ·intro w'
          go_simp
          with_reducible rfl
         rotate_left
         ·simp only [Act.put, List.setIfInBounds_toArray, List.set_cons_zero, List.set_cons_succ, i64_w, i32_w]
          rfl
         refine pure_ (i := 17) (N := some 11) (v := ?_) (a' := ?_) #[true, true, true, true, true, true, true, true, true, true, true, true, true, true, true, true, true, true] rfl rfl (any_of HT_.out (by kernel_rfl)) (fun _ _ _ h => h) (Or.inl ⟨by rfl, ?_⟩) ?_ ?_
         rotate_left
         ·intro w'
          go_simp
          with_reducible rfl
         rotate_left
         ·simp only [Act.put, List.setIfInBounds_toArray, List.set_cons_zero, List.set_cons_succ, i64_w, i32_w]
          rfl
         refine done_ (done_of HT_.out (by kernel_rfl)) ?_
         try go_wp2
         go_loopg [11, 12] k (fun kq v11 v12 w' => ∃ (x11_1 : ByteArray) (x12_1 : Int), v11 = .string x11_1 ∧ v12 = .int .i64 x12_1 ∧ Aside0 (stowageref17_Print.l0 kq a1 a4 x11_1 x12_1 a0_0 l0_1 l0_2 = some r) ∧ Aside0 (kq ≤ k) ∧ Aside0 (w'.heap[gb134]? = some (.cells #[.int .i64 a0_0, (.slice A0_1 l0_1.length c0_1), (.slice A0_2 l0_2.length c0_2)] 27 (0, 0))) ∧ Aside0 (Below w.heap.size w w'))
         case atStart => exact ⟨(((((((((⟨#[72, 84, 84, 80, 47, 49, 46, 49, 32]⟩ : ByteArray) ++ t135) ++ (⟨#[32]⟩ : ByteArray)) ++ t136) ++ (⟨#[13, 10, 83, 101, 114, 118, 101, 114, 58, 32, 115, 116, 111, 119, 97, 103, 101, 13, 10, 68, 97, 116, 101, 58, 32]⟩ : ByteArray)) ++ t137) ++ (⟨#[13, 10, 120, 45, 97, 109, 122, 45, 114, 101, 113, 117, 101, 115, 116, 45, 105, 100, 58, 32]⟩ : ByteArray)) ++ a3) ++ (⟨#[13, 10]⟩ : ByteArray)), (0), (by first | rfl | (simp; done) | (simp [*]; done)), (by first | rfl | (simp; done) | (simp [*]; done)), H', ⟨Nat.le_refl _⟩, ⟨by (with_reducible repeat (first | refine blk_drewN ?_ _ | refine blk_drew ?_ | refine blk_alloc ?_ _)); exact BK134.out⟩, ⟨by repeat (first | (with_reducible first | exact HB.out | apply below_alloc | apply pw_below_drewN | apply below_drew1 | refine below_set ?_ GE134.out) | exact HB.out)⟩⟩
         case round =>
          clear H'
          try clear c1
          try clear c2
          try clear p2
          try clear c7
          try clear c7b0
          try clear c7b1
          try clear c7b2
          try clear c8
          try clear c8b0
          try clear c8b1
          try clear c8b2
          try clear c10
          try clear c10b0
          try clear c10b1
          try clear c10b2
          try clear c11
          try clear c11b0
          try clear c11b1
          try clear c11b2
          try clear c13
          try clear c13b0
          try clear c13b1
          try clear c13b2
          try clear c14
          try clear c14b0
          try clear c14b1
          try clear c14b2
          try clear c15
          try clear c15b0
          try clear c15b1
          try clear c15b2
          try clear c16
          try clear c16b0
          try clear c16b1
          try clear c16b2
          obtain ⟨x11_1, x12_1, rfl, rfl, HA, HK1, BK134, HB⟩ := hrel
          cases gk with
          | zero => exact absurd HA.out (by simp [stowageref17_Print.l0])
          | succ k1 =>
           have H := HA.out
           clear HA
           simp only [stowageref17_Print.l0] at H
           replace H := itO H
           rcases H with ⟨c21, H⟩ | ⟨c21, H⟩
           ·skip
            have c21b0 : decide (x12_1 < (l0_1.length : Int)) = true := decide_eq_true c21
            clear c21
            replace H := itO H
            rcases H with ⟨c22, H⟩ | ⟨c22, H⟩
            ·skip
             have c22b0 : decide (0 ≤ x12_1) = true := decide_eq_true c22
             clear c22
             replace H := itO H
             rcases H with ⟨c23, H⟩ | ⟨c23, H⟩
             ·skip
              have c23b0 := eq_true c23
              have c23b1 := decide_eq_true c23
              try have c23b2 := eq_false (Nat.not_lt.2 c23)
              try (have c23n : x11_1.size + ((rd_T52 l0_1 x12_1).f0).size ≤ 9223372036854775807 := by have h_ := c23; simp only [ByteArray.size_append, ByteArray.size_extract] at h_; exact h_)
              try have c23f : (9223372036854775807 < x11_1.size + ((rd_T52 l0_1 x12_1).f0).size) = False := eq_false (by first | omega | (simp only [eq_iff_iff, iff_true] at *; omega))
              replace H := itO H
              rcases H with ⟨c24, H⟩ | ⟨c24, H⟩
              ·skip
               have c24b0 := eq_true c24
               have c24b1 := decide_eq_true c24
               try have c24b2 := eq_false (Nat.not_lt.2 c24)
               try (have c24n : x11_1.size + ((rd_T52 l0_1 x12_1).f0).size + 2 ≤ 9223372036854775807 := by have h_ := c24; simp only [ByteArray.size_append, ByteArray.size_extract] at h_; exact h_)
               try have c24f : (9223372036854775807 < x11_1.size + ((rd_T52 l0_1 x12_1).f0).size + 2) = False := eq_false (by first | omega | (simp only [eq_iff_iff, iff_true] at *; omega))
               replace H := itO H
               rcases H with ⟨c25, H⟩ | ⟨c25, H⟩
               ·skip
                have c25b0 := eq_true c25
                have c25b1 := decide_eq_true c25
                try have c25b2 := eq_false (Nat.not_lt.2 c25)
                try (have c25n : x11_1.size + ((rd_T52 l0_1 x12_1).f0).size + 2 + ((rd_T52 l0_1 x12_1).f1).size ≤ 9223372036854775807 := by have h_ := c25; simp only [ByteArray.size_append, ByteArray.size_extract] at h_; exact h_)
                try have c25f : (9223372036854775807 < x11_1.size + ((rd_T52 l0_1 x12_1).f0).size + 2 + ((rd_T52 l0_1 x12_1).f1).size) = False := eq_false (by first | omega | (simp only [eq_iff_iff, iff_true] at *; omega))
                replace H := itO H
                rcases H with ⟨c26, H⟩ | ⟨c26, H⟩
                ·skip
                 have c26b0 := eq_true c26
                 have c26b1 := decide_eq_true c26
                 try have c26b2 := eq_false (Nat.not_lt.2 c26)
                 try (have c26n : x11_1.size + ((rd_T52 l0_1 x12_1).f0).size + 2 + ((rd_T52 l0_1 x12_1).f1).size + 2 ≤ 9223372036854775807 := by have h_ := c26; simp only [ByteArray.size_append, ByteArray.size_extract] at h_; exact h_)
                 try have c26f : (9223372036854775807 < x11_1.size + ((rd_T52 l0_1 x12_1).f0).size + 2 + ((rd_T52 l0_1 x12_1).f1).size + 2) = False := eq_false (by first | omega | (simp only [eq_iff_iff, iff_true] at *; omega))
                 have H' := Aside0.mk H
                 clear H
                 have hcz27_0 : wr.cell? ⟨gb134, 0, none⟩ = some (.int .i64 a0_0) := (blk_cell BK134.out 0).trans rfl
                 have hcz27_1 : wr.cell? ⟨gb134, 1, none⟩ = some (.slice A0_1 l0_1.length c0_1) := (blk_cell BK134.out 1).trans rfl
                 have hcz27_2 : wr.cell? ⟨gb134, 2, none⟩ = some (.slice A0_2 l0_2.length c0_2) := (blk_cell BK134.out 2).trans rfl
                 have hfz27_0 := blk_frozen BK134.out 0
                 have hfz27_1 := blk_frozen BK134.out 1
                 have hfz27_2 := blk_frozen BK134.out 2
                 try go_wp2
                 have n0_ := Aside0.mk (blk_drew BK134.out)
                 have n1_ := Aside0.mk (below_drew1 HB.out)
                 clear BK134
                 clear HB
                 have BK134 := n0_
                 have HB := n1_
                 clear n0_ n1_
                 have p138 : 0 ≤ (x12_1 : Int) := of_decide_eq_true (by first | (with_reducible assumption) | assumption)
                 have q138 : x12_1 < (l0_1.length : Int) := of_decide_eq_true (by first | (with_reducible assumption) | assumption)
                 obtain ⟨ad138, e138, hx138_0, hx138_1⟩ := at_T52 HR0_1.out x12_1 p138 q138
                 have hw138_1 := hx138_1
                 have hw138_0 := hx138_0
                 cases e138
                 replace hx138_0 := (HB.out.cell (World.block_lt_of_cell? w _ hx138_0)).trans hx138_0
                 replace hx138_1 := (HB.out.cell (World.block_lt_of_cell? w _ hx138_1)).trans hx138_1
                 replace p138 := eq_true p138
                 replace q138 := eq_true q138
                 have p139 : 0 ≤ (x12_1 : Int) := of_decide_eq_true (by first | (with_reducible assumption) | assumption)
                 have q139 : x12_1 < (l0_1.length : Int) := of_decide_eq_true (by first | (with_reducible assumption) | assumption)
                 obtain ⟨ad139, e139, hx139_0, hx139_1⟩ := at_T52 HR0_1.out x12_1 p139 q139
                 have hw139_1 := hx139_1
                 have hw139_0 := hx139_0
                 obtain rfl : ad138 = ad139 := (by injection e139)
                 replace hx139_0 := (HB.out.cell (World.block_lt_of_cell? w _ hx139_0)).trans hx139_0
                 replace hx139_1 := (HB.out.cell (World.block_lt_of_cell? w _ hx139_1)).trans hx139_1
                 replace p139 := eq_true p139
                 replace q139 := eq_true q139
                 refine start_ (n := 18) (S := fun w' => w'.cell? ⟨gb134, 0, none⟩ = some (.int .i64 a0_0) ∧ w'.cell? ⟨gb134, 1, none⟩ = some (.slice (some ad138) l0_1.length c0_1) ∧ w'.cell? ⟨gb134, 2, none⟩ = some (.slice A0_2 l0_2.length c0_2) ∧ w'.cell? (ad138.add ((x12_1).toNat * 2)) = some (.string ((rd_T52 l0_1 x12_1).f0)) ∧ w'.cell? ⟨(ad138.add ((x12_1).toNat * 2)).block, (ad138.add ((x12_1).toNat * 2)).off + 1, none⟩ = some (.string ((rd_T52 l0_1 x12_1).f1)) ∧ w'.cell? (ad138.add ((x12_1).toNat * 2)) = some (.string ((rd_T52 l0_1 x12_1).f0)) ∧ w'.cell? ⟨(ad138.add ((x12_1).toNat * 2)).block, (ad138.add ((x12_1).toNat * 2)).off + 1, none⟩ = some (.string ((rd_T52 l0_1 x12_1).f1))) (ds := []) #[false, false, false, false, false, false, false, false, false, false, false, false, false, false, false, false, false, false] (by kernel_rfl) rfl rfl ⟨(blk_cell BK134.out 0).trans rfl, (blk_cell BK134.out 1).trans rfl, (blk_cell BK134.out 2).trans rfl, ((HB.out.cell (World.block_lt_of_cell? w _ hw138_0)).trans hw138_0), ((HB.out.cell (World.block_lt_of_cell? w _ hw138_1)).trans hw138_1), ((HB.out.cell (World.block_lt_of_cell? w _ hw139_0)).trans hw139_0), ((HB.out.cell (World.block_lt_of_cell? w _ hw139_1)).trans hw139_1)⟩ (fun hHeld => ?_); refine with_tabW stowageref17_Print.tab5 stowageref17_Print.bits5 (fun HT_ HW_ => ?_)
                 generalize wr.drew = w28 at BK134 HB hx138_0 hx138_1 hx139_0 hx139_1 hHeld ⊢
                 refine pure_ (i := 0) (N := some 38) (v := ?_) (a' := ?_) #[true, false, false, false, false, false, false, false, false, false, false, false, false, false, false, false, false, false] rfl rfl (any_of HT_.out (by kernel_rfl)) (fun _ _ _ h => h) (Or.inl ⟨by rfl, ?_⟩) ?_ ?_
                 rotate_left
                 ·intro w'
                  go_simp
                  with_reducible rfl
                 rotate_left
                 ·simp only [Act.put, List.setIfInBounds_toArray, List.set_cons_zero, List.set_cons_succ, i64_w, i32_w]
                  rfl
                 refine pure_ (i := 1) (N := some 39) (v := ?_) (a' := ?_) #[true, true, false, false, false, false, false, false, false, false, false, false, false, false, false, false, false, false] rfl rfl (any_of HT_.out (by kernel_rfl)) (fun _ _ _ h => h) (Or.inl ⟨by rfl, ?_⟩) ?_ ?_
                 rotate_left
                 ·intro w'
                  go_simp
                  with_reducible rfl
                 rotate_left
                 ·simp only [Act.put, List.setIfInBounds_toArray, List.set_cons_zero, List.set_cons_succ, i64_w, i32_w]
                  rfl
                 refine pure_ (i := 3) (N := some 41) (v := ?_) (a' := ?_) #[true, true, false, true, false, false, false, false, false, false, false, false, false, false, false, false, false, false] rfl rfl (any_of HT_.out (by kernel_rfl)) (fun _ _ _ h => h) (Or.inl ⟨by rfl, ?_⟩) ?_ ?_
                 rotate_left
                 ·intro w'
                  go_simp
                  with_reducible rfl
                 rotate_left
                 ·simp only [Act.put, List.setIfInBounds_toArray, List.set_cons_zero, List.set_cons_succ, i64_w, i32_w]
                  rfl
                 refine pure_ (i := 9) (N := some 47) (v := ?_) (a' := ?_) #[true, true, false, true, false, false, false, false, false, true, false, false, false, false, false, false, false, false] rfl rfl (any_of HT_.out (by kernel_rfl)) (fun _ _ _ h => h) (Or.inl ⟨by rfl, ?_⟩) ?_ ?_
                 rotate_left
                 ·intro w'
                  go_simp
                  with_reducible rfl
                 rotate_left
                 ·simp only [Act.put, List.setIfInBounds_toArray, List.set_cons_zero, List.set_cons_succ, i64_w, i32_w]
                  rfl
                 refine pure_ (i := 11) (N := some 49) (v := ?_) (a' := ?_) #[true, true, false, true, false, false, false, false, false, true, false, true, false, false, false, false, false, false] rfl rfl (any_of HT_.out (by kernel_rfl)) (fun _ _ _ h => h) (Or.inl ⟨by rfl, ?_⟩) ?_ ?_
                 rotate_left
                 ·intro w'
                  go_simp
                  with_reducible rfl
                 rotate_left
                 ·simp only [Act.put, List.setIfInBounds_toArray, List.set_cons_zero, List.set_cons_succ, i64_w, i32_w]
                  rfl
                 refine take_ (i := 2) (N := some 40) (v := ?_) (a' := ?_) #[true, true, true, true, false, false, false, false, false, true, false, true, false, false, false, false, false, false] rfl rfl (take_ofW HT_.out HW_.out (by kernel_rfl)) (fun _ _ _ h => h) (Or.inl ⟨by rfl, ?_⟩) hHeld ?_ ?_
                 rotate_left
                 ·rintro w' ⟨s0, s1, s2, s3, s4, s5, s6⟩
                  go_simp
                  with_reducible rfl
                 rotate_left
                 ·simp only [Act.put, List.setIfInBounds_toArray, List.set_cons_zero, List.set_cons_succ, i64_w, i32_w]
                  rfl
                 refine pure_ (i := 4) (N := some 42) (v := ?_) (a' := ?_) #[true, true, true, true, true, false, false, false, false, true, false, true, false, false, false, false, false, false] rfl rfl (any_of HT_.out (by kernel_rfl)) (fun _ _ _ h => h) (Or.inl ⟨by rfl, ?_⟩) ?_ ?_
                 rotate_left
                 ·intro w'
                  go_simp
                  with_reducible rfl
                 rotate_left
                 ·simp only [Act.put, List.setIfInBounds_toArray, List.set_cons_zero, List.set_cons_succ, i64_w, i32_w]
                  rfl
                 refine pure_ (i := 5) (N := some 43) (v := ?_) (a' := ?_) #[true, true, true, true, true, true, false, false, false, true, false, true, false, false, false, false, false, false] rfl rfl (any_of HT_.out (by kernel_rfl)) (fun _ _ _ h => h) (Or.inl ⟨by rfl, ?_⟩) ?_ ?_
                 rotate_left
                 ·intro w'
                  go_simp
                  with_reducible rfl
                 rotate_left
                 ·simp only [Act.put, List.setIfInBounds_toArray, List.set_cons_zero, List.set_cons_succ, i64_w, i32_w]
                  rfl
                 refine take_ (i := 6) (N := some 44) (v := ?_) (a' := ?_) #[true, true, true, true, true, true, true, false, false, true, false, true, false, false, false, false, false, false] rfl rfl (take_ofW HT_.out HW_.out (by kernel_rfl)) (fun _ _ _ h => h) (Or.inl ⟨by rfl, ?_⟩) hHeld ?_ ?_
                 rotate_left
                 ·rintro w' ⟨s0, s1, s2, s3, s4, s5, s6⟩
                  go_simp
                  with_reducible rfl
                 rotate_left
                 ·simp only [Act.put, List.setIfInBounds_toArray, List.set_cons_zero, List.set_cons_succ, i64_w, i32_w]
                  rfl
                 refine pure_ (i := 7) (N := some 45) (v := ?_) (a' := ?_) #[true, true, true, true, true, true, true, true, false, true, false, true, false, false, false, false, false, false] rfl rfl (any_of HT_.out (by kernel_rfl)) (fun _ _ _ h => h) (Or.inl ⟨by rfl, ?_⟩) ?_ ?_
                 rotate_left
                 ·intro w'
                  go_simp
                  with_reducible rfl
                 rotate_left
                 ·simp only [Act.put, List.setIfInBounds_toArray, List.set_cons_zero, List.set_cons_succ, i64_w, i32_w]
                  rfl
                 refine pure_ (i := 8) (N := some 46) (v := ?_) (a' := ?_) #[true, true, true, true, true, true, true, true, true, true, false, true, false, false, false, false, false, false] rfl rfl (any_of HT_.out (by kernel_rfl)) (fun _ _ _ h => h) (Or.inl ⟨by rfl, ?_⟩) ?_ ?_
                 rotate_left
                 ·intro w'
                  go_simp
                  with_reducible rfl
                 rotate_left
                 ·simp only [Act.put, List.setIfInBounds_toArray, List.set_cons_zero, List.set_cons_succ, i64_w, i32_w]
                  rfl
                 refine take_ (i := 10) (N := some 48) (v := ?_) (a' := ?_) #[true, true, true, true, true, true, true, true, true, true, true, true, false, false, false, false, false, false] rfl rfl (take_ofW HT_.out HW_.out (by kernel_rfl)) (fun _ _ _ h => h) (Or.inl ⟨by rfl, ?_⟩) hHeld ?_ ?_
                 rotate_left
                 ·rintro w' ⟨s0, s1, s2, s3, s4, s5, s6⟩
                  go_simp
                  with_reducible rfl
                 rotate_left
                 ·simp only [Act.put, List.setIfInBounds_toArray, List.set_cons_zero, List.set_cons_succ, i64_w, i32_w]
                  rfl
                 refine pure_ (i := 12) (N := some 50) (v := ?_) (a' := ?_) #[true, true, true, true, true, true, true, true, true, true, true, true, true, false, false, false, false, false] rfl rfl (any_of HT_.out (by kernel_rfl)) (fun _ _ _ h => h) (Or.inl ⟨by rfl, ?_⟩) ?_ ?_
                 rotate_left
                 ·intro w'
                  go_simp
                  with_reducible rfl
                 rotate_left
                 ·simp only [Act.put, List.setIfInBounds_toArray, List.set_cons_zero, List.set_cons_succ, i64_w, i32_w]
                  rfl
                 refine pure_ (i := 13) (N := some 51) (v := ?_) (a' := ?_) #[true, true, true, true, true, true, true, true, true, true, true, true, true, true, false, false, false, false] rfl rfl (any_of HT_.out (by kernel_rfl)) (fun _ _ _ h => h) (Or.inl ⟨by rfl, ?_⟩) ?_ ?_
                 rotate_left
                 ·intro w'
                  go_simp
                  with_reducible rfl
                 rotate_left
                 ·simp only [Act.put, List.setIfInBounds_toArray, List.set_cons_zero, List.set_cons_succ, i64_w, i32_w]
                  rfl
                 refine take_ (i := 14) (N := some 52) (v := ?_) (a' := ?_) #[true, true, true, true, true, true, true, true, true, true, true, true, true, true, true, false, false, false] rfl rfl (take_ofW HT_.out HW_.out (by kernel_rfl)) (fun _ _ _ h => h) (Or.inl ⟨by rfl, ?_⟩) hHeld ?_ ?_
                 rotate_left
                 ·rintro w' ⟨s0, s1, s2, s3, s4, s5, s6⟩
                  go_simp
                  with_reducible rfl
                 rotate_left
                 ·simp only [Act.put, List.setIfInBounds_toArray, List.set_cons_zero, List.set_cons_succ, i64_w, i32_w]
                  rfl
                 refine pure_ (i := 15) (N := some 53) (v := ?_) (a' := ?_) #[true, true, true, true, true, true, true, true, true, true, true, true, true, true, true, true, false, false] rfl rfl (any_of HT_.out (by kernel_rfl)) (fun _ _ _ h => h) (Or.inl ⟨by rfl, ?_⟩) ?_ ?_
                 rotate_left
                 ·intro w'
                  go_simp
                  with_reducible rfl
                 rotate_left
                 ·simp only [Act.put, List.setIfInBounds_toArray, List.set_cons_zero, List.set_cons_succ, i64_w, i32_w]
                  rfl
                 refine pure_ (i := 16) (N := some 54) (v := ?_) (a' := ?_) #[true, true, true, true, true, true, true, true, true, true, true, true, true, true, true, true, true, false] rfl rfl (any_of HT_.out (by kernel_rfl)) (fun _ _ _ h => h) (Or.inl ⟨by rfl, ?_⟩) ?_ ?_
                 rotate_left
                 ·intro w'
                  go_simp
                  with_reducible rfl
                 rotate_left
                 ·simp only [Act.put, List.setIfInBounds_toArray, List.set_cons_zero, List.set_cons_succ, i64_w, i32_w]
                  rfl
                 refine pure_ (i := 17) (N := some 11) (v := ?_) (a' := ?_) #[true, true, true, true, true, true, true, true, true, true, true, true, true, true, true, true, true, true] rfl rfl (any_of HT_.out (by kernel_rfl)) (fun _ _ _ h => h) (Or.inl ⟨by rfl, ?_⟩) ?_ ?_
                 rotate_left
                 ·intro w'
                  go_simp
                  with_reducible rfl
                 rotate_left
                 ·simp only [Act.put, List.setIfInBounds_toArray, List.set_cons_zero, List.set_cons_succ, i64_w, i32_w]
                  rfl
                 refine done_ (done_of HT_.out (by kernel_rfl)) ?_
                 try go_wp2
                 go_roundg k1
                 case measure => have := HK1.out; omega
                 case rel => exact ⟨((((x11_1 ++ ((rd_T52 l0_1 x12_1).f0)) ++ (⟨#[58, 32]⟩ : ByteArray)) ++ ((rd_T52 l0_1 x12_1).f1)) ++ (⟨#[13, 10]⟩ : ByteArray)), (wrap64 (x12_1 + 1)), (by first | rfl | (simp; done) | (simp [*]; done)), (by first | rfl | (simp; done) | (simp [*]; done)), H', ⟨by have := HK1.out; omega⟩, ⟨by (with_reducible repeat (first | refine blk_drewN ?_ _ | refine blk_drew ?_ | refine blk_alloc ?_ _)); exact BK134.out⟩, ⟨by repeat (first | (with_reducible first | exact HB.out | apply below_alloc | apply pw_below_drewN | apply below_drew1 | refine below_set ?_ GE134.out) | exact HB.out)⟩⟩
                ·exact absurd H (by simp)
               ·exact absurd H (by simp)
              ·exact absurd H (by simp)
             ·exact absurd H (by simp)
            ·exact absurd H (by simp)
           ·skip
            have c21b0 : decide (x12_1 < (l0_1.length : Int)) = false := decide_eq_false c21
            clear c21
            replace H := bndO H
            obtain ⟨t140, A290, H⟩ := H
            have A29 := Aside0.mk A290
            clear A290
            have HC30 := Aside0.mk H
            clear H
            have hcz31_0 : wr.cell? ⟨gb134, 0, none⟩ = some (.int .i64 a0_0) := (blk_cell BK134.out 0).trans rfl
            have hcz31_1 : wr.cell? ⟨gb134, 1, none⟩ = some (.slice A0_1 l0_1.length c0_1) := (blk_cell BK134.out 1).trans rfl
            have hcz31_2 : wr.cell? ⟨gb134, 2, none⟩ = some (.slice A0_2 l0_2.length c0_2) := (blk_cell BK134.out 2).trans rfl
            have hfz31_0 := blk_frozen BK134.out 0
            have hfz31_1 := blk_frozen BK134.out 1
            have hfz31_2 := blk_frozen BK134.out 2
            go_upto_if 58 with (first | ((with_reducible refine gate_callee (f := 16) rfl ?_); refine goesL_ (some 57) rfl rfl Tryd.func16 (by kernel_rfl) rfl #[.int .i64 a0_0] rfl (by (try simp only [List.map_toArray, List.map_cons, List.map_nil]); first | done | rfl | (simp only [List.length_drop, List.length_take]; rfl)) ?_; (with_reducible refine (stowageref17_Bare.calls a0_0 t140 _ A29.out).mono ?_); rintro e w' ⟨rfl, ⟨nd, rfl⟩⟩; refine ⟨_, rfl, ?_⟩))
            (try simp only [Act.put, List.setIfInBounds_toArray, List.set_cons_zero, List.set_cons_succ])
            go_cut [11] (fun v11 wc => ∃ (kq : Nat) (x11_29 : ByteArray), v11 = .string x11_29 ∧ Aside0 (stowageref17_Print.j1 kq a1 a4 x11_29 a0_0 l0_1 l0_2 = some r) ∧ Aside0 (kq ≤ k1) ∧ Aside0 (wc.heap[gb134]? = some (.cells #[.int .i64 a0_0, (.slice A0_1 l0_1.length c0_1), (.slice A0_2 l0_2.length c0_2)] 27 (0, 0))) ∧ Aside0 (Below w.heap.size w wc))
            case first =>
             have H := HC30.out
             clear HC30
             by_cases c32 : t140 = true
             ·subst c32
              replace H := itT H
              have H' := Aside0.mk H
              clear H
              go_wp2
              go_meet
              case rel => exact ⟨_, (x11_1), (by first | rfl | (simp; done) | (simp [*]; done)), H', ⟨by have := HK1.out; first | omega | exact Nat.le_refl _⟩, ⟨by (with_reducible repeat (first | refine blk_drewN ?_ _ | refine blk_drew ?_ | refine blk_alloc ?_ _)); exact BK134.out⟩, ⟨by repeat (first | (with_reducible first | exact HB.out | apply below_alloc | apply pw_below_drewN | apply below_drew1 | refine below_set ?_ GE134.out) | exact HB.out)⟩⟩
             ·replace c32 := Bool.eq_false_iff.mpr c32
              subst c32
              replace H := itF H
              replace H := itO H
              rcases H with ⟨c33, H⟩ | ⟨c33, H⟩
              ·skip
               have c33b0 := eq_true c33
               have c33b1 := decide_eq_true c33
               try have c33b2 := eq_false (Nat.not_lt.2 c33)
               try (have c33n : x11_1.size + 16 ≤ 9223372036854775807 := by have h_ := c33; simp only [ByteArray.size_append, ByteArray.size_extract] at h_; exact h_)
               try have c33f : (9223372036854775807 < x11_1.size + 16) = False := eq_false (by first | omega | (simp only [eq_iff_iff, iff_true] at *; omega))
               replace H := bndO H
               obtain ⟨t141, A340, H⟩ := H
               have A34 := Aside0.mk A340
               clear A340
               replace H := itO H
               rcases H with ⟨c35, H⟩ | ⟨c35, H⟩
               ·skip
                have c35b0 := eq_true c35
                have c35b1 := decide_eq_true c35
                try have c35b2 := eq_false (Nat.not_lt.2 c35)
                try (have c35n : x11_1.size + 16 + t141.size ≤ 9223372036854775807 := by have h_ := c35; simp only [ByteArray.size_append, ByteArray.size_extract] at h_; exact h_)
                try have c35f : (9223372036854775807 < x11_1.size + 16 + t141.size) = False := eq_false (by first | omega | (simp only [eq_iff_iff, iff_true] at *; omega))
                replace H := itO H
                rcases H with ⟨c36, H⟩ | ⟨c36, H⟩
                ·skip
                 have c36b0 := eq_true c36
                 have c36b1 := decide_eq_true c36
                 try have c36b2 := eq_false (Nat.not_lt.2 c36)
                 try (have c36n : x11_1.size + 16 + t141.size + 2 ≤ 9223372036854775807 := by have h_ := c36; simp only [ByteArray.size_append, ByteArray.size_extract] at h_; exact h_)
                 try have c36f : (9223372036854775807 < x11_1.size + 16 + t141.size + 2) = False := eq_false (by first | omega | (simp only [eq_iff_iff, iff_true] at *; omega))
                 have H' := Aside0.mk H
                 clear H
                 have hcz37_0 : wr.cell? ⟨gb134, 0, none⟩ = some (.int .i64 a0_0) := (blk_cell BK134.out 0).trans rfl
                 have hcz37_1 : wr.cell? ⟨gb134, 1, none⟩ = some (.slice A0_1 l0_1.length c0_1) := (blk_cell BK134.out 1).trans rfl
                 have hcz37_2 : wr.cell? ⟨gb134, 2, none⟩ = some (.slice A0_2 l0_2.length c0_2) := (blk_cell BK134.out 2).trans rfl
                 have hfz37_0 := blk_frozen BK134.out 0
                 have hfz37_1 := blk_frozen BK134.out 1
                 have hfz37_2 := blk_frozen BK134.out 2
                 go_wp2_with (first | ((with_reducible refine gate_callee (f := 21) rfl ?_); refine goesL_ (some 64) rfl rfl Tryd.func21 (by kernel_rfl) rfl #[.int .i64 (l0_2.length : Int)] rfl (by (try simp only [List.map_toArray, List.map_cons, List.map_nil]); first | done | rfl | (simp only [List.length_drop, List.length_take]; rfl)) ?_; (with_reducible refine (stowageref1_Text.calls k1 (l0_2.length : Int) t141 _ A34.out).mono ?_); rintro e w' ⟨rfl, ⟨nd, rfl⟩⟩; refine ⟨_, rfl, ?_⟩))
                 go_meet
                 case rel => exact ⟨_, (((x11_1 ++ (⟨#[67, 111, 110, 116, 101, 110, 116, 45, 76, 101, 110, 103, 116, 104, 58, 32]⟩ : ByteArray)) ++ t141) ++ (⟨#[13, 10]⟩ : ByteArray)), (by first | rfl | (simp; done) | (simp [*]; done)), H', ⟨by have := HK1.out; first | omega | exact Nat.le_refl _⟩, ⟨by (with_reducible repeat (first | refine blk_drewN ?_ _ | refine blk_drew ?_ | refine blk_alloc ?_ _)); exact BK134.out⟩, ⟨by repeat (first | (with_reducible first | exact HB.out | apply below_alloc | apply pw_below_drewN | apply below_drew1 | refine below_set ?_ GE134.out) | exact HB.out)⟩⟩
                ·exact absurd H (by simp)
               ·exact absurd H (by simp)
              ·exact absurd H (by simp)
            case rest =>
             clear HC30
             try clear c1
             try clear p1
             try clear q1
             try clear hx1
             try clear c2
             try clear p2
             try clear c3
             try clear p6
             try clear c7
             try clear c7b0
             try clear c7b1
             try clear c7b2
             try clear c8
             try clear c8b0
             try clear c8b1
             try clear c8b2
             try clear c10
             try clear c10b0
             try clear c10b1
             try clear c10b2
             try clear c11
             try clear c11b0
             try clear c11b1
             try clear c11b2
             try clear c13
             try clear c13b0
             try clear c13b1
             try clear c13b2
             try clear p13
             try clear q13
             try clear hx13
             try clear c14
             try clear c14b0
             try clear c14b1
             try clear c14b2
             try clear c15
             try clear c15b0
             try clear c15b1
             try clear c15b2
             try clear c16
             try clear c16b0
             try clear c16b1
             try clear c16b2
             try clear c21
             try clear c21b0
             try clear c22
             try clear c22b0
             try clear c23
             try clear c23b0
             try clear c23b1
             try clear c23b2
             try clear c24
             try clear c24b0
             try clear c24b1
             try clear c24b2
             try clear c25
             try clear c25b0
             try clear c25b1
             try clear c25b2
             try clear c26
             try clear c26b0
             try clear c26b1
             try clear c26b2
             try clear c32
             try clear c33
             try clear c33b0
             try clear c33b1
             try clear c33b2
             try clear c35
             try clear c35b0
             try clear c35b1
             try clear c35b2
             try clear c36
             try clear c36b0
             try clear c36b1
             try clear c36b2
             try clear hcz27_0
             try clear hcz27_1
             try clear hcz27_2
             try clear hcz31_0
             try clear hcz31_1
             try clear hcz31_2
             try clear hcz37_0
             try clear hcz37_1
             try clear hcz37_2
             try clear hfz27_0
             try clear hfz27_1
             try clear hfz27_2
             try clear hfz31_0
             try clear hfz31_1
             try clear hfz31_2
             try clear hfz37_0
             try clear hfz37_1
             try clear hfz37_2
             try clear hx138_0
             try clear hx138_1
             try clear hx139_0
             try clear hx139_1
             try clear p138
             try clear p139
             try clear p2
             try clear q138
             try clear q139
             obtain ⟨kq, x11_29, rfl, HA, HJ29, BK134, HB⟩ := hcut
             cases kq with
             | zero => exact absurd HA.out (by simp [stowageref17_Print.j1])
             | succ kj29 =>
              have H := HA.out
              clear HA
              simp only [stowageref17_Print.j1] at H
              by_cases c38 : a4 = true
              ·subst c38
               replace H := itT H
               replace H := itO H
               rcases H with ⟨c39, H⟩ | ⟨c39, H⟩
               ·skip
                have c39b0 := eq_true c39
                have c39b1 := decide_eq_true c39
                try have c39b2 := eq_false (Nat.not_lt.2 c39)
                try (have c39n : x11_29.size + 19 ≤ 9223372036854775807 := by have h_ := c39; simp only [ByteArray.size_append, ByteArray.size_extract] at h_; exact h_)
                try have c39f : (9223372036854775807 < x11_29.size + 19) = False := eq_false (by first | omega | (simp only [eq_iff_iff, iff_true] at *; omega))
                replace H := itO H
                rcases H with ⟨c40, H⟩ | ⟨c40, H⟩
                ·skip
                 have c40b0 := eq_true c40
                 have c40b1 := decide_eq_true c40
                 try have c40b2 := eq_false (Nat.not_lt.2 c40)
                 try (have c40n : x11_29.size + 19 + 2 ≤ 9223372036854775807 := by have h_ := c40; simp only [ByteArray.size_append, ByteArray.size_extract] at h_; exact h_)
                 try have c40f : (9223372036854775807 < x11_29.size + 19 + 2) = False := eq_false (by first | omega | (simp only [eq_iff_iff, iff_true] at *; omega))
                 replace H := itO H
                 rcases H with ⟨c41, H⟩ | ⟨c41, H⟩
                 ·skip
                  have c41b0 := eq_true c41
                  have c41b1 := decide_eq_true c41
                  obtain ⟨y142, hy142⟩ : ∃ y_ : List Int, y_ = (bytesOf ((x11_29 ++ (⟨#[67, 111, 110, 110, 101, 99, 116, 105, 111, 110, 58, 32, 99, 108, 111, 115, 101, 13, 10]⟩ : ByteArray)) ++ (⟨#[13, 10]⟩ : ByteArray))) := ⟨_, rfl⟩
                  replace H : (if a1 = true then (some y142) else ((stowageref17_Bare.f a0_0).bind fun t145 => (if t145 = true then (some y142) else (if y142.length + l0_2.length ≤ 140737488355328 then (some (y142 ++ l0_2)) else (none))))) = some r := by first | (rw [hy142]; with_reducible exact H) | (have H2_ := (Option.bind_some _ _).symm.trans H; rw [hy142]; with_reducible exact H2_) | (have H2_ := (Option.bind_some _ _).symm.trans H; with_reducible exact H2_) | with_reducible exact H | (rw [hy142]; exact H) | exact H
                  have Ny142 := Aside0.mk hy142
                  clear hy142
                  by_cases c42 : a1 = true
                  ·subst c42
                   replace H := itT H
                   obtain rfl := Option.some.inj H
                   go_wp2_with (first | ((with_reducible refine gate_dst (N := 72) rfl ?_); refine Kd.V_bytesM _ 5 rfl (N := 72) rfl 9 23 _ rfl ((x11_29 ++ (⟨#[67, 111, 110, 110, 101, 99, 116, 105, 111, 110, 58, 32, 99, 108, 111, 115, 101, 13, 10]⟩ : ByteArray)) ++ (⟨#[13, 10]⟩ : ByteArray)) rfl Tryd.underlying9 Tryd.underlying23 Tryd.underlying5 (ok := fun k_ => wc.heap.size ≤ k_) (Nat.le_refl _) (by first | assumption | omega) (Below.refl _ _) (Nat.le_refl _) ?_; intro v143 w43 ho44 hb hg_ hnew_; rw [← Ny142.out] at hnew_; have MKHO144 := Aside0.mk (ByRow.lower hnew_ ((below_size (by repeat (first | (with_reducible first | exact HB.out | apply below_alloc | apply pw_below_drewN | apply below_drew1 | refine below_set ?_ GE134.out) | exact HB.out))))); clear hg_ hnew_; (first | rw [← Ny142.out] at ho44 | (simp only [Int.reduceToNat] at ho44; rw [← Ny142.out] at ho44)); have n0_ := Aside0.mk (Kd.V_lower (Kd.V_mono (ok' := fun k_ => (w.heap.size ≤ k_) ∧ k_ ≠ gb134) ho44 (fun k_ hk_ => ⟨(Nat.le_trans (below_size (by repeat (first | (with_reducible first | exact HB.out | apply below_alloc | apply pw_below_drewN | apply below_drew1 | refine below_set ?_ GE134.out) | exact HB.out))) hk_), (Kd.freshB (g := gb134) (o := .cells #[.int .i64 a0_0, .slice A0_1 l0_1.length c0_1, .slice A0_2 l0_2.length c0_2] 27 (0, 0)) (by (with_reducible repeat (first | refine blk_drewN ?_ _ | refine blk_drew ?_ | refine blk_alloc ?_ _)); exact BK134.out) k_ hk_)⟩)) (below_size (by repeat (first | (with_reducible first | exact HB.out | apply below_alloc | apply pw_below_drewN | apply below_drew1 | refine below_set ?_ GE134.out) | exact HB.out)))); have n1_ := Aside0.mk (blk_below (g := gb134) (o := .cells #[.int .i64 a0_0, .slice A0_1 l0_1.length c0_1, .slice A0_2 l0_2.length c0_2] 27 (0, 0)) (by (with_reducible repeat (first | refine blk_drewN ?_ _ | refine blk_drew ?_ | refine blk_alloc ?_ _)); exact BK134.out) hb); have n2_ := Aside0.mk (below_step (by repeat (first | (with_reducible first | exact HB.out | apply below_alloc | apply pw_below_drewN | apply below_drew1 | refine below_set ?_ GE134.out) | exact HB.out)) hb); clear BK134; clear HB; have HO144 := n0_; have BK134 := n1_; have HB := n2_; clear n0_ n1_ n2_; clear hb ho44))
                   go_ret
                   exact ⟨_, by first | rfl | (simp [errW_none, errW_some] <;> rfl) | (simp [*, errW_none, errW_some] <;> rfl), by (with_reducible repeat (first | apply Kd.V_alloc | apply Kd.V_drewN | apply Kd.V_drew)); exact Kd.V_mono HO144.out (fun _ hk => hk.1), by repeat (first | (with_reducible first | exact HB.out | apply below_alloc | apply pw_below_drewN | apply below_drew1 | refine below_set ?_ GE134.out) | exact HB.out)⟩
                  ·replace c42 := Bool.eq_false_iff.mpr c42
                   subst c42
                   replace H := itF H
                   replace H := bndO H
                   obtain ⟨t145, A450, H⟩ := H
                   have A45 := Aside0.mk A450
                   clear A450
                   by_cases c46 : t145 = true
                   ·subst c46
                    replace H := itT H
                    obtain rfl := Option.some.inj H
                    go_wp2_with (first | ((with_reducible refine gate_dst (N := 72) rfl ?_); refine Kd.V_bytesM _ 5 rfl (N := 72) rfl 9 23 _ rfl ((x11_29 ++ (⟨#[67, 111, 110, 110, 101, 99, 116, 105, 111, 110, 58, 32, 99, 108, 111, 115, 101, 13, 10]⟩ : ByteArray)) ++ (⟨#[13, 10]⟩ : ByteArray)) rfl Tryd.underlying9 Tryd.underlying23 Tryd.underlying5 (ok := fun k_ => wc.heap.size ≤ k_) (Nat.le_refl _) (by first | assumption | omega) (Below.refl _ _) (Nat.le_refl _) ?_; intro v143 w47 ho48 hb hg_ hnew_; rw [← Ny142.out] at hnew_; have MKHO144 := Aside0.mk (ByRow.lower hnew_ ((below_size (by repeat (first | (with_reducible first | exact HB.out | apply below_alloc | apply pw_below_drewN | apply below_drew1 | refine below_set ?_ GE134.out) | exact HB.out))))); clear hg_ hnew_; (first | rw [← Ny142.out] at ho48 | (simp only [Int.reduceToNat] at ho48; rw [← Ny142.out] at ho48)); have n0_ := Aside0.mk (Kd.V_lower (Kd.V_mono (ok' := fun k_ => (w.heap.size ≤ k_) ∧ k_ ≠ gb134) ho48 (fun k_ hk_ => ⟨(Nat.le_trans (below_size (by repeat (first | (with_reducible first | exact HB.out | apply below_alloc | apply pw_below_drewN | apply below_drew1 | refine below_set ?_ GE134.out) | exact HB.out))) hk_), (Kd.freshB (g := gb134) (o := .cells #[.int .i64 a0_0, .slice A0_1 l0_1.length c0_1, .slice A0_2 l0_2.length c0_2] 27 (0, 0)) (by (with_reducible repeat (first | refine blk_drewN ?_ _ | refine blk_drew ?_ | refine blk_alloc ?_ _)); exact BK134.out) k_ hk_)⟩)) (below_size (by repeat (first | (with_reducible first | exact HB.out | apply below_alloc | apply pw_below_drewN | apply below_drew1 | refine below_set ?_ GE134.out) | exact HB.out)))); have n1_ := Aside0.mk (blk_below (g := gb134) (o := .cells #[.int .i64 a0_0, .slice A0_1 l0_1.length c0_1, .slice A0_2 l0_2.length c0_2] 27 (0, 0)) (by (with_reducible repeat (first | refine blk_drewN ?_ _ | refine blk_drew ?_ | refine blk_alloc ?_ _)); exact BK134.out) hb); have n2_ := Aside0.mk (below_step (by repeat (first | (with_reducible first | exact HB.out | apply below_alloc | apply pw_below_drewN | apply below_drew1 | refine below_set ?_ GE134.out) | exact HB.out)) hb); clear BK134; clear HB; have HO144 := n0_; have BK134 := n1_; have HB := n2_; clear n0_ n1_ n2_; clear hb ho48; have hcz49_0 : w47.cell? ⟨gb134, 0, none⟩ = some (.int .i64 a0_0) := (blk_cell BK134.out 0).trans rfl; have hcz49_1 : w47.cell? ⟨gb134, 1, none⟩ = some (.slice A0_1 l0_1.length c0_1) := (blk_cell BK134.out 1).trans rfl; have hcz49_2 : w47.cell? ⟨gb134, 2, none⟩ = some (.slice A0_2 l0_2.length c0_2) := (blk_cell BK134.out 2).trans rfl; have hfz49_0 := blk_frozen BK134.out 0; have hfz49_1 := blk_frozen BK134.out 1; have hfz49_2 := blk_frozen BK134.out 2) | (go_at_call 16; (with_reducible refine (stowageref17_Bare.calls a0_0 true _ A45.out).mono ?_); rintro e w' ⟨rfl, ⟨nd, rfl⟩⟩))
                    go_ret
                    exact ⟨_, by first | rfl | (simp [errW_none, errW_some] <;> rfl) | (simp [*, errW_none, errW_some] <;> rfl), by (with_reducible repeat (first | apply Kd.V_alloc | apply Kd.V_drewN | apply Kd.V_drew)); exact Kd.V_mono HO144.out (fun _ hk => hk.1), by repeat (first | (with_reducible first | exact HB.out | apply below_alloc | apply pw_below_drewN | apply below_drew1 | refine below_set ?_ GE134.out) | exact HB.out)⟩
                   ·replace c46 := Bool.eq_false_iff.mpr c46
                    subst c46
                    replace H := itF H
                    replace H := itO H
                    rcases H with ⟨c50, H⟩ | ⟨c50, H⟩
                    ·skip
                     have c50b0 := eq_true c50
                     have c50b1 := decide_eq_true c50
                     obtain ⟨y146, hy146⟩ : ∃ y_ : List Int, y_ = (y142 ++ l0_2) := ⟨_, rfl⟩
                     replace H : (some y146) = some r := by first | (rw [hy146]; with_reducible exact H) | (have H2_ := (Option.bind_some _ _).symm.trans H; rw [hy146]; with_reducible exact H2_) | (have H2_ := (Option.bind_some _ _).symm.trans H; with_reducible exact H2_) | with_reducible exact H | (rw [hy146]; exact H) | exact H
                     have Ny146 := Aside0.mk hy146
                     clear hy146
                     obtain rfl := Option.some.inj H
                     go_wp2_with (first | ((with_reducible refine gate_dst (N := 72) rfl ?_); refine Kd.V_bytesM _ 5 rfl (N := 72) rfl 9 23 _ rfl ((x11_29 ++ (⟨#[67, 111, 110, 110, 101, 99, 116, 105, 111, 110, 58, 32, 99, 108, 111, 115, 101, 13, 10]⟩ : ByteArray)) ++ (⟨#[13, 10]⟩ : ByteArray)) rfl Tryd.underlying9 Tryd.underlying23 Tryd.underlying5 (ok := fun k_ => wc.heap.size ≤ k_) (Nat.le_refl _) (by first | assumption | omega) (Below.refl _ _) (Nat.le_refl _) ?_; intro v143 w51 ho52 hb hg_ hnew_; rw [← Ny142.out] at hnew_; have MKHO144 := Aside0.mk (ByRow.lower hnew_ ((below_size (by repeat (first | (with_reducible first | exact HB.out | apply below_alloc | apply pw_below_drewN | apply below_drew1 | refine below_set ?_ GE134.out) | exact HB.out))))); clear hg_ hnew_; (first | rw [← Ny142.out] at ho52 | (simp only [Int.reduceToNat] at ho52; rw [← Ny142.out] at ho52)); have n0_ := Aside0.mk (Kd.V_lower (Kd.V_mono (ok' := fun k_ => (w.heap.size ≤ k_) ∧ k_ ≠ gb134) ho52 (fun k_ hk_ => ⟨(Nat.le_trans (below_size (by repeat (first | (with_reducible first | exact HB.out | apply below_alloc | apply pw_below_drewN | apply below_drew1 | refine below_set ?_ GE134.out) | exact HB.out))) hk_), (Kd.freshB (g := gb134) (o := .cells #[.int .i64 a0_0, .slice A0_1 l0_1.length c0_1, .slice A0_2 l0_2.length c0_2] 27 (0, 0)) (by (with_reducible repeat (first | refine blk_drewN ?_ _ | refine blk_drew ?_ | refine blk_alloc ?_ _)); exact BK134.out) k_ hk_)⟩)) (below_size (by repeat (first | (with_reducible first | exact HB.out | apply below_alloc | apply pw_below_drewN | apply below_drew1 | refine below_set ?_ GE134.out) | exact HB.out)))); have n1_ := Aside0.mk (blk_below (g := gb134) (o := .cells #[.int .i64 a0_0, .slice A0_1 l0_1.length c0_1, .slice A0_2 l0_2.length c0_2] 27 (0, 0)) (by (with_reducible repeat (first | refine blk_drewN ?_ _ | refine blk_drew ?_ | refine blk_alloc ?_ _)); exact BK134.out) hb); have n2_ := Aside0.mk (below_step (by repeat (first | (with_reducible first | exact HB.out | apply below_alloc | apply pw_below_drewN | apply below_drew1 | refine below_set ?_ GE134.out) | exact HB.out)) hb); clear BK134; clear HB; have HO144 := n0_; have BK134 := n1_; have HB := n2_; clear n0_ n1_ n2_; clear hb ho52; have hcz53_0 : w51.cell? ⟨gb134, 0, none⟩ = some (.int .i64 a0_0) := (blk_cell BK134.out 0).trans rfl; have hcz53_1 : w51.cell? ⟨gb134, 1, none⟩ = some (.slice A0_1 l0_1.length c0_1) := (blk_cell BK134.out 1).trans rfl; have hcz53_2 : w51.cell? ⟨gb134, 2, none⟩ = some (.slice A0_2 l0_2.length c0_2) := (blk_cell BK134.out 2).trans rfl; have hfz53_0 := blk_frozen BK134.out 0; have hfz53_1 := blk_frozen BK134.out 1; have hfz53_2 := blk_frozen BK134.out 2) | (go_at_call 16; (with_reducible refine (stowageref17_Bare.calls a0_0 false _ A45.out).mono ?_); rintro e w' ⟨rfl, ⟨nd, rfl⟩⟩) | ((with_reducible refine gate_builtin (b := .append) (xs := #[.tmp 80, .tmp 82]) rfl ?_); at_builtin; refine Kd.V_append_mark (w0 := w) w.heap.size rfl (.tmp 80) (.tmp 82) 23 5 rfl Tryd.underlying23 info5 v143 y142 l0_2 _ _ rfl rfl MKHO144.out rfl ?aR (by first | assumption | omega) ?aB ?aS (ok := fun k_ => w.heap.size ≤ k_) (fun _ hk => hk) ?_; (case aR => repeat (first | exact (Kd.C_below HR0_2.out (by repeat (first | (with_reducible first | exact HB.out | apply below_alloc | apply pw_below_drewN | apply below_drew1 | refine below_set ?_ GE134.out) | exact HB.out))) | (with_reducible refine Kd.C_alloc ?_ _) | (with_reducible refine Kd.C_drewN ?_ _) | (with_reducible refine Kd.C_drew ?_))); (case aB => exact (by repeat (first | (with_reducible first | exact HB.out | apply below_alloc | apply pw_below_drewN | apply below_drew1 | refine below_set ?_ GE134.out) | exact HB.out))); (case aS => exact (below_size (by repeat (first | (with_reducible first | exact HB.out | apply below_alloc | apply pw_below_drewN | apply below_drew1 | refine below_set ?_ GE134.out) | exact HB.out)))); intro v147 w54 ho55 hb; rw [← Ny146.out] at ho55; have n0_ := Aside0.mk (ho55); have n1_ := Aside0.mk (hb); clear HB; clear HO144; have HO148 := n0_; have HB := n1_; clear n0_ n1_; clear hb ho55))
                     go_ret
                     exact ⟨_, by first | rfl | (simp [errW_none, errW_some] <;> rfl) | (simp [*, errW_none, errW_some] <;> rfl), by (with_reducible repeat (first | apply Kd.V_alloc | apply Kd.V_drewN | apply Kd.V_drew)); exact HO148.out, by repeat (first | (with_reducible first | exact HB.out | apply below_alloc | apply pw_below_drewN | apply below_drew1) | exact HB.out)⟩
                    ·exact absurd H (by simp)
                 ·exact absurd H (by simp)
                ·exact absurd H (by simp)
               ·exact absurd H (by simp)
              ·replace c38 := Bool.eq_false_iff.mpr c38
               subst c38
               replace H := itF H
               replace H := itO H
               rcases H with ⟨c56, H⟩ | ⟨c56, H⟩
               ·skip
                have c56b0 := eq_true c56
                have c56b1 := decide_eq_true c56
                try have c56b2 := eq_false (Nat.not_lt.2 c56)
                try (have c56n : x11_29.size + 2 ≤ 9223372036854775807 := by have h_ := c56; simp only [ByteArray.size_append, ByteArray.size_extract] at h_; exact h_)
                try have c56f : (9223372036854775807 < x11_29.size + 2) = False := eq_false (by first | omega | (simp only [eq_iff_iff, iff_true] at *; omega))
                replace H := itO H
                rcases H with ⟨c57, H⟩ | ⟨c57, H⟩
                ·skip
                 have c57b0 := eq_true c57
                 have c57b1 := decide_eq_true c57
                 obtain ⟨y149, hy149⟩ : ∃ y_ : List Int, y_ = (bytesOf (x11_29 ++ (⟨#[13, 10]⟩ : ByteArray))) := ⟨_, rfl⟩
                 replace H : (if a1 = true then (some y149) else ((stowageref17_Bare.f a0_0).bind fun t152 => (if t152 = true then (some y149) else (if y149.length + l0_2.length ≤ 140737488355328 then (some (y149 ++ l0_2)) else (none))))) = some r := by first | (rw [hy149]; with_reducible exact H) | (have H2_ := (Option.bind_some _ _).symm.trans H; rw [hy149]; with_reducible exact H2_) | (have H2_ := (Option.bind_some _ _).symm.trans H; with_reducible exact H2_) | with_reducible exact H | (rw [hy149]; exact H) | exact H
                 have Ny149 := Aside0.mk hy149
                 clear hy149
                 by_cases c58 : a1 = true
                 ·subst c58
                  replace H := itT H
                  obtain rfl := Option.some.inj H
                  go_wp2_with (first | ((with_reducible refine gate_dst (N := 72) rfl ?_); refine Kd.V_bytesM _ 5 rfl (N := 72) rfl 9 23 _ rfl (x11_29 ++ (⟨#[13, 10]⟩ : ByteArray)) rfl Tryd.underlying9 Tryd.underlying23 Tryd.underlying5 (ok := fun k_ => wc.heap.size ≤ k_) (Nat.le_refl _) (by first | assumption | omega) (Below.refl _ _) (Nat.le_refl _) ?_; intro v150 w59 ho60 hb hg_ hnew_; rw [← Ny149.out] at hnew_; have MKHO151 := Aside0.mk (ByRow.lower hnew_ ((below_size (by repeat (first | (with_reducible first | exact HB.out | apply below_alloc | apply pw_below_drewN | apply below_drew1 | refine below_set ?_ GE134.out) | exact HB.out))))); clear hg_ hnew_; (first | rw [← Ny149.out] at ho60 | (simp only [Int.reduceToNat] at ho60; rw [← Ny149.out] at ho60)); have n0_ := Aside0.mk (Kd.V_lower (Kd.V_mono (ok' := fun k_ => (w.heap.size ≤ k_) ∧ k_ ≠ gb134) ho60 (fun k_ hk_ => ⟨(Nat.le_trans (below_size (by repeat (first | (with_reducible first | exact HB.out | apply below_alloc | apply pw_below_drewN | apply below_drew1 | refine below_set ?_ GE134.out) | exact HB.out))) hk_), (Kd.freshB (g := gb134) (o := .cells #[.int .i64 a0_0, .slice A0_1 l0_1.length c0_1, .slice A0_2 l0_2.length c0_2] 27 (0, 0)) (by (with_reducible repeat (first | refine blk_drewN ?_ _ | refine blk_drew ?_ | refine blk_alloc ?_ _)); exact BK134.out) k_ hk_)⟩)) (below_size (by repeat (first | (with_reducible first | exact HB.out | apply below_alloc | apply pw_below_drewN | apply below_drew1 | refine below_set ?_ GE134.out) | exact HB.out)))); have n1_ := Aside0.mk (blk_below (g := gb134) (o := .cells #[.int .i64 a0_0, .slice A0_1 l0_1.length c0_1, .slice A0_2 l0_2.length c0_2] 27 (0, 0)) (by (with_reducible repeat (first | refine blk_drewN ?_ _ | refine blk_drew ?_ | refine blk_alloc ?_ _)); exact BK134.out) hb); have n2_ := Aside0.mk (below_step (by repeat (first | (with_reducible first | exact HB.out | apply below_alloc | apply pw_below_drewN | apply below_drew1 | refine below_set ?_ GE134.out) | exact HB.out)) hb); clear BK134; clear HB; have HO151 := n0_; have BK134 := n1_; have HB := n2_; clear n0_ n1_ n2_; clear hb ho60))
                  go_ret
                  exact ⟨_, by first | rfl | (simp [errW_none, errW_some] <;> rfl) | (simp [*, errW_none, errW_some] <;> rfl), by (with_reducible repeat (first | apply Kd.V_alloc | apply Kd.V_drewN | apply Kd.V_drew)); exact Kd.V_mono HO151.out (fun _ hk => hk.1), by repeat (first | (with_reducible first | exact HB.out | apply below_alloc | apply pw_below_drewN | apply below_drew1 | refine below_set ?_ GE134.out) | exact HB.out)⟩
                 ·replace c58 := Bool.eq_false_iff.mpr c58
                  subst c58
                  replace H := itF H
                  replace H := bndO H
                  obtain ⟨t152, A610, H⟩ := H
                  have A61 := Aside0.mk A610
                  clear A610
                  by_cases c62 : t152 = true
                  ·subst c62
                   replace H := itT H
                   obtain rfl := Option.some.inj H
                   go_wp2_with (first | ((with_reducible refine gate_dst (N := 72) rfl ?_); refine Kd.V_bytesM _ 5 rfl (N := 72) rfl 9 23 _ rfl (x11_29 ++ (⟨#[13, 10]⟩ : ByteArray)) rfl Tryd.underlying9 Tryd.underlying23 Tryd.underlying5 (ok := fun k_ => wc.heap.size ≤ k_) (Nat.le_refl _) (by first | assumption | omega) (Below.refl _ _) (Nat.le_refl _) ?_; intro v150 w63 ho64 hb hg_ hnew_; rw [← Ny149.out] at hnew_; have MKHO151 := Aside0.mk (ByRow.lower hnew_ ((below_size (by repeat (first | (with_reducible first | exact HB.out | apply below_alloc | apply pw_below_drewN | apply below_drew1 | refine below_set ?_ GE134.out) | exact HB.out))))); clear hg_ hnew_; (first | rw [← Ny149.out] at ho64 | (simp only [Int.reduceToNat] at ho64; rw [← Ny149.out] at ho64)); have n0_ := Aside0.mk (Kd.V_lower (Kd.V_mono (ok' := fun k_ => (w.heap.size ≤ k_) ∧ k_ ≠ gb134) ho64 (fun k_ hk_ => ⟨(Nat.le_trans (below_size (by repeat (first | (with_reducible first | exact HB.out | apply below_alloc | apply pw_below_drewN | apply below_drew1 | refine below_set ?_ GE134.out) | exact HB.out))) hk_), (Kd.freshB (g := gb134) (o := .cells #[.int .i64 a0_0, .slice A0_1 l0_1.length c0_1, .slice A0_2 l0_2.length c0_2] 27 (0, 0)) (by (with_reducible repeat (first | refine blk_drewN ?_ _ | refine blk_drew ?_ | refine blk_alloc ?_ _)); exact BK134.out) k_ hk_)⟩)) (below_size (by repeat (first | (with_reducible first | exact HB.out | apply below_alloc | apply pw_below_drewN | apply below_drew1 | refine below_set ?_ GE134.out) | exact HB.out)))); have n1_ := Aside0.mk (blk_below (g := gb134) (o := .cells #[.int .i64 a0_0, .slice A0_1 l0_1.length c0_1, .slice A0_2 l0_2.length c0_2] 27 (0, 0)) (by (with_reducible repeat (first | refine blk_drewN ?_ _ | refine blk_drew ?_ | refine blk_alloc ?_ _)); exact BK134.out) hb); have n2_ := Aside0.mk (below_step (by repeat (first | (with_reducible first | exact HB.out | apply below_alloc | apply pw_below_drewN | apply below_drew1 | refine below_set ?_ GE134.out) | exact HB.out)) hb); clear BK134; clear HB; have HO151 := n0_; have BK134 := n1_; have HB := n2_; clear n0_ n1_ n2_; clear hb ho64; have hcz65_0 : w63.cell? ⟨gb134, 0, none⟩ = some (.int .i64 a0_0) := (blk_cell BK134.out 0).trans rfl; have hcz65_1 : w63.cell? ⟨gb134, 1, none⟩ = some (.slice A0_1 l0_1.length c0_1) := (blk_cell BK134.out 1).trans rfl; have hcz65_2 : w63.cell? ⟨gb134, 2, none⟩ = some (.slice A0_2 l0_2.length c0_2) := (blk_cell BK134.out 2).trans rfl; have hfz65_0 := blk_frozen BK134.out 0; have hfz65_1 := blk_frozen BK134.out 1; have hfz65_2 := blk_frozen BK134.out 2) | (go_at_call 16; (with_reducible refine (stowageref17_Bare.calls a0_0 true _ A61.out).mono ?_); rintro e w' ⟨rfl, ⟨nd, rfl⟩⟩))
                   go_ret
                   exact ⟨_, by first | rfl | (simp [errW_none, errW_some] <;> rfl) | (simp [*, errW_none, errW_some] <;> rfl), by (with_reducible repeat (first | apply Kd.V_alloc | apply Kd.V_drewN | apply Kd.V_drew)); exact Kd.V_mono HO151.out (fun _ hk => hk.1), by repeat (first | (with_reducible first | exact HB.out | apply below_alloc | apply pw_below_drewN | apply below_drew1 | refine below_set ?_ GE134.out) | exact HB.out)⟩
                  ·replace c62 := Bool.eq_false_iff.mpr c62
                   subst c62
                   replace H := itF H
                   replace H := itO H
                   rcases H with ⟨c66, H⟩ | ⟨c66, H⟩
                   ·skip
                    have c66b0 := eq_true c66
                    have c66b1 := decide_eq_true c66
                    obtain ⟨y153, hy153⟩ : ∃ y_ : List Int, y_ = (y149 ++ l0_2) := ⟨_, rfl⟩
                    replace H : (some y153) = some r := by first | (rw [hy153]; with_reducible exact H) | (have H2_ := (Option.bind_some _ _).symm.trans H; rw [hy153]; with_reducible exact H2_) | (have H2_ := (Option.bind_some _ _).symm.trans H; with_reducible exact H2_) | with_reducible exact H | (rw [hy153]; exact H) | exact H
                    have Ny153 := Aside0.mk hy153
                    clear hy153
                    obtain rfl := Option.some.inj H
                    go_wp2_with (first | ((with_reducible refine gate_dst (N := 72) rfl ?_); refine Kd.V_bytesM _ 5 rfl (N := 72) rfl 9 23 _ rfl (x11_29 ++ (⟨#[13, 10]⟩ : ByteArray)) rfl Tryd.underlying9 Tryd.underlying23 Tryd.underlying5 (ok := fun k_ => wc.heap.size ≤ k_) (Nat.le_refl _) (by first | assumption | omega) (Below.refl _ _) (Nat.le_refl _) ?_; intro v150 w67 ho68 hb hg_ hnew_; rw [← Ny149.out] at hnew_; have MKHO151 := Aside0.mk (ByRow.lower hnew_ ((below_size (by repeat (first | (with_reducible first | exact HB.out | apply below_alloc | apply pw_below_drewN | apply below_drew1 | refine below_set ?_ GE134.out) | exact HB.out))))); clear hg_ hnew_; (first | rw [← Ny149.out] at ho68 | (simp only [Int.reduceToNat] at ho68; rw [← Ny149.out] at ho68)); have n0_ := Aside0.mk (Kd.V_lower (Kd.V_mono (ok' := fun k_ => (w.heap.size ≤ k_) ∧ k_ ≠ gb134) ho68 (fun k_ hk_ => ⟨(Nat.le_trans (below_size (by repeat (first | (with_reducible first | exact HB.out | apply below_alloc | apply pw_below_drewN | apply below_drew1 | refine below_set ?_ GE134.out) | exact HB.out))) hk_), (Kd.freshB (g := gb134) (o := .cells #[.int .i64 a0_0, .slice A0_1 l0_1.length c0_1, .slice A0_2 l0_2.length c0_2] 27 (0, 0)) (by (with_reducible repeat (first | refine blk_drewN ?_ _ | refine blk_drew ?_ | refine blk_alloc ?_ _)); exact BK134.out) k_ hk_)⟩)) (below_size (by repeat (first | (with_reducible first | exact HB.out | apply below_alloc | apply pw_below_drewN | apply below_drew1 | refine below_set ?_ GE134.out) | exact HB.out)))); have n1_ := Aside0.mk (blk_below (g := gb134) (o := .cells #[.int .i64 a0_0, .slice A0_1 l0_1.length c0_1, .slice A0_2 l0_2.length c0_2] 27 (0, 0)) (by (with_reducible repeat (first | refine blk_drewN ?_ _ | refine blk_drew ?_ | refine blk_alloc ?_ _)); exact BK134.out) hb); have n2_ := Aside0.mk (below_step (by repeat (first | (with_reducible first | exact HB.out | apply below_alloc | apply pw_below_drewN | apply below_drew1 | refine below_set ?_ GE134.out) | exact HB.out)) hb); clear BK134; clear HB; have HO151 := n0_; have BK134 := n1_; have HB := n2_; clear n0_ n1_ n2_; clear hb ho68; have hcz69_0 : w67.cell? ⟨gb134, 0, none⟩ = some (.int .i64 a0_0) := (blk_cell BK134.out 0).trans rfl; have hcz69_1 : w67.cell? ⟨gb134, 1, none⟩ = some (.slice A0_1 l0_1.length c0_1) := (blk_cell BK134.out 1).trans rfl; have hcz69_2 : w67.cell? ⟨gb134, 2, none⟩ = some (.slice A0_2 l0_2.length c0_2) := (blk_cell BK134.out 2).trans rfl; have hfz69_0 := blk_frozen BK134.out 0; have hfz69_1 := blk_frozen BK134.out 1; have hfz69_2 := blk_frozen BK134.out 2) | (go_at_call 16; (with_reducible refine (stowageref17_Bare.calls a0_0 false _ A61.out).mono ?_); rintro e w' ⟨rfl, ⟨nd, rfl⟩⟩) | ((with_reducible refine gate_builtin (b := .append) (xs := #[.tmp 80, .tmp 82]) rfl ?_); at_builtin; refine Kd.V_append_mark (w0 := w) w.heap.size rfl (.tmp 80) (.tmp 82) 23 5 rfl Tryd.underlying23 info5 v150 y149 l0_2 _ _ rfl rfl MKHO151.out rfl ?aR (by first | assumption | omega) ?aB ?aS (ok := fun k_ => w.heap.size ≤ k_) (fun _ hk => hk) ?_; (case aR => repeat (first | exact (Kd.C_below HR0_2.out (by repeat (first | (with_reducible first | exact HB.out | apply below_alloc | apply pw_below_drewN | apply below_drew1 | refine below_set ?_ GE134.out) | exact HB.out))) | (with_reducible refine Kd.C_alloc ?_ _) | (with_reducible refine Kd.C_drewN ?_ _) | (with_reducible refine Kd.C_drew ?_))); (case aB => exact (by repeat (first | (with_reducible first | exact HB.out | apply below_alloc | apply pw_below_drewN | apply below_drew1 | refine below_set ?_ GE134.out) | exact HB.out))); (case aS => exact (below_size (by repeat (first | (with_reducible first | exact HB.out | apply below_alloc | apply pw_below_drewN | apply below_drew1 | refine below_set ?_ GE134.out) | exact HB.out)))); intro v154 w70 ho71 hb; rw [← Ny153.out] at ho71; have n0_ := Aside0.mk (ho71); have n1_ := Aside0.mk (hb); clear HB; clear HO151; have HO155 := n0_; have HB := n1_; clear n0_ n1_; clear hb ho71))
                    go_ret
                    exact ⟨_, by first | rfl | (simp [errW_none, errW_some] <;> rfl) | (simp [*, errW_none, errW_some] <;> rfl), by (with_reducible repeat (first | apply Kd.V_alloc | apply Kd.V_drewN | apply Kd.V_drew)); exact HO155.out, by repeat (first | (with_reducible first | exact HB.out | apply below_alloc | apply pw_below_drewN | apply below_drew1) | exact HB.out)⟩
                   ·exact absurd H (by simp)
                ·exact absurd H (by simp)
               ·exact absurd H (by simp)
        ·exact absurd H (by simp)
       ·exact absurd H (by simp)
      ·exact absurd H (by simp)
     ·exact absurd H (by simp)
    ·exact absurd H (by simp)
   ·exact absurd H (by simp)
  ·exact absurd H (by simp)
 ·exact absurd H (by simp)
end Go.Proofs.YtfjidcmegacibaaDoor.Q
