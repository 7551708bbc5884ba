/- A part of the proof of the seat's laws. No condition beyond those in the theorems. -/
import Derived.Test.YteggifhicmbopaaZQ0
import Derived.Test.YteggifhicmbopaaZQ20
import Derived.Test.YteggifhicmbopaaZQ25

namespace Go.Proofs.Yteggifhicmbopaa.Q
open Go.RowKit Go.Proofs.YteggifhicmbopaaW.PrintWords Go.Proofs.YteggifhicmbopaaW.PrintLast Go.Proofs.YteggifhicmbopaaW.PrintMore
set_option linter.unusedVariables false
set_option linter.unusedSimpArgs false
attribute [local go_sem] max2_int min2_int max_two min_two max_three min_three max_four min_four   
def stowageref4_Iso.f (k : Nat) (a0 : Int) : Option (ByteArray) := (stowageref4_Civil.f k a0).bind fun bt270 => (if bt270.2.2.2.2.2.2 = true then ((stowageref4_wide.f k bt270.1 4).bind fun t278 => (if t278.size + 1 ≤ 9223372036854775807 then ((stowageref4_wide.f k bt270.2.1 2).bind fun t279 => (if (t278 ++ (⟨#[45]⟩ : ByteArray)).size + t279.size ≤ 9223372036854775807 then (if ((t278 ++ (⟨#[45]⟩ : ByteArray)) ++ t279).size + 1 ≤ 9223372036854775807 then ((stowageref4_wide.f k bt270.2.2.1 2).bind fun t280 => (if (((t278 ++ (⟨#[45]⟩ : ByteArray)) ++ t279) ++ (⟨#[45]⟩ : ByteArray)).size + t280.size ≤ 9223372036854775807 then (if ((((t278 ++ (⟨#[45]⟩ : ByteArray)) ++ t279) ++ (⟨#[45]⟩ : ByteArray)) ++ t280).size + 1 ≤ 9223372036854775807 then ((stowageref4_wide.f k bt270.2.2.2.1 2).bind fun t281 => (if (((((t278 ++ (⟨#[45]⟩ : ByteArray)) ++ t279) ++ (⟨#[45]⟩ : ByteArray)) ++ t280) ++ (⟨#[84]⟩ : ByteArray)).size + t281.size ≤ 9223372036854775807 then (if ((((((t278 ++ (⟨#[45]⟩ : ByteArray)) ++ t279) ++ (⟨#[45]⟩ : ByteArray)) ++ t280) ++ (⟨#[84]⟩ : ByteArray)) ++ t281).size + 1 ≤ 9223372036854775807 then ((stowageref4_wide.f k bt270.2.2.2.2.1 2).bind fun t282 => (if (((((((t278 ++ (⟨#[45]⟩ : ByteArray)) ++ t279) ++ (⟨#[45]⟩ : ByteArray)) ++ t280) ++ (⟨#[84]⟩ : ByteArray)) ++ t281) ++ (⟨#[58]⟩ : ByteArray)).size + t282.size ≤ 9223372036854775807 then (if ((((((((t278 ++ (⟨#[45]⟩ : ByteArray)) ++ t279) ++ (⟨#[45]⟩ : ByteArray)) ++ t280) ++ (⟨#[84]⟩ : ByteArray)) ++ t281) ++ (⟨#[58]⟩ : ByteArray)) ++ t282).size + 1 ≤ 9223372036854775807 then ((stowageref4_wide.f k bt270.2.2.2.2.2.1 2).bind fun t283 => (if (((((((((t278 ++ (⟨#[45]⟩ : ByteArray)) ++ t279) ++ (⟨#[45]⟩ : ByteArray)) ++ t280) ++ (⟨#[84]⟩ : ByteArray)) ++ t281) ++ (⟨#[58]⟩ : ByteArray)) ++ t282) ++ (⟨#[58]⟩ : ByteArray)).size + t283.size ≤ 9223372036854775807 then (if ((((((((((t278 ++ (⟨#[45]⟩ : ByteArray)) ++ t279) ++ (⟨#[45]⟩ : ByteArray)) ++ t280) ++ (⟨#[84]⟩ : ByteArray)) ++ t281) ++ (⟨#[58]⟩ : ByteArray)) ++ t282) ++ (⟨#[58]⟩ : ByteArray)) ++ t283).size + 5 ≤ 9223372036854775807 then (some (((((((((((t278 ++ (⟨#[45]⟩ : ByteArray)) ++ t279) ++ (⟨#[45]⟩ : ByteArray)) ++ t280) ++ (⟨#[84]⟩ : ByteArray)) ++ t281) ++ (⟨#[58]⟩ : ByteArray)) ++ t282) ++ (⟨#[58]⟩ : ByteArray)) ++ t283) ++ (⟨#[46, 48, 48, 48, 90]⟩ : ByteArray))) else (none)) else (none))) else (none)) else (none))) else (none)) else (none))) else (none)) else (none))) else (none)) else (none))) else (none))) else (some (⟨#[]⟩ : ByteArray)))
theorem stowageref4_Iso.mono : ∀ a0 k, LeO (stowageref4_Iso.f k a0) (stowageref4_Iso.f (k + 1) a0) := by
 intro a0 k
 unfold stowageref4_Iso.f
 repeat' first
   | (with_reducible exact stowageref4_Civil.mono _ _)
   | (with_reducible exact stowageref4_wide.mono _ _ _)
   | (with_reducible exact LeO.refl _)
   | (with_reducible exact LeO.none _)
   | (with_reducible refine LeO.ite ?_ ?_)
   | (with_reducible refine LeO.bind ?_ (fun _ => ?_))
   | exact stowageref4_Civil.mono _ _
   | exact stowageref4_wide.mono _ _ _
   | exact LeO.none _
   | refine LeO.ite ?_ ?_
   | refine LeO.bind ?_ (fun _ => ?_)
def stowageref4_Iso.T4 : Bool × List (List Nat × List Nat) := (true, [([], []), ([0], [0]), ([1], [1]), ([2], [2]), ([], []), ([4], [4]), ([5, 2], [5]), ([3, 6], [3, 6]), ([7], [7]), ([], []), ([9], [9]), ([10, 6], [10]), ([8, 11], [8, 11]), ([12], [12]), ([], []), ([14], [14]), ([15, 11], [15]), ([13, 16], [13, 16]), ([17], [17]), ([], []), ([19], [19]), ([20, 16], [20]), ([18, 21], [18, 21]), ([22], [22]), ([], []), ([24], [24]), ([25, 21], [25]), ([23, 26], [23, 26]), ([27], [27]), ([28, 26, 0, 1, 2, 3, 4, 5, 6, 7, 8, 9, 10, 11, 12, 13, 14, 15, 16, 17, 18, 19, 20, 21, 22, 23, 24, 25, 26, 27, 28], [28])])
def stowageref4_Iso.B4 : List Nat := [0, 1, 3, 7, 0, 16, 55, 127, 255, 0, 512, 1655, 4095, 8191, 0, 16384, 52855, 131071, 262143, 0, 524288, 1691255, 4194303, 8388607, 0, 16777216, 54120055, 134217727, 268435455, 536870911]
theorem stowageref4_Iso.tab4 : rtab .any (opsOf Try.f18 4) = stowageref4_Iso.T4 := by kernel_rfl
theorem stowageref4_Iso.bits4 : waitsOk stowageref4_Iso.T4.2 stowageref4_Iso.B4 = true := by kernel_rfl
set_option maxHeartbeats 8000000 in
set_option maxRecDepth 100000 in
theorem stowageref4_Iso.calls (k : Nat) (a0 : Int) (r : ByteArray) (w : World) (h : stowageref4_Iso.f k a0 = some r) :
  Calls Try.prog 18 #[.int .i64 a0] w fun e w' => e = .returned (.string r) ∧ Below w.heap.size w w' := by
 have hu27 := Try.underlying27
 have HB := Aside0.mk (Below.refl w.heap.size w)
 have H : ((stowageref4_Civil.f k a0).bind fun bt270 => (if bt270.2.2.2.2.2.2 = true then ((stowageref4_wide.f k bt270.1 4).bind fun t278 => (if t278.size + 1 ≤ 9223372036854775807 then ((stowageref4_wide.f k bt270.2.1 2).bind fun t279 => (if (t278 ++ (⟨#[45]⟩ : ByteArray)).size + t279.size ≤ 9223372036854775807 then (if ((t278 ++ (⟨#[45]⟩ : ByteArray)) ++ t279).size + 1 ≤ 9223372036854775807 then ((stowageref4_wide.f k bt270.2.2.1 2).bind fun t280 => (if (((t278 ++ (⟨#[45]⟩ : ByteArray)) ++ t279) ++ (⟨#[45]⟩ : ByteArray)).size + t280.size ≤ 9223372036854775807 then (if ((((t278 ++ (⟨#[45]⟩ : ByteArray)) ++ t279) ++ (⟨#[45]⟩ : ByteArray)) ++ t280).size + 1 ≤ 9223372036854775807 then ((stowageref4_wide.f k bt270.2.2.2.1 2).bind fun t281 => (if (((((t278 ++ (⟨#[45]⟩ : ByteArray)) ++ t279) ++ (⟨#[45]⟩ : ByteArray)) ++ t280) ++ (⟨#[84]⟩ : ByteArray)).size + t281.size ≤ 9223372036854775807 then (if ((((((t278 ++ (⟨#[45]⟩ : ByteArray)) ++ t279) ++ (⟨#[45]⟩ : ByteArray)) ++ t280) ++ (⟨#[84]⟩ : ByteArray)) ++ t281).size + 1 ≤ 9223372036854775807 then ((stowageref4_wide.f k bt270.2.2.2.2.1 2).bind fun t282 => (if (((((((t278 ++ (⟨#[45]⟩ : ByteArray)) ++ t279) ++ (⟨#[45]⟩ : ByteArray)) ++ t280) ++ (⟨#[84]⟩ : ByteArray)) ++ t281) ++ (⟨#[58]⟩ : ByteArray)).size + t282.size ≤ 9223372036854775807 then (if ((((((((t278 ++ (⟨#[45]⟩ : ByteArray)) ++ t279) ++ (⟨#[45]⟩ : ByteArray)) ++ t280) ++ (⟨#[84]⟩ : ByteArray)) ++ t281) ++ (⟨#[58]⟩ : ByteArray)) ++ t282).size + 1 ≤ 9223372036854775807 then ((stowageref4_wide.f k bt270.2.2.2.2.2.1 2).bind fun t283 => (if (((((((((t278 ++ (⟨#[45]⟩ : ByteArray)) ++ t279) ++ (⟨#[45]⟩ : ByteArray)) ++ t280) ++ (⟨#[84]⟩ : ByteArray)) ++ t281) ++ (⟨#[58]⟩ : ByteArray)) ++ t282) ++ (⟨#[58]⟩ : ByteArray)).size + t283.size ≤ 9223372036854775807 then (if ((((((((((t278 ++ (⟨#[45]⟩ : ByteArray)) ++ t279) ++ (⟨#[45]⟩ : ByteArray)) ++ t280) ++ (⟨#[84]⟩ : ByteArray)) ++ t281) ++ (⟨#[58]⟩ : ByteArray)) ++ t282) ++ (⟨#[58]⟩ : ByteArray)) ++ t283).size + 5 ≤ 9223372036854775807 then (some (((((((((((t278 ++ (⟨#[45]⟩ : ByteArray)) ++ t279) ++ (⟨#[45]⟩ : ByteArray)) ++ t280) ++ (⟨#[84]⟩ : ByteArray)) ++ t281) ++ (⟨#[58]⟩ : ByteArray)) ++ t282) ++ (⟨#[58]⟩ : ByteArray)) ++ t283) ++ (⟨#[46, 48, 48, 48, 90]⟩ : ByteArray))) else (none)) else (none))) else (none)) else (none))) else (none)) else (none))) else (none)) else (none))) else (none)) else (none))) else (none))) else (some (⟨#[]⟩ : ByteArray)))) = some r := h
 clear h
 replace H := Option.bind_eq_some_iff.mp H
 obtain ⟨⟨t270, t271, t272, t273, t274, t275, t276⟩, A20, H⟩ := H
 replace H : (if t276 = true then ((stowageref4_wide.f k t270 4).bind fun t278 => (if t278.size + 1 ≤ 9223372036854775807 then ((stowageref4_wide.f k t271 2).bind fun t279 => (if (t278 ++ (⟨#[45]⟩ : ByteArray)).size + t279.size ≤ 9223372036854775807 then (if ((t278 ++ (⟨#[45]⟩ : ByteArray)) ++ t279).size + 1 ≤ 9223372036854775807 then ((stowageref4_wide.f k t272 2).bind fun t280 => (if (((t278 ++ (⟨#[45]⟩ : ByteArray)) ++ t279) ++ (⟨#[45]⟩ : ByteArray)).size + t280.size ≤ 9223372036854775807 then (if ((((t278 ++ (⟨#[45]⟩ : ByteArray)) ++ t279) ++ (⟨#[45]⟩ : ByteArray)) ++ t280).size + 1 ≤ 9223372036854775807 then ((stowageref4_wide.f k t273 2).bind fun t281 => (if (((((t278 ++ (⟨#[45]⟩ : ByteArray)) ++ t279) ++ (⟨#[45]⟩ : ByteArray)) ++ t280) ++ (⟨#[84]⟩ : ByteArray)).size + t281.size ≤ 9223372036854775807 then (if ((((((t278 ++ (⟨#[45]⟩ : ByteArray)) ++ t279) ++ (⟨#[45]⟩ : ByteArray)) ++ t280) ++ (⟨#[84]⟩ : ByteArray)) ++ t281).size + 1 ≤ 9223372036854775807 then ((stowageref4_wide.f k t274 2).bind fun t282 => (if (((((((t278 ++ (⟨#[45]⟩ : ByteArray)) ++ t279) ++ (⟨#[45]⟩ : ByteArray)) ++ t280) ++ (⟨#[84]⟩ : ByteArray)) ++ t281) ++ (⟨#[58]⟩ : ByteArray)).size + t282.size ≤ 9223372036854775807 then (if ((((((((t278 ++ (⟨#[45]⟩ : ByteArray)) ++ t279) ++ (⟨#[45]⟩ : ByteArray)) ++ t280) ++ (⟨#[84]⟩ : ByteArray)) ++ t281) ++ (⟨#[58]⟩ : ByteArray)) ++ t282).size + 1 ≤ 9223372036854775807 then ((stowageref4_wide.f k t275 2).bind fun t283 => (if (((((((((t278 ++ (⟨#[45]⟩ : ByteArray)) ++ t279) ++ (⟨#[45]⟩ : ByteArray)) ++ t280) ++ (⟨#[84]⟩ : ByteArray)) ++ t281) ++ (⟨#[58]⟩ : ByteArray)) ++ t282) ++ (⟨#[58]⟩ : ByteArray)).size + t283.size ≤ 9223372036854775807 then (if ((((((((((t278 ++ (⟨#[45]⟩ : ByteArray)) ++ t279) ++ (⟨#[45]⟩ : ByteArray)) ++ t280) ++ (⟨#[84]⟩ : ByteArray)) ++ t281) ++ (⟨#[58]⟩ : ByteArray)) ++ t282) ++ (⟨#[58]⟩ : ByteArray)) ++ t283).size + 5 ≤ 9223372036854775807 then (some (((((((((((t278 ++ (⟨#[45]⟩ : ByteArray)) ++ t279) ++ (⟨#[45]⟩ : ByteArray)) ++ t280) ++ (⟨#[84]⟩ : ByteArray)) ++ t281) ++ (⟨#[58]⟩ : ByteArray)) ++ t282) ++ (⟨#[58]⟩ : ByteArray)) ++ t283) ++ (⟨#[46, 48, 48, 48, 90]⟩ : ByteArray))) else (none)) else (none))) else (none)) else (none))) else (none)) else (none))) else (none)) else (none))) else (none)) else (none))) else (none))) else (some (⟨#[]⟩ : ByteArray))) = some r := H
 have A2 := Aside0.mk A20
 clear A20
 by_cases c3 : t276 = true
 ·subst c3
  have H1 : ((stowageref4_wide.f k t270 4).bind fun t278 => (if t278.size + 1 ≤ 9223372036854775807 then ((stowageref4_wide.f k t271 2).bind fun t279 => (if (t278 ++ (⟨#[45]⟩ : ByteArray)).size + t279.size ≤ 9223372036854775807 then (if ((t278 ++ (⟨#[45]⟩ : ByteArray)) ++ t279).size + 1 ≤ 9223372036854775807 then ((stowageref4_wide.f k t272 2).bind fun t280 => (if (((t278 ++ (⟨#[45]⟩ : ByteArray)) ++ t279) ++ (⟨#[45]⟩ : ByteArray)).size + t280.size ≤ 9223372036854775807 then (if ((((t278 ++ (⟨#[45]⟩ : ByteArray)) ++ t279) ++ (⟨#[45]⟩ : ByteArray)) ++ t280).size + 1 ≤ 9223372036854775807 then ((stowageref4_wide.f k t273 2).bind fun t281 => (if (((((t278 ++ (⟨#[45]⟩ : ByteArray)) ++ t279) ++ (⟨#[45]⟩ : ByteArray)) ++ t280) ++ (⟨#[84]⟩ : ByteArray)).size + t281.size ≤ 9223372036854775807 then (if ((((((t278 ++ (⟨#[45]⟩ : ByteArray)) ++ t279) ++ (⟨#[45]⟩ : ByteArray)) ++ t280) ++ (⟨#[84]⟩ : ByteArray)) ++ t281).size + 1 ≤ 9223372036854775807 then ((stowageref4_wide.f k t274 2).bind fun t282 => (if (((((((t278 ++ (⟨#[45]⟩ : ByteArray)) ++ t279) ++ (⟨#[45]⟩ : ByteArray)) ++ t280) ++ (⟨#[84]⟩ : ByteArray)) ++ t281) ++ (⟨#[58]⟩ : ByteArray)).size + t282.size ≤ 9223372036854775807 then (if ((((((((t278 ++ (⟨#[45]⟩ : ByteArray)) ++ t279) ++ (⟨#[45]⟩ : ByteArray)) ++ t280) ++ (⟨#[84]⟩ : ByteArray)) ++ t281) ++ (⟨#[58]⟩ : ByteArray)) ++ t282).size + 1 ≤ 9223372036854775807 then ((stowageref4_wide.f k t275 2).bind fun t283 => (if (((((((((t278 ++ (⟨#[45]⟩ : ByteArray)) ++ t279) ++ (⟨#[45]⟩ : ByteArray)) ++ t280) ++ (⟨#[84]⟩ : ByteArray)) ++ t281) ++ (⟨#[58]⟩ : ByteArray)) ++ t282) ++ (⟨#[58]⟩ : ByteArray)).size + t283.size ≤ 9223372036854775807 then (if ((((((((((t278 ++ (⟨#[45]⟩ : ByteArray)) ++ t279) ++ (⟨#[45]⟩ : ByteArray)) ++ t280) ++ (⟨#[84]⟩ : ByteArray)) ++ t281) ++ (⟨#[58]⟩ : ByteArray)) ++ t282) ++ (⟨#[58]⟩ : ByteArray)) ++ t283).size + 5 ≤ 9223372036854775807 then (some (((((((((((t278 ++ (⟨#[45]⟩ : ByteArray)) ++ t279) ++ (⟨#[45]⟩ : ByteArray)) ++ t280) ++ (⟨#[84]⟩ : ByteArray)) ++ t281) ++ (⟨#[58]⟩ : ByteArray)) ++ t282) ++ (⟨#[58]⟩ : ByteArray)) ++ t283) ++ (⟨#[46, 48, 48, 48, 90]⟩ : ByteArray))) else (none)) else (none))) else (none)) else (none))) else (none)) else (none))) else (none)) else (none))) else (none)) else (none))) else (none))) = some r := by rw [if_pos rfl] at H; exact H
  clear H
  have H := H1
  clear H1
  replace H := Option.bind_eq_some_iff.mp H
  obtain ⟨t278, A40, H⟩ := H
  replace H : (if t278.size + 1 ≤ 9223372036854775807 then ((stowageref4_wide.f k t271 2).bind fun t279 => (if (t278 ++ (⟨#[45]⟩ : ByteArray)).size + t279.size ≤ 9223372036854775807 then (if ((t278 ++ (⟨#[45]⟩ : ByteArray)) ++ t279).size + 1 ≤ 9223372036854775807 then ((stowageref4_wide.f k t272 2).bind fun t280 => (if (((t278 ++ (⟨#[45]⟩ : ByteArray)) ++ t279) ++ (⟨#[45]⟩ : ByteArray)).size + t280.size ≤ 9223372036854775807 then (if ((((t278 ++ (⟨#[45]⟩ : ByteArray)) ++ t279) ++ (⟨#[45]⟩ : ByteArray)) ++ t280).size + 1 ≤ 9223372036854775807 then ((stowageref4_wide.f k t273 2).bind fun t281 => (if (((((t278 ++ (⟨#[45]⟩ : ByteArray)) ++ t279) ++ (⟨#[45]⟩ : ByteArray)) ++ t280) ++ (⟨#[84]⟩ : ByteArray)).size + t281.size ≤ 9223372036854775807 then (if ((((((t278 ++ (⟨#[45]⟩ : ByteArray)) ++ t279) ++ (⟨#[45]⟩ : ByteArray)) ++ t280) ++ (⟨#[84]⟩ : ByteArray)) ++ t281).size + 1 ≤ 9223372036854775807 then ((stowageref4_wide.f k t274 2).bind fun t282 => (if (((((((t278 ++ (⟨#[45]⟩ : ByteArray)) ++ t279) ++ (⟨#[45]⟩ : ByteArray)) ++ t280) ++ (⟨#[84]⟩ : ByteArray)) ++ t281) ++ (⟨#[58]⟩ : ByteArray)).size + t282.size ≤ 9223372036854775807 then (if ((((((((t278 ++ (⟨#[45]⟩ : ByteArray)) ++ t279) ++ (⟨#[45]⟩ : ByteArray)) ++ t280) ++ (⟨#[84]⟩ : ByteArray)) ++ t281) ++ (⟨#[58]⟩ : ByteArray)) ++ t282).size + 1 ≤ 9223372036854775807 then ((stowageref4_wide.f k t275 2).bind fun t283 => (if (((((((((t278 ++ (⟨#[45]⟩ : ByteArray)) ++ t279) ++ (⟨#[45]⟩ : ByteArray)) ++ t280) ++ (⟨#[84]⟩ : ByteArray)) ++ t281) ++ (⟨#[58]⟩ : ByteArray)) ++ t282) ++ (⟨#[58]⟩ : ByteArray)).size + t283.size ≤ 9223372036854775807 then (if ((((((((((t278 ++ (⟨#[45]⟩ : ByteArray)) ++ t279) ++ (⟨#[45]⟩ : ByteArray)) ++ t280) ++ (⟨#[84]⟩ : ByteArray)) ++ t281) ++ (⟨#[58]⟩ : ByteArray)) ++ t282) ++ (⟨#[58]⟩ : ByteArray)) ++ t283).size + 5 ≤ 9223372036854775807 then (some (((((((((((t278 ++ (⟨#[45]⟩ : ByteArray)) ++ t279) ++ (⟨#[45]⟩ : ByteArray)) ++ t280) ++ (⟨#[84]⟩ : ByteArray)) ++ t281) ++ (⟨#[58]⟩ : ByteArray)) ++ t282) ++ (⟨#[58]⟩ : ByteArray)) ++ t283) ++ (⟨#[46, 48, 48, 48, 90]⟩ : ByteArray))) else (none)) else (none))) else (none)) else (none))) else (none)) else (none))) else (none)) else (none))) else (none)) else (none))) else (none)) = some r := H
  have A4 := Aside0.mk A40
  clear A40
  by_cases c5 : t278.size + 1 ≤ 9223372036854775807
  ·rw [if_pos c5] at H
   have c5b0 := eq_true c5
   have c5b1 : decide (t278.size + 1 ≤ 9223372036854775807) = true := decide_eq_true c5
   try have c5b2 : (9223372036854775807 < t278.size + 1) = False := eq_false (Nat.not_lt.2 c5)
   try (have c5n : t278.size + 1 ≤ 9223372036854775807 := by have h_ := c5; simp only [ByteArray.size_append, ByteArray.size_extract] at h_; exact h_)
   try have c5f : (9223372036854775807 < t278.size + 1) = False := eq_false (by first | omega | (simp only [eq_iff_iff, iff_true] at *; omega))
   replace H := Option.bind_eq_some_iff.mp H
   obtain ⟨t279, A60, H⟩ := H
   replace H : (if (t278 ++ (⟨#[45]⟩ : ByteArray)).size + t279.size ≤ 9223372036854775807 then (if ((t278 ++ (⟨#[45]⟩ : ByteArray)) ++ t279).size + 1 ≤ 9223372036854775807 then ((stowageref4_wide.f k t272 2).bind fun t280 => (if (((t278 ++ (⟨#[45]⟩ : ByteArray)) ++ t279) ++ (⟨#[45]⟩ : ByteArray)).size + t280.size ≤ 9223372036854775807 then (if ((((t278 ++ (⟨#[45]⟩ : ByteArray)) ++ t279) ++ (⟨#[45]⟩ : ByteArray)) ++ t280).size + 1 ≤ 9223372036854775807 then ((stowageref4_wide.f k t273 2).bind fun t281 => (if (((((t278 ++ (⟨#[45]⟩ : ByteArray)) ++ t279) ++ (⟨#[45]⟩ : ByteArray)) ++ t280) ++ (⟨#[84]⟩ : ByteArray)).size + t281.size ≤ 9223372036854775807 then (if ((((((t278 ++ (⟨#[45]⟩ : ByteArray)) ++ t279) ++ (⟨#[45]⟩ : ByteArray)) ++ t280) ++ (⟨#[84]⟩ : ByteArray)) ++ t281).size + 1 ≤ 9223372036854775807 then ((stowageref4_wide.f k t274 2).bind fun t282 => (if (((((((t278 ++ (⟨#[45]⟩ : ByteArray)) ++ t279) ++ (⟨#[45]⟩ : ByteArray)) ++ t280) ++ (⟨#[84]⟩ : ByteArray)) ++ t281) ++ (⟨#[58]⟩ : ByteArray)).size + t282.size ≤ 9223372036854775807 then (if ((((((((t278 ++ (⟨#[45]⟩ : ByteArray)) ++ t279) ++ (⟨#[45]⟩ : ByteArray)) ++ t280) ++ (⟨#[84]⟩ : ByteArray)) ++ t281) ++ (⟨#[58]⟩ : ByteArray)) ++ t282).size + 1 ≤ 9223372036854775807 then ((stowageref4_wide.f k t275 2).bind fun t283 => (if (((((((((t278 ++ (⟨#[45]⟩ : ByteArray)) ++ t279) ++ (⟨#[45]⟩ : ByteArray)) ++ t280) ++ (⟨#[84]⟩ : ByteArray)) ++ t281) ++ (⟨#[58]⟩ : ByteArray)) ++ t282) ++ (⟨#[58]⟩ : ByteArray)).size + t283.size ≤ 9223372036854775807 then (if ((((((((((t278 ++ (⟨#[45]⟩ : ByteArray)) ++ t279) ++ (⟨#[45]⟩ : ByteArray)) ++ t280) ++ (⟨#[84]⟩ : ByteArray)) ++ t281) ++ (⟨#[58]⟩ : ByteArray)) ++ t282) ++ (⟨#[58]⟩ : ByteArray)) ++ t283).size + 5 ≤ 9223372036854775807 then (some (((((((((((t278 ++ (⟨#[45]⟩ : ByteArray)) ++ t279) ++ (⟨#[45]⟩ : ByteArray)) ++ t280) ++ (⟨#[84]⟩ : ByteArray)) ++ t281) ++ (⟨#[58]⟩ : ByteArray)) ++ t282) ++ (⟨#[58]⟩ : ByteArray)) ++ t283) ++ (⟨#[46, 48, 48, 48, 90]⟩ : ByteArray))) else (none)) else (none))) else (none)) else (none))) else (none)) else (none))) else (none)) else (none))) else (none)) else (none)) = some r := H
   have A6 := Aside0.mk A60
   clear A60
   by_cases c7 : (t278 ++ (⟨#[45]⟩ : ByteArray)).size + t279.size ≤ 9223372036854775807
   ·rw [if_pos c7] at H
    have c7b0 := eq_true c7
    have c7b1 : decide ((t278 ++ (⟨#[45]⟩ : ByteArray)).size + t279.size ≤ 9223372036854775807) = true := decide_eq_true c7
    try have c7b2 : (9223372036854775807 < (t278 ++ (⟨#[45]⟩ : ByteArray)).size + t279.size) = False := eq_false (Nat.not_lt.2 c7)
    try (have c7n : t278.size + 1 + t279.size ≤ 9223372036854775807 := by have h_ := c7; simp only [ByteArray.size_append, ByteArray.size_extract] at h_; exact h_)
    try have c7f : (9223372036854775807 < t278.size + 1 + t279.size) = False := eq_false (by first | omega | (simp only [eq_iff_iff, iff_true] at *; omega))
    by_cases c8 : ((t278 ++ (⟨#[45]⟩ : ByteArray)) ++ t279).size + 1 ≤ 9223372036854775807
    ·rw [if_pos c8] at H
     have c8b0 := eq_true c8
     have c8b1 : decide (((t278 ++ (⟨#[45]⟩ : ByteArray)) ++ t279).size + 1 ≤ 9223372036854775807) = true := decide_eq_true c8
     try have c8b2 : (9223372036854775807 < ((t278 ++ (⟨#[45]⟩ : ByteArray)) ++ t279).size + 1) = False := eq_false (Nat.not_lt.2 c8)
     try (have c8n : t278.size + 1 + t279.size + 1 ≤ 9223372036854775807 := by have h_ := c8; simp only [ByteArray.size_append, ByteArray.size_extract] at h_; exact h_)
     try have c8f : (9223372036854775807 < t278.size + 1 + t279.size + 1) = False := eq_false (by first | omega | (simp only [eq_iff_iff, iff_true] at *; omega))
     replace H := Option.bind_eq_some_iff.mp H
     obtain ⟨t280, A90, H⟩ := H
     replace H : (if (((t278 ++ (⟨#[45]⟩ : ByteArray)) ++ t279) ++ (⟨#[45]⟩ : ByteArray)).size + t280.size ≤ 9223372036854775807 then (if ((((t278 ++ (⟨#[45]⟩ : ByteArray)) ++ t279) ++ (⟨#[45]⟩ : ByteArray)) ++ t280).size + 1 ≤ 9223372036854775807 then ((stowageref4_wide.f k t273 2).bind fun t281 => (if (((((t278 ++ (⟨#[45]⟩ : ByteArray)) ++ t279) ++ (⟨#[45]⟩ : ByteArray)) ++ t280) ++ (⟨#[84]⟩ : ByteArray)).size + t281.size ≤ 9223372036854775807 then (if ((((((t278 ++ (⟨#[45]⟩ : ByteArray)) ++ t279) ++ (⟨#[45]⟩ : ByteArray)) ++ t280) ++ (⟨#[84]⟩ : ByteArray)) ++ t281).size + 1 ≤ 9223372036854775807 then ((stowageref4_wide.f k t274 2).bind fun t282 => (if (((((((t278 ++ (⟨#[45]⟩ : ByteArray)) ++ t279) ++ (⟨#[45]⟩ : ByteArray)) ++ t280) ++ (⟨#[84]⟩ : ByteArray)) ++ t281) ++ (⟨#[58]⟩ : ByteArray)).size + t282.size ≤ 9223372036854775807 then (if ((((((((t278 ++ (⟨#[45]⟩ : ByteArray)) ++ t279) ++ (⟨#[45]⟩ : ByteArray)) ++ t280) ++ (⟨#[84]⟩ : ByteArray)) ++ t281) ++ (⟨#[58]⟩ : ByteArray)) ++ t282).size + 1 ≤ 9223372036854775807 then ((stowageref4_wide.f k t275 2).bind fun t283 => (if (((((((((t278 ++ (⟨#[45]⟩ : ByteArray)) ++ t279) ++ (⟨#[45]⟩ : ByteArray)) ++ t280) ++ (⟨#[84]⟩ : ByteArray)) ++ t281) ++ (⟨#[58]⟩ : ByteArray)) ++ t282) ++ (⟨#[58]⟩ : ByteArray)).size + t283.size ≤ 9223372036854775807 then (if ((((((((((t278 ++ (⟨#[45]⟩ : ByteArray)) ++ t279) ++ (⟨#[45]⟩ : ByteArray)) ++ t280) ++ (⟨#[84]⟩ : ByteArray)) ++ t281) ++ (⟨#[58]⟩ : ByteArray)) ++ t282) ++ (⟨#[58]⟩ : ByteArray)) ++ t283).size + 5 ≤ 9223372036854775807 then (some (((((((((((t278 ++ (⟨#[45]⟩ : ByteArray)) ++ t279) ++ (⟨#[45]⟩ : ByteArray)) ++ t280) ++ (⟨#[84]⟩ : ByteArray)) ++ t281) ++ (⟨#[58]⟩ : ByteArray)) ++ t282) ++ (⟨#[58]⟩ : ByteArray)) ++ t283) ++ (⟨#[46, 48, 48, 48, 90]⟩ : ByteArray))) else (none)) else (none))) else (none)) else (none))) else (none)) else (none))) else (none)) else (none)) = some r := H
     have A9 := Aside0.mk A90
     clear A90
     by_cases c10 : (((t278 ++ (⟨#[45]⟩ : ByteArray)) ++ t279) ++ (⟨#[45]⟩ : ByteArray)).size + t280.size ≤ 9223372036854775807
     ·rw [if_pos c10] at H
      have c10b0 := eq_true c10
      have c10b1 : decide ((((t278 ++ (⟨#[45]⟩ : ByteArray)) ++ t279) ++ (⟨#[45]⟩ : ByteArray)).size + t280.size ≤ 9223372036854775807) = true := decide_eq_true c10
      try have c10b2 : (9223372036854775807 < (((t278 ++ (⟨#[45]⟩ : ByteArray)) ++ t279) ++ (⟨#[45]⟩ : ByteArray)).size + t280.size) = False := eq_false (Nat.not_lt.2 c10)
      try (have c10n : t278.size + 1 + t279.size + 1 + t280.size ≤ 9223372036854775807 := by have h_ := c10; simp only [ByteArray.size_append, ByteArray.size_extract] at h_; exact h_)
      try have c10f : (9223372036854775807 < t278.size + 1 + t279.size + 1 + t280.size) = False := eq_false (by first | omega | (simp only [eq_iff_iff, iff_true] at *; omega))
      by_cases c11 : ((((t278 ++ (⟨#[45]⟩ : ByteArray)) ++ t279) ++ (⟨#[45]⟩ : ByteArray)) ++ t280).size + 1 ≤ 9223372036854775807
      ·rw [if_pos c11] at H
       have c11b0 := eq_true c11
       have c11b1 : decide (((((t278 ++ (⟨#[45]⟩ : ByteArray)) ++ t279) ++ (⟨#[45]⟩ : ByteArray)) ++ t280).size + 1 ≤ 9223372036854775807) = true := decide_eq_true c11
       try have c11b2 : (9223372036854775807 < ((((t278 ++ (⟨#[45]⟩ : ByteArray)) ++ t279) ++ (⟨#[45]⟩ : ByteArray)) ++ t280).size + 1) = False := eq_false (Nat.not_lt.2 c11)
       try (have c11n : t278.size + 1 + t279.size + 1 + t280.size + 1 ≤ 9223372036854775807 := by have h_ := c11; simp only [ByteArray.size_append, ByteArray.size_extract] at h_; exact h_)
       try have c11f : (9223372036854775807 < t278.size + 1 + t279.size + 1 + t280.size + 1) = False := eq_false (by first | omega | (simp only [eq_iff_iff, iff_true] at *; omega))
       replace H := Option.bind_eq_some_iff.mp H
       obtain ⟨t281, A120, H⟩ := H
       replace H : (if (((((t278 ++ (⟨#[45]⟩ : ByteArray)) ++ t279) ++ (⟨#[45]⟩ : ByteArray)) ++ t280) ++ (⟨#[84]⟩ : ByteArray)).size + t281.size ≤ 9223372036854775807 then (if ((((((t278 ++ (⟨#[45]⟩ : ByteArray)) ++ t279) ++ (⟨#[45]⟩ : ByteArray)) ++ t280) ++ (⟨#[84]⟩ : ByteArray)) ++ t281).size + 1 ≤ 9223372036854775807 then ((stowageref4_wide.f k t274 2).bind fun t282 => (if (((((((t278 ++ (⟨#[45]⟩ : ByteArray)) ++ t279) ++ (⟨#[45]⟩ : ByteArray)) ++ t280) ++ (⟨#[84]⟩ : ByteArray)) ++ t281) ++ (⟨#[58]⟩ : ByteArray)).size + t282.size ≤ 9223372036854775807 then (if ((((((((t278 ++ (⟨#[45]⟩ : ByteArray)) ++ t279) ++ (⟨#[45]⟩ : ByteArray)) ++ t280) ++ (⟨#[84]⟩ : ByteArray)) ++ t281) ++ (⟨#[58]⟩ : ByteArray)) ++ t282).size + 1 ≤ 9223372036854775807 then ((stowageref4_wide.f k t275 2).bind fun t283 => (if (((((((((t278 ++ (⟨#[45]⟩ : ByteArray)) ++ t279) ++ (⟨#[45]⟩ : ByteArray)) ++ t280) ++ (⟨#[84]⟩ : ByteArray)) ++ t281) ++ (⟨#[58]⟩ : ByteArray)) ++ t282) ++ (⟨#[58]⟩ : ByteArray)).size + t283.size ≤ 9223372036854775807 then (if ((((((((((t278 ++ (⟨#[45]⟩ : ByteArray)) ++ t279) ++ (⟨#[45]⟩ : ByteArray)) ++ t280) ++ (⟨#[84]⟩ : ByteArray)) ++ t281) ++ (⟨#[58]⟩ : ByteArray)) ++ t282) ++ (⟨#[58]⟩ : ByteArray)) ++ t283).size + 5 ≤ 9223372036854775807 then (some (((((((((((t278 ++ (⟨#[45]⟩ : ByteArray)) ++ t279) ++ (⟨#[45]⟩ : ByteArray)) ++ t280) ++ (⟨#[84]⟩ : ByteArray)) ++ t281) ++ (⟨#[58]⟩ : ByteArray)) ++ t282) ++ (⟨#[58]⟩ : ByteArray)) ++ t283) ++ (⟨#[46, 48, 48, 48, 90]⟩ : ByteArray))) else (none)) else (none))) else (none)) else (none))) else (none)) else (none)) = some r := H
       have A12 := Aside0.mk A120
       clear A120
       by_cases c13 : (((((t278 ++ (⟨#[45]⟩ : ByteArray)) ++ t279) ++ (⟨#[45]⟩ : ByteArray)) ++ t280) ++ (⟨#[84]⟩ : ByteArray)).size + t281.size ≤ 9223372036854775807
       ·rw [if_pos c13] at H
        have c13b0 := eq_true c13
        have c13b1 : decide ((((((t278 ++ (⟨#[45]⟩ : ByteArray)) ++ t279) ++ (⟨#[45]⟩ : ByteArray)) ++ t280) ++ (⟨#[84]⟩ : ByteArray)).size + t281.size ≤ 9223372036854775807) = true := decide_eq_true c13
        try have c13b2 : (9223372036854775807 < (((((t278 ++ (⟨#[45]⟩ : ByteArray)) ++ t279) ++ (⟨#[45]⟩ : ByteArray)) ++ t280) ++ (⟨#[84]⟩ : ByteArray)).size + t281.size) = False := eq_false (Nat.not_lt.2 c13)
        try (have c13n : t278.size + 1 + t279.size + 1 + t280.size + 1 + t281.size ≤ 9223372036854775807 := by have h_ := c13; simp only [ByteArray.size_append, ByteArray.size_extract] at h_; exact h_)
        try have c13f : (9223372036854775807 < t278.size + 1 + t279.size + 1 + t280.size + 1 + t281.size) = False := eq_false (by first | omega | (simp only [eq_iff_iff, iff_true] at *; omega))
        by_cases c14 : ((((((t278 ++ (⟨#[45]⟩ : ByteArray)) ++ t279) ++ (⟨#[45]⟩ : ByteArray)) ++ t280) ++ (⟨#[84]⟩ : ByteArray)) ++ t281).size + 1 ≤ 9223372036854775807
        ·rw [if_pos c14] at H
         have c14b0 := eq_true c14
         have c14b1 : decide (((((((t278 ++ (⟨#[45]⟩ : ByteArray)) ++ t279) ++ (⟨#[45]⟩ : ByteArray)) ++ t280) ++ (⟨#[84]⟩ : ByteArray)) ++ t281).size + 1 ≤ 9223372036854775807) = true := decide_eq_true c14
         try have c14b2 : (9223372036854775807 < ((((((t278 ++ (⟨#[45]⟩ : ByteArray)) ++ t279) ++ (⟨#[45]⟩ : ByteArray)) ++ t280) ++ (⟨#[84]⟩ : ByteArray)) ++ t281).size + 1) = False := eq_false (Nat.not_lt.2 c14)
         try (have c14n : t278.size + 1 + t279.size + 1 + t280.size + 1 + t281.size + 1 ≤ 9223372036854775807 := by have h_ := c14; simp only [ByteArray.size_append, ByteArray.size_extract] at h_; exact h_)
         try have c14f : (9223372036854775807 < t278.size + 1 + t279.size + 1 + t280.size + 1 + t281.size + 1) = False := eq_false (by first | omega | (simp only [eq_iff_iff, iff_true] at *; omega))
         replace H := Option.bind_eq_some_iff.mp H
         obtain ⟨t282, A150, H⟩ := H
         replace H : (if (((((((t278 ++ (⟨#[45]⟩ : ByteArray)) ++ t279) ++ (⟨#[45]⟩ : ByteArray)) ++ t280) ++ (⟨#[84]⟩ : ByteArray)) ++ t281) ++ (⟨#[58]⟩ : ByteArray)).size + t282.size ≤ 9223372036854775807 then (if ((((((((t278 ++ (⟨#[45]⟩ : ByteArray)) ++ t279) ++ (⟨#[45]⟩ : ByteArray)) ++ t280) ++ (⟨#[84]⟩ : ByteArray)) ++ t281) ++ (⟨#[58]⟩ : ByteArray)) ++ t282).size + 1 ≤ 9223372036854775807 then ((stowageref4_wide.f k t275 2).bind fun t283 => (if (((((((((t278 ++ (⟨#[45]⟩ : ByteArray)) ++ t279) ++ (⟨#[45]⟩ : ByteArray)) ++ t280) ++ (⟨#[84]⟩ : ByteArray)) ++ t281) ++ (⟨#[58]⟩ : ByteArray)) ++ t282) ++ (⟨#[58]⟩ : ByteArray)).size + t283.size ≤ 9223372036854775807 then (if ((((((((((t278 ++ (⟨#[45]⟩ : ByteArray)) ++ t279) ++ (⟨#[45]⟩ : ByteArray)) ++ t280) ++ (⟨#[84]⟩ : ByteArray)) ++ t281) ++ (⟨#[58]⟩ : ByteArray)) ++ t282) ++ (⟨#[58]⟩ : ByteArray)) ++ t283).size + 5 ≤ 9223372036854775807 then (some (((((((((((t278 ++ (⟨#[45]⟩ : ByteArray)) ++ t279) ++ (⟨#[45]⟩ : ByteArray)) ++ t280) ++ (⟨#[84]⟩ : ByteArray)) ++ t281) ++ (⟨#[58]⟩ : ByteArray)) ++ t282) ++ (⟨#[58]⟩ : ByteArray)) ++ t283) ++ (⟨#[46, 48, 48, 48, 90]⟩ : ByteArray))) else (none)) else (none))) else (none)) else (none)) = some r := H
         have A15 := Aside0.mk A150
         clear A150
         by_cases c16 : (((((((t278 ++ (⟨#[45]⟩ : ByteArray)) ++ t279) ++ (⟨#[45]⟩ : ByteArray)) ++ t280) ++ (⟨#[84]⟩ : ByteArray)) ++ t281) ++ (⟨#[58]⟩ : ByteArray)).size + t282.size ≤ 9223372036854775807
         ·rw [if_pos c16] at H
          have c16b0 := eq_true c16
          have c16b1 : decide ((((((((t278 ++ (⟨#[45]⟩ : ByteArray)) ++ t279) ++ (⟨#[45]⟩ : ByteArray)) ++ t280) ++ (⟨#[84]⟩ : ByteArray)) ++ t281) ++ (⟨#[58]⟩ : ByteArray)).size + t282.size ≤ 9223372036854775807) = true := decide_eq_true c16
          try have c16b2 : (9223372036854775807 < (((((((t278 ++ (⟨#[45]⟩ : ByteArray)) ++ t279) ++ (⟨#[45]⟩ : ByteArray)) ++ t280) ++ (⟨#[84]⟩ : ByteArray)) ++ t281) ++ (⟨#[58]⟩ : ByteArray)).size + t282.size) = False := eq_false (Nat.not_lt.2 c16)
          try (have c16n : t278.size + 1 + t279.size + 1 + t280.size + 1 + t281.size + 1 + t282.size ≤ 9223372036854775807 := by have h_ := c16; simp only [ByteArray.size_append, ByteArray.size_extract] at h_; exact h_)
          try have c16f : (9223372036854775807 < t278.size + 1 + t279.size + 1 + t280.size + 1 + t281.size + 1 + t282.size) = False := eq_false (by first | omega | (simp only [eq_iff_iff, iff_true] at *; omega))
          by_cases c17 : ((((((((t278 ++ (⟨#[45]⟩ : ByteArray)) ++ t279) ++ (⟨#[45]⟩ : ByteArray)) ++ t280) ++ (⟨#[84]⟩ : ByteArray)) ++ t281) ++ (⟨#[58]⟩ : ByteArray)) ++ t282).size + 1 ≤ 9223372036854775807
          ·rw [if_pos c17] at H
           have c17b0 := eq_true c17
           have c17b1 : decide (((((((((t278 ++ (⟨#[45]⟩ : ByteArray)) ++ t279) ++ (⟨#[45]⟩ : ByteArray)) ++ t280) ++ (⟨#[84]⟩ : ByteArray)) ++ t281) ++ (⟨#[58]⟩ : ByteArray)) ++ t282).size + 1 ≤ 9223372036854775807) = true := decide_eq_true c17
           try have c17b2 : (9223372036854775807 < ((((((((t278 ++ (⟨#[45]⟩ : ByteArray)) ++ t279) ++ (⟨#[45]⟩ : ByteArray)) ++ t280) ++ (⟨#[84]⟩ : ByteArray)) ++ t281) ++ (⟨#[58]⟩ : ByteArray)) ++ t282).size + 1) = False := eq_false (Nat.not_lt.2 c17)
           try (have c17n : t278.size + 1 + t279.size + 1 + t280.size + 1 + t281.size + 1 + t282.size + 1 ≤ 9223372036854775807 := by have h_ := c17; simp only [ByteArray.size_append, ByteArray.size_extract] at h_; exact h_)
           try have c17f : (9223372036854775807 < t278.size + 1 + t279.size + 1 + t280.size + 1 + t281.size + 1 + t282.size + 1) = False := eq_false (by first | omega | (simp only [eq_iff_iff, iff_true] at *; omega))
           replace H := Option.bind_eq_some_iff.mp H
           obtain ⟨t283, A180, H⟩ := H
           replace H : (if (((((((((t278 ++ (⟨#[45]⟩ : ByteArray)) ++ t279) ++ (⟨#[45]⟩ : ByteArray)) ++ t280) ++ (⟨#[84]⟩ : ByteArray)) ++ t281) ++ (⟨#[58]⟩ : ByteArray)) ++ t282) ++ (⟨#[58]⟩ : ByteArray)).size + t283.size ≤ 9223372036854775807 then (if ((((((((((t278 ++ (⟨#[45]⟩ : ByteArray)) ++ t279) ++ (⟨#[45]⟩ : ByteArray)) ++ t280) ++ (⟨#[84]⟩ : ByteArray)) ++ t281) ++ (⟨#[58]⟩ : ByteArray)) ++ t282) ++ (⟨#[58]⟩ : ByteArray)) ++ t283).size + 5 ≤ 9223372036854775807 then (some (((((((((((t278 ++ (⟨#[45]⟩ : ByteArray)) ++ t279) ++ (⟨#[45]⟩ : ByteArray)) ++ t280) ++ (⟨#[84]⟩ : ByteArray)) ++ t281) ++ (⟨#[58]⟩ : ByteArray)) ++ t282) ++ (⟨#[58]⟩ : ByteArray)) ++ t283) ++ (⟨#[46, 48, 48, 48, 90]⟩ : ByteArray))) else (none)) else (none)) = some r := H
           have A18 := Aside0.mk A180
           clear A180
           by_cases c19 : (((((((((t278 ++ (⟨#[45]⟩ : ByteArray)) ++ t279) ++ (⟨#[45]⟩ : ByteArray)) ++ t280) ++ (⟨#[84]⟩ : ByteArray)) ++ t281) ++ (⟨#[58]⟩ : ByteArray)) ++ t282) ++ (⟨#[58]⟩ : ByteArray)).size + t283.size ≤ 9223372036854775807
           ·rw [if_pos c19] at H
            have c19b0 := eq_true c19
            have c19b1 : decide ((((((((((t278 ++ (⟨#[45]⟩ : ByteArray)) ++ t279) ++ (⟨#[45]⟩ : ByteArray)) ++ t280) ++ (⟨#[84]⟩ : ByteArray)) ++ t281) ++ (⟨#[58]⟩ : ByteArray)) ++ t282) ++ (⟨#[58]⟩ : ByteArray)).size + t283.size ≤ 9223372036854775807) = true := decide_eq_true c19
            try have c19b2 : (9223372036854775807 < (((((((((t278 ++ (⟨#[45]⟩ : ByteArray)) ++ t279) ++ (⟨#[45]⟩ : ByteArray)) ++ t280) ++ (⟨#[84]⟩ : ByteArray)) ++ t281) ++ (⟨#[58]⟩ : ByteArray)) ++ t282) ++ (⟨#[58]⟩ : ByteArray)).size + t283.size) = False := eq_false (Nat.not_lt.2 c19)
            try (have c19n : t278.size + 1 + t279.size + 1 + t280.size + 1 + t281.size + 1 + t282.size + 1 + t283.size ≤ 9223372036854775807 := by have h_ := c19; simp only [ByteArray.size_append, ByteArray.size_extract] at h_; exact h_)
            try have c19f : (9223372036854775807 < t278.size + 1 + t279.size + 1 + t280.size + 1 + t281.size + 1 + t282.size + 1 + t283.size) = False := eq_false (by first | omega | (simp only [eq_iff_iff, iff_true] at *; omega))
            by_cases c20 : ((((((((((t278 ++ (⟨#[45]⟩ : ByteArray)) ++ t279) ++ (⟨#[45]⟩ : ByteArray)) ++ t280) ++ (⟨#[84]⟩ : ByteArray)) ++ t281) ++ (⟨#[58]⟩ : ByteArray)) ++ t282) ++ (⟨#[58]⟩ : ByteArray)) ++ t283).size + 5 ≤ 9223372036854775807
            ·rw [if_pos c20] at H
             have c20b0 := eq_true c20
             have c20b1 : decide (((((((((((t278 ++ (⟨#[45]⟩ : ByteArray)) ++ t279) ++ (⟨#[45]⟩ : ByteArray)) ++ t280) ++ (⟨#[84]⟩ : ByteArray)) ++ t281) ++ (⟨#[58]⟩ : ByteArray)) ++ t282) ++ (⟨#[58]⟩ : ByteArray)) ++ t283).size + 5 ≤ 9223372036854775807) = true := decide_eq_true c20
             try have c20b2 : (9223372036854775807 < ((((((((((t278 ++ (⟨#[45]⟩ : ByteArray)) ++ t279) ++ (⟨#[45]⟩ : ByteArray)) ++ t280) ++ (⟨#[84]⟩ : ByteArray)) ++ t281) ++ (⟨#[58]⟩ : ByteArray)) ++ t282) ++ (⟨#[58]⟩ : ByteArray)) ++ t283).size + 5) = False := eq_false (Nat.not_lt.2 c20)
             try (have c20n : t278.size + 1 + t279.size + 1 + t280.size + 1 + t281.size + 1 + t282.size + 1 + t283.size + 5 ≤ 9223372036854775807 := by have h_ := c20; simp only [ByteArray.size_append, ByteArray.size_extract] at h_; exact h_)
             try have c20f : (9223372036854775807 < t278.size + 1 + t279.size + 1 + t280.size + 1 + t281.size + 1 + t282.size + 1 + t283.size + 5) = False := eq_false (by first | omega | (simp only [eq_iff_iff, iff_true] at *; omega))
             obtain rfl := Option.some.inj H
             go_enter Try.func18, Try.ntmps18
             try go_wp2_with (first | ((with_reducible refine gate_callee (f := 10) rfl ?_); refine goesL_ (some 7) rfl rfl Try.func10 (by kernel_rfl) rfl #[.int .i64 a0] rfl (by (try simp only [List.map_toArray, List.map_cons, List.map_nil]); first | done | rfl | (simp only [List.length_drop, List.length_take]; rfl)) ?_; (with_reducible refine (stowageref4_Civil.calls k a0 t270 t271 t272 t273 t274 t275 true _ A2.out).mono ?_); rintro e w21 ⟨rfl, hb⟩; refine ⟨_, rfl, ?_⟩; have n0_ := Aside0.mk (below_step (by repeat (first | (with_reducible first | exact HB.out | apply below_alloc | apply pw_below_drewN | apply below_drew1) | exact HB.out)) hb); clear HB; have HB := n0_; clear n0_; (try clear hb); (try clear hb2); (try clear hk); (try clear hi)) | ((with_reducible refine gate_dst (N := 3) rfl ?_); refine box_event ?hg (N := 3) ?hd (cs := #[.int .i64 0, .int .i64 0, .int .i64 0, .int .i64 0, .int .i64 0, .int .i64 0]) (t := 27) ?hr ?_; (case hd => rfl); (case hg => rfl); (case hr => first | (go_simp; done) | (go_simp; rfl)); intro gb277 hg w22 hbox hb; have n0_ := Aside0.mk (below_step (by repeat (first | (with_reducible first | exact HB.out | apply below_alloc | apply pw_below_drewN | apply below_drew1) | exact HB.out)) hb); have n1_ := Aside0.mk (hbox); have n2_ := Aside0.mk ((by rw [hg]; exact (below_size (by repeat (first | (with_reducible first | exact HB.out | apply below_alloc | apply pw_below_drewN | apply below_drew1) | exact HB.out))) : w.heap.size ≤ gb277)); have n3_ := Aside0.mk ((by rw [hg]; exact (below_size (by repeat (first | (with_reducible first | exact HB.out | apply below_alloc | apply pw_below_drewN | apply below_drew1) | exact HB.out))) : w.heap.size ≤ gb277)); clear HB; have HB := n0_; have BK277 := n1_; have GW277 := n2_; have GE277 := n3_; clear n0_ n1_ n2_ n3_; clear hb hbox hg; have hcz23_0 : w22.cell? ⟨gb277, 0, none⟩ = some (.int .i64 0) := (blk_cell BK277.out 0).trans rfl; have hcz23_1 : w22.cell? ⟨gb277, 1, none⟩ = some (.int .i64 0) := (blk_cell BK277.out 1).trans rfl; have hcz23_2 : w22.cell? ⟨gb277, 2, none⟩ = some (.int .i64 0) := (blk_cell BK277.out 2).trans rfl; have hcz23_3 : w22.cell? ⟨gb277, 3, none⟩ = some (.int .i64 0) := (blk_cell BK277.out 3).trans rfl; have hcz23_4 : w22.cell? ⟨gb277, 4, none⟩ = some (.int .i64 0) := (blk_cell BK277.out 4).trans rfl; have hcz23_5 : w22.cell? ⟨gb277, 5, none⟩ = some (.int .i64 0) := (blk_cell BK277.out 5).trans rfl; have hfz23_0 := blk_frozen BK277.out 0; have hfz23_1 := blk_frozen BK277.out 1; have hfz23_2 := blk_frozen BK277.out 2; have hfz23_3 := blk_frozen BK277.out 3; have hfz23_4 := blk_frozen BK277.out 4; have hfz23_5 := blk_frozen BK277.out 5))
             have n0_ : Aside0 (((((((w22.setCell ⟨gb277, 0, none⟩ (.int .i64 t270)).setCell ⟨gb277, 1, none⟩ (.int .i64 t271)).setCell ⟨gb277, 2, none⟩ (.int .i64 t272)).setCell ⟨gb277, 3, none⟩ (.int .i64 t273)).setCell ⟨gb277, 4, none⟩ (.int .i64 t274)).setCell ⟨gb277, 5, none⟩ (.int .i64 t275)).heap[gb277]? = some (.cells #[.int .i64 t270, .int .i64 t271, .int .i64 t272, .int .i64 t273, .int .i64 t274, .int .i64 t275] 27 (0, 0))) := ⟨by (with_reducible repeat (first | refine blk_drewN ?_ _ | refine blk_drew ?_ | refine blk_alloc ?_ _)); refine blk_put (cs := #[.int .i64 t270, .int .i64 t271, .int .i64 t272, .int .i64 t273, .int .i64 t274, .int .i64 0]) ?_ 5 _ rfl; (with_reducible repeat (first | refine blk_drewN ?_ _ | refine blk_drew ?_ | refine blk_alloc ?_ _)); refine blk_put (cs := #[.int .i64 t270, .int .i64 t271, .int .i64 t272, .int .i64 t273, .int .i64 0, .int .i64 0]) ?_ 4 _ rfl; (with_reducible repeat (first | refine blk_drewN ?_ _ | refine blk_drew ?_ | refine blk_alloc ?_ _)); refine blk_put (cs := #[.int .i64 t270, .int .i64 t271, .int .i64 t272, .int .i64 0, .int .i64 0, .int .i64 0]) ?_ 3 _ rfl; (with_reducible repeat (first | refine blk_drewN ?_ _ | refine blk_drew ?_ | refine blk_alloc ?_ _)); refine blk_put (cs := #[.int .i64 t270, .int .i64 t271, .int .i64 0, .int .i64 0, .int .i64 0, .int .i64 0]) ?_ 2 _ rfl; (with_reducible repeat (first | refine blk_drewN ?_ _ | refine blk_drew ?_ | refine blk_alloc ?_ _)); refine blk_put (cs := #[.int .i64 t270, .int .i64 0, .int .i64 0, .int .i64 0, .int .i64 0, .int .i64 0]) ?_ 1 _ rfl; (with_reducible repeat (first | refine blk_drewN ?_ _ | refine blk_drew ?_ | refine blk_alloc ?_ _)); refine blk_put (cs := #[.int .i64 0, .int .i64 0, .int .i64 0, .int .i64 0, .int .i64 0, .int .i64 0]) ?_ 0 _ rfl; (with_reducible repeat (first | refine blk_drewN ?_ _ | refine blk_drew ?_ | refine blk_alloc ?_ _)); exact BK277.out⟩
             have n1_ : Aside0 (Below w.heap.size w ((((((w22.setCell ⟨gb277, 0, none⟩ (.int .i64 t270)).setCell ⟨gb277, 1, none⟩ (.int .i64 t271)).setCell ⟨gb277, 2, none⟩ (.int .i64 t272)).setCell ⟨gb277, 3, none⟩ (.int .i64 t273)).setCell ⟨gb277, 4, none⟩ (.int .i64 t274)).setCell ⟨gb277, 5, none⟩ (.int .i64 t275))) := ⟨by repeat (first | (with_reducible first | exact HB.out | apply below_alloc | apply pw_below_drewN | apply below_drew1 | refine below_set ?_ GE277.out) | exact HB.out)⟩
             (try clear BK277)
             (try clear HB)
             generalize ((((((w22.setCell ⟨gb277, 0, none⟩ (.int .i64 t270)).setCell ⟨gb277, 1, none⟩ (.int .i64 t271)).setCell ⟨gb277, 2, none⟩ (.int .i64 t272)).setCell ⟨gb277, 3, none⟩ (.int .i64 t273)).setCell ⟨gb277, 4, none⟩ (.int .i64 t274)).setCell ⟨gb277, 5, none⟩ (.int .i64 t275)) = w24 at n0_ n1_ ⊢
             have BK277 := n0_
             have HB := n1_
             clear n0_ n1_
             have n0_ := Aside0.mk (blk_drew BK277.out)
             have n1_ := Aside0.mk (below_drew1 HB.out)
             clear BK277
             clear HB
             have BK277 := n0_
             have HB := n1_
             clear n0_ n1_
             refine start_ (n := 30) (S := fun w' => w'.cell? ⟨gb277, 0, none⟩ = some (.int .i64 t270) ∧ w'.cell? ⟨gb277, 1, none⟩ = some (.int .i64 t271) ∧ w'.cell? ⟨gb277, 2, none⟩ = some (.int .i64 t272) ∧ w'.cell? ⟨gb277, 3, none⟩ = some (.int .i64 t273) ∧ w'.cell? ⟨gb277, 4, none⟩ = some (.int .i64 t274) ∧ w'.cell? ⟨gb277, 5, none⟩ = some (.int .i64 t275)) (ds := []) #[false, false, false, false, false, false, false, false, false, false, false, false, false, false, false, false, false, false, false, false, false, false, false, false, false, false, false, false, false, false] (by kernel_rfl) rfl rfl ⟨(blk_cell BK277.out 0).trans rfl, (blk_cell BK277.out 1).trans rfl, (blk_cell BK277.out 2).trans rfl, (blk_cell BK277.out 3).trans rfl, (blk_cell BK277.out 4).trans rfl, (blk_cell BK277.out 5).trans rfl⟩ (fun hHeld => ?_); refine with_tabW stowageref4_Iso.tab4 stowageref4_Iso.bits4 (fun HT_ HW_ => ?_)
             generalize w24.drew = w25 at BK277 HB hHeld ⊢
             refine pure_ (i := 0) (N := some 12) (v := ?_) (a' := ?_) #[true, false, false, false, false, false, false, false, false, false, false, false, false, false, false, false, false, false, false, false, false, false, false, false, false, false, false, false, false, false] rfl rfl (any_of HT_.out (by kernel_rfl)) (fun _ _ _ h => h) (Or.inl ⟨by rfl, ?_⟩) ?_ ?_
             rotate_left
             ·intro w'
              go_simp
              with_reducible rfl
             rotate_left
             ·simp only [Act.put, List.setIfInBounds_toArray, List.set_cons_zero, List.set_cons_succ, i64_w, i32_w]
              rfl
             refine pure_ (i := 4) (N := some 16) (v := ?_) (a' := ?_) #[true, false, false, false, true, false, false, false, false, false, false, false, false, false, false, false, false, false, false, false, false, false, false, false, false, false, false, false, false, false] rfl rfl (any_of HT_.out (by kernel_rfl)) (fun _ _ _ h => h) (Or.inl ⟨by rfl, ?_⟩) ?_ ?_
             rotate_left
             ·intro w'
              go_simp
              with_reducible rfl
             rotate_left
             ·simp only [Act.put, List.setIfInBounds_toArray, List.set_cons_zero, List.set_cons_succ, i64_w, i32_w]
              rfl
             refine pure_ (i := 9) (N := some 21) (v := ?_) (a' := ?_) #[true, false, false, false, true, false, false, false, false, true, false, false, false, false, false, false, false, false, false, false, false, false, false, false, false, false, false, false, false, false] rfl rfl (any_of HT_.out (by kernel_rfl)) (fun _ _ _ h => h) (Or.inl ⟨by rfl, ?_⟩) ?_ ?_
             rotate_left
             ·intro w'
              go_simp
              with_reducible rfl
             rotate_left
             ·simp only [Act.put, List.setIfInBounds_toArray, List.set_cons_zero, List.set_cons_succ, i64_w, i32_w]
              rfl
             refine pure_ (i := 14) (N := some 26) (v := ?_) (a' := ?_) #[true, false, false, false, true, false, false, false, false, true, false, false, false, false, true, false, false, false, false, false, false, false, false, false, false, false, false, false, false, false] rfl rfl (any_of HT_.out (by kernel_rfl)) (fun _ _ _ h => h) (Or.inl ⟨by rfl, ?_⟩) ?_ ?_
             rotate_left
             ·intro w'
              go_simp
              with_reducible rfl
             rotate_left
             ·simp only [Act.put, List.setIfInBounds_toArray, List.set_cons_zero, List.set_cons_succ, i64_w, i32_w]
              rfl
             refine pure_ (i := 19) (N := some 31) (v := ?_) (a' := ?_) #[true, false, false, false, true, false, false, false, false, true, false, false, false, false, true, false, false, false, false, true, false, false, false, false, false, false, false, false, false, false] rfl rfl (any_of HT_.out (by kernel_rfl)) (fun _ _ _ h => h) (Or.inl ⟨by rfl, ?_⟩) ?_ ?_
             rotate_left
             ·intro w'
              go_simp
              with_reducible rfl
             rotate_left
             ·simp only [Act.put, List.setIfInBounds_toArray, List.set_cons_zero, List.set_cons_succ, i64_w, i32_w]
              rfl
             refine pure_ (i := 24) (N := some 36) (v := ?_) (a' := ?_) #[true, false, false, false, true, false, false, false, false, true, false, false, false, false, true, false, false, false, false, true, false, false, false, false, true, false, false, false, false, false] rfl rfl (any_of HT_.out (by kernel_rfl)) (fun _ _ _ h => h) (Or.inl ⟨by rfl, ?_⟩) ?_ ?_
             rotate_left
             ·intro w'
              go_simp
              with_reducible rfl
             rotate_left
             ·simp only [Act.put, List.setIfInBounds_toArray, List.set_cons_zero, List.set_cons_succ, i64_w, i32_w]
              rfl
             refine take_ (i := 1) (N := some 13) (v := ?_) (a' := ?_) #[true, true, false, false, true, false, false, false, false, true, false, false, false, false, true, false, false, false, false, true, false, false, false, false, true, false, false, false, false, false] rfl rfl (take_ofW HT_.out HW_.out (by kernel_rfl)) (fun _ _ _ h => h) (Or.inl ⟨by rfl, ?_⟩) hHeld ?_ ?_
             rotate_left
             ·rintro w' ⟨s0, s1, s2, s3, s4, s5⟩
              go_simp
              with_reducible rfl
             rotate_left
             ·simp only [Act.put, List.setIfInBounds_toArray, List.set_cons_zero, List.set_cons_succ, i64_w, i32_w]
              rfl
             refine take_ (i := 5) (N := some 17) (v := ?_) (a' := ?_) #[true, true, false, false, true, true, false, false, false, true, false, false, false, false, true, false, false, false, false, true, false, false, false, false, true, false, false, false, false, false] rfl rfl (take_ofW HT_.out HW_.out (by kernel_rfl)) (fun _ _ _ h => h) (Or.inl ⟨by rfl, ?_⟩) hHeld ?_ ?_
             rotate_left
             ·rintro w' ⟨s0, s1, s2, s3, s4, s5⟩
              go_simp
              with_reducible rfl
             rotate_left
             ·simp only [Act.put, List.setIfInBounds_toArray, List.set_cons_zero, List.set_cons_succ, i64_w, i32_w]
              rfl
             refine take_ (i := 10) (N := some 22) (v := ?_) (a' := ?_) #[true, true, false, false, true, true, false, false, false, true, true, false, false, false, true, false, false, false, false, true, false, false, false, false, true, false, false, false, false, false] rfl rfl (take_ofW HT_.out HW_.out (by kernel_rfl)) (fun _ _ _ h => h) (Or.inl ⟨by rfl, ?_⟩) hHeld ?_ ?_
             rotate_left
             ·rintro w' ⟨s0, s1, s2, s3, s4, s5⟩
              go_simp
              with_reducible rfl
             rotate_left
             ·simp only [Act.put, List.setIfInBounds_toArray, List.set_cons_zero, List.set_cons_succ, i64_w, i32_w]
              rfl
             refine take_ (i := 15) (N := some 27) (v := ?_) (a' := ?_) #[true, true, false, false, true, true, false, false, false, true, true, false, false, false, true, true, false, false, false, true, false, false, false, false, true, false, false, false, false, false] rfl rfl (take_ofW HT_.out HW_.out (by kernel_rfl)) (fun _ _ _ h => h) (Or.inl ⟨by rfl, ?_⟩) hHeld ?_ ?_
             rotate_left
             ·rintro w' ⟨s0, s1, s2, s3, s4, s5⟩
              go_simp
              with_reducible rfl
             rotate_left
             ·simp only [Act.put, List.setIfInBounds_toArray, List.set_cons_zero, List.set_cons_succ, i64_w, i32_w]
              rfl
             refine take_ (i := 20) (N := some 32) (v := ?_) (a' := ?_) #[true, true, false, false, true, true, false, false, false, true, true, false, false, false, true, true, false, false, false, true, true, false, false, false, true, false, false, false, false, false] rfl rfl (take_ofW HT_.out HW_.out (by kernel_rfl)) (fun _ _ _ h => h) (Or.inl ⟨by rfl, ?_⟩) hHeld ?_ ?_
             rotate_left
             ·rintro w' ⟨s0, s1, s2, s3, s4, s5⟩
              go_simp
              with_reducible rfl
             rotate_left
             ·simp only [Act.put, List.setIfInBounds_toArray, List.set_cons_zero, List.set_cons_succ, i64_w, i32_w]
              rfl
             refine take_ (i := 25) (N := some 37) (v := ?_) (a' := ?_) #[true, true, false, false, true, true, false, false, false, true, true, false, false, false, true, true, false, false, false, true, true, false, false, false, true, true, false, false, false, false] rfl rfl (take_ofW HT_.out HW_.out (by kernel_rfl)) (fun _ _ _ h => h) (Or.inl ⟨by rfl, ?_⟩) hHeld ?_ ?_
             rotate_left
             ·rintro w' ⟨s0, s1, s2, s3, s4, s5⟩
              go_simp
              with_reducible rfl
             rotate_left
             ·simp only [Act.put, List.setIfInBounds_toArray, List.set_cons_zero, List.set_cons_succ, i64_w, i32_w]
              rfl
             refine one_ (i := 2) (N := some 14) #[true, true, true, false, true, true, false, false, false, true, true, false, false, false, true, true, false, false, false, true, true, false, false, false, true, true, false, false, false, false] rfl rfl (one_of HT_.out (by kernel_rfl)) (by decide) (fun K hK => ?_)
             refine goes_ Try.func34 (by kernel_rfl) rfl #[.int .i64 t270, .int .i64 4] (by rfl) rfl rfl (by (try simp only [List.map_toArray, List.map_cons, List.map_nil]); first | done | rfl | (simp only [List.length_drop, List.length_take]; rfl)) ?_
             with_reducible refine (stowageref4_wide.calls k t270 4 t278 _ A4.out).mono ?_
             rintro e w' ⟨rfl, ⟨nd, rfl⟩⟩
             refine ⟨_, rfl, ?_⟩
             refine hK.out _ _ ⟨(blk_cell BK277.out 0).trans rfl, (blk_cell BK277.out 1).trans rfl, (blk_cell BK277.out 2).trans rfl, (blk_cell BK277.out 3).trans rfl, (blk_cell BK277.out 4).trans rfl, (blk_cell BK277.out 5).trans rfl⟩ (fun hHeld => ?_)
             clear hK K
             refine norm_ (a' := ?_) ?_ ?_
             rotate_left
             ·show Act.put _ (some 14) _ = _
              simp only [Act.put, List.setIfInBounds_toArray, List.set_cons_zero, List.set_cons_succ, i64_w, i32_w]
              rfl
             refine pure_ (i := 3) (N := some 15) (v := ?_) (a' := ?_) #[true, true, true, true, true, true, false, false, false, true, true, false, false, false, true, true, false, false, false, true, true, false, false, false, true, true, false, false, false, false] rfl rfl (any_of HT_.out (by kernel_rfl)) (fun _ _ _ h => h) (Or.inl ⟨by rfl, ?_⟩) ?_ ?_
             rotate_left
             ·intro w'
              go_simp
              with_reducible rfl
             rotate_left
             ·simp only [Act.put, List.setIfInBounds_toArray, List.set_cons_zero, List.set_cons_succ, i64_w, i32_w]
              rfl
             refine one_ (i := 6) (N := some 18) #[true, true, true, true, true, true, true, false, false, true, true, false, false, false, true, true, false, false, false, true, true, false, false, false, true, true, false, false, false, false] rfl rfl (one_of HT_.out (by kernel_rfl)) (by decide) (fun K hK => ?_)
             refine goes_ Try.func34 (by kernel_rfl) rfl #[.int .i64 t271, .int .i64 2] (by rfl) rfl rfl (by (try simp only [List.map_toArray, List.map_cons, List.map_nil]); first | done | rfl | (simp only [List.length_drop, List.length_take]; rfl)) ?_
             with_reducible refine (stowageref4_wide.calls k t271 2 t279 _ A6.out).mono ?_
             rintro e w' ⟨rfl, ⟨nd, rfl⟩⟩
             refine ⟨_, rfl, ?_⟩
             refine hK.out _ _ ⟨(blk_cell BK277.out 0).trans rfl, (blk_cell BK277.out 1).trans rfl, (blk_cell BK277.out 2).trans rfl, (blk_cell BK277.out 3).trans rfl, (blk_cell BK277.out 4).trans rfl, (blk_cell BK277.out 5).trans rfl⟩ (fun hHeld => ?_)
             clear hK K
             refine norm_ (a' := ?_) ?_ ?_
             rotate_left
             ·show Act.put _ (some 18) _ = _
              simp only [Act.put, List.setIfInBounds_toArray, List.set_cons_zero, List.set_cons_succ, i64_w, i32_w]
              rfl
             refine pure_ (i := 7) (N := some 19) (v := ?_) (a' := ?_) #[true, true, true, true, true, true, true, true, false, true, true, false, false, false, true, true, false, false, false, true, true, false, false, false, true, true, false, false, false, false] rfl rfl (any_of HT_.out (by kernel_rfl)) (fun _ _ _ h => h) (Or.inl ⟨by rfl, ?_⟩) ?_ ?_
             rotate_left
             ·intro w'
              go_simp
              with_reducible rfl
             rotate_left
             ·simp only [Act.put, List.setIfInBounds_toArray, List.set_cons_zero, List.set_cons_succ, i64_w, i32_w]
              rfl
             refine pure_ (i := 8) (N := some 20) (v := ?_) (a' := ?_) #[true, true, true, true, true, true, true, true, true, true, true, false, false, false, true, true, false, false, false, true, true, false, false, false, true, true, false, false, false, false] rfl rfl (any_of HT_.out (by kernel_rfl)) (fun _ _ _ h => h) (Or.inl ⟨by rfl, ?_⟩) ?_ ?_
             rotate_left
             ·intro w'
              go_simp
              with_reducible rfl
             rotate_left
             ·simp only [Act.put, List.setIfInBounds_toArray, List.set_cons_zero, List.set_cons_succ, i64_w, i32_w]
              rfl
             refine one_ (i := 11) (N := some 23) #[true, true, true, true, true, true, true, true, true, true, true, true, false, false, true, true, false, false, false, true, true, false, false, false, true, true, false, false, false, false] rfl rfl (one_of HT_.out (by kernel_rfl)) (by decide) (fun K hK => ?_)
             refine goes_ Try.func34 (by kernel_rfl) rfl #[.int .i64 t272, .int .i64 2] (by rfl) rfl rfl (by (try simp only [List.map_toArray, List.map_cons, List.map_nil]); first | done | rfl | (simp only [List.length_drop, List.length_take]; rfl)) ?_
             with_reducible refine (stowageref4_wide.calls k t272 2 t280 _ A9.out).mono ?_
             rintro e w' ⟨rfl, ⟨nd, rfl⟩⟩
             refine ⟨_, rfl, ?_⟩
             refine hK.out _ _ ⟨(blk_cell BK277.out 0).trans rfl, (blk_cell BK277.out 1).trans rfl, (blk_cell BK277.out 2).trans rfl, (blk_cell BK277.out 3).trans rfl, (blk_cell BK277.out 4).trans rfl, (blk_cell BK277.out 5).trans rfl⟩ (fun hHeld => ?_)
             clear hK K
             refine norm_ (a' := ?_) ?_ ?_
             rotate_left
             ·show Act.put _ (some 23) _ = _
              simp only [Act.put, List.setIfInBounds_toArray, List.set_cons_zero, List.set_cons_succ, i64_w, i32_w]
              rfl
             refine pure_ (i := 12) (N := some 24) (v := ?_) (a' := ?_) #[true, true, true, true, true, true, true, true, true, true, true, true, true, false, true, true, false, false, false, true, true, false, false, false, true, true, false, false, false, false] rfl rfl (any_of HT_.out (by kernel_rfl)) (fun _ _ _ h => h) (Or.inl ⟨by rfl, ?_⟩) ?_ ?_
             rotate_left
             ·intro w'
              go_simp
              with_reducible rfl
             rotate_left
             ·simp only [Act.put, List.setIfInBounds_toArray, List.set_cons_zero, List.set_cons_succ, i64_w, i32_w]
              rfl
             refine pure_ (i := 13) (N := some 25) (v := ?_) (a' := ?_) #[true, true, true, true, true, true, true, true, true, true, true, true, true, true, true, true, false, false, false, true, true, false, false, false, true, true, false, false, false, false] rfl rfl (any_of HT_.out (by kernel_rfl)) (fun _ _ _ h => h) (Or.inl ⟨by rfl, ?_⟩) ?_ ?_
             rotate_left
             ·intro w'
              go_simp
              with_reducible rfl
             rotate_left
             ·simp only [Act.put, List.setIfInBounds_toArray, List.set_cons_zero, List.set_cons_succ, i64_w, i32_w]
              rfl
             refine one_ (i := 16) (N := some 28) #[true, true, true, true, true, true, true, true, true, true, true, true, true, true, true, true, true, false, false, true, true, false, false, false, true, true, false, false, false, false] rfl rfl (one_of HT_.out (by kernel_rfl)) (by decide) (fun K hK => ?_)
             refine goes_ Try.func34 (by kernel_rfl) rfl #[.int .i64 t273, .int .i64 2] (by rfl) rfl rfl (by (try simp only [List.map_toArray, List.map_cons, List.map_nil]); first | done | rfl | (simp only [List.length_drop, List.length_take]; rfl)) ?_
             with_reducible refine (stowageref4_wide.calls k t273 2 t281 _ A12.out).mono ?_
             rintro e w' ⟨rfl, ⟨nd, rfl⟩⟩
             refine ⟨_, rfl, ?_⟩
             refine hK.out _ _ ⟨(blk_cell BK277.out 0).trans rfl, (blk_cell BK277.out 1).trans rfl, (blk_cell BK277.out 2).trans rfl, (blk_cell BK277.out 3).trans rfl, (blk_cell BK277.out 4).trans rfl, (blk_cell BK277.out 5).trans rfl⟩ (fun hHeld => ?_)
             clear hK K
             refine norm_ (a' := ?_) ?_ ?_
             rotate_left
             ·show Act.put _ (some 28) _ = _
              simp only [Act.put, List.setIfInBounds_toArray, List.set_cons_zero, List.set_cons_succ, i64_w, i32_w]
              rfl
             refine pure_ (i := 17) (N := some 29) (v := ?_) (a' := ?_) #[true, true, true, true, true, true, true, true, true, true, true, true, true, true, true, true, true, true, false, true, true, false, false, false, true, true, false, false, false, false] rfl rfl (any_of HT_.out (by kernel_rfl)) (fun _ _ _ h => h) (Or.inl ⟨by rfl, ?_⟩) ?_ ?_
             rotate_left
             ·intro w'
              go_simp
              with_reducible rfl
             rotate_left
             ·simp only [Act.put, List.setIfInBounds_toArray, List.set_cons_zero, List.set_cons_succ, i64_w, i32_w]
              rfl
             refine pure_ (i := 18) (N := some 30) (v := ?_) (a' := ?_) #[true, true, true, true, true, true, true, true, true, true, true, true, true, true, true, true, true, true, true, true, true, false, false, false, true, true, false, false, false, false] rfl rfl (any_of HT_.out (by kernel_rfl)) (fun _ _ _ h => h) (Or.inl ⟨by rfl, ?_⟩) ?_ ?_
             rotate_left
             ·intro w'
              go_simp
              with_reducible rfl
             rotate_left
             ·simp only [Act.put, List.setIfInBounds_toArray, List.set_cons_zero, List.set_cons_succ, i64_w, i32_w]
              rfl
             refine one_ (i := 21) (N := some 33) #[true, true, true, true, true, true, true, true, true, true, true, true, true, true, true, true, true, true, true, true, true, true, false, false, true, true, false, false, false, false] rfl rfl (one_of HT_.out (by kernel_rfl)) (by decide) (fun K hK => ?_)
             refine goes_ Try.func34 (by kernel_rfl) rfl #[.int .i64 t274, .int .i64 2] (by rfl) rfl rfl (by (try simp only [List.map_toArray, List.map_cons, List.map_nil]); first | done | rfl | (simp only [List.length_drop, List.length_take]; rfl)) ?_
             with_reducible refine (stowageref4_wide.calls k t274 2 t282 _ A15.out).mono ?_
             rintro e w' ⟨rfl, ⟨nd, rfl⟩⟩
             refine ⟨_, rfl, ?_⟩
             refine hK.out _ _ ⟨(blk_cell BK277.out 0).trans rfl, (blk_cell BK277.out 1).trans rfl, (blk_cell BK277.out 2).trans rfl, (blk_cell BK277.out 3).trans rfl, (blk_cell BK277.out 4).trans rfl, (blk_cell BK277.out 5).trans rfl⟩ (fun hHeld => ?_)
             clear hK K
             refine norm_ (a' := ?_) ?_ ?_
             rotate_left
             ·show Act.put _ (some 33) _ = _
              simp only [Act.put, List.setIfInBounds_toArray, List.set_cons_zero, List.set_cons_succ, i64_w, i32_w]
              rfl
             refine pure_ (i := 22) (N := some 34) (v := ?_) (a' := ?_) #[true, true, true, true, true, true, true, true, true, true, true, true, true, true, true, true, true, true, true, true, true, true, true, false, true, true, false, false, false, false] rfl rfl (any_of HT_.out (by kernel_rfl)) (fun _ _ _ h => h) (Or.inl ⟨by rfl, ?_⟩) ?_ ?_
             rotate_left
             ·intro w'
              go_simp
              with_reducible rfl
             rotate_left
             ·simp only [Act.put, List.setIfInBounds_toArray, List.set_cons_zero, List.set_cons_succ, i64_w, i32_w]
              rfl
             refine pure_ (i := 23) (N := some 35) (v := ?_) (a' := ?_) #[true, true, true, true, true, true, true, true, true, true, true, true, true, true, true, true, true, true, true, true, true, true, true, true, true, true, false, false, false, false] rfl rfl (any_of HT_.out (by kernel_rfl)) (fun _ _ _ h => h) (Or.inl ⟨by rfl, ?_⟩) ?_ ?_
             rotate_left
             ·intro w'
              go_simp
              with_reducible rfl
             rotate_left
             ·simp only [Act.put, List.setIfInBounds_toArray, List.set_cons_zero, List.set_cons_succ, i64_w, i32_w]
              rfl
             refine one_ (i := 26) (N := some 38) #[true, true, true, true, true, true, true, true, true, true, true, true, true, true, true, true, true, true, true, true, true, true, true, true, true, true, true, false, false, false] rfl rfl (one_of HT_.out (by kernel_rfl)) (by decide) (fun K hK => ?_)
             refine goes_ Try.func34 (by kernel_rfl) rfl #[.int .i64 t275, .int .i64 2] (by rfl) rfl rfl (by (try simp only [List.map_toArray, List.map_cons, List.map_nil]); first | done | rfl | (simp only [List.length_drop, List.length_take]; rfl)) ?_
             with_reducible refine (stowageref4_wide.calls k t275 2 t283 _ A18.out).mono ?_
             rintro e w' ⟨rfl, ⟨nd, rfl⟩⟩
             refine ⟨_, rfl, ?_⟩
             refine hK.out _ _ ⟨(blk_cell BK277.out 0).trans rfl, (blk_cell BK277.out 1).trans rfl, (blk_cell BK277.out 2).trans rfl, (blk_cell BK277.out 3).trans rfl, (blk_cell BK277.out 4).trans rfl, (blk_cell BK277.out 5).trans rfl⟩ (fun hHeld => ?_)
             clear hK K
             refine norm_ (a' := ?_) ?_ ?_
             rotate_left
             ·show Act.put _ (some 38) _ = _
              simp only [Act.put, List.setIfInBounds_toArray, List.set_cons_zero, List.set_cons_succ, i64_w, i32_w]
              rfl
             refine pure_ (i := 27) (N := some 39) (v := ?_) (a' := ?_) #[true, true, true, true, true, true, true, true, true, true, true, true, true, true, true, true, true, true, true, true, true, true, true, true, true, true, true, true, false, false] rfl rfl (any_of HT_.out (by kernel_rfl)) (fun _ _ _ h => h) (Or.inl ⟨by rfl, ?_⟩) ?_ ?_
             rotate_left
             ·intro w'
              go_simp
              with_reducible rfl
             rotate_left
             ·simp only [Act.put, List.setIfInBounds_toArray, List.set_cons_zero, List.set_cons_succ, i64_w, i32_w]
              rfl
             refine pure_ (i := 28) (N := some 40) (v := ?_) (a' := ?_) #[true, true, true, true, true, true, true, true, true, true, true, true, true, true, true, true, true, true, true, true, true, true, true, true, true, true, true, true, true, false] rfl rfl (any_of HT_.out (by kernel_rfl)) (fun _ _ _ h => h) (Or.inl ⟨by rfl, ?_⟩) ?_ ?_
             rotate_left
             ·intro w'
              go_simp
              with_reducible rfl
             rotate_left
             ·simp only [Act.put, List.setIfInBounds_toArray, List.set_cons_zero, List.set_cons_succ, i64_w, i32_w]
              rfl
             refine pure_ (i := 29) (N := some 2) (v := ?_) (a' := ?_) #[true, true, true, true, true, true, true, true, true, true, true, true, true, true, true, true, true, true, true, true, true, true, true, true, true, true, true, true, true, true] rfl rfl (any_of HT_.out (by kernel_rfl)) (fun _ _ _ h => h) (Or.inl ⟨by rfl, ?_⟩) ?_ ?_
             rotate_left
             ·intro w'
              go_simp
              with_reducible rfl
             rotate_left
             ·simp only [Act.put, List.setIfInBounds_toArray, List.set_cons_zero, List.set_cons_succ, i64_w, i32_w]
              rfl
             refine done_ (done_of HT_.out (by kernel_rfl)) ?_
             try go_wp2
             go_ret
             exact ⟨by first | rfl | (simp [errW_none, errW_some] <;> rfl) | (simp [*, errW_none, errW_some] <;> rfl), by repeat (first | (with_reducible first | exact HB.out | apply below_alloc | apply pw_below_drewN | apply below_drew1 | refine below_set ?_ GE277.out) | exact HB.out)⟩
            ·rw [if_neg c20] at H
             exact absurd H (by simp)
           ·rw [if_neg c19] at H
            exact absurd H (by simp)
          ·rw [if_neg c17] at H
           exact absurd H (by simp)
         ·rw [if_neg c16] at H
          exact absurd H (by simp)
        ·rw [if_neg c14] at H
         exact absurd H (by simp)
       ·rw [if_neg c13] at H
        exact absurd H (by simp)
      ·rw [if_neg c11] at H
       exact absurd H (by simp)
     ·rw [if_neg c10] at H
      exact absurd H (by simp)
    ·rw [if_neg c8] at H
     exact absurd H (by simp)
   ·rw [if_neg c7] at H
    exact absurd H (by simp)
  ·rw [if_neg c5] at H
   exact absurd H (by simp)
 ·replace c3 := Bool.eq_false_iff.mpr c3
  subst c3
  have H1 : (some (⟨#[]⟩ : ByteArray)) = some r := by rw [if_neg (show ¬ (false = true) by decide)] at H; exact H
  clear H
  have H := H1
  clear H1
  obtain rfl := Option.some.inj H
  go_enter Try.func18, Try.ntmps18
  go_wp2_with (first | ((with_reducible refine gate_callee (f := 10) rfl ?_); refine goesL_ (some 7) rfl rfl Try.func10 (by kernel_rfl) rfl #[.int .i64 a0] rfl (by (try simp only [List.map_toArray, List.map_cons, List.map_nil]); first | done | rfl | (simp only [List.length_drop, List.length_take]; rfl)) ?_; (with_reducible refine (stowageref4_Civil.calls k a0 t270 t271 t272 t273 t274 t275 false _ A2.out).mono ?_); rintro e w26 ⟨rfl, hb⟩; refine ⟨_, rfl, ?_⟩; have n0_ := Aside0.mk (below_step (by repeat (first | (with_reducible first | exact HB.out | apply below_alloc | apply pw_below_drewN | apply below_drew1) | exact HB.out)) hb); clear HB; have HB := n0_; clear n0_; (try clear hb); (try clear hb2); (try clear hk); (try clear hi)) | ((with_reducible refine gate_dst (N := 3) rfl ?_); refine box_event ?hg (N := 3) ?hd (cs := #[.int .i64 0, .int .i64 0, .int .i64 0, .int .i64 0, .int .i64 0, .int .i64 0]) (t := 27) ?hr ?_; (case hd => rfl); (case hg => rfl); (case hr => first | (go_simp; done) | (go_simp; rfl)); intro gb277 hg w27 hbox hb; have n0_ := Aside0.mk (below_step (by repeat (first | (with_reducible first | exact HB.out | apply below_alloc | apply pw_below_drewN | apply below_drew1) | exact HB.out)) hb); have n1_ := Aside0.mk (hbox); have n2_ := Aside0.mk ((by rw [hg]; exact (below_size (by repeat (first | (with_reducible first | exact HB.out | apply below_alloc | apply pw_below_drewN | apply below_drew1) | exact HB.out))) : w.heap.size ≤ gb277)); have n3_ := Aside0.mk ((by rw [hg]; exact (below_size (by repeat (first | (with_reducible first | exact HB.out | apply below_alloc | apply pw_below_drewN | apply below_drew1) | exact HB.out))) : w.heap.size ≤ gb277)); clear HB; have HB := n0_; have BK277 := n1_; have GW277 := n2_; have GE277 := n3_; clear n0_ n1_ n2_ n3_; clear hb hbox hg; have hcz28_0 : w27.cell? ⟨gb277, 0, none⟩ = some (.int .i64 0) := (blk_cell BK277.out 0).trans rfl; have hcz28_1 : w27.cell? ⟨gb277, 1, none⟩ = some (.int .i64 0) := (blk_cell BK277.out 1).trans rfl; have hcz28_2 : w27.cell? ⟨gb277, 2, none⟩ = some (.int .i64 0) := (blk_cell BK277.out 2).trans rfl; have hcz28_3 : w27.cell? ⟨gb277, 3, none⟩ = some (.int .i64 0) := (blk_cell BK277.out 3).trans rfl; have hcz28_4 : w27.cell? ⟨gb277, 4, none⟩ = some (.int .i64 0) := (blk_cell BK277.out 4).trans rfl; have hcz28_5 : w27.cell? ⟨gb277, 5, none⟩ = some (.int .i64 0) := (blk_cell BK277.out 5).trans rfl; have hfz28_0 := blk_frozen BK277.out 0; have hfz28_1 := blk_frozen BK277.out 1; have hfz28_2 := blk_frozen BK277.out 2; have hfz28_3 := blk_frozen BK277.out 3; have hfz28_4 := blk_frozen BK277.out 4; have hfz28_5 := blk_frozen BK277.out 5))
  go_ret
  exact ⟨by first | rfl | (simp [errW_none, errW_some] <;> rfl) | (simp [*, errW_none, errW_some] <;> rfl), by repeat (first | (with_reducible first | exact HB.out | apply below_alloc | apply pw_below_drewN | apply below_drew1 | refine below_set ?_ GE277.out) | exact HB.out)⟩
end Go.Proofs.Yteggifhicmbopaa.Q
