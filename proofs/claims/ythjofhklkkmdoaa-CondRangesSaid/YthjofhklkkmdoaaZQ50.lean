/- A part of the proof of the seat's laws. No condition beyond those in the theorems. -/
import Derived.Test.YthjofhklkkmdoaaZQ0
import Derived.Test.YthjofhklkkmdoaaZQ10
import Derived.Test.YthjofhklkkmdoaaZQ48
import Derived.Test.YthjofhklkkmdoaaZQ49

namespace Go.Proofs.Ythjofhklkkmdoaa.Q
open Go.RowKit Go.Proofs.YthjofhklkkmdoaaW.PrintWords Go.Proofs.YthjofhklkkmdoaaW.PrintLast Go.Proofs.YthjofhklkkmdoaaW.PrintMore
set_option linter.unusedVariables false
set_option linter.unusedSimpArgs false
attribute [local go_sem] max2_int min2_int max_two min_two max_three min_three max_four min_four   
mutual
def stowageref21_Range.j0 : Nat → Int → ByteArray → ByteArray → Int → Int → Bool → Int → Int → Bool → Int → Option (Int × Int × Bool × Int)
 | 0, _, _, _, _, _, _, _, _, _, _ => none
 | k + 1, x1, x6, x7, x9, x11, x39, x277000, x277001, x277002, x277003 => if x39 = true then (some (x277000, x277001, x277002, x277003)) else (if x6.toList = ([] : List UInt8) then (if x11 = 0 then (some (0, 0, false, 320)) else (if x1 = 0 then (some (0, 0, false, 320)) else (some (wrap64 (x1 - (mn x11 x1)), mn x11 x1, true, 0)))) else (if x7.toList = ([] : List UInt8) then (stowageref21_Range.j1 k x1 x7 x9 x11 false x277000 x277001 x277002 x277003) else (stowageref21_Range.j1 k x1 x7 x9 x11 (decide (x11 < x9)) x277000 x277001 x277002 x277003)))
def stowageref21_Range.j1 : Nat → Int → ByteArray → Int → Int → Bool → Int → Int → Bool → Int → Option (Int × Int × Bool × Int)
 | 0, _, _, _, _, _, _, _, _, _ => none
 | k + 1, x1, x7, x9, x11, x85, x277000, x277001, x277002, x277003 => if x85 = true then (some (x277000, x277001, x277002, x277003)) else (if x9 ≥ x1 then (some (0, 0, false, 320)) else (if x7.toList = ([] : List UInt8) then (some (x9, wrap64 ((wrap64 ((wrap64 (x1 - 1)) - x9)) + 1), true, 0)) else (if x11 ≥ x1 then (some (x9, wrap64 ((wrap64 ((wrap64 (x1 - 1)) - x9)) + 1), true, 0)) else (some (x9, wrap64 ((wrap64 (x11 - x9)) + 1), true, 0)))))
end
def stowageref21_Range.f (k : Nat) (a0 : ByteArray) (a1 : Int) : Option (Int × Int × Bool × Int) := (stowageref3_Begins.f a0 (⟨#[98, 121, 116, 101, 115, 61]⟩ : ByteArray)).bind fun t277 => (if t277 = true then (if 6 ≤ (a0.size : Int) then ((stowageref3_Cut.f k (a0.extract 6 a0.size) 45).bind fun bt278 => ((stowageref1_Int.f k bt278.1).bind fun bt281 => ((stowageref1_Int.f k bt278.2.1).bind fun bt283 => (if bt278.2.2 = true then (if bt278.1.toList = ([] : List UInt8) then (if bt278.2.1.toList = ([] : List UInt8) then (stowageref21_Range.j0 k (mx a1 0) bt278.1 bt278.2.1 bt281.1 bt283.1 (bt278.2.1.toList == ([] : List UInt8)) 0 (mx a1 0) false 0) else (if bt283.2 = true then (stowageref21_Range.j0 k (mx a1 0) bt278.1 bt278.2.1 bt281.1 bt283.1 (bt278.2.1.toList == ([] : List UInt8)) 0 (mx a1 0) false 0) else (stowageref21_Range.j0 k (mx a1 0) bt278.1 bt278.2.1 bt281.1 bt283.1 true 0 (mx a1 0) false 0))) else (if bt281.2 = true then (if bt278.2.1.toList = ([] : List UInt8) then (stowageref21_Range.j0 k (mx a1 0) bt278.1 bt278.2.1 bt281.1 bt283.1 false 0 (mx a1 0) false 0) else (if bt283.2 = true then (stowageref21_Range.j0 k (mx a1 0) bt278.1 bt278.2.1 bt281.1 bt283.1 false 0 (mx a1 0) false 0) else (stowageref21_Range.j0 k (mx a1 0) bt278.1 bt278.2.1 bt281.1 bt283.1 true 0 (mx a1 0) false 0))) else (stowageref21_Range.j0 k (mx a1 0) bt278.1 bt278.2.1 bt281.1 bt283.1 true 0 (mx a1 0) false 0))) else (stowageref21_Range.j0 k (mx a1 0) bt278.1 bt278.2.1 bt281.1 bt283.1 true 0 (mx a1 0) false 0))))) else (none)) else (some (0, mx a1 0, false, 0)))
theorem stowageref21_Range.mono_l : ∀ k, (∀ y0 y1 y2 y3 y4 y5 y6 y7 y8 y9, LeO (stowageref21_Range.j0 k y0 y1 y2 y3 y4 y5 y6 y7 y8 y9) (stowageref21_Range.j0 (k + 1) y0 y1 y2 y3 y4 y5 y6 y7 y8 y9)) ∧ (∀ y0 y1 y2 y3 y4 y5 y6 y7 y8, LeO (stowageref21_Range.j1 k y0 y1 y2 y3 y4 y5 y6 y7 y8) (stowageref21_Range.j1 (k + 1) y0 y1 y2 y3 y4 y5 y6 y7 y8))
 | 0 => ⟨fun _ _ _ _ _ _ _ _ _ _ r h => by simp [stowageref21_Range.j0] at h, fun _ _ _ _ _ _ _ _ _ r h => by simp [stowageref21_Range.j1] at h⟩
 | k + 1 => by
  obtain ⟨ih0, ih1⟩ := stowageref21_Range.mono_l k
  refine ⟨?_, ?_⟩
  ·intro y0 y1 y2 y3 y4 y5 y6 y7 y8 y9
   unfold stowageref21_Range.j0
   repeat' first
   | (with_reducible exact ih0 _ _ _ _ _ _ _ _ _ _)
   | (with_reducible exact ih1 _ _ _ _ _ _ _ _ _)
   | (with_reducible exact stowageref1_Int.mono _ _)
   | (with_reducible exact stowageref3_Cut.mono _ _ _)
   | (with_reducible exact LeO.refl _)
   | (with_reducible exact LeO.none _)
   | (with_reducible refine LeO.ite ?_ ?_)
   | (with_reducible refine LeO.bind ?_ (fun _ => ?_))
   | exact ih0 _ _ _ _ _ _ _ _ _ _
   | exact ih1 _ _ _ _ _ _ _ _ _
   | exact stowageref1_Int.mono _ _
   | exact stowageref3_Cut.mono _ _ _
   | exact LeO.none _
   | refine LeO.ite ?_ ?_
   | refine LeO.bind ?_ (fun _ => ?_)
  ·intro y0 y1 y2 y3 y4 y5 y6 y7 y8
   unfold stowageref21_Range.j1
   repeat' first
   | (with_reducible exact ih0 _ _ _ _ _ _ _ _ _ _)
   | (with_reducible exact ih1 _ _ _ _ _ _ _ _ _)
   | (with_reducible exact stowageref1_Int.mono _ _)
   | (with_reducible exact stowageref3_Cut.mono _ _ _)
   | (with_reducible exact LeO.refl _)
   | (with_reducible exact LeO.none _)
   | (with_reducible refine LeO.ite ?_ ?_)
   | (with_reducible refine LeO.bind ?_ (fun _ => ?_))
   | exact ih0 _ _ _ _ _ _ _ _ _ _
   | exact ih1 _ _ _ _ _ _ _ _ _
   | exact stowageref1_Int.mono _ _
   | exact stowageref3_Cut.mono _ _ _
   | exact LeO.none _
   | refine LeO.ite ?_ ?_
   | refine LeO.bind ?_ (fun _ => ?_)
theorem stowageref21_Range.mono : ∀ a0 a1 k, LeO (stowageref21_Range.f k a0 a1) (stowageref21_Range.f (k + 1) a0 a1) := by
 intro a0 a1 k
 obtain ⟨ih0, ih1⟩ := stowageref21_Range.mono_l k
 unfold stowageref21_Range.f
 repeat' first
   | (with_reducible exact ih0 _ _ _ _ _ _ _ _ _ _)
   | (with_reducible exact ih1 _ _ _ _ _ _ _ _ _)
   | (with_reducible exact stowageref1_Int.mono _ _)
   | (with_reducible exact stowageref3_Cut.mono _ _ _)
   | (with_reducible exact LeO.refl _)
   | (with_reducible exact LeO.none _)
   | (with_reducible refine LeO.ite ?_ ?_)
   | (with_reducible refine LeO.bind ?_ (fun _ => ?_))
   | exact ih0 _ _ _ _ _ _ _ _ _ _
   | exact ih1 _ _ _ _ _ _ _ _ _
   | exact stowageref1_Int.mono _ _
   | exact stowageref3_Cut.mono _ _ _
   | exact LeO.none _
   | refine LeO.ite ?_ ?_
   | refine LeO.bind ?_ (fun _ => ?_)
set_option maxHeartbeats 8000000 in
set_option maxRecDepth 100000 in
theorem stowageref21_Range.calls (k : Nat) (a0 : ByteArray) (a1 : Int) (r1 : Int) (r2 : Int) (r3 : Bool) (r4 : Int) (w : World) (h : stowageref21_Range.f k a0 a1 = some (r1, r2, r3, r4)) :
  Calls Try.prog 16 #[.string a0, .int .i64 a1] w fun e w' => e = .returned (.agg #[.int .i64 r1, .int .i64 r2, .bool r3, .int .i64 r4]) ∧ Below w.heap.size w w' := by
 have hu35 := Try.underlying35
 have HB := Aside0.mk (Below.refl w.heap.size w)
 have H : ((stowageref3_Begins.f a0 (⟨#[98, 121, 116, 101, 115, 61]⟩ : ByteArray)).bind fun t277 => (if t277 = true then (if 6 ≤ (a0.size : Int) then ((stowageref3_Cut.f k (a0.extract 6 a0.size) 45).bind fun bt278 => ((stowageref1_Int.f k bt278.1).bind fun bt281 => ((stowageref1_Int.f k bt278.2.1).bind fun bt283 => (if bt278.2.2 = true then (if bt278.1.toList = ([] : List UInt8) then (if bt278.2.1.toList = ([] : List UInt8) then (stowageref21_Range.j0 k (mx a1 0) bt278.1 bt278.2.1 bt281.1 bt283.1 (bt278.2.1.toList == ([] : List UInt8)) 0 (mx a1 0) false 0) else (if bt283.2 = true then (stowageref21_Range.j0 k (mx a1 0) bt278.1 bt278.2.1 bt281.1 bt283.1 (bt278.2.1.toList == ([] : List UInt8)) 0 (mx a1 0) false 0) else (stowageref21_Range.j0 k (mx a1 0) bt278.1 bt278.2.1 bt281.1 bt283.1 true 0 (mx a1 0) false 0))) else (if bt281.2 = true then (if bt278.2.1.toList = ([] : List UInt8) then (stowageref21_Range.j0 k (mx a1 0) bt278.1 bt278.2.1 bt281.1 bt283.1 false 0 (mx a1 0) false 0) else (if bt283.2 = true then (stowageref21_Range.j0 k (mx a1 0) bt278.1 bt278.2.1 bt281.1 bt283.1 false 0 (mx a1 0) false 0) else (stowageref21_Range.j0 k (mx a1 0) bt278.1 bt278.2.1 bt281.1 bt283.1 true 0 (mx a1 0) false 0))) else (stowageref21_Range.j0 k (mx a1 0) bt278.1 bt278.2.1 bt281.1 bt283.1 true 0 (mx a1 0) false 0))) else (stowageref21_Range.j0 k (mx a1 0) bt278.1 bt278.2.1 bt281.1 bt283.1 true 0 (mx a1 0) false 0))))) else (none)) else (some (0, mx a1 0, false, 0)))) = some (r1, r2, r3, r4) := h
 clear h
 obtain ⟨ji3, hji3⟩ : ∃ j_ : Int, (mx a1 0) = j_ := ⟨_, rfl⟩
 replace H : ((stowageref3_Begins.f a0 (⟨#[98, 121, 116, 101, 115, 61]⟩ : ByteArray)).bind fun t277 => (if t277 = true then (if 6 ≤ (a0.size : Int) then ((stowageref3_Cut.f k (a0.extract 6 a0.size) 45).bind fun bt278 => ((stowageref1_Int.f k bt278.1).bind fun bt281 => ((stowageref1_Int.f k bt278.2.1).bind fun bt283 => (if bt278.2.2 = true then (if bt278.1.toList = ([] : List UInt8) then (if bt278.2.1.toList = ([] : List UInt8) then (stowageref21_Range.j0 k ji3 bt278.1 bt278.2.1 bt281.1 bt283.1 (bt278.2.1.toList == ([] : List UInt8)) 0 ji3 false 0) else (if bt283.2 = true then (stowageref21_Range.j0 k ji3 bt278.1 bt278.2.1 bt281.1 bt283.1 (bt278.2.1.toList == ([] : List UInt8)) 0 ji3 false 0) else (stowageref21_Range.j0 k ji3 bt278.1 bt278.2.1 bt281.1 bt283.1 true 0 ji3 false 0))) else (if bt281.2 = true then (if bt278.2.1.toList = ([] : List UInt8) then (stowageref21_Range.j0 k ji3 bt278.1 bt278.2.1 bt281.1 bt283.1 false 0 ji3 false 0) else (if bt283.2 = true then (stowageref21_Range.j0 k ji3 bt278.1 bt278.2.1 bt281.1 bt283.1 false 0 ji3 false 0) else (stowageref21_Range.j0 k ji3 bt278.1 bt278.2.1 bt281.1 bt283.1 true 0 ji3 false 0))) else (stowageref21_Range.j0 k ji3 bt278.1 bt278.2.1 bt281.1 bt283.1 true 0 ji3 false 0))) else (stowageref21_Range.j0 k ji3 bt278.1 bt278.2.1 bt281.1 bt283.1 true 0 ji3 false 0))))) else (none)) else (some (0, ji3, false, 0)))) = some (r1, r2, r3, r4) := by first | (rw [hji3] at H; exact H) | (simp only [hji3] at H ⊢; exact H)
 (try (have hji3l : 0 ≤ ji3 := by (rw [← hji3]; unfold mx; (repeat' split) <;> omega)))
 (try (have hji3m : 0 ≤ ji3 := by omega))
 have hji3_ : (if a1 < 0 then 0 else a1) = ji3 := hji3
 replace H := Option.bind_eq_some_iff.mp H
 obtain ⟨t277, A40, H⟩ := H
 replace H : (if t277 = true then (if 6 ≤ (a0.size : Int) then ((stowageref3_Cut.f k (a0.extract 6 a0.size) 45).bind fun bt278 => ((stowageref1_Int.f k bt278.1).bind fun bt281 => ((stowageref1_Int.f k bt278.2.1).bind fun bt283 => (if bt278.2.2 = true then (if bt278.1.toList = ([] : List UInt8) then (if bt278.2.1.toList = ([] : List UInt8) then (stowageref21_Range.j0 k ji3 bt278.1 bt278.2.1 bt281.1 bt283.1 (bt278.2.1.toList == ([] : List UInt8)) 0 ji3 false 0) else (if bt283.2 = true then (stowageref21_Range.j0 k ji3 bt278.1 bt278.2.1 bt281.1 bt283.1 (bt278.2.1.toList == ([] : List UInt8)) 0 ji3 false 0) else (stowageref21_Range.j0 k ji3 bt278.1 bt278.2.1 bt281.1 bt283.1 true 0 ji3 false 0))) else (if bt281.2 = true then (if bt278.2.1.toList = ([] : List UInt8) then (stowageref21_Range.j0 k ji3 bt278.1 bt278.2.1 bt281.1 bt283.1 false 0 ji3 false 0) else (if bt283.2 = true then (stowageref21_Range.j0 k ji3 bt278.1 bt278.2.1 bt281.1 bt283.1 false 0 ji3 false 0) else (stowageref21_Range.j0 k ji3 bt278.1 bt278.2.1 bt281.1 bt283.1 true 0 ji3 false 0))) else (stowageref21_Range.j0 k ji3 bt278.1 bt278.2.1 bt281.1 bt283.1 true 0 ji3 false 0))) else (stowageref21_Range.j0 k ji3 bt278.1 bt278.2.1 bt281.1 bt283.1 true 0 ji3 false 0))))) else (none)) else (some (0, ji3, false, 0))) = some (r1, r2, r3, r4) := H
 have A4 := Aside0.mk A40
 clear A40
 by_cases c5 : t277 = true
 ·subst c5
  have H1 : (if 6 ≤ (a0.size : Int) then ((stowageref3_Cut.f k (a0.extract 6 a0.size) 45).bind fun bt278 => ((stowageref1_Int.f k bt278.1).bind fun bt281 => ((stowageref1_Int.f k bt278.2.1).bind fun bt283 => (if bt278.2.2 = true then (if bt278.1.toList = ([] : List UInt8) then (if bt278.2.1.toList = ([] : List UInt8) then (stowageref21_Range.j0 k ji3 bt278.1 bt278.2.1 bt281.1 bt283.1 (bt278.2.1.toList == ([] : List UInt8)) 0 ji3 false 0) else (if bt283.2 = true then (stowageref21_Range.j0 k ji3 bt278.1 bt278.2.1 bt281.1 bt283.1 (bt278.2.1.toList == ([] : List UInt8)) 0 ji3 false 0) else (stowageref21_Range.j0 k ji3 bt278.1 bt278.2.1 bt281.1 bt283.1 true 0 ji3 false 0))) else (if bt281.2 = true then (if bt278.2.1.toList = ([] : List UInt8) then (stowageref21_Range.j0 k ji3 bt278.1 bt278.2.1 bt281.1 bt283.1 false 0 ji3 false 0) else (if bt283.2 = true then (stowageref21_Range.j0 k ji3 bt278.1 bt278.2.1 bt281.1 bt283.1 false 0 ji3 false 0) else (stowageref21_Range.j0 k ji3 bt278.1 bt278.2.1 bt281.1 bt283.1 true 0 ji3 false 0))) else (stowageref21_Range.j0 k ji3 bt278.1 bt278.2.1 bt281.1 bt283.1 true 0 ji3 false 0))) else (stowageref21_Range.j0 k ji3 bt278.1 bt278.2.1 bt281.1 bt283.1 true 0 ji3 false 0))))) else (none)) = some (r1, r2, r3, r4) := by rw [if_pos rfl] at H; exact H
  clear H
  have H := H1
  clear H1
  by_cases c6 : 6 ≤ (a0.size : Int)
  ·rw [if_pos c6] at H
   have c6b0 := eq_true c6
   have c6b1 : decide (6 ≤ (a0.size : Int)) = true := decide_eq_true c6
   clear c6
   replace H := Option.bind_eq_some_iff.mp H
   obtain ⟨⟨t278, t279, t280⟩, A70, H⟩ := H
   replace H : ((stowageref1_Int.f k t278).bind fun bt281 => ((stowageref1_Int.f k t279).bind fun bt283 => (if t280 = true then (if t278.toList = ([] : List UInt8) then (if t279.toList = ([] : List UInt8) then (stowageref21_Range.j0 k ji3 t278 t279 bt281.1 bt283.1 (t279.toList == ([] : List UInt8)) 0 ji3 false 0) else (if bt283.2 = true then (stowageref21_Range.j0 k ji3 t278 t279 bt281.1 bt283.1 (t279.toList == ([] : List UInt8)) 0 ji3 false 0) else (stowageref21_Range.j0 k ji3 t278 t279 bt281.1 bt283.1 true 0 ji3 false 0))) else (if bt281.2 = true then (if t279.toList = ([] : List UInt8) then (stowageref21_Range.j0 k ji3 t278 t279 bt281.1 bt283.1 false 0 ji3 false 0) else (if bt283.2 = true then (stowageref21_Range.j0 k ji3 t278 t279 bt281.1 bt283.1 false 0 ji3 false 0) else (stowageref21_Range.j0 k ji3 t278 t279 bt281.1 bt283.1 true 0 ji3 false 0))) else (stowageref21_Range.j0 k ji3 t278 t279 bt281.1 bt283.1 true 0 ji3 false 0))) else (stowageref21_Range.j0 k ji3 t278 t279 bt281.1 bt283.1 true 0 ji3 false 0)))) = some (r1, r2, r3, r4) := H
   have A7 := Aside0.mk A70
   clear A70
   replace H := Option.bind_eq_some_iff.mp H
   obtain ⟨⟨t281, t282⟩, A80, H⟩ := H
   replace H : ((stowageref1_Int.f k t279).bind fun bt283 => (if t280 = true then (if t278.toList = ([] : List UInt8) then (if t279.toList = ([] : List UInt8) then (stowageref21_Range.j0 k ji3 t278 t279 t281 bt283.1 (t279.toList == ([] : List UInt8)) 0 ji3 false 0) else (if bt283.2 = true then (stowageref21_Range.j0 k ji3 t278 t279 t281 bt283.1 (t279.toList == ([] : List UInt8)) 0 ji3 false 0) else (stowageref21_Range.j0 k ji3 t278 t279 t281 bt283.1 true 0 ji3 false 0))) else (if t282 = true then (if t279.toList = ([] : List UInt8) then (stowageref21_Range.j0 k ji3 t278 t279 t281 bt283.1 false 0 ji3 false 0) else (if bt283.2 = true then (stowageref21_Range.j0 k ji3 t278 t279 t281 bt283.1 false 0 ji3 false 0) else (stowageref21_Range.j0 k ji3 t278 t279 t281 bt283.1 true 0 ji3 false 0))) else (stowageref21_Range.j0 k ji3 t278 t279 t281 bt283.1 true 0 ji3 false 0))) else (stowageref21_Range.j0 k ji3 t278 t279 t281 bt283.1 true 0 ji3 false 0))) = some (r1, r2, r3, r4) := H
   have A8 := Aside0.mk A80
   clear A80
   replace H := Option.bind_eq_some_iff.mp H
   obtain ⟨⟨t283, t284⟩, A90, H⟩ := H
   replace H : (if t280 = true then (if t278.toList = ([] : List UInt8) then (if t279.toList = ([] : List UInt8) then (stowageref21_Range.j0 k ji3 t278 t279 t281 t283 (t279.toList == ([] : List UInt8)) 0 ji3 false 0) else (if t284 = true then (stowageref21_Range.j0 k ji3 t278 t279 t281 t283 (t279.toList == ([] : List UInt8)) 0 ji3 false 0) else (stowageref21_Range.j0 k ji3 t278 t279 t281 t283 true 0 ji3 false 0))) else (if t282 = true then (if t279.toList = ([] : List UInt8) then (stowageref21_Range.j0 k ji3 t278 t279 t281 t283 false 0 ji3 false 0) else (if t284 = true then (stowageref21_Range.j0 k ji3 t278 t279 t281 t283 false 0 ji3 false 0) else (stowageref21_Range.j0 k ji3 t278 t279 t281 t283 true 0 ji3 false 0))) else (stowageref21_Range.j0 k ji3 t278 t279 t281 t283 true 0 ji3 false 0))) else (stowageref21_Range.j0 k ji3 t278 t279 t281 t283 true 0 ji3 false 0)) = some (r1, r2, r3, r4) := H
   have A9 := Aside0.mk A90
   clear A90
   have HC10 := Aside0.mk H
   clear H
   go_enter Try.func16, Try.ntmps16
   go_upto_region 8 with (first | ((with_reducible refine gate_dst (N := 4) rfl ?_); refine box_event ?hg (N := 4) ?hd (cs := #[.int .i64 0, .int .i64 0, .bool false, .int .i64 0]) (t := 35) ?hr ?_; (case hd => rfl); (case hg => rfl); (case hr => first | (go_simp; done) | (go_simp; rfl)); intro gb275 hg w11 hbox hb; have n0_ := Aside0.mk (below_step (by repeat (first | (with_reducible first | exact HB.out | apply below_alloc | apply pw_below_drewN | apply below_drew1) | exact HB.out)) hb); have n1_ := Aside0.mk (hbox); have n2_ := Aside0.mk ((by rw [hg]; exact (below_size (by repeat (first | (with_reducible first | exact HB.out | apply below_alloc | apply pw_below_drewN | apply below_drew1) | exact HB.out))) : w.heap.size ≤ gb275)); have n3_ := Aside0.mk ((by rw [hg]; exact (below_size (by repeat (first | (with_reducible first | exact HB.out | apply below_alloc | apply pw_below_drewN | apply below_drew1) | exact HB.out))) : w.heap.size ≤ gb275)); clear HB; have HB := n0_; have BK275 := n1_; have GW275 := n2_; have GE275 := n3_; clear n0_ n1_ n2_ n3_; clear hb hbox hg) | ((with_reducible refine gate_dst (N := 5) rfl ?_); refine box_event ?hg (N := 5) ?hd (cs := #[.int .i64 0, .int .i64 0, .bool false, .int .i64 0]) (t := 35) ?hr ?_; (case hd => rfl); (case hg => rfl); (case hr => first | (go_simp; done) | (go_simp; rfl)); intro gb276 hg w12 hbox hb; have n0_ := Aside0.mk (blk_below (g := gb275) (o := .cells #[.int .i64 0, .int .i64 0, .bool false, .int .i64 0] 35 (0, 0)) (by (with_reducible repeat (first | refine blk_drewN ?_ _ | refine blk_drew ?_ | refine blk_alloc ?_ _)); exact BK275.out) hb); have n1_ := Aside0.mk (below_step (by repeat (first | (with_reducible first | exact HB.out | apply below_alloc | apply pw_below_drewN | apply below_drew1 | refine below_set ?_ GE275.out) | exact HB.out)) hb); have n2_ := Aside0.mk (hbox); have n3_ := Aside0.mk ((by rw [hg]; exact (below_size (by repeat (first | (with_reducible first | exact HB.out | apply below_alloc | apply pw_below_drewN | apply below_drew1 | refine below_set ?_ GE275.out) | exact HB.out))) : w.heap.size ≤ gb276)); have n4_ := Aside0.mk ((by rw [hg]; exact (below_size (by repeat (first | (with_reducible first | exact HB.out | apply below_alloc | apply pw_below_drewN | apply below_drew1 | refine below_set ?_ GE275.out) | exact HB.out))) : w.heap.size ≤ gb276)); have n5_ := Aside0.mk ((by rw [hg]; exact Nat.ne_of_lt (blk_lt (g := gb275) (o := .cells #[.int .i64 0, .int .i64 0, .bool false, .int .i64 0] 35 (0, 0)) (by (with_reducible repeat (first | refine blk_drewN ?_ _ | refine blk_drew ?_ | refine blk_alloc ?_ _)); exact BK275.out)) : gb275 ≠ gb276)); have n6_ := Aside0.mk ((by rw [hg]; exact Nat.ne_of_gt (blk_lt (g := gb275) (o := .cells #[.int .i64 0, .int .i64 0, .bool false, .int .i64 0] 35 (0, 0)) (by (with_reducible repeat (first | refine blk_drewN ?_ _ | refine blk_drew ?_ | refine blk_alloc ?_ _)); exact BK275.out)) : gb276 ≠ gb275)); clear BK275; clear HB; have BK275 := n0_; have HB := n1_; have BK276 := n2_; have GW276 := n3_; have GE276 := n4_; have NB275_276 := n5_; have NB276_275 := n6_; clear n0_ n1_ n2_ n3_ n4_ n5_ n6_; clear hb hbox hg; have hnb13 := NB276_275.out; have hnc13 := NB275_276.out; have hcz14_0 : w12.cell? ⟨gb276, 0, none⟩ = some (.int .i64 0) := (blk_cell BK276.out 0).trans rfl; have hcz14_1 : w12.cell? ⟨gb276, 1, none⟩ = some (.int .i64 0) := (blk_cell BK276.out 1).trans rfl; have hcz14_2 : w12.cell? ⟨gb276, 2, none⟩ = some (.bool false) := (blk_cell BK276.out 2).trans rfl; have hcz14_3 : w12.cell? ⟨gb276, 3, none⟩ = some (.int .i64 0) := (blk_cell BK276.out 3).trans rfl; have hfz14_0 := blk_frozen BK276.out 0; have hfz14_1 := blk_frozen BK276.out 1; have hfz14_2 := blk_frozen BK276.out 2; have hfz14_3 := blk_frozen BK276.out 3) | ((with_reducible refine gate_callee (f := 33) rfl ?_); refine goesL_ (some 19) rfl rfl Try.func33 (by kernel_rfl) rfl #[.string a0, .string (⟨#[98, 121, 116, 101, 115, 61]⟩ : ByteArray)] rfl (by (try simp only [List.map_toArray, List.map_cons, List.map_nil]); first | done | rfl | (simp only [List.length_drop, List.length_take]; rfl)) ?_; (with_reducible refine (stowageref3_Begins.calls a0 (⟨#[98, 121, 116, 101, 115, 61]⟩ : ByteArray) true _ A4.out).mono ?_); rintro e w' ⟨rfl, ⟨nd, rfl⟩⟩; refine ⟨_, rfl, ?_⟩) | ((with_reducible refine gate_callee (f := 38) rfl ?_); refine goesL_ (some 25) rfl rfl Try.func38 (by kernel_rfl) rfl #[.string (a0.extract 6 a0.size), .int .u8 45] rfl (by (try simp only [List.map_toArray, List.map_cons, List.map_nil]); first | done | rfl | (simp only [List.length_drop, List.length_take]; rfl)) ?_; (with_reducible refine (stowageref3_Cut.calls k (a0.extract 6 a0.size) 45 t278 t279 t280 _ A7.out).mono ?_); rintro e w' ⟨rfl, ⟨nd, rfl⟩⟩; refine ⟨_, rfl, ?_⟩) | ((with_reducible refine gate_callee (f := 39) rfl ?_); refine goesL_ (some 31) rfl rfl Try.func39 (by kernel_rfl) rfl #[.string t278] rfl (by (try simp only [List.map_toArray, List.map_cons, List.map_nil]); first | done | rfl | (simp only [List.length_drop, List.length_take]; rfl)) ?_; (with_reducible refine (stowageref1_Int.calls k t278 t281 t282 _ A8.out).mono ?_); rintro e w' ⟨rfl, ⟨nd, rfl⟩⟩; refine ⟨_, rfl, ?_⟩) | ((with_reducible refine gate_callee (f := 39) rfl ?_); refine goesL_ (some 36) rfl rfl Try.func39 (by kernel_rfl) rfl #[.string t279] rfl (by (try simp only [List.map_toArray, List.map_cons, List.map_nil]); first | done | rfl | (simp only [List.length_drop, List.length_take]; rfl)) ?_; (with_reducible refine (stowageref1_Int.calls k t279 t283 t284 _ A9.out).mono ?_); rintro e w' ⟨rfl, ⟨nd, rfl⟩⟩; refine ⟨_, rfl, ?_⟩))
   (try simp only [Act.put, List.setIfInBounds_toArray, List.set_cons_zero, List.set_cons_succ])
   go_cut [39] (fun v39 wc => ∃ (kq : Nat) (x39_9 : Bool), v39 = .bool x39_9 ∧ Aside0 (stowageref21_Range.j0 kq ji3 t278 t279 t281 t283 x39_9 0 ji3 false 0 = some (r1, r2, r3, r4)) ∧ Aside0 (kq ≤ k) ∧ Aside0 (wc.heap[gb275]? = some (.cells #[.int .i64 0, .int .i64 0, .bool false, .int .i64 0] 35 (0, 0))) ∧ Aside0 (wc.heap[gb276]? = some (.cells #[.int .i64 0, .int .i64 ji3, .bool false, .int .i64 0] 35 (0, 0))) ∧ Aside0 (Below w.heap.size w wc))
   case first =>
    have H := HC10.out
    clear HC10
    by_cases c15 : t280 = true
    ·subst c15
     have H1 : (if t278.toList = ([] : List UInt8) then (if t279.toList = ([] : List UInt8) then (stowageref21_Range.j0 k ji3 t278 t279 t281 t283 (t279.toList == ([] : List UInt8)) 0 ji3 false 0) else (if t284 = true then (stowageref21_Range.j0 k ji3 t278 t279 t281 t283 (t279.toList == ([] : List UInt8)) 0 ji3 false 0) else (stowageref21_Range.j0 k ji3 t278 t279 t281 t283 true 0 ji3 false 0))) else (if t282 = true then (if t279.toList = ([] : List UInt8) then (stowageref21_Range.j0 k ji3 t278 t279 t281 t283 false 0 ji3 false 0) else (if t284 = true then (stowageref21_Range.j0 k ji3 t278 t279 t281 t283 false 0 ji3 false 0) else (stowageref21_Range.j0 k ji3 t278 t279 t281 t283 true 0 ji3 false 0))) else (stowageref21_Range.j0 k ji3 t278 t279 t281 t283 true 0 ji3 false 0))) = some (r1, r2, r3, r4) := by rw [if_pos rfl] at H; exact H
     clear H
     have H := H1
     clear H1
     by_cases c16 : t278.toList = ([] : List UInt8)
     ·rw [if_pos c16] at H
      have c16b0 : (t278.toList == ([] : List UInt8)) = true := beq_iff_eq.mpr c16
      have c16b1 : (t278.toList != ([] : List UInt8)) = false := bne_eq_false_iff_eq.mpr c16
      clear c16
      (first | rw [c16b0] | (simp only [i64_w, i32_w]; rw [c16b0]) | skip)
      by_cases c17 : t279.toList = ([] : List UInt8)
      ·rw [if_pos c17] at H
       have c17b0 : (t279.toList == ([] : List UInt8)) = true := beq_iff_eq.mpr c17
       have c17b1 : (t279.toList != ([] : List UInt8)) = false := bne_eq_false_iff_eq.mpr c17
       clear c17
       have H' := Aside0.mk H
       clear H
       go_wp2
       go_meet
       case rel => exact ⟨_, ((t279.toList == ([] : List UInt8))), (by first | rfl | (simp; done) | (simp [*]; done)), H', ⟨by first | omega | exact Nat.le_refl _⟩, ⟨by (with_reducible repeat (first | refine blk_drewN ?_ _ | refine blk_drew ?_ | refine blk_alloc ?_ _)); refine blk_far ?_ NB275_276.out _; (with_reducible repeat (first | refine blk_drewN ?_ _ | refine blk_drew ?_ | refine blk_alloc ?_ _)); refine blk_far ?_ NB275_276.out _; (with_reducible repeat (first | refine blk_drewN ?_ _ | refine blk_drew ?_ | refine blk_alloc ?_ _)); refine blk_far ?_ NB275_276.out _; (with_reducible repeat (first | refine blk_drewN ?_ _ | refine blk_drew ?_ | refine blk_alloc ?_ _)); refine blk_far ?_ NB275_276.out _; (with_reducible repeat (first | refine blk_drewN ?_ _ | refine blk_drew ?_ | refine blk_alloc ?_ _)); exact BK275.out⟩, ⟨by (with_reducible repeat (first | refine blk_drewN ?_ _ | refine blk_drew ?_ | refine blk_alloc ?_ _)); refine blk_put (cs := #[.int .i64 0, .int .i64 ji3, .bool false, .int .i64 0]) ?_ 3 _ rfl; (with_reducible repeat (first | refine blk_drewN ?_ _ | refine blk_drew ?_ | refine blk_alloc ?_ _)); refine blk_put (cs := #[.int .i64 0, .int .i64 ji3, .bool false, .int .i64 0]) ?_ 2 _ rfl; (with_reducible repeat (first | refine blk_drewN ?_ _ | refine blk_drew ?_ | refine blk_alloc ?_ _)); refine blk_put (cs := #[.int .i64 0, .int .i64 0, .bool false, .int .i64 0]) ?_ 1 _ rfl; (with_reducible repeat (first | refine blk_drewN ?_ _ | refine blk_drew ?_ | refine blk_alloc ?_ _)); refine blk_put (cs := #[.int .i64 0, .int .i64 0, .bool false, .int .i64 0]) ?_ 0 _ rfl; (with_reducible repeat (first | refine blk_drewN ?_ _ | refine blk_drew ?_ | refine blk_alloc ?_ _)); exact BK276.out⟩, ⟨by repeat (first | (with_reducible first | exact HB.out | apply below_alloc | apply pw_below_drewN | apply below_drew1 | refine below_set ?_ GE275.out | refine below_set ?_ GE276.out) | exact HB.out)⟩⟩
      ·rw [if_neg c17] at H
       have c17b0 : (t279.toList == ([] : List UInt8)) = false := beq_eq_false_iff_ne.mpr c17
       have c17b1 : (t279.toList != ([] : List UInt8)) = true := bne_iff_ne.mpr c17
       by_cases c18 : t284 = true
       ·subst c18
        have H1 : (stowageref21_Range.j0 k ji3 t278 t279 t281 t283 (t279.toList == ([] : List UInt8)) 0 ji3 false 0) = some (r1, r2, r3, r4) := by rw [if_pos rfl] at H; exact H
        clear H
        have H := H1
        clear H1
        have H' := Aside0.mk H
        clear H
        go_wp2
        go_meet
        case rel => exact ⟨_, ((t279.toList == ([] : List UInt8))), (by first | rfl | (simp; done) | (simp [*]; done)), H', ⟨by first | omega | exact Nat.le_refl _⟩, ⟨by (with_reducible repeat (first | refine blk_drewN ?_ _ | refine blk_drew ?_ | refine blk_alloc ?_ _)); refine blk_far ?_ NB275_276.out _; (with_reducible repeat (first | refine blk_drewN ?_ _ | refine blk_drew ?_ | refine blk_alloc ?_ _)); refine blk_far ?_ NB275_276.out _; (with_reducible repeat (first | refine blk_drewN ?_ _ | refine blk_drew ?_ | refine blk_alloc ?_ _)); refine blk_far ?_ NB275_276.out _; (with_reducible repeat (first | refine blk_drewN ?_ _ | refine blk_drew ?_ | refine blk_alloc ?_ _)); refine blk_far ?_ NB275_276.out _; (with_reducible repeat (first | refine blk_drewN ?_ _ | refine blk_drew ?_ | refine blk_alloc ?_ _)); exact BK275.out⟩, ⟨by (with_reducible repeat (first | refine blk_drewN ?_ _ | refine blk_drew ?_ | refine blk_alloc ?_ _)); refine blk_put (cs := #[.int .i64 0, .int .i64 ji3, .bool false, .int .i64 0]) ?_ 3 _ rfl; (with_reducible repeat (first | refine blk_drewN ?_ _ | refine blk_drew ?_ | refine blk_alloc ?_ _)); refine blk_put (cs := #[.int .i64 0, .int .i64 ji3, .bool false, .int .i64 0]) ?_ 2 _ rfl; (with_reducible repeat (first | refine blk_drewN ?_ _ | refine blk_drew ?_ | refine blk_alloc ?_ _)); refine blk_put (cs := #[.int .i64 0, .int .i64 0, .bool false, .int .i64 0]) ?_ 1 _ rfl; (with_reducible repeat (first | refine blk_drewN ?_ _ | refine blk_drew ?_ | refine blk_alloc ?_ _)); refine blk_put (cs := #[.int .i64 0, .int .i64 0, .bool false, .int .i64 0]) ?_ 0 _ rfl; (with_reducible repeat (first | refine blk_drewN ?_ _ | refine blk_drew ?_ | refine blk_alloc ?_ _)); exact BK276.out⟩, ⟨by repeat (first | (with_reducible first | exact HB.out | apply below_alloc | apply pw_below_drewN | apply below_drew1 | refine below_set ?_ GE275.out | refine below_set ?_ GE276.out) | exact HB.out)⟩⟩
       ·replace c18 := Bool.eq_false_iff.mpr c18
        subst c18
        have H1 : (stowageref21_Range.j0 k ji3 t278 t279 t281 t283 true 0 ji3 false 0) = some (r1, r2, r3, r4) := by rw [if_neg (show ¬ (false = true) by decide)] at H; exact H
        clear H
        have H := H1
        clear H1
        have H' := Aside0.mk H
        clear H
        go_wp2
        go_meet
        case rel => exact ⟨_, (true), (by first | rfl | (simp; done) | (simp [*]; done)), H', ⟨by first | omega | exact Nat.le_refl _⟩, ⟨by (with_reducible repeat (first | refine blk_drewN ?_ _ | refine blk_drew ?_ | refine blk_alloc ?_ _)); refine blk_far ?_ NB275_276.out _; (with_reducible repeat (first | refine blk_drewN ?_ _ | refine blk_drew ?_ | refine blk_alloc ?_ _)); refine blk_far ?_ NB275_276.out _; (with_reducible repeat (first | refine blk_drewN ?_ _ | refine blk_drew ?_ | refine blk_alloc ?_ _)); refine blk_far ?_ NB275_276.out _; (with_reducible repeat (first | refine blk_drewN ?_ _ | refine blk_drew ?_ | refine blk_alloc ?_ _)); refine blk_far ?_ NB275_276.out _; (with_reducible repeat (first | refine blk_drewN ?_ _ | refine blk_drew ?_ | refine blk_alloc ?_ _)); exact BK275.out⟩, ⟨by (with_reducible repeat (first | refine blk_drewN ?_ _ | refine blk_drew ?_ | refine blk_alloc ?_ _)); refine blk_put (cs := #[.int .i64 0, .int .i64 ji3, .bool false, .int .i64 0]) ?_ 3 _ rfl; (with_reducible repeat (first | refine blk_drewN ?_ _ | refine blk_drew ?_ | refine blk_alloc ?_ _)); refine blk_put (cs := #[.int .i64 0, .int .i64 ji3, .bool false, .int .i64 0]) ?_ 2 _ rfl; (with_reducible repeat (first | refine blk_drewN ?_ _ | refine blk_drew ?_ | refine blk_alloc ?_ _)); refine blk_put (cs := #[.int .i64 0, .int .i64 0, .bool false, .int .i64 0]) ?_ 1 _ rfl; (with_reducible repeat (first | refine blk_drewN ?_ _ | refine blk_drew ?_ | refine blk_alloc ?_ _)); refine blk_put (cs := #[.int .i64 0, .int .i64 0, .bool false, .int .i64 0]) ?_ 0 _ rfl; (with_reducible repeat (first | refine blk_drewN ?_ _ | refine blk_drew ?_ | refine blk_alloc ?_ _)); exact BK276.out⟩, ⟨by repeat (first | (with_reducible first | exact HB.out | apply below_alloc | apply pw_below_drewN | apply below_drew1 | refine below_set ?_ GE275.out | refine below_set ?_ GE276.out) | exact HB.out)⟩⟩
     ·rw [if_neg c16] at H
      have c16b0 : (t278.toList == ([] : List UInt8)) = false := beq_eq_false_iff_ne.mpr c16
      have c16b1 : (t278.toList != ([] : List UInt8)) = true := bne_iff_ne.mpr c16
      (first | rw [c16b0] | (simp only [i64_w, i32_w]; rw [c16b0]) | skip)
      by_cases c19 : t282 = true
      ·subst c19
       have H1 : (if t279.toList = ([] : List UInt8) then (stowageref21_Range.j0 k ji3 t278 t279 t281 t283 false 0 ji3 false 0) else (if t284 = true then (stowageref21_Range.j0 k ji3 t278 t279 t281 t283 false 0 ji3 false 0) else (stowageref21_Range.j0 k ji3 t278 t279 t281 t283 true 0 ji3 false 0))) = some (r1, r2, r3, r4) := by rw [if_pos rfl] at H; exact H
       clear H
       have H := H1
       clear H1
       by_cases c20 : t279.toList = ([] : List UInt8)
       ·rw [if_pos c20] at H
        have c20b0 : (t279.toList == ([] : List UInt8)) = true := beq_iff_eq.mpr c20
        have c20b1 : (t279.toList != ([] : List UInt8)) = false := bne_eq_false_iff_eq.mpr c20
        clear c20
        have H' := Aside0.mk H
        clear H
        go_wp2
        go_meet
        case rel => exact ⟨_, (false), (by first | rfl | (simp; done) | (simp [*]; done)), H', ⟨by first | omega | exact Nat.le_refl _⟩, ⟨by (with_reducible repeat (first | refine blk_drewN ?_ _ | refine blk_drew ?_ | refine blk_alloc ?_ _)); refine blk_far ?_ NB275_276.out _; (with_reducible repeat (first | refine blk_drewN ?_ _ | refine blk_drew ?_ | refine blk_alloc ?_ _)); refine blk_far ?_ NB275_276.out _; (with_reducible repeat (first | refine blk_drewN ?_ _ | refine blk_drew ?_ | refine blk_alloc ?_ _)); refine blk_far ?_ NB275_276.out _; (with_reducible repeat (first | refine blk_drewN ?_ _ | refine blk_drew ?_ | refine blk_alloc ?_ _)); refine blk_far ?_ NB275_276.out _; (with_reducible repeat (first | refine blk_drewN ?_ _ | refine blk_drew ?_ | refine blk_alloc ?_ _)); exact BK275.out⟩, ⟨by (with_reducible repeat (first | refine blk_drewN ?_ _ | refine blk_drew ?_ | refine blk_alloc ?_ _)); refine blk_put (cs := #[.int .i64 0, .int .i64 ji3, .bool false, .int .i64 0]) ?_ 3 _ rfl; (with_reducible repeat (first | refine blk_drewN ?_ _ | refine blk_drew ?_ | refine blk_alloc ?_ _)); refine blk_put (cs := #[.int .i64 0, .int .i64 ji3, .bool false, .int .i64 0]) ?_ 2 _ rfl; (with_reducible repeat (first | refine blk_drewN ?_ _ | refine blk_drew ?_ | refine blk_alloc ?_ _)); refine blk_put (cs := #[.int .i64 0, .int .i64 0, .bool false, .int .i64 0]) ?_ 1 _ rfl; (with_reducible repeat (first | refine blk_drewN ?_ _ | refine blk_drew ?_ | refine blk_alloc ?_ _)); refine blk_put (cs := #[.int .i64 0, .int .i64 0, .bool false, .int .i64 0]) ?_ 0 _ rfl; (with_reducible repeat (first | refine blk_drewN ?_ _ | refine blk_drew ?_ | refine blk_alloc ?_ _)); exact BK276.out⟩, ⟨by repeat (first | (with_reducible first | exact HB.out | apply below_alloc | apply pw_below_drewN | apply below_drew1 | refine below_set ?_ GE275.out | refine below_set ?_ GE276.out) | exact HB.out)⟩⟩
       ·rw [if_neg c20] at H
        have c20b0 : (t279.toList == ([] : List UInt8)) = false := beq_eq_false_iff_ne.mpr c20
        have c20b1 : (t279.toList != ([] : List UInt8)) = true := bne_iff_ne.mpr c20
        by_cases c21 : t284 = true
        ·subst c21
         have H1 : (stowageref21_Range.j0 k ji3 t278 t279 t281 t283 false 0 ji3 false 0) = some (r1, r2, r3, r4) := by rw [if_pos rfl] at H; exact H
         clear H
         have H := H1
         clear H1
         have H' := Aside0.mk H
         clear H
         go_wp2
         go_meet
         case rel => exact ⟨_, (false), (by first | rfl | (simp; done) | (simp [*]; done)), H', ⟨by first | omega | exact Nat.le_refl _⟩, ⟨by (with_reducible repeat (first | refine blk_drewN ?_ _ | refine blk_drew ?_ | refine blk_alloc ?_ _)); refine blk_far ?_ NB275_276.out _; (with_reducible repeat (first | refine blk_drewN ?_ _ | refine blk_drew ?_ | refine blk_alloc ?_ _)); refine blk_far ?_ NB275_276.out _; (with_reducible repeat (first | refine blk_drewN ?_ _ | refine blk_drew ?_ | refine blk_alloc ?_ _)); refine blk_far ?_ NB275_276.out _; (with_reducible repeat (first | refine blk_drewN ?_ _ | refine blk_drew ?_ | refine blk_alloc ?_ _)); refine blk_far ?_ NB275_276.out _; (with_reducible repeat (first | refine blk_drewN ?_ _ | refine blk_drew ?_ | refine blk_alloc ?_ _)); exact BK275.out⟩, ⟨by (with_reducible repeat (first | refine blk_drewN ?_ _ | refine blk_drew ?_ | refine blk_alloc ?_ _)); refine blk_put (cs := #[.int .i64 0, .int .i64 ji3, .bool false, .int .i64 0]) ?_ 3 _ rfl; (with_reducible repeat (first | refine blk_drewN ?_ _ | refine blk_drew ?_ | refine blk_alloc ?_ _)); refine blk_put (cs := #[.int .i64 0, .int .i64 ji3, .bool false, .int .i64 0]) ?_ 2 _ rfl; (with_reducible repeat (first | refine blk_drewN ?_ _ | refine blk_drew ?_ | refine blk_alloc ?_ _)); refine blk_put (cs := #[.int .i64 0, .int .i64 0, .bool false, .int .i64 0]) ?_ 1 _ rfl; (with_reducible repeat (first | refine blk_drewN ?_ _ | refine blk_drew ?_ | refine blk_alloc ?_ _)); refine blk_put (cs := #[.int .i64 0, .int .i64 0, .bool false, .int .i64 0]) ?_ 0 _ rfl; (with_reducible repeat (first | refine blk_drewN ?_ _ | refine blk_drew ?_ | refine blk_alloc ?_ _)); exact BK276.out⟩, ⟨by repeat (first | (with_reducible first | exact HB.out | apply below_alloc | apply pw_below_drewN | apply below_drew1 | refine below_set ?_ GE275.out | refine below_set ?_ GE276.out) | exact HB.out)⟩⟩
        ·replace c21 := Bool.eq_false_iff.mpr c21
         subst c21
         have H1 : (stowageref21_Range.j0 k ji3 t278 t279 t281 t283 true 0 ji3 false 0) = some (r1, r2, r3, r4) := by rw [if_neg (show ¬ (false = true) by decide)] at H; exact H
         clear H
         have H := H1
         clear H1
         have H' := Aside0.mk H
         clear H
         go_wp2
         go_meet
         case rel => exact ⟨_, (true), (by first | rfl | (simp; done) | (simp [*]; done)), H', ⟨by first | omega | exact Nat.le_refl _⟩, ⟨by (with_reducible repeat (first | refine blk_drewN ?_ _ | refine blk_drew ?_ | refine blk_alloc ?_ _)); refine blk_far ?_ NB275_276.out _; (with_reducible repeat (first | refine blk_drewN ?_ _ | refine blk_drew ?_ | refine blk_alloc ?_ _)); refine blk_far ?_ NB275_276.out _; (with_reducible repeat (first | refine blk_drewN ?_ _ | refine blk_drew ?_ | refine blk_alloc ?_ _)); refine blk_far ?_ NB275_276.out _; (with_reducible repeat (first | refine blk_drewN ?_ _ | refine blk_drew ?_ | refine blk_alloc ?_ _)); refine blk_far ?_ NB275_276.out _; (with_reducible repeat (first | refine blk_drewN ?_ _ | refine blk_drew ?_ | refine blk_alloc ?_ _)); exact BK275.out⟩, ⟨by (with_reducible repeat (first | refine blk_drewN ?_ _ | refine blk_drew ?_ | refine blk_alloc ?_ _)); refine blk_put (cs := #[.int .i64 0, .int .i64 ji3, .bool false, .int .i64 0]) ?_ 3 _ rfl; (with_reducible repeat (first | refine blk_drewN ?_ _ | refine blk_drew ?_ | refine blk_alloc ?_ _)); refine blk_put (cs := #[.int .i64 0, .int .i64 ji3, .bool false, .int .i64 0]) ?_ 2 _ rfl; (with_reducible repeat (first | refine blk_drewN ?_ _ | refine blk_drew ?_ | refine blk_alloc ?_ _)); refine blk_put (cs := #[.int .i64 0, .int .i64 0, .bool false, .int .i64 0]) ?_ 1 _ rfl; (with_reducible repeat (first | refine blk_drewN ?_ _ | refine blk_drew ?_ | refine blk_alloc ?_ _)); refine blk_put (cs := #[.int .i64 0, .int .i64 0, .bool false, .int .i64 0]) ?_ 0 _ rfl; (with_reducible repeat (first | refine blk_drewN ?_ _ | refine blk_drew ?_ | refine blk_alloc ?_ _)); exact BK276.out⟩, ⟨by repeat (first | (with_reducible first | exact HB.out | apply below_alloc | apply pw_below_drewN | apply below_drew1 | refine below_set ?_ GE275.out | refine below_set ?_ GE276.out) | exact HB.out)⟩⟩
      ·replace c19 := Bool.eq_false_iff.mpr c19
       subst c19
       have H1 : (stowageref21_Range.j0 k ji3 t278 t279 t281 t283 true 0 ji3 false 0) = some (r1, r2, r3, r4) := by rw [if_neg (show ¬ (false = true) by decide)] at H; exact H
       clear H
       have H := H1
       clear H1
       have H' := Aside0.mk H
       clear H
       go_wp2
       go_meet
       case rel => exact ⟨_, (true), (by first | rfl | (simp; done) | (simp [*]; done)), H', ⟨by first | omega | exact Nat.le_refl _⟩, ⟨by (with_reducible repeat (first | refine blk_drewN ?_ _ | refine blk_drew ?_ | refine blk_alloc ?_ _)); refine blk_far ?_ NB275_276.out _; (with_reducible repeat (first | refine blk_drewN ?_ _ | refine blk_drew ?_ | refine blk_alloc ?_ _)); refine blk_far ?_ NB275_276.out _; (with_reducible repeat (first | refine blk_drewN ?_ _ | refine blk_drew ?_ | refine blk_alloc ?_ _)); refine blk_far ?_ NB275_276.out _; (with_reducible repeat (first | refine blk_drewN ?_ _ | refine blk_drew ?_ | refine blk_alloc ?_ _)); refine blk_far ?_ NB275_276.out _; (with_reducible repeat (first | refine blk_drewN ?_ _ | refine blk_drew ?_ | refine blk_alloc ?_ _)); exact BK275.out⟩, ⟨by (with_reducible repeat (first | refine blk_drewN ?_ _ | refine blk_drew ?_ | refine blk_alloc ?_ _)); refine blk_put (cs := #[.int .i64 0, .int .i64 ji3, .bool false, .int .i64 0]) ?_ 3 _ rfl; (with_reducible repeat (first | refine blk_drewN ?_ _ | refine blk_drew ?_ | refine blk_alloc ?_ _)); refine blk_put (cs := #[.int .i64 0, .int .i64 ji3, .bool false, .int .i64 0]) ?_ 2 _ rfl; (with_reducible repeat (first | refine blk_drewN ?_ _ | refine blk_drew ?_ | refine blk_alloc ?_ _)); refine blk_put (cs := #[.int .i64 0, .int .i64 0, .bool false, .int .i64 0]) ?_ 1 _ rfl; (with_reducible repeat (first | refine blk_drewN ?_ _ | refine blk_drew ?_ | refine blk_alloc ?_ _)); refine blk_put (cs := #[.int .i64 0, .int .i64 0, .bool false, .int .i64 0]) ?_ 0 _ rfl; (with_reducible repeat (first | refine blk_drewN ?_ _ | refine blk_drew ?_ | refine blk_alloc ?_ _)); exact BK276.out⟩, ⟨by repeat (first | (with_reducible first | exact HB.out | apply below_alloc | apply pw_below_drewN | apply below_drew1 | refine below_set ?_ GE275.out | refine below_set ?_ GE276.out) | exact HB.out)⟩⟩
    ·replace c15 := Bool.eq_false_iff.mpr c15
     subst c15
     have H1 : (stowageref21_Range.j0 k ji3 t278 t279 t281 t283 true 0 ji3 false 0) = some (r1, r2, r3, r4) := by rw [if_neg (show ¬ (false = true) by decide)] at H; exact H
     clear H
     have H := H1
     clear H1
     have H' := Aside0.mk H
     clear H
     go_wp2
     go_meet
     case rel => exact ⟨_, (true), (by first | rfl | (simp; done) | (simp [*]; done)), H', ⟨by first | omega | exact Nat.le_refl _⟩, ⟨by (with_reducible repeat (first | refine blk_drewN ?_ _ | refine blk_drew ?_ | refine blk_alloc ?_ _)); refine blk_far ?_ NB275_276.out _; (with_reducible repeat (first | refine blk_drewN ?_ _ | refine blk_drew ?_ | refine blk_alloc ?_ _)); refine blk_far ?_ NB275_276.out _; (with_reducible repeat (first | refine blk_drewN ?_ _ | refine blk_drew ?_ | refine blk_alloc ?_ _)); refine blk_far ?_ NB275_276.out _; (with_reducible repeat (first | refine blk_drewN ?_ _ | refine blk_drew ?_ | refine blk_alloc ?_ _)); refine blk_far ?_ NB275_276.out _; (with_reducible repeat (first | refine blk_drewN ?_ _ | refine blk_drew ?_ | refine blk_alloc ?_ _)); exact BK275.out⟩, ⟨by (with_reducible repeat (first | refine blk_drewN ?_ _ | refine blk_drew ?_ | refine blk_alloc ?_ _)); refine blk_put (cs := #[.int .i64 0, .int .i64 ji3, .bool false, .int .i64 0]) ?_ 3 _ rfl; (with_reducible repeat (first | refine blk_drewN ?_ _ | refine blk_drew ?_ | refine blk_alloc ?_ _)); refine blk_put (cs := #[.int .i64 0, .int .i64 ji3, .bool false, .int .i64 0]) ?_ 2 _ rfl; (with_reducible repeat (first | refine blk_drewN ?_ _ | refine blk_drew ?_ | refine blk_alloc ?_ _)); refine blk_put (cs := #[.int .i64 0, .int .i64 0, .bool false, .int .i64 0]) ?_ 1 _ rfl; (with_reducible repeat (first | refine blk_drewN ?_ _ | refine blk_drew ?_ | refine blk_alloc ?_ _)); refine blk_put (cs := #[.int .i64 0, .int .i64 0, .bool false, .int .i64 0]) ?_ 0 _ rfl; (with_reducible repeat (first | refine blk_drewN ?_ _ | refine blk_drew ?_ | refine blk_alloc ?_ _)); exact BK276.out⟩, ⟨by repeat (first | (with_reducible first | exact HB.out | apply below_alloc | apply pw_below_drewN | apply below_drew1 | refine below_set ?_ GE275.out | refine below_set ?_ GE276.out) | exact HB.out)⟩⟩
   case rest =>
    clear HC10
    try clear c1
    try clear c2
    try clear p2
    try clear c3
    try clear c5
    try clear c6
    try clear c6b0
    try clear c6b1
    try clear c13
    try clear c15
    try clear c16
    try clear c16b0
    try clear c16b1
    try clear c17
    try clear c17b0
    try clear c17b1
    try clear c18
    try clear c19
    try clear c20
    try clear c20b0
    try clear c20b1
    try clear c21
    try clear hcz14_0
    try clear hcz14_1
    try clear hcz14_2
    try clear hcz14_3
    try clear hfz14_0
    try clear hfz14_1
    try clear hfz14_2
    try clear hfz14_3
    obtain ⟨kq, x39_9, rfl, HA, HJ9, BK275, BK276, HB⟩ := hcut
    cases kq with
    | zero => exact absurd HA.out (by simp [stowageref21_Range.j0])
    | succ kj9 =>
     have H := HA.out
     clear HA
     simp only [stowageref21_Range.j0] at H
     by_cases c22 : x39_9 = true
     ·subst c22
      have H1 : (some (0, ji3, false, 0)) = some (r1, r2, r3, r4) := by rw [if_pos rfl] at H; exact H
      clear H
      have H := H1
      clear H1
      simp only [Option.some.injEq, Prod.mk.injEq] at H
      obtain ⟨rfl, rfl, rfl, rfl⟩ := H
      have hnb23 := NB276_275.out
      have hnc23 := NB275_276.out
      have hcz24_0 : wc.cell? ⟨gb276, 0, none⟩ = some (.int .i64 0) := (blk_cell BK276.out 0).trans rfl
      have hcz24_1 : wc.cell? ⟨gb276, 1, none⟩ = some (.int .i64 ji3) := (blk_cell BK276.out 1).trans rfl
      have hcz24_2 : wc.cell? ⟨gb276, 2, none⟩ = some (.bool false) := (blk_cell BK276.out 2).trans rfl
      have hcz24_3 : wc.cell? ⟨gb276, 3, none⟩ = some (.int .i64 0) := (blk_cell BK276.out 3).trans rfl
      have hfz24_0 := blk_frozen BK276.out 0
      have hfz24_1 := blk_frozen BK276.out 1
      have hfz24_2 := blk_frozen BK276.out 2
      have hfz24_3 := blk_frozen BK276.out 3
      have hcz25_0 : wc.cell? ⟨gb275, 0, none⟩ = some (.int .i64 0) := (blk_cell BK275.out 0).trans rfl
      have hcz25_1 : wc.cell? ⟨gb275, 1, none⟩ = some (.int .i64 0) := (blk_cell BK275.out 1).trans rfl
      have hcz25_2 : wc.cell? ⟨gb275, 2, none⟩ = some (.bool false) := (blk_cell BK275.out 2).trans rfl
      have hcz25_3 : wc.cell? ⟨gb275, 3, none⟩ = some (.int .i64 0) := (blk_cell BK275.out 3).trans rfl
      have hfz25_0 := blk_frozen BK275.out 0
      have hfz25_1 := blk_frozen BK275.out 1
      have hfz25_2 := blk_frozen BK275.out 2
      have hfz25_3 := blk_frozen BK275.out 3
      go_wp2
      refine bodyPost_ret (results_cell_row rfl _ _ gb275 35 #[.int .i64 0, .int .i64 ji3, .bool false, .int .i64 0] (0, 0) _ rfl (by (with_reducible repeat (first | refine blk_drewN ?_ _ | refine blk_drew ?_ | refine blk_alloc ?_ _)); refine blk_put (cs := #[.int .i64 0, .int .i64 ji3, .bool false, .int .i64 0]) ?_ 3 _ rfl; (with_reducible repeat (first | refine blk_drewN ?_ _ | refine blk_drew ?_ | refine blk_alloc ?_ _)); refine blk_put (cs := #[.int .i64 0, .int .i64 ji3, .bool false, .int .i64 0]) ?_ 2 _ rfl; (with_reducible repeat (first | refine blk_drewN ?_ _ | refine blk_drew ?_ | refine blk_alloc ?_ _)); refine blk_put (cs := #[.int .i64 0, .int .i64 0, .bool false, .int .i64 0]) ?_ 1 _ rfl; (with_reducible repeat (first | refine blk_drewN ?_ _ | refine blk_drew ?_ | refine blk_alloc ?_ _)); refine blk_put (cs := #[.int .i64 0, .int .i64 0, .bool false, .int .i64 0]) ?_ 0 _ rfl; (with_reducible repeat (first | refine blk_drewN ?_ _ | refine blk_drew ?_ | refine blk_alloc ?_ _)); exact BK275.out) Try.underlying35 rfl (by kernel_rfl)) rfl ?_
      exact ⟨by first | rfl | (simp [errW_none, errW_some] <;> rfl) | (simp only [← hji3]; first | rfl | (simp [errW_none, errW_some] <;> rfl)) | (simp [*, errW_none, errW_some] <;> rfl), by repeat (first | (with_reducible first | exact HB.out | apply below_alloc | apply pw_below_drewN | apply below_drew1 | refine below_set ?_ GE275.out | refine below_set ?_ GE276.out) | exact HB.out)⟩
     ·replace c22 := Bool.eq_false_iff.mpr c22
      subst c22
      have H1 : (if t278.toList = ([] : List UInt8) then (if t283 = 0 then (some (0, 0, false, 320)) else (if ji3 = 0 then (some (0, 0, false, 320)) else (some (wrap64 (ji3 - (mn t283 ji3)), mn t283 ji3, true, 0)))) else (if t279.toList = ([] : List UInt8) then (stowageref21_Range.j1 kj9 ji3 t279 t281 t283 false 0 ji3 false 0) else (stowageref21_Range.j1 kj9 ji3 t279 t281 t283 (decide (t283 < t281)) 0 ji3 false 0))) = some (r1, r2, r3, r4) := by rw [if_neg (show ¬ (false = true) by decide)] at H; exact H
      clear H
      have H := H1
      clear H1
      by_cases c26 : t278.toList = ([] : List UInt8)
      ·rw [if_pos c26] at H
       have c26b0 : (t278.toList == ([] : List UInt8)) = true := beq_iff_eq.mpr c26
       have c26b1 : (t278.toList != ([] : List UInt8)) = false := bne_eq_false_iff_eq.mpr c26
       clear c26
       by_cases c27 : t283 = 0
       ·rw [if_pos c27] at H
        have c27b0 : (t283 == 0) = true := beq_iff_eq.mpr c27
        have c27b1 : (t283 != 0) = false := bne_eq_false_iff_eq.mpr c27
        clear c27
        simp only [Option.some.injEq, Prod.mk.injEq] at H
        obtain ⟨rfl, rfl, rfl, rfl⟩ := H
        have hnb28 := NB275_276.out
        have hnc28 := NB276_275.out
        have hcz29_0 : wc.cell? ⟨gb275, 0, none⟩ = some (.int .i64 0) := (blk_cell BK275.out 0).trans rfl
        have hcz29_1 : wc.cell? ⟨gb275, 1, none⟩ = some (.int .i64 0) := (blk_cell BK275.out 1).trans rfl
        have hcz29_2 : wc.cell? ⟨gb275, 2, none⟩ = some (.bool false) := (blk_cell BK275.out 2).trans rfl
        have hcz29_3 : wc.cell? ⟨gb275, 3, none⟩ = some (.int .i64 0) := (blk_cell BK275.out 3).trans rfl
        have hfz29_0 := blk_frozen BK275.out 0
        have hfz29_1 := blk_frozen BK275.out 1
        have hfz29_2 := blk_frozen BK275.out 2
        have hfz29_3 := blk_frozen BK275.out 3
        go_wp2
        refine bodyPost_ret (results_cell_row rfl _ _ gb275 35 #[.int .i64 0, .int .i64 0, .bool false, .int .i64 320] (0, 0) _ rfl (by (with_reducible repeat (first | refine blk_drewN ?_ _ | refine blk_drew ?_ | refine blk_alloc ?_ _)); refine blk_put (cs := #[.int .i64 0, .int .i64 0, .bool false, .int .i64 0]) ?_ 3 _ rfl; (with_reducible repeat (first | refine blk_drewN ?_ _ | refine blk_drew ?_ | refine blk_alloc ?_ _)); refine blk_put (cs := #[.int .i64 0, .int .i64 0, .bool false, .int .i64 0]) ?_ 2 _ rfl; (with_reducible repeat (first | refine blk_drewN ?_ _ | refine blk_drew ?_ | refine blk_alloc ?_ _)); refine blk_put (cs := #[.int .i64 0, .int .i64 0, .bool false, .int .i64 0]) ?_ 1 _ rfl; (with_reducible repeat (first | refine blk_drewN ?_ _ | refine blk_drew ?_ | refine blk_alloc ?_ _)); refine blk_put (cs := #[.int .i64 0, .int .i64 0, .bool false, .int .i64 0]) ?_ 0 _ rfl; (with_reducible repeat (first | refine blk_drewN ?_ _ | refine blk_drew ?_ | refine blk_alloc ?_ _)); exact BK275.out) Try.underlying35 rfl (by kernel_rfl)) rfl ?_
        exact ⟨by first | rfl | (simp [errW_none, errW_some] <;> rfl) | (simp only [← hji3]; first | rfl | (simp [errW_none, errW_some] <;> rfl)) | (simp [*, errW_none, errW_some] <;> rfl), by repeat (first | (with_reducible first | exact HB.out | apply below_alloc | apply pw_below_drewN | apply below_drew1 | refine below_set ?_ GE275.out | refine below_set ?_ GE276.out) | exact HB.out)⟩
       ·rw [if_neg c27] at H
        have c27b0 : (t283 == 0) = false := beq_eq_false_iff_ne.mpr c27
        have c27b1 : (t283 != 0) = true := bne_iff_ne.mpr c27
        by_cases c30 : ji3 = 0
        ·rw [if_pos c30] at H
         have c30b0 : (ji3 == 0) = true := beq_iff_eq.mpr c30
         have c30b1 : (ji3 != 0) = false := bne_eq_false_iff_eq.mpr c30
         clear c30
         simp only [Option.some.injEq, Prod.mk.injEq] at H
         obtain ⟨rfl, rfl, rfl, rfl⟩ := H
         have hnb31 := NB275_276.out
         have hnc31 := NB276_275.out
         have hcz32_0 : wc.cell? ⟨gb275, 0, none⟩ = some (.int .i64 0) := (blk_cell BK275.out 0).trans rfl
         have hcz32_1 : wc.cell? ⟨gb275, 1, none⟩ = some (.int .i64 0) := (blk_cell BK275.out 1).trans rfl
         have hcz32_2 : wc.cell? ⟨gb275, 2, none⟩ = some (.bool false) := (blk_cell BK275.out 2).trans rfl
         have hcz32_3 : wc.cell? ⟨gb275, 3, none⟩ = some (.int .i64 0) := (blk_cell BK275.out 3).trans rfl
         have hfz32_0 := blk_frozen BK275.out 0
         have hfz32_1 := blk_frozen BK275.out 1
         have hfz32_2 := blk_frozen BK275.out 2
         have hfz32_3 := blk_frozen BK275.out 3
         go_wp2
         refine bodyPost_ret (results_cell_row rfl _ _ gb275 35 #[.int .i64 0, .int .i64 0, .bool false, .int .i64 320] (0, 0) _ rfl (by (with_reducible repeat (first | refine blk_drewN ?_ _ | refine blk_drew ?_ | refine blk_alloc ?_ _)); refine blk_put (cs := #[.int .i64 0, .int .i64 0, .bool false, .int .i64 0]) ?_ 3 _ rfl; (with_reducible repeat (first | refine blk_drewN ?_ _ | refine blk_drew ?_ | refine blk_alloc ?_ _)); refine blk_put (cs := #[.int .i64 0, .int .i64 0, .bool false, .int .i64 0]) ?_ 2 _ rfl; (with_reducible repeat (first | refine blk_drewN ?_ _ | refine blk_drew ?_ | refine blk_alloc ?_ _)); refine blk_put (cs := #[.int .i64 0, .int .i64 0, .bool false, .int .i64 0]) ?_ 1 _ rfl; (with_reducible repeat (first | refine blk_drewN ?_ _ | refine blk_drew ?_ | refine blk_alloc ?_ _)); refine blk_put (cs := #[.int .i64 0, .int .i64 0, .bool false, .int .i64 0]) ?_ 0 _ rfl; (with_reducible repeat (first | refine blk_drewN ?_ _ | refine blk_drew ?_ | refine blk_alloc ?_ _)); exact BK275.out) Try.underlying35 rfl (by kernel_rfl)) rfl ?_
         exact ⟨by first | rfl | (simp [errW_none, errW_some] <;> rfl) | (simp only [← hji3]; first | rfl | (simp [errW_none, errW_some] <;> rfl)) | (simp [*, errW_none, errW_some] <;> rfl), by repeat (first | (with_reducible first | exact HB.out | apply below_alloc | apply pw_below_drewN | apply below_drew1 | refine below_set ?_ GE275.out | refine below_set ?_ GE276.out) | exact HB.out)⟩
        ·rw [if_neg c30] at H
         have c30b0 : (ji3 == 0) = false := beq_eq_false_iff_ne.mpr c30
         have c30b1 : (ji3 != 0) = true := bne_iff_ne.mpr c30
         obtain ⟨ji33, hji33⟩ : ∃ j_ : Int, (mn t283 ji3) = j_ := ⟨_, rfl⟩
         replace H : (some (wrap64 (ji3 - (ji33)), ji33, true, 0)) = some (r1, r2, r3, r4) := by first | (rw [hji33] at H; exact H) | (simp only [hji33] at H ⊢; exact H)
         have hji33_ : (if ji3 < t283 then ji3 else t283) = ji33 := hji33
         simp only [Option.some.injEq, Prod.mk.injEq] at H
         obtain ⟨rfl, rfl, rfl, rfl⟩ := H
         have hnb34 := NB275_276.out
         have hnc34 := NB276_275.out
         have hcz35_0 : wc.cell? ⟨gb275, 0, none⟩ = some (.int .i64 0) := (blk_cell BK275.out 0).trans rfl
         have hcz35_1 : wc.cell? ⟨gb275, 1, none⟩ = some (.int .i64 0) := (blk_cell BK275.out 1).trans rfl
         have hcz35_2 : wc.cell? ⟨gb275, 2, none⟩ = some (.bool false) := (blk_cell BK275.out 2).trans rfl
         have hcz35_3 : wc.cell? ⟨gb275, 3, none⟩ = some (.int .i64 0) := (blk_cell BK275.out 3).trans rfl
         have hfz35_0 := blk_frozen BK275.out 0
         have hfz35_1 := blk_frozen BK275.out 1
         have hfz35_2 := blk_frozen BK275.out 2
         have hfz35_3 := blk_frozen BK275.out 3
         go_wp2
         refine bodyPost_ret (results_cell_row rfl _ _ gb275 35 #[.int .i64 (wrap64 (ji3 - (ji33))), .int .i64 ji33, .bool true, .int .i64 0] (0, 0) _ rfl (by (with_reducible repeat (first | refine blk_drewN ?_ _ | refine blk_drew ?_ | refine blk_alloc ?_ _)); refine blk_put (cs := #[.int .i64 (wrap64 (ji3 - (ji33))), .int .i64 ji33, .bool true, .int .i64 0]) ?_ 3 _ rfl; (with_reducible repeat (first | refine blk_drewN ?_ _ | refine blk_drew ?_ | refine blk_alloc ?_ _)); refine blk_put (cs := #[.int .i64 (wrap64 (ji3 - (ji33))), .int .i64 ji33, .bool false, .int .i64 0]) ?_ 2 _ rfl; (with_reducible repeat (first | refine blk_drewN ?_ _ | refine blk_drew ?_ | refine blk_alloc ?_ _)); refine blk_put (cs := #[.int .i64 (wrap64 (ji3 - (ji33))), .int .i64 0, .bool false, .int .i64 0]) ?_ 1 _ rfl; (with_reducible repeat (first | refine blk_drewN ?_ _ | refine blk_drew ?_ | refine blk_alloc ?_ _)); refine blk_put (cs := #[.int .i64 0, .int .i64 0, .bool false, .int .i64 0]) ?_ 0 _ rfl; (with_reducible repeat (first | refine blk_drewN ?_ _ | refine blk_drew ?_ | refine blk_alloc ?_ _)); exact BK275.out) Try.underlying35 rfl (by kernel_rfl)) rfl ?_
         exact ⟨by first | rfl | (simp [errW_none, errW_some] <;> rfl) | (simp only [← hji3, ← hji33]; first | rfl | (simp [errW_none, errW_some] <;> rfl)) | (simp [*, errW_none, errW_some] <;> rfl), by repeat (first | (with_reducible first | exact HB.out | apply below_alloc | apply pw_below_drewN | apply below_drew1 | refine below_set ?_ GE275.out | refine below_set ?_ GE276.out) | exact HB.out)⟩
      ·rw [if_neg c26] at H
       have c26b0 : (t278.toList == ([] : List UInt8)) = false := beq_eq_false_iff_ne.mpr c26
       have c26b1 : (t278.toList != ([] : List UInt8)) = true := bne_iff_ne.mpr c26
       have HC36 := Aside0.mk H
       clear H
       go_upto_region 15 with (fail)
       go_cut [85] (fun v85 wc => ∃ (kq : Nat) (x85_35 : Bool), v85 = .bool x85_35 ∧ Aside0 (stowageref21_Range.j1 kq ji3 t279 t281 t283 x85_35 0 ji3 false 0 = some (r1, r2, r3, r4)) ∧ Aside0 (kq ≤ kj9) ∧ Aside0 (wc.heap[gb275]? = some (.cells #[.int .i64 0, .int .i64 0, .bool false, .int .i64 0] 35 (0, 0))) ∧ Aside0 (wc.heap[gb276]? = some (.cells #[.int .i64 0, .int .i64 ji3, .bool false, .int .i64 0] 35 (0, 0))) ∧ Aside0 (Below w.heap.size w wc))
       case first =>
        have H := HC36.out
        clear HC36
        by_cases c37 : t279.toList = ([] : List UInt8)
        ·rw [if_pos c37] at H
         have c37b0 : (t279.toList == ([] : List UInt8)) = true := beq_iff_eq.mpr c37
         have c37b1 : (t279.toList != ([] : List UInt8)) = false := bne_eq_false_iff_eq.mpr c37
         clear c37
         (first | rw [c37b0] | (simp only [i64_w, i32_w]; rw [c37b0]) | skip)
         have H' := Aside0.mk H
         clear H
         go_wp2
         go_meet
         case rel => exact ⟨_, (false), (by first | rfl | (simp; done) | (simp [*]; done)), H', ⟨by have := HJ9.out; first | omega | exact Nat.le_refl _⟩, ⟨by (with_reducible repeat (first | refine blk_drewN ?_ _ | refine blk_drew ?_ | refine blk_alloc ?_ _)); exact BK275.out⟩, ⟨by (with_reducible repeat (first | refine blk_drewN ?_ _ | refine blk_drew ?_ | refine blk_alloc ?_ _)); exact BK276.out⟩, ⟨by repeat (first | (with_reducible first | exact HB.out | apply below_alloc | apply pw_below_drewN | apply below_drew1 | refine below_set ?_ GE275.out | refine below_set ?_ GE276.out) | exact HB.out)⟩⟩
        ·rw [if_neg c37] at H
         have c37b0 : (t279.toList == ([] : List UInt8)) = false := beq_eq_false_iff_ne.mpr c37
         have c37b1 : (t279.toList != ([] : List UInt8)) = true := bne_iff_ne.mpr c37
         (first | rw [c37b0] | (simp only [i64_w, i32_w]; rw [c37b0]) | skip)
         have H' := Aside0.mk H
         clear H
         go_wp2
         go_meet
         case rel => exact ⟨_, (decide (t283 < t281)), (by first | rfl | (simp; done) | (simp [*]; done)), H', ⟨by have := HJ9.out; first | omega | exact Nat.le_refl _⟩, ⟨by (with_reducible repeat (first | refine blk_drewN ?_ _ | refine blk_drew ?_ | refine blk_alloc ?_ _)); exact BK275.out⟩, ⟨by (with_reducible repeat (first | refine blk_drewN ?_ _ | refine blk_drew ?_ | refine blk_alloc ?_ _)); exact BK276.out⟩, ⟨by repeat (first | (with_reducible first | exact HB.out | apply below_alloc | apply pw_below_drewN | apply below_drew1 | refine below_set ?_ GE275.out | refine below_set ?_ GE276.out) | exact HB.out)⟩⟩
       case rest =>
        clear HC36
        try clear c1
        try clear c2
        try clear p2
        try clear c3
        try clear c5
        try clear c6
        try clear c6b0
        try clear c6b1
        try clear p6
        try clear c13
        try clear c15
        try clear c16
        try clear c16b0
        try clear c16b1
        try clear c17
        try clear c17b0
        try clear c17b1
        try clear c18
        try clear c19
        try clear c20
        try clear c20b0
        try clear c20b1
        try clear c21
        try clear c22
        try clear c23
        try clear c26
        try clear c26b0
        try clear c26b1
        try clear c27
        try clear c27b0
        try clear c27b1
        try clear c28
        try clear c30
        try clear c30b0
        try clear c30b1
        try clear c31
        try clear c33
        try clear c34
        try clear c37
        try clear c37b0
        try clear c37b1
        try clear hcz14_0
        try clear hcz14_1
        try clear hcz14_2
        try clear hcz14_3
        try clear hcz24_0
        try clear hcz24_1
        try clear hcz24_2
        try clear hcz24_3
        try clear hcz25_0
        try clear hcz25_1
        try clear hcz25_2
        try clear hcz25_3
        try clear hcz29_0
        try clear hcz29_1
        try clear hcz29_2
        try clear hcz29_3
        try clear hcz32_0
        try clear hcz32_1
        try clear hcz32_2
        try clear hcz32_3
        try clear hcz35_0
        try clear hcz35_1
        try clear hcz35_2
        try clear hcz35_3
        try clear hfz14_0
        try clear hfz14_1
        try clear hfz14_2
        try clear hfz14_3
        try clear hfz24_0
        try clear hfz24_1
        try clear hfz24_2
        try clear hfz24_3
        try clear hfz25_0
        try clear hfz25_1
        try clear hfz25_2
        try clear hfz25_3
        try clear hfz29_0
        try clear hfz29_1
        try clear hfz29_2
        try clear hfz29_3
        try clear hfz32_0
        try clear hfz32_1
        try clear hfz32_2
        try clear hfz32_3
        try clear hfz35_0
        try clear hfz35_1
        try clear hfz35_2
        try clear hfz35_3
        try clear p2
        obtain ⟨kq, x85_35, rfl, HA, HJ35, BK275, BK276, HB⟩ := hcut
        cases kq with
        | zero => exact absurd HA.out (by simp [stowageref21_Range.j1])
        | succ kj35 =>
         have H := HA.out
         clear HA
         simp only [stowageref21_Range.j1] at H
         by_cases c38 : x85_35 = true
         ·subst c38
          have H1 : (some (0, ji3, false, 0)) = some (r1, r2, r3, r4) := by rw [if_pos rfl] at H; exact H
          clear H
          have H := H1
          clear H1
          simp only [Option.some.injEq, Prod.mk.injEq] at H
          obtain ⟨rfl, rfl, rfl, rfl⟩ := H
          have hnb39 := NB276_275.out
          have hnc39 := NB275_276.out
          have hcz40_0 : wc.cell? ⟨gb276, 0, none⟩ = some (.int .i64 0) := (blk_cell BK276.out 0).trans rfl
          have hcz40_1 : wc.cell? ⟨gb276, 1, none⟩ = some (.int .i64 ji3) := (blk_cell BK276.out 1).trans rfl
          have hcz40_2 : wc.cell? ⟨gb276, 2, none⟩ = some (.bool false) := (blk_cell BK276.out 2).trans rfl
          have hcz40_3 : wc.cell? ⟨gb276, 3, none⟩ = some (.int .i64 0) := (blk_cell BK276.out 3).trans rfl
          have hfz40_0 := blk_frozen BK276.out 0
          have hfz40_1 := blk_frozen BK276.out 1
          have hfz40_2 := blk_frozen BK276.out 2
          have hfz40_3 := blk_frozen BK276.out 3
          have hcz41_0 : wc.cell? ⟨gb275, 0, none⟩ = some (.int .i64 0) := (blk_cell BK275.out 0).trans rfl
          have hcz41_1 : wc.cell? ⟨gb275, 1, none⟩ = some (.int .i64 0) := (blk_cell BK275.out 1).trans rfl
          have hcz41_2 : wc.cell? ⟨gb275, 2, none⟩ = some (.bool false) := (blk_cell BK275.out 2).trans rfl
          have hcz41_3 : wc.cell? ⟨gb275, 3, none⟩ = some (.int .i64 0) := (blk_cell BK275.out 3).trans rfl
          have hfz41_0 := blk_frozen BK275.out 0
          have hfz41_1 := blk_frozen BK275.out 1
          have hfz41_2 := blk_frozen BK275.out 2
          have hfz41_3 := blk_frozen BK275.out 3
          go_wp2
          refine bodyPost_ret (results_cell_row rfl _ _ gb275 35 #[.int .i64 0, .int .i64 ji3, .bool false, .int .i64 0] (0, 0) _ rfl (by (with_reducible repeat (first | refine blk_drewN ?_ _ | refine blk_drew ?_ | refine blk_alloc ?_ _)); refine blk_put (cs := #[.int .i64 0, .int .i64 ji3, .bool false, .int .i64 0]) ?_ 3 _ rfl; (with_reducible repeat (first | refine blk_drewN ?_ _ | refine blk_drew ?_ | refine blk_alloc ?_ _)); refine blk_put (cs := #[.int .i64 0, .int .i64 ji3, .bool false, .int .i64 0]) ?_ 2 _ rfl; (with_reducible repeat (first | refine blk_drewN ?_ _ | refine blk_drew ?_ | refine blk_alloc ?_ _)); refine blk_put (cs := #[.int .i64 0, .int .i64 0, .bool false, .int .i64 0]) ?_ 1 _ rfl; (with_reducible repeat (first | refine blk_drewN ?_ _ | refine blk_drew ?_ | refine blk_alloc ?_ _)); refine blk_put (cs := #[.int .i64 0, .int .i64 0, .bool false, .int .i64 0]) ?_ 0 _ rfl; (with_reducible repeat (first | refine blk_drewN ?_ _ | refine blk_drew ?_ | refine blk_alloc ?_ _)); exact BK275.out) Try.underlying35 rfl (by kernel_rfl)) rfl ?_
          exact ⟨by first | rfl | (simp [errW_none, errW_some] <;> rfl) | (simp only [← hji3]; first | rfl | (simp [errW_none, errW_some] <;> rfl)) | (simp [*, errW_none, errW_some] <;> rfl), by repeat (first | (with_reducible first | exact HB.out | apply below_alloc | apply pw_below_drewN | apply below_drew1 | refine below_set ?_ GE275.out | refine below_set ?_ GE276.out) | exact HB.out)⟩
         ·replace c38 := Bool.eq_false_iff.mpr c38
          subst c38
          have H1 : (if t281 ≥ ji3 then (some (0, 0, false, 320)) else (if t279.toList = ([] : List UInt8) then (some (t281, wrap64 ((wrap64 ((wrap64 (ji3 - 1)) - t281)) + 1), true, 0)) else (if t283 ≥ ji3 then (some (t281, wrap64 ((wrap64 ((wrap64 (ji3 - 1)) - t281)) + 1), true, 0)) else (some (t281, wrap64 ((wrap64 (t283 - t281)) + 1), true, 0))))) = some (r1, r2, r3, r4) := by rw [if_neg (show ¬ (false = true) by decide)] at H; exact H
          clear H
          have H := H1
          clear H1
          by_cases c42 : t281 ≥ ji3
          ·rw [if_pos c42] at H
           have c42b0 : decide (ji3 ≤ t281) = true := decide_eq_true c42
           clear c42
           simp only [Option.some.injEq, Prod.mk.injEq] at H
           obtain ⟨rfl, rfl, rfl, rfl⟩ := H
           have hnb43 := NB275_276.out
           have hnc43 := NB276_275.out
           have hcz44_0 : wc.cell? ⟨gb275, 0, none⟩ = some (.int .i64 0) := (blk_cell BK275.out 0).trans rfl
           have hcz44_1 : wc.cell? ⟨gb275, 1, none⟩ = some (.int .i64 0) := (blk_cell BK275.out 1).trans rfl
           have hcz44_2 : wc.cell? ⟨gb275, 2, none⟩ = some (.bool false) := (blk_cell BK275.out 2).trans rfl
           have hcz44_3 : wc.cell? ⟨gb275, 3, none⟩ = some (.int .i64 0) := (blk_cell BK275.out 3).trans rfl
           have hfz44_0 := blk_frozen BK275.out 0
           have hfz44_1 := blk_frozen BK275.out 1
           have hfz44_2 := blk_frozen BK275.out 2
           have hfz44_3 := blk_frozen BK275.out 3
           go_wp2
           refine bodyPost_ret (results_cell_row rfl _ _ gb275 35 #[.int .i64 0, .int .i64 0, .bool false, .int .i64 320] (0, 0) _ rfl (by (with_reducible repeat (first | refine blk_drewN ?_ _ | refine blk_drew ?_ | refine blk_alloc ?_ _)); refine blk_put (cs := #[.int .i64 0, .int .i64 0, .bool false, .int .i64 0]) ?_ 3 _ rfl; (with_reducible repeat (first | refine blk_drewN ?_ _ | refine blk_drew ?_ | refine blk_alloc ?_ _)); refine blk_put (cs := #[.int .i64 0, .int .i64 0, .bool false, .int .i64 0]) ?_ 2 _ rfl; (with_reducible repeat (first | refine blk_drewN ?_ _ | refine blk_drew ?_ | refine blk_alloc ?_ _)); refine blk_put (cs := #[.int .i64 0, .int .i64 0, .bool false, .int .i64 0]) ?_ 1 _ rfl; (with_reducible repeat (first | refine blk_drewN ?_ _ | refine blk_drew ?_ | refine blk_alloc ?_ _)); refine blk_put (cs := #[.int .i64 0, .int .i64 0, .bool false, .int .i64 0]) ?_ 0 _ rfl; (with_reducible repeat (first | refine blk_drewN ?_ _ | refine blk_drew ?_ | refine blk_alloc ?_ _)); exact BK275.out) Try.underlying35 rfl (by kernel_rfl)) rfl ?_
           exact ⟨by first | rfl | (simp [errW_none, errW_some] <;> rfl) | (simp only [← hji3]; first | rfl | (simp [errW_none, errW_some] <;> rfl)) | (simp [*, errW_none, errW_some] <;> rfl), by repeat (first | (with_reducible first | exact HB.out | apply below_alloc | apply pw_below_drewN | apply below_drew1 | refine below_set ?_ GE275.out | refine below_set ?_ GE276.out) | exact HB.out)⟩
          ·rw [if_neg c42] at H
           have c42b0 : decide (ji3 ≤ t281) = false := decide_eq_false c42
           clear c42
           by_cases c45 : t279.toList = ([] : List UInt8)
           ·rw [if_pos c45] at H
            have c45b0 : (t279.toList == ([] : List UInt8)) = true := beq_iff_eq.mpr c45
            have c45b1 : (t279.toList != ([] : List UInt8)) = false := bne_eq_false_iff_eq.mpr c45
            clear c45
            simp only [Option.some.injEq, Prod.mk.injEq] at H
            obtain ⟨rfl, rfl, rfl, rfl⟩ := H
            have hnb46 := NB275_276.out
            have hnc46 := NB276_275.out
            have hcz47_0 : wc.cell? ⟨gb275, 0, none⟩ = some (.int .i64 0) := (blk_cell BK275.out 0).trans rfl
            have hcz47_1 : wc.cell? ⟨gb275, 1, none⟩ = some (.int .i64 0) := (blk_cell BK275.out 1).trans rfl
            have hcz47_2 : wc.cell? ⟨gb275, 2, none⟩ = some (.bool false) := (blk_cell BK275.out 2).trans rfl
            have hcz47_3 : wc.cell? ⟨gb275, 3, none⟩ = some (.int .i64 0) := (blk_cell BK275.out 3).trans rfl
            have hfz47_0 := blk_frozen BK275.out 0
            have hfz47_1 := blk_frozen BK275.out 1
            have hfz47_2 := blk_frozen BK275.out 2
            have hfz47_3 := blk_frozen BK275.out 3
            go_wp2
            refine bodyPost_ret (results_cell_row rfl _ _ gb275 35 #[.int .i64 t281, .int .i64 (wrap64 ((wrap64 ((wrap64 (ji3 - 1)) - t281)) + 1)), .bool true, .int .i64 0] (0, 0) _ rfl (by (with_reducible repeat (first | refine blk_drewN ?_ _ | refine blk_drew ?_ | refine blk_alloc ?_ _)); refine blk_put (cs := #[.int .i64 t281, .int .i64 (wrap64 ((wrap64 ((wrap64 (ji3 - 1)) - t281)) + 1)), .bool true, .int .i64 0]) ?_ 3 _ rfl; (with_reducible repeat (first | refine blk_drewN ?_ _ | refine blk_drew ?_ | refine blk_alloc ?_ _)); refine blk_put (cs := #[.int .i64 t281, .int .i64 (wrap64 ((wrap64 ((wrap64 (ji3 - 1)) - t281)) + 1)), .bool false, .int .i64 0]) ?_ 2 _ rfl; (with_reducible repeat (first | refine blk_drewN ?_ _ | refine blk_drew ?_ | refine blk_alloc ?_ _)); refine blk_put (cs := #[.int .i64 t281, .int .i64 0, .bool false, .int .i64 0]) ?_ 1 _ rfl; (with_reducible repeat (first | refine blk_drewN ?_ _ | refine blk_drew ?_ | refine blk_alloc ?_ _)); refine blk_put (cs := #[.int .i64 0, .int .i64 0, .bool false, .int .i64 0]) ?_ 0 _ rfl; (with_reducible repeat (first | refine blk_drewN ?_ _ | refine blk_drew ?_ | refine blk_alloc ?_ _)); exact BK275.out) Try.underlying35 rfl (by kernel_rfl)) rfl ?_
            exact ⟨by first | rfl | (simp [errW_none, errW_some] <;> rfl) | (simp only [← hji3]; first | rfl | (simp [errW_none, errW_some] <;> rfl)) | (simp [*, errW_none, errW_some] <;> rfl), by repeat (first | (with_reducible first | exact HB.out | apply below_alloc | apply pw_below_drewN | apply below_drew1 | refine below_set ?_ GE275.out | refine below_set ?_ GE276.out) | exact HB.out)⟩
           ·rw [if_neg c45] at H
            have c45b0 : (t279.toList == ([] : List UInt8)) = false := beq_eq_false_iff_ne.mpr c45
            have c45b1 : (t279.toList != ([] : List UInt8)) = true := bne_iff_ne.mpr c45
            by_cases c48 : t283 ≥ ji3
            ·rw [if_pos c48] at H
             have c48b0 : decide (ji3 ≤ t283) = true := decide_eq_true c48
             clear c48
             simp only [Option.some.injEq, Prod.mk.injEq] at H
             obtain ⟨rfl, rfl, rfl, rfl⟩ := H
             have hnb49 := NB275_276.out
             have hnc49 := NB276_275.out
             have hcz50_0 : wc.cell? ⟨gb275, 0, none⟩ = some (.int .i64 0) := (blk_cell BK275.out 0).trans rfl
             have hcz50_1 : wc.cell? ⟨gb275, 1, none⟩ = some (.int .i64 0) := (blk_cell BK275.out 1).trans rfl
             have hcz50_2 : wc.cell? ⟨gb275, 2, none⟩ = some (.bool false) := (blk_cell BK275.out 2).trans rfl
             have hcz50_3 : wc.cell? ⟨gb275, 3, none⟩ = some (.int .i64 0) := (blk_cell BK275.out 3).trans rfl
             have hfz50_0 := blk_frozen BK275.out 0
             have hfz50_1 := blk_frozen BK275.out 1
             have hfz50_2 := blk_frozen BK275.out 2
             have hfz50_3 := blk_frozen BK275.out 3
             go_wp2
             refine bodyPost_ret (results_cell_row rfl _ _ gb275 35 #[.int .i64 t281, .int .i64 (wrap64 ((wrap64 ((wrap64 (ji3 - 1)) - t281)) + 1)), .bool true, .int .i64 0] (0, 0) _ rfl (by (with_reducible repeat (first | refine blk_drewN ?_ _ | refine blk_drew ?_ | refine blk_alloc ?_ _)); refine blk_put (cs := #[.int .i64 t281, .int .i64 (wrap64 ((wrap64 ((wrap64 (ji3 - 1)) - t281)) + 1)), .bool true, .int .i64 0]) ?_ 3 _ rfl; (with_reducible repeat (first | refine blk_drewN ?_ _ | refine blk_drew ?_ | refine blk_alloc ?_ _)); refine blk_put (cs := #[.int .i64 t281, .int .i64 (wrap64 ((wrap64 ((wrap64 (ji3 - 1)) - t281)) + 1)), .bool false, .int .i64 0]) ?_ 2 _ rfl; (with_reducible repeat (first | refine blk_drewN ?_ _ | refine blk_drew ?_ | refine blk_alloc ?_ _)); refine blk_put (cs := #[.int .i64 t281, .int .i64 0, .bool false, .int .i64 0]) ?_ 1 _ rfl; (with_reducible repeat (first | refine blk_drewN ?_ _ | refine blk_drew ?_ | refine blk_alloc ?_ _)); refine blk_put (cs := #[.int .i64 0, .int .i64 0, .bool false, .int .i64 0]) ?_ 0 _ rfl; (with_reducible repeat (first | refine blk_drewN ?_ _ | refine blk_drew ?_ | refine blk_alloc ?_ _)); exact BK275.out) Try.underlying35 rfl (by kernel_rfl)) rfl ?_
             exact ⟨by first | rfl | (simp [errW_none, errW_some] <;> rfl) | (simp only [← hji3]; first | rfl | (simp [errW_none, errW_some] <;> rfl)) | (simp [*, errW_none, errW_some] <;> rfl), by repeat (first | (with_reducible first | exact HB.out | apply below_alloc | apply pw_below_drewN | apply below_drew1 | refine below_set ?_ GE275.out | refine below_set ?_ GE276.out) | exact HB.out)⟩
            ·rw [if_neg c48] at H
             have c48b0 : decide (ji3 ≤ t283) = false := decide_eq_false c48
             clear c48
             simp only [Option.some.injEq, Prod.mk.injEq] at H
             obtain ⟨rfl, rfl, rfl, rfl⟩ := H
             have hnb51 := NB275_276.out
             have hnc51 := NB276_275.out
             have hcz52_0 : wc.cell? ⟨gb275, 0, none⟩ = some (.int .i64 0) := (blk_cell BK275.out 0).trans rfl
             have hcz52_1 : wc.cell? ⟨gb275, 1, none⟩ = some (.int .i64 0) := (blk_cell BK275.out 1).trans rfl
             have hcz52_2 : wc.cell? ⟨gb275, 2, none⟩ = some (.bool false) := (blk_cell BK275.out 2).trans rfl
             have hcz52_3 : wc.cell? ⟨gb275, 3, none⟩ = some (.int .i64 0) := (blk_cell BK275.out 3).trans rfl
             have hfz52_0 := blk_frozen BK275.out 0
             have hfz52_1 := blk_frozen BK275.out 1
             have hfz52_2 := blk_frozen BK275.out 2
             have hfz52_3 := blk_frozen BK275.out 3
             go_wp2
             refine bodyPost_ret (results_cell_row rfl _ _ gb275 35 #[.int .i64 t281, .int .i64 (wrap64 ((wrap64 (t283 - t281)) + 1)), .bool true, .int .i64 0] (0, 0) _ rfl (by (with_reducible repeat (first | refine blk_drewN ?_ _ | refine blk_drew ?_ | refine blk_alloc ?_ _)); refine blk_put (cs := #[.int .i64 t281, .int .i64 (wrap64 ((wrap64 (t283 - t281)) + 1)), .bool true, .int .i64 0]) ?_ 3 _ rfl; (with_reducible repeat (first | refine blk_drewN ?_ _ | refine blk_drew ?_ | refine blk_alloc ?_ _)); refine blk_put (cs := #[.int .i64 t281, .int .i64 (wrap64 ((wrap64 (t283 - t281)) + 1)), .bool false, .int .i64 0]) ?_ 2 _ rfl; (with_reducible repeat (first | refine blk_drewN ?_ _ | refine blk_drew ?_ | refine blk_alloc ?_ _)); refine blk_put (cs := #[.int .i64 t281, .int .i64 0, .bool false, .int .i64 0]) ?_ 1 _ rfl; (with_reducible repeat (first | refine blk_drewN ?_ _ | refine blk_drew ?_ | refine blk_alloc ?_ _)); refine blk_put (cs := #[.int .i64 0, .int .i64 0, .bool false, .int .i64 0]) ?_ 0 _ rfl; (with_reducible repeat (first | refine blk_drewN ?_ _ | refine blk_drew ?_ | refine blk_alloc ?_ _)); exact BK275.out) Try.underlying35 rfl (by kernel_rfl)) rfl ?_
             exact ⟨by first | rfl | (simp [errW_none, errW_some] <;> rfl) | (simp only [← hji3]; first | rfl | (simp [errW_none, errW_some] <;> rfl)) | (simp [*, errW_none, errW_some] <;> rfl), by repeat (first | (with_reducible first | exact HB.out | apply below_alloc | apply pw_below_drewN | apply below_drew1 | refine below_set ?_ GE275.out | refine below_set ?_ GE276.out) | exact HB.out)⟩
  ·rw [if_neg c6] at H
   exact absurd H (by simp)
 ·replace c5 := Bool.eq_false_iff.mpr c5
  subst c5
  have H1 : (some (0, ji3, false, 0)) = some (r1, r2, r3, r4) := by rw [if_neg (show ¬ (false = true) by decide)] at H; exact H
  clear H
  have H := H1
  clear H1
  simp only [Option.some.injEq, Prod.mk.injEq] at H
  obtain ⟨rfl, rfl, rfl, rfl⟩ := H
  go_enter Try.func16, Try.ntmps16
  go_wp2_with (first | ((with_reducible refine gate_dst (N := 4) rfl ?_); refine box_event ?hg (N := 4) ?hd (cs := #[.int .i64 0, .int .i64 0, .bool false, .int .i64 0]) (t := 35) ?hr ?_; (case hd => rfl); (case hg => rfl); (case hr => first | (go_simp; done) | (go_simp; rfl)); intro gb275 hg w53 hbox hb; have n0_ := Aside0.mk (below_step (by repeat (first | (with_reducible first | exact HB.out | apply below_alloc | apply pw_below_drewN | apply below_drew1) | exact HB.out)) hb); have n1_ := Aside0.mk (hbox); have n2_ := Aside0.mk ((by rw [hg]; exact (below_size (by repeat (first | (with_reducible first | exact HB.out | apply below_alloc | apply pw_below_drewN | apply below_drew1) | exact HB.out))) : w.heap.size ≤ gb275)); have n3_ := Aside0.mk ((by rw [hg]; exact (below_size (by repeat (first | (with_reducible first | exact HB.out | apply below_alloc | apply pw_below_drewN | apply below_drew1) | exact HB.out))) : w.heap.size ≤ gb275)); clear HB; have HB := n0_; have BK275 := n1_; have GW275 := n2_; have GE275 := n3_; clear n0_ n1_ n2_ n3_; clear hb hbox hg) | ((with_reducible refine gate_dst (N := 5) rfl ?_); refine box_event ?hg (N := 5) ?hd (cs := #[.int .i64 0, .int .i64 0, .bool false, .int .i64 0]) (t := 35) ?hr ?_; (case hd => rfl); (case hg => rfl); (case hr => first | (go_simp; done) | (go_simp; rfl)); intro gb276 hg w54 hbox hb; have n0_ := Aside0.mk (blk_below (g := gb275) (o := .cells #[.int .i64 0, .int .i64 0, .bool false, .int .i64 0] 35 (0, 0)) (by (with_reducible repeat (first | refine blk_drewN ?_ _ | refine blk_drew ?_ | refine blk_alloc ?_ _)); exact BK275.out) hb); have n1_ := Aside0.mk (below_step (by repeat (first | (with_reducible first | exact HB.out | apply below_alloc | apply pw_below_drewN | apply below_drew1 | refine below_set ?_ GE275.out) | exact HB.out)) hb); have n2_ := Aside0.mk (hbox); have n3_ := Aside0.mk ((by rw [hg]; exact (below_size (by repeat (first | (with_reducible first | exact HB.out | apply below_alloc | apply pw_below_drewN | apply below_drew1 | refine below_set ?_ GE275.out) | exact HB.out))) : w.heap.size ≤ gb276)); have n4_ := Aside0.mk ((by rw [hg]; exact (below_size (by repeat (first | (with_reducible first | exact HB.out | apply below_alloc | apply pw_below_drewN | apply below_drew1 | refine below_set ?_ GE275.out) | exact HB.out))) : w.heap.size ≤ gb276)); have n5_ := Aside0.mk ((by rw [hg]; exact Nat.ne_of_lt (blk_lt (g := gb275) (o := .cells #[.int .i64 0, .int .i64 0, .bool false, .int .i64 0] 35 (0, 0)) (by (with_reducible repeat (first | refine blk_drewN ?_ _ | refine blk_drew ?_ | refine blk_alloc ?_ _)); exact BK275.out)) : gb275 ≠ gb276)); have n6_ := Aside0.mk ((by rw [hg]; exact Nat.ne_of_gt (blk_lt (g := gb275) (o := .cells #[.int .i64 0, .int .i64 0, .bool false, .int .i64 0] 35 (0, 0)) (by (with_reducible repeat (first | refine blk_drewN ?_ _ | refine blk_drew ?_ | refine blk_alloc ?_ _)); exact BK275.out)) : gb276 ≠ gb275)); clear BK275; clear HB; have BK275 := n0_; have HB := n1_; have BK276 := n2_; have GW276 := n3_; have GE276 := n4_; have NB275_276 := n5_; have NB276_275 := n6_; clear n0_ n1_ n2_ n3_ n4_ n5_ n6_; clear hb hbox hg; have hnb55 := NB276_275.out; have hnc55 := NB275_276.out; have hcz56_0 : w54.cell? ⟨gb276, 0, none⟩ = some (.int .i64 0) := (blk_cell BK276.out 0).trans rfl; have hcz56_1 : w54.cell? ⟨gb276, 1, none⟩ = some (.int .i64 0) := (blk_cell BK276.out 1).trans rfl; have hcz56_2 : w54.cell? ⟨gb276, 2, none⟩ = some (.bool false) := (blk_cell BK276.out 2).trans rfl; have hcz56_3 : w54.cell? ⟨gb276, 3, none⟩ = some (.int .i64 0) := (blk_cell BK276.out 3).trans rfl; have hfz56_0 := blk_frozen BK276.out 0; have hfz56_1 := blk_frozen BK276.out 1; have hfz56_2 := blk_frozen BK276.out 2; have hfz56_3 := blk_frozen BK276.out 3) | ((with_reducible refine gate_callee (f := 33) rfl ?_); refine goesL_ (some 19) rfl rfl Try.func33 (by kernel_rfl) rfl #[.string a0, .string (⟨#[98, 121, 116, 101, 115, 61]⟩ : ByteArray)] rfl (by (try simp only [List.map_toArray, List.map_cons, List.map_nil]); first | done | rfl | (simp only [List.length_drop, List.length_take]; rfl)) ?_; (with_reducible refine (stowageref3_Begins.calls a0 (⟨#[98, 121, 116, 101, 115, 61]⟩ : ByteArray) false _ A4.out).mono ?_); rintro e w' ⟨rfl, ⟨nd, rfl⟩⟩; refine ⟨_, rfl, ?_⟩; have hcz57_0 : w54.cell? ⟨gb275, 0, none⟩ = some (.int .i64 0) := (blk_cell BK275.out 0).trans rfl; have hcz57_1 : w54.cell? ⟨gb275, 1, none⟩ = some (.int .i64 0) := (blk_cell BK275.out 1).trans rfl; have hcz57_2 : w54.cell? ⟨gb275, 2, none⟩ = some (.bool false) := (blk_cell BK275.out 2).trans rfl; have hcz57_3 : w54.cell? ⟨gb275, 3, none⟩ = some (.int .i64 0) := (blk_cell BK275.out 3).trans rfl; have hfz57_0 := blk_frozen BK275.out 0; have hfz57_1 := blk_frozen BK275.out 1; have hfz57_2 := blk_frozen BK275.out 2; have hfz57_3 := blk_frozen BK275.out 3))
  refine bodyPost_ret (results_cell_row rfl _ _ gb275 35 #[.int .i64 0, .int .i64 ji3, .bool false, .int .i64 0] (0, 0) _ rfl (by (with_reducible repeat (first | refine blk_drewN ?_ _ | refine blk_drew ?_ | refine blk_alloc ?_ _)); refine blk_put (cs := #[.int .i64 0, .int .i64 ji3, .bool false, .int .i64 0]) ?_ 3 _ rfl; (with_reducible repeat (first | refine blk_drewN ?_ _ | refine blk_drew ?_ | refine blk_alloc ?_ _)); refine blk_put (cs := #[.int .i64 0, .int .i64 ji3, .bool false, .int .i64 0]) ?_ 2 _ rfl; (with_reducible repeat (first | refine blk_drewN ?_ _ | refine blk_drew ?_ | refine blk_alloc ?_ _)); refine blk_put (cs := #[.int .i64 0, .int .i64 0, .bool false, .int .i64 0]) ?_ 1 _ rfl; (with_reducible repeat (first | refine blk_drewN ?_ _ | refine blk_drew ?_ | refine blk_alloc ?_ _)); refine blk_put (cs := #[.int .i64 0, .int .i64 0, .bool false, .int .i64 0]) ?_ 0 _ rfl; (with_reducible repeat (first | refine blk_drewN ?_ _ | refine blk_drew ?_ | refine blk_alloc ?_ _)); refine blk_far ?_ NB275_276.out _; (with_reducible repeat (first | refine blk_drewN ?_ _ | refine blk_drew ?_ | refine blk_alloc ?_ _)); refine blk_far ?_ NB275_276.out _; (with_reducible repeat (first | refine blk_drewN ?_ _ | refine blk_drew ?_ | refine blk_alloc ?_ _)); refine blk_far ?_ NB275_276.out _; (with_reducible repeat (first | refine blk_drewN ?_ _ | refine blk_drew ?_ | refine blk_alloc ?_ _)); refine blk_far ?_ NB275_276.out _; (with_reducible repeat (first | refine blk_drewN ?_ _ | refine blk_drew ?_ | refine blk_alloc ?_ _)); exact BK275.out) Try.underlying35 rfl (by kernel_rfl)) rfl ?_
  exact ⟨by first | rfl | (simp [errW_none, errW_some] <;> rfl) | (simp only [← hji3]; first | rfl | (simp [errW_none, errW_some] <;> rfl)) | (simp [*, errW_none, errW_some] <;> rfl), by repeat (first | (with_reducible first | exact HB.out | apply below_alloc | apply pw_below_drewN | apply below_drew1 | refine below_set ?_ GE275.out | refine below_set ?_ GE276.out) | exact HB.out)⟩
end Go.Proofs.Ythjofhklkkmdoaa.Q
