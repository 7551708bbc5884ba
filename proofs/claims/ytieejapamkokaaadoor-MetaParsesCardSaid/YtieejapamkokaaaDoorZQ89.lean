/- A part of the proof of the seat's laws. No condition beyond those in the theorems. -/
import Derived.Test.YtieejapamkokaaaDoorZQ0g7
import Derived.Test.YtieejapamkokaaaDoorZQ7g7
import Derived.Test.YtieejapamkokaaaDoorZQ14g5
import Derived.Test.YtieejapamkokaaaDoorZQ54g5
import Derived.Test.YtieejapamkokaaaDoorZQ62g4
import Derived.Test.YtieejapamkokaaaDoorZQ83

namespace Go.Proofs.YtieejapamkokaaaDoor.Q
open Go.RowKit Go.Proofs.YtieejapamkokaaaDoorW.PrintWords Go.Proofs.YtieejapamkokaaaDoorW.PrintLast Go.Proofs.YtieejapamkokaaaDoorW.PrintMore
set_option linter.unusedVariables false
set_option linter.unusedSimpArgs false
attribute [local go_sem] max2_int min2_int max_two min_two max_three min_three max_four min_four   
mutual
def stowagelaw12_MetaApart.j0 : Nat → ByteArray → ByteArray → ByteArray → ByteArray → Int → Int → Bool → Option (Bool)
 | 0, _, _, _, _, _, _, _ => none
 | k + 1, x0, x1, x2, x3, x4, x5, x42 => if x42 = true then ((stowagelaw12_awake.f k).bind fun t370 => (some t370)) else ((meta_BucketKey.f x0).bind fun t371 => ((meta_ObjectKey.f k x0 x2 x4).bind fun t372 => ((meta_UploadKey.f k x0 x2 x4).bind fun t373 => ((meta_PartKey.f k x4 x5).bind fun t374 => (stowagelaw12_MetaApart.l0 k x0 x1 x2 x3 x4 x5 (([t371, t372, t373, t374] : List ByteArray)) 0)))))
def stowagelaw12_MetaApart.l0 : Nat → ByteArray → ByteArray → ByteArray → ByteArray → Int → Int → List ByteArray → Int → Option (Bool)
 | 0, _, _, _, _, _, _, _, _ => none
 | k + 1, x0, x1, x2, x3, x4, x5, x13, x14 => if x14 < (x13.length : Int) then (if 0 ≤ x14 then ((meta_ParseBucket.f k (rdOf ByteArray.empty x13 x14)).bind fun bt379 => (if bt379.2 = true then (stowagelaw12_MetaApart.j2 k x0 x1 x2 x3 x4 x5 x13 x14 (0 + 1)) else (stowagelaw12_MetaApart.j2 k x0 x1 x2 x3 x4 x5 x13 x14 0))) else (none)) else (if 1 < (x13.length : Int) then ((meta_ParseObject.f k (rdOf ByteArray.empty x13 1)).bind fun bt396 => (if bt396.2.2.2 = true then ((meta_ObjectKey.f k x1 x3 x5).bind fun t401 => ((meta_ParseObject.f k t401).bind fun bt402 => (if bt402.2.2.2 = true then ((meta_ObjectKey.f k x0 x2 x4).bind fun t407 => ((meta_ObjectKey.f k x1 x3 x5).bind fun t408 => (if x0.toList = x1.toList then (if x2.toList = x3.toList then (if ((t407.toList == t408.toList) == (x4 == x5)) = true then ((meta_PartKey.f k x4 x5).bind fun t409 => ((meta_PartKey.f k x5 x4).bind fun t410 => (if ((t409.toList == t410.toList) == (x4 == x5)) = true then ((meta_ID.f k x4).bind fun t411 => ((meta_ID.f k x5).bind fun t412 => (if ((t411.toList == t412.toList) == (x4 == x5)) = true then ((stowagelaw12_awake.f k).bind fun t413 => (some t413)) else (some false)))) else (some false)))) else (some false)) else (if ((t407.toList == t408.toList) == false) = true then ((meta_PartKey.f k x4 x5).bind fun t414 => ((meta_PartKey.f k x5 x4).bind fun t415 => (if ((t414.toList == t415.toList) == (x4 == x5)) = true then ((meta_ID.f k x4).bind fun t416 => ((meta_ID.f k x5).bind fun t417 => (if ((t416.toList == t417.toList) == (x4 == x5)) = true then ((stowagelaw12_awake.f k).bind fun t418 => (some t418)) else (some false)))) else (some false)))) else (some false))) else (if ((t407.toList == t408.toList) == false) = true then ((meta_PartKey.f k x4 x5).bind fun t419 => ((meta_PartKey.f k x5 x4).bind fun t420 => (if ((t419.toList == t420.toList) == (x4 == x5)) = true then ((meta_ID.f k x4).bind fun t421 => ((meta_ID.f k x5).bind fun t422 => (if ((t421.toList == t422.toList) == (x4 == x5)) = true then ((stowagelaw12_awake.f k).bind fun t423 => (some t423)) else (some false)))) else (some false)))) else (some false))))) else ((stowagelaw12_awake.f k).bind fun t406 => (some t406))))) else ((stowagelaw12_awake.f k).bind fun t400 => (some t400)))) else (none))
def stowagelaw12_MetaApart.j2 : Nat → ByteArray → ByteArray → ByteArray → ByteArray → Int → Int → List ByteArray → Int → Int → Option (Bool)
 | 0, _, _, _, _, _, _, _, _, _ => none
 | k + 1, x0, x1, x2, x3, x4, x5, x13, x14, x15 => if 0 ≤ x14 then (if x14 < (x13.length : Int) then ((meta_ParseObject.f k (rdOf ByteArray.empty x13 x14)).bind fun bt382 => (if bt382.2.2.2 = true then (stowagelaw12_MetaApart.j3 k x0 x1 x2 x3 x4 x5 x13 x14 (wrap64 (x15 + 1))) else (stowagelaw12_MetaApart.j3 k x0 x1 x2 x3 x4 x5 x13 x14 x15))) else (none)) else (none)
def stowagelaw12_MetaApart.j3 : Nat → ByteArray → ByteArray → ByteArray → ByteArray → Int → Int → List ByteArray → Int → Int → Option (Bool)
 | 0, _, _, _, _, _, _, _, _, _ => none
 | k + 1, x0, x1, x2, x3, x4, x5, x13, x14, x15 => if 0 ≤ x14 then (if x14 < (x13.length : Int) then ((meta_ParseUpload.f k (rdOf ByteArray.empty x13 x14)).bind fun bt387 => (if bt387.2.2.2 = true then (stowagelaw12_MetaApart.j4 k x0 x1 x2 x3 x4 x5 x13 x14 (wrap64 (x15 + 1))) else (stowagelaw12_MetaApart.j4 k x0 x1 x2 x3 x4 x5 x13 x14 x15))) else (none)) else (none)
def stowagelaw12_MetaApart.j4 : Nat → ByteArray → ByteArray → ByteArray → ByteArray → Int → Int → List ByteArray → Int → Int → Option (Bool)
 | 0, _, _, _, _, _, _, _, _, _ => none
 | k + 1, x0, x1, x2, x3, x4, x5, x13, x14, x15 => if 0 ≤ x14 then (if x14 < (x13.length : Int) then ((meta_ParsePart.f k (rdOf ByteArray.empty x13 x14)).bind fun bt392 => (if bt392.2.2 = true then (if (wrap64 (x15 + 1)) > 1 then (some false) else (stowagelaw12_MetaApart.l0 k x0 x1 x2 x3 x4 x5 x13 (wrap64 (x14 + 1)))) else (if x15 > 1 then (some false) else (stowagelaw12_MetaApart.l0 k x0 x1 x2 x3 x4 x5 x13 (wrap64 (x14 + 1)))))) else (none)) else (none)
end
def stowagelaw12_MetaApart.f (k : Nat) (a0 : ByteArray) (a1 : ByteArray) (a2 : ByteArray) (a3 : ByteArray) (a4 : Int) (a5 : Int) : Option (Bool) := if a4 < 0 then (stowagelaw12_MetaApart.j0 k a0 a1 a2 a3 a4 a5 true) else (stowagelaw12_MetaApart.j0 k a0 a1 a2 a3 a4 a5 (decide (a5 < 0)))
theorem stowagelaw12_MetaApart.mono_l : ∀ k, (∀ y0 y1 y2 y3 y4 y5 y6, LeO (stowagelaw12_MetaApart.j0 k y0 y1 y2 y3 y4 y5 y6) (stowagelaw12_MetaApart.j0 (k + 1) y0 y1 y2 y3 y4 y5 y6)) ∧ (∀ y0 y1 y2 y3 y4 y5 y6 y7, LeO (stowagelaw12_MetaApart.l0 k y0 y1 y2 y3 y4 y5 y6 y7) (stowagelaw12_MetaApart.l0 (k + 1) y0 y1 y2 y3 y4 y5 y6 y7)) ∧ (∀ y0 y1 y2 y3 y4 y5 y6 y7 y8, LeO (stowagelaw12_MetaApart.j2 k y0 y1 y2 y3 y4 y5 y6 y7 y8) (stowagelaw12_MetaApart.j2 (k + 1) y0 y1 y2 y3 y4 y5 y6 y7 y8)) ∧ (∀ y0 y1 y2 y3 y4 y5 y6 y7 y8, LeO (stowagelaw12_MetaApart.j3 k y0 y1 y2 y3 y4 y5 y6 y7 y8) (stowagelaw12_MetaApart.j3 (k + 1) y0 y1 y2 y3 y4 y5 y6 y7 y8)) ∧ (∀ y0 y1 y2 y3 y4 y5 y6 y7 y8, LeO (stowagelaw12_MetaApart.j4 k y0 y1 y2 y3 y4 y5 y6 y7 y8) (stowagelaw12_MetaApart.j4 (k + 1) y0 y1 y2 y3 y4 y5 y6 y7 y8))
 | 0 => ⟨fun _ _ _ _ _ _ _ r h => by simp [stowagelaw12_MetaApart.j0] at h, fun _ _ _ _ _ _ _ _ r h => by simp [stowagelaw12_MetaApart.l0] at h, fun _ _ _ _ _ _ _ _ _ r h => by simp [stowagelaw12_MetaApart.j2] at h, fun _ _ _ _ _ _ _ _ _ r h => by simp [stowagelaw12_MetaApart.j3] at h, fun _ _ _ _ _ _ _ _ _ r h => by simp [stowagelaw12_MetaApart.j4] at h⟩
 | k + 1 => by
  obtain ⟨ih0, ih1, ih2, ih3, ih4⟩ := stowagelaw12_MetaApart.mono_l k
  refine ⟨?_, ?_, ?_, ?_, ?_⟩
  ·intro y0 y1 y2 y3 y4 y5 y6
   unfold stowagelaw12_MetaApart.j0
   repeat' first
   | (with_reducible exact ih0 _ _ _ _ _ _ _)
   | (with_reducible exact ih1 _ _ _ _ _ _ _ _)
   | (with_reducible exact ih2 _ _ _ _ _ _ _ _ _)
   | (with_reducible exact ih3 _ _ _ _ _ _ _ _ _)
   | (with_reducible exact ih4 _ _ _ _ _ _ _ _ _)
   | (with_reducible exact meta_ID.mono _ _)
   | (with_reducible exact meta_ObjectKey.mono _ _ _ _)
   | (with_reducible exact meta_ParseBucket.mono _ _)
   | (with_reducible exact meta_ParseObject.mono _ _)
   | (with_reducible exact meta_ParsePart.mono _ _)
   | (with_reducible exact meta_ParseUpload.mono _ _)
   | (with_reducible exact meta_PartKey.mono _ _ _)
   | (with_reducible exact meta_UploadKey.mono _ _ _ _)
   | (with_reducible exact stowagelaw12_awake.mono _)
   | (with_reducible exact LeO.refl _)
   | (with_reducible exact LeO.none _)
   | (with_reducible refine LeO.ite ?_ ?_)
   | (with_reducible refine LeO.bind ?_ (fun _ => ?_))
   | exact ih0 _ _ _ _ _ _ _
   | exact ih1 _ _ _ _ _ _ _ _
   | exact ih2 _ _ _ _ _ _ _ _ _
   | exact ih3 _ _ _ _ _ _ _ _ _
   | exact ih4 _ _ _ _ _ _ _ _ _
   | exact meta_ID.mono _ _
   | exact meta_ObjectKey.mono _ _ _ _
   | exact meta_ParseBucket.mono _ _
   | exact meta_ParseObject.mono _ _
   | exact meta_ParsePart.mono _ _
   | exact meta_ParseUpload.mono _ _
   | exact meta_PartKey.mono _ _ _
   | exact meta_UploadKey.mono _ _ _ _
   | exact stowagelaw12_awake.mono _
   | exact LeO.none _
   | refine LeO.ite ?_ ?_
   | refine LeO.bind ?_ (fun _ => ?_)
  ·intro y0 y1 y2 y3 y4 y5 y6 y7
   unfold stowagelaw12_MetaApart.l0
   repeat' first
   | (with_reducible exact ih0 _ _ _ _ _ _ _)
   | (with_reducible exact ih1 _ _ _ _ _ _ _ _)
   | (with_reducible exact ih2 _ _ _ _ _ _ _ _ _)
   | (with_reducible exact ih3 _ _ _ _ _ _ _ _ _)
   | (with_reducible exact ih4 _ _ _ _ _ _ _ _ _)
   | (with_reducible exact meta_ID.mono _ _)
   | (with_reducible exact meta_ObjectKey.mono _ _ _ _)
   | (with_reducible exact meta_ParseBucket.mono _ _)
   | (with_reducible exact meta_ParseObject.mono _ _)
   | (with_reducible exact meta_ParsePart.mono _ _)
   | (with_reducible exact meta_ParseUpload.mono _ _)
   | (with_reducible exact meta_PartKey.mono _ _ _)
   | (with_reducible exact meta_UploadKey.mono _ _ _ _)
   | (with_reducible exact stowagelaw12_awake.mono _)
   | (with_reducible exact LeO.refl _)
   | (with_reducible exact LeO.none _)
   | (with_reducible refine LeO.ite ?_ ?_)
   | (with_reducible refine LeO.bind ?_ (fun _ => ?_))
   | exact ih0 _ _ _ _ _ _ _
   | exact ih1 _ _ _ _ _ _ _ _
   | exact ih2 _ _ _ _ _ _ _ _ _
   | exact ih3 _ _ _ _ _ _ _ _ _
   | exact ih4 _ _ _ _ _ _ _ _ _
   | exact meta_ID.mono _ _
   | exact meta_ObjectKey.mono _ _ _ _
   | exact meta_ParseBucket.mono _ _
   | exact meta_ParseObject.mono _ _
   | exact meta_ParsePart.mono _ _
   | exact meta_ParseUpload.mono _ _
   | exact meta_PartKey.mono _ _ _
   | exact meta_UploadKey.mono _ _ _ _
   | exact stowagelaw12_awake.mono _
   | exact LeO.none _
   | refine LeO.ite ?_ ?_
   | refine LeO.bind ?_ (fun _ => ?_)
  ·intro y0 y1 y2 y3 y4 y5 y6 y7 y8
   unfold stowagelaw12_MetaApart.j2
   repeat' first
   | (with_reducible exact ih0 _ _ _ _ _ _ _)
   | (with_reducible exact ih1 _ _ _ _ _ _ _ _)
   | (with_reducible exact ih2 _ _ _ _ _ _ _ _ _)
   | (with_reducible exact ih3 _ _ _ _ _ _ _ _ _)
   | (with_reducible exact ih4 _ _ _ _ _ _ _ _ _)
   | (with_reducible exact meta_ID.mono _ _)
   | (with_reducible exact meta_ObjectKey.mono _ _ _ _)
   | (with_reducible exact meta_ParseBucket.mono _ _)
   | (with_reducible exact meta_ParseObject.mono _ _)
   | (with_reducible exact meta_ParsePart.mono _ _)
   | (with_reducible exact meta_ParseUpload.mono _ _)
   | (with_reducible exact meta_PartKey.mono _ _ _)
   | (with_reducible exact meta_UploadKey.mono _ _ _ _)
   | (with_reducible exact stowagelaw12_awake.mono _)
   | (with_reducible exact LeO.refl _)
   | (with_reducible exact LeO.none _)
   | (with_reducible refine LeO.ite ?_ ?_)
   | (with_reducible refine LeO.bind ?_ (fun _ => ?_))
   | exact ih0 _ _ _ _ _ _ _
   | exact ih1 _ _ _ _ _ _ _ _
   | exact ih2 _ _ _ _ _ _ _ _ _
   | exact ih3 _ _ _ _ _ _ _ _ _
   | exact ih4 _ _ _ _ _ _ _ _ _
   | exact meta_ID.mono _ _
   | exact meta_ObjectKey.mono _ _ _ _
   | exact meta_ParseBucket.mono _ _
   | exact meta_ParseObject.mono _ _
   | exact meta_ParsePart.mono _ _
   | exact meta_ParseUpload.mono _ _
   | exact meta_PartKey.mono _ _ _
   | exact meta_UploadKey.mono _ _ _ _
   | exact stowagelaw12_awake.mono _
   | exact LeO.none _
   | refine LeO.ite ?_ ?_
   | refine LeO.bind ?_ (fun _ => ?_)
  ·intro y0 y1 y2 y3 y4 y5 y6 y7 y8
   unfold stowagelaw12_MetaApart.j3
   repeat' first
   | (with_reducible exact ih0 _ _ _ _ _ _ _)
   | (with_reducible exact ih1 _ _ _ _ _ _ _ _)
   | (with_reducible exact ih2 _ _ _ _ _ _ _ _ _)
   | (with_reducible exact ih3 _ _ _ _ _ _ _ _ _)
   | (with_reducible exact ih4 _ _ _ _ _ _ _ _ _)
   | (with_reducible exact meta_ID.mono _ _)
   | (with_reducible exact meta_ObjectKey.mono _ _ _ _)
   | (with_reducible exact meta_ParseBucket.mono _ _)
   | (with_reducible exact meta_ParseObject.mono _ _)
   | (with_reducible exact meta_ParsePart.mono _ _)
   | (with_reducible exact meta_ParseUpload.mono _ _)
   | (with_reducible exact meta_PartKey.mono _ _ _)
   | (with_reducible exact meta_UploadKey.mono _ _ _ _)
   | (with_reducible exact stowagelaw12_awake.mono _)
   | (with_reducible exact LeO.refl _)
   | (with_reducible exact LeO.none _)
   | (with_reducible refine LeO.ite ?_ ?_)
   | (with_reducible refine LeO.bind ?_ (fun _ => ?_))
   | exact ih0 _ _ _ _ _ _ _
   | exact ih1 _ _ _ _ _ _ _ _
   | exact ih2 _ _ _ _ _ _ _ _ _
   | exact ih3 _ _ _ _ _ _ _ _ _
   | exact ih4 _ _ _ _ _ _ _ _ _
   | exact meta_ID.mono _ _
   | exact meta_ObjectKey.mono _ _ _ _
   | exact meta_ParseBucket.mono _ _
   | exact meta_ParseObject.mono _ _
   | exact meta_ParsePart.mono _ _
   | exact meta_ParseUpload.mono _ _
   | exact meta_PartKey.mono _ _ _
   | exact meta_UploadKey.mono _ _ _ _
   | exact stowagelaw12_awake.mono _
   | exact LeO.none _
   | refine LeO.ite ?_ ?_
   | refine LeO.bind ?_ (fun _ => ?_)
  ·intro y0 y1 y2 y3 y4 y5 y6 y7 y8
   unfold stowagelaw12_MetaApart.j4
   repeat' first
   | (with_reducible exact ih0 _ _ _ _ _ _ _)
   | (with_reducible exact ih1 _ _ _ _ _ _ _ _)
   | (with_reducible exact ih2 _ _ _ _ _ _ _ _ _)
   | (with_reducible exact ih3 _ _ _ _ _ _ _ _ _)
   | (with_reducible exact ih4 _ _ _ _ _ _ _ _ _)
   | (with_reducible exact meta_ID.mono _ _)
   | (with_reducible exact meta_ObjectKey.mono _ _ _ _)
   | (with_reducible exact meta_ParseBucket.mono _ _)
   | (with_reducible exact meta_ParseObject.mono _ _)
   | (with_reducible exact meta_ParsePart.mono _ _)
   | (with_reducible exact meta_ParseUpload.mono _ _)
   | (with_reducible exact meta_PartKey.mono _ _ _)
   | (with_reducible exact meta_UploadKey.mono _ _ _ _)
   | (with_reducible exact stowagelaw12_awake.mono _)
   | (with_reducible exact LeO.refl _)
   | (with_reducible exact LeO.none _)
   | (with_reducible refine LeO.ite ?_ ?_)
   | (with_reducible refine LeO.bind ?_ (fun _ => ?_))
   | exact ih0 _ _ _ _ _ _ _
   | exact ih1 _ _ _ _ _ _ _ _
   | exact ih2 _ _ _ _ _ _ _ _ _
   | exact ih3 _ _ _ _ _ _ _ _ _
   | exact ih4 _ _ _ _ _ _ _ _ _
   | exact meta_ID.mono _ _
   | exact meta_ObjectKey.mono _ _ _ _
   | exact meta_ParseBucket.mono _ _
   | exact meta_ParseObject.mono _ _
   | exact meta_ParsePart.mono _ _
   | exact meta_ParseUpload.mono _ _
   | exact meta_PartKey.mono _ _ _
   | exact meta_UploadKey.mono _ _ _ _
   | exact stowagelaw12_awake.mono _
   | exact LeO.none _
   | refine LeO.ite ?_ ?_
   | refine LeO.bind ?_ (fun _ => ?_)
theorem stowagelaw12_MetaApart.mono : ∀ a0 a1 a2 a3 a4 a5 k, LeO (stowagelaw12_MetaApart.f k a0 a1 a2 a3 a4 a5) (stowagelaw12_MetaApart.f (k + 1) a0 a1 a2 a3 a4 a5) := by
 intro a0 a1 a2 a3 a4 a5 k
 obtain ⟨ih0, ih1, ih2, ih3, ih4⟩ := stowagelaw12_MetaApart.mono_l k
 unfold stowagelaw12_MetaApart.f
 repeat' first
   | (with_reducible exact ih0 _ _ _ _ _ _ _)
   | (with_reducible exact ih1 _ _ _ _ _ _ _ _)
   | (with_reducible exact ih2 _ _ _ _ _ _ _ _ _)
   | (with_reducible exact ih3 _ _ _ _ _ _ _ _ _)
   | (with_reducible exact ih4 _ _ _ _ _ _ _ _ _)
   | (with_reducible exact meta_ID.mono _ _)
   | (with_reducible exact meta_ObjectKey.mono _ _ _ _)
   | (with_reducible exact meta_ParseBucket.mono _ _)
   | (with_reducible exact meta_ParseObject.mono _ _)
   | (with_reducible exact meta_ParsePart.mono _ _)
   | (with_reducible exact meta_ParseUpload.mono _ _)
   | (with_reducible exact meta_PartKey.mono _ _ _)
   | (with_reducible exact meta_UploadKey.mono _ _ _ _)
   | (with_reducible exact stowagelaw12_awake.mono _)
   | (with_reducible exact LeO.refl _)
   | (with_reducible exact LeO.none _)
   | (with_reducible refine LeO.ite ?_ ?_)
   | (with_reducible refine LeO.bind ?_ (fun _ => ?_))
   | exact ih0 _ _ _ _ _ _ _
   | exact ih1 _ _ _ _ _ _ _ _
   | exact ih2 _ _ _ _ _ _ _ _ _
   | exact ih3 _ _ _ _ _ _ _ _ _
   | exact ih4 _ _ _ _ _ _ _ _ _
   | exact meta_ID.mono _ _
   | exact meta_ObjectKey.mono _ _ _ _
   | exact meta_ParseBucket.mono _ _
   | exact meta_ParseObject.mono _ _
   | exact meta_ParsePart.mono _ _
   | exact meta_ParseUpload.mono _ _
   | exact meta_PartKey.mono _ _ _
   | exact meta_UploadKey.mono _ _ _ _
   | exact stowagelaw12_awake.mono _
   | exact LeO.none _
   | refine LeO.ite ?_ ?_
   | refine LeO.bind ?_ (fun _ => ?_)
set_option maxHeartbeats 8000000 in
set_option maxRecDepth 100000 in
theorem stowagelaw12_MetaApart.calls (k : Nat) (a0 : ByteArray) (a1 : ByteArray) (a2 : ByteArray) (a3 : ByteArray) (a4 : Int) (a5 : Int) (r : Bool) (w : World) (h : stowagelaw12_MetaApart.f k a0 a1 a2 a3 a4 a5 = some r) (hr : r = true) :
  Calls Tryd.prog 6 #[.string a0, .string a1, .string a2, .string a3, .int .i64 a4, .int .i64 a5] w fun e w' => e = .returned (.bool r) ∧ Below w.heap.size w w' := by
 have HB := Aside0.mk (Below.refl w.heap.size w)
 unfold stowagelaw12_MetaApart.f at h
 have H := h
 clear h
 have HC7 := Aside0.mk H
 clear H
 go_enter Tryd.func6, Tryd.ntmps6
 go_upto_region 1 with (fail)
 go_cut [42] (fun v42 wc => ∃ (kq : Nat) (x42_6 : Bool), v42 = .bool x42_6 ∧ Aside0 (stowagelaw12_MetaApart.j0 kq a0 a1 a2 a3 a4 a5 x42_6 = some r) ∧ Aside0 (kq ≤ k) ∧ Aside0 (Below w.heap.size w wc))
 case first =>
  have H := HC7.out
  clear HC7
  replace H := itO H
  rcases H with ⟨c8, H⟩ | ⟨c8, H⟩
  ·skip
   have c8b0 : decide (a4 < 0) = true := decide_eq_true c8
   clear c8
   (first | rw [c8b0] | (simp only [i64_w, i32_w]; rw [c8b0]) | skip)
   have H' := Aside0.mk H
   clear H
   go_wp2
   go_meet
   case rel => exact ⟨_, (true), (by first | rfl | (simp; done) | (simp [*]; done)), H', ⟨by first | omega | exact Nat.le_refl _⟩, ⟨by repeat (first | (with_reducible first | exact HB.out | apply below_alloc | apply pw_below_drewN | apply below_drew1) | exact HB.out)⟩⟩
  ·skip
   have c8b0 : decide (a4 < 0) = false := decide_eq_false c8
   clear c8
   (first | rw [c8b0] | (simp only [i64_w, i32_w]; rw [c8b0]) | skip)
   have H' := Aside0.mk H
   clear H
   go_wp2
   go_meet
   case rel => exact ⟨_, (decide (a5 < 0)), (by first | rfl | (simp; done) | (simp [*]; done)), H', ⟨by first | omega | exact Nat.le_refl _⟩, ⟨by repeat (first | (with_reducible first | exact HB.out | apply below_alloc | apply pw_below_drewN | apply below_drew1) | exact HB.out)⟩⟩
 case rest =>
  clear HC7
  try clear p2
  try clear c6
  try clear c8
  try clear c8b0
  obtain ⟨kq, x42_6, rfl, HA, HJ6, HB⟩ := hcut
  cases kq with
  | zero => exact absurd HA.out (by simp [stowagelaw12_MetaApart.j0])
  | succ kj6 =>
   have H := HA.out
   clear HA
   simp only [stowagelaw12_MetaApart.j0] at H
   by_cases c9 : x42_6 = true
   ·subst c9
    replace H := itT H
    replace H := bndO H
    obtain ⟨t370, A100, H⟩ := H
    have A10 := Aside0.mk A100
    clear A100
    clear hr
    obtain rfl := Option.some.inj H
    go_wp2_with (first | ((with_reducible refine gate_callee (f := 20) rfl ?_); refine goesL_ (some 43) rfl rfl Tryd.func20 (by kernel_rfl) rfl #[] rfl (by (try simp only [List.map_toArray, List.map_cons, List.map_nil]); first | done | rfl | (simp only [List.length_drop, List.length_take]; rfl)) ?_; (with_reducible refine (stowagelaw12_awake.calls kj6  t370 _ A10.out).mono ?_); rintro e w11 ⟨rfl, hb⟩; refine ⟨_, rfl, ?_⟩; have n0_ := Aside0.mk (below_step (by repeat (first | (with_reducible first | exact HB.out | apply below_alloc | apply pw_below_drewN | apply below_drew1) | exact HB.out)) hb); clear HB; have HB := n0_; clear n0_; (try clear hb); (try clear hb2); (try clear hk); (try clear hi)))
    go_ret
    exact ⟨by first | rfl | (simp [errW_none, errW_some] <;> rfl) | (simp [*, errW_none, errW_some] <;> rfl), by repeat (first | (with_reducible first | exact HB.out | apply below_alloc | apply pw_below_drewN | apply below_drew1) | exact HB.out)⟩
   ·replace c9 := Bool.eq_false_iff.mpr c9
    subst c9
    replace H := itF H
    replace H := bndO H
    obtain ⟨t371, A120, H⟩ := H
    have A12 := Aside0.mk A120
    clear A120
    replace H := bndO H
    obtain ⟨t372, A130, H⟩ := H
    have A13 := Aside0.mk A130
    clear A130
    replace H := bndO H
    obtain ⟨t373, A140, H⟩ := H
    have A14 := Aside0.mk A140
    clear A140
    replace H := bndO H
    obtain ⟨t374, A150, H⟩ := H
    have A15 := Aside0.mk A150
    clear A150
    obtain ⟨y375, hy375⟩ : ∃ y_ : List ByteArray, y_ = (([t371, t372, t373, t374] : List ByteArray)) := ⟨_, rfl⟩
    replace H : (stowagelaw12_MetaApart.l0 kj6 a0 a1 a2 a3 a4 a5 y375 0) = some r := by first | (rw [hy375]; with_reducible exact H) | (have H2_ := (Option.bind_some _ _).symm.trans H; rw [hy375]; with_reducible exact H2_) | (have H2_ := (Option.bind_some _ _).symm.trans H; with_reducible exact H2_) | with_reducible exact H | (rw [hy375]; exact H) | exact H
    have Ny375 := Aside0.mk hy375
    clear hy375
    have H' := Aside0.mk H
    clear H
    go_wp2_with (first | ((with_reducible refine gate_callee (f := 10) rfl ?_); refine goesL_ (some 45) rfl rfl Tryd.func10 (by kernel_rfl) rfl #[.string a0] rfl (by (try simp only [List.map_toArray, List.map_cons, List.map_nil]); first | done | rfl | (simp only [List.length_drop, List.length_take]; rfl)) ?_; (with_reducible refine (meta_BucketKey.calls a0 t371 _ A12.out).mono ?_); rintro e w' ⟨rfl, ⟨nd, rfl⟩⟩; refine ⟨_, rfl, ?_⟩) | ((with_reducible refine gate_callee (f := 12) rfl ?_); refine goesL_ (some 49) rfl rfl Tryd.func12 (by kernel_rfl) rfl #[.string a0, .string a2, .int .i64 a4] rfl (by (try simp only [List.map_toArray, List.map_cons, List.map_nil]); first | done | rfl | (simp only [List.length_drop, List.length_take]; rfl)) ?_; (with_reducible refine (meta_ObjectKey.calls kj6 a0 a2 a4 t372 _ A13.out).mono ?_); rintro e w16 ⟨rfl, hb⟩; refine ⟨_, rfl, ?_⟩; have n0_ := Aside0.mk (below_step (by repeat (first | (with_reducible first | exact HB.out | apply below_alloc | apply pw_below_drewN | apply below_drew1) | exact HB.out)) hb); clear HB; have HB := n0_; clear n0_; (try clear hb); (try clear hb2); (try clear hk); (try clear hi)) | ((with_reducible refine gate_callee (f := 14) rfl ?_); refine goesL_ (some 53) rfl rfl Tryd.func14 (by kernel_rfl) rfl #[.string a0, .string a2, .int .i64 a4] rfl (by (try simp only [List.map_toArray, List.map_cons, List.map_nil]); first | done | rfl | (simp only [List.length_drop, List.length_take]; rfl)) ?_; (with_reducible refine (meta_UploadKey.calls kj6 a0 a2 a4 t373 _ A14.out).mono ?_); rintro e w17 ⟨rfl, hb⟩; refine ⟨_, rfl, ?_⟩; have n0_ := Aside0.mk (below_step (by repeat (first | (with_reducible first | exact HB.out | apply below_alloc | apply pw_below_drewN | apply below_drew1) | exact HB.out)) hb); clear HB; have HB := n0_; clear n0_; (try clear hb); (try clear hb2); (try clear hk); (try clear hi)) | ((with_reducible refine gate_callee (f := 16) rfl ?_); refine goesL_ (some 56) rfl rfl Tryd.func16 (by kernel_rfl) rfl #[.int .i64 a4, .int .i64 a5] rfl (by (try simp only [List.map_toArray, List.map_cons, List.map_nil]); first | done | rfl | (simp only [List.length_drop, List.length_take]; rfl)) ?_; (with_reducible refine (meta_PartKey.calls kj6 a4 a5 t374 _ A15.out).mono ?_); rintro e w18 ⟨rfl, hb⟩; refine ⟨_, rfl, ?_⟩; have n0_ := Aside0.mk (below_step (by repeat (first | (with_reducible first | exact HB.out | apply below_alloc | apply pw_below_drewN | apply below_drew1) | exact HB.out)) hb); clear HB; have HB := n0_; clear n0_; (try clear hb); (try clear hb2); (try clear hk); (try clear hi)) | ((with_reducible refine gate_dst (N := 57) rfl ?_); refine Kd.R_lit Kd.string _ 9 ?hg (N := 57) ?hd (xs := ([t371, t372, t373, t374] : List ByteArray)) (inner := [.string t371, .string t372, .string t373, .string t374]) (ok := fun _ => True) (okp := fun _ => True) ?hr ?hp (fun _ hk => hk) trivial (Below.refl _ _) (Nat.le_refl _) (by simp) ?_; (case hd => rfl); (case hg => rfl); (case hr => first | (go_simp; done) | (go_simp; rfl)); (case hp => exact (Reps.one (show Kd.M Kd.string _ _ _ t371 [.string t371] from rfl) (Reps.one (show Kd.M Kd.string _ _ _ t372 [.string t372] from rfl) (Reps.one (show Kd.M Kd.string _ _ _ t373 [.string t373] from rfl) (Reps.one (show Kd.M Kd.string _ _ _ t374 [.string t374] from rfl) (Reps.none _ _)))))); intro v376 w19 ho20 hb hg_ hnew_; clear hg_ hnew_; (first | rw [← Ny375.out] at ho20 | (simp only [Int.reduceToNat] at ho20; rw [← Ny375.out] at ho20)); have n0_ := Aside0.mk (Kd.R_lower ho20 (below_size (by repeat (first | (with_reducible first | exact HB.out | apply below_alloc | apply pw_below_drewN | apply below_drew1) | exact HB.out)))); have n1_ := Aside0.mk (below_step (by repeat (first | (with_reducible first | exact HB.out | apply below_alloc | apply pw_below_drewN | apply below_drew1) | exact HB.out)) hb); clear HB; have HO377 := n0_; have HB := n1_; clear n0_ n1_; clear hb ho20))
    go_loopg [14] kj6 (fun kq v14 w' => ∃ (x14_2 : Int), v14 = .int .i64 x14_2 ∧ Aside0 (stowagelaw12_MetaApart.l0 kq a0 a1 a2 a3 a4 a5 y375 x14_2 = some r) ∧ Aside0 (kq ≤ kj6) ∧ Aside0 (Kd.R Kd.string 9 w' w.heap.size (fun _ => True) v376 y375) ∧ Aside0 (Below w.heap.size w w'))
    case atStart => exact ⟨(0), (by first | rfl | (simp; done) | (simp [*]; done)), H', ⟨Nat.le_refl _⟩, ⟨by (with_reducible repeat (first | apply Kd.R_alloc | apply Kd.R_drewN | apply Kd.R_drew)); exact HO377.out⟩, ⟨by repeat (first | (with_reducible first | exact HB.out | apply below_alloc | apply pw_below_drewN | apply below_drew1) | exact HB.out)⟩⟩
    case round =>
     clear H'
     try clear c1
     try clear c2
     try clear p2
     try clear c6
     try clear c8
     try clear c8b0
     try clear c9
     try clear c10
     try clear c12
     try clear c14
     try clear c16
     try clear c20
     try clear p2
     obtain ⟨x14_2, rfl, HA, HK2, HO_13, HB⟩ := hrel
     cases gk with
     | zero => exact absurd HA.out (by simp [stowagelaw12_MetaApart.l0])
     | succ k2 =>
      have H := HA.out
      clear HA
      simp only [stowagelaw12_MetaApart.l0] at H
      replace H := itO H
      rcases H with ⟨c21, H⟩ | ⟨c21, H⟩
      ·skip
       have c21b0 : decide (x14_2 < (y375.length : Int)) = true := decide_eq_true c21
       clear c21
       replace H := itO H
       rcases H with ⟨c22, H⟩ | ⟨c22, H⟩
       ·skip
        have c22b0 : decide (0 ≤ x14_2) = true := decide_eq_true c22
        clear c22
        replace H := bndO H
        obtain ⟨⟨t379, t380⟩, A230, H⟩ := H
        dsimp only at H
        have A23 := Aside0.mk A230
        clear A230
        have HC24 := Aside0.mk H
        clear H
        obtain ⟨Ao25, co25, eo25⟩ := Kd.R_slice HO_13.out
        subst eo25
        have p378 : 0 ≤ (x14_2 : Int) := of_decide_eq_true (by first | (with_reducible assumption) | assumption)
        have q378 : x14_2 < (y375.length : Int) := of_decide_eq_true (by first | (with_reducible assumption) | assumption)
        obtain ⟨ad378, e378, hx378_0⟩ := Kd.at_string (Kd.R_reads' HO_13.out).2.2 x14_2 p378 q378
        cases e378
        replace p378 := eq_true p378
        replace q378 := eq_true q378
        go_upto_if 72 with (first | ((with_reducible refine gate_callee (f := 21) rfl ?_); refine goesL_ (some 69) rfl rfl Tryd.func21 (by kernel_rfl) rfl #[.string (rdOf ByteArray.empty y375 x14_2)] rfl (by (try simp only [List.map_toArray, List.map_cons, List.map_nil]); first | done | rfl | (simp only [List.length_drop, List.length_take]; rfl)) ?_; (with_reducible refine (meta_ParseBucket.calls k2 (rdOf ByteArray.empty y375 x14_2) t379 t380 _ A23.out).mono ?_); rintro e w26 ⟨rfl, hb⟩; refine ⟨_, rfl, ?_⟩; have n0_ := Aside0.mk (Kd.R_below (by (with_reducible repeat (first | apply Kd.R_alloc | apply Kd.R_drewN | apply Kd.R_drew)); exact HO_13.out) hb); have n1_ := Aside0.mk (below_step (by repeat (first | (with_reducible first | exact HB.out | apply below_alloc | apply pw_below_drewN | apply below_drew1) | exact HB.out)) hb); clear HO_13; clear HB; have HO_13 := n0_; have HB := n1_; clear n0_ n1_; (try clear hb); (try clear hb2); (try clear hk); (try clear hi)))
        (try simp only [Act.put, List.setIfInBounds_toArray, List.set_cons_zero, List.set_cons_succ])
        go_cut [15] (fun v15 wc => ∃ (kq : Nat) (x15_23 : Int), v15 = .int .i64 x15_23 ∧ Aside0 (stowagelaw12_MetaApart.j2 kq a0 a1 a2 a3 a4 a5 y375 x14_2 x15_23 = some r) ∧ Aside0 (kq ≤ k2) ∧ Aside0 (Kd.R Kd.string 9 wc w.heap.size (fun _ => True) (.slice (some ad378) y375.length co25) y375) ∧ Aside0 (Below w.heap.size w wc))
        case first =>
         have H := HC24.out
         clear HC24
         by_cases c27 : t380 = true
         ·subst c27
          replace H := itT H
          have H' := Aside0.mk H
          clear H
          go_wp2
          go_meet
          case rel => exact ⟨_, (0 + 1), (by first | rfl | (simp; done) | (simp [*]; done)), H', ⟨by have := HJ6.out; have := HK2.out; first | omega | exact Nat.le_refl _⟩, ⟨by (with_reducible repeat (first | apply Kd.R_alloc | apply Kd.R_drewN | apply Kd.R_drew)); exact HO_13.out⟩, ⟨by repeat (first | (with_reducible first | exact HB.out | apply below_alloc | apply pw_below_drewN | apply below_drew1) | exact HB.out)⟩⟩
         ·replace c27 := Bool.eq_false_iff.mpr c27
          subst c27
          replace H := itF H
          have H' := Aside0.mk H
          clear H
          go_wp2
          go_meet
          case rel => exact ⟨_, (0), (by first | rfl | (simp; done) | (simp [*]; done)), H', ⟨by have := HJ6.out; have := HK2.out; first | omega | exact Nat.le_refl _⟩, ⟨by (with_reducible repeat (first | apply Kd.R_alloc | apply Kd.R_drewN | apply Kd.R_drew)); exact HO_13.out⟩, ⟨by repeat (first | (with_reducible first | exact HB.out | apply below_alloc | apply pw_below_drewN | apply below_drew1) | exact HB.out)⟩⟩
        case rest =>
         clear HC24
         try clear c1
         try clear c2
         try clear p2
         try clear p3
         try clear q3
         try clear hx3
         try clear c6
         try clear c8
         try clear c8b0
         try clear c9
         try clear c10
         try clear c12
         try clear c14
         try clear c16
         try clear c20
         try clear c21
         try clear c21b0
         try clear c22
         try clear c22b0
         try clear c27
         try clear hx378_0
         try clear p2
         try clear p378
         try clear q378
         obtain ⟨kq, x15_23, rfl, HA, HJ23, HO_13, HB⟩ := hcut
         cases kq with
         | zero => exact absurd HA.out (by simp [stowagelaw12_MetaApart.j2])
         | succ kj23 =>
          have H := HA.out
          clear HA
          simp only [stowagelaw12_MetaApart.j2] at H
          replace H := itO H
          rcases H with ⟨c28, H⟩ | ⟨c28, H⟩
          ·skip
           have c28b0 : decide (0 ≤ x14_2) = true := decide_eq_true c28
           clear c28
           replace H := itO H
           rcases H with ⟨c29, H⟩ | ⟨c29, H⟩
           ·skip
            have c29b0 : decide (x14_2 < (y375.length : Int)) = true := decide_eq_true c29
            clear c29
            replace H := bndO H
            obtain ⟨⟨t382, t383, t384, t385⟩, A300, H⟩ := H
            dsimp only at H
            have A30 := Aside0.mk A300
            clear A300
            have HC31 := Aside0.mk H
            clear H
            have p381 : 0 ≤ (x14_2 : Int) := of_decide_eq_true (by first | (with_reducible assumption) | assumption)
            have q381 : x14_2 < (y375.length : Int) := of_decide_eq_true (by first | (with_reducible assumption) | assumption)
            obtain ⟨ad381, e381, hx381_0⟩ := Kd.at_string (Kd.R_reads' HO_13.out).2.2 x14_2 p381 q381
            obtain rfl : ad378 = ad381 := (by injection e381)
            replace p381 := eq_true p381
            replace q381 := eq_true q381
            go_upto_if 85 with (first | ((with_reducible refine gate_callee (f := 24) rfl ?_); refine goesL_ (some 80) rfl rfl Tryd.func24 (by kernel_rfl) rfl #[.string (rdOf ByteArray.empty y375 x14_2)] rfl (by (try simp only [List.map_toArray, List.map_cons, List.map_nil]); first | done | rfl | (simp only [List.length_drop, List.length_take]; rfl)) ?_; (with_reducible refine (meta_ParseObject.calls kj23 (rdOf ByteArray.empty y375 x14_2) t382 t383 t384 t385 _ A30.out).mono ?_); rintro e w32 ⟨rfl, hb⟩; refine ⟨_, rfl, ?_⟩; have n0_ := Aside0.mk (Kd.R_below (by (with_reducible repeat (first | apply Kd.R_alloc | apply Kd.R_drewN | apply Kd.R_drew)); exact HO_13.out) hb); have n1_ := Aside0.mk (below_step (by repeat (first | (with_reducible first | exact HB.out | apply below_alloc | apply pw_below_drewN | apply below_drew1) | exact HB.out)) hb); clear HO_13; clear HB; have HO_13 := n0_; have HB := n1_; clear n0_ n1_; (try clear hb); (try clear hb2); (try clear hk); (try clear hi)))
            (try simp only [Act.put, List.setIfInBounds_toArray, List.set_cons_zero, List.set_cons_succ])
            go_cut [15] (fun v15 wc => ∃ (kq : Nat) (x15_30 : Int), v15 = .int .i64 x15_30 ∧ Aside0 (stowagelaw12_MetaApart.j3 kq a0 a1 a2 a3 a4 a5 y375 x14_2 x15_30 = some r) ∧ Aside0 (kq ≤ kj23) ∧ Aside0 (Kd.R Kd.string 9 wc w.heap.size (fun _ => True) (.slice (some ad378) y375.length co25) y375) ∧ Aside0 (Below w.heap.size w wc))
            case first =>
             have H := HC31.out
             clear HC31
             by_cases c33 : t385 = true
             ·subst c33
              replace H := itT H
              have H' := Aside0.mk H
              clear H
              go_wp2
              go_meet
              case rel => exact ⟨_, (wrap64 (x15_23 + 1)), (by first | rfl | (simp; done) | (simp [*]; done)), H', ⟨by have := HJ6.out; have := HK2.out; have := HJ23.out; first | omega | exact Nat.le_refl _⟩, ⟨by (with_reducible repeat (first | apply Kd.R_alloc | apply Kd.R_drewN | apply Kd.R_drew)); exact HO_13.out⟩, ⟨by repeat (first | (with_reducible first | exact HB.out | apply below_alloc | apply pw_below_drewN | apply below_drew1) | exact HB.out)⟩⟩
             ·replace c33 := Bool.eq_false_iff.mpr c33
              subst c33
              replace H := itF H
              have H' := Aside0.mk H
              clear H
              go_wp2
              go_meet
              case rel => exact ⟨_, (x15_23), (by first | rfl | (simp; done) | (simp [*]; done)), H', ⟨by have := HJ6.out; have := HK2.out; have := HJ23.out; first | omega | exact Nat.le_refl _⟩, ⟨by (with_reducible repeat (first | apply Kd.R_alloc | apply Kd.R_drewN | apply Kd.R_drew)); exact HO_13.out⟩, ⟨by repeat (first | (with_reducible first | exact HB.out | apply below_alloc | apply pw_below_drewN | apply below_drew1) | exact HB.out)⟩⟩
            case rest =>
             clear HC31
             try clear c1
             try clear c2
             try clear p2
             try clear c3
             try clear p3
             try clear q3
             try clear hx3
             try clear c6
             try clear p6
             try clear c8
             try clear c8b0
             try clear c9
             try clear c10
             try clear c12
             try clear c14
             try clear c16
             try clear c20
             try clear c21
             try clear c21b0
             try clear c22
             try clear c22b0
             try clear c24
             try clear c27
             try clear c28
             try clear c28b0
             try clear c29
             try clear c29b0
             try clear c33
             try clear hx378_0
             try clear hx381_0
             try clear p2
             try clear p3
             try clear p378
             try clear p381
             try clear q3
             try clear q378
             try clear q381
             obtain ⟨kq, x15_30, rfl, HA, HJ30, HO_13, HB⟩ := hcut
             cases kq with
             | zero => exact absurd HA.out (by simp [stowagelaw12_MetaApart.j3])
             | succ kj30 =>
              have H := HA.out
              clear HA
              simp only [stowagelaw12_MetaApart.j3] at H
              replace H := itO H
              rcases H with ⟨c34, H⟩ | ⟨c34, H⟩
              ·skip
               have c34b0 : decide (0 ≤ x14_2) = true := decide_eq_true c34
               clear c34
               replace H := itO H
               rcases H with ⟨c35, H⟩ | ⟨c35, H⟩
               ·skip
                have c35b0 : decide (x14_2 < (y375.length : Int)) = true := decide_eq_true c35
                clear c35
                replace H := bndO H
                obtain ⟨⟨t387, t388, t389, t390⟩, A360, H⟩ := H
                dsimp only at H
                have A36 := Aside0.mk A360
                clear A360
                have HC37 := Aside0.mk H
                clear H
                have p386 : 0 ≤ (x14_2 : Int) := of_decide_eq_true (by first | (with_reducible assumption) | assumption)
                have q386 : x14_2 < (y375.length : Int) := of_decide_eq_true (by first | (with_reducible assumption) | assumption)
                obtain ⟨ad386, e386, hx386_0⟩ := Kd.at_string (Kd.R_reads' HO_13.out).2.2 x14_2 p386 q386
                obtain rfl : ad378 = ad386 := (by injection e386)
                replace p386 := eq_true p386
                replace q386 := eq_true q386
                go_upto_if 98 with (first | ((with_reducible refine gate_callee (f := 22) rfl ?_); refine goesL_ (some 93) rfl rfl Tryd.func22 (by kernel_rfl) rfl #[.string (rdOf ByteArray.empty y375 x14_2)] rfl (by (try simp only [List.map_toArray, List.map_cons, List.map_nil]); first | done | rfl | (simp only [List.length_drop, List.length_take]; rfl)) ?_; (with_reducible refine (meta_ParseUpload.calls kj30 (rdOf ByteArray.empty y375 x14_2) t387 t388 t389 t390 _ A36.out).mono ?_); rintro e w38 ⟨rfl, hb⟩; refine ⟨_, rfl, ?_⟩; have n0_ := Aside0.mk (Kd.R_below (by (with_reducible repeat (first | apply Kd.R_alloc | apply Kd.R_drewN | apply Kd.R_drew)); exact HO_13.out) hb); have n1_ := Aside0.mk (below_step (by repeat (first | (with_reducible first | exact HB.out | apply below_alloc | apply pw_below_drewN | apply below_drew1) | exact HB.out)) hb); clear HO_13; clear HB; have HO_13 := n0_; have HB := n1_; clear n0_ n1_; (try clear hb); (try clear hb2); (try clear hk); (try clear hi)))
                (try simp only [Act.put, List.setIfInBounds_toArray, List.set_cons_zero, List.set_cons_succ])
                go_cut [15] (fun v15 wc => ∃ (kq : Nat) (x15_36 : Int), v15 = .int .i64 x15_36 ∧ Aside0 (stowagelaw12_MetaApart.j4 kq a0 a1 a2 a3 a4 a5 y375 x14_2 x15_36 = some r) ∧ Aside0 (kq ≤ kj30) ∧ Aside0 (Kd.R Kd.string 9 wc w.heap.size (fun _ => True) (.slice (some ad378) y375.length co25) y375) ∧ Aside0 (Below w.heap.size w wc))
                case first =>
                 have H := HC37.out
                 clear HC37
                 by_cases c39 : t390 = true
                 ·subst c39
                  replace H := itT H
                  have H' := Aside0.mk H
                  clear H
                  go_wp2
                  go_meet
                  case rel => exact ⟨_, (wrap64 (x15_30 + 1)), (by first | rfl | (simp; done) | (simp [*]; done)), H', ⟨by have := HJ6.out; have := HK2.out; have := HJ23.out; have := HJ30.out; first | omega | exact Nat.le_refl _⟩, ⟨by (with_reducible repeat (first | apply Kd.R_alloc | apply Kd.R_drewN | apply Kd.R_drew)); exact HO_13.out⟩, ⟨by repeat (first | (with_reducible first | exact HB.out | apply below_alloc | apply pw_below_drewN | apply below_drew1) | exact HB.out)⟩⟩
                 ·replace c39 := Bool.eq_false_iff.mpr c39
                  subst c39
                  replace H := itF H
                  have H' := Aside0.mk H
                  clear H
                  go_wp2
                  go_meet
                  case rel => exact ⟨_, (x15_30), (by first | rfl | (simp; done) | (simp [*]; done)), H', ⟨by have := HJ6.out; have := HK2.out; have := HJ23.out; have := HJ30.out; first | omega | exact Nat.le_refl _⟩, ⟨by (with_reducible repeat (first | apply Kd.R_alloc | apply Kd.R_drewN | apply Kd.R_drew)); exact HO_13.out⟩, ⟨by repeat (first | (with_reducible first | exact HB.out | apply below_alloc | apply pw_below_drewN | apply below_drew1) | exact HB.out)⟩⟩
                case rest =>
                 clear HC37
                 try clear c1
                 try clear c2
                 try clear p2
                 try clear c3
                 try clear p3
                 try clear q3
                 try clear hx3
                 try clear c6
                 try clear p6
                 try clear c8
                 try clear c8b0
                 try clear c9
                 try clear c10
                 try clear c12
                 try clear c14
                 try clear c16
                 try clear c20
                 try clear c21
                 try clear c21b0
                 try clear c22
                 try clear c22b0
                 try clear c24
                 try clear c27
                 try clear c28
                 try clear c28b0
                 try clear c29
                 try clear c29b0
                 try clear c33
                 try clear c34
                 try clear c34b0
                 try clear c35
                 try clear c35b0
                 try clear p37
                 try clear q37
                 try clear hx37
                 try clear p38
                 try clear q38
                 try clear hx38
                 try clear c39
                 try clear hx378_0
                 try clear hx381_0
                 try clear hx386_0
                 try clear p2
                 try clear p3
                 try clear p378
                 try clear p381
                 try clear p386
                 try clear p6
                 try clear q3
                 try clear q378
                 try clear q381
                 try clear q386
                 obtain ⟨kq, x15_36, rfl, HA, HJ36, HO_13, HB⟩ := hcut
                 cases kq with
                 | zero => exact absurd HA.out (by simp [stowagelaw12_MetaApart.j4])
                 | succ kj36 =>
                  have H := HA.out
                  clear HA
                  simp only [stowagelaw12_MetaApart.j4] at H
                  replace H := itO H
                  rcases H with ⟨c40, H⟩ | ⟨c40, H⟩
                  ·skip
                   have c40b0 : decide (0 ≤ x14_2) = true := decide_eq_true c40
                   clear c40
                   replace H := itO H
                   rcases H with ⟨c41, H⟩ | ⟨c41, H⟩
                   ·skip
                    have c41b0 : decide (x14_2 < (y375.length : Int)) = true := decide_eq_true c41
                    clear c41
                    replace H := bndO H
                    obtain ⟨⟨t392, t393, t394⟩, A420, H⟩ := H
                    dsimp only at H
                    have A42 := Aside0.mk A420
                    clear A420
                    by_cases c43 : t394 = true
                    ·subst c43
                     replace H := itT H
                     replace H := itO H
                     rcases H with ⟨c44, H⟩ | ⟨c44, H⟩
                     ·skip
                      have c44b0 : decide (1 < (wrap64 (x15_36 + 1))) = true := decide_eq_true c44
                      clear c44
                      rw [hr] at H
                      exact absurd H (by simp)
                     ·skip
                      have c44b0 : decide (1 < (wrap64 (x15_36 + 1))) = false := decide_eq_false c44
                      clear c44
                      have H' := Aside0.mk H
                      clear H
                      have p391 : 0 ≤ (x14_2 : Int) := of_decide_eq_true (by first | (with_reducible assumption) | assumption)
                      have q391 : x14_2 < (y375.length : Int) := of_decide_eq_true (by first | (with_reducible assumption) | assumption)
                      obtain ⟨ad391, e391, hx391_0⟩ := Kd.at_string (Kd.R_reads' HO_13.out).2.2 x14_2 p391 q391
                      obtain rfl : ad378 = ad391 := (by injection e391)
                      replace p391 := eq_true p391
                      replace q391 := eq_true q391
                      go_wp2_with (first | ((with_reducible refine gate_callee (f := 27) rfl ?_); refine goesL_ (some 106) rfl rfl Tryd.func27 (by kernel_rfl) rfl #[.string (rdOf ByteArray.empty y375 x14_2)] rfl (by (try simp only [List.map_toArray, List.map_cons, List.map_nil]); first | done | rfl | (simp only [List.length_drop, List.length_take]; rfl)) ?_; (with_reducible refine (meta_ParsePart.calls kj36 (rdOf ByteArray.empty y375 x14_2) t392 t393 true _ A42.out).mono ?_); rintro e w45 ⟨rfl, hb⟩; refine ⟨_, rfl, ?_⟩; have n0_ := Aside0.mk (Kd.R_below (by (with_reducible repeat (first | apply Kd.R_alloc | apply Kd.R_drewN | apply Kd.R_drew)); exact HO_13.out) hb); have n1_ := Aside0.mk (below_step (by repeat (first | (with_reducible first | exact HB.out | apply below_alloc | apply pw_below_drewN | apply below_drew1) | exact HB.out)) hb); clear HO_13; clear HB; have HO_13 := n0_; have HB := n1_; clear n0_ n1_; (try clear hb); (try clear hb2); (try clear hk); (try clear hi)))
                      go_roundg kj36
                      case measure => have := HJ6.out; have := HK2.out; have := HJ23.out; have := HJ30.out; have := HJ36.out; omega
                      case rel => exact ⟨(wrap64 (x14_2 + 1)), (by first | rfl | (simp; done) | (simp [*]; done)), H', ⟨by have := HJ6.out; have := HK2.out; have := HJ23.out; have := HJ30.out; have := HJ36.out; omega⟩, ⟨by (with_reducible repeat (first | apply Kd.R_alloc | apply Kd.R_drewN | apply Kd.R_drew)); exact HO_13.out⟩, ⟨by repeat (first | (with_reducible first | exact HB.out | apply below_alloc | apply pw_below_drewN | apply below_drew1) | exact HB.out)⟩⟩
                    ·replace c43 := Bool.eq_false_iff.mpr c43
                     subst c43
                     replace H := itF H
                     replace H := itO H
                     rcases H with ⟨c46, H⟩ | ⟨c46, H⟩
                     ·skip
                      have c46b0 : decide (1 < x15_36) = true := decide_eq_true c46
                      clear c46
                      rw [hr] at H
                      exact absurd H (by simp)
                     ·skip
                      have c46b0 : decide (1 < x15_36) = false := decide_eq_false c46
                      clear c46
                      have H' := Aside0.mk H
                      clear H
                      have p391 : 0 ≤ (x14_2 : Int) := of_decide_eq_true (by first | (with_reducible assumption) | assumption)
                      have q391 : x14_2 < (y375.length : Int) := of_decide_eq_true (by first | (with_reducible assumption) | assumption)
                      obtain ⟨ad391, e391, hx391_0⟩ := Kd.at_string (Kd.R_reads' HO_13.out).2.2 x14_2 p391 q391
                      obtain rfl : ad378 = ad391 := (by injection e391)
                      replace p391 := eq_true p391
                      replace q391 := eq_true q391
                      go_wp2_with (first | ((with_reducible refine gate_callee (f := 27) rfl ?_); refine goesL_ (some 106) rfl rfl Tryd.func27 (by kernel_rfl) rfl #[.string (rdOf ByteArray.empty y375 x14_2)] rfl (by (try simp only [List.map_toArray, List.map_cons, List.map_nil]); first | done | rfl | (simp only [List.length_drop, List.length_take]; rfl)) ?_; (with_reducible refine (meta_ParsePart.calls kj36 (rdOf ByteArray.empty y375 x14_2) t392 t393 false _ A42.out).mono ?_); rintro e w47 ⟨rfl, hb⟩; refine ⟨_, rfl, ?_⟩; have n0_ := Aside0.mk (Kd.R_below (by (with_reducible repeat (first | apply Kd.R_alloc | apply Kd.R_drewN | apply Kd.R_drew)); exact HO_13.out) hb); have n1_ := Aside0.mk (below_step (by repeat (first | (with_reducible first | exact HB.out | apply below_alloc | apply pw_below_drewN | apply below_drew1) | exact HB.out)) hb); clear HO_13; clear HB; have HO_13 := n0_; have HB := n1_; clear n0_ n1_; (try clear hb); (try clear hb2); (try clear hk); (try clear hi)))
                      go_roundg kj36
                      case measure => have := HJ6.out; have := HK2.out; have := HJ23.out; have := HJ30.out; have := HJ36.out; omega
                      case rel => exact ⟨(wrap64 (x14_2 + 1)), (by first | rfl | (simp; done) | (simp [*]; done)), H', ⟨by have := HJ6.out; have := HK2.out; have := HJ23.out; have := HJ30.out; have := HJ36.out; omega⟩, ⟨by (with_reducible repeat (first | apply Kd.R_alloc | apply Kd.R_drewN | apply Kd.R_drew)); exact HO_13.out⟩, ⟨by repeat (first | (with_reducible first | exact HB.out | apply below_alloc | apply pw_below_drewN | apply below_drew1) | exact HB.out)⟩⟩
                   ·exact absurd H (by simp)
                  ·exact absurd H (by simp)
               ·exact absurd H (by simp)
              ·exact absurd H (by simp)
           ·exact absurd H (by simp)
          ·exact absurd H (by simp)
       ·exact absurd H (by simp)
      ·skip
       have c21b0 : decide (x14_2 < (y375.length : Int)) = false := decide_eq_false c21
       clear c21
       replace H := itO H
       rcases H with ⟨c48, H⟩ | ⟨c48, H⟩
       ·skip
        have c48b0 : decide (1 < (y375.length : Int)) = true := decide_eq_true c48
        have c48b1 : decide (1 < y375.length) = true := decide_eq_true (by omega)
        clear c48
        replace H := bndO H
        obtain ⟨⟨t396, t397, t398, t399⟩, A490, H⟩ := H
        dsimp only at H
        have A49 := Aside0.mk A490
        clear A490
        by_cases c50 : t399 = true
        ·subst c50
         replace H := itT H
         replace H := bndO H
         obtain ⟨t401, A510, H⟩ := H
         have A51 := Aside0.mk A510
         clear A510
         replace H := bndO H
         obtain ⟨⟨t402, t403, t404, t405⟩, A520, H⟩ := H
         dsimp only at H
         have A52 := Aside0.mk A520
         clear A520
         by_cases c53 : t405 = true
         ·subst c53
          replace H := itT H
          replace H := bndO H
          obtain ⟨t407, A540, H⟩ := H
          have A54 := Aside0.mk A540
          clear A540
          replace H := bndO H
          obtain ⟨t408, A550, H⟩ := H
          have A55 := Aside0.mk A550
          clear A550
          replace H := itO H
          rcases H with ⟨c56, H⟩ | ⟨c56, H⟩
          ·skip
           have c56b0 : (a0.toList == a1.toList) = true := beq_iff_eq.mpr c56
           have c56b1 : (a0.toList != a1.toList) = false := bne_eq_false_iff_eq.mpr c56
           clear c56
           replace H := itO H
           rcases H with ⟨c57, H⟩ | ⟨c57, H⟩
           ·skip
            have c57b0 : (a2.toList == a3.toList) = true := beq_iff_eq.mpr c57
            have c57b1 : (a2.toList != a3.toList) = false := bne_eq_false_iff_eq.mpr c57
            clear c57
            replace H := itO H
            rcases H with ⟨c58, H⟩ | ⟨c58, H⟩
            ·skip
             have c58b0 : ((t407.toList == t408.toList) == (a4 == a5)) = true := c58
             (try (have c58b1 : decide ((t407.toList == t408.toList) = (a4 == a5)) = true := by simpa using c58))
             (try (have c58b2 : ((t407.toList == t408.toList) == (a4 == a5)) = true := by simpa using c58))
             clear c58
             replace H := bndO H
             obtain ⟨t409, A590, H⟩ := H
             have A59 := Aside0.mk A590
             clear A590
             replace H := bndO H
             obtain ⟨t410, A600, H⟩ := H
             have A60 := Aside0.mk A600
             clear A600
             replace H := itO H
             rcases H with ⟨c61, H⟩ | ⟨c61, H⟩
             ·skip
              have c61b0 : ((t409.toList == t410.toList) == (a4 == a5)) = true := c61
              (try (have c61b1 : decide ((t409.toList == t410.toList) = (a4 == a5)) = true := by simpa using c61))
              (try (have c61b2 : ((t409.toList == t410.toList) == (a4 == a5)) = true := by simpa using c61))
              clear c61
              replace H := bndO H
              obtain ⟨t411, A620, H⟩ := H
              have A62 := Aside0.mk A620
              clear A620
              replace H := bndO H
              obtain ⟨t412, A630, H⟩ := H
              have A63 := Aside0.mk A630
              clear A630
              replace H := itO H
              rcases H with ⟨c64, H⟩ | ⟨c64, H⟩
              ·skip
               have c64b0 : ((t411.toList == t412.toList) == (a4 == a5)) = true := c64
               (try (have c64b1 : decide ((t411.toList == t412.toList) = (a4 == a5)) = true := by simpa using c64))
               (try (have c64b2 : ((t411.toList == t412.toList) == (a4 == a5)) = true := by simpa using c64))
               clear c64
               replace H := bndO H
               obtain ⟨t413, A650, H⟩ := H
               have A65 := Aside0.mk A650
               clear A650
               clear hr
               obtain rfl := Option.some.inj H
               obtain ⟨Ao66, co66, eo66⟩ := Kd.R_slice HO_13.out
               subst eo66
               have p395 : 0 ≤ (1 : Int) := (by omega)
               have q395 : 1 < (y375.length : Int) := of_decide_eq_true (by first | (with_reducible assumption) | assumption)
               obtain ⟨ad395, e395, hx395_0⟩ := Kd.at_string (Kd.R_reads' HO_13.out).2.2 1 p395 q395
               cases e395
               (try simp only [show (1 : Int).toNat = 1 from rfl, Nat.reduceMul, Nat.reduceEqDiff, Go.Addr.add, ↓reduceIte] at hx395_0)
               have qi395 : (1 < y375.length) = True := eq_true (by omega)
               (try rw [show ((1 : Int)).toNat = 1 from rfl] at hx395_0)
               replace p395 := eq_true p395
               replace q395 := eq_true q395
               go_wp2_with (first | ((with_reducible refine gate_callee (f := 24) rfl ?_); refine goesL_ (some 119) rfl rfl Tryd.func24 (by kernel_rfl) rfl #[.string (rdOf ByteArray.empty y375 1)] rfl (by (try simp only [List.map_toArray, List.map_cons, List.map_nil]); first | done | rfl | (simp only [List.length_drop, List.length_take]; rfl)) ?_; (with_reducible refine (meta_ParseObject.calls k2 (rdOf ByteArray.empty y375 1) t396 t397 t398 true _ A49.out).mono ?_); rintro e w67 ⟨rfl, hb⟩; refine ⟨_, rfl, ?_⟩; have n0_ := Aside0.mk (Kd.R_below (by (with_reducible repeat (first | apply Kd.R_alloc | apply Kd.R_drewN | apply Kd.R_drew)); exact HO_13.out) hb); have n1_ := Aside0.mk (below_step (by repeat (first | (with_reducible first | exact HB.out | apply below_alloc | apply pw_below_drewN | apply below_drew1) | exact HB.out)) hb); clear HO_13; clear HB; have HO_13 := n0_; have HB := n1_; clear n0_ n1_; (try clear hb); (try clear hb2); (try clear hk); (try clear hi)) | ((with_reducible refine gate_callee (f := 12) rfl ?_); refine goesL_ (some 131) rfl rfl Tryd.func12 (by kernel_rfl) rfl #[.string a1, .string a3, .int .i64 a5] rfl (by (try simp only [List.map_toArray, List.map_cons, List.map_nil]); first | done | rfl | (simp only [List.length_drop, List.length_take]; rfl)) ?_; (with_reducible refine (meta_ObjectKey.calls k2 a1 a3 a5 t401 _ A51.out).mono ?_); rintro e w68 ⟨rfl, hb⟩; refine ⟨_, rfl, ?_⟩; have n0_ := Aside0.mk (Kd.R_below (by (with_reducible repeat (first | apply Kd.R_alloc | apply Kd.R_drewN | apply Kd.R_drew)); exact HO_13.out) hb); have n1_ := Aside0.mk (below_step (by repeat (first | (with_reducible first | exact HB.out | apply below_alloc | apply pw_below_drewN | apply below_drew1) | exact HB.out)) hb); clear HO_13; clear HB; have HO_13 := n0_; have HB := n1_; clear n0_ n1_; (try clear hb); (try clear hb2); (try clear hk); (try clear hi); (try clear A51)) | ((with_reducible refine gate_callee (f := 24) rfl ?_); refine goesL_ (some 132) rfl rfl Tryd.func24 (by kernel_rfl) rfl #[.string t401] rfl (by (try simp only [List.map_toArray, List.map_cons, List.map_nil]); first | done | rfl | (simp only [List.length_drop, List.length_take]; rfl)) ?_; (with_reducible refine (meta_ParseObject.calls k2 t401 t402 t403 t404 true _ A52.out).mono ?_); rintro e w69 ⟨rfl, hb⟩; refine ⟨_, rfl, ?_⟩; have n0_ := Aside0.mk (Kd.R_below (by (with_reducible repeat (first | apply Kd.R_alloc | apply Kd.R_drewN | apply Kd.R_drew)); exact HO_13.out) hb); have n1_ := Aside0.mk (below_step (by repeat (first | (with_reducible first | exact HB.out | apply below_alloc | apply pw_below_drewN | apply below_drew1) | exact HB.out)) hb); clear HO_13; clear HB; have HO_13 := n0_; have HB := n1_; clear n0_ n1_; (try clear hb); (try clear hb2); (try clear hk); (try clear hi)) | ((with_reducible refine gate_callee (f := 12) rfl ?_); refine goesL_ (some 143) rfl rfl Tryd.func12 (by kernel_rfl) rfl #[.string a0, .string a2, .int .i64 a4] rfl (by (try simp only [List.map_toArray, List.map_cons, List.map_nil]); first | done | rfl | (simp only [List.length_drop, List.length_take]; rfl)) ?_; (with_reducible refine (meta_ObjectKey.calls k2 a0 a2 a4 t407 _ A54.out).mono ?_); rintro e w70 ⟨rfl, hb⟩; refine ⟨_, rfl, ?_⟩; have n0_ := Aside0.mk (Kd.R_below (by (with_reducible repeat (first | apply Kd.R_alloc | apply Kd.R_drewN | apply Kd.R_drew)); exact HO_13.out) hb); have n1_ := Aside0.mk (below_step (by repeat (first | (with_reducible first | exact HB.out | apply below_alloc | apply pw_below_drewN | apply below_drew1) | exact HB.out)) hb); clear HO_13; clear HB; have HO_13 := n0_; have HB := n1_; clear n0_ n1_; (try clear hb); (try clear hb2); (try clear hk); (try clear hi)) | ((with_reducible refine gate_callee (f := 12) rfl ?_); refine goesL_ (some 147) rfl rfl Tryd.func12 (by kernel_rfl) rfl #[.string a1, .string a3, .int .i64 a5] rfl (by (try simp only [List.map_toArray, List.map_cons, List.map_nil]); first | done | rfl | (simp only [List.length_drop, List.length_take]; rfl)) ?_; (with_reducible refine (meta_ObjectKey.calls k2 a1 a3 a5 t408 _ A55.out).mono ?_); rintro e w71 ⟨rfl, hb⟩; refine ⟨_, rfl, ?_⟩; have n0_ := Aside0.mk (Kd.R_below (by (with_reducible repeat (first | apply Kd.R_alloc | apply Kd.R_drewN | apply Kd.R_drew)); exact HO_13.out) hb); have n1_ := Aside0.mk (below_step (by repeat (first | (with_reducible first | exact HB.out | apply below_alloc | apply pw_below_drewN | apply below_drew1) | exact HB.out)) hb); clear HO_13; clear HB; have HO_13 := n0_; have HB := n1_; clear n0_ n1_; (try clear hb); (try clear hb2); (try clear hk); (try clear hi); (try clear A55)) | (go_at_call 16; (with_reducible refine (meta_PartKey.calls k2 a4 a5 t409 _ A59.out).mono ?_); rintro e w72 ⟨rfl, hb⟩; have n0_ := Aside0.mk (Kd.R_below (by (with_reducible repeat (first | apply Kd.R_alloc | apply Kd.R_drewN | apply Kd.R_drew)); exact HO_13.out) hb); have n1_ := Aside0.mk (below_step (by repeat (first | (with_reducible first | exact HB.out | apply below_alloc | apply pw_below_drewN | apply below_drew1) | exact HB.out)) hb); clear HO_13; clear HB; have HO_13 := n0_; have HB := n1_; clear n0_ n1_; (try clear hb); (try clear hb2); (try clear hk); (try clear hi)) | (go_at_call 16; (with_reducible refine (meta_PartKey.calls k2 a5 a4 t410 _ A60.out).mono ?_); rintro e w73 ⟨rfl, hb⟩; have n0_ := Aside0.mk (Kd.R_below (by (with_reducible repeat (first | apply Kd.R_alloc | apply Kd.R_drewN | apply Kd.R_drew)); exact HO_13.out) hb); have n1_ := Aside0.mk (below_step (by repeat (first | (with_reducible first | exact HB.out | apply below_alloc | apply pw_below_drewN | apply below_drew1) | exact HB.out)) hb); clear HO_13; clear HB; have HO_13 := n0_; have HB := n1_; clear n0_ n1_; (try clear hb); (try clear hb2); (try clear hk); (try clear hi)) | (go_at_call 18; (with_reducible refine (meta_ID.calls k2 a4 t411 _ A62.out).mono ?_); rintro e w74 ⟨rfl, hb⟩; have n0_ := Aside0.mk (Kd.R_below (by (with_reducible repeat (first | apply Kd.R_alloc | apply Kd.R_drewN | apply Kd.R_drew)); exact HO_13.out) hb); have n1_ := Aside0.mk (below_step (by repeat (first | (with_reducible first | exact HB.out | apply below_alloc | apply pw_below_drewN | apply below_drew1) | exact HB.out)) hb); clear HO_13; clear HB; have HO_13 := n0_; have HB := n1_; clear n0_ n1_; (try clear hb); (try clear hb2); (try clear hk); (try clear hi)) | (go_at_call 18; (with_reducible refine (meta_ID.calls k2 a5 t412 _ A63.out).mono ?_); rintro e w75 ⟨rfl, hb⟩; have n0_ := Aside0.mk (Kd.R_below (by (with_reducible repeat (first | apply Kd.R_alloc | apply Kd.R_drewN | apply Kd.R_drew)); exact HO_13.out) hb); have n1_ := Aside0.mk (below_step (by repeat (first | (with_reducible first | exact HB.out | apply below_alloc | apply pw_below_drewN | apply below_drew1) | exact HB.out)) hb); clear HO_13; clear HB; have HO_13 := n0_; have HB := n1_; clear n0_ n1_; (try clear hb); (try clear hb2); (try clear hk); (try clear hi)) | (go_at_call 20; (with_reducible refine (stowagelaw12_awake.calls k2  t413 _ A65.out).mono ?_); rintro e w76 ⟨rfl, hb⟩; have n0_ := Aside0.mk (Kd.R_below (by (with_reducible repeat (first | apply Kd.R_alloc | apply Kd.R_drewN | apply Kd.R_drew)); exact HO_13.out) hb); have n1_ := Aside0.mk (below_step (by repeat (first | (with_reducible first | exact HB.out | apply below_alloc | apply pw_below_drewN | apply below_drew1) | exact HB.out)) hb); clear HO_13; clear HB; have HO_13 := n0_; have HB := n1_; clear n0_ n1_; (try clear hb); (try clear hb2); (try clear hk); (try clear hi)))
               go_ret
               exact ⟨by first | rfl | (simp [errW_none, errW_some] <;> rfl) | (simp [*, errW_none, errW_some] <;> rfl), by repeat (first | (with_reducible first | exact HB.out | apply below_alloc | apply pw_below_drewN | apply below_drew1) | exact HB.out)⟩
              ·skip
               have c64b0 : ((t411.toList == t412.toList) == (a4 == a5)) = false := by simpa using c64
               (try (have c64b1 : decide ((t411.toList == t412.toList) = (a4 == a5)) = false := by simpa using c64))
               (try (have c64b2 : ((t411.toList == t412.toList) == (a4 == a5)) = false := by simpa using c64))
               (try (have c64b3 : ¬ ((t411.toList == t412.toList) = (a4 == a5)) := by simpa using c64))
               clear c64
               rw [hr] at H
               exact absurd H (by simp)
             ·skip
              have c61b0 : ((t409.toList == t410.toList) == (a4 == a5)) = false := by simpa using c61
              (try (have c61b1 : decide ((t409.toList == t410.toList) = (a4 == a5)) = false := by simpa using c61))
              (try (have c61b2 : ((t409.toList == t410.toList) == (a4 == a5)) = false := by simpa using c61))
              (try (have c61b3 : ¬ ((t409.toList == t410.toList) = (a4 == a5)) := by simpa using c61))
              clear c61
              rw [hr] at H
              exact absurd H (by simp)
            ·skip
             have c58b0 : ((t407.toList == t408.toList) == (a4 == a5)) = false := by simpa using c58
             (try (have c58b1 : decide ((t407.toList == t408.toList) = (a4 == a5)) = false := by simpa using c58))
             (try (have c58b2 : ((t407.toList == t408.toList) == (a4 == a5)) = false := by simpa using c58))
             (try (have c58b3 : ¬ ((t407.toList == t408.toList) = (a4 == a5)) := by simpa using c58))
             clear c58
             rw [hr] at H
             exact absurd H (by simp)
           ·skip
            have c57b0 : (a2.toList == a3.toList) = false := beq_eq_false_iff_ne.mpr c57
            have c57b1 : (a2.toList != a3.toList) = true := bne_iff_ne.mpr c57
            replace H := itO H
            rcases H with ⟨c77, H⟩ | ⟨c77, H⟩
            ·skip
             have c77b0 : ((t407.toList == t408.toList) == false) = true := c77
             (try (have c77b1 : decide ((t407.toList == t408.toList) = false) = true := by simpa using c77))
             (try (have c77b2 : ((t407.toList == t408.toList) == false) = true := by simpa using c77))
             clear c77
             replace H := bndO H
             obtain ⟨t414, A780, H⟩ := H
             have A78 := Aside0.mk A780
             clear A780
             replace H := bndO H
             obtain ⟨t415, A790, H⟩ := H
             have A79 := Aside0.mk A790
             clear A790
             replace H := itO H
             rcases H with ⟨c80, H⟩ | ⟨c80, H⟩
             ·skip
              have c80b0 : ((t414.toList == t415.toList) == (a4 == a5)) = true := c80
              (try (have c80b1 : decide ((t414.toList == t415.toList) = (a4 == a5)) = true := by simpa using c80))
              (try (have c80b2 : ((t414.toList == t415.toList) == (a4 == a5)) = true := by simpa using c80))
              clear c80
              replace H := bndO H
              obtain ⟨t416, A810, H⟩ := H
              have A81 := Aside0.mk A810
              clear A810
              replace H := bndO H
              obtain ⟨t417, A820, H⟩ := H
              have A82 := Aside0.mk A820
              clear A820
              replace H := itO H
              rcases H with ⟨c83, H⟩ | ⟨c83, H⟩
              ·skip
               have c83b0 : ((t416.toList == t417.toList) == (a4 == a5)) = true := c83
               (try (have c83b1 : decide ((t416.toList == t417.toList) = (a4 == a5)) = true := by simpa using c83))
               (try (have c83b2 : ((t416.toList == t417.toList) == (a4 == a5)) = true := by simpa using c83))
               clear c83
               replace H := bndO H
               obtain ⟨t418, A840, H⟩ := H
               have A84 := Aside0.mk A840
               clear A840
               clear hr
               obtain rfl := Option.some.inj H
               obtain ⟨Ao85, co85, eo85⟩ := Kd.R_slice HO_13.out
               subst eo85
               have p395 : 0 ≤ (1 : Int) := (by omega)
               have q395 : 1 < (y375.length : Int) := of_decide_eq_true (by first | (with_reducible assumption) | assumption)
               obtain ⟨ad395, e395, hx395_0⟩ := Kd.at_string (Kd.R_reads' HO_13.out).2.2 1 p395 q395
               cases e395
               (try simp only [show (1 : Int).toNat = 1 from rfl, Nat.reduceMul, Nat.reduceEqDiff, Go.Addr.add, ↓reduceIte] at hx395_0)
               have qi395 : (1 < y375.length) = True := eq_true (by omega)
               (try rw [show ((1 : Int)).toNat = 1 from rfl] at hx395_0)
               replace p395 := eq_true p395
               replace q395 := eq_true q395
               go_wp2_with (first | ((with_reducible refine gate_callee (f := 24) rfl ?_); refine goesL_ (some 119) rfl rfl Tryd.func24 (by kernel_rfl) rfl #[.string (rdOf ByteArray.empty y375 1)] rfl (by (try simp only [List.map_toArray, List.map_cons, List.map_nil]); first | done | rfl | (simp only [List.length_drop, List.length_take]; rfl)) ?_; (with_reducible refine (meta_ParseObject.calls k2 (rdOf ByteArray.empty y375 1) t396 t397 t398 true _ A49.out).mono ?_); rintro e w86 ⟨rfl, hb⟩; refine ⟨_, rfl, ?_⟩; have n0_ := Aside0.mk (Kd.R_below (by (with_reducible repeat (first | apply Kd.R_alloc | apply Kd.R_drewN | apply Kd.R_drew)); exact HO_13.out) hb); have n1_ := Aside0.mk (below_step (by repeat (first | (with_reducible first | exact HB.out | apply below_alloc | apply pw_below_drewN | apply below_drew1) | exact HB.out)) hb); clear HO_13; clear HB; have HO_13 := n0_; have HB := n1_; clear n0_ n1_; (try clear hb); (try clear hb2); (try clear hk); (try clear hi)) | ((with_reducible refine gate_callee (f := 12) rfl ?_); refine goesL_ (some 131) rfl rfl Tryd.func12 (by kernel_rfl) rfl #[.string a1, .string a3, .int .i64 a5] rfl (by (try simp only [List.map_toArray, List.map_cons, List.map_nil]); first | done | rfl | (simp only [List.length_drop, List.length_take]; rfl)) ?_; (with_reducible refine (meta_ObjectKey.calls k2 a1 a3 a5 t401 _ A51.out).mono ?_); rintro e w87 ⟨rfl, hb⟩; refine ⟨_, rfl, ?_⟩; have n0_ := Aside0.mk (Kd.R_below (by (with_reducible repeat (first | apply Kd.R_alloc | apply Kd.R_drewN | apply Kd.R_drew)); exact HO_13.out) hb); have n1_ := Aside0.mk (below_step (by repeat (first | (with_reducible first | exact HB.out | apply below_alloc | apply pw_below_drewN | apply below_drew1) | exact HB.out)) hb); clear HO_13; clear HB; have HO_13 := n0_; have HB := n1_; clear n0_ n1_; (try clear hb); (try clear hb2); (try clear hk); (try clear hi); (try clear A51)) | ((with_reducible refine gate_callee (f := 24) rfl ?_); refine goesL_ (some 132) rfl rfl Tryd.func24 (by kernel_rfl) rfl #[.string t401] rfl (by (try simp only [List.map_toArray, List.map_cons, List.map_nil]); first | done | rfl | (simp only [List.length_drop, List.length_take]; rfl)) ?_; (with_reducible refine (meta_ParseObject.calls k2 t401 t402 t403 t404 true _ A52.out).mono ?_); rintro e w88 ⟨rfl, hb⟩; refine ⟨_, rfl, ?_⟩; have n0_ := Aside0.mk (Kd.R_below (by (with_reducible repeat (first | apply Kd.R_alloc | apply Kd.R_drewN | apply Kd.R_drew)); exact HO_13.out) hb); have n1_ := Aside0.mk (below_step (by repeat (first | (with_reducible first | exact HB.out | apply below_alloc | apply pw_below_drewN | apply below_drew1) | exact HB.out)) hb); clear HO_13; clear HB; have HO_13 := n0_; have HB := n1_; clear n0_ n1_; (try clear hb); (try clear hb2); (try clear hk); (try clear hi)) | ((with_reducible refine gate_callee (f := 12) rfl ?_); refine goesL_ (some 143) rfl rfl Tryd.func12 (by kernel_rfl) rfl #[.string a0, .string a2, .int .i64 a4] rfl (by (try simp only [List.map_toArray, List.map_cons, List.map_nil]); first | done | rfl | (simp only [List.length_drop, List.length_take]; rfl)) ?_; (with_reducible refine (meta_ObjectKey.calls k2 a0 a2 a4 t407 _ A54.out).mono ?_); rintro e w89 ⟨rfl, hb⟩; refine ⟨_, rfl, ?_⟩; have n0_ := Aside0.mk (Kd.R_below (by (with_reducible repeat (first | apply Kd.R_alloc | apply Kd.R_drewN | apply Kd.R_drew)); exact HO_13.out) hb); have n1_ := Aside0.mk (below_step (by repeat (first | (with_reducible first | exact HB.out | apply below_alloc | apply pw_below_drewN | apply below_drew1) | exact HB.out)) hb); clear HO_13; clear HB; have HO_13 := n0_; have HB := n1_; clear n0_ n1_; (try clear hb); (try clear hb2); (try clear hk); (try clear hi)) | ((with_reducible refine gate_callee (f := 12) rfl ?_); refine goesL_ (some 147) rfl rfl Tryd.func12 (by kernel_rfl) rfl #[.string a1, .string a3, .int .i64 a5] rfl (by (try simp only [List.map_toArray, List.map_cons, List.map_nil]); first | done | rfl | (simp only [List.length_drop, List.length_take]; rfl)) ?_; (with_reducible refine (meta_ObjectKey.calls k2 a1 a3 a5 t408 _ A55.out).mono ?_); rintro e w90 ⟨rfl, hb⟩; refine ⟨_, rfl, ?_⟩; have n0_ := Aside0.mk (Kd.R_below (by (with_reducible repeat (first | apply Kd.R_alloc | apply Kd.R_drewN | apply Kd.R_drew)); exact HO_13.out) hb); have n1_ := Aside0.mk (below_step (by repeat (first | (with_reducible first | exact HB.out | apply below_alloc | apply pw_below_drewN | apply below_drew1) | exact HB.out)) hb); clear HO_13; clear HB; have HO_13 := n0_; have HB := n1_; clear n0_ n1_; (try clear hb); (try clear hb2); (try clear hk); (try clear hi); (try clear A55)) | (go_at_call 16; (with_reducible refine (meta_PartKey.calls k2 a4 a5 t414 _ A78.out).mono ?_); rintro e w91 ⟨rfl, hb⟩; have n0_ := Aside0.mk (Kd.R_below (by (with_reducible repeat (first | apply Kd.R_alloc | apply Kd.R_drewN | apply Kd.R_drew)); exact HO_13.out) hb); have n1_ := Aside0.mk (below_step (by repeat (first | (with_reducible first | exact HB.out | apply below_alloc | apply pw_below_drewN | apply below_drew1) | exact HB.out)) hb); clear HO_13; clear HB; have HO_13 := n0_; have HB := n1_; clear n0_ n1_; (try clear hb); (try clear hb2); (try clear hk); (try clear hi)) | (go_at_call 16; (with_reducible refine (meta_PartKey.calls k2 a5 a4 t415 _ A79.out).mono ?_); rintro e w92 ⟨rfl, hb⟩; have n0_ := Aside0.mk (Kd.R_below (by (with_reducible repeat (first | apply Kd.R_alloc | apply Kd.R_drewN | apply Kd.R_drew)); exact HO_13.out) hb); have n1_ := Aside0.mk (below_step (by repeat (first | (with_reducible first | exact HB.out | apply below_alloc | apply pw_below_drewN | apply below_drew1) | exact HB.out)) hb); clear HO_13; clear HB; have HO_13 := n0_; have HB := n1_; clear n0_ n1_; (try clear hb); (try clear hb2); (try clear hk); (try clear hi)) | (go_at_call 18; (with_reducible refine (meta_ID.calls k2 a4 t416 _ A81.out).mono ?_); rintro e w93 ⟨rfl, hb⟩; have n0_ := Aside0.mk (Kd.R_below (by (with_reducible repeat (first | apply Kd.R_alloc | apply Kd.R_drewN | apply Kd.R_drew)); exact HO_13.out) hb); have n1_ := Aside0.mk (below_step (by repeat (first | (with_reducible first | exact HB.out | apply below_alloc | apply pw_below_drewN | apply below_drew1) | exact HB.out)) hb); clear HO_13; clear HB; have HO_13 := n0_; have HB := n1_; clear n0_ n1_; (try clear hb); (try clear hb2); (try clear hk); (try clear hi)) | (go_at_call 18; (with_reducible refine (meta_ID.calls k2 a5 t417 _ A82.out).mono ?_); rintro e w94 ⟨rfl, hb⟩; have n0_ := Aside0.mk (Kd.R_below (by (with_reducible repeat (first | apply Kd.R_alloc | apply Kd.R_drewN | apply Kd.R_drew)); exact HO_13.out) hb); have n1_ := Aside0.mk (below_step (by repeat (first | (with_reducible first | exact HB.out | apply below_alloc | apply pw_below_drewN | apply below_drew1) | exact HB.out)) hb); clear HO_13; clear HB; have HO_13 := n0_; have HB := n1_; clear n0_ n1_; (try clear hb); (try clear hb2); (try clear hk); (try clear hi)) | (go_at_call 20; (with_reducible refine (stowagelaw12_awake.calls k2  t418 _ A84.out).mono ?_); rintro e w95 ⟨rfl, hb⟩; have n0_ := Aside0.mk (Kd.R_below (by (with_reducible repeat (first | apply Kd.R_alloc | apply Kd.R_drewN | apply Kd.R_drew)); exact HO_13.out) hb); have n1_ := Aside0.mk (below_step (by repeat (first | (with_reducible first | exact HB.out | apply below_alloc | apply pw_below_drewN | apply below_drew1) | exact HB.out)) hb); clear HO_13; clear HB; have HO_13 := n0_; have HB := n1_; clear n0_ n1_; (try clear hb); (try clear hb2); (try clear hk); (try clear hi)))
               go_ret
               exact ⟨by first | rfl | (simp [errW_none, errW_some] <;> rfl) | (simp [*, errW_none, errW_some] <;> rfl), by repeat (first | (with_reducible first | exact HB.out | apply below_alloc | apply pw_below_drewN | apply below_drew1) | exact HB.out)⟩
              ·skip
               have c83b0 : ((t416.toList == t417.toList) == (a4 == a5)) = false := by simpa using c83
               (try (have c83b1 : decide ((t416.toList == t417.toList) = (a4 == a5)) = false := by simpa using c83))
               (try (have c83b2 : ((t416.toList == t417.toList) == (a4 == a5)) = false := by simpa using c83))
               (try (have c83b3 : ¬ ((t416.toList == t417.toList) = (a4 == a5)) := by simpa using c83))
               clear c83
               rw [hr] at H
               exact absurd H (by simp)
             ·skip
              have c80b0 : ((t414.toList == t415.toList) == (a4 == a5)) = false := by simpa using c80
              (try (have c80b1 : decide ((t414.toList == t415.toList) = (a4 == a5)) = false := by simpa using c80))
              (try (have c80b2 : ((t414.toList == t415.toList) == (a4 == a5)) = false := by simpa using c80))
              (try (have c80b3 : ¬ ((t414.toList == t415.toList) = (a4 == a5)) := by simpa using c80))
              clear c80
              rw [hr] at H
              exact absurd H (by simp)
            ·skip
             have c77b0 : ((t407.toList == t408.toList) == false) = false := by simpa using c77
             (try (have c77b1 : decide ((t407.toList == t408.toList) = false) = false := by simpa using c77))
             (try (have c77b2 : ((t407.toList == t408.toList) == false) = false := by simpa using c77))
             (try (have c77b3 : ¬ ((t407.toList == t408.toList) = false) := by simpa using c77))
             clear c77
             rw [hr] at H
             exact absurd H (by simp)
          ·skip
           have c56b0 : (a0.toList == a1.toList) = false := beq_eq_false_iff_ne.mpr c56
           have c56b1 : (a0.toList != a1.toList) = true := bne_iff_ne.mpr c56
           replace H := itO H
           rcases H with ⟨c96, H⟩ | ⟨c96, H⟩
           ·skip
            have c96b0 : ((t407.toList == t408.toList) == false) = true := c96
            (try (have c96b1 : decide ((t407.toList == t408.toList) = false) = true := by simpa using c96))
            (try (have c96b2 : ((t407.toList == t408.toList) == false) = true := by simpa using c96))
            clear c96
            replace H := bndO H
            obtain ⟨t419, A970, H⟩ := H
            have A97 := Aside0.mk A970
            clear A970
            replace H := bndO H
            obtain ⟨t420, A980, H⟩ := H
            have A98 := Aside0.mk A980
            clear A980
            replace H := itO H
            rcases H with ⟨c99, H⟩ | ⟨c99, H⟩
            ·skip
             have c99b0 : ((t419.toList == t420.toList) == (a4 == a5)) = true := c99
             (try (have c99b1 : decide ((t419.toList == t420.toList) = (a4 == a5)) = true := by simpa using c99))
             (try (have c99b2 : ((t419.toList == t420.toList) == (a4 == a5)) = true := by simpa using c99))
             clear c99
             replace H := bndO H
             obtain ⟨t421, A1000, H⟩ := H
             have A100 := Aside0.mk A1000
             clear A1000
             replace H := bndO H
             obtain ⟨t422, A1010, H⟩ := H
             have A101 := Aside0.mk A1010
             clear A1010
             replace H := itO H
             rcases H with ⟨c102, H⟩ | ⟨c102, H⟩
             ·skip
              have c102b0 : ((t421.toList == t422.toList) == (a4 == a5)) = true := c102
              (try (have c102b1 : decide ((t421.toList == t422.toList) = (a4 == a5)) = true := by simpa using c102))
              (try (have c102b2 : ((t421.toList == t422.toList) == (a4 == a5)) = true := by simpa using c102))
              clear c102
              replace H := bndO H
              obtain ⟨t423, A1030, H⟩ := H
              have A103 := Aside0.mk A1030
              clear A1030
              clear hr
              obtain rfl := Option.some.inj H
              obtain ⟨Ao104, co104, eo104⟩ := Kd.R_slice HO_13.out
              subst eo104
              have p395 : 0 ≤ (1 : Int) := (by omega)
              have q395 : 1 < (y375.length : Int) := of_decide_eq_true (by first | (with_reducible assumption) | assumption)
              obtain ⟨ad395, e395, hx395_0⟩ := Kd.at_string (Kd.R_reads' HO_13.out).2.2 1 p395 q395
              cases e395
              (try simp only [show (1 : Int).toNat = 1 from rfl, Nat.reduceMul, Nat.reduceEqDiff, Go.Addr.add, ↓reduceIte] at hx395_0)
              have qi395 : (1 < y375.length) = True := eq_true (by omega)
              (try rw [show ((1 : Int)).toNat = 1 from rfl] at hx395_0)
              replace p395 := eq_true p395
              replace q395 := eq_true q395
              go_wp2_with (first | ((with_reducible refine gate_callee (f := 24) rfl ?_); refine goesL_ (some 119) rfl rfl Tryd.func24 (by kernel_rfl) rfl #[.string (rdOf ByteArray.empty y375 1)] rfl (by (try simp only [List.map_toArray, List.map_cons, List.map_nil]); first | done | rfl | (simp only [List.length_drop, List.length_take]; rfl)) ?_; (with_reducible refine (meta_ParseObject.calls k2 (rdOf ByteArray.empty y375 1) t396 t397 t398 true _ A49.out).mono ?_); rintro e w105 ⟨rfl, hb⟩; refine ⟨_, rfl, ?_⟩; have n0_ := Aside0.mk (Kd.R_below (by (with_reducible repeat (first | apply Kd.R_alloc | apply Kd.R_drewN | apply Kd.R_drew)); exact HO_13.out) hb); have n1_ := Aside0.mk (below_step (by repeat (first | (with_reducible first | exact HB.out | apply below_alloc | apply pw_below_drewN | apply below_drew1) | exact HB.out)) hb); clear HO_13; clear HB; have HO_13 := n0_; have HB := n1_; clear n0_ n1_; (try clear hb); (try clear hb2); (try clear hk); (try clear hi)) | ((with_reducible refine gate_callee (f := 12) rfl ?_); refine goesL_ (some 131) rfl rfl Tryd.func12 (by kernel_rfl) rfl #[.string a1, .string a3, .int .i64 a5] rfl (by (try simp only [List.map_toArray, List.map_cons, List.map_nil]); first | done | rfl | (simp only [List.length_drop, List.length_take]; rfl)) ?_; (with_reducible refine (meta_ObjectKey.calls k2 a1 a3 a5 t401 _ A51.out).mono ?_); rintro e w106 ⟨rfl, hb⟩; refine ⟨_, rfl, ?_⟩; have n0_ := Aside0.mk (Kd.R_below (by (with_reducible repeat (first | apply Kd.R_alloc | apply Kd.R_drewN | apply Kd.R_drew)); exact HO_13.out) hb); have n1_ := Aside0.mk (below_step (by repeat (first | (with_reducible first | exact HB.out | apply below_alloc | apply pw_below_drewN | apply below_drew1) | exact HB.out)) hb); clear HO_13; clear HB; have HO_13 := n0_; have HB := n1_; clear n0_ n1_; (try clear hb); (try clear hb2); (try clear hk); (try clear hi); (try clear A51)) | ((with_reducible refine gate_callee (f := 24) rfl ?_); refine goesL_ (some 132) rfl rfl Tryd.func24 (by kernel_rfl) rfl #[.string t401] rfl (by (try simp only [List.map_toArray, List.map_cons, List.map_nil]); first | done | rfl | (simp only [List.length_drop, List.length_take]; rfl)) ?_; (with_reducible refine (meta_ParseObject.calls k2 t401 t402 t403 t404 true _ A52.out).mono ?_); rintro e w107 ⟨rfl, hb⟩; refine ⟨_, rfl, ?_⟩; have n0_ := Aside0.mk (Kd.R_below (by (with_reducible repeat (first | apply Kd.R_alloc | apply Kd.R_drewN | apply Kd.R_drew)); exact HO_13.out) hb); have n1_ := Aside0.mk (below_step (by repeat (first | (with_reducible first | exact HB.out | apply below_alloc | apply pw_below_drewN | apply below_drew1) | exact HB.out)) hb); clear HO_13; clear HB; have HO_13 := n0_; have HB := n1_; clear n0_ n1_; (try clear hb); (try clear hb2); (try clear hk); (try clear hi)) | ((with_reducible refine gate_callee (f := 12) rfl ?_); refine goesL_ (some 143) rfl rfl Tryd.func12 (by kernel_rfl) rfl #[.string a0, .string a2, .int .i64 a4] rfl (by (try simp only [List.map_toArray, List.map_cons, List.map_nil]); first | done | rfl | (simp only [List.length_drop, List.length_take]; rfl)) ?_; (with_reducible refine (meta_ObjectKey.calls k2 a0 a2 a4 t407 _ A54.out).mono ?_); rintro e w108 ⟨rfl, hb⟩; refine ⟨_, rfl, ?_⟩; have n0_ := Aside0.mk (Kd.R_below (by (with_reducible repeat (first | apply Kd.R_alloc | apply Kd.R_drewN | apply Kd.R_drew)); exact HO_13.out) hb); have n1_ := Aside0.mk (below_step (by repeat (first | (with_reducible first | exact HB.out | apply below_alloc | apply pw_below_drewN | apply below_drew1) | exact HB.out)) hb); clear HO_13; clear HB; have HO_13 := n0_; have HB := n1_; clear n0_ n1_; (try clear hb); (try clear hb2); (try clear hk); (try clear hi)) | ((with_reducible refine gate_callee (f := 12) rfl ?_); refine goesL_ (some 147) rfl rfl Tryd.func12 (by kernel_rfl) rfl #[.string a1, .string a3, .int .i64 a5] rfl (by (try simp only [List.map_toArray, List.map_cons, List.map_nil]); first | done | rfl | (simp only [List.length_drop, List.length_take]; rfl)) ?_; (with_reducible refine (meta_ObjectKey.calls k2 a1 a3 a5 t408 _ A55.out).mono ?_); rintro e w109 ⟨rfl, hb⟩; refine ⟨_, rfl, ?_⟩; have n0_ := Aside0.mk (Kd.R_below (by (with_reducible repeat (first | apply Kd.R_alloc | apply Kd.R_drewN | apply Kd.R_drew)); exact HO_13.out) hb); have n1_ := Aside0.mk (below_step (by repeat (first | (with_reducible first | exact HB.out | apply below_alloc | apply pw_below_drewN | apply below_drew1) | exact HB.out)) hb); clear HO_13; clear HB; have HO_13 := n0_; have HB := n1_; clear n0_ n1_; (try clear hb); (try clear hb2); (try clear hk); (try clear hi); (try clear A55)) | (go_at_call 16; (with_reducible refine (meta_PartKey.calls k2 a4 a5 t419 _ A97.out).mono ?_); rintro e w110 ⟨rfl, hb⟩; have n0_ := Aside0.mk (Kd.R_below (by (with_reducible repeat (first | apply Kd.R_alloc | apply Kd.R_drewN | apply Kd.R_drew)); exact HO_13.out) hb); have n1_ := Aside0.mk (below_step (by repeat (first | (with_reducible first | exact HB.out | apply below_alloc | apply pw_below_drewN | apply below_drew1) | exact HB.out)) hb); clear HO_13; clear HB; have HO_13 := n0_; have HB := n1_; clear n0_ n1_; (try clear hb); (try clear hb2); (try clear hk); (try clear hi)) | (go_at_call 16; (with_reducible refine (meta_PartKey.calls k2 a5 a4 t420 _ A98.out).mono ?_); rintro e w111 ⟨rfl, hb⟩; have n0_ := Aside0.mk (Kd.R_below (by (with_reducible repeat (first | apply Kd.R_alloc | apply Kd.R_drewN | apply Kd.R_drew)); exact HO_13.out) hb); have n1_ := Aside0.mk (below_step (by repeat (first | (with_reducible first | exact HB.out | apply below_alloc | apply pw_below_drewN | apply below_drew1) | exact HB.out)) hb); clear HO_13; clear HB; have HO_13 := n0_; have HB := n1_; clear n0_ n1_; (try clear hb); (try clear hb2); (try clear hk); (try clear hi)) | (go_at_call 18; (with_reducible refine (meta_ID.calls k2 a4 t421 _ A100.out).mono ?_); rintro e w112 ⟨rfl, hb⟩; have n0_ := Aside0.mk (Kd.R_below (by (with_reducible repeat (first | apply Kd.R_alloc | apply Kd.R_drewN | apply Kd.R_drew)); exact HO_13.out) hb); have n1_ := Aside0.mk (below_step (by repeat (first | (with_reducible first | exact HB.out | apply below_alloc | apply pw_below_drewN | apply below_drew1) | exact HB.out)) hb); clear HO_13; clear HB; have HO_13 := n0_; have HB := n1_; clear n0_ n1_; (try clear hb); (try clear hb2); (try clear hk); (try clear hi)) | (go_at_call 18; (with_reducible refine (meta_ID.calls k2 a5 t422 _ A101.out).mono ?_); rintro e w113 ⟨rfl, hb⟩; have n0_ := Aside0.mk (Kd.R_below (by (with_reducible repeat (first | apply Kd.R_alloc | apply Kd.R_drewN | apply Kd.R_drew)); exact HO_13.out) hb); have n1_ := Aside0.mk (below_step (by repeat (first | (with_reducible first | exact HB.out | apply below_alloc | apply pw_below_drewN | apply below_drew1) | exact HB.out)) hb); clear HO_13; clear HB; have HO_13 := n0_; have HB := n1_; clear n0_ n1_; (try clear hb); (try clear hb2); (try clear hk); (try clear hi)) | (go_at_call 20; (with_reducible refine (stowagelaw12_awake.calls k2  t423 _ A103.out).mono ?_); rintro e w114 ⟨rfl, hb⟩; have n0_ := Aside0.mk (Kd.R_below (by (with_reducible repeat (first | apply Kd.R_alloc | apply Kd.R_drewN | apply Kd.R_drew)); exact HO_13.out) hb); have n1_ := Aside0.mk (below_step (by repeat (first | (with_reducible first | exact HB.out | apply below_alloc | apply pw_below_drewN | apply below_drew1) | exact HB.out)) hb); clear HO_13; clear HB; have HO_13 := n0_; have HB := n1_; clear n0_ n1_; (try clear hb); (try clear hb2); (try clear hk); (try clear hi)))
              go_ret
              exact ⟨by first | rfl | (simp [errW_none, errW_some] <;> rfl) | (simp [*, errW_none, errW_some] <;> rfl), by repeat (first | (with_reducible first | exact HB.out | apply below_alloc | apply pw_below_drewN | apply below_drew1) | exact HB.out)⟩
             ·skip
              have c102b0 : ((t421.toList == t422.toList) == (a4 == a5)) = false := by simpa using c102
              (try (have c102b1 : decide ((t421.toList == t422.toList) = (a4 == a5)) = false := by simpa using c102))
              (try (have c102b2 : ((t421.toList == t422.toList) == (a4 == a5)) = false := by simpa using c102))
              (try (have c102b3 : ¬ ((t421.toList == t422.toList) = (a4 == a5)) := by simpa using c102))
              clear c102
              rw [hr] at H
              exact absurd H (by simp)
            ·skip
             have c99b0 : ((t419.toList == t420.toList) == (a4 == a5)) = false := by simpa using c99
             (try (have c99b1 : decide ((t419.toList == t420.toList) = (a4 == a5)) = false := by simpa using c99))
             (try (have c99b2 : ((t419.toList == t420.toList) == (a4 == a5)) = false := by simpa using c99))
             (try (have c99b3 : ¬ ((t419.toList == t420.toList) = (a4 == a5)) := by simpa using c99))
             clear c99
             rw [hr] at H
             exact absurd H (by simp)
           ·skip
            have c96b0 : ((t407.toList == t408.toList) == false) = false := by simpa using c96
            (try (have c96b1 : decide ((t407.toList == t408.toList) = false) = false := by simpa using c96))
            (try (have c96b2 : ((t407.toList == t408.toList) == false) = false := by simpa using c96))
            (try (have c96b3 : ¬ ((t407.toList == t408.toList) = false) := by simpa using c96))
            clear c96
            rw [hr] at H
            exact absurd H (by simp)
         ·replace c53 := Bool.eq_false_iff.mpr c53
          subst c53
          replace H := itF H
          replace H := bndO H
          obtain ⟨t406, A1150, H⟩ := H
          have A115 := Aside0.mk A1150
          clear A1150
          clear hr
          obtain rfl := Option.some.inj H
          obtain ⟨Ao116, co116, eo116⟩ := Kd.R_slice HO_13.out
          subst eo116
          have p395 : 0 ≤ (1 : Int) := (by omega)
          have q395 : 1 < (y375.length : Int) := of_decide_eq_true (by first | (with_reducible assumption) | assumption)
          obtain ⟨ad395, e395, hx395_0⟩ := Kd.at_string (Kd.R_reads' HO_13.out).2.2 1 p395 q395
          cases e395
          (try simp only [show (1 : Int).toNat = 1 from rfl, Nat.reduceMul, Nat.reduceEqDiff, Go.Addr.add, ↓reduceIte] at hx395_0)
          have qi395 : (1 < y375.length) = True := eq_true (by omega)
          (try rw [show ((1 : Int)).toNat = 1 from rfl] at hx395_0)
          replace p395 := eq_true p395
          replace q395 := eq_true q395
          go_wp2_with (first | ((with_reducible refine gate_callee (f := 24) rfl ?_); refine goesL_ (some 119) rfl rfl Tryd.func24 (by kernel_rfl) rfl #[.string (rdOf ByteArray.empty y375 1)] rfl (by (try simp only [List.map_toArray, List.map_cons, List.map_nil]); first | done | rfl | (simp only [List.length_drop, List.length_take]; rfl)) ?_; (with_reducible refine (meta_ParseObject.calls k2 (rdOf ByteArray.empty y375 1) t396 t397 t398 true _ A49.out).mono ?_); rintro e w117 ⟨rfl, hb⟩; refine ⟨_, rfl, ?_⟩; have n0_ := Aside0.mk (Kd.R_below (by (with_reducible repeat (first | apply Kd.R_alloc | apply Kd.R_drewN | apply Kd.R_drew)); exact HO_13.out) hb); have n1_ := Aside0.mk (below_step (by repeat (first | (with_reducible first | exact HB.out | apply below_alloc | apply pw_below_drewN | apply below_drew1) | exact HB.out)) hb); clear HO_13; clear HB; have HO_13 := n0_; have HB := n1_; clear n0_ n1_; (try clear hb); (try clear hb2); (try clear hk); (try clear hi)) | ((with_reducible refine gate_callee (f := 12) rfl ?_); refine goesL_ (some 131) rfl rfl Tryd.func12 (by kernel_rfl) rfl #[.string a1, .string a3, .int .i64 a5] rfl (by (try simp only [List.map_toArray, List.map_cons, List.map_nil]); first | done | rfl | (simp only [List.length_drop, List.length_take]; rfl)) ?_; (with_reducible refine (meta_ObjectKey.calls k2 a1 a3 a5 t401 _ A51.out).mono ?_); rintro e w118 ⟨rfl, hb⟩; refine ⟨_, rfl, ?_⟩; have n0_ := Aside0.mk (Kd.R_below (by (with_reducible repeat (first | apply Kd.R_alloc | apply Kd.R_drewN | apply Kd.R_drew)); exact HO_13.out) hb); have n1_ := Aside0.mk (below_step (by repeat (first | (with_reducible first | exact HB.out | apply below_alloc | apply pw_below_drewN | apply below_drew1) | exact HB.out)) hb); clear HO_13; clear HB; have HO_13 := n0_; have HB := n1_; clear n0_ n1_; (try clear hb); (try clear hb2); (try clear hk); (try clear hi)) | ((with_reducible refine gate_callee (f := 24) rfl ?_); refine goesL_ (some 132) rfl rfl Tryd.func24 (by kernel_rfl) rfl #[.string t401] rfl (by (try simp only [List.map_toArray, List.map_cons, List.map_nil]); first | done | rfl | (simp only [List.length_drop, List.length_take]; rfl)) ?_; (with_reducible refine (meta_ParseObject.calls k2 t401 t402 t403 t404 false _ A52.out).mono ?_); rintro e w119 ⟨rfl, hb⟩; refine ⟨_, rfl, ?_⟩; have n0_ := Aside0.mk (Kd.R_below (by (with_reducible repeat (first | apply Kd.R_alloc | apply Kd.R_drewN | apply Kd.R_drew)); exact HO_13.out) hb); have n1_ := Aside0.mk (below_step (by repeat (first | (with_reducible first | exact HB.out | apply below_alloc | apply pw_below_drewN | apply below_drew1) | exact HB.out)) hb); clear HO_13; clear HB; have HO_13 := n0_; have HB := n1_; clear n0_ n1_; (try clear hb); (try clear hb2); (try clear hk); (try clear hi)) | ((with_reducible refine gate_callee (f := 20) rfl ?_); refine goesL_ (some 139) rfl rfl Tryd.func20 (by kernel_rfl) rfl #[] rfl (by (try simp only [List.map_toArray, List.map_cons, List.map_nil]); first | done | rfl | (simp only [List.length_drop, List.length_take]; rfl)) ?_; (with_reducible refine (stowagelaw12_awake.calls k2  t406 _ A115.out).mono ?_); rintro e w120 ⟨rfl, hb⟩; refine ⟨_, rfl, ?_⟩; have n0_ := Aside0.mk (Kd.R_below (by (with_reducible repeat (first | apply Kd.R_alloc | apply Kd.R_drewN | apply Kd.R_drew)); exact HO_13.out) hb); have n1_ := Aside0.mk (below_step (by repeat (first | (with_reducible first | exact HB.out | apply below_alloc | apply pw_below_drewN | apply below_drew1) | exact HB.out)) hb); clear HO_13; clear HB; have HO_13 := n0_; have HB := n1_; clear n0_ n1_; (try clear hb); (try clear hb2); (try clear hk); (try clear hi)))
          go_ret
          exact ⟨by first | rfl | (simp [errW_none, errW_some] <;> rfl) | (simp [*, errW_none, errW_some] <;> rfl), by repeat (first | (with_reducible first | exact HB.out | apply below_alloc | apply pw_below_drewN | apply below_drew1) | exact HB.out)⟩
        ·replace c50 := Bool.eq_false_iff.mpr c50
         subst c50
         replace H := itF H
         replace H := bndO H
         obtain ⟨t400, A1210, H⟩ := H
         have A121 := Aside0.mk A1210
         clear A1210
         clear hr
         obtain rfl := Option.some.inj H
         obtain ⟨Ao122, co122, eo122⟩ := Kd.R_slice HO_13.out
         subst eo122
         have p395 : 0 ≤ (1 : Int) := (by omega)
         have q395 : 1 < (y375.length : Int) := of_decide_eq_true (by first | (with_reducible assumption) | assumption)
         obtain ⟨ad395, e395, hx395_0⟩ := Kd.at_string (Kd.R_reads' HO_13.out).2.2 1 p395 q395
         cases e395
         (try simp only [show (1 : Int).toNat = 1 from rfl, Nat.reduceMul, Nat.reduceEqDiff, Go.Addr.add, ↓reduceIte] at hx395_0)
         have qi395 : (1 < y375.length) = True := eq_true (by omega)
         (try rw [show ((1 : Int)).toNat = 1 from rfl] at hx395_0)
         replace p395 := eq_true p395
         replace q395 := eq_true q395
         go_wp2_with (first | ((with_reducible refine gate_callee (f := 24) rfl ?_); refine goesL_ (some 119) rfl rfl Tryd.func24 (by kernel_rfl) rfl #[.string (rdOf ByteArray.empty y375 1)] rfl (by (try simp only [List.map_toArray, List.map_cons, List.map_nil]); first | done | rfl | (simp only [List.length_drop, List.length_take]; rfl)) ?_; (with_reducible refine (meta_ParseObject.calls k2 (rdOf ByteArray.empty y375 1) t396 t397 t398 false _ A49.out).mono ?_); rintro e w123 ⟨rfl, hb⟩; refine ⟨_, rfl, ?_⟩; have n0_ := Aside0.mk (Kd.R_below (by (with_reducible repeat (first | apply Kd.R_alloc | apply Kd.R_drewN | apply Kd.R_drew)); exact HO_13.out) hb); have n1_ := Aside0.mk (below_step (by repeat (first | (with_reducible first | exact HB.out | apply below_alloc | apply pw_below_drewN | apply below_drew1) | exact HB.out)) hb); clear HO_13; clear HB; have HO_13 := n0_; have HB := n1_; clear n0_ n1_; (try clear hb); (try clear hb2); (try clear hk); (try clear hi)) | ((with_reducible refine gate_callee (f := 20) rfl ?_); refine goesL_ (some 126) rfl rfl Tryd.func20 (by kernel_rfl) rfl #[] rfl (by (try simp only [List.map_toArray, List.map_cons, List.map_nil]); first | done | rfl | (simp only [List.length_drop, List.length_take]; rfl)) ?_; (with_reducible refine (stowagelaw12_awake.calls k2  t400 _ A121.out).mono ?_); rintro e w124 ⟨rfl, hb⟩; refine ⟨_, rfl, ?_⟩; have n0_ := Aside0.mk (Kd.R_below (by (with_reducible repeat (first | apply Kd.R_alloc | apply Kd.R_drewN | apply Kd.R_drew)); exact HO_13.out) hb); have n1_ := Aside0.mk (below_step (by repeat (first | (with_reducible first | exact HB.out | apply below_alloc | apply pw_below_drewN | apply below_drew1) | exact HB.out)) hb); clear HO_13; clear HB; have HO_13 := n0_; have HB := n1_; clear n0_ n1_; (try clear hb); (try clear hb2); (try clear hk); (try clear hi)))
         go_ret
         exact ⟨by first | rfl | (simp [errW_none, errW_some] <;> rfl) | (simp [*, errW_none, errW_some] <;> rfl), by repeat (first | (with_reducible first | exact HB.out | apply below_alloc | apply pw_below_drewN | apply below_drew1) | exact HB.out)⟩
       ·exact absurd H (by simp)
def stowagelaw12_MetaApart.Pure : Prop := ∀ (a0 : ByteArray) (a1 : ByteArray) (a2 : ByteArray) (a3 : ByteArray) (a4 : Int) (a5 : Int), a0.size ≤ 140737488351232 → a1.size ≤ 140737488351232 → a2.size ≤ 140737488351232 → a3.size ≤ 140737488351232 → (Lit.int .i64 a4).wf = true → (Lit.int .i64 a5).wf = true → ∃ k, stowagelaw12_MetaApart.f k a0 a1 a2 a3 a4 a5 = some true
theorem stowagelaw12_MetaApart.walk (P : stowagelaw12_MetaApart.Pure) (a0 : ByteArray) (a1 : ByteArray) (a2 : ByteArray) (a3 : ByteArray) (a4 : Int) (a5 : Int) (w : World) (w0 : a0.size ≤ 140737488351232) (w1 : a1.size ≤ 140737488351232) (w2 : a2.size ≤ 140737488351232) (w3 : a3.size ≤ 140737488351232) (w4 : (Lit.int .i64 a4).wf = true) (w5 : (Lit.int .i64 a5).wf = true) :
  Calls Tryd.prog 6 #[.string a0, .string a1, .string a2, .string a3, .int .i64 a4, .int .i64 a5] w fun e w' => e = .returned (.bool true) ∧ Below w.heap.size w w' := by
 obtain ⟨k, h⟩ := P a0 a1 a2 a3 a4 a5 w0 w1 w2 w3 w4 w5
 refine (stowagelaw12_MetaApart.calls k a0 a1 a2 a3 a4 a5 true w h rfl).mono ?_
 rintro e w' ⟨rfl, hd⟩
 exact ⟨rfl, hd⟩
end Go.Proofs.YtieejapamkokaaaDoor.Q
