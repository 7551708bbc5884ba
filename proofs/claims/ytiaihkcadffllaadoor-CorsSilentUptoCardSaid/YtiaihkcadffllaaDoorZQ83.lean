/- A part of the proof of the seat's laws. No condition beyond those in the theorems. -/
import Derived.Test.YtiaihkcadffllaaDoorZQ0g8
import Derived.Test.YtiaihkcadffllaaDoorZQ58
import Derived.Test.YtiaihkcadffllaaDoorZQ79g2

namespace Go.Proofs.YtiaihkcadffllaaDoor.Q
open Go.RowKit Go.Proofs.YtiaihkcadffllaaDoorW.PrintWords Go.Proofs.YtiaihkcadffllaaDoorW.PrintLast Go.Proofs.YtiaihkcadffllaaDoorW.PrintMore
set_option linter.unusedVariables false
set_option linter.unusedSimpArgs false
attribute [local go_sem] max2_int min2_int max_two min_two max_three min_three max_four min_four   
mutual
def stowagelaw25_CorsSilent.l0 : Nat → List (S40) → ByteArray → Int → ByteArray → ByteArray → List (S37) → List Int → Option (Bool)
 | 0, _, _, _, _, _, _, _ => none
 | k + 1, x0, x5, x6, x402000, x402001, x402002, x402003 => if x6 ≥ 0 then (if 0 ≤ x6 then (if x6 < (x402002.length : Int) then (if ((rd_T37 x402002 x6).f0).toList = ([111, 114, 105, 103, 105, 110] : List UInt8) then (stowagelaw25_CorsSilent.l0 k x0 ((rd_T37 x402002 x6).f1) (wrap64 (x6 - 1)) x402000 x402001 x402002 x402003) else (stowagelaw25_CorsSilent.l0 k x0 x5 (wrap64 (x6 - 1)) x402000 x402001 x402002 x402003)) else (none)) else (none)) else (stowagelaw25_CorsSilent.l1 k x0 x5 0 x402000 x402001 x402002 x402003)
def stowagelaw25_CorsSilent.l1 : Nat → List (S40) → ByteArray → Int → ByteArray → ByteArray → List (S37) → List Int → Option (Bool)
 | 0, _, _, _, _, _, _, _ => none
 | k + 1, x0, x5, x7, x402000, x402001, x402002, x402003 => if x7 < (x0.length : Int) then (stowagelaw25_CorsSilent.l2 k x0 x5 x7 0 x402000 x402001 x402002 x402003) else ((cors_Preflight.f k x0 x402000 x402001 x402002 x402003).bind fun bt404 => (if (bt404.1.length : Int) = 0 then (if bt404.2 = 308 then ((cors_Actual.f k x0 x402000 x402001 x402002 x402003).bind fun t408 => (if (t408.length : Int) = 0 then ((stowagelaw25_awake.f).bind fun t411 => (some t411)) else (some false))) else (if bt404.2 = 306 then ((cors_Actual.f k x0 x402000 x402001 x402002 x402003).bind fun t412 => (if (t412.length : Int) = 0 then ((stowagelaw25_awake.f).bind fun t415 => (some t415)) else (some false))) else (some false))) else (some false)))
def stowagelaw25_CorsSilent.l2 : Nat → List (S40) → ByteArray → Int → Int → ByteArray → ByteArray → List (S37) → List Int → Option (Bool)
 | 0, _, _, _, _, _, _, _, _ => none
 | k + 1, x0, x5, x7, x8, x402000, x402001, x402002, x402003 => if 0 ≤ x7 then (if x7 < (x0.length : Int) then (if x8 < (((rd_T40 x0 x7).f0).length : Int) then (if 0 ≤ x8 then (stowagelaw25_CorsSilent.l3 k x0 x5 x7 x8 (rdOf ByteArray.empty ((rd_T40 x0 x7).f0) x8) 0 x402000 x402001 x402002 x402003) else (none)) else (stowagelaw25_CorsSilent.l1 k x0 x5 (wrap64 (x7 + 1)) x402000 x402001 x402002 x402003)) else (none)) else (none)
def stowagelaw25_CorsSilent.l3 : Nat → List (S40) → ByteArray → Int → Int → ByteArray → Int → ByteArray → ByteArray → List (S37) → List Int → Option (Bool)
 | 0, _, _, _, _, _, _, _, _, _, _ => none
 | k + 1, x0, x5, x7, x8, x9, x10, x402000, x402001, x402002, x402003 => if x10 < (x9.size : Int) then (if 0 ≤ x10 then (if (bt x9 x10) = 42 then ((stowagelaw25_awake.f).bind fun t419 => (some t419)) else (stowagelaw25_CorsSilent.l3 k x0 x5 x7 x8 x9 (wrap64 (x10 + 1)) x402000 x402001 x402002 x402003)) else (none)) else (if x9.toList = x5.toList then ((stowagelaw25_awake.f).bind fun t420 => (some t420)) else (stowagelaw25_CorsSilent.l2 k x0 x5 x7 (wrap64 (x8 + 1)) x402000 x402001 x402002 x402003))
end
def stowagelaw25_CorsSilent.f (k : Nat) (l0 : List (S40)) (a1_0 : ByteArray) (a1_1 : ByteArray) (l1_2 : List (S37)) (l1_3 : List Int) : Option (Bool) := stowagelaw25_CorsSilent.l0 k l0 (⟨#[]⟩ : ByteArray) (wrap64 ((l1_2.length : Int) - 1)) a1_0 a1_1 l1_2 l1_3
theorem stowagelaw25_CorsSilent.mono_l : ∀ k, (∀ y0 y1 y2 y3 y4 y5 y6, LeO (stowagelaw25_CorsSilent.l0 k y0 y1 y2 y3 y4 y5 y6) (stowagelaw25_CorsSilent.l0 (k + 1) y0 y1 y2 y3 y4 y5 y6)) ∧ (∀ y0 y1 y2 y3 y4 y5 y6, LeO (stowagelaw25_CorsSilent.l1 k y0 y1 y2 y3 y4 y5 y6) (stowagelaw25_CorsSilent.l1 (k + 1) y0 y1 y2 y3 y4 y5 y6)) ∧ (∀ y0 y1 y2 y3 y4 y5 y6 y7, LeO (stowagelaw25_CorsSilent.l2 k y0 y1 y2 y3 y4 y5 y6 y7) (stowagelaw25_CorsSilent.l2 (k + 1) y0 y1 y2 y3 y4 y5 y6 y7)) ∧ (∀ y0 y1 y2 y3 y4 y5 y6 y7 y8 y9, LeO (stowagelaw25_CorsSilent.l3 k y0 y1 y2 y3 y4 y5 y6 y7 y8 y9) (stowagelaw25_CorsSilent.l3 (k + 1) y0 y1 y2 y3 y4 y5 y6 y7 y8 y9))
 | 0 => ⟨fun _ _ _ _ _ _ _ r h => by simp [stowagelaw25_CorsSilent.l0] at h, fun _ _ _ _ _ _ _ r h => by simp [stowagelaw25_CorsSilent.l1] at h, fun _ _ _ _ _ _ _ _ r h => by simp [stowagelaw25_CorsSilent.l2] at h, fun _ _ _ _ _ _ _ _ _ _ r h => by simp [stowagelaw25_CorsSilent.l3] at h⟩
 | k + 1 => by
  obtain ⟨ih0, ih1, ih2, ih3⟩ := stowagelaw25_CorsSilent.mono_l k
  refine ⟨?_, ?_, ?_, ?_⟩
  ·intro y0 y1 y2 y3 y4 y5 y6
   unfold stowagelaw25_CorsSilent.l0
   repeat' first
   | (with_reducible exact ih0 _ _ _ _ _ _ _)
   | (with_reducible exact ih1 _ _ _ _ _ _ _)
   | (with_reducible exact ih2 _ _ _ _ _ _ _ _)
   | (with_reducible exact ih3 _ _ _ _ _ _ _ _ _ _)
   | (with_reducible exact cors_Actual.mono _ _ _ _ _ _)
   | (with_reducible exact cors_Preflight.mono _ _ _ _ _ _)
   | (with_reducible exact LeO.refl _)
   | (with_reducible exact LeO.none _)
   | (with_reducible refine LeO.ite ?_ ?_)
   | (with_reducible refine LeO.bind ?_ (fun _ => ?_))
   | exact ih0 _ _ _ _ _ _ _
   | exact ih1 _ _ _ _ _ _ _
   | exact ih2 _ _ _ _ _ _ _ _
   | exact ih3 _ _ _ _ _ _ _ _ _ _
   | exact cors_Actual.mono _ _ _ _ _ _
   | exact cors_Preflight.mono _ _ _ _ _ _
   | exact LeO.none _
   | refine LeO.ite ?_ ?_
   | refine LeO.bind ?_ (fun _ => ?_)
  ·intro y0 y1 y2 y3 y4 y5 y6
   unfold stowagelaw25_CorsSilent.l1
   repeat' first
   | (with_reducible exact ih0 _ _ _ _ _ _ _)
   | (with_reducible exact ih1 _ _ _ _ _ _ _)
   | (with_reducible exact ih2 _ _ _ _ _ _ _ _)
   | (with_reducible exact ih3 _ _ _ _ _ _ _ _ _ _)
   | (with_reducible exact cors_Actual.mono _ _ _ _ _ _)
   | (with_reducible exact cors_Preflight.mono _ _ _ _ _ _)
   | (with_reducible exact LeO.refl _)
   | (with_reducible exact LeO.none _)
   | (with_reducible refine LeO.ite ?_ ?_)
   | (with_reducible refine LeO.bind ?_ (fun _ => ?_))
   | exact ih0 _ _ _ _ _ _ _
   | exact ih1 _ _ _ _ _ _ _
   | exact ih2 _ _ _ _ _ _ _ _
   | exact ih3 _ _ _ _ _ _ _ _ _ _
   | exact cors_Actual.mono _ _ _ _ _ _
   | exact cors_Preflight.mono _ _ _ _ _ _
   | exact LeO.none _
   | refine LeO.ite ?_ ?_
   | refine LeO.bind ?_ (fun _ => ?_)
  ·intro y0 y1 y2 y3 y4 y5 y6 y7
   unfold stowagelaw25_CorsSilent.l2
   repeat' first
   | (with_reducible exact ih0 _ _ _ _ _ _ _)
   | (with_reducible exact ih1 _ _ _ _ _ _ _)
   | (with_reducible exact ih2 _ _ _ _ _ _ _ _)
   | (with_reducible exact ih3 _ _ _ _ _ _ _ _ _ _)
   | (with_reducible exact cors_Actual.mono _ _ _ _ _ _)
   | (with_reducible exact cors_Preflight.mono _ _ _ _ _ _)
   | (with_reducible exact LeO.refl _)
   | (with_reducible exact LeO.none _)
   | (with_reducible refine LeO.ite ?_ ?_)
   | (with_reducible refine LeO.bind ?_ (fun _ => ?_))
   | exact ih0 _ _ _ _ _ _ _
   | exact ih1 _ _ _ _ _ _ _
   | exact ih2 _ _ _ _ _ _ _ _
   | exact ih3 _ _ _ _ _ _ _ _ _ _
   | exact cors_Actual.mono _ _ _ _ _ _
   | exact cors_Preflight.mono _ _ _ _ _ _
   | exact LeO.none _
   | refine LeO.ite ?_ ?_
   | refine LeO.bind ?_ (fun _ => ?_)
  ·intro y0 y1 y2 y3 y4 y5 y6 y7 y8 y9
   unfold stowagelaw25_CorsSilent.l3
   repeat' first
   | (with_reducible exact ih0 _ _ _ _ _ _ _)
   | (with_reducible exact ih1 _ _ _ _ _ _ _)
   | (with_reducible exact ih2 _ _ _ _ _ _ _ _)
   | (with_reducible exact ih3 _ _ _ _ _ _ _ _ _ _)
   | (with_reducible exact cors_Actual.mono _ _ _ _ _ _)
   | (with_reducible exact cors_Preflight.mono _ _ _ _ _ _)
   | (with_reducible exact LeO.refl _)
   | (with_reducible exact LeO.none _)
   | (with_reducible refine LeO.ite ?_ ?_)
   | (with_reducible refine LeO.bind ?_ (fun _ => ?_))
   | exact ih0 _ _ _ _ _ _ _
   | exact ih1 _ _ _ _ _ _ _
   | exact ih2 _ _ _ _ _ _ _ _
   | exact ih3 _ _ _ _ _ _ _ _ _ _
   | exact cors_Actual.mono _ _ _ _ _ _
   | exact cors_Preflight.mono _ _ _ _ _ _
   | exact LeO.none _
   | refine LeO.ite ?_ ?_
   | refine LeO.bind ?_ (fun _ => ?_)
theorem stowagelaw25_CorsSilent.mono : ∀ a0 a1 a2 a3 a4 k, LeO (stowagelaw25_CorsSilent.f k a0 a1 a2 a3 a4) (stowagelaw25_CorsSilent.f (k + 1) a0 a1 a2 a3 a4) := by
 intro a0 a1 a2 a3 a4 k
 obtain ⟨ih0, ih1, ih2, ih3⟩ := stowagelaw25_CorsSilent.mono_l k
 unfold stowagelaw25_CorsSilent.f
 repeat' first
   | (with_reducible exact ih0 _ _ _ _ _ _ _)
   | (with_reducible exact ih1 _ _ _ _ _ _ _)
   | (with_reducible exact ih2 _ _ _ _ _ _ _ _)
   | (with_reducible exact ih3 _ _ _ _ _ _ _ _ _ _)
   | (with_reducible exact cors_Actual.mono _ _ _ _ _ _)
   | (with_reducible exact cors_Preflight.mono _ _ _ _ _ _)
   | (with_reducible exact LeO.refl _)
   | (with_reducible exact LeO.none _)
   | (with_reducible refine LeO.ite ?_ ?_)
   | (with_reducible refine LeO.bind ?_ (fun _ => ?_))
   | exact ih0 _ _ _ _ _ _ _
   | exact ih1 _ _ _ _ _ _ _
   | exact ih2 _ _ _ _ _ _ _ _
   | exact ih3 _ _ _ _ _ _ _ _ _ _
   | exact cors_Actual.mono _ _ _ _ _ _
   | exact cors_Preflight.mono _ _ _ _ _ _
   | exact LeO.none _
   | refine LeO.ite ?_ ?_
   | refine LeO.bind ?_ (fun _ => ?_)
set_option maxHeartbeats 8000000 in
set_option maxRecDepth 100000 in
theorem stowagelaw25_CorsSilent.calls (k : Nat) (A0 : Option Addr) (c0 : Nat) (l0 : List (S40)) (a1_0 : ByteArray) (a1_1 : ByteArray) (A1_2 : Option Addr) (c1_2 : Nat) (l1_2 : List (S37)) (A1_3 : Option Addr) (c1_3 : Nat) (l1_3 : List Int) (r : Bool) (w : World) (hr0 : Kd.C k40 w A0 l0.length l0) (hc0 : l0.length ≤ c0) (hr1_2 : Kd.C k37 w A1_2 l1_2.length l1_2) (hc1_2 : l1_2.length ≤ c1_2) (hr1_3 : Kd.C (Kd.int .u8) w A1_3 l1_3.length l1_3) (hc1_3 : l1_3.length ≤ c1_3) (hG : GOk w) (h : stowagelaw25_CorsSilent.f k l0 a1_0 a1_1 l1_2 l1_3 = some r) (hr : r = true) :
  Calls Tryd.prog 4 #[.slice A0 l0.length c0, .agg #[.string a1_0, .string a1_1, .slice A1_2 l1_2.length c1_2, .slice A1_3 l1_3.length c1_3]] w fun e w' => e = .returned (.bool r) ∧ Below w.heap.size w w' := by
 have hu26 := Tryd.underlying26
 have HR0 := Aside0.mk hr0
 have HC0 := Aside0.mk hc0
 clear hr0 hc0
 have HR1_2 := Aside0.mk hr1_2
 have HC1_2 := Aside0.mk hc1_2
 clear hr1_2 hc1_2
 have HR1_3 := Aside0.mk hr1_3
 have HC1_3 := Aside0.mk hc1_3
 clear hr1_3 hc1_3
 have HB := Aside0.mk (Below.refl w.heap.size w)
 unfold stowagelaw25_CorsSilent.f at h
 have H := h
 clear h
 have H' := Aside0.mk H
 clear H
 go_enter Tryd.func4, Tryd.ntmps4
 go_wp2_with (first | ((with_reducible refine gate_dst (N := 3) rfl ?_); (try (refine gate_guard (by rfl) ?_; dsimp only)); refine box_event ?hg (N := 3) ?hd (cs := #[.string a1_0, .string a1_1, .slice A1_2 l1_2.length c1_2, .slice A1_3 l1_3.length c1_3]) (t := 26) ?hr ?_; (case hd => rfl); (case hg => rfl); (case hr => first | (go_simp; done) | (go_simp; rfl)); intro gb401 hg w3 hbox hb; have n0_ := Aside0.mk (below_step (by repeat (first | (with_reducible first | exact HB.out | apply below_alloc | apply pw_below_drewN | apply below_drew1) | exact HB.out)) hb); have n1_ := Aside0.mk (hbox); have n2_ := Aside0.mk ((by rw [hg]; exact (below_size (by repeat (first | (with_reducible first | exact HB.out | apply below_alloc | apply pw_below_drewN | apply below_drew1) | exact HB.out))) : w.heap.size ≤ gb401)); have n3_ := Aside0.mk ((by rw [hg]; exact (below_size (by repeat (first | (with_reducible first | exact HB.out | apply below_alloc | apply pw_below_drewN | apply below_drew1) | exact HB.out))) : w.heap.size ≤ gb401)); clear HB; have HB := n0_; have BK401 := n1_; have GW401 := n2_; have GE401 := n3_; clear n0_ n1_ n2_ n3_; clear hb hbox hg; have hcz4_0 : w3.cell? ⟨gb401, 0, none⟩ = some (.string a1_0) := (blk_cell BK401.out 0).trans rfl; have hcz4_1 : w3.cell? ⟨gb401, 1, none⟩ = some (.string a1_1) := (blk_cell BK401.out 1).trans rfl; have hcz4_2 : w3.cell? ⟨gb401, 2, none⟩ = some (.slice A1_2 l1_2.length c1_2) := (blk_cell BK401.out 2).trans rfl; have hcz4_3 : w3.cell? ⟨gb401, 3, none⟩ = some (.slice A1_3 l1_3.length c1_3) := (blk_cell BK401.out 3).trans rfl; have hfz4_0 := blk_frozen BK401.out 0; have hfz4_1 := blk_frozen BK401.out 1; have hfz4_2 := blk_frozen BK401.out 2; have hfz4_3 := blk_frozen BK401.out 3))
 go_loopg [5, 6] k (fun kq v5 v6 w' => ∃ (x5_1 : ByteArray) (x6_1 : Int), v5 = .string x5_1 ∧ v6 = .int .i64 x6_1 ∧ Aside0 (stowagelaw25_CorsSilent.l0 kq l0 x5_1 x6_1 a1_0 a1_1 l1_2 l1_3 = some r) ∧ Aside0 (kq ≤ k) ∧ Aside0 (w'.heap[gb401]? = some (.cells #[.string a1_0, .string a1_1, (.slice A1_2 l1_2.length c1_2), (.slice A1_3 l1_3.length c1_3)] 26 (0, 0))) ∧ Aside0 (Below w.heap.size w w'))
 case atStart => exact ⟨((⟨#[]⟩ : ByteArray)), (wrap64 ((l1_2.length : Int) - 1)), (by first | rfl | (simp; done) | (simp [*]; done)), (by first | rfl | (simp; done) | (simp [*]; done)), H', ⟨Nat.le_refl _⟩, ⟨by (with_reducible repeat (first | refine blk_drewN ?_ _ | refine blk_drew ?_ | refine blk_alloc ?_ _)); exact BK401.out⟩, ⟨by repeat (first | (with_reducible first | exact HB.out | apply below_alloc | apply pw_below_drewN | apply below_drew1 | refine below_set ?_ GE401.out) | exact HB.out)⟩⟩
 case round =>
  clear H'
  try clear c1
  try clear p2
  try clear c4
  try clear hcz4_0
  try clear hcz4_1
  try clear hcz4_2
  try clear hcz4_3
  try clear hfz4_0
  try clear hfz4_1
  try clear hfz4_2
  try clear hfz4_3
  obtain ⟨x5_1, x6_1, rfl, rfl, HA, HK1, BK401, HB⟩ := hrel
  cases gk with
  | zero => exact absurd HA.out (by simp [stowagelaw25_CorsSilent.l0])
  | succ k1 =>
   have H := HA.out
   clear HA
   simp only [stowagelaw25_CorsSilent.l0] at H
   replace H := itO H
   rcases H with ⟨c5, H⟩ | ⟨c5, H⟩
   ·skip
    have c5b0 : decide (0 ≤ x6_1) = true := decide_eq_true c5
    clear c5
    replace H := itO H
    rcases H with ⟨c6, H⟩ | ⟨c6, H⟩
    ·skip
     have c6b0 : decide (0 ≤ x6_1) = true := decide_eq_true c6
     clear c6
     replace H := itO H
     rcases H with ⟨c7, H⟩ | ⟨c7, H⟩
     ·skip
      have c7b0 : decide (x6_1 < (l1_2.length : Int)) = true := decide_eq_true c7
      clear c7
      replace H := itO H
      rcases H with ⟨c8, H⟩ | ⟨c8, H⟩
      ·skip
       have c8b0 : (((rd_T37 l1_2 x6_1).f0).toList == ([111, 114, 105, 103, 105, 110] : List UInt8)) = true := beq_iff_eq.mpr c8
       have c8b1 : (((rd_T37 l1_2 x6_1).f0).toList != ([111, 114, 105, 103, 105, 110] : List UInt8)) = false := bne_eq_false_iff_eq.mpr c8
       clear c8
       have H' := Aside0.mk H
       clear H
       have hcz9_0 : wr.cell? ⟨gb401, 0, none⟩ = some (.string a1_0) := (blk_cell BK401.out 0).trans rfl
       have hcz9_1 : wr.cell? ⟨gb401, 1, none⟩ = some (.string a1_1) := (blk_cell BK401.out 1).trans rfl
       have hcz9_2 : wr.cell? ⟨gb401, 2, none⟩ = some (.slice A1_2 l1_2.length c1_2) := (blk_cell BK401.out 2).trans rfl
       have hcz9_3 : wr.cell? ⟨gb401, 3, none⟩ = some (.slice A1_3 l1_3.length c1_3) := (blk_cell BK401.out 3).trans rfl
       have hfz9_0 := blk_frozen BK401.out 0
       have hfz9_1 := blk_frozen BK401.out 1
       have hfz9_2 := blk_frozen BK401.out 2
       have hfz9_3 := blk_frozen BK401.out 3
       have p402 : 0 ≤ (x6_1 : Int) := of_decide_eq_true (by first | (with_reducible assumption) | assumption)
       have q402 : x6_1 < (l1_2.length : Int) := of_decide_eq_true (by first | (with_reducible assumption) | assumption)
       obtain ⟨ad402, e402, hx402_0, hx402_1⟩ := at_T37 HR1_2.out x6_1 p402 q402
       cases e402
       replace hx402_0 := (HB.out.cell (World.block_lt_of_cell? w _ hx402_0)).trans hx402_0
       replace hx402_1 := (HB.out.cell (World.block_lt_of_cell? w _ hx402_1)).trans hx402_1
       replace p402 := eq_true p402
       replace q402 := eq_true q402
       have p403 : 0 ≤ (x6_1 : Int) := of_decide_eq_true (by first | (with_reducible assumption) | assumption)
       have q403 : x6_1 < (l1_2.length : Int) := of_decide_eq_true (by first | (with_reducible assumption) | assumption)
       obtain ⟨ad403, e403, hx403_0, hx403_1⟩ := at_T37 HR1_2.out x6_1 p403 q403
       obtain rfl : ad402 = ad403 := (by injection e403)
       replace hx403_0 := (HB.out.cell (World.block_lt_of_cell? w _ hx403_0)).trans hx403_0
       replace hx403_1 := (HB.out.cell (World.block_lt_of_cell? w _ hx403_1)).trans hx403_1
       replace p403 := eq_true p403
       replace q403 := eq_true q403
       go_wp2
       go_roundg k1
       case measure => have := HK1.out; omega
       case rel => exact ⟨((rd_T37 l1_2 x6_1).f1), (wrap64 (x6_1 - 1)), (by first | rfl | (simp; done) | (simp [*]; done)), (by first | rfl | (simp; done) | (simp [*]; done)), H', ⟨by have := HK1.out; omega⟩, ⟨by (with_reducible repeat (first | refine blk_drewN ?_ _ | refine blk_drew ?_ | refine blk_alloc ?_ _)); exact BK401.out⟩, ⟨by repeat (first | (with_reducible first | exact HB.out | apply below_alloc | apply pw_below_drewN | apply below_drew1 | refine below_set ?_ GE401.out) | exact HB.out)⟩⟩
      ·skip
       have c8b0 : (((rd_T37 l1_2 x6_1).f0).toList == ([111, 114, 105, 103, 105, 110] : List UInt8)) = false := beq_eq_false_iff_ne.mpr c8
       have c8b1 : (((rd_T37 l1_2 x6_1).f0).toList != ([111, 114, 105, 103, 105, 110] : List UInt8)) = true := bne_iff_ne.mpr c8
       have H' := Aside0.mk H
       clear H
       have hcz10_0 : wr.cell? ⟨gb401, 0, none⟩ = some (.string a1_0) := (blk_cell BK401.out 0).trans rfl
       have hcz10_1 : wr.cell? ⟨gb401, 1, none⟩ = some (.string a1_1) := (blk_cell BK401.out 1).trans rfl
       have hcz10_2 : wr.cell? ⟨gb401, 2, none⟩ = some (.slice A1_2 l1_2.length c1_2) := (blk_cell BK401.out 2).trans rfl
       have hcz10_3 : wr.cell? ⟨gb401, 3, none⟩ = some (.slice A1_3 l1_3.length c1_3) := (blk_cell BK401.out 3).trans rfl
       have hfz10_0 := blk_frozen BK401.out 0
       have hfz10_1 := blk_frozen BK401.out 1
       have hfz10_2 := blk_frozen BK401.out 2
       have hfz10_3 := blk_frozen BK401.out 3
       have p402 : 0 ≤ (x6_1 : Int) := of_decide_eq_true (by first | (with_reducible assumption) | assumption)
       have q402 : x6_1 < (l1_2.length : Int) := of_decide_eq_true (by first | (with_reducible assumption) | assumption)
       obtain ⟨ad402, e402, hx402_0, hx402_1⟩ := at_T37 HR1_2.out x6_1 p402 q402
       cases e402
       replace hx402_0 := (HB.out.cell (World.block_lt_of_cell? w _ hx402_0)).trans hx402_0
       replace hx402_1 := (HB.out.cell (World.block_lt_of_cell? w _ hx402_1)).trans hx402_1
       replace p402 := eq_true p402
       replace q402 := eq_true q402
       go_wp2
       go_roundg k1
       case measure => have := HK1.out; omega
       case rel => exact ⟨(x5_1), (wrap64 (x6_1 - 1)), (by first | rfl | (simp; done) | (simp [*]; done)), (by first | rfl | (simp; done) | (simp [*]; done)), H', ⟨by have := HK1.out; omega⟩, ⟨by (with_reducible repeat (first | refine blk_drewN ?_ _ | refine blk_drew ?_ | refine blk_alloc ?_ _)); exact BK401.out⟩, ⟨by repeat (first | (with_reducible first | exact HB.out | apply below_alloc | apply pw_below_drewN | apply below_drew1 | refine below_set ?_ GE401.out) | exact HB.out)⟩⟩
     ·exact absurd H (by simp)
    ·exact absurd H (by simp)
   ·skip
    have c5b0 : decide (0 ≤ x6_1) = false := decide_eq_false c5
    clear c5
    have H' := Aside0.mk H
    clear H
    go_wp2
    go_loopg [7] k1 (fun kq v7 w' => ∃ (x7_2 : Int), v7 = .int .i64 x7_2 ∧ Aside0 (stowagelaw25_CorsSilent.l1 kq l0 x5_1 x7_2 a1_0 a1_1 l1_2 l1_3 = some r) ∧ Aside0 (kq ≤ k1) ∧ Aside0 (w'.heap[gb401]? = some (.cells #[.string a1_0, .string a1_1, (.slice A1_2 l1_2.length c1_2), (.slice A1_3 l1_3.length c1_3)] 26 (0, 0))) ∧ Aside0 (Below w.heap.size w w'))
    case atStart => exact ⟨(0), (by first | rfl | (simp; done) | (simp [*]; done)), H', ⟨Nat.le_refl _⟩, ⟨by (with_reducible repeat (first | refine blk_drewN ?_ _ | refine blk_drew ?_ | refine blk_alloc ?_ _)); exact BK401.out⟩, ⟨by repeat (first | (with_reducible first | exact HB.out | apply below_alloc | apply pw_below_drewN | apply below_drew1 | refine below_set ?_ GE401.out) | exact HB.out)⟩⟩
    case round =>
     clear H'
     try clear c1
     try clear p2
     try clear c4
     try clear p4
     try clear q4
     try clear hx4
     try clear c5
     try clear c5b0
     try clear c6
     try clear c6b0
     try clear p6
     try clear c7
     try clear c7b0
     try clear c8
     try clear c8b0
     try clear c8b1
     try clear hcz10_0
     try clear hcz10_1
     try clear hcz10_2
     try clear hcz10_3
     try clear hcz4_0
     try clear hcz4_1
     try clear hcz4_2
     try clear hcz4_3
     try clear hcz9_0
     try clear hcz9_1
     try clear hcz9_2
     try clear hcz9_3
     try clear hfz10_0
     try clear hfz10_1
     try clear hfz10_2
     try clear hfz10_3
     try clear hfz4_0
     try clear hfz4_1
     try clear hfz4_2
     try clear hfz4_3
     try clear hfz9_0
     try clear hfz9_1
     try clear hfz9_2
     try clear hfz9_3
     try clear hx402_0
     try clear hx402_1
     try clear hx403_0
     try clear hx403_1
     try clear p2
     try clear p402
     try clear p403
     try clear q402
     try clear q403
     obtain ⟨x7_2, rfl, HA, HK2, BK401, HB⟩ := hrel
     cases gk with
     | zero => exact absurd HA.out (by simp [stowagelaw25_CorsSilent.l1])
     | succ k2 =>
      have H := HA.out
      clear HA
      simp only [stowagelaw25_CorsSilent.l1] at H
      replace H := itO H
      rcases H with ⟨c11, H⟩ | ⟨c11, H⟩
      ·skip
       have c11b0 : decide (x7_2 < (l0.length : Int)) = true := decide_eq_true c11
       clear c11
       have H' := Aside0.mk H
       clear H
       go_wp2
       go_loopg [8] k2 (fun kq v8 w' => ∃ (x8_3 : Int), v8 = .int .i64 x8_3 ∧ Aside0 (stowagelaw25_CorsSilent.l2 kq l0 x5_1 x7_2 x8_3 a1_0 a1_1 l1_2 l1_3 = some r) ∧ Aside0 (kq ≤ k2) ∧ Aside0 (w'.heap[gb401]? = some (.cells #[.string a1_0, .string a1_1, (.slice A1_2 l1_2.length c1_2), (.slice A1_3 l1_3.length c1_3)] 26 (0, 0))) ∧ Aside0 (Below w.heap.size w w'))
       case atStart => exact ⟨(0), (by first | rfl | (simp; done) | (simp [*]; done)), H', ⟨Nat.le_refl _⟩, ⟨by (with_reducible repeat (first | refine blk_drewN ?_ _ | refine blk_drew ?_ | refine blk_alloc ?_ _)); exact BK401.out⟩, ⟨by repeat (first | (with_reducible first | exact HB.out | apply below_alloc | apply pw_below_drewN | apply below_drew1 | refine below_set ?_ GE401.out) | exact HB.out)⟩⟩
       case round =>
        clear H'
        try clear c1
        try clear p2
        try clear c4
        try clear p4
        try clear q4
        try clear hx4
        try clear c5
        try clear c5b0
        try clear c6
        try clear c6b0
        try clear p6
        try clear c7
        try clear c7b0
        try clear c8
        try clear c8b0
        try clear c8b1
        try clear c11
        try clear c11b0
        try clear hcz10_0
        try clear hcz10_1
        try clear hcz10_2
        try clear hcz10_3
        try clear hcz4_0
        try clear hcz4_1
        try clear hcz4_2
        try clear hcz4_3
        try clear hcz9_0
        try clear hcz9_1
        try clear hcz9_2
        try clear hcz9_3
        try clear hfz10_0
        try clear hfz10_1
        try clear hfz10_2
        try clear hfz10_3
        try clear hfz4_0
        try clear hfz4_1
        try clear hfz4_2
        try clear hfz4_3
        try clear hfz9_0
        try clear hfz9_1
        try clear hfz9_2
        try clear hfz9_3
        try clear hx402_0
        try clear hx402_1
        try clear hx403_0
        try clear hx403_1
        try clear p2
        try clear p4
        try clear p402
        try clear p403
        try clear p6
        try clear q4
        try clear q402
        try clear q403
        obtain ⟨x8_3, rfl, HA, HK3, BK401, HB⟩ := hrel
        cases gk with
        | zero => exact absurd HA.out (by simp [stowagelaw25_CorsSilent.l2])
        | succ k3 =>
         have H := HA.out
         clear HA
         simp only [stowagelaw25_CorsSilent.l2] at H
         replace H := itO H
         rcases H with ⟨c12, H⟩ | ⟨c12, H⟩
         ·skip
          have c12b0 : decide (0 ≤ x7_2) = true := decide_eq_true c12
          clear c12
          replace H := itO H
          rcases H with ⟨c13, H⟩ | ⟨c13, H⟩
          ·skip
           have c13b0 : decide (x7_2 < (l0.length : Int)) = true := decide_eq_true c13
           clear c13
           replace H := itO H
           rcases H with ⟨c14, H⟩ | ⟨c14, H⟩
           ·skip
            have c14b0 : decide (x8_3 < (((rd_T40 l0 x7_2).f0).length : Int)) = true := decide_eq_true c14
            clear c14
            replace H := itO H
            rcases H with ⟨c15, H⟩ | ⟨c15, H⟩
            ·skip
             have c15b0 : decide (0 ≤ x8_3) = true := decide_eq_true c15
             clear c15
             have H' := Aside0.mk H
             clear H
             have p416 : 0 ≤ (x7_2 : Int) := of_decide_eq_true (by first | (with_reducible assumption) | assumption)
             have q416 : x7_2 < (l0.length : Int) := of_decide_eq_true (by first | (with_reducible assumption) | assumption)
             obtain ⟨ad416, A416_0, c416_0, A416_1, c416_1, A416_2, c416_2, A416_3, c416_3, e416, hx416_0, hx416_1, hx416_2, hx416_3, hx416_4, hl416_0, hi416_0, hl416_1, hi416_1, hl416_2, hi416_2, hl416_3, hi416_3⟩ := at_T40 HR0.out x7_2 p416 q416
             cases e416
             replace hx416_0 := (HB.out.cell (World.block_lt_of_cell? w _ hx416_0)).trans hx416_0
             replace hx416_1 := (HB.out.cell (World.block_lt_of_cell? w _ hx416_1)).trans hx416_1
             replace hx416_2 := (HB.out.cell (World.block_lt_of_cell? w _ hx416_2)).trans hx416_2
             replace hx416_3 := (HB.out.cell (World.block_lt_of_cell? w _ hx416_3)).trans hx416_3
             replace hx416_4 := (HB.out.cell (World.block_lt_of_cell? w _ hx416_4)).trans hx416_4
             have HR416_0 := Aside0.mk hi416_0
             have HC416_0 := Aside0.mk hl416_0
             clear hi416_0 hl416_0
             have HR416_1 := Aside0.mk hi416_1
             have HC416_1 := Aside0.mk hl416_1
             clear hi416_1 hl416_1
             have HR416_2 := Aside0.mk hi416_2
             have HC416_2 := Aside0.mk hl416_2
             clear hi416_2 hl416_2
             have HR416_3 := Aside0.mk hi416_3
             have HC416_3 := Aside0.mk hl416_3
             clear hi416_3 hl416_3
             replace p416 := eq_true p416
             replace q416 := eq_true q416
             have p417 : 0 ≤ (x7_2 : Int) := of_decide_eq_true (by first | (with_reducible assumption) | assumption)
             have q417 : x7_2 < (l0.length : Int) := of_decide_eq_true (by first | (with_reducible assumption) | assumption)
             obtain ⟨ad417, A417_0, c417_0, A417_1, c417_1, A417_2, c417_2, A417_3, c417_3, e417, hx417_0, hx417_1, hx417_2, hx417_3, hx417_4, hl417_0, hi417_0, hl417_1, hi417_1, hl417_2, hi417_2, hl417_3, hi417_3⟩ := at_T40 HR0.out x7_2 p417 q417
             obtain rfl : ad416 = ad417 := (by injection e417)
             replace hx417_0 := (HB.out.cell (World.block_lt_of_cell? w _ hx417_0)).trans hx417_0
             replace hx417_1 := (HB.out.cell (World.block_lt_of_cell? w _ hx417_1)).trans hx417_1
             replace hx417_2 := (HB.out.cell (World.block_lt_of_cell? w _ hx417_2)).trans hx417_2
             replace hx417_3 := (HB.out.cell (World.block_lt_of_cell? w _ hx417_3)).trans hx417_3
             replace hx417_4 := (HB.out.cell (World.block_lt_of_cell? w _ hx417_4)).trans hx417_4
             have HR417_0 := Aside0.mk hi417_0
             have HC417_0 := Aside0.mk hl417_0
             clear hi417_0 hl417_0
             have HR417_1 := Aside0.mk hi417_1
             have HC417_1 := Aside0.mk hl417_1
             clear hi417_1 hl417_1
             have HR417_2 := Aside0.mk hi417_2
             have HC417_2 := Aside0.mk hl417_2
             clear hi417_2 hl417_2
             have HR417_3 := Aside0.mk hi417_3
             have HC417_3 := Aside0.mk hl417_3
             clear hi417_3 hl417_3
             replace p417 := eq_true p417
             replace q417 := eq_true q417
             have ea_ := Option.some.inj (hx416_0.symm.trans hx417_0)
             injection ea_ with ea_ en_ ec_
             subst ea_
             subst ec_
             clear en_
             have ea_ := Option.some.inj (hx416_1.symm.trans hx417_1)
             injection ea_ with ea_ en_ ec_
             subst ea_
             subst ec_
             clear en_
             have ea_ := Option.some.inj (hx416_2.symm.trans hx417_2)
             injection ea_ with ea_ en_ ec_
             subst ea_
             subst ec_
             clear en_
             have ea_ := Option.some.inj (hx416_3.symm.trans hx417_3)
             injection ea_ with ea_ en_ ec_
             subst ea_
             subst ec_
             clear en_
             have p418 : 0 ≤ (x8_3 : Int) := of_decide_eq_true (by first | (with_reducible assumption) | assumption)
             have q418 : x8_3 < (((rd_T40 l0 x7_2).f0).length : Int) := of_decide_eq_true (by first | (with_reducible assumption) | assumption)
             obtain ⟨ad418, e418, hx418_0⟩ := Kd.at_string HR417_0.out x8_3 p418 q418
             cases e418
             replace hx418_0 := (HB.out.cell (World.block_lt_of_cell? w _ hx418_0)).trans hx418_0
             replace p418 := eq_true p418
             replace q418 := eq_true q418
             go_wp2
             go_loopg [10] k3 (fun kq v10 w' => ∃ (x10_4 : Int), v10 = .int .i64 x10_4 ∧ Aside0 (stowagelaw25_CorsSilent.l3 kq l0 x5_1 x7_2 x8_3 (rdOf ByteArray.empty ((rd_T40 l0 x7_2).f0) x8_3) x10_4 a1_0 a1_1 l1_2 l1_3 = some r) ∧ Aside0 (kq ≤ k3) ∧ Aside0 (w'.heap[gb401]? = some (.cells #[.string a1_0, .string a1_1, (.slice A1_2 l1_2.length c1_2), (.slice A1_3 l1_3.length c1_3)] 26 (0, 0))) ∧ Aside0 (Below w.heap.size w w'))
             case atStart => exact ⟨(0), (by first | rfl | (simp; done) | (simp [*]; done)), H', ⟨Nat.le_refl _⟩, ⟨by (with_reducible repeat (first | refine blk_drewN ?_ _ | refine blk_drew ?_ | refine blk_alloc ?_ _)); exact BK401.out⟩, ⟨by repeat (first | (with_reducible first | exact HB.out | apply below_alloc | apply pw_below_drewN | apply below_drew1 | refine below_set ?_ GE401.out) | exact HB.out)⟩⟩
             case round =>
              clear H'
              try clear c1
              try clear p2
              try clear c4
              try clear p4
              try clear q4
              try clear hx4
              try clear c5
              try clear c5b0
              try clear c6
              try clear c6b0
              try clear p6
              try clear c7
              try clear c7b0
              try clear c8
              try clear c8b0
              try clear c8b1
              try clear c11
              try clear c11b0
              try clear c12
              try clear c12b0
              try clear c13
              try clear c13b0
              try clear c14
              try clear c14b0
              try clear c15
              try clear c15b0
              try clear hcz10_0
              try clear hcz10_1
              try clear hcz10_2
              try clear hcz10_3
              try clear hcz4_0
              try clear hcz4_1
              try clear hcz4_2
              try clear hcz4_3
              try clear hcz9_0
              try clear hcz9_1
              try clear hcz9_2
              try clear hcz9_3
              try clear hfz10_0
              try clear hfz10_1
              try clear hfz10_2
              try clear hfz10_3
              try clear hfz4_0
              try clear hfz4_1
              try clear hfz4_2
              try clear hfz4_3
              try clear hfz9_0
              try clear hfz9_1
              try clear hfz9_2
              try clear hfz9_3
              try clear hx402_0
              try clear hx402_1
              try clear hx403_0
              try clear hx403_1
              try clear hx416_0
              try clear hx416_1
              try clear hx416_2
              try clear hx416_3
              try clear hx416_4
              try clear hx417_0
              try clear hx417_1
              try clear hx417_2
              try clear hx417_3
              try clear hx417_4
              try clear hx418_0
              try clear p2
              try clear p4
              try clear p402
              try clear p403
              try clear p416
              try clear p417
              try clear p418
              try clear p6
              try clear q4
              try clear q402
              try clear q403
              try clear q416
              try clear q417
              try clear q418
              obtain ⟨x10_4, rfl, HA, HK4, BK401, HB⟩ := hrel
              cases gk with
              | zero => exact absurd HA.out (by simp [stowagelaw25_CorsSilent.l3])
              | succ k4 =>
               have H := HA.out
               clear HA
               simp only [stowagelaw25_CorsSilent.l3] at H
               replace H := itO H
               rcases H with ⟨c16, H⟩ | ⟨c16, H⟩
               ·skip
                have c16b0 : decide (x10_4 < ((rdOf ByteArray.empty ((rd_T40 l0 x7_2).f0) x8_3).size : Int)) = true := decide_eq_true c16
                clear c16
                replace H := itO H
                rcases H with ⟨c17, H⟩ | ⟨c17, H⟩
                ·skip
                 have c17b0 : decide (0 ≤ x10_4) = true := decide_eq_true c17
                 clear c17
                 replace H := itO H
                 rcases H with ⟨c19, H⟩ | ⟨c19, H⟩
                 ·skip
                  have c19b0 : ((bt (rdOf ByteArray.empty ((rd_T40 l0 x7_2).f0) x8_3) x10_4) == 42) = true := beq_iff_eq.mpr c19
                  have c19b1 : ((bt (rdOf ByteArray.empty ((rd_T40 l0 x7_2).f0) x8_3) x10_4) != 42) = false := bne_eq_false_iff_eq.mpr c19
                  clear c19
                  replace H := bndO H
                  obtain ⟨t419, A200, H⟩ := H
                  have A20 := Aside0.mk A200
                  clear A200
                  clear hr
                  obtain rfl := Option.some.inj H
                  have p18 : 0 ≤ (x10_4 : Int) := of_decide_eq_true (by first | (with_reducible assumption) | assumption)
                  have q18 : x10_4 < ((rdOf ByteArray.empty ((rd_T40 l0 x7_2).f0) x8_3).size : Int) := of_decide_eq_true (by first | (with_reducible assumption) | assumption)
                  have hx18 := bt_at (rdOf ByteArray.empty ((rd_T40 l0 x7_2).f0) x8_3) x10_4
                  replace p18 := eq_true p18
                  replace q18 := eq_true q18
                  go_wp2_with (first | ((with_reducible refine gate_callee (f := 10) rfl ?_); refine goesL_ (some 68) rfl rfl Tryd.func10 (by kernel_rfl) rfl #[] rfl (by (try simp only [List.map_toArray, List.map_cons, List.map_nil]); first | done | rfl | (simp only [List.length_drop, List.length_take]; rfl)) ?_; (with_reducible refine (stowagelaw25_awake.calls  t419 _ A20.out).mono ?_); rintro e w' ⟨rfl, ⟨nd, rfl⟩⟩; refine ⟨_, rfl, ?_⟩))
                  go_ret
                  exact ⟨by first | rfl | (simp [errW_none, errW_some] <;> rfl) | (simp [*, errW_none, errW_some] <;> rfl), by repeat (first | (with_reducible first | exact HB.out | apply below_alloc | apply pw_below_drewN | apply below_drew1 | refine below_set ?_ GE401.out) | exact HB.out)⟩
                 ·skip
                  have c19b0 : ((bt (rdOf ByteArray.empty ((rd_T40 l0 x7_2).f0) x8_3) x10_4) == 42) = false := beq_eq_false_iff_ne.mpr c19
                  have c19b1 : ((bt (rdOf ByteArray.empty ((rd_T40 l0 x7_2).f0) x8_3) x10_4) != 42) = true := bne_iff_ne.mpr c19
                  have H' := Aside0.mk H
                  clear H
                  have p18 : 0 ≤ (x10_4 : Int) := of_decide_eq_true (by first | (with_reducible assumption) | assumption)
                  have q18 : x10_4 < ((rdOf ByteArray.empty ((rd_T40 l0 x7_2).f0) x8_3).size : Int) := of_decide_eq_true (by first | (with_reducible assumption) | assumption)
                  have hx18 := bt_at (rdOf ByteArray.empty ((rd_T40 l0 x7_2).f0) x8_3) x10_4
                  replace p18 := eq_true p18
                  replace q18 := eq_true q18
                  go_wp2
                  go_roundg k4
                  case measure => have := HK1.out; have := HK2.out; have := HK3.out; have := HK4.out; omega
                  case rel => exact ⟨(wrap64 (x10_4 + 1)), (by first | rfl | (simp; done) | (simp [*]; done)), H', ⟨by have := HK1.out; have := HK2.out; have := HK3.out; have := HK4.out; omega⟩, ⟨by (with_reducible repeat (first | refine blk_drewN ?_ _ | refine blk_drew ?_ | refine blk_alloc ?_ _)); exact BK401.out⟩, ⟨by repeat (first | (with_reducible first | exact HB.out | apply below_alloc | apply pw_below_drewN | apply below_drew1 | refine below_set ?_ GE401.out) | exact HB.out)⟩⟩
                ·exact absurd H (by simp)
               ·skip
                have c16b0 : decide (x10_4 < ((rdOf ByteArray.empty ((rd_T40 l0 x7_2).f0) x8_3).size : Int)) = false := decide_eq_false c16
                clear c16
                replace H := itO H
                rcases H with ⟨c21, H⟩ | ⟨c21, H⟩
                ·skip
                 have c21b0 : ((rdOf ByteArray.empty ((rd_T40 l0 x7_2).f0) x8_3).toList == x5_1.toList) = true := beq_iff_eq.mpr c21
                 have c21b1 : ((rdOf ByteArray.empty ((rd_T40 l0 x7_2).f0) x8_3).toList != x5_1.toList) = false := bne_eq_false_iff_eq.mpr c21
                 clear c21
                 replace H := bndO H
                 obtain ⟨t420, A220, H⟩ := H
                 have A22 := Aside0.mk A220
                 clear A220
                 clear hr
                 obtain rfl := Option.some.inj H
                 go_wp2_with (first | ((with_reducible refine gate_callee (f := 10) rfl ?_); refine goesL_ (some 72) rfl rfl Tryd.func10 (by kernel_rfl) rfl #[] rfl (by (try simp only [List.map_toArray, List.map_cons, List.map_nil]); first | done | rfl | (simp only [List.length_drop, List.length_take]; rfl)) ?_; (with_reducible refine (stowagelaw25_awake.calls  t420 _ A22.out).mono ?_); rintro e w' ⟨rfl, ⟨nd, rfl⟩⟩; refine ⟨_, rfl, ?_⟩))
                 go_ret
                 exact ⟨by first | rfl | (simp [errW_none, errW_some] <;> rfl) | (simp [*, errW_none, errW_some] <;> rfl), by repeat (first | (with_reducible first | exact HB.out | apply below_alloc | apply pw_below_drewN | apply below_drew1 | refine below_set ?_ GE401.out) | exact HB.out)⟩
                ·skip
                 have c21b0 : ((rdOf ByteArray.empty ((rd_T40 l0 x7_2).f0) x8_3).toList == x5_1.toList) = false := beq_eq_false_iff_ne.mpr c21
                 have c21b1 : ((rdOf ByteArray.empty ((rd_T40 l0 x7_2).f0) x8_3).toList != x5_1.toList) = true := bne_iff_ne.mpr c21
                 have H' := Aside0.mk H
                 clear H
                 go_wp2
                 go_roundg k4
                 case measure => have := HK1.out; have := HK2.out; have := HK3.out; have := HK4.out; omega
                 case rel => exact ⟨(wrap64 (x8_3 + 1)), (by first | rfl | (simp; done) | (simp [*]; done)), H', ⟨by have := HK1.out; have := HK2.out; have := HK3.out; have := HK4.out; omega⟩, ⟨by (with_reducible repeat (first | refine blk_drewN ?_ _ | refine blk_drew ?_ | refine blk_alloc ?_ _)); exact BK401.out⟩, ⟨by repeat (first | (with_reducible first | exact HB.out | apply below_alloc | apply pw_below_drewN | apply below_drew1 | refine below_set ?_ GE401.out) | exact HB.out)⟩⟩
            ·exact absurd H (by simp)
           ·skip
            have c14b0 : decide (x8_3 < (((rd_T40 l0 x7_2).f0).length : Int)) = false := decide_eq_false c14
            clear c14
            have H' := Aside0.mk H
            clear H
            have p416 : 0 ≤ (x7_2 : Int) := of_decide_eq_true (by first | (with_reducible assumption) | assumption)
            have q416 : x7_2 < (l0.length : Int) := of_decide_eq_true (by first | (with_reducible assumption) | assumption)
            obtain ⟨ad416, A416_0, c416_0, A416_1, c416_1, A416_2, c416_2, A416_3, c416_3, e416, hx416_0, hx416_1, hx416_2, hx416_3, hx416_4, hl416_0, hi416_0, hl416_1, hi416_1, hl416_2, hi416_2, hl416_3, hi416_3⟩ := at_T40 HR0.out x7_2 p416 q416
            cases e416
            replace hx416_0 := (HB.out.cell (World.block_lt_of_cell? w _ hx416_0)).trans hx416_0
            replace hx416_1 := (HB.out.cell (World.block_lt_of_cell? w _ hx416_1)).trans hx416_1
            replace hx416_2 := (HB.out.cell (World.block_lt_of_cell? w _ hx416_2)).trans hx416_2
            replace hx416_3 := (HB.out.cell (World.block_lt_of_cell? w _ hx416_3)).trans hx416_3
            replace hx416_4 := (HB.out.cell (World.block_lt_of_cell? w _ hx416_4)).trans hx416_4
            have HR416_0 := Aside0.mk hi416_0
            have HC416_0 := Aside0.mk hl416_0
            clear hi416_0 hl416_0
            have HR416_1 := Aside0.mk hi416_1
            have HC416_1 := Aside0.mk hl416_1
            clear hi416_1 hl416_1
            have HR416_2 := Aside0.mk hi416_2
            have HC416_2 := Aside0.mk hl416_2
            clear hi416_2 hl416_2
            have HR416_3 := Aside0.mk hi416_3
            have HC416_3 := Aside0.mk hl416_3
            clear hi416_3 hl416_3
            replace p416 := eq_true p416
            replace q416 := eq_true q416
            go_wp2
            go_roundg k3
            case measure => have := HK1.out; have := HK2.out; have := HK3.out; omega
            case rel => exact ⟨(wrap64 (x7_2 + 1)), (by first | rfl | (simp; done) | (simp [*]; done)), H', ⟨by have := HK1.out; have := HK2.out; have := HK3.out; omega⟩, ⟨by (with_reducible repeat (first | refine blk_drewN ?_ _ | refine blk_drew ?_ | refine blk_alloc ?_ _)); exact BK401.out⟩, ⟨by repeat (first | (with_reducible first | exact HB.out | apply below_alloc | apply pw_below_drewN | apply below_drew1 | refine below_set ?_ GE401.out) | exact HB.out)⟩⟩
          ·exact absurd H (by simp)
         ·exact absurd H (by simp)
      ·skip
       have c11b0 : decide (x7_2 < (l0.length : Int)) = false := decide_eq_false c11
       clear c11
       replace H := bndO H
       obtain ⟨⟨t404, t407⟩, A230, H⟩ := H
       dsimp only at H
       have A23 := Aside0.mk A230
       clear A230
       replace H := itO H
       rcases H with ⟨c24, H⟩ | ⟨c24, H⟩
       ·skip
        have c24b0 : ((t404.length : Int) == 0) = true := beq_iff_eq.mpr c24
        have c24b1 : ((t404.length : Int) != 0) = false := bne_eq_false_iff_eq.mpr c24
        clear c24
        replace H := itO H
        rcases H with ⟨c25, H⟩ | ⟨c25, H⟩
        ·skip
         have c25b0 : (t407 == 308) = true := beq_iff_eq.mpr c25
         have c25b1 : (t407 != 308) = false := bne_eq_false_iff_eq.mpr c25
         clear c25
         replace H := bndO H
         obtain ⟨t408, A260, H⟩ := H
         have A26 := Aside0.mk A260
         clear A260
         replace H := itO H
         rcases H with ⟨c27, H⟩ | ⟨c27, H⟩
         ·skip
          have c27b0 : ((t408.length : Int) == 0) = true := beq_iff_eq.mpr c27
          have c27b1 : ((t408.length : Int) != 0) = false := bne_eq_false_iff_eq.mpr c27
          clear c27
          replace H := bndO H
          obtain ⟨t411, A280, H⟩ := H
          have A28 := Aside0.mk A280
          clear A280
          clear hr
          obtain rfl := Option.some.inj H
          have hcz29_0 : wr.cell? ⟨gb401, 0, none⟩ = some (.string a1_0) := (blk_cell BK401.out 0).trans rfl
          have hcz29_1 : wr.cell? ⟨gb401, 1, none⟩ = some (.string a1_1) := (blk_cell BK401.out 1).trans rfl
          have hcz29_2 : wr.cell? ⟨gb401, 2, none⟩ = some (.slice A1_2 l1_2.length c1_2) := (blk_cell BK401.out 2).trans rfl
          have hcz29_3 : wr.cell? ⟨gb401, 3, none⟩ = some (.slice A1_3 l1_3.length c1_3) := (blk_cell BK401.out 3).trans rfl
          have hfz29_0 := blk_frozen BK401.out 0
          have hfz29_1 := blk_frozen BK401.out 1
          have hfz29_2 := blk_frozen BK401.out 2
          have hfz29_3 := blk_frozen BK401.out 3
          go_wp2_with (first | ((with_reducible refine gate_callee (f := 5) rfl ?_); refine goesL_ (some 76) rfl rfl Tryd.func5 (by kernel_rfl) rfl #[.slice A0 l0.length c0, .agg #[.string a1_0, .string a1_1, .slice A1_2 l1_2.length c1_2, .slice A1_3 l1_3.length c1_3]] rfl (by (try simp only [List.map_toArray, List.map_cons, List.map_nil]); first | done | rfl | (simp only [List.length_drop, List.length_take]; rfl)) ?_; (with_reducible refine (cors_Preflight.calls k2 _ _ l0 a1_0 a1_1 _ _ l1_2 _ _ l1_3 t404 t407 _ ?side1 ?side2 ?side3 ?side4 ?side5 ?side6 (by first | exact hG | exact gok_below hG (by repeat (first | (with_reducible first | exact HB.out | apply below_alloc | apply pw_below_drewN | apply below_drew1 | refine below_set ?_ GE401.out) | exact HB.out)) | exact gok_drewN hG _ | exact gok_below hG (by repeat (first | exact HB.out | exact HBW.out | exact Below.refl _ _ | apply below_alloc | apply pw_below_drewN | apply below_drew1))) A23.out).mono ?_); (case side1 => repeat (first | exact (Kd.C_below HR0.out HB.out) | (with_reducible refine Kd.C_alloc ?_ _) | (with_reducible refine Kd.C_drewN ?_ _) | (with_reducible refine Kd.C_drew ?_))); (case side2 => exact HC0.out); (case side3 => repeat (first | exact (Kd.C_below HR1_2.out HB.out) | (with_reducible refine Kd.C_alloc ?_ _) | (with_reducible refine Kd.C_drewN ?_ _) | (with_reducible refine Kd.C_drew ?_))); (case side4 => exact HC1_2.out); (case side5 => repeat (first | exact (Kd.C_below HR1_3.out HB.out) | (with_reducible refine Kd.C_alloc ?_ _) | (with_reducible refine Kd.C_drewN ?_ _) | (with_reducible refine Kd.C_drew ?_))); (case side6 => exact HC1_3.out); rintro e w30 ⟨v405, rfl, ho0, hb⟩; refine ⟨_, rfl, ?_⟩; have n0_ := Aside0.mk (Kd.V_lower (Kd.V_mono (ok' := fun k_ => k_ ≠ gb401) ho0 (fun k_ hk_ => (Kd.freshB (g := gb401) (o := .cells #[.string a1_0, .string a1_1, .slice A1_2 l1_2.length c1_2, .slice A1_3 l1_3.length c1_3] 26 (0, 0)) (by (with_reducible repeat (first | refine blk_drewN ?_ _ | refine blk_drew ?_ | refine blk_alloc ?_ _)); exact BK401.out) k_ hk_))) (below_size (by repeat (first | (with_reducible first | exact HB.out | apply below_alloc | apply pw_below_drewN | apply below_drew1 | refine below_set ?_ GE401.out) | exact HB.out)))); have n1_ := Aside0.mk (blk_below (g := gb401) (o := .cells #[.string a1_0, .string a1_1, .slice A1_2 l1_2.length c1_2, .slice A1_3 l1_3.length c1_3] 26 (0, 0)) (by (with_reducible repeat (first | refine blk_drewN ?_ _ | refine blk_drew ?_ | refine blk_alloc ?_ _)); exact BK401.out) hb); have n2_ := Aside0.mk (below_step (by repeat (first | (with_reducible first | exact HB.out | apply below_alloc | apply pw_below_drewN | apply below_drew1 | refine below_set ?_ GE401.out) | exact HB.out)) hb); clear BK401; clear HB; have HO406 := n0_; have BK401 := n1_; have HB := n2_; clear n0_ n1_ n2_; (try clear hb); (try clear hb2); (try clear hk); (try clear hi); (try clear ho0); obtain ⟨Ao31, co31, eo31⟩ := Kd.V_slice HO406.out; subst eo31; have hcz32_0 : w30.cell? ⟨gb401, 0, none⟩ = some (.string a1_0) := (blk_cell BK401.out 0).trans rfl; have hcz32_1 : w30.cell? ⟨gb401, 1, none⟩ = some (.string a1_1) := (blk_cell BK401.out 1).trans rfl; have hcz32_2 : w30.cell? ⟨gb401, 2, none⟩ = some (.slice A1_2 l1_2.length c1_2) := (blk_cell BK401.out 2).trans rfl; have hcz32_3 : w30.cell? ⟨gb401, 3, none⟩ = some (.slice A1_3 l1_3.length c1_3) := (blk_cell BK401.out 3).trans rfl; have hfz32_0 := blk_frozen BK401.out 0; have hfz32_1 := blk_frozen BK401.out 1; have hfz32_2 := blk_frozen BK401.out 2; have hfz32_3 := blk_frozen BK401.out 3) | (go_at_call 8; (with_reducible refine (cors_Actual.calls k2 _ _ l0 a1_0 a1_1 _ _ l1_2 _ _ l1_3 t408 _ ?side1 ?side2 ?side3 ?side4 ?side5 ?side6 A26.out).mono ?_); (case side1 => repeat (first | exact (Kd.C_below HR0.out HB.out) | (with_reducible refine Kd.C_alloc ?_ _) | (with_reducible refine Kd.C_drewN ?_ _) | (with_reducible refine Kd.C_drew ?_))); (case side2 => exact HC0.out); (case side3 => repeat (first | exact (Kd.C_below HR1_2.out HB.out) | (with_reducible refine Kd.C_alloc ?_ _) | (with_reducible refine Kd.C_drewN ?_ _) | (with_reducible refine Kd.C_drew ?_))); (case side4 => exact HC1_2.out); (case side5 => repeat (first | exact (Kd.C_below HR1_3.out HB.out) | (with_reducible refine Kd.C_alloc ?_ _) | (with_reducible refine Kd.C_drewN ?_ _) | (with_reducible refine Kd.C_drew ?_))); (case side6 => exact HC1_3.out); rintro e w33 ⟨v409, rfl, ho0, hb⟩; have n0_ := Aside0.mk (Kd.V_below (by (with_reducible repeat (first | apply Kd.V_alloc | apply Kd.V_drewN | apply Kd.V_drew)); exact HO406.out) hb); have n1_ := Aside0.mk (Kd.V_lower (Kd.V_mono (ok' := fun k_ => k_ ≠ gb401) ho0 (fun k_ hk_ => (Kd.freshB (g := gb401) (o := .cells #[.string a1_0, .string a1_1, .slice A1_2 l1_2.length c1_2, .slice A1_3 l1_3.length c1_3] 26 (0, 0)) (by (with_reducible repeat (first | refine blk_drewN ?_ _ | refine blk_drew ?_ | refine blk_alloc ?_ _)); exact BK401.out) k_ hk_))) (below_size (by repeat (first | (with_reducible first | exact HB.out | apply below_alloc | apply pw_below_drewN | apply below_drew1 | refine below_set ?_ GE401.out) | exact HB.out)))); have n2_ := Aside0.mk (blk_below (g := gb401) (o := .cells #[.string a1_0, .string a1_1, .slice A1_2 l1_2.length c1_2, .slice A1_3 l1_3.length c1_3] 26 (0, 0)) (by (with_reducible repeat (first | refine blk_drewN ?_ _ | refine blk_drew ?_ | refine blk_alloc ?_ _)); exact BK401.out) hb); have n3_ := Aside0.mk (below_step (by repeat (first | (with_reducible first | exact HB.out | apply below_alloc | apply pw_below_drewN | apply below_drew1 | refine below_set ?_ GE401.out) | exact HB.out)) hb); clear HO406; clear BK401; clear HB; have HO406 := n0_; have HO410 := n1_; have BK401 := n2_; have HB := n3_; clear n0_ n1_ n2_ n3_; (try clear hb); (try clear hb2); (try clear hk); (try clear hi); (try clear ho0); obtain ⟨Ao34, co34, eo34⟩ := Kd.V_slice HO410.out; subst eo34) | (go_at_call 10; (with_reducible refine (stowagelaw25_awake.calls  t411 _ A28.out).mono ?_); rintro e w' ⟨rfl, ⟨nd, rfl⟩⟩))
          go_ret
          exact ⟨by first | rfl | (simp [errW_none, errW_some] <;> rfl) | (simp [*, errW_none, errW_some] <;> rfl), by repeat (first | (with_reducible first | exact HB.out | apply below_alloc | apply pw_below_drewN | apply below_drew1 | refine below_set ?_ GE401.out) | exact HB.out)⟩
         ·skip
          have c27b0 : ((t408.length : Int) == 0) = false := beq_eq_false_iff_ne.mpr c27
          have c27b1 : ((t408.length : Int) != 0) = true := bne_iff_ne.mpr c27
          have c27b2 : ¬ (t408 = []) := fun h_ => c27 (by rw [h_]; rfl)
          rw [hr] at H
          exact absurd H (by simp)
        ·skip
         have c25b0 : (t407 == 308) = false := beq_eq_false_iff_ne.mpr c25
         have c25b1 : (t407 != 308) = true := bne_iff_ne.mpr c25
         replace H := itO H
         rcases H with ⟨c35, H⟩ | ⟨c35, H⟩
         ·skip
          have c35b0 : (t407 == 306) = true := beq_iff_eq.mpr c35
          have c35b1 : (t407 != 306) = false := bne_eq_false_iff_eq.mpr c35
          clear c35
          replace H := bndO H
          obtain ⟨t412, A360, H⟩ := H
          have A36 := Aside0.mk A360
          clear A360
          replace H := itO H
          rcases H with ⟨c37, H⟩ | ⟨c37, H⟩
          ·skip
           have c37b0 : ((t412.length : Int) == 0) = true := beq_iff_eq.mpr c37
           have c37b1 : ((t412.length : Int) != 0) = false := bne_eq_false_iff_eq.mpr c37
           clear c37
           replace H := bndO H
           obtain ⟨t415, A380, H⟩ := H
           have A38 := Aside0.mk A380
           clear A380
           clear hr
           obtain rfl := Option.some.inj H
           have hcz39_0 : wr.cell? ⟨gb401, 0, none⟩ = some (.string a1_0) := (blk_cell BK401.out 0).trans rfl
           have hcz39_1 : wr.cell? ⟨gb401, 1, none⟩ = some (.string a1_1) := (blk_cell BK401.out 1).trans rfl
           have hcz39_2 : wr.cell? ⟨gb401, 2, none⟩ = some (.slice A1_2 l1_2.length c1_2) := (blk_cell BK401.out 2).trans rfl
           have hcz39_3 : wr.cell? ⟨gb401, 3, none⟩ = some (.slice A1_3 l1_3.length c1_3) := (blk_cell BK401.out 3).trans rfl
           have hfz39_0 := blk_frozen BK401.out 0
           have hfz39_1 := blk_frozen BK401.out 1
           have hfz39_2 := blk_frozen BK401.out 2
           have hfz39_3 := blk_frozen BK401.out 3
           go_wp2_with (first | ((with_reducible refine gate_callee (f := 5) rfl ?_); refine goesL_ (some 76) rfl rfl Tryd.func5 (by kernel_rfl) rfl #[.slice A0 l0.length c0, .agg #[.string a1_0, .string a1_1, .slice A1_2 l1_2.length c1_2, .slice A1_3 l1_3.length c1_3]] rfl (by (try simp only [List.map_toArray, List.map_cons, List.map_nil]); first | done | rfl | (simp only [List.length_drop, List.length_take]; rfl)) ?_; (with_reducible refine (cors_Preflight.calls k2 _ _ l0 a1_0 a1_1 _ _ l1_2 _ _ l1_3 t404 t407 _ ?side1 ?side2 ?side3 ?side4 ?side5 ?side6 (by first | exact hG | exact gok_below hG (by repeat (first | (with_reducible first | exact HB.out | apply below_alloc | apply pw_below_drewN | apply below_drew1 | refine below_set ?_ GE401.out) | exact HB.out)) | exact gok_drewN hG _ | exact gok_below hG (by repeat (first | exact HB.out | exact HBW.out | exact Below.refl _ _ | apply below_alloc | apply pw_below_drewN | apply below_drew1))) A23.out).mono ?_); (case side1 => repeat (first | exact (Kd.C_below HR0.out HB.out) | (with_reducible refine Kd.C_alloc ?_ _) | (with_reducible refine Kd.C_drewN ?_ _) | (with_reducible refine Kd.C_drew ?_))); (case side2 => exact HC0.out); (case side3 => repeat (first | exact (Kd.C_below HR1_2.out HB.out) | (with_reducible refine Kd.C_alloc ?_ _) | (with_reducible refine Kd.C_drewN ?_ _) | (with_reducible refine Kd.C_drew ?_))); (case side4 => exact HC1_2.out); (case side5 => repeat (first | exact (Kd.C_below HR1_3.out HB.out) | (with_reducible refine Kd.C_alloc ?_ _) | (with_reducible refine Kd.C_drewN ?_ _) | (with_reducible refine Kd.C_drew ?_))); (case side6 => exact HC1_3.out); rintro e w40 ⟨v405, rfl, ho0, hb⟩; refine ⟨_, rfl, ?_⟩; have n0_ := Aside0.mk (Kd.V_lower (Kd.V_mono (ok' := fun k_ => k_ ≠ gb401) ho0 (fun k_ hk_ => (Kd.freshB (g := gb401) (o := .cells #[.string a1_0, .string a1_1, .slice A1_2 l1_2.length c1_2, .slice A1_3 l1_3.length c1_3] 26 (0, 0)) (by (with_reducible repeat (first | refine blk_drewN ?_ _ | refine blk_drew ?_ | refine blk_alloc ?_ _)); exact BK401.out) k_ hk_))) (below_size (by repeat (first | (with_reducible first | exact HB.out | apply below_alloc | apply pw_below_drewN | apply below_drew1 | refine below_set ?_ GE401.out) | exact HB.out)))); have n1_ := Aside0.mk (blk_below (g := gb401) (o := .cells #[.string a1_0, .string a1_1, .slice A1_2 l1_2.length c1_2, .slice A1_3 l1_3.length c1_3] 26 (0, 0)) (by (with_reducible repeat (first | refine blk_drewN ?_ _ | refine blk_drew ?_ | refine blk_alloc ?_ _)); exact BK401.out) hb); have n2_ := Aside0.mk (below_step (by repeat (first | (with_reducible first | exact HB.out | apply below_alloc | apply pw_below_drewN | apply below_drew1 | refine below_set ?_ GE401.out) | exact HB.out)) hb); clear BK401; clear HB; have HO406 := n0_; have BK401 := n1_; have HB := n2_; clear n0_ n1_ n2_; (try clear hb); (try clear hb2); (try clear hk); (try clear hi); (try clear ho0); obtain ⟨Ao41, co41, eo41⟩ := Kd.V_slice HO406.out; subst eo41; have hcz42_0 : w40.cell? ⟨gb401, 0, none⟩ = some (.string a1_0) := (blk_cell BK401.out 0).trans rfl; have hcz42_1 : w40.cell? ⟨gb401, 1, none⟩ = some (.string a1_1) := (blk_cell BK401.out 1).trans rfl; have hcz42_2 : w40.cell? ⟨gb401, 2, none⟩ = some (.slice A1_2 l1_2.length c1_2) := (blk_cell BK401.out 2).trans rfl; have hcz42_3 : w40.cell? ⟨gb401, 3, none⟩ = some (.slice A1_3 l1_3.length c1_3) := (blk_cell BK401.out 3).trans rfl; have hfz42_0 := blk_frozen BK401.out 0; have hfz42_1 := blk_frozen BK401.out 1; have hfz42_2 := blk_frozen BK401.out 2; have hfz42_3 := blk_frozen BK401.out 3) | (go_at_call 8; (with_reducible refine (cors_Actual.calls k2 _ _ l0 a1_0 a1_1 _ _ l1_2 _ _ l1_3 t412 _ ?side1 ?side2 ?side3 ?side4 ?side5 ?side6 A36.out).mono ?_); (case side1 => repeat (first | exact (Kd.C_below HR0.out HB.out) | (with_reducible refine Kd.C_alloc ?_ _) | (with_reducible refine Kd.C_drewN ?_ _) | (with_reducible refine Kd.C_drew ?_))); (case side2 => exact HC0.out); (case side3 => repeat (first | exact (Kd.C_below HR1_2.out HB.out) | (with_reducible refine Kd.C_alloc ?_ _) | (with_reducible refine Kd.C_drewN ?_ _) | (with_reducible refine Kd.C_drew ?_))); (case side4 => exact HC1_2.out); (case side5 => repeat (first | exact (Kd.C_below HR1_3.out HB.out) | (with_reducible refine Kd.C_alloc ?_ _) | (with_reducible refine Kd.C_drewN ?_ _) | (with_reducible refine Kd.C_drew ?_))); (case side6 => exact HC1_3.out); rintro e w43 ⟨v413, rfl, ho0, hb⟩; have n0_ := Aside0.mk (Kd.V_below (by (with_reducible repeat (first | apply Kd.V_alloc | apply Kd.V_drewN | apply Kd.V_drew)); exact HO406.out) hb); have n1_ := Aside0.mk (Kd.V_lower (Kd.V_mono (ok' := fun k_ => k_ ≠ gb401) ho0 (fun k_ hk_ => (Kd.freshB (g := gb401) (o := .cells #[.string a1_0, .string a1_1, .slice A1_2 l1_2.length c1_2, .slice A1_3 l1_3.length c1_3] 26 (0, 0)) (by (with_reducible repeat (first | refine blk_drewN ?_ _ | refine blk_drew ?_ | refine blk_alloc ?_ _)); exact BK401.out) k_ hk_))) (below_size (by repeat (first | (with_reducible first | exact HB.out | apply below_alloc | apply pw_below_drewN | apply below_drew1 | refine below_set ?_ GE401.out) | exact HB.out)))); have n2_ := Aside0.mk (blk_below (g := gb401) (o := .cells #[.string a1_0, .string a1_1, .slice A1_2 l1_2.length c1_2, .slice A1_3 l1_3.length c1_3] 26 (0, 0)) (by (with_reducible repeat (first | refine blk_drewN ?_ _ | refine blk_drew ?_ | refine blk_alloc ?_ _)); exact BK401.out) hb); have n3_ := Aside0.mk (below_step (by repeat (first | (with_reducible first | exact HB.out | apply below_alloc | apply pw_below_drewN | apply below_drew1 | refine below_set ?_ GE401.out) | exact HB.out)) hb); clear HO406; clear BK401; clear HB; have HO406 := n0_; have HO414 := n1_; have BK401 := n2_; have HB := n3_; clear n0_ n1_ n2_ n3_; (try clear hb); (try clear hb2); (try clear hk); (try clear hi); (try clear ho0); obtain ⟨Ao44, co44, eo44⟩ := Kd.V_slice HO414.out; subst eo44) | (go_at_call 10; (with_reducible refine (stowagelaw25_awake.calls  t415 _ A38.out).mono ?_); rintro e w' ⟨rfl, ⟨nd, rfl⟩⟩))
           go_ret
           exact ⟨by first | rfl | (simp [errW_none, errW_some] <;> rfl) | (simp [*, errW_none, errW_some] <;> rfl), by repeat (first | (with_reducible first | exact HB.out | apply below_alloc | apply pw_below_drewN | apply below_drew1 | refine below_set ?_ GE401.out) | exact HB.out)⟩
          ·skip
           have c37b0 : ((t412.length : Int) == 0) = false := beq_eq_false_iff_ne.mpr c37
           have c37b1 : ((t412.length : Int) != 0) = true := bne_iff_ne.mpr c37
           have c37b2 : ¬ (t412 = []) := fun h_ => c37 (by rw [h_]; rfl)
           rw [hr] at H
           exact absurd H (by simp)
         ·skip
          have c35b0 : (t407 == 306) = false := beq_eq_false_iff_ne.mpr c35
          have c35b1 : (t407 != 306) = true := bne_iff_ne.mpr c35
          rw [hr] at H
          exact absurd H (by simp)
       ·skip
        have c24b0 : ((t404.length : Int) == 0) = false := beq_eq_false_iff_ne.mpr c24
        have c24b1 : ((t404.length : Int) != 0) = true := bne_iff_ne.mpr c24
        have c24b2 : ¬ (t404 = []) := fun h_ => c24 (by rw [h_]; rfl)
        rw [hr] at H
        exact absurd H (by simp)
end Go.Proofs.YtiaihkcadffllaaDoor.Q
