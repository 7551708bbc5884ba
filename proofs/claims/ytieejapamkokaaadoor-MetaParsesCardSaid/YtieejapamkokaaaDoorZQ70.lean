/- A part of the proof of the seat's laws. No condition beyond those in the theorems. -/
import Derived.Test.YtieejapamkokaaaDoorZQ0g7
import Derived.Test.YtieejapamkokaaaDoorZQ68g2

namespace Go.Proofs.YtieejapamkokaaaDoor.Q
open Go.RowKit Go.Proofs.YtieejapamkokaaaDoorW.PrintWords Go.Proofs.YtieejapamkokaaaDoorW.PrintLast Go.Proofs.YtieejapamkokaaaDoorW.PrintMore
set_option linter.unusedVariables false
set_option linter.unusedSimpArgs false
attribute [local go_sem] max2_int min2_int max_two min_two max_three min_three max_four min_four   
mutual
def stowageref3_Bucket.j0 : Nat → ByteArray → Bool → Option (Bool)
 | 0, _, _ => none
 | k + 1, x0, x13 => if x13 = true then (some false) else (stowageref3_Bucket.l0 k x0 0)
def stowageref3_Bucket.l0 : Nat → ByteArray → Int → Option (Bool)
 | 0, _, _ => none
 | k + 1, x0, x3 => if x3 < (x0.size : Int) then (if 0 ≤ x3 then (if (bt x0 x3) ≥ 97 then (if (bt x0 x3) ≤ 122 then (stowageref3_Bucket.l0 k x0 (wrap64 (x3 + 1))) else (if (bt x0 x3) ≥ 48 then (if ((bt x0 x3) ≤ 57) then (stowageref3_Bucket.l0 k x0 (wrap64 (x3 + 1))) else (if (bt x0 x3) = 45 then (if x3 = 0 then (some false) else (if x3 = (wrap64 ((x0.size : Int) - 1)) then (some false) else (if (bt x0 x3) = 46 then (if 0 ≤ (wrap64 (x3 - 1)) then (if (wrap64 (x3 - 1)) < (x0.size : Int) then (if (bt x0 (wrap64 (x3 - 1))) = 46 then (some false) else (stowageref3_Bucket.l0 k x0 (wrap64 (x3 + 1)))) else (none)) else (none)) else (stowageref3_Bucket.l0 k x0 (wrap64 (x3 + 1)))))) else (if (bt x0 x3) = 46 then (if x3 = 0 then (some false) else (if x3 = (wrap64 ((x0.size : Int) - 1)) then (some false) else (if 0 ≤ (wrap64 (x3 - 1)) then (if (wrap64 (x3 - 1)) < (x0.size : Int) then (if (bt x0 (wrap64 (x3 - 1))) = 46 then (some false) else (stowageref3_Bucket.l0 k x0 (wrap64 (x3 + 1)))) else (none)) else (none)))) else (some false)))) else (if (bt x0 x3) = 45 then (if x3 = 0 then (some false) else (if x3 = (wrap64 ((x0.size : Int) - 1)) then (some false) else (if (bt x0 x3) = 46 then (if 0 ≤ (wrap64 (x3 - 1)) then (if (wrap64 (x3 - 1)) < (x0.size : Int) then (if (bt x0 (wrap64 (x3 - 1))) = 46 then (some false) else (stowageref3_Bucket.l0 k x0 (wrap64 (x3 + 1)))) else (none)) else (none)) else (stowageref3_Bucket.l0 k x0 (wrap64 (x3 + 1)))))) else (if (bt x0 x3) = 46 then (if x3 = 0 then (some false) else (if x3 = (wrap64 ((x0.size : Int) - 1)) then (some false) else (if 0 ≤ (wrap64 (x3 - 1)) then (if (wrap64 (x3 - 1)) < (x0.size : Int) then (if (bt x0 (wrap64 (x3 - 1))) = 46 then (some false) else (stowageref3_Bucket.l0 k x0 (wrap64 (x3 + 1)))) else (none)) else (none)))) else (some false))))) else (if (bt x0 x3) ≥ 48 then (if ((bt x0 x3) ≤ 57) then (stowageref3_Bucket.l0 k x0 (wrap64 (x3 + 1))) else (if (bt x0 x3) = 45 then (if x3 = 0 then (some false) else (if x3 = (wrap64 ((x0.size : Int) - 1)) then (some false) else (if (bt x0 x3) = 46 then (if 0 ≤ (wrap64 (x3 - 1)) then (if (wrap64 (x3 - 1)) < (x0.size : Int) then (if (bt x0 (wrap64 (x3 - 1))) = 46 then (some false) else (stowageref3_Bucket.l0 k x0 (wrap64 (x3 + 1)))) else (none)) else (none)) else (stowageref3_Bucket.l0 k x0 (wrap64 (x3 + 1)))))) else (if (bt x0 x3) = 46 then (if x3 = 0 then (some false) else (if x3 = (wrap64 ((x0.size : Int) - 1)) then (some false) else (if 0 ≤ (wrap64 (x3 - 1)) then (if (wrap64 (x3 - 1)) < (x0.size : Int) then (if (bt x0 (wrap64 (x3 - 1))) = 46 then (some false) else (stowageref3_Bucket.l0 k x0 (wrap64 (x3 + 1)))) else (none)) else (none)))) else (some false)))) else (if (bt x0 x3) = 45 then (if x3 = 0 then (some false) else (if x3 = (wrap64 ((x0.size : Int) - 1)) then (some false) else (if (bt x0 x3) = 46 then (if 0 ≤ (wrap64 (x3 - 1)) then (if (wrap64 (x3 - 1)) < (x0.size : Int) then (if (bt x0 (wrap64 (x3 - 1))) = 46 then (some false) else (stowageref3_Bucket.l0 k x0 (wrap64 (x3 + 1)))) else (none)) else (none)) else (stowageref3_Bucket.l0 k x0 (wrap64 (x3 + 1)))))) else (if (bt x0 x3) = 46 then (if x3 = 0 then (some false) else (if x3 = (wrap64 ((x0.size : Int) - 1)) then (some false) else (if 0 ≤ (wrap64 (x3 - 1)) then (if (wrap64 (x3 - 1)) < (x0.size : Int) then (if (bt x0 (wrap64 (x3 - 1))) = 46 then (some false) else (stowageref3_Bucket.l0 k x0 (wrap64 (x3 + 1)))) else (none)) else (none)))) else (some false))))) else (none)) else ((stowageref3_Split.f k x0 46).bind fun t275 => (if (t275.length : Int) = 4 then (if 0 < (t275.length : Int) then ((stowageref3_digits.f k (rdOf ByteArray.empty t275 0)).bind fun t279 => (if t279 = true then (if 1 < (t275.length : Int) then ((stowageref3_digits.f k (rdOf ByteArray.empty t275 1)).bind fun t281 => (if t281 = true then (if 2 < (t275.length : Int) then ((stowageref3_digits.f k (rdOf ByteArray.empty t275 2)).bind fun t283 => (if t283 = true then (if 3 < (t275.length : Int) then ((stowageref3_digits.f k (rdOf ByteArray.empty t275 3)).bind fun t285 => (some (!t285))) else (none)) else (some (!false)))) else (none)) else (some (!false)))) else (none)) else (some (!false)))) else (none)) else (some (!false))))
end
def stowageref3_Bucket.f (k : Nat) (a0 : ByteArray) : Option (Bool) := if (a0.size : Int) < 3 then (stowageref3_Bucket.j0 k a0 true) else (stowageref3_Bucket.j0 k a0 (decide ((a0.size : Int) > 63)))
theorem stowageref3_Bucket.mono_l : ∀ k, (∀ y0 y1, LeO (stowageref3_Bucket.j0 k y0 y1) (stowageref3_Bucket.j0 (k + 1) y0 y1)) ∧ (∀ y0 y1, LeO (stowageref3_Bucket.l0 k y0 y1) (stowageref3_Bucket.l0 (k + 1) y0 y1))
 | 0 => ⟨fun _ _ r h => by simp [stowageref3_Bucket.j0] at h, fun _ _ r h => by simp [stowageref3_Bucket.l0] at h⟩
 | k + 1 => by
  obtain ⟨ih0, ih1⟩ := stowageref3_Bucket.mono_l k
  refine ⟨?_, ?_⟩
  ·intro y0 y1
   unfold stowageref3_Bucket.j0
   repeat' first
   | (with_reducible exact ih0 _ _)
   | (with_reducible exact ih1 _ _)
   | (with_reducible exact stowageref3_Split.mono _ _ _)
   | (with_reducible exact stowageref3_digits.mono _ _)
   | (with_reducible exact LeO.refl _)
   | (with_reducible exact LeO.none _)
   | (with_reducible refine LeO.ite ?_ ?_)
   | (with_reducible refine LeO.bind ?_ (fun _ => ?_))
   | exact ih0 _ _
   | exact ih1 _ _
   | exact stowageref3_Split.mono _ _ _
   | exact stowageref3_digits.mono _ _
   | exact LeO.none _
   | refine LeO.ite ?_ ?_
   | refine LeO.bind ?_ (fun _ => ?_)
  ·intro y0 y1
   unfold stowageref3_Bucket.l0
   repeat' first
   | (with_reducible exact ih0 _ _)
   | (with_reducible exact ih1 _ _)
   | (with_reducible exact stowageref3_Split.mono _ _ _)
   | (with_reducible exact stowageref3_digits.mono _ _)
   | (with_reducible exact LeO.refl _)
   | (with_reducible exact LeO.none _)
   | (with_reducible refine LeO.ite ?_ ?_)
   | (with_reducible refine LeO.bind ?_ (fun _ => ?_))
   | exact ih0 _ _
   | exact ih1 _ _
   | exact stowageref3_Split.mono _ _ _
   | exact stowageref3_digits.mono _ _
   | exact LeO.none _
   | refine LeO.ite ?_ ?_
   | refine LeO.bind ?_ (fun _ => ?_)
theorem stowageref3_Bucket.mono : ∀ a0 k, LeO (stowageref3_Bucket.f k a0) (stowageref3_Bucket.f (k + 1) a0) := by
 intro a0 k
 obtain ⟨ih0, ih1⟩ := stowageref3_Bucket.mono_l k
 unfold stowageref3_Bucket.f
 repeat' first
   | (with_reducible exact ih0 _ _)
   | (with_reducible exact ih1 _ _)
   | (with_reducible exact stowageref3_Split.mono _ _ _)
   | (with_reducible exact stowageref3_digits.mono _ _)
   | (with_reducible exact LeO.refl _)
   | (with_reducible exact LeO.none _)
   | (with_reducible refine LeO.ite ?_ ?_)
   | (with_reducible refine LeO.bind ?_ (fun _ => ?_))
   | exact ih0 _ _
   | exact ih1 _ _
   | exact stowageref3_Split.mono _ _ _
   | exact stowageref3_digits.mono _ _
   | exact LeO.none _
   | refine LeO.ite ?_ ?_
   | refine LeO.bind ?_ (fun _ => ?_)
set_option maxHeartbeats 8000000 in
set_option maxRecDepth 100000 in
theorem stowageref3_Bucket.calls (k : Nat) (a0 : ByteArray) (r : Bool) (w : World) (h : stowageref3_Bucket.f k a0 = some r) :
  Calls Tryd.prog 59 #[.string a0] w fun e w' => e = .returned (.bool r) ∧ Below w.heap.size w w' := by
 have HB := Aside0.mk (Below.refl w.heap.size w)
 unfold stowageref3_Bucket.f at h
 have H := h
 clear h
 have HC2 := Aside0.mk H
 clear H
 go_enter Tryd.func59, Tryd.ntmps59
 go_upto_region 1 with (fail)
 go_cut [13] (fun v13 wc => ∃ (kq : Nat) (x13_1 : Bool), v13 = .bool x13_1 ∧ Aside0 (stowageref3_Bucket.j0 kq a0 x13_1 = some r) ∧ Aside0 (kq ≤ k) ∧ Aside0 (Below w.heap.size w wc))
 case first =>
  have H := HC2.out
  clear HC2
  replace H := itO H
  rcases H with ⟨c3, H⟩ | ⟨c3, H⟩
  ·skip
   have c3b0 : decide ((a0.size : Int) < 3) = true := decide_eq_true c3
   have c3b1 : decide (a0.size < 3) = true := decide_eq_true (by omega)
   clear c3
   (first | rw [c3b0] | (simp only [i64_w, i32_w]; rw [c3b0]) | skip)
   have H' := Aside0.mk H
   clear H
   go_wp2
   go_meet
   case rel => exact ⟨_, (true), (by first | rfl | (simp; done) | (simp [*]; done)), H', ⟨by first | omega | exact Nat.le_refl _⟩, ⟨by repeat (first | (with_reducible first | exact HB.out | apply below_alloc | apply pw_below_drewN | apply below_drew1) | exact HB.out)⟩⟩
  ·skip
   have c3b0 : decide ((a0.size : Int) < 3) = false := decide_eq_false c3
   have c3b1 : decide (a0.size < 3) = false := decide_eq_false (by omega)
   clear c3
   (first | rw [c3b0] | (simp only [i64_w, i32_w]; rw [c3b0]) | skip)
   have H' := Aside0.mk H
   clear H
   go_wp2
   go_meet
   case rel => exact ⟨_, (decide ((a0.size : Int) > 63)), (by first | rfl | (simp; done) | (simp [*]; done)), H', ⟨by first | omega | exact Nat.le_refl _⟩, ⟨by repeat (first | (with_reducible first | exact HB.out | apply below_alloc | apply pw_below_drewN | apply below_drew1) | exact HB.out)⟩⟩
 case rest =>
  clear HC2
  try clear p2
  try clear c3
  try clear c3b0
  try clear c3b1
  obtain ⟨kq, x13_1, rfl, HA, HJ1, HB⟩ := hcut
  cases kq with
  | zero => exact absurd HA.out (by simp [stowageref3_Bucket.j0])
  | succ kj1 =>
   have H := HA.out
   clear HA
   simp only [stowageref3_Bucket.j0] at H
   by_cases c4 : x13_1 = true
   ·subst c4
    replace H := itT H
    obtain rfl := Option.some.inj H
    go_wp2
    go_ret
    exact ⟨by first | rfl | (simp [errW_none, errW_some] <;> rfl) | (simp [*, errW_none, errW_some] <;> rfl), by repeat (first | (with_reducible first | exact HB.out | apply below_alloc | apply pw_below_drewN | apply below_drew1) | exact HB.out)⟩
   ·replace c4 := Bool.eq_false_iff.mpr c4
    subst c4
    replace H := itF H
    have H' := Aside0.mk H
    clear H
    go_wp2
    go_loopg [3] kj1 (fun kq v3 w' => ∃ (x3_2 : Int), v3 = .int .i64 x3_2 ∧ Aside0 (stowageref3_Bucket.l0 kq a0 x3_2 = some r) ∧ Aside0 (kq ≤ kj1) ∧ Aside0 (Below w.heap.size w w'))
    case atStart => exact ⟨(0), (by first | rfl | (simp; done) | (simp [*]; done)), H', ⟨Nat.le_refl _⟩, ⟨by repeat (first | (with_reducible first | exact HB.out | apply below_alloc | apply pw_below_drewN | apply below_drew1) | exact HB.out)⟩⟩
    case round =>
     clear H'
     try clear p2
     try clear c3
     try clear c3b0
     try clear c3b1
     try clear c4
     try clear p2
     obtain ⟨x3_2, rfl, HA, HK2, HB⟩ := hrel
     cases gk with
     | zero => exact absurd HA.out (by simp [stowageref3_Bucket.l0])
     | succ k2 =>
      have H := HA.out
      clear HA
      simp only [stowageref3_Bucket.l0] at H
      replace H := itO H
      rcases H with ⟨c5, H⟩ | ⟨c5, H⟩
      ·skip
       have c5b0 : decide (x3_2 < (a0.size : Int)) = true := decide_eq_true c5
       clear c5
       replace H := itO H
       rcases H with ⟨c6, H⟩ | ⟨c6, H⟩
       ·skip
        have c6b0 : decide (0 ≤ x3_2) = true := decide_eq_true c6
        clear c6
        replace H := itO H
        rcases H with ⟨c8, H⟩ | ⟨c8, H⟩
        ·skip
         have c8b0 : decide (97 ≤ (bt a0 x3_2)) = true := decide_eq_true c8
         clear c8
         replace H := itO H
         rcases H with ⟨c10, H⟩ | ⟨c10, H⟩
         ·skip
          have c10b0 : decide ((bt a0 x3_2) ≤ 122) = true := decide_eq_true c10
          clear c10
          have H' := Aside0.mk H
          clear H
          have p7 : 0 ≤ (x3_2 : Int) := of_decide_eq_true (by first | (with_reducible assumption) | assumption)
          have q7 : x3_2 < (a0.size : Int) := of_decide_eq_true (by first | (with_reducible assumption) | assumption)
          have hx7 := bt_at a0 x3_2
          replace p7 := eq_true p7
          replace q7 := eq_true q7
          have p9 : 0 ≤ (x3_2 : Int) := of_decide_eq_true (by first | (with_reducible assumption) | assumption)
          have q9 : x3_2 < (a0.size : Int) := of_decide_eq_true (by first | (with_reducible assumption) | assumption)
          have hx9 := bt_at a0 x3_2
          replace p9 := eq_true p9
          replace q9 := eq_true q9
          go_wp2
          go_roundg k2
          case measure => have := HJ1.out; have := HK2.out; omega
          case rel => exact ⟨(wrap64 (x3_2 + 1)), (by first | rfl | (simp; done) | (simp [*]; done)), H', ⟨by have := HJ1.out; have := HK2.out; omega⟩, ⟨by repeat (first | (with_reducible first | exact HB.out | apply below_alloc | apply pw_below_drewN | apply below_drew1) | exact HB.out)⟩⟩
         ·skip
          have c10b0 : decide ((bt a0 x3_2) ≤ 122) = false := decide_eq_false c10
          clear c10
          replace H := itO H
          rcases H with ⟨c12, H⟩ | ⟨c12, H⟩
          ·skip
           have c12b0 : decide (48 ≤ (bt a0 x3_2)) = true := decide_eq_true c12
           clear c12
           replace H := itO H
           rcases H with ⟨c14, H⟩ | ⟨c14, H⟩
           ·skip
            have c14b0 : decide ((bt a0 x3_2) ≤ 57) = true := decide_eq_true c14
            clear c14
            have H' := Aside0.mk H
            clear H
            have p7 : 0 ≤ (x3_2 : Int) := of_decide_eq_true (by first | (with_reducible assumption) | assumption)
            have q7 : x3_2 < (a0.size : Int) := of_decide_eq_true (by first | (with_reducible assumption) | assumption)
            have hx7 := bt_at a0 x3_2
            replace p7 := eq_true p7
            replace q7 := eq_true q7
            have p9 : 0 ≤ (x3_2 : Int) := of_decide_eq_true (by first | (with_reducible assumption) | assumption)
            have q9 : x3_2 < (a0.size : Int) := of_decide_eq_true (by first | (with_reducible assumption) | assumption)
            have hx9 := bt_at a0 x3_2
            replace p9 := eq_true p9
            replace q9 := eq_true q9
            have p11 : 0 ≤ (x3_2 : Int) := of_decide_eq_true (by first | (with_reducible assumption) | assumption)
            have q11 : x3_2 < (a0.size : Int) := of_decide_eq_true (by first | (with_reducible assumption) | assumption)
            have hx11 := bt_at a0 x3_2
            replace p11 := eq_true p11
            replace q11 := eq_true q11
            have p13 : 0 ≤ (x3_2 : Int) := of_decide_eq_true (by first | (with_reducible assumption) | assumption)
            have q13 : x3_2 < (a0.size : Int) := of_decide_eq_true (by first | (with_reducible assumption) | assumption)
            have hx13 := bt_at a0 x3_2
            replace p13 := eq_true p13
            replace q13 := eq_true q13
            go_wp2
            go_roundg k2
            case measure => have := HJ1.out; have := HK2.out; omega
            case rel => exact ⟨(wrap64 (x3_2 + 1)), (by first | rfl | (simp; done) | (simp [*]; done)), H', ⟨by have := HJ1.out; have := HK2.out; omega⟩, ⟨by repeat (first | (with_reducible first | exact HB.out | apply below_alloc | apply pw_below_drewN | apply below_drew1) | exact HB.out)⟩⟩
           ·skip
            have c14b0 : decide ((bt a0 x3_2) ≤ 57) = false := decide_eq_false c14
            clear c14
            replace H := itO H
            rcases H with ⟨c16, H⟩ | ⟨c16, H⟩
            ·skip
             have c16b0 : ((bt a0 x3_2) == 45) = true := beq_iff_eq.mpr c16
             have c16b1 : ((bt a0 x3_2) != 45) = false := bne_eq_false_iff_eq.mpr c16
             clear c16
             replace H := itO H
             rcases H with ⟨c17, H⟩ | ⟨c17, H⟩
             ·skip
              have c17b0 : (x3_2 == 0) = true := beq_iff_eq.mpr c17
              have c17b1 : (x3_2 != 0) = false := bne_eq_false_iff_eq.mpr c17
              clear c17
              obtain rfl := Option.some.inj H
              have p7 : 0 ≤ (x3_2 : Int) := of_decide_eq_true (by first | (with_reducible assumption) | assumption)
              have q7 : x3_2 < (a0.size : Int) := of_decide_eq_true (by first | (with_reducible assumption) | assumption)
              have hx7 := bt_at a0 x3_2
              replace p7 := eq_true p7
              replace q7 := eq_true q7
              have p9 : 0 ≤ (x3_2 : Int) := of_decide_eq_true (by first | (with_reducible assumption) | assumption)
              have q9 : x3_2 < (a0.size : Int) := of_decide_eq_true (by first | (with_reducible assumption) | assumption)
              have hx9 := bt_at a0 x3_2
              replace p9 := eq_true p9
              replace q9 := eq_true q9
              have p11 : 0 ≤ (x3_2 : Int) := of_decide_eq_true (by first | (with_reducible assumption) | assumption)
              have q11 : x3_2 < (a0.size : Int) := of_decide_eq_true (by first | (with_reducible assumption) | assumption)
              have hx11 := bt_at a0 x3_2
              replace p11 := eq_true p11
              replace q11 := eq_true q11
              have p13 : 0 ≤ (x3_2 : Int) := of_decide_eq_true (by first | (with_reducible assumption) | assumption)
              have q13 : x3_2 < (a0.size : Int) := of_decide_eq_true (by first | (with_reducible assumption) | assumption)
              have hx13 := bt_at a0 x3_2
              replace p13 := eq_true p13
              replace q13 := eq_true q13
              have p15 : 0 ≤ (x3_2 : Int) := of_decide_eq_true (by first | (with_reducible assumption) | assumption)
              have q15 : x3_2 < (a0.size : Int) := of_decide_eq_true (by first | (with_reducible assumption) | assumption)
              have hx15 := bt_at a0 x3_2
              replace p15 := eq_true p15
              replace q15 := eq_true q15
              go_wp2
              go_ret
              exact ⟨by first | rfl | (simp [errW_none, errW_some] <;> rfl) | (simp [*, errW_none, errW_some] <;> rfl), by repeat (first | (with_reducible first | exact HB.out | apply below_alloc | apply pw_below_drewN | apply below_drew1) | exact HB.out)⟩
             ·skip
              have c17b0 : (x3_2 == 0) = false := beq_eq_false_iff_ne.mpr c17
              have c17b1 : (x3_2 != 0) = true := bne_iff_ne.mpr c17
              replace H := itO H
              rcases H with ⟨c18, H⟩ | ⟨c18, H⟩
              ·skip
               have c18b0 : (x3_2 == (wrap64 ((a0.size : Int) - 1))) = true := beq_iff_eq.mpr c18
               have c18b1 : (x3_2 != (wrap64 ((a0.size : Int) - 1))) = false := bne_eq_false_iff_eq.mpr c18
               clear c18
               obtain rfl := Option.some.inj H
               have p7 : 0 ≤ (x3_2 : Int) := of_decide_eq_true (by first | (with_reducible assumption) | assumption)
               have q7 : x3_2 < (a0.size : Int) := of_decide_eq_true (by first | (with_reducible assumption) | assumption)
               have hx7 := bt_at a0 x3_2
               replace p7 := eq_true p7
               replace q7 := eq_true q7
               have p9 : 0 ≤ (x3_2 : Int) := of_decide_eq_true (by first | (with_reducible assumption) | assumption)
               have q9 : x3_2 < (a0.size : Int) := of_decide_eq_true (by first | (with_reducible assumption) | assumption)
               have hx9 := bt_at a0 x3_2
               replace p9 := eq_true p9
               replace q9 := eq_true q9
               have p11 : 0 ≤ (x3_2 : Int) := of_decide_eq_true (by first | (with_reducible assumption) | assumption)
               have q11 : x3_2 < (a0.size : Int) := of_decide_eq_true (by first | (with_reducible assumption) | assumption)
               have hx11 := bt_at a0 x3_2
               replace p11 := eq_true p11
               replace q11 := eq_true q11
               have p13 : 0 ≤ (x3_2 : Int) := of_decide_eq_true (by first | (with_reducible assumption) | assumption)
               have q13 : x3_2 < (a0.size : Int) := of_decide_eq_true (by first | (with_reducible assumption) | assumption)
               have hx13 := bt_at a0 x3_2
               replace p13 := eq_true p13
               replace q13 := eq_true q13
               have p15 : 0 ≤ (x3_2 : Int) := of_decide_eq_true (by first | (with_reducible assumption) | assumption)
               have q15 : x3_2 < (a0.size : Int) := of_decide_eq_true (by first | (with_reducible assumption) | assumption)
               have hx15 := bt_at a0 x3_2
               replace p15 := eq_true p15
               replace q15 := eq_true q15
               go_wp2
               go_ret
               exact ⟨by first | rfl | (simp [errW_none, errW_some] <;> rfl) | (simp [*, errW_none, errW_some] <;> rfl), by repeat (first | (with_reducible first | exact HB.out | apply below_alloc | apply pw_below_drewN | apply below_drew1) | exact HB.out)⟩
              ·skip
               have c18b0 : (x3_2 == (wrap64 ((a0.size : Int) - 1))) = false := beq_eq_false_iff_ne.mpr c18
               have c18b1 : (x3_2 != (wrap64 ((a0.size : Int) - 1))) = true := bne_iff_ne.mpr c18
               replace H := itO H
               rcases H with ⟨c20, H⟩ | ⟨c20, H⟩
               ·skip
                have c20b0 : ((bt a0 x3_2) == 46) = true := beq_iff_eq.mpr c20
                have c20b1 : ((bt a0 x3_2) != 46) = false := bne_eq_false_iff_eq.mpr c20
                clear c20
                obtain ⟨ji21, hji21⟩ : ∃ j_ : Int, (wrap64 (x3_2 - 1)) = j_ := ⟨_, rfl⟩
                first | rw [hji21] at H | simp only [hji21] at H
                have hji21w : (IntKind.i64.wrap (x3_2 - 1)) = ji21 := (i64_w _).trans hji21
                replace H := itO H
                rcases H with ⟨c22, H⟩ | ⟨c22, H⟩
                ·skip
                 have c22b0 : decide (0 ≤ (ji21)) = true := decide_eq_true c22
                 clear c22
                 replace H := itO H
                 rcases H with ⟨c23, H⟩ | ⟨c23, H⟩
                 ·skip
                  have c23b0 : decide ((ji21) < (a0.size : Int)) = true := decide_eq_true c23
                  clear c23
                  replace H := itO H
                  rcases H with ⟨c25, H⟩ | ⟨c25, H⟩
                  ·skip
                   have c25b0 : ((bt a0 (ji21)) == 46) = true := beq_iff_eq.mpr c25
                   have c25b1 : ((bt a0 (ji21)) != 46) = false := bne_eq_false_iff_eq.mpr c25
                   clear c25
                   obtain rfl := Option.some.inj H
                   have p7 : 0 ≤ (x3_2 : Int) := of_decide_eq_true (by first | (with_reducible assumption) | assumption)
                   have q7 : x3_2 < (a0.size : Int) := of_decide_eq_true (by first | (with_reducible assumption) | assumption)
                   have hx7 := bt_at a0 x3_2
                   replace p7 := eq_true p7
                   replace q7 := eq_true q7
                   have p9 : 0 ≤ (x3_2 : Int) := of_decide_eq_true (by first | (with_reducible assumption) | assumption)
                   have q9 : x3_2 < (a0.size : Int) := of_decide_eq_true (by first | (with_reducible assumption) | assumption)
                   have hx9 := bt_at a0 x3_2
                   replace p9 := eq_true p9
                   replace q9 := eq_true q9
                   have p11 : 0 ≤ (x3_2 : Int) := of_decide_eq_true (by first | (with_reducible assumption) | assumption)
                   have q11 : x3_2 < (a0.size : Int) := of_decide_eq_true (by first | (with_reducible assumption) | assumption)
                   have hx11 := bt_at a0 x3_2
                   replace p11 := eq_true p11
                   replace q11 := eq_true q11
                   have p13 : 0 ≤ (x3_2 : Int) := of_decide_eq_true (by first | (with_reducible assumption) | assumption)
                   have q13 : x3_2 < (a0.size : Int) := of_decide_eq_true (by first | (with_reducible assumption) | assumption)
                   have hx13 := bt_at a0 x3_2
                   replace p13 := eq_true p13
                   replace q13 := eq_true q13
                   have p15 : 0 ≤ (x3_2 : Int) := of_decide_eq_true (by first | (with_reducible assumption) | assumption)
                   have q15 : x3_2 < (a0.size : Int) := of_decide_eq_true (by first | (with_reducible assumption) | assumption)
                   have hx15 := bt_at a0 x3_2
                   replace p15 := eq_true p15
                   replace q15 := eq_true q15
                   have p19 : 0 ≤ (x3_2 : Int) := of_decide_eq_true (by first | (with_reducible assumption) | assumption)
                   have q19 : x3_2 < (a0.size : Int) := of_decide_eq_true (by first | (with_reducible assumption) | assumption)
                   have hx19 := bt_at a0 x3_2
                   replace p19 := eq_true p19
                   replace q19 := eq_true q19
                   have p24 : 0 ≤ ((ji21) : Int) := of_decide_eq_true (by first | (with_reducible assumption) | assumption)
                   have q24 : (ji21) < (a0.size : Int) := of_decide_eq_true (by first | (with_reducible assumption) | assumption)
                   have hx24 := bt_at a0 (ji21)
                   replace p24 := eq_true p24
                   replace q24 := eq_true q24
                   go_wp2
                   go_ret
                   exact ⟨by first | rfl | (simp [errW_none, errW_some] <;> rfl) | (simp only [← hji21]; first | rfl | (simp [errW_none, errW_some] <;> rfl)) | (simp [*, errW_none, errW_some] <;> rfl), by repeat (first | (with_reducible first | exact HB.out | apply below_alloc | apply pw_below_drewN | apply below_drew1) | exact HB.out)⟩
                  ·skip
                   have c25b0 : ((bt a0 (ji21)) == 46) = false := beq_eq_false_iff_ne.mpr c25
                   have c25b1 : ((bt a0 (ji21)) != 46) = true := bne_iff_ne.mpr c25
                   have H' := Aside0.mk H
                   clear H
                   have p7 : 0 ≤ (x3_2 : Int) := of_decide_eq_true (by first | (with_reducible assumption) | assumption)
                   have q7 : x3_2 < (a0.size : Int) := of_decide_eq_true (by first | (with_reducible assumption) | assumption)
                   have hx7 := bt_at a0 x3_2
                   replace p7 := eq_true p7
                   replace q7 := eq_true q7
                   have p9 : 0 ≤ (x3_2 : Int) := of_decide_eq_true (by first | (with_reducible assumption) | assumption)
                   have q9 : x3_2 < (a0.size : Int) := of_decide_eq_true (by first | (with_reducible assumption) | assumption)
                   have hx9 := bt_at a0 x3_2
                   replace p9 := eq_true p9
                   replace q9 := eq_true q9
                   have p11 : 0 ≤ (x3_2 : Int) := of_decide_eq_true (by first | (with_reducible assumption) | assumption)
                   have q11 : x3_2 < (a0.size : Int) := of_decide_eq_true (by first | (with_reducible assumption) | assumption)
                   have hx11 := bt_at a0 x3_2
                   replace p11 := eq_true p11
                   replace q11 := eq_true q11
                   have p13 : 0 ≤ (x3_2 : Int) := of_decide_eq_true (by first | (with_reducible assumption) | assumption)
                   have q13 : x3_2 < (a0.size : Int) := of_decide_eq_true (by first | (with_reducible assumption) | assumption)
                   have hx13 := bt_at a0 x3_2
                   replace p13 := eq_true p13
                   replace q13 := eq_true q13
                   have p15 : 0 ≤ (x3_2 : Int) := of_decide_eq_true (by first | (with_reducible assumption) | assumption)
                   have q15 : x3_2 < (a0.size : Int) := of_decide_eq_true (by first | (with_reducible assumption) | assumption)
                   have hx15 := bt_at a0 x3_2
                   replace p15 := eq_true p15
                   replace q15 := eq_true q15
                   have p19 : 0 ≤ (x3_2 : Int) := of_decide_eq_true (by first | (with_reducible assumption) | assumption)
                   have q19 : x3_2 < (a0.size : Int) := of_decide_eq_true (by first | (with_reducible assumption) | assumption)
                   have hx19 := bt_at a0 x3_2
                   replace p19 := eq_true p19
                   replace q19 := eq_true q19
                   have p24 : 0 ≤ ((ji21) : Int) := of_decide_eq_true (by first | (with_reducible assumption) | assumption)
                   have q24 : (ji21) < (a0.size : Int) := of_decide_eq_true (by first | (with_reducible assumption) | assumption)
                   have hx24 := bt_at a0 (ji21)
                   replace p24 := eq_true p24
                   replace q24 := eq_true q24
                   go_wp2
                   go_roundg k2
                   case measure => have := HJ1.out; have := HK2.out; omega
                   case rel => exact ⟨(wrap64 (x3_2 + 1)), (by first | rfl | (simp; done) | (simp [*]; done)), H', ⟨by have := HJ1.out; have := HK2.out; omega⟩, ⟨by repeat (first | (with_reducible first | exact HB.out | apply below_alloc | apply pw_below_drewN | apply below_drew1) | exact HB.out)⟩⟩
                 ·exact absurd H (by simp)
                ·exact absurd H (by simp)
               ·skip
                have c20b0 : ((bt a0 x3_2) == 46) = false := beq_eq_false_iff_ne.mpr c20
                have c20b1 : ((bt a0 x3_2) != 46) = true := bne_iff_ne.mpr c20
                have H' := Aside0.mk H
                clear H
                have p7 : 0 ≤ (x3_2 : Int) := of_decide_eq_true (by first | (with_reducible assumption) | assumption)
                have q7 : x3_2 < (a0.size : Int) := of_decide_eq_true (by first | (with_reducible assumption) | assumption)
                have hx7 := bt_at a0 x3_2
                replace p7 := eq_true p7
                replace q7 := eq_true q7
                have p9 : 0 ≤ (x3_2 : Int) := of_decide_eq_true (by first | (with_reducible assumption) | assumption)
                have q9 : x3_2 < (a0.size : Int) := of_decide_eq_true (by first | (with_reducible assumption) | assumption)
                have hx9 := bt_at a0 x3_2
                replace p9 := eq_true p9
                replace q9 := eq_true q9
                have p11 : 0 ≤ (x3_2 : Int) := of_decide_eq_true (by first | (with_reducible assumption) | assumption)
                have q11 : x3_2 < (a0.size : Int) := of_decide_eq_true (by first | (with_reducible assumption) | assumption)
                have hx11 := bt_at a0 x3_2
                replace p11 := eq_true p11
                replace q11 := eq_true q11
                have p13 : 0 ≤ (x3_2 : Int) := of_decide_eq_true (by first | (with_reducible assumption) | assumption)
                have q13 : x3_2 < (a0.size : Int) := of_decide_eq_true (by first | (with_reducible assumption) | assumption)
                have hx13 := bt_at a0 x3_2
                replace p13 := eq_true p13
                replace q13 := eq_true q13
                have p15 : 0 ≤ (x3_2 : Int) := of_decide_eq_true (by first | (with_reducible assumption) | assumption)
                have q15 : x3_2 < (a0.size : Int) := of_decide_eq_true (by first | (with_reducible assumption) | assumption)
                have hx15 := bt_at a0 x3_2
                replace p15 := eq_true p15
                replace q15 := eq_true q15
                have p19 : 0 ≤ (x3_2 : Int) := of_decide_eq_true (by first | (with_reducible assumption) | assumption)
                have q19 : x3_2 < (a0.size : Int) := of_decide_eq_true (by first | (with_reducible assumption) | assumption)
                have hx19 := bt_at a0 x3_2
                replace p19 := eq_true p19
                replace q19 := eq_true q19
                go_wp2
                go_roundg k2
                case measure => have := HJ1.out; have := HK2.out; omega
                case rel => exact ⟨(wrap64 (x3_2 + 1)), (by first | rfl | (simp; done) | (simp [*]; done)), H', ⟨by have := HJ1.out; have := HK2.out; omega⟩, ⟨by repeat (first | (with_reducible first | exact HB.out | apply below_alloc | apply pw_below_drewN | apply below_drew1) | exact HB.out)⟩⟩
            ·skip
             have c16b0 : ((bt a0 x3_2) == 45) = false := beq_eq_false_iff_ne.mpr c16
             have c16b1 : ((bt a0 x3_2) != 45) = true := bne_iff_ne.mpr c16
             replace H := itO H
             rcases H with ⟨c27, H⟩ | ⟨c27, H⟩
             ·skip
              have c27b0 : ((bt a0 x3_2) == 46) = true := beq_iff_eq.mpr c27
              have c27b1 : ((bt a0 x3_2) != 46) = false := bne_eq_false_iff_eq.mpr c27
              clear c27
              replace H := itO H
              rcases H with ⟨c28, H⟩ | ⟨c28, H⟩
              ·skip
               have c28b0 : (x3_2 == 0) = true := beq_iff_eq.mpr c28
               have c28b1 : (x3_2 != 0) = false := bne_eq_false_iff_eq.mpr c28
               clear c28
               obtain rfl := Option.some.inj H
               have p7 : 0 ≤ (x3_2 : Int) := of_decide_eq_true (by first | (with_reducible assumption) | assumption)
               have q7 : x3_2 < (a0.size : Int) := of_decide_eq_true (by first | (with_reducible assumption) | assumption)
               have hx7 := bt_at a0 x3_2
               replace p7 := eq_true p7
               replace q7 := eq_true q7
               have p9 : 0 ≤ (x3_2 : Int) := of_decide_eq_true (by first | (with_reducible assumption) | assumption)
               have q9 : x3_2 < (a0.size : Int) := of_decide_eq_true (by first | (with_reducible assumption) | assumption)
               have hx9 := bt_at a0 x3_2
               replace p9 := eq_true p9
               replace q9 := eq_true q9
               have p11 : 0 ≤ (x3_2 : Int) := of_decide_eq_true (by first | (with_reducible assumption) | assumption)
               have q11 : x3_2 < (a0.size : Int) := of_decide_eq_true (by first | (with_reducible assumption) | assumption)
               have hx11 := bt_at a0 x3_2
               replace p11 := eq_true p11
               replace q11 := eq_true q11
               have p13 : 0 ≤ (x3_2 : Int) := of_decide_eq_true (by first | (with_reducible assumption) | assumption)
               have q13 : x3_2 < (a0.size : Int) := of_decide_eq_true (by first | (with_reducible assumption) | assumption)
               have hx13 := bt_at a0 x3_2
               replace p13 := eq_true p13
               replace q13 := eq_true q13
               have p15 : 0 ≤ (x3_2 : Int) := of_decide_eq_true (by first | (with_reducible assumption) | assumption)
               have q15 : x3_2 < (a0.size : Int) := of_decide_eq_true (by first | (with_reducible assumption) | assumption)
               have hx15 := bt_at a0 x3_2
               replace p15 := eq_true p15
               replace q15 := eq_true q15
               have p26 : 0 ≤ (x3_2 : Int) := of_decide_eq_true (by first | (with_reducible assumption) | assumption)
               have q26 : x3_2 < (a0.size : Int) := of_decide_eq_true (by first | (with_reducible assumption) | assumption)
               have hx26 := bt_at a0 x3_2
               replace p26 := eq_true p26
               replace q26 := eq_true q26
               go_wp2
               go_ret
               exact ⟨by first | rfl | (simp [errW_none, errW_some] <;> rfl) | (simp [*, errW_none, errW_some] <;> rfl), by repeat (first | (with_reducible first | exact HB.out | apply below_alloc | apply pw_below_drewN | apply below_drew1) | exact HB.out)⟩
              ·skip
               have c28b0 : (x3_2 == 0) = false := beq_eq_false_iff_ne.mpr c28
               have c28b1 : (x3_2 != 0) = true := bne_iff_ne.mpr c28
               replace H := itO H
               rcases H with ⟨c29, H⟩ | ⟨c29, H⟩
               ·skip
                have c29b0 : (x3_2 == (wrap64 ((a0.size : Int) - 1))) = true := beq_iff_eq.mpr c29
                have c29b1 : (x3_2 != (wrap64 ((a0.size : Int) - 1))) = false := bne_eq_false_iff_eq.mpr c29
                clear c29
                obtain rfl := Option.some.inj H
                have p7 : 0 ≤ (x3_2 : Int) := of_decide_eq_true (by first | (with_reducible assumption) | assumption)
                have q7 : x3_2 < (a0.size : Int) := of_decide_eq_true (by first | (with_reducible assumption) | assumption)
                have hx7 := bt_at a0 x3_2
                replace p7 := eq_true p7
                replace q7 := eq_true q7
                have p9 : 0 ≤ (x3_2 : Int) := of_decide_eq_true (by first | (with_reducible assumption) | assumption)
                have q9 : x3_2 < (a0.size : Int) := of_decide_eq_true (by first | (with_reducible assumption) | assumption)
                have hx9 := bt_at a0 x3_2
                replace p9 := eq_true p9
                replace q9 := eq_true q9
                have p11 : 0 ≤ (x3_2 : Int) := of_decide_eq_true (by first | (with_reducible assumption) | assumption)
                have q11 : x3_2 < (a0.size : Int) := of_decide_eq_true (by first | (with_reducible assumption) | assumption)
                have hx11 := bt_at a0 x3_2
                replace p11 := eq_true p11
                replace q11 := eq_true q11
                have p13 : 0 ≤ (x3_2 : Int) := of_decide_eq_true (by first | (with_reducible assumption) | assumption)
                have q13 : x3_2 < (a0.size : Int) := of_decide_eq_true (by first | (with_reducible assumption) | assumption)
                have hx13 := bt_at a0 x3_2
                replace p13 := eq_true p13
                replace q13 := eq_true q13
                have p15 : 0 ≤ (x3_2 : Int) := of_decide_eq_true (by first | (with_reducible assumption) | assumption)
                have q15 : x3_2 < (a0.size : Int) := of_decide_eq_true (by first | (with_reducible assumption) | assumption)
                have hx15 := bt_at a0 x3_2
                replace p15 := eq_true p15
                replace q15 := eq_true q15
                have p26 : 0 ≤ (x3_2 : Int) := of_decide_eq_true (by first | (with_reducible assumption) | assumption)
                have q26 : x3_2 < (a0.size : Int) := of_decide_eq_true (by first | (with_reducible assumption) | assumption)
                have hx26 := bt_at a0 x3_2
                replace p26 := eq_true p26
                replace q26 := eq_true q26
                go_wp2
                go_ret
                exact ⟨by first | rfl | (simp [errW_none, errW_some] <;> rfl) | (simp [*, errW_none, errW_some] <;> rfl), by repeat (first | (with_reducible first | exact HB.out | apply below_alloc | apply pw_below_drewN | apply below_drew1) | exact HB.out)⟩
               ·skip
                have c29b0 : (x3_2 == (wrap64 ((a0.size : Int) - 1))) = false := beq_eq_false_iff_ne.mpr c29
                have c29b1 : (x3_2 != (wrap64 ((a0.size : Int) - 1))) = true := bne_iff_ne.mpr c29
                obtain ⟨ji31, hji31⟩ : ∃ j_ : Int, (wrap64 (x3_2 - 1)) = j_ := ⟨_, rfl⟩
                first | rw [hji31] at H | simp only [hji31] at H
                have hji31w : (IntKind.i64.wrap (x3_2 - 1)) = ji31 := (i64_w _).trans hji31
                replace H := itO H
                rcases H with ⟨c32, H⟩ | ⟨c32, H⟩
                ·skip
                 have c32b0 : decide (0 ≤ (ji31)) = true := decide_eq_true c32
                 clear c32
                 replace H := itO H
                 rcases H with ⟨c33, H⟩ | ⟨c33, H⟩
                 ·skip
                  have c33b0 : decide ((ji31) < (a0.size : Int)) = true := decide_eq_true c33
                  clear c33
                  replace H := itO H
                  rcases H with ⟨c35, H⟩ | ⟨c35, H⟩
                  ·skip
                   have c35b0 : ((bt a0 (ji31)) == 46) = true := beq_iff_eq.mpr c35
                   have c35b1 : ((bt a0 (ji31)) != 46) = false := bne_eq_false_iff_eq.mpr c35
                   clear c35
                   obtain rfl := Option.some.inj H
                   have p7 : 0 ≤ (x3_2 : Int) := of_decide_eq_true (by first | (with_reducible assumption) | assumption)
                   have q7 : x3_2 < (a0.size : Int) := of_decide_eq_true (by first | (with_reducible assumption) | assumption)
                   have hx7 := bt_at a0 x3_2
                   replace p7 := eq_true p7
                   replace q7 := eq_true q7
                   have p9 : 0 ≤ (x3_2 : Int) := of_decide_eq_true (by first | (with_reducible assumption) | assumption)
                   have q9 : x3_2 < (a0.size : Int) := of_decide_eq_true (by first | (with_reducible assumption) | assumption)
                   have hx9 := bt_at a0 x3_2
                   replace p9 := eq_true p9
                   replace q9 := eq_true q9
                   have p11 : 0 ≤ (x3_2 : Int) := of_decide_eq_true (by first | (with_reducible assumption) | assumption)
                   have q11 : x3_2 < (a0.size : Int) := of_decide_eq_true (by first | (with_reducible assumption) | assumption)
                   have hx11 := bt_at a0 x3_2
                   replace p11 := eq_true p11
                   replace q11 := eq_true q11
                   have p13 : 0 ≤ (x3_2 : Int) := of_decide_eq_true (by first | (with_reducible assumption) | assumption)
                   have q13 : x3_2 < (a0.size : Int) := of_decide_eq_true (by first | (with_reducible assumption) | assumption)
                   have hx13 := bt_at a0 x3_2
                   replace p13 := eq_true p13
                   replace q13 := eq_true q13
                   have p15 : 0 ≤ (x3_2 : Int) := of_decide_eq_true (by first | (with_reducible assumption) | assumption)
                   have q15 : x3_2 < (a0.size : Int) := of_decide_eq_true (by first | (with_reducible assumption) | assumption)
                   have hx15 := bt_at a0 x3_2
                   replace p15 := eq_true p15
                   replace q15 := eq_true q15
                   have p26 : 0 ≤ (x3_2 : Int) := of_decide_eq_true (by first | (with_reducible assumption) | assumption)
                   have q26 : x3_2 < (a0.size : Int) := of_decide_eq_true (by first | (with_reducible assumption) | assumption)
                   have hx26 := bt_at a0 x3_2
                   replace p26 := eq_true p26
                   replace q26 := eq_true q26
                   have p30 : 0 ≤ (x3_2 : Int) := of_decide_eq_true (by first | (with_reducible assumption) | assumption)
                   have q30 : x3_2 < (a0.size : Int) := of_decide_eq_true (by first | (with_reducible assumption) | assumption)
                   have hx30 := bt_at a0 x3_2
                   replace p30 := eq_true p30
                   replace q30 := eq_true q30
                   have p34 : 0 ≤ ((ji31) : Int) := of_decide_eq_true (by first | (with_reducible assumption) | assumption)
                   have q34 : (ji31) < (a0.size : Int) := of_decide_eq_true (by first | (with_reducible assumption) | assumption)
                   have hx34 := bt_at a0 (ji31)
                   replace p34 := eq_true p34
                   replace q34 := eq_true q34
                   go_wp2
                   go_ret
                   exact ⟨by first | rfl | (simp [errW_none, errW_some] <;> rfl) | (simp only [← hji31]; first | rfl | (simp [errW_none, errW_some] <;> rfl)) | (simp [*, errW_none, errW_some] <;> rfl), by repeat (first | (with_reducible first | exact HB.out | apply below_alloc | apply pw_below_drewN | apply below_drew1) | exact HB.out)⟩
                  ·skip
                   have c35b0 : ((bt a0 (ji31)) == 46) = false := beq_eq_false_iff_ne.mpr c35
                   have c35b1 : ((bt a0 (ji31)) != 46) = true := bne_iff_ne.mpr c35
                   have H' := Aside0.mk H
                   clear H
                   have p7 : 0 ≤ (x3_2 : Int) := of_decide_eq_true (by first | (with_reducible assumption) | assumption)
                   have q7 : x3_2 < (a0.size : Int) := of_decide_eq_true (by first | (with_reducible assumption) | assumption)
                   have hx7 := bt_at a0 x3_2
                   replace p7 := eq_true p7
                   replace q7 := eq_true q7
                   have p9 : 0 ≤ (x3_2 : Int) := of_decide_eq_true (by first | (with_reducible assumption) | assumption)
                   have q9 : x3_2 < (a0.size : Int) := of_decide_eq_true (by first | (with_reducible assumption) | assumption)
                   have hx9 := bt_at a0 x3_2
                   replace p9 := eq_true p9
                   replace q9 := eq_true q9
                   have p11 : 0 ≤ (x3_2 : Int) := of_decide_eq_true (by first | (with_reducible assumption) | assumption)
                   have q11 : x3_2 < (a0.size : Int) := of_decide_eq_true (by first | (with_reducible assumption) | assumption)
                   have hx11 := bt_at a0 x3_2
                   replace p11 := eq_true p11
                   replace q11 := eq_true q11
                   have p13 : 0 ≤ (x3_2 : Int) := of_decide_eq_true (by first | (with_reducible assumption) | assumption)
                   have q13 : x3_2 < (a0.size : Int) := of_decide_eq_true (by first | (with_reducible assumption) | assumption)
                   have hx13 := bt_at a0 x3_2
                   replace p13 := eq_true p13
                   replace q13 := eq_true q13
                   have p15 : 0 ≤ (x3_2 : Int) := of_decide_eq_true (by first | (with_reducible assumption) | assumption)
                   have q15 : x3_2 < (a0.size : Int) := of_decide_eq_true (by first | (with_reducible assumption) | assumption)
                   have hx15 := bt_at a0 x3_2
                   replace p15 := eq_true p15
                   replace q15 := eq_true q15
                   have p26 : 0 ≤ (x3_2 : Int) := of_decide_eq_true (by first | (with_reducible assumption) | assumption)
                   have q26 : x3_2 < (a0.size : Int) := of_decide_eq_true (by first | (with_reducible assumption) | assumption)
                   have hx26 := bt_at a0 x3_2
                   replace p26 := eq_true p26
                   replace q26 := eq_true q26
                   have p30 : 0 ≤ (x3_2 : Int) := of_decide_eq_true (by first | (with_reducible assumption) | assumption)
                   have q30 : x3_2 < (a0.size : Int) := of_decide_eq_true (by first | (with_reducible assumption) | assumption)
                   have hx30 := bt_at a0 x3_2
                   replace p30 := eq_true p30
                   replace q30 := eq_true q30
                   have p34 : 0 ≤ ((ji31) : Int) := of_decide_eq_true (by first | (with_reducible assumption) | assumption)
                   have q34 : (ji31) < (a0.size : Int) := of_decide_eq_true (by first | (with_reducible assumption) | assumption)
                   have hx34 := bt_at a0 (ji31)
                   replace p34 := eq_true p34
                   replace q34 := eq_true q34
                   go_wp2
                   go_roundg k2
                   case measure => have := HJ1.out; have := HK2.out; omega
                   case rel => exact ⟨(wrap64 (x3_2 + 1)), (by first | rfl | (simp; done) | (simp [*]; done)), H', ⟨by have := HJ1.out; have := HK2.out; omega⟩, ⟨by repeat (first | (with_reducible first | exact HB.out | apply below_alloc | apply pw_below_drewN | apply below_drew1) | exact HB.out)⟩⟩
                 ·exact absurd H (by simp)
                ·exact absurd H (by simp)
             ·skip
              have c27b0 : ((bt a0 x3_2) == 46) = false := beq_eq_false_iff_ne.mpr c27
              have c27b1 : ((bt a0 x3_2) != 46) = true := bne_iff_ne.mpr c27
              obtain rfl := Option.some.inj H
              have p7 : 0 ≤ (x3_2 : Int) := of_decide_eq_true (by first | (with_reducible assumption) | assumption)
              have q7 : x3_2 < (a0.size : Int) := of_decide_eq_true (by first | (with_reducible assumption) | assumption)
              have hx7 := bt_at a0 x3_2
              replace p7 := eq_true p7
              replace q7 := eq_true q7
              have p9 : 0 ≤ (x3_2 : Int) := of_decide_eq_true (by first | (with_reducible assumption) | assumption)
              have q9 : x3_2 < (a0.size : Int) := of_decide_eq_true (by first | (with_reducible assumption) | assumption)
              have hx9 := bt_at a0 x3_2
              replace p9 := eq_true p9
              replace q9 := eq_true q9
              have p11 : 0 ≤ (x3_2 : Int) := of_decide_eq_true (by first | (with_reducible assumption) | assumption)
              have q11 : x3_2 < (a0.size : Int) := of_decide_eq_true (by first | (with_reducible assumption) | assumption)
              have hx11 := bt_at a0 x3_2
              replace p11 := eq_true p11
              replace q11 := eq_true q11
              have p13 : 0 ≤ (x3_2 : Int) := of_decide_eq_true (by first | (with_reducible assumption) | assumption)
              have q13 : x3_2 < (a0.size : Int) := of_decide_eq_true (by first | (with_reducible assumption) | assumption)
              have hx13 := bt_at a0 x3_2
              replace p13 := eq_true p13
              replace q13 := eq_true q13
              have p15 : 0 ≤ (x3_2 : Int) := of_decide_eq_true (by first | (with_reducible assumption) | assumption)
              have q15 : x3_2 < (a0.size : Int) := of_decide_eq_true (by first | (with_reducible assumption) | assumption)
              have hx15 := bt_at a0 x3_2
              replace p15 := eq_true p15
              replace q15 := eq_true q15
              have p26 : 0 ≤ (x3_2 : Int) := of_decide_eq_true (by first | (with_reducible assumption) | assumption)
              have q26 : x3_2 < (a0.size : Int) := of_decide_eq_true (by first | (with_reducible assumption) | assumption)
              have hx26 := bt_at a0 x3_2
              replace p26 := eq_true p26
              replace q26 := eq_true q26
              go_wp2
              go_ret
              exact ⟨by first | rfl | (simp [errW_none, errW_some] <;> rfl) | (simp [*, errW_none, errW_some] <;> rfl), by repeat (first | (with_reducible first | exact HB.out | apply below_alloc | apply pw_below_drewN | apply below_drew1) | exact HB.out)⟩
          ·skip
           have c12b0 : decide (48 ≤ (bt a0 x3_2)) = false := decide_eq_false c12
           clear c12
           replace H := itO H
           rcases H with ⟨c37, H⟩ | ⟨c37, H⟩
           ·skip
            have c37b0 : ((bt a0 x3_2) == 45) = true := beq_iff_eq.mpr c37
            have c37b1 : ((bt a0 x3_2) != 45) = false := bne_eq_false_iff_eq.mpr c37
            clear c37
            replace H := itO H
            rcases H with ⟨c38, H⟩ | ⟨c38, H⟩
            ·skip
             have c38b0 : (x3_2 == 0) = true := beq_iff_eq.mpr c38
             have c38b1 : (x3_2 != 0) = false := bne_eq_false_iff_eq.mpr c38
             clear c38
             obtain rfl := Option.some.inj H
             have p7 : 0 ≤ (x3_2 : Int) := of_decide_eq_true (by first | (with_reducible assumption) | assumption)
             have q7 : x3_2 < (a0.size : Int) := of_decide_eq_true (by first | (with_reducible assumption) | assumption)
             have hx7 := bt_at a0 x3_2
             replace p7 := eq_true p7
             replace q7 := eq_true q7
             have p9 : 0 ≤ (x3_2 : Int) := of_decide_eq_true (by first | (with_reducible assumption) | assumption)
             have q9 : x3_2 < (a0.size : Int) := of_decide_eq_true (by first | (with_reducible assumption) | assumption)
             have hx9 := bt_at a0 x3_2
             replace p9 := eq_true p9
             replace q9 := eq_true q9
             have p11 : 0 ≤ (x3_2 : Int) := of_decide_eq_true (by first | (with_reducible assumption) | assumption)
             have q11 : x3_2 < (a0.size : Int) := of_decide_eq_true (by first | (with_reducible assumption) | assumption)
             have hx11 := bt_at a0 x3_2
             replace p11 := eq_true p11
             replace q11 := eq_true q11
             have p36 : 0 ≤ (x3_2 : Int) := of_decide_eq_true (by first | (with_reducible assumption) | assumption)
             have q36 : x3_2 < (a0.size : Int) := of_decide_eq_true (by first | (with_reducible assumption) | assumption)
             have hx36 := bt_at a0 x3_2
             replace p36 := eq_true p36
             replace q36 := eq_true q36
             go_wp2
             go_ret
             exact ⟨by first | rfl | (simp [errW_none, errW_some] <;> rfl) | (simp [*, errW_none, errW_some] <;> rfl), by repeat (first | (with_reducible first | exact HB.out | apply below_alloc | apply pw_below_drewN | apply below_drew1) | exact HB.out)⟩
            ·skip
             have c38b0 : (x3_2 == 0) = false := beq_eq_false_iff_ne.mpr c38
             have c38b1 : (x3_2 != 0) = true := bne_iff_ne.mpr c38
             replace H := itO H
             rcases H with ⟨c39, H⟩ | ⟨c39, H⟩
             ·skip
              have c39b0 : (x3_2 == (wrap64 ((a0.size : Int) - 1))) = true := beq_iff_eq.mpr c39
              have c39b1 : (x3_2 != (wrap64 ((a0.size : Int) - 1))) = false := bne_eq_false_iff_eq.mpr c39
              clear c39
              obtain rfl := Option.some.inj H
              have p7 : 0 ≤ (x3_2 : Int) := of_decide_eq_true (by first | (with_reducible assumption) | assumption)
              have q7 : x3_2 < (a0.size : Int) := of_decide_eq_true (by first | (with_reducible assumption) | assumption)
              have hx7 := bt_at a0 x3_2
              replace p7 := eq_true p7
              replace q7 := eq_true q7
              have p9 : 0 ≤ (x3_2 : Int) := of_decide_eq_true (by first | (with_reducible assumption) | assumption)
              have q9 : x3_2 < (a0.size : Int) := of_decide_eq_true (by first | (with_reducible assumption) | assumption)
              have hx9 := bt_at a0 x3_2
              replace p9 := eq_true p9
              replace q9 := eq_true q9
              have p11 : 0 ≤ (x3_2 : Int) := of_decide_eq_true (by first | (with_reducible assumption) | assumption)
              have q11 : x3_2 < (a0.size : Int) := of_decide_eq_true (by first | (with_reducible assumption) | assumption)
              have hx11 := bt_at a0 x3_2
              replace p11 := eq_true p11
              replace q11 := eq_true q11
              have p36 : 0 ≤ (x3_2 : Int) := of_decide_eq_true (by first | (with_reducible assumption) | assumption)
              have q36 : x3_2 < (a0.size : Int) := of_decide_eq_true (by first | (with_reducible assumption) | assumption)
              have hx36 := bt_at a0 x3_2
              replace p36 := eq_true p36
              replace q36 := eq_true q36
              go_wp2
              go_ret
              exact ⟨by first | rfl | (simp [errW_none, errW_some] <;> rfl) | (simp [*, errW_none, errW_some] <;> rfl), by repeat (first | (with_reducible first | exact HB.out | apply below_alloc | apply pw_below_drewN | apply below_drew1) | exact HB.out)⟩
             ·skip
              have c39b0 : (x3_2 == (wrap64 ((a0.size : Int) - 1))) = false := beq_eq_false_iff_ne.mpr c39
              have c39b1 : (x3_2 != (wrap64 ((a0.size : Int) - 1))) = true := bne_iff_ne.mpr c39
              replace H := itO H
              rcases H with ⟨c41, H⟩ | ⟨c41, H⟩
              ·skip
               have c41b0 : ((bt a0 x3_2) == 46) = true := beq_iff_eq.mpr c41
               have c41b1 : ((bt a0 x3_2) != 46) = false := bne_eq_false_iff_eq.mpr c41
               clear c41
               obtain ⟨ji42, hji42⟩ : ∃ j_ : Int, (wrap64 (x3_2 - 1)) = j_ := ⟨_, rfl⟩
               first | rw [hji42] at H | simp only [hji42] at H
               have hji42w : (IntKind.i64.wrap (x3_2 - 1)) = ji42 := (i64_w _).trans hji42
               replace H := itO H
               rcases H with ⟨c43, H⟩ | ⟨c43, H⟩
               ·skip
                have c43b0 : decide (0 ≤ (ji42)) = true := decide_eq_true c43
                clear c43
                replace H := itO H
                rcases H with ⟨c44, H⟩ | ⟨c44, H⟩
                ·skip
                 have c44b0 : decide ((ji42) < (a0.size : Int)) = true := decide_eq_true c44
                 clear c44
                 replace H := itO H
                 rcases H with ⟨c46, H⟩ | ⟨c46, H⟩
                 ·skip
                  have c46b0 : ((bt a0 (ji42)) == 46) = true := beq_iff_eq.mpr c46
                  have c46b1 : ((bt a0 (ji42)) != 46) = false := bne_eq_false_iff_eq.mpr c46
                  clear c46
                  obtain rfl := Option.some.inj H
                  have p7 : 0 ≤ (x3_2 : Int) := of_decide_eq_true (by first | (with_reducible assumption) | assumption)
                  have q7 : x3_2 < (a0.size : Int) := of_decide_eq_true (by first | (with_reducible assumption) | assumption)
                  have hx7 := bt_at a0 x3_2
                  replace p7 := eq_true p7
                  replace q7 := eq_true q7
                  have p9 : 0 ≤ (x3_2 : Int) := of_decide_eq_true (by first | (with_reducible assumption) | assumption)
                  have q9 : x3_2 < (a0.size : Int) := of_decide_eq_true (by first | (with_reducible assumption) | assumption)
                  have hx9 := bt_at a0 x3_2
                  replace p9 := eq_true p9
                  replace q9 := eq_true q9
                  have p11 : 0 ≤ (x3_2 : Int) := of_decide_eq_true (by first | (with_reducible assumption) | assumption)
                  have q11 : x3_2 < (a0.size : Int) := of_decide_eq_true (by first | (with_reducible assumption) | assumption)
                  have hx11 := bt_at a0 x3_2
                  replace p11 := eq_true p11
                  replace q11 := eq_true q11
                  have p36 : 0 ≤ (x3_2 : Int) := of_decide_eq_true (by first | (with_reducible assumption) | assumption)
                  have q36 : x3_2 < (a0.size : Int) := of_decide_eq_true (by first | (with_reducible assumption) | assumption)
                  have hx36 := bt_at a0 x3_2
                  replace p36 := eq_true p36
                  replace q36 := eq_true q36
                  have p40 : 0 ≤ (x3_2 : Int) := of_decide_eq_true (by first | (with_reducible assumption) | assumption)
                  have q40 : x3_2 < (a0.size : Int) := of_decide_eq_true (by first | (with_reducible assumption) | assumption)
                  have hx40 := bt_at a0 x3_2
                  replace p40 := eq_true p40
                  replace q40 := eq_true q40
                  have p45 : 0 ≤ ((ji42) : Int) := of_decide_eq_true (by first | (with_reducible assumption) | assumption)
                  have q45 : (ji42) < (a0.size : Int) := of_decide_eq_true (by first | (with_reducible assumption) | assumption)
                  have hx45 := bt_at a0 (ji42)
                  replace p45 := eq_true p45
                  replace q45 := eq_true q45
                  go_wp2
                  go_ret
                  exact ⟨by first | rfl | (simp [errW_none, errW_some] <;> rfl) | (simp only [← hji42]; first | rfl | (simp [errW_none, errW_some] <;> rfl)) | (simp [*, errW_none, errW_some] <;> rfl), by repeat (first | (with_reducible first | exact HB.out | apply below_alloc | apply pw_below_drewN | apply below_drew1) | exact HB.out)⟩
                 ·skip
                  have c46b0 : ((bt a0 (ji42)) == 46) = false := beq_eq_false_iff_ne.mpr c46
                  have c46b1 : ((bt a0 (ji42)) != 46) = true := bne_iff_ne.mpr c46
                  have H' := Aside0.mk H
                  clear H
                  have p7 : 0 ≤ (x3_2 : Int) := of_decide_eq_true (by first | (with_reducible assumption) | assumption)
                  have q7 : x3_2 < (a0.size : Int) := of_decide_eq_true (by first | (with_reducible assumption) | assumption)
                  have hx7 := bt_at a0 x3_2
                  replace p7 := eq_true p7
                  replace q7 := eq_true q7
                  have p9 : 0 ≤ (x3_2 : Int) := of_decide_eq_true (by first | (with_reducible assumption) | assumption)
                  have q9 : x3_2 < (a0.size : Int) := of_decide_eq_true (by first | (with_reducible assumption) | assumption)
                  have hx9 := bt_at a0 x3_2
                  replace p9 := eq_true p9
                  replace q9 := eq_true q9
                  have p11 : 0 ≤ (x3_2 : Int) := of_decide_eq_true (by first | (with_reducible assumption) | assumption)
                  have q11 : x3_2 < (a0.size : Int) := of_decide_eq_true (by first | (with_reducible assumption) | assumption)
                  have hx11 := bt_at a0 x3_2
                  replace p11 := eq_true p11
                  replace q11 := eq_true q11
                  have p36 : 0 ≤ (x3_2 : Int) := of_decide_eq_true (by first | (with_reducible assumption) | assumption)
                  have q36 : x3_2 < (a0.size : Int) := of_decide_eq_true (by first | (with_reducible assumption) | assumption)
                  have hx36 := bt_at a0 x3_2
                  replace p36 := eq_true p36
                  replace q36 := eq_true q36
                  have p40 : 0 ≤ (x3_2 : Int) := of_decide_eq_true (by first | (with_reducible assumption) | assumption)
                  have q40 : x3_2 < (a0.size : Int) := of_decide_eq_true (by first | (with_reducible assumption) | assumption)
                  have hx40 := bt_at a0 x3_2
                  replace p40 := eq_true p40
                  replace q40 := eq_true q40
                  have p45 : 0 ≤ ((ji42) : Int) := of_decide_eq_true (by first | (with_reducible assumption) | assumption)
                  have q45 : (ji42) < (a0.size : Int) := of_decide_eq_true (by first | (with_reducible assumption) | assumption)
                  have hx45 := bt_at a0 (ji42)
                  replace p45 := eq_true p45
                  replace q45 := eq_true q45
                  go_wp2
                  go_roundg k2
                  case measure => have := HJ1.out; have := HK2.out; omega
                  case rel => exact ⟨(wrap64 (x3_2 + 1)), (by first | rfl | (simp; done) | (simp [*]; done)), H', ⟨by have := HJ1.out; have := HK2.out; omega⟩, ⟨by repeat (first | (with_reducible first | exact HB.out | apply below_alloc | apply pw_below_drewN | apply below_drew1) | exact HB.out)⟩⟩
                ·exact absurd H (by simp)
               ·exact absurd H (by simp)
              ·skip
               have c41b0 : ((bt a0 x3_2) == 46) = false := beq_eq_false_iff_ne.mpr c41
               have c41b1 : ((bt a0 x3_2) != 46) = true := bne_iff_ne.mpr c41
               have H' := Aside0.mk H
               clear H
               have p7 : 0 ≤ (x3_2 : Int) := of_decide_eq_true (by first | (with_reducible assumption) | assumption)
               have q7 : x3_2 < (a0.size : Int) := of_decide_eq_true (by first | (with_reducible assumption) | assumption)
               have hx7 := bt_at a0 x3_2
               replace p7 := eq_true p7
               replace q7 := eq_true q7
               have p9 : 0 ≤ (x3_2 : Int) := of_decide_eq_true (by first | (with_reducible assumption) | assumption)
               have q9 : x3_2 < (a0.size : Int) := of_decide_eq_true (by first | (with_reducible assumption) | assumption)
               have hx9 := bt_at a0 x3_2
               replace p9 := eq_true p9
               replace q9 := eq_true q9
               have p11 : 0 ≤ (x3_2 : Int) := of_decide_eq_true (by first | (with_reducible assumption) | assumption)
               have q11 : x3_2 < (a0.size : Int) := of_decide_eq_true (by first | (with_reducible assumption) | assumption)
               have hx11 := bt_at a0 x3_2
               replace p11 := eq_true p11
               replace q11 := eq_true q11
               have p36 : 0 ≤ (x3_2 : Int) := of_decide_eq_true (by first | (with_reducible assumption) | assumption)
               have q36 : x3_2 < (a0.size : Int) := of_decide_eq_true (by first | (with_reducible assumption) | assumption)
               have hx36 := bt_at a0 x3_2
               replace p36 := eq_true p36
               replace q36 := eq_true q36
               have p40 : 0 ≤ (x3_2 : Int) := of_decide_eq_true (by first | (with_reducible assumption) | assumption)
               have q40 : x3_2 < (a0.size : Int) := of_decide_eq_true (by first | (with_reducible assumption) | assumption)
               have hx40 := bt_at a0 x3_2
               replace p40 := eq_true p40
               replace q40 := eq_true q40
               go_wp2
               go_roundg k2
               case measure => have := HJ1.out; have := HK2.out; omega
               case rel => exact ⟨(wrap64 (x3_2 + 1)), (by first | rfl | (simp; done) | (simp [*]; done)), H', ⟨by have := HJ1.out; have := HK2.out; omega⟩, ⟨by repeat (first | (with_reducible first | exact HB.out | apply below_alloc | apply pw_below_drewN | apply below_drew1) | exact HB.out)⟩⟩
           ·skip
            have c37b0 : ((bt a0 x3_2) == 45) = false := beq_eq_false_iff_ne.mpr c37
            have c37b1 : ((bt a0 x3_2) != 45) = true := bne_iff_ne.mpr c37
            replace H := itO H
            rcases H with ⟨c48, H⟩ | ⟨c48, H⟩
            ·skip
             have c48b0 : ((bt a0 x3_2) == 46) = true := beq_iff_eq.mpr c48
             have c48b1 : ((bt a0 x3_2) != 46) = false := bne_eq_false_iff_eq.mpr c48
             clear c48
             replace H := itO H
             rcases H with ⟨c49, H⟩ | ⟨c49, H⟩
             ·skip
              have c49b0 : (x3_2 == 0) = true := beq_iff_eq.mpr c49
              have c49b1 : (x3_2 != 0) = false := bne_eq_false_iff_eq.mpr c49
              clear c49
              obtain rfl := Option.some.inj H
              have p7 : 0 ≤ (x3_2 : Int) := of_decide_eq_true (by first | (with_reducible assumption) | assumption)
              have q7 : x3_2 < (a0.size : Int) := of_decide_eq_true (by first | (with_reducible assumption) | assumption)
              have hx7 := bt_at a0 x3_2
              replace p7 := eq_true p7
              replace q7 := eq_true q7
              have p9 : 0 ≤ (x3_2 : Int) := of_decide_eq_true (by first | (with_reducible assumption) | assumption)
              have q9 : x3_2 < (a0.size : Int) := of_decide_eq_true (by first | (with_reducible assumption) | assumption)
              have hx9 := bt_at a0 x3_2
              replace p9 := eq_true p9
              replace q9 := eq_true q9
              have p11 : 0 ≤ (x3_2 : Int) := of_decide_eq_true (by first | (with_reducible assumption) | assumption)
              have q11 : x3_2 < (a0.size : Int) := of_decide_eq_true (by first | (with_reducible assumption) | assumption)
              have hx11 := bt_at a0 x3_2
              replace p11 := eq_true p11
              replace q11 := eq_true q11
              have p36 : 0 ≤ (x3_2 : Int) := of_decide_eq_true (by first | (with_reducible assumption) | assumption)
              have q36 : x3_2 < (a0.size : Int) := of_decide_eq_true (by first | (with_reducible assumption) | assumption)
              have hx36 := bt_at a0 x3_2
              replace p36 := eq_true p36
              replace q36 := eq_true q36
              have p47 : 0 ≤ (x3_2 : Int) := of_decide_eq_true (by first | (with_reducible assumption) | assumption)
              have q47 : x3_2 < (a0.size : Int) := of_decide_eq_true (by first | (with_reducible assumption) | assumption)
              have hx47 := bt_at a0 x3_2
              replace p47 := eq_true p47
              replace q47 := eq_true q47
              go_wp2
              go_ret
              exact ⟨by first | rfl | (simp [errW_none, errW_some] <;> rfl) | (simp [*, errW_none, errW_some] <;> rfl), by repeat (first | (with_reducible first | exact HB.out | apply below_alloc | apply pw_below_drewN | apply below_drew1) | exact HB.out)⟩
             ·skip
              have c49b0 : (x3_2 == 0) = false := beq_eq_false_iff_ne.mpr c49
              have c49b1 : (x3_2 != 0) = true := bne_iff_ne.mpr c49
              replace H := itO H
              rcases H with ⟨c50, H⟩ | ⟨c50, H⟩
              ·skip
               have c50b0 : (x3_2 == (wrap64 ((a0.size : Int) - 1))) = true := beq_iff_eq.mpr c50
               have c50b1 : (x3_2 != (wrap64 ((a0.size : Int) - 1))) = false := bne_eq_false_iff_eq.mpr c50
               clear c50
               obtain rfl := Option.some.inj H
               have p7 : 0 ≤ (x3_2 : Int) := of_decide_eq_true (by first | (with_reducible assumption) | assumption)
               have q7 : x3_2 < (a0.size : Int) := of_decide_eq_true (by first | (with_reducible assumption) | assumption)
               have hx7 := bt_at a0 x3_2
               replace p7 := eq_true p7
               replace q7 := eq_true q7
               have p9 : 0 ≤ (x3_2 : Int) := of_decide_eq_true (by first | (with_reducible assumption) | assumption)
               have q9 : x3_2 < (a0.size : Int) := of_decide_eq_true (by first | (with_reducible assumption) | assumption)
               have hx9 := bt_at a0 x3_2
               replace p9 := eq_true p9
               replace q9 := eq_true q9
               have p11 : 0 ≤ (x3_2 : Int) := of_decide_eq_true (by first | (with_reducible assumption) | assumption)
               have q11 : x3_2 < (a0.size : Int) := of_decide_eq_true (by first | (with_reducible assumption) | assumption)
               have hx11 := bt_at a0 x3_2
               replace p11 := eq_true p11
               replace q11 := eq_true q11
               have p36 : 0 ≤ (x3_2 : Int) := of_decide_eq_true (by first | (with_reducible assumption) | assumption)
               have q36 : x3_2 < (a0.size : Int) := of_decide_eq_true (by first | (with_reducible assumption) | assumption)
               have hx36 := bt_at a0 x3_2
               replace p36 := eq_true p36
               replace q36 := eq_true q36
               have p47 : 0 ≤ (x3_2 : Int) := of_decide_eq_true (by first | (with_reducible assumption) | assumption)
               have q47 : x3_2 < (a0.size : Int) := of_decide_eq_true (by first | (with_reducible assumption) | assumption)
               have hx47 := bt_at a0 x3_2
               replace p47 := eq_true p47
               replace q47 := eq_true q47
               go_wp2
               go_ret
               exact ⟨by first | rfl | (simp [errW_none, errW_some] <;> rfl) | (simp [*, errW_none, errW_some] <;> rfl), by repeat (first | (with_reducible first | exact HB.out | apply below_alloc | apply pw_below_drewN | apply below_drew1) | exact HB.out)⟩
              ·skip
               have c50b0 : (x3_2 == (wrap64 ((a0.size : Int) - 1))) = false := beq_eq_false_iff_ne.mpr c50
               have c50b1 : (x3_2 != (wrap64 ((a0.size : Int) - 1))) = true := bne_iff_ne.mpr c50
               obtain ⟨ji52, hji52⟩ : ∃ j_ : Int, (wrap64 (x3_2 - 1)) = j_ := ⟨_, rfl⟩
               first | rw [hji52] at H | simp only [hji52] at H
               have hji52w : (IntKind.i64.wrap (x3_2 - 1)) = ji52 := (i64_w _).trans hji52
               replace H := itO H
               rcases H with ⟨c53, H⟩ | ⟨c53, H⟩
               ·skip
                have c53b0 : decide (0 ≤ (ji52)) = true := decide_eq_true c53
                clear c53
                replace H := itO H
                rcases H with ⟨c54, H⟩ | ⟨c54, H⟩
                ·skip
                 have c54b0 : decide ((ji52) < (a0.size : Int)) = true := decide_eq_true c54
                 clear c54
                 replace H := itO H
                 rcases H with ⟨c56, H⟩ | ⟨c56, H⟩
                 ·skip
                  have c56b0 : ((bt a0 (ji52)) == 46) = true := beq_iff_eq.mpr c56
                  have c56b1 : ((bt a0 (ji52)) != 46) = false := bne_eq_false_iff_eq.mpr c56
                  clear c56
                  obtain rfl := Option.some.inj H
                  have p7 : 0 ≤ (x3_2 : Int) := of_decide_eq_true (by first | (with_reducible assumption) | assumption)
                  have q7 : x3_2 < (a0.size : Int) := of_decide_eq_true (by first | (with_reducible assumption) | assumption)
                  have hx7 := bt_at a0 x3_2
                  replace p7 := eq_true p7
                  replace q7 := eq_true q7
                  have p9 : 0 ≤ (x3_2 : Int) := of_decide_eq_true (by first | (with_reducible assumption) | assumption)
                  have q9 : x3_2 < (a0.size : Int) := of_decide_eq_true (by first | (with_reducible assumption) | assumption)
                  have hx9 := bt_at a0 x3_2
                  replace p9 := eq_true p9
                  replace q9 := eq_true q9
                  have p11 : 0 ≤ (x3_2 : Int) := of_decide_eq_true (by first | (with_reducible assumption) | assumption)
                  have q11 : x3_2 < (a0.size : Int) := of_decide_eq_true (by first | (with_reducible assumption) | assumption)
                  have hx11 := bt_at a0 x3_2
                  replace p11 := eq_true p11
                  replace q11 := eq_true q11
                  have p36 : 0 ≤ (x3_2 : Int) := of_decide_eq_true (by first | (with_reducible assumption) | assumption)
                  have q36 : x3_2 < (a0.size : Int) := of_decide_eq_true (by first | (with_reducible assumption) | assumption)
                  have hx36 := bt_at a0 x3_2
                  replace p36 := eq_true p36
                  replace q36 := eq_true q36
                  have p47 : 0 ≤ (x3_2 : Int) := of_decide_eq_true (by first | (with_reducible assumption) | assumption)
                  have q47 : x3_2 < (a0.size : Int) := of_decide_eq_true (by first | (with_reducible assumption) | assumption)
                  have hx47 := bt_at a0 x3_2
                  replace p47 := eq_true p47
                  replace q47 := eq_true q47
                  have p51 : 0 ≤ (x3_2 : Int) := of_decide_eq_true (by first | (with_reducible assumption) | assumption)
                  have q51 : x3_2 < (a0.size : Int) := of_decide_eq_true (by first | (with_reducible assumption) | assumption)
                  have hx51 := bt_at a0 x3_2
                  replace p51 := eq_true p51
                  replace q51 := eq_true q51
                  have p55 : 0 ≤ ((ji52) : Int) := of_decide_eq_true (by first | (with_reducible assumption) | assumption)
                  have q55 : (ji52) < (a0.size : Int) := of_decide_eq_true (by first | (with_reducible assumption) | assumption)
                  have hx55 := bt_at a0 (ji52)
                  replace p55 := eq_true p55
                  replace q55 := eq_true q55
                  go_wp2
                  go_ret
                  exact ⟨by first | rfl | (simp [errW_none, errW_some] <;> rfl) | (simp only [← hji52]; first | rfl | (simp [errW_none, errW_some] <;> rfl)) | (simp [*, errW_none, errW_some] <;> rfl), by repeat (first | (with_reducible first | exact HB.out | apply below_alloc | apply pw_below_drewN | apply below_drew1) | exact HB.out)⟩
                 ·skip
                  have c56b0 : ((bt a0 (ji52)) == 46) = false := beq_eq_false_iff_ne.mpr c56
                  have c56b1 : ((bt a0 (ji52)) != 46) = true := bne_iff_ne.mpr c56
                  have H' := Aside0.mk H
                  clear H
                  have p7 : 0 ≤ (x3_2 : Int) := of_decide_eq_true (by first | (with_reducible assumption) | assumption)
                  have q7 : x3_2 < (a0.size : Int) := of_decide_eq_true (by first | (with_reducible assumption) | assumption)
                  have hx7 := bt_at a0 x3_2
                  replace p7 := eq_true p7
                  replace q7 := eq_true q7
                  have p9 : 0 ≤ (x3_2 : Int) := of_decide_eq_true (by first | (with_reducible assumption) | assumption)
                  have q9 : x3_2 < (a0.size : Int) := of_decide_eq_true (by first | (with_reducible assumption) | assumption)
                  have hx9 := bt_at a0 x3_2
                  replace p9 := eq_true p9
                  replace q9 := eq_true q9
                  have p11 : 0 ≤ (x3_2 : Int) := of_decide_eq_true (by first | (with_reducible assumption) | assumption)
                  have q11 : x3_2 < (a0.size : Int) := of_decide_eq_true (by first | (with_reducible assumption) | assumption)
                  have hx11 := bt_at a0 x3_2
                  replace p11 := eq_true p11
                  replace q11 := eq_true q11
                  have p36 : 0 ≤ (x3_2 : Int) := of_decide_eq_true (by first | (with_reducible assumption) | assumption)
                  have q36 : x3_2 < (a0.size : Int) := of_decide_eq_true (by first | (with_reducible assumption) | assumption)
                  have hx36 := bt_at a0 x3_2
                  replace p36 := eq_true p36
                  replace q36 := eq_true q36
                  have p47 : 0 ≤ (x3_2 : Int) := of_decide_eq_true (by first | (with_reducible assumption) | assumption)
                  have q47 : x3_2 < (a0.size : Int) := of_decide_eq_true (by first | (with_reducible assumption) | assumption)
                  have hx47 := bt_at a0 x3_2
                  replace p47 := eq_true p47
                  replace q47 := eq_true q47
                  have p51 : 0 ≤ (x3_2 : Int) := of_decide_eq_true (by first | (with_reducible assumption) | assumption)
                  have q51 : x3_2 < (a0.size : Int) := of_decide_eq_true (by first | (with_reducible assumption) | assumption)
                  have hx51 := bt_at a0 x3_2
                  replace p51 := eq_true p51
                  replace q51 := eq_true q51
                  have p55 : 0 ≤ ((ji52) : Int) := of_decide_eq_true (by first | (with_reducible assumption) | assumption)
                  have q55 : (ji52) < (a0.size : Int) := of_decide_eq_true (by first | (with_reducible assumption) | assumption)
                  have hx55 := bt_at a0 (ji52)
                  replace p55 := eq_true p55
                  replace q55 := eq_true q55
                  go_wp2
                  go_roundg k2
                  case measure => have := HJ1.out; have := HK2.out; omega
                  case rel => exact ⟨(wrap64 (x3_2 + 1)), (by first | rfl | (simp; done) | (simp [*]; done)), H', ⟨by have := HJ1.out; have := HK2.out; omega⟩, ⟨by repeat (first | (with_reducible first | exact HB.out | apply below_alloc | apply pw_below_drewN | apply below_drew1) | exact HB.out)⟩⟩
                ·exact absurd H (by simp)
               ·exact absurd H (by simp)
            ·skip
             have c48b0 : ((bt a0 x3_2) == 46) = false := beq_eq_false_iff_ne.mpr c48
             have c48b1 : ((bt a0 x3_2) != 46) = true := bne_iff_ne.mpr c48
             obtain rfl := Option.some.inj H
             have p7 : 0 ≤ (x3_2 : Int) := of_decide_eq_true (by first | (with_reducible assumption) | assumption)
             have q7 : x3_2 < (a0.size : Int) := of_decide_eq_true (by first | (with_reducible assumption) | assumption)
             have hx7 := bt_at a0 x3_2
             replace p7 := eq_true p7
             replace q7 := eq_true q7
             have p9 : 0 ≤ (x3_2 : Int) := of_decide_eq_true (by first | (with_reducible assumption) | assumption)
             have q9 : x3_2 < (a0.size : Int) := of_decide_eq_true (by first | (with_reducible assumption) | assumption)
             have hx9 := bt_at a0 x3_2
             replace p9 := eq_true p9
             replace q9 := eq_true q9
             have p11 : 0 ≤ (x3_2 : Int) := of_decide_eq_true (by first | (with_reducible assumption) | assumption)
             have q11 : x3_2 < (a0.size : Int) := of_decide_eq_true (by first | (with_reducible assumption) | assumption)
             have hx11 := bt_at a0 x3_2
             replace p11 := eq_true p11
             replace q11 := eq_true q11
             have p36 : 0 ≤ (x3_2 : Int) := of_decide_eq_true (by first | (with_reducible assumption) | assumption)
             have q36 : x3_2 < (a0.size : Int) := of_decide_eq_true (by first | (with_reducible assumption) | assumption)
             have hx36 := bt_at a0 x3_2
             replace p36 := eq_true p36
             replace q36 := eq_true q36
             have p47 : 0 ≤ (x3_2 : Int) := of_decide_eq_true (by first | (with_reducible assumption) | assumption)
             have q47 : x3_2 < (a0.size : Int) := of_decide_eq_true (by first | (with_reducible assumption) | assumption)
             have hx47 := bt_at a0 x3_2
             replace p47 := eq_true p47
             replace q47 := eq_true q47
             go_wp2
             go_ret
             exact ⟨by first | rfl | (simp [errW_none, errW_some] <;> rfl) | (simp [*, errW_none, errW_some] <;> rfl), by repeat (first | (with_reducible first | exact HB.out | apply below_alloc | apply pw_below_drewN | apply below_drew1) | exact HB.out)⟩
        ·skip
         have c8b0 : decide (97 ≤ (bt a0 x3_2)) = false := decide_eq_false c8
         clear c8
         replace H := itO H
         rcases H with ⟨c58, H⟩ | ⟨c58, H⟩
         ·skip
          have c58b0 : decide (48 ≤ (bt a0 x3_2)) = true := decide_eq_true c58
          clear c58
          replace H := itO H
          rcases H with ⟨c60, H⟩ | ⟨c60, H⟩
          ·skip
           have c60b0 : decide ((bt a0 x3_2) ≤ 57) = true := decide_eq_true c60
           clear c60
           have H' := Aside0.mk H
           clear H
           have p7 : 0 ≤ (x3_2 : Int) := of_decide_eq_true (by first | (with_reducible assumption) | assumption)
           have q7 : x3_2 < (a0.size : Int) := of_decide_eq_true (by first | (with_reducible assumption) | assumption)
           have hx7 := bt_at a0 x3_2
           replace p7 := eq_true p7
           replace q7 := eq_true q7
           have p57 : 0 ≤ (x3_2 : Int) := of_decide_eq_true (by first | (with_reducible assumption) | assumption)
           have q57 : x3_2 < (a0.size : Int) := of_decide_eq_true (by first | (with_reducible assumption) | assumption)
           have hx57 := bt_at a0 x3_2
           replace p57 := eq_true p57
           replace q57 := eq_true q57
           have p59 : 0 ≤ (x3_2 : Int) := of_decide_eq_true (by first | (with_reducible assumption) | assumption)
           have q59 : x3_2 < (a0.size : Int) := of_decide_eq_true (by first | (with_reducible assumption) | assumption)
           have hx59 := bt_at a0 x3_2
           replace p59 := eq_true p59
           replace q59 := eq_true q59
           go_wp2
           go_roundg k2
           case measure => have := HJ1.out; have := HK2.out; omega
           case rel => exact ⟨(wrap64 (x3_2 + 1)), (by first | rfl | (simp; done) | (simp [*]; done)), H', ⟨by have := HJ1.out; have := HK2.out; omega⟩, ⟨by repeat (first | (with_reducible first | exact HB.out | apply below_alloc | apply pw_below_drewN | apply below_drew1) | exact HB.out)⟩⟩
          ·skip
           have c60b0 : decide ((bt a0 x3_2) ≤ 57) = false := decide_eq_false c60
           clear c60
           replace H := itO H
           rcases H with ⟨c62, H⟩ | ⟨c62, H⟩
           ·skip
            have c62b0 : ((bt a0 x3_2) == 45) = true := beq_iff_eq.mpr c62
            have c62b1 : ((bt a0 x3_2) != 45) = false := bne_eq_false_iff_eq.mpr c62
            clear c62
            replace H := itO H
            rcases H with ⟨c63, H⟩ | ⟨c63, H⟩
            ·skip
             have c63b0 : (x3_2 == 0) = true := beq_iff_eq.mpr c63
             have c63b1 : (x3_2 != 0) = false := bne_eq_false_iff_eq.mpr c63
             clear c63
             obtain rfl := Option.some.inj H
             have p7 : 0 ≤ (x3_2 : Int) := of_decide_eq_true (by first | (with_reducible assumption) | assumption)
             have q7 : x3_2 < (a0.size : Int) := of_decide_eq_true (by first | (with_reducible assumption) | assumption)
             have hx7 := bt_at a0 x3_2
             replace p7 := eq_true p7
             replace q7 := eq_true q7
             have p57 : 0 ≤ (x3_2 : Int) := of_decide_eq_true (by first | (with_reducible assumption) | assumption)
             have q57 : x3_2 < (a0.size : Int) := of_decide_eq_true (by first | (with_reducible assumption) | assumption)
             have hx57 := bt_at a0 x3_2
             replace p57 := eq_true p57
             replace q57 := eq_true q57
             have p59 : 0 ≤ (x3_2 : Int) := of_decide_eq_true (by first | (with_reducible assumption) | assumption)
             have q59 : x3_2 < (a0.size : Int) := of_decide_eq_true (by first | (with_reducible assumption) | assumption)
             have hx59 := bt_at a0 x3_2
             replace p59 := eq_true p59
             replace q59 := eq_true q59
             have p61 : 0 ≤ (x3_2 : Int) := of_decide_eq_true (by first | (with_reducible assumption) | assumption)
             have q61 : x3_2 < (a0.size : Int) := of_decide_eq_true (by first | (with_reducible assumption) | assumption)
             have hx61 := bt_at a0 x3_2
             replace p61 := eq_true p61
             replace q61 := eq_true q61
             go_wp2
             go_ret
             exact ⟨by first | rfl | (simp [errW_none, errW_some] <;> rfl) | (simp [*, errW_none, errW_some] <;> rfl), by repeat (first | (with_reducible first | exact HB.out | apply below_alloc | apply pw_below_drewN | apply below_drew1) | exact HB.out)⟩
            ·skip
             have c63b0 : (x3_2 == 0) = false := beq_eq_false_iff_ne.mpr c63
             have c63b1 : (x3_2 != 0) = true := bne_iff_ne.mpr c63
             replace H := itO H
             rcases H with ⟨c64, H⟩ | ⟨c64, H⟩
             ·skip
              have c64b0 : (x3_2 == (wrap64 ((a0.size : Int) - 1))) = true := beq_iff_eq.mpr c64
              have c64b1 : (x3_2 != (wrap64 ((a0.size : Int) - 1))) = false := bne_eq_false_iff_eq.mpr c64
              clear c64
              obtain rfl := Option.some.inj H
              have p7 : 0 ≤ (x3_2 : Int) := of_decide_eq_true (by first | (with_reducible assumption) | assumption)
              have q7 : x3_2 < (a0.size : Int) := of_decide_eq_true (by first | (with_reducible assumption) | assumption)
              have hx7 := bt_at a0 x3_2
              replace p7 := eq_true p7
              replace q7 := eq_true q7
              have p57 : 0 ≤ (x3_2 : Int) := of_decide_eq_true (by first | (with_reducible assumption) | assumption)
              have q57 : x3_2 < (a0.size : Int) := of_decide_eq_true (by first | (with_reducible assumption) | assumption)
              have hx57 := bt_at a0 x3_2
              replace p57 := eq_true p57
              replace q57 := eq_true q57
              have p59 : 0 ≤ (x3_2 : Int) := of_decide_eq_true (by first | (with_reducible assumption) | assumption)
              have q59 : x3_2 < (a0.size : Int) := of_decide_eq_true (by first | (with_reducible assumption) | assumption)
              have hx59 := bt_at a0 x3_2
              replace p59 := eq_true p59
              replace q59 := eq_true q59
              have p61 : 0 ≤ (x3_2 : Int) := of_decide_eq_true (by first | (with_reducible assumption) | assumption)
              have q61 : x3_2 < (a0.size : Int) := of_decide_eq_true (by first | (with_reducible assumption) | assumption)
              have hx61 := bt_at a0 x3_2
              replace p61 := eq_true p61
              replace q61 := eq_true q61
              go_wp2
              go_ret
              exact ⟨by first | rfl | (simp [errW_none, errW_some] <;> rfl) | (simp [*, errW_none, errW_some] <;> rfl), by repeat (first | (with_reducible first | exact HB.out | apply below_alloc | apply pw_below_drewN | apply below_drew1) | exact HB.out)⟩
             ·skip
              have c64b0 : (x3_2 == (wrap64 ((a0.size : Int) - 1))) = false := beq_eq_false_iff_ne.mpr c64
              have c64b1 : (x3_2 != (wrap64 ((a0.size : Int) - 1))) = true := bne_iff_ne.mpr c64
              replace H := itO H
              rcases H with ⟨c66, H⟩ | ⟨c66, H⟩
              ·skip
               have c66b0 : ((bt a0 x3_2) == 46) = true := beq_iff_eq.mpr c66
               have c66b1 : ((bt a0 x3_2) != 46) = false := bne_eq_false_iff_eq.mpr c66
               clear c66
               obtain ⟨ji67, hji67⟩ : ∃ j_ : Int, (wrap64 (x3_2 - 1)) = j_ := ⟨_, rfl⟩
               first | rw [hji67] at H | simp only [hji67] at H
               have hji67w : (IntKind.i64.wrap (x3_2 - 1)) = ji67 := (i64_w _).trans hji67
               replace H := itO H
               rcases H with ⟨c68, H⟩ | ⟨c68, H⟩
               ·skip
                have c68b0 : decide (0 ≤ (ji67)) = true := decide_eq_true c68
                clear c68
                replace H := itO H
                rcases H with ⟨c69, H⟩ | ⟨c69, H⟩
                ·skip
                 have c69b0 : decide ((ji67) < (a0.size : Int)) = true := decide_eq_true c69
                 clear c69
                 replace H := itO H
                 rcases H with ⟨c71, H⟩ | ⟨c71, H⟩
                 ·skip
                  have c71b0 : ((bt a0 (ji67)) == 46) = true := beq_iff_eq.mpr c71
                  have c71b1 : ((bt a0 (ji67)) != 46) = false := bne_eq_false_iff_eq.mpr c71
                  clear c71
                  obtain rfl := Option.some.inj H
                  have p7 : 0 ≤ (x3_2 : Int) := of_decide_eq_true (by first | (with_reducible assumption) | assumption)
                  have q7 : x3_2 < (a0.size : Int) := of_decide_eq_true (by first | (with_reducible assumption) | assumption)
                  have hx7 := bt_at a0 x3_2
                  replace p7 := eq_true p7
                  replace q7 := eq_true q7
                  have p57 : 0 ≤ (x3_2 : Int) := of_decide_eq_true (by first | (with_reducible assumption) | assumption)
                  have q57 : x3_2 < (a0.size : Int) := of_decide_eq_true (by first | (with_reducible assumption) | assumption)
                  have hx57 := bt_at a0 x3_2
                  replace p57 := eq_true p57
                  replace q57 := eq_true q57
                  have p59 : 0 ≤ (x3_2 : Int) := of_decide_eq_true (by first | (with_reducible assumption) | assumption)
                  have q59 : x3_2 < (a0.size : Int) := of_decide_eq_true (by first | (with_reducible assumption) | assumption)
                  have hx59 := bt_at a0 x3_2
                  replace p59 := eq_true p59
                  replace q59 := eq_true q59
                  have p61 : 0 ≤ (x3_2 : Int) := of_decide_eq_true (by first | (with_reducible assumption) | assumption)
                  have q61 : x3_2 < (a0.size : Int) := of_decide_eq_true (by first | (with_reducible assumption) | assumption)
                  have hx61 := bt_at a0 x3_2
                  replace p61 := eq_true p61
                  replace q61 := eq_true q61
                  have p65 : 0 ≤ (x3_2 : Int) := of_decide_eq_true (by first | (with_reducible assumption) | assumption)
                  have q65 : x3_2 < (a0.size : Int) := of_decide_eq_true (by first | (with_reducible assumption) | assumption)
                  have hx65 := bt_at a0 x3_2
                  replace p65 := eq_true p65
                  replace q65 := eq_true q65
                  have p70 : 0 ≤ ((ji67) : Int) := of_decide_eq_true (by first | (with_reducible assumption) | assumption)
                  have q70 : (ji67) < (a0.size : Int) := of_decide_eq_true (by first | (with_reducible assumption) | assumption)
                  have hx70 := bt_at a0 (ji67)
                  replace p70 := eq_true p70
                  replace q70 := eq_true q70
                  go_wp2
                  go_ret
                  exact ⟨by first | rfl | (simp [errW_none, errW_some] <;> rfl) | (simp only [← hji67]; first | rfl | (simp [errW_none, errW_some] <;> rfl)) | (simp [*, errW_none, errW_some] <;> rfl), by repeat (first | (with_reducible first | exact HB.out | apply below_alloc | apply pw_below_drewN | apply below_drew1) | exact HB.out)⟩
                 ·skip
                  have c71b0 : ((bt a0 (ji67)) == 46) = false := beq_eq_false_iff_ne.mpr c71
                  have c71b1 : ((bt a0 (ji67)) != 46) = true := bne_iff_ne.mpr c71
                  have H' := Aside0.mk H
                  clear H
                  have p7 : 0 ≤ (x3_2 : Int) := of_decide_eq_true (by first | (with_reducible assumption) | assumption)
                  have q7 : x3_2 < (a0.size : Int) := of_decide_eq_true (by first | (with_reducible assumption) | assumption)
                  have hx7 := bt_at a0 x3_2
                  replace p7 := eq_true p7
                  replace q7 := eq_true q7
                  have p57 : 0 ≤ (x3_2 : Int) := of_decide_eq_true (by first | (with_reducible assumption) | assumption)
                  have q57 : x3_2 < (a0.size : Int) := of_decide_eq_true (by first | (with_reducible assumption) | assumption)
                  have hx57 := bt_at a0 x3_2
                  replace p57 := eq_true p57
                  replace q57 := eq_true q57
                  have p59 : 0 ≤ (x3_2 : Int) := of_decide_eq_true (by first | (with_reducible assumption) | assumption)
                  have q59 : x3_2 < (a0.size : Int) := of_decide_eq_true (by first | (with_reducible assumption) | assumption)
                  have hx59 := bt_at a0 x3_2
                  replace p59 := eq_true p59
                  replace q59 := eq_true q59
                  have p61 : 0 ≤ (x3_2 : Int) := of_decide_eq_true (by first | (with_reducible assumption) | assumption)
                  have q61 : x3_2 < (a0.size : Int) := of_decide_eq_true (by first | (with_reducible assumption) | assumption)
                  have hx61 := bt_at a0 x3_2
                  replace p61 := eq_true p61
                  replace q61 := eq_true q61
                  have p65 : 0 ≤ (x3_2 : Int) := of_decide_eq_true (by first | (with_reducible assumption) | assumption)
                  have q65 : x3_2 < (a0.size : Int) := of_decide_eq_true (by first | (with_reducible assumption) | assumption)
                  have hx65 := bt_at a0 x3_2
                  replace p65 := eq_true p65
                  replace q65 := eq_true q65
                  have p70 : 0 ≤ ((ji67) : Int) := of_decide_eq_true (by first | (with_reducible assumption) | assumption)
                  have q70 : (ji67) < (a0.size : Int) := of_decide_eq_true (by first | (with_reducible assumption) | assumption)
                  have hx70 := bt_at a0 (ji67)
                  replace p70 := eq_true p70
                  replace q70 := eq_true q70
                  go_wp2
                  go_roundg k2
                  case measure => have := HJ1.out; have := HK2.out; omega
                  case rel => exact ⟨(wrap64 (x3_2 + 1)), (by first | rfl | (simp; done) | (simp [*]; done)), H', ⟨by have := HJ1.out; have := HK2.out; omega⟩, ⟨by repeat (first | (with_reducible first | exact HB.out | apply below_alloc | apply pw_below_drewN | apply below_drew1) | exact HB.out)⟩⟩
                ·exact absurd H (by simp)
               ·exact absurd H (by simp)
              ·skip
               have c66b0 : ((bt a0 x3_2) == 46) = false := beq_eq_false_iff_ne.mpr c66
               have c66b1 : ((bt a0 x3_2) != 46) = true := bne_iff_ne.mpr c66
               have H' := Aside0.mk H
               clear H
               have p7 : 0 ≤ (x3_2 : Int) := of_decide_eq_true (by first | (with_reducible assumption) | assumption)
               have q7 : x3_2 < (a0.size : Int) := of_decide_eq_true (by first | (with_reducible assumption) | assumption)
               have hx7 := bt_at a0 x3_2
               replace p7 := eq_true p7
               replace q7 := eq_true q7
               have p57 : 0 ≤ (x3_2 : Int) := of_decide_eq_true (by first | (with_reducible assumption) | assumption)
               have q57 : x3_2 < (a0.size : Int) := of_decide_eq_true (by first | (with_reducible assumption) | assumption)
               have hx57 := bt_at a0 x3_2
               replace p57 := eq_true p57
               replace q57 := eq_true q57
               have p59 : 0 ≤ (x3_2 : Int) := of_decide_eq_true (by first | (with_reducible assumption) | assumption)
               have q59 : x3_2 < (a0.size : Int) := of_decide_eq_true (by first | (with_reducible assumption) | assumption)
               have hx59 := bt_at a0 x3_2
               replace p59 := eq_true p59
               replace q59 := eq_true q59
               have p61 : 0 ≤ (x3_2 : Int) := of_decide_eq_true (by first | (with_reducible assumption) | assumption)
               have q61 : x3_2 < (a0.size : Int) := of_decide_eq_true (by first | (with_reducible assumption) | assumption)
               have hx61 := bt_at a0 x3_2
               replace p61 := eq_true p61
               replace q61 := eq_true q61
               have p65 : 0 ≤ (x3_2 : Int) := of_decide_eq_true (by first | (with_reducible assumption) | assumption)
               have q65 : x3_2 < (a0.size : Int) := of_decide_eq_true (by first | (with_reducible assumption) | assumption)
               have hx65 := bt_at a0 x3_2
               replace p65 := eq_true p65
               replace q65 := eq_true q65
               go_wp2
               go_roundg k2
               case measure => have := HJ1.out; have := HK2.out; omega
               case rel => exact ⟨(wrap64 (x3_2 + 1)), (by first | rfl | (simp; done) | (simp [*]; done)), H', ⟨by have := HJ1.out; have := HK2.out; omega⟩, ⟨by repeat (first | (with_reducible first | exact HB.out | apply below_alloc | apply pw_below_drewN | apply below_drew1) | exact HB.out)⟩⟩
           ·skip
            have c62b0 : ((bt a0 x3_2) == 45) = false := beq_eq_false_iff_ne.mpr c62
            have c62b1 : ((bt a0 x3_2) != 45) = true := bne_iff_ne.mpr c62
            replace H := itO H
            rcases H with ⟨c73, H⟩ | ⟨c73, H⟩
            ·skip
             have c73b0 : ((bt a0 x3_2) == 46) = true := beq_iff_eq.mpr c73
             have c73b1 : ((bt a0 x3_2) != 46) = false := bne_eq_false_iff_eq.mpr c73
             clear c73
             replace H := itO H
             rcases H with ⟨c74, H⟩ | ⟨c74, H⟩
             ·skip
              have c74b0 : (x3_2 == 0) = true := beq_iff_eq.mpr c74
              have c74b1 : (x3_2 != 0) = false := bne_eq_false_iff_eq.mpr c74
              clear c74
              obtain rfl := Option.some.inj H
              have p7 : 0 ≤ (x3_2 : Int) := of_decide_eq_true (by first | (with_reducible assumption) | assumption)
              have q7 : x3_2 < (a0.size : Int) := of_decide_eq_true (by first | (with_reducible assumption) | assumption)
              have hx7 := bt_at a0 x3_2
              replace p7 := eq_true p7
              replace q7 := eq_true q7
              have p57 : 0 ≤ (x3_2 : Int) := of_decide_eq_true (by first | (with_reducible assumption) | assumption)
              have q57 : x3_2 < (a0.size : Int) := of_decide_eq_true (by first | (with_reducible assumption) | assumption)
              have hx57 := bt_at a0 x3_2
              replace p57 := eq_true p57
              replace q57 := eq_true q57
              have p59 : 0 ≤ (x3_2 : Int) := of_decide_eq_true (by first | (with_reducible assumption) | assumption)
              have q59 : x3_2 < (a0.size : Int) := of_decide_eq_true (by first | (with_reducible assumption) | assumption)
              have hx59 := bt_at a0 x3_2
              replace p59 := eq_true p59
              replace q59 := eq_true q59
              have p61 : 0 ≤ (x3_2 : Int) := of_decide_eq_true (by first | (with_reducible assumption) | assumption)
              have q61 : x3_2 < (a0.size : Int) := of_decide_eq_true (by first | (with_reducible assumption) | assumption)
              have hx61 := bt_at a0 x3_2
              replace p61 := eq_true p61
              replace q61 := eq_true q61
              have p72 : 0 ≤ (x3_2 : Int) := of_decide_eq_true (by first | (with_reducible assumption) | assumption)
              have q72 : x3_2 < (a0.size : Int) := of_decide_eq_true (by first | (with_reducible assumption) | assumption)
              have hx72 := bt_at a0 x3_2
              replace p72 := eq_true p72
              replace q72 := eq_true q72
              go_wp2
              go_ret
              exact ⟨by first | rfl | (simp [errW_none, errW_some] <;> rfl) | (simp [*, errW_none, errW_some] <;> rfl), by repeat (first | (with_reducible first | exact HB.out | apply below_alloc | apply pw_below_drewN | apply below_drew1) | exact HB.out)⟩
             ·skip
              have c74b0 : (x3_2 == 0) = false := beq_eq_false_iff_ne.mpr c74
              have c74b1 : (x3_2 != 0) = true := bne_iff_ne.mpr c74
              replace H := itO H
              rcases H with ⟨c75, H⟩ | ⟨c75, H⟩
              ·skip
               have c75b0 : (x3_2 == (wrap64 ((a0.size : Int) - 1))) = true := beq_iff_eq.mpr c75
               have c75b1 : (x3_2 != (wrap64 ((a0.size : Int) - 1))) = false := bne_eq_false_iff_eq.mpr c75
               clear c75
               obtain rfl := Option.some.inj H
               have p7 : 0 ≤ (x3_2 : Int) := of_decide_eq_true (by first | (with_reducible assumption) | assumption)
               have q7 : x3_2 < (a0.size : Int) := of_decide_eq_true (by first | (with_reducible assumption) | assumption)
               have hx7 := bt_at a0 x3_2
               replace p7 := eq_true p7
               replace q7 := eq_true q7
               have p57 : 0 ≤ (x3_2 : Int) := of_decide_eq_true (by first | (with_reducible assumption) | assumption)
               have q57 : x3_2 < (a0.size : Int) := of_decide_eq_true (by first | (with_reducible assumption) | assumption)
               have hx57 := bt_at a0 x3_2
               replace p57 := eq_true p57
               replace q57 := eq_true q57
               have p59 : 0 ≤ (x3_2 : Int) := of_decide_eq_true (by first | (with_reducible assumption) | assumption)
               have q59 : x3_2 < (a0.size : Int) := of_decide_eq_true (by first | (with_reducible assumption) | assumption)
               have hx59 := bt_at a0 x3_2
               replace p59 := eq_true p59
               replace q59 := eq_true q59
               have p61 : 0 ≤ (x3_2 : Int) := of_decide_eq_true (by first | (with_reducible assumption) | assumption)
               have q61 : x3_2 < (a0.size : Int) := of_decide_eq_true (by first | (with_reducible assumption) | assumption)
               have hx61 := bt_at a0 x3_2
               replace p61 := eq_true p61
               replace q61 := eq_true q61
               have p72 : 0 ≤ (x3_2 : Int) := of_decide_eq_true (by first | (with_reducible assumption) | assumption)
               have q72 : x3_2 < (a0.size : Int) := of_decide_eq_true (by first | (with_reducible assumption) | assumption)
               have hx72 := bt_at a0 x3_2
               replace p72 := eq_true p72
               replace q72 := eq_true q72
               go_wp2
               go_ret
               exact ⟨by first | rfl | (simp [errW_none, errW_some] <;> rfl) | (simp [*, errW_none, errW_some] <;> rfl), by repeat (first | (with_reducible first | exact HB.out | apply below_alloc | apply pw_below_drewN | apply below_drew1) | exact HB.out)⟩
              ·skip
               have c75b0 : (x3_2 == (wrap64 ((a0.size : Int) - 1))) = false := beq_eq_false_iff_ne.mpr c75
               have c75b1 : (x3_2 != (wrap64 ((a0.size : Int) - 1))) = true := bne_iff_ne.mpr c75
               obtain ⟨ji77, hji77⟩ : ∃ j_ : Int, (wrap64 (x3_2 - 1)) = j_ := ⟨_, rfl⟩
               first | rw [hji77] at H | simp only [hji77] at H
               have hji77w : (IntKind.i64.wrap (x3_2 - 1)) = ji77 := (i64_w _).trans hji77
               replace H := itO H
               rcases H with ⟨c78, H⟩ | ⟨c78, H⟩
               ·skip
                have c78b0 : decide (0 ≤ (ji77)) = true := decide_eq_true c78
                clear c78
                replace H := itO H
                rcases H with ⟨c79, H⟩ | ⟨c79, H⟩
                ·skip
                 have c79b0 : decide ((ji77) < (a0.size : Int)) = true := decide_eq_true c79
                 clear c79
                 replace H := itO H
                 rcases H with ⟨c81, H⟩ | ⟨c81, H⟩
                 ·skip
                  have c81b0 : ((bt a0 (ji77)) == 46) = true := beq_iff_eq.mpr c81
                  have c81b1 : ((bt a0 (ji77)) != 46) = false := bne_eq_false_iff_eq.mpr c81
                  clear c81
                  obtain rfl := Option.some.inj H
                  have p7 : 0 ≤ (x3_2 : Int) := of_decide_eq_true (by first | (with_reducible assumption) | assumption)
                  have q7 : x3_2 < (a0.size : Int) := of_decide_eq_true (by first | (with_reducible assumption) | assumption)
                  have hx7 := bt_at a0 x3_2
                  replace p7 := eq_true p7
                  replace q7 := eq_true q7
                  have p57 : 0 ≤ (x3_2 : Int) := of_decide_eq_true (by first | (with_reducible assumption) | assumption)
                  have q57 : x3_2 < (a0.size : Int) := of_decide_eq_true (by first | (with_reducible assumption) | assumption)
                  have hx57 := bt_at a0 x3_2
                  replace p57 := eq_true p57
                  replace q57 := eq_true q57
                  have p59 : 0 ≤ (x3_2 : Int) := of_decide_eq_true (by first | (with_reducible assumption) | assumption)
                  have q59 : x3_2 < (a0.size : Int) := of_decide_eq_true (by first | (with_reducible assumption) | assumption)
                  have hx59 := bt_at a0 x3_2
                  replace p59 := eq_true p59
                  replace q59 := eq_true q59
                  have p61 : 0 ≤ (x3_2 : Int) := of_decide_eq_true (by first | (with_reducible assumption) | assumption)
                  have q61 : x3_2 < (a0.size : Int) := of_decide_eq_true (by first | (with_reducible assumption) | assumption)
                  have hx61 := bt_at a0 x3_2
                  replace p61 := eq_true p61
                  replace q61 := eq_true q61
                  have p72 : 0 ≤ (x3_2 : Int) := of_decide_eq_true (by first | (with_reducible assumption) | assumption)
                  have q72 : x3_2 < (a0.size : Int) := of_decide_eq_true (by first | (with_reducible assumption) | assumption)
                  have hx72 := bt_at a0 x3_2
                  replace p72 := eq_true p72
                  replace q72 := eq_true q72
                  have p76 : 0 ≤ (x3_2 : Int) := of_decide_eq_true (by first | (with_reducible assumption) | assumption)
                  have q76 : x3_2 < (a0.size : Int) := of_decide_eq_true (by first | (with_reducible assumption) | assumption)
                  have hx76 := bt_at a0 x3_2
                  replace p76 := eq_true p76
                  replace q76 := eq_true q76
                  have p80 : 0 ≤ ((ji77) : Int) := of_decide_eq_true (by first | (with_reducible assumption) | assumption)
                  have q80 : (ji77) < (a0.size : Int) := of_decide_eq_true (by first | (with_reducible assumption) | assumption)
                  have hx80 := bt_at a0 (ji77)
                  replace p80 := eq_true p80
                  replace q80 := eq_true q80
                  go_wp2
                  go_ret
                  exact ⟨by first | rfl | (simp [errW_none, errW_some] <;> rfl) | (simp only [← hji77]; first | rfl | (simp [errW_none, errW_some] <;> rfl)) | (simp [*, errW_none, errW_some] <;> rfl), by repeat (first | (with_reducible first | exact HB.out | apply below_alloc | apply pw_below_drewN | apply below_drew1) | exact HB.out)⟩
                 ·skip
                  have c81b0 : ((bt a0 (ji77)) == 46) = false := beq_eq_false_iff_ne.mpr c81
                  have c81b1 : ((bt a0 (ji77)) != 46) = true := bne_iff_ne.mpr c81
                  have H' := Aside0.mk H
                  clear H
                  have p7 : 0 ≤ (x3_2 : Int) := of_decide_eq_true (by first | (with_reducible assumption) | assumption)
                  have q7 : x3_2 < (a0.size : Int) := of_decide_eq_true (by first | (with_reducible assumption) | assumption)
                  have hx7 := bt_at a0 x3_2
                  replace p7 := eq_true p7
                  replace q7 := eq_true q7
                  have p57 : 0 ≤ (x3_2 : Int) := of_decide_eq_true (by first | (with_reducible assumption) | assumption)
                  have q57 : x3_2 < (a0.size : Int) := of_decide_eq_true (by first | (with_reducible assumption) | assumption)
                  have hx57 := bt_at a0 x3_2
                  replace p57 := eq_true p57
                  replace q57 := eq_true q57
                  have p59 : 0 ≤ (x3_2 : Int) := of_decide_eq_true (by first | (with_reducible assumption) | assumption)
                  have q59 : x3_2 < (a0.size : Int) := of_decide_eq_true (by first | (with_reducible assumption) | assumption)
                  have hx59 := bt_at a0 x3_2
                  replace p59 := eq_true p59
                  replace q59 := eq_true q59
                  have p61 : 0 ≤ (x3_2 : Int) := of_decide_eq_true (by first | (with_reducible assumption) | assumption)
                  have q61 : x3_2 < (a0.size : Int) := of_decide_eq_true (by first | (with_reducible assumption) | assumption)
                  have hx61 := bt_at a0 x3_2
                  replace p61 := eq_true p61
                  replace q61 := eq_true q61
                  have p72 : 0 ≤ (x3_2 : Int) := of_decide_eq_true (by first | (with_reducible assumption) | assumption)
                  have q72 : x3_2 < (a0.size : Int) := of_decide_eq_true (by first | (with_reducible assumption) | assumption)
                  have hx72 := bt_at a0 x3_2
                  replace p72 := eq_true p72
                  replace q72 := eq_true q72
                  have p76 : 0 ≤ (x3_2 : Int) := of_decide_eq_true (by first | (with_reducible assumption) | assumption)
                  have q76 : x3_2 < (a0.size : Int) := of_decide_eq_true (by first | (with_reducible assumption) | assumption)
                  have hx76 := bt_at a0 x3_2
                  replace p76 := eq_true p76
                  replace q76 := eq_true q76
                  have p80 : 0 ≤ ((ji77) : Int) := of_decide_eq_true (by first | (with_reducible assumption) | assumption)
                  have q80 : (ji77) < (a0.size : Int) := of_decide_eq_true (by first | (with_reducible assumption) | assumption)
                  have hx80 := bt_at a0 (ji77)
                  replace p80 := eq_true p80
                  replace q80 := eq_true q80
                  go_wp2
                  go_roundg k2
                  case measure => have := HJ1.out; have := HK2.out; omega
                  case rel => exact ⟨(wrap64 (x3_2 + 1)), (by first | rfl | (simp; done) | (simp [*]; done)), H', ⟨by have := HJ1.out; have := HK2.out; omega⟩, ⟨by repeat (first | (with_reducible first | exact HB.out | apply below_alloc | apply pw_below_drewN | apply below_drew1) | exact HB.out)⟩⟩
                ·exact absurd H (by simp)
               ·exact absurd H (by simp)
            ·skip
             have c73b0 : ((bt a0 x3_2) == 46) = false := beq_eq_false_iff_ne.mpr c73
             have c73b1 : ((bt a0 x3_2) != 46) = true := bne_iff_ne.mpr c73
             obtain rfl := Option.some.inj H
             have p7 : 0 ≤ (x3_2 : Int) := of_decide_eq_true (by first | (with_reducible assumption) | assumption)
             have q7 : x3_2 < (a0.size : Int) := of_decide_eq_true (by first | (with_reducible assumption) | assumption)
             have hx7 := bt_at a0 x3_2
             replace p7 := eq_true p7
             replace q7 := eq_true q7
             have p57 : 0 ≤ (x3_2 : Int) := of_decide_eq_true (by first | (with_reducible assumption) | assumption)
             have q57 : x3_2 < (a0.size : Int) := of_decide_eq_true (by first | (with_reducible assumption) | assumption)
             have hx57 := bt_at a0 x3_2
             replace p57 := eq_true p57
             replace q57 := eq_true q57
             have p59 : 0 ≤ (x3_2 : Int) := of_decide_eq_true (by first | (with_reducible assumption) | assumption)
             have q59 : x3_2 < (a0.size : Int) := of_decide_eq_true (by first | (with_reducible assumption) | assumption)
             have hx59 := bt_at a0 x3_2
             replace p59 := eq_true p59
             replace q59 := eq_true q59
             have p61 : 0 ≤ (x3_2 : Int) := of_decide_eq_true (by first | (with_reducible assumption) | assumption)
             have q61 : x3_2 < (a0.size : Int) := of_decide_eq_true (by first | (with_reducible assumption) | assumption)
             have hx61 := bt_at a0 x3_2
             replace p61 := eq_true p61
             replace q61 := eq_true q61
             have p72 : 0 ≤ (x3_2 : Int) := of_decide_eq_true (by first | (with_reducible assumption) | assumption)
             have q72 : x3_2 < (a0.size : Int) := of_decide_eq_true (by first | (with_reducible assumption) | assumption)
             have hx72 := bt_at a0 x3_2
             replace p72 := eq_true p72
             replace q72 := eq_true q72
             go_wp2
             go_ret
             exact ⟨by first | rfl | (simp [errW_none, errW_some] <;> rfl) | (simp [*, errW_none, errW_some] <;> rfl), by repeat (first | (with_reducible first | exact HB.out | apply below_alloc | apply pw_below_drewN | apply below_drew1) | exact HB.out)⟩
         ·skip
          have c58b0 : decide (48 ≤ (bt a0 x3_2)) = false := decide_eq_false c58
          clear c58
          replace H := itO H
          rcases H with ⟨c83, H⟩ | ⟨c83, H⟩
          ·skip
           have c83b0 : ((bt a0 x3_2) == 45) = true := beq_iff_eq.mpr c83
           have c83b1 : ((bt a0 x3_2) != 45) = false := bne_eq_false_iff_eq.mpr c83
           clear c83
           replace H := itO H
           rcases H with ⟨c84, H⟩ | ⟨c84, H⟩
           ·skip
            have c84b0 : (x3_2 == 0) = true := beq_iff_eq.mpr c84
            have c84b1 : (x3_2 != 0) = false := bne_eq_false_iff_eq.mpr c84
            clear c84
            obtain rfl := Option.some.inj H
            have p7 : 0 ≤ (x3_2 : Int) := of_decide_eq_true (by first | (with_reducible assumption) | assumption)
            have q7 : x3_2 < (a0.size : Int) := of_decide_eq_true (by first | (with_reducible assumption) | assumption)
            have hx7 := bt_at a0 x3_2
            replace p7 := eq_true p7
            replace q7 := eq_true q7
            have p57 : 0 ≤ (x3_2 : Int) := of_decide_eq_true (by first | (with_reducible assumption) | assumption)
            have q57 : x3_2 < (a0.size : Int) := of_decide_eq_true (by first | (with_reducible assumption) | assumption)
            have hx57 := bt_at a0 x3_2
            replace p57 := eq_true p57
            replace q57 := eq_true q57
            have p82 : 0 ≤ (x3_2 : Int) := of_decide_eq_true (by first | (with_reducible assumption) | assumption)
            have q82 : x3_2 < (a0.size : Int) := of_decide_eq_true (by first | (with_reducible assumption) | assumption)
            have hx82 := bt_at a0 x3_2
            replace p82 := eq_true p82
            replace q82 := eq_true q82
            go_wp2
            go_ret
            exact ⟨by first | rfl | (simp [errW_none, errW_some] <;> rfl) | (simp [*, errW_none, errW_some] <;> rfl), by repeat (first | (with_reducible first | exact HB.out | apply below_alloc | apply pw_below_drewN | apply below_drew1) | exact HB.out)⟩
           ·skip
            have c84b0 : (x3_2 == 0) = false := beq_eq_false_iff_ne.mpr c84
            have c84b1 : (x3_2 != 0) = true := bne_iff_ne.mpr c84
            replace H := itO H
            rcases H with ⟨c85, H⟩ | ⟨c85, H⟩
            ·skip
             have c85b0 : (x3_2 == (wrap64 ((a0.size : Int) - 1))) = true := beq_iff_eq.mpr c85
             have c85b1 : (x3_2 != (wrap64 ((a0.size : Int) - 1))) = false := bne_eq_false_iff_eq.mpr c85
             clear c85
             obtain rfl := Option.some.inj H
             have p7 : 0 ≤ (x3_2 : Int) := of_decide_eq_true (by first | (with_reducible assumption) | assumption)
             have q7 : x3_2 < (a0.size : Int) := of_decide_eq_true (by first | (with_reducible assumption) | assumption)
             have hx7 := bt_at a0 x3_2
             replace p7 := eq_true p7
             replace q7 := eq_true q7
             have p57 : 0 ≤ (x3_2 : Int) := of_decide_eq_true (by first | (with_reducible assumption) | assumption)
             have q57 : x3_2 < (a0.size : Int) := of_decide_eq_true (by first | (with_reducible assumption) | assumption)
             have hx57 := bt_at a0 x3_2
             replace p57 := eq_true p57
             replace q57 := eq_true q57
             have p82 : 0 ≤ (x3_2 : Int) := of_decide_eq_true (by first | (with_reducible assumption) | assumption)
             have q82 : x3_2 < (a0.size : Int) := of_decide_eq_true (by first | (with_reducible assumption) | assumption)
             have hx82 := bt_at a0 x3_2
             replace p82 := eq_true p82
             replace q82 := eq_true q82
             go_wp2
             go_ret
             exact ⟨by first | rfl | (simp [errW_none, errW_some] <;> rfl) | (simp [*, errW_none, errW_some] <;> rfl), by repeat (first | (with_reducible first | exact HB.out | apply below_alloc | apply pw_below_drewN | apply below_drew1) | exact HB.out)⟩
            ·skip
             have c85b0 : (x3_2 == (wrap64 ((a0.size : Int) - 1))) = false := beq_eq_false_iff_ne.mpr c85
             have c85b1 : (x3_2 != (wrap64 ((a0.size : Int) - 1))) = true := bne_iff_ne.mpr c85
             replace H := itO H
             rcases H with ⟨c87, H⟩ | ⟨c87, H⟩
             ·skip
              have c87b0 : ((bt a0 x3_2) == 46) = true := beq_iff_eq.mpr c87
              have c87b1 : ((bt a0 x3_2) != 46) = false := bne_eq_false_iff_eq.mpr c87
              clear c87
              obtain ⟨ji88, hji88⟩ : ∃ j_ : Int, (wrap64 (x3_2 - 1)) = j_ := ⟨_, rfl⟩
              first | rw [hji88] at H | simp only [hji88] at H
              have hji88w : (IntKind.i64.wrap (x3_2 - 1)) = ji88 := (i64_w _).trans hji88
              replace H := itO H
              rcases H with ⟨c89, H⟩ | ⟨c89, H⟩
              ·skip
               have c89b0 : decide (0 ≤ (ji88)) = true := decide_eq_true c89
               clear c89
               replace H := itO H
               rcases H with ⟨c90, H⟩ | ⟨c90, H⟩
               ·skip
                have c90b0 : decide ((ji88) < (a0.size : Int)) = true := decide_eq_true c90
                clear c90
                replace H := itO H
                rcases H with ⟨c92, H⟩ | ⟨c92, H⟩
                ·skip
                 have c92b0 : ((bt a0 (ji88)) == 46) = true := beq_iff_eq.mpr c92
                 have c92b1 : ((bt a0 (ji88)) != 46) = false := bne_eq_false_iff_eq.mpr c92
                 clear c92
                 obtain rfl := Option.some.inj H
                 have p7 : 0 ≤ (x3_2 : Int) := of_decide_eq_true (by first | (with_reducible assumption) | assumption)
                 have q7 : x3_2 < (a0.size : Int) := of_decide_eq_true (by first | (with_reducible assumption) | assumption)
                 have hx7 := bt_at a0 x3_2
                 replace p7 := eq_true p7
                 replace q7 := eq_true q7
                 have p57 : 0 ≤ (x3_2 : Int) := of_decide_eq_true (by first | (with_reducible assumption) | assumption)
                 have q57 : x3_2 < (a0.size : Int) := of_decide_eq_true (by first | (with_reducible assumption) | assumption)
                 have hx57 := bt_at a0 x3_2
                 replace p57 := eq_true p57
                 replace q57 := eq_true q57
                 have p82 : 0 ≤ (x3_2 : Int) := of_decide_eq_true (by first | (with_reducible assumption) | assumption)
                 have q82 : x3_2 < (a0.size : Int) := of_decide_eq_true (by first | (with_reducible assumption) | assumption)
                 have hx82 := bt_at a0 x3_2
                 replace p82 := eq_true p82
                 replace q82 := eq_true q82
                 have p86 : 0 ≤ (x3_2 : Int) := of_decide_eq_true (by first | (with_reducible assumption) | assumption)
                 have q86 : x3_2 < (a0.size : Int) := of_decide_eq_true (by first | (with_reducible assumption) | assumption)
                 have hx86 := bt_at a0 x3_2
                 replace p86 := eq_true p86
                 replace q86 := eq_true q86
                 have p91 : 0 ≤ ((ji88) : Int) := of_decide_eq_true (by first | (with_reducible assumption) | assumption)
                 have q91 : (ji88) < (a0.size : Int) := of_decide_eq_true (by first | (with_reducible assumption) | assumption)
                 have hx91 := bt_at a0 (ji88)
                 replace p91 := eq_true p91
                 replace q91 := eq_true q91
                 go_wp2
                 go_ret
                 exact ⟨by first | rfl | (simp [errW_none, errW_some] <;> rfl) | (simp only [← hji88]; first | rfl | (simp [errW_none, errW_some] <;> rfl)) | (simp [*, errW_none, errW_some] <;> rfl), by repeat (first | (with_reducible first | exact HB.out | apply below_alloc | apply pw_below_drewN | apply below_drew1) | exact HB.out)⟩
                ·skip
                 have c92b0 : ((bt a0 (ji88)) == 46) = false := beq_eq_false_iff_ne.mpr c92
                 have c92b1 : ((bt a0 (ji88)) != 46) = true := bne_iff_ne.mpr c92
                 have H' := Aside0.mk H
                 clear H
                 have p7 : 0 ≤ (x3_2 : Int) := of_decide_eq_true (by first | (with_reducible assumption) | assumption)
                 have q7 : x3_2 < (a0.size : Int) := of_decide_eq_true (by first | (with_reducible assumption) | assumption)
                 have hx7 := bt_at a0 x3_2
                 replace p7 := eq_true p7
                 replace q7 := eq_true q7
                 have p57 : 0 ≤ (x3_2 : Int) := of_decide_eq_true (by first | (with_reducible assumption) | assumption)
                 have q57 : x3_2 < (a0.size : Int) := of_decide_eq_true (by first | (with_reducible assumption) | assumption)
                 have hx57 := bt_at a0 x3_2
                 replace p57 := eq_true p57
                 replace q57 := eq_true q57
                 have p82 : 0 ≤ (x3_2 : Int) := of_decide_eq_true (by first | (with_reducible assumption) | assumption)
                 have q82 : x3_2 < (a0.size : Int) := of_decide_eq_true (by first | (with_reducible assumption) | assumption)
                 have hx82 := bt_at a0 x3_2
                 replace p82 := eq_true p82
                 replace q82 := eq_true q82
                 have p86 : 0 ≤ (x3_2 : Int) := of_decide_eq_true (by first | (with_reducible assumption) | assumption)
                 have q86 : x3_2 < (a0.size : Int) := of_decide_eq_true (by first | (with_reducible assumption) | assumption)
                 have hx86 := bt_at a0 x3_2
                 replace p86 := eq_true p86
                 replace q86 := eq_true q86
                 have p91 : 0 ≤ ((ji88) : Int) := of_decide_eq_true (by first | (with_reducible assumption) | assumption)
                 have q91 : (ji88) < (a0.size : Int) := of_decide_eq_true (by first | (with_reducible assumption) | assumption)
                 have hx91 := bt_at a0 (ji88)
                 replace p91 := eq_true p91
                 replace q91 := eq_true q91
                 go_wp2
                 go_roundg k2
                 case measure => have := HJ1.out; have := HK2.out; omega
                 case rel => exact ⟨(wrap64 (x3_2 + 1)), (by first | rfl | (simp; done) | (simp [*]; done)), H', ⟨by have := HJ1.out; have := HK2.out; omega⟩, ⟨by repeat (first | (with_reducible first | exact HB.out | apply below_alloc | apply pw_below_drewN | apply below_drew1) | exact HB.out)⟩⟩
               ·exact absurd H (by simp)
              ·exact absurd H (by simp)
             ·skip
              have c87b0 : ((bt a0 x3_2) == 46) = false := beq_eq_false_iff_ne.mpr c87
              have c87b1 : ((bt a0 x3_2) != 46) = true := bne_iff_ne.mpr c87
              have H' := Aside0.mk H
              clear H
              have p7 : 0 ≤ (x3_2 : Int) := of_decide_eq_true (by first | (with_reducible assumption) | assumption)
              have q7 : x3_2 < (a0.size : Int) := of_decide_eq_true (by first | (with_reducible assumption) | assumption)
              have hx7 := bt_at a0 x3_2
              replace p7 := eq_true p7
              replace q7 := eq_true q7
              have p57 : 0 ≤ (x3_2 : Int) := of_decide_eq_true (by first | (with_reducible assumption) | assumption)
              have q57 : x3_2 < (a0.size : Int) := of_decide_eq_true (by first | (with_reducible assumption) | assumption)
              have hx57 := bt_at a0 x3_2
              replace p57 := eq_true p57
              replace q57 := eq_true q57
              have p82 : 0 ≤ (x3_2 : Int) := of_decide_eq_true (by first | (with_reducible assumption) | assumption)
              have q82 : x3_2 < (a0.size : Int) := of_decide_eq_true (by first | (with_reducible assumption) | assumption)
              have hx82 := bt_at a0 x3_2
              replace p82 := eq_true p82
              replace q82 := eq_true q82
              have p86 : 0 ≤ (x3_2 : Int) := of_decide_eq_true (by first | (with_reducible assumption) | assumption)
              have q86 : x3_2 < (a0.size : Int) := of_decide_eq_true (by first | (with_reducible assumption) | assumption)
              have hx86 := bt_at a0 x3_2
              replace p86 := eq_true p86
              replace q86 := eq_true q86
              go_wp2
              go_roundg k2
              case measure => have := HJ1.out; have := HK2.out; omega
              case rel => exact ⟨(wrap64 (x3_2 + 1)), (by first | rfl | (simp; done) | (simp [*]; done)), H', ⟨by have := HJ1.out; have := HK2.out; omega⟩, ⟨by repeat (first | (with_reducible first | exact HB.out | apply below_alloc | apply pw_below_drewN | apply below_drew1) | exact HB.out)⟩⟩
          ·skip
           have c83b0 : ((bt a0 x3_2) == 45) = false := beq_eq_false_iff_ne.mpr c83
           have c83b1 : ((bt a0 x3_2) != 45) = true := bne_iff_ne.mpr c83
           replace H := itO H
           rcases H with ⟨c94, H⟩ | ⟨c94, H⟩
           ·skip
            have c94b0 : ((bt a0 x3_2) == 46) = true := beq_iff_eq.mpr c94
            have c94b1 : ((bt a0 x3_2) != 46) = false := bne_eq_false_iff_eq.mpr c94
            clear c94
            replace H := itO H
            rcases H with ⟨c95, H⟩ | ⟨c95, H⟩
            ·skip
             have c95b0 : (x3_2 == 0) = true := beq_iff_eq.mpr c95
             have c95b1 : (x3_2 != 0) = false := bne_eq_false_iff_eq.mpr c95
             clear c95
             obtain rfl := Option.some.inj H
             have p7 : 0 ≤ (x3_2 : Int) := of_decide_eq_true (by first | (with_reducible assumption) | assumption)
             have q7 : x3_2 < (a0.size : Int) := of_decide_eq_true (by first | (with_reducible assumption) | assumption)
             have hx7 := bt_at a0 x3_2
             replace p7 := eq_true p7
             replace q7 := eq_true q7
             have p57 : 0 ≤ (x3_2 : Int) := of_decide_eq_true (by first | (with_reducible assumption) | assumption)
             have q57 : x3_2 < (a0.size : Int) := of_decide_eq_true (by first | (with_reducible assumption) | assumption)
             have hx57 := bt_at a0 x3_2
             replace p57 := eq_true p57
             replace q57 := eq_true q57
             have p82 : 0 ≤ (x3_2 : Int) := of_decide_eq_true (by first | (with_reducible assumption) | assumption)
             have q82 : x3_2 < (a0.size : Int) := of_decide_eq_true (by first | (with_reducible assumption) | assumption)
             have hx82 := bt_at a0 x3_2
             replace p82 := eq_true p82
             replace q82 := eq_true q82
             have p93 : 0 ≤ (x3_2 : Int) := of_decide_eq_true (by first | (with_reducible assumption) | assumption)
             have q93 : x3_2 < (a0.size : Int) := of_decide_eq_true (by first | (with_reducible assumption) | assumption)
             have hx93 := bt_at a0 x3_2
             replace p93 := eq_true p93
             replace q93 := eq_true q93
             go_wp2
             go_ret
             exact ⟨by first | rfl | (simp [errW_none, errW_some] <;> rfl) | (simp [*, errW_none, errW_some] <;> rfl), by repeat (first | (with_reducible first | exact HB.out | apply below_alloc | apply pw_below_drewN | apply below_drew1) | exact HB.out)⟩
            ·skip
             have c95b0 : (x3_2 == 0) = false := beq_eq_false_iff_ne.mpr c95
             have c95b1 : (x3_2 != 0) = true := bne_iff_ne.mpr c95
             replace H := itO H
             rcases H with ⟨c96, H⟩ | ⟨c96, H⟩
             ·skip
              have c96b0 : (x3_2 == (wrap64 ((a0.size : Int) - 1))) = true := beq_iff_eq.mpr c96
              have c96b1 : (x3_2 != (wrap64 ((a0.size : Int) - 1))) = false := bne_eq_false_iff_eq.mpr c96
              clear c96
              obtain rfl := Option.some.inj H
              have p7 : 0 ≤ (x3_2 : Int) := of_decide_eq_true (by first | (with_reducible assumption) | assumption)
              have q7 : x3_2 < (a0.size : Int) := of_decide_eq_true (by first | (with_reducible assumption) | assumption)
              have hx7 := bt_at a0 x3_2
              replace p7 := eq_true p7
              replace q7 := eq_true q7
              have p57 : 0 ≤ (x3_2 : Int) := of_decide_eq_true (by first | (with_reducible assumption) | assumption)
              have q57 : x3_2 < (a0.size : Int) := of_decide_eq_true (by first | (with_reducible assumption) | assumption)
              have hx57 := bt_at a0 x3_2
              replace p57 := eq_true p57
              replace q57 := eq_true q57
              have p82 : 0 ≤ (x3_2 : Int) := of_decide_eq_true (by first | (with_reducible assumption) | assumption)
              have q82 : x3_2 < (a0.size : Int) := of_decide_eq_true (by first | (with_reducible assumption) | assumption)
              have hx82 := bt_at a0 x3_2
              replace p82 := eq_true p82
              replace q82 := eq_true q82
              have p93 : 0 ≤ (x3_2 : Int) := of_decide_eq_true (by first | (with_reducible assumption) | assumption)
              have q93 : x3_2 < (a0.size : Int) := of_decide_eq_true (by first | (with_reducible assumption) | assumption)
              have hx93 := bt_at a0 x3_2
              replace p93 := eq_true p93
              replace q93 := eq_true q93
              go_wp2
              go_ret
              exact ⟨by first | rfl | (simp [errW_none, errW_some] <;> rfl) | (simp [*, errW_none, errW_some] <;> rfl), by repeat (first | (with_reducible first | exact HB.out | apply below_alloc | apply pw_below_drewN | apply below_drew1) | exact HB.out)⟩
             ·skip
              have c96b0 : (x3_2 == (wrap64 ((a0.size : Int) - 1))) = false := beq_eq_false_iff_ne.mpr c96
              have c96b1 : (x3_2 != (wrap64 ((a0.size : Int) - 1))) = true := bne_iff_ne.mpr c96
              obtain ⟨ji98, hji98⟩ : ∃ j_ : Int, (wrap64 (x3_2 - 1)) = j_ := ⟨_, rfl⟩
              first | rw [hji98] at H | simp only [hji98] at H
              have hji98w : (IntKind.i64.wrap (x3_2 - 1)) = ji98 := (i64_w _).trans hji98
              replace H := itO H
              rcases H with ⟨c99, H⟩ | ⟨c99, H⟩
              ·skip
               have c99b0 : decide (0 ≤ (ji98)) = true := decide_eq_true c99
               clear c99
               replace H := itO H
               rcases H with ⟨c100, H⟩ | ⟨c100, H⟩
               ·skip
                have c100b0 : decide ((ji98) < (a0.size : Int)) = true := decide_eq_true c100
                clear c100
                replace H := itO H
                rcases H with ⟨c102, H⟩ | ⟨c102, H⟩
                ·skip
                 have c102b0 : ((bt a0 (ji98)) == 46) = true := beq_iff_eq.mpr c102
                 have c102b1 : ((bt a0 (ji98)) != 46) = false := bne_eq_false_iff_eq.mpr c102
                 clear c102
                 obtain rfl := Option.some.inj H
                 have p7 : 0 ≤ (x3_2 : Int) := of_decide_eq_true (by first | (with_reducible assumption) | assumption)
                 have q7 : x3_2 < (a0.size : Int) := of_decide_eq_true (by first | (with_reducible assumption) | assumption)
                 have hx7 := bt_at a0 x3_2
                 replace p7 := eq_true p7
                 replace q7 := eq_true q7
                 have p57 : 0 ≤ (x3_2 : Int) := of_decide_eq_true (by first | (with_reducible assumption) | assumption)
                 have q57 : x3_2 < (a0.size : Int) := of_decide_eq_true (by first | (with_reducible assumption) | assumption)
                 have hx57 := bt_at a0 x3_2
                 replace p57 := eq_true p57
                 replace q57 := eq_true q57
                 have p82 : 0 ≤ (x3_2 : Int) := of_decide_eq_true (by first | (with_reducible assumption) | assumption)
                 have q82 : x3_2 < (a0.size : Int) := of_decide_eq_true (by first | (with_reducible assumption) | assumption)
                 have hx82 := bt_at a0 x3_2
                 replace p82 := eq_true p82
                 replace q82 := eq_true q82
                 have p93 : 0 ≤ (x3_2 : Int) := of_decide_eq_true (by first | (with_reducible assumption) | assumption)
                 have q93 : x3_2 < (a0.size : Int) := of_decide_eq_true (by first | (with_reducible assumption) | assumption)
                 have hx93 := bt_at a0 x3_2
                 replace p93 := eq_true p93
                 replace q93 := eq_true q93
                 have p97 : 0 ≤ (x3_2 : Int) := of_decide_eq_true (by first | (with_reducible assumption) | assumption)
                 have q97 : x3_2 < (a0.size : Int) := of_decide_eq_true (by first | (with_reducible assumption) | assumption)
                 have hx97 := bt_at a0 x3_2
                 replace p97 := eq_true p97
                 replace q97 := eq_true q97
                 have p101 : 0 ≤ ((ji98) : Int) := of_decide_eq_true (by first | (with_reducible assumption) | assumption)
                 have q101 : (ji98) < (a0.size : Int) := of_decide_eq_true (by first | (with_reducible assumption) | assumption)
                 have hx101 := bt_at a0 (ji98)
                 replace p101 := eq_true p101
                 replace q101 := eq_true q101
                 go_wp2
                 go_ret
                 exact ⟨by first | rfl | (simp [errW_none, errW_some] <;> rfl) | (simp only [← hji98]; first | rfl | (simp [errW_none, errW_some] <;> rfl)) | (simp [*, errW_none, errW_some] <;> rfl), by repeat (first | (with_reducible first | exact HB.out | apply below_alloc | apply pw_below_drewN | apply below_drew1) | exact HB.out)⟩
                ·skip
                 have c102b0 : ((bt a0 (ji98)) == 46) = false := beq_eq_false_iff_ne.mpr c102
                 have c102b1 : ((bt a0 (ji98)) != 46) = true := bne_iff_ne.mpr c102
                 have H' := Aside0.mk H
                 clear H
                 have p7 : 0 ≤ (x3_2 : Int) := of_decide_eq_true (by first | (with_reducible assumption) | assumption)
                 have q7 : x3_2 < (a0.size : Int) := of_decide_eq_true (by first | (with_reducible assumption) | assumption)
                 have hx7 := bt_at a0 x3_2
                 replace p7 := eq_true p7
                 replace q7 := eq_true q7
                 have p57 : 0 ≤ (x3_2 : Int) := of_decide_eq_true (by first | (with_reducible assumption) | assumption)
                 have q57 : x3_2 < (a0.size : Int) := of_decide_eq_true (by first | (with_reducible assumption) | assumption)
                 have hx57 := bt_at a0 x3_2
                 replace p57 := eq_true p57
                 replace q57 := eq_true q57
                 have p82 : 0 ≤ (x3_2 : Int) := of_decide_eq_true (by first | (with_reducible assumption) | assumption)
                 have q82 : x3_2 < (a0.size : Int) := of_decide_eq_true (by first | (with_reducible assumption) | assumption)
                 have hx82 := bt_at a0 x3_2
                 replace p82 := eq_true p82
                 replace q82 := eq_true q82
                 have p93 : 0 ≤ (x3_2 : Int) := of_decide_eq_true (by first | (with_reducible assumption) | assumption)
                 have q93 : x3_2 < (a0.size : Int) := of_decide_eq_true (by first | (with_reducible assumption) | assumption)
                 have hx93 := bt_at a0 x3_2
                 replace p93 := eq_true p93
                 replace q93 := eq_true q93
                 have p97 : 0 ≤ (x3_2 : Int) := of_decide_eq_true (by first | (with_reducible assumption) | assumption)
                 have q97 : x3_2 < (a0.size : Int) := of_decide_eq_true (by first | (with_reducible assumption) | assumption)
                 have hx97 := bt_at a0 x3_2
                 replace p97 := eq_true p97
                 replace q97 := eq_true q97
                 have p101 : 0 ≤ ((ji98) : Int) := of_decide_eq_true (by first | (with_reducible assumption) | assumption)
                 have q101 : (ji98) < (a0.size : Int) := of_decide_eq_true (by first | (with_reducible assumption) | assumption)
                 have hx101 := bt_at a0 (ji98)
                 replace p101 := eq_true p101
                 replace q101 := eq_true q101
                 go_wp2
                 go_roundg k2
                 case measure => have := HJ1.out; have := HK2.out; omega
                 case rel => exact ⟨(wrap64 (x3_2 + 1)), (by first | rfl | (simp; done) | (simp [*]; done)), H', ⟨by have := HJ1.out; have := HK2.out; omega⟩, ⟨by repeat (first | (with_reducible first | exact HB.out | apply below_alloc | apply pw_below_drewN | apply below_drew1) | exact HB.out)⟩⟩
               ·exact absurd H (by simp)
              ·exact absurd H (by simp)
           ·skip
            have c94b0 : ((bt a0 x3_2) == 46) = false := beq_eq_false_iff_ne.mpr c94
            have c94b1 : ((bt a0 x3_2) != 46) = true := bne_iff_ne.mpr c94
            obtain rfl := Option.some.inj H
            have p7 : 0 ≤ (x3_2 : Int) := of_decide_eq_true (by first | (with_reducible assumption) | assumption)
            have q7 : x3_2 < (a0.size : Int) := of_decide_eq_true (by first | (with_reducible assumption) | assumption)
            have hx7 := bt_at a0 x3_2
            replace p7 := eq_true p7
            replace q7 := eq_true q7
            have p57 : 0 ≤ (x3_2 : Int) := of_decide_eq_true (by first | (with_reducible assumption) | assumption)
            have q57 : x3_2 < (a0.size : Int) := of_decide_eq_true (by first | (with_reducible assumption) | assumption)
            have hx57 := bt_at a0 x3_2
            replace p57 := eq_true p57
            replace q57 := eq_true q57
            have p82 : 0 ≤ (x3_2 : Int) := of_decide_eq_true (by first | (with_reducible assumption) | assumption)
            have q82 : x3_2 < (a0.size : Int) := of_decide_eq_true (by first | (with_reducible assumption) | assumption)
            have hx82 := bt_at a0 x3_2
            replace p82 := eq_true p82
            replace q82 := eq_true q82
            have p93 : 0 ≤ (x3_2 : Int) := of_decide_eq_true (by first | (with_reducible assumption) | assumption)
            have q93 : x3_2 < (a0.size : Int) := of_decide_eq_true (by first | (with_reducible assumption) | assumption)
            have hx93 := bt_at a0 x3_2
            replace p93 := eq_true p93
            replace q93 := eq_true q93
            go_wp2
            go_ret
            exact ⟨by first | rfl | (simp [errW_none, errW_some] <;> rfl) | (simp [*, errW_none, errW_some] <;> rfl), by repeat (first | (with_reducible first | exact HB.out | apply below_alloc | apply pw_below_drewN | apply below_drew1) | exact HB.out)⟩
       ·exact absurd H (by simp)
      ·skip
       have c5b0 : decide (x3_2 < (a0.size : Int)) = false := decide_eq_false c5
       clear c5
       replace H := bndO H
       obtain ⟨t275, A1030, H⟩ := H
       have A103 := Aside0.mk A1030
       clear A1030
       replace H := itO H
       rcases H with ⟨c104, H⟩ | ⟨c104, H⟩
       ·skip
        have c104b0 : ((t275.length : Int) == 4) = true := beq_iff_eq.mpr c104
        have c104b1 : ((t275.length : Int) != 4) = false := bne_eq_false_iff_eq.mpr c104
        clear c104
        replace H := itO H
        rcases H with ⟨c105, H⟩ | ⟨c105, H⟩
        ·skip
         have c105b0 : decide (0 < (t275.length : Int)) = true := decide_eq_true c105
         have c105b1 : decide (0 < t275.length) = true := decide_eq_true (by omega)
         clear c105
         replace H := bndO H
         obtain ⟨t279, A1060, H⟩ := H
         have A106 := Aside0.mk A1060
         clear A1060
         by_cases c107 : t279 = true
         ·subst c107
          replace H := itT H
          replace H := itO H
          rcases H with ⟨c108, H⟩ | ⟨c108, H⟩
          ·skip
           have c108b0 : decide (1 < (t275.length : Int)) = true := decide_eq_true c108
           have c108b1 : decide (1 < t275.length) = true := decide_eq_true (by omega)
           clear c108
           replace H := bndO H
           obtain ⟨t281, A1090, H⟩ := H
           have A109 := Aside0.mk A1090
           clear A1090
           by_cases c110 : t281 = true
           ·subst c110
            replace H := itT H
            replace H := itO H
            rcases H with ⟨c111, H⟩ | ⟨c111, H⟩
            ·skip
             have c111b0 : decide (2 < (t275.length : Int)) = true := decide_eq_true c111
             have c111b1 : decide (2 < t275.length) = true := decide_eq_true (by omega)
             clear c111
             replace H := bndO H
             obtain ⟨t283, A1120, H⟩ := H
             have A112 := Aside0.mk A1120
             clear A1120
             by_cases c113 : t283 = true
             ·subst c113
              replace H := itT H
              replace H := itO H
              rcases H with ⟨c114, H⟩ | ⟨c114, H⟩
              ·skip
               have c114b0 : decide (3 < (t275.length : Int)) = true := decide_eq_true c114
               have c114b1 : decide (3 < t275.length) = true := decide_eq_true (by omega)
               clear c114
               replace H := bndO H
               obtain ⟨t285, A1150, H⟩ := H
               have A115 := Aside0.mk A1150
               clear A1150
               obtain rfl := Option.some.inj H
               go_wp2_with (first | ((with_reducible refine gate_callee (f := 104) rfl ?_); refine goesL_ (some 81) rfl rfl Tryd.func104 (by kernel_rfl) rfl #[.string a0, .int .u8 46] rfl (by (try simp only [List.map_toArray, List.map_cons, List.map_nil]); first | done | rfl | (simp only [List.length_drop, List.length_take]; rfl)) ?_; (with_reducible refine (stowageref3_Split.calls k2 a0 46 t275 _ A103.out).mono ?_); rintro e w116 ⟨v276, rfl, ho0, hb⟩; refine ⟨_, rfl, ?_⟩; have n0_ := Aside0.mk (Kd.R_lower ho0 (below_size (by repeat (first | (with_reducible first | exact HB.out | apply below_alloc | apply pw_below_drewN | apply below_drew1) | exact HB.out)))); have n1_ := Aside0.mk (below_step (by repeat (first | (with_reducible first | exact HB.out | apply below_alloc | apply pw_below_drewN | apply below_drew1) | exact HB.out)) hb); clear HB; have HO277 := n0_; have HB := n1_; clear n0_ n1_; (try clear hb); (try clear hb2); (try clear hk); (try clear hi); (try clear ho0); obtain ⟨Ao117, co117, eo117⟩ := Kd.R_slice HO277.out; subst eo117; have p278 : 0 ≤ (0 : Int) := (by omega); have q278 : 0 < (t275.length : Int) := of_decide_eq_true (by first | (with_reducible assumption) | assumption); obtain ⟨ad278, e278, hx278_0⟩ := Kd.at_string (Kd.R_reads' HO277.out).2.2 0 p278 q278; cases e278; have qi278 : (0 < t275.length) = True := eq_true (by omega); (try rw [show ((0 : Int)).toNat = 0 from rfl] at hx278_0); (try rw [Addr.add_zero'] at hx278_0); replace p278 := eq_true p278; replace q278 := eq_true q278) | (go_at_call 105; (with_reducible refine (stowageref3_digits.calls k2 (rdOf ByteArray.empty t275 0) true _ A106.out).mono ?_); rintro e w' ⟨rfl, ⟨nd, rfl⟩⟩; have p280 : 0 ≤ (1 : Int) := (by omega); have q280 : 1 < (t275.length : Int) := of_decide_eq_true (by first | (with_reducible assumption) | assumption); obtain ⟨ad280, e280, hx280_0⟩ := Kd.at_string (Kd.R_reads' HO277.out).2.2 1 p280 q280; obtain rfl : ad278 = ad280 := (by injection e280); (try simp only [show (1 : Int).toNat = 1 from rfl, Nat.reduceMul, Nat.reduceEqDiff, Go.Addr.add, ↓reduceIte] at hx280_0); have qi280 : (1 < t275.length) = True := eq_true (by omega); (try rw [show ((1 : Int)).toNat = 1 from rfl] at hx280_0); replace p280 := eq_true p280; replace q280 := eq_true q280) | (go_at_call 105; (with_reducible refine (stowageref3_digits.calls k2 (rdOf ByteArray.empty t275 1) true _ A109.out).mono ?_); rintro e w' ⟨rfl, ⟨nd, rfl⟩⟩; have p282 : 0 ≤ (2 : Int) := (by omega); have q282 : 2 < (t275.length : Int) := of_decide_eq_true (by first | (with_reducible assumption) | assumption); obtain ⟨ad282, e282, hx282_0⟩ := Kd.at_string (Kd.R_reads' HO277.out).2.2 2 p282 q282; obtain rfl : ad278 = ad282 := (by injection e282); (try simp only [show (2 : Int).toNat = 2 from rfl, Nat.reduceMul, Nat.reduceEqDiff, Go.Addr.add, ↓reduceIte] at hx282_0); have qi282 : (2 < t275.length) = True := eq_true (by omega); (try rw [show ((2 : Int)).toNat = 2 from rfl] at hx282_0); replace p282 := eq_true p282; replace q282 := eq_true q282) | (go_at_call 105; (with_reducible refine (stowageref3_digits.calls k2 (rdOf ByteArray.empty t275 2) true _ A112.out).mono ?_); rintro e w' ⟨rfl, ⟨nd, rfl⟩⟩; have p284 : 0 ≤ (3 : Int) := (by omega); have q284 : 3 < (t275.length : Int) := of_decide_eq_true (by first | (with_reducible assumption) | assumption); obtain ⟨ad284, e284, hx284_0⟩ := Kd.at_string (Kd.R_reads' HO277.out).2.2 3 p284 q284; obtain rfl : ad278 = ad284 := (by injection e284); (try simp only [show (3 : Int).toNat = 3 from rfl, Nat.reduceMul, Nat.reduceEqDiff, Go.Addr.add, ↓reduceIte] at hx284_0); have qi284 : (3 < t275.length) = True := eq_true (by omega); (try rw [show ((3 : Int)).toNat = 3 from rfl] at hx284_0); replace p284 := eq_true p284; replace q284 := eq_true q284) | (go_at_call 105; (with_reducible refine (stowageref3_digits.calls k2 (rdOf ByteArray.empty t275 3) t285 _ A115.out).mono ?_); rintro e w' ⟨rfl, ⟨nd, rfl⟩⟩))
               go_ret
               exact ⟨by first | rfl | (simp [errW_none, errW_some] <;> rfl) | (simp [*, errW_none, errW_some] <;> rfl), by repeat (first | (with_reducible first | exact HB.out | apply below_alloc | apply pw_below_drewN | apply below_drew1) | exact HB.out)⟩
              ·exact absurd H (by simp)
             ·replace c113 := Bool.eq_false_iff.mpr c113
              subst c113
              replace H := itF H
              obtain rfl := Option.some.inj H
              go_wp2_with (first | ((with_reducible refine gate_callee (f := 104) rfl ?_); refine goesL_ (some 81) rfl rfl Tryd.func104 (by kernel_rfl) rfl #[.string a0, .int .u8 46] rfl (by (try simp only [List.map_toArray, List.map_cons, List.map_nil]); first | done | rfl | (simp only [List.length_drop, List.length_take]; rfl)) ?_; (with_reducible refine (stowageref3_Split.calls k2 a0 46 t275 _ A103.out).mono ?_); rintro e w118 ⟨v276, rfl, ho0, hb⟩; refine ⟨_, rfl, ?_⟩; have n0_ := Aside0.mk (Kd.R_lower ho0 (below_size (by repeat (first | (with_reducible first | exact HB.out | apply below_alloc | apply pw_below_drewN | apply below_drew1) | exact HB.out)))); have n1_ := Aside0.mk (below_step (by repeat (first | (with_reducible first | exact HB.out | apply below_alloc | apply pw_below_drewN | apply below_drew1) | exact HB.out)) hb); clear HB; have HO277 := n0_; have HB := n1_; clear n0_ n1_; (try clear hb); (try clear hb2); (try clear hk); (try clear hi); (try clear ho0); obtain ⟨Ao119, co119, eo119⟩ := Kd.R_slice HO277.out; subst eo119; have p278 : 0 ≤ (0 : Int) := (by omega); have q278 : 0 < (t275.length : Int) := of_decide_eq_true (by first | (with_reducible assumption) | assumption); obtain ⟨ad278, e278, hx278_0⟩ := Kd.at_string (Kd.R_reads' HO277.out).2.2 0 p278 q278; cases e278; have qi278 : (0 < t275.length) = True := eq_true (by omega); (try rw [show ((0 : Int)).toNat = 0 from rfl] at hx278_0); (try rw [Addr.add_zero'] at hx278_0); replace p278 := eq_true p278; replace q278 := eq_true q278) | (go_at_call 105; (with_reducible refine (stowageref3_digits.calls k2 (rdOf ByteArray.empty t275 0) true _ A106.out).mono ?_); rintro e w' ⟨rfl, ⟨nd, rfl⟩⟩; have p280 : 0 ≤ (1 : Int) := (by omega); have q280 : 1 < (t275.length : Int) := of_decide_eq_true (by first | (with_reducible assumption) | assumption); obtain ⟨ad280, e280, hx280_0⟩ := Kd.at_string (Kd.R_reads' HO277.out).2.2 1 p280 q280; obtain rfl : ad278 = ad280 := (by injection e280); (try simp only [show (1 : Int).toNat = 1 from rfl, Nat.reduceMul, Nat.reduceEqDiff, Go.Addr.add, ↓reduceIte] at hx280_0); have qi280 : (1 < t275.length) = True := eq_true (by omega); (try rw [show ((1 : Int)).toNat = 1 from rfl] at hx280_0); replace p280 := eq_true p280; replace q280 := eq_true q280) | (go_at_call 105; (with_reducible refine (stowageref3_digits.calls k2 (rdOf ByteArray.empty t275 1) true _ A109.out).mono ?_); rintro e w' ⟨rfl, ⟨nd, rfl⟩⟩; have p282 : 0 ≤ (2 : Int) := (by omega); have q282 : 2 < (t275.length : Int) := of_decide_eq_true (by first | (with_reducible assumption) | assumption); obtain ⟨ad282, e282, hx282_0⟩ := Kd.at_string (Kd.R_reads' HO277.out).2.2 2 p282 q282; obtain rfl : ad278 = ad282 := (by injection e282); (try simp only [show (2 : Int).toNat = 2 from rfl, Nat.reduceMul, Nat.reduceEqDiff, Go.Addr.add, ↓reduceIte] at hx282_0); have qi282 : (2 < t275.length) = True := eq_true (by omega); (try rw [show ((2 : Int)).toNat = 2 from rfl] at hx282_0); replace p282 := eq_true p282; replace q282 := eq_true q282) | (go_at_call 105; (with_reducible refine (stowageref3_digits.calls k2 (rdOf ByteArray.empty t275 2) false _ A112.out).mono ?_); rintro e w' ⟨rfl, ⟨nd, rfl⟩⟩))
              go_ret
              exact ⟨by first | rfl | (simp [errW_none, errW_some] <;> rfl) | (simp [*, errW_none, errW_some] <;> rfl), by repeat (first | (with_reducible first | exact HB.out | apply below_alloc | apply pw_below_drewN | apply below_drew1) | exact HB.out)⟩
            ·exact absurd H (by simp)
           ·replace c110 := Bool.eq_false_iff.mpr c110
            subst c110
            replace H := itF H
            obtain rfl := Option.some.inj H
            go_wp2_with (first | ((with_reducible refine gate_callee (f := 104) rfl ?_); refine goesL_ (some 81) rfl rfl Tryd.func104 (by kernel_rfl) rfl #[.string a0, .int .u8 46] rfl (by (try simp only [List.map_toArray, List.map_cons, List.map_nil]); first | done | rfl | (simp only [List.length_drop, List.length_take]; rfl)) ?_; (with_reducible refine (stowageref3_Split.calls k2 a0 46 t275 _ A103.out).mono ?_); rintro e w120 ⟨v276, rfl, ho0, hb⟩; refine ⟨_, rfl, ?_⟩; have n0_ := Aside0.mk (Kd.R_lower ho0 (below_size (by repeat (first | (with_reducible first | exact HB.out | apply below_alloc | apply pw_below_drewN | apply below_drew1) | exact HB.out)))); have n1_ := Aside0.mk (below_step (by repeat (first | (with_reducible first | exact HB.out | apply below_alloc | apply pw_below_drewN | apply below_drew1) | exact HB.out)) hb); clear HB; have HO277 := n0_; have HB := n1_; clear n0_ n1_; (try clear hb); (try clear hb2); (try clear hk); (try clear hi); (try clear ho0); obtain ⟨Ao121, co121, eo121⟩ := Kd.R_slice HO277.out; subst eo121; have p278 : 0 ≤ (0 : Int) := (by omega); have q278 : 0 < (t275.length : Int) := of_decide_eq_true (by first | (with_reducible assumption) | assumption); obtain ⟨ad278, e278, hx278_0⟩ := Kd.at_string (Kd.R_reads' HO277.out).2.2 0 p278 q278; cases e278; have qi278 : (0 < t275.length) = True := eq_true (by omega); (try rw [show ((0 : Int)).toNat = 0 from rfl] at hx278_0); (try rw [Addr.add_zero'] at hx278_0); replace p278 := eq_true p278; replace q278 := eq_true q278) | (go_at_call 105; (with_reducible refine (stowageref3_digits.calls k2 (rdOf ByteArray.empty t275 0) true _ A106.out).mono ?_); rintro e w' ⟨rfl, ⟨nd, rfl⟩⟩; have p280 : 0 ≤ (1 : Int) := (by omega); have q280 : 1 < (t275.length : Int) := of_decide_eq_true (by first | (with_reducible assumption) | assumption); obtain ⟨ad280, e280, hx280_0⟩ := Kd.at_string (Kd.R_reads' HO277.out).2.2 1 p280 q280; obtain rfl : ad278 = ad280 := (by injection e280); (try simp only [show (1 : Int).toNat = 1 from rfl, Nat.reduceMul, Nat.reduceEqDiff, Go.Addr.add, ↓reduceIte] at hx280_0); have qi280 : (1 < t275.length) = True := eq_true (by omega); (try rw [show ((1 : Int)).toNat = 1 from rfl] at hx280_0); replace p280 := eq_true p280; replace q280 := eq_true q280) | (go_at_call 105; (with_reducible refine (stowageref3_digits.calls k2 (rdOf ByteArray.empty t275 1) false _ A109.out).mono ?_); rintro e w' ⟨rfl, ⟨nd, rfl⟩⟩))
            go_ret
            exact ⟨by first | rfl | (simp [errW_none, errW_some] <;> rfl) | (simp [*, errW_none, errW_some] <;> rfl), by repeat (first | (with_reducible first | exact HB.out | apply below_alloc | apply pw_below_drewN | apply below_drew1) | exact HB.out)⟩
          ·exact absurd H (by simp)
         ·replace c107 := Bool.eq_false_iff.mpr c107
          subst c107
          replace H := itF H
          obtain rfl := Option.some.inj H
          go_wp2_with (first | ((with_reducible refine gate_callee (f := 104) rfl ?_); refine goesL_ (some 81) rfl rfl Tryd.func104 (by kernel_rfl) rfl #[.string a0, .int .u8 46] rfl (by (try simp only [List.map_toArray, List.map_cons, List.map_nil]); first | done | rfl | (simp only [List.length_drop, List.length_take]; rfl)) ?_; (with_reducible refine (stowageref3_Split.calls k2 a0 46 t275 _ A103.out).mono ?_); rintro e w122 ⟨v276, rfl, ho0, hb⟩; refine ⟨_, rfl, ?_⟩; have n0_ := Aside0.mk (Kd.R_lower ho0 (below_size (by repeat (first | (with_reducible first | exact HB.out | apply below_alloc | apply pw_below_drewN | apply below_drew1) | exact HB.out)))); have n1_ := Aside0.mk (below_step (by repeat (first | (with_reducible first | exact HB.out | apply below_alloc | apply pw_below_drewN | apply below_drew1) | exact HB.out)) hb); clear HB; have HO277 := n0_; have HB := n1_; clear n0_ n1_; (try clear hb); (try clear hb2); (try clear hk); (try clear hi); (try clear ho0); obtain ⟨Ao123, co123, eo123⟩ := Kd.R_slice HO277.out; subst eo123; have p278 : 0 ≤ (0 : Int) := (by omega); have q278 : 0 < (t275.length : Int) := of_decide_eq_true (by first | (with_reducible assumption) | assumption); obtain ⟨ad278, e278, hx278_0⟩ := Kd.at_string (Kd.R_reads' HO277.out).2.2 0 p278 q278; cases e278; have qi278 : (0 < t275.length) = True := eq_true (by omega); (try rw [show ((0 : Int)).toNat = 0 from rfl] at hx278_0); (try rw [Addr.add_zero'] at hx278_0); replace p278 := eq_true p278; replace q278 := eq_true q278) | (go_at_call 105; (with_reducible refine (stowageref3_digits.calls k2 (rdOf ByteArray.empty t275 0) false _ A106.out).mono ?_); rintro e w' ⟨rfl, ⟨nd, rfl⟩⟩))
          go_ret
          exact ⟨by first | rfl | (simp [errW_none, errW_some] <;> rfl) | (simp [*, errW_none, errW_some] <;> rfl), by repeat (first | (with_reducible first | exact HB.out | apply below_alloc | apply pw_below_drewN | apply below_drew1) | exact HB.out)⟩
        ·exact absurd H (by simp)
       ·skip
        have c104b0 : ((t275.length : Int) == 4) = false := beq_eq_false_iff_ne.mpr c104
        have c104b1 : ((t275.length : Int) != 4) = true := bne_iff_ne.mpr c104
        obtain rfl := Option.some.inj H
        go_wp2_with (first | ((with_reducible refine gate_callee (f := 104) rfl ?_); refine goesL_ (some 81) rfl rfl Tryd.func104 (by kernel_rfl) rfl #[.string a0, .int .u8 46] rfl (by (try simp only [List.map_toArray, List.map_cons, List.map_nil]); first | done | rfl | (simp only [List.length_drop, List.length_take]; rfl)) ?_; (with_reducible refine (stowageref3_Split.calls k2 a0 46 t275 _ A103.out).mono ?_); rintro e w124 ⟨v276, rfl, ho0, hb⟩; refine ⟨_, rfl, ?_⟩; have n0_ := Aside0.mk (Kd.R_lower ho0 (below_size (by repeat (first | (with_reducible first | exact HB.out | apply below_alloc | apply pw_below_drewN | apply below_drew1) | exact HB.out)))); have n1_ := Aside0.mk (below_step (by repeat (first | (with_reducible first | exact HB.out | apply below_alloc | apply pw_below_drewN | apply below_drew1) | exact HB.out)) hb); clear HB; have HO277 := n0_; have HB := n1_; clear n0_ n1_; (try clear hb); (try clear hb2); (try clear hk); (try clear hi); (try clear ho0); obtain ⟨Ao125, co125, eo125⟩ := Kd.R_slice HO277.out; subst eo125))
        go_ret
        exact ⟨by first | rfl | (simp [errW_none, errW_some] <;> rfl) | (simp [*, errW_none, errW_some] <;> rfl), by repeat (first | (with_reducible first | exact HB.out | apply below_alloc | apply pw_below_drewN | apply below_drew1) | exact HB.out)⟩
end Go.Proofs.YtieejapamkokaaaDoor.Q
