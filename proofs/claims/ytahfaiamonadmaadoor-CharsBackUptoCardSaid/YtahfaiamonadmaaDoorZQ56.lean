/- A part of the proof of the seat's laws. No condition beyond those in the theorems. -/
import Derived.Laws.BitsLemmas
import Derived.Test.YtahfaiamonadmaaDoorZQ0g2
import Derived.Test.YtahfaiamonadmaaDoorZQ42g4

namespace Go.Proofs.YtahfaiamonadmaaDoor.Q
open Go.RowKit Go.Proofs.YtahfaiamonadmaaDoorW.PrintWords Go.Proofs.YtahfaiamonadmaaDoorW.PrintLast Go.Proofs.YtahfaiamonadmaaDoorW.PrintMore
set_option linter.unusedVariables false
set_option linter.unusedSimpArgs false
attribute [local go_sem] max2_int min2_int max_two min_two max_three min_three max_four min_four   
def stowageref3_Escape.l0 : Nat → ByteArray → Bool → ByteArray → Int → Option (ByteArray)
 | 0, _, _, _, _ => none
 | k + 1, x0, x1, x5, x6 => if x6 < (x0.size : Int) then (if 0 ≤ x6 then ((stowageref3_Alnum.f (bt x0 x6)).bind fun t197 => (if t197 = true then (if x6 ≤ (wrap64 (x6 + 1)) then (if (wrap64 (x6 + 1)) ≤ (x0.size : Int) then (if x5.size + (x0.extract (x6 : Int).toNat ((wrap64 (x6 + 1)) : Int).toNat).size ≤ 9223372036854775807 then (stowageref3_Escape.l0 k x0 x1 (x5 ++ (x0.extract (x6 : Int).toNat ((wrap64 (x6 + 1)) : Int).toNat)) (wrap64 (x6 + 1))) else (none)) else (none)) else (none)) else ((stowageref3_in.f k (⟨#[45, 46, 95, 126]⟩ : ByteArray) (bt x0 x6)).bind fun t198 => (if t198 = true then (if x6 ≤ (wrap64 (x6 + 1)) then (if (wrap64 (x6 + 1)) ≤ (x0.size : Int) then (if x5.size + (x0.extract (x6 : Int).toNat ((wrap64 (x6 + 1)) : Int).toNat).size ≤ 9223372036854775807 then (stowageref3_Escape.l0 k x0 x1 (x5 ++ (x0.extract (x6 : Int).toNat ((wrap64 (x6 + 1)) : Int).toNat)) (wrap64 (x6 + 1))) else (none)) else (none)) else (none)) else (if x1 = true then (if (bt x0 x6) = 47 then (if x6 ≤ (wrap64 (x6 + 1)) then (if (wrap64 (x6 + 1)) ≤ (x0.size : Int) then (if x5.size + (x0.extract (x6 : Int).toNat ((wrap64 (x6 + 1)) : Int).toNat).size ≤ 9223372036854775807 then (stowageref3_Escape.l0 k x0 x1 (x5 ++ (x0.extract (x6 : Int).toNat ((wrap64 (x6 + 1)) : Int).toNat)) (wrap64 (x6 + 1))) else (none)) else (none)) else (none)) else (if x5.size + 1 ≤ 9223372036854775807 then (if 0 ≤ ((Int.tdiv (bt x0 x6) 16) % 256) then (if ((Int.tdiv (bt x0 x6) 16) % 256) ≤ ((((Int.tdiv (bt x0 x6) 16) % 256) + 1) % 256) then (if ((((Int.tdiv (bt x0 x6) 16) % 256) + 1) % 256) ≤ 16 then (if (x5 ++ (⟨#[37]⟩ : ByteArray)).size + ((⟨#[48, 49, 50, 51, 52, 53, 54, 55, 56, 57, 65, 66, 67, 68, 69, 70]⟩ : ByteArray).extract (((Int.tdiv (bt x0 x6) 16) % 256) : Int).toNat (((((Int.tdiv (bt x0 x6) 16) % 256) + 1) % 256) : Int).toNat).size ≤ 9223372036854775807 then (if 0 ≤ (Int.tmod (bt x0 x6) 16) then (if (Int.tmod (bt x0 x6) 16) ≤ (((Int.tmod (bt x0 x6) 16) + 1) % 256) then (if (((Int.tmod (bt x0 x6) 16) + 1) % 256) ≤ 16 then (if ((x5 ++ (⟨#[37]⟩ : ByteArray)) ++ ((⟨#[48, 49, 50, 51, 52, 53, 54, 55, 56, 57, 65, 66, 67, 68, 69, 70]⟩ : ByteArray).extract (((Int.tdiv (bt x0 x6) 16) % 256) : Int).toNat (((((Int.tdiv (bt x0 x6) 16) % 256) + 1) % 256) : Int).toNat)).size + ((⟨#[48, 49, 50, 51, 52, 53, 54, 55, 56, 57, 65, 66, 67, 68, 69, 70]⟩ : ByteArray).extract ((Int.tmod (bt x0 x6) 16) : Int).toNat ((((Int.tmod (bt x0 x6) 16) + 1) % 256) : Int).toNat).size ≤ 9223372036854775807 then (stowageref3_Escape.l0 k x0 x1 (((x5 ++ (⟨#[37]⟩ : ByteArray)) ++ ((⟨#[48, 49, 50, 51, 52, 53, 54, 55, 56, 57, 65, 66, 67, 68, 69, 70]⟩ : ByteArray).extract (((Int.tdiv (bt x0 x6) 16) % 256) : Int).toNat (((((Int.tdiv (bt x0 x6) 16) % 256) + 1) % 256) : Int).toNat)) ++ ((⟨#[48, 49, 50, 51, 52, 53, 54, 55, 56, 57, 65, 66, 67, 68, 69, 70]⟩ : ByteArray).extract ((Int.tmod (bt x0 x6) 16) : Int).toNat ((((Int.tmod (bt x0 x6) 16) + 1) % 256) : Int).toNat)) (wrap64 (x6 + 1))) else (none)) else (none)) else (none)) else (none)) else (none)) else (none)) else (none)) else (none)) else (none))) else (if x5.size + 1 ≤ 9223372036854775807 then (if 0 ≤ ((Int.tdiv (bt x0 x6) 16) % 256) then (if ((Int.tdiv (bt x0 x6) 16) % 256) ≤ ((((Int.tdiv (bt x0 x6) 16) % 256) + 1) % 256) then (if ((((Int.tdiv (bt x0 x6) 16) % 256) + 1) % 256) ≤ 16 then (if (x5 ++ (⟨#[37]⟩ : ByteArray)).size + ((⟨#[48, 49, 50, 51, 52, 53, 54, 55, 56, 57, 65, 66, 67, 68, 69, 70]⟩ : ByteArray).extract (((Int.tdiv (bt x0 x6) 16) % 256) : Int).toNat (((((Int.tdiv (bt x0 x6) 16) % 256) + 1) % 256) : Int).toNat).size ≤ 9223372036854775807 then (if 0 ≤ (Int.tmod (bt x0 x6) 16) then (if (Int.tmod (bt x0 x6) 16) ≤ (((Int.tmod (bt x0 x6) 16) + 1) % 256) then (if (((Int.tmod (bt x0 x6) 16) + 1) % 256) ≤ 16 then (if ((x5 ++ (⟨#[37]⟩ : ByteArray)) ++ ((⟨#[48, 49, 50, 51, 52, 53, 54, 55, 56, 57, 65, 66, 67, 68, 69, 70]⟩ : ByteArray).extract (((Int.tdiv (bt x0 x6) 16) % 256) : Int).toNat (((((Int.tdiv (bt x0 x6) 16) % 256) + 1) % 256) : Int).toNat)).size + ((⟨#[48, 49, 50, 51, 52, 53, 54, 55, 56, 57, 65, 66, 67, 68, 69, 70]⟩ : ByteArray).extract ((Int.tmod (bt x0 x6) 16) : Int).toNat ((((Int.tmod (bt x0 x6) 16) + 1) % 256) : Int).toNat).size ≤ 9223372036854775807 then (stowageref3_Escape.l0 k x0 x1 (((x5 ++ (⟨#[37]⟩ : ByteArray)) ++ ((⟨#[48, 49, 50, 51, 52, 53, 54, 55, 56, 57, 65, 66, 67, 68, 69, 70]⟩ : ByteArray).extract (((Int.tdiv (bt x0 x6) 16) % 256) : Int).toNat (((((Int.tdiv (bt x0 x6) 16) % 256) + 1) % 256) : Int).toNat)) ++ ((⟨#[48, 49, 50, 51, 52, 53, 54, 55, 56, 57, 65, 66, 67, 68, 69, 70]⟩ : ByteArray).extract ((Int.tmod (bt x0 x6) 16) : Int).toNat ((((Int.tmod (bt x0 x6) 16) + 1) % 256) : Int).toNat)) (wrap64 (x6 + 1))) else (none)) else (none)) else (none)) else (none)) else (none)) else (none)) else (none)) else (none)) else (none))))))) else (none)) else (some x5)
def stowageref3_Escape.f (k : Nat) (a0 : ByteArray) (a1 : Bool) : Option (ByteArray) := stowageref3_Escape.l0 k a0 a1 (⟨#[]⟩ : ByteArray) 0
theorem stowageref3_Escape.mono_l : ∀ k, (∀ y0 y1 y2 y3, LeO (stowageref3_Escape.l0 k y0 y1 y2 y3) (stowageref3_Escape.l0 (k + 1) y0 y1 y2 y3))
 | 0 => fun _ _ _ _ r h => by simp [stowageref3_Escape.l0] at h
 | k + 1 => by
  have ih0 := stowageref3_Escape.mono_l k
  ·intro y0 y1 y2 y3
   unfold stowageref3_Escape.l0
   repeat' first
   | (with_reducible exact ih0 _ _ _ _)
   | (with_reducible exact stowageref3_in.mono _ _ _)
   | (with_reducible exact LeO.refl _)
   | (with_reducible exact LeO.none _)
   | (with_reducible refine LeO.ite ?_ ?_)
   | (with_reducible refine LeO.bind ?_ (fun _ => ?_))
   | exact ih0 _ _ _ _
   | exact stowageref3_in.mono _ _ _
   | exact LeO.none _
   | refine LeO.ite ?_ ?_
   | refine LeO.bind ?_ (fun _ => ?_)
theorem stowageref3_Escape.mono : ∀ a0 a1 k, LeO (stowageref3_Escape.f k a0 a1) (stowageref3_Escape.f (k + 1) a0 a1) := by
 intro a0 a1 k
 have ih0 := stowageref3_Escape.mono_l k
 unfold stowageref3_Escape.f
 repeat' first
   | (with_reducible exact ih0 _ _ _ _)
   | (with_reducible exact stowageref3_in.mono _ _ _)
   | (with_reducible exact LeO.refl _)
   | (with_reducible exact LeO.none _)
   | (with_reducible refine LeO.ite ?_ ?_)
   | (with_reducible refine LeO.bind ?_ (fun _ => ?_))
   | exact ih0 _ _ _ _
   | exact stowageref3_in.mono _ _ _
   | exact LeO.none _
   | refine LeO.ite ?_ ?_
   | refine LeO.bind ?_ (fun _ => ?_)
set_option maxHeartbeats 8000000 in
set_option maxRecDepth 100000 in
theorem stowageref3_Escape.calls (k : Nat) (a0 : ByteArray) (a1 : Bool) (r : ByteArray) (w : World) (h : stowageref3_Escape.f k a0 a1 = some r) :
  Calls Tryd.prog 12 #[.string a0, .bool a1] w fun e w' => e = .returned (.string r) ∧ Drawn0 w w' := by
 unfold stowageref3_Escape.f at h
 have H := h
 clear h
 have H' := Aside0.mk H
 clear H
 go_enter Tryd.func12, Tryd.ntmps12
 go_wp2
 repeat (go_quiet (fail); try go_wp2)
 go_loopg [5, 6] k (fun kq v5 v6 w' => ∃ (x5_1 : ByteArray) (x6_1 : Int), v5 = .string x5_1 ∧ v6 = .int .i64 x6_1 ∧ Aside0 (stowageref3_Escape.l0 kq a0 a1 x5_1 x6_1 = some r) ∧ Aside0 (kq ≤ k) ∧ Drawn0 w w')
 case atStart => exact ⟨((⟨#[]⟩ : ByteArray)), (0), (by first | rfl | (simp; done) | (simp [*]; done)), (by first | rfl | (simp; done) | (simp [*]; done)), H', ⟨Nat.le_refl _⟩, by repeat (first | exact Drawn0.refl _ | apply Drawn0.step)⟩
 case round =>
  clear H'
  try clear c1
  try clear p2
  obtain ⟨x5_1, x6_1, rfl, rfl, HA, HK1, ⟨m1, rfl⟩⟩ := hrel
  cases gk with
  | zero => exact absurd HA.out (by simp [stowageref3_Escape.l0])
  | succ k1 =>
   have H := HA.out
   clear HA
   simp only [stowageref3_Escape.l0] at H
   replace H := itO H
   rcases H with ⟨c3, H⟩ | ⟨c3, H⟩
   ·skip
    have c3b0 : decide (x6_1 < (a0.size : Int)) = true := decide_eq_true c3
    clear c3
    replace H := itO H
    rcases H with ⟨c4, H⟩ | ⟨c4, H⟩
    ·skip
     have c4b0 : decide (0 ≤ x6_1) = true := decide_eq_true c4
     clear c4
     replace H := bndO H
     obtain ⟨t197, A60, H⟩ := H
     have A6 := Aside0.mk A60
     clear A60
     by_cases c7 : t197 = true
     ·subst c7
      replace H := itT H
      have c8b0 := eq_true (of_decide_eq_true (by first | (with_reducible assumption) | assumption) : 0 ≤ x6_1)
      replace H := itO H
      rcases H with ⟨c9, H⟩ | ⟨c9, H⟩
      ·skip
       have c9b0 := eq_true c9
       have c9b1 := decide_eq_true c9
       replace H := itO H
       rcases H with ⟨c10, H⟩ | ⟨c10, H⟩
       ·skip
        have c10b0 := eq_true c10
        have c10b1 := decide_eq_true c10
        replace H := itO H
        rcases H with ⟨c11, H⟩ | ⟨c11, H⟩
        ·skip
         have c11b0 := eq_true c11
         have c11b1 := decide_eq_true c11
         try have c11b2 := eq_false (Nat.not_lt.2 c11)
         try (have c11n : x5_1.size + (min (((wrap64 (x6_1 + 1)) : Int).toNat) a0.size - ((x6_1 : Int).toNat)) ≤ 9223372036854775807 := by have h_ := c11; simp only [ByteArray.size_append, ByteArray.size_extract] at h_; exact h_)
         try have c11f : (9223372036854775807 < x5_1.size + (((wrap64 (x6_1 + 1)) : Int).toNat - (x6_1 : Int).toNat)) = False := eq_false (by first | omega | (simp only [eq_iff_iff, iff_true] at *; omega))
         have H' := Aside0.mk H
         clear H
         have p5 : 0 ≤ (x6_1 : Int) := of_decide_eq_true (by first | (with_reducible assumption) | assumption)
         have q5 : x6_1 < (a0.size : Int) := of_decide_eq_true (by first | (with_reducible assumption) | assumption)
         have hx5 := bt_at a0 x6_1
         replace p5 := eq_true p5
         replace q5 := eq_true q5
         have hw8 := IntKind.wrap_u8
         go_wp2_with (first | (go_at_call 43; (with_reducible refine (stowageref3_Alnum.calls (bt a0 x6_1) true _ A6.out).mono ?_); rintro e w' ⟨rfl, ⟨nd, rfl⟩⟩; (try first | exact ⟨rfl, _, World.drewN_drewN _ _ _⟩ | exact ⟨rfl, _, Eq.trans (World.drewN_drewN _ _ _) (congrArg (World.drewN _) (Nat.add_assoc _ _ _))⟩)))
         repeat (go_quiet (first | (go_at_call 43; (with_reducible refine (stowageref3_Alnum.calls (bt a0 x6_1) true _ A6.out).mono ?_); rintro e w' ⟨rfl, ⟨nd, rfl⟩⟩; (try first | exact ⟨rfl, _, World.drewN_drewN _ _ _⟩ | exact ⟨rfl, _, Eq.trans (World.drewN_drewN _ _ _) (congrArg (World.drewN _) (Nat.add_assoc _ _ _))⟩))); try go_wp2_with (first | (go_at_call 43; (with_reducible refine (stowageref3_Alnum.calls (bt a0 x6_1) true _ A6.out).mono ?_); rintro e w' ⟨rfl, ⟨nd, rfl⟩⟩; (try first | exact ⟨rfl, _, World.drewN_drewN _ _ _⟩ | exact ⟨rfl, _, Eq.trans (World.drewN_drewN _ _ _) (congrArg (World.drewN _) (Nat.add_assoc _ _ _))⟩))))
         go_roundg k1
         case measure => have := HK1.out; omega
         case rel => exact ⟨(x5_1 ++ (a0.extract (x6_1 : Int).toNat ((wrap64 (x6_1 + 1)) : Int).toNat)), (wrap64 (x6_1 + 1)), (by first | rfl | (simp; done) | (simp [*]; done)), (by first | rfl | (simp; done) | (simp [*]; done)), H', ⟨by have := HK1.out; omega⟩, by repeat (first | exact Drawn0.refl _ | apply Drawn0.step)⟩
        ·exact absurd H (by simp)
       ·exact absurd H (by simp)
      ·exact absurd H (by simp)
     ·replace c7 := Bool.eq_false_iff.mpr c7
      subst c7
      replace H := itF H
      replace H := bndO H
      obtain ⟨t198, A120, H⟩ := H
      have A12 := Aside0.mk A120
      clear A120
      by_cases c13 : t198 = true
      ·subst c13
       replace H := itT H
       have c14b0 := eq_true (of_decide_eq_true (by first | (with_reducible assumption) | assumption) : 0 ≤ x6_1)
       replace H := itO H
       rcases H with ⟨c15, H⟩ | ⟨c15, H⟩
       ·skip
        have c15b0 := eq_true c15
        have c15b1 := decide_eq_true c15
        replace H := itO H
        rcases H with ⟨c16, H⟩ | ⟨c16, H⟩
        ·skip
         have c16b0 := eq_true c16
         have c16b1 := decide_eq_true c16
         replace H := itO H
         rcases H with ⟨c17, H⟩ | ⟨c17, H⟩
         ·skip
          have c17b0 := eq_true c17
          have c17b1 := decide_eq_true c17
          try have c17b2 := eq_false (Nat.not_lt.2 c17)
          try (have c17n : x5_1.size + (min (((wrap64 (x6_1 + 1)) : Int).toNat) a0.size - ((x6_1 : Int).toNat)) ≤ 9223372036854775807 := by have h_ := c17; simp only [ByteArray.size_append, ByteArray.size_extract] at h_; exact h_)
          try have c17f : (9223372036854775807 < x5_1.size + (((wrap64 (x6_1 + 1)) : Int).toNat - (x6_1 : Int).toNat)) = False := eq_false (by first | omega | (simp only [eq_iff_iff, iff_true] at *; omega))
          have H' := Aside0.mk H
          clear H
          have p5 : 0 ≤ (x6_1 : Int) := of_decide_eq_true (by first | (with_reducible assumption) | assumption)
          have q5 : x6_1 < (a0.size : Int) := of_decide_eq_true (by first | (with_reducible assumption) | assumption)
          have hx5 := bt_at a0 x6_1
          replace p5 := eq_true p5
          replace q5 := eq_true q5
          have hw8 := IntKind.wrap_u8
          go_wp2_with (first | (go_at_call 43; (with_reducible refine (stowageref3_Alnum.calls (bt a0 x6_1) false _ A6.out).mono ?_); rintro e w' ⟨rfl, ⟨nd, rfl⟩⟩; (try first | exact ⟨rfl, _, World.drewN_drewN _ _ _⟩ | exact ⟨rfl, _, Eq.trans (World.drewN_drewN _ _ _) (congrArg (World.drewN _) (Nat.add_assoc _ _ _))⟩)) | (go_at_call 44; (with_reducible refine (stowageref3_in.calls k1 (⟨#[45, 46, 95, 126]⟩ : ByteArray) (bt a0 x6_1) true _ A12.out).mono ?_); rintro e w' ⟨rfl, ⟨nd, rfl⟩⟩; (try first | exact ⟨rfl, _, World.drewN_drewN _ _ _⟩ | exact ⟨rfl, _, Eq.trans (World.drewN_drewN _ _ _) (congrArg (World.drewN _) (Nat.add_assoc _ _ _))⟩)))
          repeat (go_quiet (first | (go_at_call 43; (with_reducible refine (stowageref3_Alnum.calls (bt a0 x6_1) false _ A6.out).mono ?_); rintro e w' ⟨rfl, ⟨nd, rfl⟩⟩; (try first | exact ⟨rfl, _, World.drewN_drewN _ _ _⟩ | exact ⟨rfl, _, Eq.trans (World.drewN_drewN _ _ _) (congrArg (World.drewN _) (Nat.add_assoc _ _ _))⟩)) | (go_at_call 44; (with_reducible refine (stowageref3_in.calls k1 (⟨#[45, 46, 95, 126]⟩ : ByteArray) (bt a0 x6_1) true _ A12.out).mono ?_); rintro e w' ⟨rfl, ⟨nd, rfl⟩⟩; (try first | exact ⟨rfl, _, World.drewN_drewN _ _ _⟩ | exact ⟨rfl, _, Eq.trans (World.drewN_drewN _ _ _) (congrArg (World.drewN _) (Nat.add_assoc _ _ _))⟩))); try go_wp2_with (first | (go_at_call 43; (with_reducible refine (stowageref3_Alnum.calls (bt a0 x6_1) false _ A6.out).mono ?_); rintro e w' ⟨rfl, ⟨nd, rfl⟩⟩; (try first | exact ⟨rfl, _, World.drewN_drewN _ _ _⟩ | exact ⟨rfl, _, Eq.trans (World.drewN_drewN _ _ _) (congrArg (World.drewN _) (Nat.add_assoc _ _ _))⟩)) | (go_at_call 44; (with_reducible refine (stowageref3_in.calls k1 (⟨#[45, 46, 95, 126]⟩ : ByteArray) (bt a0 x6_1) true _ A12.out).mono ?_); rintro e w' ⟨rfl, ⟨nd, rfl⟩⟩; (try first | exact ⟨rfl, _, World.drewN_drewN _ _ _⟩ | exact ⟨rfl, _, Eq.trans (World.drewN_drewN _ _ _) (congrArg (World.drewN _) (Nat.add_assoc _ _ _))⟩))))
          go_roundg k1
          case measure => have := HK1.out; omega
          case rel => exact ⟨(x5_1 ++ (a0.extract (x6_1 : Int).toNat ((wrap64 (x6_1 + 1)) : Int).toNat)), (wrap64 (x6_1 + 1)), (by first | rfl | (simp; done) | (simp [*]; done)), (by first | rfl | (simp; done) | (simp [*]; done)), H', ⟨by have := HK1.out; omega⟩, by repeat (first | exact Drawn0.refl _ | apply Drawn0.step)⟩
         ·exact absurd H (by simp)
        ·exact absurd H (by simp)
       ·exact absurd H (by simp)
      ·replace c13 := Bool.eq_false_iff.mpr c13
       subst c13
       replace H := itF H
       by_cases c18 : a1 = true
       ·subst c18
        replace H := itT H
        replace H := itO H
        rcases H with ⟨c19, H⟩ | ⟨c19, H⟩
        ·skip
         have c19b0 : ((bt a0 x6_1) == 47) = true := beq_iff_eq.mpr c19
         have c19b1 : ((bt a0 x6_1) != 47) = false := bne_eq_false_iff_eq.mpr c19
         clear c19
         have c20b0 := eq_true (of_decide_eq_true (by first | (with_reducible assumption) | assumption) : 0 ≤ x6_1)
         replace H := itO H
         rcases H with ⟨c21, H⟩ | ⟨c21, H⟩
         ·skip
          have c21b0 := eq_true c21
          have c21b1 := decide_eq_true c21
          replace H := itO H
          rcases H with ⟨c22, H⟩ | ⟨c22, H⟩
          ·skip
           have c22b0 := eq_true c22
           have c22b1 := decide_eq_true c22
           replace H := itO H
           rcases H with ⟨c23, H⟩ | ⟨c23, H⟩
           ·skip
            have c23b0 := eq_true c23
            have c23b1 := decide_eq_true c23
            try have c23b2 := eq_false (Nat.not_lt.2 c23)
            try (have c23n : x5_1.size + (min (((wrap64 (x6_1 + 1)) : Int).toNat) a0.size - ((x6_1 : Int).toNat)) ≤ 9223372036854775807 := by have h_ := c23; simp only [ByteArray.size_append, ByteArray.size_extract] at h_; exact h_)
            try have c23f : (9223372036854775807 < x5_1.size + (((wrap64 (x6_1 + 1)) : Int).toNat - (x6_1 : Int).toNat)) = False := eq_false (by first | omega | (simp only [eq_iff_iff, iff_true] at *; omega))
            have H' := Aside0.mk H
            clear H
            have p5 : 0 ≤ (x6_1 : Int) := of_decide_eq_true (by first | (with_reducible assumption) | assumption)
            have q5 : x6_1 < (a0.size : Int) := of_decide_eq_true (by first | (with_reducible assumption) | assumption)
            have hx5 := bt_at a0 x6_1
            replace p5 := eq_true p5
            replace q5 := eq_true q5
            have hw8 := IntKind.wrap_u8
            go_wp2_with (first | (go_at_call 43; (with_reducible refine (stowageref3_Alnum.calls (bt a0 x6_1) false _ A6.out).mono ?_); rintro e w' ⟨rfl, ⟨nd, rfl⟩⟩; (try first | exact ⟨rfl, _, World.drewN_drewN _ _ _⟩ | exact ⟨rfl, _, Eq.trans (World.drewN_drewN _ _ _) (congrArg (World.drewN _) (Nat.add_assoc _ _ _))⟩)) | (go_at_call 44; (with_reducible refine (stowageref3_in.calls k1 (⟨#[45, 46, 95, 126]⟩ : ByteArray) (bt a0 x6_1) false _ A12.out).mono ?_); rintro e w' ⟨rfl, ⟨nd, rfl⟩⟩; (try first | exact ⟨rfl, _, World.drewN_drewN _ _ _⟩ | exact ⟨rfl, _, Eq.trans (World.drewN_drewN _ _ _) (congrArg (World.drewN _) (Nat.add_assoc _ _ _))⟩)))
            repeat (go_quiet (first | (go_at_call 43; (with_reducible refine (stowageref3_Alnum.calls (bt a0 x6_1) false _ A6.out).mono ?_); rintro e w' ⟨rfl, ⟨nd, rfl⟩⟩; (try first | exact ⟨rfl, _, World.drewN_drewN _ _ _⟩ | exact ⟨rfl, _, Eq.trans (World.drewN_drewN _ _ _) (congrArg (World.drewN _) (Nat.add_assoc _ _ _))⟩)) | (go_at_call 44; (with_reducible refine (stowageref3_in.calls k1 (⟨#[45, 46, 95, 126]⟩ : ByteArray) (bt a0 x6_1) false _ A12.out).mono ?_); rintro e w' ⟨rfl, ⟨nd, rfl⟩⟩; (try first | exact ⟨rfl, _, World.drewN_drewN _ _ _⟩ | exact ⟨rfl, _, Eq.trans (World.drewN_drewN _ _ _) (congrArg (World.drewN _) (Nat.add_assoc _ _ _))⟩))); try go_wp2_with (first | (go_at_call 43; (with_reducible refine (stowageref3_Alnum.calls (bt a0 x6_1) false _ A6.out).mono ?_); rintro e w' ⟨rfl, ⟨nd, rfl⟩⟩; (try first | exact ⟨rfl, _, World.drewN_drewN _ _ _⟩ | exact ⟨rfl, _, Eq.trans (World.drewN_drewN _ _ _) (congrArg (World.drewN _) (Nat.add_assoc _ _ _))⟩)) | (go_at_call 44; (with_reducible refine (stowageref3_in.calls k1 (⟨#[45, 46, 95, 126]⟩ : ByteArray) (bt a0 x6_1) false _ A12.out).mono ?_); rintro e w' ⟨rfl, ⟨nd, rfl⟩⟩; (try first | exact ⟨rfl, _, World.drewN_drewN _ _ _⟩ | exact ⟨rfl, _, Eq.trans (World.drewN_drewN _ _ _) (congrArg (World.drewN _) (Nat.add_assoc _ _ _))⟩))))
            go_roundg k1
            case measure => have := HK1.out; omega
            case rel => exact ⟨(x5_1 ++ (a0.extract (x6_1 : Int).toNat ((wrap64 (x6_1 + 1)) : Int).toNat)), (wrap64 (x6_1 + 1)), (by first | rfl | (simp; done) | (simp [*]; done)), (by first | rfl | (simp; done) | (simp [*]; done)), H', ⟨by have := HK1.out; omega⟩, by repeat (first | exact Drawn0.refl _ | apply Drawn0.step)⟩
           ·exact absurd H (by simp)
          ·exact absurd H (by simp)
         ·exact absurd H (by simp)
        ·skip
         have c19b0 : ((bt a0 x6_1) == 47) = false := beq_eq_false_iff_ne.mpr c19
         have c19b1 : ((bt a0 x6_1) != 47) = true := bne_iff_ne.mpr c19
         replace H := itO H
         rcases H with ⟨c24, H⟩ | ⟨c24, H⟩
         ·skip
          have c24b0 := eq_true c24
          have c24b1 := decide_eq_true c24
          try have c24b2 := eq_false (Nat.not_lt.2 c24)
          try (have c24n : x5_1.size + 1 ≤ 9223372036854775807 := by have h_ := c24; simp only [ByteArray.size_append, ByteArray.size_extract] at h_; exact h_)
          try have c24f : (9223372036854775807 < x5_1.size + 1) = False := eq_false (by first | omega | (simp only [eq_iff_iff, iff_true] at *; omega))
          obtain ⟨ji25, hji25⟩ : ∃ j_ : Int, ((Int.tdiv (bt a0 x6_1) 16) % 256) = j_ := ⟨_, rfl⟩
          first | rw [hji25] at H | simp only [hji25] at H
          (try rw [hji25] at A6)
          (try rw [hji25] at A12)
          replace H := itO H
          rcases H with ⟨c26, H⟩ | ⟨c26, H⟩
          ·skip
           have c26b0 := eq_true c26
           have c26b1 := decide_eq_true c26
           clear c26
           replace H := itO H
           rcases H with ⟨c27, H⟩ | ⟨c27, H⟩
           ·skip
            have c27b0 := eq_true c27
            have c27b1 := decide_eq_true c27
            replace H := itO H
            rcases H with ⟨c28, H⟩ | ⟨c28, H⟩
            ·skip
             have c28b0 := eq_true c28
             have c28b1 := decide_eq_true c28
             replace H := itO H
             rcases H with ⟨c29, H⟩ | ⟨c29, H⟩
             ·skip
              have c29b0 := eq_true c29
              have c29b1 := decide_eq_true c29
              try have c29b2 := eq_false (Nat.not_lt.2 c29)
              try (have c29n : x5_1.size + 1 + (min (((((ji25) + 1) % 256) : Int).toNat) 16 - (((ji25) : Int).toNat)) ≤ 9223372036854775807 := by have h_ := c29; simp only [ByteArray.size_append, ByteArray.size_extract] at h_; exact h_)
              try have c29f : (9223372036854775807 < x5_1.size + 1 + (((((ji25) + 1) % 256) : Int).toNat - ((ji25) : Int).toNat)) = False := eq_false (by first | omega | (simp only [eq_iff_iff, iff_true] at *; omega))
              obtain ⟨ji30, hji30⟩ : ∃ j_ : Int, (Int.tmod (bt a0 x6_1) 16) = j_ := ⟨_, rfl⟩
              first | rw [hji30] at H | simp only [hji30] at H
              (try rw [hji30] at A6)
              (try rw [hji30] at A12)
              replace H := itO H
              rcases H with ⟨c31, H⟩ | ⟨c31, H⟩
              ·skip
               have c31b0 := eq_true c31
               have c31b1 := decide_eq_true c31
               clear c31
               replace H := itO H
               rcases H with ⟨c32, H⟩ | ⟨c32, H⟩
               ·skip
                have c32b0 := eq_true c32
                have c32b1 := decide_eq_true c32
                replace H := itO H
                rcases H with ⟨c33, H⟩ | ⟨c33, H⟩
                ·skip
                 have c33b0 := eq_true c33
                 have c33b1 := decide_eq_true c33
                 replace H := itO H
                 rcases H with ⟨c34, H⟩ | ⟨c34, H⟩
                 ·skip
                  have c34b0 := eq_true c34
                  have c34b1 := decide_eq_true c34
                  try have c34b2 := eq_false (Nat.not_lt.2 c34)
                  try (have c34n : x5_1.size + 1 + (min (((((ji25) + 1) % 256) : Int).toNat) 16 - (((ji25) : Int).toNat)) + (min (((((ji30) + 1) % 256) : Int).toNat) 16 - (((ji30) : Int).toNat)) ≤ 9223372036854775807 := by have h_ := c34; simp only [ByteArray.size_append, ByteArray.size_extract] at h_; exact h_)
                  try have c34f : (9223372036854775807 < x5_1.size + 1 + (((((ji25) + 1) % 256) : Int).toNat - ((ji25) : Int).toNat) + (((((ji30) + 1) % 256) : Int).toNat - ((ji30) : Int).toNat)) = False := eq_false (by first | omega | (simp only [eq_iff_iff, iff_true] at *; omega))
                  have H' := Aside0.mk H
                  clear H
                  have p5 : 0 ≤ (x6_1 : Int) := of_decide_eq_true (by first | (with_reducible assumption) | assumption)
                  have q5 : x6_1 < (a0.size : Int) := of_decide_eq_true (by first | (with_reducible assumption) | assumption)
                  have hx5 := bt_at a0 x6_1
                  replace p5 := eq_true p5
                  replace q5 := eq_true q5
                  have hw8 := IntKind.wrap_u8
                  go_wp2_with (first | (go_at_call 43; (with_reducible refine (stowageref3_Alnum.calls (bt a0 x6_1) false _ A6.out).mono ?_); rintro e w' ⟨rfl, ⟨nd, rfl⟩⟩; (try first | exact ⟨rfl, _, World.drewN_drewN _ _ _⟩ | exact ⟨rfl, _, Eq.trans (World.drewN_drewN _ _ _) (congrArg (World.drewN _) (Nat.add_assoc _ _ _))⟩)) | (go_at_call 44; (with_reducible refine (stowageref3_in.calls k1 (⟨#[45, 46, 95, 126]⟩ : ByteArray) (bt a0 x6_1) false _ A12.out).mono ?_); rintro e w' ⟨rfl, ⟨nd, rfl⟩⟩; (try first | exact ⟨rfl, _, World.drewN_drewN _ _ _⟩ | exact ⟨rfl, _, Eq.trans (World.drewN_drewN _ _ _) (congrArg (World.drewN _) (Nat.add_assoc _ _ _))⟩)))
                  repeat (go_quiet (first | (go_at_call 43; (with_reducible refine (stowageref3_Alnum.calls (bt a0 x6_1) false _ A6.out).mono ?_); rintro e w' ⟨rfl, ⟨nd, rfl⟩⟩; (try first | exact ⟨rfl, _, World.drewN_drewN _ _ _⟩ | exact ⟨rfl, _, Eq.trans (World.drewN_drewN _ _ _) (congrArg (World.drewN _) (Nat.add_assoc _ _ _))⟩)) | (go_at_call 44; (with_reducible refine (stowageref3_in.calls k1 (⟨#[45, 46, 95, 126]⟩ : ByteArray) (bt a0 x6_1) false _ A12.out).mono ?_); rintro e w' ⟨rfl, ⟨nd, rfl⟩⟩; (try first | exact ⟨rfl, _, World.drewN_drewN _ _ _⟩ | exact ⟨rfl, _, Eq.trans (World.drewN_drewN _ _ _) (congrArg (World.drewN _) (Nat.add_assoc _ _ _))⟩))); try go_wp2_with (first | (go_at_call 43; (with_reducible refine (stowageref3_Alnum.calls (bt a0 x6_1) false _ A6.out).mono ?_); rintro e w' ⟨rfl, ⟨nd, rfl⟩⟩; (try first | exact ⟨rfl, _, World.drewN_drewN _ _ _⟩ | exact ⟨rfl, _, Eq.trans (World.drewN_drewN _ _ _) (congrArg (World.drewN _) (Nat.add_assoc _ _ _))⟩)) | (go_at_call 44; (with_reducible refine (stowageref3_in.calls k1 (⟨#[45, 46, 95, 126]⟩ : ByteArray) (bt a0 x6_1) false _ A12.out).mono ?_); rintro e w' ⟨rfl, ⟨nd, rfl⟩⟩; (try first | exact ⟨rfl, _, World.drewN_drewN _ _ _⟩ | exact ⟨rfl, _, Eq.trans (World.drewN_drewN _ _ _) (congrArg (World.drewN _) (Nat.add_assoc _ _ _))⟩))))
                  go_roundg k1
                  case measure => have := HK1.out; omega
                  case rel => exact ⟨(((x5_1 ++ (⟨#[37]⟩ : ByteArray)) ++ ((⟨#[48, 49, 50, 51, 52, 53, 54, 55, 56, 57, 65, 66, 67, 68, 69, 70]⟩ : ByteArray).extract ((ji25) : Int).toNat ((((ji25) + 1) % 256) : Int).toNat)) ++ ((⟨#[48, 49, 50, 51, 52, 53, 54, 55, 56, 57, 65, 66, 67, 68, 69, 70]⟩ : ByteArray).extract ((ji30) : Int).toNat ((((ji30) + 1) % 256) : Int).toNat)), (wrap64 (x6_1 + 1)), (by first | rfl | (simp; done) | (simp only [← hji25, ← hji30] <;> (first | rfl | simp)) | (simp [*]; done)), (by first | rfl | (simp; done) | (simp [*]; done)), H', ⟨by have := HK1.out; omega⟩, by repeat (first | exact Drawn0.refl _ | apply Drawn0.step)⟩
                 ·exact absurd H (by simp)
                ·exact absurd H (by simp)
               ·exact absurd H (by simp)
              ·exact absurd H (by simp)
             ·exact absurd H (by simp)
            ·exact absurd H (by simp)
           ·exact absurd H (by simp)
          ·exact absurd H (by simp)
         ·exact absurd H (by simp)
       ·replace c18 := Bool.eq_false_iff.mpr c18
        subst c18
        replace H := itF H
        replace H := itO H
        rcases H with ⟨c35, H⟩ | ⟨c35, H⟩
        ·skip
         have c35b0 := eq_true c35
         have c35b1 := decide_eq_true c35
         try have c35b2 := eq_false (Nat.not_lt.2 c35)
         try (have c35n : x5_1.size + 1 ≤ 9223372036854775807 := by have h_ := c35; simp only [ByteArray.size_append, ByteArray.size_extract] at h_; exact h_)
         try have c35f : (9223372036854775807 < x5_1.size + 1) = False := eq_false (by first | omega | (simp only [eq_iff_iff, iff_true] at *; omega))
         obtain ⟨ji36, hji36⟩ : ∃ j_ : Int, ((Int.tdiv (bt a0 x6_1) 16) % 256) = j_ := ⟨_, rfl⟩
         first | rw [hji36] at H | simp only [hji36] at H
         (try rw [hji36] at A6)
         (try rw [hji36] at A12)
         replace H := itO H
         rcases H with ⟨c37, H⟩ | ⟨c37, H⟩
         ·skip
          have c37b0 := eq_true c37
          have c37b1 := decide_eq_true c37
          clear c37
          replace H := itO H
          rcases H with ⟨c38, H⟩ | ⟨c38, H⟩
          ·skip
           have c38b0 := eq_true c38
           have c38b1 := decide_eq_true c38
           replace H := itO H
           rcases H with ⟨c39, H⟩ | ⟨c39, H⟩
           ·skip
            have c39b0 := eq_true c39
            have c39b1 := decide_eq_true c39
            replace H := itO H
            rcases H with ⟨c40, H⟩ | ⟨c40, H⟩
            ·skip
             have c40b0 := eq_true c40
             have c40b1 := decide_eq_true c40
             try have c40b2 := eq_false (Nat.not_lt.2 c40)
             try (have c40n : x5_1.size + 1 + (min (((((ji36) + 1) % 256) : Int).toNat) 16 - (((ji36) : Int).toNat)) ≤ 9223372036854775807 := by have h_ := c40; simp only [ByteArray.size_append, ByteArray.size_extract] at h_; exact h_)
             try have c40f : (9223372036854775807 < x5_1.size + 1 + (((((ji36) + 1) % 256) : Int).toNat - ((ji36) : Int).toNat)) = False := eq_false (by first | omega | (simp only [eq_iff_iff, iff_true] at *; omega))
             obtain ⟨ji41, hji41⟩ : ∃ j_ : Int, (Int.tmod (bt a0 x6_1) 16) = j_ := ⟨_, rfl⟩
             first | rw [hji41] at H | simp only [hji41] at H
             (try rw [hji41] at A6)
             (try rw [hji41] at A12)
             replace H := itO H
             rcases H with ⟨c42, H⟩ | ⟨c42, H⟩
             ·skip
              have c42b0 := eq_true c42
              have c42b1 := decide_eq_true c42
              clear c42
              replace H := itO H
              rcases H with ⟨c43, H⟩ | ⟨c43, H⟩
              ·skip
               have c43b0 := eq_true c43
               have c43b1 := decide_eq_true c43
               replace H := itO H
               rcases H with ⟨c44, H⟩ | ⟨c44, H⟩
               ·skip
                have c44b0 := eq_true c44
                have c44b1 := decide_eq_true c44
                replace H := itO H
                rcases H with ⟨c45, H⟩ | ⟨c45, H⟩
                ·skip
                 have c45b0 := eq_true c45
                 have c45b1 := decide_eq_true c45
                 try have c45b2 := eq_false (Nat.not_lt.2 c45)
                 try (have c45n : x5_1.size + 1 + (min (((((ji36) + 1) % 256) : Int).toNat) 16 - (((ji36) : Int).toNat)) + (min (((((ji41) + 1) % 256) : Int).toNat) 16 - (((ji41) : Int).toNat)) ≤ 9223372036854775807 := by have h_ := c45; simp only [ByteArray.size_append, ByteArray.size_extract] at h_; exact h_)
                 try have c45f : (9223372036854775807 < x5_1.size + 1 + (((((ji36) + 1) % 256) : Int).toNat - ((ji36) : Int).toNat) + (((((ji41) + 1) % 256) : Int).toNat - ((ji41) : Int).toNat)) = False := eq_false (by first | omega | (simp only [eq_iff_iff, iff_true] at *; omega))
                 have H' := Aside0.mk H
                 clear H
                 have p5 : 0 ≤ (x6_1 : Int) := of_decide_eq_true (by first | (with_reducible assumption) | assumption)
                 have q5 : x6_1 < (a0.size : Int) := of_decide_eq_true (by first | (with_reducible assumption) | assumption)
                 have hx5 := bt_at a0 x6_1
                 replace p5 := eq_true p5
                 replace q5 := eq_true q5
                 have hw8 := IntKind.wrap_u8
                 go_wp2_with (first | (go_at_call 43; (with_reducible refine (stowageref3_Alnum.calls (bt a0 x6_1) false _ A6.out).mono ?_); rintro e w' ⟨rfl, ⟨nd, rfl⟩⟩; (try first | exact ⟨rfl, _, World.drewN_drewN _ _ _⟩ | exact ⟨rfl, _, Eq.trans (World.drewN_drewN _ _ _) (congrArg (World.drewN _) (Nat.add_assoc _ _ _))⟩)) | (go_at_call 44; (with_reducible refine (stowageref3_in.calls k1 (⟨#[45, 46, 95, 126]⟩ : ByteArray) (bt a0 x6_1) false _ A12.out).mono ?_); rintro e w' ⟨rfl, ⟨nd, rfl⟩⟩; (try first | exact ⟨rfl, _, World.drewN_drewN _ _ _⟩ | exact ⟨rfl, _, Eq.trans (World.drewN_drewN _ _ _) (congrArg (World.drewN _) (Nat.add_assoc _ _ _))⟩)))
                 repeat (go_quiet (first | (go_at_call 43; (with_reducible refine (stowageref3_Alnum.calls (bt a0 x6_1) false _ A6.out).mono ?_); rintro e w' ⟨rfl, ⟨nd, rfl⟩⟩; (try first | exact ⟨rfl, _, World.drewN_drewN _ _ _⟩ | exact ⟨rfl, _, Eq.trans (World.drewN_drewN _ _ _) (congrArg (World.drewN _) (Nat.add_assoc _ _ _))⟩)) | (go_at_call 44; (with_reducible refine (stowageref3_in.calls k1 (⟨#[45, 46, 95, 126]⟩ : ByteArray) (bt a0 x6_1) false _ A12.out).mono ?_); rintro e w' ⟨rfl, ⟨nd, rfl⟩⟩; (try first | exact ⟨rfl, _, World.drewN_drewN _ _ _⟩ | exact ⟨rfl, _, Eq.trans (World.drewN_drewN _ _ _) (congrArg (World.drewN _) (Nat.add_assoc _ _ _))⟩))); try go_wp2_with (first | (go_at_call 43; (with_reducible refine (stowageref3_Alnum.calls (bt a0 x6_1) false _ A6.out).mono ?_); rintro e w' ⟨rfl, ⟨nd, rfl⟩⟩; (try first | exact ⟨rfl, _, World.drewN_drewN _ _ _⟩ | exact ⟨rfl, _, Eq.trans (World.drewN_drewN _ _ _) (congrArg (World.drewN _) (Nat.add_assoc _ _ _))⟩)) | (go_at_call 44; (with_reducible refine (stowageref3_in.calls k1 (⟨#[45, 46, 95, 126]⟩ : ByteArray) (bt a0 x6_1) false _ A12.out).mono ?_); rintro e w' ⟨rfl, ⟨nd, rfl⟩⟩; (try first | exact ⟨rfl, _, World.drewN_drewN _ _ _⟩ | exact ⟨rfl, _, Eq.trans (World.drewN_drewN _ _ _) (congrArg (World.drewN _) (Nat.add_assoc _ _ _))⟩))))
                 go_roundg k1
                 case measure => have := HK1.out; omega
                 case rel => exact ⟨(((x5_1 ++ (⟨#[37]⟩ : ByteArray)) ++ ((⟨#[48, 49, 50, 51, 52, 53, 54, 55, 56, 57, 65, 66, 67, 68, 69, 70]⟩ : ByteArray).extract ((ji36) : Int).toNat ((((ji36) + 1) % 256) : Int).toNat)) ++ ((⟨#[48, 49, 50, 51, 52, 53, 54, 55, 56, 57, 65, 66, 67, 68, 69, 70]⟩ : ByteArray).extract ((ji41) : Int).toNat ((((ji41) + 1) % 256) : Int).toNat)), (wrap64 (x6_1 + 1)), (by first | rfl | (simp; done) | (simp only [← hji36, ← hji41] <;> (first | rfl | simp)) | (simp [*]; done)), (by first | rfl | (simp; done) | (simp [*]; done)), H', ⟨by have := HK1.out; omega⟩, by repeat (first | exact Drawn0.refl _ | apply Drawn0.step)⟩
                ·exact absurd H (by simp)
               ·exact absurd H (by simp)
              ·exact absurd H (by simp)
             ·exact absurd H (by simp)
            ·exact absurd H (by simp)
           ·exact absurd H (by simp)
          ·exact absurd H (by simp)
         ·exact absurd H (by simp)
        ·exact absurd H (by simp)
    ·exact absurd H (by simp)
   ·skip
    have c3b0 : decide (x6_1 < (a0.size : Int)) = false := decide_eq_false c3
    clear c3
    obtain rfl := Option.some.inj H
    go_wp2
    repeat (go_quiet (fail); try go_wp2)
    go_ret
    exact ⟨by first | rfl | (simp; done) | (simp [*]; done), by repeat (first | exact Drawn0.refl _ | apply Drawn0.step)⟩
end Go.Proofs.YtahfaiamonadmaaDoor.Q
