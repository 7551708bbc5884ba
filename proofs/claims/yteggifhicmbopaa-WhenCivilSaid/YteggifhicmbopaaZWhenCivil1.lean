/- For all ints the law WhenCivil answers true, and its arguments read behind the call as before. No condition. -/
import Derived.Test.YteggifhicmbopaaProg
import Derived.Below
import Derived.Deep.Draws
import Derived.Deep.AppendLies
import Derived.Maps.AppendAt
import Derived.OwnWalk
import Derived.Laws.BytesArg
import Derived.Laws.MakeOwn
import Derived.Laws.OwnMore
import Derived.Deep.OwnRows
import Derived.Tactics
import Derived.Lib.ConvBytes
import Derived.Laws.Slices
import Derived.WalkKit
import Derived.KernelRfl
import Derived.RowKit3
import Derived.Deep.LoopGhost
import Derived.Deep.QuietTactic
import Derived.BigQuiet
import Derived.WideLaws
import Derived.Deep.DeepCutAuto
import Derived.Deep.CutBlock
import Derived.Deep.RegionHeld3
import Derived.Laws.Rows
import Derived.Lib.AppendStr
import Derived.ArgAppend
import Derived.Laws.IdiomCopy
import Derived.OrdersHeld
import Derived.Laws.BitsLemmas
import Derived.RowKit
import Derived.Test.YteggifhicmbopaaWWords
import Derived.Test.YteggifhicmbopaaWLast
import Derived.Test.YteggifhicmbopaaWTab
import Derived.Test.YteggifhicmbopaaWFour
import Derived.Test.YteggifhicmbopaaWQPut
import Derived.Test.YteggifhicmbopaaWApart
import Derived.Test.YteggifhicmbopaaWArr
import Derived.Test.YteggifhicmbopaaWZeros
import Derived.Test.YteggifhicmbopaaWFoot
import Derived.Test.YteggifhicmbopaaWKept
import Derived.Test.YteggifhicmbopaaWShare
import Derived.Test.YteggifhicmbopaaWN
import Derived.Test.YteggifhicmbopaaWFootNe
import Derived.Test.YteggifhicmbopaaWAt
import Derived.Test.YteggifhicmbopaaWEqStruct
import Derived.Test.YteggifhicmbopaaWRepsOne
import Derived.Test.YteggifhicmbopaaWInv
import Derived.Test.YteggifhicmbopaaWInvWords
import Derived.Test.YteggifhicmbopaaWGuard
import Derived.Test.YteggifhicmbopaaWNEv
import Derived.Test.YteggifhicmbopaaWMore
/- What some Go functions compute, told as plain Lean functions, each with the proof that the call comes to just that, for all arguments. Conditions: those in the theorems. Written by a program of this session. -/
namespace Go.Proofs.Yteggifhicmbopaa.Q
open Go.RowKit Go.Proofs.YteggifhicmbopaaW.PrintWords Go.Proofs.YteggifhicmbopaaW.PrintLast Go.Proofs.YteggifhicmbopaaW.PrintMore
set_option linter.unusedVariables false
set_option linter.unusedSimpArgs false
attribute [local go_sem] max2_int min2_int max_two min_two max_three min_three max_four min_four   -- for this text's walks alone



def errW : Option Int → Value
  | none => .nilIface
  | some c => .iface 0 (.int .i64 c)
theorem errW_none : errW none = .nilIface := rfl
theorem errW_some (c : Int) : errW (some c) = .iface 0 (.int .i64 c) := rfl

theorem info3 : (Try.prog.info? 3).map (fun i => (i.zero, i.size, i.bytes)) = some (some (.int .i64 0), 1, 8) := by kernel_rfl
theorem info5 : (Try.prog.info? 5).map (fun i => (i.zero, i.size, i.bytes)) = some (some (.int .u8 0), 1, 1) := by kernel_rfl
theorem info45 : (Try.prog.info? 45).map (fun i => (i.zero, i.size, i.bytes)) = some (some (.agg #[(.int .i64 0), (.int .i64 0)]), 2, 16) := by kernel_rfl
-- the values' own types
/-! #### struct type 45 -/
structure S45 where
  f0 : Int
  f1 : Int
def z45 : S45 := ⟨(0 : Int), (0 : Int)⟩
def k45 : Kd S45 := Kd.iso (Kd.pair (Kd.int .i64) (Kd.int .i64)) (fun x : S45 => (x.f0, x.f1))
theorem k45_open {w : World} {x : S45} {cs : List Value} (h : k45.K w x cs) : cs = [.int .i64 x.f0, .int .i64 x.f1] := by
  obtain ⟨_, _, rfl, rfl, rfl⟩ := h
  exact rfl
theorem k45_openM {w : World} {base : Nat} {ok : Nat → Prop} {x : S45} {cs : List Value} (h : k45.M w base ok x cs) : cs = [.int .i64 x.f0, .int .i64 x.f1] := by
  obtain ⟨_, _, rfl, rfl, rfl⟩ := h
  exact rfl
theorem k45_mk (w : World) (x : S45)  : k45.K w x [.int .i64 x.f0, .int .i64 x.f1] := ⟨[.int .i64 x.f0], [.int .i64 x.f1], rfl, rfl, rfl⟩
theorem k45_mkM (w : World) (base : Nat) (ok : Nat → Prop) (x : S45)  : k45.M w base ok x [.int .i64 x.f0, .int .i64 x.f1] := ⟨[.int .i64 x.f0], [.int .i64 x.f1], rfl, rfl, rfl⟩
def rd_T45 (xs : List S45) (i : Int) : S45 := xs.getD i.toNat z45
theorem at_T45 {w : World} {A : Option Addr} {n : Nat} {xs : List S45} (h : Kd.C k45 w A n xs) (i : Int) (h0 : 0 ≤ i) (h1 : i < n) : ∃ ad , A = some ad ∧ w.cell? (ad.add (i.toNat * 2)) = some (.int .i64 (rd_T45 xs i).f0) ∧ w.cell? ⟨(ad.add (i.toNat * 2)).block, (ad.add (i.toNat * 2)).off + 1, none⟩ = some (.int .i64 (rd_T45 xs i).f1) := by
  obtain ⟨ad, c, e, _, hK, hc0⟩ := Kd.C_get h z45 i h0 h1
  have hc : ∀ j u, c[j]? = some u → w.cell? (ad.add (i.toNat * 2 + j)) = some u := hc0
  obtain rfl := k45_open hK
  exact ⟨ad, e, hc 0 _ rfl, by rw [← add_field _ _ 1 (by omega)]; exact hc 1 _ rfl⟩

end Go.Proofs.Yteggifhicmbopaa.Q

/- What some Go functions compute, told as plain Lean functions, each with the proof that the call comes to just that, for all arguments. Conditions: those in the theorems. Written by a program of this session. -/
namespace Go.Proofs.Yteggifhicmbopaa.Q
open Go.RowKit Go.Proofs.YteggifhicmbopaaW.PrintWords Go.Proofs.YteggifhicmbopaaW.PrintLast Go.Proofs.YteggifhicmbopaaW.PrintMore
set_option linter.unusedVariables false
set_option linter.unusedSimpArgs false
attribute [local go_sem] max2_int min2_int max_two min_two max_three min_three max_four min_four   -- for this text's walks alone

/-! ### when_is: function 27 -/
def when_is.f (a0 : Int) : Option (Bool) := if a0 ≥ 0 then (some (decide (a0 ≤ 253402300799))) else (some false)
set_option maxHeartbeats 8000000 in
set_option maxRecDepth 100000 in
theorem when_is.calls (a0 : Int) (r : Bool) (w : World) (h : when_is.f a0 = some r) :
    Calls Try.prog 27 #[.int .i64 a0] w fun e w' => e = .returned (.bool r) ∧ Drawn0 w w' := by
  have H : (if a0 ≥ 0 then (some (decide (a0 ≤ 253402300799))) else (some false)) = some r := h
  clear h
  by_cases c2 : a0 ≥ 0
  · rw [if_pos c2] at H
    have c2b0 : decide (0 ≤ a0) = true := decide_eq_true c2
    clear c2
    obtain rfl := Option.some.inj H
    go_enter Try.func27, Try.ntmps27
    go_wp2
    go_ret
    exact ⟨by first | rfl | (simp; done) | (simp [*]; done), by repeat (first | exact Drawn0.refl _ | apply Drawn0.step)⟩
  · rw [if_neg c2] at H
    have c2b0 : decide (0 ≤ a0) = false := decide_eq_false c2
    clear c2
    obtain rfl := Option.some.inj H
    go_enter Try.func27, Try.ntmps27
    go_wp2
    go_ret
    exact ⟨by first | rfl | (simp; done) | (simp [*]; done), by repeat (first | exact Drawn0.refl _ | apply Drawn0.step)⟩

end Go.Proofs.Yteggifhicmbopaa.Q

/- What some Go functions compute, told as plain Lean functions, each with the proof that the call comes to just that, for all arguments. Conditions: those in the theorems. Written by a program of this session. -/
namespace Go.Proofs.Yteggifhicmbopaa.Q
open Go.RowKit Go.Proofs.YteggifhicmbopaaW.PrintWords Go.Proofs.YteggifhicmbopaaW.PrintLast Go.Proofs.YteggifhicmbopaaW.PrintMore
set_option linter.unusedVariables false
set_option linter.unusedSimpArgs false
attribute [local go_sem] max2_int min2_int max_two min_two max_three min_three max_four min_four   -- for this text's walks alone

/-! ### when_before: function 28 -/
def when_before.f (a0 : Int) : Option (Int) := some (wrap64 ((wrap64 ((wrap64 ((wrap64 ((wrap64 ((wrap64 (a0 - 1)) * 365)) + (wrap64 (Int.tdiv (wrap64 (a0 - 1)) 4)))) - (wrap64 (Int.tdiv (wrap64 (a0 - 1)) 100)))) + (wrap64 (Int.tdiv (wrap64 (a0 - 1)) 400)))) - 719162))
set_option maxHeartbeats 8000000 in
set_option maxRecDepth 100000 in
theorem when_before.calls (a0 : Int) (r : Int) (w : World) (h : when_before.f a0 = some r) :
    Calls Try.prog 28 #[.int .i64 a0] w fun e w' => e = .returned (.int .i64 r) ∧ Drawn0 w w' := by
  have H : (some (wrap64 ((wrap64 ((wrap64 ((wrap64 ((wrap64 ((wrap64 (a0 - 1)) * 365)) + (wrap64 (Int.tdiv (wrap64 (a0 - 1)) 4)))) - (wrap64 (Int.tdiv (wrap64 (a0 - 1)) 100)))) + (wrap64 (Int.tdiv (wrap64 (a0 - 1)) 400)))) - 719162))) = some r := h
  clear h
  obtain rfl := Option.some.inj H
  go_enter Try.func28, Try.ntmps28
  go_wp2
  go_ret
  exact ⟨by first | rfl | (simp; done) | (simp [*]; done), by repeat (first | exact Drawn0.refl _ | apply Drawn0.step)⟩

end Go.Proofs.Yteggifhicmbopaa.Q

/- What some Go functions compute, told as plain Lean functions, each with the proof that the call comes to just that, for all arguments. Conditions: those in the theorems. Written by a program of this session. -/
namespace Go.Proofs.Yteggifhicmbopaa.Q
open Go.RowKit Go.Proofs.YteggifhicmbopaaW.PrintWords Go.Proofs.YteggifhicmbopaaW.PrintLast Go.Proofs.YteggifhicmbopaaW.PrintMore
set_option linter.unusedVariables false
set_option linter.unusedSimpArgs false
attribute [local go_sem] max2_int min2_int max_two min_two max_three min_three max_four min_four   -- for this text's walks alone

/-! ### when_size: function 29 -/
def when_size.j0 : Nat → Int → Int → Bool → Option (Int)
  | 0, _, _, _ => none
  | k + 1, x0, x5, x6 => if x6 = true then (some 30) else (if x5 = 11 then (some 30) else (if x5 = 2 then (if (Int.tmod x0 4) = 0 then (if (Int.tmod x0 100) = 0 then (if (Int.tmod x0 400) = 0 then (some 29) else (some 28)) else (some 29)) else (some 28)) else (some 31)))
def when_size.f (k : Nat) (a0 : Int) (a1 : Int) : Option (Int) := if a1 = 4 then (when_size.j0 k a0 a1 (a1 == 4)) else (if a1 = 6 then (when_size.j0 k a0 a1 (a1 == 6)) else (when_size.j0 k a0 a1 (a1 == 9)))
theorem when_size.mono_l : ∀ k, (∀ y0 y1 y2, LeO (when_size.j0 k y0 y1 y2) (when_size.j0 (k + 1) y0 y1 y2))
  | 0 => fun _ _ _ r h => by simp [when_size.j0] at h
  | k + 1 => by
    have ih0 := when_size.mono_l k
    · intro y0 y1 y2
      unfold when_size.j0
      repeat' first
      | (with_reducible exact ih0 _ _ _)
      | (with_reducible exact LeO.refl _)
      | (with_reducible exact LeO.none _)
      | (with_reducible refine LeO.ite ?_ ?_)
      | (with_reducible refine LeO.bind ?_ (fun _ => ?_))
      | exact ih0 _ _ _
      | exact LeO.none _
      | refine LeO.ite ?_ ?_
      | refine LeO.bind ?_ (fun _ => ?_)
theorem when_size.mono : ∀ a0 a1 k, LeO (when_size.f k a0 a1) (when_size.f (k + 1) a0 a1) := by
  intro a0 a1 k
  have ih0 := when_size.mono_l k
  unfold when_size.f
  repeat' first
      | (with_reducible exact ih0 _ _ _)
      | (with_reducible exact LeO.refl _)
      | (with_reducible exact LeO.none _)
      | (with_reducible refine LeO.ite ?_ ?_)
      | (with_reducible refine LeO.bind ?_ (fun _ => ?_))
      | exact ih0 _ _ _
      | exact LeO.none _
      | refine LeO.ite ?_ ?_
      | refine LeO.bind ?_ (fun _ => ?_)
set_option maxHeartbeats 8000000 in
set_option maxRecDepth 100000 in
theorem when_size.calls (k : Nat) (a0 : Int) (a1 : Int) (r : Int) (w : World) (h : when_size.f k a0 a1 = some r) :
    Calls Try.prog 29 #[.int .i64 a0, .int .i64 a1] w fun e w' => e = .returned (.int .i64 r) ∧ Drawn0 w w' := by
  have H : (if a1 = 4 then (when_size.j0 k a0 a1 (a1 == 4)) else (if a1 = 6 then (when_size.j0 k a0 a1 (a1 == 6)) else (when_size.j0 k a0 a1 (a1 == 9)))) = some r := h
  clear h
  have HC3 := Aside0.mk H
  clear H
  go_enter Try.func29, Try.ntmps29
  go_upto_if 6 with (fail)
  go_cut [6] (fun v6 wc => ∃ (kq : Nat) (x6_2 : Bool), v6 = .bool x6_2 ∧ Aside0 (when_size.j0 kq a0 a1 x6_2 = some r) ∧ Aside0 (kq ≤ k) ∧ Drawn0 w wc)
  case first =>
    have H := HC3.out
    clear HC3
    by_cases c4 : a1 = 4
    · rw [if_pos c4] at H
      have c4b0 : (a1 == 4) = true := beq_iff_eq.mpr c4
      have c4b1 : (a1 != 4) = false := bne_eq_false_iff_eq.mpr c4
      clear c4
      (first | rw [c4b0] | (simp only [i64_w, i32_w]; rw [c4b0]) | skip)
      have H' := Aside0.mk H
      clear H
      go_wp2
      go_meet
      case rel => exact ⟨_, ((a1 == 4)), (by first | rfl | (simp; done) | (simp [*]; done)), H', ⟨by first | omega | exact Nat.le_refl _⟩, by repeat (first | exact Drawn0.refl _ | apply Drawn0.step)⟩
    · rw [if_neg c4] at H
      have c4b0 : (a1 == 4) = false := beq_eq_false_iff_ne.mpr c4
      have c4b1 : (a1 != 4) = true := bne_iff_ne.mpr c4
      (first | rw [c4b0] | (simp only [i64_w, i32_w]; rw [c4b0]) | skip)
      by_cases c5 : a1 = 6
      · rw [if_pos c5] at H
        have c5b0 : (a1 == 6) = true := beq_iff_eq.mpr c5
        have c5b1 : (a1 != 6) = false := bne_eq_false_iff_eq.mpr c5
        clear c5
        have H' := Aside0.mk H
        clear H
        go_wp2
        go_meet
        case rel => exact ⟨_, ((a1 == 6)), (by first | rfl | (simp; done) | (simp [*]; done)), H', ⟨by first | omega | exact Nat.le_refl _⟩, by repeat (first | exact Drawn0.refl _ | apply Drawn0.step)⟩
      · rw [if_neg c5] at H
        have c5b0 : (a1 == 6) = false := beq_eq_false_iff_ne.mpr c5
        have c5b1 : (a1 != 6) = true := bne_iff_ne.mpr c5
        have H' := Aside0.mk H
        clear H
        go_wp2
        go_meet
        case rel => exact ⟨_, ((a1 == 9)), (by first | rfl | (simp; done) | (simp [*]; done)), H', ⟨by first | omega | exact Nat.le_refl _⟩, by repeat (first | exact Drawn0.refl _ | apply Drawn0.step)⟩
  case rest =>
    clear HC3
    try clear c2
    try clear p2
    try clear c4
    try clear c4b0
    try clear c4b1
    try clear c5
    try clear c5b0
    try clear c5b1
    obtain ⟨kq, x6_2, rfl, HA, HJ2, ⟨mc2, rfl⟩⟩ := hcut
    cases kq with
    | zero => exact absurd HA.out (by simp [when_size.j0])
    | succ kj2 =>
      have H := HA.out
      clear HA
      simp only [when_size.j0] at H
      by_cases c6 : x6_2 = true
      · subst c6
        have H1 : (some 30) = some r := by rw [if_pos rfl] at H; exact H
        clear H
        have H := H1
        clear H1
        obtain rfl := Option.some.inj H
        go_wp2
        go_ret
        exact ⟨by first | rfl | (simp; done) | (simp [*]; done), by repeat (first | exact Drawn0.refl _ | apply Drawn0.step)⟩
      · replace c6 := Bool.eq_false_iff.mpr c6
        subst c6
        have H1 : (if a1 = 11 then (some 30) else (if a1 = 2 then (if (Int.tmod a0 4) = 0 then (if (Int.tmod a0 100) = 0 then (if (Int.tmod a0 400) = 0 then (some 29) else (some 28)) else (some 29)) else (some 28)) else (some 31))) = some r := by rw [if_neg (show ¬ (false = true) by decide)] at H; exact H
        clear H
        have H := H1
        clear H1
        by_cases c7 : a1 = 11
        · rw [if_pos c7] at H
          have c7b0 : (a1 == 11) = true := beq_iff_eq.mpr c7
          have c7b1 : (a1 != 11) = false := bne_eq_false_iff_eq.mpr c7
          clear c7
          obtain rfl := Option.some.inj H
          go_wp2
          go_ret
          exact ⟨by first | rfl | (simp; done) | (simp [*]; done), by repeat (first | exact Drawn0.refl _ | apply Drawn0.step)⟩
        · rw [if_neg c7] at H
          have c7b0 : (a1 == 11) = false := beq_eq_false_iff_ne.mpr c7
          have c7b1 : (a1 != 11) = true := bne_iff_ne.mpr c7
          by_cases c8 : a1 = 2
          · rw [if_pos c8] at H
            have c8b0 : (a1 == 2) = true := beq_iff_eq.mpr c8
            have c8b1 : (a1 != 2) = false := bne_eq_false_iff_eq.mpr c8
            clear c8
            by_cases c9 : (Int.tmod a0 4) = 0
            · rw [if_pos c9] at H
              have c9b0 : ((Int.tmod a0 4) == 0) = true := beq_iff_eq.mpr c9
              have c9b1 : ((Int.tmod a0 4) != 0) = false := bne_eq_false_iff_eq.mpr c9
              clear c9
              by_cases c10 : (Int.tmod a0 100) = 0
              · rw [if_pos c10] at H
                have c10b0 : ((Int.tmod a0 100) == 0) = true := beq_iff_eq.mpr c10
                have c10b1 : ((Int.tmod a0 100) != 0) = false := bne_eq_false_iff_eq.mpr c10
                clear c10
                by_cases c11 : (Int.tmod a0 400) = 0
                · rw [if_pos c11] at H
                  have c11b0 : ((Int.tmod a0 400) == 0) = true := beq_iff_eq.mpr c11
                  have c11b1 : ((Int.tmod a0 400) != 0) = false := bne_eq_false_iff_eq.mpr c11
                  clear c11
                  obtain rfl := Option.some.inj H
                  go_wp2
                  go_ret
                  exact ⟨by first | rfl | (simp; done) | (simp [*]; done), by repeat (first | exact Drawn0.refl _ | apply Drawn0.step)⟩
                · rw [if_neg c11] at H
                  have c11b0 : ((Int.tmod a0 400) == 0) = false := beq_eq_false_iff_ne.mpr c11
                  have c11b1 : ((Int.tmod a0 400) != 0) = true := bne_iff_ne.mpr c11
                  obtain rfl := Option.some.inj H
                  go_wp2
                  go_ret
                  exact ⟨by first | rfl | (simp; done) | (simp [*]; done), by repeat (first | exact Drawn0.refl _ | apply Drawn0.step)⟩
              · rw [if_neg c10] at H
                have c10b0 : ((Int.tmod a0 100) == 0) = false := beq_eq_false_iff_ne.mpr c10
                have c10b1 : ((Int.tmod a0 100) != 0) = true := bne_iff_ne.mpr c10
                obtain rfl := Option.some.inj H
                go_wp2
                go_ret
                exact ⟨by first | rfl | (simp; done) | (simp [*]; done), by repeat (first | exact Drawn0.refl _ | apply Drawn0.step)⟩
            · rw [if_neg c9] at H
              have c9b0 : ((Int.tmod a0 4) == 0) = false := beq_eq_false_iff_ne.mpr c9
              have c9b1 : ((Int.tmod a0 4) != 0) = true := bne_iff_ne.mpr c9
              obtain rfl := Option.some.inj H
              go_wp2
              go_ret
              exact ⟨by first | rfl | (simp; done) | (simp [*]; done), by repeat (first | exact Drawn0.refl _ | apply Drawn0.step)⟩
          · rw [if_neg c8] at H
            have c8b0 : (a1 == 2) = false := beq_eq_false_iff_ne.mpr c8
            have c8b1 : (a1 != 2) = true := bne_iff_ne.mpr c8
            obtain rfl := Option.some.inj H
            go_wp2
            go_ret
            exact ⟨by first | rfl | (simp; done) | (simp [*]; done), by repeat (first | exact Drawn0.refl _ | apply Drawn0.step)⟩

end Go.Proofs.Yteggifhicmbopaa.Q

/- What some Go functions compute, told as plain Lean functions, each with the proof that the call comes to just that, for all arguments. Conditions: those in the theorems. Written by a program of this session. -/
namespace Go.Proofs.Yteggifhicmbopaa.Q
open Go.RowKit Go.Proofs.YteggifhicmbopaaW.PrintWords Go.Proofs.YteggifhicmbopaaW.PrintLast Go.Proofs.YteggifhicmbopaaW.PrintMore
set_option linter.unusedVariables false
set_option linter.unusedSimpArgs false
attribute [local go_sem] max2_int min2_int max_two min_two max_three min_three max_four min_four   -- for this text's walks alone

/-! ### when_Civil: function 9 -/
mutual
def when_Civil.l0 : Nat → Int → Int → Int → Option (Int × Int × Int × Int × Int × Int × Bool)
  | 0, _, _, _ => none
  | k + 1, x0, x2, x9 => (when_before.f (wrap64 (x2 + 1))).bind fun t102 => (if t102 ≤ x9 then (when_Civil.l0 k x0 (wrap64 (x2 + 1)) x9) else ((when_before.f x2).bind fun t103 => (when_Civil.l1 k x0 x2 1 (wrap64 (x9 - t103)))))
def when_Civil.l1 : Nat → Int → Int → Int → Int → Option (Int × Int × Int × Int × Int × Int × Bool)
  | 0, _, _, _, _ => none
  | k + 1, x0, x2, x3, x9 => (when_size.f k x2 x3).bind fun t104 => (if x9 ≥ t104 then ((when_size.f k x2 x3).bind fun t105 => (when_Civil.l1 k x0 x2 (wrap64 (x3 + 1)) (wrap64 (x9 - t105)))) else (some (x2, x3, wrap64 (x9 + 1), Int.tmod (wrap64 (Int.tdiv x0 3600)) 24, Int.tmod (wrap64 (Int.tdiv x0 60)) 60, Int.tmod x0 60, true)))
end
def when_Civil.f (k : Nat) (a0 : Int) : Option (Int × Int × Int × Int × Int × Int × Bool) := (when_is.f a0).bind fun t101 => (if t101 = true then (when_Civil.l0 k a0 (wrap64 (1970 + (wrap64 (Int.tdiv (wrap64 (Int.tdiv a0 86400)) 366)))) (wrap64 (Int.tdiv a0 86400))) else (some (0, 0, 0, 0, 0, 0, false)))
theorem when_Civil.mono_l : ∀ k, (∀ y0 y1 y2, LeO (when_Civil.l0 k y0 y1 y2) (when_Civil.l0 (k + 1) y0 y1 y2)) ∧ (∀ y0 y1 y2 y3, LeO (when_Civil.l1 k y0 y1 y2 y3) (when_Civil.l1 (k + 1) y0 y1 y2 y3))
  | 0 => ⟨fun _ _ _ r h => by simp [when_Civil.l0] at h, fun _ _ _ _ r h => by simp [when_Civil.l1] at h⟩
  | k + 1 => by
    obtain ⟨ih0, ih1⟩ := when_Civil.mono_l k
    refine ⟨?_, ?_⟩
    · intro y0 y1 y2
      unfold when_Civil.l0
      repeat' first
      | (with_reducible exact ih0 _ _ _)
      | (with_reducible exact ih1 _ _ _ _)
      | (with_reducible exact when_size.mono _ _ _)
      | (with_reducible exact LeO.refl _)
      | (with_reducible exact LeO.none _)
      | (with_reducible refine LeO.ite ?_ ?_)
      | (with_reducible refine LeO.bind ?_ (fun _ => ?_))
      | exact ih0 _ _ _
      | exact ih1 _ _ _ _
      | exact when_size.mono _ _ _
      | exact LeO.none _
      | refine LeO.ite ?_ ?_
      | refine LeO.bind ?_ (fun _ => ?_)
    · intro y0 y1 y2 y3
      unfold when_Civil.l1
      repeat' first
      | (with_reducible exact ih0 _ _ _)
      | (with_reducible exact ih1 _ _ _ _)
      | (with_reducible exact when_size.mono _ _ _)
      | (with_reducible exact LeO.refl _)
      | (with_reducible exact LeO.none _)
      | (with_reducible refine LeO.ite ?_ ?_)
      | (with_reducible refine LeO.bind ?_ (fun _ => ?_))
      | exact ih0 _ _ _
      | exact ih1 _ _ _ _
      | exact when_size.mono _ _ _
      | exact LeO.none _
      | refine LeO.ite ?_ ?_
      | refine LeO.bind ?_ (fun _ => ?_)
theorem when_Civil.mono : ∀ a0 k, LeO (when_Civil.f k a0) (when_Civil.f (k + 1) a0) := by
  intro a0 k
  obtain ⟨ih0, ih1⟩ := when_Civil.mono_l k
  unfold when_Civil.f
  repeat' first
      | (with_reducible exact ih0 _ _ _)
      | (with_reducible exact ih1 _ _ _ _)
      | (with_reducible exact when_size.mono _ _ _)
      | (with_reducible exact LeO.refl _)
      | (with_reducible exact LeO.none _)
      | (with_reducible refine LeO.ite ?_ ?_)
      | (with_reducible refine LeO.bind ?_ (fun _ => ?_))
      | exact ih0 _ _ _
      | exact ih1 _ _ _ _
      | exact when_size.mono _ _ _
      | exact LeO.none _
      | refine LeO.ite ?_ ?_
      | refine LeO.bind ?_ (fun _ => ?_)
set_option maxHeartbeats 8000000 in
set_option maxRecDepth 100000 in
theorem when_Civil.calls (k : Nat) (a0 : Int) (r1 : Int) (r2 : Int) (r3 : Int) (r4 : Int) (r5 : Int) (r6 : Int) (r7 : Bool) (w : World) (h : when_Civil.f k a0 = some (r1, r2, r3, r4, r5, r6, r7)) :
    Calls Try.prog 9 #[.int .i64 a0] w fun e w' => e = .returned (.tuple #[.int .i64 r1, .int .i64 r2, .int .i64 r3, .int .i64 r4, .int .i64 r5, .int .i64 r6, .bool r7]) ∧ Drawn0 w w' := by
  have H : ((when_is.f a0).bind fun t101 => (if t101 = true then (when_Civil.l0 k a0 (wrap64 (1970 + (wrap64 (Int.tdiv (wrap64 (Int.tdiv a0 86400)) 366)))) (wrap64 (Int.tdiv a0 86400))) else (some (0, 0, 0, 0, 0, 0, false)))) = some (r1, r2, r3, r4, r5, r6, r7) := h
  clear h
  replace H := Option.bind_eq_some_iff.mp H
  obtain ⟨t101, A20, H⟩ := H
  replace H : (if t101 = true then (when_Civil.l0 k a0 (wrap64 (1970 + (wrap64 (Int.tdiv (wrap64 (Int.tdiv a0 86400)) 366)))) (wrap64 (Int.tdiv a0 86400))) else (some (0, 0, 0, 0, 0, 0, false))) = some (r1, r2, r3, r4, r5, r6, r7) := H
  have A2 := Aside0.mk A20
  clear A20
  by_cases c3 : t101 = true
  · subst c3
    have H1 : (when_Civil.l0 k a0 (wrap64 (1970 + (wrap64 (Int.tdiv (wrap64 (Int.tdiv a0 86400)) 366)))) (wrap64 (Int.tdiv a0 86400))) = some (r1, r2, r3, r4, r5, r6, r7) := by rw [if_pos rfl] at H; exact H
    clear H
    have H := H1
    clear H1
    have H' := Aside0.mk H
    clear H
    go_enter Try.func9, Try.ntmps9
    go_wp2_with (first | ((with_reducible refine gate_callee (f := 27) rfl ?_); refine goesL_ (some 11) rfl rfl Try.func27 (by kernel_rfl) rfl #[.int .i64 a0] rfl (by (try simp only [List.map_toArray, List.map_cons, List.map_nil]); first | done | rfl | (simp only [List.length_drop, List.length_take]; rfl)) ?_; (with_reducible refine (when_is.calls a0 true _ A2.out).mono ?_); rintro e w' ⟨rfl, ⟨nd, rfl⟩⟩; refine ⟨_, rfl, ?_⟩))
    go_loopg [2] k (fun kq v2 w' => ∃ (x2_1 : Int), v2 = .int .i64 x2_1 ∧ Aside0 (when_Civil.l0 kq a0 x2_1 (wrap64 (Int.tdiv a0 86400)) = some (r1, r2, r3, r4, r5, r6, r7)) ∧ Aside0 (kq ≤ k) ∧ Drawn0 w w')
    case atStart => exact ⟨(wrap64 (1970 + (wrap64 (Int.tdiv (wrap64 (Int.tdiv a0 86400)) 366)))), (by first | rfl | (simp; done) | (simp [*]; done)), H', ⟨Nat.le_refl _⟩, by repeat (first | exact Drawn0.refl _ | apply Drawn0.step)⟩
    case round =>
      clear H'
      try clear c2
      try clear p2
      try clear c3
      obtain ⟨x2_1, rfl, HA, HK1, ⟨m1, rfl⟩⟩ := hrel
      cases gk with
      | zero => exact absurd HA.out (by simp [when_Civil.l0])
      | succ k1 =>
        have H := HA.out
        clear HA
        simp only [when_Civil.l0] at H
        replace H := Option.bind_eq_some_iff.mp H
        obtain ⟨t102, A40, H⟩ := H
        replace H : (if t102 ≤ (wrap64 (Int.tdiv a0 86400)) then (when_Civil.l0 k1 a0 (wrap64 (x2_1 + 1)) (wrap64 (Int.tdiv a0 86400))) else ((when_before.f x2_1).bind fun t103 => (when_Civil.l1 k1 a0 x2_1 1 (wrap64 ((wrap64 (Int.tdiv a0 86400)) - t103))))) = some (r1, r2, r3, r4, r5, r6, r7) := H
        have A4 := Aside0.mk A40
        clear A40
        by_cases c5 : t102 ≤ (wrap64 (Int.tdiv a0 86400))
        · rw [if_pos c5] at H
          have c5b0 : decide (t102 ≤ (wrap64 (Int.tdiv a0 86400))) = true := decide_eq_true c5
          clear c5
          have H' := Aside0.mk H
          clear H
          go_wp2_with (first | ((with_reducible refine gate_callee (f := 28) rfl ?_); refine goesL_ (some 20) rfl rfl Try.func28 (by kernel_rfl) rfl #[.int .i64 (wrap64 (x2_1 + 1))] rfl (by (try simp only [List.map_toArray, List.map_cons, List.map_nil]); first | done | rfl | (simp only [List.length_drop, List.length_take]; rfl)) ?_; (with_reducible refine (when_before.calls (wrap64 (x2_1 + 1)) t102 _ A4.out).mono ?_); rintro e w' ⟨rfl, ⟨nd, rfl⟩⟩; refine ⟨_, rfl, ?_⟩))
          go_roundg k1
          case measure => have := HK1.out; omega
          case rel => exact ⟨(wrap64 (x2_1 + 1)), (by first | rfl | (simp; done) | (simp [*]; done)), H', ⟨by have := HK1.out; omega⟩, by repeat (first | exact Drawn0.refl _ | apply Drawn0.step)⟩
        · rw [if_neg c5] at H
          have c5b0 : decide (t102 ≤ (wrap64 (Int.tdiv a0 86400))) = false := decide_eq_false c5
          clear c5
          replace H := Option.bind_eq_some_iff.mp H
          obtain ⟨t103, A60, H⟩ := H
          replace H : (when_Civil.l1 k1 a0 x2_1 1 (wrap64 ((wrap64 (Int.tdiv a0 86400)) - t103))) = some (r1, r2, r3, r4, r5, r6, r7) := H
          have A6 := Aside0.mk A60
          clear A60
          have H' := Aside0.mk H
          clear H
          go_wp2_with (first | ((with_reducible refine gate_callee (f := 28) rfl ?_); refine goesL_ (some 20) rfl rfl Try.func28 (by kernel_rfl) rfl #[.int .i64 (wrap64 (x2_1 + 1))] rfl (by (try simp only [List.map_toArray, List.map_cons, List.map_nil]); first | done | rfl | (simp only [List.length_drop, List.length_take]; rfl)) ?_; (with_reducible refine (when_before.calls (wrap64 (x2_1 + 1)) t102 _ A4.out).mono ?_); rintro e w' ⟨rfl, ⟨nd, rfl⟩⟩; refine ⟨_, rfl, ?_⟩) | ((with_reducible refine gate_callee (f := 28) rfl ?_); refine goesL_ (some 27) rfl rfl Try.func28 (by kernel_rfl) rfl #[.int .i64 x2_1] rfl (by (try simp only [List.map_toArray, List.map_cons, List.map_nil]); first | done | rfl | (simp only [List.length_drop, List.length_take]; rfl)) ?_; (with_reducible refine (when_before.calls x2_1 t103 _ A6.out).mono ?_); rintro e w' ⟨rfl, ⟨nd, rfl⟩⟩; refine ⟨_, rfl, ?_⟩))
          go_loopg [3, 9] k1 (fun kq v3 v9 w' => ∃ (x3_2 : Int) (x9_2 : Int), v3 = .int .i64 x3_2 ∧ v9 = .int .i64 x9_2 ∧ Aside0 (when_Civil.l1 kq a0 x2_1 x3_2 x9_2 = some (r1, r2, r3, r4, r5, r6, r7)) ∧ Aside0 (kq ≤ k1) ∧ Drawn0 w w')
          case atStart => exact ⟨(1), (wrap64 ((wrap64 (Int.tdiv a0 86400)) - t103)), (by first | rfl | (simp; done) | (simp [*]; done)), (by first | rfl | (simp; done) | (simp [*]; done)), H', ⟨Nat.le_refl _⟩, by repeat (first | exact Drawn0.refl _ | apply Drawn0.step)⟩
          case round =>
            clear H'
            try clear c2
            try clear p2
            try clear c3
            try clear c5
            try clear c5b0
            try clear p6
            try clear p2
            obtain ⟨x3_2, x9_2, rfl, rfl, HA, HK2, ⟨m2, rfl⟩⟩ := hrel
            cases gk with
            | zero => exact absurd HA.out (by simp [when_Civil.l1])
            | succ k2 =>
              have H := HA.out
              clear HA
              simp only [when_Civil.l1] at H
              replace H := Option.bind_eq_some_iff.mp H
              obtain ⟨t104, A70, H⟩ := H
              replace H : (if x9_2 ≥ t104 then ((when_size.f k2 x2_1 x3_2).bind fun t105 => (when_Civil.l1 k2 a0 x2_1 (wrap64 (x3_2 + 1)) (wrap64 (x9_2 - t105)))) else (some (x2_1, x3_2, wrap64 (x9_2 + 1), Int.tmod (wrap64 (Int.tdiv a0 3600)) 24, Int.tmod (wrap64 (Int.tdiv a0 60)) 60, Int.tmod a0 60, true))) = some (r1, r2, r3, r4, r5, r6, r7) := H
              have A7 := Aside0.mk A70
              clear A70
              by_cases c8 : x9_2 ≥ t104
              · rw [if_pos c8] at H
                have c8b0 : decide (t104 ≤ x9_2) = true := decide_eq_true c8
                clear c8
                replace H := Option.bind_eq_some_iff.mp H
                obtain ⟨t105, A90, H⟩ := H
                replace H : (when_Civil.l1 k2 a0 x2_1 (wrap64 (x3_2 + 1)) (wrap64 (x9_2 - t105))) = some (r1, r2, r3, r4, r5, r6, r7) := H
                have A9 := Aside0.mk A90
                clear A90
                have H' := Aside0.mk H
                clear H
                go_wp2_with (first | ((with_reducible refine gate_callee (f := 29) rfl ?_); refine goesL_ (some 32) rfl rfl Try.func29 (by kernel_rfl) rfl #[.int .i64 x2_1, .int .i64 x3_2] rfl (by (try simp only [List.map_toArray, List.map_cons, List.map_nil]); first | done | rfl | (simp only [List.length_drop, List.length_take]; rfl)) ?_; (with_reducible refine (when_size.calls k2 x2_1 x3_2 t104 _ A7.out).mono ?_); rintro e w' ⟨rfl, ⟨nd, rfl⟩⟩; refine ⟨_, rfl, ?_⟩) | ((with_reducible refine gate_callee (f := 29) rfl ?_); refine goesL_ (some 37) rfl rfl Try.func29 (by kernel_rfl) rfl #[.int .i64 x2_1, .int .i64 x3_2] rfl (by (try simp only [List.map_toArray, List.map_cons, List.map_nil]); first | done | rfl | (simp only [List.length_drop, List.length_take]; rfl)) ?_; (with_reducible refine (when_size.calls k2 x2_1 x3_2 t105 _ A9.out).mono ?_); rintro e w' ⟨rfl, ⟨nd, rfl⟩⟩; refine ⟨_, rfl, ?_⟩))
                go_roundg k2
                case measure => have := HK1.out; have := HK2.out; omega
                case rel => exact ⟨(wrap64 (x3_2 + 1)), (wrap64 (x9_2 - t105)), (by first | rfl | (simp; done) | (simp [*]; done)), (by first | rfl | (simp; done) | (simp [*]; done)), H', ⟨by have := HK1.out; have := HK2.out; omega⟩, by repeat (first | exact Drawn0.refl _ | apply Drawn0.step)⟩
              · rw [if_neg c8] at H
                have c8b0 : decide (t104 ≤ x9_2) = false := decide_eq_false c8
                clear c8
                simp only [Option.some.injEq, Prod.mk.injEq] at H
                obtain ⟨rfl, rfl, rfl, rfl, rfl, rfl, rfl⟩ := H
                go_wp2_with (first | ((with_reducible refine gate_callee (f := 29) rfl ?_); refine goesL_ (some 32) rfl rfl Try.func29 (by kernel_rfl) rfl #[.int .i64 x2_1, .int .i64 x3_2] rfl (by (try simp only [List.map_toArray, List.map_cons, List.map_nil]); first | done | rfl | (simp only [List.length_drop, List.length_take]; rfl)) ?_; (with_reducible refine (when_size.calls k2 x2_1 x3_2 t104 _ A7.out).mono ?_); rintro e w' ⟨rfl, ⟨nd, rfl⟩⟩; refine ⟨_, rfl, ?_⟩))
                refine bodyPost_ret (results_list (rs := [.tmp 2, .tmp 3, .tmp 4, .tmp 5, .tmp 6, .tmp 7, .tmp 8]) rfl (by simp) (.tmp (.tmp (.tmp (.tmp (.tmp (.tmp (.tmp .nil)))))))) rfl ?_
                exact ⟨by first | rfl | (simp; done) | (simp [*]; done), by repeat (first | exact Drawn0.refl _ | apply Drawn0.step)⟩
  · replace c3 := Bool.eq_false_iff.mpr c3
    subst c3
    have H1 : (some (0, 0, 0, 0, 0, 0, false)) = some (r1, r2, r3, r4, r5, r6, r7) := by rw [if_neg (show ¬ (false = true) by decide)] at H; exact H
    clear H
    have H := H1
    clear H1
    simp only [Option.some.injEq, Prod.mk.injEq] at H
    obtain ⟨rfl, rfl, rfl, rfl, rfl, rfl, rfl⟩ := H
    go_enter Try.func9, Try.ntmps9
    go_wp2_with (first | ((with_reducible refine gate_callee (f := 27) rfl ?_); refine goesL_ (some 11) rfl rfl Try.func27 (by kernel_rfl) rfl #[.int .i64 a0] rfl (by (try simp only [List.map_toArray, List.map_cons, List.map_nil]); first | done | rfl | (simp only [List.length_drop, List.length_take]; rfl)) ?_; (with_reducible refine (when_is.calls a0 false _ A2.out).mono ?_); rintro e w' ⟨rfl, ⟨nd, rfl⟩⟩; refine ⟨_, rfl, ?_⟩))
    refine bodyPost_ret (results_list (rs := [.tmp 2, .tmp 3, .tmp 4, .tmp 5, .tmp 6, .tmp 7, .tmp 8]) rfl (by simp) (.tmp (.tmp (.tmp (.tmp (.tmp (.tmp (.tmp .nil)))))))) rfl ?_
    exact ⟨by first | rfl | (simp; done) | (simp [*]; done), by repeat (first | exact Drawn0.refl _ | apply Drawn0.step)⟩

end Go.Proofs.Yteggifhicmbopaa.Q

/- What some Go functions compute, told as plain Lean functions, each with the proof that the call comes to just that, for all arguments. Conditions: those in the theorems. Written by a program of this session. -/
namespace Go.Proofs.Yteggifhicmbopaa.Q
open Go.RowKit Go.Proofs.YteggifhicmbopaaW.PrintWords Go.Proofs.YteggifhicmbopaaW.PrintLast Go.Proofs.YteggifhicmbopaaW.PrintMore
set_option linter.unusedVariables false
set_option linter.unusedSimpArgs false
attribute [local go_sem] max2_int min2_int max_two min_two max_three min_three max_four min_four   -- for this text's walks alone

/-! ### when_Of_1: function 32 -/
def when_Of_1.f (a0 : Int) (a1 : Int) (a2 : Int) : Option (Bool) := if a0 ≥ a1 then (some (decide (a0 ≤ a2))) else (some false)
set_option maxHeartbeats 8000000 in
set_option maxRecDepth 100000 in
theorem when_Of_1.calls (a0 : Int) (a1 : Int) (a2 : Int) (r : Bool) (w : World) (h : when_Of_1.f a0 a1 a2 = some r) :
    Calls Try.prog 32 #[.int .i64 a0, .int .i64 a1, .int .i64 a2] w fun e w' => e = .returned (.bool r) ∧ Drawn0 w w' := by
  have H : (if a0 ≥ a1 then (some (decide (a0 ≤ a2))) else (some false)) = some r := h
  clear h
  by_cases c4 : a0 ≥ a1
  · rw [if_pos c4] at H
    have c4b0 : decide (a1 ≤ a0) = true := decide_eq_true c4
    clear c4
    obtain rfl := Option.some.inj H
    go_enter Try.func32, Try.ntmps32
    go_wp2
    go_ret
    exact ⟨by first | rfl | (simp; done) | (simp [*]; done), by repeat (first | exact Drawn0.refl _ | apply Drawn0.step)⟩
  · rw [if_neg c4] at H
    have c4b0 : decide (a1 ≤ a0) = false := decide_eq_false c4
    clear c4
    obtain rfl := Option.some.inj H
    go_enter Try.func32, Try.ntmps32
    go_wp2
    go_ret
    exact ⟨by first | rfl | (simp; done) | (simp [*]; done), by repeat (first | exact Drawn0.refl _ | apply Drawn0.step)⟩

end Go.Proofs.Yteggifhicmbopaa.Q

/- What some Go functions compute, told as plain Lean functions, each with the proof that the call comes to just that, for all arguments. Conditions: those in the theorems. Written by a program of this session. -/
namespace Go.Proofs.Yteggifhicmbopaa.Q
open Go.RowKit Go.Proofs.YteggifhicmbopaaW.PrintWords Go.Proofs.YteggifhicmbopaaW.PrintLast Go.Proofs.YteggifhicmbopaaW.PrintMore
set_option linter.unusedVariables false
set_option linter.unusedSimpArgs false
attribute [local go_sem] max2_int min2_int max_two min_two max_three min_three max_four min_four   -- for this text's walks alone

/-! ### when_Of: function 11 -/
mutual
def when_Of.j0 : Nat → Int → Int → Int → Int → Int → Int → Bool → Option (Int × Bool)
  | 0, _, _, _, _, _, _, _ => none
  | k + 1, x0, x1, x2, x3, x4, x5, x53 => if x53 = true then (some (0, false)) else ((when_before.f x0).bind fun t142 => (when_Of.l0 k x0 x1 x3 x4 x5 (wrap64 ((wrap64 (t142 + x2)) - 1)) 1))
def when_Of.l0 : Nat → Int → Int → Int → Int → Int → Int → Int → Option (Int × Bool)
  | 0, _, _, _, _, _, _, _ => none
  | k + 1, x0, x1, x3, x4, x5, x15, x16 => if x16 < x1 then ((when_size.f k x0 x16).bind fun t143 => (when_Of.l0 k x0 x1 x3 x4 x5 (wrap64 (x15 + t143)) (wrap64 (x16 + 1)))) else (some (wrap64 ((wrap64 ((wrap64 ((wrap64 ((wrap64 ((wrap64 (x15 * 24)) + x3)) * 60)) + x4)) * 60)) + x5), true))
end
def when_Of.f (k : Nat) (a0 : Int) (a1 : Int) (a2 : Int) (a3 : Int) (a4 : Int) (a5 : Int) : Option (Int × Bool) := (when_Of_1.f a0 1970 9999).bind fun t135 => (if t135 = true then ((when_Of_1.f a1 1 12).bind fun t136 => (if t136 = true then ((when_size.f k a0 a1).bind fun t137 => ((when_Of_1.f a2 1 t137).bind fun t138 => (if t138 = true then ((when_Of_1.f a3 0 23).bind fun t139 => (if t139 = true then ((when_Of_1.f a4 0 59).bind fun t140 => (if t140 = true then ((when_Of_1.f a5 0 59).bind fun t141 => (when_Of.j0 k a0 a1 a2 a3 a4 a5 (!t141))) else (when_Of.j0 k a0 a1 a2 a3 a4 a5 true))) else (when_Of.j0 k a0 a1 a2 a3 a4 a5 true))) else (when_Of.j0 k a0 a1 a2 a3 a4 a5 true)))) else (when_Of.j0 k a0 a1 a2 a3 a4 a5 true))) else (when_Of.j0 k a0 a1 a2 a3 a4 a5 true))
theorem when_Of.mono_l : ∀ k, (∀ y0 y1 y2 y3 y4 y5 y6, LeO (when_Of.j0 k y0 y1 y2 y3 y4 y5 y6) (when_Of.j0 (k + 1) y0 y1 y2 y3 y4 y5 y6)) ∧ (∀ y0 y1 y2 y3 y4 y5 y6, LeO (when_Of.l0 k y0 y1 y2 y3 y4 y5 y6) (when_Of.l0 (k + 1) y0 y1 y2 y3 y4 y5 y6))
  | 0 => ⟨fun _ _ _ _ _ _ _ r h => by simp [when_Of.j0] at h, fun _ _ _ _ _ _ _ r h => by simp [when_Of.l0] at h⟩
  | k + 1 => by
    obtain ⟨ih0, ih1⟩ := when_Of.mono_l k
    refine ⟨?_, ?_⟩
    · intro y0 y1 y2 y3 y4 y5 y6
      unfold when_Of.j0
      repeat' first
      | (with_reducible exact ih0 _ _ _ _ _ _ _)
      | (with_reducible exact ih1 _ _ _ _ _ _ _)
      | (with_reducible exact when_size.mono _ _ _)
      | (with_reducible exact LeO.refl _)
      | (with_reducible exact LeO.none _)
      | (with_reducible refine LeO.ite ?_ ?_)
      | (with_reducible refine LeO.bind ?_ (fun _ => ?_))
      | exact ih0 _ _ _ _ _ _ _
      | exact ih1 _ _ _ _ _ _ _
      | exact when_size.mono _ _ _
      | exact LeO.none _
      | refine LeO.ite ?_ ?_
      | refine LeO.bind ?_ (fun _ => ?_)
    · intro y0 y1 y2 y3 y4 y5 y6
      unfold when_Of.l0
      repeat' first
      | (with_reducible exact ih0 _ _ _ _ _ _ _)
      | (with_reducible exact ih1 _ _ _ _ _ _ _)
      | (with_reducible exact when_size.mono _ _ _)
      | (with_reducible exact LeO.refl _)
      | (with_reducible exact LeO.none _)
      | (with_reducible refine LeO.ite ?_ ?_)
      | (with_reducible refine LeO.bind ?_ (fun _ => ?_))
      | exact ih0 _ _ _ _ _ _ _
      | exact ih1 _ _ _ _ _ _ _
      | exact when_size.mono _ _ _
      | exact LeO.none _
      | refine LeO.ite ?_ ?_
      | refine LeO.bind ?_ (fun _ => ?_)
theorem when_Of.mono : ∀ a0 a1 a2 a3 a4 a5 k, LeO (when_Of.f k a0 a1 a2 a3 a4 a5) (when_Of.f (k + 1) a0 a1 a2 a3 a4 a5) := by
  intro a0 a1 a2 a3 a4 a5 k
  obtain ⟨ih0, ih1⟩ := when_Of.mono_l k
  unfold when_Of.f
  repeat' first
      | (with_reducible exact ih0 _ _ _ _ _ _ _)
      | (with_reducible exact ih1 _ _ _ _ _ _ _)
      | (with_reducible exact when_size.mono _ _ _)
      | (with_reducible exact LeO.refl _)
      | (with_reducible exact LeO.none _)
      | (with_reducible refine LeO.ite ?_ ?_)
      | (with_reducible refine LeO.bind ?_ (fun _ => ?_))
      | exact ih0 _ _ _ _ _ _ _
      | exact ih1 _ _ _ _ _ _ _
      | exact when_size.mono _ _ _
      | exact LeO.none _
      | refine LeO.ite ?_ ?_
      | refine LeO.bind ?_ (fun _ => ?_)
set_option maxHeartbeats 8000000 in
set_option maxRecDepth 100000 in
theorem when_Of.calls (k : Nat) (a0 : Int) (a1 : Int) (a2 : Int) (a3 : Int) (a4 : Int) (a5 : Int) (r1 : Int) (r2 : Bool) (w : World) (h : when_Of.f k a0 a1 a2 a3 a4 a5 = some (r1, r2)) :
    Calls Try.prog 11 #[.int .i64 a0, .int .i64 a1, .int .i64 a2, .int .i64 a3, .int .i64 a4, .int .i64 a5] w fun e w' => e = .returned (.tuple #[.int .i64 r1, .bool r2]) ∧ Drawn0 w w' := by
  have H : ((when_Of_1.f a0 1970 9999).bind fun t135 => (if t135 = true then ((when_Of_1.f a1 1 12).bind fun t136 => (if t136 = true then ((when_size.f k a0 a1).bind fun t137 => ((when_Of_1.f a2 1 t137).bind fun t138 => (if t138 = true then ((when_Of_1.f a3 0 23).bind fun t139 => (if t139 = true then ((when_Of_1.f a4 0 59).bind fun t140 => (if t140 = true then ((when_Of_1.f a5 0 59).bind fun t141 => (when_Of.j0 k a0 a1 a2 a3 a4 a5 (!t141))) else (when_Of.j0 k a0 a1 a2 a3 a4 a5 true))) else (when_Of.j0 k a0 a1 a2 a3 a4 a5 true))) else (when_Of.j0 k a0 a1 a2 a3 a4 a5 true)))) else (when_Of.j0 k a0 a1 a2 a3 a4 a5 true))) else (when_Of.j0 k a0 a1 a2 a3 a4 a5 true))) = some (r1, r2) := h
  clear h
  have HC7 := Aside0.mk H
  clear H
  go_enter Try.func11, Try.ntmps11
  go_upto_region 2 with (fail)
  go_cut [53] (fun v53 wc => ∃ (kq : Nat) (x53_6 : Bool), v53 = .bool x53_6 ∧ Aside0 (when_Of.j0 kq a0 a1 a2 a3 a4 a5 x53_6 = some (r1, r2)) ∧ Aside0 (kq ≤ k) ∧ Drawn0 w wc)
  case first =>
    have H := HC7.out
    clear HC7
    replace H := Option.bind_eq_some_iff.mp H
    obtain ⟨t135, A80, H⟩ := H
    replace H : (if t135 = true then ((when_Of_1.f a1 1 12).bind fun t136 => (if t136 = true then ((when_size.f k a0 a1).bind fun t137 => ((when_Of_1.f a2 1 t137).bind fun t138 => (if t138 = true then ((when_Of_1.f a3 0 23).bind fun t139 => (if t139 = true then ((when_Of_1.f a4 0 59).bind fun t140 => (if t140 = true then ((when_Of_1.f a5 0 59).bind fun t141 => (when_Of.j0 k a0 a1 a2 a3 a4 a5 (!t141))) else (when_Of.j0 k a0 a1 a2 a3 a4 a5 true))) else (when_Of.j0 k a0 a1 a2 a3 a4 a5 true))) else (when_Of.j0 k a0 a1 a2 a3 a4 a5 true)))) else (when_Of.j0 k a0 a1 a2 a3 a4 a5 true))) else (when_Of.j0 k a0 a1 a2 a3 a4 a5 true)) = some (r1, r2) := H
    have A8 := Aside0.mk A80
    clear A80
    by_cases c9 : t135 = true
    · subst c9
      have H1 : ((when_Of_1.f a1 1 12).bind fun t136 => (if t136 = true then ((when_size.f k a0 a1).bind fun t137 => ((when_Of_1.f a2 1 t137).bind fun t138 => (if t138 = true then ((when_Of_1.f a3 0 23).bind fun t139 => (if t139 = true then ((when_Of_1.f a4 0 59).bind fun t140 => (if t140 = true then ((when_Of_1.f a5 0 59).bind fun t141 => (when_Of.j0 k a0 a1 a2 a3 a4 a5 (!t141))) else (when_Of.j0 k a0 a1 a2 a3 a4 a5 true))) else (when_Of.j0 k a0 a1 a2 a3 a4 a5 true))) else (when_Of.j0 k a0 a1 a2 a3 a4 a5 true)))) else (when_Of.j0 k a0 a1 a2 a3 a4 a5 true))) = some (r1, r2) := by rw [if_pos rfl] at H; exact H
      clear H
      have H := H1
      clear H1
      replace H := Option.bind_eq_some_iff.mp H
      obtain ⟨t136, A100, H⟩ := H
      replace H : (if t136 = true then ((when_size.f k a0 a1).bind fun t137 => ((when_Of_1.f a2 1 t137).bind fun t138 => (if t138 = true then ((when_Of_1.f a3 0 23).bind fun t139 => (if t139 = true then ((when_Of_1.f a4 0 59).bind fun t140 => (if t140 = true then ((when_Of_1.f a5 0 59).bind fun t141 => (when_Of.j0 k a0 a1 a2 a3 a4 a5 (!t141))) else (when_Of.j0 k a0 a1 a2 a3 a4 a5 true))) else (when_Of.j0 k a0 a1 a2 a3 a4 a5 true))) else (when_Of.j0 k a0 a1 a2 a3 a4 a5 true)))) else (when_Of.j0 k a0 a1 a2 a3 a4 a5 true)) = some (r1, r2) := H
      have A10 := Aside0.mk A100
      clear A100
      by_cases c11 : t136 = true
      · subst c11
        have H1 : ((when_size.f k a0 a1).bind fun t137 => ((when_Of_1.f a2 1 t137).bind fun t138 => (if t138 = true then ((when_Of_1.f a3 0 23).bind fun t139 => (if t139 = true then ((when_Of_1.f a4 0 59).bind fun t140 => (if t140 = true then ((when_Of_1.f a5 0 59).bind fun t141 => (when_Of.j0 k a0 a1 a2 a3 a4 a5 (!t141))) else (when_Of.j0 k a0 a1 a2 a3 a4 a5 true))) else (when_Of.j0 k a0 a1 a2 a3 a4 a5 true))) else (when_Of.j0 k a0 a1 a2 a3 a4 a5 true)))) = some (r1, r2) := by rw [if_pos rfl] at H; exact H
        clear H
        have H := H1
        clear H1
        replace H := Option.bind_eq_some_iff.mp H
        obtain ⟨t137, A120, H⟩ := H
        replace H : ((when_Of_1.f a2 1 t137).bind fun t138 => (if t138 = true then ((when_Of_1.f a3 0 23).bind fun t139 => (if t139 = true then ((when_Of_1.f a4 0 59).bind fun t140 => (if t140 = true then ((when_Of_1.f a5 0 59).bind fun t141 => (when_Of.j0 k a0 a1 a2 a3 a4 a5 (!t141))) else (when_Of.j0 k a0 a1 a2 a3 a4 a5 true))) else (when_Of.j0 k a0 a1 a2 a3 a4 a5 true))) else (when_Of.j0 k a0 a1 a2 a3 a4 a5 true))) = some (r1, r2) := H
        have A12 := Aside0.mk A120
        clear A120
        replace H := Option.bind_eq_some_iff.mp H
        obtain ⟨t138, A130, H⟩ := H
        replace H : (if t138 = true then ((when_Of_1.f a3 0 23).bind fun t139 => (if t139 = true then ((when_Of_1.f a4 0 59).bind fun t140 => (if t140 = true then ((when_Of_1.f a5 0 59).bind fun t141 => (when_Of.j0 k a0 a1 a2 a3 a4 a5 (!t141))) else (when_Of.j0 k a0 a1 a2 a3 a4 a5 true))) else (when_Of.j0 k a0 a1 a2 a3 a4 a5 true))) else (when_Of.j0 k a0 a1 a2 a3 a4 a5 true)) = some (r1, r2) := H
        have A13 := Aside0.mk A130
        clear A130
        by_cases c14 : t138 = true
        · subst c14
          have H1 : ((when_Of_1.f a3 0 23).bind fun t139 => (if t139 = true then ((when_Of_1.f a4 0 59).bind fun t140 => (if t140 = true then ((when_Of_1.f a5 0 59).bind fun t141 => (when_Of.j0 k a0 a1 a2 a3 a4 a5 (!t141))) else (when_Of.j0 k a0 a1 a2 a3 a4 a5 true))) else (when_Of.j0 k a0 a1 a2 a3 a4 a5 true))) = some (r1, r2) := by rw [if_pos rfl] at H; exact H
          clear H
          have H := H1
          clear H1
          replace H := Option.bind_eq_some_iff.mp H
          obtain ⟨t139, A150, H⟩ := H
          replace H : (if t139 = true then ((when_Of_1.f a4 0 59).bind fun t140 => (if t140 = true then ((when_Of_1.f a5 0 59).bind fun t141 => (when_Of.j0 k a0 a1 a2 a3 a4 a5 (!t141))) else (when_Of.j0 k a0 a1 a2 a3 a4 a5 true))) else (when_Of.j0 k a0 a1 a2 a3 a4 a5 true)) = some (r1, r2) := H
          have A15 := Aside0.mk A150
          clear A150
          by_cases c16 : t139 = true
          · subst c16
            have H1 : ((when_Of_1.f a4 0 59).bind fun t140 => (if t140 = true then ((when_Of_1.f a5 0 59).bind fun t141 => (when_Of.j0 k a0 a1 a2 a3 a4 a5 (!t141))) else (when_Of.j0 k a0 a1 a2 a3 a4 a5 true))) = some (r1, r2) := by rw [if_pos rfl] at H; exact H
            clear H
            have H := H1
            clear H1
            replace H := Option.bind_eq_some_iff.mp H
            obtain ⟨t140, A170, H⟩ := H
            replace H : (if t140 = true then ((when_Of_1.f a5 0 59).bind fun t141 => (when_Of.j0 k a0 a1 a2 a3 a4 a5 (!t141))) else (when_Of.j0 k a0 a1 a2 a3 a4 a5 true)) = some (r1, r2) := H
            have A17 := Aside0.mk A170
            clear A170
            by_cases c18 : t140 = true
            · subst c18
              have H1 : ((when_Of_1.f a5 0 59).bind fun t141 => (when_Of.j0 k a0 a1 a2 a3 a4 a5 (!t141))) = some (r1, r2) := by rw [if_pos rfl] at H; exact H
              clear H
              have H := H1
              clear H1
              replace H := Option.bind_eq_some_iff.mp H
              obtain ⟨t141, A190, H⟩ := H
              replace H : (when_Of.j0 k a0 a1 a2 a3 a4 a5 (!t141)) = some (r1, r2) := H
              have A19 := Aside0.mk A190
              clear A190
              have H' := Aside0.mk H
              clear H
              go_wp2_with (first | (go_at_call 32; (with_reducible refine (when_Of_1.calls a0 1970 9999 true _ A8.out).mono ?_); rintro e w' ⟨rfl, ⟨nd, rfl⟩⟩) | (go_at_call 32; (with_reducible refine (when_Of_1.calls a1 1 12 true _ A10.out).mono ?_); rintro e w' ⟨rfl, ⟨nd, rfl⟩⟩) | (go_at_call 29; (with_reducible refine (when_size.calls k a0 a1 t137 _ A12.out).mono ?_); rintro e w' ⟨rfl, ⟨nd, rfl⟩⟩) | (go_at_call 32; (with_reducible refine (when_Of_1.calls a2 1 t137 true _ A13.out).mono ?_); rintro e w' ⟨rfl, ⟨nd, rfl⟩⟩) | (go_at_call 32; (with_reducible refine (when_Of_1.calls a3 0 23 true _ A15.out).mono ?_); rintro e w' ⟨rfl, ⟨nd, rfl⟩⟩) | (go_at_call 32; (with_reducible refine (when_Of_1.calls a4 0 59 true _ A17.out).mono ?_); rintro e w' ⟨rfl, ⟨nd, rfl⟩⟩) | (go_at_call 32; (with_reducible refine (when_Of_1.calls a5 0 59 t141 _ A19.out).mono ?_); rintro e w' ⟨rfl, ⟨nd, rfl⟩⟩))
              go_meet
              case rel => exact ⟨_, (!t141), (by first | rfl | (simp; done) | (simp [*]; done)), H', ⟨by first | omega | exact Nat.le_refl _⟩, by repeat (first | exact Drawn0.refl _ | apply Drawn0.step)⟩
            · replace c18 := Bool.eq_false_iff.mpr c18
              subst c18
              have H1 : (when_Of.j0 k a0 a1 a2 a3 a4 a5 true) = some (r1, r2) := by rw [if_neg (show ¬ (false = true) by decide)] at H; exact H
              clear H
              have H := H1
              clear H1
              have H' := Aside0.mk H
              clear H
              go_wp2_with (first | (go_at_call 32; (with_reducible refine (when_Of_1.calls a0 1970 9999 true _ A8.out).mono ?_); rintro e w' ⟨rfl, ⟨nd, rfl⟩⟩) | (go_at_call 32; (with_reducible refine (when_Of_1.calls a1 1 12 true _ A10.out).mono ?_); rintro e w' ⟨rfl, ⟨nd, rfl⟩⟩) | (go_at_call 29; (with_reducible refine (when_size.calls k a0 a1 t137 _ A12.out).mono ?_); rintro e w' ⟨rfl, ⟨nd, rfl⟩⟩) | (go_at_call 32; (with_reducible refine (when_Of_1.calls a2 1 t137 true _ A13.out).mono ?_); rintro e w' ⟨rfl, ⟨nd, rfl⟩⟩) | (go_at_call 32; (with_reducible refine (when_Of_1.calls a3 0 23 true _ A15.out).mono ?_); rintro e w' ⟨rfl, ⟨nd, rfl⟩⟩) | (go_at_call 32; (with_reducible refine (when_Of_1.calls a4 0 59 false _ A17.out).mono ?_); rintro e w' ⟨rfl, ⟨nd, rfl⟩⟩))
              go_meet
              case rel => exact ⟨_, (true), (by first | rfl | (simp; done) | (simp [*]; done)), H', ⟨by first | omega | exact Nat.le_refl _⟩, by repeat (first | exact Drawn0.refl _ | apply Drawn0.step)⟩
          · replace c16 := Bool.eq_false_iff.mpr c16
            subst c16
            have H1 : (when_Of.j0 k a0 a1 a2 a3 a4 a5 true) = some (r1, r2) := by rw [if_neg (show ¬ (false = true) by decide)] at H; exact H
            clear H
            have H := H1
            clear H1
            have H' := Aside0.mk H
            clear H
            go_wp2_with (first | (go_at_call 32; (with_reducible refine (when_Of_1.calls a0 1970 9999 true _ A8.out).mono ?_); rintro e w' ⟨rfl, ⟨nd, rfl⟩⟩) | (go_at_call 32; (with_reducible refine (when_Of_1.calls a1 1 12 true _ A10.out).mono ?_); rintro e w' ⟨rfl, ⟨nd, rfl⟩⟩) | (go_at_call 29; (with_reducible refine (when_size.calls k a0 a1 t137 _ A12.out).mono ?_); rintro e w' ⟨rfl, ⟨nd, rfl⟩⟩) | (go_at_call 32; (with_reducible refine (when_Of_1.calls a2 1 t137 true _ A13.out).mono ?_); rintro e w' ⟨rfl, ⟨nd, rfl⟩⟩) | (go_at_call 32; (with_reducible refine (when_Of_1.calls a3 0 23 false _ A15.out).mono ?_); rintro e w' ⟨rfl, ⟨nd, rfl⟩⟩))
            go_meet
            case rel => exact ⟨_, (true), (by first | rfl | (simp; done) | (simp [*]; done)), H', ⟨by first | omega | exact Nat.le_refl _⟩, by repeat (first | exact Drawn0.refl _ | apply Drawn0.step)⟩
        · replace c14 := Bool.eq_false_iff.mpr c14
          subst c14
          have H1 : (when_Of.j0 k a0 a1 a2 a3 a4 a5 true) = some (r1, r2) := by rw [if_neg (show ¬ (false = true) by decide)] at H; exact H
          clear H
          have H := H1
          clear H1
          have H' := Aside0.mk H
          clear H
          go_wp2_with (first | (go_at_call 32; (with_reducible refine (when_Of_1.calls a0 1970 9999 true _ A8.out).mono ?_); rintro e w' ⟨rfl, ⟨nd, rfl⟩⟩) | (go_at_call 32; (with_reducible refine (when_Of_1.calls a1 1 12 true _ A10.out).mono ?_); rintro e w' ⟨rfl, ⟨nd, rfl⟩⟩) | (go_at_call 29; (with_reducible refine (when_size.calls k a0 a1 t137 _ A12.out).mono ?_); rintro e w' ⟨rfl, ⟨nd, rfl⟩⟩) | (go_at_call 32; (with_reducible refine (when_Of_1.calls a2 1 t137 false _ A13.out).mono ?_); rintro e w' ⟨rfl, ⟨nd, rfl⟩⟩))
          go_meet
          case rel => exact ⟨_, (true), (by first | rfl | (simp; done) | (simp [*]; done)), H', ⟨by first | omega | exact Nat.le_refl _⟩, by repeat (first | exact Drawn0.refl _ | apply Drawn0.step)⟩
      · replace c11 := Bool.eq_false_iff.mpr c11
        subst c11
        have H1 : (when_Of.j0 k a0 a1 a2 a3 a4 a5 true) = some (r1, r2) := by rw [if_neg (show ¬ (false = true) by decide)] at H; exact H
        clear H
        have H := H1
        clear H1
        have H' := Aside0.mk H
        clear H
        go_wp2_with (first | (go_at_call 32; (with_reducible refine (when_Of_1.calls a0 1970 9999 true _ A8.out).mono ?_); rintro e w' ⟨rfl, ⟨nd, rfl⟩⟩) | (go_at_call 32; (with_reducible refine (when_Of_1.calls a1 1 12 false _ A10.out).mono ?_); rintro e w' ⟨rfl, ⟨nd, rfl⟩⟩))
        go_meet
        case rel => exact ⟨_, (true), (by first | rfl | (simp; done) | (simp [*]; done)), H', ⟨by first | omega | exact Nat.le_refl _⟩, by repeat (first | exact Drawn0.refl _ | apply Drawn0.step)⟩
    · replace c9 := Bool.eq_false_iff.mpr c9
      subst c9
      have H1 : (when_Of.j0 k a0 a1 a2 a3 a4 a5 true) = some (r1, r2) := by rw [if_neg (show ¬ (false = true) by decide)] at H; exact H
      clear H
      have H := H1
      clear H1
      have H' := Aside0.mk H
      clear H
      go_wp2_with (first | (go_at_call 32; (with_reducible refine (when_Of_1.calls a0 1970 9999 false _ A8.out).mono ?_); rintro e w' ⟨rfl, ⟨nd, rfl⟩⟩))
      go_meet
      case rel => exact ⟨_, (true), (by first | rfl | (simp; done) | (simp [*]; done)), H', ⟨by first | omega | exact Nat.le_refl _⟩, by repeat (first | exact Drawn0.refl _ | apply Drawn0.step)⟩
  case rest =>
    clear HC7
    try clear c1
    try clear p2
    try clear c9
    try clear c11
    try clear c14
    try clear c16
    try clear c18
    obtain ⟨kq, x53_6, rfl, HA, HJ6, ⟨mc6, rfl⟩⟩ := hcut
    cases kq with
    | zero => exact absurd HA.out (by simp [when_Of.j0])
    | succ kj6 =>
      have H := HA.out
      clear HA
      simp only [when_Of.j0] at H
      by_cases c20 : x53_6 = true
      · subst c20
        have H1 : (some (0, false)) = some (r1, r2) := by rw [if_pos rfl] at H; exact H
        clear H
        have H := H1
        clear H1
        simp only [Option.some.injEq, Prod.mk.injEq] at H
        obtain ⟨rfl, rfl⟩ := H
        go_wp2
        go_ret2
        exact ⟨by first | rfl | (simp; done) | (simp [*]; done), by repeat (first | exact Drawn0.refl _ | apply Drawn0.step)⟩
      · replace c20 := Bool.eq_false_iff.mpr c20
        subst c20
        have H1 : ((when_before.f a0).bind fun t142 => (when_Of.l0 kj6 a0 a1 a3 a4 a5 (wrap64 ((wrap64 (t142 + a2)) - 1)) 1)) = some (r1, r2) := by rw [if_neg (show ¬ (false = true) by decide)] at H; exact H
        clear H
        have H := H1
        clear H1
        replace H := Option.bind_eq_some_iff.mp H
        obtain ⟨t142, A210, H⟩ := H
        replace H : (when_Of.l0 kj6 a0 a1 a3 a4 a5 (wrap64 ((wrap64 (t142 + a2)) - 1)) 1) = some (r1, r2) := H
        have A21 := Aside0.mk A210
        clear A210
        have H' := Aside0.mk H
        clear H
        go_wp2_with (first | ((with_reducible refine gate_callee (f := 28) rfl ?_); refine goesL_ (some 55) rfl rfl Try.func28 (by kernel_rfl) rfl #[.int .i64 a0] rfl (by (try simp only [List.map_toArray, List.map_cons, List.map_nil]); first | done | rfl | (simp only [List.length_drop, List.length_take]; rfl)) ?_; (with_reducible refine (when_before.calls a0 t142 _ A21.out).mono ?_); rintro e w' ⟨rfl, ⟨nd, rfl⟩⟩; refine ⟨_, rfl, ?_⟩))
        go_loopg [15, 16] kj6 (fun kq v15 v16 w' => ∃ (x15_2 : Int) (x16_2 : Int), v15 = .int .i64 x15_2 ∧ v16 = .int .i64 x16_2 ∧ Aside0 (when_Of.l0 kq a0 a1 a3 a4 a5 x15_2 x16_2 = some (r1, r2)) ∧ Aside0 (kq ≤ kj6) ∧ Drawn0 w w')
        case atStart => exact ⟨(wrap64 ((wrap64 (t142 + a2)) - 1)), (1), (by first | rfl | (simp; done) | (simp [*]; done)), (by first | rfl | (simp; done) | (simp [*]; done)), H', ⟨Nat.le_refl _⟩, by repeat (first | exact Drawn0.refl _ | apply Drawn0.step)⟩
        case round =>
          clear H'
          try clear c1
          try clear c2
          try clear p2
          try clear c6
          try clear p6
          try clear c9
          try clear c11
          try clear c14
          try clear c16
          try clear c18
          try clear c20
          try clear p2
          obtain ⟨x15_2, x16_2, rfl, rfl, HA, HK2, ⟨m2, rfl⟩⟩ := hrel
          cases gk with
          | zero => exact absurd HA.out (by simp [when_Of.l0])
          | succ k2 =>
            have H := HA.out
            clear HA
            simp only [when_Of.l0] at H
            by_cases c22 : x16_2 < a1
            · rw [if_pos c22] at H
              have c22b0 : decide (x16_2 < a1) = true := decide_eq_true c22
              clear c22
              replace H := Option.bind_eq_some_iff.mp H
              obtain ⟨t143, A230, H⟩ := H
              replace H : (when_Of.l0 k2 a0 a1 a3 a4 a5 (wrap64 (x15_2 + t143)) (wrap64 (x16_2 + 1))) = some (r1, r2) := H
              have A23 := Aside0.mk A230
              clear A230
              have H' := Aside0.mk H
              clear H
              go_wp2_with (first | ((with_reducible refine gate_callee (f := 29) rfl ?_); refine goesL_ (some 67) rfl rfl Try.func29 (by kernel_rfl) rfl #[.int .i64 a0, .int .i64 x16_2] rfl (by (try simp only [List.map_toArray, List.map_cons, List.map_nil]); first | done | rfl | (simp only [List.length_drop, List.length_take]; rfl)) ?_; (with_reducible refine (when_size.calls k2 a0 x16_2 t143 _ A23.out).mono ?_); rintro e w' ⟨rfl, ⟨nd, rfl⟩⟩; refine ⟨_, rfl, ?_⟩))
              go_roundg k2
              case measure => have := HJ6.out; have := HK2.out; omega
              case rel => exact ⟨(wrap64 (x15_2 + t143)), (wrap64 (x16_2 + 1)), (by first | rfl | (simp; done) | (simp [*]; done)), (by first | rfl | (simp; done) | (simp [*]; done)), H', ⟨by have := HJ6.out; have := HK2.out; omega⟩, by repeat (first | exact Drawn0.refl _ | apply Drawn0.step)⟩
            · rw [if_neg c22] at H
              have c22b0 : decide (x16_2 < a1) = false := decide_eq_false c22
              clear c22
              simp only [Option.some.injEq, Prod.mk.injEq] at H
              obtain ⟨rfl, rfl⟩ := H
              go_wp2
              go_ret2
              exact ⟨by first | rfl | (simp; done) | (simp [*]; done), by repeat (first | exact Drawn0.refl _ | apply Drawn0.step)⟩

end Go.Proofs.Yteggifhicmbopaa.Q

/- What some Go functions compute, told as plain Lean functions, each with the proof that the call comes to just that, for all arguments. Conditions: those in the theorems. Written by a program of this session. -/
namespace Go.Proofs.Yteggifhicmbopaa.Q
open Go.RowKit Go.Proofs.YteggifhicmbopaaW.PrintWords Go.Proofs.YteggifhicmbopaaW.PrintLast Go.Proofs.YteggifhicmbopaaW.PrintMore
set_option linter.unusedVariables false
set_option linter.unusedSimpArgs false
attribute [local go_sem] max2_int min2_int max_two min_two max_three min_three max_four min_four   -- for this text's walks alone

/-! ### when_put: function 33 -/
def when_put.l0 : Nat → Int → List Int → Int → Option (ByteArray)
  | 0, _, _, _ => none
  | k + 1, x0, x5, x6 => if x6 ≥ 0 then (if 0 ≤ x6 then (if x6 < (x5.length : Int) then (when_put.l0 k (wrap64 (Int.tdiv x0 10)) (x5.set (x6 : Int).toNat ((48 + ((Int.tmod x0 10) % 256)) % 256)) (wrap64 (x6 - 1))) else (none)) else (none)) else (some (strOfNums x5))
def when_put.f (k : Nat) (a0 : Int) (a1 : Int) : Option (ByteArray) := if 0 ≤ a1 then (if (a1 : Int).toNat ≤ 281474976710656 then (when_put.l0 k a0 (List.replicate (a1 : Int).toNat 0) (wrap64 (a1 - 1))) else (none)) else (none)
theorem when_put.mono_l : ∀ k, (∀ y0 y1 y2, LeO (when_put.l0 k y0 y1 y2) (when_put.l0 (k + 1) y0 y1 y2))
  | 0 => fun _ _ _ r h => by simp [when_put.l0] at h
  | k + 1 => by
    have ih0 := when_put.mono_l k
    · intro y0 y1 y2
      unfold when_put.l0
      repeat' first
      | (with_reducible exact ih0 _ _ _)
      | (with_reducible exact LeO.refl _)
      | (with_reducible exact LeO.none _)
      | (with_reducible refine LeO.ite ?_ ?_)
      | (with_reducible refine LeO.bind ?_ (fun _ => ?_))
      | exact ih0 _ _ _
      | exact LeO.none _
      | refine LeO.ite ?_ ?_
      | refine LeO.bind ?_ (fun _ => ?_)
theorem when_put.mono : ∀ a0 a1 k, LeO (when_put.f k a0 a1) (when_put.f (k + 1) a0 a1) := by
  intro a0 a1 k
  have ih0 := when_put.mono_l k
  unfold when_put.f
  repeat' first
      | (with_reducible exact ih0 _ _ _)
      | (with_reducible exact LeO.refl _)
      | (with_reducible exact LeO.none _)
      | (with_reducible refine LeO.ite ?_ ?_)
      | (with_reducible refine LeO.bind ?_ (fun _ => ?_))
      | exact ih0 _ _ _
      | exact LeO.none _
      | refine LeO.ite ?_ ?_
      | refine LeO.bind ?_ (fun _ => ?_)
set_option maxHeartbeats 8000000 in
set_option maxRecDepth 100000 in
theorem when_put.calls (k : Nat) (a0 : Int) (a1 : Int) (r : ByteArray) (w : World) (h : when_put.f k a0 a1 = some r) :
    Calls Try.prog 33 #[.int .i64 a0, .int .i64 a1] w fun e w' => e = .returned (.string r) ∧ Below w.heap.size w w' := by
  have HB := Aside0.mk (Below.refl w.heap.size w)
  have H : (if 0 ≤ a1 then (if (a1 : Int).toNat ≤ 281474976710656 then (when_put.l0 k a0 (List.replicate (a1 : Int).toNat 0) (wrap64 (a1 - 1))) else (none)) else (none)) = some r := h
  clear h
  by_cases c3 : 0 ≤ a1
  · rw [if_pos c3] at H
    have c3b0 := eq_true c3
    have c3b1 : decide (0 ≤ a1) = true := decide_eq_true c3
    clear c3
    by_cases c4 : (a1 : Int).toNat ≤ 281474976710656
    · rw [if_pos c4] at H
      have c4b0 := eq_true c4
      have c4b1 : decide ((a1 : Int).toNat ≤ 281474976710656) = true := decide_eq_true c4
      clear c4
      obtain ⟨y106, hy106⟩ : ∃ y_ : List Int, y_ = (List.replicate (a1 : Int).toNat 0) := ⟨_, rfl⟩
      replace H : (when_put.l0 k a0 y106 (wrap64 (a1 - 1))) = some r := by first | (rw [hy106]; with_reducible exact H) | (have H2_ := (Option.bind_some _ _).symm.trans H; rw [hy106]; with_reducible exact H2_) | (have H2_ := (Option.bind_some _ _).symm.trans H; with_reducible exact H2_) | with_reducible exact H | (rw [hy106]; exact H) | exact H
      have Ny106 := Aside0.mk hy106
      clear hy106
      have H' := Aside0.mk H
      clear H
      go_enter Try.func33, Try.ntmps33
      go_wp2_with (first | ((with_reducible refine gate_dst (N := 8) rfl ?_); refine Kd.R_make (Kd.int .u8) _ 5 rfl (N := 8) rfl 48 _ _ rfl a1 rfl rfl Try.underlying48 (.int .u8 0) 1 info5 rfl (by decide) (by omega) 0 (ok := fun _ => True) (okp := fun _ => True) rfl (fun _ hk => hk) trivial (of_decide_eq_true (by first | (with_reducible assumption) | assumption)) (Nat.le_trans (Nat.mul_le_mul_right _ (of_decide_eq_true (by first | (with_reducible assumption) | assumption) : a1.toNat ≤ 281474976710656)) (by omega)) (Below.refl _ _) (Nat.le_refl _) ?_; intro v107 w5 ho6 hb hg_ hnew_; clear hg_ hnew_; (first | rw [← Ny106.out] at ho6 | (simp only [Int.reduceToNat] at ho6; rw [← Ny106.out] at ho6)); have n0_ := Aside0.mk (Kd.R_lower ho6 (below_size (by repeat (first | (with_reducible first | exact HB.out | apply below_alloc | apply pw_below_drewN | apply below_drew1) | exact HB.out)))); have n1_ := Aside0.mk (below_step (by repeat (first | (with_reducible first | exact HB.out | apply below_alloc | apply pw_below_drewN | apply below_drew1) | exact HB.out)) hb); clear HB; have HO108 := n0_; have HB := n1_; clear n0_ n1_; clear hb ho6))
      go_loopg [0, 6] k (fun kq v0 v6 w' => ∃ (x0_1 : Int) (x5_1 : List Int) (x6_1 : Int), v0 = .int .i64 x0_1 ∧ v6 = .int .i64 x6_1 ∧ Aside0 (when_put.l0 kq x0_1 x5_1 x6_1 = some r) ∧ Aside0 (kq ≤ k) ∧ Aside0 (Kd.R (Kd.int .u8) 5 w' w.heap.size (fun _ => True) v107 x5_1) ∧ Aside0 (Below w.heap.size w w'))
      case atStart => exact ⟨(a0), (y106), (wrap64 (a1 - 1)), (by first | rfl | (simp; done) | (simp [*]; done)), (by first | rfl | (simp; done) | (simp [*]; done)), H', ⟨Nat.le_refl _⟩, ⟨by (with_reducible repeat (first | apply Kd.R_alloc | apply Kd.R_drewN | apply Kd.R_drew)); exact HO108.out⟩, ⟨by repeat (first | (with_reducible first | exact HB.out | apply below_alloc | apply pw_below_drewN | apply below_drew1) | exact HB.out)⟩⟩
      case round =>
        clear H'
        try clear p2
        try clear c3
        try clear c3b0
        try clear c3b1
        try clear c4
        try clear c4b0
        try clear c4b1
        try clear p6
        obtain ⟨x0_1, x5_1, x6_1, rfl, rfl, HA, HK1, HO_5, HB⟩ := hrel
        cases gk with
        | zero => exact absurd HA.out (by simp [when_put.l0])
        | succ k1 =>
          have H := HA.out
          clear HA
          simp only [when_put.l0] at H
          by_cases c7 : x6_1 ≥ 0
          · rw [if_pos c7] at H
            have c7b0 : decide (0 ≤ x6_1) = true := decide_eq_true c7
            clear c7
            by_cases c8 : 0 ≤ x6_1
            · rw [if_pos c8] at H
              have c8b0 : decide (0 ≤ x6_1) = true := decide_eq_true c8
              clear c8
              by_cases c9 : x6_1 < (x5_1.length : Int)
              · rw [if_pos c9] at H
                have c9b0 : decide (x6_1 < (x5_1.length : Int)) = true := decide_eq_true c9
                clear c9
                obtain ⟨y109, hy109⟩ : ∃ y_ : List Int, y_ = (x5_1.set (x6_1 : Int).toNat ((48 + ((Int.tmod x0_1 10) % 256)) % 256)) := ⟨_, rfl⟩
                replace H : (when_put.l0 k1 (wrap64 (Int.tdiv x0_1 10)) y109 (wrap64 (x6_1 - 1))) = some r := by first | (rw [hy109]; with_reducible exact H) | (have H2_ := (Option.bind_some _ _).symm.trans H; rw [hy109]; with_reducible exact H2_) | (have H2_ := (Option.bind_some _ _).symm.trans H; with_reducible exact H2_) | with_reducible exact H | (rw [hy109]; exact H) | exact H
                have Ny109 := Aside0.mk hy109
                clear hy109
                have H' := Aside0.mk H
                clear H
                have p10 : 0 ≤ (x6_1 : Int) := of_decide_eq_true (by first | (with_reducible assumption) | assumption)
                have q10 : (x6_1 : Int) < ((x5_1.length : Int) : Int) := of_decide_eq_true (by first | (with_reducible assumption) | assumption)
                obtain ⟨go10, co10, eo10, gb10, gl10, cl10, HG10⟩ := Kd.R_form HO_5.out (by omega)
                (first | cases eo10 | (injection eo10 with ea_ en_ ec_; (first | subst ea_ | (injection ea_ with ea_; subst ea_)); subst ec_; clear en_))
                have GB10 := Aside0.mk gb10
                have GG10 := Aside0.mk HG10
                clear gb10 gl10 HG10
                obtain ⟨hx10_0, hf10_0⟩ := Kd.R_celln 0 HO_5.out (x6_1 : Int) p10 q10
                replace p10 := eq_true p10
                replace q10 := eq_true q10
                have HP11 := Kd.R_putg HO_5.out (x6_1 : Int) ((48 + ((Int.tmod x0_1 10) % 256)) % 256)
                go_wp2_with (first | ((with_reducible refine gate_store (t := 5) (p := 21) rfl ?_); refine store_event (t := 5) (p := 21) (v := ?vo_w12) (w1 := (wr.setCell ⟨go10, (x6_1 : Int).toNat, none⟩ (.int .u8 ((48 + ((Int.tmod x0_1 10) % 256)) % 256)))) ?hg ?ho ?hn ?hr ?_; (case ho => rfl); (case hg => rfl); (case hn => rfl); (case hr => first | (go_simp; done) | (go_simp; rfl)); intro w12 hw; have hg : wr.grownBy w12 (some go10) := (by rw [hw]; exact HP11.2); have hp_ : Kd.R (Kd.int .u8) 5 w12 w.heap.size (fun _ => True) (.slice (some ⟨go10, 0, none⟩) x5_1.length co10) y109 := (by rw [hw, Ny109.out]; exact HP11.1); clear HP11; have n0_ := Aside0.mk (hp_); have n1_ := Aside0.mk ((by rw [hw]; exact below_set (HB.out) GB10.out : Below w.heap.size w w12)); clear HO_5; clear HB; have HO_5 := n0_; have HB := n1_; clear n0_ n1_; clear hg hw hp_))
                go_roundg k1
                case measure => have := HK1.out; omega
                case rel => exact ⟨(wrap64 (Int.tdiv x0_1 10)), (y109), (wrap64 (x6_1 - 1)), (by first | rfl | (simp; done) | (simp [*]; done)), (by first | rfl | (simp; done) | (simp [*]; done)), H', ⟨by have := HK1.out; omega⟩, ⟨by (with_reducible repeat (first | apply Kd.R_alloc | apply Kd.R_drewN | apply Kd.R_drew)); exact HO_5.out⟩, ⟨by repeat (first | (with_reducible first | exact HB.out | apply below_alloc | apply pw_below_drewN | apply below_drew1) | exact HB.out)⟩⟩
              · rw [if_neg c9] at H
                exact absurd H (by simp)
            · rw [if_neg c8] at H
              exact absurd H (by simp)
          · rw [if_neg c7] at H
            have c7b0 : decide (0 ≤ x6_1) = false := decide_eq_false c7
            clear c7
            obtain rfl := Option.some.inj H
            have hcv13 := own_string (P := Try.prog) Try.underlying48 Try.underlying5 Try.underlying9 (Kd.own_of_R HO_5.out)
            go_wp2
            go_ret
            exact ⟨by first | rfl | (simp [errW_none, errW_some] <;> rfl) | (simp [*, errW_none, errW_some] <;> rfl), by repeat (first | (with_reducible first | exact HB.out | apply below_alloc | apply pw_below_drewN | apply below_drew1) | exact HB.out)⟩
    · rw [if_neg c4] at H
      exact absurd H (by simp)
  · rw [if_neg c3] at H
    exact absurd H (by simp)

end Go.Proofs.Yteggifhicmbopaa.Q

/- What some Go functions compute, told as plain Lean functions, each with the proof that the call comes to just that, for all arguments. Conditions: those in the theorems. Written by a program of this session. -/
namespace Go.Proofs.Yteggifhicmbopaa.Q
open Go.RowKit Go.Proofs.YteggifhicmbopaaW.PrintWords Go.Proofs.YteggifhicmbopaaW.PrintLast Go.Proofs.YteggifhicmbopaaW.PrintMore
set_option linter.unusedVariables false
set_option linter.unusedSimpArgs false
attribute [local go_sem] max2_int min2_int max_two min_two max_three min_three max_four min_four   -- for this text's walks alone

/-! ### when_Iso: function 17 -/
def when_Iso.f (k : Nat) (a0 : Int) : Option (ByteArray) := (when_Civil.f k a0).bind fun bt110 => (if bt110.2.2.2.2.2.2 = true then ((when_put.f k bt110.1 4).bind fun t117 => (if t117.size + 1 ≤ 9223372036854775807 then ((when_put.f k bt110.2.1 2).bind fun t118 => (if (t117 ++ (⟨#[45]⟩ : ByteArray)).size + t118.size ≤ 9223372036854775807 then (if ((t117 ++ (⟨#[45]⟩ : ByteArray)) ++ t118).size + 1 ≤ 9223372036854775807 then ((when_put.f k bt110.2.2.1 2).bind fun t119 => (if (((t117 ++ (⟨#[45]⟩ : ByteArray)) ++ t118) ++ (⟨#[45]⟩ : ByteArray)).size + t119.size ≤ 9223372036854775807 then (if ((((t117 ++ (⟨#[45]⟩ : ByteArray)) ++ t118) ++ (⟨#[45]⟩ : ByteArray)) ++ t119).size + 1 ≤ 9223372036854775807 then ((when_put.f k bt110.2.2.2.1 2).bind fun t120 => (if (((((t117 ++ (⟨#[45]⟩ : ByteArray)) ++ t118) ++ (⟨#[45]⟩ : ByteArray)) ++ t119) ++ (⟨#[84]⟩ : ByteArray)).size + t120.size ≤ 9223372036854775807 then (if ((((((t117 ++ (⟨#[45]⟩ : ByteArray)) ++ t118) ++ (⟨#[45]⟩ : ByteArray)) ++ t119) ++ (⟨#[84]⟩ : ByteArray)) ++ t120).size + 1 ≤ 9223372036854775807 then ((when_put.f k bt110.2.2.2.2.1 2).bind fun t121 => (if (((((((t117 ++ (⟨#[45]⟩ : ByteArray)) ++ t118) ++ (⟨#[45]⟩ : ByteArray)) ++ t119) ++ (⟨#[84]⟩ : ByteArray)) ++ t120) ++ (⟨#[58]⟩ : ByteArray)).size + t121.size ≤ 9223372036854775807 then (if ((((((((t117 ++ (⟨#[45]⟩ : ByteArray)) ++ t118) ++ (⟨#[45]⟩ : ByteArray)) ++ t119) ++ (⟨#[84]⟩ : ByteArray)) ++ t120) ++ (⟨#[58]⟩ : ByteArray)) ++ t121).size + 1 ≤ 9223372036854775807 then ((when_put.f k bt110.2.2.2.2.2.1 2).bind fun t122 => (if (((((((((t117 ++ (⟨#[45]⟩ : ByteArray)) ++ t118) ++ (⟨#[45]⟩ : ByteArray)) ++ t119) ++ (⟨#[84]⟩ : ByteArray)) ++ t120) ++ (⟨#[58]⟩ : ByteArray)) ++ t121) ++ (⟨#[58]⟩ : ByteArray)).size + t122.size ≤ 9223372036854775807 then (if ((((((((((t117 ++ (⟨#[45]⟩ : ByteArray)) ++ t118) ++ (⟨#[45]⟩ : ByteArray)) ++ t119) ++ (⟨#[84]⟩ : ByteArray)) ++ t120) ++ (⟨#[58]⟩ : ByteArray)) ++ t121) ++ (⟨#[58]⟩ : ByteArray)) ++ t122).size + 5 ≤ 9223372036854775807 then (some (((((((((((t117 ++ (⟨#[45]⟩ : ByteArray)) ++ t118) ++ (⟨#[45]⟩ : ByteArray)) ++ t119) ++ (⟨#[84]⟩ : ByteArray)) ++ t120) ++ (⟨#[58]⟩ : ByteArray)) ++ t121) ++ (⟨#[58]⟩ : ByteArray)) ++ t122) ++ (⟨#[46, 48, 48, 48, 90]⟩ : ByteArray))) else (none)) else (none))) else (none)) else (none))) else (none)) else (none))) else (none)) else (none))) else (none)) else (none))) else (none))) else (some (⟨#[]⟩ : ByteArray)))
theorem when_Iso.mono : ∀ a0 k, LeO (when_Iso.f k a0) (when_Iso.f (k + 1) a0) := by
  intro a0 k
  unfold when_Iso.f
  repeat' first
      | (with_reducible exact when_Civil.mono _ _)
      | (with_reducible exact when_put.mono _ _ _)
      | (with_reducible exact LeO.refl _)
      | (with_reducible exact LeO.none _)
      | (with_reducible refine LeO.ite ?_ ?_)
      | (with_reducible refine LeO.bind ?_ (fun _ => ?_))
      | exact when_Civil.mono _ _
      | exact when_put.mono _ _ _
      | exact LeO.none _
      | refine LeO.ite ?_ ?_
      | refine LeO.bind ?_ (fun _ => ?_)
set_option maxHeartbeats 8000000 in
set_option maxRecDepth 100000 in
theorem when_Iso.calls (k : Nat) (a0 : Int) (r : ByteArray) (w : World) (h : when_Iso.f k a0 = some r) :
    Calls Try.prog 17 #[.int .i64 a0] w fun e w' => e = .returned (.string r) ∧ Below w.heap.size w w' := by
  have HB := Aside0.mk (Below.refl w.heap.size w)
  have H : ((when_Civil.f k a0).bind fun bt110 => (if bt110.2.2.2.2.2.2 = true then ((when_put.f k bt110.1 4).bind fun t117 => (if t117.size + 1 ≤ 9223372036854775807 then ((when_put.f k bt110.2.1 2).bind fun t118 => (if (t117 ++ (⟨#[45]⟩ : ByteArray)).size + t118.size ≤ 9223372036854775807 then (if ((t117 ++ (⟨#[45]⟩ : ByteArray)) ++ t118).size + 1 ≤ 9223372036854775807 then ((when_put.f k bt110.2.2.1 2).bind fun t119 => (if (((t117 ++ (⟨#[45]⟩ : ByteArray)) ++ t118) ++ (⟨#[45]⟩ : ByteArray)).size + t119.size ≤ 9223372036854775807 then (if ((((t117 ++ (⟨#[45]⟩ : ByteArray)) ++ t118) ++ (⟨#[45]⟩ : ByteArray)) ++ t119).size + 1 ≤ 9223372036854775807 then ((when_put.f k bt110.2.2.2.1 2).bind fun t120 => (if (((((t117 ++ (⟨#[45]⟩ : ByteArray)) ++ t118) ++ (⟨#[45]⟩ : ByteArray)) ++ t119) ++ (⟨#[84]⟩ : ByteArray)).size + t120.size ≤ 9223372036854775807 then (if ((((((t117 ++ (⟨#[45]⟩ : ByteArray)) ++ t118) ++ (⟨#[45]⟩ : ByteArray)) ++ t119) ++ (⟨#[84]⟩ : ByteArray)) ++ t120).size + 1 ≤ 9223372036854775807 then ((when_put.f k bt110.2.2.2.2.1 2).bind fun t121 => (if (((((((t117 ++ (⟨#[45]⟩ : ByteArray)) ++ t118) ++ (⟨#[45]⟩ : ByteArray)) ++ t119) ++ (⟨#[84]⟩ : ByteArray)) ++ t120) ++ (⟨#[58]⟩ : ByteArray)).size + t121.size ≤ 9223372036854775807 then (if ((((((((t117 ++ (⟨#[45]⟩ : ByteArray)) ++ t118) ++ (⟨#[45]⟩ : ByteArray)) ++ t119) ++ (⟨#[84]⟩ : ByteArray)) ++ t120) ++ (⟨#[58]⟩ : ByteArray)) ++ t121).size + 1 ≤ 9223372036854775807 then ((when_put.f k bt110.2.2.2.2.2.1 2).bind fun t122 => (if (((((((((t117 ++ (⟨#[45]⟩ : ByteArray)) ++ t118) ++ (⟨#[45]⟩ : ByteArray)) ++ t119) ++ (⟨#[84]⟩ : ByteArray)) ++ t120) ++ (⟨#[58]⟩ : ByteArray)) ++ t121) ++ (⟨#[58]⟩ : ByteArray)).size + t122.size ≤ 9223372036854775807 then (if ((((((((((t117 ++ (⟨#[45]⟩ : ByteArray)) ++ t118) ++ (⟨#[45]⟩ : ByteArray)) ++ t119) ++ (⟨#[84]⟩ : ByteArray)) ++ t120) ++ (⟨#[58]⟩ : ByteArray)) ++ t121) ++ (⟨#[58]⟩ : ByteArray)) ++ t122).size + 5 ≤ 9223372036854775807 then (some (((((((((((t117 ++ (⟨#[45]⟩ : ByteArray)) ++ t118) ++ (⟨#[45]⟩ : ByteArray)) ++ t119) ++ (⟨#[84]⟩ : ByteArray)) ++ t120) ++ (⟨#[58]⟩ : ByteArray)) ++ t121) ++ (⟨#[58]⟩ : ByteArray)) ++ t122) ++ (⟨#[46, 48, 48, 48, 90]⟩ : ByteArray))) else (none)) else (none))) else (none)) else (none))) else (none)) else (none))) else (none)) else (none))) else (none)) else (none))) else (none))) else (some (⟨#[]⟩ : ByteArray)))) = some r := h
  clear h
  replace H := Option.bind_eq_some_iff.mp H
  obtain ⟨⟨t110, t111, t112, t113, t114, t115, t116⟩, A20, H⟩ := H
  replace H : (if t116 = true then ((when_put.f k t110 4).bind fun t117 => (if t117.size + 1 ≤ 9223372036854775807 then ((when_put.f k t111 2).bind fun t118 => (if (t117 ++ (⟨#[45]⟩ : ByteArray)).size + t118.size ≤ 9223372036854775807 then (if ((t117 ++ (⟨#[45]⟩ : ByteArray)) ++ t118).size + 1 ≤ 9223372036854775807 then ((when_put.f k t112 2).bind fun t119 => (if (((t117 ++ (⟨#[45]⟩ : ByteArray)) ++ t118) ++ (⟨#[45]⟩ : ByteArray)).size + t119.size ≤ 9223372036854775807 then (if ((((t117 ++ (⟨#[45]⟩ : ByteArray)) ++ t118) ++ (⟨#[45]⟩ : ByteArray)) ++ t119).size + 1 ≤ 9223372036854775807 then ((when_put.f k t113 2).bind fun t120 => (if (((((t117 ++ (⟨#[45]⟩ : ByteArray)) ++ t118) ++ (⟨#[45]⟩ : ByteArray)) ++ t119) ++ (⟨#[84]⟩ : ByteArray)).size + t120.size ≤ 9223372036854775807 then (if ((((((t117 ++ (⟨#[45]⟩ : ByteArray)) ++ t118) ++ (⟨#[45]⟩ : ByteArray)) ++ t119) ++ (⟨#[84]⟩ : ByteArray)) ++ t120).size + 1 ≤ 9223372036854775807 then ((when_put.f k t114 2).bind fun t121 => (if (((((((t117 ++ (⟨#[45]⟩ : ByteArray)) ++ t118) ++ (⟨#[45]⟩ : ByteArray)) ++ t119) ++ (⟨#[84]⟩ : ByteArray)) ++ t120) ++ (⟨#[58]⟩ : ByteArray)).size + t121.size ≤ 9223372036854775807 then (if ((((((((t117 ++ (⟨#[45]⟩ : ByteArray)) ++ t118) ++ (⟨#[45]⟩ : ByteArray)) ++ t119) ++ (⟨#[84]⟩ : ByteArray)) ++ t120) ++ (⟨#[58]⟩ : ByteArray)) ++ t121).size + 1 ≤ 9223372036854775807 then ((when_put.f k t115 2).bind fun t122 => (if (((((((((t117 ++ (⟨#[45]⟩ : ByteArray)) ++ t118) ++ (⟨#[45]⟩ : ByteArray)) ++ t119) ++ (⟨#[84]⟩ : ByteArray)) ++ t120) ++ (⟨#[58]⟩ : ByteArray)) ++ t121) ++ (⟨#[58]⟩ : ByteArray)).size + t122.size ≤ 9223372036854775807 then (if ((((((((((t117 ++ (⟨#[45]⟩ : ByteArray)) ++ t118) ++ (⟨#[45]⟩ : ByteArray)) ++ t119) ++ (⟨#[84]⟩ : ByteArray)) ++ t120) ++ (⟨#[58]⟩ : ByteArray)) ++ t121) ++ (⟨#[58]⟩ : ByteArray)) ++ t122).size + 5 ≤ 9223372036854775807 then (some (((((((((((t117 ++ (⟨#[45]⟩ : ByteArray)) ++ t118) ++ (⟨#[45]⟩ : ByteArray)) ++ t119) ++ (⟨#[84]⟩ : ByteArray)) ++ t120) ++ (⟨#[58]⟩ : ByteArray)) ++ t121) ++ (⟨#[58]⟩ : ByteArray)) ++ t122) ++ (⟨#[46, 48, 48, 48, 90]⟩ : ByteArray))) else (none)) else (none))) else (none)) else (none))) else (none)) else (none))) else (none)) else (none))) else (none)) else (none))) else (none))) else (some (⟨#[]⟩ : ByteArray))) = some r := H
  have A2 := Aside0.mk A20
  clear A20
  by_cases c3 : t116 = true
  · subst c3
    have H1 : ((when_put.f k t110 4).bind fun t117 => (if t117.size + 1 ≤ 9223372036854775807 then ((when_put.f k t111 2).bind fun t118 => (if (t117 ++ (⟨#[45]⟩ : ByteArray)).size + t118.size ≤ 9223372036854775807 then (if ((t117 ++ (⟨#[45]⟩ : ByteArray)) ++ t118).size + 1 ≤ 9223372036854775807 then ((when_put.f k t112 2).bind fun t119 => (if (((t117 ++ (⟨#[45]⟩ : ByteArray)) ++ t118) ++ (⟨#[45]⟩ : ByteArray)).size + t119.size ≤ 9223372036854775807 then (if ((((t117 ++ (⟨#[45]⟩ : ByteArray)) ++ t118) ++ (⟨#[45]⟩ : ByteArray)) ++ t119).size + 1 ≤ 9223372036854775807 then ((when_put.f k t113 2).bind fun t120 => (if (((((t117 ++ (⟨#[45]⟩ : ByteArray)) ++ t118) ++ (⟨#[45]⟩ : ByteArray)) ++ t119) ++ (⟨#[84]⟩ : ByteArray)).size + t120.size ≤ 9223372036854775807 then (if ((((((t117 ++ (⟨#[45]⟩ : ByteArray)) ++ t118) ++ (⟨#[45]⟩ : ByteArray)) ++ t119) ++ (⟨#[84]⟩ : ByteArray)) ++ t120).size + 1 ≤ 9223372036854775807 then ((when_put.f k t114 2).bind fun t121 => (if (((((((t117 ++ (⟨#[45]⟩ : ByteArray)) ++ t118) ++ (⟨#[45]⟩ : ByteArray)) ++ t119) ++ (⟨#[84]⟩ : ByteArray)) ++ t120) ++ (⟨#[58]⟩ : ByteArray)).size + t121.size ≤ 9223372036854775807 then (if ((((((((t117 ++ (⟨#[45]⟩ : ByteArray)) ++ t118) ++ (⟨#[45]⟩ : ByteArray)) ++ t119) ++ (⟨#[84]⟩ : ByteArray)) ++ t120) ++ (⟨#[58]⟩ : ByteArray)) ++ t121).size + 1 ≤ 9223372036854775807 then ((when_put.f k t115 2).bind fun t122 => (if (((((((((t117 ++ (⟨#[45]⟩ : ByteArray)) ++ t118) ++ (⟨#[45]⟩ : ByteArray)) ++ t119) ++ (⟨#[84]⟩ : ByteArray)) ++ t120) ++ (⟨#[58]⟩ : ByteArray)) ++ t121) ++ (⟨#[58]⟩ : ByteArray)).size + t122.size ≤ 9223372036854775807 then (if ((((((((((t117 ++ (⟨#[45]⟩ : ByteArray)) ++ t118) ++ (⟨#[45]⟩ : ByteArray)) ++ t119) ++ (⟨#[84]⟩ : ByteArray)) ++ t120) ++ (⟨#[58]⟩ : ByteArray)) ++ t121) ++ (⟨#[58]⟩ : ByteArray)) ++ t122).size + 5 ≤ 9223372036854775807 then (some (((((((((((t117 ++ (⟨#[45]⟩ : ByteArray)) ++ t118) ++ (⟨#[45]⟩ : ByteArray)) ++ t119) ++ (⟨#[84]⟩ : ByteArray)) ++ t120) ++ (⟨#[58]⟩ : ByteArray)) ++ t121) ++ (⟨#[58]⟩ : ByteArray)) ++ t122) ++ (⟨#[46, 48, 48, 48, 90]⟩ : ByteArray))) else (none)) else (none))) else (none)) else (none))) else (none)) else (none))) else (none)) else (none))) else (none)) else (none))) else (none))) = some r := by rw [if_pos rfl] at H; exact H
    clear H
    have H := H1
    clear H1
    replace H := Option.bind_eq_some_iff.mp H
    obtain ⟨t117, A40, H⟩ := H
    replace H : (if t117.size + 1 ≤ 9223372036854775807 then ((when_put.f k t111 2).bind fun t118 => (if (t117 ++ (⟨#[45]⟩ : ByteArray)).size + t118.size ≤ 9223372036854775807 then (if ((t117 ++ (⟨#[45]⟩ : ByteArray)) ++ t118).size + 1 ≤ 9223372036854775807 then ((when_put.f k t112 2).bind fun t119 => (if (((t117 ++ (⟨#[45]⟩ : ByteArray)) ++ t118) ++ (⟨#[45]⟩ : ByteArray)).size + t119.size ≤ 9223372036854775807 then (if ((((t117 ++ (⟨#[45]⟩ : ByteArray)) ++ t118) ++ (⟨#[45]⟩ : ByteArray)) ++ t119).size + 1 ≤ 9223372036854775807 then ((when_put.f k t113 2).bind fun t120 => (if (((((t117 ++ (⟨#[45]⟩ : ByteArray)) ++ t118) ++ (⟨#[45]⟩ : ByteArray)) ++ t119) ++ (⟨#[84]⟩ : ByteArray)).size + t120.size ≤ 9223372036854775807 then (if ((((((t117 ++ (⟨#[45]⟩ : ByteArray)) ++ t118) ++ (⟨#[45]⟩ : ByteArray)) ++ t119) ++ (⟨#[84]⟩ : ByteArray)) ++ t120).size + 1 ≤ 9223372036854775807 then ((when_put.f k t114 2).bind fun t121 => (if (((((((t117 ++ (⟨#[45]⟩ : ByteArray)) ++ t118) ++ (⟨#[45]⟩ : ByteArray)) ++ t119) ++ (⟨#[84]⟩ : ByteArray)) ++ t120) ++ (⟨#[58]⟩ : ByteArray)).size + t121.size ≤ 9223372036854775807 then (if ((((((((t117 ++ (⟨#[45]⟩ : ByteArray)) ++ t118) ++ (⟨#[45]⟩ : ByteArray)) ++ t119) ++ (⟨#[84]⟩ : ByteArray)) ++ t120) ++ (⟨#[58]⟩ : ByteArray)) ++ t121).size + 1 ≤ 9223372036854775807 then ((when_put.f k t115 2).bind fun t122 => (if (((((((((t117 ++ (⟨#[45]⟩ : ByteArray)) ++ t118) ++ (⟨#[45]⟩ : ByteArray)) ++ t119) ++ (⟨#[84]⟩ : ByteArray)) ++ t120) ++ (⟨#[58]⟩ : ByteArray)) ++ t121) ++ (⟨#[58]⟩ : ByteArray)).size + t122.size ≤ 9223372036854775807 then (if ((((((((((t117 ++ (⟨#[45]⟩ : ByteArray)) ++ t118) ++ (⟨#[45]⟩ : ByteArray)) ++ t119) ++ (⟨#[84]⟩ : ByteArray)) ++ t120) ++ (⟨#[58]⟩ : ByteArray)) ++ t121) ++ (⟨#[58]⟩ : ByteArray)) ++ t122).size + 5 ≤ 9223372036854775807 then (some (((((((((((t117 ++ (⟨#[45]⟩ : ByteArray)) ++ t118) ++ (⟨#[45]⟩ : ByteArray)) ++ t119) ++ (⟨#[84]⟩ : ByteArray)) ++ t120) ++ (⟨#[58]⟩ : ByteArray)) ++ t121) ++ (⟨#[58]⟩ : ByteArray)) ++ t122) ++ (⟨#[46, 48, 48, 48, 90]⟩ : ByteArray))) else (none)) else (none))) else (none)) else (none))) else (none)) else (none))) else (none)) else (none))) else (none)) else (none))) else (none)) = some r := H
    have A4 := Aside0.mk A40
    clear A40
    by_cases c5 : t117.size + 1 ≤ 9223372036854775807
    · rw [if_pos c5] at H
      have c5b0 := eq_true c5
      have c5b1 : decide (t117.size + 1 ≤ 9223372036854775807) = true := decide_eq_true c5
      try have c5b2 : (9223372036854775807 < t117.size + 1) = False := eq_false (Nat.not_lt.2 c5)
      try (have c5n : t117.size + 1 ≤ 9223372036854775807 := by have h_ := c5; simp only [ByteArray.size_append, ByteArray.size_extract] at h_; exact h_)
      try have c5f : (9223372036854775807 < t117.size + 1) = False := eq_false (by first | omega | (simp only [eq_iff_iff, iff_true] at *; omega))
      replace H := Option.bind_eq_some_iff.mp H
      obtain ⟨t118, A60, H⟩ := H
      replace H : (if (t117 ++ (⟨#[45]⟩ : ByteArray)).size + t118.size ≤ 9223372036854775807 then (if ((t117 ++ (⟨#[45]⟩ : ByteArray)) ++ t118).size + 1 ≤ 9223372036854775807 then ((when_put.f k t112 2).bind fun t119 => (if (((t117 ++ (⟨#[45]⟩ : ByteArray)) ++ t118) ++ (⟨#[45]⟩ : ByteArray)).size + t119.size ≤ 9223372036854775807 then (if ((((t117 ++ (⟨#[45]⟩ : ByteArray)) ++ t118) ++ (⟨#[45]⟩ : ByteArray)) ++ t119).size + 1 ≤ 9223372036854775807 then ((when_put.f k t113 2).bind fun t120 => (if (((((t117 ++ (⟨#[45]⟩ : ByteArray)) ++ t118) ++ (⟨#[45]⟩ : ByteArray)) ++ t119) ++ (⟨#[84]⟩ : ByteArray)).size + t120.size ≤ 9223372036854775807 then (if ((((((t117 ++ (⟨#[45]⟩ : ByteArray)) ++ t118) ++ (⟨#[45]⟩ : ByteArray)) ++ t119) ++ (⟨#[84]⟩ : ByteArray)) ++ t120).size + 1 ≤ 9223372036854775807 then ((when_put.f k t114 2).bind fun t121 => (if (((((((t117 ++ (⟨#[45]⟩ : ByteArray)) ++ t118) ++ (⟨#[45]⟩ : ByteArray)) ++ t119) ++ (⟨#[84]⟩ : ByteArray)) ++ t120) ++ (⟨#[58]⟩ : ByteArray)).size + t121.size ≤ 9223372036854775807 then (if ((((((((t117 ++ (⟨#[45]⟩ : ByteArray)) ++ t118) ++ (⟨#[45]⟩ : ByteArray)) ++ t119) ++ (⟨#[84]⟩ : ByteArray)) ++ t120) ++ (⟨#[58]⟩ : ByteArray)) ++ t121).size + 1 ≤ 9223372036854775807 then ((when_put.f k t115 2).bind fun t122 => (if (((((((((t117 ++ (⟨#[45]⟩ : ByteArray)) ++ t118) ++ (⟨#[45]⟩ : ByteArray)) ++ t119) ++ (⟨#[84]⟩ : ByteArray)) ++ t120) ++ (⟨#[58]⟩ : ByteArray)) ++ t121) ++ (⟨#[58]⟩ : ByteArray)).size + t122.size ≤ 9223372036854775807 then (if ((((((((((t117 ++ (⟨#[45]⟩ : ByteArray)) ++ t118) ++ (⟨#[45]⟩ : ByteArray)) ++ t119) ++ (⟨#[84]⟩ : ByteArray)) ++ t120) ++ (⟨#[58]⟩ : ByteArray)) ++ t121) ++ (⟨#[58]⟩ : ByteArray)) ++ t122).size + 5 ≤ 9223372036854775807 then (some (((((((((((t117 ++ (⟨#[45]⟩ : ByteArray)) ++ t118) ++ (⟨#[45]⟩ : ByteArray)) ++ t119) ++ (⟨#[84]⟩ : ByteArray)) ++ t120) ++ (⟨#[58]⟩ : ByteArray)) ++ t121) ++ (⟨#[58]⟩ : ByteArray)) ++ t122) ++ (⟨#[46, 48, 48, 48, 90]⟩ : ByteArray))) else (none)) else (none))) else (none)) else (none))) else (none)) else (none))) else (none)) else (none))) else (none)) else (none)) = some r := H
      have A6 := Aside0.mk A60
      clear A60
      by_cases c7 : (t117 ++ (⟨#[45]⟩ : ByteArray)).size + t118.size ≤ 9223372036854775807
      · rw [if_pos c7] at H
        have c7b0 := eq_true c7
        have c7b1 : decide ((t117 ++ (⟨#[45]⟩ : ByteArray)).size + t118.size ≤ 9223372036854775807) = true := decide_eq_true c7
        try have c7b2 : (9223372036854775807 < (t117 ++ (⟨#[45]⟩ : ByteArray)).size + t118.size) = False := eq_false (Nat.not_lt.2 c7)
        try (have c7n : t117.size + 1 + t118.size ≤ 9223372036854775807 := by have h_ := c7; simp only [ByteArray.size_append, ByteArray.size_extract] at h_; exact h_)
        try have c7f : (9223372036854775807 < t117.size + 1 + t118.size) = False := eq_false (by first | omega | (simp only [eq_iff_iff, iff_true] at *; omega))
        by_cases c8 : ((t117 ++ (⟨#[45]⟩ : ByteArray)) ++ t118).size + 1 ≤ 9223372036854775807
        · rw [if_pos c8] at H
          have c8b0 := eq_true c8
          have c8b1 : decide (((t117 ++ (⟨#[45]⟩ : ByteArray)) ++ t118).size + 1 ≤ 9223372036854775807) = true := decide_eq_true c8
          try have c8b2 : (9223372036854775807 < ((t117 ++ (⟨#[45]⟩ : ByteArray)) ++ t118).size + 1) = False := eq_false (Nat.not_lt.2 c8)
          try (have c8n : t117.size + 1 + t118.size + 1 ≤ 9223372036854775807 := by have h_ := c8; simp only [ByteArray.size_append, ByteArray.size_extract] at h_; exact h_)
          try have c8f : (9223372036854775807 < t117.size + 1 + t118.size + 1) = False := eq_false (by first | omega | (simp only [eq_iff_iff, iff_true] at *; omega))
          replace H := Option.bind_eq_some_iff.mp H
          obtain ⟨t119, A90, H⟩ := H
          replace H : (if (((t117 ++ (⟨#[45]⟩ : ByteArray)) ++ t118) ++ (⟨#[45]⟩ : ByteArray)).size + t119.size ≤ 9223372036854775807 then (if ((((t117 ++ (⟨#[45]⟩ : ByteArray)) ++ t118) ++ (⟨#[45]⟩ : ByteArray)) ++ t119).size + 1 ≤ 9223372036854775807 then ((when_put.f k t113 2).bind fun t120 => (if (((((t117 ++ (⟨#[45]⟩ : ByteArray)) ++ t118) ++ (⟨#[45]⟩ : ByteArray)) ++ t119) ++ (⟨#[84]⟩ : ByteArray)).size + t120.size ≤ 9223372036854775807 then (if ((((((t117 ++ (⟨#[45]⟩ : ByteArray)) ++ t118) ++ (⟨#[45]⟩ : ByteArray)) ++ t119) ++ (⟨#[84]⟩ : ByteArray)) ++ t120).size + 1 ≤ 9223372036854775807 then ((when_put.f k t114 2).bind fun t121 => (if (((((((t117 ++ (⟨#[45]⟩ : ByteArray)) ++ t118) ++ (⟨#[45]⟩ : ByteArray)) ++ t119) ++ (⟨#[84]⟩ : ByteArray)) ++ t120) ++ (⟨#[58]⟩ : ByteArray)).size + t121.size ≤ 9223372036854775807 then (if ((((((((t117 ++ (⟨#[45]⟩ : ByteArray)) ++ t118) ++ (⟨#[45]⟩ : ByteArray)) ++ t119) ++ (⟨#[84]⟩ : ByteArray)) ++ t120) ++ (⟨#[58]⟩ : ByteArray)) ++ t121).size + 1 ≤ 9223372036854775807 then ((when_put.f k t115 2).bind fun t122 => (if (((((((((t117 ++ (⟨#[45]⟩ : ByteArray)) ++ t118) ++ (⟨#[45]⟩ : ByteArray)) ++ t119) ++ (⟨#[84]⟩ : ByteArray)) ++ t120) ++ (⟨#[58]⟩ : ByteArray)) ++ t121) ++ (⟨#[58]⟩ : ByteArray)).size + t122.size ≤ 9223372036854775807 then (if ((((((((((t117 ++ (⟨#[45]⟩ : ByteArray)) ++ t118) ++ (⟨#[45]⟩ : ByteArray)) ++ t119) ++ (⟨#[84]⟩ : ByteArray)) ++ t120) ++ (⟨#[58]⟩ : ByteArray)) ++ t121) ++ (⟨#[58]⟩ : ByteArray)) ++ t122).size + 5 ≤ 9223372036854775807 then (some (((((((((((t117 ++ (⟨#[45]⟩ : ByteArray)) ++ t118) ++ (⟨#[45]⟩ : ByteArray)) ++ t119) ++ (⟨#[84]⟩ : ByteArray)) ++ t120) ++ (⟨#[58]⟩ : ByteArray)) ++ t121) ++ (⟨#[58]⟩ : ByteArray)) ++ t122) ++ (⟨#[46, 48, 48, 48, 90]⟩ : ByteArray))) else (none)) else (none))) else (none)) else (none))) else (none)) else (none))) else (none)) else (none)) = some r := H
          have A9 := Aside0.mk A90
          clear A90
          by_cases c10 : (((t117 ++ (⟨#[45]⟩ : ByteArray)) ++ t118) ++ (⟨#[45]⟩ : ByteArray)).size + t119.size ≤ 9223372036854775807
          · rw [if_pos c10] at H
            have c10b0 := eq_true c10
            have c10b1 : decide ((((t117 ++ (⟨#[45]⟩ : ByteArray)) ++ t118) ++ (⟨#[45]⟩ : ByteArray)).size + t119.size ≤ 9223372036854775807) = true := decide_eq_true c10
            try have c10b2 : (9223372036854775807 < (((t117 ++ (⟨#[45]⟩ : ByteArray)) ++ t118) ++ (⟨#[45]⟩ : ByteArray)).size + t119.size) = False := eq_false (Nat.not_lt.2 c10)
            try (have c10n : t117.size + 1 + t118.size + 1 + t119.size ≤ 9223372036854775807 := by have h_ := c10; simp only [ByteArray.size_append, ByteArray.size_extract] at h_; exact h_)
            try have c10f : (9223372036854775807 < t117.size + 1 + t118.size + 1 + t119.size) = False := eq_false (by first | omega | (simp only [eq_iff_iff, iff_true] at *; omega))
            by_cases c11 : ((((t117 ++ (⟨#[45]⟩ : ByteArray)) ++ t118) ++ (⟨#[45]⟩ : ByteArray)) ++ t119).size + 1 ≤ 9223372036854775807
            · rw [if_pos c11] at H
              have c11b0 := eq_true c11
              have c11b1 : decide (((((t117 ++ (⟨#[45]⟩ : ByteArray)) ++ t118) ++ (⟨#[45]⟩ : ByteArray)) ++ t119).size + 1 ≤ 9223372036854775807) = true := decide_eq_true c11
              try have c11b2 : (9223372036854775807 < ((((t117 ++ (⟨#[45]⟩ : ByteArray)) ++ t118) ++ (⟨#[45]⟩ : ByteArray)) ++ t119).size + 1) = False := eq_false (Nat.not_lt.2 c11)
              try (have c11n : t117.size + 1 + t118.size + 1 + t119.size + 1 ≤ 9223372036854775807 := by have h_ := c11; simp only [ByteArray.size_append, ByteArray.size_extract] at h_; exact h_)
              try have c11f : (9223372036854775807 < t117.size + 1 + t118.size + 1 + t119.size + 1) = False := eq_false (by first | omega | (simp only [eq_iff_iff, iff_true] at *; omega))
              replace H := Option.bind_eq_some_iff.mp H
              obtain ⟨t120, A120, H⟩ := H
              replace H : (if (((((t117 ++ (⟨#[45]⟩ : ByteArray)) ++ t118) ++ (⟨#[45]⟩ : ByteArray)) ++ t119) ++ (⟨#[84]⟩ : ByteArray)).size + t120.size ≤ 9223372036854775807 then (if ((((((t117 ++ (⟨#[45]⟩ : ByteArray)) ++ t118) ++ (⟨#[45]⟩ : ByteArray)) ++ t119) ++ (⟨#[84]⟩ : ByteArray)) ++ t120).size + 1 ≤ 9223372036854775807 then ((when_put.f k t114 2).bind fun t121 => (if (((((((t117 ++ (⟨#[45]⟩ : ByteArray)) ++ t118) ++ (⟨#[45]⟩ : ByteArray)) ++ t119) ++ (⟨#[84]⟩ : ByteArray)) ++ t120) ++ (⟨#[58]⟩ : ByteArray)).size + t121.size ≤ 9223372036854775807 then (if ((((((((t117 ++ (⟨#[45]⟩ : ByteArray)) ++ t118) ++ (⟨#[45]⟩ : ByteArray)) ++ t119) ++ (⟨#[84]⟩ : ByteArray)) ++ t120) ++ (⟨#[58]⟩ : ByteArray)) ++ t121).size + 1 ≤ 9223372036854775807 then ((when_put.f k t115 2).bind fun t122 => (if (((((((((t117 ++ (⟨#[45]⟩ : ByteArray)) ++ t118) ++ (⟨#[45]⟩ : ByteArray)) ++ t119) ++ (⟨#[84]⟩ : ByteArray)) ++ t120) ++ (⟨#[58]⟩ : ByteArray)) ++ t121) ++ (⟨#[58]⟩ : ByteArray)).size + t122.size ≤ 9223372036854775807 then (if ((((((((((t117 ++ (⟨#[45]⟩ : ByteArray)) ++ t118) ++ (⟨#[45]⟩ : ByteArray)) ++ t119) ++ (⟨#[84]⟩ : ByteArray)) ++ t120) ++ (⟨#[58]⟩ : ByteArray)) ++ t121) ++ (⟨#[58]⟩ : ByteArray)) ++ t122).size + 5 ≤ 9223372036854775807 then (some (((((((((((t117 ++ (⟨#[45]⟩ : ByteArray)) ++ t118) ++ (⟨#[45]⟩ : ByteArray)) ++ t119) ++ (⟨#[84]⟩ : ByteArray)) ++ t120) ++ (⟨#[58]⟩ : ByteArray)) ++ t121) ++ (⟨#[58]⟩ : ByteArray)) ++ t122) ++ (⟨#[46, 48, 48, 48, 90]⟩ : ByteArray))) else (none)) else (none))) else (none)) else (none))) else (none)) else (none)) = some r := H
              have A12 := Aside0.mk A120
              clear A120
              by_cases c13 : (((((t117 ++ (⟨#[45]⟩ : ByteArray)) ++ t118) ++ (⟨#[45]⟩ : ByteArray)) ++ t119) ++ (⟨#[84]⟩ : ByteArray)).size + t120.size ≤ 9223372036854775807
              · rw [if_pos c13] at H
                have c13b0 := eq_true c13
                have c13b1 : decide ((((((t117 ++ (⟨#[45]⟩ : ByteArray)) ++ t118) ++ (⟨#[45]⟩ : ByteArray)) ++ t119) ++ (⟨#[84]⟩ : ByteArray)).size + t120.size ≤ 9223372036854775807) = true := decide_eq_true c13
                try have c13b2 : (9223372036854775807 < (((((t117 ++ (⟨#[45]⟩ : ByteArray)) ++ t118) ++ (⟨#[45]⟩ : ByteArray)) ++ t119) ++ (⟨#[84]⟩ : ByteArray)).size + t120.size) = False := eq_false (Nat.not_lt.2 c13)
                try (have c13n : t117.size + 1 + t118.size + 1 + t119.size + 1 + t120.size ≤ 9223372036854775807 := by have h_ := c13; simp only [ByteArray.size_append, ByteArray.size_extract] at h_; exact h_)
                try have c13f : (9223372036854775807 < t117.size + 1 + t118.size + 1 + t119.size + 1 + t120.size) = False := eq_false (by first | omega | (simp only [eq_iff_iff, iff_true] at *; omega))
                by_cases c14 : ((((((t117 ++ (⟨#[45]⟩ : ByteArray)) ++ t118) ++ (⟨#[45]⟩ : ByteArray)) ++ t119) ++ (⟨#[84]⟩ : ByteArray)) ++ t120).size + 1 ≤ 9223372036854775807
                · rw [if_pos c14] at H
                  have c14b0 := eq_true c14
                  have c14b1 : decide (((((((t117 ++ (⟨#[45]⟩ : ByteArray)) ++ t118) ++ (⟨#[45]⟩ : ByteArray)) ++ t119) ++ (⟨#[84]⟩ : ByteArray)) ++ t120).size + 1 ≤ 9223372036854775807) = true := decide_eq_true c14
                  try have c14b2 : (9223372036854775807 < ((((((t117 ++ (⟨#[45]⟩ : ByteArray)) ++ t118) ++ (⟨#[45]⟩ : ByteArray)) ++ t119) ++ (⟨#[84]⟩ : ByteArray)) ++ t120).size + 1) = False := eq_false (Nat.not_lt.2 c14)
                  try (have c14n : t117.size + 1 + t118.size + 1 + t119.size + 1 + t120.size + 1 ≤ 9223372036854775807 := by have h_ := c14; simp only [ByteArray.size_append, ByteArray.size_extract] at h_; exact h_)
                  try have c14f : (9223372036854775807 < t117.size + 1 + t118.size + 1 + t119.size + 1 + t120.size + 1) = False := eq_false (by first | omega | (simp only [eq_iff_iff, iff_true] at *; omega))
                  replace H := Option.bind_eq_some_iff.mp H
                  obtain ⟨t121, A150, H⟩ := H
                  replace H : (if (((((((t117 ++ (⟨#[45]⟩ : ByteArray)) ++ t118) ++ (⟨#[45]⟩ : ByteArray)) ++ t119) ++ (⟨#[84]⟩ : ByteArray)) ++ t120) ++ (⟨#[58]⟩ : ByteArray)).size + t121.size ≤ 9223372036854775807 then (if ((((((((t117 ++ (⟨#[45]⟩ : ByteArray)) ++ t118) ++ (⟨#[45]⟩ : ByteArray)) ++ t119) ++ (⟨#[84]⟩ : ByteArray)) ++ t120) ++ (⟨#[58]⟩ : ByteArray)) ++ t121).size + 1 ≤ 9223372036854775807 then ((when_put.f k t115 2).bind fun t122 => (if (((((((((t117 ++ (⟨#[45]⟩ : ByteArray)) ++ t118) ++ (⟨#[45]⟩ : ByteArray)) ++ t119) ++ (⟨#[84]⟩ : ByteArray)) ++ t120) ++ (⟨#[58]⟩ : ByteArray)) ++ t121) ++ (⟨#[58]⟩ : ByteArray)).size + t122.size ≤ 9223372036854775807 then (if ((((((((((t117 ++ (⟨#[45]⟩ : ByteArray)) ++ t118) ++ (⟨#[45]⟩ : ByteArray)) ++ t119) ++ (⟨#[84]⟩ : ByteArray)) ++ t120) ++ (⟨#[58]⟩ : ByteArray)) ++ t121) ++ (⟨#[58]⟩ : ByteArray)) ++ t122).size + 5 ≤ 9223372036854775807 then (some (((((((((((t117 ++ (⟨#[45]⟩ : ByteArray)) ++ t118) ++ (⟨#[45]⟩ : ByteArray)) ++ t119) ++ (⟨#[84]⟩ : ByteArray)) ++ t120) ++ (⟨#[58]⟩ : ByteArray)) ++ t121) ++ (⟨#[58]⟩ : ByteArray)) ++ t122) ++ (⟨#[46, 48, 48, 48, 90]⟩ : ByteArray))) else (none)) else (none))) else (none)) else (none)) = some r := H
                  have A15 := Aside0.mk A150
                  clear A150
                  by_cases c16 : (((((((t117 ++ (⟨#[45]⟩ : ByteArray)) ++ t118) ++ (⟨#[45]⟩ : ByteArray)) ++ t119) ++ (⟨#[84]⟩ : ByteArray)) ++ t120) ++ (⟨#[58]⟩ : ByteArray)).size + t121.size ≤ 9223372036854775807
                  · rw [if_pos c16] at H
                    have c16b0 := eq_true c16
                    have c16b1 : decide ((((((((t117 ++ (⟨#[45]⟩ : ByteArray)) ++ t118) ++ (⟨#[45]⟩ : ByteArray)) ++ t119) ++ (⟨#[84]⟩ : ByteArray)) ++ t120) ++ (⟨#[58]⟩ : ByteArray)).size + t121.size ≤ 9223372036854775807) = true := decide_eq_true c16
                    try have c16b2 : (9223372036854775807 < (((((((t117 ++ (⟨#[45]⟩ : ByteArray)) ++ t118) ++ (⟨#[45]⟩ : ByteArray)) ++ t119) ++ (⟨#[84]⟩ : ByteArray)) ++ t120) ++ (⟨#[58]⟩ : ByteArray)).size + t121.size) = False := eq_false (Nat.not_lt.2 c16)
                    try (have c16n : t117.size + 1 + t118.size + 1 + t119.size + 1 + t120.size + 1 + t121.size ≤ 9223372036854775807 := by have h_ := c16; simp only [ByteArray.size_append, ByteArray.size_extract] at h_; exact h_)
                    try have c16f : (9223372036854775807 < t117.size + 1 + t118.size + 1 + t119.size + 1 + t120.size + 1 + t121.size) = False := eq_false (by first | omega | (simp only [eq_iff_iff, iff_true] at *; omega))
                    by_cases c17 : ((((((((t117 ++ (⟨#[45]⟩ : ByteArray)) ++ t118) ++ (⟨#[45]⟩ : ByteArray)) ++ t119) ++ (⟨#[84]⟩ : ByteArray)) ++ t120) ++ (⟨#[58]⟩ : ByteArray)) ++ t121).size + 1 ≤ 9223372036854775807
                    · rw [if_pos c17] at H
                      have c17b0 := eq_true c17
                      have c17b1 : decide (((((((((t117 ++ (⟨#[45]⟩ : ByteArray)) ++ t118) ++ (⟨#[45]⟩ : ByteArray)) ++ t119) ++ (⟨#[84]⟩ : ByteArray)) ++ t120) ++ (⟨#[58]⟩ : ByteArray)) ++ t121).size + 1 ≤ 9223372036854775807) = true := decide_eq_true c17
                      try have c17b2 : (9223372036854775807 < ((((((((t117 ++ (⟨#[45]⟩ : ByteArray)) ++ t118) ++ (⟨#[45]⟩ : ByteArray)) ++ t119) ++ (⟨#[84]⟩ : ByteArray)) ++ t120) ++ (⟨#[58]⟩ : ByteArray)) ++ t121).size + 1) = False := eq_false (Nat.not_lt.2 c17)
                      try (have c17n : t117.size + 1 + t118.size + 1 + t119.size + 1 + t120.size + 1 + t121.size + 1 ≤ 9223372036854775807 := by have h_ := c17; simp only [ByteArray.size_append, ByteArray.size_extract] at h_; exact h_)
                      try have c17f : (9223372036854775807 < t117.size + 1 + t118.size + 1 + t119.size + 1 + t120.size + 1 + t121.size + 1) = False := eq_false (by first | omega | (simp only [eq_iff_iff, iff_true] at *; omega))
                      replace H := Option.bind_eq_some_iff.mp H
                      obtain ⟨t122, A180, H⟩ := H
                      replace H : (if (((((((((t117 ++ (⟨#[45]⟩ : ByteArray)) ++ t118) ++ (⟨#[45]⟩ : ByteArray)) ++ t119) ++ (⟨#[84]⟩ : ByteArray)) ++ t120) ++ (⟨#[58]⟩ : ByteArray)) ++ t121) ++ (⟨#[58]⟩ : ByteArray)).size + t122.size ≤ 9223372036854775807 then (if ((((((((((t117 ++ (⟨#[45]⟩ : ByteArray)) ++ t118) ++ (⟨#[45]⟩ : ByteArray)) ++ t119) ++ (⟨#[84]⟩ : ByteArray)) ++ t120) ++ (⟨#[58]⟩ : ByteArray)) ++ t121) ++ (⟨#[58]⟩ : ByteArray)) ++ t122).size + 5 ≤ 9223372036854775807 then (some (((((((((((t117 ++ (⟨#[45]⟩ : ByteArray)) ++ t118) ++ (⟨#[45]⟩ : ByteArray)) ++ t119) ++ (⟨#[84]⟩ : ByteArray)) ++ t120) ++ (⟨#[58]⟩ : ByteArray)) ++ t121) ++ (⟨#[58]⟩ : ByteArray)) ++ t122) ++ (⟨#[46, 48, 48, 48, 90]⟩ : ByteArray))) else (none)) else (none)) = some r := H
                      have A18 := Aside0.mk A180
                      clear A180
                      by_cases c19 : (((((((((t117 ++ (⟨#[45]⟩ : ByteArray)) ++ t118) ++ (⟨#[45]⟩ : ByteArray)) ++ t119) ++ (⟨#[84]⟩ : ByteArray)) ++ t120) ++ (⟨#[58]⟩ : ByteArray)) ++ t121) ++ (⟨#[58]⟩ : ByteArray)).size + t122.size ≤ 9223372036854775807
                      · rw [if_pos c19] at H
                        have c19b0 := eq_true c19
                        have c19b1 : decide ((((((((((t117 ++ (⟨#[45]⟩ : ByteArray)) ++ t118) ++ (⟨#[45]⟩ : ByteArray)) ++ t119) ++ (⟨#[84]⟩ : ByteArray)) ++ t120) ++ (⟨#[58]⟩ : ByteArray)) ++ t121) ++ (⟨#[58]⟩ : ByteArray)).size + t122.size ≤ 9223372036854775807) = true := decide_eq_true c19
                        try have c19b2 : (9223372036854775807 < (((((((((t117 ++ (⟨#[45]⟩ : ByteArray)) ++ t118) ++ (⟨#[45]⟩ : ByteArray)) ++ t119) ++ (⟨#[84]⟩ : ByteArray)) ++ t120) ++ (⟨#[58]⟩ : ByteArray)) ++ t121) ++ (⟨#[58]⟩ : ByteArray)).size + t122.size) = False := eq_false (Nat.not_lt.2 c19)
                        try (have c19n : t117.size + 1 + t118.size + 1 + t119.size + 1 + t120.size + 1 + t121.size + 1 + t122.size ≤ 9223372036854775807 := by have h_ := c19; simp only [ByteArray.size_append, ByteArray.size_extract] at h_; exact h_)
                        try have c19f : (9223372036854775807 < t117.size + 1 + t118.size + 1 + t119.size + 1 + t120.size + 1 + t121.size + 1 + t122.size) = False := eq_false (by first | omega | (simp only [eq_iff_iff, iff_true] at *; omega))
                        by_cases c20 : ((((((((((t117 ++ (⟨#[45]⟩ : ByteArray)) ++ t118) ++ (⟨#[45]⟩ : ByteArray)) ++ t119) ++ (⟨#[84]⟩ : ByteArray)) ++ t120) ++ (⟨#[58]⟩ : ByteArray)) ++ t121) ++ (⟨#[58]⟩ : ByteArray)) ++ t122).size + 5 ≤ 9223372036854775807
                        · rw [if_pos c20] at H
                          have c20b0 := eq_true c20
                          have c20b1 : decide (((((((((((t117 ++ (⟨#[45]⟩ : ByteArray)) ++ t118) ++ (⟨#[45]⟩ : ByteArray)) ++ t119) ++ (⟨#[84]⟩ : ByteArray)) ++ t120) ++ (⟨#[58]⟩ : ByteArray)) ++ t121) ++ (⟨#[58]⟩ : ByteArray)) ++ t122).size + 5 ≤ 9223372036854775807) = true := decide_eq_true c20
                          try have c20b2 : (9223372036854775807 < ((((((((((t117 ++ (⟨#[45]⟩ : ByteArray)) ++ t118) ++ (⟨#[45]⟩ : ByteArray)) ++ t119) ++ (⟨#[84]⟩ : ByteArray)) ++ t120) ++ (⟨#[58]⟩ : ByteArray)) ++ t121) ++ (⟨#[58]⟩ : ByteArray)) ++ t122).size + 5) = False := eq_false (Nat.not_lt.2 c20)
                          try (have c20n : t117.size + 1 + t118.size + 1 + t119.size + 1 + t120.size + 1 + t121.size + 1 + t122.size + 5 ≤ 9223372036854775807 := by have h_ := c20; simp only [ByteArray.size_append, ByteArray.size_extract] at h_; exact h_)
                          try have c20f : (9223372036854775807 < t117.size + 1 + t118.size + 1 + t119.size + 1 + t120.size + 1 + t121.size + 1 + t122.size + 5) = False := eq_false (by first | omega | (simp only [eq_iff_iff, iff_true] at *; omega))
                          obtain rfl := Option.some.inj H
                          go_enter Try.func17, Try.ntmps17
                          go_wp2_with (first | ((with_reducible refine gate_callee (f := 9) rfl ?_); refine goesL_ (some 12) rfl rfl Try.func9 (by kernel_rfl) rfl #[.int .i64 a0] rfl (by (try simp only [List.map_toArray, List.map_cons, List.map_nil]); first | done | rfl | (simp only [List.length_drop, List.length_take]; rfl)) ?_; (with_reducible refine (when_Civil.calls k a0 t110 t111 t112 t113 t114 t115 true _ A2.out).mono ?_); rintro e w' ⟨rfl, ⟨nd, rfl⟩⟩; refine ⟨_, rfl, ?_⟩) | ((with_reducible refine gate_callee (f := 33) rfl ?_); refine goesL_ (some 23) rfl rfl Try.func33 (by kernel_rfl) rfl #[.int .i64 t110, .int .i64 4] rfl (by (try simp only [List.map_toArray, List.map_cons, List.map_nil]); first | done | rfl | (simp only [List.length_drop, List.length_take]; rfl)) ?_; (with_reducible refine (when_put.calls k t110 4 t117 _ A4.out).mono ?_); rintro e w21 ⟨rfl, hb⟩; refine ⟨_, rfl, ?_⟩; have n0_ := Aside0.mk (below_step (by repeat (first | (with_reducible first | exact HB.out | apply below_alloc | apply pw_below_drewN | apply below_drew1) | exact HB.out)) hb); clear HB; have HB := n0_; clear n0_; (try clear hb); (try clear hb2); (try clear hk); (try clear hi)) | ((with_reducible refine gate_callee (f := 33) rfl ?_); refine goesL_ (some 26) rfl rfl Try.func33 (by kernel_rfl) rfl #[.int .i64 t111, .int .i64 2] rfl (by (try simp only [List.map_toArray, List.map_cons, List.map_nil]); first | done | rfl | (simp only [List.length_drop, List.length_take]; rfl)) ?_; (with_reducible refine (when_put.calls k t111 2 t118 _ A6.out).mono ?_); rintro e w22 ⟨rfl, hb⟩; refine ⟨_, rfl, ?_⟩; have n0_ := Aside0.mk (below_step (by repeat (first | (with_reducible first | exact HB.out | apply below_alloc | apply pw_below_drewN | apply below_drew1) | exact HB.out)) hb); clear HB; have HB := n0_; clear n0_; (try clear hb); (try clear hb2); (try clear hk); (try clear hi)) | ((with_reducible refine gate_callee (f := 33) rfl ?_); refine goesL_ (some 30) rfl rfl Try.func33 (by kernel_rfl) rfl #[.int .i64 t112, .int .i64 2] rfl (by (try simp only [List.map_toArray, List.map_cons, List.map_nil]); first | done | rfl | (simp only [List.length_drop, List.length_take]; rfl)) ?_; (with_reducible refine (when_put.calls k t112 2 t119 _ A9.out).mono ?_); rintro e w23 ⟨rfl, hb⟩; refine ⟨_, rfl, ?_⟩; have n0_ := Aside0.mk (below_step (by repeat (first | (with_reducible first | exact HB.out | apply below_alloc | apply pw_below_drewN | apply below_drew1) | exact HB.out)) hb); clear HB; have HB := n0_; clear n0_; (try clear hb); (try clear hb2); (try clear hk); (try clear hi)) | ((with_reducible refine gate_callee (f := 33) rfl ?_); refine goesL_ (some 34) rfl rfl Try.func33 (by kernel_rfl) rfl #[.int .i64 t113, .int .i64 2] rfl (by (try simp only [List.map_toArray, List.map_cons, List.map_nil]); first | done | rfl | (simp only [List.length_drop, List.length_take]; rfl)) ?_; (with_reducible refine (when_put.calls k t113 2 t120 _ A12.out).mono ?_); rintro e w24 ⟨rfl, hb⟩; refine ⟨_, rfl, ?_⟩; have n0_ := Aside0.mk (below_step (by repeat (first | (with_reducible first | exact HB.out | apply below_alloc | apply pw_below_drewN | apply below_drew1) | exact HB.out)) hb); clear HB; have HB := n0_; clear n0_; (try clear hb); (try clear hb2); (try clear hk); (try clear hi)) | ((with_reducible refine gate_callee (f := 33) rfl ?_); refine goesL_ (some 38) rfl rfl Try.func33 (by kernel_rfl) rfl #[.int .i64 t114, .int .i64 2] rfl (by (try simp only [List.map_toArray, List.map_cons, List.map_nil]); first | done | rfl | (simp only [List.length_drop, List.length_take]; rfl)) ?_; (with_reducible refine (when_put.calls k t114 2 t121 _ A15.out).mono ?_); rintro e w25 ⟨rfl, hb⟩; refine ⟨_, rfl, ?_⟩; have n0_ := Aside0.mk (below_step (by repeat (first | (with_reducible first | exact HB.out | apply below_alloc | apply pw_below_drewN | apply below_drew1) | exact HB.out)) hb); clear HB; have HB := n0_; clear n0_; (try clear hb); (try clear hb2); (try clear hk); (try clear hi)) | ((with_reducible refine gate_callee (f := 33) rfl ?_); refine goesL_ (some 42) rfl rfl Try.func33 (by kernel_rfl) rfl #[.int .i64 t115, .int .i64 2] rfl (by (try simp only [List.map_toArray, List.map_cons, List.map_nil]); first | done | rfl | (simp only [List.length_drop, List.length_take]; rfl)) ?_; (with_reducible refine (when_put.calls k t115 2 t122 _ A18.out).mono ?_); rintro e w26 ⟨rfl, hb⟩; refine ⟨_, rfl, ?_⟩; have n0_ := Aside0.mk (below_step (by repeat (first | (with_reducible first | exact HB.out | apply below_alloc | apply pw_below_drewN | apply below_drew1) | exact HB.out)) hb); clear HB; have HB := n0_; clear n0_; (try clear hb); (try clear hb2); (try clear hk); (try clear hi)))
                          go_ret
                          exact ⟨by first | rfl | (simp [errW_none, errW_some] <;> rfl) | (simp [*, errW_none, errW_some] <;> rfl), by repeat (first | (with_reducible first | exact HB.out | apply below_alloc | apply pw_below_drewN | apply below_drew1) | exact HB.out)⟩
                        · rw [if_neg c20] at H
                          exact absurd H (by simp)
                      · rw [if_neg c19] at H
                        exact absurd H (by simp)
                    · rw [if_neg c17] at H
                      exact absurd H (by simp)
                  · rw [if_neg c16] at H
                    exact absurd H (by simp)
                · rw [if_neg c14] at H
                  exact absurd H (by simp)
              · rw [if_neg c13] at H
                exact absurd H (by simp)
            · rw [if_neg c11] at H
              exact absurd H (by simp)
          · rw [if_neg c10] at H
            exact absurd H (by simp)
        · rw [if_neg c8] at H
          exact absurd H (by simp)
      · rw [if_neg c7] at H
        exact absurd H (by simp)
    · rw [if_neg c5] at H
      exact absurd H (by simp)
  · replace c3 := Bool.eq_false_iff.mpr c3
    subst c3
    have H1 : (some (⟨#[]⟩ : ByteArray)) = some r := by rw [if_neg (show ¬ (false = true) by decide)] at H; exact H
    clear H
    have H := H1
    clear H1
    obtain rfl := Option.some.inj H
    go_enter Try.func17, Try.ntmps17
    go_wp2_with (first | ((with_reducible refine gate_callee (f := 9) rfl ?_); refine goesL_ (some 12) rfl rfl Try.func9 (by kernel_rfl) rfl #[.int .i64 a0] rfl (by (try simp only [List.map_toArray, List.map_cons, List.map_nil]); first | done | rfl | (simp only [List.length_drop, List.length_take]; rfl)) ?_; (with_reducible refine (when_Civil.calls k a0 t110 t111 t112 t113 t114 t115 false _ A2.out).mono ?_); rintro e w' ⟨rfl, ⟨nd, rfl⟩⟩; refine ⟨_, rfl, ?_⟩))
    go_ret
    exact ⟨by first | rfl | (simp [errW_none, errW_some] <;> rfl) | (simp [*, errW_none, errW_some] <;> rfl), by repeat (first | (with_reducible first | exact HB.out | apply below_alloc | apply pw_below_drewN | apply below_drew1) | exact HB.out)⟩

end Go.Proofs.Yteggifhicmbopaa.Q

/- What some Go functions compute, told as plain Lean functions, each with the proof that the call comes to just that, for all arguments. Conditions: those in the theorems. Written by a program of this session. -/
namespace Go.Proofs.Yteggifhicmbopaa.Q
open Go.RowKit Go.Proofs.YteggifhicmbopaaW.PrintWords Go.Proofs.YteggifhicmbopaaW.PrintLast Go.Proofs.YteggifhicmbopaaW.PrintMore
set_option linter.unusedVariables false
set_option linter.unusedSimpArgs false
attribute [local go_sem] max2_int min2_int max_two min_two max_three min_three max_four min_four   -- for this text's walks alone

/-! ### when_Http: function 19 -/
def when_Http.f (k : Nat) (a0 : Int) : Option (ByteArray) := (when_Civil.f k a0).bind fun bt123 => (if bt123.2.2.2.2.2.2 = true then (if 0 ≤ (wrap64 ((Int.tmod (wrap64 (Int.tdiv a0 86400)) 7) * 3)) then (if (wrap64 ((Int.tmod (wrap64 (Int.tdiv a0 86400)) 7) * 3)) ≤ (wrap64 ((wrap64 ((Int.tmod (wrap64 (Int.tdiv a0 86400)) 7) * 3)) + 3)) then (if (wrap64 ((wrap64 ((Int.tmod (wrap64 (Int.tdiv a0 86400)) 7) * 3)) + 3)) ≤ 21 then (if ((⟨#[84, 104, 117, 70, 114, 105, 83, 97, 116, 83, 117, 110, 77, 111, 110, 84, 117, 101, 87, 101, 100]⟩ : ByteArray).extract ((wrap64 ((Int.tmod (wrap64 (Int.tdiv a0 86400)) 7) * 3)) : Int).toNat ((wrap64 ((wrap64 ((Int.tmod (wrap64 (Int.tdiv a0 86400)) 7) * 3)) + 3)) : Int).toNat).size + 2 ≤ 9223372036854775807 then ((when_put.f k bt123.2.2.1 2).bind fun t130 => (if (((⟨#[84, 104, 117, 70, 114, 105, 83, 97, 116, 83, 117, 110, 77, 111, 110, 84, 117, 101, 87, 101, 100]⟩ : ByteArray).extract ((wrap64 ((Int.tmod (wrap64 (Int.tdiv a0 86400)) 7) * 3)) : Int).toNat ((wrap64 ((wrap64 ((Int.tmod (wrap64 (Int.tdiv a0 86400)) 7) * 3)) + 3)) : Int).toNat) ++ (⟨#[44, 32]⟩ : ByteArray)).size + t130.size ≤ 9223372036854775807 then (if ((((⟨#[84, 104, 117, 70, 114, 105, 83, 97, 116, 83, 117, 110, 77, 111, 110, 84, 117, 101, 87, 101, 100]⟩ : ByteArray).extract ((wrap64 ((Int.tmod (wrap64 (Int.tdiv a0 86400)) 7) * 3)) : Int).toNat ((wrap64 ((wrap64 ((Int.tmod (wrap64 (Int.tdiv a0 86400)) 7) * 3)) + 3)) : Int).toNat) ++ (⟨#[44, 32]⟩ : ByteArray)) ++ t130).size + 1 ≤ 9223372036854775807 then (if 0 ≤ (wrap64 ((wrap64 (3 * bt123.2.1)) - 3)) then (if (wrap64 ((wrap64 (3 * bt123.2.1)) - 3)) ≤ (wrap64 (3 * bt123.2.1)) then (if (wrap64 (3 * bt123.2.1)) ≤ 36 then (if (((((⟨#[84, 104, 117, 70, 114, 105, 83, 97, 116, 83, 117, 110, 77, 111, 110, 84, 117, 101, 87, 101, 100]⟩ : ByteArray).extract ((wrap64 ((Int.tmod (wrap64 (Int.tdiv a0 86400)) 7) * 3)) : Int).toNat ((wrap64 ((wrap64 ((Int.tmod (wrap64 (Int.tdiv a0 86400)) 7) * 3)) + 3)) : Int).toNat) ++ (⟨#[44, 32]⟩ : ByteArray)) ++ t130) ++ (⟨#[32]⟩ : ByteArray)).size + ((⟨#[74, 97, 110, 70, 101, 98, 77, 97, 114, 65, 112, 114, 77, 97, 121, 74, 117, 110, 74, 117, 108, 65, 117, 103, 83, 101, 112, 79, 99, 116, 78, 111, 118, 68, 101, 99]⟩ : ByteArray).extract ((wrap64 ((wrap64 (3 * bt123.2.1)) - 3)) : Int).toNat ((wrap64 (3 * bt123.2.1)) : Int).toNat).size ≤ 9223372036854775807 then (if ((((((⟨#[84, 104, 117, 70, 114, 105, 83, 97, 116, 83, 117, 110, 77, 111, 110, 84, 117, 101, 87, 101, 100]⟩ : ByteArray).extract ((wrap64 ((Int.tmod (wrap64 (Int.tdiv a0 86400)) 7) * 3)) : Int).toNat ((wrap64 ((wrap64 ((Int.tmod (wrap64 (Int.tdiv a0 86400)) 7) * 3)) + 3)) : Int).toNat) ++ (⟨#[44, 32]⟩ : ByteArray)) ++ t130) ++ (⟨#[32]⟩ : ByteArray)) ++ ((⟨#[74, 97, 110, 70, 101, 98, 77, 97, 114, 65, 112, 114, 77, 97, 121, 74, 117, 110, 74, 117, 108, 65, 117, 103, 83, 101, 112, 79, 99, 116, 78, 111, 118, 68, 101, 99]⟩ : ByteArray).extract ((wrap64 ((wrap64 (3 * bt123.2.1)) - 3)) : Int).toNat ((wrap64 (3 * bt123.2.1)) : Int).toNat)).size + 1 ≤ 9223372036854775807 then ((when_put.f k bt123.1 4).bind fun t131 => (if (((((((⟨#[84, 104, 117, 70, 114, 105, 83, 97, 116, 83, 117, 110, 77, 111, 110, 84, 117, 101, 87, 101, 100]⟩ : ByteArray).extract ((wrap64 ((Int.tmod (wrap64 (Int.tdiv a0 86400)) 7) * 3)) : Int).toNat ((wrap64 ((wrap64 ((Int.tmod (wrap64 (Int.tdiv a0 86400)) 7) * 3)) + 3)) : Int).toNat) ++ (⟨#[44, 32]⟩ : ByteArray)) ++ t130) ++ (⟨#[32]⟩ : ByteArray)) ++ ((⟨#[74, 97, 110, 70, 101, 98, 77, 97, 114, 65, 112, 114, 77, 97, 121, 74, 117, 110, 74, 117, 108, 65, 117, 103, 83, 101, 112, 79, 99, 116, 78, 111, 118, 68, 101, 99]⟩ : ByteArray).extract ((wrap64 ((wrap64 (3 * bt123.2.1)) - 3)) : Int).toNat ((wrap64 (3 * bt123.2.1)) : Int).toNat)) ++ (⟨#[32]⟩ : ByteArray)).size + t131.size ≤ 9223372036854775807 then (if ((((((((⟨#[84, 104, 117, 70, 114, 105, 83, 97, 116, 83, 117, 110, 77, 111, 110, 84, 117, 101, 87, 101, 100]⟩ : ByteArray).extract ((wrap64 ((Int.tmod (wrap64 (Int.tdiv a0 86400)) 7) * 3)) : Int).toNat ((wrap64 ((wrap64 ((Int.tmod (wrap64 (Int.tdiv a0 86400)) 7) * 3)) + 3)) : Int).toNat) ++ (⟨#[44, 32]⟩ : ByteArray)) ++ t130) ++ (⟨#[32]⟩ : ByteArray)) ++ ((⟨#[74, 97, 110, 70, 101, 98, 77, 97, 114, 65, 112, 114, 77, 97, 121, 74, 117, 110, 74, 117, 108, 65, 117, 103, 83, 101, 112, 79, 99, 116, 78, 111, 118, 68, 101, 99]⟩ : ByteArray).extract ((wrap64 ((wrap64 (3 * bt123.2.1)) - 3)) : Int).toNat ((wrap64 (3 * bt123.2.1)) : Int).toNat)) ++ (⟨#[32]⟩ : ByteArray)) ++ t131).size + 1 ≤ 9223372036854775807 then ((when_put.f k bt123.2.2.2.1 2).bind fun t132 => (if (((((((((⟨#[84, 104, 117, 70, 114, 105, 83, 97, 116, 83, 117, 110, 77, 111, 110, 84, 117, 101, 87, 101, 100]⟩ : ByteArray).extract ((wrap64 ((Int.tmod (wrap64 (Int.tdiv a0 86400)) 7) * 3)) : Int).toNat ((wrap64 ((wrap64 ((Int.tmod (wrap64 (Int.tdiv a0 86400)) 7) * 3)) + 3)) : Int).toNat) ++ (⟨#[44, 32]⟩ : ByteArray)) ++ t130) ++ (⟨#[32]⟩ : ByteArray)) ++ ((⟨#[74, 97, 110, 70, 101, 98, 77, 97, 114, 65, 112, 114, 77, 97, 121, 74, 117, 110, 74, 117, 108, 65, 117, 103, 83, 101, 112, 79, 99, 116, 78, 111, 118, 68, 101, 99]⟩ : ByteArray).extract ((wrap64 ((wrap64 (3 * bt123.2.1)) - 3)) : Int).toNat ((wrap64 (3 * bt123.2.1)) : Int).toNat)) ++ (⟨#[32]⟩ : ByteArray)) ++ t131) ++ (⟨#[32]⟩ : ByteArray)).size + t132.size ≤ 9223372036854775807 then (if ((((((((((⟨#[84, 104, 117, 70, 114, 105, 83, 97, 116, 83, 117, 110, 77, 111, 110, 84, 117, 101, 87, 101, 100]⟩ : ByteArray).extract ((wrap64 ((Int.tmod (wrap64 (Int.tdiv a0 86400)) 7) * 3)) : Int).toNat ((wrap64 ((wrap64 ((Int.tmod (wrap64 (Int.tdiv a0 86400)) 7) * 3)) + 3)) : Int).toNat) ++ (⟨#[44, 32]⟩ : ByteArray)) ++ t130) ++ (⟨#[32]⟩ : ByteArray)) ++ ((⟨#[74, 97, 110, 70, 101, 98, 77, 97, 114, 65, 112, 114, 77, 97, 121, 74, 117, 110, 74, 117, 108, 65, 117, 103, 83, 101, 112, 79, 99, 116, 78, 111, 118, 68, 101, 99]⟩ : ByteArray).extract ((wrap64 ((wrap64 (3 * bt123.2.1)) - 3)) : Int).toNat ((wrap64 (3 * bt123.2.1)) : Int).toNat)) ++ (⟨#[32]⟩ : ByteArray)) ++ t131) ++ (⟨#[32]⟩ : ByteArray)) ++ t132).size + 1 ≤ 9223372036854775807 then ((when_put.f k bt123.2.2.2.2.1 2).bind fun t133 => (if (((((((((((⟨#[84, 104, 117, 70, 114, 105, 83, 97, 116, 83, 117, 110, 77, 111, 110, 84, 117, 101, 87, 101, 100]⟩ : ByteArray).extract ((wrap64 ((Int.tmod (wrap64 (Int.tdiv a0 86400)) 7) * 3)) : Int).toNat ((wrap64 ((wrap64 ((Int.tmod (wrap64 (Int.tdiv a0 86400)) 7) * 3)) + 3)) : Int).toNat) ++ (⟨#[44, 32]⟩ : ByteArray)) ++ t130) ++ (⟨#[32]⟩ : ByteArray)) ++ ((⟨#[74, 97, 110, 70, 101, 98, 77, 97, 114, 65, 112, 114, 77, 97, 121, 74, 117, 110, 74, 117, 108, 65, 117, 103, 83, 101, 112, 79, 99, 116, 78, 111, 118, 68, 101, 99]⟩ : ByteArray).extract ((wrap64 ((wrap64 (3 * bt123.2.1)) - 3)) : Int).toNat ((wrap64 (3 * bt123.2.1)) : Int).toNat)) ++ (⟨#[32]⟩ : ByteArray)) ++ t131) ++ (⟨#[32]⟩ : ByteArray)) ++ t132) ++ (⟨#[58]⟩ : ByteArray)).size + t133.size ≤ 9223372036854775807 then (if ((((((((((((⟨#[84, 104, 117, 70, 114, 105, 83, 97, 116, 83, 117, 110, 77, 111, 110, 84, 117, 101, 87, 101, 100]⟩ : ByteArray).extract ((wrap64 ((Int.tmod (wrap64 (Int.tdiv a0 86400)) 7) * 3)) : Int).toNat ((wrap64 ((wrap64 ((Int.tmod (wrap64 (Int.tdiv a0 86400)) 7) * 3)) + 3)) : Int).toNat) ++ (⟨#[44, 32]⟩ : ByteArray)) ++ t130) ++ (⟨#[32]⟩ : ByteArray)) ++ ((⟨#[74, 97, 110, 70, 101, 98, 77, 97, 114, 65, 112, 114, 77, 97, 121, 74, 117, 110, 74, 117, 108, 65, 117, 103, 83, 101, 112, 79, 99, 116, 78, 111, 118, 68, 101, 99]⟩ : ByteArray).extract ((wrap64 ((wrap64 (3 * bt123.2.1)) - 3)) : Int).toNat ((wrap64 (3 * bt123.2.1)) : Int).toNat)) ++ (⟨#[32]⟩ : ByteArray)) ++ t131) ++ (⟨#[32]⟩ : ByteArray)) ++ t132) ++ (⟨#[58]⟩ : ByteArray)) ++ t133).size + 1 ≤ 9223372036854775807 then ((when_put.f k bt123.2.2.2.2.2.1 2).bind fun t134 => (if (((((((((((((⟨#[84, 104, 117, 70, 114, 105, 83, 97, 116, 83, 117, 110, 77, 111, 110, 84, 117, 101, 87, 101, 100]⟩ : ByteArray).extract ((wrap64 ((Int.tmod (wrap64 (Int.tdiv a0 86400)) 7) * 3)) : Int).toNat ((wrap64 ((wrap64 ((Int.tmod (wrap64 (Int.tdiv a0 86400)) 7) * 3)) + 3)) : Int).toNat) ++ (⟨#[44, 32]⟩ : ByteArray)) ++ t130) ++ (⟨#[32]⟩ : ByteArray)) ++ ((⟨#[74, 97, 110, 70, 101, 98, 77, 97, 114, 65, 112, 114, 77, 97, 121, 74, 117, 110, 74, 117, 108, 65, 117, 103, 83, 101, 112, 79, 99, 116, 78, 111, 118, 68, 101, 99]⟩ : ByteArray).extract ((wrap64 ((wrap64 (3 * bt123.2.1)) - 3)) : Int).toNat ((wrap64 (3 * bt123.2.1)) : Int).toNat)) ++ (⟨#[32]⟩ : ByteArray)) ++ t131) ++ (⟨#[32]⟩ : ByteArray)) ++ t132) ++ (⟨#[58]⟩ : ByteArray)) ++ t133) ++ (⟨#[58]⟩ : ByteArray)).size + t134.size ≤ 9223372036854775807 then (if ((((((((((((((⟨#[84, 104, 117, 70, 114, 105, 83, 97, 116, 83, 117, 110, 77, 111, 110, 84, 117, 101, 87, 101, 100]⟩ : ByteArray).extract ((wrap64 ((Int.tmod (wrap64 (Int.tdiv a0 86400)) 7) * 3)) : Int).toNat ((wrap64 ((wrap64 ((Int.tmod (wrap64 (Int.tdiv a0 86400)) 7) * 3)) + 3)) : Int).toNat) ++ (⟨#[44, 32]⟩ : ByteArray)) ++ t130) ++ (⟨#[32]⟩ : ByteArray)) ++ ((⟨#[74, 97, 110, 70, 101, 98, 77, 97, 114, 65, 112, 114, 77, 97, 121, 74, 117, 110, 74, 117, 108, 65, 117, 103, 83, 101, 112, 79, 99, 116, 78, 111, 118, 68, 101, 99]⟩ : ByteArray).extract ((wrap64 ((wrap64 (3 * bt123.2.1)) - 3)) : Int).toNat ((wrap64 (3 * bt123.2.1)) : Int).toNat)) ++ (⟨#[32]⟩ : ByteArray)) ++ t131) ++ (⟨#[32]⟩ : ByteArray)) ++ t132) ++ (⟨#[58]⟩ : ByteArray)) ++ t133) ++ (⟨#[58]⟩ : ByteArray)) ++ t134).size + 4 ≤ 9223372036854775807 then (some (((((((((((((((⟨#[84, 104, 117, 70, 114, 105, 83, 97, 116, 83, 117, 110, 77, 111, 110, 84, 117, 101, 87, 101, 100]⟩ : ByteArray).extract ((wrap64 ((Int.tmod (wrap64 (Int.tdiv a0 86400)) 7) * 3)) : Int).toNat ((wrap64 ((wrap64 ((Int.tmod (wrap64 (Int.tdiv a0 86400)) 7) * 3)) + 3)) : Int).toNat) ++ (⟨#[44, 32]⟩ : ByteArray)) ++ t130) ++ (⟨#[32]⟩ : ByteArray)) ++ ((⟨#[74, 97, 110, 70, 101, 98, 77, 97, 114, 65, 112, 114, 77, 97, 121, 74, 117, 110, 74, 117, 108, 65, 117, 103, 83, 101, 112, 79, 99, 116, 78, 111, 118, 68, 101, 99]⟩ : ByteArray).extract ((wrap64 ((wrap64 (3 * bt123.2.1)) - 3)) : Int).toNat ((wrap64 (3 * bt123.2.1)) : Int).toNat)) ++ (⟨#[32]⟩ : ByteArray)) ++ t131) ++ (⟨#[32]⟩ : ByteArray)) ++ t132) ++ (⟨#[58]⟩ : ByteArray)) ++ t133) ++ (⟨#[58]⟩ : ByteArray)) ++ t134) ++ (⟨#[32, 71, 77, 84]⟩ : ByteArray))) else (none)) else (none))) else (none)) else (none))) else (none)) else (none))) else (none)) else (none))) else (none)) else (none)) else (none)) else (none)) else (none)) else (none)) else (none))) else (none)) else (none)) else (none)) else (none)) else (some (⟨#[]⟩ : ByteArray)))
theorem when_Http.mono : ∀ a0 k, LeO (when_Http.f k a0) (when_Http.f (k + 1) a0) := by
  intro a0 k
  unfold when_Http.f
  repeat' first
      | (with_reducible exact when_Civil.mono _ _)
      | (with_reducible exact when_put.mono _ _ _)
      | (with_reducible exact LeO.refl _)
      | (with_reducible exact LeO.none _)
      | (with_reducible refine LeO.ite ?_ ?_)
      | (with_reducible refine LeO.bind ?_ (fun _ => ?_))
      | exact when_Civil.mono _ _
      | exact when_put.mono _ _ _
      | exact LeO.none _
      | refine LeO.ite ?_ ?_
      | refine LeO.bind ?_ (fun _ => ?_)
def when_Http.T5 : Bool × List (List Nat × List Nat) := (true, [([], []), ([], []), ([1], [1]), ([0, 2], [0, 2]), ([3], [3]), ([], []), ([5], [5]), ([4, 6], [4, 6]), ([7], [7]), ([], []), ([9], [9]), ([10], [10]), ([], []), ([12], [12]), ([11, 13], [11, 13]), ([8, 14], [8, 14]), ([15], [15]), ([], []), ([17, 6], [17]), ([16, 18], [16, 18]), ([19], [19]), ([], []), ([21, 18], [21]), ([20, 22], [20, 22]), ([23], [23]), ([], []), ([25, 22], [25]), ([24, 26], [24, 26]), ([27], [27]), ([], []), ([29, 26], [29]), ([28, 30], [28, 30]), ([31], [31]), ([32, 30, 0, 1, 2, 3, 4, 5, 6, 7, 8, 9, 10, 11, 12, 13, 14, 15, 16, 17, 18, 19, 20, 21, 22, 23, 24, 25, 26, 27, 28, 29, 30, 31, 32], [32])])
def when_Http.B5 : List Nat := [0, 0, 2, 7, 15, 0, 32, 127, 255, 0, 512, 1536, 0, 4096, 15872, 32767, 65535, 0, 131168, 524287, 1048575, 0, 2490464, 8388607, 16777215, 0, 40239200, 134217727, 268435455, 0, 644218976, 2147483647, 4294967295, 8589934591]
theorem when_Http.tab5 : rtab .any (opsOf Try.f19 5) = when_Http.T5 := by kernel_rfl
theorem when_Http.bits5 : waitsOk when_Http.T5.2 when_Http.B5 = true := by kernel_rfl
set_option maxHeartbeats 8000000 in
set_option maxRecDepth 100000 in
theorem when_Http.calls (k : Nat) (a0 : Int) (r : ByteArray) (w : World) (h : when_Http.f k a0 = some r) :
    Calls Try.prog 19 #[.int .i64 a0] w fun e w' => e = .returned (.string r) ∧ Below w.heap.size w w' := by
  have HB := Aside0.mk (Below.refl w.heap.size w)
  have H : ((when_Civil.f k a0).bind fun bt123 => (if bt123.2.2.2.2.2.2 = true then (if 0 ≤ (wrap64 ((Int.tmod (wrap64 (Int.tdiv a0 86400)) 7) * 3)) then (if (wrap64 ((Int.tmod (wrap64 (Int.tdiv a0 86400)) 7) * 3)) ≤ (wrap64 ((wrap64 ((Int.tmod (wrap64 (Int.tdiv a0 86400)) 7) * 3)) + 3)) then (if (wrap64 ((wrap64 ((Int.tmod (wrap64 (Int.tdiv a0 86400)) 7) * 3)) + 3)) ≤ 21 then (if ((⟨#[84, 104, 117, 70, 114, 105, 83, 97, 116, 83, 117, 110, 77, 111, 110, 84, 117, 101, 87, 101, 100]⟩ : ByteArray).extract ((wrap64 ((Int.tmod (wrap64 (Int.tdiv a0 86400)) 7) * 3)) : Int).toNat ((wrap64 ((wrap64 ((Int.tmod (wrap64 (Int.tdiv a0 86400)) 7) * 3)) + 3)) : Int).toNat).size + 2 ≤ 9223372036854775807 then ((when_put.f k bt123.2.2.1 2).bind fun t130 => (if (((⟨#[84, 104, 117, 70, 114, 105, 83, 97, 116, 83, 117, 110, 77, 111, 110, 84, 117, 101, 87, 101, 100]⟩ : ByteArray).extract ((wrap64 ((Int.tmod (wrap64 (Int.tdiv a0 86400)) 7) * 3)) : Int).toNat ((wrap64 ((wrap64 ((Int.tmod (wrap64 (Int.tdiv a0 86400)) 7) * 3)) + 3)) : Int).toNat) ++ (⟨#[44, 32]⟩ : ByteArray)).size + t130.size ≤ 9223372036854775807 then (if ((((⟨#[84, 104, 117, 70, 114, 105, 83, 97, 116, 83, 117, 110, 77, 111, 110, 84, 117, 101, 87, 101, 100]⟩ : ByteArray).extract ((wrap64 ((Int.tmod (wrap64 (Int.tdiv a0 86400)) 7) * 3)) : Int).toNat ((wrap64 ((wrap64 ((Int.tmod (wrap64 (Int.tdiv a0 86400)) 7) * 3)) + 3)) : Int).toNat) ++ (⟨#[44, 32]⟩ : ByteArray)) ++ t130).size + 1 ≤ 9223372036854775807 then (if 0 ≤ (wrap64 ((wrap64 (3 * bt123.2.1)) - 3)) then (if (wrap64 ((wrap64 (3 * bt123.2.1)) - 3)) ≤ (wrap64 (3 * bt123.2.1)) then (if (wrap64 (3 * bt123.2.1)) ≤ 36 then (if (((((⟨#[84, 104, 117, 70, 114, 105, 83, 97, 116, 83, 117, 110, 77, 111, 110, 84, 117, 101, 87, 101, 100]⟩ : ByteArray).extract ((wrap64 ((Int.tmod (wrap64 (Int.tdiv a0 86400)) 7) * 3)) : Int).toNat ((wrap64 ((wrap64 ((Int.tmod (wrap64 (Int.tdiv a0 86400)) 7) * 3)) + 3)) : Int).toNat) ++ (⟨#[44, 32]⟩ : ByteArray)) ++ t130) ++ (⟨#[32]⟩ : ByteArray)).size + ((⟨#[74, 97, 110, 70, 101, 98, 77, 97, 114, 65, 112, 114, 77, 97, 121, 74, 117, 110, 74, 117, 108, 65, 117, 103, 83, 101, 112, 79, 99, 116, 78, 111, 118, 68, 101, 99]⟩ : ByteArray).extract ((wrap64 ((wrap64 (3 * bt123.2.1)) - 3)) : Int).toNat ((wrap64 (3 * bt123.2.1)) : Int).toNat).size ≤ 9223372036854775807 then (if ((((((⟨#[84, 104, 117, 70, 114, 105, 83, 97, 116, 83, 117, 110, 77, 111, 110, 84, 117, 101, 87, 101, 100]⟩ : ByteArray).extract ((wrap64 ((Int.tmod (wrap64 (Int.tdiv a0 86400)) 7) * 3)) : Int).toNat ((wrap64 ((wrap64 ((Int.tmod (wrap64 (Int.tdiv a0 86400)) 7) * 3)) + 3)) : Int).toNat) ++ (⟨#[44, 32]⟩ : ByteArray)) ++ t130) ++ (⟨#[32]⟩ : ByteArray)) ++ ((⟨#[74, 97, 110, 70, 101, 98, 77, 97, 114, 65, 112, 114, 77, 97, 121, 74, 117, 110, 74, 117, 108, 65, 117, 103, 83, 101, 112, 79, 99, 116, 78, 111, 118, 68, 101, 99]⟩ : ByteArray).extract ((wrap64 ((wrap64 (3 * bt123.2.1)) - 3)) : Int).toNat ((wrap64 (3 * bt123.2.1)) : Int).toNat)).size + 1 ≤ 9223372036854775807 then ((when_put.f k bt123.1 4).bind fun t131 => (if (((((((⟨#[84, 104, 117, 70, 114, 105, 83, 97, 116, 83, 117, 110, 77, 111, 110, 84, 117, 101, 87, 101, 100]⟩ : ByteArray).extract ((wrap64 ((Int.tmod (wrap64 (Int.tdiv a0 86400)) 7) * 3)) : Int).toNat ((wrap64 ((wrap64 ((Int.tmod (wrap64 (Int.tdiv a0 86400)) 7) * 3)) + 3)) : Int).toNat) ++ (⟨#[44, 32]⟩ : ByteArray)) ++ t130) ++ (⟨#[32]⟩ : ByteArray)) ++ ((⟨#[74, 97, 110, 70, 101, 98, 77, 97, 114, 65, 112, 114, 77, 97, 121, 74, 117, 110, 74, 117, 108, 65, 117, 103, 83, 101, 112, 79, 99, 116, 78, 111, 118, 68, 101, 99]⟩ : ByteArray).extract ((wrap64 ((wrap64 (3 * bt123.2.1)) - 3)) : Int).toNat ((wrap64 (3 * bt123.2.1)) : Int).toNat)) ++ (⟨#[32]⟩ : ByteArray)).size + t131.size ≤ 9223372036854775807 then (if ((((((((⟨#[84, 104, 117, 70, 114, 105, 83, 97, 116, 83, 117, 110, 77, 111, 110, 84, 117, 101, 87, 101, 100]⟩ : ByteArray).extract ((wrap64 ((Int.tmod (wrap64 (Int.tdiv a0 86400)) 7) * 3)) : Int).toNat ((wrap64 ((wrap64 ((Int.tmod (wrap64 (Int.tdiv a0 86400)) 7) * 3)) + 3)) : Int).toNat) ++ (⟨#[44, 32]⟩ : ByteArray)) ++ t130) ++ (⟨#[32]⟩ : ByteArray)) ++ ((⟨#[74, 97, 110, 70, 101, 98, 77, 97, 114, 65, 112, 114, 77, 97, 121, 74, 117, 110, 74, 117, 108, 65, 117, 103, 83, 101, 112, 79, 99, 116, 78, 111, 118, 68, 101, 99]⟩ : ByteArray).extract ((wrap64 ((wrap64 (3 * bt123.2.1)) - 3)) : Int).toNat ((wrap64 (3 * bt123.2.1)) : Int).toNat)) ++ (⟨#[32]⟩ : ByteArray)) ++ t131).size + 1 ≤ 9223372036854775807 then ((when_put.f k bt123.2.2.2.1 2).bind fun t132 => (if (((((((((⟨#[84, 104, 117, 70, 114, 105, 83, 97, 116, 83, 117, 110, 77, 111, 110, 84, 117, 101, 87, 101, 100]⟩ : ByteArray).extract ((wrap64 ((Int.tmod (wrap64 (Int.tdiv a0 86400)) 7) * 3)) : Int).toNat ((wrap64 ((wrap64 ((Int.tmod (wrap64 (Int.tdiv a0 86400)) 7) * 3)) + 3)) : Int).toNat) ++ (⟨#[44, 32]⟩ : ByteArray)) ++ t130) ++ (⟨#[32]⟩ : ByteArray)) ++ ((⟨#[74, 97, 110, 70, 101, 98, 77, 97, 114, 65, 112, 114, 77, 97, 121, 74, 117, 110, 74, 117, 108, 65, 117, 103, 83, 101, 112, 79, 99, 116, 78, 111, 118, 68, 101, 99]⟩ : ByteArray).extract ((wrap64 ((wrap64 (3 * bt123.2.1)) - 3)) : Int).toNat ((wrap64 (3 * bt123.2.1)) : Int).toNat)) ++ (⟨#[32]⟩ : ByteArray)) ++ t131) ++ (⟨#[32]⟩ : ByteArray)).size + t132.size ≤ 9223372036854775807 then (if ((((((((((⟨#[84, 104, 117, 70, 114, 105, 83, 97, 116, 83, 117, 110, 77, 111, 110, 84, 117, 101, 87, 101, 100]⟩ : ByteArray).extract ((wrap64 ((Int.tmod (wrap64 (Int.tdiv a0 86400)) 7) * 3)) : Int).toNat ((wrap64 ((wrap64 ((Int.tmod (wrap64 (Int.tdiv a0 86400)) 7) * 3)) + 3)) : Int).toNat) ++ (⟨#[44, 32]⟩ : ByteArray)) ++ t130) ++ (⟨#[32]⟩ : ByteArray)) ++ ((⟨#[74, 97, 110, 70, 101, 98, 77, 97, 114, 65, 112, 114, 77, 97, 121, 74, 117, 110, 74, 117, 108, 65, 117, 103, 83, 101, 112, 79, 99, 116, 78, 111, 118, 68, 101, 99]⟩ : ByteArray).extract ((wrap64 ((wrap64 (3 * bt123.2.1)) - 3)) : Int).toNat ((wrap64 (3 * bt123.2.1)) : Int).toNat)) ++ (⟨#[32]⟩ : ByteArray)) ++ t131) ++ (⟨#[32]⟩ : ByteArray)) ++ t132).size + 1 ≤ 9223372036854775807 then ((when_put.f k bt123.2.2.2.2.1 2).bind fun t133 => (if (((((((((((⟨#[84, 104, 117, 70, 114, 105, 83, 97, 116, 83, 117, 110, 77, 111, 110, 84, 117, 101, 87, 101, 100]⟩ : ByteArray).extract ((wrap64 ((Int.tmod (wrap64 (Int.tdiv a0 86400)) 7) * 3)) : Int).toNat ((wrap64 ((wrap64 ((Int.tmod (wrap64 (Int.tdiv a0 86400)) 7) * 3)) + 3)) : Int).toNat) ++ (⟨#[44, 32]⟩ : ByteArray)) ++ t130) ++ (⟨#[32]⟩ : ByteArray)) ++ ((⟨#[74, 97, 110, 70, 101, 98, 77, 97, 114, 65, 112, 114, 77, 97, 121, 74, 117, 110, 74, 117, 108, 65, 117, 103, 83, 101, 112, 79, 99, 116, 78, 111, 118, 68, 101, 99]⟩ : ByteArray).extract ((wrap64 ((wrap64 (3 * bt123.2.1)) - 3)) : Int).toNat ((wrap64 (3 * bt123.2.1)) : Int).toNat)) ++ (⟨#[32]⟩ : ByteArray)) ++ t131) ++ (⟨#[32]⟩ : ByteArray)) ++ t132) ++ (⟨#[58]⟩ : ByteArray)).size + t133.size ≤ 9223372036854775807 then (if ((((((((((((⟨#[84, 104, 117, 70, 114, 105, 83, 97, 116, 83, 117, 110, 77, 111, 110, 84, 117, 101, 87, 101, 100]⟩ : ByteArray).extract ((wrap64 ((Int.tmod (wrap64 (Int.tdiv a0 86400)) 7) * 3)) : Int).toNat ((wrap64 ((wrap64 ((Int.tmod (wrap64 (Int.tdiv a0 86400)) 7) * 3)) + 3)) : Int).toNat) ++ (⟨#[44, 32]⟩ : ByteArray)) ++ t130) ++ (⟨#[32]⟩ : ByteArray)) ++ ((⟨#[74, 97, 110, 70, 101, 98, 77, 97, 114, 65, 112, 114, 77, 97, 121, 74, 117, 110, 74, 117, 108, 65, 117, 103, 83, 101, 112, 79, 99, 116, 78, 111, 118, 68, 101, 99]⟩ : ByteArray).extract ((wrap64 ((wrap64 (3 * bt123.2.1)) - 3)) : Int).toNat ((wrap64 (3 * bt123.2.1)) : Int).toNat)) ++ (⟨#[32]⟩ : ByteArray)) ++ t131) ++ (⟨#[32]⟩ : ByteArray)) ++ t132) ++ (⟨#[58]⟩ : ByteArray)) ++ t133).size + 1 ≤ 9223372036854775807 then ((when_put.f k bt123.2.2.2.2.2.1 2).bind fun t134 => (if (((((((((((((⟨#[84, 104, 117, 70, 114, 105, 83, 97, 116, 83, 117, 110, 77, 111, 110, 84, 117, 101, 87, 101, 100]⟩ : ByteArray).extract ((wrap64 ((Int.tmod (wrap64 (Int.tdiv a0 86400)) 7) * 3)) : Int).toNat ((wrap64 ((wrap64 ((Int.tmod (wrap64 (Int.tdiv a0 86400)) 7) * 3)) + 3)) : Int).toNat) ++ (⟨#[44, 32]⟩ : ByteArray)) ++ t130) ++ (⟨#[32]⟩ : ByteArray)) ++ ((⟨#[74, 97, 110, 70, 101, 98, 77, 97, 114, 65, 112, 114, 77, 97, 121, 74, 117, 110, 74, 117, 108, 65, 117, 103, 83, 101, 112, 79, 99, 116, 78, 111, 118, 68, 101, 99]⟩ : ByteArray).extract ((wrap64 ((wrap64 (3 * bt123.2.1)) - 3)) : Int).toNat ((wrap64 (3 * bt123.2.1)) : Int).toNat)) ++ (⟨#[32]⟩ : ByteArray)) ++ t131) ++ (⟨#[32]⟩ : ByteArray)) ++ t132) ++ (⟨#[58]⟩ : ByteArray)) ++ t133) ++ (⟨#[58]⟩ : ByteArray)).size + t134.size ≤ 9223372036854775807 then (if ((((((((((((((⟨#[84, 104, 117, 70, 114, 105, 83, 97, 116, 83, 117, 110, 77, 111, 110, 84, 117, 101, 87, 101, 100]⟩ : ByteArray).extract ((wrap64 ((Int.tmod (wrap64 (Int.tdiv a0 86400)) 7) * 3)) : Int).toNat ((wrap64 ((wrap64 ((Int.tmod (wrap64 (Int.tdiv a0 86400)) 7) * 3)) + 3)) : Int).toNat) ++ (⟨#[44, 32]⟩ : ByteArray)) ++ t130) ++ (⟨#[32]⟩ : ByteArray)) ++ ((⟨#[74, 97, 110, 70, 101, 98, 77, 97, 114, 65, 112, 114, 77, 97, 121, 74, 117, 110, 74, 117, 108, 65, 117, 103, 83, 101, 112, 79, 99, 116, 78, 111, 118, 68, 101, 99]⟩ : ByteArray).extract ((wrap64 ((wrap64 (3 * bt123.2.1)) - 3)) : Int).toNat ((wrap64 (3 * bt123.2.1)) : Int).toNat)) ++ (⟨#[32]⟩ : ByteArray)) ++ t131) ++ (⟨#[32]⟩ : ByteArray)) ++ t132) ++ (⟨#[58]⟩ : ByteArray)) ++ t133) ++ (⟨#[58]⟩ : ByteArray)) ++ t134).size + 4 ≤ 9223372036854775807 then (some (((((((((((((((⟨#[84, 104, 117, 70, 114, 105, 83, 97, 116, 83, 117, 110, 77, 111, 110, 84, 117, 101, 87, 101, 100]⟩ : ByteArray).extract ((wrap64 ((Int.tmod (wrap64 (Int.tdiv a0 86400)) 7) * 3)) : Int).toNat ((wrap64 ((wrap64 ((Int.tmod (wrap64 (Int.tdiv a0 86400)) 7) * 3)) + 3)) : Int).toNat) ++ (⟨#[44, 32]⟩ : ByteArray)) ++ t130) ++ (⟨#[32]⟩ : ByteArray)) ++ ((⟨#[74, 97, 110, 70, 101, 98, 77, 97, 114, 65, 112, 114, 77, 97, 121, 74, 117, 110, 74, 117, 108, 65, 117, 103, 83, 101, 112, 79, 99, 116, 78, 111, 118, 68, 101, 99]⟩ : ByteArray).extract ((wrap64 ((wrap64 (3 * bt123.2.1)) - 3)) : Int).toNat ((wrap64 (3 * bt123.2.1)) : Int).toNat)) ++ (⟨#[32]⟩ : ByteArray)) ++ t131) ++ (⟨#[32]⟩ : ByteArray)) ++ t132) ++ (⟨#[58]⟩ : ByteArray)) ++ t133) ++ (⟨#[58]⟩ : ByteArray)) ++ t134) ++ (⟨#[32, 71, 77, 84]⟩ : ByteArray))) else (none)) else (none))) else (none)) else (none))) else (none)) else (none))) else (none)) else (none))) else (none)) else (none)) else (none)) else (none)) else (none)) else (none)) else (none))) else (none)) else (none)) else (none)) else (none)) else (some (⟨#[]⟩ : ByteArray)))) = some r := h
  clear h
  replace H := Option.bind_eq_some_iff.mp H
  obtain ⟨⟨t123, t124, t125, t126, t127, t128, t129⟩, A20, H⟩ := H
  replace H : (if t129 = true then (if 0 ≤ (wrap64 ((Int.tmod (wrap64 (Int.tdiv a0 86400)) 7) * 3)) then (if (wrap64 ((Int.tmod (wrap64 (Int.tdiv a0 86400)) 7) * 3)) ≤ (wrap64 ((wrap64 ((Int.tmod (wrap64 (Int.tdiv a0 86400)) 7) * 3)) + 3)) then (if (wrap64 ((wrap64 ((Int.tmod (wrap64 (Int.tdiv a0 86400)) 7) * 3)) + 3)) ≤ 21 then (if ((⟨#[84, 104, 117, 70, 114, 105, 83, 97, 116, 83, 117, 110, 77, 111, 110, 84, 117, 101, 87, 101, 100]⟩ : ByteArray).extract ((wrap64 ((Int.tmod (wrap64 (Int.tdiv a0 86400)) 7) * 3)) : Int).toNat ((wrap64 ((wrap64 ((Int.tmod (wrap64 (Int.tdiv a0 86400)) 7) * 3)) + 3)) : Int).toNat).size + 2 ≤ 9223372036854775807 then ((when_put.f k t125 2).bind fun t130 => (if (((⟨#[84, 104, 117, 70, 114, 105, 83, 97, 116, 83, 117, 110, 77, 111, 110, 84, 117, 101, 87, 101, 100]⟩ : ByteArray).extract ((wrap64 ((Int.tmod (wrap64 (Int.tdiv a0 86400)) 7) * 3)) : Int).toNat ((wrap64 ((wrap64 ((Int.tmod (wrap64 (Int.tdiv a0 86400)) 7) * 3)) + 3)) : Int).toNat) ++ (⟨#[44, 32]⟩ : ByteArray)).size + t130.size ≤ 9223372036854775807 then (if ((((⟨#[84, 104, 117, 70, 114, 105, 83, 97, 116, 83, 117, 110, 77, 111, 110, 84, 117, 101, 87, 101, 100]⟩ : ByteArray).extract ((wrap64 ((Int.tmod (wrap64 (Int.tdiv a0 86400)) 7) * 3)) : Int).toNat ((wrap64 ((wrap64 ((Int.tmod (wrap64 (Int.tdiv a0 86400)) 7) * 3)) + 3)) : Int).toNat) ++ (⟨#[44, 32]⟩ : ByteArray)) ++ t130).size + 1 ≤ 9223372036854775807 then (if 0 ≤ (wrap64 ((wrap64 (3 * t124)) - 3)) then (if (wrap64 ((wrap64 (3 * t124)) - 3)) ≤ (wrap64 (3 * t124)) then (if (wrap64 (3 * t124)) ≤ 36 then (if (((((⟨#[84, 104, 117, 70, 114, 105, 83, 97, 116, 83, 117, 110, 77, 111, 110, 84, 117, 101, 87, 101, 100]⟩ : ByteArray).extract ((wrap64 ((Int.tmod (wrap64 (Int.tdiv a0 86400)) 7) * 3)) : Int).toNat ((wrap64 ((wrap64 ((Int.tmod (wrap64 (Int.tdiv a0 86400)) 7) * 3)) + 3)) : Int).toNat) ++ (⟨#[44, 32]⟩ : ByteArray)) ++ t130) ++ (⟨#[32]⟩ : ByteArray)).size + ((⟨#[74, 97, 110, 70, 101, 98, 77, 97, 114, 65, 112, 114, 77, 97, 121, 74, 117, 110, 74, 117, 108, 65, 117, 103, 83, 101, 112, 79, 99, 116, 78, 111, 118, 68, 101, 99]⟩ : ByteArray).extract ((wrap64 ((wrap64 (3 * t124)) - 3)) : Int).toNat ((wrap64 (3 * t124)) : Int).toNat).size ≤ 9223372036854775807 then (if ((((((⟨#[84, 104, 117, 70, 114, 105, 83, 97, 116, 83, 117, 110, 77, 111, 110, 84, 117, 101, 87, 101, 100]⟩ : ByteArray).extract ((wrap64 ((Int.tmod (wrap64 (Int.tdiv a0 86400)) 7) * 3)) : Int).toNat ((wrap64 ((wrap64 ((Int.tmod (wrap64 (Int.tdiv a0 86400)) 7) * 3)) + 3)) : Int).toNat) ++ (⟨#[44, 32]⟩ : ByteArray)) ++ t130) ++ (⟨#[32]⟩ : ByteArray)) ++ ((⟨#[74, 97, 110, 70, 101, 98, 77, 97, 114, 65, 112, 114, 77, 97, 121, 74, 117, 110, 74, 117, 108, 65, 117, 103, 83, 101, 112, 79, 99, 116, 78, 111, 118, 68, 101, 99]⟩ : ByteArray).extract ((wrap64 ((wrap64 (3 * t124)) - 3)) : Int).toNat ((wrap64 (3 * t124)) : Int).toNat)).size + 1 ≤ 9223372036854775807 then ((when_put.f k t123 4).bind fun t131 => (if (((((((⟨#[84, 104, 117, 70, 114, 105, 83, 97, 116, 83, 117, 110, 77, 111, 110, 84, 117, 101, 87, 101, 100]⟩ : ByteArray).extract ((wrap64 ((Int.tmod (wrap64 (Int.tdiv a0 86400)) 7) * 3)) : Int).toNat ((wrap64 ((wrap64 ((Int.tmod (wrap64 (Int.tdiv a0 86400)) 7) * 3)) + 3)) : Int).toNat) ++ (⟨#[44, 32]⟩ : ByteArray)) ++ t130) ++ (⟨#[32]⟩ : ByteArray)) ++ ((⟨#[74, 97, 110, 70, 101, 98, 77, 97, 114, 65, 112, 114, 77, 97, 121, 74, 117, 110, 74, 117, 108, 65, 117, 103, 83, 101, 112, 79, 99, 116, 78, 111, 118, 68, 101, 99]⟩ : ByteArray).extract ((wrap64 ((wrap64 (3 * t124)) - 3)) : Int).toNat ((wrap64 (3 * t124)) : Int).toNat)) ++ (⟨#[32]⟩ : ByteArray)).size + t131.size ≤ 9223372036854775807 then (if ((((((((⟨#[84, 104, 117, 70, 114, 105, 83, 97, 116, 83, 117, 110, 77, 111, 110, 84, 117, 101, 87, 101, 100]⟩ : ByteArray).extract ((wrap64 ((Int.tmod (wrap64 (Int.tdiv a0 86400)) 7) * 3)) : Int).toNat ((wrap64 ((wrap64 ((Int.tmod (wrap64 (Int.tdiv a0 86400)) 7) * 3)) + 3)) : Int).toNat) ++ (⟨#[44, 32]⟩ : ByteArray)) ++ t130) ++ (⟨#[32]⟩ : ByteArray)) ++ ((⟨#[74, 97, 110, 70, 101, 98, 77, 97, 114, 65, 112, 114, 77, 97, 121, 74, 117, 110, 74, 117, 108, 65, 117, 103, 83, 101, 112, 79, 99, 116, 78, 111, 118, 68, 101, 99]⟩ : ByteArray).extract ((wrap64 ((wrap64 (3 * t124)) - 3)) : Int).toNat ((wrap64 (3 * t124)) : Int).toNat)) ++ (⟨#[32]⟩ : ByteArray)) ++ t131).size + 1 ≤ 9223372036854775807 then ((when_put.f k t126 2).bind fun t132 => (if (((((((((⟨#[84, 104, 117, 70, 114, 105, 83, 97, 116, 83, 117, 110, 77, 111, 110, 84, 117, 101, 87, 101, 100]⟩ : ByteArray).extract ((wrap64 ((Int.tmod (wrap64 (Int.tdiv a0 86400)) 7) * 3)) : Int).toNat ((wrap64 ((wrap64 ((Int.tmod (wrap64 (Int.tdiv a0 86400)) 7) * 3)) + 3)) : Int).toNat) ++ (⟨#[44, 32]⟩ : ByteArray)) ++ t130) ++ (⟨#[32]⟩ : ByteArray)) ++ ((⟨#[74, 97, 110, 70, 101, 98, 77, 97, 114, 65, 112, 114, 77, 97, 121, 74, 117, 110, 74, 117, 108, 65, 117, 103, 83, 101, 112, 79, 99, 116, 78, 111, 118, 68, 101, 99]⟩ : ByteArray).extract ((wrap64 ((wrap64 (3 * t124)) - 3)) : Int).toNat ((wrap64 (3 * t124)) : Int).toNat)) ++ (⟨#[32]⟩ : ByteArray)) ++ t131) ++ (⟨#[32]⟩ : ByteArray)).size + t132.size ≤ 9223372036854775807 then (if ((((((((((⟨#[84, 104, 117, 70, 114, 105, 83, 97, 116, 83, 117, 110, 77, 111, 110, 84, 117, 101, 87, 101, 100]⟩ : ByteArray).extract ((wrap64 ((Int.tmod (wrap64 (Int.tdiv a0 86400)) 7) * 3)) : Int).toNat ((wrap64 ((wrap64 ((Int.tmod (wrap64 (Int.tdiv a0 86400)) 7) * 3)) + 3)) : Int).toNat) ++ (⟨#[44, 32]⟩ : ByteArray)) ++ t130) ++ (⟨#[32]⟩ : ByteArray)) ++ ((⟨#[74, 97, 110, 70, 101, 98, 77, 97, 114, 65, 112, 114, 77, 97, 121, 74, 117, 110, 74, 117, 108, 65, 117, 103, 83, 101, 112, 79, 99, 116, 78, 111, 118, 68, 101, 99]⟩ : ByteArray).extract ((wrap64 ((wrap64 (3 * t124)) - 3)) : Int).toNat ((wrap64 (3 * t124)) : Int).toNat)) ++ (⟨#[32]⟩ : ByteArray)) ++ t131) ++ (⟨#[32]⟩ : ByteArray)) ++ t132).size + 1 ≤ 9223372036854775807 then ((when_put.f k t127 2).bind fun t133 => (if (((((((((((⟨#[84, 104, 117, 70, 114, 105, 83, 97, 116, 83, 117, 110, 77, 111, 110, 84, 117, 101, 87, 101, 100]⟩ : ByteArray).extract ((wrap64 ((Int.tmod (wrap64 (Int.tdiv a0 86400)) 7) * 3)) : Int).toNat ((wrap64 ((wrap64 ((Int.tmod (wrap64 (Int.tdiv a0 86400)) 7) * 3)) + 3)) : Int).toNat) ++ (⟨#[44, 32]⟩ : ByteArray)) ++ t130) ++ (⟨#[32]⟩ : ByteArray)) ++ ((⟨#[74, 97, 110, 70, 101, 98, 77, 97, 114, 65, 112, 114, 77, 97, 121, 74, 117, 110, 74, 117, 108, 65, 117, 103, 83, 101, 112, 79, 99, 116, 78, 111, 118, 68, 101, 99]⟩ : ByteArray).extract ((wrap64 ((wrap64 (3 * t124)) - 3)) : Int).toNat ((wrap64 (3 * t124)) : Int).toNat)) ++ (⟨#[32]⟩ : ByteArray)) ++ t131) ++ (⟨#[32]⟩ : ByteArray)) ++ t132) ++ (⟨#[58]⟩ : ByteArray)).size + t133.size ≤ 9223372036854775807 then (if ((((((((((((⟨#[84, 104, 117, 70, 114, 105, 83, 97, 116, 83, 117, 110, 77, 111, 110, 84, 117, 101, 87, 101, 100]⟩ : ByteArray).extract ((wrap64 ((Int.tmod (wrap64 (Int.tdiv a0 86400)) 7) * 3)) : Int).toNat ((wrap64 ((wrap64 ((Int.tmod (wrap64 (Int.tdiv a0 86400)) 7) * 3)) + 3)) : Int).toNat) ++ (⟨#[44, 32]⟩ : ByteArray)) ++ t130) ++ (⟨#[32]⟩ : ByteArray)) ++ ((⟨#[74, 97, 110, 70, 101, 98, 77, 97, 114, 65, 112, 114, 77, 97, 121, 74, 117, 110, 74, 117, 108, 65, 117, 103, 83, 101, 112, 79, 99, 116, 78, 111, 118, 68, 101, 99]⟩ : ByteArray).extract ((wrap64 ((wrap64 (3 * t124)) - 3)) : Int).toNat ((wrap64 (3 * t124)) : Int).toNat)) ++ (⟨#[32]⟩ : ByteArray)) ++ t131) ++ (⟨#[32]⟩ : ByteArray)) ++ t132) ++ (⟨#[58]⟩ : ByteArray)) ++ t133).size + 1 ≤ 9223372036854775807 then ((when_put.f k t128 2).bind fun t134 => (if (((((((((((((⟨#[84, 104, 117, 70, 114, 105, 83, 97, 116, 83, 117, 110, 77, 111, 110, 84, 117, 101, 87, 101, 100]⟩ : ByteArray).extract ((wrap64 ((Int.tmod (wrap64 (Int.tdiv a0 86400)) 7) * 3)) : Int).toNat ((wrap64 ((wrap64 ((Int.tmod (wrap64 (Int.tdiv a0 86400)) 7) * 3)) + 3)) : Int).toNat) ++ (⟨#[44, 32]⟩ : ByteArray)) ++ t130) ++ (⟨#[32]⟩ : ByteArray)) ++ ((⟨#[74, 97, 110, 70, 101, 98, 77, 97, 114, 65, 112, 114, 77, 97, 121, 74, 117, 110, 74, 117, 108, 65, 117, 103, 83, 101, 112, 79, 99, 116, 78, 111, 118, 68, 101, 99]⟩ : ByteArray).extract ((wrap64 ((wrap64 (3 * t124)) - 3)) : Int).toNat ((wrap64 (3 * t124)) : Int).toNat)) ++ (⟨#[32]⟩ : ByteArray)) ++ t131) ++ (⟨#[32]⟩ : ByteArray)) ++ t132) ++ (⟨#[58]⟩ : ByteArray)) ++ t133) ++ (⟨#[58]⟩ : ByteArray)).size + t134.size ≤ 9223372036854775807 then (if ((((((((((((((⟨#[84, 104, 117, 70, 114, 105, 83, 97, 116, 83, 117, 110, 77, 111, 110, 84, 117, 101, 87, 101, 100]⟩ : ByteArray).extract ((wrap64 ((Int.tmod (wrap64 (Int.tdiv a0 86400)) 7) * 3)) : Int).toNat ((wrap64 ((wrap64 ((Int.tmod (wrap64 (Int.tdiv a0 86400)) 7) * 3)) + 3)) : Int).toNat) ++ (⟨#[44, 32]⟩ : ByteArray)) ++ t130) ++ (⟨#[32]⟩ : ByteArray)) ++ ((⟨#[74, 97, 110, 70, 101, 98, 77, 97, 114, 65, 112, 114, 77, 97, 121, 74, 117, 110, 74, 117, 108, 65, 117, 103, 83, 101, 112, 79, 99, 116, 78, 111, 118, 68, 101, 99]⟩ : ByteArray).extract ((wrap64 ((wrap64 (3 * t124)) - 3)) : Int).toNat ((wrap64 (3 * t124)) : Int).toNat)) ++ (⟨#[32]⟩ : ByteArray)) ++ t131) ++ (⟨#[32]⟩ : ByteArray)) ++ t132) ++ (⟨#[58]⟩ : ByteArray)) ++ t133) ++ (⟨#[58]⟩ : ByteArray)) ++ t134).size + 4 ≤ 9223372036854775807 then (some (((((((((((((((⟨#[84, 104, 117, 70, 114, 105, 83, 97, 116, 83, 117, 110, 77, 111, 110, 84, 117, 101, 87, 101, 100]⟩ : ByteArray).extract ((wrap64 ((Int.tmod (wrap64 (Int.tdiv a0 86400)) 7) * 3)) : Int).toNat ((wrap64 ((wrap64 ((Int.tmod (wrap64 (Int.tdiv a0 86400)) 7) * 3)) + 3)) : Int).toNat) ++ (⟨#[44, 32]⟩ : ByteArray)) ++ t130) ++ (⟨#[32]⟩ : ByteArray)) ++ ((⟨#[74, 97, 110, 70, 101, 98, 77, 97, 114, 65, 112, 114, 77, 97, 121, 74, 117, 110, 74, 117, 108, 65, 117, 103, 83, 101, 112, 79, 99, 116, 78, 111, 118, 68, 101, 99]⟩ : ByteArray).extract ((wrap64 ((wrap64 (3 * t124)) - 3)) : Int).toNat ((wrap64 (3 * t124)) : Int).toNat)) ++ (⟨#[32]⟩ : ByteArray)) ++ t131) ++ (⟨#[32]⟩ : ByteArray)) ++ t132) ++ (⟨#[58]⟩ : ByteArray)) ++ t133) ++ (⟨#[58]⟩ : ByteArray)) ++ t134) ++ (⟨#[32, 71, 77, 84]⟩ : ByteArray))) else (none)) else (none))) else (none)) else (none))) else (none)) else (none))) else (none)) else (none))) else (none)) else (none)) else (none)) else (none)) else (none)) else (none)) else (none))) else (none)) else (none)) else (none)) else (none)) else (some (⟨#[]⟩ : ByteArray))) = some r := H
  have A2 := Aside0.mk A20
  clear A20
  by_cases c3 : t129 = true
  · subst c3
    have H1 : (if 0 ≤ (wrap64 ((Int.tmod (wrap64 (Int.tdiv a0 86400)) 7) * 3)) then (if (wrap64 ((Int.tmod (wrap64 (Int.tdiv a0 86400)) 7) * 3)) ≤ (wrap64 ((wrap64 ((Int.tmod (wrap64 (Int.tdiv a0 86400)) 7) * 3)) + 3)) then (if (wrap64 ((wrap64 ((Int.tmod (wrap64 (Int.tdiv a0 86400)) 7) * 3)) + 3)) ≤ 21 then (if ((⟨#[84, 104, 117, 70, 114, 105, 83, 97, 116, 83, 117, 110, 77, 111, 110, 84, 117, 101, 87, 101, 100]⟩ : ByteArray).extract ((wrap64 ((Int.tmod (wrap64 (Int.tdiv a0 86400)) 7) * 3)) : Int).toNat ((wrap64 ((wrap64 ((Int.tmod (wrap64 (Int.tdiv a0 86400)) 7) * 3)) + 3)) : Int).toNat).size + 2 ≤ 9223372036854775807 then ((when_put.f k t125 2).bind fun t130 => (if (((⟨#[84, 104, 117, 70, 114, 105, 83, 97, 116, 83, 117, 110, 77, 111, 110, 84, 117, 101, 87, 101, 100]⟩ : ByteArray).extract ((wrap64 ((Int.tmod (wrap64 (Int.tdiv a0 86400)) 7) * 3)) : Int).toNat ((wrap64 ((wrap64 ((Int.tmod (wrap64 (Int.tdiv a0 86400)) 7) * 3)) + 3)) : Int).toNat) ++ (⟨#[44, 32]⟩ : ByteArray)).size + t130.size ≤ 9223372036854775807 then (if ((((⟨#[84, 104, 117, 70, 114, 105, 83, 97, 116, 83, 117, 110, 77, 111, 110, 84, 117, 101, 87, 101, 100]⟩ : ByteArray).extract ((wrap64 ((Int.tmod (wrap64 (Int.tdiv a0 86400)) 7) * 3)) : Int).toNat ((wrap64 ((wrap64 ((Int.tmod (wrap64 (Int.tdiv a0 86400)) 7) * 3)) + 3)) : Int).toNat) ++ (⟨#[44, 32]⟩ : ByteArray)) ++ t130).size + 1 ≤ 9223372036854775807 then (if 0 ≤ (wrap64 ((wrap64 (3 * t124)) - 3)) then (if (wrap64 ((wrap64 (3 * t124)) - 3)) ≤ (wrap64 (3 * t124)) then (if (wrap64 (3 * t124)) ≤ 36 then (if (((((⟨#[84, 104, 117, 70, 114, 105, 83, 97, 116, 83, 117, 110, 77, 111, 110, 84, 117, 101, 87, 101, 100]⟩ : ByteArray).extract ((wrap64 ((Int.tmod (wrap64 (Int.tdiv a0 86400)) 7) * 3)) : Int).toNat ((wrap64 ((wrap64 ((Int.tmod (wrap64 (Int.tdiv a0 86400)) 7) * 3)) + 3)) : Int).toNat) ++ (⟨#[44, 32]⟩ : ByteArray)) ++ t130) ++ (⟨#[32]⟩ : ByteArray)).size + ((⟨#[74, 97, 110, 70, 101, 98, 77, 97, 114, 65, 112, 114, 77, 97, 121, 74, 117, 110, 74, 117, 108, 65, 117, 103, 83, 101, 112, 79, 99, 116, 78, 111, 118, 68, 101, 99]⟩ : ByteArray).extract ((wrap64 ((wrap64 (3 * t124)) - 3)) : Int).toNat ((wrap64 (3 * t124)) : Int).toNat).size ≤ 9223372036854775807 then (if ((((((⟨#[84, 104, 117, 70, 114, 105, 83, 97, 116, 83, 117, 110, 77, 111, 110, 84, 117, 101, 87, 101, 100]⟩ : ByteArray).extract ((wrap64 ((Int.tmod (wrap64 (Int.tdiv a0 86400)) 7) * 3)) : Int).toNat ((wrap64 ((wrap64 ((Int.tmod (wrap64 (Int.tdiv a0 86400)) 7) * 3)) + 3)) : Int).toNat) ++ (⟨#[44, 32]⟩ : ByteArray)) ++ t130) ++ (⟨#[32]⟩ : ByteArray)) ++ ((⟨#[74, 97, 110, 70, 101, 98, 77, 97, 114, 65, 112, 114, 77, 97, 121, 74, 117, 110, 74, 117, 108, 65, 117, 103, 83, 101, 112, 79, 99, 116, 78, 111, 118, 68, 101, 99]⟩ : ByteArray).extract ((wrap64 ((wrap64 (3 * t124)) - 3)) : Int).toNat ((wrap64 (3 * t124)) : Int).toNat)).size + 1 ≤ 9223372036854775807 then ((when_put.f k t123 4).bind fun t131 => (if (((((((⟨#[84, 104, 117, 70, 114, 105, 83, 97, 116, 83, 117, 110, 77, 111, 110, 84, 117, 101, 87, 101, 100]⟩ : ByteArray).extract ((wrap64 ((Int.tmod (wrap64 (Int.tdiv a0 86400)) 7) * 3)) : Int).toNat ((wrap64 ((wrap64 ((Int.tmod (wrap64 (Int.tdiv a0 86400)) 7) * 3)) + 3)) : Int).toNat) ++ (⟨#[44, 32]⟩ : ByteArray)) ++ t130) ++ (⟨#[32]⟩ : ByteArray)) ++ ((⟨#[74, 97, 110, 70, 101, 98, 77, 97, 114, 65, 112, 114, 77, 97, 121, 74, 117, 110, 74, 117, 108, 65, 117, 103, 83, 101, 112, 79, 99, 116, 78, 111, 118, 68, 101, 99]⟩ : ByteArray).extract ((wrap64 ((wrap64 (3 * t124)) - 3)) : Int).toNat ((wrap64 (3 * t124)) : Int).toNat)) ++ (⟨#[32]⟩ : ByteArray)).size + t131.size ≤ 9223372036854775807 then (if ((((((((⟨#[84, 104, 117, 70, 114, 105, 83, 97, 116, 83, 117, 110, 77, 111, 110, 84, 117, 101, 87, 101, 100]⟩ : ByteArray).extract ((wrap64 ((Int.tmod (wrap64 (Int.tdiv a0 86400)) 7) * 3)) : Int).toNat ((wrap64 ((wrap64 ((Int.tmod (wrap64 (Int.tdiv a0 86400)) 7) * 3)) + 3)) : Int).toNat) ++ (⟨#[44, 32]⟩ : ByteArray)) ++ t130) ++ (⟨#[32]⟩ : ByteArray)) ++ ((⟨#[74, 97, 110, 70, 101, 98, 77, 97, 114, 65, 112, 114, 77, 97, 121, 74, 117, 110, 74, 117, 108, 65, 117, 103, 83, 101, 112, 79, 99, 116, 78, 111, 118, 68, 101, 99]⟩ : ByteArray).extract ((wrap64 ((wrap64 (3 * t124)) - 3)) : Int).toNat ((wrap64 (3 * t124)) : Int).toNat)) ++ (⟨#[32]⟩ : ByteArray)) ++ t131).size + 1 ≤ 9223372036854775807 then ((when_put.f k t126 2).bind fun t132 => (if (((((((((⟨#[84, 104, 117, 70, 114, 105, 83, 97, 116, 83, 117, 110, 77, 111, 110, 84, 117, 101, 87, 101, 100]⟩ : ByteArray).extract ((wrap64 ((Int.tmod (wrap64 (Int.tdiv a0 86400)) 7) * 3)) : Int).toNat ((wrap64 ((wrap64 ((Int.tmod (wrap64 (Int.tdiv a0 86400)) 7) * 3)) + 3)) : Int).toNat) ++ (⟨#[44, 32]⟩ : ByteArray)) ++ t130) ++ (⟨#[32]⟩ : ByteArray)) ++ ((⟨#[74, 97, 110, 70, 101, 98, 77, 97, 114, 65, 112, 114, 77, 97, 121, 74, 117, 110, 74, 117, 108, 65, 117, 103, 83, 101, 112, 79, 99, 116, 78, 111, 118, 68, 101, 99]⟩ : ByteArray).extract ((wrap64 ((wrap64 (3 * t124)) - 3)) : Int).toNat ((wrap64 (3 * t124)) : Int).toNat)) ++ (⟨#[32]⟩ : ByteArray)) ++ t131) ++ (⟨#[32]⟩ : ByteArray)).size + t132.size ≤ 9223372036854775807 then (if ((((((((((⟨#[84, 104, 117, 70, 114, 105, 83, 97, 116, 83, 117, 110, 77, 111, 110, 84, 117, 101, 87, 101, 100]⟩ : ByteArray).extract ((wrap64 ((Int.tmod (wrap64 (Int.tdiv a0 86400)) 7) * 3)) : Int).toNat ((wrap64 ((wrap64 ((Int.tmod (wrap64 (Int.tdiv a0 86400)) 7) * 3)) + 3)) : Int).toNat) ++ (⟨#[44, 32]⟩ : ByteArray)) ++ t130) ++ (⟨#[32]⟩ : ByteArray)) ++ ((⟨#[74, 97, 110, 70, 101, 98, 77, 97, 114, 65, 112, 114, 77, 97, 121, 74, 117, 110, 74, 117, 108, 65, 117, 103, 83, 101, 112, 79, 99, 116, 78, 111, 118, 68, 101, 99]⟩ : ByteArray).extract ((wrap64 ((wrap64 (3 * t124)) - 3)) : Int).toNat ((wrap64 (3 * t124)) : Int).toNat)) ++ (⟨#[32]⟩ : ByteArray)) ++ t131) ++ (⟨#[32]⟩ : ByteArray)) ++ t132).size + 1 ≤ 9223372036854775807 then ((when_put.f k t127 2).bind fun t133 => (if (((((((((((⟨#[84, 104, 117, 70, 114, 105, 83, 97, 116, 83, 117, 110, 77, 111, 110, 84, 117, 101, 87, 101, 100]⟩ : ByteArray).extract ((wrap64 ((Int.tmod (wrap64 (Int.tdiv a0 86400)) 7) * 3)) : Int).toNat ((wrap64 ((wrap64 ((Int.tmod (wrap64 (Int.tdiv a0 86400)) 7) * 3)) + 3)) : Int).toNat) ++ (⟨#[44, 32]⟩ : ByteArray)) ++ t130) ++ (⟨#[32]⟩ : ByteArray)) ++ ((⟨#[74, 97, 110, 70, 101, 98, 77, 97, 114, 65, 112, 114, 77, 97, 121, 74, 117, 110, 74, 117, 108, 65, 117, 103, 83, 101, 112, 79, 99, 116, 78, 111, 118, 68, 101, 99]⟩ : ByteArray).extract ((wrap64 ((wrap64 (3 * t124)) - 3)) : Int).toNat ((wrap64 (3 * t124)) : Int).toNat)) ++ (⟨#[32]⟩ : ByteArray)) ++ t131) ++ (⟨#[32]⟩ : ByteArray)) ++ t132) ++ (⟨#[58]⟩ : ByteArray)).size + t133.size ≤ 9223372036854775807 then (if ((((((((((((⟨#[84, 104, 117, 70, 114, 105, 83, 97, 116, 83, 117, 110, 77, 111, 110, 84, 117, 101, 87, 101, 100]⟩ : ByteArray).extract ((wrap64 ((Int.tmod (wrap64 (Int.tdiv a0 86400)) 7) * 3)) : Int).toNat ((wrap64 ((wrap64 ((Int.tmod (wrap64 (Int.tdiv a0 86400)) 7) * 3)) + 3)) : Int).toNat) ++ (⟨#[44, 32]⟩ : ByteArray)) ++ t130) ++ (⟨#[32]⟩ : ByteArray)) ++ ((⟨#[74, 97, 110, 70, 101, 98, 77, 97, 114, 65, 112, 114, 77, 97, 121, 74, 117, 110, 74, 117, 108, 65, 117, 103, 83, 101, 112, 79, 99, 116, 78, 111, 118, 68, 101, 99]⟩ : ByteArray).extract ((wrap64 ((wrap64 (3 * t124)) - 3)) : Int).toNat ((wrap64 (3 * t124)) : Int).toNat)) ++ (⟨#[32]⟩ : ByteArray)) ++ t131) ++ (⟨#[32]⟩ : ByteArray)) ++ t132) ++ (⟨#[58]⟩ : ByteArray)) ++ t133).size + 1 ≤ 9223372036854775807 then ((when_put.f k t128 2).bind fun t134 => (if (((((((((((((⟨#[84, 104, 117, 70, 114, 105, 83, 97, 116, 83, 117, 110, 77, 111, 110, 84, 117, 101, 87, 101, 100]⟩ : ByteArray).extract ((wrap64 ((Int.tmod (wrap64 (Int.tdiv a0 86400)) 7) * 3)) : Int).toNat ((wrap64 ((wrap64 ((Int.tmod (wrap64 (Int.tdiv a0 86400)) 7) * 3)) + 3)) : Int).toNat) ++ (⟨#[44, 32]⟩ : ByteArray)) ++ t130) ++ (⟨#[32]⟩ : ByteArray)) ++ ((⟨#[74, 97, 110, 70, 101, 98, 77, 97, 114, 65, 112, 114, 77, 97, 121, 74, 117, 110, 74, 117, 108, 65, 117, 103, 83, 101, 112, 79, 99, 116, 78, 111, 118, 68, 101, 99]⟩ : ByteArray).extract ((wrap64 ((wrap64 (3 * t124)) - 3)) : Int).toNat ((wrap64 (3 * t124)) : Int).toNat)) ++ (⟨#[32]⟩ : ByteArray)) ++ t131) ++ (⟨#[32]⟩ : ByteArray)) ++ t132) ++ (⟨#[58]⟩ : ByteArray)) ++ t133) ++ (⟨#[58]⟩ : ByteArray)).size + t134.size ≤ 9223372036854775807 then (if ((((((((((((((⟨#[84, 104, 117, 70, 114, 105, 83, 97, 116, 83, 117, 110, 77, 111, 110, 84, 117, 101, 87, 101, 100]⟩ : ByteArray).extract ((wrap64 ((Int.tmod (wrap64 (Int.tdiv a0 86400)) 7) * 3)) : Int).toNat ((wrap64 ((wrap64 ((Int.tmod (wrap64 (Int.tdiv a0 86400)) 7) * 3)) + 3)) : Int).toNat) ++ (⟨#[44, 32]⟩ : ByteArray)) ++ t130) ++ (⟨#[32]⟩ : ByteArray)) ++ ((⟨#[74, 97, 110, 70, 101, 98, 77, 97, 114, 65, 112, 114, 77, 97, 121, 74, 117, 110, 74, 117, 108, 65, 117, 103, 83, 101, 112, 79, 99, 116, 78, 111, 118, 68, 101, 99]⟩ : ByteArray).extract ((wrap64 ((wrap64 (3 * t124)) - 3)) : Int).toNat ((wrap64 (3 * t124)) : Int).toNat)) ++ (⟨#[32]⟩ : ByteArray)) ++ t131) ++ (⟨#[32]⟩ : ByteArray)) ++ t132) ++ (⟨#[58]⟩ : ByteArray)) ++ t133) ++ (⟨#[58]⟩ : ByteArray)) ++ t134).size + 4 ≤ 9223372036854775807 then (some (((((((((((((((⟨#[84, 104, 117, 70, 114, 105, 83, 97, 116, 83, 117, 110, 77, 111, 110, 84, 117, 101, 87, 101, 100]⟩ : ByteArray).extract ((wrap64 ((Int.tmod (wrap64 (Int.tdiv a0 86400)) 7) * 3)) : Int).toNat ((wrap64 ((wrap64 ((Int.tmod (wrap64 (Int.tdiv a0 86400)) 7) * 3)) + 3)) : Int).toNat) ++ (⟨#[44, 32]⟩ : ByteArray)) ++ t130) ++ (⟨#[32]⟩ : ByteArray)) ++ ((⟨#[74, 97, 110, 70, 101, 98, 77, 97, 114, 65, 112, 114, 77, 97, 121, 74, 117, 110, 74, 117, 108, 65, 117, 103, 83, 101, 112, 79, 99, 116, 78, 111, 118, 68, 101, 99]⟩ : ByteArray).extract ((wrap64 ((wrap64 (3 * t124)) - 3)) : Int).toNat ((wrap64 (3 * t124)) : Int).toNat)) ++ (⟨#[32]⟩ : ByteArray)) ++ t131) ++ (⟨#[32]⟩ : ByteArray)) ++ t132) ++ (⟨#[58]⟩ : ByteArray)) ++ t133) ++ (⟨#[58]⟩ : ByteArray)) ++ t134) ++ (⟨#[32, 71, 77, 84]⟩ : ByteArray))) else (none)) else (none))) else (none)) else (none))) else (none)) else (none))) else (none)) else (none))) else (none)) else (none)) else (none)) else (none)) else (none)) else (none)) else (none))) else (none)) else (none)) else (none)) else (none)) = some r := by rw [if_pos rfl] at H; exact H
    clear H
    have H := H1
    clear H1
    obtain ⟨ji4, hji4⟩ : ∃ j_ : Int, (wrap64 ((Int.tmod (wrap64 (Int.tdiv a0 86400)) 7) * 3)) = j_ := ⟨_, rfl⟩
    replace H : (if 0 ≤ (ji4) then (if (ji4) ≤ (wrap64 ((ji4) + 3)) then (if (wrap64 ((ji4) + 3)) ≤ 21 then (if ((⟨#[84, 104, 117, 70, 114, 105, 83, 97, 116, 83, 117, 110, 77, 111, 110, 84, 117, 101, 87, 101, 100]⟩ : ByteArray).extract ((ji4) : Int).toNat ((wrap64 ((ji4) + 3)) : Int).toNat).size + 2 ≤ 9223372036854775807 then ((when_put.f k t125 2).bind fun t130 => (if (((⟨#[84, 104, 117, 70, 114, 105, 83, 97, 116, 83, 117, 110, 77, 111, 110, 84, 117, 101, 87, 101, 100]⟩ : ByteArray).extract ((ji4) : Int).toNat ((wrap64 ((ji4) + 3)) : Int).toNat) ++ (⟨#[44, 32]⟩ : ByteArray)).size + t130.size ≤ 9223372036854775807 then (if ((((⟨#[84, 104, 117, 70, 114, 105, 83, 97, 116, 83, 117, 110, 77, 111, 110, 84, 117, 101, 87, 101, 100]⟩ : ByteArray).extract ((ji4) : Int).toNat ((wrap64 ((ji4) + 3)) : Int).toNat) ++ (⟨#[44, 32]⟩ : ByteArray)) ++ t130).size + 1 ≤ 9223372036854775807 then (if 0 ≤ (wrap64 ((wrap64 (3 * t124)) - 3)) then (if (wrap64 ((wrap64 (3 * t124)) - 3)) ≤ (wrap64 (3 * t124)) then (if (wrap64 (3 * t124)) ≤ 36 then (if (((((⟨#[84, 104, 117, 70, 114, 105, 83, 97, 116, 83, 117, 110, 77, 111, 110, 84, 117, 101, 87, 101, 100]⟩ : ByteArray).extract ((ji4) : Int).toNat ((wrap64 ((ji4) + 3)) : Int).toNat) ++ (⟨#[44, 32]⟩ : ByteArray)) ++ t130) ++ (⟨#[32]⟩ : ByteArray)).size + ((⟨#[74, 97, 110, 70, 101, 98, 77, 97, 114, 65, 112, 114, 77, 97, 121, 74, 117, 110, 74, 117, 108, 65, 117, 103, 83, 101, 112, 79, 99, 116, 78, 111, 118, 68, 101, 99]⟩ : ByteArray).extract ((wrap64 ((wrap64 (3 * t124)) - 3)) : Int).toNat ((wrap64 (3 * t124)) : Int).toNat).size ≤ 9223372036854775807 then (if ((((((⟨#[84, 104, 117, 70, 114, 105, 83, 97, 116, 83, 117, 110, 77, 111, 110, 84, 117, 101, 87, 101, 100]⟩ : ByteArray).extract ((ji4) : Int).toNat ((wrap64 ((ji4) + 3)) : Int).toNat) ++ (⟨#[44, 32]⟩ : ByteArray)) ++ t130) ++ (⟨#[32]⟩ : ByteArray)) ++ ((⟨#[74, 97, 110, 70, 101, 98, 77, 97, 114, 65, 112, 114, 77, 97, 121, 74, 117, 110, 74, 117, 108, 65, 117, 103, 83, 101, 112, 79, 99, 116, 78, 111, 118, 68, 101, 99]⟩ : ByteArray).extract ((wrap64 ((wrap64 (3 * t124)) - 3)) : Int).toNat ((wrap64 (3 * t124)) : Int).toNat)).size + 1 ≤ 9223372036854775807 then ((when_put.f k t123 4).bind fun t131 => (if (((((((⟨#[84, 104, 117, 70, 114, 105, 83, 97, 116, 83, 117, 110, 77, 111, 110, 84, 117, 101, 87, 101, 100]⟩ : ByteArray).extract ((ji4) : Int).toNat ((wrap64 ((ji4) + 3)) : Int).toNat) ++ (⟨#[44, 32]⟩ : ByteArray)) ++ t130) ++ (⟨#[32]⟩ : ByteArray)) ++ ((⟨#[74, 97, 110, 70, 101, 98, 77, 97, 114, 65, 112, 114, 77, 97, 121, 74, 117, 110, 74, 117, 108, 65, 117, 103, 83, 101, 112, 79, 99, 116, 78, 111, 118, 68, 101, 99]⟩ : ByteArray).extract ((wrap64 ((wrap64 (3 * t124)) - 3)) : Int).toNat ((wrap64 (3 * t124)) : Int).toNat)) ++ (⟨#[32]⟩ : ByteArray)).size + t131.size ≤ 9223372036854775807 then (if ((((((((⟨#[84, 104, 117, 70, 114, 105, 83, 97, 116, 83, 117, 110, 77, 111, 110, 84, 117, 101, 87, 101, 100]⟩ : ByteArray).extract ((ji4) : Int).toNat ((wrap64 ((ji4) + 3)) : Int).toNat) ++ (⟨#[44, 32]⟩ : ByteArray)) ++ t130) ++ (⟨#[32]⟩ : ByteArray)) ++ ((⟨#[74, 97, 110, 70, 101, 98, 77, 97, 114, 65, 112, 114, 77, 97, 121, 74, 117, 110, 74, 117, 108, 65, 117, 103, 83, 101, 112, 79, 99, 116, 78, 111, 118, 68, 101, 99]⟩ : ByteArray).extract ((wrap64 ((wrap64 (3 * t124)) - 3)) : Int).toNat ((wrap64 (3 * t124)) : Int).toNat)) ++ (⟨#[32]⟩ : ByteArray)) ++ t131).size + 1 ≤ 9223372036854775807 then ((when_put.f k t126 2).bind fun t132 => (if (((((((((⟨#[84, 104, 117, 70, 114, 105, 83, 97, 116, 83, 117, 110, 77, 111, 110, 84, 117, 101, 87, 101, 100]⟩ : ByteArray).extract ((ji4) : Int).toNat ((wrap64 ((ji4) + 3)) : Int).toNat) ++ (⟨#[44, 32]⟩ : ByteArray)) ++ t130) ++ (⟨#[32]⟩ : ByteArray)) ++ ((⟨#[74, 97, 110, 70, 101, 98, 77, 97, 114, 65, 112, 114, 77, 97, 121, 74, 117, 110, 74, 117, 108, 65, 117, 103, 83, 101, 112, 79, 99, 116, 78, 111, 118, 68, 101, 99]⟩ : ByteArray).extract ((wrap64 ((wrap64 (3 * t124)) - 3)) : Int).toNat ((wrap64 (3 * t124)) : Int).toNat)) ++ (⟨#[32]⟩ : ByteArray)) ++ t131) ++ (⟨#[32]⟩ : ByteArray)).size + t132.size ≤ 9223372036854775807 then (if ((((((((((⟨#[84, 104, 117, 70, 114, 105, 83, 97, 116, 83, 117, 110, 77, 111, 110, 84, 117, 101, 87, 101, 100]⟩ : ByteArray).extract ((ji4) : Int).toNat ((wrap64 ((ji4) + 3)) : Int).toNat) ++ (⟨#[44, 32]⟩ : ByteArray)) ++ t130) ++ (⟨#[32]⟩ : ByteArray)) ++ ((⟨#[74, 97, 110, 70, 101, 98, 77, 97, 114, 65, 112, 114, 77, 97, 121, 74, 117, 110, 74, 117, 108, 65, 117, 103, 83, 101, 112, 79, 99, 116, 78, 111, 118, 68, 101, 99]⟩ : ByteArray).extract ((wrap64 ((wrap64 (3 * t124)) - 3)) : Int).toNat ((wrap64 (3 * t124)) : Int).toNat)) ++ (⟨#[32]⟩ : ByteArray)) ++ t131) ++ (⟨#[32]⟩ : ByteArray)) ++ t132).size + 1 ≤ 9223372036854775807 then ((when_put.f k t127 2).bind fun t133 => (if (((((((((((⟨#[84, 104, 117, 70, 114, 105, 83, 97, 116, 83, 117, 110, 77, 111, 110, 84, 117, 101, 87, 101, 100]⟩ : ByteArray).extract ((ji4) : Int).toNat ((wrap64 ((ji4) + 3)) : Int).toNat) ++ (⟨#[44, 32]⟩ : ByteArray)) ++ t130) ++ (⟨#[32]⟩ : ByteArray)) ++ ((⟨#[74, 97, 110, 70, 101, 98, 77, 97, 114, 65, 112, 114, 77, 97, 121, 74, 117, 110, 74, 117, 108, 65, 117, 103, 83, 101, 112, 79, 99, 116, 78, 111, 118, 68, 101, 99]⟩ : ByteArray).extract ((wrap64 ((wrap64 (3 * t124)) - 3)) : Int).toNat ((wrap64 (3 * t124)) : Int).toNat)) ++ (⟨#[32]⟩ : ByteArray)) ++ t131) ++ (⟨#[32]⟩ : ByteArray)) ++ t132) ++ (⟨#[58]⟩ : ByteArray)).size + t133.size ≤ 9223372036854775807 then (if ((((((((((((⟨#[84, 104, 117, 70, 114, 105, 83, 97, 116, 83, 117, 110, 77, 111, 110, 84, 117, 101, 87, 101, 100]⟩ : ByteArray).extract ((ji4) : Int).toNat ((wrap64 ((ji4) + 3)) : Int).toNat) ++ (⟨#[44, 32]⟩ : ByteArray)) ++ t130) ++ (⟨#[32]⟩ : ByteArray)) ++ ((⟨#[74, 97, 110, 70, 101, 98, 77, 97, 114, 65, 112, 114, 77, 97, 121, 74, 117, 110, 74, 117, 108, 65, 117, 103, 83, 101, 112, 79, 99, 116, 78, 111, 118, 68, 101, 99]⟩ : ByteArray).extract ((wrap64 ((wrap64 (3 * t124)) - 3)) : Int).toNat ((wrap64 (3 * t124)) : Int).toNat)) ++ (⟨#[32]⟩ : ByteArray)) ++ t131) ++ (⟨#[32]⟩ : ByteArray)) ++ t132) ++ (⟨#[58]⟩ : ByteArray)) ++ t133).size + 1 ≤ 9223372036854775807 then ((when_put.f k t128 2).bind fun t134 => (if (((((((((((((⟨#[84, 104, 117, 70, 114, 105, 83, 97, 116, 83, 117, 110, 77, 111, 110, 84, 117, 101, 87, 101, 100]⟩ : ByteArray).extract ((ji4) : Int).toNat ((wrap64 ((ji4) + 3)) : Int).toNat) ++ (⟨#[44, 32]⟩ : ByteArray)) ++ t130) ++ (⟨#[32]⟩ : ByteArray)) ++ ((⟨#[74, 97, 110, 70, 101, 98, 77, 97, 114, 65, 112, 114, 77, 97, 121, 74, 117, 110, 74, 117, 108, 65, 117, 103, 83, 101, 112, 79, 99, 116, 78, 111, 118, 68, 101, 99]⟩ : ByteArray).extract ((wrap64 ((wrap64 (3 * t124)) - 3)) : Int).toNat ((wrap64 (3 * t124)) : Int).toNat)) ++ (⟨#[32]⟩ : ByteArray)) ++ t131) ++ (⟨#[32]⟩ : ByteArray)) ++ t132) ++ (⟨#[58]⟩ : ByteArray)) ++ t133) ++ (⟨#[58]⟩ : ByteArray)).size + t134.size ≤ 9223372036854775807 then (if ((((((((((((((⟨#[84, 104, 117, 70, 114, 105, 83, 97, 116, 83, 117, 110, 77, 111, 110, 84, 117, 101, 87, 101, 100]⟩ : ByteArray).extract ((ji4) : Int).toNat ((wrap64 ((ji4) + 3)) : Int).toNat) ++ (⟨#[44, 32]⟩ : ByteArray)) ++ t130) ++ (⟨#[32]⟩ : ByteArray)) ++ ((⟨#[74, 97, 110, 70, 101, 98, 77, 97, 114, 65, 112, 114, 77, 97, 121, 74, 117, 110, 74, 117, 108, 65, 117, 103, 83, 101, 112, 79, 99, 116, 78, 111, 118, 68, 101, 99]⟩ : ByteArray).extract ((wrap64 ((wrap64 (3 * t124)) - 3)) : Int).toNat ((wrap64 (3 * t124)) : Int).toNat)) ++ (⟨#[32]⟩ : ByteArray)) ++ t131) ++ (⟨#[32]⟩ : ByteArray)) ++ t132) ++ (⟨#[58]⟩ : ByteArray)) ++ t133) ++ (⟨#[58]⟩ : ByteArray)) ++ t134).size + 4 ≤ 9223372036854775807 then (some (((((((((((((((⟨#[84, 104, 117, 70, 114, 105, 83, 97, 116, 83, 117, 110, 77, 111, 110, 84, 117, 101, 87, 101, 100]⟩ : ByteArray).extract ((ji4) : Int).toNat ((wrap64 ((ji4) + 3)) : Int).toNat) ++ (⟨#[44, 32]⟩ : ByteArray)) ++ t130) ++ (⟨#[32]⟩ : ByteArray)) ++ ((⟨#[74, 97, 110, 70, 101, 98, 77, 97, 114, 65, 112, 114, 77, 97, 121, 74, 117, 110, 74, 117, 108, 65, 117, 103, 83, 101, 112, 79, 99, 116, 78, 111, 118, 68, 101, 99]⟩ : ByteArray).extract ((wrap64 ((wrap64 (3 * t124)) - 3)) : Int).toNat ((wrap64 (3 * t124)) : Int).toNat)) ++ (⟨#[32]⟩ : ByteArray)) ++ t131) ++ (⟨#[32]⟩ : ByteArray)) ++ t132) ++ (⟨#[58]⟩ : ByteArray)) ++ t133) ++ (⟨#[58]⟩ : ByteArray)) ++ t134) ++ (⟨#[32, 71, 77, 84]⟩ : ByteArray))) else (none)) else (none))) else (none)) else (none))) else (none)) else (none))) else (none)) else (none))) else (none)) else (none)) else (none)) else (none)) else (none)) else (none)) else (none))) else (none)) else (none)) else (none)) else (none)) = some r := by first | (rw [hji4] at H; exact H) | (simp only [hji4] at H ⊢; exact H)
    (try rw [hji4] at A2)
    have hji4w : (IntKind.i64.wrap ((Int.tmod (wrap64 (Int.tdiv a0 86400)) 7) * 3)) = ji4 := (i64_w _).trans hji4
    by_cases c5 : 0 ≤ (ji4)
    · rw [if_pos c5] at H
      have c5b0 := eq_true c5
      have c5b1 : decide (0 ≤ (ji4)) = true := decide_eq_true c5
      clear c5
      by_cases c6 : (ji4) ≤ (wrap64 ((ji4) + 3))
      · rw [if_pos c6] at H
        have c6b0 := eq_true c6
        have c6b1 : decide ((ji4) ≤ (wrap64 ((ji4) + 3))) = true := decide_eq_true c6
        by_cases c7 : (wrap64 ((ji4) + 3)) ≤ 21
        · rw [if_pos c7] at H
          have c7b0 := eq_true c7
          have c7b1 : decide ((wrap64 ((ji4) + 3)) ≤ 21) = true := decide_eq_true c7
          by_cases c8 : ((⟨#[84, 104, 117, 70, 114, 105, 83, 97, 116, 83, 117, 110, 77, 111, 110, 84, 117, 101, 87, 101, 100]⟩ : ByteArray).extract ((ji4) : Int).toNat ((wrap64 ((ji4) + 3)) : Int).toNat).size + 2 ≤ 9223372036854775807
          · rw [if_pos c8] at H
            have c8b0 := eq_true c8
            have c8b1 : decide (((⟨#[84, 104, 117, 70, 114, 105, 83, 97, 116, 83, 117, 110, 77, 111, 110, 84, 117, 101, 87, 101, 100]⟩ : ByteArray).extract ((ji4) : Int).toNat ((wrap64 ((ji4) + 3)) : Int).toNat).size + 2 ≤ 9223372036854775807) = true := decide_eq_true c8
            try have c8b2 : (9223372036854775807 < ((⟨#[84, 104, 117, 70, 114, 105, 83, 97, 116, 83, 117, 110, 77, 111, 110, 84, 117, 101, 87, 101, 100]⟩ : ByteArray).extract ((ji4) : Int).toNat ((wrap64 ((ji4) + 3)) : Int).toNat).size + 2) = False := eq_false (Nat.not_lt.2 c8)
            try (have c8n : (min (((wrap64 ((ji4) + 3)) : Int).toNat) 21 - (((ji4) : Int).toNat)) + 2 ≤ 9223372036854775807 := by have h_ := c8; simp only [ByteArray.size_append, ByteArray.size_extract] at h_; exact h_)
            try have c8f : (9223372036854775807 < (((wrap64 ((ji4) + 3)) : Int).toNat - ((ji4) : Int).toNat) + 2) = False := eq_false (by first | omega | (simp only [eq_iff_iff, iff_true] at *; omega))
            replace H := Option.bind_eq_some_iff.mp H
            obtain ⟨t130, A90, H⟩ := H
            replace H : (if (((⟨#[84, 104, 117, 70, 114, 105, 83, 97, 116, 83, 117, 110, 77, 111, 110, 84, 117, 101, 87, 101, 100]⟩ : ByteArray).extract ((ji4) : Int).toNat ((wrap64 ((ji4) + 3)) : Int).toNat) ++ (⟨#[44, 32]⟩ : ByteArray)).size + t130.size ≤ 9223372036854775807 then (if ((((⟨#[84, 104, 117, 70, 114, 105, 83, 97, 116, 83, 117, 110, 77, 111, 110, 84, 117, 101, 87, 101, 100]⟩ : ByteArray).extract ((ji4) : Int).toNat ((wrap64 ((ji4) + 3)) : Int).toNat) ++ (⟨#[44, 32]⟩ : ByteArray)) ++ t130).size + 1 ≤ 9223372036854775807 then (if 0 ≤ (wrap64 ((wrap64 (3 * t124)) - 3)) then (if (wrap64 ((wrap64 (3 * t124)) - 3)) ≤ (wrap64 (3 * t124)) then (if (wrap64 (3 * t124)) ≤ 36 then (if (((((⟨#[84, 104, 117, 70, 114, 105, 83, 97, 116, 83, 117, 110, 77, 111, 110, 84, 117, 101, 87, 101, 100]⟩ : ByteArray).extract ((ji4) : Int).toNat ((wrap64 ((ji4) + 3)) : Int).toNat) ++ (⟨#[44, 32]⟩ : ByteArray)) ++ t130) ++ (⟨#[32]⟩ : ByteArray)).size + ((⟨#[74, 97, 110, 70, 101, 98, 77, 97, 114, 65, 112, 114, 77, 97, 121, 74, 117, 110, 74, 117, 108, 65, 117, 103, 83, 101, 112, 79, 99, 116, 78, 111, 118, 68, 101, 99]⟩ : ByteArray).extract ((wrap64 ((wrap64 (3 * t124)) - 3)) : Int).toNat ((wrap64 (3 * t124)) : Int).toNat).size ≤ 9223372036854775807 then (if ((((((⟨#[84, 104, 117, 70, 114, 105, 83, 97, 116, 83, 117, 110, 77, 111, 110, 84, 117, 101, 87, 101, 100]⟩ : ByteArray).extract ((ji4) : Int).toNat ((wrap64 ((ji4) + 3)) : Int).toNat) ++ (⟨#[44, 32]⟩ : ByteArray)) ++ t130) ++ (⟨#[32]⟩ : ByteArray)) ++ ((⟨#[74, 97, 110, 70, 101, 98, 77, 97, 114, 65, 112, 114, 77, 97, 121, 74, 117, 110, 74, 117, 108, 65, 117, 103, 83, 101, 112, 79, 99, 116, 78, 111, 118, 68, 101, 99]⟩ : ByteArray).extract ((wrap64 ((wrap64 (3 * t124)) - 3)) : Int).toNat ((wrap64 (3 * t124)) : Int).toNat)).size + 1 ≤ 9223372036854775807 then ((when_put.f k t123 4).bind fun t131 => (if (((((((⟨#[84, 104, 117, 70, 114, 105, 83, 97, 116, 83, 117, 110, 77, 111, 110, 84, 117, 101, 87, 101, 100]⟩ : ByteArray).extract ((ji4) : Int).toNat ((wrap64 ((ji4) + 3)) : Int).toNat) ++ (⟨#[44, 32]⟩ : ByteArray)) ++ t130) ++ (⟨#[32]⟩ : ByteArray)) ++ ((⟨#[74, 97, 110, 70, 101, 98, 77, 97, 114, 65, 112, 114, 77, 97, 121, 74, 117, 110, 74, 117, 108, 65, 117, 103, 83, 101, 112, 79, 99, 116, 78, 111, 118, 68, 101, 99]⟩ : ByteArray).extract ((wrap64 ((wrap64 (3 * t124)) - 3)) : Int).toNat ((wrap64 (3 * t124)) : Int).toNat)) ++ (⟨#[32]⟩ : ByteArray)).size + t131.size ≤ 9223372036854775807 then (if ((((((((⟨#[84, 104, 117, 70, 114, 105, 83, 97, 116, 83, 117, 110, 77, 111, 110, 84, 117, 101, 87, 101, 100]⟩ : ByteArray).extract ((ji4) : Int).toNat ((wrap64 ((ji4) + 3)) : Int).toNat) ++ (⟨#[44, 32]⟩ : ByteArray)) ++ t130) ++ (⟨#[32]⟩ : ByteArray)) ++ ((⟨#[74, 97, 110, 70, 101, 98, 77, 97, 114, 65, 112, 114, 77, 97, 121, 74, 117, 110, 74, 117, 108, 65, 117, 103, 83, 101, 112, 79, 99, 116, 78, 111, 118, 68, 101, 99]⟩ : ByteArray).extract ((wrap64 ((wrap64 (3 * t124)) - 3)) : Int).toNat ((wrap64 (3 * t124)) : Int).toNat)) ++ (⟨#[32]⟩ : ByteArray)) ++ t131).size + 1 ≤ 9223372036854775807 then ((when_put.f k t126 2).bind fun t132 => (if (((((((((⟨#[84, 104, 117, 70, 114, 105, 83, 97, 116, 83, 117, 110, 77, 111, 110, 84, 117, 101, 87, 101, 100]⟩ : ByteArray).extract ((ji4) : Int).toNat ((wrap64 ((ji4) + 3)) : Int).toNat) ++ (⟨#[44, 32]⟩ : ByteArray)) ++ t130) ++ (⟨#[32]⟩ : ByteArray)) ++ ((⟨#[74, 97, 110, 70, 101, 98, 77, 97, 114, 65, 112, 114, 77, 97, 121, 74, 117, 110, 74, 117, 108, 65, 117, 103, 83, 101, 112, 79, 99, 116, 78, 111, 118, 68, 101, 99]⟩ : ByteArray).extract ((wrap64 ((wrap64 (3 * t124)) - 3)) : Int).toNat ((wrap64 (3 * t124)) : Int).toNat)) ++ (⟨#[32]⟩ : ByteArray)) ++ t131) ++ (⟨#[32]⟩ : ByteArray)).size + t132.size ≤ 9223372036854775807 then (if ((((((((((⟨#[84, 104, 117, 70, 114, 105, 83, 97, 116, 83, 117, 110, 77, 111, 110, 84, 117, 101, 87, 101, 100]⟩ : ByteArray).extract ((ji4) : Int).toNat ((wrap64 ((ji4) + 3)) : Int).toNat) ++ (⟨#[44, 32]⟩ : ByteArray)) ++ t130) ++ (⟨#[32]⟩ : ByteArray)) ++ ((⟨#[74, 97, 110, 70, 101, 98, 77, 97, 114, 65, 112, 114, 77, 97, 121, 74, 117, 110, 74, 117, 108, 65, 117, 103, 83, 101, 112, 79, 99, 116, 78, 111, 118, 68, 101, 99]⟩ : ByteArray).extract ((wrap64 ((wrap64 (3 * t124)) - 3)) : Int).toNat ((wrap64 (3 * t124)) : Int).toNat)) ++ (⟨#[32]⟩ : ByteArray)) ++ t131) ++ (⟨#[32]⟩ : ByteArray)) ++ t132).size + 1 ≤ 9223372036854775807 then ((when_put.f k t127 2).bind fun t133 => (if (((((((((((⟨#[84, 104, 117, 70, 114, 105, 83, 97, 116, 83, 117, 110, 77, 111, 110, 84, 117, 101, 87, 101, 100]⟩ : ByteArray).extract ((ji4) : Int).toNat ((wrap64 ((ji4) + 3)) : Int).toNat) ++ (⟨#[44, 32]⟩ : ByteArray)) ++ t130) ++ (⟨#[32]⟩ : ByteArray)) ++ ((⟨#[74, 97, 110, 70, 101, 98, 77, 97, 114, 65, 112, 114, 77, 97, 121, 74, 117, 110, 74, 117, 108, 65, 117, 103, 83, 101, 112, 79, 99, 116, 78, 111, 118, 68, 101, 99]⟩ : ByteArray).extract ((wrap64 ((wrap64 (3 * t124)) - 3)) : Int).toNat ((wrap64 (3 * t124)) : Int).toNat)) ++ (⟨#[32]⟩ : ByteArray)) ++ t131) ++ (⟨#[32]⟩ : ByteArray)) ++ t132) ++ (⟨#[58]⟩ : ByteArray)).size + t133.size ≤ 9223372036854775807 then (if ((((((((((((⟨#[84, 104, 117, 70, 114, 105, 83, 97, 116, 83, 117, 110, 77, 111, 110, 84, 117, 101, 87, 101, 100]⟩ : ByteArray).extract ((ji4) : Int).toNat ((wrap64 ((ji4) + 3)) : Int).toNat) ++ (⟨#[44, 32]⟩ : ByteArray)) ++ t130) ++ (⟨#[32]⟩ : ByteArray)) ++ ((⟨#[74, 97, 110, 70, 101, 98, 77, 97, 114, 65, 112, 114, 77, 97, 121, 74, 117, 110, 74, 117, 108, 65, 117, 103, 83, 101, 112, 79, 99, 116, 78, 111, 118, 68, 101, 99]⟩ : ByteArray).extract ((wrap64 ((wrap64 (3 * t124)) - 3)) : Int).toNat ((wrap64 (3 * t124)) : Int).toNat)) ++ (⟨#[32]⟩ : ByteArray)) ++ t131) ++ (⟨#[32]⟩ : ByteArray)) ++ t132) ++ (⟨#[58]⟩ : ByteArray)) ++ t133).size + 1 ≤ 9223372036854775807 then ((when_put.f k t128 2).bind fun t134 => (if (((((((((((((⟨#[84, 104, 117, 70, 114, 105, 83, 97, 116, 83, 117, 110, 77, 111, 110, 84, 117, 101, 87, 101, 100]⟩ : ByteArray).extract ((ji4) : Int).toNat ((wrap64 ((ji4) + 3)) : Int).toNat) ++ (⟨#[44, 32]⟩ : ByteArray)) ++ t130) ++ (⟨#[32]⟩ : ByteArray)) ++ ((⟨#[74, 97, 110, 70, 101, 98, 77, 97, 114, 65, 112, 114, 77, 97, 121, 74, 117, 110, 74, 117, 108, 65, 117, 103, 83, 101, 112, 79, 99, 116, 78, 111, 118, 68, 101, 99]⟩ : ByteArray).extract ((wrap64 ((wrap64 (3 * t124)) - 3)) : Int).toNat ((wrap64 (3 * t124)) : Int).toNat)) ++ (⟨#[32]⟩ : ByteArray)) ++ t131) ++ (⟨#[32]⟩ : ByteArray)) ++ t132) ++ (⟨#[58]⟩ : ByteArray)) ++ t133) ++ (⟨#[58]⟩ : ByteArray)).size + t134.size ≤ 9223372036854775807 then (if ((((((((((((((⟨#[84, 104, 117, 70, 114, 105, 83, 97, 116, 83, 117, 110, 77, 111, 110, 84, 117, 101, 87, 101, 100]⟩ : ByteArray).extract ((ji4) : Int).toNat ((wrap64 ((ji4) + 3)) : Int).toNat) ++ (⟨#[44, 32]⟩ : ByteArray)) ++ t130) ++ (⟨#[32]⟩ : ByteArray)) ++ ((⟨#[74, 97, 110, 70, 101, 98, 77, 97, 114, 65, 112, 114, 77, 97, 121, 74, 117, 110, 74, 117, 108, 65, 117, 103, 83, 101, 112, 79, 99, 116, 78, 111, 118, 68, 101, 99]⟩ : ByteArray).extract ((wrap64 ((wrap64 (3 * t124)) - 3)) : Int).toNat ((wrap64 (3 * t124)) : Int).toNat)) ++ (⟨#[32]⟩ : ByteArray)) ++ t131) ++ (⟨#[32]⟩ : ByteArray)) ++ t132) ++ (⟨#[58]⟩ : ByteArray)) ++ t133) ++ (⟨#[58]⟩ : ByteArray)) ++ t134).size + 4 ≤ 9223372036854775807 then (some (((((((((((((((⟨#[84, 104, 117, 70, 114, 105, 83, 97, 116, 83, 117, 110, 77, 111, 110, 84, 117, 101, 87, 101, 100]⟩ : ByteArray).extract ((ji4) : Int).toNat ((wrap64 ((ji4) + 3)) : Int).toNat) ++ (⟨#[44, 32]⟩ : ByteArray)) ++ t130) ++ (⟨#[32]⟩ : ByteArray)) ++ ((⟨#[74, 97, 110, 70, 101, 98, 77, 97, 114, 65, 112, 114, 77, 97, 121, 74, 117, 110, 74, 117, 108, 65, 117, 103, 83, 101, 112, 79, 99, 116, 78, 111, 118, 68, 101, 99]⟩ : ByteArray).extract ((wrap64 ((wrap64 (3 * t124)) - 3)) : Int).toNat ((wrap64 (3 * t124)) : Int).toNat)) ++ (⟨#[32]⟩ : ByteArray)) ++ t131) ++ (⟨#[32]⟩ : ByteArray)) ++ t132) ++ (⟨#[58]⟩ : ByteArray)) ++ t133) ++ (⟨#[58]⟩ : ByteArray)) ++ t134) ++ (⟨#[32, 71, 77, 84]⟩ : ByteArray))) else (none)) else (none))) else (none)) else (none))) else (none)) else (none))) else (none)) else (none))) else (none)) else (none)) else (none)) else (none)) else (none)) else (none)) else (none)) = some r := H
            have A9 := Aside0.mk A90
            clear A90
            by_cases c10 : (((⟨#[84, 104, 117, 70, 114, 105, 83, 97, 116, 83, 117, 110, 77, 111, 110, 84, 117, 101, 87, 101, 100]⟩ : ByteArray).extract ((ji4) : Int).toNat ((wrap64 ((ji4) + 3)) : Int).toNat) ++ (⟨#[44, 32]⟩ : ByteArray)).size + t130.size ≤ 9223372036854775807
            · rw [if_pos c10] at H
              have c10b0 := eq_true c10
              have c10b1 : decide ((((⟨#[84, 104, 117, 70, 114, 105, 83, 97, 116, 83, 117, 110, 77, 111, 110, 84, 117, 101, 87, 101, 100]⟩ : ByteArray).extract ((ji4) : Int).toNat ((wrap64 ((ji4) + 3)) : Int).toNat) ++ (⟨#[44, 32]⟩ : ByteArray)).size + t130.size ≤ 9223372036854775807) = true := decide_eq_true c10
              try have c10b2 : (9223372036854775807 < (((⟨#[84, 104, 117, 70, 114, 105, 83, 97, 116, 83, 117, 110, 77, 111, 110, 84, 117, 101, 87, 101, 100]⟩ : ByteArray).extract ((ji4) : Int).toNat ((wrap64 ((ji4) + 3)) : Int).toNat) ++ (⟨#[44, 32]⟩ : ByteArray)).size + t130.size) = False := eq_false (Nat.not_lt.2 c10)
              try (have c10n : (min (((wrap64 ((ji4) + 3)) : Int).toNat) 21 - (((ji4) : Int).toNat)) + 2 + t130.size ≤ 9223372036854775807 := by have h_ := c10; simp only [ByteArray.size_append, ByteArray.size_extract] at h_; exact h_)
              try have c10f : (9223372036854775807 < (((wrap64 ((ji4) + 3)) : Int).toNat - ((ji4) : Int).toNat) + 2 + t130.size) = False := eq_false (by first | omega | (simp only [eq_iff_iff, iff_true] at *; omega))
              by_cases c11 : ((((⟨#[84, 104, 117, 70, 114, 105, 83, 97, 116, 83, 117, 110, 77, 111, 110, 84, 117, 101, 87, 101, 100]⟩ : ByteArray).extract ((ji4) : Int).toNat ((wrap64 ((ji4) + 3)) : Int).toNat) ++ (⟨#[44, 32]⟩ : ByteArray)) ++ t130).size + 1 ≤ 9223372036854775807
              · rw [if_pos c11] at H
                have c11b0 := eq_true c11
                have c11b1 : decide (((((⟨#[84, 104, 117, 70, 114, 105, 83, 97, 116, 83, 117, 110, 77, 111, 110, 84, 117, 101, 87, 101, 100]⟩ : ByteArray).extract ((ji4) : Int).toNat ((wrap64 ((ji4) + 3)) : Int).toNat) ++ (⟨#[44, 32]⟩ : ByteArray)) ++ t130).size + 1 ≤ 9223372036854775807) = true := decide_eq_true c11
                try have c11b2 : (9223372036854775807 < ((((⟨#[84, 104, 117, 70, 114, 105, 83, 97, 116, 83, 117, 110, 77, 111, 110, 84, 117, 101, 87, 101, 100]⟩ : ByteArray).extract ((ji4) : Int).toNat ((wrap64 ((ji4) + 3)) : Int).toNat) ++ (⟨#[44, 32]⟩ : ByteArray)) ++ t130).size + 1) = False := eq_false (Nat.not_lt.2 c11)
                try (have c11n : (min (((wrap64 ((ji4) + 3)) : Int).toNat) 21 - (((ji4) : Int).toNat)) + 2 + t130.size + 1 ≤ 9223372036854775807 := by have h_ := c11; simp only [ByteArray.size_append, ByteArray.size_extract] at h_; exact h_)
                try have c11f : (9223372036854775807 < (((wrap64 ((ji4) + 3)) : Int).toNat - ((ji4) : Int).toNat) + 2 + t130.size + 1) = False := eq_false (by first | omega | (simp only [eq_iff_iff, iff_true] at *; omega))
                obtain ⟨ji12, hji12⟩ : ∃ j_ : Int, (wrap64 ((wrap64 (3 * t124)) - 3)) = j_ := ⟨_, rfl⟩
                replace H : (if 0 ≤ (ji12) then (if (ji12) ≤ (wrap64 (3 * t124)) then (if (wrap64 (3 * t124)) ≤ 36 then (if (((((⟨#[84, 104, 117, 70, 114, 105, 83, 97, 116, 83, 117, 110, 77, 111, 110, 84, 117, 101, 87, 101, 100]⟩ : ByteArray).extract ((ji4) : Int).toNat ((wrap64 ((ji4) + 3)) : Int).toNat) ++ (⟨#[44, 32]⟩ : ByteArray)) ++ t130) ++ (⟨#[32]⟩ : ByteArray)).size + ((⟨#[74, 97, 110, 70, 101, 98, 77, 97, 114, 65, 112, 114, 77, 97, 121, 74, 117, 110, 74, 117, 108, 65, 117, 103, 83, 101, 112, 79, 99, 116, 78, 111, 118, 68, 101, 99]⟩ : ByteArray).extract ((ji12) : Int).toNat ((wrap64 (3 * t124)) : Int).toNat).size ≤ 9223372036854775807 then (if ((((((⟨#[84, 104, 117, 70, 114, 105, 83, 97, 116, 83, 117, 110, 77, 111, 110, 84, 117, 101, 87, 101, 100]⟩ : ByteArray).extract ((ji4) : Int).toNat ((wrap64 ((ji4) + 3)) : Int).toNat) ++ (⟨#[44, 32]⟩ : ByteArray)) ++ t130) ++ (⟨#[32]⟩ : ByteArray)) ++ ((⟨#[74, 97, 110, 70, 101, 98, 77, 97, 114, 65, 112, 114, 77, 97, 121, 74, 117, 110, 74, 117, 108, 65, 117, 103, 83, 101, 112, 79, 99, 116, 78, 111, 118, 68, 101, 99]⟩ : ByteArray).extract ((ji12) : Int).toNat ((wrap64 (3 * t124)) : Int).toNat)).size + 1 ≤ 9223372036854775807 then ((when_put.f k t123 4).bind fun t131 => (if (((((((⟨#[84, 104, 117, 70, 114, 105, 83, 97, 116, 83, 117, 110, 77, 111, 110, 84, 117, 101, 87, 101, 100]⟩ : ByteArray).extract ((ji4) : Int).toNat ((wrap64 ((ji4) + 3)) : Int).toNat) ++ (⟨#[44, 32]⟩ : ByteArray)) ++ t130) ++ (⟨#[32]⟩ : ByteArray)) ++ ((⟨#[74, 97, 110, 70, 101, 98, 77, 97, 114, 65, 112, 114, 77, 97, 121, 74, 117, 110, 74, 117, 108, 65, 117, 103, 83, 101, 112, 79, 99, 116, 78, 111, 118, 68, 101, 99]⟩ : ByteArray).extract ((ji12) : Int).toNat ((wrap64 (3 * t124)) : Int).toNat)) ++ (⟨#[32]⟩ : ByteArray)).size + t131.size ≤ 9223372036854775807 then (if ((((((((⟨#[84, 104, 117, 70, 114, 105, 83, 97, 116, 83, 117, 110, 77, 111, 110, 84, 117, 101, 87, 101, 100]⟩ : ByteArray).extract ((ji4) : Int).toNat ((wrap64 ((ji4) + 3)) : Int).toNat) ++ (⟨#[44, 32]⟩ : ByteArray)) ++ t130) ++ (⟨#[32]⟩ : ByteArray)) ++ ((⟨#[74, 97, 110, 70, 101, 98, 77, 97, 114, 65, 112, 114, 77, 97, 121, 74, 117, 110, 74, 117, 108, 65, 117, 103, 83, 101, 112, 79, 99, 116, 78, 111, 118, 68, 101, 99]⟩ : ByteArray).extract ((ji12) : Int).toNat ((wrap64 (3 * t124)) : Int).toNat)) ++ (⟨#[32]⟩ : ByteArray)) ++ t131).size + 1 ≤ 9223372036854775807 then ((when_put.f k t126 2).bind fun t132 => (if (((((((((⟨#[84, 104, 117, 70, 114, 105, 83, 97, 116, 83, 117, 110, 77, 111, 110, 84, 117, 101, 87, 101, 100]⟩ : ByteArray).extract ((ji4) : Int).toNat ((wrap64 ((ji4) + 3)) : Int).toNat) ++ (⟨#[44, 32]⟩ : ByteArray)) ++ t130) ++ (⟨#[32]⟩ : ByteArray)) ++ ((⟨#[74, 97, 110, 70, 101, 98, 77, 97, 114, 65, 112, 114, 77, 97, 121, 74, 117, 110, 74, 117, 108, 65, 117, 103, 83, 101, 112, 79, 99, 116, 78, 111, 118, 68, 101, 99]⟩ : ByteArray).extract ((ji12) : Int).toNat ((wrap64 (3 * t124)) : Int).toNat)) ++ (⟨#[32]⟩ : ByteArray)) ++ t131) ++ (⟨#[32]⟩ : ByteArray)).size + t132.size ≤ 9223372036854775807 then (if ((((((((((⟨#[84, 104, 117, 70, 114, 105, 83, 97, 116, 83, 117, 110, 77, 111, 110, 84, 117, 101, 87, 101, 100]⟩ : ByteArray).extract ((ji4) : Int).toNat ((wrap64 ((ji4) + 3)) : Int).toNat) ++ (⟨#[44, 32]⟩ : ByteArray)) ++ t130) ++ (⟨#[32]⟩ : ByteArray)) ++ ((⟨#[74, 97, 110, 70, 101, 98, 77, 97, 114, 65, 112, 114, 77, 97, 121, 74, 117, 110, 74, 117, 108, 65, 117, 103, 83, 101, 112, 79, 99, 116, 78, 111, 118, 68, 101, 99]⟩ : ByteArray).extract ((ji12) : Int).toNat ((wrap64 (3 * t124)) : Int).toNat)) ++ (⟨#[32]⟩ : ByteArray)) ++ t131) ++ (⟨#[32]⟩ : ByteArray)) ++ t132).size + 1 ≤ 9223372036854775807 then ((when_put.f k t127 2).bind fun t133 => (if (((((((((((⟨#[84, 104, 117, 70, 114, 105, 83, 97, 116, 83, 117, 110, 77, 111, 110, 84, 117, 101, 87, 101, 100]⟩ : ByteArray).extract ((ji4) : Int).toNat ((wrap64 ((ji4) + 3)) : Int).toNat) ++ (⟨#[44, 32]⟩ : ByteArray)) ++ t130) ++ (⟨#[32]⟩ : ByteArray)) ++ ((⟨#[74, 97, 110, 70, 101, 98, 77, 97, 114, 65, 112, 114, 77, 97, 121, 74, 117, 110, 74, 117, 108, 65, 117, 103, 83, 101, 112, 79, 99, 116, 78, 111, 118, 68, 101, 99]⟩ : ByteArray).extract ((ji12) : Int).toNat ((wrap64 (3 * t124)) : Int).toNat)) ++ (⟨#[32]⟩ : ByteArray)) ++ t131) ++ (⟨#[32]⟩ : ByteArray)) ++ t132) ++ (⟨#[58]⟩ : ByteArray)).size + t133.size ≤ 9223372036854775807 then (if ((((((((((((⟨#[84, 104, 117, 70, 114, 105, 83, 97, 116, 83, 117, 110, 77, 111, 110, 84, 117, 101, 87, 101, 100]⟩ : ByteArray).extract ((ji4) : Int).toNat ((wrap64 ((ji4) + 3)) : Int).toNat) ++ (⟨#[44, 32]⟩ : ByteArray)) ++ t130) ++ (⟨#[32]⟩ : ByteArray)) ++ ((⟨#[74, 97, 110, 70, 101, 98, 77, 97, 114, 65, 112, 114, 77, 97, 121, 74, 117, 110, 74, 117, 108, 65, 117, 103, 83, 101, 112, 79, 99, 116, 78, 111, 118, 68, 101, 99]⟩ : ByteArray).extract ((ji12) : Int).toNat ((wrap64 (3 * t124)) : Int).toNat)) ++ (⟨#[32]⟩ : ByteArray)) ++ t131) ++ (⟨#[32]⟩ : ByteArray)) ++ t132) ++ (⟨#[58]⟩ : ByteArray)) ++ t133).size + 1 ≤ 9223372036854775807 then ((when_put.f k t128 2).bind fun t134 => (if (((((((((((((⟨#[84, 104, 117, 70, 114, 105, 83, 97, 116, 83, 117, 110, 77, 111, 110, 84, 117, 101, 87, 101, 100]⟩ : ByteArray).extract ((ji4) : Int).toNat ((wrap64 ((ji4) + 3)) : Int).toNat) ++ (⟨#[44, 32]⟩ : ByteArray)) ++ t130) ++ (⟨#[32]⟩ : ByteArray)) ++ ((⟨#[74, 97, 110, 70, 101, 98, 77, 97, 114, 65, 112, 114, 77, 97, 121, 74, 117, 110, 74, 117, 108, 65, 117, 103, 83, 101, 112, 79, 99, 116, 78, 111, 118, 68, 101, 99]⟩ : ByteArray).extract ((ji12) : Int).toNat ((wrap64 (3 * t124)) : Int).toNat)) ++ (⟨#[32]⟩ : ByteArray)) ++ t131) ++ (⟨#[32]⟩ : ByteArray)) ++ t132) ++ (⟨#[58]⟩ : ByteArray)) ++ t133) ++ (⟨#[58]⟩ : ByteArray)).size + t134.size ≤ 9223372036854775807 then (if ((((((((((((((⟨#[84, 104, 117, 70, 114, 105, 83, 97, 116, 83, 117, 110, 77, 111, 110, 84, 117, 101, 87, 101, 100]⟩ : ByteArray).extract ((ji4) : Int).toNat ((wrap64 ((ji4) + 3)) : Int).toNat) ++ (⟨#[44, 32]⟩ : ByteArray)) ++ t130) ++ (⟨#[32]⟩ : ByteArray)) ++ ((⟨#[74, 97, 110, 70, 101, 98, 77, 97, 114, 65, 112, 114, 77, 97, 121, 74, 117, 110, 74, 117, 108, 65, 117, 103, 83, 101, 112, 79, 99, 116, 78, 111, 118, 68, 101, 99]⟩ : ByteArray).extract ((ji12) : Int).toNat ((wrap64 (3 * t124)) : Int).toNat)) ++ (⟨#[32]⟩ : ByteArray)) ++ t131) ++ (⟨#[32]⟩ : ByteArray)) ++ t132) ++ (⟨#[58]⟩ : ByteArray)) ++ t133) ++ (⟨#[58]⟩ : ByteArray)) ++ t134).size + 4 ≤ 9223372036854775807 then (some (((((((((((((((⟨#[84, 104, 117, 70, 114, 105, 83, 97, 116, 83, 117, 110, 77, 111, 110, 84, 117, 101, 87, 101, 100]⟩ : ByteArray).extract ((ji4) : Int).toNat ((wrap64 ((ji4) + 3)) : Int).toNat) ++ (⟨#[44, 32]⟩ : ByteArray)) ++ t130) ++ (⟨#[32]⟩ : ByteArray)) ++ ((⟨#[74, 97, 110, 70, 101, 98, 77, 97, 114, 65, 112, 114, 77, 97, 121, 74, 117, 110, 74, 117, 108, 65, 117, 103, 83, 101, 112, 79, 99, 116, 78, 111, 118, 68, 101, 99]⟩ : ByteArray).extract ((ji12) : Int).toNat ((wrap64 (3 * t124)) : Int).toNat)) ++ (⟨#[32]⟩ : ByteArray)) ++ t131) ++ (⟨#[32]⟩ : ByteArray)) ++ t132) ++ (⟨#[58]⟩ : ByteArray)) ++ t133) ++ (⟨#[58]⟩ : ByteArray)) ++ t134) ++ (⟨#[32, 71, 77, 84]⟩ : ByteArray))) else (none)) else (none))) else (none)) else (none))) else (none)) else (none))) else (none)) else (none))) else (none)) else (none)) else (none)) else (none)) else (none)) = some r := by first | (rw [hji12] at H; exact H) | (simp only [hji12] at H ⊢; exact H)
                (try rw [hji12] at A2)
                (try rw [hji12] at A9)
                have hji12w : (IntKind.i64.wrap ((wrap64 (3 * t124)) - 3)) = ji12 := (i64_w _).trans hji12
                by_cases c13 : 0 ≤ (ji12)
                · rw [if_pos c13] at H
                  have c13b0 := eq_true c13
                  have c13b1 : decide (0 ≤ (ji12)) = true := decide_eq_true c13
                  clear c13
                  by_cases c14 : (ji12) ≤ (wrap64 (3 * t124))
                  · rw [if_pos c14] at H
                    have c14b0 := eq_true c14
                    have c14b1 : decide ((ji12) ≤ (wrap64 (3 * t124))) = true := decide_eq_true c14
                    clear c14
                    by_cases c15 : (wrap64 (3 * t124)) ≤ 36
                    · rw [if_pos c15] at H
                      have c15b0 := eq_true c15
                      have c15b1 : decide ((wrap64 (3 * t124)) ≤ 36) = true := decide_eq_true c15
                      clear c15
                      by_cases c16 : (((((⟨#[84, 104, 117, 70, 114, 105, 83, 97, 116, 83, 117, 110, 77, 111, 110, 84, 117, 101, 87, 101, 100]⟩ : ByteArray).extract ((ji4) : Int).toNat ((wrap64 ((ji4) + 3)) : Int).toNat) ++ (⟨#[44, 32]⟩ : ByteArray)) ++ t130) ++ (⟨#[32]⟩ : ByteArray)).size + ((⟨#[74, 97, 110, 70, 101, 98, 77, 97, 114, 65, 112, 114, 77, 97, 121, 74, 117, 110, 74, 117, 108, 65, 117, 103, 83, 101, 112, 79, 99, 116, 78, 111, 118, 68, 101, 99]⟩ : ByteArray).extract ((ji12) : Int).toNat ((wrap64 (3 * t124)) : Int).toNat).size ≤ 9223372036854775807
                      · rw [if_pos c16] at H
                        have c16b0 := eq_true c16
                        have c16b1 : decide ((((((⟨#[84, 104, 117, 70, 114, 105, 83, 97, 116, 83, 117, 110, 77, 111, 110, 84, 117, 101, 87, 101, 100]⟩ : ByteArray).extract ((ji4) : Int).toNat ((wrap64 ((ji4) + 3)) : Int).toNat) ++ (⟨#[44, 32]⟩ : ByteArray)) ++ t130) ++ (⟨#[32]⟩ : ByteArray)).size + ((⟨#[74, 97, 110, 70, 101, 98, 77, 97, 114, 65, 112, 114, 77, 97, 121, 74, 117, 110, 74, 117, 108, 65, 117, 103, 83, 101, 112, 79, 99, 116, 78, 111, 118, 68, 101, 99]⟩ : ByteArray).extract ((ji12) : Int).toNat ((wrap64 (3 * t124)) : Int).toNat).size ≤ 9223372036854775807) = true := decide_eq_true c16
                        try have c16b2 : (9223372036854775807 < (((((⟨#[84, 104, 117, 70, 114, 105, 83, 97, 116, 83, 117, 110, 77, 111, 110, 84, 117, 101, 87, 101, 100]⟩ : ByteArray).extract ((ji4) : Int).toNat ((wrap64 ((ji4) + 3)) : Int).toNat) ++ (⟨#[44, 32]⟩ : ByteArray)) ++ t130) ++ (⟨#[32]⟩ : ByteArray)).size + ((⟨#[74, 97, 110, 70, 101, 98, 77, 97, 114, 65, 112, 114, 77, 97, 121, 74, 117, 110, 74, 117, 108, 65, 117, 103, 83, 101, 112, 79, 99, 116, 78, 111, 118, 68, 101, 99]⟩ : ByteArray).extract ((ji12) : Int).toNat ((wrap64 (3 * t124)) : Int).toNat).size) = False := eq_false (Nat.not_lt.2 c16)
                        try (have c16n : (min (((wrap64 ((ji4) + 3)) : Int).toNat) 21 - (((ji4) : Int).toNat)) + 2 + t130.size + 1 + (min (((wrap64 (3 * t124)) : Int).toNat) 36 - (((ji12) : Int).toNat)) ≤ 9223372036854775807 := by have h_ := c16; simp only [ByteArray.size_append, ByteArray.size_extract] at h_; exact h_)
                        try have c16f : (9223372036854775807 < (((wrap64 ((ji4) + 3)) : Int).toNat - ((ji4) : Int).toNat) + 2 + t130.size + 1 + (((wrap64 (3 * t124)) : Int).toNat - ((ji12) : Int).toNat)) = False := eq_false (by first | omega | (simp only [eq_iff_iff, iff_true] at *; omega))
                        by_cases c17 : ((((((⟨#[84, 104, 117, 70, 114, 105, 83, 97, 116, 83, 117, 110, 77, 111, 110, 84, 117, 101, 87, 101, 100]⟩ : ByteArray).extract ((ji4) : Int).toNat ((wrap64 ((ji4) + 3)) : Int).toNat) ++ (⟨#[44, 32]⟩ : ByteArray)) ++ t130) ++ (⟨#[32]⟩ : ByteArray)) ++ ((⟨#[74, 97, 110, 70, 101, 98, 77, 97, 114, 65, 112, 114, 77, 97, 121, 74, 117, 110, 74, 117, 108, 65, 117, 103, 83, 101, 112, 79, 99, 116, 78, 111, 118, 68, 101, 99]⟩ : ByteArray).extract ((ji12) : Int).toNat ((wrap64 (3 * t124)) : Int).toNat)).size + 1 ≤ 9223372036854775807
                        · rw [if_pos c17] at H
                          have c17b0 := eq_true c17
                          have c17b1 : decide (((((((⟨#[84, 104, 117, 70, 114, 105, 83, 97, 116, 83, 117, 110, 77, 111, 110, 84, 117, 101, 87, 101, 100]⟩ : ByteArray).extract ((ji4) : Int).toNat ((wrap64 ((ji4) + 3)) : Int).toNat) ++ (⟨#[44, 32]⟩ : ByteArray)) ++ t130) ++ (⟨#[32]⟩ : ByteArray)) ++ ((⟨#[74, 97, 110, 70, 101, 98, 77, 97, 114, 65, 112, 114, 77, 97, 121, 74, 117, 110, 74, 117, 108, 65, 117, 103, 83, 101, 112, 79, 99, 116, 78, 111, 118, 68, 101, 99]⟩ : ByteArray).extract ((ji12) : Int).toNat ((wrap64 (3 * t124)) : Int).toNat)).size + 1 ≤ 9223372036854775807) = true := decide_eq_true c17
                          try have c17b2 : (9223372036854775807 < ((((((⟨#[84, 104, 117, 70, 114, 105, 83, 97, 116, 83, 117, 110, 77, 111, 110, 84, 117, 101, 87, 101, 100]⟩ : ByteArray).extract ((ji4) : Int).toNat ((wrap64 ((ji4) + 3)) : Int).toNat) ++ (⟨#[44, 32]⟩ : ByteArray)) ++ t130) ++ (⟨#[32]⟩ : ByteArray)) ++ ((⟨#[74, 97, 110, 70, 101, 98, 77, 97, 114, 65, 112, 114, 77, 97, 121, 74, 117, 110, 74, 117, 108, 65, 117, 103, 83, 101, 112, 79, 99, 116, 78, 111, 118, 68, 101, 99]⟩ : ByteArray).extract ((ji12) : Int).toNat ((wrap64 (3 * t124)) : Int).toNat)).size + 1) = False := eq_false (Nat.not_lt.2 c17)
                          try (have c17n : (min (((wrap64 ((ji4) + 3)) : Int).toNat) 21 - (((ji4) : Int).toNat)) + 2 + t130.size + 1 + (min (((wrap64 (3 * t124)) : Int).toNat) 36 - (((ji12) : Int).toNat)) + 1 ≤ 9223372036854775807 := by have h_ := c17; simp only [ByteArray.size_append, ByteArray.size_extract] at h_; exact h_)
                          try have c17f : (9223372036854775807 < (((wrap64 ((ji4) + 3)) : Int).toNat - ((ji4) : Int).toNat) + 2 + t130.size + 1 + (((wrap64 (3 * t124)) : Int).toNat - ((ji12) : Int).toNat) + 1) = False := eq_false (by first | omega | (simp only [eq_iff_iff, iff_true] at *; omega))
                          replace H := Option.bind_eq_some_iff.mp H
                          obtain ⟨t131, A180, H⟩ := H
                          replace H : (if (((((((⟨#[84, 104, 117, 70, 114, 105, 83, 97, 116, 83, 117, 110, 77, 111, 110, 84, 117, 101, 87, 101, 100]⟩ : ByteArray).extract ((ji4) : Int).toNat ((wrap64 ((ji4) + 3)) : Int).toNat) ++ (⟨#[44, 32]⟩ : ByteArray)) ++ t130) ++ (⟨#[32]⟩ : ByteArray)) ++ ((⟨#[74, 97, 110, 70, 101, 98, 77, 97, 114, 65, 112, 114, 77, 97, 121, 74, 117, 110, 74, 117, 108, 65, 117, 103, 83, 101, 112, 79, 99, 116, 78, 111, 118, 68, 101, 99]⟩ : ByteArray).extract ((ji12) : Int).toNat ((wrap64 (3 * t124)) : Int).toNat)) ++ (⟨#[32]⟩ : ByteArray)).size + t131.size ≤ 9223372036854775807 then (if ((((((((⟨#[84, 104, 117, 70, 114, 105, 83, 97, 116, 83, 117, 110, 77, 111, 110, 84, 117, 101, 87, 101, 100]⟩ : ByteArray).extract ((ji4) : Int).toNat ((wrap64 ((ji4) + 3)) : Int).toNat) ++ (⟨#[44, 32]⟩ : ByteArray)) ++ t130) ++ (⟨#[32]⟩ : ByteArray)) ++ ((⟨#[74, 97, 110, 70, 101, 98, 77, 97, 114, 65, 112, 114, 77, 97, 121, 74, 117, 110, 74, 117, 108, 65, 117, 103, 83, 101, 112, 79, 99, 116, 78, 111, 118, 68, 101, 99]⟩ : ByteArray).extract ((ji12) : Int).toNat ((wrap64 (3 * t124)) : Int).toNat)) ++ (⟨#[32]⟩ : ByteArray)) ++ t131).size + 1 ≤ 9223372036854775807 then ((when_put.f k t126 2).bind fun t132 => (if (((((((((⟨#[84, 104, 117, 70, 114, 105, 83, 97, 116, 83, 117, 110, 77, 111, 110, 84, 117, 101, 87, 101, 100]⟩ : ByteArray).extract ((ji4) : Int).toNat ((wrap64 ((ji4) + 3)) : Int).toNat) ++ (⟨#[44, 32]⟩ : ByteArray)) ++ t130) ++ (⟨#[32]⟩ : ByteArray)) ++ ((⟨#[74, 97, 110, 70, 101, 98, 77, 97, 114, 65, 112, 114, 77, 97, 121, 74, 117, 110, 74, 117, 108, 65, 117, 103, 83, 101, 112, 79, 99, 116, 78, 111, 118, 68, 101, 99]⟩ : ByteArray).extract ((ji12) : Int).toNat ((wrap64 (3 * t124)) : Int).toNat)) ++ (⟨#[32]⟩ : ByteArray)) ++ t131) ++ (⟨#[32]⟩ : ByteArray)).size + t132.size ≤ 9223372036854775807 then (if ((((((((((⟨#[84, 104, 117, 70, 114, 105, 83, 97, 116, 83, 117, 110, 77, 111, 110, 84, 117, 101, 87, 101, 100]⟩ : ByteArray).extract ((ji4) : Int).toNat ((wrap64 ((ji4) + 3)) : Int).toNat) ++ (⟨#[44, 32]⟩ : ByteArray)) ++ t130) ++ (⟨#[32]⟩ : ByteArray)) ++ ((⟨#[74, 97, 110, 70, 101, 98, 77, 97, 114, 65, 112, 114, 77, 97, 121, 74, 117, 110, 74, 117, 108, 65, 117, 103, 83, 101, 112, 79, 99, 116, 78, 111, 118, 68, 101, 99]⟩ : ByteArray).extract ((ji12) : Int).toNat ((wrap64 (3 * t124)) : Int).toNat)) ++ (⟨#[32]⟩ : ByteArray)) ++ t131) ++ (⟨#[32]⟩ : ByteArray)) ++ t132).size + 1 ≤ 9223372036854775807 then ((when_put.f k t127 2).bind fun t133 => (if (((((((((((⟨#[84, 104, 117, 70, 114, 105, 83, 97, 116, 83, 117, 110, 77, 111, 110, 84, 117, 101, 87, 101, 100]⟩ : ByteArray).extract ((ji4) : Int).toNat ((wrap64 ((ji4) + 3)) : Int).toNat) ++ (⟨#[44, 32]⟩ : ByteArray)) ++ t130) ++ (⟨#[32]⟩ : ByteArray)) ++ ((⟨#[74, 97, 110, 70, 101, 98, 77, 97, 114, 65, 112, 114, 77, 97, 121, 74, 117, 110, 74, 117, 108, 65, 117, 103, 83, 101, 112, 79, 99, 116, 78, 111, 118, 68, 101, 99]⟩ : ByteArray).extract ((ji12) : Int).toNat ((wrap64 (3 * t124)) : Int).toNat)) ++ (⟨#[32]⟩ : ByteArray)) ++ t131) ++ (⟨#[32]⟩ : ByteArray)) ++ t132) ++ (⟨#[58]⟩ : ByteArray)).size + t133.size ≤ 9223372036854775807 then (if ((((((((((((⟨#[84, 104, 117, 70, 114, 105, 83, 97, 116, 83, 117, 110, 77, 111, 110, 84, 117, 101, 87, 101, 100]⟩ : ByteArray).extract ((ji4) : Int).toNat ((wrap64 ((ji4) + 3)) : Int).toNat) ++ (⟨#[44, 32]⟩ : ByteArray)) ++ t130) ++ (⟨#[32]⟩ : ByteArray)) ++ ((⟨#[74, 97, 110, 70, 101, 98, 77, 97, 114, 65, 112, 114, 77, 97, 121, 74, 117, 110, 74, 117, 108, 65, 117, 103, 83, 101, 112, 79, 99, 116, 78, 111, 118, 68, 101, 99]⟩ : ByteArray).extract ((ji12) : Int).toNat ((wrap64 (3 * t124)) : Int).toNat)) ++ (⟨#[32]⟩ : ByteArray)) ++ t131) ++ (⟨#[32]⟩ : ByteArray)) ++ t132) ++ (⟨#[58]⟩ : ByteArray)) ++ t133).size + 1 ≤ 9223372036854775807 then ((when_put.f k t128 2).bind fun t134 => (if (((((((((((((⟨#[84, 104, 117, 70, 114, 105, 83, 97, 116, 83, 117, 110, 77, 111, 110, 84, 117, 101, 87, 101, 100]⟩ : ByteArray).extract ((ji4) : Int).toNat ((wrap64 ((ji4) + 3)) : Int).toNat) ++ (⟨#[44, 32]⟩ : ByteArray)) ++ t130) ++ (⟨#[32]⟩ : ByteArray)) ++ ((⟨#[74, 97, 110, 70, 101, 98, 77, 97, 114, 65, 112, 114, 77, 97, 121, 74, 117, 110, 74, 117, 108, 65, 117, 103, 83, 101, 112, 79, 99, 116, 78, 111, 118, 68, 101, 99]⟩ : ByteArray).extract ((ji12) : Int).toNat ((wrap64 (3 * t124)) : Int).toNat)) ++ (⟨#[32]⟩ : ByteArray)) ++ t131) ++ (⟨#[32]⟩ : ByteArray)) ++ t132) ++ (⟨#[58]⟩ : ByteArray)) ++ t133) ++ (⟨#[58]⟩ : ByteArray)).size + t134.size ≤ 9223372036854775807 then (if ((((((((((((((⟨#[84, 104, 117, 70, 114, 105, 83, 97, 116, 83, 117, 110, 77, 111, 110, 84, 117, 101, 87, 101, 100]⟩ : ByteArray).extract ((ji4) : Int).toNat ((wrap64 ((ji4) + 3)) : Int).toNat) ++ (⟨#[44, 32]⟩ : ByteArray)) ++ t130) ++ (⟨#[32]⟩ : ByteArray)) ++ ((⟨#[74, 97, 110, 70, 101, 98, 77, 97, 114, 65, 112, 114, 77, 97, 121, 74, 117, 110, 74, 117, 108, 65, 117, 103, 83, 101, 112, 79, 99, 116, 78, 111, 118, 68, 101, 99]⟩ : ByteArray).extract ((ji12) : Int).toNat ((wrap64 (3 * t124)) : Int).toNat)) ++ (⟨#[32]⟩ : ByteArray)) ++ t131) ++ (⟨#[32]⟩ : ByteArray)) ++ t132) ++ (⟨#[58]⟩ : ByteArray)) ++ t133) ++ (⟨#[58]⟩ : ByteArray)) ++ t134).size + 4 ≤ 9223372036854775807 then (some (((((((((((((((⟨#[84, 104, 117, 70, 114, 105, 83, 97, 116, 83, 117, 110, 77, 111, 110, 84, 117, 101, 87, 101, 100]⟩ : ByteArray).extract ((ji4) : Int).toNat ((wrap64 ((ji4) + 3)) : Int).toNat) ++ (⟨#[44, 32]⟩ : ByteArray)) ++ t130) ++ (⟨#[32]⟩ : ByteArray)) ++ ((⟨#[74, 97, 110, 70, 101, 98, 77, 97, 114, 65, 112, 114, 77, 97, 121, 74, 117, 110, 74, 117, 108, 65, 117, 103, 83, 101, 112, 79, 99, 116, 78, 111, 118, 68, 101, 99]⟩ : ByteArray).extract ((ji12) : Int).toNat ((wrap64 (3 * t124)) : Int).toNat)) ++ (⟨#[32]⟩ : ByteArray)) ++ t131) ++ (⟨#[32]⟩ : ByteArray)) ++ t132) ++ (⟨#[58]⟩ : ByteArray)) ++ t133) ++ (⟨#[58]⟩ : ByteArray)) ++ t134) ++ (⟨#[32, 71, 77, 84]⟩ : ByteArray))) else (none)) else (none))) else (none)) else (none))) else (none)) else (none))) else (none)) else (none)) = some r := H
                          have A18 := Aside0.mk A180
                          clear A180
                          by_cases c19 : (((((((⟨#[84, 104, 117, 70, 114, 105, 83, 97, 116, 83, 117, 110, 77, 111, 110, 84, 117, 101, 87, 101, 100]⟩ : ByteArray).extract ((ji4) : Int).toNat ((wrap64 ((ji4) + 3)) : Int).toNat) ++ (⟨#[44, 32]⟩ : ByteArray)) ++ t130) ++ (⟨#[32]⟩ : ByteArray)) ++ ((⟨#[74, 97, 110, 70, 101, 98, 77, 97, 114, 65, 112, 114, 77, 97, 121, 74, 117, 110, 74, 117, 108, 65, 117, 103, 83, 101, 112, 79, 99, 116, 78, 111, 118, 68, 101, 99]⟩ : ByteArray).extract ((ji12) : Int).toNat ((wrap64 (3 * t124)) : Int).toNat)) ++ (⟨#[32]⟩ : ByteArray)).size + t131.size ≤ 9223372036854775807
                          · rw [if_pos c19] at H
                            have c19b0 := eq_true c19
                            have c19b1 : decide ((((((((⟨#[84, 104, 117, 70, 114, 105, 83, 97, 116, 83, 117, 110, 77, 111, 110, 84, 117, 101, 87, 101, 100]⟩ : ByteArray).extract ((ji4) : Int).toNat ((wrap64 ((ji4) + 3)) : Int).toNat) ++ (⟨#[44, 32]⟩ : ByteArray)) ++ t130) ++ (⟨#[32]⟩ : ByteArray)) ++ ((⟨#[74, 97, 110, 70, 101, 98, 77, 97, 114, 65, 112, 114, 77, 97, 121, 74, 117, 110, 74, 117, 108, 65, 117, 103, 83, 101, 112, 79, 99, 116, 78, 111, 118, 68, 101, 99]⟩ : ByteArray).extract ((ji12) : Int).toNat ((wrap64 (3 * t124)) : Int).toNat)) ++ (⟨#[32]⟩ : ByteArray)).size + t131.size ≤ 9223372036854775807) = true := decide_eq_true c19
                            try have c19b2 : (9223372036854775807 < (((((((⟨#[84, 104, 117, 70, 114, 105, 83, 97, 116, 83, 117, 110, 77, 111, 110, 84, 117, 101, 87, 101, 100]⟩ : ByteArray).extract ((ji4) : Int).toNat ((wrap64 ((ji4) + 3)) : Int).toNat) ++ (⟨#[44, 32]⟩ : ByteArray)) ++ t130) ++ (⟨#[32]⟩ : ByteArray)) ++ ((⟨#[74, 97, 110, 70, 101, 98, 77, 97, 114, 65, 112, 114, 77, 97, 121, 74, 117, 110, 74, 117, 108, 65, 117, 103, 83, 101, 112, 79, 99, 116, 78, 111, 118, 68, 101, 99]⟩ : ByteArray).extract ((ji12) : Int).toNat ((wrap64 (3 * t124)) : Int).toNat)) ++ (⟨#[32]⟩ : ByteArray)).size + t131.size) = False := eq_false (Nat.not_lt.2 c19)
                            try (have c19n : (min (((wrap64 ((ji4) + 3)) : Int).toNat) 21 - (((ji4) : Int).toNat)) + 2 + t130.size + 1 + (min (((wrap64 (3 * t124)) : Int).toNat) 36 - (((ji12) : Int).toNat)) + 1 + t131.size ≤ 9223372036854775807 := by have h_ := c19; simp only [ByteArray.size_append, ByteArray.size_extract] at h_; exact h_)
                            try have c19f : (9223372036854775807 < (((wrap64 ((ji4) + 3)) : Int).toNat - ((ji4) : Int).toNat) + 2 + t130.size + 1 + (((wrap64 (3 * t124)) : Int).toNat - ((ji12) : Int).toNat) + 1 + t131.size) = False := eq_false (by first | omega | (simp only [eq_iff_iff, iff_true] at *; omega))
                            by_cases c20 : ((((((((⟨#[84, 104, 117, 70, 114, 105, 83, 97, 116, 83, 117, 110, 77, 111, 110, 84, 117, 101, 87, 101, 100]⟩ : ByteArray).extract ((ji4) : Int).toNat ((wrap64 ((ji4) + 3)) : Int).toNat) ++ (⟨#[44, 32]⟩ : ByteArray)) ++ t130) ++ (⟨#[32]⟩ : ByteArray)) ++ ((⟨#[74, 97, 110, 70, 101, 98, 77, 97, 114, 65, 112, 114, 77, 97, 121, 74, 117, 110, 74, 117, 108, 65, 117, 103, 83, 101, 112, 79, 99, 116, 78, 111, 118, 68, 101, 99]⟩ : ByteArray).extract ((ji12) : Int).toNat ((wrap64 (3 * t124)) : Int).toNat)) ++ (⟨#[32]⟩ : ByteArray)) ++ t131).size + 1 ≤ 9223372036854775807
                            · rw [if_pos c20] at H
                              have c20b0 := eq_true c20
                              have c20b1 : decide (((((((((⟨#[84, 104, 117, 70, 114, 105, 83, 97, 116, 83, 117, 110, 77, 111, 110, 84, 117, 101, 87, 101, 100]⟩ : ByteArray).extract ((ji4) : Int).toNat ((wrap64 ((ji4) + 3)) : Int).toNat) ++ (⟨#[44, 32]⟩ : ByteArray)) ++ t130) ++ (⟨#[32]⟩ : ByteArray)) ++ ((⟨#[74, 97, 110, 70, 101, 98, 77, 97, 114, 65, 112, 114, 77, 97, 121, 74, 117, 110, 74, 117, 108, 65, 117, 103, 83, 101, 112, 79, 99, 116, 78, 111, 118, 68, 101, 99]⟩ : ByteArray).extract ((ji12) : Int).toNat ((wrap64 (3 * t124)) : Int).toNat)) ++ (⟨#[32]⟩ : ByteArray)) ++ t131).size + 1 ≤ 9223372036854775807) = true := decide_eq_true c20
                              try have c20b2 : (9223372036854775807 < ((((((((⟨#[84, 104, 117, 70, 114, 105, 83, 97, 116, 83, 117, 110, 77, 111, 110, 84, 117, 101, 87, 101, 100]⟩ : ByteArray).extract ((ji4) : Int).toNat ((wrap64 ((ji4) + 3)) : Int).toNat) ++ (⟨#[44, 32]⟩ : ByteArray)) ++ t130) ++ (⟨#[32]⟩ : ByteArray)) ++ ((⟨#[74, 97, 110, 70, 101, 98, 77, 97, 114, 65, 112, 114, 77, 97, 121, 74, 117, 110, 74, 117, 108, 65, 117, 103, 83, 101, 112, 79, 99, 116, 78, 111, 118, 68, 101, 99]⟩ : ByteArray).extract ((ji12) : Int).toNat ((wrap64 (3 * t124)) : Int).toNat)) ++ (⟨#[32]⟩ : ByteArray)) ++ t131).size + 1) = False := eq_false (Nat.not_lt.2 c20)
                              try (have c20n : (min (((wrap64 ((ji4) + 3)) : Int).toNat) 21 - (((ji4) : Int).toNat)) + 2 + t130.size + 1 + (min (((wrap64 (3 * t124)) : Int).toNat) 36 - (((ji12) : Int).toNat)) + 1 + t131.size + 1 ≤ 9223372036854775807 := by have h_ := c20; simp only [ByteArray.size_append, ByteArray.size_extract] at h_; exact h_)
                              try have c20f : (9223372036854775807 < (((wrap64 ((ji4) + 3)) : Int).toNat - ((ji4) : Int).toNat) + 2 + t130.size + 1 + (((wrap64 (3 * t124)) : Int).toNat - ((ji12) : Int).toNat) + 1 + t131.size + 1) = False := eq_false (by first | omega | (simp only [eq_iff_iff, iff_true] at *; omega))
                              replace H := Option.bind_eq_some_iff.mp H
                              obtain ⟨t132, A210, H⟩ := H
                              replace H : (if (((((((((⟨#[84, 104, 117, 70, 114, 105, 83, 97, 116, 83, 117, 110, 77, 111, 110, 84, 117, 101, 87, 101, 100]⟩ : ByteArray).extract ((ji4) : Int).toNat ((wrap64 ((ji4) + 3)) : Int).toNat) ++ (⟨#[44, 32]⟩ : ByteArray)) ++ t130) ++ (⟨#[32]⟩ : ByteArray)) ++ ((⟨#[74, 97, 110, 70, 101, 98, 77, 97, 114, 65, 112, 114, 77, 97, 121, 74, 117, 110, 74, 117, 108, 65, 117, 103, 83, 101, 112, 79, 99, 116, 78, 111, 118, 68, 101, 99]⟩ : ByteArray).extract ((ji12) : Int).toNat ((wrap64 (3 * t124)) : Int).toNat)) ++ (⟨#[32]⟩ : ByteArray)) ++ t131) ++ (⟨#[32]⟩ : ByteArray)).size + t132.size ≤ 9223372036854775807 then (if ((((((((((⟨#[84, 104, 117, 70, 114, 105, 83, 97, 116, 83, 117, 110, 77, 111, 110, 84, 117, 101, 87, 101, 100]⟩ : ByteArray).extract ((ji4) : Int).toNat ((wrap64 ((ji4) + 3)) : Int).toNat) ++ (⟨#[44, 32]⟩ : ByteArray)) ++ t130) ++ (⟨#[32]⟩ : ByteArray)) ++ ((⟨#[74, 97, 110, 70, 101, 98, 77, 97, 114, 65, 112, 114, 77, 97, 121, 74, 117, 110, 74, 117, 108, 65, 117, 103, 83, 101, 112, 79, 99, 116, 78, 111, 118, 68, 101, 99]⟩ : ByteArray).extract ((ji12) : Int).toNat ((wrap64 (3 * t124)) : Int).toNat)) ++ (⟨#[32]⟩ : ByteArray)) ++ t131) ++ (⟨#[32]⟩ : ByteArray)) ++ t132).size + 1 ≤ 9223372036854775807 then ((when_put.f k t127 2).bind fun t133 => (if (((((((((((⟨#[84, 104, 117, 70, 114, 105, 83, 97, 116, 83, 117, 110, 77, 111, 110, 84, 117, 101, 87, 101, 100]⟩ : ByteArray).extract ((ji4) : Int).toNat ((wrap64 ((ji4) + 3)) : Int).toNat) ++ (⟨#[44, 32]⟩ : ByteArray)) ++ t130) ++ (⟨#[32]⟩ : ByteArray)) ++ ((⟨#[74, 97, 110, 70, 101, 98, 77, 97, 114, 65, 112, 114, 77, 97, 121, 74, 117, 110, 74, 117, 108, 65, 117, 103, 83, 101, 112, 79, 99, 116, 78, 111, 118, 68, 101, 99]⟩ : ByteArray).extract ((ji12) : Int).toNat ((wrap64 (3 * t124)) : Int).toNat)) ++ (⟨#[32]⟩ : ByteArray)) ++ t131) ++ (⟨#[32]⟩ : ByteArray)) ++ t132) ++ (⟨#[58]⟩ : ByteArray)).size + t133.size ≤ 9223372036854775807 then (if ((((((((((((⟨#[84, 104, 117, 70, 114, 105, 83, 97, 116, 83, 117, 110, 77, 111, 110, 84, 117, 101, 87, 101, 100]⟩ : ByteArray).extract ((ji4) : Int).toNat ((wrap64 ((ji4) + 3)) : Int).toNat) ++ (⟨#[44, 32]⟩ : ByteArray)) ++ t130) ++ (⟨#[32]⟩ : ByteArray)) ++ ((⟨#[74, 97, 110, 70, 101, 98, 77, 97, 114, 65, 112, 114, 77, 97, 121, 74, 117, 110, 74, 117, 108, 65, 117, 103, 83, 101, 112, 79, 99, 116, 78, 111, 118, 68, 101, 99]⟩ : ByteArray).extract ((ji12) : Int).toNat ((wrap64 (3 * t124)) : Int).toNat)) ++ (⟨#[32]⟩ : ByteArray)) ++ t131) ++ (⟨#[32]⟩ : ByteArray)) ++ t132) ++ (⟨#[58]⟩ : ByteArray)) ++ t133).size + 1 ≤ 9223372036854775807 then ((when_put.f k t128 2).bind fun t134 => (if (((((((((((((⟨#[84, 104, 117, 70, 114, 105, 83, 97, 116, 83, 117, 110, 77, 111, 110, 84, 117, 101, 87, 101, 100]⟩ : ByteArray).extract ((ji4) : Int).toNat ((wrap64 ((ji4) + 3)) : Int).toNat) ++ (⟨#[44, 32]⟩ : ByteArray)) ++ t130) ++ (⟨#[32]⟩ : ByteArray)) ++ ((⟨#[74, 97, 110, 70, 101, 98, 77, 97, 114, 65, 112, 114, 77, 97, 121, 74, 117, 110, 74, 117, 108, 65, 117, 103, 83, 101, 112, 79, 99, 116, 78, 111, 118, 68, 101, 99]⟩ : ByteArray).extract ((ji12) : Int).toNat ((wrap64 (3 * t124)) : Int).toNat)) ++ (⟨#[32]⟩ : ByteArray)) ++ t131) ++ (⟨#[32]⟩ : ByteArray)) ++ t132) ++ (⟨#[58]⟩ : ByteArray)) ++ t133) ++ (⟨#[58]⟩ : ByteArray)).size + t134.size ≤ 9223372036854775807 then (if ((((((((((((((⟨#[84, 104, 117, 70, 114, 105, 83, 97, 116, 83, 117, 110, 77, 111, 110, 84, 117, 101, 87, 101, 100]⟩ : ByteArray).extract ((ji4) : Int).toNat ((wrap64 ((ji4) + 3)) : Int).toNat) ++ (⟨#[44, 32]⟩ : ByteArray)) ++ t130) ++ (⟨#[32]⟩ : ByteArray)) ++ ((⟨#[74, 97, 110, 70, 101, 98, 77, 97, 114, 65, 112, 114, 77, 97, 121, 74, 117, 110, 74, 117, 108, 65, 117, 103, 83, 101, 112, 79, 99, 116, 78, 111, 118, 68, 101, 99]⟩ : ByteArray).extract ((ji12) : Int).toNat ((wrap64 (3 * t124)) : Int).toNat)) ++ (⟨#[32]⟩ : ByteArray)) ++ t131) ++ (⟨#[32]⟩ : ByteArray)) ++ t132) ++ (⟨#[58]⟩ : ByteArray)) ++ t133) ++ (⟨#[58]⟩ : ByteArray)) ++ t134).size + 4 ≤ 9223372036854775807 then (some (((((((((((((((⟨#[84, 104, 117, 70, 114, 105, 83, 97, 116, 83, 117, 110, 77, 111, 110, 84, 117, 101, 87, 101, 100]⟩ : ByteArray).extract ((ji4) : Int).toNat ((wrap64 ((ji4) + 3)) : Int).toNat) ++ (⟨#[44, 32]⟩ : ByteArray)) ++ t130) ++ (⟨#[32]⟩ : ByteArray)) ++ ((⟨#[74, 97, 110, 70, 101, 98, 77, 97, 114, 65, 112, 114, 77, 97, 121, 74, 117, 110, 74, 117, 108, 65, 117, 103, 83, 101, 112, 79, 99, 116, 78, 111, 118, 68, 101, 99]⟩ : ByteArray).extract ((ji12) : Int).toNat ((wrap64 (3 * t124)) : Int).toNat)) ++ (⟨#[32]⟩ : ByteArray)) ++ t131) ++ (⟨#[32]⟩ : ByteArray)) ++ t132) ++ (⟨#[58]⟩ : ByteArray)) ++ t133) ++ (⟨#[58]⟩ : ByteArray)) ++ t134) ++ (⟨#[32, 71, 77, 84]⟩ : ByteArray))) else (none)) else (none))) else (none)) else (none))) else (none)) else (none)) = some r := H
                              have A21 := Aside0.mk A210
                              clear A210
                              by_cases c22 : (((((((((⟨#[84, 104, 117, 70, 114, 105, 83, 97, 116, 83, 117, 110, 77, 111, 110, 84, 117, 101, 87, 101, 100]⟩ : ByteArray).extract ((ji4) : Int).toNat ((wrap64 ((ji4) + 3)) : Int).toNat) ++ (⟨#[44, 32]⟩ : ByteArray)) ++ t130) ++ (⟨#[32]⟩ : ByteArray)) ++ ((⟨#[74, 97, 110, 70, 101, 98, 77, 97, 114, 65, 112, 114, 77, 97, 121, 74, 117, 110, 74, 117, 108, 65, 117, 103, 83, 101, 112, 79, 99, 116, 78, 111, 118, 68, 101, 99]⟩ : ByteArray).extract ((ji12) : Int).toNat ((wrap64 (3 * t124)) : Int).toNat)) ++ (⟨#[32]⟩ : ByteArray)) ++ t131) ++ (⟨#[32]⟩ : ByteArray)).size + t132.size ≤ 9223372036854775807
                              · rw [if_pos c22] at H
                                have c22b0 := eq_true c22
                                have c22b1 : decide ((((((((((⟨#[84, 104, 117, 70, 114, 105, 83, 97, 116, 83, 117, 110, 77, 111, 110, 84, 117, 101, 87, 101, 100]⟩ : ByteArray).extract ((ji4) : Int).toNat ((wrap64 ((ji4) + 3)) : Int).toNat) ++ (⟨#[44, 32]⟩ : ByteArray)) ++ t130) ++ (⟨#[32]⟩ : ByteArray)) ++ ((⟨#[74, 97, 110, 70, 101, 98, 77, 97, 114, 65, 112, 114, 77, 97, 121, 74, 117, 110, 74, 117, 108, 65, 117, 103, 83, 101, 112, 79, 99, 116, 78, 111, 118, 68, 101, 99]⟩ : ByteArray).extract ((ji12) : Int).toNat ((wrap64 (3 * t124)) : Int).toNat)) ++ (⟨#[32]⟩ : ByteArray)) ++ t131) ++ (⟨#[32]⟩ : ByteArray)).size + t132.size ≤ 9223372036854775807) = true := decide_eq_true c22
                                try have c22b2 : (9223372036854775807 < (((((((((⟨#[84, 104, 117, 70, 114, 105, 83, 97, 116, 83, 117, 110, 77, 111, 110, 84, 117, 101, 87, 101, 100]⟩ : ByteArray).extract ((ji4) : Int).toNat ((wrap64 ((ji4) + 3)) : Int).toNat) ++ (⟨#[44, 32]⟩ : ByteArray)) ++ t130) ++ (⟨#[32]⟩ : ByteArray)) ++ ((⟨#[74, 97, 110, 70, 101, 98, 77, 97, 114, 65, 112, 114, 77, 97, 121, 74, 117, 110, 74, 117, 108, 65, 117, 103, 83, 101, 112, 79, 99, 116, 78, 111, 118, 68, 101, 99]⟩ : ByteArray).extract ((ji12) : Int).toNat ((wrap64 (3 * t124)) : Int).toNat)) ++ (⟨#[32]⟩ : ByteArray)) ++ t131) ++ (⟨#[32]⟩ : ByteArray)).size + t132.size) = False := eq_false (Nat.not_lt.2 c22)
                                try (have c22n : (min (((wrap64 ((ji4) + 3)) : Int).toNat) 21 - (((ji4) : Int).toNat)) + 2 + t130.size + 1 + (min (((wrap64 (3 * t124)) : Int).toNat) 36 - (((ji12) : Int).toNat)) + 1 + t131.size + 1 + t132.size ≤ 9223372036854775807 := by have h_ := c22; simp only [ByteArray.size_append, ByteArray.size_extract] at h_; exact h_)
                                try have c22f : (9223372036854775807 < (((wrap64 ((ji4) + 3)) : Int).toNat - ((ji4) : Int).toNat) + 2 + t130.size + 1 + (((wrap64 (3 * t124)) : Int).toNat - ((ji12) : Int).toNat) + 1 + t131.size + 1 + t132.size) = False := eq_false (by first | omega | (simp only [eq_iff_iff, iff_true] at *; omega))
                                by_cases c23 : ((((((((((⟨#[84, 104, 117, 70, 114, 105, 83, 97, 116, 83, 117, 110, 77, 111, 110, 84, 117, 101, 87, 101, 100]⟩ : ByteArray).extract ((ji4) : Int).toNat ((wrap64 ((ji4) + 3)) : Int).toNat) ++ (⟨#[44, 32]⟩ : ByteArray)) ++ t130) ++ (⟨#[32]⟩ : ByteArray)) ++ ((⟨#[74, 97, 110, 70, 101, 98, 77, 97, 114, 65, 112, 114, 77, 97, 121, 74, 117, 110, 74, 117, 108, 65, 117, 103, 83, 101, 112, 79, 99, 116, 78, 111, 118, 68, 101, 99]⟩ : ByteArray).extract ((ji12) : Int).toNat ((wrap64 (3 * t124)) : Int).toNat)) ++ (⟨#[32]⟩ : ByteArray)) ++ t131) ++ (⟨#[32]⟩ : ByteArray)) ++ t132).size + 1 ≤ 9223372036854775807
                                · rw [if_pos c23] at H
                                  have c23b0 := eq_true c23
                                  have c23b1 : decide (((((((((((⟨#[84, 104, 117, 70, 114, 105, 83, 97, 116, 83, 117, 110, 77, 111, 110, 84, 117, 101, 87, 101, 100]⟩ : ByteArray).extract ((ji4) : Int).toNat ((wrap64 ((ji4) + 3)) : Int).toNat) ++ (⟨#[44, 32]⟩ : ByteArray)) ++ t130) ++ (⟨#[32]⟩ : ByteArray)) ++ ((⟨#[74, 97, 110, 70, 101, 98, 77, 97, 114, 65, 112, 114, 77, 97, 121, 74, 117, 110, 74, 117, 108, 65, 117, 103, 83, 101, 112, 79, 99, 116, 78, 111, 118, 68, 101, 99]⟩ : ByteArray).extract ((ji12) : Int).toNat ((wrap64 (3 * t124)) : Int).toNat)) ++ (⟨#[32]⟩ : ByteArray)) ++ t131) ++ (⟨#[32]⟩ : ByteArray)) ++ t132).size + 1 ≤ 9223372036854775807) = true := decide_eq_true c23
                                  try have c23b2 : (9223372036854775807 < ((((((((((⟨#[84, 104, 117, 70, 114, 105, 83, 97, 116, 83, 117, 110, 77, 111, 110, 84, 117, 101, 87, 101, 100]⟩ : ByteArray).extract ((ji4) : Int).toNat ((wrap64 ((ji4) + 3)) : Int).toNat) ++ (⟨#[44, 32]⟩ : ByteArray)) ++ t130) ++ (⟨#[32]⟩ : ByteArray)) ++ ((⟨#[74, 97, 110, 70, 101, 98, 77, 97, 114, 65, 112, 114, 77, 97, 121, 74, 117, 110, 74, 117, 108, 65, 117, 103, 83, 101, 112, 79, 99, 116, 78, 111, 118, 68, 101, 99]⟩ : ByteArray).extract ((ji12) : Int).toNat ((wrap64 (3 * t124)) : Int).toNat)) ++ (⟨#[32]⟩ : ByteArray)) ++ t131) ++ (⟨#[32]⟩ : ByteArray)) ++ t132).size + 1) = False := eq_false (Nat.not_lt.2 c23)
                                  try (have c23n : (min (((wrap64 ((ji4) + 3)) : Int).toNat) 21 - (((ji4) : Int).toNat)) + 2 + t130.size + 1 + (min (((wrap64 (3 * t124)) : Int).toNat) 36 - (((ji12) : Int).toNat)) + 1 + t131.size + 1 + t132.size + 1 ≤ 9223372036854775807 := by have h_ := c23; simp only [ByteArray.size_append, ByteArray.size_extract] at h_; exact h_)
                                  try have c23f : (9223372036854775807 < (((wrap64 ((ji4) + 3)) : Int).toNat - ((ji4) : Int).toNat) + 2 + t130.size + 1 + (((wrap64 (3 * t124)) : Int).toNat - ((ji12) : Int).toNat) + 1 + t131.size + 1 + t132.size + 1) = False := eq_false (by first | omega | (simp only [eq_iff_iff, iff_true] at *; omega))
                                  replace H := Option.bind_eq_some_iff.mp H
                                  obtain ⟨t133, A240, H⟩ := H
                                  replace H : (if (((((((((((⟨#[84, 104, 117, 70, 114, 105, 83, 97, 116, 83, 117, 110, 77, 111, 110, 84, 117, 101, 87, 101, 100]⟩ : ByteArray).extract ((ji4) : Int).toNat ((wrap64 ((ji4) + 3)) : Int).toNat) ++ (⟨#[44, 32]⟩ : ByteArray)) ++ t130) ++ (⟨#[32]⟩ : ByteArray)) ++ ((⟨#[74, 97, 110, 70, 101, 98, 77, 97, 114, 65, 112, 114, 77, 97, 121, 74, 117, 110, 74, 117, 108, 65, 117, 103, 83, 101, 112, 79, 99, 116, 78, 111, 118, 68, 101, 99]⟩ : ByteArray).extract ((ji12) : Int).toNat ((wrap64 (3 * t124)) : Int).toNat)) ++ (⟨#[32]⟩ : ByteArray)) ++ t131) ++ (⟨#[32]⟩ : ByteArray)) ++ t132) ++ (⟨#[58]⟩ : ByteArray)).size + t133.size ≤ 9223372036854775807 then (if ((((((((((((⟨#[84, 104, 117, 70, 114, 105, 83, 97, 116, 83, 117, 110, 77, 111, 110, 84, 117, 101, 87, 101, 100]⟩ : ByteArray).extract ((ji4) : Int).toNat ((wrap64 ((ji4) + 3)) : Int).toNat) ++ (⟨#[44, 32]⟩ : ByteArray)) ++ t130) ++ (⟨#[32]⟩ : ByteArray)) ++ ((⟨#[74, 97, 110, 70, 101, 98, 77, 97, 114, 65, 112, 114, 77, 97, 121, 74, 117, 110, 74, 117, 108, 65, 117, 103, 83, 101, 112, 79, 99, 116, 78, 111, 118, 68, 101, 99]⟩ : ByteArray).extract ((ji12) : Int).toNat ((wrap64 (3 * t124)) : Int).toNat)) ++ (⟨#[32]⟩ : ByteArray)) ++ t131) ++ (⟨#[32]⟩ : ByteArray)) ++ t132) ++ (⟨#[58]⟩ : ByteArray)) ++ t133).size + 1 ≤ 9223372036854775807 then ((when_put.f k t128 2).bind fun t134 => (if (((((((((((((⟨#[84, 104, 117, 70, 114, 105, 83, 97, 116, 83, 117, 110, 77, 111, 110, 84, 117, 101, 87, 101, 100]⟩ : ByteArray).extract ((ji4) : Int).toNat ((wrap64 ((ji4) + 3)) : Int).toNat) ++ (⟨#[44, 32]⟩ : ByteArray)) ++ t130) ++ (⟨#[32]⟩ : ByteArray)) ++ ((⟨#[74, 97, 110, 70, 101, 98, 77, 97, 114, 65, 112, 114, 77, 97, 121, 74, 117, 110, 74, 117, 108, 65, 117, 103, 83, 101, 112, 79, 99, 116, 78, 111, 118, 68, 101, 99]⟩ : ByteArray).extract ((ji12) : Int).toNat ((wrap64 (3 * t124)) : Int).toNat)) ++ (⟨#[32]⟩ : ByteArray)) ++ t131) ++ (⟨#[32]⟩ : ByteArray)) ++ t132) ++ (⟨#[58]⟩ : ByteArray)) ++ t133) ++ (⟨#[58]⟩ : ByteArray)).size + t134.size ≤ 9223372036854775807 then (if ((((((((((((((⟨#[84, 104, 117, 70, 114, 105, 83, 97, 116, 83, 117, 110, 77, 111, 110, 84, 117, 101, 87, 101, 100]⟩ : ByteArray).extract ((ji4) : Int).toNat ((wrap64 ((ji4) + 3)) : Int).toNat) ++ (⟨#[44, 32]⟩ : ByteArray)) ++ t130) ++ (⟨#[32]⟩ : ByteArray)) ++ ((⟨#[74, 97, 110, 70, 101, 98, 77, 97, 114, 65, 112, 114, 77, 97, 121, 74, 117, 110, 74, 117, 108, 65, 117, 103, 83, 101, 112, 79, 99, 116, 78, 111, 118, 68, 101, 99]⟩ : ByteArray).extract ((ji12) : Int).toNat ((wrap64 (3 * t124)) : Int).toNat)) ++ (⟨#[32]⟩ : ByteArray)) ++ t131) ++ (⟨#[32]⟩ : ByteArray)) ++ t132) ++ (⟨#[58]⟩ : ByteArray)) ++ t133) ++ (⟨#[58]⟩ : ByteArray)) ++ t134).size + 4 ≤ 9223372036854775807 then (some (((((((((((((((⟨#[84, 104, 117, 70, 114, 105, 83, 97, 116, 83, 117, 110, 77, 111, 110, 84, 117, 101, 87, 101, 100]⟩ : ByteArray).extract ((ji4) : Int).toNat ((wrap64 ((ji4) + 3)) : Int).toNat) ++ (⟨#[44, 32]⟩ : ByteArray)) ++ t130) ++ (⟨#[32]⟩ : ByteArray)) ++ ((⟨#[74, 97, 110, 70, 101, 98, 77, 97, 114, 65, 112, 114, 77, 97, 121, 74, 117, 110, 74, 117, 108, 65, 117, 103, 83, 101, 112, 79, 99, 116, 78, 111, 118, 68, 101, 99]⟩ : ByteArray).extract ((ji12) : Int).toNat ((wrap64 (3 * t124)) : Int).toNat)) ++ (⟨#[32]⟩ : ByteArray)) ++ t131) ++ (⟨#[32]⟩ : ByteArray)) ++ t132) ++ (⟨#[58]⟩ : ByteArray)) ++ t133) ++ (⟨#[58]⟩ : ByteArray)) ++ t134) ++ (⟨#[32, 71, 77, 84]⟩ : ByteArray))) else (none)) else (none))) else (none)) else (none)) = some r := H
                                  have A24 := Aside0.mk A240
                                  clear A240
                                  by_cases c25 : (((((((((((⟨#[84, 104, 117, 70, 114, 105, 83, 97, 116, 83, 117, 110, 77, 111, 110, 84, 117, 101, 87, 101, 100]⟩ : ByteArray).extract ((ji4) : Int).toNat ((wrap64 ((ji4) + 3)) : Int).toNat) ++ (⟨#[44, 32]⟩ : ByteArray)) ++ t130) ++ (⟨#[32]⟩ : ByteArray)) ++ ((⟨#[74, 97, 110, 70, 101, 98, 77, 97, 114, 65, 112, 114, 77, 97, 121, 74, 117, 110, 74, 117, 108, 65, 117, 103, 83, 101, 112, 79, 99, 116, 78, 111, 118, 68, 101, 99]⟩ : ByteArray).extract ((ji12) : Int).toNat ((wrap64 (3 * t124)) : Int).toNat)) ++ (⟨#[32]⟩ : ByteArray)) ++ t131) ++ (⟨#[32]⟩ : ByteArray)) ++ t132) ++ (⟨#[58]⟩ : ByteArray)).size + t133.size ≤ 9223372036854775807
                                  · rw [if_pos c25] at H
                                    have c25b0 := eq_true c25
                                    have c25b1 : decide ((((((((((((⟨#[84, 104, 117, 70, 114, 105, 83, 97, 116, 83, 117, 110, 77, 111, 110, 84, 117, 101, 87, 101, 100]⟩ : ByteArray).extract ((ji4) : Int).toNat ((wrap64 ((ji4) + 3)) : Int).toNat) ++ (⟨#[44, 32]⟩ : ByteArray)) ++ t130) ++ (⟨#[32]⟩ : ByteArray)) ++ ((⟨#[74, 97, 110, 70, 101, 98, 77, 97, 114, 65, 112, 114, 77, 97, 121, 74, 117, 110, 74, 117, 108, 65, 117, 103, 83, 101, 112, 79, 99, 116, 78, 111, 118, 68, 101, 99]⟩ : ByteArray).extract ((ji12) : Int).toNat ((wrap64 (3 * t124)) : Int).toNat)) ++ (⟨#[32]⟩ : ByteArray)) ++ t131) ++ (⟨#[32]⟩ : ByteArray)) ++ t132) ++ (⟨#[58]⟩ : ByteArray)).size + t133.size ≤ 9223372036854775807) = true := decide_eq_true c25
                                    try have c25b2 : (9223372036854775807 < (((((((((((⟨#[84, 104, 117, 70, 114, 105, 83, 97, 116, 83, 117, 110, 77, 111, 110, 84, 117, 101, 87, 101, 100]⟩ : ByteArray).extract ((ji4) : Int).toNat ((wrap64 ((ji4) + 3)) : Int).toNat) ++ (⟨#[44, 32]⟩ : ByteArray)) ++ t130) ++ (⟨#[32]⟩ : ByteArray)) ++ ((⟨#[74, 97, 110, 70, 101, 98, 77, 97, 114, 65, 112, 114, 77, 97, 121, 74, 117, 110, 74, 117, 108, 65, 117, 103, 83, 101, 112, 79, 99, 116, 78, 111, 118, 68, 101, 99]⟩ : ByteArray).extract ((ji12) : Int).toNat ((wrap64 (3 * t124)) : Int).toNat)) ++ (⟨#[32]⟩ : ByteArray)) ++ t131) ++ (⟨#[32]⟩ : ByteArray)) ++ t132) ++ (⟨#[58]⟩ : ByteArray)).size + t133.size) = False := eq_false (Nat.not_lt.2 c25)
                                    try (have c25n : (min (((wrap64 ((ji4) + 3)) : Int).toNat) 21 - (((ji4) : Int).toNat)) + 2 + t130.size + 1 + (min (((wrap64 (3 * t124)) : Int).toNat) 36 - (((ji12) : Int).toNat)) + 1 + t131.size + 1 + t132.size + 1 + t133.size ≤ 9223372036854775807 := by have h_ := c25; simp only [ByteArray.size_append, ByteArray.size_extract] at h_; exact h_)
                                    try have c25f : (9223372036854775807 < (((wrap64 ((ji4) + 3)) : Int).toNat - ((ji4) : Int).toNat) + 2 + t130.size + 1 + (((wrap64 (3 * t124)) : Int).toNat - ((ji12) : Int).toNat) + 1 + t131.size + 1 + t132.size + 1 + t133.size) = False := eq_false (by first | omega | (simp only [eq_iff_iff, iff_true] at *; omega))
                                    by_cases c26 : ((((((((((((⟨#[84, 104, 117, 70, 114, 105, 83, 97, 116, 83, 117, 110, 77, 111, 110, 84, 117, 101, 87, 101, 100]⟩ : ByteArray).extract ((ji4) : Int).toNat ((wrap64 ((ji4) + 3)) : Int).toNat) ++ (⟨#[44, 32]⟩ : ByteArray)) ++ t130) ++ (⟨#[32]⟩ : ByteArray)) ++ ((⟨#[74, 97, 110, 70, 101, 98, 77, 97, 114, 65, 112, 114, 77, 97, 121, 74, 117, 110, 74, 117, 108, 65, 117, 103, 83, 101, 112, 79, 99, 116, 78, 111, 118, 68, 101, 99]⟩ : ByteArray).extract ((ji12) : Int).toNat ((wrap64 (3 * t124)) : Int).toNat)) ++ (⟨#[32]⟩ : ByteArray)) ++ t131) ++ (⟨#[32]⟩ : ByteArray)) ++ t132) ++ (⟨#[58]⟩ : ByteArray)) ++ t133).size + 1 ≤ 9223372036854775807
                                    · rw [if_pos c26] at H
                                      have c26b0 := eq_true c26
                                      have c26b1 : decide (((((((((((((⟨#[84, 104, 117, 70, 114, 105, 83, 97, 116, 83, 117, 110, 77, 111, 110, 84, 117, 101, 87, 101, 100]⟩ : ByteArray).extract ((ji4) : Int).toNat ((wrap64 ((ji4) + 3)) : Int).toNat) ++ (⟨#[44, 32]⟩ : ByteArray)) ++ t130) ++ (⟨#[32]⟩ : ByteArray)) ++ ((⟨#[74, 97, 110, 70, 101, 98, 77, 97, 114, 65, 112, 114, 77, 97, 121, 74, 117, 110, 74, 117, 108, 65, 117, 103, 83, 101, 112, 79, 99, 116, 78, 111, 118, 68, 101, 99]⟩ : ByteArray).extract ((ji12) : Int).toNat ((wrap64 (3 * t124)) : Int).toNat)) ++ (⟨#[32]⟩ : ByteArray)) ++ t131) ++ (⟨#[32]⟩ : ByteArray)) ++ t132) ++ (⟨#[58]⟩ : ByteArray)) ++ t133).size + 1 ≤ 9223372036854775807) = true := decide_eq_true c26
                                      try have c26b2 : (9223372036854775807 < ((((((((((((⟨#[84, 104, 117, 70, 114, 105, 83, 97, 116, 83, 117, 110, 77, 111, 110, 84, 117, 101, 87, 101, 100]⟩ : ByteArray).extract ((ji4) : Int).toNat ((wrap64 ((ji4) + 3)) : Int).toNat) ++ (⟨#[44, 32]⟩ : ByteArray)) ++ t130) ++ (⟨#[32]⟩ : ByteArray)) ++ ((⟨#[74, 97, 110, 70, 101, 98, 77, 97, 114, 65, 112, 114, 77, 97, 121, 74, 117, 110, 74, 117, 108, 65, 117, 103, 83, 101, 112, 79, 99, 116, 78, 111, 118, 68, 101, 99]⟩ : ByteArray).extract ((ji12) : Int).toNat ((wrap64 (3 * t124)) : Int).toNat)) ++ (⟨#[32]⟩ : ByteArray)) ++ t131) ++ (⟨#[32]⟩ : ByteArray)) ++ t132) ++ (⟨#[58]⟩ : ByteArray)) ++ t133).size + 1) = False := eq_false (Nat.not_lt.2 c26)
                                      try (have c26n : (min (((wrap64 ((ji4) + 3)) : Int).toNat) 21 - (((ji4) : Int).toNat)) + 2 + t130.size + 1 + (min (((wrap64 (3 * t124)) : Int).toNat) 36 - (((ji12) : Int).toNat)) + 1 + t131.size + 1 + t132.size + 1 + t133.size + 1 ≤ 9223372036854775807 := by have h_ := c26; simp only [ByteArray.size_append, ByteArray.size_extract] at h_; exact h_)
                                      try have c26f : (9223372036854775807 < (((wrap64 ((ji4) + 3)) : Int).toNat - ((ji4) : Int).toNat) + 2 + t130.size + 1 + (((wrap64 (3 * t124)) : Int).toNat - ((ji12) : Int).toNat) + 1 + t131.size + 1 + t132.size + 1 + t133.size + 1) = False := eq_false (by first | omega | (simp only [eq_iff_iff, iff_true] at *; omega))
                                      replace H := Option.bind_eq_some_iff.mp H
                                      obtain ⟨t134, A270, H⟩ := H
                                      replace H : (if (((((((((((((⟨#[84, 104, 117, 70, 114, 105, 83, 97, 116, 83, 117, 110, 77, 111, 110, 84, 117, 101, 87, 101, 100]⟩ : ByteArray).extract ((ji4) : Int).toNat ((wrap64 ((ji4) + 3)) : Int).toNat) ++ (⟨#[44, 32]⟩ : ByteArray)) ++ t130) ++ (⟨#[32]⟩ : ByteArray)) ++ ((⟨#[74, 97, 110, 70, 101, 98, 77, 97, 114, 65, 112, 114, 77, 97, 121, 74, 117, 110, 74, 117, 108, 65, 117, 103, 83, 101, 112, 79, 99, 116, 78, 111, 118, 68, 101, 99]⟩ : ByteArray).extract ((ji12) : Int).toNat ((wrap64 (3 * t124)) : Int).toNat)) ++ (⟨#[32]⟩ : ByteArray)) ++ t131) ++ (⟨#[32]⟩ : ByteArray)) ++ t132) ++ (⟨#[58]⟩ : ByteArray)) ++ t133) ++ (⟨#[58]⟩ : ByteArray)).size + t134.size ≤ 9223372036854775807 then (if ((((((((((((((⟨#[84, 104, 117, 70, 114, 105, 83, 97, 116, 83, 117, 110, 77, 111, 110, 84, 117, 101, 87, 101, 100]⟩ : ByteArray).extract ((ji4) : Int).toNat ((wrap64 ((ji4) + 3)) : Int).toNat) ++ (⟨#[44, 32]⟩ : ByteArray)) ++ t130) ++ (⟨#[32]⟩ : ByteArray)) ++ ((⟨#[74, 97, 110, 70, 101, 98, 77, 97, 114, 65, 112, 114, 77, 97, 121, 74, 117, 110, 74, 117, 108, 65, 117, 103, 83, 101, 112, 79, 99, 116, 78, 111, 118, 68, 101, 99]⟩ : ByteArray).extract ((ji12) : Int).toNat ((wrap64 (3 * t124)) : Int).toNat)) ++ (⟨#[32]⟩ : ByteArray)) ++ t131) ++ (⟨#[32]⟩ : ByteArray)) ++ t132) ++ (⟨#[58]⟩ : ByteArray)) ++ t133) ++ (⟨#[58]⟩ : ByteArray)) ++ t134).size + 4 ≤ 9223372036854775807 then (some (((((((((((((((⟨#[84, 104, 117, 70, 114, 105, 83, 97, 116, 83, 117, 110, 77, 111, 110, 84, 117, 101, 87, 101, 100]⟩ : ByteArray).extract ((ji4) : Int).toNat ((wrap64 ((ji4) + 3)) : Int).toNat) ++ (⟨#[44, 32]⟩ : ByteArray)) ++ t130) ++ (⟨#[32]⟩ : ByteArray)) ++ ((⟨#[74, 97, 110, 70, 101, 98, 77, 97, 114, 65, 112, 114, 77, 97, 121, 74, 117, 110, 74, 117, 108, 65, 117, 103, 83, 101, 112, 79, 99, 116, 78, 111, 118, 68, 101, 99]⟩ : ByteArray).extract ((ji12) : Int).toNat ((wrap64 (3 * t124)) : Int).toNat)) ++ (⟨#[32]⟩ : ByteArray)) ++ t131) ++ (⟨#[32]⟩ : ByteArray)) ++ t132) ++ (⟨#[58]⟩ : ByteArray)) ++ t133) ++ (⟨#[58]⟩ : ByteArray)) ++ t134) ++ (⟨#[32, 71, 77, 84]⟩ : ByteArray))) else (none)) else (none)) = some r := H
                                      have A27 := Aside0.mk A270
                                      clear A270
                                      by_cases c28 : (((((((((((((⟨#[84, 104, 117, 70, 114, 105, 83, 97, 116, 83, 117, 110, 77, 111, 110, 84, 117, 101, 87, 101, 100]⟩ : ByteArray).extract ((ji4) : Int).toNat ((wrap64 ((ji4) + 3)) : Int).toNat) ++ (⟨#[44, 32]⟩ : ByteArray)) ++ t130) ++ (⟨#[32]⟩ : ByteArray)) ++ ((⟨#[74, 97, 110, 70, 101, 98, 77, 97, 114, 65, 112, 114, 77, 97, 121, 74, 117, 110, 74, 117, 108, 65, 117, 103, 83, 101, 112, 79, 99, 116, 78, 111, 118, 68, 101, 99]⟩ : ByteArray).extract ((ji12) : Int).toNat ((wrap64 (3 * t124)) : Int).toNat)) ++ (⟨#[32]⟩ : ByteArray)) ++ t131) ++ (⟨#[32]⟩ : ByteArray)) ++ t132) ++ (⟨#[58]⟩ : ByteArray)) ++ t133) ++ (⟨#[58]⟩ : ByteArray)).size + t134.size ≤ 9223372036854775807
                                      · rw [if_pos c28] at H
                                        have c28b0 := eq_true c28
                                        have c28b1 : decide ((((((((((((((⟨#[84, 104, 117, 70, 114, 105, 83, 97, 116, 83, 117, 110, 77, 111, 110, 84, 117, 101, 87, 101, 100]⟩ : ByteArray).extract ((ji4) : Int).toNat ((wrap64 ((ji4) + 3)) : Int).toNat) ++ (⟨#[44, 32]⟩ : ByteArray)) ++ t130) ++ (⟨#[32]⟩ : ByteArray)) ++ ((⟨#[74, 97, 110, 70, 101, 98, 77, 97, 114, 65, 112, 114, 77, 97, 121, 74, 117, 110, 74, 117, 108, 65, 117, 103, 83, 101, 112, 79, 99, 116, 78, 111, 118, 68, 101, 99]⟩ : ByteArray).extract ((ji12) : Int).toNat ((wrap64 (3 * t124)) : Int).toNat)) ++ (⟨#[32]⟩ : ByteArray)) ++ t131) ++ (⟨#[32]⟩ : ByteArray)) ++ t132) ++ (⟨#[58]⟩ : ByteArray)) ++ t133) ++ (⟨#[58]⟩ : ByteArray)).size + t134.size ≤ 9223372036854775807) = true := decide_eq_true c28
                                        try have c28b2 : (9223372036854775807 < (((((((((((((⟨#[84, 104, 117, 70, 114, 105, 83, 97, 116, 83, 117, 110, 77, 111, 110, 84, 117, 101, 87, 101, 100]⟩ : ByteArray).extract ((ji4) : Int).toNat ((wrap64 ((ji4) + 3)) : Int).toNat) ++ (⟨#[44, 32]⟩ : ByteArray)) ++ t130) ++ (⟨#[32]⟩ : ByteArray)) ++ ((⟨#[74, 97, 110, 70, 101, 98, 77, 97, 114, 65, 112, 114, 77, 97, 121, 74, 117, 110, 74, 117, 108, 65, 117, 103, 83, 101, 112, 79, 99, 116, 78, 111, 118, 68, 101, 99]⟩ : ByteArray).extract ((ji12) : Int).toNat ((wrap64 (3 * t124)) : Int).toNat)) ++ (⟨#[32]⟩ : ByteArray)) ++ t131) ++ (⟨#[32]⟩ : ByteArray)) ++ t132) ++ (⟨#[58]⟩ : ByteArray)) ++ t133) ++ (⟨#[58]⟩ : ByteArray)).size + t134.size) = False := eq_false (Nat.not_lt.2 c28)
                                        try (have c28n : (min (((wrap64 ((ji4) + 3)) : Int).toNat) 21 - (((ji4) : Int).toNat)) + 2 + t130.size + 1 + (min (((wrap64 (3 * t124)) : Int).toNat) 36 - (((ji12) : Int).toNat)) + 1 + t131.size + 1 + t132.size + 1 + t133.size + 1 + t134.size ≤ 9223372036854775807 := by have h_ := c28; simp only [ByteArray.size_append, ByteArray.size_extract] at h_; exact h_)
                                        try have c28f : (9223372036854775807 < (((wrap64 ((ji4) + 3)) : Int).toNat - ((ji4) : Int).toNat) + 2 + t130.size + 1 + (((wrap64 (3 * t124)) : Int).toNat - ((ji12) : Int).toNat) + 1 + t131.size + 1 + t132.size + 1 + t133.size + 1 + t134.size) = False := eq_false (by first | omega | (simp only [eq_iff_iff, iff_true] at *; omega))
                                        by_cases c29 : ((((((((((((((⟨#[84, 104, 117, 70, 114, 105, 83, 97, 116, 83, 117, 110, 77, 111, 110, 84, 117, 101, 87, 101, 100]⟩ : ByteArray).extract ((ji4) : Int).toNat ((wrap64 ((ji4) + 3)) : Int).toNat) ++ (⟨#[44, 32]⟩ : ByteArray)) ++ t130) ++ (⟨#[32]⟩ : ByteArray)) ++ ((⟨#[74, 97, 110, 70, 101, 98, 77, 97, 114, 65, 112, 114, 77, 97, 121, 74, 117, 110, 74, 117, 108, 65, 117, 103, 83, 101, 112, 79, 99, 116, 78, 111, 118, 68, 101, 99]⟩ : ByteArray).extract ((ji12) : Int).toNat ((wrap64 (3 * t124)) : Int).toNat)) ++ (⟨#[32]⟩ : ByteArray)) ++ t131) ++ (⟨#[32]⟩ : ByteArray)) ++ t132) ++ (⟨#[58]⟩ : ByteArray)) ++ t133) ++ (⟨#[58]⟩ : ByteArray)) ++ t134).size + 4 ≤ 9223372036854775807
                                        · rw [if_pos c29] at H
                                          have c29b0 := eq_true c29
                                          have c29b1 : decide (((((((((((((((⟨#[84, 104, 117, 70, 114, 105, 83, 97, 116, 83, 117, 110, 77, 111, 110, 84, 117, 101, 87, 101, 100]⟩ : ByteArray).extract ((ji4) : Int).toNat ((wrap64 ((ji4) + 3)) : Int).toNat) ++ (⟨#[44, 32]⟩ : ByteArray)) ++ t130) ++ (⟨#[32]⟩ : ByteArray)) ++ ((⟨#[74, 97, 110, 70, 101, 98, 77, 97, 114, 65, 112, 114, 77, 97, 121, 74, 117, 110, 74, 117, 108, 65, 117, 103, 83, 101, 112, 79, 99, 116, 78, 111, 118, 68, 101, 99]⟩ : ByteArray).extract ((ji12) : Int).toNat ((wrap64 (3 * t124)) : Int).toNat)) ++ (⟨#[32]⟩ : ByteArray)) ++ t131) ++ (⟨#[32]⟩ : ByteArray)) ++ t132) ++ (⟨#[58]⟩ : ByteArray)) ++ t133) ++ (⟨#[58]⟩ : ByteArray)) ++ t134).size + 4 ≤ 9223372036854775807) = true := decide_eq_true c29
                                          try have c29b2 : (9223372036854775807 < ((((((((((((((⟨#[84, 104, 117, 70, 114, 105, 83, 97, 116, 83, 117, 110, 77, 111, 110, 84, 117, 101, 87, 101, 100]⟩ : ByteArray).extract ((ji4) : Int).toNat ((wrap64 ((ji4) + 3)) : Int).toNat) ++ (⟨#[44, 32]⟩ : ByteArray)) ++ t130) ++ (⟨#[32]⟩ : ByteArray)) ++ ((⟨#[74, 97, 110, 70, 101, 98, 77, 97, 114, 65, 112, 114, 77, 97, 121, 74, 117, 110, 74, 117, 108, 65, 117, 103, 83, 101, 112, 79, 99, 116, 78, 111, 118, 68, 101, 99]⟩ : ByteArray).extract ((ji12) : Int).toNat ((wrap64 (3 * t124)) : Int).toNat)) ++ (⟨#[32]⟩ : ByteArray)) ++ t131) ++ (⟨#[32]⟩ : ByteArray)) ++ t132) ++ (⟨#[58]⟩ : ByteArray)) ++ t133) ++ (⟨#[58]⟩ : ByteArray)) ++ t134).size + 4) = False := eq_false (Nat.not_lt.2 c29)
                                          try (have c29n : (min (((wrap64 ((ji4) + 3)) : Int).toNat) 21 - (((ji4) : Int).toNat)) + 2 + t130.size + 1 + (min (((wrap64 (3 * t124)) : Int).toNat) 36 - (((ji12) : Int).toNat)) + 1 + t131.size + 1 + t132.size + 1 + t133.size + 1 + t134.size + 4 ≤ 9223372036854775807 := by have h_ := c29; simp only [ByteArray.size_append, ByteArray.size_extract] at h_; exact h_)
                                          try have c29f : (9223372036854775807 < (((wrap64 ((ji4) + 3)) : Int).toNat - ((ji4) : Int).toNat) + 2 + t130.size + 1 + (((wrap64 (3 * t124)) : Int).toNat - ((ji12) : Int).toNat) + 1 + t131.size + 1 + t132.size + 1 + t133.size + 1 + t134.size + 4) = False := eq_false (by first | omega | (simp only [eq_iff_iff, iff_true] at *; omega))
                                          obtain rfl := Option.some.inj H
                                          go_enter Try.func19, Try.ntmps19
                                          try go_wp2_with (first | ((with_reducible refine gate_callee (f := 9) rfl ?_); refine goesL_ (some 13) rfl rfl Try.func9 (by kernel_rfl) rfl #[.int .i64 a0] rfl (by (try simp only [List.map_toArray, List.map_cons, List.map_nil]); first | done | rfl | (simp only [List.length_drop, List.length_take]; rfl)) ?_; (with_reducible refine (when_Civil.calls k a0 t123 t124 t125 t126 t127 t128 true _ A2.out).mono ?_); rintro e w' ⟨rfl, ⟨nd, rfl⟩⟩; refine ⟨_, rfl, ?_⟩))
                                          have n0_ := Aside0.mk (HB.out)
                                          clear HB
                                          have HB := n0_
                                          clear n0_
                                          refine start_ (n := 34) (S := fun w' => True) (ds := []) #[false, false, false, false, false, false, false, false, false, false, false, false, false, false, false, false, false, false, false, false, false, false, false, false, false, false, false, false, false, false, false, false, false, false] (by kernel_rfl) rfl rfl trivial (fun hHeld => ?_); refine with_tabW when_Http.tab5 when_Http.bits5 (fun HT_ HW_ => ?_)
                                          generalize hw_ : World.drew _ = w30 at hHeld ⊢; have n0_ : Aside0 (Below w.heap.size w w30) := ⟨by rw [← hw_]; repeat (first | exact HB.out | apply below_drew1 | apply pw_below_drewN)⟩; clear HB hw_; have HB := n0_; clear n0_
                                          refine pure_ (i := 0) (N := some 27) (v := ?_) (a' := ?_) #[true, false, false, false, false, false, false, false, false, false, false, false, false, false, false, false, false, false, false, false, false, false, false, false, false, false, false, false, false, false, false, false, false, false] rfl rfl (any_of HT_.out (by kernel_rfl)) (fun _ _ _ h => h) (Or.inl ⟨by rfl, ?_⟩) ?_ ?_
                                          rotate_left
                                          · intro w'
                                            go_simp
                                            with_reducible rfl
                                          rotate_left
                                          · simp only [Act.put, List.setIfInBounds_toArray, List.set_cons_zero, List.set_cons_succ, i64_w, i32_w]
                                            rfl
                                          refine pure_ (i := 1) (N := some 28) (v := ?_) (a' := ?_) #[true, true, false, false, false, false, false, false, false, false, false, false, false, false, false, false, false, false, false, false, false, false, false, false, false, false, false, false, false, false, false, false, false, false] rfl rfl (any_of HT_.out (by kernel_rfl)) (fun _ _ _ h => h) (Or.inl ⟨by rfl, ?_⟩) ?_ ?_
                                          rotate_left
                                          · intro w'
                                            go_simp
                                            with_reducible rfl
                                          rotate_left
                                          · simp only [Act.put, List.setIfInBounds_toArray, List.set_cons_zero, List.set_cons_succ, i64_w, i32_w]
                                            rfl
                                          refine pure_ (i := 2) (N := some 29) (v := ?_) (a' := ?_) #[true, true, true, false, false, false, false, false, false, false, false, false, false, false, false, false, false, false, false, false, false, false, false, false, false, false, false, false, false, false, false, false, false, false] rfl rfl (any_of HT_.out (by kernel_rfl)) (fun _ _ _ h => h) (Or.inl ⟨by rfl, ?_⟩) ?_ ?_
                                          rotate_left
                                          · intro w'
                                            go_simp
                                            with_reducible rfl
                                          rotate_left
                                          · simp only [Act.put, List.setIfInBounds_toArray, List.set_cons_zero, List.set_cons_succ, i64_w, i32_w]
                                            rfl
                                          refine pure_ (i := 3) (N := some 30) (v := ?_) (a' := ?_) #[true, true, true, true, false, false, false, false, false, false, false, false, false, false, false, false, false, false, false, false, false, false, false, false, false, false, false, false, false, false, false, false, false, false] rfl rfl (any_of HT_.out (by kernel_rfl)) (fun _ _ _ h => h) (Or.inl ⟨by rfl, ?_⟩) ?_ ?_
                                          rotate_left
                                          · intro w'
                                            go_simp
                                            with_reducible rfl
                                          rotate_left
                                          · simp only [Act.put, List.setIfInBounds_toArray, List.set_cons_zero, List.set_cons_succ, i64_w, i32_w]
                                            rfl
                                          refine pure_ (i := 4) (N := some 31) (v := ?_) (a' := ?_) #[true, true, true, true, true, false, false, false, false, false, false, false, false, false, false, false, false, false, false, false, false, false, false, false, false, false, false, false, false, false, false, false, false, false] rfl rfl (any_of HT_.out (by kernel_rfl)) (fun _ _ _ h => h) (Or.inl ⟨by rfl, ?_⟩) ?_ ?_
                                          rotate_left
                                          · intro w'
                                            go_simp
                                            with_reducible rfl
                                          rotate_left
                                          · simp only [Act.put, List.setIfInBounds_toArray, List.set_cons_zero, List.set_cons_succ, i64_w, i32_w]
                                            rfl
                                          refine pure_ (i := 5) (N := some 32) (v := ?_) (a' := ?_) #[true, true, true, true, true, true, false, false, false, false, false, false, false, false, false, false, false, false, false, false, false, false, false, false, false, false, false, false, false, false, false, false, false, false] rfl rfl (any_of HT_.out (by kernel_rfl)) (fun _ _ _ h => h) (Or.inl ⟨by rfl, ?_⟩) ?_ ?_
                                          rotate_left
                                          · intro w'
                                            go_simp
                                            with_reducible rfl
                                          rotate_left
                                          · simp only [Act.put, List.setIfInBounds_toArray, List.set_cons_zero, List.set_cons_succ, i64_w, i32_w]
                                            rfl
                                          refine pure_ (i := 9) (N := some 36) (v := ?_) (a' := ?_) #[true, true, true, true, true, true, false, false, false, true, false, false, false, false, false, false, false, false, false, false, false, false, false, false, false, false, false, false, false, false, false, false, false, false] rfl rfl (any_of HT_.out (by kernel_rfl)) (fun _ _ _ h => h) (Or.inl ⟨by rfl, ?_⟩) ?_ ?_
                                          rotate_left
                                          · intro w'
                                            go_simp
                                            with_reducible rfl
                                          rotate_left
                                          · simp only [Act.put, List.setIfInBounds_toArray, List.set_cons_zero, List.set_cons_succ, i64_w, i32_w]
                                            rfl
                                          refine pure_ (i := 10) (N := some 37) (v := ?_) (a' := ?_) #[true, true, true, true, true, true, false, false, false, true, true, false, false, false, false, false, false, false, false, false, false, false, false, false, false, false, false, false, false, false, false, false, false, false] rfl rfl (any_of HT_.out (by kernel_rfl)) (fun _ _ _ h => h) (Or.inl ⟨by rfl, ?_⟩) ?_ ?_
                                          rotate_left
                                          · intro w'
                                            go_simp
                                            with_reducible rfl
                                          rotate_left
                                          · simp only [Act.put, List.setIfInBounds_toArray, List.set_cons_zero, List.set_cons_succ, i64_w, i32_w]
                                            rfl
                                          refine pure_ (i := 11) (N := some 38) (v := ?_) (a' := ?_) #[true, true, true, true, true, true, false, false, false, true, true, true, false, false, false, false, false, false, false, false, false, false, false, false, false, false, false, false, false, false, false, false, false, false] rfl rfl (any_of HT_.out (by kernel_rfl)) (fun _ _ _ h => h) (Or.inl ⟨by rfl, ?_⟩) ?_ ?_
                                          rotate_left
                                          · intro w'
                                            go_simp
                                            with_reducible rfl
                                          rotate_left
                                          · simp only [Act.put, List.setIfInBounds_toArray, List.set_cons_zero, List.set_cons_succ, i64_w, i32_w]
                                            rfl
                                          refine pure_ (i := 12) (N := some 39) (v := ?_) (a' := ?_) #[true, true, true, true, true, true, false, false, false, true, true, true, true, false, false, false, false, false, false, false, false, false, false, false, false, false, false, false, false, false, false, false, false, false] rfl rfl (any_of HT_.out (by kernel_rfl)) (fun _ _ _ h => h) (Or.inl ⟨by rfl, ?_⟩) ?_ ?_
                                          rotate_left
                                          · intro w'
                                            go_simp
                                            with_reducible rfl
                                          rotate_left
                                          · simp only [Act.put, List.setIfInBounds_toArray, List.set_cons_zero, List.set_cons_succ, i64_w, i32_w]
                                            rfl
                                          refine pure_ (i := 13) (N := some 40) (v := ?_) (a' := ?_) #[true, true, true, true, true, true, false, false, false, true, true, true, true, true, false, false, false, false, false, false, false, false, false, false, false, false, false, false, false, false, false, false, false, false] rfl rfl (any_of HT_.out (by kernel_rfl)) (fun _ _ _ h => h) (Or.inl ⟨by rfl, ?_⟩) ?_ ?_
                                          rotate_left
                                          · intro w'
                                            go_simp
                                            with_reducible rfl
                                          rotate_left
                                          · simp only [Act.put, List.setIfInBounds_toArray, List.set_cons_zero, List.set_cons_succ, i64_w, i32_w]
                                            rfl
                                          refine pure_ (i := 14) (N := some 41) (v := ?_) (a' := ?_) #[true, true, true, true, true, true, false, false, false, true, true, true, true, true, true, false, false, false, false, false, false, false, false, false, false, false, false, false, false, false, false, false, false, false] rfl rfl (any_of HT_.out (by kernel_rfl)) (fun _ _ _ h => h) (Or.inl ⟨by rfl, ?_⟩) ?_ ?_
                                          rotate_left
                                          · intro w'
                                            go_simp
                                            with_reducible rfl
                                          rotate_left
                                          · simp only [Act.put, List.setIfInBounds_toArray, List.set_cons_zero, List.set_cons_succ, i64_w, i32_w]
                                            rfl
                                          refine pure_ (i := 17) (N := some 44) (v := ?_) (a' := ?_) #[true, true, true, true, true, true, false, false, false, true, true, true, true, true, true, false, false, true, false, false, false, false, false, false, false, false, false, false, false, false, false, false, false, false] rfl rfl (any_of HT_.out (by kernel_rfl)) (fun _ _ _ h => h) (Or.inl ⟨by rfl, ?_⟩) ?_ ?_
                                          rotate_left
                                          · intro w'
                                            go_simp
                                            with_reducible rfl
                                          rotate_left
                                          · simp only [Act.put, List.setIfInBounds_toArray, List.set_cons_zero, List.set_cons_succ, i64_w, i32_w]
                                            rfl
                                          refine pure_ (i := 21) (N := some 48) (v := ?_) (a' := ?_) #[true, true, true, true, true, true, false, false, false, true, true, true, true, true, true, false, false, true, false, false, false, true, false, false, false, false, false, false, false, false, false, false, false, false] rfl rfl (any_of HT_.out (by kernel_rfl)) (fun _ _ _ h => h) (Or.inl ⟨by rfl, ?_⟩) ?_ ?_
                                          rotate_left
                                          · intro w'
                                            go_simp
                                            with_reducible rfl
                                          rotate_left
                                          · simp only [Act.put, List.setIfInBounds_toArray, List.set_cons_zero, List.set_cons_succ, i64_w, i32_w]
                                            rfl
                                          refine pure_ (i := 25) (N := some 52) (v := ?_) (a' := ?_) #[true, true, true, true, true, true, false, false, false, true, true, true, true, true, true, false, false, true, false, false, false, true, false, false, false, true, false, false, false, false, false, false, false, false] rfl rfl (any_of HT_.out (by kernel_rfl)) (fun _ _ _ h => h) (Or.inl ⟨by rfl, ?_⟩) ?_ ?_
                                          rotate_left
                                          · intro w'
                                            go_simp
                                            with_reducible rfl
                                          rotate_left
                                          · simp only [Act.put, List.setIfInBounds_toArray, List.set_cons_zero, List.set_cons_succ, i64_w, i32_w]
                                            rfl
                                          refine pure_ (i := 29) (N := some 56) (v := ?_) (a' := ?_) #[true, true, true, true, true, true, false, false, false, true, true, true, true, true, true, false, false, true, false, false, false, true, false, false, false, true, false, false, false, true, false, false, false, false] rfl rfl (any_of HT_.out (by kernel_rfl)) (fun _ _ _ h => h) (Or.inl ⟨by rfl, ?_⟩) ?_ ?_
                                          rotate_left
                                          · intro w'
                                            go_simp
                                            with_reducible rfl
                                          rotate_left
                                          · simp only [Act.put, List.setIfInBounds_toArray, List.set_cons_zero, List.set_cons_succ, i64_w, i32_w]
                                            rfl
                                          refine one_ (i := 6) (N := some 33) #[true, true, true, true, true, true, true, false, false, true, true, true, true, true, true, false, false, true, false, false, false, true, false, false, false, true, false, false, false, true, false, false, false, false] rfl rfl (one_of HT_.out (by kernel_rfl)) (by decide) (fun K hK => ?_)
                                          refine goes_ Try.func33 (by kernel_rfl) rfl #[.int .i64 t125, .int .i64 2] (by rfl) rfl rfl (by (try simp only [List.map_toArray, List.map_cons, List.map_nil]); first | done | rfl | (simp only [List.length_drop, List.length_take]; rfl)) ?_
                                          with_reducible refine (when_put.calls k t125 2 t130 _ A9.out).mono ?_
                                          rintro e w31 ⟨rfl, hb⟩
                                          refine ⟨_, rfl, ?_⟩
                                          have n0_ := Aside0.mk (below_step (by repeat (first | (with_reducible first | exact HB.out | apply below_alloc | apply pw_below_drewN | apply below_drew1) | exact HB.out)) hb)
                                          clear HB
                                          have HB := n0_
                                          clear n0_
                                          (try clear hb)
                                          (try clear hb2)
                                          (try clear hk)
                                          (try clear hi)
                                          refine hK.out _ _ trivial (fun hHeld => ?_)
                                          clear hK K
                                          refine norm_ (a' := ?_) ?_ ?_
                                          rotate_left
                                          · show Act.put _ (some 33) _ = _
                                            simp only [Act.put, List.setIfInBounds_toArray, List.set_cons_zero, List.set_cons_succ, i64_w, i32_w]
                                            rfl
                                          refine pure_ (i := 7) (N := some 34) (v := ?_) (a' := ?_) #[true, true, true, true, true, true, true, true, false, true, true, true, true, true, true, false, false, true, false, false, false, true, false, false, false, true, false, false, false, true, false, false, false, false] rfl rfl (any_of HT_.out (by kernel_rfl)) (fun _ _ _ h => h) (Or.inl ⟨by rfl, ?_⟩) ?_ ?_
                                          rotate_left
                                          · intro w'
                                            go_simp
                                            with_reducible rfl
                                          rotate_left
                                          · simp only [Act.put, List.setIfInBounds_toArray, List.set_cons_zero, List.set_cons_succ, i64_w, i32_w]
                                            rfl
                                          refine pure_ (i := 8) (N := some 35) (v := ?_) (a' := ?_) #[true, true, true, true, true, true, true, true, true, true, true, true, true, true, true, false, false, true, false, false, false, true, false, false, false, true, false, false, false, true, false, false, false, false] rfl rfl (any_of HT_.out (by kernel_rfl)) (fun _ _ _ h => h) (Or.inl ⟨by rfl, ?_⟩) ?_ ?_
                                          rotate_left
                                          · intro w'
                                            go_simp
                                            with_reducible rfl
                                          rotate_left
                                          · simp only [Act.put, List.setIfInBounds_toArray, List.set_cons_zero, List.set_cons_succ, i64_w, i32_w]
                                            rfl
                                          refine pure_ (i := 15) (N := some 42) (v := ?_) (a' := ?_) #[true, true, true, true, true, true, true, true, true, true, true, true, true, true, true, true, false, true, false, false, false, true, false, false, false, true, false, false, false, true, false, false, false, false] rfl rfl (any_of HT_.out (by kernel_rfl)) (fun _ _ _ h => h) (Or.inl ⟨by rfl, ?_⟩) ?_ ?_
                                          rotate_left
                                          · intro w'
                                            go_simp
                                            with_reducible rfl
                                          rotate_left
                                          · simp only [Act.put, List.setIfInBounds_toArray, List.set_cons_zero, List.set_cons_succ, i64_w, i32_w]
                                            rfl
                                          refine pure_ (i := 16) (N := some 43) (v := ?_) (a' := ?_) #[true, true, true, true, true, true, true, true, true, true, true, true, true, true, true, true, true, true, false, false, false, true, false, false, false, true, false, false, false, true, false, false, false, false] rfl rfl (any_of HT_.out (by kernel_rfl)) (fun _ _ _ h => h) (Or.inl ⟨by rfl, ?_⟩) ?_ ?_
                                          rotate_left
                                          · intro w'
                                            go_simp
                                            with_reducible rfl
                                          rotate_left
                                          · simp only [Act.put, List.setIfInBounds_toArray, List.set_cons_zero, List.set_cons_succ, i64_w, i32_w]
                                            rfl
                                          refine one_ (i := 18) (N := some 45) #[true, true, true, true, true, true, true, true, true, true, true, true, true, true, true, true, true, true, true, false, false, true, false, false, false, true, false, false, false, true, false, false, false, false] rfl rfl (one_of HT_.out (by kernel_rfl)) (by decide) (fun K hK => ?_)
                                          refine goes_ Try.func33 (by kernel_rfl) rfl #[.int .i64 t123, .int .i64 4] (by rfl) rfl rfl (by (try simp only [List.map_toArray, List.map_cons, List.map_nil]); first | done | rfl | (simp only [List.length_drop, List.length_take]; rfl)) ?_
                                          with_reducible refine (when_put.calls k t123 4 t131 _ A18.out).mono ?_
                                          rintro e w32 ⟨rfl, hb⟩
                                          refine ⟨_, rfl, ?_⟩
                                          have n0_ := Aside0.mk (below_step (by repeat (first | (with_reducible first | exact HB.out | apply below_alloc | apply pw_below_drewN | apply below_drew1) | exact HB.out)) hb)
                                          clear HB
                                          have HB := n0_
                                          clear n0_
                                          (try clear hb)
                                          (try clear hb2)
                                          (try clear hk)
                                          (try clear hi)
                                          refine hK.out _ _ trivial (fun hHeld => ?_)
                                          clear hK K
                                          refine norm_ (a' := ?_) ?_ ?_
                                          rotate_left
                                          · show Act.put _ (some 45) _ = _
                                            simp only [Act.put, List.setIfInBounds_toArray, List.set_cons_zero, List.set_cons_succ, i64_w, i32_w]
                                            rfl
                                          refine pure_ (i := 19) (N := some 46) (v := ?_) (a' := ?_) #[true, true, true, true, true, true, true, true, true, true, true, true, true, true, true, true, true, true, true, true, false, true, false, false, false, true, false, false, false, true, false, false, false, false] rfl rfl (any_of HT_.out (by kernel_rfl)) (fun _ _ _ h => h) (Or.inl ⟨by rfl, ?_⟩) ?_ ?_
                                          rotate_left
                                          · intro w'
                                            go_simp
                                            with_reducible rfl
                                          rotate_left
                                          · simp only [Act.put, List.setIfInBounds_toArray, List.set_cons_zero, List.set_cons_succ, i64_w, i32_w]
                                            rfl
                                          refine pure_ (i := 20) (N := some 47) (v := ?_) (a' := ?_) #[true, true, true, true, true, true, true, true, true, true, true, true, true, true, true, true, true, true, true, true, true, true, false, false, false, true, false, false, false, true, false, false, false, false] rfl rfl (any_of HT_.out (by kernel_rfl)) (fun _ _ _ h => h) (Or.inl ⟨by rfl, ?_⟩) ?_ ?_
                                          rotate_left
                                          · intro w'
                                            go_simp
                                            with_reducible rfl
                                          rotate_left
                                          · simp only [Act.put, List.setIfInBounds_toArray, List.set_cons_zero, List.set_cons_succ, i64_w, i32_w]
                                            rfl
                                          refine one_ (i := 22) (N := some 49) #[true, true, true, true, true, true, true, true, true, true, true, true, true, true, true, true, true, true, true, true, true, true, true, false, false, true, false, false, false, true, false, false, false, false] rfl rfl (one_of HT_.out (by kernel_rfl)) (by decide) (fun K hK => ?_)
                                          refine goes_ Try.func33 (by kernel_rfl) rfl #[.int .i64 t126, .int .i64 2] (by rfl) rfl rfl (by (try simp only [List.map_toArray, List.map_cons, List.map_nil]); first | done | rfl | (simp only [List.length_drop, List.length_take]; rfl)) ?_
                                          with_reducible refine (when_put.calls k t126 2 t132 _ A21.out).mono ?_
                                          rintro e w33 ⟨rfl, hb⟩
                                          refine ⟨_, rfl, ?_⟩
                                          have n0_ := Aside0.mk (below_step (by repeat (first | (with_reducible first | exact HB.out | apply below_alloc | apply pw_below_drewN | apply below_drew1) | exact HB.out)) hb)
                                          clear HB
                                          have HB := n0_
                                          clear n0_
                                          (try clear hb)
                                          (try clear hb2)
                                          (try clear hk)
                                          (try clear hi)
                                          refine hK.out _ _ trivial (fun hHeld => ?_)
                                          clear hK K
                                          refine norm_ (a' := ?_) ?_ ?_
                                          rotate_left
                                          · show Act.put _ (some 49) _ = _
                                            simp only [Act.put, List.setIfInBounds_toArray, List.set_cons_zero, List.set_cons_succ, i64_w, i32_w]
                                            rfl
                                          refine pure_ (i := 23) (N := some 50) (v := ?_) (a' := ?_) #[true, true, true, true, true, true, true, true, true, true, true, true, true, true, true, true, true, true, true, true, true, true, true, true, false, true, false, false, false, true, false, false, false, false] rfl rfl (any_of HT_.out (by kernel_rfl)) (fun _ _ _ h => h) (Or.inl ⟨by rfl, ?_⟩) ?_ ?_
                                          rotate_left
                                          · intro w'
                                            go_simp
                                            with_reducible rfl
                                          rotate_left
                                          · simp only [Act.put, List.setIfInBounds_toArray, List.set_cons_zero, List.set_cons_succ, i64_w, i32_w]
                                            rfl
                                          refine pure_ (i := 24) (N := some 51) (v := ?_) (a' := ?_) #[true, true, true, true, true, true, true, true, true, true, true, true, true, true, true, true, true, true, true, true, true, true, true, true, true, true, false, false, false, true, false, false, false, false] rfl rfl (any_of HT_.out (by kernel_rfl)) (fun _ _ _ h => h) (Or.inl ⟨by rfl, ?_⟩) ?_ ?_
                                          rotate_left
                                          · intro w'
                                            go_simp
                                            with_reducible rfl
                                          rotate_left
                                          · simp only [Act.put, List.setIfInBounds_toArray, List.set_cons_zero, List.set_cons_succ, i64_w, i32_w]
                                            rfl
                                          refine one_ (i := 26) (N := some 53) #[true, true, true, true, true, true, true, true, true, true, true, true, true, true, true, true, true, true, true, true, true, true, true, true, true, true, true, false, false, true, false, false, false, false] rfl rfl (one_of HT_.out (by kernel_rfl)) (by decide) (fun K hK => ?_)
                                          refine goes_ Try.func33 (by kernel_rfl) rfl #[.int .i64 t127, .int .i64 2] (by rfl) rfl rfl (by (try simp only [List.map_toArray, List.map_cons, List.map_nil]); first | done | rfl | (simp only [List.length_drop, List.length_take]; rfl)) ?_
                                          with_reducible refine (when_put.calls k t127 2 t133 _ A24.out).mono ?_
                                          rintro e w34 ⟨rfl, hb⟩
                                          refine ⟨_, rfl, ?_⟩
                                          have n0_ := Aside0.mk (below_step (by repeat (first | (with_reducible first | exact HB.out | apply below_alloc | apply pw_below_drewN | apply below_drew1) | exact HB.out)) hb)
                                          clear HB
                                          have HB := n0_
                                          clear n0_
                                          (try clear hb)
                                          (try clear hb2)
                                          (try clear hk)
                                          (try clear hi)
                                          refine hK.out _ _ trivial (fun hHeld => ?_)
                                          clear hK K
                                          refine norm_ (a' := ?_) ?_ ?_
                                          rotate_left
                                          · show Act.put _ (some 53) _ = _
                                            simp only [Act.put, List.setIfInBounds_toArray, List.set_cons_zero, List.set_cons_succ, i64_w, i32_w]
                                            rfl
                                          refine pure_ (i := 27) (N := some 54) (v := ?_) (a' := ?_) #[true, true, true, true, true, true, true, true, true, true, true, true, true, true, true, true, true, true, true, true, true, true, true, true, true, true, true, true, false, true, false, false, false, false] rfl rfl (any_of HT_.out (by kernel_rfl)) (fun _ _ _ h => h) (Or.inl ⟨by rfl, ?_⟩) ?_ ?_
                                          rotate_left
                                          · intro w'
                                            go_simp
                                            with_reducible rfl
                                          rotate_left
                                          · simp only [Act.put, List.setIfInBounds_toArray, List.set_cons_zero, List.set_cons_succ, i64_w, i32_w]
                                            rfl
                                          refine pure_ (i := 28) (N := some 55) (v := ?_) (a' := ?_) #[true, true, true, true, true, true, true, true, true, true, true, true, true, true, true, true, true, true, true, true, true, true, true, true, true, true, true, true, true, true, false, false, false, false] rfl rfl (any_of HT_.out (by kernel_rfl)) (fun _ _ _ h => h) (Or.inl ⟨by rfl, ?_⟩) ?_ ?_
                                          rotate_left
                                          · intro w'
                                            go_simp
                                            with_reducible rfl
                                          rotate_left
                                          · simp only [Act.put, List.setIfInBounds_toArray, List.set_cons_zero, List.set_cons_succ, i64_w, i32_w]
                                            rfl
                                          refine one_ (i := 30) (N := some 57) #[true, true, true, true, true, true, true, true, true, true, true, true, true, true, true, true, true, true, true, true, true, true, true, true, true, true, true, true, true, true, true, false, false, false] rfl rfl (one_of HT_.out (by kernel_rfl)) (by decide) (fun K hK => ?_)
                                          refine goes_ Try.func33 (by kernel_rfl) rfl #[.int .i64 t128, .int .i64 2] (by rfl) rfl rfl (by (try simp only [List.map_toArray, List.map_cons, List.map_nil]); first | done | rfl | (simp only [List.length_drop, List.length_take]; rfl)) ?_
                                          with_reducible refine (when_put.calls k t128 2 t134 _ A27.out).mono ?_
                                          rintro e w35 ⟨rfl, hb⟩
                                          refine ⟨_, rfl, ?_⟩
                                          have n0_ := Aside0.mk (below_step (by repeat (first | (with_reducible first | exact HB.out | apply below_alloc | apply pw_below_drewN | apply below_drew1) | exact HB.out)) hb)
                                          clear HB
                                          have HB := n0_
                                          clear n0_
                                          (try clear hb)
                                          (try clear hb2)
                                          (try clear hk)
                                          (try clear hi)
                                          refine hK.out _ _ trivial (fun hHeld => ?_)
                                          clear hK K
                                          refine norm_ (a' := ?_) ?_ ?_
                                          rotate_left
                                          · show Act.put _ (some 57) _ = _
                                            simp only [Act.put, List.setIfInBounds_toArray, List.set_cons_zero, List.set_cons_succ, i64_w, i32_w]
                                            rfl
                                          refine pure_ (i := 31) (N := some 58) (v := ?_) (a' := ?_) #[true, true, true, true, true, true, true, true, true, true, true, true, true, true, true, true, true, true, true, true, true, true, true, true, true, true, true, true, true, true, true, true, false, false] rfl rfl (any_of HT_.out (by kernel_rfl)) (fun _ _ _ h => h) (Or.inl ⟨by rfl, ?_⟩) ?_ ?_
                                          rotate_left
                                          · intro w'
                                            go_simp
                                            with_reducible rfl
                                          rotate_left
                                          · simp only [Act.put, List.setIfInBounds_toArray, List.set_cons_zero, List.set_cons_succ, i64_w, i32_w]
                                            rfl
                                          refine pure_ (i := 32) (N := some 59) (v := ?_) (a' := ?_) #[true, true, true, true, true, true, true, true, true, true, true, true, true, true, true, true, true, true, true, true, true, true, true, true, true, true, true, true, true, true, true, true, true, false] rfl rfl (any_of HT_.out (by kernel_rfl)) (fun _ _ _ h => h) (Or.inl ⟨by rfl, ?_⟩) ?_ ?_
                                          rotate_left
                                          · intro w'
                                            go_simp
                                            with_reducible rfl
                                          rotate_left
                                          · simp only [Act.put, List.setIfInBounds_toArray, List.set_cons_zero, List.set_cons_succ, i64_w, i32_w]
                                            rfl
                                          refine pure_ (i := 33) (N := some 2) (v := ?_) (a' := ?_) #[true, true, true, true, true, true, true, true, true, true, true, true, true, true, true, true, true, true, true, true, true, true, true, true, true, true, true, true, true, true, true, true, true, true] rfl rfl (any_of HT_.out (by kernel_rfl)) (fun _ _ _ h => h) (Or.inl ⟨by rfl, ?_⟩) ?_ ?_
                                          rotate_left
                                          · intro w'
                                            go_simp
                                            with_reducible rfl
                                          rotate_left
                                          · simp only [Act.put, List.setIfInBounds_toArray, List.set_cons_zero, List.set_cons_succ, i64_w, i32_w]
                                            rfl
                                          refine done_ (done_of HT_.out (by kernel_rfl)) ?_
                                          try go_wp2
                                          go_ret
                                          exact ⟨by first | rfl | (simp [errW_none, errW_some] <;> rfl) | (simp only [← hji4, ← hji12]; first | rfl | (simp [errW_none, errW_some] <;> rfl)) | (simp [*, errW_none, errW_some] <;> rfl), by repeat (first | (with_reducible first | exact HB.out | apply below_alloc | apply pw_below_drewN | apply below_drew1) | exact HB.out)⟩
                                        · rw [if_neg c29] at H
                                          exact absurd H (by simp)
                                      · rw [if_neg c28] at H
                                        exact absurd H (by simp)
                                    · rw [if_neg c26] at H
                                      exact absurd H (by simp)
                                  · rw [if_neg c25] at H
                                    exact absurd H (by simp)
                                · rw [if_neg c23] at H
                                  exact absurd H (by simp)
                              · rw [if_neg c22] at H
                                exact absurd H (by simp)
                            · rw [if_neg c20] at H
                              exact absurd H (by simp)
                          · rw [if_neg c19] at H
                            exact absurd H (by simp)
                        · rw [if_neg c17] at H
                          exact absurd H (by simp)
                      · rw [if_neg c16] at H
                        exact absurd H (by simp)
                    · rw [if_neg c15] at H
                      exact absurd H (by simp)
                  · rw [if_neg c14] at H
                    exact absurd H (by simp)
                · rw [if_neg c13] at H
                  exact absurd H (by simp)
              · rw [if_neg c11] at H
                exact absurd H (by simp)
            · rw [if_neg c10] at H
              exact absurd H (by simp)
          · rw [if_neg c8] at H
            exact absurd H (by simp)
        · rw [if_neg c7] at H
          exact absurd H (by simp)
      · rw [if_neg c6] at H
        exact absurd H (by simp)
    · rw [if_neg c5] at H
      exact absurd H (by simp)
  · replace c3 := Bool.eq_false_iff.mpr c3
    subst c3
    have H1 : (some (⟨#[]⟩ : ByteArray)) = some r := by rw [if_neg (show ¬ (false = true) by decide)] at H; exact H
    clear H
    have H := H1
    clear H1
    obtain rfl := Option.some.inj H
    go_enter Try.func19, Try.ntmps19
    go_wp2_with (first | ((with_reducible refine gate_callee (f := 9) rfl ?_); refine goesL_ (some 13) rfl rfl Try.func9 (by kernel_rfl) rfl #[.int .i64 a0] rfl (by (try simp only [List.map_toArray, List.map_cons, List.map_nil]); first | done | rfl | (simp only [List.length_drop, List.length_take]; rfl)) ?_; (with_reducible refine (when_Civil.calls k a0 t123 t124 t125 t126 t127 t128 false _ A2.out).mono ?_); rintro e w' ⟨rfl, ⟨nd, rfl⟩⟩; refine ⟨_, rfl, ?_⟩))
    go_ret
    exact ⟨by first | rfl | (simp [errW_none, errW_some] <;> rfl) | (simp [*, errW_none, errW_some] <;> rfl), by repeat (first | (with_reducible first | exact HB.out | apply below_alloc | apply pw_below_drewN | apply below_drew1) | exact HB.out)⟩

end Go.Proofs.Yteggifhicmbopaa.Q
