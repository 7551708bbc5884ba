/- A part of the proof of the seat's laws. No condition beyond those in the theorems. -/
import Derived.Test.YteggifhicmbopaaZWhenCal
import Derived.Test.YteggifhicmbopaaZQ15

namespace Go.Proofs.Yteggifhicmbopaa.Pure
open Go.RowKit Go.Proofs.Yteggifhicmbopaa.Q Go.Proofs.YteggifhicmbopaaW.PrintWords Go.Proofs.YteggifhicmbopaaW.PrintLast Cal
set_option linter.unusedVariables false
set_option linter.unusedSimpArgs false
theorem ev_pos {α : Type} {c : Prop} [Decidable c] {f g : Nat → Option α} {r : α} (hc : c) (h : Ev f r) : Ev (fun k => if c then f k else g k) r :=
  Ev.congr (fun _ => if_pos hc) h
theorem ev_neg {α : Type} {c : Prop} [Decidable c] {f g : Nat → Option α} {r : α} (hc : ¬ c) (h : Ev g r) : Ev (fun k => if c then f k else g k) r :=
  Ev.congr (fun _ => if_neg hc) h
theorem ev_eq {α : Type} {g : Nat → Option α} {r r' : α} (h : Ev g r) (e : r = r') : Ev g r' := e ▸ h
theorem w64 {n : Int} (h : -9000000000000000000 ≤ n) (h' : n ≤ 9000000000000000000) : wrap64 n = n := by unfold wrap64; omega
theorem tdiv_pos {a b : Int} (h : 0 ≤ a) : Int.tdiv a b = a / b := Int.tdiv_eq_ediv_of_nonneg h
theorem tmod_pos {a b : Int} (h : 0 ≤ a) : Int.tmod a b = a % b := Int.tmod_eq_emod_of_nonneg h
theorem is_eq (t : Int) : when_is.f t = some (decide (0 ≤ t ∧ t ≤ 253402300799)) := by
  unfold when_is.f
  by_cases h : t ≥ 0
  · rw [if_pos h]; simp [h]
  · rw [if_neg h]; simp; intro h2; omega
theorem size_ev (y m : Int) (hy : 0 ≤ y) : Ev (fun k => when_size.f k y m) (size y m) := by
  have hj : ∀ b : Bool, Ev (fun k => when_size.j0 k y m b) (if b = true then 30 else if m = 11 then 30 else if m = 2 then 28 + L y else 31) := by
    intro b
    refine Ev.step (f := fun _ => some _) (fun k => ?_) (Ev.now _)
    simp only [when_size.j0]
    cases b with
    | true => rfl
    | false =>
      simp only [Bool.false_eq_true, if_false]
      split
      · rfl
      · split
        · rw [tmod_pos hy, tmod_pos hy, tmod_pos hy]
          cases hl : leap y with
          | true =>
            rw [L_leap hl]
            rw [leap_iff] at hl
            rw [if_pos hl.1]
            split
            · rw [if_pos (by omega)]; rfl
            · rfl
          | false =>
            rw [L_not hl]
            have hl' : ¬ (y % 4 = 0 ∧ (¬ y % 100 = 0 ∨ y % 400 = 0)) := by rw [← leap_iff, hl]; simp
            split
            · rw [if_pos (by omega), if_neg (by omega)]; rfl
            · rfl
        · rfl
  simp only [when_size.f]
  by_cases h4 : m = 4
  · refine ev_pos h4 (ev_eq (hj _) ?_)
    subst h4; simp [size]
  · refine ev_neg h4 ?_
    by_cases h6 : m = 6
    · refine ev_pos h6 (ev_eq (hj _) ?_)
      subst h6; simp [size]
    · refine ev_neg h6 (ev_eq (hj _) ?_)
      by_cases h9 : m = 9
      · subst h9; simp [size]
      · simp only [size, beq_iff_eq, h9, h4, h6, if_false, false_or]
theorem before_eq (y : Int) (h0 : 1 ≤ y) (h1 : y ≤ 10001) : when_before.f y = some (dby y) := by
  unfold when_before.f dby
  have e : wrap64 (y - 1) = y - 1 := w64 (by omega) (by omega)
  rw [e, tdiv_pos (by omega), tdiv_pos (by omega), tdiv_pos (by omega)]
  rw [w64 (n := (y - 1) * 365) (by omega) (by omega), w64 (n := (y - 1) / 4) (by omega) (by omega), w64 (n := (y - 1) / 100) (by omega) (by omega), w64 (n := (y - 1) / 400) (by omega) (by omega)]
  rw [w64 (n := (y - 1) * 365 + (y - 1) / 4) (by omega) (by omega), w64 (n := (y - 1) * 365 + (y - 1) / 4 - (y - 1) / 100) (by omega) (by omega), w64 (n := (y - 1) * 365 + (y - 1) / 4 - (y - 1) / 100 + (y - 1) / 400) (by omega) (by omega), w64 (by omega) (by omega)]
theorem hour_eq (t : Int) (h0 : 0 ≤ t) (h1 : t ≤ 253402300799) : Int.tmod (wrap64 (Int.tdiv t 3600)) 24 = t / 3600 % 24 := by
  rw [tdiv_pos h0, w64 (by omega) (by omega), tmod_pos (by omega)]
theorem min_eq (t : Int) (h0 : 0 ≤ t) (h1 : t ≤ 253402300799) : Int.tmod (wrap64 (Int.tdiv t 60)) 60 = t / 60 % 60 := by
  rw [tdiv_pos h0, w64 (by omega) (by omega), tmod_pos (by omega)]
theorem civil_l1 (x y : Int) (hy0 : 1970 ≤ y) (hy1 : y ≤ 9999) (j : Nat) : ∀ (m n : Int), 1 ≤ m → m + j = 12 → 0 ≤ n → cum y m + n < 365 + L y →
    ∃ m' d', Valid y m' d' (dby y + cum y m + n) ∧ Ev (fun k => when_Civil.l1 k x y m n) (y, m', d', Int.tmod (wrap64 (Int.tdiv x 3600)) 24, Int.tmod (wrap64 (Int.tdiv x 60)) 60, Int.tmod x 60, true) := by
  induction j with
  | zero =>
    intro m n h1 hj hn hb
    have hm : m = 12 := by omega
    have hs := size_bd y m
    have hc := cum_succ y m h1 (by omega)
    subst hm
    rw [show (12 : Int) + 1 = 13 from rfl, cum_end] at hc
    refine ⟨12, n + 1, ⟨hy0, hy1, by omega, by omega, by omega, by omega, by omega⟩, ?_⟩
    refine Ev.step (f := fun k => _) (fun k => by rw [when_Civil.l1]) ?_
    refine Ev.bind (size_ev y 12 (by omega)) ?_
    refine ev_neg (by omega) (ev_eq (Ev.now _) ?_)
    rw [w64 (by omega) (by omega)]
  | succ j ih =>
    intro m n h1 hj hn hb
    have hs := size_bd y m
    have hc := cum_succ y m h1 (by omega)
    by_cases c : n ≥ size y m
    · obtain ⟨m', d', hv, he⟩ := ih (m + 1) (n - size y m) (by omega) (by omega) (by omega) (by omega)
      refine ⟨m', d', by rw [show dby y + cum y m + n = dby y + cum y (m + 1) + (n - size y m) by omega]; exact hv, ?_⟩
      refine Ev.step (f := fun k => _) (fun k => by rw [when_Civil.l1]) ?_
      refine Ev.bind (size_ev y m (by omega)) ?_
      refine ev_pos c ?_
      refine Ev.bind (size_ev y m (by omega)) ?_
      have hL := L_two y
      have hcb := cum_bd y m h1 (by omega)
      rw [w64 (n := m + 1) (by omega) (by omega), w64 (n := n - size y m) (by omega) (by omega)]
      exact he
    · refine ⟨m, n + 1, ⟨hy0, hy1, by omega, by omega, by omega, by omega, by omega⟩, ?_⟩
      refine Ev.step (f := fun k => _) (fun k => by rw [when_Civil.l1]) ?_
      refine Ev.bind (size_ev y m (by omega)) ?_
      refine ev_neg (by omega) (ev_eq (Ev.now _) ?_)
      rw [w64 (by omega) (by omega)]
theorem civil_l0 (x n : Int) (hn : n < dby 10000) (j : Nat) : ∀ y : Int, 1970 ≤ y → y + j = 9999 → dby y ≤ n →
    ∃ y' m' d', Valid y' m' d' n ∧ Ev (fun k => when_Civil.l0 k x y n) (y', m', d', Int.tmod (wrap64 (Int.tdiv x 3600)) 24, Int.tmod (wrap64 (Int.tdiv x 60)) 60, Int.tmod x 60, true) := by
  have fin : ∀ y : Int, 1970 ≤ y → y ≤ 9999 → dby y ≤ n → n < dby (y + 1) → ∃ y' m' d', Valid y' m' d' n ∧ Ev (fun k => when_Civil.l0 k x y n) (y', m', d', Int.tmod (wrap64 (Int.tdiv x 3600)) 24, Int.tmod (wrap64 (Int.tdiv x 60)) 60, Int.tmod x 60, true) := by
    intro y h0 h1 h2 h3
    have hd := dby_succ y
    obtain ⟨m', d', hv, he⟩ := civil_l1 x y h0 h1 11 1 (n - dby y) (by omega) (by omega) (by omega) (by rw [cum_one]; omega)
    rw [cum_one, show dby y + 0 + (n - dby y) = n by omega] at hv
    refine ⟨y, m', d', hv, ?_⟩
    refine Ev.step (f := fun k => _) (fun k => by rw [when_Civil.l0]) ?_
    rw [w64 (n := y + 1) (by omega) (by omega), before_eq (y + 1) (by omega) (by omega)]
    refine ev_neg (by omega) ?_
    rw [before_eq y (by omega) (by omega)]
    show Ev (fun k => when_Civil.l1 k x y 1 (wrap64 (n - dby y))) _
    have := L_two y
    rw [w64 (n := n - dby y) (by omega) (by omega)]
    exact he
  induction j with
  | zero =>
    intro y h0 hj h2
    obtain rfl : y = 9999 := by omega
    exact fin 9999 (by omega) (by omega) h2 hn
  | succ j ih =>
    intro y h0 hj h2
    by_cases c : dby (y + 1) ≤ n
    · obtain ⟨y', m', d', hv, he⟩ := ih (y + 1) (by omega) (by omega) c
      refine ⟨y', m', d', hv, ?_⟩
      refine Ev.step (f := fun k => _) (fun k => by rw [when_Civil.l0]) ?_
      rw [w64 (n := y + 1) (by omega) (by omega), before_eq (y + 1) (by omega) (by omega)]
      exact ev_pos c he
    · exact fin y h0 (by omega) h2 (by omega)
theorem dby_guess (q : Nat) : dby (1970 + q) ≤ 366 * q := by
  induction q with
  | zero => decide
  | succ q ih =>
    have hs := dby_succ (1970 + q)
    have := L_two (1970 + q)
    rw [show (1970 : Int) + ((q + 1 : Nat) : Int) = 1970 + q + 1 by omega]; omega
theorem civil_ev (t : Int) (h0 : 0 ≤ t) (h1 : t ≤ 253402300799) : ∃ y m d, Valid y m d (t / 86400) ∧ Ev (fun k => when_Civil.f k t) (y, m, d, t / 3600 % 24, t / 60 % 60, t % 60, true) := by
  have hg := dby_guess (t / 86400 / 366).toNat
  rw [show (((t / 86400 / 366).toNat : Nat) : Int) = t / 86400 / 366 by omega] at hg
  obtain ⟨y, m, d, hv, he⟩ := civil_l0 t (t / 86400) (by rw [dby_10000]; omega) (8029 - t / 86400 / 366).toNat (1970 + t / 86400 / 366) (by omega) (by omega) (by omega)
  refine ⟨y, m, d, hv, ?_⟩
  rw [hour_eq t h0 h1, min_eq t h0 h1, tmod_pos h0] at he
  refine Ev.congr (fun k => by rw [when_Civil.f, is_eq t, Option.bind_some, if_pos (by simp; omega)]) ?_
  rw [tdiv_pos h0, w64 (n := t / 86400) (by omega) (by omega), tdiv_pos (by omega), w64 (n := t / 86400 / 366) (by omega) (by omega), w64 (by omega) (by omega)]
  exact he
theorem civil_out (t : Int) (h : ¬ (0 ≤ t ∧ t ≤ 253402300799)) : Ev (fun k => when_Civil.f k t) (0, 0, 0, 0, 0, 0, false) := by
  refine Ev.congr (f := fun _ => _) (fun k => by rw [when_Civil.f, is_eq t, Option.bind_some, if_neg (by simpa using h)]) (Ev.now _)
theorem awake_ev : Ev (fun k => stowagelaw4_awake.f k) true := Ev.of (fun k => stowagelaw4_awake.mono k) (k := 40) (by kernel_rfl)
theorem awb : Ev (fun k => (stowagelaw4_awake.f k).bind fun t => some t) true := Ev.bind awake_ev (Ev.now _)
theorem wf_bd {a : Int} (h : (Lit.int .i64 a).wf = true) : -9223372036854775808 ≤ a ∧ a ≤ 9223372036854775807 := by
  simp [Lit.wf] at h
  have e1 : IntKind.i64.min = -9223372036854775808 := by kernel_rfl
  have e2 : IntKind.i64.max = 9223372036854775807 := by kernel_rfl
  omega
end Go.Proofs.Yteggifhicmbopaa.Pure
