/- A part of the proof of the seat's laws. No condition beyond those in the theorems. -/
import Derived.Test.YtfjidcmegacibaaDoorZWhenCal
import Derived.Test.YtfjidcmegacibaaDoorZEvB
import Derived.Test.YtfjidcmegacibaaDoorZQ11
import Derived.Test.YtfjidcmegacibaaDoorZQ82

namespace Go.Proofs.YtfjidcmegacibaaDoor.Pure.Date
open Go.RowKit Go.Proofs.YtfjidcmegacibaaDoor.Q Go.Proofs.YtfjidcmegacibaaDoorW.PrintWords Go.Proofs.YtfjidcmegacibaaDoorW.PrintLast Cal
set_option linter.unusedVariables false
set_option linter.unusedSimpArgs false
theorem tdiv_pos {a b : Int} (h : 0 ≤ a) : Int.tdiv a b = a / b := Int.tdiv_eq_ediv_of_nonneg h
theorem tmod_pos {a b : Int} (h : 0 ≤ a) : Int.tmod a b = a % b := Int.tmod_eq_emod_of_nonneg h
theorem is_eq (t : Int) : when_is.f t = some (decide (0 ≤ t ∧ t ≤ 253402300799)) := by
  unfold when_is.f
  by_cases h : t ≥ 0
  · rw [if_pos h]; simp [h]
  · rw [if_neg h]; simp; intro h2; omega
theorem size_ev (y m : Int) (hy : 0 ≤ y) : Ev (fun k => when_size.f k y m) (size y m) := by
  have hj : ∀ b : Bool, Ev (fun k => when_size.j0 k y m b) (if b = true then 30 else if m = 11 then 30 else if m = 2 then 28 + L y else 31) := by
    intro b
    refine Ev.step (f := fun _ => some _) (fun k => ?_) (Ev.now _)
    simp only [when_size.j0]
    cases b with
    | true => rfl
    | false =>
      simp only [Bool.false_eq_true, if_false]
      split
      · rfl
      · split
        · rw [tmod_pos hy, tmod_pos hy, tmod_pos hy]
          cases hl : leap y with
          | true =>
            rw [L_leap hl]
            rw [leap_iff] at hl
            rw [if_pos hl.1]
            split
            · rw [if_pos (by omega)]; rfl
            · rfl
          | false =>
            rw [L_not hl]
            have hl' : ¬ (y % 4 = 0 ∧ (¬ y % 100 = 0 ∨ y % 400 = 0)) := by rw [← leap_iff, hl]; simp
            split
            · rw [if_pos (by omega), if_neg (by omega)]; rfl
            · rfl
        · rfl
  simp only [when_size.f]
  by_cases h4 : m = 4
  · refine ev_pos h4 (ev_eq (hj _) ?_)
    subst h4; simp [size]
  · refine ev_neg h4 ?_
    by_cases h6 : m = 6
    · refine ev_pos h6 (ev_eq (hj _) ?_)
      subst h6; simp [size]
    · refine ev_neg h6 (ev_eq (hj _) ?_)
      by_cases h9 : m = 9
      · subst h9; simp [size]
      · simp only [size, beq_iff_eq, h9, h4, h6, if_false, false_or]
theorem before_eq (y : Int) (h0 : 1 ≤ y) (h1 : y ≤ 10001) : when_before.f y = some (dby y) := by
  unfold when_before.f dby
  have e : wrap64 (y - 1) = y - 1 := w64 (by omega) (by omega)
  rw [e, tdiv_pos (by omega), tdiv_pos (by omega), tdiv_pos (by omega)]
  rw [w64 (n := (y - 1) * 365) (by omega) (by omega), w64 (n := (y - 1) / 4) (by omega) (by omega), w64 (n := (y - 1) / 100) (by omega) (by omega), w64 (n := (y - 1) / 400) (by omega) (by omega)]
  rw [w64 (n := (y - 1) * 365 + (y - 1) / 4) (by omega) (by omega), w64 (n := (y - 1) * 365 + (y - 1) / 4 - (y - 1) / 100) (by omega) (by omega), w64 (n := (y - 1) * 365 + (y - 1) / 4 - (y - 1) / 100 + (y - 1) / 400) (by omega) (by omega), w64 (by omega) (by omega)]
theorem hour_eq (t : Int) (h0 : 0 ≤ t) (h1 : t ≤ 253402300799) : Int.tmod (wrap64 (Int.tdiv t 3600)) 24 = t / 3600 % 24 := by
  rw [tdiv_pos h0, w64 (by omega) (by omega), tmod_pos (by omega)]
theorem min_eq (t : Int) (h0 : 0 ≤ t) (h1 : t ≤ 253402300799) : Int.tmod (wrap64 (Int.tdiv t 60)) 60 = t / 60 % 60 := by
  rw [tdiv_pos h0, w64 (by omega) (by omega), tmod_pos (by omega)]
theorem civil_l1 (x y : Int) (hy0 : 1970 ≤ y) (hy1 : y ≤ 9999) (j : Nat) : ∀ (m n : Int), 1 ≤ m → m + j = 12 → 0 ≤ n → cum y m + n < 365 + L y →
    ∃ m' d', Valid y m' d' (dby y + cum y m + n) ∧ Ev (fun k => when_Civil.l1 k x y m n) (y, m', d', Int.tmod (wrap64 (Int.tdiv x 3600)) 24, Int.tmod (wrap64 (Int.tdiv x 60)) 60, Int.tmod x 60, true) := by
  induction j with
  | zero =>
    intro m n h1 hj hn hb
    have hm : m = 12 := by omega
    have hs := size_bd y m
    have hc := cum_succ y m h1 (by omega)
    subst hm
    rw [show (12 : Int) + 1 = 13 from rfl, cum_end] at hc
    refine ⟨12, n + 1, ⟨hy0, hy1, by omega, by omega, by omega, by omega, by omega⟩, ?_⟩
    refine Ev.step (f := fun k => _) (fun k => by rw [when_Civil.l1]) ?_
    refine Ev.bind (size_ev y 12 (by omega)) ?_
    refine ev_neg (by omega) (ev_eq (Ev.now _) ?_)
    rw [w64 (by omega) (by omega)]
  | succ j ih =>
    intro m n h1 hj hn hb
    have hs := size_bd y m
    have hc := cum_succ y m h1 (by omega)
    by_cases c : n ≥ size y m
    · obtain ⟨m', d', hv, he⟩ := ih (m + 1) (n - size y m) (by omega) (by omega) (by omega) (by omega)
      refine ⟨m', d', by rw [show dby y + cum y m + n = dby y + cum y (m + 1) + (n - size y m) by omega]; exact hv, ?_⟩
      refine Ev.step (f := fun k => _) (fun k => by rw [when_Civil.l1]) ?_
      refine Ev.bind (size_ev y m (by omega)) ?_
      refine ev_pos c ?_
      refine Ev.bind (size_ev y m (by omega)) ?_
      have hL := L_two y
      have hcb := cum_bd y m h1 (by omega)
      rw [w64 (n := m + 1) (by omega) (by omega), w64 (n := n - size y m) (by omega) (by omega)]
      exact he
    · refine ⟨m, n + 1, ⟨hy0, hy1, by omega, by omega, by omega, by omega, by omega⟩, ?_⟩
      refine Ev.step (f := fun k => _) (fun k => by rw [when_Civil.l1]) ?_
      refine Ev.bind (size_ev y m (by omega)) ?_
      refine ev_neg (by omega) (ev_eq (Ev.now _) ?_)
      rw [w64 (by omega) (by omega)]
theorem civil_l0 (x n : Int) (hn : n < dby 10000) (j : Nat) : ∀ y : Int, 1970 ≤ y → y + j = 9999 → dby y ≤ n →
    ∃ y' m' d', Valid y' m' d' n ∧ Ev (fun k => when_Civil.l0 k x y n) (y', m', d', Int.tmod (wrap64 (Int.tdiv x 3600)) 24, Int.tmod (wrap64 (Int.tdiv x 60)) 60, Int.tmod x 60, true) := by
  have fin : ∀ y : Int, 1970 ≤ y → y ≤ 9999 → dby y ≤ n → n < dby (y + 1) → ∃ y' m' d', Valid y' m' d' n ∧ Ev (fun k => when_Civil.l0 k x y n) (y', m', d', Int.tmod (wrap64 (Int.tdiv x 3600)) 24, Int.tmod (wrap64 (Int.tdiv x 60)) 60, Int.tmod x 60, true) := by
    intro y h0 h1 h2 h3
    have hd := dby_succ y
    obtain ⟨m', d', hv, he⟩ := civil_l1 x y h0 h1 11 1 (n - dby y) (by omega) (by omega) (by omega) (by rw [cum_one]; omega)
    rw [cum_one, show dby y + 0 + (n - dby y) = n by omega] at hv
    refine ⟨y, m', d', hv, ?_⟩
    refine Ev.step (f := fun k => _) (fun k => by rw [when_Civil.l0]) ?_
    rw [w64 (n := y + 1) (by omega) (by omega), before_eq (y + 1) (by omega) (by omega)]
    refine ev_neg (by omega) ?_
    rw [before_eq y (by omega) (by omega)]
    show Ev (fun k => when_Civil.l1 k x y 1 (wrap64 (n - dby y))) _
    have := L_two y
    rw [w64 (n := n - dby y) (by omega) (by omega)]
    exact he
  induction j with
  | zero =>
    intro y h0 hj h2
    obtain rfl : y = 9999 := by omega
    exact fin 9999 (by omega) (by omega) h2 hn
  | succ j ih =>
    intro y h0 hj h2
    by_cases c : dby (y + 1) ≤ n
    · obtain ⟨y', m', d', hv, he⟩ := ih (y + 1) (by omega) (by omega) c
      refine ⟨y', m', d', hv, ?_⟩
      refine Ev.step (f := fun k => _) (fun k => by rw [when_Civil.l0]) ?_
      rw [w64 (n := y + 1) (by omega) (by omega), before_eq (y + 1) (by omega) (by omega)]
      exact ev_pos c he
    · exact fin y h0 (by omega) h2 (by omega)
theorem dby_guess (q : Nat) : dby (1970 + q) ≤ 366 * q := by
  induction q with
  | zero => decide
  | succ q ih =>
    have hs := dby_succ (1970 + q)
    have := L_two (1970 + q)
    rw [show (1970 : Int) + ((q + 1 : Nat) : Int) = 1970 + q + 1 by omega]; omega
theorem civil_ev (t : Int) (h0 : 0 ≤ t) (h1 : t ≤ 253402300799) : ∃ y m d, Valid y m d (t / 86400) ∧ Ev (fun k => when_Civil.f k t) (y, m, d, t / 3600 % 24, t / 60 % 60, t % 60, true) := by
  have hg := dby_guess (t / 86400 / 366).toNat
  rw [show (((t / 86400 / 366).toNat : Nat) : Int) = t / 86400 / 366 by omega] at hg
  obtain ⟨y, m, d, hv, he⟩ := civil_l0 t (t / 86400) (by rw [dby_10000]; omega) (8029 - t / 86400 / 366).toNat (1970 + t / 86400 / 366) (by omega) (by omega) (by omega)
  refine ⟨y, m, d, hv, ?_⟩
  rw [hour_eq t h0 h1, min_eq t h0 h1, tmod_pos h0] at he
  refine Ev.congr (fun k => by rw [when_Civil.f, is_eq t, Option.bind_some, if_pos (by simp; omega)]) ?_
  rw [tdiv_pos h0, w64 (n := t / 86400) (by omega) (by omega), tdiv_pos (by omega), w64 (n := t / 86400 / 366) (by omega) (by omega), w64 (by omega) (by omega)]
  exact he
theorem rleap_eq (y : Int) (hy : 0 ≤ y) : stowageref4_leap.f y = some (leap y) := by
  unfold stowageref4_leap.f
  rw [tmod_pos hy, tmod_pos hy, tmod_pos hy]
  cases h : leap y with
  | true =>
    rw [leap_iff] at h
    rw [if_pos h.1]
    split
    · have : y % 400 = 0 := by omega
      simp [this]
    · rfl
  | false =>
    have h' : ¬ (y % 4 = 0 ∧ (¬ y % 100 = 0 ∨ y % 400 = 0)) := by rw [← leap_iff, h]; simp
    have h4 : ¬ y % 400 = 0 := by omega
    split
    · split
      · simp [h4]
      · omega
    · simp [h4]
theorem ryear_eq (y : Int) (hy : 0 ≤ y) : stowageref4_year.f y = some (365 + L y) := by
  unfold stowageref4_year.f
  rw [rleap_eq y hy, Option.bind_some]
  cases h : leap y with
  | true => rw [L_leap h]; rfl
  | false => rw [L_not h]; rfl
theorem rsize_ev (y m : Int) (hy : 0 ≤ y) : Ev (fun k => stowageref4_size.f k y m) (size y m) := by
  have hj : ∀ b : Bool, Ev (fun k => stowageref4_size.j0 k y m b) (if b = true then 30 else if m = 2 then 28 + L y else 31) := by
    intro b
    refine Ev.step (f := fun _ => some _) (fun k => ?_) (Ev.now _)
    simp only [stowageref4_size.j0]
    cases b with
    | true => rfl
    | false =>
      simp only [Bool.false_eq_true, if_false]
      split
      · rw [rleap_eq y hy, Option.bind_some]
        cases h : leap y with
        | true => rw [L_leap h]; rfl
        | false => rw [L_not h]; rfl
      · rfl
  simp only [stowageref4_size.f]
  by_cases h4 : m = 4
  · refine ev_pos h4 (ev_eq (hj _) ?_)
    subst h4; simp [size]
  · refine ev_neg h4 ?_
    by_cases h6 : m = 6
    · refine ev_pos h6 (ev_eq (hj _) ?_)
      subst h6; simp [size]
    · refine ev_neg h6 ?_
      by_cases h9 : m = 9
      · refine ev_pos h9 (ev_eq (hj _) ?_)
        subst h9; simp [size]
      · refine ev_neg h9 (ev_eq (hj _) ?_)
        simp only [size, beq_iff_eq, h9, h4, h6, false_or]
theorem rcivil_l1 (y h mi s : Int) (hy0 : 1970 ≤ y) (hy1 : y ≤ 9999) (j : Nat) : ∀ (m n dd : Int), 1 ≤ m → m + j = 12 → 0 ≤ n → cum y m + n < 365 + L y →
    ∃ m' d', Valid y m' d' (dby y + cum y m + n) ∧ Ev (fun k => stowageref4_Civil.l1 k n y m dd h mi s) (y, m', d', h, mi, s, true) := by
  have stop : ∀ (m n dd : Int), 1 ≤ m → m ≤ 12 → 0 ≤ n → ¬ n ≥ size y m → ∃ m' d', Valid y m' d' (dby y + cum y m + n) ∧ Ev (fun k => stowageref4_Civil.l1 k n y m dd h mi s) (y, m', d', h, mi, s, true) := by
    intro m n dd h1 h2 hn c
    have hs := size_bd y m
    refine ⟨m, n + 1, ⟨hy0, hy1, by omega, by omega, by omega, by omega, by omega⟩, ?_⟩
    refine Ev.step (f := fun k => _) (fun k => by rw [stowageref4_Civil.l1]) ?_
    refine Ev.bind (rsize_ev y m (by omega)) ?_
    refine ev_neg c (ev_eq (Ev.now _) ?_)
    rw [w64 (by omega) (by omega)]
  induction j with
  | zero =>
    intro m n dd h1 hj hn hb
    have hm : m = 12 := by omega
    have hc := cum_succ y m h1 (by omega)
    subst hm
    rw [show (12 : Int) + 1 = 13 from rfl, cum_end] at hc
    exact stop 12 n dd (by omega) (by omega) hn (by omega)
  | succ j ih =>
    intro m n dd h1 hj hn hb
    have hs := size_bd y m
    have hc := cum_succ y m h1 (by omega)
    by_cases c : n ≥ size y m
    · obtain ⟨m', d', hv, he⟩ := ih (m + 1) (n - size y m) dd (by omega) (by omega) (by omega) (by omega)
      refine ⟨m', d', by rw [show dby y + cum y m + n = dby y + cum y (m + 1) + (n - size y m) by omega]; exact hv, ?_⟩
      refine Ev.step (f := fun k => _) (fun k => by rw [stowageref4_Civil.l1]) ?_
      refine Ev.bind (rsize_ev y m (by omega)) ?_
      refine ev_pos c ?_
      refine Ev.bind (rsize_ev y m (by omega)) ?_
      have hL := L_two y
      have hcb := cum_bd y m h1 (by omega)
      rw [w64 (n := m + 1) (by omega) (by omega), w64 (n := n - size y m) (by omega) (by omega)]
      exact he
    · exact stop m n dd h1 (by omega) hn c
theorem rcivil_l0 (t h mi s : Int) (ht : t < dby 10000) (j : Nat) : ∀ (y n dd : Int), 1970 ≤ y → y + j = 9999 → dby y ≤ t → n = t - dby y →
    ∃ y' m' d', Valid y' m' d' t ∧ Ev (fun k => stowageref4_Civil.l0 k n y 1 dd h mi s) (y', m', d', h, mi, s, true) := by
  have fin : ∀ (y n dd : Int), 1970 ≤ y → y ≤ 9999 → dby y ≤ t → t < dby (y + 1) → n = t - dby y → ∃ y' m' d', Valid y' m' d' t ∧ Ev (fun k => stowageref4_Civil.l0 k n y 1 dd h mi s) (y', m', d', h, mi, s, true) := by
    intro y n dd h0 h1 h2 h3 hn
    have hd := dby_succ y
    obtain ⟨m', d', hv, he⟩ := rcivil_l1 y h mi s h0 h1 11 1 n dd (by omega) (by omega) (by omega) (by rw [cum_one]; omega)
    rw [cum_one, show dby y + 0 + n = t by omega] at hv
    refine ⟨y, m', d', hv, ?_⟩
    refine Ev.step (f := fun k => _) (fun k => by rw [stowageref4_Civil.l0, ryear_eq y (by omega), Option.bind_some, if_neg (by omega)]) ?_
    exact he
  induction j with
  | zero =>
    intro y n dd h0 hj h2 hn
    obtain rfl : y = 9999 := by omega
    exact fin 9999 n dd (by omega) (by omega) h2 ht hn
  | succ j ih =>
    intro y n dd h0 hj h2 hn
    have hd := dby_succ y
    have hL := L_two y
    by_cases c : dby (y + 1) ≤ t
    · obtain ⟨y', m', d', hv, he⟩ := ih (y + 1) (n - (365 + L y)) dd (by omega) (by omega) c (by omega)
      refine ⟨y', m', d', hv, ?_⟩
      have hb := dby_le y 10000 (by omega)
      have hz := dby_le 1970 y (by omega)
      rw [dby_1970] at hz
      rw [dby_10000] at hb ht
      refine Ev.step (f := fun k => _) (fun k => by rw [stowageref4_Civil.l0, ryear_eq y (by omega), Option.bind_some, if_pos (by omega), Option.bind_some, w64 (n := y + 1) (by omega) (by omega), w64 (n := n - (365 + L y)) (by omega) (by omega)]) ?_
      exact he
    · exact fin y n dd h0 (by omega) h2 (by omega) hn
theorem rcivil_ev (t : Int) (h0 : 0 ≤ t) (h1 : t ≤ 253402300799) : ∃ y m d, Valid y m d (t / 86400) ∧ Ev (fun k => stowageref4_Civil.f k t) (y, m, d, t / 3600 % 24, t / 60 % 60, t % 60, true) := by
  obtain ⟨y, m, d, hv, he⟩ := rcivil_l0 (t / 86400) (t / 3600 % 24) (t / 60 % 60) (t % 60) (by rw [dby_10000]; omega) 8029 1970 (t / 86400) 0 (by omega) (by omega) (by rw [dby_1970]; omega) (by rw [dby_1970]; omega)
  refine ⟨y, m, d, hv, ?_⟩
  refine Ev.congr (fun k => by rw [stowageref4_Civil.f, if_neg (by omega), decide_eq_false (by omega)]) ?_
  refine Ev.step (f := fun k => _) (fun k => by rw [stowageref4_Civil.j0, if_neg (by simp), hour_eq t h0 h1, min_eq t h0 h1, tmod_pos h0, tdiv_pos h0, w64 (n := t / 86400) (by omega) (by omega)]) ?_
  exact he
def Real (y m d h mi s : Int) : Prop := 1970 ≤ y ∧ y ≤ 9999 ∧ 1 ≤ m ∧ m ≤ 12 ∧ 1 ≤ d ∧ d ≤ size y m ∧ 0 ≤ h ∧ h ≤ 23 ∧ 0 ≤ mi ∧ mi ≤ 59 ∧ 0 ≤ s ∧ s ≤ 59
instance (y m d h mi s : Int) : Decidable (Real y m d h mi s) := by unfold Real; infer_instance
def second (y m d h mi s : Int) : Int := (dby y + cum y m + d - 1) * 86400 + h * 3600 + mi * 60 + s
theorem Real.valid {y m d h mi s : Int} (r : Real y m d h mi s) : Valid y m d (dby y + cum y m + d - 1) := by
  obtain ⟨a, b, c, e, f, g, _⟩ := r
  exact ⟨a, b, c, e, f, g, rfl⟩
theorem Real.bd {y m d h mi s : Int} (r : Real y m d h mi s) : 0 ≤ dby y + cum y m + d - 1 ∧ dby y + cum y m + d - 1 ≤ 2932896 := r.valid.bd
theorem of_1 (a b c : Int) : when_Of_1.f a b c = some (decide (b ≤ a ∧ a ≤ c)) := by
  unfold when_Of_1.f
  by_cases h : a ≥ b
  · rw [if_pos h]; simp [h]
  · rw [if_neg h]; simp; intro h2; omega
theorem of_l0 (y m h mi s b : Int) (hy0 : 1970 ≤ y) (hm1 : m ≤ 12) (hh : 0 ≤ h ∧ h ≤ 23) (hmi : 0 ≤ mi ∧ mi ≤ 59) (hs : 0 ≤ s ∧ s ≤ 59) (hb : 0 ≤ b ∧ b ≤ 2932897) (j : Nat) : ∀ i : Int, 1 ≤ i → i + j = m →
    Ev (fun k => when_Of.l0 k y m h mi s (b + cum y i) i) ((b + cum y m) * 86400 + h * 3600 + mi * 60 + s, true) := by
  induction j with
  | zero =>
    intro i h1 hj
    obtain rfl : i = m := by omega
    have hc := cum_bd y i h1 (by omega)
    refine Ev.step (f := fun _ => some ((b + cum y i) * 86400 + h * 3600 + mi * 60 + s, true)) (fun k => ?_) (Ev.now _)
    rw [when_Of.l0, if_neg (by omega)]
    generalize cum y i = c at *
    rw [w64 (n := (b + c) * 24) (by omega) (by omega), w64 (n := (b + c) * 24 + h) (by omega) (by omega), w64 (n := ((b + c) * 24 + h) * 60) (by omega) (by omega), w64 (n := ((b + c) * 24 + h) * 60 + mi) (by omega) (by omega), w64 (n := (((b + c) * 24 + h) * 60 + mi) * 60) (by omega) (by omega), w64 (by omega) (by omega)]
    rw [show (((b + c) * 24 + h) * 60 + mi) * 60 + s = (b + c) * 86400 + h * 3600 + mi * 60 + s by omega]
  | succ j ih =>
    intro i h1 hj
    have hc := cum_bd y i h1 (by omega)
    have hz := size_bd y i
    have e := cum_succ y i h1 (by omega)
    refine Ev.step (f := fun k => _) (fun k => by rw [when_Of.l0, if_pos (by omega)]) ?_
    refine Ev.bind (size_ev y i (by omega)) ?_
    rw [w64 (n := b + cum y i + size y i) (by omega) (by omega), w64 (n := i + 1) (by omega) (by omega), show b + cum y i + size y i = b + cum y (i + 1) by omega]
    exact ih (i + 1) (by omega) (by omega)
theorem of_ev (y m d h mi s : Int) : Ev (fun k => when_Of.f k y m d h mi s) (if Real y m d h mi s then (second y m d h mi s, true) else (0, false)) := by
  have jt : ∀ (b : Bool), (b = true → ¬ Real y m d h mi s) → (b = false → Real y m d h mi s) → Ev (fun k => when_Of.j0 k y m d h mi s b) (if Real y m d h mi s then (second y m d h mi s, true) else (0, false)) := by
    intro b hb1 hb0
    cases b with
    | true => exact Ev.step (f := fun _ => some _) (fun k => by rw [when_Of.j0, if_pos rfl, if_neg (hb1 rfl)]) (Ev.now _)
    | false =>
      have r := hb0 rfl
      have hbd := r.bd
      have hv := r.valid
      obtain ⟨a1, a2, a3, a4, a5, a6, a7, a8, a9, b1, b2, b3⟩ := r
      rw [if_pos (hb0 rfl)]
      have hy := hv.in_year
      have hc := cum_bd y m a3 (by omega)
      have h19 := dby_le 1970 y a1
      have h99 := dby_le y 10000 (by omega)
      rw [dby_1970] at h19
      rw [dby_10000] at h99
      refine Ev.step (f := fun k => _) (fun k => by rw [when_Of.j0, if_neg (by simp), before_eq y (by omega) (by omega), Option.bind_some]) ?_
      have hz := size_bd y m
      rw [w64 (n := dby y + d) (by omega) (by omega), w64 (n := dby y + d - 1) (by omega) (by omega)]
      have q := of_l0 y m h mi s (dby y + d - 1) a1 a4 ⟨a7, a8⟩ ⟨a9, b1⟩ ⟨b2, b3⟩ (by omega) (m - 1).toNat 1 (by omega) (by omega)
      rw [cum_one, show dby y + d - 1 + 0 = dby y + d - 1 by omega, show (dby y + d - 1 + cum y m) * 86400 + h * 3600 + mi * 60 + s = second y m d h mi s by unfold second; omega] at q
      exact q
  refine Ev.congr (fun k => by rw [when_Of.f, of_1, Option.bind_some]) ?_
  by_cases c1 : 1970 ≤ y ∧ y ≤ 9999
  case neg => exact ev_neg (by simpa using c1) (jt true (fun _ r => c1 ⟨r.1, r.2.1⟩) (by simp))
  refine ev_pos (by simpa using c1) ?_
  refine Ev.congr (fun k => by rw [of_1, Option.bind_some]) ?_
  by_cases c2 : 1 ≤ m ∧ m ≤ 12
  case neg => exact ev_neg (by simpa using c2) (jt true (fun _ r => c2 ⟨r.2.2.1, r.2.2.2.1⟩) (by simp))
  refine ev_pos (by simpa using c2) ?_
  refine Ev.bind (size_ev y m (by omega)) ?_
  refine Ev.congr (fun k => by rw [of_1, Option.bind_some]) ?_
  by_cases c3 : 1 ≤ d ∧ d ≤ size y m
  case neg => exact ev_neg (by simpa using c3) (jt true (fun _ r => c3 ⟨r.2.2.2.2.1, r.2.2.2.2.2.1⟩) (by simp))
  refine ev_pos (by simpa using c3) ?_
  refine Ev.congr (fun k => by rw [of_1, Option.bind_some]) ?_
  by_cases c4 : 0 ≤ h ∧ h ≤ 23
  case neg => exact ev_neg (by simpa using c4) (jt true (fun _ r => c4 ⟨r.2.2.2.2.2.2.1, r.2.2.2.2.2.2.2.1⟩) (by simp))
  refine ev_pos (by simpa using c4) ?_
  refine Ev.congr (fun k => by rw [of_1, Option.bind_some]) ?_
  by_cases c5 : 0 ≤ mi ∧ mi ≤ 59
  case neg => exact ev_neg (by simpa using c5) (jt true (fun _ r => c5 ⟨r.2.2.2.2.2.2.2.2.1, r.2.2.2.2.2.2.2.2.2.1⟩) (by simp))
  refine ev_pos (by simpa using c5) ?_
  refine Ev.congr (fun k => by rw [of_1, Option.bind_some]) ?_
  refine jt _ (fun hb r => ?_) (fun hb => ?_)
  · have := r.2.2.2.2.2.2.2.2.2.2
    simp at hb
    omega
  · simp at hb
    exact ⟨c1.1, c1.2, c2.1, c2.2, c3.1, c3.2, c4.1, c4.2, c5.1, c5.2, hb.1, hb.2⟩
def p1 (n : Int) : ByteArray := strOfNums [48 + n]
def p2 (n : Int) : ByteArray := strOfNums [48 + n / 10, 48 + n % 10]
def p4 (n : Int) : ByteArray := strOfNums [48 + n / 1000, 48 + n / 100 % 10, 48 + n / 10 % 10, 48 + n % 10]
theorem p2_size (n : Int) : (p2 n).size = 2 := rfl
theorem p4_size (n : Int) : (p4 n).size = 4 := rfl
theorem son_append (xs ys : List Int) : strOfNums xs ++ strOfNums ys = strOfNums (xs ++ ys) := by apply ByteArray.ext; simp [strOfNums, ByteArray.data_append]
theorem dg (n : Int) (h : 0 ≤ n) : (48 + ((Int.tmod n 10) % 256)) % 256 = 48 + n % 10 := by rw [tmod_pos h]; omega
theorem put2_ev (n : Int) (h0 : 0 ≤ n) (h1 : n ≤ 99) : Ev (fun k => when_put.f k n 2) (p2 n) := by
  refine Ev.congr (f := fun k => when_put.l0 k n [0, 0] 1) (fun k => by rw [when_put.f, if_pos (by omega), if_pos (by decide), w64 (by omega) (by omega)]; rfl) ?_
  refine Ev.step (f := fun k => when_put.l0 k (n / 10) [0, 48 + n % 10] 0) (fun k => ?_) ?_
  · rw [when_put.l0, dg n h0, tdiv_pos h0, w64 (n := n / 10) (by omega) (by omega), w64 (by omega) (by omega)]; rfl
  refine Ev.step (f := fun k => when_put.l0 k (n / 10 / 10) [48 + n / 10 % 10, 48 + n % 10] (-1)) (fun k => ?_) ?_
  · rw [when_put.l0, dg (n / 10) (by omega), tdiv_pos (by omega), w64 (n := n / 10 / 10) (by omega) (by omega), w64 (by omega) (by omega)]; rfl
  refine Ev.step (f := fun k => some (p2 n)) (fun k => ?_) (Ev.now _)
  rw [when_put.l0, if_neg (by omega), p2, show n / 10 % 10 = n / 10 by omega]
theorem put4_ev (n : Int) (h0 : 0 ≤ n) (h1 : n ≤ 9999) : Ev (fun k => when_put.f k n 4) (p4 n) := by
  refine Ev.congr (f := fun k => when_put.l0 k n [0, 0, 0, 0] 3) (fun k => by rw [when_put.f, if_pos (by omega), if_pos (by decide), w64 (by omega) (by omega)]; rfl) ?_
  refine Ev.step (f := fun k => when_put.l0 k (n / 10) [0, 0, 0, 48 + n % 10] 2) (fun k => ?_) ?_
  · rw [when_put.l0, dg n h0, tdiv_pos h0, w64 (n := n / 10) (by omega) (by omega), w64 (by omega) (by omega)]; rfl
  refine Ev.step (f := fun k => when_put.l0 k (n / 10 / 10) [0, 0, 48 + n / 10 % 10, 48 + n % 10] 1) (fun k => ?_) ?_
  · rw [when_put.l0, dg (n / 10) (by omega), tdiv_pos (by omega), w64 (n := n / 10 / 10) (by omega) (by omega), w64 (by omega) (by omega)]; rfl
  refine Ev.step (f := fun k => when_put.l0 k (n / 10 / 10 / 10) [0, 48 + n / 10 / 10 % 10, 48 + n / 10 % 10, 48 + n % 10] 0) (fun k => ?_) ?_
  · rw [when_put.l0, dg (n / 10 / 10) (by omega), tdiv_pos (by omega), w64 (n := n / 10 / 10 / 10) (by omega) (by omega), w64 (by omega) (by omega)]; rfl
  refine Ev.step (f := fun k => when_put.l0 k (n / 10 / 10 / 10 / 10) [48 + n / 10 / 10 / 10 % 10, 48 + n / 10 / 10 % 10, 48 + n / 10 % 10, 48 + n % 10] (-1)) (fun k => ?_) ?_
  · rw [when_put.l0, dg (n / 10 / 10 / 10) (by omega), tdiv_pos (by omega), w64 (n := n / 10 / 10 / 10 / 10) (by omega) (by omega), w64 (by omega) (by omega)]; rfl
  refine Ev.step (f := fun k => some (p4 n)) (fun k => ?_) (Ev.now _)
  rw [when_put.l0, if_neg (by omega), p4, show n / 10 / 10 / 10 % 10 = n / 1000 by omega, show n / 10 / 10 % 10 = n / 100 % 10 by omega]
theorem rdigit_all : ∀ i : Fin 10, stowageref1_digit.f (i.val : Int) = some (p1 i.val) := by decide +kernel
theorem rdigit_eq (n : Int) (h0 : 0 ≤ n) (h1 : n ≤ 9) : stowageref1_digit.f n = some (p1 n) := by
  have h := rdigit_all ⟨n.toNat, by omega⟩
  rw [show (((⟨n.toNat, by omega⟩ : Fin 10).val : Nat) : Int) = n by show ((n.toNat : Nat) : Int) = n; omega] at h
  exact h
theorem text_more (n : Int) (s r : ByteArray) (h0 : 9 < n) (h1 : n ≤ 9999) (hs : s.size ≤ 100) (h : Ev (fun k => stowageref1_Text.l0 k (n / 10) (p1 (n % 10) ++ s)) r) : Ev (fun k => stowageref1_Text.l0 k n s) r := by
  refine Ev.step (f := fun k => _) (fun k => by rw [stowageref1_Text.l0, if_pos (by omega), tmod_pos (by omega), rdigit_eq (n % 10) (by omega) (by omega), Option.bind_some, if_pos (by rw [show (p1 (n % 10)).size = 1 from rfl]; omega), tdiv_pos (by omega), w64 (n := n / 10) (by omega) (by omega)]) h
theorem text_last (n : Int) (s : ByteArray) (h0 : 0 ≤ n) (h1 : n ≤ 9) (hs : s.size ≤ 100) : Ev (fun k => stowageref1_Text.l0 k n s) (p1 n ++ s) :=
  Ev.step (f := fun _ => some (p1 n ++ s)) (fun k => by rw [stowageref1_Text.l0, if_neg (by omega), rdigit_eq n h0 h1, Option.bind_some, if_pos (by rw [show (p1 n).size = 1 from rfl]; omega)]) (Ev.now _)
theorem p1_nil (n : Int) : p1 n ++ (⟨#[]⟩ : ByteArray) = p1 n := by apply ByteArray.ext; simp [ByteArray.data_append]
theorem text_start (n : Int) (r : ByteArray) (h0 : 0 ≤ n) (h : Ev (fun k => stowageref1_Text.l0 k n ⟨#[]⟩) r) : Ev (fun k => stowageref1_Text.f k n) r :=
  Ev.step (f := fun k => _) (fun k => by rw [stowageref1_Text.f, if_neg (by omega)]) h
theorem wide2_ev (n : Int) (h0 : 0 ≤ n) (h1 : n ≤ 99) : Ev (fun k => stowageref4_wide.f k n 2) (p2 n) := by
  by_cases c : n ≤ 9
  · refine Ev.bind (text_start n (p1 n) h0 (ev_eq (text_last n _ h0 c (by decide)) (p1_nil n))) ?_
    refine Ev.step (f := fun k => stowageref4_wide.l0 k 2 (p2 n)) (fun k => ?_) ?_
    · rw [stowageref4_wide.l0, if_pos (by rw [show (p1 n).size = 1 from rfl]; decide), if_pos (by rw [show (p1 n).size = 1 from rfl]; decide)]
      rw [show (⟨#[48]⟩ : ByteArray) = strOfNums [48] from rfl, p1, son_append, p2, show n / 10 = 0 by omega, show n % 10 = n by omega]; rfl
    · exact Ev.step (f := fun _ => some _) (fun k => by rw [stowageref4_wide.l0, if_neg (by rw [p2_size]; decide)]) (Ev.now _)
  · refine Ev.bind (a := p2 n) (text_start n _ h0 (text_more n _ _ (by omega) (by omega) (by decide) (ev_eq (text_last (n / 10) _ (by omega) (by omega) (by rw [p1_nil]; show 1 ≤ 100; omega)) ?_))) ?_
    · rw [p1_nil, p1, p1, son_append]; rfl
    · exact Ev.step (f := fun _ => some _) (fun k => by rw [stowageref4_wide.l0, if_neg (by rw [p2_size]; decide)]) (Ev.now _)
theorem wide4_ev (n : Int) (h0 : 1000 ≤ n) (h1 : n ≤ 9999) : Ev (fun k => stowageref4_wide.f k n 4) (p4 n) := by
  refine Ev.bind (a := p4 n) (text_start n _ (by omega) (text_more n _ _ (by omega) (by omega) (by decide) (text_more (n / 10) _ _ (by omega) (by omega) (by rw [p1_nil]; show 1 ≤ 100; omega) (text_more (n / 10 / 10) _ _ (by omega) (by omega) (by rw [p1_nil, p1, p1, son_append]; show 2 ≤ 100; omega) (ev_eq (text_last (n / 10 / 10 / 10) _ (by omega) (by omega) (by rw [p1_nil, p1, p1, p1, son_append, son_append]; show 3 ≤ 100; omega)) ?_))))) ?_
  · rw [p1_nil, p1, p1, p1, p1, son_append, son_append, son_append, p4, show n / 10 / 10 / 10 = n / 1000 by omega, show n / 10 / 10 % 10 = n / 100 % 10 by omega]; rfl
  · exact Ev.step (f := fun _ => some _) (fun k => by rw [stowageref4_wide.l0, if_neg (by rw [p4_size]; decide)]) (Ev.now _)
theorem z1 (a : UInt8) : (⟨#[a]⟩ : ByteArray).size = 1 := rfl
theorem z2 (a b : UInt8) : (⟨#[a, b]⟩ : ByteArray).size = 2 := rfl
theorem z4 (a b c d : UInt8) : (⟨#[a, b, c, d]⟩ : ByteArray).size = 4 := rfl
theorem z5 (a b c d e : UInt8) : (⟨#[a, b, c, d, e]⟩ : ByteArray).size = 5 := rfl
structure Date6 (y m d h mi s : Int) : Prop where
  v : ∃ n, Valid y m d n
  h0 : 0 ≤ h
  h1 : h ≤ 23
  mi0 : 0 ≤ mi
  mi1 : mi ≤ 59
  s0 : 0 ≤ s
  s1 : s ≤ 59
theorem Date6.bd {y m d h mi s : Int} (D : Date6 y m d h mi s) : 1970 ≤ y ∧ y ≤ 9999 ∧ 1 ≤ m ∧ m ≤ 12 ∧ 1 ≤ d ∧ d ≤ 31 := by
  obtain ⟨n, v⟩ := D.v
  have := size_bd y m
  exact ⟨v.y0, v.y1, v.m0, v.m1, v.d0, by have := v.d1; omega⟩
def wd (r : Int) : ByteArray := (⟨#[84, 104, 117, 70, 114, 105, 83, 97, 116, 83, 117, 110, 77, 111, 110, 84, 117, 101, 87, 101, 100]⟩ : ByteArray).extract (r * 3).toNat (r * 3 + 3).toNat
def mo (m : Int) : ByteArray := (⟨#[74, 97, 110, 70, 101, 98, 77, 97, 114, 65, 112, 114, 77, 97, 121, 74, 117, 110, 74, 117, 108, 65, 117, 103, 83, 101, 112, 79, 99, 116, 78, 111, 118, 68, 101, 99]⟩ : ByteArray).extract (3 * m - 3).toNat (3 * m).toNat
theorem wd_def (r : Int) : (⟨#[84, 104, 117, 70, 114, 105, 83, 97, 116, 83, 117, 110, 77, 111, 110, 84, 117, 101, 87, 101, 100]⟩ : ByteArray).extract (r * 3).toNat (r * 3 + 3).toNat = wd r := rfl
theorem mo_def (m : Int) : (⟨#[74, 97, 110, 70, 101, 98, 77, 97, 114, 65, 112, 114, 77, 97, 121, 74, 117, 110, 74, 117, 108, 65, 117, 103, 83, 101, 112, 79, 99, 116, 78, 111, 118, 68, 101, 99]⟩ : ByteArray).extract (3 * m - 3).toNat (3 * m).toNat = mo m := rfl
theorem wd_all : ∀ i : Fin 7, (wd (i.val : Int)).size = 3 ∧ (⟨#[77, 111, 110, 84, 117, 101, 87, 101, 100, 84, 104, 117, 70, 114, 105, 83, 97, 116, 83, 117, 110]⟩ : ByteArray).extract (3 * (((i.val : Int) + 3) % 7)).toNat (3 * (((i.val : Int) + 3) % 7) + 3).toNat = wd (i.val : Int) := by decide +kernel
theorem wd_size (r : Int) (h0 : 0 ≤ r) (h1 : r < 7) : (wd r).size = 3 := by
  have h := (wd_all ⟨r.toNat, by omega⟩).1
  rwa [show (((⟨r.toNat, by omega⟩ : Fin 7).val : Nat) : Int) = r by show ((r.toNat : Nat) : Int) = r; omega] at h
theorem rwd_def (r : Int) (h0 : 0 ≤ r) (h1 : r < 7) : (⟨#[77, 111, 110, 84, 117, 101, 87, 101, 100, 84, 104, 117, 70, 114, 105, 83, 97, 116, 83, 117, 110]⟩ : ByteArray).extract (3 * ((r + 3) % 7)).toNat (3 * ((r + 3) % 7) + 3).toNat = wd r := by
  have h := (wd_all ⟨r.toNat, by omega⟩).2
  rwa [show (((⟨r.toNat, by omega⟩ : Fin 7).val : Nat) : Int) = r by show ((r.toNat : Nat) : Int) = r; omega] at h
theorem mo_all : ∀ i : Fin 12, (mo ((i.val : Int) + 1)).size = 3 := by decide +kernel
theorem mo_size (m : Int) (h0 : 1 ≤ m) (h1 : m ≤ 12) : (mo m).size = 3 := by
  have h := mo_all ⟨(m - 1).toNat, by omega⟩
  rwa [show (((⟨(m - 1).toNat, by omega⟩ : Fin 12).val : Nat) : Int) + 1 = m by show (((m - 1).toNat : Nat) : Int) + 1 = m; omega] at h
def httpT (w y m d h mi s : Int) : ByteArray := (((((((((((((wd w) ++ (⟨#[44, 32]⟩ : ByteArray)) ++ p2 d) ++ (⟨#[32]⟩ : ByteArray)) ++ mo m) ++ (⟨#[32]⟩ : ByteArray)) ++ p4 y) ++ (⟨#[32]⟩ : ByteArray)) ++ p2 h) ++ (⟨#[58]⟩ : ByteArray)) ++ p2 mi) ++ (⟨#[58]⟩ : ByteArray)) ++ p2 s) ++ (⟨#[32, 71, 77, 84]⟩ : ByteArray)
theorem http_ev (t : Int) (h0 : 0 ≤ t) (h1 : t ≤ 253402300799) (y m d h mi s : Int) (D : Date6 y m d h mi s) (he : Ev (fun k => when_Civil.f k t) (y, m, d, h, mi, s, true)) : Ev (fun k => when_Http.f k t) (httpT (t / 86400 % 7) y m d h mi s) := by
  have b := D.bd
  have := D.h0; have := D.h1; have := D.mi0; have := D.mi1; have := D.s0; have := D.s1
  have e0 : wrap64 (Int.tdiv t 86400) = t / 86400 := by rw [tdiv_pos h0, w64 (by omega) (by omega)]
  have e1 : Int.tmod (t / 86400) 7 = t / 86400 % 7 := tmod_pos (by omega)
  have e2 : wrap64 (t / 86400 % 7 * 3) = t / 86400 % 7 * 3 := w64 (by omega) (by omega)
  have e3 : wrap64 (t / 86400 % 7 * 3 + 3) = t / 86400 % 7 * 3 + 3 := w64 (by omega) (by omega)
  have e4 : wrap64 (3 * m) = 3 * m := w64 (by omega) (by omega)
  have e5 : wrap64 (3 * m - 3) = 3 * m - 3 := w64 (by omega) (by omega)
  simp only [when_Http.f, e0, e1, e2, e3]
  refine Ev.bind he ?_
  dsimp only
  simp only [e4, e5, wd_def, mo_def]
  have hw0 : 0 ≤ t / 86400 % 7 := by omega
  have hw1 : t / 86400 % 7 < 7 := by omega
  generalize t / 86400 % 7 = w at *
  have hws := wd_size w hw0 hw1
  have hms := mo_size m b.2.2.1 b.2.2.2.1
  refine ev_pos trivial ?_
  repeat (first | with_reducible refine Ev.bind (put4_ev y (by omega) (by omega)) ?_ | with_reducible refine Ev.bind (put2_ev d (by omega) (by omega)) ?_ | with_reducible refine Ev.bind (put2_ev h (by omega) (by omega)) ?_ | with_reducible refine Ev.bind (put2_ev mi (by omega) (by omega)) ?_ | with_reducible refine Ev.bind (put2_ev s (by omega) (by omega)) ?_ | with_reducible refine ev_pos (by simp only [ByteArray.size_append, p4_size, p2_size, z1, z2, z4, z5, hws, hms]; decide) ?_ | with_reducible refine ev_pos (by omega) ?_)
  exact Ev.now _
theorem rhttp_ev (t : Int) (h0 : 0 ≤ t) (h1 : t ≤ 253402300799) (y m d h mi s : Int) (D : Date6 y m d h mi s) (he : Ev (fun k => stowageref4_Civil.f k t) (y, m, d, h, mi, s, true)) : Ev (fun k => stowageref4_Http.f k t) (httpT (t / 86400 % 7) y m d h mi s) := by
  have b := D.bd
  have := D.h0; have := D.h1; have := D.mi0; have := D.mi1; have := D.s0; have := D.s1
  have e0 : wrap64 (Int.tdiv t 86400) = t / 86400 := by rw [tdiv_pos h0, w64 (by omega) (by omega)]
  have e1 : Int.tmod (wrap64 (t / 86400 + 3)) 7 = (t / 86400 % 7 + 3) % 7 := by rw [w64 (by omega) (by omega), tmod_pos (by omega)]; omega
  have e2 : wrap64 (3 * ((t / 86400 % 7 + 3) % 7)) = 3 * ((t / 86400 % 7 + 3) % 7) := w64 (by omega) (by omega)
  have e3 : wrap64 (3 * ((t / 86400 % 7 + 3) % 7) + 3) = 3 * ((t / 86400 % 7 + 3) % 7) + 3 := w64 (by omega) (by omega)
  have e4 : wrap64 (3 * m) = 3 * m := w64 (by omega) (by omega)
  have e5 : wrap64 (3 * m - 3) = 3 * m - 3 := w64 (by omega) (by omega)
  simp only [stowageref4_Http.f, e0, e1, e2, e3]
  refine Ev.bind he ?_
  dsimp only
  have hw0 : 0 ≤ t / 86400 % 7 := by omega
  have hw1 : t / 86400 % 7 < 7 := by omega
  simp only [e4, e5, rwd_def _ hw0 hw1, mo_def]
  generalize t / 86400 % 7 = w at *
  have hws := wd_size w hw0 hw1
  have hms := mo_size m b.2.2.1 b.2.2.2.1
  refine ev_pos trivial ?_
  repeat (first | with_reducible refine Ev.bind (wide4_ev y (by omega) (by omega)) ?_ | with_reducible refine Ev.bind (wide2_ev d (by omega) (by omega)) ?_ | with_reducible refine Ev.bind (wide2_ev h (by omega) (by omega)) ?_ | with_reducible refine Ev.bind (wide2_ev mi (by omega) (by omega)) ?_ | with_reducible refine Ev.bind (wide2_ev s (by omega) (by omega)) ?_ | with_reducible refine ev_pos (by simp only [ByteArray.size_append, p4_size, p2_size, z1, z2, z4, z5, hws, hms]; decide) ?_ | with_reducible refine ev_pos (by omega) ?_)
  exact Ev.now _
theorem civil6 (t : Int) (h0 : 0 ≤ t) (h1 : t ≤ 253402300799) : ∃ y m d h mi s, Date6 y m d h mi s ∧ Valid y m d (t / 86400) ∧ h = t / 3600 % 24 ∧ mi = t / 60 % 60 ∧ s = t % 60 ∧ Ev (fun k => when_Civil.f k t) (y, m, d, h, mi, s, true) ∧ Ev (fun k => stowageref4_Civil.f k t) (y, m, d, h, mi, s, true) := by
  obtain ⟨y, m, d, hv, he⟩ := civil_ev t h0 h1
  obtain ⟨y', m', d', hv', he'⟩ := rcivil_ev t h0 h1
  obtain ⟨rfl, rfl, rfl⟩ := hv.unique hv'
  exact ⟨y, m, d, _, _, _, ⟨⟨_, hv⟩, by omega, by omega, by omega, by omega, by omega, by omega⟩, hv, rfl, rfl, rfl, he, he'⟩
def dval (s : ByteArray) : Nat → Int → Int → Option Int
  | 0, _, n => some n
  | j + 1, i, n => if i < (s.size : Int) ∧ 48 ≤ bt s i ∧ bt s i ≤ 57 then dval s j (i + 1) (10 * n + (bt s i - 48)) else none
def pairOf (o : Option Int) : Int × Bool := match o with | some v => (v, true) | none => (0, false)
theorem get_l0 (s : ByteArray) (a b : Int) (hab : a + b ≤ 100) (h0 : 0 ≤ a) (hb : 0 ≤ b) (j : Nat) (hj4 : j ≤ 4) : ∀ (n i : Int) (c : Nat), c + j ≤ 4 → 0 ≤ n → n < 10 ^ c → a ≤ i → i + j = a + b →
    Ev (fun k => when_get.l0 k s a b n i) (pairOf (dval s j i n)) := by
  induction j with
  | zero =>
    intro n i c hc hn hn1 hi hij
    refine Ev.step (f := fun _ => some (n, true)) (fun k => ?_) (Ev.now _)
    rw [when_get.l0, w64 (by omega) (by omega), if_neg (by omega)]
  | succ j ih =>
    intro n i c hc hn hn1 hi hij
    have hp : (10 : Int) ^ c ≤ 1000 := by
      have : c = 0 ∨ c = 1 ∨ c = 2 ∨ c = 3 := by omega
      rcases this with rfl | rfl | rfl | rfl <;> decide
    have hbr := bt_range s i
    by_cases h : i < (s.size : Int) ∧ 48 ≤ bt s i ∧ bt s i ≤ 57
    · rw [dval, if_pos h]
      refine Ev.step (f := fun k => when_get.l0 k s a b (10 * n + (bt s i - 48)) (i + 1)) (fun k => ?_) ?_
      · rw [when_get.l0, w64 (n := a + b) (by omega) (by omega), if_pos (by omega), if_neg (by omega), if_pos (by omega), if_pos h.1, if_neg (by omega), if_neg (by omega),
          w64 (n := 10 * n) (by omega) (by omega), show (bt s i - 48) % 256 = bt s i - 48 by omega, w64 (n := 10 * n + (bt s i - 48)) (by omega) (by omega), w64 (n := i + 1) (by omega) (by omega)]
      · refine ih (by omega) _ _ (c + 1) (by omega) (by omega) ?_ (by omega) (by omega)
        rw [Int.pow_succ]; omega
    · rw [dval, if_neg h]
      refine Ev.step (f := fun _ => some (0, false)) (fun k => ?_) (Ev.now _)
      rw [when_get.l0, w64 (n := a + b) (by omega) (by omega), if_pos (by omega)]
      by_cases c1 : i ≥ (s.size : Int)
      · rw [if_pos c1]
      · rw [if_neg c1, if_pos (by omega), if_pos (by omega)]
        by_cases c2 : bt s i < 48
        · rw [if_pos c2]
        · rw [if_neg c2, if_pos (by omega)]
theorem get_ev (s : ByteArray) (a : Int) (b : Nat) (h0 : 0 ≤ a) (h1 : a ≤ 50) (hb : b ≤ 4) : Ev (fun k => when_get.f k s a b) (pairOf (dval s b a 0)) :=
  get_l0 s a b (by omega) h0 (by omega) b hb 0 a 0 (by omega) (by omega) (by decide) (by omega) rfl
theorem dval_two (s : ByteArray) (i : Int) : dval s 2 i 0 = if (i < (s.size : Int) ∧ 48 ≤ bt s i ∧ bt s i ≤ 57) ∧ (i + 1 < (s.size : Int) ∧ 48 ≤ bt s (i + 1) ∧ bt s (i + 1) ≤ 57) then some (10 * (bt s i - 48) + (bt s (i + 1) - 48)) else none := by
  simp only [dval]
  by_cases h1 : i < (s.size : Int) ∧ 48 ≤ bt s i ∧ bt s i ≤ 57
  · rw [if_pos h1]
    by_cases h2 : i + 1 < (s.size : Int) ∧ 48 ≤ bt s (i + 1) ∧ bt s (i + 1) ≤ 57
    · rw [if_pos h2, if_pos ⟨h1, h2⟩]; congr 1; omega
    · rw [if_neg h2, if_neg (fun h => h2 h.2)]
  · rw [if_neg h1, if_neg (fun h => h1 h.1)]
theorem dval_is2 (s : ByteArray) (i v : Int) (h0 : 0 ≤ v) (h1 : v ≤ 99) (hs : i + 1 < (s.size : Int)) (a : bt s i = 48 + v / 10) (b : bt s (i + 1) = 48 + v % 10) : dval s 2 i 0 = some v := by
  rw [dval_two, if_pos (by omega)]; congr 1; omega
theorem dval_is4 (s : ByteArray) (i v : Int) (h0 : 0 ≤ v) (h1 : v ≤ 9999) (hs : i + 3 < (s.size : Int)) (a : bt s i = 48 + v / 1000) (b : bt s (i + 1) = 48 + v / 100 % 10) (c : bt s (i + 2) = 48 + v / 10 % 10) (d : bt s (i + 3) = 48 + v % 10) : dval s 4 i 0 = some v := by
  simp only [dval]
  rw [show i + 1 + 1 = i + 2 by omega, show i + 2 + 1 = i + 3 by omega, a, b, c, d, if_pos (by omega), if_pos (by omega), if_pos (by omega), if_pos (by omega)]
  congr 1; omega
theorem son_size (l : List Int) : (strOfNums l).size = l.length := by simp [strOfNums, ByteArray.size]
theorem bt_son (l : List Int) (h : ∀ x ∈ l, 0 ≤ x ∧ x ≤ 255) (i : Nat) (hi : i < l.length) : bt (strOfNums l) i = l[i] := by
  unfold bt
  rw [dif_pos (by rw [son_size]; omega)]
  have hx := h l[i] (List.getElem_mem hi)
  show (((strOfNums l).data[i]'(by simpa [strOfNums] using hi)).toNat : Int) = l[i]
  simp only [strOfNums, List.getElem_toArray, List.getElem_map]
  rw [UInt8.toNat_ofNat']
  omega
theorem real_of {y m d h mi s : Int} (D : Date6 y m d h mi s) : Real y m d h mi s := by
  obtain ⟨n, v⟩ := D.v
  exact ⟨v.y0, v.y1, v.m0, v.m1, v.d0, v.d1, D.h0, D.h1, D.mi0, D.mi1, D.s0, D.s1⟩
theorem date_of {y m d h mi s : Int} (r : Real y m d h mi s) : Date6 y m d h mi s :=
  ⟨⟨_, r.valid⟩, r.2.2.2.2.2.2.1, r.2.2.2.2.2.2.2.1, r.2.2.2.2.2.2.2.2.1, r.2.2.2.2.2.2.2.2.2.1, r.2.2.2.2.2.2.2.2.2.2.1, r.2.2.2.2.2.2.2.2.2.2.2⟩
theorem second_bd {y m d h mi s : Int} (r : Real y m d h mi s) : 0 ≤ second y m d h mi s ∧ second y m d h mi s ≤ 253402300799 := by
  have b := r.bd
  obtain ⟨_, _, _, _, _, _, _, _, _, _, _, _⟩ := r
  unfold second; omega
theorem second_civil {y m d h mi s : Int} (r : Real y m d h mi s) :
    Ev (fun k => when_Civil.f k (second y m d h mi s)) (y, m, d, h, mi, s, true) ∧ Ev (fun k => stowageref4_Civil.f k (second y m d h mi s)) (y, m, d, h, mi, s, true) := by
  have b := second_bd r
  obtain ⟨y', m', d', h', mi', s', D, hv, e1, e2, e3, ha, hb⟩ := civil6 _ b.1 b.2
  have hr := r.valid
  have c := r
  obtain ⟨_, _, _, _, _, _, _, _, _, _, _, _⟩ := c
  have hd : second y m d h mi s / 86400 = dby y + cum y m + d - 1 := by unfold second; omega
  rw [hd] at hv
  obtain ⟨rfl, rfl, rfl⟩ := hr.unique hv
  have x1 : h' = h := by rw [e1]; unfold second; omega
  have x2 : mi' = mi := by rw [e2]; unfold second; omega
  have x3 : s' = s := by rw [e3]; unfold second; omega
  subst x1 x2 x3
  exact ⟨ha, hb⟩
theorem civil_second (t : Int) (h0 : 0 ≤ t) (h1 : t ≤ 253402300799) : ∃ y m d h mi s, Real y m d h mi s ∧ t = second y m d h mi s := by
  obtain ⟨y, m, d, h, mi, s, D, hv, e1, e2, e3, _, _⟩ := civil6 t h0 h1
  refine ⟨y, m, d, h, mi, s, real_of D, ?_⟩
  have := hv.num
  unfold second; omega
def allOf (s : ByteArray) : List (Int × Nat) → Option (List Int)
  | [] => some []
  | (a, b) :: l => match dval s b a 0 with | none => none | some v => (allOf s l).map (v :: ·)
def S116of (p : Int × Nat) : S116 := ⟨p.1, (p.2 : Int)⟩
theorem all_l0 (s : ByteArray) (ps : List (Int × Nat)) (hps : ∀ p ∈ ps, 0 ≤ p.1 ∧ p.1 ≤ 50 ∧ p.2 ≤ 4) (hl : ps.length ≤ 10) (rest : List (Int × Nat)) : ∀ (done : List (Int × Nat)) (acc : List Int), ps = done ++ rest → acc.length = done.length →
    Ev (fun k => when_all.l0 k s acc (ps.map S116of) (ps.length : Int) (done.length : Int)) (match allOf s rest with | some l => (acc ++ l, true) | none => ([], false)) := by
  induction rest with
  | nil =>
    intro done acc e hacc
    have hd : done.length = ps.length := by rw [e]; simp
    refine Ev.step (f := fun _ => some (acc ++ [], true)) (fun k => ?_) (Ev.now _)
    rw [when_all.l0, if_neg (by omega), List.append_nil]
  | cons p rest ih =>
    intro done acc e hacc
    have hlen : ps.length = done.length + (rest.length + 1) := by rw [e]; simp
    have hp := hps p (by rw [e]; simp)
    obtain ⟨a, b⟩ := p
    have hrd : rd_T116 (ps.map S116of) (done.length : Int) = ⟨a, (b : Int)⟩ := by
      unfold rd_T116
      rw [e]
      simp [S116of]
    refine Ev.step (f := fun k => _) (fun k => by rw [when_all.l0, if_pos (by omega), if_pos (by omega), if_pos (by rw [List.length_map]; omega), hrd]) ?_
    refine Ev.bind (get_ev s a b hp.1 hp.2.1 hp.2.2) ?_
    rw [allOf]
    cases hv : dval s b a 0 with
    | none => exact ev_neg (by simp [pairOf]) (Ev.now _)
    | some v =>
      refine ev_pos rfl ?_
      refine ev_pos (by omega) ?_
      rw [w64 (n := (done.length : Int) + 1) (by omega) (by omega)]
      have h := ih (done ++ [(a, b)]) (acc ++ [v]) (by rw [e]; simp) (by simp [hacc])
      rw [show ((done ++ [(a, b)]).length : Int) = (done.length : Int) + 1 by simp] at h
      refine ev_eq h ?_
      cases allOf s rest with
      | none => rfl
      | some l => simp
theorem all_ev (s : ByteArray) (ps : List (Int × Nat)) (hps : ∀ p ∈ ps, 0 ≤ p.1 ∧ p.1 ≤ 50 ∧ p.2 ≤ 4) (hl : ps.length ≤ 10) :
    Ev (fun k => when_all.f k s (ps.map S116of)) (match allOf s ps with | some l => (l, true) | none => ([], false)) := by
  have h := all_l0 s ps hps hl ps [] [] rfl rfl
  refine Ev.congr (fun k => ?_) (ev_eq h ?_)
  · rw [when_all.f, List.length_map]; rfl
  · cases allOf s ps <;> rfl
theorem as_son (b : ByteArray) : b = strOfNums (bytesOf b) := by
  apply ByteArray.ext
  apply Array.toList_inj.mp
  simp only [strOfNums, bytesOf, List.map_map]
  conv => lhs; rw [← List.map_id b.data.toList]
  apply List.map_congr_left
  intro x _
  simp [Function.comp]
theorem bytesOf_range (b : ByteArray) : ∀ x ∈ bytesOf b, 0 ≤ x ∧ x ≤ 255 := by
  intro x hx
  simp only [bytesOf, List.mem_map] at hx
  obtain ⟨u, _, rfl⟩ := hx
  have := u.toNat_lt
  omega
theorem bytesOf_length (b : ByteArray) : (bytesOf b).length = b.size := by simp [bytesOf]
theorem three (b : ByteArray) (h : b.size = 3) : ∃ x y z : Int, (0 ≤ x ∧ x ≤ 255) ∧ (0 ≤ y ∧ y ≤ 255) ∧ (0 ≤ z ∧ z ≤ 255) ∧ b = strOfNums [x, y, z] := by
  have hr := bytesOf_range b
  have hl := bytesOf_length b
  have e := as_son b
  rw [h] at hl
  match hb : bytesOf b, hl with
  | [x, y, z], _ =>
    rw [hb] at hr e
    exact ⟨x, y, z, hr x (by simp), hr y (by simp), hr z (by simp), e⟩
def dow (y m d : Int) : Int := (dby y + cum y m + d - 1) % 7
def httpD (y m d h mi s : Int) : ByteArray := httpT (dow y m d) y m d h mi s
theorem second_day {y m d h mi s : Int} (r : Real y m d h mi s) : second y m d h mi s / 86400 % 7 = dow y m d := by
  obtain ⟨_, _, _, _, _, _, _, _, _, _, _, _⟩ := r
  have hd : second y m d h mi s / 86400 = dby y + cum y m + d - 1 := by unfold second; omega
  rw [hd]; rfl
theorem httpD_ev {y m d h mi s : Int} (r : Real y m d h mi s) : Ev (fun k => when_Http.f k (second y m d h mi s)) (httpD y m d h mi s) ∧ Ev (fun k => stowageref4_Http.f k (second y m d h mi s)) (httpD y m d h mi s) := by
  have b := second_bd r
  have c := second_civil r
  have h1 := http_ev _ b.1 b.2 y m d h mi s (date_of r) c.1
  have h2 := rhttp_ev _ b.1 b.2 y m d h mi s (date_of r) c.2
  rw [second_day r] at h1 h2
  exact ⟨h1, h2⟩
theorem httpD_bytes {y m d h mi s : Int} (D : Date6 y m d h mi s) : ∃ a b c e f g : Int, (0 ≤ a ∧ a ≤ 255) ∧ (0 ≤ b ∧ b ≤ 255) ∧ (0 ≤ c ∧ c ≤ 255) ∧ (0 ≤ e ∧ e ≤ 255) ∧ (0 ≤ f ∧ f ≤ 255) ∧ (0 ≤ g ∧ g ≤ 255) ∧ mo m = strOfNums [e, f, g] ∧
    httpD y m d h mi s = strOfNums [a, b, c, 44, 32, 48 + d / 10, 48 + d % 10, 32, e, f, g, 32, 48 + y / 1000, 48 + y / 100 % 10, 48 + y / 10 % 10, 48 + y % 10, 32, 48 + h / 10, 48 + h % 10, 58, 48 + mi / 10, 48 + mi % 10, 58, 48 + s / 10, 48 + s % 10, 32, 71, 77, 84] := by
  have bd := D.bd
  obtain ⟨a, b, c, ha, hb, hc, e1⟩ := three (wd (dow y m d)) (wd_size _ (by unfold dow; omega) (by unfold dow; omega))
  obtain ⟨e, f, g, he, hf, hg, e2⟩ := three (mo m) (mo_size m bd.2.2.1 bd.2.2.2.1)
  refine ⟨a, b, c, e, f, g, ha, hb, hc, he, hf, hg, e2, ?_⟩
  rw [httpD, httpT, e1, e2, p4, p2, p2, p2, p2, show (⟨#[44, 32]⟩ : ByteArray) = strOfNums [44, 32] from rfl, show (⟨#[32]⟩ : ByteArray) = strOfNums [32] from rfl, show (⟨#[58]⟩ : ByteArray) = strOfNums [58] from rfl, show (⟨#[32, 71, 77, 84]⟩ : ByteArray) = strOfNums [32, 71, 77, 84] from rfl]
  simp only [son_append]
  rfl
theorem son_extract (l : List Int) (i j : Nat) : (strOfNums l).extract i j = strOfNums ((l.take j).drop i) := by
  apply ByteArray.ext
  apply Array.toList_inj.mp
  rw [ByteArray.data_extract, Array.toList_extract]
  simp [strOfNums, List.extract, List.map_drop, List.map_take, List.drop_take]
theorem httpD_fields {y m d h mi s : Int} (D : Date6 y m d h mi s) : (httpD y m d h mi s).size = 29 ∧ (httpD y m d h mi s).extract 8 11 = mo m ∧
    dval (httpD y m d h mi s) 4 12 0 = some y ∧ dval (httpD y m d h mi s) 2 5 0 = some d ∧ dval (httpD y m d h mi s) 2 17 0 = some h ∧ dval (httpD y m d h mi s) 2 20 0 = some mi ∧ dval (httpD y m d h mi s) 2 23 0 = some s := by
  have bd := D.bd
  have := D.h0; have := D.h1; have := D.mi0; have := D.mi1; have := D.s0; have := D.s1
  obtain ⟨a, b, c, e, f, g, ha, hb, hc, he, hf, hg, e2, e1⟩ := httpD_bytes D
  have hr : ∀ x ∈ [a, b, c, 44, 32, 48 + d / 10, 48 + d % 10, 32, e, f, g, 32, 48 + y / 1000, 48 + y / 100 % 10, 48 + y / 10 % 10, 48 + y % 10, 32, 48 + h / 10, 48 + h % 10, 58, 48 + mi / 10, 48 + mi % 10, 58, 48 + s / 10, 48 + s % 10, 32, 71, 77, 84], 0 ≤ x ∧ x ≤ 255 := by
    intro x hx
    simp only [List.mem_cons, List.not_mem_nil, or_false] at hx
    rcases hx with rfl | rfl | rfl | rfl | rfl | rfl | rfl | rfl | rfl | rfl | rfl | rfl | rfl | rfl | rfl | rfl | rfl | rfl | rfl | rfl | rfl | rfl | rfl | rfl | rfl | rfl | rfl | rfl | rfl <;> omega
  have hz : (httpD y m d h mi s).size = 29 := by rw [e1]; rfl
  have at_ : ∀ (i : Nat) (hi : i < 29), bt (httpD y m d h mi s) i = [a, b, c, 44, 32, 48 + d / 10, 48 + d % 10, 32, e, f, g, 32, 48 + y / 1000, 48 + y / 100 % 10, 48 + y / 10 % 10, 48 + y % 10, 32, 48 + h / 10, 48 + h % 10, 58, 48 + mi / 10, 48 + mi % 10, 58, 48 + s / 10, 48 + s % 10, 32, 71, 77, 84][i]'hi := by
    intro i hi
    rw [e1]; exact bt_son _ hr i hi
  refine ⟨hz, by rw [e1, son_extract, e2]; rfl, ?_, ?_, ?_, ?_, ?_⟩
  · exact dval_is4 _ _ _ (by omega) (by omega) (by omega) (at_ 12 (by decide)) (at_ 13 (by decide)) (at_ 14 (by decide)) (at_ 15 (by decide))
  · exact dval_is2 _ _ _ (by omega) (by omega) (by omega) (at_ 5 (by decide)) (at_ 6 (by decide))
  · exact dval_is2 _ _ _ (by omega) (by omega) (by omega) (at_ 17 (by decide)) (at_ 18 (by decide))
  · exact dval_is2 _ _ _ (by omega) (by omega) (by omega) (at_ 20 (by decide)) (at_ 21 (by decide))
  · exact dval_is2 _ _ _ (by omega) (by omega) (by omega) (at_ 23 (by decide)) (at_ 24 (by decide))
theorem mo_index_all : ∀ i : Fin 12, Lib.index (⟨#[74, 97, 110, 70, 101, 98, 77, 97, 114, 65, 112, 114, 77, 97, 121, 74, 117, 110, 74, 117, 108, 65, 117, 103, 83, 101, 112, 79, 99, 116, 78, 111, 118, 68, 101, 99]⟩ : ByteArray).data.toList (mo ((i.val : Int) + 1)).data.toList = 3 * (i.val : Int) := by decide +kernel
theorem mo_index (m : Int) (h0 : 1 ≤ m) (h1 : m ≤ 12) : Lib.index (⟨#[74, 97, 110, 70, 101, 98, 77, 97, 114, 65, 112, 114, 77, 97, 121, 74, 117, 110, 74, 117, 108, 65, 117, 103, 83, 101, 112, 79, 99, 116, 78, 111, 118, 68, 101, 99]⟩ : ByteArray).data.toList (mo m).data.toList = 3 * (m - 1) := by
  have h := mo_index_all ⟨(m - 1).toNat, by omega⟩
  rw [show (((⟨(m - 1).toNat, by omega⟩ : Fin 12).val : Nat) : Int) = m - 1 by show (((m - 1).toNat : Nat) : Int) = m - 1; omega, show m - 1 + 1 = m by omega] at h
  exact h
def httpAt : List (Int × Nat) := [(12, 4), (5, 2), (17, 2), (20, 2), (23, 2)]
theorem httpAt_ok : ∀ p ∈ httpAt, 0 ≤ p.1 ∧ p.1 ≤ 50 ∧ p.2 ≤ 4 := by decide
theorem phttp_tail (a : ByteArray) (y m d h mi s : Int) :
    (∀ (_ : Real y m d h mi s), httpD y m d h mi s = a → Ev (fun k => (when_Of.f k y m d h mi s).bind fun bt330 => (if bt330.2 = true then ((when_Http.f k bt330.1).bind fun t332 => (if t332.toList = a.toList then (some (bt330.1, true)) else (some (0, false)))) else (some (0, false)))) (second y m d h mi s, true)) ∧
    ((∀ (_ : Real y m d h mi s), httpD y m d h mi s ≠ a) → Ev (fun k => (when_Of.f k y m d h mi s).bind fun bt330 => (if bt330.2 = true then ((when_Http.f k bt330.1).bind fun t332 => (if t332.toList = a.toList then (some (bt330.1, true)) else (some (0, false)))) else (some (0, false)))) (0, false)) := by
  have h0 := of_ev y m d h mi s
  constructor
  · intro r e
    rw [if_pos r] at h0
    refine Ev.bind h0 (ev_pos rfl (Ev.bind (httpD_ev r).1 ?_))
    exact ev_pos (by rw [e]) (Ev.now _)
  · intro hn
    by_cases r : Real y m d h mi s
    · rw [if_pos r] at h0
      refine Ev.bind h0 (ev_pos rfl (Ev.bind (httpD_ev r).1 ?_))
      exact ev_neg (fun e => hn r (toList_inj e)) (Ev.now _)
    · rw [if_neg r] at h0
      refine Ev.bind h0 ?_
      exact ev_neg (by simp) (Ev.now _)
theorem phttp_j1 (a : ByteArray) (y d h mi s i : Int) (r : Int × Bool) (hr : Ev (fun k => (when_Of.f k y (wrap64 ((wrap64 (Int.tdiv i 3)) + 1)) d h mi s).bind fun bt330 => (if bt330.2 = true then ((when_Http.f k bt330.1).bind fun t332 => (if t332.toList = a.toList then (some (bt330.1, true)) else (some (0, false)))) else (some (0, false)))) r) :
    Ev (fun k => when_ParseHttp.j1 k a [y, d, h, mi, s] i false) r := by
  refine Ev.step (f := fun k => _) (fun k => by rw [when_ParseHttp.j1, if_neg (by simp)]) ?_
  refine ev_pos (by simp) (ev_pos (by simp) (ev_pos (by simp) (ev_pos (by simp) (ev_pos (by simp) ?_))))
  exact hr
theorem phttp_index (b : ByteArray) : strings_Index.f (⟨#[74, 97, 110, 70, 101, 98, 77, 97, 114, 65, 112, 114, 77, 97, 121, 74, 117, 110, 74, 117, 108, 65, 117, 103, 83, 101, 112, 79, 99, 116, 78, 111, 118, 68, 101, 99]⟩ : ByteArray) b = some (Lib.index (⟨#[74, 97, 110, 70, 101, 98, 77, 97, 114, 65, 112, 114, 77, 97, 121, 74, 117, 110, 74, 117, 108, 65, 117, 103, 83, 101, 112, 79, 99, 116, 78, 111, 118, 68, 101, 99]⟩ : ByteArray).data.toList b.data.toList) := by
  unfold strings_Index.f; rw [if_pos (by decide)]
theorem phttp_yes {y m d h mi s : Int} (r : Real y m d h mi s) : Ev (fun k => when_ParseHttp.f k (httpD y m d h mi s)) (second y m d h mi s, true) := by
  obtain ⟨hz, hx, e1, e2, e3, e4, e5⟩ := httpD_fields (date_of r)
  have ha := all_ev (httpD y m d h mi s) httpAt httpAt_ok (by decide)
  rw [show allOf (httpD y m d h mi s) httpAt = some [y, d, h, mi, s] by simp only [allOf, httpAt, e1, e2, e3, e4, e5]; rfl] at ha
  simp only [when_ParseHttp.f]
  refine Ev.bind (a := ([y, d, h, mi, s], true)) ha ?_
  refine ev_pos rfl ?_
  rw [show (((httpD y m d h mi s).size : Int) != 29) = false by rw [hz]; rfl]
  have m0 := r.2.2.1
  have m1 := r.2.2.2.1
  refine Ev.step (f := fun k => _) (fun k => by rw [when_ParseHttp.j0, if_neg (by simp), if_pos (by omega), if_pos (by omega), hx, phttp_index, mo_index m m0 m1, Option.bind_some, if_neg (by omega)]) ?_
  rw [show (Int.tmod (3 * (m - 1)) 3 != 0) = false by rw [tmod_pos (by omega)]; simp]
  refine phttp_j1 _ y d h mi s _ _ ?_
  rw [tdiv_pos (by omega), w64 (n := 3 * (m - 1) / 3) (by omega) (by omega), w64 (by omega) (by omega), show 3 * (m - 1) / 3 + 1 = m by omega]
  exact (phttp_tail _ y m d h mi s).1 r rfl
end Go.Proofs.YtfjidcmegacibaaDoor.Pure.Date
