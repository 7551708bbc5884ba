/- A part of the proof of the seat's laws. No condition beyond those in the theorems. -/
import Derived.Test.YteggifhicmbopaaZWhenBase
import Derived.Test.YteggifhicmbopaaZQ20
import Derived.Test.YteggifhicmbopaaZQ21

namespace Go.Proofs.Yteggifhicmbopaa.Pure
open Go.RowKit Go.Proofs.Yteggifhicmbopaa.Q Go.Proofs.YteggifhicmbopaaW.PrintWords Go.Proofs.YteggifhicmbopaaW.PrintLast Cal
set_option linter.unusedVariables false
set_option linter.unusedSimpArgs false
theorem rleap_eq (y : Int) (hy : 0 ≤ y) : stowageref4_leap.f y = some (leap y) := by
  unfold stowageref4_leap.f
  rw [tmod_pos hy, tmod_pos hy, tmod_pos hy]
  cases h : leap y with
  | true =>
    rw [leap_iff] at h
    rw [if_pos h.1]
    split
    · have : y % 400 = 0 := by omega
      simp [this]
    · rfl
  | false =>
    have h' : ¬ (y % 4 = 0 ∧ (¬ y % 100 = 0 ∨ y % 400 = 0)) := by rw [← leap_iff, h]; simp
    have h4 : ¬ y % 400 = 0 := by omega
    split
    · split
      · simp [h4]
      · omega
    · simp [h4]
theorem ryear_eq (y : Int) (hy : 0 ≤ y) : stowageref4_year.f y = some (365 + L y) := by
  unfold stowageref4_year.f
  rw [rleap_eq y hy, Option.bind_some]
  cases h : leap y with
  | true => rw [L_leap h]; rfl
  | false => rw [L_not h]; rfl
theorem rsize_ev (y m : Int) (hy : 0 ≤ y) : Ev (fun k => stowageref4_size.f k y m) (size y m) := by
  have hj : ∀ b : Bool, Ev (fun k => stowageref4_size.j0 k y m b) (if b = true then 30 else if m = 2 then 28 + L y else 31) := by
    intro b
    refine Ev.step (f := fun _ => some _) (fun k => ?_) (Ev.now _)
    simp only [stowageref4_size.j0]
    cases b with
    | true => rfl
    | false =>
      simp only [Bool.false_eq_true, if_false]
      split
      · rw [rleap_eq y hy, Option.bind_some]
        cases h : leap y with
        | true => rw [L_leap h]; rfl
        | false => rw [L_not h]; rfl
      · rfl
  simp only [stowageref4_size.f]
  by_cases h4 : m = 4
  · refine ev_pos h4 (ev_eq (hj _) ?_)
    subst h4; simp [size]
  · refine ev_neg h4 ?_
    by_cases h6 : m = 6
    · refine ev_pos h6 (ev_eq (hj _) ?_)
      subst h6; simp [size]
    · refine ev_neg h6 ?_
      by_cases h9 : m = 9
      · refine ev_pos h9 (ev_eq (hj _) ?_)
        subst h9; simp [size]
      · refine ev_neg h9 (ev_eq (hj _) ?_)
        simp only [size, beq_iff_eq, h9, h4, h6, false_or]
theorem rcivil_l1 (y h mi s : Int) (hy0 : 1970 ≤ y) (hy1 : y ≤ 9999) (j : Nat) : ∀ (m n dd : Int), 1 ≤ m → m + j = 12 → 0 ≤ n → cum y m + n < 365 + L y →
    ∃ m' d', Valid y m' d' (dby y + cum y m + n) ∧ Ev (fun k => stowageref4_Civil.l1 k n y m dd h mi s) (y, m', d', h, mi, s, true) := by
  have stop : ∀ (m n dd : Int), 1 ≤ m → m ≤ 12 → 0 ≤ n → ¬ n ≥ size y m → ∃ m' d', Valid y m' d' (dby y + cum y m + n) ∧ Ev (fun k => stowageref4_Civil.l1 k n y m dd h mi s) (y, m', d', h, mi, s, true) := by
    intro m n dd h1 h2 hn c
    have hs := size_bd y m
    refine ⟨m, n + 1, ⟨hy0, hy1, by omega, by omega, by omega, by omega, by omega⟩, ?_⟩
    refine Ev.step (f := fun k => _) (fun k => by rw [stowageref4_Civil.l1]) ?_
    refine Ev.bind (rsize_ev y m (by omega)) ?_
    refine ev_neg c (ev_eq (Ev.now _) ?_)
    rw [w64 (by omega) (by omega)]
  induction j with
  | zero =>
    intro m n dd h1 hj hn hb
    have hm : m = 12 := by omega
    have hc := cum_succ y m h1 (by omega)
    subst hm
    rw [show (12 : Int) + 1 = 13 from rfl, cum_end] at hc
    exact stop 12 n dd (by omega) (by omega) hn (by omega)
  | succ j ih =>
    intro m n dd h1 hj hn hb
    have hs := size_bd y m
    have hc := cum_succ y m h1 (by omega)
    by_cases c : n ≥ size y m
    · obtain ⟨m', d', hv, he⟩ := ih (m + 1) (n - size y m) dd (by omega) (by omega) (by omega) (by omega)
      refine ⟨m', d', by rw [show dby y + cum y m + n = dby y + cum y (m + 1) + (n - size y m) by omega]; exact hv, ?_⟩
      refine Ev.step (f := fun k => _) (fun k => by rw [stowageref4_Civil.l1]) ?_
      refine Ev.bind (rsize_ev y m (by omega)) ?_
      refine ev_pos c ?_
      refine Ev.bind (rsize_ev y m (by omega)) ?_
      have hL := L_two y
      have hcb := cum_bd y m h1 (by omega)
      rw [w64 (n := m + 1) (by omega) (by omega), w64 (n := n - size y m) (by omega) (by omega)]
      exact he
    · exact stop m n dd h1 (by omega) hn c
theorem rcivil_l0 (t h mi s : Int) (ht : t < dby 10000) (j : Nat) : ∀ (y n dd : Int), 1970 ≤ y → y + j = 9999 → dby y ≤ t → n = t - dby y →
    ∃ y' m' d', Valid y' m' d' t ∧ Ev (fun k => stowageref4_Civil.l0 k n y 1 dd h mi s) (y', m', d', h, mi, s, true) := by
  have fin : ∀ (y n dd : Int), 1970 ≤ y → y ≤ 9999 → dby y ≤ t → t < dby (y + 1) → n = t - dby y → ∃ y' m' d', Valid y' m' d' t ∧ Ev (fun k => stowageref4_Civil.l0 k n y 1 dd h mi s) (y', m', d', h, mi, s, true) := by
    intro y n dd h0 h1 h2 h3 hn
    have hd := dby_succ y
    obtain ⟨m', d', hv, he⟩ := rcivil_l1 y h mi s h0 h1 11 1 n dd (by omega) (by omega) (by omega) (by rw [cum_one]; omega)
    rw [cum_one, show dby y + 0 + n = t by omega] at hv
    refine ⟨y, m', d', hv, ?_⟩
    refine Ev.step (f := fun k => _) (fun k => by rw [stowageref4_Civil.l0, ryear_eq y (by omega), Option.bind_some, if_neg (by omega)]) ?_
    exact he
  induction j with
  | zero =>
    intro y n dd h0 hj h2 hn
    obtain rfl : y = 9999 := by omega
    exact fin 9999 n dd (by omega) (by omega) h2 ht hn
  | succ j ih =>
    intro y n dd h0 hj h2 hn
    have hd := dby_succ y
    have hL := L_two y
    by_cases c : dby (y + 1) ≤ t
    · obtain ⟨y', m', d', hv, he⟩ := ih (y + 1) (n - (365 + L y)) dd (by omega) (by omega) c (by omega)
      refine ⟨y', m', d', hv, ?_⟩
      have hb := dby_le y 10000 (by omega)
      have hz := dby_le 1970 y (by omega)
      rw [dby_1970] at hz
      rw [dby_10000] at hb ht
      refine Ev.step (f := fun k => _) (fun k => by rw [stowageref4_Civil.l0, ryear_eq y (by omega), Option.bind_some, if_pos (by omega), Option.bind_some, w64 (n := y + 1) (by omega) (by omega), w64 (n := n - (365 + L y)) (by omega) (by omega)]) ?_
      exact he
    · exact fin y n dd h0 (by omega) h2 (by omega) hn
theorem rcivil_ev (t : Int) (h0 : 0 ≤ t) (h1 : t ≤ 253402300799) : ∃ y m d, Valid y m d (t / 86400) ∧ Ev (fun k => stowageref4_Civil.f k t) (y, m, d, t / 3600 % 24, t / 60 % 60, t % 60, true) := by
  obtain ⟨y, m, d, hv, he⟩ := rcivil_l0 (t / 86400) (t / 3600 % 24) (t / 60 % 60) (t % 60) (by rw [dby_10000]; omega) 8029 1970 (t / 86400) 0 (by omega) (by omega) (by rw [dby_1970]; omega) (by rw [dby_1970]; omega)
  refine ⟨y, m, d, hv, ?_⟩
  refine Ev.congr (fun k => by rw [stowageref4_Civil.f, if_neg (by omega), decide_eq_false (by omega)]) ?_
  refine Ev.step (f := fun k => _) (fun k => by rw [stowageref4_Civil.j0, if_neg (by simp), hour_eq t h0 h1, min_eq t h0 h1, tmod_pos h0, tdiv_pos h0, w64 (n := t / 86400) (by omega) (by omega)]) ?_
  exact he
theorem rcivil_out (t : Int) (h : ¬ (0 ≤ t ∧ t ≤ 253402300799)) : Ev (fun k => stowageref4_Civil.f k t) (0, 0, 0, 0, 0, 0, false) := by
  have hj : Ev (fun k => stowageref4_Civil.j0 k t true) (0, 0, 0, 0, 0, 0, false) := Ev.step (f := fun _ => _) (fun k => by rw [stowageref4_Civil.j0, if_pos rfl]) (Ev.now _)
  simp only [stowageref4_Civil.f]
  by_cases c : t < 0
  · exact ev_pos c hj
  · refine ev_neg c ?_
    rw [decide_eq_true (by omega)]
    exact hj
def Real (y m d h mi s : Int) : Prop := 1970 ≤ y ∧ y ≤ 9999 ∧ 1 ≤ m ∧ m ≤ 12 ∧ 1 ≤ d ∧ d ≤ size y m ∧ 0 ≤ h ∧ h ≤ 23 ∧ 0 ≤ mi ∧ mi ≤ 59 ∧ 0 ≤ s ∧ s ≤ 59
instance (y m d h mi s : Int) : Decidable (Real y m d h mi s) := by unfold Real; infer_instance
def second (y m d h mi s : Int) : Int := (dby y + cum y m + d - 1) * 86400 + h * 3600 + mi * 60 + s
theorem Real.valid {y m d h mi s : Int} (r : Real y m d h mi s) : Valid y m d (dby y + cum y m + d - 1) := by
  obtain ⟨a, b, c, e, f, g, _⟩ := r
  exact ⟨a, b, c, e, f, g, rfl⟩
theorem Real.bd {y m d h mi s : Int} (r : Real y m d h mi s) : 0 ≤ dby y + cum y m + d - 1 ∧ dby y + cum y m + d - 1 ≤ 2932896 := r.valid.bd
theorem of_1 (a b c : Int) : when_Of_1.f a b c = some (decide (b ≤ a ∧ a ≤ c)) := by
  unfold when_Of_1.f
  by_cases h : a ≥ b
  · rw [if_pos h]; simp [h]
  · rw [if_neg h]; simp; intro h2; omega
theorem of_l0 (y m h mi s b : Int) (hy0 : 1970 ≤ y) (hm1 : m ≤ 12) (hh : 0 ≤ h ∧ h ≤ 23) (hmi : 0 ≤ mi ∧ mi ≤ 59) (hs : 0 ≤ s ∧ s ≤ 59) (hb : 0 ≤ b ∧ b ≤ 2932897) (j : Nat) : ∀ i : Int, 1 ≤ i → i + j = m →
    Ev (fun k => when_Of.l0 k y m h mi s (b + cum y i) i) ((b + cum y m) * 86400 + h * 3600 + mi * 60 + s, true) := by
  induction j with
  | zero =>
    intro i h1 hj
    obtain rfl : i = m := by omega
    have hc := cum_bd y i h1 (by omega)
    refine Ev.step (f := fun _ => some ((b + cum y i) * 86400 + h * 3600 + mi * 60 + s, true)) (fun k => ?_) (Ev.now _)
    rw [when_Of.l0, if_neg (by omega)]
    generalize cum y i = c at *
    rw [w64 (n := (b + c) * 24) (by omega) (by omega), w64 (n := (b + c) * 24 + h) (by omega) (by omega), w64 (n := ((b + c) * 24 + h) * 60) (by omega) (by omega), w64 (n := ((b + c) * 24 + h) * 60 + mi) (by omega) (by omega), w64 (n := (((b + c) * 24 + h) * 60 + mi) * 60) (by omega) (by omega), w64 (by omega) (by omega)]
    rw [show (((b + c) * 24 + h) * 60 + mi) * 60 + s = (b + c) * 86400 + h * 3600 + mi * 60 + s by omega]
  | succ j ih =>
    intro i h1 hj
    have hc := cum_bd y i h1 (by omega)
    have hz := size_bd y i
    have e := cum_succ y i h1 (by omega)
    refine Ev.step (f := fun k => _) (fun k => by rw [when_Of.l0, if_pos (by omega)]) ?_
    refine Ev.bind (size_ev y i (by omega)) ?_
    rw [w64 (n := b + cum y i + size y i) (by omega) (by omega), w64 (n := i + 1) (by omega) (by omega), show b + cum y i + size y i = b + cum y (i + 1) by omega]
    exact ih (i + 1) (by omega) (by omega)
theorem of_ev (y m d h mi s : Int) : Ev (fun k => when_Of.f k y m d h mi s) (if Real y m d h mi s then (second y m d h mi s, true) else (0, false)) := by
  have jt : ∀ (b : Bool), (b = true → ¬ Real y m d h mi s) → (b = false → Real y m d h mi s) → Ev (fun k => when_Of.j0 k y m d h mi s b) (if Real y m d h mi s then (second y m d h mi s, true) else (0, false)) := by
    intro b hb1 hb0
    cases b with
    | true => exact Ev.step (f := fun _ => some _) (fun k => by rw [when_Of.j0, if_pos rfl, if_neg (hb1 rfl)]) (Ev.now _)
    | false =>
      have r := hb0 rfl
      have hbd := r.bd
      have hv := r.valid
      obtain ⟨a1, a2, a3, a4, a5, a6, a7, a8, a9, b1, b2, b3⟩ := r
      rw [if_pos (hb0 rfl)]
      have hy := hv.in_year
      have hc := cum_bd y m a3 (by omega)
      have h19 := dby_le 1970 y a1
      have h99 := dby_le y 10000 (by omega)
      rw [dby_1970] at h19
      rw [dby_10000] at h99
      refine Ev.step (f := fun k => _) (fun k => by rw [when_Of.j0, if_neg (by simp), before_eq y (by omega) (by omega), Option.bind_some]) ?_
      have hz := size_bd y m
      rw [w64 (n := dby y + d) (by omega) (by omega), w64 (n := dby y + d - 1) (by omega) (by omega)]
      have q := of_l0 y m h mi s (dby y + d - 1) a1 a4 ⟨a7, a8⟩ ⟨a9, b1⟩ ⟨b2, b3⟩ (by omega) (m - 1).toNat 1 (by omega) (by omega)
      rw [cum_one, show dby y + d - 1 + 0 = dby y + d - 1 by omega, show (dby y + d - 1 + cum y m) * 86400 + h * 3600 + mi * 60 + s = second y m d h mi s by unfold second; omega] at q
      exact q
  refine Ev.congr (fun k => by rw [when_Of.f, of_1, Option.bind_some]) ?_
  by_cases c1 : 1970 ≤ y ∧ y ≤ 9999
  case neg => exact ev_neg (by simpa using c1) (jt true (fun _ r => c1 ⟨r.1, r.2.1⟩) (by simp))
  refine ev_pos (by simpa using c1) ?_
  refine Ev.congr (fun k => by rw [of_1, Option.bind_some]) ?_
  by_cases c2 : 1 ≤ m ∧ m ≤ 12
  case neg => exact ev_neg (by simpa using c2) (jt true (fun _ r => c2 ⟨r.2.2.1, r.2.2.2.1⟩) (by simp))
  refine ev_pos (by simpa using c2) ?_
  refine Ev.bind (size_ev y m (by omega)) ?_
  refine Ev.congr (fun k => by rw [of_1, Option.bind_some]) ?_
  by_cases c3 : 1 ≤ d ∧ d ≤ size y m
  case neg => exact ev_neg (by simpa using c3) (jt true (fun _ r => c3 ⟨r.2.2.2.2.1, r.2.2.2.2.2.1⟩) (by simp))
  refine ev_pos (by simpa using c3) ?_
  refine Ev.congr (fun k => by rw [of_1, Option.bind_some]) ?_
  by_cases c4 : 0 ≤ h ∧ h ≤ 23
  case neg => exact ev_neg (by simpa using c4) (jt true (fun _ r => c4 ⟨r.2.2.2.2.2.2.1, r.2.2.2.2.2.2.2.1⟩) (by simp))
  refine ev_pos (by simpa using c4) ?_
  refine Ev.congr (fun k => by rw [of_1, Option.bind_some]) ?_
  by_cases c5 : 0 ≤ mi ∧ mi ≤ 59
  case neg => exact ev_neg (by simpa using c5) (jt true (fun _ r => c5 ⟨r.2.2.2.2.2.2.2.2.1, r.2.2.2.2.2.2.2.2.2.1⟩) (by simp))
  refine ev_pos (by simpa using c5) ?_
  refine Ev.congr (fun k => by rw [of_1, Option.bind_some]) ?_
  refine jt _ (fun hb r => ?_) (fun hb => ?_)
  · have := r.2.2.2.2.2.2.2.2.2.2
    simp at hb
    omega
  · simp at hb
    exact ⟨c1.1, c1.2, c2.1, c2.2, c3.1, c3.2, c4.1, c4.2, c5.1, c5.2, hb.1, hb.2⟩
theorem rof_l1 (y m d h mi s b : Int) (hy0 : 1970 ≤ y) (hm1 : m ≤ 12) (hh : 0 ≤ h ∧ h ≤ 23) (hmi : 0 ≤ mi ∧ mi ≤ 59) (hs : 0 ≤ s ∧ s ≤ 59) (hb : 0 ≤ b ∧ b ≤ 2932897) (j : Nat) : ∀ i : Int, 1 ≤ i → i + j = m →
    Ev (fun k => stowageref4_Of.l1 k (b + cum y i) i y m d h mi s) ((b + cum y m) * 86400 + h * 3600 + mi * 60 + s, true) := by
  induction j with
  | zero =>
    intro i h1 hj
    obtain rfl : i = m := by omega
    have hc := cum_bd y i h1 (by omega)
    refine Ev.step (f := fun _ => some ((b + cum y i) * 86400 + h * 3600 + mi * 60 + s, true)) (fun k => ?_) (Ev.now _)
    rw [stowageref4_Of.l1, if_neg (by omega)]
    generalize cum y i = c at *
    rw [w64 (n := (b + c) * 86400) (by omega) (by omega), w64 (n := h * 3600) (by omega) (by omega), w64 (n := (b + c) * 86400 + h * 3600) (by omega) (by omega), w64 (n := mi * 60) (by omega) (by omega), w64 (n := (b + c) * 86400 + h * 3600 + mi * 60) (by omega) (by omega), w64 (by omega) (by omega)]
  | succ j ih =>
    intro i h1 hj
    have hc := cum_bd y i h1 (by omega)
    have hz := size_bd y i
    have e := cum_succ y i h1 (by omega)
    refine Ev.step (f := fun k => _) (fun k => by rw [stowageref4_Of.l1, if_pos (by omega)]) ?_
    refine Ev.bind (rsize_ev y i (by omega)) ?_
    rw [w64 (n := b + cum y i + size y i) (by omega) (by omega), w64 (n := i + 1) (by omega) (by omega), show b + cum y i + size y i = b + cum y (i + 1) by omega]
    exact ih (i + 1) (by omega) (by omega)
theorem rof_l0 (y m d h mi s c : Int) (hc0 : 0 ≤ c ∧ c ≤ 31) (hy1 : y ≤ 9999) (r : Int × Bool) (hr : Ev (fun k => stowageref4_Of.l1 k (c + dby y) 1 y m d h mi s) r) (j : Nat) : ∀ i : Int, 1970 ≤ i → i + j = y →
    Ev (fun k => stowageref4_Of.l0 k (c + dby i) i y m d h mi s) r := by
  induction j with
  | zero =>
    intro i h1 hj
    obtain rfl : i = y := by omega
    exact Ev.step (f := fun k => _) (fun k => by rw [stowageref4_Of.l0, if_neg (by omega)]) hr
  | succ j ih =>
    intro i h1 hj
    have hd := dby_succ i
    have hL := L_two i
    have h19 := dby_le 1970 i h1
    have h99 := dby_le i 10000 (by omega)
    rw [dby_1970] at h19
    rw [dby_10000] at h99
    refine Ev.step (f := fun k => _) (fun k => by rw [stowageref4_Of.l0, if_pos (by omega), ryear_eq i (by omega), Option.bind_some, w64 (n := c + dby i + (365 + L i)) (by omega) (by omega), w64 (n := i + 1) (by omega) (by omega)]) ?_
    rw [show c + dby i + (365 + L i) = c + dby (i + 1) by omega]
    exact ih (i + 1) (by omega) (by omega)
theorem rof_ev (y m d h mi s : Int) : Ev (fun k => stowageref4_Of.f k y m d h mi s) (if Real y m d h mi s then (second y m d h mi s, true) else (0, false)) := by
  have jt : ∀ (b : Bool), (b = true → ¬ Real y m d h mi s) → (b = false → Real y m d h mi s) → Ev (fun k => stowageref4_Of.j0 k b y m d h mi s) (if Real y m d h mi s then (second y m d h mi s, true) else (0, false)) := by
    intro b hb1 hb0
    cases b with
    | true => exact Ev.step (f := fun _ => some _) (fun k => by rw [stowageref4_Of.j0, if_pos rfl, if_neg (hb1 rfl)]) (Ev.now _)
    | false =>
      have r := hb0 rfl
      have hbd := r.bd
      have hv := r.valid
      obtain ⟨a1, a2, a3, a4, a5, a6, a7, a8, a9, b1, b2, b3⟩ := r
      rw [if_pos (hb0 rfl)]
      have hy := hv.in_year
      have hc := cum_bd y m a3 (by omega)
      have h19 := dby_le 1970 y a1
      have h99 := dby_le y 10000 (by omega)
      rw [dby_1970] at h19
      rw [dby_10000] at h99
      have hz := size_bd y m
      refine Ev.step (f := fun k => _) (fun k => by rw [stowageref4_Of.j0, if_neg (by simp), w64 (n := d - 1) (by omega) (by omega)]) ?_
      have q := rof_l1 y m d h mi s (dby y + d - 1) a1 a4 ⟨a7, a8⟩ ⟨a9, b1⟩ ⟨b2, b3⟩ (by omega) (m - 1).toNat 1 (by omega) (by omega)
      rw [cum_one, show dby y + d - 1 + 0 = d - 1 + dby y by omega, show (dby y + d - 1 + cum y m) * 86400 + h * 3600 + mi * 60 + s = second y m d h mi s by unfold second; omega] at q
      have q2 := rof_l0 y m d h mi s (d - 1) (by omega) a2 _ q (y - 1970).toNat 1970 (by omega) (by omega)
      rw [dby_1970, show d - 1 + 0 = d - 1 by omega] at q2
      exact q2
  simp only [stowageref4_Of.f]
  by_cases c1 : y < 1970
  · exact ev_pos c1 (jt true (fun _ r => by have := r.1; omega) (by simp))
  refine ev_neg c1 ?_
  by_cases c2 : y > 9999
  · exact ev_pos c2 (jt true (fun _ r => by have := r.2.1; omega) (by simp))
  refine ev_neg c2 ?_
  by_cases c3 : m < 1
  · exact ev_pos c3 (jt true (fun _ r => by have := r.2.2.1; omega) (by simp))
  refine ev_neg c3 ?_
  by_cases c4 : m > 12
  · exact ev_pos c4 (jt true (fun _ r => by have := r.2.2.2.1; omega) (by simp))
  refine ev_neg c4 ?_
  by_cases c5 : d < 1
  · exact ev_pos c5 (jt true (fun _ r => by have := r.2.2.2.2.1; omega) (by simp))
  refine ev_neg c5 ?_
  refine Ev.bind (rsize_ev y m (by omega)) ?_
  by_cases c6 : d > size y m
  · exact ev_pos c6 (jt true (fun _ r => by have := r.2.2.2.2.2.1; omega) (by simp))
  refine ev_neg c6 ?_
  by_cases c7 : h < 0
  · exact ev_pos c7 (jt true (fun _ r => by have := r.2.2.2.2.2.2.1; omega) (by simp))
  refine ev_neg c7 ?_
  by_cases c8 : h > 23
  · exact ev_pos c8 (jt true (fun _ r => by have := r.2.2.2.2.2.2.2.1; omega) (by simp))
  refine ev_neg c8 ?_
  by_cases c9 : mi < 0
  · exact ev_pos c9 (jt true (fun _ r => by have := r.2.2.2.2.2.2.2.2.1; omega) (by simp))
  refine ev_neg c9 ?_
  by_cases d1 : mi > 59
  · exact ev_pos d1 (jt true (fun _ r => by have := r.2.2.2.2.2.2.2.2.2.1; omega) (by simp))
  refine ev_neg d1 ?_
  by_cases d2 : s < 0
  · exact ev_pos d2 (jt true (fun _ r => by have := r.2.2.2.2.2.2.2.2.2.2.1; omega) (by simp))
  refine ev_neg d2 ?_
  refine jt _ (fun hb r => ?_) (fun hb => ?_)
  · have := r.2.2.2.2.2.2.2.2.2.2.2
    simp at hb
    omega
  · simp at hb
    exact ⟨by omega, by omega, by omega, by omega, by omega, by omega, by omega, by omega, by omega, by omega, by omega, by omega⟩
end Go.Proofs.Yteggifhicmbopaa.Pure
