/- A part of the proof of the seat's laws. No condition beyond those in the theorems. -/
import Derived.KernelRfl

namespace Go.Proofs.YtfjidcmegacibaaDoor.Cal
def leap (y : Int) : Bool := decide (y % 4 = 0 ∧ (¬ y % 100 = 0 ∨ y % 400 = 0))
def L (y : Int) : Int := if leap y = true then 1 else 0
def size (y m : Int) : Int := if m = 4 ∨ m = 6 ∨ m = 9 ∨ m = 11 then 30 else if m = 2 then 28 + L y else 31
def dby (y : Int) : Int := (y - 1) * 365 + (y - 1) / 4 - (y - 1) / 100 + (y - 1) / 400 - 719162
def cum (y m : Int) : Int :=
  if m ≤ 1 then 0 else if m = 2 then 31 else if m = 3 then 59 + L y else if m = 4 then 90 + L y else if m = 5 then 120 + L y
  else if m = 6 then 151 + L y else if m = 7 then 181 + L y else if m = 8 then 212 + L y else if m = 9 then 243 + L y
  else if m = 10 then 273 + L y else if m = 11 then 304 + L y else if m = 12 then 334 + L y else 365 + L y
theorem L_two (y : Int) : L y = 0 ∨ L y = 1 := by unfold L; split <;> simp
theorem L_leap {y : Int} (h : leap y = true) : L y = 1 := by unfold L; rw [if_pos h]
theorem L_not {y : Int} (h : leap y = false) : L y = 0 := by unfold L; rw [h]; rfl
theorem leap_iff (y : Int) : leap y = true ↔ y % 4 = 0 ∧ (¬ y % 100 = 0 ∨ y % 400 = 0) := by unfold leap; simp
theorem dby_succ (y : Int) : dby (y + 1) = dby y + 365 + L y := by
  cases h : leap y with
  | true => rw [L_leap h]; rw [leap_iff] at h; unfold dby; omega
  | false =>
    rw [L_not h]
    have h' : ¬ (y % 4 = 0 ∧ (¬ y % 100 = 0 ∨ y % 400 = 0)) := by rw [← leap_iff, h]; simp
    unfold dby; omega
theorem size_bd (y m : Int) : 28 ≤ size y m ∧ size y m ≤ 31 := by
  have := L_two y
  unfold size; split
  · omega
  · split <;> omega
theorem cum_succ (y m : Int) (h1 : 1 ≤ m) (h2 : m ≤ 12) : cum y (m + 1) = cum y m + size y m := by
  have hm : m = 1 ∨ m = 2 ∨ m = 3 ∨ m = 4 ∨ m = 5 ∨ m = 6 ∨ m = 7 ∨ m = 8 ∨ m = 9 ∨ m = 10 ∨ m = 11 ∨ m = 12 := by omega
  rcases hm with rfl | rfl | rfl | rfl | rfl | rfl | rfl | rfl | rfl | rfl | rfl | rfl <;> simp [cum, size] <;> omega
theorem cum_one (y : Int) : cum y 1 = 0 := by simp [cum]
theorem cum_end (y : Int) : cum y 13 = 365 + L y := by simp [cum]
theorem cum_mono (y m : Int) (h1 : 1 ≤ m) (d : Nat) : m + d ≤ 13 → cum y m ≤ cum y (m + d) := by
  induction d with
  | zero => intro _; simp
  | succ d ih =>
    intro h
    have hs := cum_succ y (m + d) (by omega) (by omega)
    have hz := size_bd y (m + d)
    have := ih (by omega)
    have e : m + ((d + 1 : Nat) : Int) = m + d + 1 := by omega
    rw [e]; omega
theorem cum_le (y m m' : Int) (h1 : 1 ≤ m) (h : m ≤ m') (h2 : m' ≤ 13) : cum y m ≤ cum y m' := by
  have := cum_mono y m h1 (m' - m).toNat (by omega)
  rwa [show m + ((m' - m).toNat : Int) = m' by omega] at this
theorem cum_bd (y m : Int) (h1 : 1 ≤ m) (h2 : m ≤ 13) : 0 ≤ cum y m ∧ cum y m ≤ 366 := by
  have a := cum_le y 1 m (by omega) h1 h2
  have b := cum_le y m 13 h1 h2 (by omega)
  have := L_two y
  rw [cum_one] at a
  rw [cum_end] at b
  omega
theorem dby_mono (y : Int) (d : Nat) : dby y + 365 * d ≤ dby (y + d) := by
  induction d with
  | zero => simp
  | succ d ih =>
    have hs := dby_succ (y + d)
    have := L_two (y + d)
    have e : y + ((d + 1 : Nat) : Int) = y + d + 1 := by omega
    rw [e]; omega
theorem dby_le (y y' : Int) (h : y ≤ y') : dby y ≤ dby y' := by
  have := dby_mono y (y' - y).toNat
  rw [show y + ((y' - y).toNat : Int) = y' by omega] at this
  omega
structure Valid (y m d n : Int) : Prop where
  y0 : 1970 ≤ y
  y1 : y ≤ 9999
  m0 : 1 ≤ m
  m1 : m ≤ 12
  d0 : 1 ≤ d
  d1 : d ≤ size y m
  num : dby y + cum y m + d - 1 = n
theorem Valid.in_year {y m d n : Int} (h : Valid y m d n) : dby y ≤ n ∧ n < dby (y + 1) := by
  have hc := cum_bd y m h.m0 (by have := h.m1; omega)
  have hs := cum_succ y m h.m0 h.m1
  have hl := cum_le y (m + 1) 13 (by have := h.m0; omega) (by have := h.m1; omega) (by omega)
  rw [cum_end] at hl
  have hd := dby_succ y
  have := h.num; have := h.d0; have := h.d1
  omega
theorem Valid.year_eq {y m d n y' m' d' : Int} (h : Valid y m d n) (h' : Valid y' m' d' n) : y = y' := by
  have a := h.in_year
  have b := h'.in_year
  by_cases c : y < y'
  · have := dby_le (y + 1) y' (by omega); omega
  · by_cases c' : y' < y
    · have := dby_le (y' + 1) y (by omega); omega
    · omega
theorem Valid.unique {y m d n y' m' d' : Int} (h : Valid y m d n) (h' : Valid y' m' d' n) : y = y' ∧ m = m' ∧ d = d' := by
  obtain rfl := h.year_eq h'
  have hm : m = m' := by
    by_cases c : m < m'
    · have := cum_le y (m + 1) m' (by have := h.m0; omega) (by omega) (by have := h'.m1; omega)
      have := cum_succ y m h.m0 h.m1
      have := h.num; have := h'.num; have := h.d1; have := h'.d0
      omega
    · by_cases c' : m' < m
      · have := cum_le y (m' + 1) m (by have := h'.m0; omega) (by omega) (by have := h.m1; omega)
        have := cum_succ y m' h'.m0 h'.m1
        have := h.num; have := h'.num; have := h'.d1; have := h.d0
        omega
      · omega
  subst hm
  have := h.num; have := h'.num
  exact ⟨rfl, rfl, by omega⟩
theorem Valid.next {y m d n : Int} (h : Valid y m d n) (hn : n + 1 < dby 10000) :
    (Valid y m (d + 1) (n + 1)) ∨ (d = size y m ∧ Valid y (m + 1) 1 (n + 1)) ∨ (d = size y m ∧ m = 12 ∧ Valid (y + 1) 1 1 (n + 1)) := by
  by_cases c : d < size y m
  · exact .inl ⟨h.y0, h.y1, h.m0, h.m1, by have := h.d0; omega, by omega, by have := h.num; omega⟩
  · have hd : d = size y m := by have := h.d1; omega
    by_cases c2 : m < 12
    · refine .inr (.inl ⟨hd, h.y0, h.y1, by have := h.m0; omega, by omega, by omega, by have := size_bd y (m + 1); omega, ?_⟩)
      have := cum_succ y m h.m0 h.m1; have := h.num; omega
    · have hm : m = 12 := by have := h.m1; omega
      subst hm
      have e := cum_succ y 12 (by omega) (by omega)
      have hs := dby_succ y
      rw [show (12 : Int) + 1 = 13 from rfl, cum_end] at e
      have hy : y + 1 ≤ 9999 := by
        by_cases c3 : y + 1 ≤ 9999
        · exact c3
        · have := h.y1
          have : y = 9999 := by omega
          subst this
          have := h.num
          rw [show (9999 : Int) + 1 = 10000 from rfl] at hs
          omega
      refine .inr (.inr ⟨hd, rfl, by have := h.y0; omega, hy, by omega, by omega, by omega, by have := size_bd (y + 1) 1; omega, ?_⟩)
      rw [cum_one]
      have := h.num; omega
theorem dby_1970 : dby 1970 = 0 := by decide
theorem dby_10000 : dby 10000 = 2932897 := by decide
theorem Valid.bd {y m d n : Int} (h : Valid y m d n) : 0 ≤ n ∧ n ≤ 2932896 := by
  have a := h.in_year
  have := dby_le 1970 y h.y0
  have := dby_le (y + 1) 10000 (by have := h.y1; omega)
  rw [dby_1970] at *
  rw [dby_10000] at *
  omega
end Go.Proofs.YtfjidcmegacibaaDoor.Cal
