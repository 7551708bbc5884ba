/- A part of the proof of the seat's laws. No condition beyond those in the theorems. -/
import Derived.Test.YtieejapamkokaaaDoorZByB

namespace Go.Proofs.YtieejapamkokaaaDoor.Pure
open Go.RowKit Go.Proofs.YtieejapamkokaaaDoorW.PrintWords
set_option linter.unusedVariables false
set_option linter.unusedSimpArgs false
theorem less_irr (l : List UInt8) : Op.bytesLess l l = false := by
  induction l with
  | nil => rfl
  | cons a l ih => rw [Op.bytesLess, ih]; simp
theorem less_zero (x : List UInt8) : ∀ y r s : List UInt8, (∀ c ∈ x, c ≠ 0) → (∀ c ∈ y, c ≠ 0) → Op.bytesLess (x ++ 0 :: r) (y ++ 0 :: s) = if x = y then Op.bytesLess r s else Op.bytesLess x y := by
  induction x with
  | nil =>
    intro y r s _ hy
    cases y with
    | nil => simp [Op.bytesLess]
    | cons b y =>
      have hb := hy b (by simp)
      have hlt : (0 : UInt8) < b := by
        have : b.toNat ≠ 0 := fun h => hb (UInt8.toNat_inj.mp (by rw [h]; rfl))
        rw [UInt8.lt_iff_toNat_lt]
        show 0 < b.toNat
        omega
      simp [Op.bytesLess, hlt]
  | cons a x ih =>
    intro y r s hx hy
    have ha := hx a (by simp)
    cases y with
    | nil =>
      have h0 : ¬ a < (0 : UInt8) := by rw [UInt8.lt_iff_toNat_lt]; exact Nat.not_lt_zero _
      have h1 : (a == (0 : UInt8)) = false := by simpa using ha
      rw [List.nil_append, List.cons_append, if_neg (by simp)]
      simp [Op.bytesLess, h0, ha]
    | cons b y =>
      rw [List.cons_append, List.cons_append, Op.bytesLess, ih y r s (fun c h => hx c (by simp [h])) (fun c h => hy c (by simp [h]))]
      by_cases g : a = b
      · subst g
        have h0 : ¬ a < a := by rw [UInt8.lt_iff_toNat_lt]; omega
        by_cases g2 : x = y
        · subst g2; simp [h0]
        · rw [if_neg g2, if_neg (by simpa using g2), Op.bytesLess]
      · have h1 : (a == b) = false := by simpa using g
        rw [if_neg (show ¬ a :: x = b :: y from fun h => g (List.cons.inj h).1), Op.bytesLess, h1, Bool.false_and, Bool.false_and]
def beL : Nat → Nat → List UInt8
  | 0, _ => []
  | k + 1, n => (n / 256 ^ k % 256).toUInt8 :: beL k n
theorem beL_len (k n : Nat) : (beL k n).length = k := by
  induction k with
  | zero => rfl
  | succ k ih => simp [beL, ih]
theorem u8_lt (a b : Nat) (ha : a < 256) (hb : b < 256) : a.toUInt8 < b.toUInt8 ↔ a < b := by
  have h : ∀ n : Nat, n < 256 → n.toUInt8.toNat = n := fun n hn => by rw [Nat.toUInt8, UInt8.toNat_ofNat']; omega
  rw [UInt8.lt_iff_toNat_lt, h a ha, h b hb]
theorem u8_eq (a b : Nat) (ha : a < 256) (hb : b < 256) : a.toUInt8 = b.toUInt8 ↔ a = b := by
  have h : ∀ n : Nat, n < 256 → n.toUInt8.toNat = n := fun n hn => by rw [Nat.toUInt8, UInt8.toNat_ofNat']; omega
  rw [← UInt8.toNat_inj, h a ha, h b hb]
theorem mod_split (k n : Nat) : n % 256 ^ (k + 1) = n / 256 ^ k % 256 * 256 ^ k + n % 256 ^ k := by
  rw [Nat.pow_succ, Nat.mod_mul, Nat.add_comm, Nat.mul_comm]
theorem beL_less (k : Nat) : ∀ n m, Op.bytesLess (beL k n) (beL k m) = decide (n % 256 ^ k < m % 256 ^ k) := by
  induction k with
  | zero => intro n m; simp [beL, Op.bytesLess, Nat.mod_one]
  | succ k ih =>
    intro n m
    rw [beL, beL, Op.bytesLess, ih]
    have hp : 0 < 256 ^ k := Nat.pow_pos (by omega)
    have a1 : n / 256 ^ k % 256 < 256 := Nat.mod_lt _ (by omega)
    have a2 : m / 256 ^ k % 256 < 256 := Nat.mod_lt _ (by omega)
    have b1 : n % 256 ^ k < 256 ^ k := Nat.mod_lt _ hp
    have b2 : m % 256 ^ k < 256 ^ k := Nat.mod_lt _ hp
    rw [mod_split k n, mod_split k m]
    generalize n / 256 ^ k % 256 = p at *
    generalize m / 256 ^ k % 256 = q at *
    generalize n % 256 ^ k = u at *
    generalize m % 256 ^ k = v at *
    generalize 256 ^ k = K at *
    rcases Nat.lt_trichotomy p q with h | h | h
    · have : (p + 1) * K ≤ q * K := Nat.mul_le_mul_right _ h
      rw [Nat.add_mul, Nat.one_mul] at this
      rw [decide_eq_true (show p.toUInt8 < q.toUInt8 from (u8_lt p q a1 a2).mpr h), decide_eq_true (show p * K + u < q * K + v by omega)]
      rfl
    · subst h
      have e : (p.toUInt8 == p.toUInt8) = true := by simp
      rw [decide_eq_false (show ¬ p.toUInt8 < p.toUInt8 from fun c => by have := (u8_lt p p a1 a1).mp c; omega), e, Bool.false_or, Bool.true_and, decide_eq_decide]
      omega
    · have : (q + 1) * K ≤ p * K := Nat.mul_le_mul_right _ h
      rw [Nat.add_mul, Nat.one_mul] at this
      have e : (p.toUInt8 == q.toUInt8) = false := by rw [beq_eq_false_iff_ne]; intro c; have := (u8_eq p q a1 a2).mp c; omega
      rw [decide_eq_false (show ¬ p.toUInt8 < q.toUInt8 from fun c => by have := (u8_lt p q a1 a2).mp c; omega), e, Bool.false_and, decide_eq_false (show ¬ (p * K + u < q * K + v) by omega)]
      rfl
theorem beL_inj (k n m : Nat) (hn : n < 256 ^ k) (hm : m < 256 ^ k) (h : beL k n = beL k m) : n = m := by
  have h1 := beL_less k n m
  have h2 := beL_less k m n
  rw [h, less_irr] at h1
  rw [← h, less_irr] at h2
  have h1' := of_decide_eq_false h1.symm
  have h2' := of_decide_eq_false h2.symm
  rw [Nat.mod_eq_of_lt hn, Nat.mod_eq_of_lt hm] at h1' h2'
  omega
end Go.Proofs.YtieejapamkokaaaDoor.Pure
