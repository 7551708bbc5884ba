/- A part of the proof of the seat's laws. No condition beyond those in the theorems. -/
import Derived.Test.YthjofhklkkmdoaaZIntB
import Derived.Test.YthjofhklkkmdoaaZByB
import Derived.Test.YthjofhklkkmdoaaZQ55g2

namespace Go.Proofs.Ythjofhklkkmdoaa.Pure
open Go.RowKit Go.Proofs.Ythjofhklkkmdoaa.Q Go.Proofs.YthjofhklkkmdoaaW.PrintWords Go.Proofs.YthjofhklkkmdoaaW.PrintLast
set_option linter.unusedVariables false
set_option linter.unusedSimpArgs false
def dig (d : Nat) : UInt8 := UInt8.ofNat (48 + d)
theorem dig_nat (d : Nat) (h : d < 10) : (dig d).toNat = 48 + d := by
  rw [dig, UInt8.toNat_ofNat']
  omega
def dec (n : Nat) : List UInt8 := if n < 10 then [dig n] else dec (n / 10) ++ [dig (n % 10)]
theorem dec_small (n : Nat) (h : n < 10) : dec n = [dig n] := by rw [dec, if_pos h]
theorem dec_more (n : Nat) (h : ¬ n < 10) : dec n = dec (n / 10) ++ [dig (n % 10)] := by rw [dec, if_neg h]
theorem dec_len (j : Nat) : ∀ n, n < 10 ^ (j + 1) → (dec n).length ≤ j + 1 := by
  induction j with
  | zero => intro n h; rw [dec_small n (by simpa using h)]; simp
  | succ j ih =>
    intro n h
    by_cases c : n < 10
    · rw [dec_small n c]; simp
    · rw [dec_more n c, List.length_append, List.length_singleton]
      have := ih (n / 10) (by rw [Nat.pow_succ] at h; omega)
      omega
theorem dec_pos (n : Nat) : 0 < (dec n).length := by
  by_cases c : n < 10
  · rw [dec_small n c]; simp
  · rw [dec_more n c]; simp
theorem dec_head (j : Nat) : ∀ n, n < 10 ^ (j + 1) → 0 < n → (dec n)[0]? ≠ some 48 := by
  have h48 : ∀ n, n < 10 → 0 < n → dig n ≠ 48 := by
    intro n h1 h0 e
    have := congrArg UInt8.toNat e
    rw [dig_nat n h1] at this
    have h8 : (48 : UInt8).toNat = 48 := rfl
    omega
  induction j with
  | zero =>
    intro n h h0 e
    rw [dec_small n (by simpa using h)] at e
    exact h48 n (by simpa using h) h0 (Option.some.inj e)
  | succ j ih =>
    intro n h h0
    by_cases c : n < 10
    · rw [dec_small n c]; intro e; exact h48 n c h0 (Option.some.inj e)
    · rw [dec_more n c, List.getElem?_append_left (dec_pos _)]
      exact ih (n / 10) (by rw [Nat.pow_succ] at h; omega) (by omega)
theorem dec_mem (j : Nat) : ∀ n, n < 10 ^ (j + 1) → ∀ c ∈ dec n, 48 ≤ c.toNat ∧ c.toNat ≤ 57 := by
  have hd : ∀ n, n < 10 → 48 ≤ (dig n).toNat ∧ (dig n).toNat ≤ 57 := by intro n h; rw [dig_nat n h]; omega
  induction j with
  | zero =>
    intro n h c hc
    rw [dec_small n (by simpa using h), List.mem_singleton] at hc
    subst hc
    exact hd n (by simpa using h)
  | succ j ih =>
    intro n h c hc
    by_cases g : n < 10
    · rw [dec_small n g, List.mem_singleton] at hc; subst hc; exact hd n g
    · rw [dec_more n g, List.mem_append, List.mem_singleton] at hc
      rcases hc with hc | hc
      · exact ih (n / 10) (by rw [Nat.pow_succ] at h; omega) c hc
      · subst hc; exact hd _ (by omega)
theorem digB_one (d : Nat) (h : d < 10) (n : Int) : digB [dig d] n = (wrap64 ((wrap64 (10 * n)) + d), true) := by
  have e := dig_nat d h
  rw [digB, if_neg (by omega), if_neg (by omega), digB, e]
  congr 2
  omega
theorem wr10 (n d : Int) (h0 : 0 ≤ n) (h1 : n ≤ 800000000000000000) (h2 : 0 ≤ d) (h3 : d ≤ 300) : wrap64 ((wrap64 (10 * n)) + d) = 10 * n + d := by
  rw [w64 (n := 10 * n) (by omega) (by omega), w64 (by omega) (by omega)]
theorem digB_append (a b : List UInt8) (v : Int) : ∀ n, digB a n = (v, true) → digB (a ++ b) n = digB b v := by
  induction a with
  | nil => intro n h; rw [digB] at h; rw [List.nil_append, (Prod.mk.inj h).1]
  | cons c a ih =>
    intro n h
    rw [digB] at h
    rw [List.cons_append, digB]
    by_cases h1 : (c.toNat : Int) < 48
    · rw [if_pos h1] at h; cases h
    · rw [if_neg h1] at h ⊢
      by_cases h2 : (c.toNat : Int) > 57
      · rw [if_pos h2] at h; cases h
      · rw [if_neg h2] at h ⊢
        exact ih _ h
theorem digB_dec (j : Nat) (hj : j ≤ 17) : ∀ n, n < 10 ^ (j + 1) → digB (dec n) 0 = ((n : Int), true) := by
  induction j with
  | zero =>
    intro n h
    have h' : n < 10 := by simpa using h
    rw [dec_small n h', digB_one n h', wr10 _ _ (by omega) (by omega) (by omega) (by omega)]
    congr 1; omega
  | succ j ih =>
    intro n h
    by_cases g : n < 10
    · rw [dec_small n g, digB_one n g, wr10 _ _ (by omega) (by omega) (by omega) (by omega)]
      congr 1; omega
    · have q := ih (by omega) (n / 10) (by rw [Nat.pow_succ] at h; omega)
      have hb : n < 1000000000000000000 := by
        have : (10 : Nat) ^ (j + 1 + 1) ≤ 10 ^ 18 := Nat.pow_le_pow_right (by omega) (by omega)
        have e : (10 : Nat) ^ 18 = 1000000000000000000 := by decide
        omega
      rw [dec_more n g, digB_append _ _ _ _ q, digB_one _ (by omega), wr10 _ _ (by omega) (by omega) (by omega) (by omega)]
      congr 1; omega
theorem intB_dec (n : Nat) (h : n < 1000000000000000000) : intB (dec n) = ((n : Int), true) := by
  have h' : n < 10 ^ (17 + 1) := by have e : (10 : Nat) ^ (17 + 1) = 1000000000000000000 := by decide
                                    omega
  have hl := dec_len 17 n h'
  have hp := dec_pos n
  rw [intB, if_neg, digB_dec 17 (Nat.le_refl _) n h']
  rintro (c | c | ⟨c, c'⟩)
  · omega
  · omega
  · by_cases g : n = 0
    · subst g; rw [dec_small 0 (by omega)] at c; simp at c
    · exact dec_head 17 n h' (by omega) c'
theorem rdig_all : ∀ i : Fin 10, stowageref1_digit.f (i.val : Int) = some (B [dig i.val]) := by decide +kernel
theorem rdig (n : Int) (h0 : 0 ≤ n) (h1 : n ≤ 9) : stowageref1_digit.f n = some (B [dig n.toNat]) := by
  have h := rdig_all ⟨n.toNat, by omega⟩
  rw [show (((⟨n.toNat, by omega⟩ : Fin 10).val : Nat) : Int) = n by show ((n.toNat : Nat) : Int) = n; omega] at h
  exact h
theorem text_l0 (j : Nat) : ∀ (n : Nat) (s : List UInt8), n < 10 ^ (j + 1) → n < 1000000000000000000 → s.length + j ≤ 1000000000000000 → Ev (fun k => stowageref1_Text.l0 k (n : Int) (B s)) (B (dec n ++ s)) := by
  have small : ∀ (n : Nat) (s : List UInt8), n < 10 → s.length ≤ 1000000000000000 → Ev (fun k => stowageref1_Text.l0 k (n : Int) (B s)) (B (dec n ++ s)) := by
    intro n s h hs
    refine Ev.step (f := fun _ => some (B (dec n ++ s))) (fun k => ?_) (Ev.now _)
    rw [stowageref1_Text.l0, if_neg (by omega), rdig (n : Int) (by omega) (by omega), Option.bind_some, if_pos (by rw [B_size, B_size, List.length_singleton]; omega), B_append, dec_small n h]
    rfl
  induction j with
  | zero => intro n s h _ hs; exact small n s (by simpa using h) (by omega)
  | succ j ih =>
    intro n s h hb hs
    by_cases g : n < 10
    · exact small n s g (by omega)
    · have q := ih (n / 10) ([dig (n % 10)] ++ s) (by rw [Nat.pow_succ] at h; omega) (by omega) (by rw [List.length_append, List.length_singleton]; omega)
      refine Ev.step (f := fun k => stowageref1_Text.l0 k ((n / 10 : Nat) : Int) (B ([dig (n % 10)] ++ s))) (fun k => ?_) ?_
      · have e1 : Int.tmod (n : Int) 10 = ((n % 10 : Nat) : Int) := by rw [Int.tmod_eq_emod_of_nonneg (by omega)]; omega
        have e2 : wrap64 (Int.tdiv (n : Int) 10) = ((n / 10 : Nat) : Int) := by rw [Int.tdiv_eq_ediv_of_nonneg (by omega), w64 (by omega) (by omega)]; omega
        rw [stowageref1_Text.l0, if_pos (by omega), e1, rdig _ (by omega) (by omega), Option.bind_some, if_pos (by rw [B_size, B_size, List.length_singleton]; omega), B_append, e2, Int.toNat_natCast]
      · rw [dec_more n g, List.append_assoc]
        exact q
theorem text_ev (n : Int) (h0 : 0 ≤ n) (h1 : n < 1000000000000000000) : Ev (fun k => stowageref1_Text.f k n) (B (dec n.toNat)) := by
  obtain ⟨m, rfl⟩ := Int.eq_ofNat_of_zero_le h0
  have e : (10 : Nat) ^ (17 + 1) = 1000000000000000000 := by decide
  have q := text_l0 17 m [] (by omega) (by omega) (by simp)
  rw [List.append_nil] at q
  exact Ev.step (f := fun k => _) (fun k => by rw [stowageref1_Text.f, if_neg (by omega)]; rfl) q
end Go.Proofs.Ythjofhklkkmdoaa.Pure
