/- A part of the proof of the seat's laws. No condition beyond those in the theorems. -/
import Derived.Test.YtfjidcmegacibaaDoorZEvB
import Derived.Test.YtfjidcmegacibaaDoorZByB
import Derived.Test.YtfjidcmegacibaaDoorZQ3g6
import Derived.Test.YtfjidcmegacibaaDoorZQ31g6
import Derived.Lib.ItoaNum

namespace Go.Proofs.YtfjidcmegacibaaDoor.Pure
open Go.RowKit Go.Proofs.YtfjidcmegacibaaDoor.Q Go.Proofs.YtfjidcmegacibaaDoorW.PrintWords Go.Proofs.YtfjidcmegacibaaDoorW.PrintLast
set_option linter.unusedVariables false
set_option linter.unusedSimpArgs false
def dgt (d : Nat) : UInt8 := UInt8.ofNat (48 + d)
def dcm (n : Nat) : List UInt8 := if n < 10 then [dgt n] else dcm (n / 10) ++ [dgt (n % 10)]
theorem dcm_small (n : Nat) (h : n < 10) : dcm n = [dgt n] := by rw [dcm, if_pos h]
theorem dcm_more (n : Nat) (h : ¬ n < 10) : dcm n = dcm (n / 10) ++ [dgt (n % 10)] := by rw [dcm, if_neg h]
theorem dcm_len (j : Nat) : ∀ n, n < 10 ^ (j + 1) → (dcm n).length ≤ j + 1 := by
  induction j with
  | zero => intro n h; rw [dcm_small n (by simpa using h)]; simp
  | succ j ih =>
    intro n h
    by_cases c : n < 10
    · rw [dcm_small n c]; simp
    · rw [dcm_more n c, List.length_append, List.length_singleton]
      have := ih (n / 10) (by rw [Nat.pow_succ] at h; omega)
      omega
theorem tdig_all : ∀ i : Fin 10, stowageref1_digit.f (i.val : Int) = some (B [dgt i.val]) := by decide +kernel
theorem tdig (n : Int) (h0 : 0 ≤ n) (h1 : n ≤ 9) : stowageref1_digit.f n = some (B [dgt n.toNat]) := by
  have h := tdig_all ⟨n.toNat, by omega⟩
  rw [show (((⟨n.toNat, by omega⟩ : Fin 10).val : Nat) : Int) = n by show ((n.toNat : Nat) : Int) = n; omega] at h
  exact h
theorem txt_l0 (j : Nat) : ∀ (n : Nat) (s : List UInt8), n < 10 ^ (j + 1) → n ≤ 9223372036854775807 → s.length + j ≤ 1000000000000000 → Ev (fun k => stowageref1_Text.l0 k (n : Int) (B s)) (B (dcm n ++ s)) := by
  have small : ∀ (n : Nat) (s : List UInt8), n < 10 → s.length ≤ 1000000000000000 → Ev (fun k => stowageref1_Text.l0 k (n : Int) (B s)) (B (dcm n ++ s)) := by
    intro n s h hs
    refine Ev.step (f := fun _ => some (B (dcm n ++ s))) (fun k => ?_) (Ev.now _)
    rw [stowageref1_Text.l0, if_neg (by omega), tdig (n : Int) (by omega) (by omega), Option.bind_some, if_pos (by rw [B_size, B_size, List.length_singleton]; omega), B_append, dcm_small n h]
    rfl
  induction j with
  | zero => intro n s h _ hs; exact small n s (by simpa using h) (by omega)
  | succ j ih =>
    intro n s h hb hs
    by_cases g : n < 10
    · exact small n s g (by omega)
    · have q := ih (n / 10) ([dgt (n % 10)] ++ s) (by rw [Nat.pow_succ] at h; omega) (by omega) (by rw [List.length_append, List.length_singleton]; omega)
      refine Ev.step (f := fun k => stowageref1_Text.l0 k ((n / 10 : Nat) : Int) (B ([dgt (n % 10)] ++ s))) (fun k => ?_) ?_
      · have e1 : Int.tmod (n : Int) 10 = ((n % 10 : Nat) : Int) := by rw [Int.tmod_eq_emod_of_nonneg (by omega)]; omega
        have e2 : wrap64 (Int.tdiv (n : Int) 10) = ((n / 10 : Nat) : Int) := by rw [Int.tdiv_eq_ediv_of_nonneg (by omega), w64 (by omega) (by omega)]; omega
        rw [stowageref1_Text.l0, if_pos (by omega), e1, tdig _ (by omega) (by omega), Option.bind_some, if_pos (by rw [B_size, B_size, List.length_singleton]; omega), B_append, e2, Int.toNat_natCast]
      · rw [dcm_more n g, List.append_assoc]
        exact q
def itx (n : Int) : List UInt8 := if n < 0 then (if n = -9223372036854775808 then [45, 57, 50, 50, 51, 51, 55, 50, 48, 51, 54, 56, 53, 52, 55, 55, 53, 56, 48, 56] else 45 :: dcm (-n).toNat) else dcm n.toNat
theorem itx_len (n : Int) (h0 : -9223372036854775808 ≤ n) (h1 : n ≤ 9223372036854775807) : (itx n).length ≤ 20 := by
  unfold itx
  have e : (10 : Nat) ^ (18 + 1) = 10000000000000000000 := by decide
  by_cases c : n < 0
  · rw [if_pos c]
    by_cases g : n = -9223372036854775808
    · rw [if_pos g]; simp
    · rw [if_neg g, List.length_cons]
      have := dcm_len 18 (-n).toNat (by omega)
      omega
  · rw [if_neg c]
    have := dcm_len 18 n.toNat (by omega)
    omega
theorem txt_pos (n : Int) (h0 : 0 ≤ n) (h1 : n ≤ 9223372036854775807) : Ev (fun k => stowageref1_Text.f k n) (B (dcm n.toNat)) := by
  obtain ⟨m, rfl⟩ := Int.eq_ofNat_of_zero_le h0
  have e : (10 : Nat) ^ (18 + 1) = 10000000000000000000 := by decide
  have q := txt_l0 18 m [] (by omega) (by omega) (by simp)
  rw [List.append_nil] at q
  exact Ev.step (f := fun k => _) (fun k => by rw [stowageref1_Text.f, if_neg (by omega)]; rfl) q
theorem txt_ev (n : Int) (h0 : -9223372036854775808 ≤ n) (h1 : n ≤ 9223372036854775807) : Ev (fun k => stowageref1_Text.f k n) (B (itx n)) := by
  by_cases c : n < 0
  · by_cases g : n = -9223372036854775808
    · subst g
      exact Ev.step (f := fun _ => some (B (itx (-9223372036854775808)))) (fun k => by rw [stowageref1_Text.f, if_pos (by omega), if_pos (by unfold wrap64; omega)]; rfl) (Ev.now _)
    · have hw : wrap64 (-n) = -n := by unfold wrap64; omega
      have q := txt_pos (-n) (by omega) (by omega)
      have hl : (dcm (-n).toNat).length ≤ 20 := by
        have e : (10 : Nat) ^ (18 + 1) = 10000000000000000000 := by decide
        have := dcm_len 18 (-n).toNat (by omega)
        omega
      refine Ev.step (f := fun k => (stowageref1_Text.f k (-n)).bind fun t => if 1 + t.size ≤ 9223372036854775807 then some ((⟨#[45]⟩ : ByteArray) ++ t) else none) (fun k => by rw [stowageref1_Text.f, if_pos c, if_neg (by rw [hw]; omega), hw]) ?_
      refine Ev.bind q ?_
      refine ev_pos (by rw [B_size]; omega) (ev_eq (Ev.now _) ?_)
      rw [show itx n = 45 :: dcm (-n).toNat by rw [itx, if_pos c, if_neg g]]
      exact B_append [45] _
  · have q := txt_pos n (by omega) h1
    rw [show itx n = dcm n.toNat by rw [itx, if_neg c]]
    exact q
theorem dcm_dec (n : Nat) : Lib.decDigits n = dcm n := by
  induction n using Nat.strongRecOn with
  | ind n ih =>
    rw [Lib.decDigits, dcm]
    by_cases c : n < 10
    · rw [dif_pos c, if_pos c]; rfl
    · rw [dif_neg c, if_neg c, ih _ (by omega)]; rfl
theorem itx_itoa (n : Int) (h0 : -9223372036854775808 ≤ n) : itx n = Lib.itoa n := by
  unfold itx Lib.itoa
  by_cases c : n < 0
  · rw [if_pos c, if_pos c]
    by_cases g : n = -9223372036854775808
    · subst g; rw [if_pos rfl]; decide +kernel
    · rw [if_neg g, dcm_dec, show (-n).toNat = n.natAbs by omega]
  · rw [if_neg c, if_neg c, dcm_dec]
theorem encText_eq (n : Int) (h0 : -9223372036854775808 ≤ n) (h1 : n ≤ 9223372036854775807) : enc_Text.f n = some (B (itx n)) := by
  rw [enc_Text.f, if_pos ⟨h0, h1⟩, itx_itoa n h0]
  rfl
end Go.Proofs.YtfjidcmegacibaaDoor.Pure
