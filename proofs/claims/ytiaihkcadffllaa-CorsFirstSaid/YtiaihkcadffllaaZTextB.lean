/- A part of the proof of the seat's laws. No condition beyond those in the theorems. -/
import Derived.Test.YtiaihkcadffllaaZEvB
import Derived.Test.YtiaihkcadffllaaZByB
import Derived.Test.YtiaihkcadffllaaZQ36g6

namespace Go.Proofs.Ytiaihkcadffllaa.Pure
open Go.RowKit Go.Proofs.Ytiaihkcadffllaa.Q Go.Proofs.YtiaihkcadffllaaW.PrintWords Go.Proofs.YtiaihkcadffllaaW.PrintLast
set_option linter.unusedVariables false
set_option linter.unusedSimpArgs false
def dgt (d : Nat) : UInt8 := UInt8.ofNat (48 + d)
def dcm (n : Nat) : List UInt8 := if n < 10 then [dgt n] else dcm (n / 10) ++ [dgt (n % 10)]
theorem dcm_small (n : Nat) (h : n < 10) : dcm n = [dgt n] := by rw [dcm, if_pos h]
theorem dcm_more (n : Nat) (h : ¬ n < 10) : dcm n = dcm (n / 10) ++ [dgt (n % 10)] := by rw [dcm, if_neg h]
theorem dcm_len (j : Nat) : ∀ n, n < 10 ^ (j + 1) → (dcm n).length ≤ j + 1 := by
  induction j with
  | zero => intro n h; rw [dcm_small n (by simpa using h)]; simp
  | succ j ih =>
    intro n h
    by_cases c : n < 10
    · rw [dcm_small n c]; simp
    · rw [dcm_more n c, List.length_append, List.length_singleton]
      have := ih (n / 10) (by rw [Nat.pow_succ] at h; omega)
      omega
theorem tdig_all : ∀ i : Fin 10, stowageref1_digit.f (i.val : Int) = some (B [dgt i.val]) := by decide +kernel
theorem tdig (n : Int) (h0 : 0 ≤ n) (h1 : n ≤ 9) : stowageref1_digit.f n = some (B [dgt n.toNat]) := by
  have h := tdig_all ⟨n.toNat, by omega⟩
  rw [show (((⟨n.toNat, by omega⟩ : Fin 10).val : Nat) : Int) = n by show ((n.toNat : Nat) : Int) = n; omega] at h
  exact h
theorem txt_l0 (j : Nat) : ∀ (n : Nat) (s : List UInt8), n < 10 ^ (j + 1) → n ≤ 9223372036854775807 → s.length + j ≤ 1000000000000000 → Ev (fun k => stowageref1_Text.l0 k (n : Int) (B s)) (B (dcm n ++ s)) := by
  have small : ∀ (n : Nat) (s : List UInt8), n < 10 → s.length ≤ 1000000000000000 → Ev (fun k => stowageref1_Text.l0 k (n : Int) (B s)) (B (dcm n ++ s)) := by
    intro n s h hs
    refine Ev.step (f := fun _ => some (B (dcm n ++ s))) (fun k => ?_) (Ev.now _)
    rw [stowageref1_Text.l0, if_neg (by omega), tdig (n : Int) (by omega) (by omega), Option.bind_some, if_pos (by rw [B_size, B_size, List.length_singleton]; omega), B_append, dcm_small n h]
    rfl
  induction j with
  | zero => intro n s h _ hs; exact small n s (by simpa using h) (by omega)
  | succ j ih =>
    intro n s h hb hs
    by_cases g : n < 10
    · exact small n s g (by omega)
    · have q := ih (n / 10) ([dgt (n % 10)] ++ s) (by rw [Nat.pow_succ] at h; omega) (by omega) (by rw [List.length_append, List.length_singleton]; omega)
      refine Ev.step (f := fun k => stowageref1_Text.l0 k ((n / 10 : Nat) : Int) (B ([dgt (n % 10)] ++ s))) (fun k => ?_) ?_
      · have e1 : Int.tmod (n : Int) 10 = ((n % 10 : Nat) : Int) := by rw [Int.tmod_eq_emod_of_nonneg (by omega)]; omega
        have e2 : wrap64 (Int.tdiv (n : Int) 10) = ((n / 10 : Nat) : Int) := by rw [Int.tdiv_eq_ediv_of_nonneg (by omega), w64 (by omega) (by omega)]; omega
        rw [stowageref1_Text.l0, if_pos (by omega), e1, tdig _ (by omega) (by omega), Option.bind_some, if_pos (by rw [B_size, B_size, List.length_singleton]; omega), B_append, e2, Int.toNat_natCast]
      · rw [dcm_more n g, List.append_assoc]
        exact q
def itx (n : Int) : List UInt8 := if n < 0 then (if n = -9223372036854775808 then [45, 57, 50, 50, 51, 51, 55, 50, 48, 51, 54, 56, 53, 52, 55, 55, 53, 56, 48, 56] else 45 :: dcm (-n).toNat) else dcm n.toNat
theorem itx_len (n : Int) (h0 : -9223372036854775808 ≤ n) (h1 : n ≤ 9223372036854775807) : (itx n).length ≤ 20 := by
  unfold itx
  have e : (10 : Nat) ^ (18 + 1) = 10000000000000000000 := by decide
  by_cases c : n < 0
  · rw [if_pos c]
    by_cases g : n = -9223372036854775808
    · rw [if_pos g]; simp
    · rw [if_neg g, List.length_cons]
      have := dcm_len 18 (-n).toNat (by omega)
      omega
  · rw [if_neg c]
    have := dcm_len 18 n.toNat (by omega)
    omega
theorem txt_pos (n : Int) (h0 : 0 ≤ n) (h1 : n ≤ 9223372036854775807) : Ev (fun k => stowageref1_Text.f k n) (B (dcm n.toNat)) := by
  obtain ⟨m, rfl⟩ := Int.eq_ofNat_of_zero_le h0
  have e : (10 : Nat) ^ (18 + 1) = 10000000000000000000 := by decide
  have q := txt_l0 18 m [] (by omega) (by omega) (by simp)
  rw [List.append_nil] at q
  exact Ev.step (f := fun k => _) (fun k => by rw [stowageref1_Text.f, if_neg (by omega)]; rfl) q
theorem txt_ev (n : Int) (h0 : -9223372036854775808 ≤ n) (h1 : n ≤ 9223372036854775807) : Ev (fun k => stowageref1_Text.f k n) (B (itx n)) := by
  by_cases c : n < 0
  · by_cases g : n = -9223372036854775808
    · subst g
      exact Ev.step (f := fun _ => some (B (itx (-9223372036854775808)))) (fun k => by rw [stowageref1_Text.f, if_pos (by omega), if_pos (by unfold wrap64; omega)]; rfl) (Ev.now _)
    · have hw : wrap64 (-n) = -n := by unfold wrap64; omega
      have q := txt_pos (-n) (by omega) (by omega)
      have hl : (dcm (-n).toNat).length ≤ 20 := by
        have e : (10 : Nat) ^ (18 + 1) = 10000000000000000000 := by decide
        have := dcm_len 18 (-n).toNat (by omega)
        omega
      refine Ev.step (f := fun k => (stowageref1_Text.f k (-n)).bind fun t => if 1 + t.size ≤ 9223372036854775807 then some ((⟨#[45]⟩ : ByteArray) ++ t) else none) (fun k => by rw [stowageref1_Text.f, if_pos c, if_neg (by rw [hw]; omega), hw]) ?_
      refine Ev.bind q ?_
      refine ev_pos (by rw [B_size]; omega) (ev_eq (Ev.now _) ?_)
      rw [show itx n = 45 :: dcm (-n).toNat by rw [itx, if_pos c, if_neg g]]
      exact B_append [45] _
  · have q := txt_pos n (by omega) h1
    rw [show itx n = dcm n.toNat by rw [itx, if_neg c]]
    exact q
def four (n : Nat) : List Int := [((n % 4294967296 / 16777216 : Nat) : Int) % 256, ((n % 4294967296 / 65536 : Nat) : Int) % 256, ((n % 4294967296 / 256 : Nat) : Int) % 256, ((n % 4294967296 : Nat) : Int) % 256]
def pk (l : List ByteArray) : List Int := l.flatMap fun s => four s.size ++ bytesOf s
def psz (l : List ByteArray) : Nat := (l.map fun s => s.size + 4).sum
theorem pk_len (l : List ByteArray) : (pk l).length = psz l := by
  induction l with
  | nil => rfl
  | cons s l ih =>
    have e1 : pk (s :: l) = (four s.size ++ bytesOf s) ++ pk l := rfl
    have e2 : psz (s :: l) = (s.size + 4) + psz l := by simp [psz]
    rw [e1, e2, List.length_append, List.length_append, ih, bytesOf_length]
    simp only [four, List.length_cons, List.length_nil]
    omega
theorem psz_app (a b : List ByteArray) : psz (a ++ b) = psz a + psz b := by simp [psz]
theorem psz_cons (s : ByteArray) (l : List ByteArray) : psz (s :: l) = s.size + 4 + psz l := by simp [psz]
theorem pack_l0 (all : List ByteArray) (hn : all.length ≤ 1000000000000000) (l : List ByteArray) : ∀ (pre : List ByteArray) (acc : List Int), all = pre ++ l → acc.length + psz l < 140737488355328 →
    Ev (fun k => stowageref1_Pack.l0 k all acc (pre.length : Int)) (acc ++ pk l) := by
  induction l with
  | nil =>
    intro pre acc e _
    have : all.length = pre.length := by rw [e, List.append_nil]
    exact Ev.step (f := fun _ => some acc) (fun k => by rw [stowageref1_Pack.l0, if_neg (by omega)]) (ev_eq (Ev.now _) (by simp [pk]))
  | cons s l ih =>
    intro pre acc e hb
    have hl : all.length = pre.length + (l.length + 1) := by rw [e, List.length_append, List.length_cons]
    rw [psz_cons] at hb
    have hrd : rdOf ByteArray.empty all (pre.length : Int) = s := by
      rw [rdOf, Int.toNat_natCast, e, List.getD_eq_getElem?_getD, List.getElem?_append_right (Nat.le_refl _), Nat.sub_self]
      rfl
    have h4 : stowageref1_Four.f ((s.size : Int) % 4294967296) = some (four s.size) := by
      rw [stowageref1_Four.f, four]
      congr 1
    have q := ih (pre ++ [s]) (acc ++ (four s.size ++ bytesOf s)) (by rw [e]; simp) (by
      rw [List.length_append, List.length_append, bytesOf_length]
      simp only [four, List.length_cons, List.length_nil]
      omega)
    have hp : ((pre ++ [s]).length : Int) = wrap64 ((pre.length : Int) + 1) := by
      rw [w64 (by omega) (by omega), List.length_append]; simp
    rw [hp] at q
    refine Ev.step (f := fun k => stowageref1_Pack.l0 k all (acc ++ (four s.size ++ bytesOf s)) (wrap64 ((pre.length : Int) + 1))) (fun k => ?_) (ev_eq q (by
      have e1 : pk (s :: l) = (four s.size ++ bytesOf s) ++ pk l := rfl
      rw [e1]; simp [List.append_assoc]))
    rw [stowageref1_Pack.l0, if_pos (by omega), if_pos (by omega), hrd, h4, Option.bind_some]
    have hf : (four s.size).length = 4 := rfl
    rw [if_pos (by omega), Option.bind_some, if_pos (by rw [List.length_append]; omega), List.append_assoc]
theorem pack_ev (l : List ByteArray) (hn : l.length ≤ 1000000000000000) (hb : psz l < 140737488355328) : Ev (fun k => stowageref1_Pack.f k l) (pk l) := by
  have q := pack_l0 l hn l [] [] rfl (by simpa using hb)
  rw [List.nil_append] at q
  exact q
end Go.Proofs.Ytiaihkcadffllaa.Pure
