/- A part of the proof of the seat's laws. No condition beyond those in the theorems. -/
import Derived.Test.YtieejapamkokaaaDoorZStepB

namespace Go.Proofs.YtieejapamkokaaaDoor.Pure
open Go.RowKit Go.Proofs.YtieejapamkokaaaDoor.Q Go.Proofs.YtieejapamkokaaaDoorW.PrintWords Go.Proofs.YtieejapamkokaaaDoorW.PrintLast
set_option linter.unusedVariables false
set_option linter.unusedSimpArgs false
def dL (l : List UInt8) : Nat × Nat := Lib.decodeN l.length (l.getD 0 0).toNat (l.getD 1 0).toNat (l.getD 2 0).toNat (l.getD 3 0).toNat
def Same (a d : Nat × Nat) : Prop := (a.2 = 0 ∧ d = (65533, 1)) ∨ (a.2 ≠ 0 ∧ d = a ∧ ¬ d = (65533, 1))
theorem finL_same (v m n : Nat) (P : Prop) [Decidable P] (hm : 128 ≤ m) (hn : 2 ≤ n) (hP : P ↔ ¬ (v < m ∨ 1114111 < v ∨ (55296 ≤ v ∧ v < 57344))) : Same (finL v m n) (if P then (v, n) else (65533, 1)) := by
  unfold finL Same
  by_cases c : v < m ∨ 1114111 < v ∨ (55296 ≤ v ∧ v < 57344)
  · rw [if_pos c, if_neg (by rw [hP]; exact fun h => h c)]; exact .inl ⟨rfl, rfl⟩
  · rw [if_neg c, if_pos (hP.mpr c)]
    refine .inr ⟨by simp only; omega, rfl, ?_⟩
    intro e
    have := congrArg Prod.snd e
    simp only at this
    omega
theorem nil_same : Same (0, 0) (65533, 1) := .inl ⟨rfl, rfl⟩
theorem dec2 (b : UInt8) (l : List UInt8) (h1 : 192 ≤ b.toNat) (h2 : b.toNat < 224) : Same (seqL l 1 (b.toNat - 192) 128) (dL (b :: l)) := by
  unfold dL Lib.decodeN seqL
  rw [List.getD_cons_zero, if_neg (by omega)]
  cases l with
  | nil =>
    rw [if_neg (by simp), if_neg (by omega), if_neg (by omega)]
    exact nil_same
  | cons c l =>
    have hc := c.toNat_lt
    have e1 : ((b :: c :: l).getD 1 0).toNat = c.toNat := by simp
    rw [e1, tailL]
    by_cases g : 128 ≤ c.toNat ∧ c.toNat < 192
    · have ht : ∀ v, tailL l 0 v = some v := fun v => by cases l <;> rfl
      rw [if_pos g, ht, if_pos ⟨by omega, by simp, by omega⟩]
      have ev : b.toNat % 32 * 64 + c.toNat % 64 = 64 * (b.toNat - 192) + (c.toNat - 128) := by omega
      rw [ev]
      exact finL_same _ _ _ _ (by omega) (by omega) (by omega)
    · rw [if_neg g, if_neg (by intro h; omega), if_neg (by omega), if_neg (by omega)]
      exact nil_same
theorem dec3 (b : UInt8) (l : List UInt8) (h1 : 224 ≤ b.toNat) (h2 : b.toNat < 240) : Same (seqL l 2 (b.toNat - 224) 2048) (dL (b :: l)) := by
  unfold dL Lib.decodeN seqL
  rw [List.getD_cons_zero, if_neg (by omega), if_neg (by omega)]
  match l with
  | [] =>
    rw [if_neg (by simp), if_neg (by omega)]
    exact nil_same
  | [c] =>
    have e : tailL [c] 2 (b.toNat - 224) = none := tailL_short _ _ _ (by simp)
    rw [e, if_neg (by simp), if_neg (by omega)]
    exact nil_same
  | c :: d :: l =>
    have hc := c.toNat_lt
    have hd := d.toNat_lt
    have e1 : ((b :: c :: d :: l).getD 1 0).toNat = c.toNat := by simp
    have e2 : ((b :: c :: d :: l).getD 2 0).toNat = d.toNat := by simp
    rw [e1, e2, tailL]
    by_cases g : 128 ≤ c.toNat ∧ c.toNat < 192
    · rw [if_pos g, tailL]
      by_cases g2 : 128 ≤ d.toNat ∧ d.toNat < 192
      · have ht : ∀ v, tailL l 0 v = some v := fun v => by cases l <;> rfl
        rw [if_pos g2, ht, if_pos ⟨by omega, ⟨by simp, by omega⟩, ⟨by simp, by omega⟩⟩]
        have ev : b.toNat % 16 * 4096 + c.toNat % 64 * 64 + d.toNat % 64 = 64 * (64 * (b.toNat - 224) + (c.toNat - 128)) + (d.toNat - 128) := by omega
        rw [ev]
        exact finL_same _ _ _ _ (by omega) (by omega) (by omega)
      · rw [if_neg g2, if_neg (by intro h; omega), if_neg (by omega)]
        exact nil_same
    · rw [if_neg g, if_neg (by intro h; omega), if_neg (by omega)]
      exact nil_same
theorem dec4 (b : UInt8) (l : List UInt8) (h1 : 240 ≤ b.toNat) (h2 : b.toNat < 248) : Same (seqL l 3 (b.toNat - 240) 65536) (dL (b :: l)) := by
  unfold dL Lib.decodeN seqL
  rw [List.getD_cons_zero, if_neg (by omega), if_neg (by omega), if_neg (by omega)]
  match l with
  | [] =>
    rw [if_neg (by simp)]
    exact nil_same
  | [c] =>
    have e : tailL [c] 3 (b.toNat - 240) = none := tailL_short _ _ _ (by simp)
    rw [e, if_neg (by simp)]
    exact nil_same
  | [c, d] =>
    have e : tailL [c, d] 3 (b.toNat - 240) = none := tailL_short _ _ _ (by simp)
    rw [e, if_neg (by simp)]
    exact nil_same
  | c :: d :: x :: l =>
    have hc := c.toNat_lt
    have hd := d.toNat_lt
    have hx := x.toNat_lt
    have e1 : ((b :: c :: d :: x :: l).getD 1 0).toNat = c.toNat := by simp
    have e2 : ((b :: c :: d :: x :: l).getD 2 0).toNat = d.toNat := by simp
    have e3 : ((b :: c :: d :: x :: l).getD 3 0).toNat = x.toNat := by simp
    rw [e1, e2, e3, tailL]
    by_cases g : 128 ≤ c.toNat ∧ c.toNat < 192
    · rw [if_pos g, tailL]
      by_cases g2 : 128 ≤ d.toNat ∧ d.toNat < 192
      · rw [if_pos g2, tailL]
        by_cases g3 : 128 ≤ x.toNat ∧ x.toNat < 192
        · have ht : ∀ v, tailL l 0 v = some v := fun v => by cases l <;> rfl
          rw [if_pos g3, ht, if_pos ⟨by omega, ⟨by simp, by omega⟩, ⟨by simp, by omega⟩, ⟨by simp, by omega⟩⟩]
          have ev : b.toNat % 8 * 262144 + c.toNat % 64 * 4096 + d.toNat % 64 * 64 + x.toNat % 64 = 64 * (64 * (64 * (b.toNat - 240) + (c.toNat - 128)) + (d.toNat - 128)) + (x.toNat - 128) := by omega
          rw [ev]
          exact finL_same _ _ _ _ (by omega) (by omega) (by omega)
        · rw [if_neg g3, if_neg (by intro h; omega)]
          exact nil_same
      · rw [if_neg g2, if_neg (by intro h; omega)]
        exact nil_same
    · rw [if_neg g, if_neg (by intro h; omega)]
      exact nil_same
theorem dec_same (b : UInt8) (l : List UInt8) : Same (stL (b :: l)) (dL (b :: l)) := by
  have hb := b.toNat_lt
  rw [stL]
  by_cases c1 : b.toNat < 128
  · rw [if_pos c1]
    unfold dL Lib.decodeN
    rw [List.getD_cons_zero, if_pos c1]
    refine .inr ⟨by simp, rfl, ?_⟩
    intro e
    have := congrArg Prod.fst e
    simp only at this
    omega
  · rw [if_neg c1]
    by_cases c2 : b.toNat < 192
    · rw [if_pos c2]
      unfold dL Lib.decodeN
      rw [List.getD_cons_zero, if_neg c1, if_neg (by omega), if_neg (by omega), if_neg (by omega)]
      exact nil_same
    · rw [if_neg c2]
      by_cases c3 : b.toNat < 224
      · rw [if_pos c3]; exact dec2 b l (by omega) c3
      · rw [if_neg c3]
        by_cases c4 : b.toNat < 240
        · rw [if_pos c4]; exact dec3 b l (by omega) c4
        · rw [if_neg c4]
          by_cases c5 : b.toNat < 248
          · rw [if_pos c5]; exact dec4 b l (by omega) c5
          · rw [if_neg c5]
            unfold dL Lib.decodeN
            rw [List.getD_cons_zero, if_neg c1, if_neg (by omega), if_neg (by omega), if_neg (by omega)]
            exact nil_same
theorem get_list (s : ByteArray) (i : Nat) : s.get! i = s.toList.getD i 0 := by
  rw [ByteArray.toList_eq]
  show s.data[i]! = _
  rw [List.getD_eq_getElem?_getD, Array.getElem!_eq_getD, Array.getD_eq_getD_getElem?, Array.getElem?_toList]
  rfl
theorem dec_at (s : ByteArray) (pos : Nat) : Utf8.decode s pos = dL (s.toList.drop pos) := by
  rw [Lib.decode_at, get_list, get_list, get_list, get_list]
  unfold dL
  rw [List.length_drop, length_toList]
  have hd : ∀ i, (s.toList.drop pos).getD i 0 = s.toList.getD (pos + i) 0 := by
    intro i
    rw [List.getD_eq_getElem?_getD, List.getD_eq_getElem?_getD, List.getElem?_drop]
  rw [hd, hd, hd, hd]
  rfl
end Go.Proofs.YtieejapamkokaaaDoor.Pure
