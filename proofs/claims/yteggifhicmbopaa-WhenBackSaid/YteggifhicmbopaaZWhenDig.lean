/- A part of the proof of the seat's laws. No condition beyond those in the theorems. -/
import Derived.Test.YteggifhicmbopaaZPureWhenTexts
import Derived.Test.YteggifhicmbopaaZQ31
import Derived.Test.YteggifhicmbopaaZQ41
import Derived.Test.YteggifhicmbopaaZQ42
import Derived.Test.YteggifhicmbopaaZQ43
import Derived.Test.YteggifhicmbopaaZQ44

namespace Go.Proofs.Yteggifhicmbopaa.Pure
open Go.RowKit Go.Proofs.Yteggifhicmbopaa.Q Go.Proofs.YteggifhicmbopaaW.PrintWords Go.Proofs.YteggifhicmbopaaW.PrintLast Cal
set_option linter.unusedVariables false
set_option linter.unusedSimpArgs false
def dval (s : ByteArray) : Nat → Int → Int → Option Int
  | 0, _, n => some n
  | j + 1, i, n => if i < (s.size : Int) ∧ 48 ≤ bt s i ∧ bt s i ≤ 57 then dval s j (i + 1) (10 * n + (bt s i - 48)) else none
def pairOf (o : Option Int) : Int × Bool := match o with | some v => (v, true) | none => (0, false)
def orMinus (o : Option Int) : Int := match o with | some v => v | none => -1
theorem get_l0 (s : ByteArray) (a b : Int) (hab : a + b ≤ 100) (h0 : 0 ≤ a) (hb : 0 ≤ b) (j : Nat) (hj4 : j ≤ 4) : ∀ (n i : Int) (c : Nat), c + j ≤ 4 → 0 ≤ n → n < 10 ^ c → a ≤ i → i + j = a + b →
    Ev (fun k => when_get.l0 k s a b n i) (pairOf (dval s j i n)) := by
  induction j with
  | zero =>
    intro n i c hc hn hn1 hi hij
    refine Ev.step (f := fun _ => some (n, true)) (fun k => ?_) (Ev.now _)
    rw [when_get.l0, w64 (by omega) (by omega), if_neg (by omega)]
  | succ j ih =>
    intro n i c hc hn hn1 hi hij
    have hp : (10 : Int) ^ c ≤ 1000 := by
      have : c = 0 ∨ c = 1 ∨ c = 2 ∨ c = 3 := by omega
      rcases this with rfl | rfl | rfl | rfl <;> decide
    have hbr := bt_range s i
    by_cases h : i < (s.size : Int) ∧ 48 ≤ bt s i ∧ bt s i ≤ 57
    · rw [dval, if_pos h]
      refine Ev.step (f := fun k => when_get.l0 k s a b (10 * n + (bt s i - 48)) (i + 1)) (fun k => ?_) ?_
      · rw [when_get.l0, w64 (n := a + b) (by omega) (by omega), if_pos (by omega), if_neg (by omega), if_pos (by omega), if_pos h.1, if_neg (by omega), if_neg (by omega),
          w64 (n := 10 * n) (by omega) (by omega), show (bt s i - 48) % 256 = bt s i - 48 by omega, w64 (n := 10 * n + (bt s i - 48)) (by omega) (by omega), w64 (n := i + 1) (by omega) (by omega)]
      · refine ih (by omega) _ _ (c + 1) (by omega) (by omega) ?_ (by omega) (by omega)
        rw [Int.pow_succ]; omega
    · rw [dval, if_neg h]
      refine Ev.step (f := fun _ => some (0, false)) (fun k => ?_) (Ev.now _)
      rw [when_get.l0, w64 (n := a + b) (by omega) (by omega), if_pos (by omega)]
      by_cases c1 : i ≥ (s.size : Int)
      · rw [if_pos c1]
      · rw [if_neg c1, if_pos (by omega), if_pos (by omega)]
        by_cases c2 : bt s i < 48
        · rw [if_pos c2]
        · rw [if_neg c2, if_pos (by omega)]
theorem get_ev (s : ByteArray) (a : Int) (b : Nat) (h0 : 0 ≤ a) (h1 : a ≤ 50) (hb : b ≤ 4) : Ev (fun k => when_get.f k s a b) (pairOf (dval s b a 0)) :=
  get_l0 s a b (by omega) h0 (by omega) b hb 0 a 0 (by omega) (by omega) (by decide) (by omega) rfl
theorem number_l0 (s : ByteArray) (hsz : s.size ≤ 100) (j : Nat) : ∀ (n i : Int) (c : Nat), c + j ≤ 4 → 0 ≤ n → n < 10 ^ c → 0 ≤ i → i + j = s.size →
    Ev (fun k => stowageref4_number.l0 k s n i) (orMinus (dval s j i n)) := by
  induction j with
  | zero =>
    intro n i c hc hn hn1 hi hij
    refine Ev.step (f := fun _ => some n) (fun k => ?_) (Ev.now _)
    rw [stowageref4_number.l0, if_neg (by omega)]
  | succ j ih =>
    intro n i c hc hn hn1 hi hij
    have hp : (10 : Int) ^ c ≤ 1000 := by
      have : c = 0 ∨ c = 1 ∨ c = 2 ∨ c = 3 := by omega
      rcases this with rfl | rfl | rfl | rfl <;> decide
    have hbr := bt_range s i
    by_cases h : i < (s.size : Int) ∧ 48 ≤ bt s i ∧ bt s i ≤ 57
    · rw [dval, if_pos h]
      refine Ev.step (f := fun k => stowageref4_number.l0 k s (10 * n + (bt s i - 48)) (i + 1)) (fun k => ?_) ?_
      · rw [stowageref4_number.l0, if_pos h.1, if_pos hi, if_neg (by omega), if_neg (by omega),
          w64 (n := 10 * n) (by omega) (by omega), show (bt s i - 48) % 256 = bt s i - 48 by omega, w64 (n := 10 * n + (bt s i - 48)) (by omega) (by omega), w64 (n := i + 1) (by omega) (by omega)]
      · refine ih _ _ (c + 1) (by omega) (by omega) ?_ (by omega) (by omega)
        rw [Int.pow_succ]; omega
    · rw [dval, if_neg h]
      refine Ev.step (f := fun _ => some (-1)) (fun k => ?_) (Ev.now _)
      rw [stowageref4_number.l0, if_pos (by omega), if_pos hi]
      by_cases c2 : bt s i < 48
      · rw [if_pos c2]
      · rw [if_neg c2, if_pos (by omega)]
theorem bt_extract (s : ByteArray) (a b : Nat) (i : Int) (h0 : 0 ≤ i) (h1 : a + i < b) (h2 : b ≤ s.size) : bt (s.extract a b) i = bt s (a + i) := by
  unfold bt
  have hs : (s.extract a b).size = b - a := by rw [ByteArray.size_extract]; omega
  rw [dif_pos (show i.toNat < (s.extract a b).size by omega), dif_pos (show ((a : Int) + i).toNat < s.size by omega)]
  congr 2
  rw [ByteArray.getElem_extract]
  congr 1
  omega
theorem dval_extract (s : ByteArray) (a b : Nat) (h2 : b ≤ s.size) (j : Nat) : ∀ (i n : Int), 0 ≤ i → a + i + j = b → dval (s.extract a b) j i n = dval s j (a + i) n := by
  have hs : (s.extract a b).size = b - a := by rw [ByteArray.size_extract]; omega
  induction j with
  | zero => intro i n _ _; rfl
  | succ j ih =>
    intro i n h0 hj
    rw [dval, dval, bt_extract s a b i h0 (by omega) h2, ih (i + 1) _ (by omega) (by omega), hs, show (a : Int) + (i + 1) = a + i + 1 by omega]
    by_cases c : 48 ≤ bt s (a + i) ∧ bt s (a + i) ≤ 57
    · rw [if_pos ⟨by omega, c⟩, if_pos ⟨by omega, c⟩]
    · rw [if_neg (fun h => c h.2), if_neg (fun h => c h.2)]
theorem number_ev (s : ByteArray) (a b : Nat) (hab : a ≤ b) (hb : b ≤ a + 4) (h2 : b ≤ s.size) : Ev (fun k => stowageref4_number.f k (s.extract a b)) (orMinus (dval s (b - a) a 0)) := by
  have hs : (s.extract a b).size = b - a := by rw [ByteArray.size_extract]; omega
  have h := number_l0 (s.extract a b) (by omega) (b - a) 0 0 0 (by omega) (by omega) (by decide) (by omega) (by omega)
  rw [dval_extract s a b h2 (b - a) 0 0 (by omega) (by omega)] at h
  rw [show (a : Int) + 0 = a by omega] at h
  exact h
theorem dval_two (s : ByteArray) (i : Int) : dval s 2 i 0 = if (i < (s.size : Int) ∧ 48 ≤ bt s i ∧ bt s i ≤ 57) ∧ (i + 1 < (s.size : Int) ∧ 48 ≤ bt s (i + 1) ∧ bt s (i + 1) ≤ 57) then some (10 * (bt s i - 48) + (bt s (i + 1) - 48)) else none := by
  simp only [dval]
  by_cases h1 : i < (s.size : Int) ∧ 48 ≤ bt s i ∧ bt s i ≤ 57
  · rw [if_pos h1]
    by_cases h2 : i + 1 < (s.size : Int) ∧ 48 ≤ bt s (i + 1) ∧ bt s (i + 1) ≤ 57
    · rw [if_pos h2, if_pos ⟨h1, h2⟩]; congr 1; omega
    · rw [if_neg h2, if_neg (fun h => h2 h.2)]
  · rw [if_neg h1, if_neg (fun h => h1 h.1)]
theorem dval_none2 (s : ByteArray) (i : Int) (v : Int) (h : dval s 2 i 0 = some v) : 0 ≤ v ∧ v ≤ 99 ∧ bt s i = 48 + v / 10 ∧ bt s (i + 1) = 48 + v % 10 := by
  rw [dval_two] at h
  split at h
  · simp only [Option.some.injEq] at h; omega
  · simp at h
theorem dval_four (s : ByteArray) (i : Int) (v : Int) (h : dval s 4 i 0 = some v) : 0 ≤ v ∧ v ≤ 9999 ∧ bt s i = 48 + v / 1000 ∧ bt s (i + 1) = 48 + v / 100 % 10 ∧ bt s (i + 2) = 48 + v / 10 % 10 ∧ bt s (i + 3) = 48 + v % 10 := by
  simp only [dval] at h
  rw [show i + 1 + 1 = i + 2 by omega, show i + 2 + 1 = i + 3 by omega] at h
  split at h
  · split at h
    · split at h
      · split at h
        · simp only [Option.some.injEq] at h; omega
        · simp at h
      · simp at h
    · simp at h
  · simp at h
theorem dval_is2 (s : ByteArray) (i v : Int) (h0 : 0 ≤ v) (h1 : v ≤ 99) (hs : i + 1 < (s.size : Int)) (a : bt s i = 48 + v / 10) (b : bt s (i + 1) = 48 + v % 10) : dval s 2 i 0 = some v := by
  rw [dval_two, if_pos (by omega)]; congr 1; omega
theorem dval_is4 (s : ByteArray) (i v : Int) (h0 : 0 ≤ v) (h1 : v ≤ 9999) (hs : i + 3 < (s.size : Int)) (a : bt s i = 48 + v / 1000) (b : bt s (i + 1) = 48 + v / 100 % 10) (c : bt s (i + 2) = 48 + v / 10 % 10) (d : bt s (i + 3) = 48 + v % 10) : dval s 4 i 0 = some v := by
  simp only [dval]
  rw [show i + 1 + 1 = i + 2 by omega, show i + 2 + 1 = i + 3 by omega, a, b, c, d, if_pos (by omega), if_pos (by omega), if_pos (by omega), if_pos (by omega)]
  congr 1; omega
theorem son_size (l : List Int) : (strOfNums l).size = l.length := by simp [strOfNums, ByteArray.size]
theorem bt_son (l : List Int) (h : ∀ x ∈ l, 0 ≤ x ∧ x ≤ 255) (i : Nat) (hi : i < l.length) : bt (strOfNums l) i = l[i] := by
  unfold bt
  rw [dif_pos (by rw [son_size]; omega)]
  have hx := h l[i] (List.getElem_mem hi)
  show (((strOfNums l).data[i]'(by simpa [strOfNums] using hi)).toNat : Int) = l[i]
  simp only [strOfNums, List.getElem_toArray, List.getElem_map]
  rw [UInt8.toNat_ofNat']
  omega
end Go.Proofs.Yteggifhicmbopaa.Pure
