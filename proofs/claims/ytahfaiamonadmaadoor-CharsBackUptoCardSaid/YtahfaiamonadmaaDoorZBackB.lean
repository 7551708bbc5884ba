/- A part of the proof of the seat's laws. No condition beyond those in the theorems. -/
import Derived.Test.YtahfaiamonadmaaDoorZEscB
import Derived.Test.YtahfaiamonadmaaDoorZSplitB

namespace Go.Proofs.YtahfaiamonadmaaDoor.Pure
open Go.RowKit Go.Proofs.YtahfaiamonadmaaDoor.Q Go.Proofs.YtahfaiamonadmaaDoorW.PrintWords Go.Proofs.YtahfaiamonadmaaDoorW.PrintLast
set_option linter.unusedVariables false
set_option linter.unusedSimpArgs false
theorem e_len (b : Bool) (c : UInt8) : 1 ≤ (chars_Escape.e b c).length ∧ (chars_Escape.e b c).length ≤ 3 := by
  unfold chars_Escape.e
  split <;> simp
theorem back_key : ∀ n : Fin 256, (chars_Unescape.dig ((chars_Escape.hex (n.val / 16)).toNat : Int)).2 = true ∧ (chars_Unescape.dig ((chars_Escape.hex (n.val % 16)).toNat : Int)).2 = true ∧ ((chars_Unescape.dig ((chars_Escape.hex (n.val / 16)).toNat : Int)).1 * 16 + (chars_Unescape.dig ((chars_Escape.hex (n.val % 16)).toNat : Int)).1).toNat.toUInt8 = UInt8.ofNat n.val := by decide +kernel
theorem back_hex (c : UInt8) : (chars_Unescape.dig ((chars_Escape.hex (c.toNat / 16)).toNat : Int)).2 = true ∧ (chars_Unescape.dig ((chars_Escape.hex (c.toNat % 16)).toNat : Int)).2 = true ∧ ((chars_Unescape.dig ((chars_Escape.hex (c.toNat / 16)).toNat : Int)).1 * 16 + (chars_Unescape.dig ((chars_Escape.hex (c.toNat % 16)).toNat : Int)).1).toNat.toUInt8 = c := by
  have h := back_key ⟨c.toNat, c.toNat_lt⟩
  simp only [UInt8.ofNat_toNat] at h
  exact h
theorem keep_37 : ∀ b : Bool, chars_Escape.keep 37 b = false := by decide
theorem nat_u8 (c : UInt8) : ((c.toNat : Int)).toNat.toUInt8 = c := by
  apply UInt8.toNat_inj.mp
  rw [Nat.toUInt8, UInt8.toNat_ofNat']
  have := c.toNat_lt
  omega
theorem unesc_esc (T : ByteArray) (b : Bool) (l : List UInt8) : ∀ (pre acc : List UInt8) (fuel : Nat), T.toList = pre ++ l.flatMap (chars_Escape.e b) → T.size ≤ pre.length + fuel → chars_Unescape.g T fuel pre.length acc = (B (acc ++ l), true) := by
  induction l with
  | nil =>
    intro pre acc fuel h hf
    have e := pre_end T pre h
    cases fuel with
    | zero => rw [chars_Unescape.g, List.append_nil]; rfl
    | succ n => rw [chars_Unescape.g, if_neg (by omega), List.append_nil]; rfl
  | cons c l ih =>
    intro pre acc fuel h hf
    rw [List.flatMap_cons] at h
    by_cases hk : chars_Escape.keep (c.toNat : Int) b = true
    · rw [show chars_Escape.e b c = [c] by rw [chars_Escape.e, if_pos hk]] at h
      obtain ⟨hb, hl⟩ := bt_pre T pre _ c h
      have hne : ¬ (c.toNat : Int) = 37 := by
        intro e
        rw [e, keep_37] at hk
        exact Bool.false_ne_true hk
      cases fuel with
      | zero => omega
      | succ n =>
        rw [chars_Unescape.g, if_pos hl, hb, if_neg hne, nat_u8]
        have := ih (pre ++ [c]) (acc ++ [c]) n (by rw [h]; simp) (by simp; omega)
        rw [List.length_append, List.length_singleton] at this
        rw [this]
        simp
    · rw [show chars_Escape.e b c = [37, chars_Escape.hex (c.toNat / 16), chars_Escape.hex (c.toNat % 16)] by rw [chars_Escape.e, if_neg hk]] at h
      obtain ⟨h0, l0⟩ := bt_pre T pre _ 37 h
      obtain ⟨h1, l1⟩ := bt_pre T (pre ++ [37]) (chars_Escape.hex (c.toNat % 16) :: l.flatMap (chars_Escape.e b)) (chars_Escape.hex (c.toNat / 16)) (by rw [h]; simp)
      obtain ⟨h2, l2⟩ := bt_pre T (pre ++ [37, chars_Escape.hex (c.toNat / 16)]) (l.flatMap (chars_Escape.e b)) (chars_Escape.hex (c.toNat % 16)) (by rw [h]; simp)
      rw [List.length_append] at h1 h2 l2
      simp only [List.length_cons, List.length_nil] at h1 h2 l2
      obtain ⟨d1, d2, d3⟩ := back_hex c
      cases fuel with
      | zero => omega
      | succ n =>
        rw [chars_Unescape.g, if_pos l0, h0, if_pos (by rfl), if_neg (by omega)]
        have e1 : bt T ((pre.length : Int) + 1) = ((chars_Escape.hex (c.toNat / 16)).toNat : Int) := h1
        have e2 : bt T ((pre.length : Int) + 2) = ((chars_Escape.hex (c.toNat % 16)).toNat : Int) := h2
        rw [e1, e2, d1, d2, if_pos (by rfl), d3]
        have := ih (pre ++ [37, chars_Escape.hex (c.toNat / 16), chars_Escape.hex (c.toNat % 16)]) (acc ++ [c]) n (by rw [h]; simp) (by simp; omega)
        rw [List.length_append] at this
        simp only [List.length_cons, List.length_nil] at this
        rw [this]
        simp
theorem s_list (a : ByteArray) (b : Bool) : (chars_Escape.s a b).toList = a.toList.flatMap (chars_Escape.e b) := by
  rw [ByteArray.toList_eq, ByteArray.toList_eq, chars_Escape.s]
theorem flat_len (b : Bool) (l : List UInt8) : (l.flatMap (chars_Escape.e b)).length ≤ 3 * l.length := by
  induction l with
  | nil => simp
  | cons c l ih =>
    have := e_len b c
    rw [List.flatMap_cons, List.length_append, List.length_cons]
    omega
theorem s_size (a : ByteArray) (b : Bool) : (chars_Escape.s a b).size ≤ 3 * a.size := by
  rw [← length_toList, ← length_toList, s_list]
  exact flat_len b _
theorem unesc_back (a : ByteArray) (b : Bool) : chars_Unescape.g (chars_Escape.s a b) (chars_Escape.s a b).size 0 [] = (a, true) := by
  have h := unesc_esc (chars_Escape.s a b) b a.toList [] [] (chars_Escape.s a b).size (by rw [s_list]; rfl) (by simp)
  rw [List.nil_append, of_B] at h
  exact h
def plainB (b : Bool) (c : UInt8) : Bool := chars_Escape.keep (c.toNat : Int) b || decide ((c.toNat : Int) = 37)
theorem hex_plain : ∀ n : Fin 16, ∀ b : Bool, plainB b (chars_Escape.hex n.val) = true := by decide +kernel
theorem e_plain (b : Bool) (c : UInt8) : (chars_Escape.e b c).all (plainB b) = true := by
  have hc := c.toNat_lt
  unfold chars_Escape.e
  split
  · rename_i h
    simp [plainB, h]
  · have h1 := hex_plain ⟨c.toNat / 16, by omega⟩ b
    have h2 := hex_plain ⟨c.toNat % 16, by omega⟩ b
    simp only [List.all_cons, List.all_nil, Bool.and_true]
    rw [h1, h2]
    cases b <;> rfl
theorem flat_plain (b : Bool) (l : List UInt8) : (l.flatMap (chars_Escape.e b)).all (plainB b) = true := by
  induction l with
  | nil => rfl
  | cons c l ih => rw [List.flatMap_cons, List.all_append, e_plain, ih]; rfl
def joinB (c : UInt8) : List (List UInt8) → List UInt8
  | [] => []
  | p :: ps => p ++ ps.flatMap (fun q => c :: q)
theorem join_split (c : UInt8) (l : List UInt8) : ∀ cur, joinB c (splitB c cur l) = cur ++ l := by
  induction l with
  | nil => intro cur; simp [splitB, joinB]
  | cons a l ih =>
    intro cur
    rw [splitB]
    by_cases g : a = c
    · subst g
      rw [if_pos rfl, joinB]
      have h := ih []
      cases hs : splitB a [] l with
      | nil => rw [hs] at h; simp [joinB] at h; subst h; simp [splitB] at hs
      | cons p ps =>
        rw [hs, joinB, List.nil_append] at h
        rw [List.flatMap_cons, List.cons_append, h]
    · rw [if_neg g, ih]
      simp
theorem foldB_two (l : List UInt8) : ∀ p, foldB p (foldB p l) = foldB p l := by
  have b32 : blankB 32 = true := by decide
  induction l with
  | nil => intro p; rfl
  | cons c l ih =>
    intro p
    rw [foldB]
    by_cases g : blankB c = true
    · rw [if_pos g]
      cases p
      · rw [if_neg (by decide), foldB, if_pos b32, if_neg (by decide), ih]
      · rw [if_pos rfl, ih]
    · rw [if_neg g, foldB, if_neg g, ih]
theorem dropB_of (c : UInt8) (l : List UInt8) (h : blankB c = false) : dropB (c :: l) = c :: l := by rw [dropB, h]; rfl
theorem trimB_of (m : List UInt8) (h1 : ∀ c t, m = c :: t → blankB c = false) (h2 : ∀ c t, m.reverse = c :: t → blankB c = false) : trimB m = m := by
  have a : dropB m = m := by
    cases m with
    | nil => rfl
    | cons c t => exact dropB_of c t (h1 c t rfl)
  have b : dropB m.reverse = m.reverse := by
    cases hm : m.reverse with
    | nil => rfl
    | cons c t => exact dropB_of c t (h2 c t hm)
  rw [trimB, a, b, List.reverse_reverse]
theorem trimB_last (l : List UInt8) (c : UInt8) (t : List UInt8) (h : (trimB l).reverse = c :: t) : blankB c = false := by
  rw [trimB, List.reverse_reverse] at h
  exact dropB_head _ c t h
theorem trimB_two (l : List UInt8) : trimB (trimB l) = trimB l := trimB_of _ (fun c t h => trimB_head l c t h) (fun c t h => trimB_last l c t h)
theorem foldB_snoc (l : List UInt8) (d : UInt8) (h : blankB d = false) : ∀ p, foldB p (l ++ [d]) = foldB p l ++ [d] := by
  induction l with
  | nil => intro p; simp [foldB, h]
  | cons c l ih =>
    intro p
    rw [List.cons_append, foldB, foldB]
    split
    · split
      · rw [ih]
      · rw [ih]; rfl
    · rw [ih]; rfl
theorem foldB_len (l : List UInt8) : ∀ p, (foldB p l).length ≤ l.length := by
  induction l with
  | nil => intro p; exact Nat.le_refl _
  | cons c l ih =>
    intro p
    rw [foldB]
    have h1 := ih true
    have h2 := ih false
    (repeat' split) <;> simp <;> omega
theorem trim_fold (l : List UInt8) : trimB (foldB true (trimB l)) = foldB true (trimB l) := by
  refine trimB_of _ (fun c t h => ?_) (fun c t h => ?_)
  · cases hm : trimB l with
    | nil => rw [hm] at h; simp [foldB] at h
    | cons a m =>
      have ha := trimB_head l a m hm
      rw [hm, foldB, ha, if_neg (by decide)] at h
      rw [← (List.cons.inj h).1]
      exact ha
  · cases hm : (trimB l).reverse with
    | nil =>
      have : trimB l = [] := by have := congrArg List.reverse hm; rw [List.reverse_reverse] at this; exact this
      rw [this] at h
      simp [foldB] at h
    | cons a m =>
      have ha := trimB_last l a m hm
      have e : trimB l = m.reverse ++ [a] := by have := congrArg List.reverse hm; rw [List.reverse_reverse, List.reverse_cons] at this; exact this
      rw [e, foldB_snoc _ a ha, List.reverse_append, List.reverse_singleton, List.singleton_append] at h
      rw [← (List.cons.inj h).1]
      exact ha
theorem fold_two (l : List UInt8) : foldB true (trimB (foldB true (trimB l))) = foldB true (trimB l) := by rw [trim_fold, foldB_two]
end Go.Proofs.YtahfaiamonadmaaDoor.Pure
