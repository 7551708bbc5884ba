/- A part of the proof of the seat's laws. No condition beyond those in the theorems. -/
import Derived.Test.YthjofhklkkmdoaaZTagsB
import Derived.Test.YthjofhklkkmdoaaZQ12
import Derived.Test.YthjofhklkkmdoaaZQ13g6

namespace Go.Proofs.Ythjofhklkkmdoaa.Pure
open Go.RowKit Go.Proofs.Ythjofhklkkmdoaa.Q Go.Proofs.YthjofhklkkmdoaaW.PrintWords Go.Proofs.YthjofhklkkmdoaaW.PrintLast
set_option linter.unusedVariables false
set_option linter.unusedSimpArgs false
theorem blank_two {α : Type} (c : UInt8) (a b : Option α) : (if (c.toNat : Int) = 32 then a else if (c.toNat : Int) = 9 then a else b) = if blankB c = true then a else b := by
  rw [blankB]
  by_cases h : c = 32
  · subst h; rfl
  · rw [if_neg (fun q : (c.toNat : Int) = 32 => h (toNat_eq.mp q)), show (c == 32) = false by simpa using h, Bool.false_or]
    by_cases g : c = 9
    · subst g; rfl
    · rw [if_neg (fun q : (c.toNat : Int) = 9 => g (toNat_eq.mp q)), show (c == 9) = false by simpa using g, if_neg (by simp)]
theorem rtrim_l1 (m : List UInt8) (hm : m.length ≤ 1000000000000000) : Ev (fun k => stowageref3_Trim.l1 k (B m.reverse)) (B (dropB m).reverse) := by
  induction m with
  | nil => exact Ev.step (f := fun _ => some (B [])) (fun k => by rw [stowageref3_Trim.l1, if_neg (by rw [B_size]; simp)]; rfl) (Ev.now _)
  | cons c m ih =>
    rw [List.length_cons] at hm
    have hz : ((B (c :: m).reverse).size : Int) = (m.length : Int) + 1 := by rw [B_size, List.length_reverse, List.length_cons]; omega
    have hw : wrap64 (((B (c :: m).reverse).size : Int) - 1) = (m.length : Int) := by rw [hz, w64 (by omega) (by omega)]; omega
    have hb := bt_B (c :: m).reverse m.length c (last_at m c)
    refine Ev.step (f := fun k => if blankB c = true then stowageref3_Trim.l1 k (B m.reverse) else some (B (c :: m).reverse)) (fun k => ?_) ?_
    · rw [stowageref3_Trim.l1, if_pos (by omega), hw, if_pos (by omega), if_pos (by omega), hb, blank_two]
      by_cases h : blankB c = true
      · rw [if_pos h, if_pos h, if_pos (by omega), B_extract, Int.toNat_natCast, last_off]
      · rw [if_neg h, if_neg h]
    · rw [dropB]
      by_cases h : blankB c = true
      · rw [if_pos h]; exact ev_pos h (ih (by omega))
      · rw [if_neg h]; exact ev_neg h (Ev.now _)
theorem rtrim_l0 (l : List UInt8) (hl : l.length ≤ 1000000000000000) : Ev (fun k => stowageref3_Trim.l0 k (B l)) (B (trimB l)) := by
  have tail : ∀ d : List UInt8, d.length ≤ 1000000000000000 → Ev (fun k => stowageref3_Trim.j1 k (B d)) (B (dropB d.reverse).reverse) := fun d hd => by
    refine Ev.step (f := fun k => stowageref3_Trim.l1 k (B d)) (fun k => by rw [stowageref3_Trim.j1]) ?_
    have := rtrim_l1 d.reverse (by rw [List.length_reverse]; exact hd)
    rwa [List.reverse_reverse] at this
  induction l with
  | nil => exact Ev.step (f := fun k => stowageref3_Trim.j1 k (B [])) (fun k => by rw [stowageref3_Trim.l0, if_neg (by rw [B_size]; simp)]) (tail [] (by simp))
  | cons c l ih =>
    have hb := bt_B (c :: l) 0 c rfl
    have hb' : bt (B (c :: l)) 0 = (c.toNat : Int) := hb
    have hz : ((B (c :: l)).size : Int) = (l.length : Int) + 1 := by rw [B_size, List.length_cons]; omega
    have hz' : (B (c :: l)).size = l.length + 1 := by rw [B_size, List.length_cons]
    refine Ev.step (f := fun k => if blankB c = true then stowageref3_Trim.l0 k (B l) else stowageref3_Trim.j1 k (B (c :: l))) (fun k => ?_) ?_
    · rw [stowageref3_Trim.l0, if_pos (by omega), if_pos (by omega), hb', blank_two]
      by_cases h : blankB c = true
      · rw [if_pos h, if_pos h, if_pos (by omega), hz', B_extract, List.take_of_length_le (by simp), List.drop_one, List.tail_cons]
      · rw [if_neg h, if_neg h]
    · rw [List.length_cons] at hl
      by_cases h : blankB c = true
      · refine ev_pos h ?_
        have e : trimB (c :: l) = trimB l := by rw [trimB, dropB, if_pos h]; rfl
        rw [e]; exact ih (by omega)
      · refine ev_neg h ?_
        have e : trimB (c :: l) = (dropB (c :: l).reverse).reverse := by rw [trimB, dropB, if_neg h]
        rw [e]; exact tail (c :: l) (by rw [List.length_cons]; omega)
theorem rtrim_ev (s : ByteArray) (hs : s.size ≤ 1000000000000000) : Ev (fun k => stowageref3_Trim.f k s) (B (trimB s.toList)) := by
  have := rtrim_l0 s.toList (by rw [length_toList]; exact hs)
  rw [of_B] at this
  exact this
theorem rsplit_l0 (s : ByteArray) (c : UInt8) (hs : s.size ≤ 1000000000000000) (l : List UInt8) : ∀ (pre cur : List UInt8) (out : List ByteArray), s.toList = pre ++ (cur ++ l) → out.length + (splitB c cur l).length ≤ 8796093022208 →
    Ev (fun k => stowageref3_Split.l0 k s (c.toNat : Int) out (pre.length : Int) ((pre.length + cur.length : Nat) : Int)) (out ++ (splitB c cur l).map B) := by
  have hsl := length_toList s
  induction l with
  | nil =>
    intro pre cur out e hlim
    have hl := congrArg List.length e
    rw [hsl, List.length_append, List.length_append, List.length_nil] at hl
    have hx : s.extract pre.length s.size = B cur := by
      rw [← piece_of s pre cur [] e]; congr 1
    refine Ev.step (f := fun _ => some (out ++ [B cur])) (fun k => ?_) (Ev.now _)
    rw [stowageref3_Split.l0, if_neg (by omega), if_pos (by omega), if_pos (by omega), if_pos (by rw [splitB, List.length_singleton] at hlim; omega), Int.toNat_natCast, hx]
  | cons b l ih =>
    intro pre cur out e hlim
    have hl := congrArg List.length e
    rw [hsl, List.length_append, List.length_append, List.length_cons] at hl
    have hb := (bt_drop s (pre.length + cur.length) b l (by rw [e, ← List.append_assoc, ← List.length_append, List.drop_left'] ; rfl)).1
    by_cases h : b = c
    · subst h
      rw [splitB, if_pos rfl, List.length_cons] at hlim
      have hx := piece_of s pre cur (b :: l) e
      have q := ih (pre ++ (cur ++ [b])) [] (out ++ [B cur]) (by rw [e]; simp) (by rw [List.length_append, List.length_singleton]; omega)
      refine Ev.step (f := fun k => stowageref3_Split.l0 k s (b.toNat : Int) (out ++ [B cur]) ((pre.length + cur.length : Nat) + 1 : Int) ((pre.length + cur.length : Nat) + 1 : Int)) (fun k => ?_) ?_
      · rw [stowageref3_Split.l0, if_pos (by omega), if_pos (by omega), if_pos hb, if_pos (by omega), if_pos (by omega), if_pos (by omega), if_pos (by omega), w64 (n := ((pre.length + cur.length : Nat) : Int) + 1) (by omega) (by omega), Int.toNat_natCast, Int.toNat_natCast, hx]
      · rw [splitB, if_pos rfl, List.map_cons]
        have e1 : (((pre ++ (cur ++ [b])).length : Nat) : Int) = ((pre.length + cur.length : Nat) : Int) + 1 := by simp; omega
        have e2 : (((pre ++ (cur ++ [b])).length + ([] : List UInt8).length : Nat) : Int) = ((pre.length + cur.length : Nat) : Int) + 1 := by simp; omega
        rw [e1, e2, List.append_assoc] at q
        exact q
    · have hne : ¬ bt s ((pre.length + cur.length : Nat) : Int) = (c.toNat : Int) := by rw [hb]; intro q; exact h (toNat_eq.mp q)
      rw [splitB, if_neg h] at hlim
      have q := ih pre (cur ++ [b]) out (by rw [e]; simp) hlim
      refine Ev.step (f := fun k => stowageref3_Split.l0 k s (c.toNat : Int) out (pre.length : Int) ((pre.length + cur.length : Nat) + 1 : Int)) (fun k => ?_) ?_
      · rw [stowageref3_Split.l0, if_pos (by omega), if_pos (by omega), if_neg hne, w64 (n := ((pre.length + cur.length : Nat) : Int) + 1) (by omega) (by omega)]
      · rw [splitB, if_neg h]
        have e2 : ((pre.length + (cur ++ [b]).length : Nat) : Int) = ((pre.length + cur.length : Nat) : Int) + 1 := by simp; omega
        rw [e2] at q
        exact q
theorem rsplit_ev (s : ByteArray) (c : UInt8) (hs : s.size ≤ 1000000000000000) (hn : (splitB c [] s.toList).length ≤ 8796093022208) : Ev (fun k => stowageref3_Split.f k s (c.toNat : Int)) ((splitB c [] s.toList).map B) := by
  have := rsplit_l0 s c hs s.toList [] [] [] rfl (by simp only [List.length_nil]; omega)
  rw [List.nil_append] at this
  exact this
theorem unquote_eq (l : List UInt8) (hl : l.length ≤ 1000000000000000) : stowageref15_Unquote.f (B l) = some (B (bareB l)) := by
  have hz := B_size l
  rw [stowageref15_Unquote.f, bareB]
  by_cases c : 1 < l.length
  · obtain ⟨a, m, rfl⟩ : ∃ a m, l = a :: m := by cases l with | nil => simp at c | cons a m => exact ⟨a, m, rfl⟩
    obtain ⟨z, hz'⟩ : ∃ z, (a :: m)[(a :: m).length - 1]? = some z := ⟨_, List.getElem?_eq_getElem (by omega)⟩
    have h0 : bt (B (a :: m)) 0 = (a.toNat : Int) := bt_B _ 0 a rfl
    have hw : wrap64 (((B (a :: m)).size : Int) - 1) = (((a :: m).length - 1 : Nat) : Int) := by rw [w64 (by omega) (by omega)]; omega
    have h1 := bt_B _ _ z hz'
    rw [if_pos (by omega), if_pos (by omega), h0, hw, quotedB, decide_eq_true c, hz', Bool.true_and]
    by_cases ha : a = 34
    · subst ha
      rw [if_pos (show ((34 : UInt8).toNat : Int) = 34 from rfl), if_pos (by omega), if_pos (by omega), h1]
      by_cases hq : z = 34
      · subst hq; rw [if_pos (show ((34 : UInt8).toNat : Int) = 34 from rfl), if_pos (by omega), if_pos (by omega), Int.toNat_natCast, B_extract, if_pos (by rfl)]
      · rw [if_neg (fun q : (z.toNat : Int) = 34 => hq (toNat_eq.mp q)), if_neg]
        intro q
        rw [Bool.and_eq_true] at q
        exact hq (Option.some.inj (beq_iff_eq.mp q.2))
    · rw [if_neg (fun q : (a.toNat : Int) = 34 => ha (toNat_eq.mp q)), if_neg]
      intro q
      rw [Bool.and_eq_true] at q
      exact ha (Option.some.inj (beq_iff_eq.mp q.1))
  · rw [if_neg (by omega), if_neg]
    rw [quotedB, decide_eq_false c]
    simp
theorem rtags_l0 (all : List (List UInt8)) (hall : ∀ p ∈ all, p.length ≤ 1000000000000000) (hn : all.length ≤ 8796093022208) (ps : List (List UInt8)) : ∀ (pre : List (List UInt8)) (out : List ByteArray), all = pre ++ ps → out.length = pre.length →
    Ev (fun k => stowageref21_Tags.l0 k (all.map B) out (pre.length : Int)) (match allB ps with | none => ([], false, false) | some o => (out ++ o.map B, false, true)) := by
  induction ps with
  | nil =>
    intro pre out e ho
    rw [List.append_nil] at e
    refine Ev.step (f := fun _ => some (out, false, true)) (fun k => ?_) (ev_eq (Ev.now _) (by simp [allB]))
    rw [stowageref21_Tags.l0, if_neg (by rw [List.length_map, e]; omega)]
  | cons p ps ih =>
    intro pre out e ho
    have hlen : all.length = pre.length + (ps.length + 1) := by rw [e, List.length_append, List.length_cons]
    have hml : (all.map B).length = all.length := List.length_map _
    have hp : p.length ≤ 1000000000000000 := hall p (by rw [e]; simp)
    have hget : rdOf ByteArray.empty (all.map B) (pre.length : Int) = B p := by
      rw [rdOf]
      simp [e]
    have ht : (trimB p).length ≤ 1000000000000000 := Nat.le_trans (trimB_len p) hp
    have hs : (strongB (trimB p)).length ≤ 1000000000000000 := Nat.le_trans (strongB_len _) ht
    have hev : Ev (fun k => stowageref3_Trim.f k (B p)) (B (trimB p)) := by
      have := rtrim_ev (B p) (by rw [B_size]; exact hp)
      rwa [B_toList] at this
    have on : Ev (fun k => if (B (oneB p)).toList = ([] : List UInt8) then (some (([] : List ByteArray), false, false)) else (if out.length < 8796093022208 then (stowageref21_Tags.l0 k (all.map B) (out ++ [B (oneB p)]) (wrap64 ((pre.length : Int) + 1))) else (none))) (match allB (p :: ps) with | none => ([], false, false) | some o => (out ++ o.map B, false, true)) := by
      rw [B_toList, allB]
      by_cases h : oneB p = []
      · rw [if_pos h]; exact ev_pos h (Ev.now _)
      · rw [if_neg h]
        refine ev_neg h (ev_pos (by omega) ?_)
        rw [w64 (n := (pre.length : Int) + 1) (by omega) (by omega)]
        have := ih (pre ++ [p]) (out ++ [B (oneB p)]) (by rw [e]; simp) (by simp [ho])
        rw [show (((pre ++ [p]).length : Nat) : Int) = (pre.length : Int) + 1 by simp] at this
        refine ev_eq this ?_
        cases allB ps with
        | none => rfl
        | some o => simp
    refine Ev.step (f := fun k => _) (fun k => by rw [stowageref21_Tags.l0, if_pos (by omega), if_pos (by omega), hget]) ?_
    refine Ev.bind hev ?_
    have hz : (⟨#[87, 47]⟩ : ByteArray).size = 2 := rfl
    have hpw : (⟨#[87, 47]⟩ : ByteArray).toList = [87, 47] := B_toList [87, 47]
    have hb : stowageref3_Begins.f (B (trimB p)) ⟨#[87, 47]⟩ = some (weakB (trimB p)) := by
      have : stowageref3_Begins.f (B (trimB p)) ⟨#[87, 47]⟩ = some (hasP (B (trimB p)) ⟨#[87, 47]⟩) := by rw [← hasPrefix_eq]; rfl
      rw [this, hasP, hz, B_size, B_extract, B_toList, hpw, List.drop_zero, weakB]
      by_cases c : 2 ≤ (trimB p).length
      · rw [decide_eq_true c, Bool.true_and]
      · rw [decide_eq_false c, Bool.false_and]
        congr 1
        symm
        rw [beq_eq_false_iff_ne]
        intro q
        have := congrArg List.length q
        rw [List.length_take] at this
        simp at this
        omega
    refine ev_some hb ?_
    by_cases w : weakB (trimB p) = true
    · have h2 : 2 ≤ (trimB p).length := by
        rw [weakB] at w
        have := congrArg List.length (beq_iff_eq.mp w)
        rw [List.length_take] at this
        simp at this
        omega
      refine ev_pos w (ev_pos (by rw [B_size]; omega) ?_)
      have hd : (B (trimB p)).extract 2 (B (trimB p)).size = B (strongB (trimB p)) := by rw [B_size, B_extract, List.take_length, strongB, if_pos w]
      rw [hd]
      exact ev_some (unquote_eq _ hs) on
    · refine ev_neg w ?_
      have hd : trimB p = strongB (trimB p) := by rw [strongB, if_neg w]
      have hu := unquote_eq _ hs
      rw [← hd] at hu
      refine ev_some hu ?_
      rw [oneB, ← hd] at on
      exact on
theorem rtags_ev (s : ByteArray) (hs : s.size ≤ 1000000000000000) (hn : (splitB 44 [] s.toList).length ≤ 8796093022208) : Ev (fun k => stowageref21_Tags.f k s) (tagsB s.toList) := by
  have hsl := length_toList s
  simp only [stowageref21_Tags.f, tagsB]
  refine Ev.bind (rtrim_ev s (by omega)) ?_
  rw [B_toList]
  by_cases h : trimB s.toList = [42]
  · rw [if_pos h]; exact ev_pos h (Ev.now _)
  · rw [if_neg h]
    refine ev_neg h (Ev.bind (rsplit_ev s 44 hs hn) ?_)
    obtain ⟨h1, h2⟩ := splitB_len 44 s.toList []
    have := rtags_l0 (splitB 44 [] s.toList) (fun p hp => by have := h2 p hp; rw [List.length_nil] at this; omega) hn (splitB 44 [] s.toList) [] [] rfl rfl
    exact this
theorem same_l0 (all : List ByteArray) (hn : all.length ≤ 1000000000000000) (j : Nat) : ∀ i : Nat, all.length = i + j → Ev (fun k => stowageref1_SameTexts.l0 k all all (i : Int)) true := by
  induction j with
  | zero => intro i e; exact Ev.step (f := fun _ => some true) (fun k => by rw [stowageref1_SameTexts.l0, if_neg (by omega)]) (Ev.now _)
  | succ j ih =>
    intro i e
    exact Ev.step (f := fun k => stowageref1_SameTexts.l0 k all all ((i + 1 : Nat) : Int)) (fun k => by rw [stowageref1_SameTexts.l0, if_pos (by omega), if_pos (by omega), if_pos (by omega), if_pos rfl, w64 (by omega) (by omega)]; rfl) (ih (i + 1) (by omega))
theorem same_ev (all : List ByteArray) (hn : all.length ≤ 1000000000000000) : Ev (fun k => stowageref1_SameTexts.f k all all) true := by
  simp only [stowageref1_SameTexts.f]
  exact ev_pos trivial (same_l0 all hn all.length 0 (by omega))
end Go.Proofs.Ythjofhklkkmdoaa.Pure
