/- A part of the proof of the seat's laws. No condition beyond those in the theorems. -/
import Derived.Test.YthjofhklkkmdoaaZCondAsk
import Derived.Test.YthjofhklkkmdoaaZCondAwake
import Derived.Test.YthjofhklkkmdoaaZQ54

namespace Go.Proofs.Ythjofhklkkmdoaa.Pure
open Go.RowKit Go.Proofs.Ythjofhklkkmdoaa.Q Go.Proofs.YthjofhklkkmdoaaW.PrintWords Go.Proofs.YthjofhklkkmdoaaW.PrintLast
set_option linter.unusedVariables false
set_option linter.unusedSimpArgs false
def plainB (l : List UInt8) : Bool := l.all (fun c => decide (97 ≤ c.toNat) && decide (c.toNat ≤ 122)) && decide (0 < l.length)
theorem plain_l0 (s : ByteArray) (hs : s.size ≤ 1000000000000000) (l : List UInt8) : ∀ pre : List UInt8, s.toList = pre ++ l →
    Ev (fun k => stowagelaw21_plain.l0 k s (pre.length : Int)) (l.all (fun c => decide (97 ≤ c.toNat) && decide (c.toNat ≤ 122)) && decide (0 < s.size)) := by
  have hsl := length_toList s
  induction l with
  | nil =>
    intro pre e
    rw [List.append_nil] at e
    have : pre.length = s.size := by rw [← hsl, e]
    exact Ev.step (f := fun _ => some (decide ((s.size : Int) > 0))) (fun k => by rw [stowagelaw21_plain.l0, if_neg (by omega)]) (ev_eq (Ev.now _) (by
      rw [List.all_nil, Bool.true_and]; exact decide_eq_decide.mpr (by omega)))
  | cons b l ih =>
    intro pre e
    have hl := congrArg List.length e
    rw [hsl, List.length_append, List.length_cons] at hl
    have hb := (bt_drop s pre.length b l (by rw [e]; simp)).1
    refine Ev.step (f := fun k => _) (fun k => by rw [stowagelaw21_plain.l0, if_pos (by omega), if_pos (by omega), hb, w64 (n := (pre.length : Int) + 1) (by omega) (by omega)]) ?_
    rw [List.all_cons]
    by_cases c : (b.toNat : Int) < 97
    · refine ev_pos c (ev_eq (Ev.now _) ?_)
      rw [show decide (97 ≤ b.toNat) = false from decide_eq_false (by omega)]; simp
    · refine ev_neg c ?_
      rw [show decide (97 ≤ b.toNat) = true from decide_eq_true (by omega)]
      by_cases c' : (b.toNat : Int) > 122
      · refine ev_pos c' (ev_eq (Ev.now _) ?_)
        rw [show decide (b.toNat ≤ 122) = false from decide_eq_false (by omega)]; simp
      · refine ev_neg c' ?_
        rw [show decide (b.toNat ≤ 122) = true from decide_eq_true (by omega), Bool.and_self, Bool.true_and]
        have := ih (pre ++ [b]) (by rw [e]; simp)
        rw [show (((pre ++ [b]).length : Nat) : Int) = (pre.length : Int) + 1 by simp] at this
        exact this
theorem plain_ev (s : ByteArray) (hs : s.size ≤ 1000000000000000) : Ev (fun k => stowagelaw21_plain.f k s) (plainB s.toList) := by
  have := plain_l0 s hs s.toList [] rfl
  rw [plainB, length_toList]
  exact this
def quoteB (l : List UInt8) : List UInt8 := [32, 87, 47, 34, 122, 122, 34, 44, 32, 34] ++ l ++ [34, 32]
theorem quote_eq (s : ByteArray) (hs : s.size ≤ 200000000000000) : stowagelaw21_CondPairs_1.f s = some (B (quoteB s.toList)) := by
  rw [stowagelaw21_CondPairs_1.f, if_pos (by omega), if_pos (by rw [ByteArray.size_append]; have : (⟨#[32, 87, 47, 34, 122, 122, 34, 44, 32, 34]⟩ : ByteArray).size = 10 := rfl; omega)]
  congr 1
  apply toList_inj
  rw [toList_append, toList_append, B_toList, quoteB, show (⟨#[32, 87, 47, 34, 122, 122, 34, 44, 32, 34]⟩ : ByteArray).toList = [32, 87, 47, 34, 122, 122, 34, 44, 32, 34] from B_toList _, show (⟨#[34, 32]⟩ : ByteArray).toList = [34, 32] from B_toList _]
theorem split_none (c : UInt8) (l : List UInt8) (h : ∀ x ∈ l, x ≠ c) : ∀ cur, splitB c cur l = [cur ++ l] := by
  induction l with
  | nil => intro cur; rw [splitB, List.append_nil]
  | cons b l ih =>
    intro cur
    rw [splitB, if_neg (h b (by simp)), ih (fun x hx => h x (by simp [hx]))]
    simp
theorem plain_mem (l : List UInt8) (h : plainB l = true) : (∀ x ∈ l, 97 ≤ x.toNat ∧ x.toNat ≤ 122) ∧ l ≠ [] := by
  rw [plainB, Bool.and_eq_true, decide_eq_true_iff, List.all_eq_true] at h
  refine ⟨fun x hx => ?_, ?_⟩
  · have := h.1 x hx
    rw [Bool.and_eq_true, decide_eq_true_iff, decide_eq_true_iff] at this
    exact this
  · intro e; subst e; simp at h
theorem quote_split (l : List UInt8) (h : plainB l = true) : splitB 44 [] (quoteB l) = [[32, 87, 47, 34, 122, 122, 34], [32, 34] ++ l ++ [34, 32]] := by
  obtain ⟨hm, _⟩ := plain_mem l h
  have e : quoteB l = 32 :: 87 :: 47 :: 34 :: 122 :: 122 :: 34 :: 44 :: ([32, 34] ++ l ++ [34, 32]) := by rw [quoteB]; simp
  rw [e]
  simp only [splitB]
  rw [if_neg (by decide), if_neg (by decide), if_neg (by decide), if_neg (by decide), if_neg (by decide), if_neg (by decide), if_neg (by decide), if_pos trivial]
  rw [split_none 44 _ (fun x hx => by
    simp only [List.mem_append, List.mem_cons, List.not_mem_nil, or_false] at hx
    rintro rfl
    rcases hx with (h | h) | h
    · rcases h with h | h <;> exact absurd h (by decide)
    · have := hm _ h; exact absurd this.1 (by decide)
    · rcases h with h | h <;> exact absurd h (by decide))]
  rfl
theorem one_zz : oneB [32, 87, 47, 34, 122, 122, 34] = [122, 122] := by decide +kernel
theorem drop_on (c : UInt8) (l : List UInt8) (h : blankB c = false) : dropB (c :: l) = c :: l := by rw [dropB, if_neg (by rw [h]; simp)]
theorem drop_off (c : UInt8) (l : List UInt8) (h : blankB c = true) : dropB (c :: l) = dropB l := by rw [dropB, if_pos h]
theorem one_other (l : List UInt8) : oneB ([32, 34] ++ l ++ [34, 32]) = l := by
  have ht : trimB ([32, 34] ++ l ++ [34, 32]) = 34 :: (l ++ [34]) := by
    rw [trimB, show [32, 34] ++ l ++ [34, 32] = 32 :: 34 :: (l ++ [34, 32]) by simp, drop_off _ _ (by decide), drop_on _ _ (by decide)]
    rw [show (34 :: (l ++ [34, 32])).reverse = 32 :: 34 :: (l.reverse ++ [34]) by simp, drop_off _ _ (by decide), drop_on _ _ (by decide)]
    simp
  have hs : strongB (34 :: (l ++ [34])) = 34 :: (l ++ [34]) := by
    rw [strongB, if_neg]
    rw [weakB]
    simp [List.take_succ_cons]
  rw [oneB, ht, hs, bareB]
  have hlen : (34 :: (l ++ [34]) : List UInt8).length = l.length + 2 := by simp
  have hq : quotedB (34 :: (l ++ [34])) = true := by
    rw [quotedB, hlen, decide_eq_true (by omega), Bool.true_and]
    have : (34 :: (l ++ [34]) : List UInt8)[l.length + 2 - 1]? = some 34 := by
      rw [show l.length + 2 - 1 = l.length + 1 by omega, List.getElem?_cons_succ, List.getElem?_append_right (Nat.le_refl _), Nat.sub_self]; rfl
    rw [this]; rfl
  rw [if_pos hq, hlen, show l.length + 2 - 1 = l.length + 1 by omega, List.take_succ_cons, List.drop_one, List.tail_cons, List.take_left']
  rfl
theorem trim_quote (l : List UInt8) : trimB (quoteB l) ≠ [42] := by
  have e : quoteB l = 32 :: 87 :: 47 :: 34 :: 122 :: 122 :: 34 :: 44 :: ([32, 34] ++ l ++ [34, 32]) := by rw [quoteB]; simp
  rw [trimB, e, drop_off _ _ (by decide), drop_on _ _ (by decide)]
  intro h
  have h2 := congrArg List.reverse h
  rw [List.reverse_reverse] at h2
  have : (87 :: 47 :: 34 :: 122 :: 122 :: 34 :: 44 :: ([32, 34] ++ l ++ [34, 32]) : List UInt8).reverse = 32 :: 34 :: (l.reverse ++ [34, 32, 44, 34, 122, 122, 34, 47, 87]) := by simp
  rw [this, drop_off _ _ (by decide), drop_on _ _ (by decide)] at h2
  simp at h2
theorem tags_quote (l : List UInt8) (h : plainB l = true) : tagsB (quoteB l) = ([B [122, 122], B l], false, true) := by
  have hne := (plain_mem l h).2
  rw [tagsB, if_neg (trim_quote l), quote_split l h]
  rw [allB, one_zz, if_neg (by simp), allB, one_other, if_neg hne, allB]; rfl
theorem quote_ok (l : List UInt8) (h : plainB l = true) (hs : l.length ≤ 200000000000000) : okT (B (quoteB l)) := by
  refine ⟨?_, ?_⟩
  · rw [B_size, quoteB]; simp; omega
  · rw [B_toList, quote_split l h]; simp
theorem empty_ok : okT ⟨#[]⟩ := by
  refine ⟨Nat.zero_le _, ?_⟩
  rw [show (⟨#[]⟩ : ByteArray).toList = [] from B_toList [], splitB]; simp
theorem pairs_match (a o : ByteArray) (t : Int) (reads : Bool) (ho : plainB o.toList = true) (hs : o.size ≤ 200000000000000) :
    Ev (fun k => cond_Ask.f k ([⟨nMatch, B (quoteB o.toList)⟩] : List S41) a t reads) (if hasB [B [122, 122], B o.toList] a = true then 0 else 327) := by
  have g1 : getB nMatch [⟨nMatch, B (quoteB o.toList)⟩] = (B (quoteB o.toList), true) := by rw [getB, if_pos rfl]
  have g2 : getB nNone [⟨nMatch, B (quoteB o.toList)⟩] = (⟨#[]⟩, false) := by rw [getB, if_neg (by show ¬ nMatch.toList = nNone.toList; decide +kernel)]; rfl
  have g3 : getB nSince [⟨nMatch, B (quoteB o.toList)⟩] = (⟨#[]⟩, false) := by rw [getB, if_neg (by show ¬ nMatch.toList = nSince.toList; decide +kernel)]; rfl
  have g4 : getB nAfter [⟨nMatch, B (quoteB o.toList)⟩] = (⟨#[]⟩, false) := by rw [getB, if_neg (by show ¬ nMatch.toList = nAfter.toList; decide +kernel)]; rfl
  have := ask_ev [⟨nMatch, B (quoteB o.toList)⟩] a t reads (0, false) (0, false) (by simp) (by rw [g1]; exact quote_ok _ ho (by rw [length_toList]; exact hs)) (by rw [g2]; exact empty_ok) (by rw [g3]; exact http_empty) (by rw [g4]; exact http_empty)
  refine ev_eq this ?_
  rw [taggedB, taggedB, g1, g2, g3, g4, B_toList, tags_quote _ ho]
  by_cases h : hasB [B [122, 122], B o.toList] a = true
  · simp [askB, h]
  · simp [askB, h]
theorem pairs_none (a o : ByteArray) (t : Int) (reads : Bool) (ho : plainB o.toList = true) (hs : o.size ≤ 200000000000000) :
    Ev (fun k => cond_Ask.f k ([⟨nNone, B (quoteB o.toList)⟩] : List S41) a t reads) (if hasB [B [122, 122], B o.toList] a = true then (if reads = true then 328 else 327) else 0) := by
  have g1 : getB nNone [⟨nNone, B (quoteB o.toList)⟩] = (B (quoteB o.toList), true) := by rw [getB, if_pos rfl]
  have g2 : getB nMatch [⟨nNone, B (quoteB o.toList)⟩] = (⟨#[]⟩, false) := by rw [getB, if_neg (by show ¬ nNone.toList = nMatch.toList; decide +kernel)]; rfl
  have g3 : getB nSince [⟨nNone, B (quoteB o.toList)⟩] = (⟨#[]⟩, false) := by rw [getB, if_neg (by show ¬ nNone.toList = nSince.toList; decide +kernel)]; rfl
  have g4 : getB nAfter [⟨nNone, B (quoteB o.toList)⟩] = (⟨#[]⟩, false) := by rw [getB, if_neg (by show ¬ nNone.toList = nAfter.toList; decide +kernel)]; rfl
  have := ask_ev [⟨nNone, B (quoteB o.toList)⟩] a t reads (0, false) (0, false) (by simp) (by rw [g2]; exact empty_ok) (by rw [g1]; exact quote_ok _ ho (by rw [length_toList]; exact hs)) (by rw [g3]; exact http_empty) (by rw [g4]; exact http_empty)
  refine ev_eq this ?_
  rw [taggedB, taggedB, g1, g2, g3, g4, B_toList, tags_quote _ ho]
  by_cases h : hasB [B [122, 122], B o.toList] a = true
  · cases reads <;> simp [askB, h]
  · cases reads <;> simp [askB, h]
theorem hasB_two (a o : ByteArray) : hasB [B [122, 122], B o.toList] a = ((a.toList == ([122, 122] : List UInt8)) || (a.toList == o.toList)) := by
  rw [hasB, List.any_cons, List.any_cons, List.any_nil, B_toList, B_toList, Bool.or_false]
theorem pairs_j1 (reads : Bool) (has : Bool) : Ev (fun k => stowagelaw21_CondPairs.j1 k reads (if has = true then 0 else 327) (if has = true then (if reads = true then 328 else 327) else 0) has) true := by
  have tail : ∀ f : Int, f = (if reads = true then 328 else 327) → Ev (fun k => stowagelaw21_CondPairs.j2 k (if has = true then 0 else 327) (if has = true then (if reads = true then 328 else 327) else 0) has f) true := by
    intro f hf
    cases has
    · refine Ev.step (f := fun k => (stowagelaw21_awake.f k).bind fun t => some t) (fun k => ?_) (Ev.bind awake_ev (Ev.now _))
      rw [stowagelaw21_CondPairs.j2, if_neg (by simp), if_pos (by simp), if_pos (by simp)]
    · refine Ev.step (f := fun k => (stowagelaw21_awake.f k).bind fun t => some t) (fun k => ?_) (Ev.bind awake_ev (Ev.now _))
      rw [stowagelaw21_CondPairs.j2, if_pos rfl, if_pos (by simp), if_pos (by rw [hf]; simp)]
  cases reads
  · exact Ev.step (f := fun k => _) (fun k => by rw [stowagelaw21_CondPairs.j1, if_neg (by simp)]) (tail 327 rfl)
  · exact Ev.step (f := fun k => _) (fun k => by rw [stowagelaw21_CondPairs.j1, if_pos rfl]) (tail 328 rfl)
theorem CondPairs : stowagelaw21_CondPairs.Pure := by
  intro a o t reads ha ho _
  apply Ev.rounds
  simp only [stowagelaw21_CondPairs.f]
  have out : Ev (fun k => stowagelaw21_CondPairs.j0 k a o t reads true) true := Ev.step (f := fun k => (stowagelaw21_awake.f k).bind fun t => some t) (fun k => by rw [stowagelaw21_CondPairs.j0, if_pos rfl]) (Ev.bind awake_ev (Ev.now _))
  refine Ev.bind (plain_ev a (by omega)) ?_
  by_cases h1 : plainB a.toList = true
  · refine ev_pos h1 (Ev.bind (plain_ev o (by omega)) ?_)
    by_cases h2 : plainB o.toList = true
    · rw [h2]
      refine Ev.step (f := fun k => _) (fun k => by rw [stowagelaw21_CondPairs.j0, if_neg (by simp)]) ?_
      refine ev_some (quote_eq o (by omega)) (Ev.bind (pairs_match a o t reads h2 (by omega)) (ev_some (quote_eq o (by omega)) (Ev.bind (pairs_none a o t reads h2 (by omega)) ?_)))
      rw [hasB_two]
      by_cases h3 : a.toList = o.toList
      · refine ev_pos h3 ?_
        rw [show (a.toList == o.toList) = true from beq_iff_eq.mpr h3, Bool.or_true]
        exact pairs_j1 reads true
      · refine ev_neg h3 ?_
        rw [show (a.toList == o.toList) = false by simpa using h3, Bool.or_false]
        exact pairs_j1 reads _
    · rw [show plainB o.toList = false by simpa using h2]
      exact out
  · exact ev_neg h1 out
end Go.Proofs.Ythjofhklkkmdoaa.Pure
