/- A part of the proof of the seat's laws. No condition beyond those in the theorems. -/
import Derived.Test.YthjofhklkkmdoaaZCondRange
import Derived.Test.YthjofhklkkmdoaaZNumB
import Derived.Test.YthjofhklkkmdoaaZCondAwake
import Derived.Test.YthjofhklkkmdoaaZQ57

namespace Go.Proofs.Ythjofhklkkmdoaa.Pure
open Go.RowKit Go.Proofs.Ythjofhklkkmdoaa.Q Go.Proofs.YthjofhklkkmdoaaW.PrintWords Go.Proofs.YthjofhklkkmdoaaW.PrintLast
set_option linter.unusedVariables false
set_option linter.unusedSimpArgs false
theorem pow17 (j : Nat) (h : j ≤ 17) : (10 : Int) ^ j ≤ 10 ^ 17 := by
  have : ∀ i : Fin 18, (10 : Int) ^ i.val ≤ 10 ^ 17 := by decide
  exact this ⟨j, by omega⟩
theorem pow18 (j : Nat) (h : j ≤ 18) : (10 : Int) ^ j ≤ 1000000000000000000 := by
  have : ∀ i : Fin 19, (10 : Int) ^ i.val ≤ 1000000000000000000 := by decide
  exact this ⟨j, by omega⟩
theorem digB_bd (l : List UInt8) : ∀ (j : Nat) (n : Int), 0 ≤ n → n < 10 ^ j → j + l.length ≤ 18 → 0 ≤ (digB l n).1 ∧ (digB l n).1 < 10 ^ (j + l.length) := by
  induction l with
  | nil => intro j n h0 h1 _; exact ⟨h0, h1⟩
  | cons b l ih =>
    intro j n h0 h1 hl
    rw [List.length_cons] at hl
    rw [digB]
    by_cases c : (b.toNat : Int) < 48
    · rw [if_pos c]; exact ⟨Int.le_refl _, by have : (0 : Int) < 10 ^ (j + (b :: l).length) := Int.pow_pos (by omega); exact this⟩
    · rw [if_neg c]
      by_cases c' : (b.toNat : Int) > 57
      · rw [if_pos c']; exact ⟨Int.le_refl _, by have : (0 : Int) < 10 ^ (j + (b :: l).length) := Int.pow_pos (by omega); exact this⟩
      · rw [if_neg c']
        have hp : (10 : Int) ^ (j + 1) = 10 * 10 ^ j := by rw [Int.pow_succ, Int.mul_comm]
        have hb : (10 : Int) ^ j ≤ 10 ^ 17 := pow17 j (by omega)
        have e17 : (10 : Int) ^ 17 = 100000000000000000 := by decide
        rw [w64 (n := 10 * n) (by omega) (by omega), w64 (by omega) (by omega)]
        have q := ih (j + 1) (10 * n + ((b.toNat : Int) - 48) % 256) (by omega) (by rw [hp]; omega) (by omega)
        rw [show j + (b :: l).length = j + 1 + l.length by rw [List.length_cons]; omega]
        exact q
theorem intB_bd (l : List UInt8) : 0 ≤ (intB l).1 ∧ (intB l).1 < 1000000000000000000 := by
  rw [intB]
  split
  · exact ⟨Int.le_refl _, by decide⟩
  · have h := digB_bd l 0 0 (Int.le_refl _) (by decide) (by omega)
    refine ⟨h.1, ?_⟩
    have h2 : (10 : Int) ^ (0 + l.length) ≤ 1000000000000000000 := pow18 _ (by omega)
    omega
def GoodR (size : Int) (r : Int × Int × Bool × Int) : Prop :=
  (r.2.2.2 = 320 ∧ r.1 = 0 ∧ r.2.1 = 0 ∧ r.2.2.1 = false) ∨ (r.2.2.2 = 0 ∧ r.2.2.1 = true ∧ 0 ≤ r.1 ∧ 1 ≤ r.2.1 ∧ r.1 + r.2.1 ≤ size) ∨ (r.2.2.2 = 0 ∧ r.2.2.1 = false ∧ r.1 = 0 ∧ r.2.1 = mx size 0)
theorem tail_good (size : Int) (hz : -9223372036854775808 ≤ size ∧ size ≤ 9223372036854775807) (a b : List UInt8) (lo hi : Int × Bool) (ok cut : Bool) (hlo : 0 ≤ lo.1 ∧ lo.1 < 1000000000000000000) (hhi : 0 ≤ hi.1 ∧ hi.1 < 1000000000000000000)
    (ea : lo.2 = true → a ≠ []) (eb : hi.2 = true → b ≠ []) : GoodR size (tailB (mx size 0) a b lo.1 hi.1 (wholeB ok cut a b lo hi)) := by
  rw [tailB]
  by_cases hw : wholeB ok cut a b lo hi = true
  · rw [if_pos hw]; exact .inr (.inr ⟨rfl, rfl, rfl, rfl⟩)
  rw [if_neg hw]
  have hw' : wholeB ok cut a b lo hi = false := by simpa using hw
  simp only [wholeB, Bool.or_eq_false_iff, Bool.and_eq_false_iff, Bool.not_eq_false', decide_eq_false_iff_not] at hw'
  obtain ⟨⟨⟨⟨⟨_, _⟩, w1⟩, w2⟩, w3⟩, w4⟩ := hw'
  have hm : mx size 0 = if size < 0 then 0 else size := rfl
  by_cases h1 : a = []
  · rw [if_pos h1]
    by_cases h2 : hi.1 = 0
    · rw [if_pos h2]; exact .inl ⟨rfl, rfl, rfl, rfl⟩
    · rw [if_neg h2]
      by_cases h3 : mx size 0 = 0
      · rw [if_pos h3]; exact .inl ⟨rfl, rfl, rfl, rfl⟩
      · rw [if_neg h3]
        refine .inr (.inl ⟨rfl, rfl, ?_⟩)
        have hn : mn hi.1 (mx size 0) = if mx size 0 < hi.1 then mx size 0 else hi.1 := rfl
        dsimp only
        split at hm <;> split at hn <;> unfold wrap64 <;> omega
  · rw [if_neg h1]
    by_cases h2 : lo.1 ≥ mx size 0
    · rw [if_pos h2]; exact .inl ⟨rfl, rfl, rfl, rfl⟩
    · rw [if_neg h2]
      by_cases h3 : b = []
      · rw [if_pos h3]
        refine .inr (.inl ⟨rfl, rfl, ?_⟩)
        dsimp only
        split at hm <;> unfold wrap64 <;> omega
      · rw [if_neg h3]
        by_cases h4 : hi.1 ≥ mx size 0
        · rw [if_pos h4]
          refine .inr (.inl ⟨rfl, rfl, ?_⟩)
          dsimp only
          split at hm <;> unfold wrap64 <;> omega
        · rw [if_neg h4]
          refine .inr (.inl ⟨rfl, rfl, ?_⟩)
          have hl : lo.2 = true := by
            rcases w1 with h | h
            · exact absurd h1 (by simpa using h)
            · exact h
          have hh : hi.2 = true := by
            rcases w2 with h | h
            · exact absurd h3 (by simpa using h)
            · exact h
          have hle : lo.1 ≤ hi.1 := by
            rcases w4 with (h | h) | h
            · rw [hl] at h; cases h
            · rw [hh] at h; cases h
            · omega
          dsimp only
          split at hm <;> unfold wrap64 <;> omega
theorem range_good (s : ByteArray) (size : Int) (hz : -9223372036854775808 ≤ size ∧ size ≤ 9223372036854775807) : GoodR size (rangeB s size) := by
  simp only [rangeB]
  exact tail_good size hz _ _ _ _ _ _ (intB_bd _) (intB_bd _) (intB_empty _) (intB_empty _)
theorem txt_ev (n : Int) (h0 : 0 ≤ n) (h1 : n < 4096) : ∃ t : ByteArray, Ev (fun k => stowageref1_Text.f k n) t ∧ intB t.toList = (n, true) ∧ (∀ c ∈ t.toList, c ≠ 45) ∧ t.size ≤ 18 := by
  have e : (10 : Nat) ^ (17 + 1) = 1000000000000000000 := by decide
  refine ⟨_, text_ev n h0 (by omega), ?_, ?_, ?_⟩
  · rw [B_toList, intB_dec _ (by omega)]; congr 1; omega
  · intro c hc
    rw [B_toList] at hc
    have := dec_mem 17 n.toNat (by omega) c hc
    rintro rfl
    have h45 : (45 : UInt8).toNat = 45 := rfl
    omega
  · rw [B_size]
    exact dec_len 17 n.toNat (by omega)
theorem cutL_first (c : UInt8) (a b : List UInt8) (h : ∀ x ∈ a, x ≠ c) : cutL c (a ++ c :: b) = some (a, b) := by
  induction a with
  | nil => rw [List.nil_append, cutL, if_pos rfl]
  | cons x a ih =>
    rw [List.cons_append, cutL, if_neg (h x (by simp)), ih (fun y hy => h y (by simp [hy]))]
    rfl
theorem piece_range (t u : ByteArray) (at_ hi size : Int) (ht : intB t.toList = (at_, true)) (hu : intB u.toList = (hi, true)) (hc : ∀ c ∈ t.toList, c ≠ 45) (h0 : 0 ≤ at_) (h1 : at_ ≤ hi) (h2 : at_ < size) (h3 : size ≤ 2000) :
    rangeB (((B [98, 121, 116, 101, 115, 61] ++ t) ++ B [45]) ++ u) size = (at_, (if hi ≥ size then size - at_ else hi - at_ + 1), true, 0) := by
  have hs : (((B [98, 121, 116, 101, 115, 61] ++ t) ++ B [45]) ++ u) = B ([98, 121, 116, 101, 115, 61] ++ (t.toList ++ 45 :: u.toList)) := by
    apply toList_inj
    rw [toList_append, toList_append, toList_append, B_toList, B_toList, B_toList]
    simp
  have hp : hasP (B ([98, 121, 116, 101, 115, 61] ++ (t.toList ++ 45 :: u.toList))) ⟨#[98, 121, 116, 101, 115, 61]⟩ = true := by
    have hz : (⟨#[98, 121, 116, 101, 115, 61]⟩ : ByteArray).size = 6 := rfl
    have hl : (⟨#[98, 121, 116, 101, 115, 61]⟩ : ByteArray).toList = [98, 121, 116, 101, 115, 61] := B_toList _
    rw [hasP, hz, B_size, B_extract, B_toList, hl, decide_eq_true (by rw [List.length_append]; show 6 ≤ 6 + _; omega), Bool.true_and]
    rfl
  have hx : (B ([98, 121, 116, 101, 115, 61] ++ (t.toList ++ 45 :: u.toList))).extract 6 (B ([98, 121, 116, 101, 115, 61] ++ (t.toList ++ 45 :: u.toList))).size = B (t.toList ++ 45 :: u.toList) := by
    rw [B_size, B_extract, List.take_length]; rfl
  have hcut : cutR (B (t.toList ++ 45 :: u.toList)) 45 = (t, u, true) := by
    rw [cutR, B_toList, cutL_first 45 _ _ hc]
    show (B t.toList, B u.toList, true) = _
    rw [of_B, of_B]
  have hte : t.toList ≠ [] := intB_empty _ (by rw [ht])
  have hue : u.toList ≠ [] := intB_empty _ (by rw [hu])
  rw [rangeB, hs, hp]
  simp only [if_true]
  rw [hx, hcut]
  simp only [ht, hu]
  have hw : wholeB true true t.toList u.toList (at_, true) (hi, true) = false := by
    simp [wholeB, hte, hue]; omega
  have hm : mx size 0 = size := by show (if size < 0 then 0 else size) = size; rw [if_neg (by omega)]
  rw [hw, tailB, if_neg (by simp), if_neg hte, hm, if_neg (by omega), if_neg hue]
  by_cases h : hi ≥ size
  · rw [if_pos h, if_pos h, w64 (n := size - 1) (by omega) (by omega), w64 (n := size - 1 - at_) (by omega) (by omega), w64 (by omega) (by omega)]
    congr 2; omega
  · rw [if_neg h, if_neg h, w64 (n := hi - at_) (by omega) (by omega), w64 (by omega) (by omega)]
theorem pieces_l0 (size piece : Int) (h1 : size ≤ 2000) (h2 : 1 ≤ piece) (j : Nat) : ∀ at_ : Int, 0 ≤ at_ → at_ ≤ size → size - at_ ≤ j → Ev (fun k => stowagelaw21_CondPieces.l0 k size piece at_) true := by
  induction j with
  | zero =>
    intro at_ h0 h3 h4
    refine Ev.step (f := fun k => (stowagelaw21_awake.f k).bind fun t => some t) (fun k => ?_) (Ev.bind awake_ev (Ev.now _))
    rw [stowagelaw21_CondPieces.l0, if_neg (by omega), if_pos (by omega)]
  | succ j ih =>
    intro at_ h0 h3 h4
    by_cases c : at_ < size
    · have hm : mn piece 2000 = if 2000 < piece then 2000 else piece := rfl
      have hmb : 1 ≤ mn piece 2000 ∧ mn piece 2000 ≤ 2000 := by split at hm <;> omega
      have hhi : wrap64 ((wrap64 (at_ + (mn piece 2000))) - 1) = at_ + mn piece 2000 - 1 := by rw [w64 (n := at_ + mn piece 2000) (by omega) (by omega), w64 (by omega) (by omega)]
      obtain ⟨t, ht, hti, htc, htz⟩ := txt_ev at_ h0 (by omega)
      obtain ⟨u, hu, hui, huc, huz⟩ := txt_ev (at_ + mn piece 2000 - 1) (by omega) (by omega)
      have hr := piece_range t u at_ (at_ + mn piece 2000 - 1) size hti hui htc h0 (by omega) c h1
      have hz6 : (⟨#[98, 121, 116, 101, 115, 61]⟩ : ByteArray).size = 6 := rfl
      have hz1 : (⟨#[45]⟩ : ByteArray).size = 1 := rfl
      refine Ev.step (f := fun k => _) (fun k => by rw [stowagelaw21_CondPieces.l0, if_pos c, hhi]) ?_
      refine Ev.bind ht (ev_pos (by omega) (ev_pos (by rw [ByteArray.size_append]; omega) (Ev.bind hu (ev_pos (by rw [ByteArray.size_append, ByteArray.size_append]; omega) ?_))))
      refine Ev.bind (a := (at_, (if at_ + mn piece 2000 - 1 ≥ size then size - at_ else at_ + mn piece 2000 - 1 - at_ + 1), true, 0)) ?_ ?_
      · have := range_ev (((B [98, 121, 116, 101, 115, 61] ++ t) ++ B [45]) ++ u) size (by rw [ByteArray.size_append, ByteArray.size_append, ByteArray.size_append, B_size, B_size]; show 6 + _ + 1 + _ ≤ _; omega)
        rw [hr] at this
        exact this
      · refine ev_pos rfl (ev_pos rfl (ev_pos rfl ?_))
        dsimp only
        generalize hg : (if at_ + mn piece 2000 - 1 ≥ size then size - at_ else at_ + mn piece 2000 - 1 - at_ + 1) = g
        have hgb : 1 ≤ g ∧ at_ + g ≤ size := by split at hg <;> omega
        rw [w64 (n := at_ + g) (by omega) (by omega)]
        exact ev_neg (by omega) (ih (at_ + g) (by omega) (by omega) (by omega))
    · refine Ev.step (f := fun k => (stowagelaw21_awake.f k).bind fun t => some t) (fun k => ?_) (Ev.bind awake_ev (Ev.now _))
      rw [stowagelaw21_CondPieces.l0, if_neg c, if_pos (by omega)]
theorem pieces_j0 (size piece : Int) : Ev (fun k => stowagelaw21_CondPieces.j0 k size piece false) true := by
  have out : Ev (fun k => stowagelaw21_CondPieces.j1 k size piece true) true := Ev.step (f := fun k => (stowagelaw21_awake.f k).bind fun t => some t) (fun k => by rw [stowagelaw21_CondPieces.j1, if_pos rfl]) (Ev.bind awake_ev (Ev.now _))
  refine Ev.step (f := fun k => _) (fun k => by rw [stowagelaw21_CondPieces.j0, if_neg (by simp)]) ?_
  by_cases h0 : size < 0
  · exact ev_pos h0 out
  refine ev_neg h0 ?_
  by_cases h1 : size > 2000
  · exact ev_pos h1 out
  refine ev_neg h1 ?_
  by_cases h2 : piece < 1
  · rw [decide_eq_true h2]; exact out
  · rw [decide_eq_false h2]
    exact Ev.step (f := fun k => _) (fun k => by rw [stowagelaw21_CondPieces.j1, if_neg (by simp)]) (pieces_l0 size piece (by omega) (by omega) size.toNat 0 (Int.le_refl _) (by omega) (by omega))
theorem CondPieces : stowagelaw21_CondPieces.Pure := by
  intro s size piece hs hsize _
  apply Ev.rounds
  simp only [stowagelaw21_CondPieces.f]
  have hz := wf_bd hsize
  refine Ev.bind (range_ev s size (by omega)) ?_
  have hg := range_good s size hz
  generalize rangeB s size = r at *
  obtain ⟨a, n, part, e⟩ := r
  rcases hg with ⟨h1, h2, h3, h4⟩ | ⟨h1, h2, h3, h4, h5⟩ | ⟨h1, h2, h3, h4⟩
  · dsimp only at h1 h2 h3 h4 ⊢
    subst h1 h2 h3 h4
    exact ev_neg (by decide) (ev_pos rfl (ev_pos rfl (ev_neg (by decide) (ev_pos rfl (Ev.bind awake_ev (Ev.now _))))))
  · dsimp only at h1 h2 h3 h4 h5 ⊢
    subst h1 h2
    refine ev_pos rfl (ev_pos rfl (ev_neg (by omega) (ev_neg (by omega) (ev_neg ?_ (pieces_j0 size piece)))))
    unfold wrap64; omega
  · dsimp only at h1 h2 h3 h4 ⊢
    subst h1 h2 h3
    refine ev_pos rfl (ev_neg (by decide) (ev_pos rfl ?_))
    rw [h4, show (mx size 0 != mx size 0) = false by simp]
    exact pieces_j0 size piece
end Go.Proofs.Ythjofhklkkmdoaa.Pure
