/- A part of the proof of the seat's laws. No condition beyond those in the theorems. -/
import Derived.Test.YtieejapamkokaaaDoorZDecB
import Derived.Test.YtieejapamkokaaaDoorZQ54g5
import Derived.Test.YtieejapamkokaaaDoorZQ76g4

namespace Go.Proofs.YtieejapamkokaaaDoor.Pure
open Go.RowKit Go.Proofs.YtieejapamkokaaaDoor.Q Go.Proofs.YtieejapamkokaaaDoorW.PrintWords Go.Proofs.YtieejapamkokaaaDoorW.PrintLast
set_option linter.unusedVariables false
set_option linter.unusedSimpArgs false
def cO : Nat → List UInt8 → Option Nat
  | 0, _ => some 0
  | _ + 1, [] => some 0
  | k + 1, c :: l => if (stL (c :: l)).2 = 0 then none else (cO k ((c :: l).drop (stL (c :: l)).2)).map (· + 1)
def cR (n : Nat) : Option Nat → Int × Bool
  | none => (0, false)
  | some m => (((n + m : Nat) : Int), true)
theorem st_wid (l : List UInt8) : (stL l).2 ≤ l.length := by
  cases l with
  | nil => simp [stL]
  | cons b l => exact stL_wid b l
theorem cO_fuel (k : Nat) : ∀ k' l, l.length ≤ k → l.length ≤ k' → cO k l = cO k' l := by
  induction k with
  | zero =>
    intro k' l h h'
    cases l with
    | nil => cases k' <;> rfl
    | cons c l => simp at h
  | succ k ih =>
    intro k' l h h'
    cases l with
    | nil => cases k' <;> rfl
    | cons c l =>
      cases k' with
      | zero => simp at h'
      | succ k' =>
        rw [cO, cO]
        by_cases g : (stL (c :: l)).2 = 0
        · rw [if_pos g, if_pos g]
        · rw [if_neg g, if_neg g, ih k']
          · rw [List.length_drop]; simp only [List.length_cons] at h ⊢; omega
          · rw [List.length_drop]; simp only [List.length_cons] at h' ⊢; omega
theorem own_at (s : ByteArray) (pos : Nat) (h : pos < s.size) : ((Utf8.decode s pos).1 = 65533 ∧ chars_Count.own s pos = false) ↔ (stL (s.toList.drop pos)).2 = 0 := by
  have hlen : (s.toList.drop pos).length = s.size - pos := by rw [List.length_drop, length_toList]
  have hown : chars_Count.own s pos = (decide (3 ≤ (s.toList.drop pos).length) && ((s.toList.drop pos).take 3 == [239, 191, 189])) := by
    unfold chars_Count.own
    rw [hlen, toList_extract, toList_extract, List.take_of_length_le (l := s.toList) (by rw [length_toList]; omega), List.drop_zero]
  rw [dec_at, hown]
  cases hl : s.toList.drop pos with
  | nil => rw [hl] at hlen; simp at hlen; omega
  | cons c l =>
    rcases dec_same c l with ⟨e, d⟩ | ⟨e, d, dn⟩
    · rw [d, e]
      refine ⟨fun _ => rfl, fun _ => ⟨rfl, ?_⟩⟩
      rw [Bool.and_eq_false_iff]
      by_cases g : (List.take 3 (c :: l) == [239, 191, 189]) = true
      · exfalso
        have g' : List.take 3 (c :: l) = [239, 191, 189] := by simpa using g
        have : ∃ t, c :: l = [239, 191, 189] ++ t := ⟨(c :: l).drop 3, by rw [← g', List.take_append_drop]⟩
        obtain ⟨t, ht⟩ := this
        rw [ht] at e
        have h3 : (stL [239, 191, 189]).2 = 3 := by decide
        rw [stL_more _ t (by rw [h3]; decide), h3] at e
        exact absurd e (by decide)
      · right; simpa using g
    · rw [d]
      refine ⟨fun ⟨h1, h2⟩ => ?_, fun h0 => absurd h0 e⟩
      exfalso
      have hcases := dn
      have key : c.toNat = 239 ∧ ∃ x y t, l = x :: y :: t ∧ x.toNat = 191 ∧ y.toNat = 189 := by
        have hc := c.toNat_lt
        rw [stL] at h1 e
        by_cases c1 : c.toNat < 128
        · rw [if_pos c1] at h1; simp at h1; omega
        · rw [if_neg c1] at h1 e
          by_cases c2 : c.toNat < 192
          · rw [if_pos c2] at h1; simp at h1
          · rw [if_neg c2] at h1 e
            by_cases c3 : c.toNat < 224
            · rw [if_pos c3] at h1 e
              exfalso
              rcases seqL_cases l 1 (c.toNat - 192) 128 with q | ⟨r, hr, q⟩
              · rw [q] at h1; simp at h1
              · rw [q] at h1
                cases l with
                | nil => simp [tailL] at hr
                | cons x l =>
                  have hx := x.toNat_lt
                  rw [tailL] at hr
                  split at hr
                  · have ht : tailL l 0 (64 * (c.toNat - 192) + (x.toNat - 128)) = some (64 * (c.toNat - 192) + (x.toNat - 128)) := by cases l <;> rfl
                    rw [ht] at hr
                    have := Option.some.inj hr
                    simp only at h1
                    omega
                  · simp at hr
            · rw [if_neg c3] at h1 e
              by_cases c4 : c.toNat < 240
              · rw [if_pos c4] at h1 e
                rcases seqL_cases l 2 (c.toNat - 224) 2048 with q | ⟨r, hr, q⟩
                · rw [q] at h1; simp at h1
                · rw [q] at h1
                  match l with
                  | [] => simp [tailL] at hr
                  | [x] => rw [tailL_short _ _ _ (by simp)] at hr; simp at hr
                  | x :: y :: t =>
                    have hx := x.toNat_lt
                    have hy := y.toNat_lt
                    rw [tailL] at hr
                    split at hr
                    · rw [tailL] at hr
                      split at hr
                      · have ht : ∀ v, tailL t 0 v = some v := fun v => by cases t <;> rfl
                        rw [ht] at hr
                        have := Option.some.inj hr
                        simp only at h1
                        exact ⟨by omega, x, y, t, rfl, by omega, by omega⟩
                      · simp at hr
                    · simp at hr
              · rw [if_neg c4] at h1 e
                exfalso
                by_cases c5 : c.toNat < 248
                · rw [if_pos c5] at h1 e
                  have : seqL l 3 (c.toNat - 240) 65536 = (0, 0) ∨ 65536 ≤ (seqL l 3 (c.toNat - 240) 65536).1 := by
                    unfold seqL
                    cases tailL l 3 (c.toNat - 240) with
                    | none => exact .inl rfl
                    | some r =>
                      simp only [finL]
                      split
                      · exact .inl rfl
                      · right; simp only; omega
                  rcases this with q | q
                  · rw [q] at h1; simp at h1
                  · omega
                · rw [if_neg c5] at h1; simp at h1
      obtain ⟨k0, x, y, t, rfl, kx, ky⟩ := key
      have e0 : c = 239 := UInt8.toNat_inj.mp (by rw [k0]; rfl)
      have e1 : x = 191 := UInt8.toNat_inj.mp (by rw [kx]; rfl)
      have e2 : y = 189 := UInt8.toNat_inj.mp (by rw [ky]; rfl)
      subst e0 e1 e2
      simp at h2
theorem dec_good (s : ByteArray) (pos : Nat) (c : UInt8) (l : List UInt8) (h : s.toList.drop pos = c :: l) (g : ¬ (stL (c :: l)).2 = 0) : Utf8.decode s pos = stL (c :: l) := by
  rw [dec_at, h]
  rcases dec_same c l with ⟨e, _⟩ | ⟨_, d, _⟩
  · exact absurd e g
  · exact d
theorem dec_bad (s : ByteArray) (pos : Nat) (c : UInt8) (l : List UInt8) (h : s.toList.drop pos = c :: l) (g : (stL (c :: l)).2 = 0) : Utf8.decode s pos = (65533, 1) := by
  rw [dec_at, h]
  rcases dec_same c l with ⟨_, d⟩ | ⟨e, _, _⟩
  · exact d
  · exact absurd g e
theorem drop_nil (s : ByteArray) (pos : Nat) (h : s.toList.drop pos = []) : ¬ pos < s.size := by
  have := congrArg List.length h
  rw [List.length_drop, length_toList] at this
  simp at this
  omega
theorem drop_cons (s : ByteArray) (pos : Nat) (c : UInt8) (l : List UInt8) (h : s.toList.drop pos = c :: l) : pos < s.size ∧ l.length + 1 = s.size - pos := by
  have := congrArg List.length h
  rw [List.length_drop, length_toList] at this
  simp at this
  omega
theorem g_cO (s : ByteArray) (fuel : Nat) : ∀ pos n, chars_Count.g s fuel pos (n : Nat) = cR n (cO fuel (s.toList.drop pos)) := by
  induction fuel with
  | zero => intro pos n; rfl
  | succ k ih =>
    intro pos n
    cases hl : s.toList.drop pos with
    | nil => rw [chars_Count.g, if_neg (drop_nil s pos hl), cO]; rfl
    | cons c l =>
      obtain ⟨hp, _⟩ := drop_cons s pos c l hl
      rw [chars_Count.g, if_pos hp, cO]
      by_cases g : (stL (c :: l)).2 = 0
      · rw [if_pos ((own_at s pos hp).mpr (by rw [hl]; exact g)), if_pos g]
        rfl
      · rw [if_neg (fun h => g (by have := (own_at s pos hp).mp h; rwa [hl] at this)), if_neg g, dec_good s pos c l hl g]
        have := ih (pos + (stL (c :: l)).2) (n + 1)
        rw [← List.drop_drop, hl] at this
        rw [show ((n : Nat) : Int) + 1 = ((n + 1 : Nat) : Int) by omega, this]
        cases cO k ((c :: l).drop (stL (c :: l)).2) with
        | none => rfl
        | some m => simp only [cR, Option.map_some]; rw [show n + 1 + m = n + (m + 1) by omega]
theorem count_eq (s : ByteArray) (h : s.size ≤ 9007199254740992) : chars_Count.f s = some (cR 0 (cO s.size s.toList)) := by
  have := g_cO s s.size 0 0
  rw [List.drop_zero] at this
  rw [chars_Count.f, if_pos h]
  exact congrArg some this
theorem valid_eq (s : ByteArray) (h : s.size ≤ 9007199254740992) : chars_Valid.f s = some (cO s.size s.toList).isSome := by
  unfold chars_Valid.f
  rw [count_eq s h, Option.bind_some]
  cases cO s.size s.toList <;> rfl
theorem ext_list (s : ByteArray) (n : Nat) : (s.extract n s.size).toList = s.toList.drop n := by
  rw [toList_extract, List.take_of_length_le (by rw [length_toList]; omega)]
theorem rcount_l0 (fuel : Nat) : ∀ (s : ByteArray) (n : Nat), s.size ≤ fuel → n + s.size ≤ 1000000000000000 → Ev (fun k => stowageref3_Count.l0 k s (n : Int)) (cR n (cO fuel s.toList)) := by
  induction fuel with
  | zero =>
    intro s n h hn
    exact Ev.step (f := fun _ => some ((n : Int), true)) (fun k => by rw [stowageref3_Count.l0, if_neg (by omega)]) (Ev.now _)
  | succ f ih =>
    intro s n h hn
    cases hl : s.toList with
    | nil =>
      have hz : s.size = 0 := by rw [← length_toList, hl]; rfl
      exact Ev.step (f := fun _ => some ((n : Int), true)) (fun k => by rw [stowageref3_Count.l0, if_neg (by omega)]) (Ev.now _)
    | cons c l =>
      have hz : s.size = l.length + 1 := by rw [← length_toList, hl]; rfl
      have hs := step_ev s (by omega) c l hl
      have hw := stL_wid c l
      rw [hl] at hs
      rw [cO]
      refine Ev.step (f := fun k => (stowageref3_Step.f k s).bind fun bt239 => (if bt239.2 = 0 then (some (0, false)) else (if 0 ≤ bt239.2 then (if bt239.2 ≤ (s.size : Int) then (stowageref3_Count.l0 k (s.extract (bt239.2 : Int).toNat s.size) (wrap64 ((n : Int) + 1))) else (none)) else (none)))) (fun k => by rw [stowageref3_Count.l0, if_pos (by omega)]) (Ev.bind hs ?_)
      simp only [iP]
      by_cases g : (stL (c :: l)).2 = 0
      · rw [if_pos g]
        exact ev_pos (by omega) (Ev.now _)
      · rw [if_neg g]
        refine ev_neg (by omega) (ev_pos (by omega) (ev_pos (by omega) ?_))
        simp only [Int.toNat_natCast]
        rw [w64 (by omega) (by omega)]
        have hz2 : (s.extract (stL (c :: l)).2 s.size).size = s.size - (stL (c :: l)).2 := by simp
        have h' := ih (s.extract (stL (c :: l)).2 s.size) (n + 1) (by omega) (by omega)
        rw [ext_list, hl] at h'
        refine ev_eq h' ?_
        cases cO f ((c :: l).drop (stL (c :: l)).2) with
        | none => rfl
        | some m => simp only [cR, Option.map_some]; rw [show n + 1 + m = n + (m + 1) by omega]
theorem rcount_ev (s : ByteArray) (h : s.size ≤ 1000000000000000) : Ev (fun k => stowageref3_Count.f k s) (cR 0 (cO s.size s.toList)) := rcount_l0 s.size s 0 (Nat.le_refl _) (by omega)
theorem cO_app (k : Nat) : ∀ (a b : List UInt8) (m : Nat), a.length ≤ k → cO k a = some m → cO (k + b.length) (a ++ b) = (cO b.length b).map (m + ·) := by
  induction k with
  | zero =>
    intro a b m h hm
    cases a with
    | nil =>
      simp only [cO, Option.some.injEq] at hm
      subst hm
      rw [List.nil_append, cO_fuel (0 + b.length) b.length b (by omega) (by omega)]
      cases cO b.length b <;> simp
    | cons c l => simp at h
  | succ k ih =>
    intro a b m h hm
    cases a with
    | nil =>
      simp only [cO, Option.some.injEq] at hm
      subst hm
      rw [List.nil_append, cO_fuel (k + 1 + b.length) b.length b (by omega) (by omega)]
      cases cO b.length b <;> simp
    | cons c l =>
      rw [cO] at hm
      by_cases g : (stL (c :: l)).2 = 0
      · rw [if_pos g] at hm; simp at hm
      · rw [if_neg g] at hm
        have hst : stL ((c :: l) ++ b) = stL (c :: l) := stL_more (c :: l) b g
        have hw := stL_wid c l
        obtain ⟨m', hm', rfl⟩ := Option.map_eq_some_iff.mp hm
        have hd : ((c :: l) ++ b).drop (stL (c :: l)).2 = (c :: l).drop (stL (c :: l)).2 ++ b := List.drop_append_of_le_length (by simpa using hw)
        have h' := ih ((c :: l).drop (stL (c :: l)).2) b m' (by rw [List.length_drop]; simp only [List.length_cons] at h ⊢; omega) hm'
        rw [show k + 1 + b.length = (k + b.length) + 1 by omega]
        rw [List.cons_append] at hst hd ⊢
        rw [cO, hst, if_neg g, hd, h', Option.map_map]
        congr 1
        funext x
        simp only [Function.comp]
        omega
end Go.Proofs.YtieejapamkokaaaDoor.Pure
