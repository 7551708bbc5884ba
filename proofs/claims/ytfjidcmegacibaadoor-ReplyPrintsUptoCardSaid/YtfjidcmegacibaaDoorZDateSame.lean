/- A part of the proof of the seat's laws. No condition beyond those in the theorems. -/
import Derived.Test.YtfjidcmegacibaaDoorZDateB
import Derived.Test.YtfjidcmegacibaaDoorZQ19

namespace Go.Proofs.YtfjidcmegacibaaDoor.Pure.Date
open Go.RowKit Go.Proofs.YtfjidcmegacibaaDoor.Q Go.Proofs.YtfjidcmegacibaaDoorW.PrintWords Go.Proofs.YtfjidcmegacibaaDoorW.PrintLast Cal
set_option linter.unusedVariables false
set_option linter.unusedSimpArgs false
theorem rof_l1 (y m d h mi s b : Int) (hy0 : 1970 ≤ y) (hm1 : m ≤ 12) (hh : 0 ≤ h ∧ h ≤ 23) (hmi : 0 ≤ mi ∧ mi ≤ 59) (hs : 0 ≤ s ∧ s ≤ 59) (hb : 0 ≤ b ∧ b ≤ 2932897) (j : Nat) : ∀ i : Int, 1 ≤ i → i + j = m →
    Ev (fun k => stowageref4_Of.l1 k (b + cum y i) i y m d h mi s) ((b + cum y m) * 86400 + h * 3600 + mi * 60 + s, true) := by
  induction j with
  | zero =>
    intro i h1 hj
    obtain rfl : i = m := by omega
    have hc := cum_bd y i h1 (by omega)
    refine Ev.step (f := fun _ => some ((b + cum y i) * 86400 + h * 3600 + mi * 60 + s, true)) (fun k => ?_) (Ev.now _)
    rw [stowageref4_Of.l1, if_neg (by omega)]
    generalize cum y i = c at *
    rw [w64 (n := (b + c) * 86400) (by omega) (by omega), w64 (n := h * 3600) (by omega) (by omega), w64 (n := (b + c) * 86400 + h * 3600) (by omega) (by omega), w64 (n := mi * 60) (by omega) (by omega), w64 (n := (b + c) * 86400 + h * 3600 + mi * 60) (by omega) (by omega), w64 (by omega) (by omega)]
  | succ j ih =>
    intro i h1 hj
    have hc := cum_bd y i h1 (by omega)
    have hz := size_bd y i
    have e := cum_succ y i h1 (by omega)
    refine Ev.step (f := fun k => _) (fun k => by rw [stowageref4_Of.l1, if_pos (by omega)]) ?_
    refine Ev.bind (rsize_ev y i (by omega)) ?_
    rw [w64 (n := b + cum y i + size y i) (by omega) (by omega), w64 (n := i + 1) (by omega) (by omega), show b + cum y i + size y i = b + cum y (i + 1) by omega]
    exact ih (i + 1) (by omega) (by omega)
theorem rof_l0 (y m d h mi s c : Int) (hc0 : 0 ≤ c ∧ c ≤ 31) (hy1 : y ≤ 9999) (r : Int × Bool) (hr : Ev (fun k => stowageref4_Of.l1 k (c + dby y) 1 y m d h mi s) r) (j : Nat) : ∀ i : Int, 1970 ≤ i → i + j = y →
    Ev (fun k => stowageref4_Of.l0 k (c + dby i) i y m d h mi s) r := by
  induction j with
  | zero =>
    intro i h1 hj
    obtain rfl : i = y := by omega
    exact Ev.step (f := fun k => _) (fun k => by rw [stowageref4_Of.l0, if_neg (by omega)]) hr
  | succ j ih =>
    intro i h1 hj
    have hd := dby_succ i
    have hL := L_two i
    have h19 := dby_le 1970 i h1
    have h99 := dby_le i 10000 (by omega)
    rw [dby_1970] at h19
    rw [dby_10000] at h99
    refine Ev.step (f := fun k => _) (fun k => by rw [stowageref4_Of.l0, if_pos (by omega), ryear_eq i (by omega), Option.bind_some, w64 (n := c + dby i + (365 + L i)) (by omega) (by omega), w64 (n := i + 1) (by omega) (by omega)]) ?_
    rw [show c + dby i + (365 + L i) = c + dby (i + 1) by omega]
    exact ih (i + 1) (by omega) (by omega)
theorem rof_ev (y m d h mi s : Int) : Ev (fun k => stowageref4_Of.f k y m d h mi s) (if Real y m d h mi s then (second y m d h mi s, true) else (0, false)) := by
  have jt : ∀ (b : Bool), (b = true → ¬ Real y m d h mi s) → (b = false → Real y m d h mi s) → Ev (fun k => stowageref4_Of.j0 k b y m d h mi s) (if Real y m d h mi s then (second y m d h mi s, true) else (0, false)) := by
    intro b hb1 hb0
    cases b with
    | true => exact Ev.step (f := fun _ => some _) (fun k => by rw [stowageref4_Of.j0, if_pos rfl, if_neg (hb1 rfl)]) (Ev.now _)
    | false =>
      have r := hb0 rfl
      have hbd := r.bd
      have hv := r.valid
      obtain ⟨a1, a2, a3, a4, a5, a6, a7, a8, a9, b1, b2, b3⟩ := r
      rw [if_pos (hb0 rfl)]
      have hy := hv.in_year
      have hc := cum_bd y m a3 (by omega)
      have h19 := dby_le 1970 y a1
      have h99 := dby_le y 10000 (by omega)
      rw [dby_1970] at h19
      rw [dby_10000] at h99
      have hz := size_bd y m
      refine Ev.step (f := fun k => _) (fun k => by rw [stowageref4_Of.j0, if_neg (by simp), w64 (n := d - 1) (by omega) (by omega)]) ?_
      have q := rof_l1 y m d h mi s (dby y + d - 1) a1 a4 ⟨a7, a8⟩ ⟨a9, b1⟩ ⟨b2, b3⟩ (by omega) (m - 1).toNat 1 (by omega) (by omega)
      rw [cum_one, show dby y + d - 1 + 0 = d - 1 + dby y by omega, show (dby y + d - 1 + cum y m) * 86400 + h * 3600 + mi * 60 + s = second y m d h mi s by unfold second; omega] at q
      have q2 := rof_l0 y m d h mi s (d - 1) (by omega) a2 _ q (y - 1970).toNat 1970 (by omega) (by omega)
      rw [dby_1970, show d - 1 + 0 = d - 1 by omega] at q2
      exact q2
  simp only [stowageref4_Of.f]
  by_cases c1 : y < 1970
  · exact ev_pos c1 (jt true (fun _ r => by have := r.1; omega) (by simp))
  refine ev_neg c1 ?_
  by_cases c2 : y > 9999
  · exact ev_pos c2 (jt true (fun _ r => by have := r.2.1; omega) (by simp))
  refine ev_neg c2 ?_
  by_cases c3 : m < 1
  · exact ev_pos c3 (jt true (fun _ r => by have := r.2.2.1; omega) (by simp))
  refine ev_neg c3 ?_
  by_cases c4 : m > 12
  · exact ev_pos c4 (jt true (fun _ r => by have := r.2.2.2.1; omega) (by simp))
  refine ev_neg c4 ?_
  by_cases c5 : d < 1
  · exact ev_pos c5 (jt true (fun _ r => by have := r.2.2.2.2.1; omega) (by simp))
  refine ev_neg c5 ?_
  refine Ev.bind (rsize_ev y m (by omega)) ?_
  by_cases c6 : d > size y m
  · exact ev_pos c6 (jt true (fun _ r => by have := r.2.2.2.2.2.1; omega) (by simp))
  refine ev_neg c6 ?_
  by_cases c7 : h < 0
  · exact ev_pos c7 (jt true (fun _ r => by have := r.2.2.2.2.2.2.1; omega) (by simp))
  refine ev_neg c7 ?_
  by_cases c8 : h > 23
  · exact ev_pos c8 (jt true (fun _ r => by have := r.2.2.2.2.2.2.2.1; omega) (by simp))
  refine ev_neg c8 ?_
  by_cases c9 : mi < 0
  · exact ev_pos c9 (jt true (fun _ r => by have := r.2.2.2.2.2.2.2.2.1; omega) (by simp))
  refine ev_neg c9 ?_
  by_cases d1 : mi > 59
  · exact ev_pos d1 (jt true (fun _ r => by have := r.2.2.2.2.2.2.2.2.2.1; omega) (by simp))
  refine ev_neg d1 ?_
  by_cases d2 : s < 0
  · exact ev_pos d2 (jt true (fun _ r => by have := r.2.2.2.2.2.2.2.2.2.2.1; omega) (by simp))
  refine ev_neg d2 ?_
  refine jt _ (fun hb r => ?_) (fun hb => ?_)
  · have := r.2.2.2.2.2.2.2.2.2.2.2
    simp at hb
    omega
  · simp at hb
    exact ⟨by omega, by omega, by omega, by omega, by omega, by omega, by omega, by omega, by omega, by omega, by omega, by omega⟩
def orMinus (o : Option Int) : Int := match o with | some v => v | none => -1
theorem number_l0 (s : ByteArray) (hsz : s.size ≤ 100) (j : Nat) : ∀ (n i : Int) (c : Nat), c + j ≤ 4 → 0 ≤ n → n < 10 ^ c → 0 ≤ i → i + j = s.size →
    Ev (fun k => stowageref4_number.l0 k s n i) (orMinus (dval s j i n)) := by
  induction j with
  | zero =>
    intro n i c hc hn hn1 hi hij
    refine Ev.step (f := fun _ => some n) (fun k => ?_) (Ev.now _)
    rw [stowageref4_number.l0, if_neg (by omega)]
  | succ j ih =>
    intro n i c hc hn hn1 hi hij
    have hp : (10 : Int) ^ c ≤ 1000 := by
      have : c = 0 ∨ c = 1 ∨ c = 2 ∨ c = 3 := by omega
      rcases this with rfl | rfl | rfl | rfl <;> decide
    have hbr := bt_range s i
    by_cases h : i < (s.size : Int) ∧ 48 ≤ bt s i ∧ bt s i ≤ 57
    · rw [dval, if_pos h]
      refine Ev.step (f := fun k => stowageref4_number.l0 k s (10 * n + (bt s i - 48)) (i + 1)) (fun k => ?_) ?_
      · rw [stowageref4_number.l0, if_pos h.1, if_pos hi, if_neg (by omega), if_neg (by omega),
          w64 (n := 10 * n) (by omega) (by omega), show (bt s i - 48) % 256 = bt s i - 48 by omega, w64 (n := 10 * n + (bt s i - 48)) (by omega) (by omega), w64 (n := i + 1) (by omega) (by omega)]
      · refine ih _ _ (c + 1) (by omega) (by omega) ?_ (by omega) (by omega)
        rw [Int.pow_succ]; omega
    · rw [dval, if_neg h]
      refine Ev.step (f := fun _ => some (-1)) (fun k => ?_) (Ev.now _)
      rw [stowageref4_number.l0, if_pos (by omega), if_pos hi]
      by_cases c2 : bt s i < 48
      · rw [if_pos c2]
      · rw [if_neg c2, if_pos (by omega)]
theorem bt_extract (s : ByteArray) (a b : Nat) (i : Int) (h0 : 0 ≤ i) (h1 : a + i < b) (h2 : b ≤ s.size) : bt (s.extract a b) i = bt s (a + i) := by
  unfold bt
  have hs : (s.extract a b).size = b - a := by rw [ByteArray.size_extract]; omega
  rw [dif_pos (show i.toNat < (s.extract a b).size by omega), dif_pos (show ((a : Int) + i).toNat < s.size by omega)]
  congr 2
  rw [ByteArray.getElem_extract]
  congr 1
  omega
theorem dval_extract (s : ByteArray) (a b : Nat) (h2 : b ≤ s.size) (j : Nat) : ∀ (i n : Int), 0 ≤ i → a + i + j = b → dval (s.extract a b) j i n = dval s j (a + i) n := by
  have hs : (s.extract a b).size = b - a := by rw [ByteArray.size_extract]; omega
  induction j with
  | zero => intro i n _ _; rfl
  | succ j ih =>
    intro i n h0 hj
    rw [dval, dval, bt_extract s a b i h0 (by omega) h2, ih (i + 1) _ (by omega) (by omega), hs, show (a : Int) + (i + 1) = a + i + 1 by omega]
    by_cases c : 48 ≤ bt s (a + i) ∧ bt s (a + i) ≤ 57
    · rw [if_pos ⟨by omega, c⟩, if_pos ⟨by omega, c⟩]
    · rw [if_neg (fun h => c h.2), if_neg (fun h => c h.2)]
theorem number_ev (s : ByteArray) (a b : Nat) (hab : a ≤ b) (hb : b ≤ a + 4) (h2 : b ≤ s.size) : Ev (fun k => stowageref4_number.f k (s.extract a b)) (orMinus (dval s (b - a) a 0)) := by
  have hs : (s.extract a b).size = b - a := by rw [ByteArray.size_extract]; omega
  have h := number_l0 (s.extract a b) (by omega) (b - a) 0 0 0 (by omega) (by omega) (by decide) (by omega) (by omega)
  rw [dval_extract s a b h2 (b - a) 0 0 (by omega) (by omega)] at h
  rw [show (a : Int) + 0 = a by omega] at h
  exact h
theorem allOf_length (s : ByteArray) (ps : List (Int × Nat)) : ∀ l, allOf s ps = some l → l.length = ps.length := by
  induction ps with
  | nil => intro l h; simp only [allOf, Option.some.injEq] at h; subst h; rfl
  | cons p ps ih =>
    intro l h
    obtain ⟨a, b⟩ := p
    rw [allOf] at h
    cases hv : dval s b a 0 with
    | none => rw [hv] at h; simp at h
    | some v =>
      rw [hv] at h
      cases hr : allOf s ps with
      | none => rw [hr] at h; simp at h
      | some q => rw [hr] at h; simp only [Option.map_some, Option.some.injEq] at h; subst h; simp [ih q hr]
theorem mo_inj {m m' : Int} (h0 : 1 ≤ m) (h1 : m ≤ 12) (h0' : 1 ≤ m') (h1' : m' ≤ 12) (h : mo m = mo m') : m = m' := by
  have a := mo_index m h0 h1
  rw [h, mo_index m' h0' h1'] at a
  omega
theorem phttp_j1_no (a : ByteArray) (l : List Int) (i : Int) : Ev (fun k => when_ParseHttp.j1 k a l i true) (0, false) :=
  Ev.step (f := fun _ => _) (fun k => by rw [when_ParseHttp.j1, if_pos rfl]) (Ev.now _)
theorem phttp_j0_no (a : ByteArray) (l : List Int) : Ev (fun k => when_ParseHttp.j0 k a l true) (0, false) :=
  Ev.step (f := fun _ => _) (fun k => by rw [when_ParseHttp.j0, if_pos rfl]) (Ev.now _)
theorem phttp_no (a : ByteArray) (hn : ∀ y m d h mi s, Real y m d h mi s → httpD y m d h mi s ≠ a) : Ev (fun k => when_ParseHttp.f k a) (0, false) := by
  have ha := all_ev a httpAt httpAt_ok (by decide)
  simp only [when_ParseHttp.f]
  cases hx : allOf a httpAt with
  | none =>
    rw [hx] at ha
    refine Ev.bind ha ?_
    exact ev_neg (by simp) (phttp_j0_no a _)
  | some l =>
    rw [hx] at ha
    have hlen := allOf_length a httpAt l hx
    have hl : ∃ y d h mi s, l = [y, d, h, mi, s] := by
      match l, hlen with
      | [y, d, h, mi, s], _ => exact ⟨y, d, h, mi, s, rfl⟩
    obtain ⟨y, d, h, mi, s, rfl⟩ := hl
    refine Ev.bind (a := ([y, d, h, mi, s], true)) ha ?_
    refine ev_pos rfl ?_
    by_cases hz : (a.size : Int) = 29
    · rw [show ((a.size : Int) != 29) = false by rw [hz]; rfl]
      refine Ev.step (f := fun k => _) (fun k => by rw [when_ParseHttp.j0, if_neg (by simp), if_pos (by omega), if_pos (by omega), phttp_index, Option.bind_some]) ?_
      by_cases c : Lib.index (⟨#[74, 97, 110, 70, 101, 98, 77, 97, 114, 65, 112, 114, 77, 97, 121, 74, 117, 110, 74, 117, 108, 65, 117, 103, 83, 101, 112, 79, 99, 116, 78, 111, 118, 68, 101, 99]⟩ : ByteArray).data.toList (a.extract 8 11).data.toList < 0
      · exact ev_pos c (phttp_j1_no a _ _)
      · refine ev_neg c ?_
        cases hb : (Int.tmod (Lib.index (⟨#[74, 97, 110, 70, 101, 98, 77, 97, 114, 65, 112, 114, 77, 97, 121, 74, 117, 110, 74, 117, 108, 65, 117, 103, 83, 101, 112, 79, 99, 116, 78, 111, 118, 68, 101, 99]⟩ : ByteArray).data.toList (a.extract 8 11).data.toList) 3 != 0) with
        | true => exact phttp_j1_no a _ _
        | false => exact phttp_j1 a y d h mi s _ _ ((phttp_tail a y _ d h mi s).2 (fun r => hn _ _ _ _ _ _ r))
    · rw [show ((a.size : Int) != 29) = true by simpa using hz]
      exact phttp_j0_no a _
theorem rphttp_round (a : ByteArray) (hs : a.size = 29) (i : Int) (r : Int × Bool) (h : Ev (fun k => (stowageref4_Of.f k (orMinus (dval a 4 12 0)) i (orMinus (dval a 2 5 0)) (orMinus (dval a 2 17 0)) (orMinus (dval a 2 20 0)) (orMinus (dval a 2 23 0))).bind fun bt338 => (if bt338.2 = true then ((stowageref4_Http.f k bt338.1).bind fun t340 => (if t340.toList = a.toList then (some (bt338.1, true)) else (stowageref4_ParseHttp.l0 k a (wrap64 (i + 1))))) else (stowageref4_ParseHttp.l0 k a (wrap64 (i + 1))))) r) (hi : i ≤ 12) : Ev (fun k => stowageref4_ParseHttp.l0 k a i) r := by
  refine Ev.step (f := fun k => _) (fun k => by rw [stowageref4_ParseHttp.l0, if_pos hi]) ?_
  refine ev_pos (by omega) (ev_pos (by omega) ?_)
  refine Ev.bind (number_ev a 12 16 (by omega) (by omega) (by omega)) (ev_pos (by omega) (ev_pos (by omega) ?_))
  refine Ev.bind (number_ev a 5 7 (by omega) (by omega) (by omega)) (ev_pos (by omega) (ev_pos (by omega) ?_))
  refine Ev.bind (number_ev a 17 19 (by omega) (by omega) (by omega)) (ev_pos (by omega) (ev_pos (by omega) ?_))
  refine Ev.bind (number_ev a 20 22 (by omega) (by omega) (by omega)) (ev_pos (by omega) (ev_pos (by omega) ?_))
  refine Ev.bind (number_ev a 23 25 (by omega) (by omega) (by omega)) ?_
  exact h
theorem rphttp_on (a : ByteArray) (hs : a.size = 29) (i : Int) (hi0 : 1 ≤ i) (hi : i ≤ 12) (hn : ∀ y d h mi s, Real y i d h mi s → httpD y i d h mi s ≠ a) (r : Int × Bool) (h : Ev (fun k => stowageref4_ParseHttp.l0 k a (i + 1)) r) : Ev (fun k => stowageref4_ParseHttp.l0 k a i) r := by
  refine rphttp_round a hs i r ?_ hi
  have h0 := rof_ev (orMinus (dval a 4 12 0)) i (orMinus (dval a 2 5 0)) (orMinus (dval a 2 17 0)) (orMinus (dval a 2 20 0)) (orMinus (dval a 2 23 0))
  rw [w64 (n := i + 1) (by omega) (by omega)]
  by_cases q : Real (orMinus (dval a 4 12 0)) i (orMinus (dval a 2 5 0)) (orMinus (dval a 2 17 0)) (orMinus (dval a 2 20 0)) (orMinus (dval a 2 23 0))
  · rw [if_pos q] at h0
    refine Ev.bind h0 (ev_pos rfl (Ev.bind (httpD_ev q).2 ?_))
    exact ev_neg (fun e => hn _ _ _ _ _ q (toList_inj e)) h
  · rw [if_neg q] at h0
    refine Ev.bind h0 ?_
    exact ev_neg (by simp) h
theorem rphttp_no (a : ByteArray) (hn : ∀ y m d h mi s, Real y m d h mi s → httpD y m d h mi s ≠ a) : Ev (fun k => stowageref4_ParseHttp.f k a) (0, false) := by
  simp only [stowageref4_ParseHttp.f]
  by_cases hs : a.size = 29
  · refine ev_pos (by omega) ?_
    have go : ∀ (j : Nat) (i : Int), 1 ≤ i → i + j = 13 → Ev (fun k => stowageref4_ParseHttp.l0 k a i) (0, false) := by
      intro j
      induction j with
      | zero =>
        intro i h1 hj
        exact Ev.step (f := fun _ => _) (fun k => by rw [stowageref4_ParseHttp.l0, if_neg (by omega)]) (Ev.now _)
      | succ j ih =>
        intro i h1 hj
        exact rphttp_on a hs i h1 (by omega) (fun y d h mi s r => hn y i d h mi s r) _ (ih (i + 1) (by omega) (by omega))
    exact go 12 1 (by omega) (by omega)
  · exact ev_neg (by omega) (Ev.now _)
theorem rphttp_yes {y m d h mi s : Int} (r : Real y m d h mi s) : Ev (fun k => stowageref4_ParseHttp.f k (httpD y m d h mi s)) (second y m d h mi s, true) := by
  obtain ⟨hz, hx, e1, e2, e3, e4, e5⟩ := httpD_fields (date_of r)
  have m0 := r.2.2.1
  have m1 := r.2.2.2.1
  simp only [stowageref4_ParseHttp.f]
  refine ev_pos (by omega) ?_
  have last : Ev (fun k => stowageref4_ParseHttp.l0 k (httpD y m d h mi s) m) (second y m d h mi s, true) := by
    refine rphttp_round _ hz m _ ?_ m1
    rw [e1, e2, e3, e4, e5]
    have h0 := rof_ev y m d h mi s
    rw [if_pos r] at h0
    refine Ev.bind h0 (ev_pos rfl (Ev.bind (httpD_ev r).2 ?_))
    exact ev_pos rfl (Ev.now _)
  have go : ∀ (j : Nat) (i : Int), 1 ≤ i → i + j = m → Ev (fun k => stowageref4_ParseHttp.l0 k (httpD y m d h mi s) i) (second y m d h mi s, true) := by
    intro j
    induction j with
    | zero =>
      intro i h1 hj
      rw [show i = m by omega]; exact last
    | succ j ih =>
      intro i h1 hj
      refine rphttp_on _ hz i h1 (by omega) (fun y' d' h' mi' s' r' e => ?_) _ (ih (i + 1) (by omega) (by omega))
      have q := (httpD_fields (date_of r')).2.1
      rw [e, hx] at q
      have := mo_inj m0 m1 h1 (by omega) q
      omega
  exact go (m - 1).toNat 1 (by omega) (by omega)
theorem parseHttp_same (a : ByteArray) : ∃ r, Ev (fun k => when_ParseHttp.f k a) r ∧ Ev (fun k => stowageref4_ParseHttp.f k a) r := by
  by_cases h : ∃ y m d h mi s, Real y m d h mi s ∧ httpD y m d h mi s = a
  · obtain ⟨y, m, d, h, mi, s, r, rfl⟩ := h
    exact ⟨_, phttp_yes r, rphttp_yes r⟩
  · have hn : ∀ y m d h mi s, Real y m d h mi s → httpD y m d h mi s ≠ a := fun y m d hh mi s r e => h ⟨y, m, d, hh, mi, s, r, e⟩
    exact ⟨_, phttp_no a hn, rphttp_no a hn⟩
end Go.Proofs.YtfjidcmegacibaaDoor.Pure.Date
