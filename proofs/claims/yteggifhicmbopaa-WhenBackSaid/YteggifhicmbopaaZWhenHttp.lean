/- A part of the proof of the seat's laws. No condition beyond those in the theorems. -/
import Derived.Test.YteggifhicmbopaaZWhenRead

namespace Go.Proofs.Yteggifhicmbopaa.Pure
open Go.RowKit Go.Proofs.Yteggifhicmbopaa.Q Go.Proofs.YteggifhicmbopaaW.PrintWords Go.Proofs.YteggifhicmbopaaW.PrintLast Cal
set_option linter.unusedVariables false
set_option linter.unusedSimpArgs false
theorem as_son (b : ByteArray) : b = strOfNums (bytesOf b) := by
  apply ByteArray.ext
  apply Array.toList_inj.mp
  simp only [strOfNums, bytesOf, List.map_map]
  conv => lhs; rw [← List.map_id b.data.toList]
  apply List.map_congr_left
  intro x _
  simp [Function.comp]
theorem bytesOf_range (b : ByteArray) : ∀ x ∈ bytesOf b, 0 ≤ x ∧ x ≤ 255 := by
  intro x hx
  simp only [bytesOf, List.mem_map] at hx
  obtain ⟨u, _, rfl⟩ := hx
  have := u.toNat_lt
  omega
theorem bytesOf_length (b : ByteArray) : (bytesOf b).length = b.size := by simp [bytesOf]
theorem three (b : ByteArray) (h : b.size = 3) : ∃ x y z : Int, (0 ≤ x ∧ x ≤ 255) ∧ (0 ≤ y ∧ y ≤ 255) ∧ (0 ≤ z ∧ z ≤ 255) ∧ b = strOfNums [x, y, z] := by
  have hr := bytesOf_range b
  have hl := bytesOf_length b
  have e := as_son b
  rw [h] at hl
  match hb : bytesOf b, hl with
  | [x, y, z], _ =>
    rw [hb] at hr e
    exact ⟨x, y, z, hr x (by simp), hr y (by simp), hr z (by simp), e⟩
def dow (y m d : Int) : Int := (dby y + cum y m + d - 1) % 7
def httpD (y m d h mi s : Int) : ByteArray := httpT (dow y m d) y m d h mi s
theorem second_day {y m d h mi s : Int} (r : Real y m d h mi s) : second y m d h mi s / 86400 % 7 = dow y m d := by
  obtain ⟨_, _, _, _, _, _, _, _, _, _, _, _⟩ := r
  have hd : second y m d h mi s / 86400 = dby y + cum y m + d - 1 := by unfold second; omega
  rw [hd]; rfl
theorem httpD_ev {y m d h mi s : Int} (r : Real y m d h mi s) : Ev (fun k => when_Http.f k (second y m d h mi s)) (httpD y m d h mi s) ∧ Ev (fun k => stowageref4_Http.f k (second y m d h mi s)) (httpD y m d h mi s) := by
  have b := second_bd r
  have c := second_civil r
  have h1 := http_ev _ b.1 b.2 y m d h mi s (date_of r) c.1
  have h2 := rhttp_ev _ b.1 b.2 y m d h mi s (date_of r) c.2
  rw [second_day r] at h1 h2
  exact ⟨h1, h2⟩
theorem httpD_bytes {y m d h mi s : Int} (D : Date6 y m d h mi s) : ∃ a b c e f g : Int, (0 ≤ a ∧ a ≤ 255) ∧ (0 ≤ b ∧ b ≤ 255) ∧ (0 ≤ c ∧ c ≤ 255) ∧ (0 ≤ e ∧ e ≤ 255) ∧ (0 ≤ f ∧ f ≤ 255) ∧ (0 ≤ g ∧ g ≤ 255) ∧ mo m = strOfNums [e, f, g] ∧
    httpD y m d h mi s = strOfNums [a, b, c, 44, 32, 48 + d / 10, 48 + d % 10, 32, e, f, g, 32, 48 + y / 1000, 48 + y / 100 % 10, 48 + y / 10 % 10, 48 + y % 10, 32, 48 + h / 10, 48 + h % 10, 58, 48 + mi / 10, 48 + mi % 10, 58, 48 + s / 10, 48 + s % 10, 32, 71, 77, 84] := by
  have bd := D.bd
  obtain ⟨a, b, c, ha, hb, hc, e1⟩ := three (wd (dow y m d)) (wd_size _ (by unfold dow; omega) (by unfold dow; omega))
  obtain ⟨e, f, g, he, hf, hg, e2⟩ := three (mo m) (mo_size m bd.2.2.1 bd.2.2.2.1)
  refine ⟨a, b, c, e, f, g, ha, hb, hc, he, hf, hg, e2, ?_⟩
  rw [httpD, httpT, e1, e2, p4, p2, p2, p2, p2, show (⟨#[44, 32]⟩ : ByteArray) = strOfNums [44, 32] from rfl, show (⟨#[32]⟩ : ByteArray) = strOfNums [32] from rfl, show (⟨#[58]⟩ : ByteArray) = strOfNums [58] from rfl, show (⟨#[32, 71, 77, 84]⟩ : ByteArray) = strOfNums [32, 71, 77, 84] from rfl]
  simp only [son_append]
  rfl
theorem son_extract (l : List Int) (i j : Nat) : (strOfNums l).extract i j = strOfNums ((l.take j).drop i) := by
  apply ByteArray.ext
  apply Array.toList_inj.mp
  rw [ByteArray.data_extract, Array.toList_extract]
  simp [strOfNums, List.extract, List.map_drop, List.map_take, List.drop_take]
theorem httpD_fields {y m d h mi s : Int} (D : Date6 y m d h mi s) : (httpD y m d h mi s).size = 29 ∧ (httpD y m d h mi s).extract 8 11 = mo m ∧
    dval (httpD y m d h mi s) 4 12 0 = some y ∧ dval (httpD y m d h mi s) 2 5 0 = some d ∧ dval (httpD y m d h mi s) 2 17 0 = some h ∧ dval (httpD y m d h mi s) 2 20 0 = some mi ∧ dval (httpD y m d h mi s) 2 23 0 = some s := by
  have bd := D.bd
  have := D.h0; have := D.h1; have := D.mi0; have := D.mi1; have := D.s0; have := D.s1
  obtain ⟨a, b, c, e, f, g, ha, hb, hc, he, hf, hg, e2, e1⟩ := httpD_bytes D
  have hr : ∀ x ∈ [a, b, c, 44, 32, 48 + d / 10, 48 + d % 10, 32, e, f, g, 32, 48 + y / 1000, 48 + y / 100 % 10, 48 + y / 10 % 10, 48 + y % 10, 32, 48 + h / 10, 48 + h % 10, 58, 48 + mi / 10, 48 + mi % 10, 58, 48 + s / 10, 48 + s % 10, 32, 71, 77, 84], 0 ≤ x ∧ x ≤ 255 := by
    intro x hx
    simp only [List.mem_cons, List.not_mem_nil, or_false] at hx
    rcases hx with rfl | rfl | rfl | rfl | rfl | rfl | rfl | rfl | rfl | rfl | rfl | rfl | rfl | rfl | rfl | rfl | rfl | rfl | rfl | rfl | rfl | rfl | rfl | rfl | rfl | rfl | rfl | rfl | rfl <;> omega
  have hz : (httpD y m d h mi s).size = 29 := by rw [e1]; rfl
  have at_ : ∀ (i : Nat) (hi : i < 29), bt (httpD y m d h mi s) i = [a, b, c, 44, 32, 48 + d / 10, 48 + d % 10, 32, e, f, g, 32, 48 + y / 1000, 48 + y / 100 % 10, 48 + y / 10 % 10, 48 + y % 10, 32, 48 + h / 10, 48 + h % 10, 58, 48 + mi / 10, 48 + mi % 10, 58, 48 + s / 10, 48 + s % 10, 32, 71, 77, 84][i]'hi := by
    intro i hi
    rw [e1]; exact bt_son _ hr i hi
  refine ⟨hz, by rw [e1, son_extract, e2]; rfl, ?_, ?_, ?_, ?_, ?_⟩
  · exact dval_is4 _ _ _ (by omega) (by omega) (by omega) (at_ 12 (by decide)) (at_ 13 (by decide)) (at_ 14 (by decide)) (at_ 15 (by decide))
  · exact dval_is2 _ _ _ (by omega) (by omega) (by omega) (at_ 5 (by decide)) (at_ 6 (by decide))
  · exact dval_is2 _ _ _ (by omega) (by omega) (by omega) (at_ 17 (by decide)) (at_ 18 (by decide))
  · exact dval_is2 _ _ _ (by omega) (by omega) (by omega) (at_ 20 (by decide)) (at_ 21 (by decide))
  · exact dval_is2 _ _ _ (by omega) (by omega) (by omega) (at_ 23 (by decide)) (at_ 24 (by decide))
theorem mo_index_all : ∀ i : Fin 12, Lib.index (⟨#[74, 97, 110, 70, 101, 98, 77, 97, 114, 65, 112, 114, 77, 97, 121, 74, 117, 110, 74, 117, 108, 65, 117, 103, 83, 101, 112, 79, 99, 116, 78, 111, 118, 68, 101, 99]⟩ : ByteArray).data.toList (mo ((i.val : Int) + 1)).data.toList = 3 * (i.val : Int) := by decide +kernel
theorem mo_index (m : Int) (h0 : 1 ≤ m) (h1 : m ≤ 12) : Lib.index (⟨#[74, 97, 110, 70, 101, 98, 77, 97, 114, 65, 112, 114, 77, 97, 121, 74, 117, 110, 74, 117, 108, 65, 117, 103, 83, 101, 112, 79, 99, 116, 78, 111, 118, 68, 101, 99]⟩ : ByteArray).data.toList (mo m).data.toList = 3 * (m - 1) := by
  have h := mo_index_all ⟨(m - 1).toNat, by omega⟩
  rw [show (((⟨(m - 1).toNat, by omega⟩ : Fin 12).val : Nat) : Int) = m - 1 by show (((m - 1).toNat : Nat) : Int) = m - 1; omega, show m - 1 + 1 = m by omega] at h
  exact h
theorem mo_inj {m m' : Int} (h0 : 1 ≤ m) (h1 : m ≤ 12) (h0' : 1 ≤ m') (h1' : m' ≤ 12) (h : mo m = mo m') : m = m' := by
  have a := mo_index m h0 h1
  rw [h, mo_index m' h0' h1'] at a
  omega
def httpAt : List (Int × Nat) := [(12, 4), (5, 2), (17, 2), (20, 2), (23, 2)]
theorem httpAt_ok : ∀ p ∈ httpAt, 0 ≤ p.1 ∧ p.1 ≤ 50 ∧ p.2 ≤ 4 := by decide
theorem phttp_tail (a : ByteArray) (y m d h mi s : Int) :
    (∀ (_ : Real y m d h mi s), httpD y m d h mi s = a → Ev (fun k => (when_Of.f k y m d h mi s).bind fun bt330 => (if bt330.2 = true then ((when_Http.f k bt330.1).bind fun t332 => (if t332.toList = a.toList then (some (bt330.1, true)) else (some (0, false)))) else (some (0, false)))) (second y m d h mi s, true)) ∧
    ((∀ (_ : Real y m d h mi s), httpD y m d h mi s ≠ a) → Ev (fun k => (when_Of.f k y m d h mi s).bind fun bt330 => (if bt330.2 = true then ((when_Http.f k bt330.1).bind fun t332 => (if t332.toList = a.toList then (some (bt330.1, true)) else (some (0, false)))) else (some (0, false)))) (0, false)) := by
  have h0 := of_ev y m d h mi s
  constructor
  · intro r e
    rw [if_pos r] at h0
    refine Ev.bind h0 (ev_pos rfl (Ev.bind (httpD_ev r).1 ?_))
    exact ev_pos (by rw [e]) (Ev.now _)
  · intro hn
    by_cases r : Real y m d h mi s
    · rw [if_pos r] at h0
      refine Ev.bind h0 (ev_pos rfl (Ev.bind (httpD_ev r).1 ?_))
      exact ev_neg (fun e => hn r (toList_inj e)) (Ev.now _)
    · rw [if_neg r] at h0
      refine Ev.bind h0 ?_
      exact ev_neg (by simp) (Ev.now _)
theorem phttp_j1 (a : ByteArray) (y d h mi s i : Int) (r : Int × Bool) (hr : Ev (fun k => (when_Of.f k y (wrap64 ((wrap64 (Int.tdiv i 3)) + 1)) d h mi s).bind fun bt330 => (if bt330.2 = true then ((when_Http.f k bt330.1).bind fun t332 => (if t332.toList = a.toList then (some (bt330.1, true)) else (some (0, false)))) else (some (0, false)))) r) :
    Ev (fun k => when_ParseHttp.j1 k a [y, d, h, mi, s] i false) r := by
  refine Ev.step (f := fun k => _) (fun k => by rw [when_ParseHttp.j1, if_neg (by simp)]) ?_
  refine ev_pos (by simp) (ev_pos (by simp) (ev_pos (by simp) (ev_pos (by simp) (ev_pos (by simp) ?_))))
  exact hr
theorem phttp_j1_no (a : ByteArray) (l : List Int) (i : Int) : Ev (fun k => when_ParseHttp.j1 k a l i true) (0, false) :=
  Ev.step (f := fun _ => _) (fun k => by rw [when_ParseHttp.j1, if_pos rfl]) (Ev.now _)
theorem phttp_j0_no (a : ByteArray) (l : List Int) : Ev (fun k => when_ParseHttp.j0 k a l true) (0, false) :=
  Ev.step (f := fun _ => _) (fun k => by rw [when_ParseHttp.j0, if_pos rfl]) (Ev.now _)
theorem phttp_index (b : ByteArray) : strings_Index.f (⟨#[74, 97, 110, 70, 101, 98, 77, 97, 114, 65, 112, 114, 77, 97, 121, 74, 117, 110, 74, 117, 108, 65, 117, 103, 83, 101, 112, 79, 99, 116, 78, 111, 118, 68, 101, 99]⟩ : ByteArray) b = some (Lib.index (⟨#[74, 97, 110, 70, 101, 98, 77, 97, 114, 65, 112, 114, 77, 97, 121, 74, 117, 110, 74, 117, 108, 65, 117, 103, 83, 101, 112, 79, 99, 116, 78, 111, 118, 68, 101, 99]⟩ : ByteArray).data.toList b.data.toList) := by
  unfold strings_Index.f; rw [if_pos (by decide)]
theorem phttp_yes {y m d h mi s : Int} (r : Real y m d h mi s) : Ev (fun k => when_ParseHttp.f k (httpD y m d h mi s)) (second y m d h mi s, true) := by
  obtain ⟨hz, hx, e1, e2, e3, e4, e5⟩ := httpD_fields (date_of r)
  have ha := all_ev (httpD y m d h mi s) httpAt httpAt_ok (by decide)
  rw [show allOf (httpD y m d h mi s) httpAt = some [y, d, h, mi, s] by simp only [allOf, httpAt, e1, e2, e3, e4, e5]; rfl] at ha
  simp only [when_ParseHttp.f]
  refine Ev.bind (a := ([y, d, h, mi, s], true)) ha ?_
  refine ev_pos rfl ?_
  rw [show (((httpD y m d h mi s).size : Int) != 29) = false by rw [hz]; rfl]
  have m0 := r.2.2.1
  have m1 := r.2.2.2.1
  refine Ev.step (f := fun k => _) (fun k => by rw [when_ParseHttp.j0, if_neg (by simp), if_pos (by omega), if_pos (by omega), hx, phttp_index, mo_index m m0 m1, Option.bind_some, if_neg (by omega)]) ?_
  rw [show (Int.tmod (3 * (m - 1)) 3 != 0) = false by rw [tmod_pos (by omega)]; simp]
  refine phttp_j1 _ y d h mi s _ _ ?_
  rw [tdiv_pos (by omega), w64 (n := 3 * (m - 1) / 3) (by omega) (by omega), w64 (by omega) (by omega), show 3 * (m - 1) / 3 + 1 = m by omega]
  exact (phttp_tail _ y m d h mi s).1 r rfl
theorem phttp_no (a : ByteArray) (hn : ∀ y m d h mi s, Real y m d h mi s → httpD y m d h mi s ≠ a) : Ev (fun k => when_ParseHttp.f k a) (0, false) := by
  have ha := all_ev a httpAt httpAt_ok (by decide)
  simp only [when_ParseHttp.f]
  cases hx : allOf a httpAt with
  | none =>
    rw [hx] at ha
    refine Ev.bind ha ?_
    exact ev_neg (by simp) (phttp_j0_no a _)
  | some l =>
    rw [hx] at ha
    have hlen := allOf_length a httpAt l hx
    have hl : ∃ y d h mi s, l = [y, d, h, mi, s] := by
      match l, hlen with
      | [y, d, h, mi, s], _ => exact ⟨y, d, h, mi, s, rfl⟩
    obtain ⟨y, d, h, mi, s, rfl⟩ := hl
    refine Ev.bind (a := ([y, d, h, mi, s], true)) ha ?_
    refine ev_pos rfl ?_
    by_cases hz : (a.size : Int) = 29
    · rw [show ((a.size : Int) != 29) = false by rw [hz]; rfl]
      refine Ev.step (f := fun k => _) (fun k => by rw [when_ParseHttp.j0, if_neg (by simp), if_pos (by omega), if_pos (by omega), phttp_index, Option.bind_some]) ?_
      by_cases c : Lib.index (⟨#[74, 97, 110, 70, 101, 98, 77, 97, 114, 65, 112, 114, 77, 97, 121, 74, 117, 110, 74, 117, 108, 65, 117, 103, 83, 101, 112, 79, 99, 116, 78, 111, 118, 68, 101, 99]⟩ : ByteArray).data.toList (a.extract 8 11).data.toList < 0
      · exact ev_pos c (phttp_j1_no a _ _)
      · refine ev_neg c ?_
        cases hb : (Int.tmod (Lib.index (⟨#[74, 97, 110, 70, 101, 98, 77, 97, 114, 65, 112, 114, 77, 97, 121, 74, 117, 110, 74, 117, 108, 65, 117, 103, 83, 101, 112, 79, 99, 116, 78, 111, 118, 68, 101, 99]⟩ : ByteArray).data.toList (a.extract 8 11).data.toList) 3 != 0) with
        | true => exact phttp_j1_no a _ _
        | false => exact phttp_j1 a y d h mi s _ _ ((phttp_tail a y _ d h mi s).2 (fun r => hn _ _ _ _ _ _ r))
    · rw [show ((a.size : Int) != 29) = true by simpa using hz]
      exact phttp_j0_no a _
theorem rphttp_round (a : ByteArray) (hs : a.size = 29) (i : Int) (r : Int × Bool) (h : Ev (fun k => (stowageref4_Of.f k (orMinus (dval a 4 12 0)) i (orMinus (dval a 2 5 0)) (orMinus (dval a 2 17 0)) (orMinus (dval a 2 20 0)) (orMinus (dval a 2 23 0))).bind fun bt338 => (if bt338.2 = true then ((stowageref4_Http.f k bt338.1).bind fun t340 => (if t340.toList = a.toList then (some (bt338.1, true)) else (stowageref4_ParseHttp.l0 k a (wrap64 (i + 1))))) else (stowageref4_ParseHttp.l0 k a (wrap64 (i + 1))))) r) (hi : i ≤ 12) : Ev (fun k => stowageref4_ParseHttp.l0 k a i) r := by
  refine Ev.step (f := fun k => _) (fun k => by rw [stowageref4_ParseHttp.l0, if_pos hi]) ?_
  refine ev_pos (by omega) (ev_pos (by omega) ?_)
  refine Ev.bind (number_ev a 12 16 (by omega) (by omega) (by omega)) (ev_pos (by omega) (ev_pos (by omega) ?_))
  refine Ev.bind (number_ev a 5 7 (by omega) (by omega) (by omega)) (ev_pos (by omega) (ev_pos (by omega) ?_))
  refine Ev.bind (number_ev a 17 19 (by omega) (by omega) (by omega)) (ev_pos (by omega) (ev_pos (by omega) ?_))
  refine Ev.bind (number_ev a 20 22 (by omega) (by omega) (by omega)) (ev_pos (by omega) (ev_pos (by omega) ?_))
  refine Ev.bind (number_ev a 23 25 (by omega) (by omega) (by omega)) ?_
  exact h
theorem rphttp_on (a : ByteArray) (hs : a.size = 29) (i : Int) (hi0 : 1 ≤ i) (hi : i ≤ 12) (hn : ∀ y d h mi s, Real y i d h mi s → httpD y i d h mi s ≠ a) (r : Int × Bool) (h : Ev (fun k => stowageref4_ParseHttp.l0 k a (i + 1)) r) : Ev (fun k => stowageref4_ParseHttp.l0 k a i) r := by
  refine rphttp_round a hs i r ?_ hi
  have h0 := rof_ev (orMinus (dval a 4 12 0)) i (orMinus (dval a 2 5 0)) (orMinus (dval a 2 17 0)) (orMinus (dval a 2 20 0)) (orMinus (dval a 2 23 0))
  rw [w64 (n := i + 1) (by omega) (by omega)]
  by_cases q : Real (orMinus (dval a 4 12 0)) i (orMinus (dval a 2 5 0)) (orMinus (dval a 2 17 0)) (orMinus (dval a 2 20 0)) (orMinus (dval a 2 23 0))
  · rw [if_pos q] at h0
    refine Ev.bind h0 (ev_pos rfl (Ev.bind (httpD_ev q).2 ?_))
    exact ev_neg (fun e => hn _ _ _ _ _ q (toList_inj e)) h
  · rw [if_neg q] at h0
    refine Ev.bind h0 ?_
    exact ev_neg (by simp) h
theorem rphttp_no (a : ByteArray) (hn : ∀ y m d h mi s, Real y m d h mi s → httpD y m d h mi s ≠ a) : Ev (fun k => stowageref4_ParseHttp.f k a) (0, false) := by
  simp only [stowageref4_ParseHttp.f]
  by_cases hs : a.size = 29
  · refine ev_pos (by omega) ?_
    have go : ∀ (j : Nat) (i : Int), 1 ≤ i → i + j = 13 → Ev (fun k => stowageref4_ParseHttp.l0 k a i) (0, false) := by
      intro j
      induction j with
      | zero =>
        intro i h1 hj
        exact Ev.step (f := fun _ => _) (fun k => by rw [stowageref4_ParseHttp.l0, if_neg (by omega)]) (Ev.now _)
      | succ j ih =>
        intro i h1 hj
        exact rphttp_on a hs i h1 (by omega) (fun y d h mi s r => hn y i d h mi s r) _ (ih (i + 1) (by omega) (by omega))
    exact go 12 1 (by omega) (by omega)
  · exact ev_neg (by omega) (Ev.now _)
theorem rphttp_yes {y m d h mi s : Int} (r : Real y m d h mi s) : Ev (fun k => stowageref4_ParseHttp.f k (httpD y m d h mi s)) (second y m d h mi s, true) := by
  obtain ⟨hz, hx, e1, e2, e3, e4, e5⟩ := httpD_fields (date_of r)
  have m0 := r.2.2.1
  have m1 := r.2.2.2.1
  simp only [stowageref4_ParseHttp.f]
  refine ev_pos (by omega) ?_
  have last : Ev (fun k => stowageref4_ParseHttp.l0 k (httpD y m d h mi s) m) (second y m d h mi s, true) := by
    refine rphttp_round _ hz m _ ?_ m1
    rw [e1, e2, e3, e4, e5]
    have h0 := rof_ev y m d h mi s
    rw [if_pos r] at h0
    refine Ev.bind h0 (ev_pos rfl (Ev.bind (httpD_ev r).2 ?_))
    exact ev_pos rfl (Ev.now _)
  have go : ∀ (j : Nat) (i : Int), 1 ≤ i → i + j = m → Ev (fun k => stowageref4_ParseHttp.l0 k (httpD y m d h mi s) i) (second y m d h mi s, true) := by
    intro j
    induction j with
    | zero =>
      intro i h1 hj
      rw [show i = m by omega]; exact last
    | succ j ih =>
      intro i h1 hj
      refine rphttp_on _ hz i h1 (by omega) (fun y' d' h' mi' s' r' e => ?_) _ (ih (i + 1) (by omega) (by omega))
      have q := (httpD_fields (date_of r')).2.1
      rw [e, hx] at q
      have := mo_inj m0 m1 h1 (by omega) q
      omega
  exact go (m - 1).toNat 1 (by omega) (by omega)
theorem parseHttp_same (a : ByteArray) : ∃ r, Ev (fun k => when_ParseHttp.f k a) r ∧ Ev (fun k => stowageref4_ParseHttp.f k a) r := by
  by_cases h : ∃ y m d h mi s, Real y m d h mi s ∧ httpD y m d h mi s = a
  · obtain ⟨y, m, d, h, mi, s, r, rfl⟩ := h
    exact ⟨_, phttp_yes r, rphttp_yes r⟩
  · have hn : ∀ y m d h mi s, Real y m d h mi s → httpD y m d h mi s ≠ a := fun y m d hh mi s r e => h ⟨y, m, d, hh, mi, s, r, e⟩
    exact ⟨_, phttp_no a hn, rphttp_no a hn⟩
def dayAt : List (Int × Nat) := [(0, 4), (4, 2), (6, 2)]
theorem dayAt_ok : ∀ p ∈ dayAt, 0 ≤ p.1 ∧ p.1 ≤ 50 ∧ p.2 ≤ 4 := by decide
theorem bt_append (a b : ByteArray) (i : Int) (h0 : 0 ≤ i) (h1 : i < a.size) : bt (a ++ b) i = bt a i := by
  unfold bt
  rw [dif_pos (show i.toNat < (a ++ b).size by rw [ByteArray.size_append]; omega), dif_pos (show i.toNat < a.size by omega)]
  rw [ByteArray.getElem_append_left]
theorem bt_append2 (a b : ByteArray) (i : Nat) (h1 : i < b.size) : bt (a ++ b) ((a.size : Int) + i) = bt b i := by
  unfold bt
  rw [dif_pos (show ((a.size : Int) + i).toNat < (a ++ b).size by rw [ByteArray.size_append]; omega), dif_pos (show ((i : Nat) : Int).toNat < b.size by omega)]
  rw [ByteArray.getElem_append_right (by omega)]
  congr 3
  omega
theorem dval_append (a b : ByteArray) (j : Nat) : ∀ (i n : Int), 0 ≤ i → i + j ≤ a.size → dval (a ++ b) j i n = dval a j i n := by
  induction j with
  | zero => intro i n _ _; rfl
  | succ j ih =>
    intro i n h0 hj
    rw [dval, dval, bt_append a b i h0 (by omega), ih (i + 1) _ (by omega) (by omega), ByteArray.size_append]
    by_cases c : 48 ≤ bt a i ∧ bt a i ≤ 57
    · rw [if_pos ⟨by omega, c⟩, if_pos ⟨by omega, c⟩]
    · rw [if_neg (fun h => c h.2), if_neg (fun h => c h.2)]
theorem bt_ext {a b : ByteArray} (hs : a.size = b.size) (h : ∀ i : Nat, i < a.size → bt a i = bt b i) : a = b := by
  apply ByteArray.ext
  apply Array.ext
  · exact hs
  · intro i h1 h2
    have q := h i h1
    unfold bt at q
    rw [dif_pos (show ((i : Nat) : Int).toNat < a.size by simpa using h1), dif_pos (show ((i : Nat) : Int).toNat < b.size by simpa using h2)] at q
    have q2 := Int.ofNat_inj.mp q
    have q3 := UInt8.toNat_inj.mp q2
    exact q3
theorem dayL_eq (y m d : Int) : dayT y m d = strOfNums [48 + y / 1000, 48 + y / 100 % 10, 48 + y / 10 % 10, 48 + y % 10, 48 + m / 10, 48 + m % 10, 48 + d / 10, 48 + d % 10] := by
  rw [dayT, p4, p2, p2]
  simp only [son_append]
  rfl
theorem day_of_digits (a : ByteArray) (hs : a.size = 8) (y m d : Int) (h1 : dval a 4 0 0 = some y) (h2 : dval a 2 4 0 = some m) (h3 : dval a 2 6 0 = some d) : a = dayT y m d := by
  obtain ⟨y0, y1, a0, a1, a2, a3⟩ := dval_four a 0 y h1
  obtain ⟨m0, m1, a4, a5⟩ := dval_none2 a 4 m h2
  obtain ⟨d0, d1, a6, a7⟩ := dval_none2 a 6 d h3
  rw [dayL_eq]
  have hr : ∀ x ∈ [48 + y / 1000, 48 + y / 100 % 10, 48 + y / 10 % 10, 48 + y % 10, 48 + m / 10, 48 + m % 10, 48 + d / 10, 48 + d % 10], 0 ≤ x ∧ x ≤ 255 := by
    intro x hx
    simp only [List.mem_cons, List.not_mem_nil, or_false] at hx
    rcases hx with rfl | rfl | rfl | rfl | rfl | rfl | rfl | rfl <;> omega
  refine bt_ext (by rw [son_size]; exact hs) (fun i hi => ?_)
  rw [hs] at hi
  rw [bt_son _ hr i (by simpa using hi)]
  have hc : i = 0 ∨ i = 1 ∨ i = 2 ∨ i = 3 ∨ i = 4 ∨ i = 5 ∨ i = 6 ∨ i = 7 := by omega
  rcases hc with rfl | rfl | rfl | rfl | rfl | rfl | rfl | rfl
  · exact a0
  · exact a1
  · exact a2
  · exact a3
  · exact a4
  · exact a5
  · exact a6
  · exact a7
theorem midnight (y m d : Int) : dayT y m d ++ (⟨#[84, 48, 48, 48, 48, 48, 48, 90]⟩ : ByteArray) = basicT y m d 0 0 0 := by
  rw [basicT_eq, dayL_eq, show (⟨#[84, 48, 48, 48, 48, 48, 48, 90]⟩ : ByteArray) = strOfNums [84, 48, 48, 48, 48, 48, 48, 90] from rfl, son_append]
  rfl
theorem parseDay_same (a : ByteArray) (ha0 : a.size ≤ 140737488351232) : ∃ r, Ev (fun k => when_ParseDay.f k a) r ∧ Ev (fun k => stowageref4_ParseDay.f k a) r := by
  have ha := all_ev a dayAt dayAt_ok (by decide)
  by_cases hs : a.size = 8
  · have ref : ∀ r, Ev (fun k => stowageref4_ParseBasic.f k (a ++ (⟨#[84, 48, 48, 48, 48, 48, 48, 90]⟩ : ByteArray))) r → Ev (fun k => stowageref4_ParseDay.f k a) r := by
      intro r h
      simp only [stowageref4_ParseDay.f]
      refine ev_pos (by omega) (ev_pos (by omega) (Ev.bind h ?_))
      exact ev_eq (Ev.now _) rfl
    by_cases q : ∃ y m d, dval a 4 0 0 = some y ∧ dval a 2 4 0 = some m ∧ dval a 2 6 0 = some d ∧ Real y m d 0 0 0
    · obtain ⟨y, m, d, h1, h2, h3, r⟩ := q
      have e := day_of_digits a hs y m d h1 h2 h3
      refine ⟨(second y m d 0 0 0, true), ?_, ref _ ?_⟩
      · rw [show allOf a dayAt = some [y, m, d] by simp only [allOf, dayAt, h1, h2, h3]; rfl] at ha
        simp only [when_ParseDay.f]
        refine Ev.bind (a := ([y, m, d], true)) ha ?_
        refine ev_pos rfl (ev_pos (by omega) (ev_pos (by simp) (ev_pos (by simp) (ev_pos (by simp) ?_))))
        have h0 := of_ev y m d 0 0 0
        rw [if_pos r] at h0
        exact Ev.bind h0 (Ev.now _)
      · rw [e, midnight]; exact rpbasic_yes r
    · refine ⟨(0, false), ?_, ref _ ?_⟩
      · simp only [when_ParseDay.f]
        cases hx : allOf a dayAt with
        | none =>
          rw [hx] at ha
          refine Ev.bind ha ?_
          exact ev_neg (by simp) (Ev.now _)
        | some l =>
          rw [hx] at ha
          have hlen := allOf_length a dayAt l hx
          have hl : ∃ y m d, l = [y, m, d] := by
            match l, hlen with
            | [y, m, d], _ => exact ⟨y, m, d, rfl⟩
          obtain ⟨y, m, d, rfl⟩ := hl
          have hd : dval a 4 0 0 = some y ∧ dval a 2 4 0 = some m ∧ dval a 2 6 0 = some d := by
            simp only [allOf, dayAt] at hx
            cases g1 : dval a 4 0 0 with
            | none => rw [g1] at hx; simp at hx
            | some u1 =>
              rw [g1] at hx
              cases g2 : dval a 2 4 0 with
              | none => rw [g2] at hx; simp at hx
              | some u2 =>
                rw [g2] at hx
                cases g3 : dval a 2 6 0 with
                | none => rw [g3] at hx; simp at hx
                | some u3 => rw [g3] at hx; simp at hx; obtain ⟨rfl, rfl, rfl⟩ := hx; exact ⟨rfl, rfl, rfl⟩
          refine Ev.bind (a := ([y, m, d], true)) ha ?_
          refine ev_pos rfl (ev_pos (by omega) (ev_pos (by simp) (ev_pos (by simp) (ev_pos (by simp) ?_))))
          have h0 := of_ev y m d 0 0 0
          rw [if_neg (fun r => q ⟨y, m, d, hd.1, hd.2.1, hd.2.2, r⟩)] at h0
          exact Ev.bind h0 (Ev.now _)
      · refine rpbasic_no _ (fun y m d h mi s r e => q ⟨y, m, d, ?_⟩)
        obtain ⟨e1, e2, e3, e4, e5, e6⟩ := basic_fields (date_of r)
        rw [e] at e1 e2 e3 e4 e5 e6
        have z : ∀ i : Nat, i < 8 → bt (a ++ (⟨#[84, 48, 48, 48, 48, 48, 48, 90]⟩ : ByteArray)) (8 + (i : Int)) = [84, 48, 48, 48, 48, 48, 48, 90].getD i 0 := by
          intro i hi
          have := bt_append2 a (⟨#[84, 48, 48, 48, 48, 48, 48, 90]⟩ : ByteArray) i hi
          rw [hs] at this
          refine this.trans ?_
          have hc : i = 0 ∨ i = 1 ∨ i = 2 ∨ i = 3 ∨ i = 4 ∨ i = 5 ∨ i = 6 ∨ i = 7 := by omega
          rcases hc with rfl | rfl | rfl | rfl | rfl | rfl | rfl | rfl <;> rfl
        have z1 := z 1 (by decide); have z2 := z 2 (by decide); have z3 := z 3 (by decide); have z4 := z 4 (by decide); have z5 := z 5 (by decide); have z6 := z 6 (by decide)
        have f4 := dval_none2 _ 9 h e4
        have f5 := dval_none2 _ 11 mi e5
        have f6 := dval_none2 _ 13 s e6
        simp at z1 z2 z3 z4 z5 z6
        rw [show (9 : Int) + 1 = 10 from rfl] at f4
        rw [show (11 : Int) + 1 = 12 from rfl] at f5
        rw [show (13 : Int) + 1 = 14 from rfl] at f6
        have h0 : h = 0 := by have := f4.2.2.1; have := f4.2.2.2; omega
        have mi0 : mi = 0 := by have := f5.2.2.1; have := f5.2.2.2; omega
        have s0 : s = 0 := by have := f6.2.2.1; have := f6.2.2.2; omega
        subst h0 mi0 s0
        rw [dval_append a _ 4 0 0 (by omega) (by omega)] at e1
        rw [dval_append a _ 2 4 0 (by omega) (by omega)] at e2
        rw [dval_append a _ 2 6 0 (by omega) (by omega)] at e3
        exact ⟨e1, e2, e3, r⟩
  · refine ⟨(0, false), ?_, ?_⟩
    · simp only [when_ParseDay.f]
      refine Ev.bind ha ?_
      cases allOf a dayAt with
      | none => exact ev_neg (by simp) (Ev.now _)
      | some l => exact ev_pos rfl (ev_neg (by omega) (Ev.now _))
    · simp only [stowageref4_ParseDay.f]
      exact ev_neg (by omega) (Ev.now _)
end Go.Proofs.Yteggifhicmbopaa.Pure
