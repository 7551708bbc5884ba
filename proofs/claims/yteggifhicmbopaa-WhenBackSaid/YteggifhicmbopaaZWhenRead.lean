/- A part of the proof of the seat's laws. No condition beyond those in the theorems. -/
import Derived.Test.YteggifhicmbopaaZWhenDig

namespace Go.Proofs.Yteggifhicmbopaa.Pure
open Go.RowKit Go.Proofs.Yteggifhicmbopaa.Q Go.Proofs.YteggifhicmbopaaW.PrintWords Go.Proofs.YteggifhicmbopaaW.PrintLast Cal
set_option linter.unusedVariables false
set_option linter.unusedSimpArgs false
theorem real_of {y m d h mi s : Int} (D : Date6 y m d h mi s) : Real y m d h mi s := by
  obtain ⟨n, v⟩ := D.v
  exact ⟨v.y0, v.y1, v.m0, v.m1, v.d0, v.d1, D.h0, D.h1, D.mi0, D.mi1, D.s0, D.s1⟩
theorem date_of {y m d h mi s : Int} (r : Real y m d h mi s) : Date6 y m d h mi s :=
  ⟨⟨_, r.valid⟩, r.2.2.2.2.2.2.1, r.2.2.2.2.2.2.2.1, r.2.2.2.2.2.2.2.2.1, r.2.2.2.2.2.2.2.2.2.1, r.2.2.2.2.2.2.2.2.2.2.1, r.2.2.2.2.2.2.2.2.2.2.2⟩
theorem second_bd {y m d h mi s : Int} (r : Real y m d h mi s) : 0 ≤ second y m d h mi s ∧ second y m d h mi s ≤ 253402300799 := by
  have b := r.bd
  obtain ⟨_, _, _, _, _, _, _, _, _, _, _, _⟩ := r
  unfold second; omega
theorem second_civil {y m d h mi s : Int} (r : Real y m d h mi s) :
    Ev (fun k => when_Civil.f k (second y m d h mi s)) (y, m, d, h, mi, s, true) ∧ Ev (fun k => stowageref4_Civil.f k (second y m d h mi s)) (y, m, d, h, mi, s, true) := by
  have b := second_bd r
  obtain ⟨y', m', d', h', mi', s', D, hv, e1, e2, e3, ha, hb⟩ := civil6 _ b.1 b.2
  have hr := r.valid
  have c := r
  obtain ⟨_, _, _, _, _, _, _, _, _, _, _, _⟩ := c
  have hd : second y m d h mi s / 86400 = dby y + cum y m + d - 1 := by unfold second; omega
  rw [hd] at hv
  obtain ⟨rfl, rfl, rfl⟩ := hr.unique hv
  have x1 : h' = h := by rw [e1]; unfold second; omega
  have x2 : mi' = mi := by rw [e2]; unfold second; omega
  have x3 : s' = s := by rw [e3]; unfold second; omega
  subst x1 x2 x3
  exact ⟨ha, hb⟩
theorem civil_second (t : Int) (h0 : 0 ≤ t) (h1 : t ≤ 253402300799) : ∃ y m d h mi s, Real y m d h mi s ∧ t = second y m d h mi s := by
  obtain ⟨y, m, d, h, mi, s, D, hv, e1, e2, e3, _, _⟩ := civil6 t h0 h1
  refine ⟨y, m, d, h, mi, s, real_of D, ?_⟩
  have := hv.num
  unfold second; omega
def allOf (s : ByteArray) : List (Int × Nat) → Option (List Int)
  | [] => some []
  | (a, b) :: l => match dval s b a 0 with | none => none | some v => (allOf s l).map (v :: ·)
def S45of (p : Int × Nat) : S45 := ⟨p.1, (p.2 : Int)⟩
theorem all_l0 (s : ByteArray) (ps : List (Int × Nat)) (hps : ∀ p ∈ ps, 0 ≤ p.1 ∧ p.1 ≤ 50 ∧ p.2 ≤ 4) (hl : ps.length ≤ 10) (rest : List (Int × Nat)) : ∀ (done : List (Int × Nat)) (acc : List Int), ps = done ++ rest → acc.length = done.length →
    Ev (fun k => when_all.l0 k s acc (ps.map S45of) (ps.length : Int) (done.length : Int)) (match allOf s rest with | some l => (acc ++ l, true) | none => ([], false)) := by
  induction rest with
  | nil =>
    intro done acc e hacc
    have hd : done.length = ps.length := by rw [e]; simp
    refine Ev.step (f := fun _ => some (acc ++ [], true)) (fun k => ?_) (Ev.now _)
    rw [when_all.l0, if_neg (by omega), List.append_nil]
  | cons p rest ih =>
    intro done acc e hacc
    have hlen : ps.length = done.length + (rest.length + 1) := by rw [e]; simp
    have hp := hps p (by rw [e]; simp)
    obtain ⟨a, b⟩ := p
    have hrd : rd_T45 (ps.map S45of) (done.length : Int) = ⟨a, (b : Int)⟩ := by
      unfold rd_T45
      rw [e]
      simp [S45of]
    refine Ev.step (f := fun k => _) (fun k => by rw [when_all.l0, if_pos (by omega), if_pos (by omega), if_pos (by rw [List.length_map]; omega), hrd]) ?_
    refine Ev.bind (get_ev s a b hp.1 hp.2.1 hp.2.2) ?_
    rw [allOf]
    cases hv : dval s b a 0 with
    | none => exact ev_neg (by simp [pairOf]) (Ev.now _)
    | some v =>
      refine ev_pos rfl ?_
      refine ev_pos (by omega) ?_
      rw [w64 (n := (done.length : Int) + 1) (by omega) (by omega)]
      have h := ih (done ++ [(a, b)]) (acc ++ [v]) (by rw [e]; simp) (by simp [hacc])
      rw [show ((done ++ [(a, b)]).length : Int) = (done.length : Int) + 1 by simp] at h
      refine ev_eq h ?_
      cases allOf s rest with
      | none => rfl
      | some l => simp
theorem all_ev (s : ByteArray) (ps : List (Int × Nat)) (hps : ∀ p ∈ ps, 0 ≤ p.1 ∧ p.1 ≤ 50 ∧ p.2 ≤ 4) (hl : ps.length ≤ 10) :
    Ev (fun k => when_all.f k s (ps.map S45of)) (match allOf s ps with | some l => (l, true) | none => ([], false)) := by
  have h := all_l0 s ps hps hl ps [] [] rfl rfl
  refine Ev.congr (fun k => ?_) (ev_eq h ?_)
  · rw [when_all.f, List.length_map]; rfl
  · cases allOf s ps <;> rfl
theorem allOf_length (s : ByteArray) (ps : List (Int × Nat)) : ∀ l, allOf s ps = some l → l.length = ps.length := by
  induction ps with
  | nil => intro l h; simp only [allOf, Option.some.injEq] at h; subst h; rfl
  | cons p ps ih =>
    intro l h
    obtain ⟨a, b⟩ := p
    rw [allOf] at h
    cases hv : dval s b a 0 with
    | none => rw [hv] at h; simp at h
    | some v =>
      rw [hv] at h
      cases hr : allOf s ps with
      | none => rw [hr] at h; simp at h
      | some q => rw [hr] at h; simp only [Option.map_some, Option.some.injEq] at h; subst h; simp [ih q hr]
def basicL (y m d h mi s : Int) : List Int := [48 + y / 1000, 48 + y / 100 % 10, 48 + y / 10 % 10, 48 + y % 10, 48 + m / 10, 48 + m % 10, 48 + d / 10, 48 + d % 10, 84, 48 + h / 10, 48 + h % 10, 48 + mi / 10, 48 + mi % 10, 48 + s / 10, 48 + s % 10, 90]
theorem basicT_eq (y m d h mi s : Int) : basicT y m d h mi s = strOfNums (basicL y m d h mi s) := by
  rw [basicT, dayT, p4, p2, p2, p2, p2, p2, show (⟨#[84]⟩ : ByteArray) = strOfNums [84] from rfl, show (⟨#[90]⟩ : ByteArray) = strOfNums [90] from rfl]
  simp only [son_append]
  rfl
theorem basicL_range {y m d h mi s : Int} (D : Date6 y m d h mi s) : ∀ x ∈ basicL y m d h mi s, 0 ≤ x ∧ x ≤ 255 := by
  have b := D.bd
  have := D.h0; have := D.h1; have := D.mi0; have := D.mi1; have := D.s0; have := D.s1
  intro x hx
  simp only [basicL, List.mem_cons, List.not_mem_nil, or_false] at hx
  rcases hx with rfl | rfl | rfl | rfl | rfl | rfl | rfl | rfl | rfl | rfl | rfl | rfl | rfl | rfl | rfl | rfl <;> omega
theorem basic_bt {y m d h mi s : Int} (D : Date6 y m d h mi s) (i : Nat) (hi : i < 16) : bt (basicT y m d h mi s) i = (basicL y m d h mi s)[i]'hi := by
  rw [basicT_eq]; exact bt_son _ (basicL_range D) i hi
theorem toList_inj {a b : ByteArray} (h : a.toList = b.toList) : a = b := by
  rw [ByteArray.toList_eq, ByteArray.toList_eq] at h
  exact ByteArray.ext (Array.toList_inj.mp h)
theorem basic_fields {y m d h mi s : Int} (D : Date6 y m d h mi s) :
    dval (basicT y m d h mi s) 4 0 0 = some y ∧ dval (basicT y m d h mi s) 2 4 0 = some m ∧ dval (basicT y m d h mi s) 2 6 0 = some d ∧ dval (basicT y m d h mi s) 2 9 0 = some h ∧ dval (basicT y m d h mi s) 2 11 0 = some mi ∧ dval (basicT y m d h mi s) 2 13 0 = some s := by
  have b := D.bd
  have := D.h0; have := D.h1; have := D.mi0; have := D.mi1; have := D.s0; have := D.s1
  have z := basicT_size y m d h mi s
  refine ⟨dval_is4 _ _ _ (by omega) (by omega) (by omega) (basic_bt D 0 (by decide)) (basic_bt D 1 (by decide)) (basic_bt D 2 (by decide)) (basic_bt D 3 (by decide)), ?_, ?_, ?_, ?_, ?_⟩
  · exact dval_is2 _ _ _ (by omega) (by omega) (by omega) (basic_bt D 4 (by decide)) (basic_bt D 5 (by decide))
  · exact dval_is2 _ _ _ (by omega) (by omega) (by omega) (basic_bt D 6 (by decide)) (basic_bt D 7 (by decide))
  · exact dval_is2 _ _ _ (by omega) (by omega) (by omega) (basic_bt D 9 (by decide)) (basic_bt D 10 (by decide))
  · exact dval_is2 _ _ _ (by omega) (by omega) (by omega) (basic_bt D 11 (by decide)) (basic_bt D 12 (by decide))
  · exact dval_is2 _ _ _ (by omega) (by omega) (by omega) (basic_bt D 13 (by decide)) (basic_bt D 14 (by decide))
def basicAt : List (Int × Nat) := [(0, 4), (4, 2), (6, 2), (9, 2), (11, 2), (13, 2)]
theorem basicAt_ok : ∀ p ∈ basicAt, 0 ≤ p.1 ∧ p.1 ≤ 50 ∧ p.2 ≤ 4 := by decide
theorem pbasic_tail (a : ByteArray) (y m d h mi s : Int) :
    (∀ (_ : Real y m d h mi s), (basicT y m d h mi s) = a → Ev (fun k => (when_Of.f k y m d h mi s).bind fun bt185 => (if bt185.2 = true then ((when_Basic.f k bt185.1).bind fun t187 => (if t187.toList = a.toList then (some (bt185.1, true)) else (some (0, false)))) else (some (0, false)))) (second y m d h mi s, true)) ∧
    ((∀ (_ : Real y m d h mi s), (basicT y m d h mi s) ≠ a) → Ev (fun k => (when_Of.f k y m d h mi s).bind fun bt185 => (if bt185.2 = true then ((when_Basic.f k bt185.1).bind fun t187 => (if t187.toList = a.toList then (some (bt185.1, true)) else (some (0, false)))) else (some (0, false)))) (0, false)) := by
  have h0 := of_ev y m d h mi s
  constructor
  · intro r e
    rw [if_pos r] at h0
    refine Ev.bind h0 ?_
    refine ev_pos rfl ?_
    refine Ev.bind (basic_ev _ y m d h mi s (date_of r) (second_civil r).1) ?_
    exact ev_pos (by rw [e]) (Ev.now _)
  · intro hn
    by_cases r : Real y m d h mi s
    · rw [if_pos r] at h0
      refine Ev.bind h0 ?_
      refine ev_pos rfl ?_
      refine Ev.bind (basic_ev _ y m d h mi s (date_of r) (second_civil r).1) ?_
      exact ev_neg (fun e => hn r (toList_inj e)) (Ev.now _)
    · rw [if_neg r] at h0
      refine Ev.bind h0 ?_
      exact ev_neg (by simp) (Ev.now _)
theorem pbasic_yes {y m d h mi s : Int} (r : Real y m d h mi s) : Ev (fun k => when_ParseBasic.f k (basicT y m d h mi s)) (second y m d h mi s, true) := by
  obtain ⟨e1, e2, e3, e4, e5, e6⟩ := basic_fields (date_of r)
  have ha := all_ev (basicT y m d h mi s) basicAt basicAt_ok (by decide)
  rw [show allOf (basicT y m d h mi s) basicAt = some [y, m, d, h, mi, s] by simp only [allOf, basicAt, e1, e2, e3, e4, e5, e6]; rfl] at ha
  simp only [when_ParseBasic.f]
  refine Ev.bind (a := ([y, m, d, h, mi, s], true)) ha ?_
  refine ev_pos rfl ?_
  refine ev_pos (by simp) (ev_pos (by simp) (ev_pos (by simp) (ev_pos (by simp) (ev_pos (by simp) (ev_pos (by simp) ?_)))))
  exact (pbasic_tail _ y m d h mi s).1 r rfl
theorem pbasic_no (a : ByteArray) (hn : ∀ y m d h mi s, Real y m d h mi s → basicT y m d h mi s ≠ a) : Ev (fun k => when_ParseBasic.f k a) (0, false) := by
  have ha := all_ev a basicAt basicAt_ok (by decide)
  simp only [when_ParseBasic.f]
  cases hx : allOf a basicAt with
  | none =>
    rw [hx] at ha
    refine Ev.bind ha ?_
    exact ev_neg (by simp) (Ev.now _)
  | some l =>
    rw [hx] at ha
    have hlen := allOf_length a basicAt l hx
    have hl : ∃ y m d h mi s, l = [y, m, d, h, mi, s] := by
      match l, hlen with
      | [y, m, d, h, mi, s], _ => exact ⟨y, m, d, h, mi, s, rfl⟩
    obtain ⟨y, m, d, h, mi, s, rfl⟩ := hl
    refine Ev.bind (a := ([y, m, d, h, mi, s], true)) ha ?_
    refine ev_pos rfl ?_
    refine ev_pos (by simp) (ev_pos (by simp) (ev_pos (by simp) (ev_pos (by simp) (ev_pos (by simp) (ev_pos (by simp) ?_)))))
    exact (pbasic_tail a y m d h mi s).2 (fun r => hn y m d h mi s r)
theorem rbasic_tail (a : ByteArray) (y m d h mi s : Int) :
    (∀ (_ : Real y m d h mi s), (basicT y m d h mi s) = a → Ev (fun k => (stowageref4_Of.f k y m d h mi s).bind fun bt312 => (if bt312.2 = true then ((stowageref4_Basic.f k bt312.1).bind fun t314 => (if t314.toList = a.toList then (some (bt312.1, true)) else (some (0, false)))) else (some (0, false)))) (second y m d h mi s, true)) ∧
    ((∀ (_ : Real y m d h mi s), (basicT y m d h mi s) ≠ a) → Ev (fun k => (stowageref4_Of.f k y m d h mi s).bind fun bt312 => (if bt312.2 = true then ((stowageref4_Basic.f k bt312.1).bind fun t314 => (if t314.toList = a.toList then (some (bt312.1, true)) else (some (0, false)))) else (some (0, false)))) (0, false)) := by
  have h0 := rof_ev y m d h mi s
  constructor
  · intro r e
    rw [if_pos r] at h0
    refine Ev.bind h0 ?_
    refine ev_pos rfl ?_
    refine Ev.bind (rbasic_ev _ y m d h mi s (date_of r) (second_civil r).2) ?_
    exact ev_pos (by rw [e]) (Ev.now _)
  · intro hn
    by_cases r : Real y m d h mi s
    · rw [if_pos r] at h0
      refine Ev.bind h0 ?_
      refine ev_pos rfl ?_
      refine Ev.bind (rbasic_ev _ y m d h mi s (date_of r) (second_civil r).2) ?_
      exact ev_neg (fun e => hn r (toList_inj e)) (Ev.now _)
    · rw [if_neg r] at h0
      refine Ev.bind h0 ?_
      exact ev_neg (by simp) (Ev.now _)
theorem rpbasic_run (a : ByteArray) (hs : a.size = 16) (r : Int × Bool) (h : Ev (fun k => (stowageref4_Of.f k (orMinus (dval a 4 0 0)) (orMinus (dval a 2 4 0)) (orMinus (dval a 2 6 0)) (orMinus (dval a 2 9 0)) (orMinus (dval a 2 11 0)) (orMinus (dval a 2 13 0))).bind fun bt312 => (if bt312.2 = true then ((stowageref4_Basic.f k bt312.1).bind fun t314 => (if t314.toList = a.toList then (some (bt312.1, true)) else (some (0, false)))) else (some (0, false)))) r) : Ev (fun k => stowageref4_ParseBasic.f k a) r := by
  simp only [stowageref4_ParseBasic.f]
  refine ev_pos (by omega) (ev_pos (by omega) (ev_pos (by omega) ?_))
  refine Ev.bind (number_ev a 0 4 (by omega) (by omega) (by omega)) (ev_pos (by omega) (ev_pos (by omega) ?_))
  refine Ev.bind (number_ev a 4 6 (by omega) (by omega) (by omega)) (ev_pos (by omega) (ev_pos (by omega) ?_))
  refine Ev.bind (number_ev a 6 8 (by omega) (by omega) (by omega)) (ev_pos (by omega) (ev_pos (by omega) ?_))
  refine Ev.bind (number_ev a 9 11 (by omega) (by omega) (by omega)) (ev_pos (by omega) (ev_pos (by omega) ?_))
  refine Ev.bind (number_ev a 11 13 (by omega) (by omega) (by omega)) (ev_pos (by omega) (ev_pos (by omega) ?_))
  refine Ev.bind (number_ev a 13 15 (by omega) (by omega) (by omega)) ?_
  exact h
theorem rpbasic_yes {y m d h mi s : Int} (r : Real y m d h mi s) : Ev (fun k => stowageref4_ParseBasic.f k (basicT y m d h mi s)) (second y m d h mi s, true) := by
  obtain ⟨e1, e2, e3, e4, e5, e6⟩ := basic_fields (date_of r)
  refine rpbasic_run _ (basicT_size ..) _ ?_
  rw [e1, e2, e3, e4, e5, e6]
  exact (rbasic_tail _ y m d h mi s).1 r rfl
theorem rpbasic_no (a : ByteArray) (hn : ∀ y m d h mi s, Real y m d h mi s → basicT y m d h mi s ≠ a) : Ev (fun k => stowageref4_ParseBasic.f k a) (0, false) := by
  by_cases hs : a.size = 16
  · exact rpbasic_run a hs _ ((rbasic_tail a _ _ _ _ _ _).2 (fun r => hn _ _ _ _ _ _ r))
  · simp only [stowageref4_ParseBasic.f]
    exact ev_neg (by omega) (Ev.now _)
theorem parseBasic_same (a : ByteArray) : ∃ r, Ev (fun k => when_ParseBasic.f k a) r ∧ Ev (fun k => stowageref4_ParseBasic.f k a) r := by
  by_cases h : ∃ y m d h mi s, Real y m d h mi s ∧ basicT y m d h mi s = a
  · obtain ⟨y, m, d, h, mi, s, r, rfl⟩ := h
    exact ⟨_, pbasic_yes r, rpbasic_yes r⟩
  · have hn : ∀ y m d h mi s, Real y m d h mi s → basicT y m d h mi s ≠ a := fun y m d hh mi s r e => h ⟨y, m, d, hh, mi, s, r, e⟩
    exact ⟨_, pbasic_no a hn, rpbasic_no a hn⟩
end Go.Proofs.Yteggifhicmbopaa.Pure
