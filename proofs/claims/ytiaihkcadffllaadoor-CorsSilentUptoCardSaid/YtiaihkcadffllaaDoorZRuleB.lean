/- A part of the proof of the seat's laws. No condition beyond those in the theorems. -/
import Derived.Test.YtiaihkcadffllaaDoorZMatchB
import Derived.Test.YtiaihkcadffllaaDoorZLowB
import Derived.Test.YtiaihkcadffllaaDoorZQ29
import Derived.Test.YtiaihkcadffllaaDoorZQ67g2

namespace Go.Proofs.YtiaihkcadffllaaDoor.Pure
open Go.RowKit Go.Proofs.YtiaihkcadffllaaDoor.Q Go.Proofs.YtiaihkcadffllaaDoorW.PrintWords Go.Proofs.YtiaihkcadffllaaDoorW.PrintLast Go.Proofs.YtiaihkcadffllaaDoorW.PrintMore
set_option linter.unusedVariables false
set_option linter.unusedSimpArgs false
def Held (l : List ByteArray) : Prop := l.length ≤ 8796093022000 ∧ ∀ s ∈ l, s.size ≤ 140737488351232
theorem rd_pre {α : Type} (d : α) (pre : List α) (p : α) (l : List α) : rdOf d (pre ++ p :: l) (pre.length : Int) = p := by
  rw [rdOf, Int.toNat_natCast, List.getD_eq_getElem?_getD, List.getElem?_append_right (Nat.le_refl _), Nat.sub_self]
  rfl
theorem nx_pre {α : Type} (pre : List α) (p : α) (l : List α) (h : (pre ++ p :: l).length ≤ 9000000000000000000) : wrap64 ((pre.length : Int) + 1) = ((pre ++ [p]).length : Int) := by
  rw [List.length_append, List.length_cons] at h
  rw [w64 (by omega) (by omega), List.length_append]
  simp
def firstB (s : ByteArray) : List ByteArray → ByteArray × Bool
  | [] => (⟨#[]⟩, false)
  | p :: l => if matchB p s = true then (p, true) else firstB s l
theorem first_ix (s : ByteArray) (hs : s.size ≤ 140737488351232) (l : List ByteArray) : ∀ pre : List ByteArray, (∀ p ∈ l, p.size ≤ 140737488351232) →
    ∃ i : Int, cors_first.ix s l pre.length = some i ∧ (if i < 0 then ((⟨#[]⟩ : ByteArray), false) else (rdOf ByteArray.empty (pre ++ l) i, true)) = firstB s l := by
  induction l with
  | nil => intro pre _; exact ⟨-1, rfl, rfl⟩
  | cons p l ih =>
    intro pre hl
    have hm := match_eq p s (hl p List.mem_cons_self) hs
    rw [cors_first.ix, hm, Option.bind_some, firstB]
    by_cases c : matchB p s = true
    · rw [if_pos c, if_pos c]
      exact ⟨_, rfl, by rw [if_neg (by omega), rd_pre]⟩
    · rw [if_neg c, if_neg c]
      have q := ih (pre ++ [p]) (fun x hx => hl x (List.mem_cons_of_mem _ hx))
      rw [List.length_append, List.length_singleton, List.append_assoc] at q
      exact q
theorem first_eq (l : List ByteArray) (s : ByteArray) (hl : ∀ p ∈ l, p.size ≤ 140737488351232) (hs : s.size ≤ 140737488351232) : cors_first.f l s = some (firstB s l) := by
  obtain ⟨i, h1, h2⟩ := first_ix s hs l [] hl
  rw [cors_first.f, show cors_first.ix s l 0 = some i from h1, Option.bind_some, ← h2]
  by_cases c : i < 0
  · rw [if_pos c, if_pos c]
  · rw [if_neg c, if_neg c]; rfl
theorem rfirst_l0 (s : ByteArray) (hs : s.size ≤ 140737488351232) (all : List ByteArray) (hn : all.length ≤ 8796093022208) (l : List ByteArray) : ∀ pre : List ByteArray, all = pre ++ l → (∀ p ∈ l, p.size ≤ 140737488351232) →
    Ev (fun k => stowageref25_first.l0 k all s (pre.length : Int)) (firstB s l) := by
  induction l with
  | nil =>
    intro pre e _
    have : all.length = pre.length := by rw [e, List.append_nil]
    exact Ev.step (f := fun _ => some ((⟨#[]⟩ : ByteArray), false)) (fun k => by rw [stowageref25_first.l0, if_neg (by omega)]) (Ev.now _)
  | cons p l ih =>
    intro pre e hl
    have hlen : all.length = pre.length + (l.length + 1) := by rw [e, List.length_append, List.length_cons]
    have q := ih (pre ++ [p]) (by rw [e]; simp) (fun x hx => hl x (List.mem_cons_of_mem _ hx))
    rw [← nx_pre pre p l (by rw [← e]; omega)] at q
    have hrd : rdOf ByteArray.empty all (pre.length : Int) = p := by rw [e, rd_pre]
    refine Ev.step (f := fun k => (stowageref25_Match.f k p s).bind fun t => if t = true then some (p, true) else stowageref25_first.l0 k all s (wrap64 ((pre.length : Int) + 1))) (fun k => by rw [stowageref25_first.l0, if_pos (by omega), if_pos (by omega), hrd]) ?_
    refine Ev.bind (rmatch_ev p s (hl p List.mem_cons_self) hs) ?_
    rw [firstB]
    by_cases c : matchB p s = true
    · rw [if_pos c]; exact ev_pos c (Ev.now _)
    · rw [if_neg c]; exact ev_neg c q
theorem rfirst_ev (l : List ByteArray) (s : ByteArray) (hn : l.length ≤ 8796093022208) (hl : ∀ p ∈ l, p.size ≤ 140737488351232) (hs : s.size ≤ 140737488351232) : Ev (fun k => stowageref25_first.f k l s) (firstB s l) := rfirst_l0 s hs l hn l [] rfl hl
def hasB (s : ByteArray) (l : List ByteArray) : Bool := l.any fun x => x.toList == s.toList
theorem index_l0 (s : ByteArray) (all : List ByteArray) (hn : all.length ≤ 8796093022208) (l : List ByteArray) : ∀ pre : List ByteArray, all = pre ++ l →
    ∃ i : Int, Ev (fun k => slices_Index_string_string.l0 k all s (all.length : Int) (pre.length : Int)) i ∧ decide (i ≥ 0) = hasB s l := by
  induction l with
  | nil =>
    intro pre e
    have : all.length = pre.length := by rw [e, List.append_nil]
    exact ⟨-1, Ev.step (f := fun _ => some (-1)) (fun k => by rw [slices_Index_string_string.l0, if_neg (by omega)]) (Ev.now _), rfl⟩
  | cons p l ih =>
    intro pre e
    have hlen : all.length = pre.length + (l.length + 1) := by rw [e, List.length_append, List.length_cons]
    have hrd : rdOf ByteArray.empty all (pre.length : Int) = p := by rw [e, rd_pre]
    by_cases c : s.toList = p.toList
    · refine ⟨(pre.length : Int), Ev.step (f := fun _ => some (pre.length : Int)) (fun k => by rw [slices_Index_string_string.l0, if_pos (by omega), if_pos (by omega), if_pos (by omega), hrd, if_pos c]) (Ev.now _), ?_⟩
      rw [decide_eq_true (by omega), hasB, List.any_cons, c]
      simp
    · obtain ⟨i, q, hi⟩ := ih (pre ++ [p]) (by rw [e]; simp)
      rw [← nx_pre pre p l (by rw [← e]; omega)] at q
      refine ⟨i, Ev.step (f := fun k => _) (fun k => by rw [slices_Index_string_string.l0, if_pos (by omega), if_pos (by omega), if_pos (by omega), hrd, if_neg c]) q, ?_⟩
      have hne : (p.toList == s.toList) = false := by rw [beq_eq_false_iff_ne]; exact fun h => c h.symm
      simp only [hi, hasB, List.any_cons, hne, Bool.false_or]
theorem contains_ev (l : List ByteArray) (s : ByteArray) (hn : l.length ≤ 8796093022208) : Ev (fun k => slices_Contains_string_string.f k l s) (hasB s l) := by
  obtain ⟨i, q, hi⟩ := index_l0 s l hn l [] rfl
  simp only [slices_Contains_string_string.f]
  exact Ev.bind (f := fun _ t => some (decide (t ≥ 0))) q (ev_eq (Ev.now _) hi)
def allowB (al hs : List ByteArray) : Bool := hs.all fun h => (firstB (lowB h) al).2
def fitB (r : S40) (o m : ByteArray) (hs : List ByteArray) : Bool := (firstB o r.f0).2 && (hasB m r.f1 && allowB (r.f2.map lowB) hs)
theorem fits_l1 (al : List ByteArray) (hal : ∀ p ∈ al, p.size ≤ 140737488351232) (all : List ByteArray) (hn : all.length ≤ 8796093022208) (l : List ByteArray) : ∀ pre : List ByteArray, all = pre ++ l → (∀ p ∈ l, p.size ≤ 140737488351232) →
    Ev (fun k => cors_fits.l1 k al all (all.length : Int) (pre.length : Int)) (allowB al l) := by
  induction l with
  | nil =>
    intro pre e _
    have : all.length = pre.length := by rw [e, List.append_nil]
    exact Ev.step (f := fun _ => some true) (fun k => by rw [cors_fits.l1, if_neg (by omega)]) (Ev.now _)
  | cons p l ih =>
    intro pre e hl
    have hlen : all.length = pre.length + (l.length + 1) := by rw [e, List.length_append, List.length_cons]
    have hrd : rdOf ByteArray.empty all (pre.length : Int) = p := by rw [e, rd_pre]
    have hp := hl p List.mem_cons_self
    have q := ih (pre ++ [p]) (by rw [e]; simp) (fun x hx => hl x (List.mem_cons_of_mem _ hx))
    rw [← nx_pre pre p l (by rw [← e]; omega)] at q
    refine Ev.step (f := fun k => if (firstB (lowB p) al).2 = true then cors_fits.l1 k al all (all.length : Int) (wrap64 ((pre.length : Int) + 1)) else some false) (fun k => by
      rw [cors_fits.l1, if_pos (by omega), if_pos (by omega), if_pos (by omega), hrd, loww_eq p hp, Option.bind_some, first_eq al (lowB p) hal (by rw [lowB_size]; exact hp), Option.bind_some]) ?_
    rw [allowB, List.all_cons]
    by_cases c : (firstB (lowB p) al).2 = true
    · rw [c]; refine ev_pos rfl ?_; exact q
    · have c' := Bool.eq_false_iff.mpr c
      rw [c', Bool.false_and]
      exact ev_neg (by simp) (Ev.now _)
theorem fits_l0 (x3 : List ByteArray) (hx3 : x3.length ≤ 8796093022208) (h3 : ∀ p ∈ x3, p.size ≤ 140737488351232) (all : List ByteArray) (hn : all.length ≤ 8796093022000) (l : List ByteArray) : ∀ pre : List ByteArray, all = pre ++ l → (∀ p ∈ all, p.size ≤ 140737488351232) →
    Ev (fun k => cors_fits.l0 k x3 (pre.map lowB) all (all.length : Int) (pre.length : Int)) (allowB (all.map lowB) x3) := by
  induction l with
  | nil =>
    intro pre e ha
    have e' : all = pre := by rw [e, List.append_nil]
    subst e'
    refine Ev.step (f := fun k => cors_fits.l1 k (all.map lowB) x3 (x3.length : Int) 0) (fun k => by rw [cors_fits.l0, if_neg (by omega)]) ?_
    exact fits_l1 (all.map lowB) (fun p hp => by obtain ⟨s, hs, rfl⟩ := List.mem_map.mp hp; rw [lowB_size]; exact ha s hs) x3 hx3 x3 [] rfl h3
  | cons p l ih =>
    intro pre e ha
    have hlen : all.length = pre.length + (l.length + 1) := by rw [e, List.length_append, List.length_cons]
    have hrd : rdOf ByteArray.empty all (pre.length : Int) = p := by rw [e, rd_pre]
    have q := ih (pre ++ [p]) (by rw [e]; simp) ha
    rw [← nx_pre pre p l (by rw [← e]; omega), List.map_append, List.map_cons, List.map_nil] at q
    refine Ev.step (f := fun k => cors_fits.l0 k x3 (pre.map lowB ++ [lowB p]) all (all.length : Int) (wrap64 ((pre.length : Int) + 1))) (fun k => by
      rw [cors_fits.l0, if_pos (by omega), if_pos (by omega), if_pos (by omega), hrd, loww_eq p (ha p (by rw [e]; simp)), Option.bind_some, if_pos (by rw [List.length_map]; omega)]) q
theorem fits_ev (r : S40) (o m : ByteArray) (hs : List ByteArray) (h0 : Held r.f0) (h1 : Held r.f1) (h2 : Held r.f2) (hh : Held hs) (ho : o.size ≤ 140737488351232) : Ev (fun k => cors_fits.f k r.f0 r.f1 r.f2 r.f3 r.f4 o m hs) (fitB r o m hs) := by
  simp only [cors_fits.f, fitB]
  refine ev_some (first_eq r.f0 o h0.2 ho) ?_
  have j : ∀ b : Bool, Ev (fun k => cors_fits.j0 k hs b r.f0 r.f1 r.f2 r.f3 r.f4) (!b && allowB (r.f2.map lowB) hs) := by
    intro b
    cases b with
    | true => exact Ev.step (f := fun _ => some false) (fun k => by rw [cors_fits.j0, if_pos rfl]) (Ev.now _)
    | false =>
      refine Ev.step (f := fun k => cors_fits.l0 k hs [] r.f2 (r.f2.length : Int) 0) (fun k => by rw [cors_fits.j0, if_neg (by simp)]) ?_
      rw [Bool.not_false, Bool.true_and]
      exact fits_l0 hs (by have := hh.1; omega) hh.2 r.f2 h2.1 r.f2 [] rfl h2.2
  by_cases c : (firstB o r.f0).2 = true
  · refine ev_pos c ?_
    refine Ev.bind (contains_ev r.f1 m (by have := h1.1; omega)) ?_
    rw [c, Bool.true_and]
    refine ev_eq (j _) ?_
    cases hasB m r.f1 <;> rfl
  · refine ev_neg c ?_
    rw [Bool.eq_false_iff.mpr c, Bool.false_and]
    exact ev_eq (j true) rfl
theorem rfits_l2 (x11 : Bool) (al : List ByteArray) (han : al.length ≤ 8796093022208) (hal : ∀ p ∈ al, p.size ≤ 140737488351232) (all : List ByteArray) (hn : all.length ≤ 8796093022208) (l : List ByteArray) : ∀ pre : List ByteArray, all = pre ++ l → (∀ p ∈ l, p.size ≤ 140737488351232) →
    Ev (fun k => stowageref25_fits.l2 k all x11 al (pre.length : Int)) (allowB al l && x11) := by
  induction l with
  | nil =>
    intro pre e _
    have : all.length = pre.length := by rw [e, List.append_nil]
    exact Ev.step (f := fun _ => some x11) (fun k => by rw [stowageref25_fits.l2, if_neg (by omega)]) (ev_eq (Ev.now _) (by simp [allowB]))
  | cons p l ih =>
    intro pre e hl
    have hlen : all.length = pre.length + (l.length + 1) := by rw [e, List.length_append, List.length_cons]
    have hrd : rdOf ByteArray.empty all (pre.length : Int) = p := by rw [e, rd_pre]
    have hp := hl p List.mem_cons_self
    have q := ih (pre ++ [p]) (by rw [e]; simp) (fun x hx => hl x (List.mem_cons_of_mem _ hx))
    rw [← nx_pre pre p l (by rw [← e]; omega)] at q
    refine Ev.step (f := fun k => (stowageref3_Lower.f k p).bind fun t => (stowageref25_first.f k al t).bind fun b => if b.2 = true then stowageref25_fits.l2 k all x11 al (wrap64 ((pre.length : Int) + 1)) else some false) (fun k => by
      rw [stowageref25_fits.l2, if_pos (by omega), if_pos (by omega), hrd]) ?_
    refine Ev.bind (rloww_ev p hp) (Ev.bind (rfirst_ev al (lowB p) han hal (by rw [lowB_size]; exact hp)) ?_)
    rw [allowB, List.all_cons]
    by_cases c : (firstB (lowB p) al).2 = true
    · rw [c]; refine ev_pos rfl ?_; exact q
    · rw [Bool.eq_false_iff.mpr c]
      exact ev_neg (by simp) (ev_eq (Ev.now _) (by simp))
theorem rfits_l1 (x3 : List ByteArray) (hx3 : x3.length ≤ 8796093022208) (h3 : ∀ p ∈ x3, p.size ≤ 140737488351232) (x11 : Bool) (a0 a1 all a3 : List ByteArray) (a4 : Int) (hn : all.length ≤ 8796093022000) (l : List ByteArray) : ∀ pre : List ByteArray, all = pre ++ l → (∀ p ∈ all, p.size ≤ 140737488351232) →
    Ev (fun k => stowageref25_fits.l1 k x3 x11 (pre.map lowB) (pre.length : Int) a0 a1 all a3 a4) (allowB (all.map lowB) x3 && x11) := by
  induction l with
  | nil =>
    intro pre e ha
    have e' : all = pre := by rw [e, List.append_nil]
    subst e'
    refine Ev.step (f := fun k => stowageref25_fits.l2 k x3 x11 (all.map lowB) 0) (fun k => by rw [stowageref25_fits.l1, if_neg (by omega)]) ?_
    exact rfits_l2 x11 (all.map lowB) (by rw [List.length_map]; omega) (fun p hp => by obtain ⟨s, hs, rfl⟩ := List.mem_map.mp hp; rw [lowB_size]; exact ha s hs) x3 hx3 x3 [] rfl h3
  | cons p l ih =>
    intro pre e ha
    have hlen : all.length = pre.length + (l.length + 1) := by rw [e, List.length_append, List.length_cons]
    have hrd : rdOf ByteArray.empty all (pre.length : Int) = p := by rw [e, rd_pre]
    have q := ih (pre ++ [p]) (by rw [e]; simp) ha
    rw [← nx_pre pre p l (by rw [← e]; omega), List.map_append, List.map_cons, List.map_nil] at q
    refine Ev.step (f := fun k => (stowageref3_Lower.f k p).bind fun t => if (pre.map lowB).length < 8796093022208 then stowageref25_fits.l1 k x3 x11 (pre.map lowB ++ [t]) (wrap64 ((pre.length : Int) + 1)) a0 a1 all a3 a4 else none) (fun k => by
      rw [stowageref25_fits.l1, if_pos (by omega), if_pos (by omega), hrd]) ?_
    refine Ev.bind (rloww_ev p (ha p (by rw [e]; simp))) (ev_pos (by rw [List.length_map]; omega) q)
theorem rfits_l0 (m : ByteArray) (x3 : List ByteArray) (a0 all a2 a3 : List ByteArray) (a4 : Int) (hn : all.length ≤ 8796093022208) {R : Bool → Bool} (hR : ∀ b, Ev (fun k => stowageref25_fits.l1 k x3 b [] 0 a0 all a2 a3 a4) (R b)) (l : List ByteArray) : ∀ (pre : List ByteArray) (x11 : Bool), all = pre ++ l →
    Ev (fun k => stowageref25_fits.l0 k m x3 x11 (pre.length : Int) a0 all a2 a3 a4) (R (x11 || hasB m l)) := by
  induction l with
  | nil =>
    intro pre x11 e
    have : all.length = pre.length := by rw [e, List.append_nil]
    refine Ev.step (f := fun k => stowageref25_fits.l1 k x3 x11 [] 0 a0 all a2 a3 a4) (fun k => by rw [stowageref25_fits.l0, if_neg (by omega)]) (ev_eq (hR x11) (by simp [hasB]))
  | cons p l ih =>
    intro pre x11 e
    have hlen : all.length = pre.length + (l.length + 1) := by rw [e, List.length_append, List.length_cons]
    have hrd : rdOf ByteArray.empty all (pre.length : Int) = p := by rw [e, rd_pre]
    cases x11 with
    | true =>
      have q := ih (pre ++ [p]) true (by rw [e]; simp)
      rw [← nx_pre pre p l (by rw [← e]; omega)] at q
      exact Ev.step (f := fun k => _) (fun k => by rw [stowageref25_fits.l0, if_pos (by omega), if_pos rfl]) (ev_eq q (by simp))
    | false =>
      have q := ih (pre ++ [p]) (p.toList == m.toList) (by rw [e]; simp)
      rw [← nx_pre pre p l (by rw [← e]; omega)] at q
      exact Ev.step (f := fun k => _) (fun k => by rw [stowageref25_fits.l0, if_pos (by omega), if_neg (by simp), if_pos (by omega), hrd]) (ev_eq q (by simp only [hasB, List.any_cons, Bool.false_or]))
theorem rfits_ev (r : S40) (o m : ByteArray) (hs : List ByteArray) (h0 : Held r.f0) (h1 : Held r.f1) (h2 : Held r.f2) (hh : Held hs) (ho : o.size ≤ 140737488351232) : Ev (fun k => stowageref25_fits.f k r.f0 r.f1 r.f2 r.f3 r.f4 o m hs) (fitB r o m hs) := by
  simp only [stowageref25_fits.f, fitB]
  refine Ev.bind (rfirst_ev r.f0 o (by have := h0.1; omega) h0.2 ho) ?_
  by_cases c : (firstB o r.f0).2 = true
  · refine ev_pos c ?_
    rw [c, Bool.true_and]
    refine ev_eq (rfits_l0 m hs r.f0 r.f1 r.f2 r.f3 r.f4 (by have := h1.1; omega) (R := fun b => allowB (r.f2.map lowB) hs && b) (fun b => rfits_l1 hs (by have := hh.1; omega) hh.2 b r.f0 r.f1 r.f2 r.f3 r.f4 h2.1 r.f2 [] rfl h2.2) r.f1 [] false rfl) ?_
    rw [Bool.false_or, Bool.and_comm]
  · refine ev_neg c (ev_eq (Ev.now _) ?_)
    rw [Bool.eq_false_iff.mpr c, Bool.false_and]
def HeldR (r : S40) : Prop := Held r.f0 ∧ Held r.f1 ∧ Held r.f2 ∧ Held r.f3
def tup (r : S40) (b : Bool) : List ByteArray × List ByteArray × List ByteArray × List ByteArray × Int × Bool := (r.f0, r.f1, r.f2, r.f3, r.f4, b)
def ruleB (o m : ByteArray) (hs : List ByteArray) : List S40 → S40 × Bool
  | [] => (z40, false)
  | r :: l => if fitB r o m hs = true then (r, true) else ruleB o m hs l
theorem clone_eq (l : List ByteArray) (h : Held l) : slices_Clone_string_string.f l = some l := by rw [slices_Clone_string_string.f, if_pos (by have := h.1; omega)]
theorem clip_eq (l : List ByteArray) : slices_Clip_string_string.f l = some l := by
  rw [slices_Clip_string_string.f, if_pos (by omega), if_pos (by omega), Int.toNat_natCast, List.take_length]
theorem rd28_pre (pre : List S40) (p : S40) (l : List S40) : rd_T40 (pre ++ p :: l) (pre.length : Int) = p := by
  rw [rd_T40, Int.toNat_natCast, List.getD_eq_getElem?_getD, List.getElem?_append_right (Nat.le_refl _), Nat.sub_self]
  rfl
theorem rule_l0 (o m : ByteArray) (hs : List ByteArray) (hh : Held hs) (ho : o.size ≤ 140737488351232) (all : List S40) (hn : all.length ≤ 8796093022208) (l : List S40) : ∀ pre : List S40, all = pre ++ l → (∀ r ∈ l, HeldR r) →
    Ev (fun k => cors_Rule.l0 k o m hs all (all.length : Int) (pre.length : Int)) (tup (ruleB o m hs l).1 (ruleB o m hs l).2) := by
  induction l with
  | nil =>
    intro pre e _
    have : all.length = pre.length := by rw [e, List.append_nil]
    exact Ev.step (f := fun _ => some (tup z40 false)) (fun k => by rw [cors_Rule.l0, if_neg (by omega)]; rfl) (Ev.now _)
  | cons r l ih =>
    intro pre e hl
    have hlen : all.length = pre.length + (l.length + 1) := by rw [e, List.length_append, List.length_cons]
    have hrd : rd_T40 all (pre.length : Int) = r := by rw [e, rd28_pre]
    have q := ih (pre ++ [r]) (by rw [e]; simp) (fun x hx => hl x (List.mem_cons_of_mem _ hx))
    rw [← nx_pre pre r l (by rw [← e]; omega)] at q
    obtain ⟨h0, h1, h2, h3⟩ := hl r List.mem_cons_self
    refine Ev.step (f := fun k => (cors_fits.f k r.f0 r.f1 r.f2 r.f3 r.f4 o m hs).bind fun t => if t = true then some (tup r true) else cors_Rule.l0 k o m hs all (all.length : Int) (wrap64 ((pre.length : Int) + 1))) (fun k => by
      rw [cors_Rule.l0, if_pos (by omega), if_pos (by omega), if_pos (by omega), hrd]
      simp only [clone_eq r.f0 h0, clone_eq r.f1 h1, clone_eq r.f2 h2, clone_eq r.f3 h3, clip_eq, Option.bind_some, tup]) ?_
    refine Ev.bind (fits_ev r o m hs h0 h1 h2 hh ho) ?_
    rw [ruleB]
    by_cases c : fitB r o m hs = true
    · rw [if_pos c]; exact ev_pos c (Ev.now _)
    · rw [if_neg c]; exact ev_neg c q
theorem rule_ev (l : List S40) (o m : ByteArray) (hs : List ByteArray) (hn : l.length ≤ 8796093022208) (hl : ∀ r ∈ l, HeldR r) (hh : Held hs) (ho : o.size ≤ 140737488351232) : Ev (fun k => cors_Rule.f k l o m hs) (tup (ruleB o m hs l).1 (ruleB o m hs l).2) :=
  rule_l0 o m hs hh ho l hn l [] rfl hl
theorem rrule_l0 (o m : ByteArray) (hs : List ByteArray) (hh : Held hs) (ho : o.size ≤ 140737488351232) (all : List S40) (hn : all.length ≤ 8796093022208) (l : List S40) : ∀ pre : List S40, all = pre ++ l → (∀ r ∈ l, HeldR r) →
    Ev (fun k => stowageref25_Rule.l0 k all o m hs (pre.length : Int)) (tup (ruleB o m hs l).1 (ruleB o m hs l).2) := by
  induction l with
  | nil =>
    intro pre e _
    have : all.length = pre.length := by rw [e, List.append_nil]
    exact Ev.step (f := fun _ => some (tup z40 false)) (fun k => by rw [stowageref25_Rule.l0, if_neg (by omega)]; rfl) (Ev.now _)
  | cons r l ih =>
    intro pre e hl
    have hlen : all.length = pre.length + (l.length + 1) := by rw [e, List.length_append, List.length_cons]
    have hrd : rd_T40 all (pre.length : Int) = r := by rw [e, rd28_pre]
    have q := ih (pre ++ [r]) (by rw [e]; simp) (fun x hx => hl x (List.mem_cons_of_mem _ hx))
    rw [← nx_pre pre r l (by rw [← e]; omega)] at q
    obtain ⟨h0, h1, h2, h3⟩ := hl r List.mem_cons_self
    refine Ev.step (f := fun k => (stowageref25_fits.f k r.f0 r.f1 r.f2 r.f3 r.f4 o m hs).bind fun t => if t = true then some (tup r true) else stowageref25_Rule.l0 k all o m hs (wrap64 ((pre.length : Int) + 1))) (fun k => by
      rw [stowageref25_Rule.l0, if_pos (by omega), if_pos (by omega), hrd]
      simp only [tup]) ?_
    refine Ev.bind (rfits_ev r o m hs h0 h1 h2 hh ho) ?_
    rw [ruleB]
    by_cases c : fitB r o m hs = true
    · rw [if_pos c]; exact ev_pos c (Ev.now _)
    · rw [if_neg c]; exact ev_neg c q
theorem rrule_ev (l : List S40) (o m : ByteArray) (hs : List ByteArray) (hn : l.length ≤ 8796093022208) (hl : ∀ r ∈ l, HeldR r) (hh : Held hs) (ho : o.size ≤ 140737488351232) : Ev (fun k => stowageref25_Rule.f k l o m hs) (tup (ruleB o m hs l).1 (ruleB o m hs l).2) :=
  rrule_l0 o m hs hh ho l hn l [] rfl hl
end Go.Proofs.YtiaihkcadffllaaDoor.Pure
