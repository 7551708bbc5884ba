/- A part of the proof of the seat's laws. No condition beyond those in the theorems. -/
import Derived.Test.YtiaihkcadffllaaDoorZRuleB
import Derived.Test.YtiaihkcadffllaaDoorZGetB
import Derived.Test.YtiaihkcadffllaaDoorZSplitB
import Derived.Test.YtiaihkcadffllaaDoorZTrimB
import Derived.Test.YtiaihkcadffllaaDoorZQ83

namespace Go.Proofs.YtiaihkcadffllaaDoor.Pure
open Go.RowKit Go.Proofs.YtiaihkcadffllaaDoor.Q Go.Proofs.YtiaihkcadffllaaDoorW.PrintWords Go.Proofs.YtiaihkcadffllaaDoorW.PrintLast Go.Proofs.YtiaihkcadffllaaDoorW.PrintMore
set_option linter.unusedVariables false
set_option linter.unusedSimpArgs false
def good (o p : ByteArray) : Prop := (∀ c ∈ p.toList, c ≠ 42) ∧ p.toList ≠ o.toList
theorem cutL_none (c : UInt8) (l : List UInt8) (h : ∀ x ∈ l, x ≠ c) : cutL c l = none := by
  induction l with
  | nil => rfl
  | cons b l ih => rw [cutL, if_neg (h b List.mem_cons_self), ih (fun x hx => h x (List.mem_cons_of_mem _ hx))]; rfl
theorem match_good (o p : ByteArray) (h : good o p) : matchB p o = false := by
  have e : cutR p 42 = (p, ⟨#[]⟩, false) := by rw [cutR, cutL_none 42 p.toList h.1]
  rw [matchB, e]
  simpa using h.2
theorem first_good (o : ByteArray) (l : List ByteArray) (h : ∀ p ∈ l, good o p) : (firstB o l).2 = false := by
  induction l with
  | nil => rfl
  | cons p l ih =>
    rw [firstB, if_neg (by rw [match_good o p (h p List.mem_cons_self)]; simp)]
    exact ih (fun x hx => h x (List.mem_cons_of_mem _ hx))
theorem rule_good (o m : ByteArray) (hs : List ByteArray) (l : List S40) (h : ∀ r ∈ l, ∀ p ∈ r.f0, good o p) : ruleB o m hs l = (z40, false) := by
  induction l with
  | nil => rfl
  | cons r l ih =>
    rw [ruleB, if_neg (by rw [fitB, first_good o r.f0 (h r List.mem_cons_self)]; simp)]
    exact ih (fun x hx => h x (List.mem_cons_of_mem _ hx))
theorem split_len (c : UInt8) (l : List UInt8) : ∀ cur, (splitB c cur l).length ≤ l.length + 1 ∧ ∀ p ∈ splitB c cur l, p.length ≤ cur.length + l.length := by
  induction l with
  | nil => intro cur; rw [splitB]; exact ⟨by simp, fun p hp => by rw [List.mem_singleton.1 hp]; simp⟩
  | cons b l ih =>
    intro cur
    rw [splitB]
    by_cases e : b = c
    · obtain ⟨h1, h2⟩ := ih []
      first
        | (rw [if_pos e]; refine ⟨by rw [List.length_cons, List.length_cons]; omega, fun p hp => ?_⟩; cases List.mem_cons.1 hp with
            | inl h => subst h; rw [List.length_cons]; omega
            | inr h => have := h2 p h; rw [List.length_cons]; rw [List.length_nil] at this; omega)
    · obtain ⟨h1, h2⟩ := ih (cur ++ [b])
      rw [if_neg e]
      refine ⟨by rw [List.length_cons]; omega, fun p hp => ?_⟩
      have := h2 p hp
      rw [List.length_append, List.length_singleton] at this
      rw [List.length_cons]
      omega
theorem hs_ev (l : List ByteArray) (hl : ∀ p ∈ l, p.size ≤ 2000000) : ∀ acc : List ByteArray, acc.length + l.length ≤ 8000000 → (∀ p ∈ acc, p.size ≤ 2000000) → ∃ out, Ev (fun k => cors_Preflight.hs k l acc) out ∧ Held out := by
  induction l with
  | nil => intro acc h1 h2; exact ⟨acc, Ev.now _, by simp only [List.length_nil] at h1; omega, fun s hs => by have := h2 s hs; omega⟩
  | cons p l ih =>
    intro acc h1 h2
    have hp := hl p List.mem_cons_self
    rw [List.length_cons] at h1
    have ht : (B (trimB p.toList)).size ≤ 2000000 := by have := trimB_len p.toList; rw [length_toList] at this; rw [B_size]; omega
    have key : ∀ r : List ByteArray → Prop, (∃ out, Ev (fun k => if ((lowB (B (trimB p.toList))).toList == []) = true then cors_Preflight.hs k l acc else if acc.length < 8796093022208 then cors_Preflight.hs k l (acc ++ [lowB (B (trimB p.toList))]) else none) out ∧ r out) → ∃ out, Ev (fun k => cors_Preflight.hs k (p :: l) acc) out ∧ r out := by
      rintro r ⟨out, h, hr⟩
      refine ⟨out, ?_, hr⟩
      simp only [cors_Preflight.hs]
      exact Ev.bind (trim_ev p (by omega)) (ev_some (loww_eq _ (by omega)) h)
    apply key
    by_cases c : ((lowB (B (trimB p.toList))).toList == []) = true
    · obtain ⟨out, h, hh⟩ := ih (fun x hx => hl x (List.mem_cons_of_mem _ hx)) acc (by omega) h2
      exact ⟨out, ev_pos c h, hh⟩
    · obtain ⟨out, h, hh⟩ := ih (fun x hx => hl x (List.mem_cons_of_mem _ hx)) (acc ++ [lowB (B (trimB p.toList))]) (by rw [List.length_append, List.length_singleton]; omega) (fun x hx => by
        cases List.mem_append.1 hx with
        | inl h => exact h2 x h
        | inr h => rw [List.mem_singleton.1 h, lowB_size]; exact ht)
      exact ⟨out, ev_neg c (ev_pos (by omega) h), hh⟩
def HdB (l : List S37) : Prop := l.length ≤ 1048576 ∧ ∀ h ∈ l, h.f1.size ≤ 1048576
theorem getB_size (name : ByteArray) (l : List S37) (h : ∀ x ∈ l, x.f1.size ≤ 1048576) : (getB name l).1.size ≤ 1048576 := by
  induction l with
  | nil => show (0 : Nat) ≤ _; omega
  | cons x l ih =>
    rw [getB]
    split
    · exact h x List.mem_cons_self
    · exact ih (fun y hy => h y (List.mem_cons_of_mem _ hy))
def nOrigin : ByteArray := ⟨#[111, 114, 105, 103, 105, 110]⟩
theorem preflight_ev (l : List S40) (a b : ByteArray) (hd : List S37) (body : List Int) (hn : l.length ≤ 1048576) (hR : ∀ r ∈ l, HeldR r) (hH : HdB hd) (hg : ∀ r ∈ l, ∀ p ∈ r.f0, good (getB nOrigin hd).1 p) :
    ∃ e, (e = 308 ∨ e = 306) ∧ Ev (fun k => cors_Preflight.f k l a b hd body) ([], e) := by
  have g1 := get_ev nOrigin hd (by have := hH.1; omega)
  have s1 := getB_size nOrigin hd hH.2
  have g2 := get_ev ⟨#[97, 99, 99, 101, 115, 115, 45, 99, 111, 110, 116, 114, 111, 108, 45, 114, 101, 113, 117, 101, 115, 116, 45, 109, 101, 116, 104, 111, 100]⟩ hd (by have := hH.1; omega)
  have g3 := get_ev ⟨#[97, 99, 99, 101, 115, 115, 45, 99, 111, 110, 116, 114, 111, 108, 45, 114, 101, 113, 117, 101, 115, 116, 45, 104, 101, 97, 100, 101, 114, 115]⟩ hd (by have := hH.1; omega)
  have s3 := getB_size ⟨#[97, 99, 99, 101, 115, 115, 45, 99, 111, 110, 116, 114, 111, 108, 45, 114, 101, 113, 117, 101, 115, 116, 45, 104, 101, 97, 100, 101, 114, 115]⟩ hd hH.2
  simp only [cors_Preflight.f]
  generalize hA : getB nOrigin hd = A at *
  generalize getB _ hd = M at g2
  generalize getB _ hd = V at g3 s3
  by_cases c1 : A.2 = true
  · by_cases c2 : M.2 = true
    · have hl3 := split_len 44 V.1.toList []
      rw [length_toList] at hl3
      have sp := split_ev V.1 44 (by omega) (by have := hl3.1; omega)
      obtain ⟨hs, q, hq⟩ := hs_ev ((splitB 44 [] V.1.toList).map B) (fun p hp => by
        obtain ⟨x, hx, rfl⟩ := List.mem_map.mp hp
        have := hl3.2 x hx
        rw [B_size]
        simp only [List.length_nil] at this
        omega) [] (by rw [List.length_map, List.length_nil]; have := hl3.1; omega) (fun p hp => by cases hp)
      have ru := rule_ev l A.1 M.1 hs (by omega) hR hq (by omega)
      rw [rule_good A.1 M.1 hs l hg] at ru
      refine ⟨306, .inr rfl, Ev.bind g1 (Ev.bind g2 (ev_pos c1 (ev_pos c2 (Ev.bind g3 (Ev.bind sp (Ev.bind q (Ev.bind ru (ev_neg (by simp [tup]) (Ev.now _)))))))))⟩
    · exact ⟨308, .inl rfl, Ev.bind g1 (Ev.bind g2 (ev_pos c1 (ev_neg c2 (Ev.now _))))⟩
  · exact ⟨308, .inl rfl, Ev.bind g1 (Ev.bind g2 (ev_neg c1 (Ev.now _)))⟩
theorem actual_ev (l : List S40) (a b : ByteArray) (hd : List S37) (body : List Int) (hn : l.length ≤ 1048576) (hR : ∀ r ∈ l, HeldR r) (hH : HdB hd) (hg : ∀ r ∈ l, ∀ p ∈ r.f0, good (getB nOrigin hd).1 p) :
    Ev (fun k => cors_Actual.f k l a b hd body) [] := by
  have g1 := get_ev nOrigin hd (by have := hH.1; omega)
  have s1 := getB_size nOrigin hd hH.2
  simp only [cors_Actual.f]
  generalize hA : getB nOrigin hd = A at *
  have hE : Held [] := ⟨by simp, fun s h => by cases h⟩
  have ru := rule_ev l A.1 a [] (by omega) hR hE (by omega)
  rw [rule_good A.1 a [] l hg] at ru
  by_cases c1 : A.2 = true
  · exact Ev.bind g1 (ev_pos c1 (Ev.bind ru (ev_neg (by simp [tup]) (Ev.now _))))
  · exact Ev.bind g1 (ev_neg c1 (Ev.now _))
theorem awake_ev : Ev (fun _ => (stowagelaw25_awake.f).bind fun t => some t) true := ev_some awake_eq (Ev.now _)
section
variable (l : List S40) (a b : ByteArray) (hd : List S37) (body : List Int) (hn : l.length ≤ 1048576) (hR : ∀ r ∈ l, HeldR r) (hH : HdB hd)
theorem silent_end (hn : l.length ≤ 1048576) (hR : ∀ r ∈ l, HeldR r) (hH : HdB hd) (hg : ∀ r ∈ l, ∀ p ∈ r.f0, good (getB nOrigin hd).1 p) :
    Ev (fun k => (cors_Preflight.f k l a b hd body).bind fun bt => if (bt.1.length : Int) = 0 then (if bt.2 = 308 then ((cors_Actual.f k l a b hd body).bind fun t => if (t.length : Int) = 0 then ((stowagelaw25_awake.f).bind fun t => some t) else some false) else (if bt.2 = 306 then ((cors_Actual.f k l a b hd body).bind fun t => if (t.length : Int) = 0 then ((stowagelaw25_awake.f).bind fun t => some t) else some false) else some false)) else some false) true := by
  obtain ⟨e, he, h1⟩ := preflight_ev l a b hd body hn hR hH hg
  have h2 := actual_ev l a b hd body hn hR hH hg
  refine Ev.bind h1 (ev_pos rfl ?_)
  rcases he with rfl | rfl
  · exact ev_pos rfl (Ev.bind h2 (ev_pos rfl awake_ev))
  · exact ev_neg (by decide) (ev_pos rfl (Ev.bind h2 (ev_pos rfl awake_ev)))
theorem silent_l3 (o x9 : ByteArray) (i q : Int) (hs : x9.size ≤ 140737488351232) (hc : good o x9 → Ev (fun k => stowagelaw25_CorsSilent.l2 k l o i (wrap64 (q + 1)) a b hd body) true) (m : List UInt8) : ∀ pre : List UInt8, x9.toList = pre ++ m → (∀ c ∈ pre, c ≠ 42) →
    Ev (fun k => stowagelaw25_CorsSilent.l3 k l o i q x9 (pre.length : Int) a b hd body) true := by
  induction m with
  | nil =>
    intro pre e hp
    have hz : x9.size = pre.length := by rw [← length_toList, e, List.append_nil]
    by_cases c : x9.toList = o.toList
    · exact Ev.step (f := fun _ => (stowagelaw25_awake.f).bind fun t => some t) (fun k => by rw [stowagelaw25_CorsSilent.l3, if_neg (by omega), if_pos c]) awake_ev
    · exact Ev.step (f := fun k => _) (fun k => by rw [stowagelaw25_CorsSilent.l3, if_neg (by omega), if_neg c]) (hc ⟨by rw [e, List.append_nil]; exact hp, c⟩)
  | cons x m ih =>
    intro pre e hp
    obtain ⟨hb, hl⟩ := bt_drop x9 pre.length x m (by rw [e, List.drop_left']; rfl)
    by_cases c : x = 42
    · subst c
      exact Ev.step (f := fun _ => (stowagelaw25_awake.f).bind fun t => some t) (fun k => by rw [stowagelaw25_CorsSilent.l3, if_pos (by omega), if_pos (by omega), if_pos (show bt x9 (pre.length : Int) = 42 from hb)]) awake_ev
    · have hne : ¬ bt x9 (pre.length : Int) = 42 := by
        rw [hb]; intro q
        exact c (UInt8.toNat_inj.mp (Int.ofNat_inj.mp q))
      have q := ih (pre ++ [x]) (by rw [e]; simp) (fun y hy => by
        cases List.mem_append.1 hy with
        | inl h => exact hp y h
        | inr h => rw [List.mem_singleton.1 h]; exact c)
      rw [show (((pre ++ [x]).length : Nat) : Int) = wrap64 ((pre.length : Int) + 1) by rw [w64 (by omega) (by omega), List.length_append]; simp] at q
      exact Ev.step (f := fun k => _) (fun k => by rw [stowagelaw25_CorsSilent.l3, if_pos (by omega), if_pos (by omega), if_neg hne]) q
theorem silent_l2 (o : ByteArray) (i : Nat) (r : S40) (hi : i < l.length) (hr : rd_T40 l (i : Int) = r) (hh : Held r.f0) (hc : (∀ p ∈ r.f0, good o p) → Ev (fun k => stowagelaw25_CorsSilent.l1 k l o (wrap64 ((i : Int) + 1)) a b hd body) true) (m : List ByteArray) : ∀ pre : List ByteArray, r.f0 = pre ++ m → (∀ p ∈ pre, good o p) →
    Ev (fun k => stowagelaw25_CorsSilent.l2 k l o (i : Int) (pre.length : Int) a b hd body) true := by
  have hlen0 := hh.1
  induction m with
  | nil =>
    intro pre e hp
    have hz : r.f0.length = pre.length := by rw [e, List.append_nil]
    exact Ev.step (f := fun k => _) (fun k => by rw [stowagelaw25_CorsSilent.l2, if_pos (by omega), if_pos (by omega), hr, if_neg (by omega)]) (hc (by rw [e, List.append_nil]; exact hp))
  | cons p m ih =>
    intro pre e hp
    have hlen : r.f0.length = pre.length + (m.length + 1) := by rw [e, List.length_append, List.length_cons]
    have hrd : rdOf ByteArray.empty r.f0 (pre.length : Int) = p := by rw [e, rd_pre]
    refine Ev.step (f := fun k => _) (fun k => by rw [stowagelaw25_CorsSilent.l2, if_pos (by omega), if_pos (by omega), hr, if_pos (by omega), if_pos (by omega), hrd]) ?_
    refine silent_l3 l a b hd body o p (i : Int) (pre.length : Int) (hh.2 p (by rw [e]; simp)) (fun hg => ?_) p.toList [] rfl (fun c hc => by cases hc)
    have q := ih (pre ++ [p]) (by rw [e]; simp) (fun y hy => by
      cases List.mem_append.1 hy with
      | inl h => exact hp y h
      | inr h => rw [List.mem_singleton.1 h]; exact hg)
    rw [← nx_pre pre p m (by rw [← e]; omega)] at q
    exact q
theorem silent_l1 (hn : l.length ≤ 1048576) (hR : ∀ r ∈ l, HeldR r) (hH : HdB hd) (m : List S40) : ∀ pre : List S40, l = pre ++ m → (∀ r ∈ pre, ∀ p ∈ r.f0, good (getB nOrigin hd).1 p) →
    Ev (fun k => stowagelaw25_CorsSilent.l1 k l (getB nOrigin hd).1 (pre.length : Int) a b hd body) true := by
  induction m with
  | nil =>
    intro pre e hp
    have hz : l.length = pre.length := by rw [e, List.append_nil]
    exact Ev.step (f := fun k => _) (fun k => by rw [stowagelaw25_CorsSilent.l1, if_neg (by omega)]) (silent_end l a b hd body hn hR hH (by rw [e, List.append_nil]; exact hp))
  | cons r m ih =>
    intro pre e hp
    have hlen : l.length = pre.length + (m.length + 1) := by rw [e, List.length_append, List.length_cons]
    have hrd : rd_T40 l (pre.length : Int) = r := by rw [e, rd28_pre]
    refine Ev.step (f := fun k => _) (fun k => by rw [stowagelaw25_CorsSilent.l1, if_pos (by omega)]) ?_
    refine silent_l2 l a b hd body _ pre.length r (by omega) hrd (hR r (by rw [e]; simp)).1 (fun hg => ?_) r.f0 [] rfl (fun c hc => by cases hc)
    have q := ih (pre ++ [r]) (by rw [e]; simp) (fun y hy => by
      cases List.mem_append.1 hy with
      | inl h => exact hp y h
      | inr h => rw [List.mem_singleton.1 h]; exact hg)
    rw [← nx_pre pre r m (by rw [← e]; omega)] at q
    exact q
end
theorem getB_snoc (name : ByteArray) (l : List S37) (h : S37) : getB name (l ++ [h]) = if (getB name l).2 = true then getB name l else if h.f0.toList = name.toList then (h.f1, true) else (⟨#[]⟩, false) := by
  induction l with
  | nil => simp [getB]
  | cons x l ih =>
    rw [List.cons_append, getB, getB]
    by_cases c : x.f0.toList = name.toList
    · rw [if_pos c, if_pos c, if_pos rfl]
    · rw [if_neg c, if_neg c]; exact ih
theorem getB_off (name : ByteArray) (l : List S37) (h : (getB name l).2 = false) : (getB name l).1 = ⟨#[]⟩ := by
  induction l with
  | nil => rfl
  | cons x l ih =>
    rw [getB] at h ⊢
    by_cases c : x.f0.toList = name.toList
    · rw [if_pos c] at h; cases h
    · rw [if_neg c] at h ⊢; exact ih h
theorem silent_l0 (l : List S40) (a b : ByteArray) (hd : List S37) (body : List Int) (hn : hd.length ≤ 1048576) (o : ByteArray) (hend : Ev (fun k => stowagelaw25_CorsSilent.l1 k l o 0 a b hd body) true) :
    ∀ n : Nat, n ≤ hd.length → ∀ x5, (if (getB nOrigin (hd.take n)).2 = true then (getB nOrigin (hd.take n)).1 else x5) = o → Ev (fun k => stowagelaw25_CorsSilent.l0 k l x5 ((n : Int) - 1) a b hd body) true := by
  intro n
  induction n with
  | zero =>
    intro _ x5 e
    rw [List.take_zero, getB, if_neg (by simp)] at e
    subst e
    exact Ev.step (f := fun k => _) (fun k => by rw [stowagelaw25_CorsSilent.l0, if_neg (by omega)]) hend
  | succ n ih =>
    intro hl x5 e
    have hlt : n < hd.length := by omega
    have hrd : rd_T37 hd (n : Int) = hd[n] := by rw [rd_T37, Int.toNat_natCast, List.getD_eq_getElem?_getD, List.getElem?_eq_getElem hlt]; rfl
    have hc : (((n + 1 : Nat) : Int) - 1) = (n : Int) := by omega
    rw [List.take_succ_eq_append_getElem hlt, getB_snoc] at e
    rw [hc]
    by_cases c : hd[n].f0.toList = nOrigin.toList
    · refine Ev.step (f := fun k => stowagelaw25_CorsSilent.l0 k l hd[n].f1 ((n : Int) - 1) a b hd body) (fun k => by rw [stowagelaw25_CorsSilent.l0, if_pos (by omega), if_pos (by omega), if_pos (by omega), hrd, if_pos (by rw [c]; kernel_rfl), w64 (by omega) (by omega)]) ?_
      refine ih (by omega) _ ?_
      rw [if_pos c] at e
      by_cases g : (getB nOrigin (hd.take n)).2 = true
      · rw [if_pos g, if_pos g] at e; rw [if_pos g]; exact e
      · rw [if_neg g, if_pos rfl] at e; rw [if_neg g]; exact e
    · refine Ev.step (f := fun k => stowagelaw25_CorsSilent.l0 k l x5 ((n : Int) - 1) a b hd body) (fun k => by rw [stowagelaw25_CorsSilent.l0, if_pos (by omega), if_pos (by omega), if_pos (by omega), hrd, if_neg (by intro q; exact c (by rw [q]; kernel_rfl)), w64 (by omega) (by omega)]) ?_
      refine ih (by omega) _ ?_
      rw [if_neg c] at e
      by_cases g : (getB nOrigin (hd.take n)).2 = true
      · rw [if_pos g, if_pos g] at e; rw [if_pos g]; exact e
      · rw [if_neg g, if_neg (by simp)] at e; rw [if_neg g]; exact e
theorem CorsSilentUpto (l : List S40) (a b : ByteArray) (hd : List S37) (body : List Int) (hn : l.length ≤ 1048576) (hR : ∀ r ∈ l, HeldR r) (hH : HdB hd) : ∃ k, stowagelaw25_CorsSilent.f k l a b hd body = some true := by
  apply Ev.rounds
  simp only [stowagelaw25_CorsSilent.f]
  have h1 := silent_l1 l a b hd body hn hR hH l [] rfl (fun r hr => by cases hr)
  have hh := hH.1
  have q := silent_l0 l a b hd body hH.1 (getB nOrigin hd).1 h1 hd.length (Nat.le_refl _) ⟨#[]⟩ (by
    rw [List.take_length]
    by_cases c : (getB nOrigin hd).2 = true
    · rw [if_pos c]
    · rw [if_neg c, getB_off nOrigin hd (Bool.eq_false_iff.mpr c)])
  rw [show wrap64 ((hd.length : Int) - 1) = (hd.length : Int) - 1 from w64 (by omega) (by omega)]
  exact q
end Go.Proofs.YtiaihkcadffllaaDoor.Pure
