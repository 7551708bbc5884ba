/- A part of the proof of the seat's laws. No condition beyond those in the theorems. -/
import Derived.Test.YthjofhklkkmdoaaZCondAsk
import Derived.Test.YthjofhklkkmdoaaZRefTags
import Derived.Test.YthjofhklkkmdoaaZDateSame
import Derived.Test.YthjofhklkkmdoaaZQ75

namespace Go.Proofs.Ythjofhklkkmdoaa.Pure
open Go.RowKit Go.Proofs.Ythjofhklkkmdoaa.Q Go.Proofs.YthjofhklkkmdoaaW.PrintWords Go.Proofs.YthjofhklkkmdoaaW.PrintLast
set_option linter.unusedVariables false
set_option linter.unusedSimpArgs false
theorem askP_ev (p : ByteArray) (hp : p.size ≤ 1000000) (l : List S41) (etag : ByteArray) (time : Int) (reads : Bool) (s a : Int × Bool) (hn : l.length ≤ 1000000000000000) (h1 : okT (getB (p ++ nMatch) l).1) (h2 : okT (getB (p ++ nNone) l).1)
    (hs : Ev (fun k => when_ParseHttp.f k (getB (p ++ nSince) l).1) s) (ha : Ev (fun k => when_ParseHttp.f k (getB (p ++ nAfter) l).1) a) :
    Ev (fun k => cond_ask.f k l p etag time reads) (askB (taggedB l (p ++ nMatch) etag) (s.1, (getB (p ++ nSince) l).2 && s.2) (taggedB l (p ++ nNone) etag) (a.1, (getB (p ++ nAfter) l).2 && a.2) time reads) := by
  simp only [cond_ask.f]
  refine ev_pos (by omega) (Ev.bind (tagged_ev l (p ++ nMatch) etag hn h1) ?_)
  refine ev_pos (by omega) (Ev.bind (dated_ev l (p ++ nSince) s hn hs) ?_)
  refine ev_pos (by omega) (Ev.bind (tagged_ev l (p ++ nNone) etag hn h2) ?_)
  refine ev_pos (by omega) (Ev.bind (dated_ev l (p ++ nAfter) a hn ha) ?_)
  exact ⟨4, fun k hk => by obtain ⟨j, rfl⟩ := Nat.exists_eq_add_of_le' hk; exact ask_tail _ _ _ _ time reads j⟩
def allV (name : ByteArray) : List S41 → List ByteArray
  | [] => []
  | h :: l => if h.f0.toList = name.toList then h.f1 :: allV name l else allV name l
theorem all_l0' (name : ByteArray) (all : List S41) (hn : all.length ≤ 8796093022208) (l : List S41) : ∀ (pre : List S41) (out : List ByteArray), all = pre ++ l → out.length ≤ pre.length → Ev (fun k => stowageref16_All.l0 k all name out (pre.length : Int)) (out ++ allV name l) := by
  induction l with
  | nil =>
    intro pre out e _
    rw [List.append_nil] at e
    exact Ev.step (f := fun _ => some out) (fun k => by rw [stowageref16_All.l0, if_neg (by rw [e]; omega)]) (ev_eq (Ev.now _) (by rw [allV, List.append_nil]))
  | cons h l ih =>
    intro pre out e ho
    have hlen : all.length = pre.length + (l.length + 1) := by rw [e, List.length_append, List.length_cons]
    have hget : rd_T41 all (pre.length : Int) = h := by rw [rd_T41]; simp [e]
    refine Ev.step (f := fun k => _) (fun k => by rw [stowageref16_All.l0, if_pos (by omega), if_pos (by omega), hget, w64 (n := (pre.length : Int) + 1) (by omega) (by omega)]) ?_
    rw [allV]
    by_cases c : h.f0.toList = name.toList
    · rw [if_pos c]
      refine ev_pos c (ev_pos (by omega) ?_)
      have := ih (pre ++ [h]) (out ++ [h.f1]) (by rw [e]; simp) (by simp; exact ho)
      rw [show (((pre ++ [h]).length : Nat) : Int) = (pre.length : Int) + 1 by simp, List.append_assoc] at this
      exact this
    · rw [if_neg c]
      refine ev_neg c ?_
      have := ih (pre ++ [h]) out (by rw [e]; simp) (by simp; omega)
      rw [show (((pre ++ [h]).length : Nat) : Int) = (pre.length : Int) + 1 by simp] at this
      exact this
theorem getB_allV (name : ByteArray) (l : List S41) : getB name l = (match allV name l with | [] => (⟨#[]⟩, false) | v :: _ => (v, true)) := by
  induction l with
  | nil => rfl
  | cons h l ih =>
    rw [getB, allV]
    by_cases c : h.f0.toList = name.toList
    · rw [if_pos c, if_pos c]
    · rw [if_neg c, if_neg c, ih]
theorem rget_ev (name : ByteArray) (l : List S41) (hn : l.length ≤ 8796093022208) : Ev (fun k => stowageref16_Get.f k l name) (getB name l) := by
  simp only [stowageref16_Get.f, stowageref16_All.f]
  refine Ev.bind (all_l0' name l hn l [] [] rfl (Nat.le_refl _)) ?_
  rw [List.nil_append, getB_allV]
  cases allV name l with
  | nil => exact ev_pos rfl (Ev.now _)
  | cons v t => exact ev_neg (by rw [List.length_cons]; omega) (ev_pos (by rw [List.length_cons]; omega) (Ev.now _))
def listB (name : ByteArray) (l : List S41) : List ByteArray × Bool × Bool := if (getB name l).2 = true then tagsB (getB name l).1.toList else ([], false, false)
theorem list_ev (name : ByteArray) (l : List S41) (hn : l.length ≤ 8796093022208) (hok : okT (getB name l).1) : Ev (fun k => stowageref21_list.f k l name) (listB name l) := by
  simp only [stowageref21_list.f, listB]
  refine Ev.bind (rget_ev name l hn) ?_
  generalize getB name l = g at *
  by_cases h : g.2 = true
  · rw [if_pos h]; exact ev_pos h (Ev.bind (rtags_ev g.1 hok.1 hok.2) (Ev.now _))
  · rw [if_neg h]; exact ev_neg h (Ev.now _)
theorem has_l0 (a : ByteArray) (any ok : Bool) (all : List ByteArray) (hn : all.length ≤ 1000000000000000) (l : List ByteArray) : ∀ pre : List ByteArray, all = pre ++ l → Ev (fun k => stowageref21_List_has.l0 k a (pre.length : Int) all any ok) (if hasB l a = true then true else any) := by
  induction l with
  | nil =>
    intro pre e
    rw [List.append_nil] at e
    exact Ev.step (f := fun _ => some any) (fun k => by rw [stowageref21_List_has.l0, if_neg (by rw [e]; omega)]) (Ev.now _)
  | cons h l ih =>
    intro pre e
    have hlen : all.length = pre.length + (l.length + 1) := by rw [e, List.length_append, List.length_cons]
    have hget : rdOf ByteArray.empty all (pre.length : Int) = h := by rw [rdOf]; simp [e]
    refine Ev.step (f := fun k => _) (fun k => by rw [stowageref21_List_has.l0, if_pos (by omega), if_pos (by omega), hget, w64 (n := (pre.length : Int) + 1) (by omega) (by omega)]) ?_
    by_cases c : h.toList = a.toList
    · refine ev_pos c (ev_eq (Ev.now _) ?_)
      rw [hasB, List.any_cons, c, beq_self_eq_true, Bool.true_or, if_pos rfl]
    · refine ev_neg c ?_
      have := ih (pre ++ [h]) (by rw [e]; simp)
      rw [show (((pre ++ [h]).length : Nat) : Int) = (pre.length : Int) + 1 by simp] at this
      refine ev_eq this ?_
      rw [hasB, hasB, List.any_cons, show (a.toList == h.toList) = false by rw [beq_eq_false_iff_ne]; exact fun q => c q.symm, Bool.false_or]
theorem has_ev (a : ByteArray) (any ok : Bool) (l : List ByteArray) (hn : l.length ≤ 1000000000000000) : Ev (fun k => stowageref21_List_has.f k l any ok a) (if hasB l a = true then true else any) := has_l0 a any ok l hn l [] rfl
theorem rdate_ev (name : ByteArray) (l : List S41) (r : Int × Bool) (hn : l.length ≤ 8796093022208) (hp : Ev (fun k => stowageref4_ParseHttp.f k (getB name l).1) r) (h0 : (getB name l).2 = false → r = (0, false)) : Ev (fun k => stowageref21_date.f k l name) (r.1, (getB name l).2 && r.2) := by
  simp only [stowageref21_date.f]
  refine Ev.bind (rget_ev name l hn) ?_
  generalize getB name l = g at *
  by_cases h : g.2 = true
  · exact ev_pos h (Ev.bind hp (ev_eq (Ev.now _) (by rw [h, Bool.true_and])))
  · have h' : g.2 = false := by simpa using h
    exact ev_neg h (ev_eq (Ev.now _) (by rw [h', h0 h']; rfl))
theorem tagged_list (l : List S41) (name etag : ByteArray) : taggedB l name etag = ((listB name l).2.2, (listB name l).2.2 && (if hasB (listB name l).1 etag = true then true else (listB name l).2.1)) := by
  rw [taggedB, listB]
  by_cases h : (getB name l).2 = true
  · rw [if_pos h, if_pos h]
    dsimp only
    generalize tagsB (getB name l).1.toList = t
    by_cases h2 : t.2.2 = true
    · rw [if_pos h2, h2, Bool.true_and]
      by_cases h3 : t.2.1 = true
      · rw [if_pos h3, h3]; cases hasB t.1 etag <;> rfl
      · rw [if_neg h3, show t.2.1 = false by simpa using h3]; cases hasB t.1 etag <;> rfl
    · rw [if_neg h2, show t.2.2 = false by simpa using h2, Bool.false_and]
  · rw [if_neg h, if_neg h]; rfl
theorem listB_len (name : ByteArray) (l : List S41) (hok : okT (getB name l).1) : (listB name l).1.length ≤ 1000000000000000 := by
  rw [listB]
  split
  · have := tagsB_len (getB name l).1.toList hok.2; omega
  · simp
theorem raskP_ev (p : ByteArray) (hp : p.size ≤ 1000000) (l : List S41) (etag : ByteArray) (time : Int) (reads : Bool) (s a : Int × Bool) (hn : l.length ≤ 8796093022208) (h1 : okT (getB (p ++ nMatch) l).1) (h2 : okT (getB (p ++ nNone) l).1)
    (hs : Ev (fun k => stowageref4_ParseHttp.f k (getB (p ++ nSince) l).1) s) (hs0 : (getB (p ++ nSince) l).2 = false → s = (0, false)) (ha : Ev (fun k => stowageref4_ParseHttp.f k (getB (p ++ nAfter) l).1) a) (ha0 : (getB (p ++ nAfter) l).2 = false → a = (0, false)) :
    Ev (fun k => stowageref21_ask.f k l p etag time reads) (askB (taggedB l (p ++ nMatch) etag) (s.1, (getB (p ++ nSince) l).2 && s.2) (taggedB l (p ++ nNone) etag) (a.1, (getB (p ++ nAfter) l).2 && a.2) time reads) := by
  have d1 := rdate_ev (p ++ nSince) l s hn hs hs0
  have d2 := rdate_ev (p ++ nAfter) l a hn ha ha0
  have l1 := list_ev (p ++ nMatch) l hn h1
  have l2 := list_ev (p ++ nNone) l hn h2
  have z1 := listB_len (p ++ nMatch) l h1
  have z2 := listB_len (p ++ nNone) l h2
  rw [tagged_list, tagged_list]
  generalize (s.1, (getB (p ++ nSince) l).2 && s.2) = S at *
  generalize (a.1, (getB (p ++ nAfter) l).2 && a.2) = A at *
  simp only [stowageref21_ask.f]
  refine ev_pos (by omega) (Ev.bind l1 (ev_pos (by omega) (Ev.bind l2 ?_)))
  generalize listB (p ++ nMatch) l = M at *
  generalize listB (p ++ nNone) l = N at *
  obtain ⟨M1, M2, M3⟩ := M
  obtain ⟨N1, N2, N3⟩ := N
  obtain ⟨S1, S2⟩ := S
  obtain ⟨A1, A2⟩ := A
  dsimp only at *
  have hm := has_ev etag M2 M3 M1 z1
  have hnn := has_ev etag N2 N3 N1 z2
  generalize (if hasB M1 etag = true then true else M2) = hM at *
  generalize (if hasB N1 etag = true then true else N2) = hN at *
  have j2 : ∀ c : Bool, c = (N3 && hN) → Ev (fun k => stowageref21_ask.j2 k l p time reads c N1 N2 N3) (if (N3 && hN && !reads) = true then 327 else if (N3 && hN) = true then 328 else if (!N3 && reads && A2 && decide (A1 ≥ time)) = true then 328 else 0) := by
    intro c hc
    refine Ev.step (f := fun k => _) (fun k => by rw [stowageref21_ask.j2]) ?_
    rw [← hc]
    cases c
    · refine ev_neg (by simp) (ev_pos (by omega) (Ev.bind d2 ?_))
      cases N3
      · refine ev_neg (by simp) ?_
        cases reads
        · exact ev_neg (by simp) (ev_eq (Ev.now _) (by simp))
        · refine ev_pos rfl ?_
          cases A2
          · exact ev_neg (by simp) (ev_eq (Ev.now _) (by simp))
          · refine ev_pos rfl ?_
            by_cases g : A1 ≥ time
            · exact ev_pos g (ev_eq (Ev.now _) (by simp [g]))
            · exact ev_neg g (ev_eq (Ev.now _) (by simp [g]))
      · exact ev_pos rfl (ev_eq (Ev.now _) (by simp))
    · refine ev_pos rfl ?_
      cases reads
      · exact ev_neg (by simp) (ev_eq (Ev.now _) (by simp))
      · exact ev_pos rfl (ev_eq (Ev.now _) (by simp))
  have j1 : ∀ c : Bool, c = (!M3 && S2 && decide (S1 < time)) → Ev (fun k => stowageref21_ask.j1 k l p etag time reads c N1 N2 N3) (if c = true then 327 else if (N3 && hN && !reads) = true then 327 else if (N3 && hN) = true then 328 else if (!N3 && reads && A2 && decide (A1 ≥ time)) = true then 328 else 0) := by
    intro c _
    refine Ev.step (f := fun k => _) (fun k => by rw [stowageref21_ask.j1]) ?_
    cases c
    · refine ev_neg (by simp) ?_
      rw [if_neg (by simp)]
      cases N3
      · exact ev_neg (by simp) (j2 false (by simp))
      · exact ev_pos rfl (Ev.bind hnn (j2 hN (by simp)))
    · exact ev_pos rfl (ev_eq (Ev.now _) (by simp))
  have j0 : ∀ c : Bool, c = (M3 && !hM) → Ev (fun k => stowageref21_ask.j0 k l p etag time reads c M1 M2 M3 N1 N2 N3) (askB (M3, M3 && hM) (S1, S2) (N3, N3 && hN) (A1, A2) time reads) := by
    intro c hc
    refine Ev.step (f := fun k => _) (fun k => by rw [stowageref21_ask.j0]) ?_
    have e1 : (M3 && !(M3 && hM)) = c := by rw [hc]; cases M3 <;> cases hM <;> rfl
    have e2 : (N3 && (N3 && hN)) = (N3 && hN) := by cases N3 <;> cases hN <;> rfl
    rw [askB]
    dsimp only
    rw [e1, e2]
    cases c
    · refine ev_neg (by simp) (ev_pos (by omega) (Ev.bind d1 ?_))
      rw [if_neg (by simp)]
      cases M3
      · refine ev_neg (by simp) ?_
        cases S2
        · exact ev_neg (by simp) (ev_eq (j1 false (by simp)) (by simp))
        · exact ev_pos rfl (ev_eq (j1 (decide (S1 < time)) (by simp)) (by simp))
      · exact ev_pos rfl (ev_eq (j1 false (by simp)) (by simp))
    · exact ev_pos rfl (ev_eq (Ev.now _) (by simp))
  cases M3
  · exact ev_neg (by simp) (j0 false (by simp))
  · exact ev_pos rfl (Ev.bind hm (j0 (!hM) (by simp)))
end Go.Proofs.Ythjofhklkkmdoaa.Pure
