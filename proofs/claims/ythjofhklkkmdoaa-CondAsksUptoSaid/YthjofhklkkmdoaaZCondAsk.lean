/- A part of the proof of the seat's laws. No condition beyond those in the theorems. -/
import Derived.Test.YthjofhklkkmdoaaZTagsB
import Derived.Test.YthjofhklkkmdoaaZQ45

namespace Go.Proofs.Ythjofhklkkmdoaa.Pure
open Go.RowKit Go.Proofs.Ythjofhklkkmdoaa.Q Go.Proofs.YthjofhklkkmdoaaW.PrintWords Go.Proofs.YthjofhklkkmdoaaW.PrintLast
set_option linter.unusedVariables false
set_option linter.unusedSimpArgs false
def getB (name : ByteArray) : List S41 → ByteArray × Bool
  | [] => (⟨#[]⟩, false)
  | h :: l => if h.f0.toList = name.toList then (h.f1, true) else getB name l
theorem get_l0 (name : ByteArray) (all : List S41) (hn : all.length ≤ 1000000000000000) (l : List S41) : ∀ pre : List S41, all = pre ++ l → Ev (fun k => http_Get.l0 k name all (all.length : Int) (pre.length : Int)) (getB name l) := by
  induction l with
  | nil =>
    intro pre e
    rw [List.append_nil] at e
    exact Ev.step (f := fun _ => some (⟨#[]⟩, false)) (fun k => by rw [http_Get.l0, if_neg (by rw [e]; omega)]) (Ev.now _)
  | cons h l ih =>
    intro pre e
    have hlen : all.length = pre.length + (l.length + 1) := by rw [e, List.length_append, List.length_cons]
    have hget : rd_T41 all (pre.length : Int) = h := by rw [rd_T41]; simp [e]
    refine Ev.step (f := fun k => _) (fun k => by rw [http_Get.l0, if_pos (by omega), if_pos (by omega), if_pos (by omega), hget, w64 (n := (pre.length : Int) + 1) (by omega) (by omega)]) ?_
    rw [getB]
    by_cases c : h.f0.toList = name.toList
    · rw [if_pos c]; exact ev_pos c (Ev.now _)
    · rw [if_neg c]
      refine ev_neg c ?_
      have := ih (pre ++ [h]) (by rw [e]; simp)
      rw [show (((pre ++ [h]).length : Nat) : Int) = (pre.length : Int) + 1 by simp] at this
      exact this
theorem get_ev (name : ByteArray) (l : List S41) (hn : l.length ≤ 1000000000000000) : Ev (fun k => http_Get.f k l name) (getB name l) := get_l0 name l hn l [] rfl
def hasB (l : List ByteArray) (a : ByteArray) : Bool := l.any fun x => a.toList == x.toList
theorem index_l0 (a : ByteArray) (all : List ByteArray) (hn : all.length ≤ 1000000000000000) (l : List ByteArray) : ∀ pre : List ByteArray, all = pre ++ l → ∃ i : Int, Ev (fun k => slices_Index_string_string.l0 k all a (all.length : Int) (pre.length : Int)) i ∧ decide (i ≥ 0) = hasB l a := by
  induction l with
  | nil =>
    intro pre e
    rw [List.append_nil] at e
    exact ⟨-1, Ev.step (f := fun _ => some (-1)) (fun k => by rw [slices_Index_string_string.l0, if_neg (by rw [e]; omega)]) (Ev.now _), rfl⟩
  | cons h l ih =>
    intro pre e
    have hlen : all.length = pre.length + (l.length + 1) := by rw [e, List.length_append, List.length_cons]
    have hget : rdOf ByteArray.empty all (pre.length : Int) = h := by rw [rdOf]; simp [e]
    by_cases c : a.toList = h.toList
    · refine ⟨(pre.length : Int), Ev.step (f := fun _ => some (pre.length : Int)) (fun k => by rw [slices_Index_string_string.l0, if_pos (by omega), if_pos (by omega), if_pos (by omega), hget, if_pos c]) (Ev.now _), ?_⟩
      rw [hasB, List.any_cons, c, beq_self_eq_true, Bool.true_or]
      exact decide_eq_true (by omega)
    · obtain ⟨i, hi, hd⟩ := ih (pre ++ [h]) (by rw [e]; simp)
      rw [show (((pre ++ [h]).length : Nat) : Int) = (pre.length : Int) + 1 by simp] at hi
      refine ⟨i, Ev.step (f := fun k => _) (fun k => by rw [slices_Index_string_string.l0, if_pos (by omega), if_pos (by omega), if_pos (by omega), hget, if_neg c, w64 (n := (pre.length : Int) + 1) (by omega) (by omega)]) hi, ?_⟩
      rw [hd, hasB, hasB, List.any_cons, show (a.toList == h.toList) = false by simpa using c, Bool.false_or]
theorem contains_ev (l : List ByteArray) (a : ByteArray) (hn : l.length ≤ 1000000000000000) : Ev (fun k => slices_Contains_string_string.f k l a) (hasB l a) := by
  obtain ⟨i, hi, hd⟩ := index_l0 a l hn l [] rfl
  simp only [slices_Contains_string_string.f]
  exact Ev.bind hi (ev_eq (Ev.now _) hd)
def okT (s : ByteArray) : Prop := s.size ≤ 1000000000000000 ∧ (splitB 44 [] s.toList).length ≤ 8796093022208
def taggedB (l : List S41) (name etag : ByteArray) : Bool × Bool :=
  if (getB name l).2 = true then (let t := tagsB (getB name l).1.toList; if t.2.2 = true then (true, if t.2.1 = true then true else hasB t.1 etag) else (false, false)) else (false, false)
theorem tagsB_len (l : List UInt8) (h : (splitB 44 [] l).length ≤ 8796093022208) : (tagsB l).1.length ≤ 8796093022208 := by
  have key : ∀ ps o, allB ps = some o → o.length = ps.length := by
    intro ps
    induction ps with
    | nil => intro o h; rw [allB] at h; obtain rfl := Option.some.inj h; rfl
    | cons p ps ih =>
      intro o h
      rw [allB] at h
      split at h
      · cases h
      · obtain ⟨o', h', rfl⟩ := Option.map_eq_some_iff.mp h
        rw [List.length_cons, List.length_cons, ih o' h']
  rw [tagsB]
  split
  · simp
  · cases e : allB (splitB 44 [] l) with
    | none => simp
    | some o => simp [key _ o e]; exact h
theorem tagged_ev (l : List S41) (name etag : ByteArray) (hn : l.length ≤ 1000000000000000) (hok : okT (getB name l).1) : Ev (fun k => cond_tagged.f k l name etag) (taggedB l name etag) := by
  simp only [cond_tagged.f, taggedB]
  refine Ev.bind (get_ev name l hn) ?_
  generalize getB name l = g at *
  by_cases h : g.2 = true
  · rw [if_pos h]
    refine ev_pos h (Ev.bind (tags_ev g.1 hok.1 hok.2) ?_)
    have hl := tagsB_len g.1.toList hok.2
    generalize tagsB g.1.toList = t at *
    by_cases h2 : t.2.2 = true
    · rw [if_pos h2]
      refine ev_pos h2 ?_
      by_cases h3 : t.2.1 = true
      · rw [if_pos h3]; exact ev_pos h3 (ev_eq (Ev.now _) (by rw [h2]))
      · rw [if_neg h3]
        exact ev_neg h3 (Ev.bind (contains_ev t.1 etag (by omega)) (ev_eq (Ev.now _) (by rw [h2])))
    · rw [if_neg h2]
      exact ev_neg h2 (ev_eq (Ev.now _) (by rw [show t.2.2 = false by simpa using h2]))
  · rw [if_neg h]; exact ev_neg h (Ev.now _)
theorem dated_ev (l : List S41) (name : ByteArray) (r : Int × Bool) (hn : l.length ≤ 1000000000000000) (hp : Ev (fun k => when_ParseHttp.f k (getB name l).1) r) : Ev (fun k => cond_dated.f k l name) (r.1, (getB name l).2 && r.2) := by
  simp only [cond_dated.f]
  refine Ev.bind (get_ev name l hn) (Ev.bind hp ?_)
  generalize getB name l = g at *
  by_cases h : g.2 = true
  · exact ev_pos h (ev_eq (Ev.now _) (by rw [h, Bool.true_and]))
  · exact ev_neg h (ev_eq (Ev.now _) (by rw [show g.2 = false by simpa using h, Bool.false_and]))
def askB (m : Bool × Bool) (s : Int × Bool) (n : Bool × Bool) (a : Int × Bool) (time : Int) (reads : Bool) : Int :=
  if (m.1 && !m.2) = true then 327 else if (!m.1 && s.2 && decide (s.1 < time)) = true then 327 else if (n.1 && n.2 && !reads) = true then 327
  else if (n.1 && n.2) = true then 328 else if (!n.1 && reads && a.2 && decide (a.1 ≥ time)) = true then 328 else 0
theorem ask_tail (m : Bool × Bool) (s : Int × Bool) (n : Bool × Bool) (a : Int × Bool) (time : Int) (reads : Bool) (k : Nat) :
    (if m.1 = true then (cond_ask.j0 (k + 4) time reads m.1 s.1 s.2 n.1 n.2 a.1 a.2 (!m.2)) else (cond_ask.j0 (k + 4) time reads m.1 s.1 s.2 n.1 n.2 a.1 a.2 false)) = some (askB m s n a time reads) := by
  obtain ⟨m1, m2⟩ := m
  obtain ⟨s1, s2⟩ := s
  obtain ⟨n1, n2⟩ := n
  obtain ⟨a1, a2⟩ := a
  by_cases h1 : s1 < time <;> by_cases h2 : a1 ≥ time <;> cases m1 <;> cases m2 <;> cases s2 <;> cases n1 <;> cases n2 <;> cases a2 <;> cases reads <;>
    simp [cond_ask.j0, cond_ask.j1, cond_ask.j2, cond_ask.j3, askB, h1, h2]
theorem nil_append (b : ByteArray) : (⟨#[]⟩ : ByteArray) ++ b = b := by
  apply toList_inj
  rw [toList_append, show (⟨#[]⟩ : ByteArray).toList = [] from B_toList [], List.nil_append]
def nMatch : ByteArray := ⟨#[105, 102, 45, 109, 97, 116, 99, 104]⟩
def nSince : ByteArray := ⟨#[105, 102, 45, 117, 110, 109, 111, 100, 105, 102, 105, 101, 100, 45, 115, 105, 110, 99, 101]⟩
def nNone : ByteArray := ⟨#[105, 102, 45, 110, 111, 110, 101, 45, 109, 97, 116, 99, 104]⟩
def nAfter : ByteArray := ⟨#[105, 102, 45, 109, 111, 100, 105, 102, 105, 101, 100, 45, 115, 105, 110, 99, 101]⟩
theorem ask_ev (l : List S41) (etag : ByteArray) (time : Int) (reads : Bool) (s a : Int × Bool) (hn : l.length ≤ 1000000000000000) (h1 : okT (getB nMatch l).1) (h2 : okT (getB nNone l).1)
    (hs : Ev (fun k => when_ParseHttp.f k (getB nSince l).1) s) (ha : Ev (fun k => when_ParseHttp.f k (getB nAfter l).1) a) :
    Ev (fun k => cond_Ask.f k l etag time reads) (askB (taggedB l nMatch etag) (s.1, (getB nSince l).2 && s.2) (taggedB l nNone etag) (a.1, (getB nAfter l).2 && a.2) time reads) := by
  have hz : (⟨#[]⟩ : ByteArray).size = 0 := rfl
  simp only [cond_Ask.f, cond_ask.f, nil_append]
  refine Ev.bind ?_ (Ev.now _)
  refine ev_pos (by omega) (Ev.bind (tagged_ev l nMatch etag hn h1) ?_)
  refine ev_pos (by omega) (Ev.bind (dated_ev l nSince s hn hs) ?_)
  refine ev_pos (by omega) (Ev.bind (tagged_ev l nNone etag hn h2) ?_)
  refine ev_pos (by omega) (Ev.bind (dated_ev l nAfter a hn ha) ?_)
  exact ⟨4, fun k hk => by obtain ⟨j, rfl⟩ := Nat.exists_eq_add_of_le' hk; exact ask_tail _ _ _ _ time reads j⟩
theorem http_empty : Ev (fun k => when_ParseHttp.f k ⟨#[]⟩) ((0, false) : Int × Bool) := Ev.of (fun k => when_ParseHttp.mono ⟨#[]⟩ k) (show when_ParseHttp.f 30 ⟨#[]⟩ = some (0, false) by decide +kernel)
end Go.Proofs.Ythjofhklkkmdoaa.Pure
