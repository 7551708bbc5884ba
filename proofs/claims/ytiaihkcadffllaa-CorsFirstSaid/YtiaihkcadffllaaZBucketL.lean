/- A part of the proof of the seat's laws. No condition beyond those in the theorems. -/
import Derived.Test.YtiaihkcadffllaaZTextB
import Derived.Test.YtiaihkcadffllaaZRuleB
import Derived.Test.YtiaihkcadffllaaZQ43

namespace Go.Proofs.Ytiaihkcadffllaa.Pure
open Go.RowKit Go.Proofs.Ytiaihkcadffllaa.Q Go.Proofs.YtiaihkcadffllaaW.PrintWords Go.Proofs.YtiaihkcadffllaaW.PrintLast
set_option linter.unusedVariables false
set_option linter.unusedSimpArgs false
def txtB (n : Int) : ByteArray := B (itx n)
theorem txtB_size (n : Int) (h0 : -9223372036854775808 ≤ n) (h1 : n ≤ 9223372036854775807) : (txtB n).size ≤ 20 := by rw [txtB, B_size]; exact itx_len n h0 h1
theorem texts_ev (l : List ByteArray) (h : l.length + 1 < 8796093022208) : Ev (fun k => stowageref12_texts.f k l) (txtB l.length :: l) := by
  simp only [stowageref12_texts.f]
  refine Ev.bind (txt_ev (l.length : Int) (by omega) (by omega)) (ev_some rfl ?_)
  exact ev_pos (by simp only [List.length_cons, List.length_nil]; omega) (Ev.now _)
theorem tags_nil : Ev (fun k => stowageref12_tags.f k []) [txtB 0] := by
  simp only [stowageref12_tags.f]
  refine Ev.bind (txt_ev 0 (by omega) (by omega)) ?_
  exact Ev.step (f := fun _ => some [txtB 0]) (fun k => by rw [stowageref12_tags.l0, if_neg (by simp)]; rfl) (Ev.now _)
def rts (r : S28) : List ByteArray := (txtB r.f0.length :: r.f0) ++ ((txtB r.f1.length :: r.f1) ++ ((txtB r.f2.length :: r.f2) ++ ((txtB r.f3.length :: r.f3) ++ [txtB r.f4])))
theorem rts_len (r : S28) : (rts r).length = r.f0.length + r.f1.length + r.f2.length + r.f3.length + 5 := by
  simp only [rts, List.length_append, List.length_cons, List.length_nil]
  omega
def rtsAll (l : List S28) : List ByteArray := l.flatMap rts
theorem rtsAll_cons (r : S28) (l : List S28) : rtsAll (r :: l) = rts r ++ rtsAll l := rfl
theorem str_ev (l : List ByteArray) (hn : l.length < 8796093022208) (hb : psz l < 140737488355328) : Ev (fun k => (stowageref1_Pack.f k l).bind fun t => some (strOfNums t)) (strOfNums (pk l)) :=
  Ev.bind (f := fun _ t => some (strOfNums t)) (pack_ev l (by omega) hb) (Ev.now _)
theorem bucket_l0 (nm : ByteArray) (a b : Int) (all : List S28) (hn : all.length ≤ 1000000000000) (l : List S28) : ∀ (pre : List S28) (acc : List ByteArray), all = pre ++ l → (∀ r ∈ l, -9223372036854775808 ≤ r.f4 ∧ r.f4 ≤ 9223372036854775807) →
    (acc ++ (rtsAll l ++ [txtB 0])).length < 8796093022208 → psz (acc ++ (rtsAll l ++ [txtB 0])) < 140737488355328 →
    Ev (fun k => stowageref12_PackBucket.l0 k acc (pre.length : Int) nm a b all []) (strOfNums (pk (acc ++ (rtsAll l ++ [txtB 0])))) := by
  induction l with
  | nil =>
    intro pre acc e _ h1 h2
    have : all.length = pre.length := by rw [e, List.append_nil]
    refine Ev.step (f := fun k => (stowageref12_tags.f k []).bind fun t => if acc.length + t.length < 8796093022208 then (stowageref1_Pack.f k (acc ++ t)).bind fun t => some (strOfNums t) else none) (fun k => by rw [stowageref12_PackBucket.l0, if_neg (by omega)]) ?_
    refine Ev.bind tags_nil (ev_pos ?_ ?_)
    · rw [List.length_append] at h1; exact h1
    · exact str_ev _ h1 h2
  | cons r l ih =>
    intro pre acc e hr h1 h2
    have hlen : all.length = pre.length + (l.length + 1) := by rw [e, List.length_append, List.length_cons]
    have hrd : rd_T28 all (pre.length : Int) = r := by rw [e, rd28_pre]
    have hw : acc ++ (rtsAll (r :: l) ++ [txtB 0]) = (acc ++ rts r) ++ (rtsAll l ++ [txtB 0]) := by rw [rtsAll_cons]; simp [List.append_assoc]
    rw [hw] at h1 h2 ⊢
    have q := ih (pre ++ [r]) (acc ++ rts r) (by rw [e]; simp) (fun x hx => hr x (List.mem_cons_of_mem _ hx)) h1 h2
    rw [← nx_pre pre r l (by rw [← e]; omega)] at q
    have hl := rts_len r
    rw [List.length_append, List.length_append] at h1
    obtain ⟨r0, r1⟩ := hr r List.mem_cons_self
    refine Ev.step (f := fun k => (stowageref12_texts.f k r.f0).bind fun t0 => if acc.length + t0.length < 8796093022208 then (some (acc ++ t0)).bind fun y0 => (stowageref12_texts.f k r.f1).bind fun t1 => if y0.length + t1.length < 8796093022208 then (some (y0 ++ t1)).bind fun y1 => (stowageref12_texts.f k r.f2).bind fun t2 => if y1.length + t2.length < 8796093022208 then (some (y1 ++ t2)).bind fun y2 => (stowageref12_texts.f k r.f3).bind fun t3 => if y2.length + t3.length < 8796093022208 then (some (y2 ++ t3)).bind fun y3 => (stowageref1_Text.f k r.f4).bind fun t4 => if y3.length < 8796093022208 then stowageref12_PackBucket.l0 k (y3 ++ [t4]) (wrap64 ((pre.length : Int) + 1)) nm a b all [] else none else none else none else none else none) (fun k => by rw [stowageref12_PackBucket.l0, if_pos (by omega), if_pos (by omega), hrd]) ?_
    refine Ev.bind (texts_ev r.f0 (by omega)) (ev_pos (by rw [List.length_cons]; omega) (ev_some rfl ?_))
    refine Ev.bind (texts_ev r.f1 (by omega)) (ev_pos (by simp only [List.length_append, List.length_cons]; omega) (ev_some rfl ?_))
    refine Ev.bind (texts_ev r.f2 (by omega)) (ev_pos (by simp only [List.length_append, List.length_cons]; omega) (ev_some rfl ?_))
    refine Ev.bind (texts_ev r.f3 (by omega)) (ev_pos (by simp only [List.length_append, List.length_cons]; omega) (ev_some rfl ?_))
    refine Ev.bind (txt_ev r.f4 r0 r1) (ev_pos (by simp only [List.length_append, List.length_cons]; omega) ?_)
    have e2 : (((acc ++ (txtB r.f0.length :: r.f0)) ++ (txtB r.f1.length :: r.f1)) ++ (txtB r.f2.length :: r.f2)) ++ (txtB r.f3.length :: r.f3) ++ [txtB r.f4] = acc ++ rts r := by simp only [rts, List.append_assoc]
    exact (congrArg (fun z => Ev (fun k => stowageref12_PackBucket.l0 k z (wrap64 ((pre.length : Int) + 1)) nm a b all []) _) e2).mpr q
def bktL (nm : ByteArray) (a b : Int) (l : List S28) : List ByteArray := [nm, txtB a, txtB b, txtB l.length] ++ (rtsAll l ++ [txtB 0])
theorem bucket_ev (nm : ByteArray) (a b : Int) (l : List S28) (hn : l.length ≤ 1000000000000) (ha : -9223372036854775808 ≤ a ∧ a ≤ 9223372036854775807) (hb : -9223372036854775808 ≤ b ∧ b ≤ 9223372036854775807) (hr : ∀ r ∈ l, -9223372036854775808 ≤ r.f4 ∧ r.f4 ≤ 9223372036854775807)
    (h1 : (bktL nm a b l).length < 8796093022208) (h2 : psz (bktL nm a b l) < 140737488355328) : Ev (fun k => stowageref12_PackBucket.f k nm a b l []) (strOfNums (pk (bktL nm a b l))) := by
  simp only [stowageref12_PackBucket.f]
  refine Ev.bind (txt_ev a ha.1 ha.2) (Ev.bind (txt_ev b hb.1 hb.2) (Ev.bind (txt_ev l.length (by omega) (by omega)) ?_))
  exact bucket_l0 nm a b l hn l [] [nm, txtB a, txtB b, txtB l.length] rfl hr h1 h2
theorem sameRules_ev (l : List S28) (hn : l.length ≤ 1000000000000) (hr : ∀ r ∈ l, -9223372036854775808 ≤ r.f4 ∧ r.f4 ≤ 9223372036854775807)
    (h1 : (bktL ⟨#[]⟩ 0 0 l).length < 8796093022208) (h2 : psz (bktL ⟨#[]⟩ 0 0 l) < 140737488355328) : Ev (fun k => stowageref12_SameRules.f k l l) true := by
  simp only [stowageref12_SameRules.f]
  have q := bucket_ev ⟨#[]⟩ 0 0 l hn ⟨by omega, by omega⟩ ⟨by omega, by omega⟩ hr h1 h2
  refine Ev.bind q (Ev.bind q (ev_eq (Ev.now _) ?_))
  simp
def bulkL (l : List ByteArray) : Nat := (l.map fun s => s.size + 1).sum + 1
theorem bulkL_len (l : List ByteArray) : l.length + 1 ≤ bulkL l := by
  induction l with
  | nil => exact Nat.le_refl _
  | cons s l ih => simp only [bulkL, List.map_cons, List.sum_cons, List.length_cons] at *; omega
theorem bulkL_psz (l : List ByteArray) : psz l ≤ 4 * bulkL l := by
  induction l with
  | nil => simp [psz]
  | cons s l ih => simp only [bulkL, psz, List.map_cons, List.sum_cons] at *; omega
theorem bulkL_mem (l : List ByteArray) : ∀ s ∈ l, s.size ≤ bulkL l := by
  induction l with
  | nil => intro s h; cases h
  | cons x l ih =>
    intro s h
    have e : bulkL (x :: l) = x.size + 1 + bulkL l := by simp only [bulkL, List.map_cons, List.sum_cons]; omega
    rw [e]
    cases List.mem_cons.1 h with
    | inl h => subst h; omega
    | inr h => have := ih s h; omega
theorem bulk_held (l : List ByteArray) (h : bulkL l ≤ 1048576) : Held l := ⟨by have := bulkL_len l; omega, fun s hs => by have := bulkL_mem l s hs; omega⟩
def bulkR (r : S28) : Nat := bulkL r.f0 + bulkL r.f1 + bulkL r.f2 + bulkL r.f3
theorem bulk_heldR (r : S28) (h : bulkR r ≤ 1048576) : HeldR r := by
  simp only [bulkR] at h
  exact ⟨bulk_held _ (by omega), bulk_held _ (by omega), bulk_held _ (by omega), bulk_held _ (by omega)⟩
theorem rts_psz (r : S28) (h : bulkR r ≤ 1048576) (hw : -9223372036854775808 ≤ r.f4 ∧ r.f4 ≤ 9223372036854775807) : psz (rts r) ≤ 8388608 := by
  simp only [bulkR] at h
  simp only [rts, psz_app, psz_cons]
  have e0 := bulkL_psz r.f0; have e1 := bulkL_psz r.f1; have e2 := bulkL_psz r.f2; have e3 := bulkL_psz r.f3
  have l0 := bulkL_len r.f0; have l1 := bulkL_len r.f1; have l2 := bulkL_len r.f2; have l3 := bulkL_len r.f3
  have t0 := txtB_size r.f0.length (by omega) (by omega); have t1 := txtB_size r.f1.length (by omega) (by omega)
  have t2 := txtB_size r.f2.length (by omega) (by omega); have t3 := txtB_size r.f3.length (by omega) (by omega)
  have t4 := txtB_size r.f4 hw.1 hw.2
  have e : psz [] = 0 := rfl
  omega
theorem sameOne_ev (r : S28) (h : bulkR r ≤ 1048576) (hw : -9223372036854775808 ≤ r.f4 ∧ r.f4 ≤ 9223372036854775807) : Ev (fun k => stowageref12_SameRules.f k [r] [r]) true := by
  have hp := rts_psz r h hw
  have hl := rts_len r
  have l0 := bulkL_len r.f0; have l1 := bulkL_len r.f1; have l2 := bulkL_len r.f2; have l3 := bulkL_len r.f3
  have e1 : rtsAll [r] = rts r := by rw [rtsAll_cons]; exact List.append_nil _
  have z := txtB_size 0 (by omega) (by omega)
  have z1 := txtB_size 1 (by omega) (by omega)
  have hz : (⟨#[]⟩ : ByteArray).size = 0 := rfl
  have e : psz [] = 0 := rfl
  simp only [bulkR] at h
  refine sameRules_ev [r] (by simp) (fun x hx => by rw [List.mem_singleton.1 hx]; exact hw) ?_ ?_
  · rw [bktL, e1, List.length_append, List.length_append, hl]
    simp only [List.length_cons, List.length_nil]
    omega
  · rw [bktL, e1, psz_app, psz_app, psz_cons, psz_cons, psz_cons, psz_cons, psz_cons]
    simp only [List.length_cons, List.length_nil]
    have z1' : (txtB ((0 + 1 : Nat) : Int)).size ≤ 20 := z1
    omega
end Go.Proofs.Ytiaihkcadffllaa.Pure
