/- A part of the proof of the seat's laws. No condition beyond those in the theorems. -/
import Derived.Test.YtiaihkcadffllaaDoorZEvB
import Derived.Test.YtiaihkcadffllaaDoorZQ15g8
import Derived.Test.YtiaihkcadffllaaDoorZQ62g4
import Derived.Test.YtiaihkcadffllaaDoorZQ79g2

namespace Go.Proofs.YtiaihkcadffllaaDoor.Pure
open Go.RowKit Go.Proofs.YtiaihkcadffllaaDoor.Q Go.Proofs.YtiaihkcadffllaaDoorW.PrintWords Go.Proofs.YtiaihkcadffllaaDoorW.PrintLast
set_option linter.unusedVariables false
set_option linter.unusedSimpArgs false
def cutL (c : UInt8) : List UInt8 → Option (List UInt8 × List UInt8)
  | [] => none
  | b :: l => if b = c then some ([], l) else (cutL c l).map fun p => (b :: p.1, p.2)
theorem cutL_index (c : UInt8) (l : List UInt8) : (match cutL c l with | none => Lib.indexByte l c = -1 | some p => Lib.indexByte l c = p.1.length ∧ l = p.1 ++ c :: p.2) := by
  induction l with
  | nil => rfl
  | cons b l ih =>
    rw [cutL, Lib.indexByte]
    by_cases h : b = c
    · subst h; simp
    · rw [if_neg h]
      have hb : (b == c) = false := by simpa using h
      cases hc : cutL c l with
      | none => rw [hc] at ih; simp [ih, hb]
      | some p =>
        rw [hc] at ih
        obtain ⟨h1, h2⟩ := ih
        simp only [Option.map_some]
        refine ⟨?_, by rw [List.cons_append, ← h2]⟩
        rw [h1]
        have : ((p.1.length : Int) == -1) = false := by rw [beq_eq_false_iff_ne]; omega
        simp [hb, this]
def cutR (s : ByteArray) (c : UInt8) : ByteArray × ByteArray × Bool :=
  match cutL c s.toList with | none => (s, ⟨#[]⟩, false) | some p => (⟨p.1.toArray⟩, ⟨p.2.toArray⟩, true)
theorem extract_of (s : ByteArray) (i j : Nat) (l : List UInt8) (h : (s.toList.take j).drop i = l) : s.extract i j = ⟨l.toArray⟩ := by
  apply toList_inj
  rw [toList_extract, h, ByteArray.toList_eq]
theorem cut_eq (s : ByteArray) (c : UInt8) (hs : s.size ≤ 140737488351232) : strings_Cut.f s ⟨#[c]⟩ = some (cutR s c) := by
  have hi := cutL_index c s.toList
  have hsl := length_toList s
  have e1 : stringslite_Index.f s ⟨#[c]⟩ = some (Lib.indexByte s.toList c) := by unfold stringslite_Index.f; rw [ByteArray.toList_eq]
  unfold strings_Cut.f stringslite_Cut.f cutR
  rw [e1, Option.bind_some]
  cases hc : cutL c s.toList with
  | none =>
    rw [hc] at hi
    rw [hi]; rfl
  | some p =>
    rw [hc] at hi
    obtain ⟨h1, h2⟩ := hi
    have hl := congrArg List.length h2
    rw [List.length_append, List.length_cons, hsl] at hl
    have hz : (⟨#[c]⟩ : ByteArray).size = 1 := rfl
    rw [h1, hz, w64 (n := (p.1.length : Int) + ((1 : Nat) : Int)) (by omega) (by omega), if_pos (by omega), if_pos (by omega), if_pos (by omega), if_pos (by omega), if_pos (by omega), Option.bind_some]
    rw [extract_of s 0 _ p.1 (by rw [h2]; simp), extract_of s _ s.size p.2 (by rw [h2, show ((p.1.length : Int) + ((1 : Nat) : Int)).toNat = p.1.length + 1 by omega, List.take_of_length_le (by rw [List.length_append, List.length_cons]; omega)]; simp)]
theorem rcut_l0 (s : ByteArray) (c : UInt8) (hs : s.size ≤ 140737488351232) (l : List UInt8) : ∀ pre : List UInt8, s.toList = pre ++ l → cutL c pre = none →
    Ev (fun k => stowageref3_Cut.l0 k s (c.toNat : Int) (pre.length : Int)) (cutR s c) := by
  have hsl := length_toList s
  have app : ∀ (pre l : List UInt8), cutL c pre = none → cutL c (pre ++ l) = (cutL c l).map fun p => (pre ++ p.1, p.2) := by
    intro pre
    induction pre with
    | nil => intro l _; rw [List.nil_append]; cases cutL c l <;> rfl
    | cons b pre ih =>
      intro l h
      rw [cutL] at h
      by_cases hb : b = c
      · rw [if_pos hb] at h; simp at h
      · rw [if_neg hb] at h
        have h' : cutL c pre = none := by simpa using h
        rw [List.cons_append, cutL, if_neg hb, ih l h']
        cases cutL c l <;> rfl
  induction l with
  | nil =>
    intro pre e hp
    rw [List.append_nil] at e
    refine Ev.step (f := fun _ => some (cutR s c)) (fun k => ?_) (Ev.now _)
    have : pre.length = s.size := by rw [← hsl, e]
    rw [stowageref3_Cut.l0, if_neg (by omega), cutR, e, hp]
  | cons b l ih =>
    intro pre e hp
    have hl := congrArg List.length e
    rw [hsl, List.length_append, List.length_cons] at hl
    have hb := (bt_drop s pre.length b l (by rw [e]; simp)).1
    by_cases h : b = c
    · subst h
      refine Ev.step (f := fun _ => some (cutR s b)) (fun k => ?_) (Ev.now _)
      rw [stowageref3_Cut.l0, if_pos (by omega), if_pos (by omega), if_pos hb, if_pos (by omega), w64 (n := (pre.length : Int) + 1) (by omega) (by omega), if_pos (by omega), if_pos (by omega)]
      rw [cutR, e, app pre _ hp, cutL, if_pos rfl, Option.map_some]
      dsimp only
      rw [extract_of s 0 _ pre (by rw [e]; simp), extract_of s _ s.size l (by rw [e, show ((pre.length : Int) + 1).toNat = pre.length + 1 by omega, List.take_of_length_le (by rw [List.length_append, List.length_cons]; omega)]; simp), List.append_nil]
    · have hne : ¬ bt s (pre.length : Int) = (c.toNat : Int) := by
        rw [hb]; intro q
        exact h (UInt8.toNat_inj.mp (Int.ofNat_inj.mp q))
      have q := ih (pre ++ [b]) (by rw [e]; simp) (by rw [app pre _ hp, cutL, if_neg h, cutL]; rfl)
      refine Ev.step (f := fun k => _) (fun k => by rw [stowageref3_Cut.l0, if_pos (by omega), if_pos (by omega), if_neg hne, w64 (n := (pre.length : Int) + 1) (by omega) (by omega)]) ?_
      rw [show ((pre ++ [b]).length : Int) = (pre.length : Int) + 1 by simp] at q
      exact q
theorem rcut_ev (s : ByteArray) (c : UInt8) (hs : s.size ≤ 140737488351232) : Ev (fun k => stowageref3_Cut.f k s (c.toNat : Int)) (cutR s c) :=
  rcut_l0 s c hs s.toList [] rfl rfl
theorem cutR_size (s : ByteArray) (c : UInt8) : (cutR s c).1.size ≤ s.size ∧ (cutR s c).2.1.size ≤ s.size := by
  have hi := cutL_index c s.toList
  have hsl := length_toList s
  rw [cutR]
  cases hc : cutL c s.toList with
  | none => exact ⟨Nat.le_refl _, Nat.zero_le _⟩
  | some p =>
    rw [hc] at hi
    have hl := congrArg List.length hi.2
    rw [List.length_append, List.length_cons, hsl] at hl
    exact ⟨show p.1.toArray.size ≤ s.size by simp; omega, show p.2.toArray.size ≤ s.size by simp; omega⟩
def matchB (p s : ByteArray) : Bool :=
  let q := cutR p 42
  if q.2.2 = true then decide (q.1.size + q.2.1.size ≤ s.size) && (((s.extract 0 q.1.size).toList == q.1.toList) && ((s.extract (s.size - q.2.1.size) s.size).toList == q.2.1.toList)) else p.toList == s.toList
theorem match_eq (p s : ByteArray) (hp : p.size ≤ 140737488351232) (hs : s.size ≤ 140737488351232) : cors_Match.f p s = some (matchB p s) := by
  have hz := cutR_size p 42
  unfold cors_Match.f cors_pattern_matches.f matchB
  rw [cut_eq p 42 hp, Option.bind_some]
  generalize cutR p 42 = q at *
  obtain ⟨a, b, ok⟩ := q
  dsimp only at hz ⊢
  cases ok with
  | false => rfl
  | true =>
    simp only [if_true]
    rw [w64 (n := (a.size : Int) + (b.size : Int)) (by omega) (by omega)]
    by_cases c : (s.size : Int) ≥ (a.size : Int) + (b.size : Int)
    · rw [if_pos c, strings_HasPrefix.f, stringslite_HasPrefix.f, if_pos (by omega), if_pos (by omega), if_pos (by omega), strings_HasSuffix.f, stringslite_HasSuffix.f, w64 (n := (s.size : Int) - (b.size : Int)) (by omega) (by omega), if_pos (by omega), if_pos (by omega), if_pos (by omega)]
      rw [show decide (a.size + b.size ≤ s.size) = true from decide_eq_true (by omega), show ((s.size : Int) - (b.size : Int)).toNat = s.size - b.size by omega]
      simp only [Option.bind_some, Bool.true_and]
      cases ((s.extract 0 a.size).toList == a.toList) <;> rfl
    · rw [if_neg c, show decide (a.size + b.size ≤ s.size) = false from decide_eq_false (by omega)]; rfl
theorem rmatch_ev (p s : ByteArray) (hp : p.size ≤ 140737488351232) (hs : s.size ≤ 140737488351232) : Ev (fun k => stowageref25_Match.f k p s) (matchB p s) := by
  have hz := cutR_size p 42
  simp only [stowageref25_Match.f]
  refine Ev.bind (rcut_ev p 42 hp) ?_
  unfold matchB
  generalize cutR p 42 = q at *
  obtain ⟨a, b, ok⟩ := q
  dsimp only at hz ⊢
  cases ok with
  | false => exact ev_neg (by simp) (Ev.now _)
  | true =>
    refine ev_pos rfl ?_
    rw [if_pos rfl, w64 (n := (a.size : Int) + (b.size : Int)) (by omega) (by omega)]
    by_cases c : (s.size : Int) ≥ (a.size : Int) + (b.size : Int)
    · refine ev_pos c (ev_pos (by omega) (ev_pos (by omega) ?_))
      rw [show decide (a.size + b.size ≤ s.size) = true from decide_eq_true (by omega), w64 (n := (s.size : Int) - (b.size : Int)) (by omega) (by omega), show ((s.size : Int) - (b.size : Int)).toNat = s.size - b.size by omega]
      by_cases h : (s.extract 0 a.size).toList = a.toList
      · refine ev_pos h (ev_pos (by omega) (ev_pos (by omega) (ev_eq (Ev.now _) ?_)))
        rw [h]; simp
      · refine ev_neg h (ev_eq (Ev.now _) ?_)
        rw [show ((s.extract 0 a.size).toList == a.toList) = false by simpa using h]; rfl
    · refine ev_neg c (ev_eq (Ev.now _) ?_)
      rw [show decide (a.size + b.size ≤ s.size) = false from decide_eq_false (by omega)]; rfl
theorem awake_eq : stowagelaw25_awake.f = some true := by kernel_rfl
end Go.Proofs.YtiaihkcadffllaaDoor.Pure
