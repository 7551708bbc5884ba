/- A part of the proof of the seat's laws. No condition beyond those in the theorems. -/
import Derived.Test.YtieejapamkokaaaDoorZEvB
import Derived.Test.YtieejapamkokaaaDoorZQ45g7
import Derived.Test.YtieejapamkokaaaDoorZQ71g4

namespace Go.Proofs.YtieejapamkokaaaDoor.Pure
open Go.RowKit Go.Proofs.YtieejapamkokaaaDoor.Q Go.Proofs.YtieejapamkokaaaDoorW.PrintWords Go.Proofs.YtieejapamkokaaaDoorW.PrintLast
set_option linter.unusedVariables false
set_option linter.unusedSimpArgs false
def cutL (c : UInt8) : List UInt8 → Option (List UInt8 × List UInt8)
  | [] => none
  | b :: l => if b = c then some ([], l) else (cutL c l).map fun p => (b :: p.1, p.2)
theorem cutL_index (c : UInt8) (l : List UInt8) : (match cutL c l with | none => Lib.indexByte l c = -1 | some p => Lib.indexByte l c = p.1.length ∧ l = p.1 ++ c :: p.2) := by
  induction l with
  | nil => rfl
  | cons b l ih =>
    rw [cutL, Lib.indexByte]
    by_cases h : b = c
    · subst h; simp
    · rw [if_neg h]
      have hb : (b == c) = false := by simpa using h
      cases hc : cutL c l with
      | none => rw [hc] at ih; simp [ih, hb]
      | some p =>
        rw [hc] at ih
        obtain ⟨h1, h2⟩ := ih
        simp only [Option.map_some]
        refine ⟨?_, by rw [List.cons_append, ← h2]⟩
        rw [h1]
        have : ((p.1.length : Int) == -1) = false := by rw [beq_eq_false_iff_ne]; omega
        simp [hb, this]
def cutR (s : ByteArray) (c : UInt8) : ByteArray × ByteArray × Bool :=
  match cutL c s.toList with | none => (s, ⟨#[]⟩, false) | some p => (⟨p.1.toArray⟩, ⟨p.2.toArray⟩, true)
theorem extract_of (s : ByteArray) (i j : Nat) (l : List UInt8) (h : (s.toList.take j).drop i = l) : s.extract i j = ⟨l.toArray⟩ := by
  apply toList_inj
  rw [toList_extract, h, ByteArray.toList_eq]
theorem cut_eq (s : ByteArray) (c : UInt8) (hs : s.size ≤ 1000000000000000) : strings_Cut.f s ⟨#[c]⟩ = some (cutR s c) := by
  have hi := cutL_index c s.toList
  have hsl := length_toList s
  have e1 : stringslite_Index.f s ⟨#[c]⟩ = some (Lib.indexByte s.toList c) := by unfold stringslite_Index.f; rw [ByteArray.toList_eq]
  unfold strings_Cut.f stringslite_Cut.f cutR
  rw [e1, Option.bind_some]
  cases hc : cutL c s.toList with
  | none =>
    rw [hc] at hi
    rw [hi]; rfl
  | some p =>
    rw [hc] at hi
    obtain ⟨h1, h2⟩ := hi
    have hl := congrArg List.length h2
    rw [List.length_append, List.length_cons, hsl] at hl
    have hz : (⟨#[c]⟩ : ByteArray).size = 1 := rfl
    rw [h1, hz, w64 (n := (p.1.length : Int) + ((1 : Nat) : Int)) (by omega) (by omega), if_pos (by omega), if_pos (by omega), if_pos (by omega), if_pos (by omega), if_pos (by omega), Option.bind_some]
    rw [extract_of s 0 _ p.1 (by rw [h2]; simp), extract_of s _ s.size p.2 (by rw [h2, show ((p.1.length : Int) + ((1 : Nat) : Int)).toNat = p.1.length + 1 by omega, List.take_of_length_le (by rw [List.length_append, List.length_cons]; omega)]; simp)]
theorem rcut_l0 (s : ByteArray) (c : UInt8) (hs : s.size ≤ 1000000000000000) (l : List UInt8) : ∀ pre : List UInt8, s.toList = pre ++ l → cutL c pre = none →
    Ev (fun k => stowageref3_Cut.l0 k s (c.toNat : Int) (pre.length : Int)) (cutR s c) := by
  have hsl := length_toList s
  have app : ∀ (pre l : List UInt8), cutL c pre = none → cutL c (pre ++ l) = (cutL c l).map fun p => (pre ++ p.1, p.2) := by
    intro pre
    induction pre with
    | nil => intro l _; rw [List.nil_append]; cases cutL c l <;> rfl
    | cons b pre ih =>
      intro l h
      rw [cutL] at h
      by_cases hb : b = c
      · rw [if_pos hb] at h; simp at h
      · rw [if_neg hb] at h
        have h' : cutL c pre = none := by simpa using h
        rw [List.cons_append, cutL, if_neg hb, ih l h']
        cases cutL c l <;> rfl
  induction l with
  | nil =>
    intro pre e hp
    rw [List.append_nil] at e
    refine Ev.step (f := fun _ => some (cutR s c)) (fun k => ?_) (Ev.now _)
    have : pre.length = s.size := by rw [← hsl, e]
    rw [stowageref3_Cut.l0, if_neg (by omega), cutR, e, hp]
  | cons b l ih =>
    intro pre e hp
    have hl := congrArg List.length e
    rw [hsl, List.length_append, List.length_cons] at hl
    have hb := (bt_drop s pre.length b l (by rw [e]; simp)).1
    by_cases h : b = c
    · subst h
      refine Ev.step (f := fun _ => some (cutR s b)) (fun k => ?_) (Ev.now _)
      rw [stowageref3_Cut.l0, if_pos (by omega), if_pos (by omega), if_pos hb, if_pos (by omega), w64 (n := (pre.length : Int) + 1) (by omega) (by omega), if_pos (by omega), if_pos (by omega)]
      rw [cutR, e, app pre _ hp, cutL, if_pos rfl, Option.map_some]
      dsimp only
      rw [extract_of s 0 _ pre (by rw [e]; simp), extract_of s _ s.size l (by rw [e, show ((pre.length : Int) + 1).toNat = pre.length + 1 by omega, List.take_of_length_le (by rw [List.length_append, List.length_cons]; omega)]; simp), List.append_nil]
    · have hne : ¬ bt s (pre.length : Int) = (c.toNat : Int) := by
        rw [hb]; intro q
        exact h (UInt8.toNat_inj.mp (Int.ofNat_inj.mp q))
      have q := ih (pre ++ [b]) (by rw [e]; simp) (by rw [app pre _ hp, cutL, if_neg h, cutL]; rfl)
      refine Ev.step (f := fun k => _) (fun k => by rw [stowageref3_Cut.l0, if_pos (by omega), if_pos (by omega), if_neg hne, w64 (n := (pre.length : Int) + 1) (by omega) (by omega)]) ?_
      rw [show ((pre ++ [b]).length : Int) = (pre.length : Int) + 1 by simp] at q
      exact q
theorem rcut_ev (s : ByteArray) (c : UInt8) (hs : s.size ≤ 1000000000000000) : Ev (fun k => stowageref3_Cut.f k s (c.toNat : Int)) (cutR s c) :=
  rcut_l0 s c hs s.toList [] rfl rfl
theorem cutR_size (s : ByteArray) (c : UInt8) : (cutR s c).1.size ≤ s.size ∧ (cutR s c).2.1.size ≤ s.size := by
  have hi := cutL_index c s.toList
  have hsl := length_toList s
  rw [cutR]
  cases hc : cutL c s.toList with
  | none => exact ⟨Nat.le_refl _, Nat.zero_le _⟩
  | some p =>
    rw [hc] at hi
    have hl := congrArg List.length hi.2
    rw [List.length_append, List.length_cons, hsl] at hl
    exact ⟨show p.1.toArray.size ≤ s.size by simp; omega, show p.2.toArray.size ≤ s.size by simp; omega⟩
end Go.Proofs.YtieejapamkokaaaDoor.Pure
