/- A part of the proof of the seat's laws. No condition beyond those in the theorems. -/
import Derived.Test.YthjofhklkkmdoaaZCondRange
import Derived.Test.YthjofhklkkmdoaaZCondAwake
import Derived.Test.YthjofhklkkmdoaaZQ51

namespace Go.Proofs.Ythjofhklkkmdoaa.Pure
open Go.RowKit Go.Proofs.Ythjofhklkkmdoaa.Q Go.Proofs.YthjofhklkkmdoaaW.PrintWords Go.Proofs.YthjofhklkkmdoaaW.PrintLast
set_option linter.unusedVariables false
set_option linter.unusedSimpArgs false
def tailR (z : Int) (a b : List UInt8) (lo hi : Int) (wh : Bool) : Int × Int × Bool × Int :=
  if wh = true then (0, z, false, 0)
  else if a = [] then (if hi = 0 then (0, 0, false, 320) else if z = 0 then (0, 0, false, 320) else (wrap64 (z - (mn hi z)), mn hi z, true, 0))
  else if (decide (b ≠ []) && decide (hi < lo)) = true then (0, z, false, 0)
  else if lo ≥ z then (0, 0, false, 320)
  else if b = [] then (lo, wrap64 ((wrap64 ((wrap64 (z - 1)) - lo)) + 1), true, 0)
  else if hi ≥ z then (lo, wrap64 ((wrap64 ((wrap64 (z - 1)) - lo)) + 1), true, 0)
  else (lo, wrap64 ((wrap64 (hi - lo)) + 1), true, 0)
theorem rj1_eq (k : Nat) (z : Int) (b : ByteArray) (lo hi : Int) (c : Bool) :
    stowageref21_Range.j1 (k + 1) z b lo hi c 0 z false 0 = some (if c = true then (0, z, false, 0) else if lo ≥ z then (0, 0, false, 320) else if b.toList = [] then (lo, wrap64 ((wrap64 ((wrap64 (z - 1)) - lo)) + 1), true, 0) else if hi ≥ z then (lo, wrap64 ((wrap64 ((wrap64 (z - 1)) - lo)) + 1), true, 0) else (lo, wrap64 ((wrap64 (hi - lo)) + 1), true, 0)) := by
  rw [stowageref21_Range.j1]
  by_cases h1 : c = true
  · rw [if_pos h1, if_pos h1]
  · rw [if_neg h1, if_neg h1]
    by_cases h2 : lo ≥ z
    · rw [if_pos h2, if_pos h2]
    · rw [if_neg h2, if_neg h2]
      by_cases h3 : b.toList = []
      · rw [if_pos h3, if_pos h3]
      · rw [if_neg h3, if_neg h3]
        by_cases h4 : hi ≥ z
        · rw [if_pos h4, if_pos h4]
        · rw [if_neg h4, if_neg h4]
theorem rj0_eq (k : Nat) (z : Int) (a b : ByteArray) (lo hi : Int) (wh : Bool) : stowageref21_Range.j0 (k + 2) z a b lo hi wh 0 z false 0 = some (tailR z a.toList b.toList lo hi wh) := by
  rw [stowageref21_Range.j0, tailR]
  by_cases h1 : wh = true
  · rw [if_pos h1, if_pos h1]
  rw [if_neg h1, if_neg h1]
  by_cases h2 : a.toList = []
  · rw [if_pos h2, if_pos h2]
    by_cases h3 : hi = 0
    · rw [if_pos h3, if_pos h3]
    · rw [if_neg h3, if_neg h3]
      by_cases h4 : z = 0
      · rw [if_pos h4, if_pos h4]
      · rw [if_neg h4, if_neg h4]
  · rw [if_neg h2, if_neg h2]
    by_cases h3 : b.toList = []
    · rw [if_pos h3, rj1_eq]
      simp [h3]
    · rw [if_neg h3, rj1_eq]
      simp [h3]
theorem rj0_ev (z : Int) (a b : ByteArray) (lo hi : Int) (wh : Bool) : Ev (fun k => stowageref21_Range.j0 k z a b lo hi wh 0 z false 0) (tailR z a.toList b.toList lo hi wh) :=
  ⟨2, fun k hk => by obtain ⟨m, rfl⟩ := Nat.exists_eq_add_of_le' hk; exact rj0_eq m z a b lo hi wh⟩
theorem begins_eq (a p : ByteArray) : stowageref3_Begins.f a p = some (hasP a p) := by
  rw [← hasPrefix_eq]; rfl
theorem rrange_ev (s : ByteArray) (size : Int) (hs : s.size ≤ 140737488351232) : Ev (fun k => stowageref21_Range.f k s size) (rangeB s size) := by
  simp only [stowageref21_Range.f, rangeB]
  have hz : (⟨#[98, 121, 116, 101, 115, 61]⟩ : ByteArray).size = 6 := rfl
  refine ev_some (begins_eq _ _) ?_
  have h6 : hasP s ⟨#[98, 121, 116, 101, 115, 61]⟩ = true → 6 ≤ s.size := by
    intro h; rw [hasP, Bool.and_eq_true, decide_eq_true_iff] at h; exact h.1
  generalize hasP s ⟨#[98, 121, 116, 101, 115, 61]⟩ = ok at *
  cases ok
  · refine ev_neg (by simp) (ev_eq (Ev.now _) ?_)
    simp [tailB, wholeB]
  have h6' := h6 rfl
  refine ev_pos rfl (ev_pos (by omega) ?_)
  simp only [if_true]
  have ht : (s.extract 6 s.size).size ≤ 140737488351232 := by simp only [ByteArray.size_extract]; omega
  generalize s.extract 6 s.size = t at *
  refine Ev.bind (rcut_ev t 45 ht) ?_
  have hc := cutR_size t 45
  generalize cutR t 45 = c at *
  obtain ⟨a, b, cut⟩ := c
  dsimp only at hc ⊢
  refine Ev.bind (refInt_ev a (by omega)) (Ev.bind (refInt_ev b (by omega)) ?_)
  have ea := intB_empty a.toList
  have eb := intB_empty b.toList
  generalize intB a.toList = lo at *
  generalize intB b.toList = hi at *
  obtain ⟨lo, isLo⟩ := lo
  obtain ⟨hi, isHi⟩ := hi
  dsimp only at ea eb ⊢
  unfold wholeB
  dsimp only
  cases cut
  · refine ev_neg (by simp) (ev_eq (rj0_ev (mx size 0) a b lo hi true) ?_)
    simp [tailR, tailB]
  refine ev_pos rfl ?_
  by_cases ha : a.toList = []
  · refine ev_pos ha ?_
    by_cases hb : b.toList = []
    · refine ev_pos hb ?_
      rw [show (b.toList == ([] : List UInt8)) = true by rw [hb]; rfl]
      refine ev_eq (rj0_ev (mx size 0) a b lo hi true) ?_
      simp [tailR, tailB, ha, hb]
    · refine ev_neg hb ?_
      have hb' : (b.toList == ([] : List UInt8)) = false := by simpa using hb
      cases isLo
      · cases isHi
        · refine ev_neg (by simp) (ev_eq (rj0_ev (mx size 0) a b lo hi true) ?_)
          simp [tailR, tailB, ha, hb]
        · refine ev_pos rfl ?_
          rw [hb']
          refine ev_eq (rj0_ev (mx size 0) a b lo hi false) ?_
          simp [tailR, tailB, ha, hb]
      · exact absurd ha (ea rfl)
  · refine ev_neg ha ?_
    cases isLo
    · refine ev_neg (by simp) (ev_eq (rj0_ev (mx size 0) a b lo hi true) ?_)
      simp [tailR, tailB, ha]
    · refine ev_pos rfl ?_
      by_cases hb : b.toList = []
      · refine ev_pos hb ?_
        cases isHi
        · refine ev_eq (rj0_ev (mx size 0) a b lo hi false) ?_
          simp [tailR, tailB, ha, hb]
        · exact absurd hb (eb rfl)
      · refine ev_neg hb ?_
        cases isHi
        · refine ev_neg (by simp) (ev_eq (rj0_ev (mx size 0) a b lo hi true) ?_)
          simp [tailR, tailB, ha, hb]
        · refine ev_pos rfl (ev_eq (rj0_ev (mx size 0) a b lo hi false) ?_)
          by_cases hl : hi < lo
          · simp [tailR, tailB, ha, hb, hl]
          · simp [tailR, tailB, ha, hb, hl]
theorem CondRanges : stowagelaw21_CondRanges.Pure := by
  intro s size hs _
  apply Ev.rounds
  simp only [stowagelaw21_CondRanges.f]
  refine Ev.bind (range_ev s size hs) (Ev.bind (rrange_ev s size hs) ?_)
  refine ev_pos rfl (ev_pos rfl (ev_pos (by simp) (ev_pos rfl ?_)))
  exact Ev.bind awake_ev (Ev.now _)
end Go.Proofs.Ythjofhklkkmdoaa.Pure
