/- A part of the proof of the seat's laws. No condition beyond those in the theorems. -/
import Derived.Test.YthjofhklkkmdoaaZCutB
import Derived.Test.YthjofhklkkmdoaaZIntB
import Derived.Test.YthjofhklkkmdoaaZQ26

namespace Go.Proofs.Ythjofhklkkmdoaa.Pure
open Go.RowKit Go.Proofs.Ythjofhklkkmdoaa.Q Go.Proofs.YthjofhklkkmdoaaW.PrintWords Go.Proofs.YthjofhklkkmdoaaW.PrintLast
set_option linter.unusedVariables false
set_option linter.unusedSimpArgs false
def hasP (a p : ByteArray) : Bool := decide (p.size ≤ a.size) && ((a.extract 0 p.size).toList == p.toList)
theorem hasPrefix_eq (a p : ByteArray) : stringslite_HasPrefix.f a p = some (hasP a p) := by
  rw [stringslite_HasPrefix.f, hasP]
  by_cases c : p.size ≤ a.size
  · rw [if_pos (by omega), if_pos (by omega), if_pos (by omega), decide_eq_true c]; rfl
  · rw [if_neg (by omega), decide_eq_false c]; rfl
theorem cutPrefix_eq (a p : ByteArray) : strings_CutPrefix.f a p = some (if hasP a p = true then (a.extract p.size a.size, true) else (a, false)) := by
  rw [strings_CutPrefix.f, stringslite_CutPrefix.f, hasPrefix_eq, Option.bind_some]
  by_cases c : hasP a p = true
  · have : p.size ≤ a.size := by rw [hasP, Bool.and_eq_true, decide_eq_true_iff] at c; exact c.1
    rw [if_pos c, if_pos c, if_pos (by omega), if_pos (by omega)]; rfl
  · rw [if_neg c, if_neg c]; rfl
def tailB (z : Int) (a b : List UInt8) (lo hi : Int) (wh : Bool) : Int × Int × Bool × Int :=
  if wh = true then (0, z, false, 0)
  else if a = [] then (if hi = 0 then (0, 0, false, 320) else if z = 0 then (0, 0, false, 320) else (wrap64 (z - (mn hi z)), mn hi z, true, 0))
  else if lo ≥ z then (0, 0, false, 320)
  else if b = [] then (lo, wrap64 ((wrap64 ((wrap64 (z - 1)) - lo)) + 1), true, 0)
  else if hi ≥ z then (lo, wrap64 ((wrap64 ((wrap64 (z - 1)) - lo)) + 1), true, 0)
  else (lo, wrap64 ((wrap64 (hi - lo)) + 1), true, 0)
theorem j2_eq (k : Nat) (z : Int) (a b : ByteArray) (lo hi : Int) (c : Bool) :
    cond_Range.j2 (k + 1) z a b lo hi c = some (if c = true then (0, 0, false, 320) else if a.toList = [] then (wrap64 (z - (mn hi z)), mn hi z, true, 0) else if b.toList = [] then (lo, wrap64 ((wrap64 ((wrap64 (z - 1)) - lo)) + 1), true, 0) else if hi ≥ z then (lo, wrap64 ((wrap64 ((wrap64 (z - 1)) - lo)) + 1), true, 0) else (lo, wrap64 ((wrap64 (hi - lo)) + 1), true, 0)) := by
  rw [cond_Range.j2]
  by_cases h1 : c = true
  · rw [if_pos h1, if_pos h1]
  · rw [if_neg h1, if_neg h1]
    by_cases h2 : a.toList = []
    · rw [if_pos h2, if_pos h2]
    · rw [if_neg h2, if_neg h2]
      by_cases h3 : b.toList = []
      · rw [if_pos h3, if_pos h3]
      · rw [if_neg h3, if_neg h3]
        by_cases h4 : hi ≥ z
        · rw [if_pos h4, if_pos h4]
        · rw [if_neg h4, if_neg h4]
theorem j0_eq (k : Nat) (z : Int) (a b : ByteArray) (lo hi : Int) (wh : Bool) : cond_Range.j0 (k + 3) z a b lo hi wh = some (tailB z a.toList b.toList lo hi wh) := by
  rw [cond_Range.j0, tailB]
  by_cases h1 : wh = true
  · rw [if_pos h1, if_pos h1]
  rw [if_neg h1, if_neg h1]
  by_cases h2 : a.toList = []
  · rw [if_pos h2, if_pos h2]
    by_cases h3 : hi = 0
    · rw [if_pos h3, if_pos h3, cond_Range.j1, if_pos rfl, j2_eq, if_pos rfl]
    · rw [if_neg h3, if_neg h3]
      by_cases h4 : z = 0
      · rw [if_pos h4, show (z == 0) = true from beq_iff_eq.mpr h4, cond_Range.j1, if_pos rfl, j2_eq, if_pos rfl]
      · rw [if_neg h4, show (z == 0) = false from beq_eq_false_iff_ne.mpr h4, cond_Range.j1, if_neg (by simp), if_pos h2, j2_eq, if_neg (by simp), if_pos h2]
  · rw [if_neg h2, if_neg h2, cond_Range.j1, if_neg (by simp), if_neg h2]
    by_cases h3 : lo ≥ z
    · rw [if_pos h3, decide_eq_true h3, j2_eq, if_pos rfl]
    · rw [if_neg h3, decide_eq_false h3, j2_eq, if_neg (by simp), if_neg h2]
theorem j0_ev (z : Int) (a b : ByteArray) (lo hi : Int) (wh : Bool) : Ev (fun k => cond_Range.j0 k z a b lo hi wh) (tailB z a.toList b.toList lo hi wh) :=
  ⟨3, fun k hk => by obtain ⟨m, rfl⟩ := Nat.exists_eq_add_of_le' hk; exact j0_eq m z a b lo hi wh⟩
def wholeB (ok cut : Bool) (a b : List UInt8) (lo hi : Int × Bool) : Bool :=
  !ok || !cut || (decide (a ≠ []) && !lo.2) || (decide (b ≠ []) && !hi.2) || (decide (a = []) && decide (b = [])) || (lo.2 && hi.2 && decide (hi.1 < lo.1))
def rangeB (s : ByteArray) (size : Int) : Int × Int × Bool × Int :=
  let t := if hasP s ⟨#[98, 121, 116, 101, 115, 61]⟩ = true then s.extract 6 s.size else s
  let c := cutR t 45
  tailB (mx size 0) c.1.toList c.2.1.toList (intB c.1.toList).1 (intB c.2.1.toList).1 (wholeB (hasP s ⟨#[98, 121, 116, 101, 115, 61]⟩) c.2.2 c.1.toList c.2.1.toList (intB c.1.toList) (intB c.2.1.toList))
theorem range_ev (s : ByteArray) (size : Int) (hs : s.size ≤ 1000000000000000) : Ev (fun k => cond_Range.f k s size) (rangeB s size) := by
  simp only [cond_Range.f, rangeB]
  rw [cutPrefix_eq]
  have hz : (⟨#[98, 121, 116, 101, 115, 61]⟩ : ByteArray).size = 6 := rfl
  generalize hok : hasP s ⟨#[98, 121, 116, 101, 115, 61]⟩ = ok
  have e : (if ok = true then (s.extract (⟨#[98, 121, 116, 101, 115, 61]⟩ : ByteArray).size s.size, true) else (s, false)) = ((if ok = true then s.extract 6 s.size else s), ok) := by cases ok <;> rfl
  rw [e]
  refine ev_some rfl ?_
  have ht : (if ok = true then s.extract 6 s.size else s).size ≤ 1000000000000000 := by
    cases ok
    · exact hs
    · simp only [if_true, ByteArray.size_extract]; omega
  dsimp only
  generalize (if ok = true then s.extract 6 s.size else s) = t at *
  refine ev_some (cut_eq t 45 ht) ?_
  have hc := cutR_size t 45
  generalize cutR t 45 = c at *
  obtain ⟨a, b, cut⟩ := c
  dsimp only at hc ⊢
  refine Ev.bind (encInt_ev a (by omega)) (Ev.bind (encInt_ev b (by omega)) ?_)
  have ea := intB_empty a.toList
  have eb := intB_empty b.toList
  generalize intB a.toList = lo at *
  generalize intB b.toList = hi at *
  obtain ⟨lo, isLo⟩ := lo
  obtain ⟨hi, isHi⟩ := hi
  dsimp only at ea eb ⊢
  unfold wholeB
  dsimp only
  cases ok
  · refine ev_neg (by simp) ?_
    simpa using j0_ev (mx size 0) a b lo hi true
  refine ev_pos rfl ?_
  cases cut
  · refine ev_neg (by simp) ?_
    simpa using j0_ev (mx size 0) a b lo hi true
  refine ev_pos rfl ?_
  by_cases ha : a.toList = []
  · refine ev_pos ha ?_
    by_cases hb : b.toList = []
    · refine ev_pos hb ?_
      simpa [ha, hb] using j0_ev (mx size 0) a b lo hi true
    · refine ev_neg hb ?_
      cases isLo
      · cases isHi
        · refine ev_neg (by simp) ?_
          simpa [ha, hb] using j0_ev (mx size 0) a b lo hi true
        · refine ev_pos rfl (ev_neg (by simp) ?_)
          simpa [ha, hb] using j0_ev (mx size 0) a b lo hi false
      · exact absurd ha (ea rfl)
  · refine ev_neg ha ?_
    cases isLo
    · refine ev_neg (by simp) ?_
      simpa [ha] using j0_ev (mx size 0) a b lo hi true
    · refine ev_pos rfl ?_
      by_cases hb : b.toList = []
      · refine ev_pos hb ?_
        cases isHi
        · refine ev_neg (by simp) ?_
          simpa [ha, hb] using j0_ev (mx size 0) a b lo hi false
        · exact absurd hb (eb rfl)
      · refine ev_neg hb ?_
        cases isHi
        · refine ev_neg (by simp) ?_
          simpa [ha, hb] using j0_ev (mx size 0) a b lo hi true
        · refine ev_pos rfl ?_
          simpa [ha, hb] using j0_ev (mx size 0) a b lo hi (decide (hi < lo))
end Go.Proofs.Ythjofhklkkmdoaa.Pure
