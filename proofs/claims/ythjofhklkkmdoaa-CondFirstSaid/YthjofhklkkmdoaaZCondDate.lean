/- A part of the proof of the seat's laws. No condition beyond those in the theorems. -/
import Derived.Test.YthjofhklkkmdoaaZCondAsk
import Derived.Test.YthjofhklkkmdoaaZCondAwake
import Derived.Test.YthjofhklkkmdoaaZDateB

namespace Go.Proofs.Ythjofhklkkmdoaa.Pure
open Go.RowKit Go.Proofs.Ythjofhklkkmdoaa.Q Go.Proofs.YthjofhklkkmdoaaW.PrintWords Go.Proofs.YthjofhklkkmdoaaW.PrintLast
set_option linter.unusedVariables false
set_option linter.unusedSimpArgs false
theorem date_ev (t : Int) (h0 : 0 ≤ t) (h1 : t ≤ 253402300799) : ∃ T : ByteArray, Ev (fun k => stowageref4_Http.f k t) T ∧ Ev (fun k => when_ParseHttp.f k T) (t, true) := by
  obtain ⟨y, m, d, h, mi, s, r, rfl⟩ := Date.civil_second t h0 h1
  exact ⟨_, (Date.httpD_ev r).2, Date.phttp_yes r⟩
theorem empty_okT : okT ⟨#[]⟩ := by
  refine ⟨Nat.zero_le _, ?_⟩
  rw [show (⟨#[]⟩ : ByteArray).toList = [] from B_toList [], splitB]; simp
theorem ne1 : ¬ nSince.toList = nMatch.toList := by decide +kernel
theorem ne2 : ¬ nSince.toList = nNone.toList := by decide +kernel
theorem ne3 : ¬ nSince.toList = nAfter.toList := by decide +kernel
theorem ne4 : ¬ nAfter.toList = nMatch.toList := by decide +kernel
theorem ne5 : ¬ nAfter.toList = nNone.toList := by decide +kernel
theorem ne6 : ¬ nAfter.toList = nSince.toList := by decide +kernel
theorem ne7 : ¬ nMatch.toList = nSince.toList := by decide +kernel
theorem ne8 : ¬ nMatch.toList = nAfter.toList := by decide +kernel
theorem ne9 : ¬ nMatch.toList = nNone.toList := by decide +kernel
theorem ne10 : ¬ nNone.toList = nSince.toList := by decide +kernel
theorem ne11 : ¬ nNone.toList = nAfter.toList := by decide +kernel
theorem ne12 : ¬ nNone.toList = nMatch.toList := by decide +kernel
theorem getB_yes (n : ByteArray) (v : ByteArray) (l : List S41) : getB n (⟨n, v⟩ :: l) = (v, true) := by rw [getB, if_pos rfl]
theorem getB_no {n m : ByteArray} (h : ¬ m.toList = n.toList) (v : ByteArray) (l : List S41) : getB n (⟨m, v⟩ :: l) = getB n l := by rw [getB, if_neg h]
theorem getB_nil (n : ByteArray) : getB n [] = (⟨#[]⟩, false) := rfl
theorem ask_after (T etag : ByteArray) (t time : Int) (reads : Bool) (h : Ev (fun k => when_ParseHttp.f k T) (t, true)) :
    Ev (fun k => cond_Ask.f k ([⟨nAfter, T⟩] : List S41) etag time reads) (if (reads && decide (t ≥ time)) = true then 328 else 0) := by
  have g1 : getB nMatch [⟨nAfter, T⟩] = (⟨#[]⟩, false) := by rw [getB_no ne4, getB_nil]
  have g2 : getB nNone [⟨nAfter, T⟩] = (⟨#[]⟩, false) := by rw [getB_no ne5, getB_nil]
  have g3 : getB nSince [⟨nAfter, T⟩] = (⟨#[]⟩, false) := by rw [getB_no ne6, getB_nil]
  have g4 : getB nAfter [⟨nAfter, T⟩] = (T, true) := getB_yes _ _ _
  have := ask_ev [⟨nAfter, T⟩] etag time reads (0, false) (t, true) (by simp) (by rw [g1]; exact empty_okT) (by rw [g2]; exact empty_okT) (by rw [g3]; exact http_empty) (by rw [g4]; exact h)
  refine ev_eq this ?_
  rw [taggedB, taggedB, g1, g2, g3, g4]
  by_cases c : t ≥ time <;> cases reads <;> simp [askB, c]
theorem ask_since (T etag : ByteArray) (t time : Int) (reads : Bool) (h : Ev (fun k => when_ParseHttp.f k T) (t, true)) :
    Ev (fun k => cond_Ask.f k ([⟨nSince, T⟩] : List S41) etag time reads) (if t < time then 327 else 0) := by
  have g1 : getB nMatch [⟨nSince, T⟩] = (⟨#[]⟩, false) := by rw [getB_no ne1, getB_nil]
  have g2 : getB nNone [⟨nSince, T⟩] = (⟨#[]⟩, false) := by rw [getB_no ne2, getB_nil]
  have g3 : getB nAfter [⟨nSince, T⟩] = (⟨#[]⟩, false) := by rw [getB_no ne3, getB_nil]
  have g4 : getB nSince [⟨nSince, T⟩] = (T, true) := getB_yes _ _ _
  have := ask_ev [⟨nSince, T⟩] etag time reads (t, true) (0, false) (by simp) (by rw [g1]; exact empty_okT) (by rw [g2]; exact empty_okT) (by rw [g4]; exact h) (by rw [g3]; exact http_empty)
  refine ev_eq this ?_
  rw [taggedB, taggedB, g1, g2, g3, g4]
  by_cases c : t < time <;> cases reads <;> simp [askB, c]
end Go.Proofs.Ythjofhklkkmdoaa.Pure
