/- A part of the proof of the seat's laws. No condition beyond those in the theorems. -/
import Derived.Test.YthjofhklkkmdoaaZCondDate
import Derived.Test.YthjofhklkkmdoaaZQ66

namespace Go.Proofs.Ythjofhklkkmdoaa.Pure
open Go.RowKit Go.Proofs.Ythjofhklkkmdoaa.Q Go.Proofs.YthjofhklkkmdoaaW.PrintWords Go.Proofs.YthjofhklkkmdoaaW.PrintLast
set_option linter.unusedVariables false
set_option linter.unusedSimpArgs false
def qx : ByteArray := ⟨#[34, 120, 34]⟩
def qy : ByteArray := ⟨#[34, 121, 34]⟩
def tx : ByteArray := ⟨#[120]⟩
theorem tags_x : tagsB qx.toList = ([B [120]], false, true) := by
  rw [show qx.toList = [34, 120, 34] from B_toList _]; rfl
theorem tags_y : tagsB qy.toList = ([B [121]], false, true) := by
  rw [show qy.toList = [34, 121, 34] from B_toList _]; rfl
theorem ok_x : okT qx := by
  refine ⟨by show 3 ≤ _; omega, ?_⟩
  rw [show qx.toList = [34, 120, 34] from B_toList _]; simp [splitB]
theorem ok_y : okT qy := by
  refine ⟨by show 3 ≤ _; omega, ?_⟩
  rw [show qy.toList = [34, 121, 34] from B_toList _]; simp [splitB]
theorem has_x : hasB [B [120]] tx = true := by
  rw [hasB, List.any_cons, B_toList, show tx.toList = [120] from B_toList _]; rfl
theorem has_y : hasB [B [121]] tx = false := by
  rw [hasB, List.any_cons, B_toList, show tx.toList = [120] from B_toList _]; rfl
theorem first_a (T : ByteArray) (t time : Int) (reads : Bool) (h : Ev (fun k => when_ParseHttp.f k T) (t, true)) :
    Ev (fun k => cond_Ask.f k ([⟨nSince, T⟩, ⟨nMatch, qx⟩] : List S41) tx time reads) 0 := by
  have g1 : getB nMatch [⟨nSince, T⟩, ⟨nMatch, qx⟩] = (qx, true) := by rw [getB_no ne1, getB_yes]
  have g2 : getB nNone [⟨nSince, T⟩, ⟨nMatch, qx⟩] = (⟨#[]⟩, false) := by rw [getB_no ne2, getB_no ne9, getB_nil]
  have g3 : getB nAfter [⟨nSince, T⟩, ⟨nMatch, qx⟩] = (⟨#[]⟩, false) := by rw [getB_no ne3, getB_no ne8, getB_nil]
  have g4 : getB nSince [⟨nSince, T⟩, ⟨nMatch, qx⟩] = (T, true) := getB_yes _ _ _
  have := ask_ev [⟨nSince, T⟩, ⟨nMatch, qx⟩] tx time reads (t, true) (0, false) (by simp) (by rw [g1]; exact ok_x) (by rw [g2]; exact empty_okT) (by rw [g4]; exact h) (by rw [g3]; exact http_empty)
  refine ev_eq this ?_
  rw [taggedB, taggedB, g1, g2, g3, g4, tags_x]
  simp [askB, has_x]
theorem first_b (T : ByteArray) (t time : Int) (reads : Bool) (h : Ev (fun k => when_ParseHttp.f k T) (t, true)) :
    Ev (fun k => cond_Ask.f k ([⟨nAfter, T⟩, ⟨nNone, qy⟩] : List S41) tx time reads) 0 := by
  have g1 : getB nMatch [⟨nAfter, T⟩, ⟨nNone, qy⟩] = (⟨#[]⟩, false) := by rw [getB_no ne4, getB_no ne12, getB_nil]
  have g2 : getB nNone [⟨nAfter, T⟩, ⟨nNone, qy⟩] = (qy, true) := by rw [getB_no ne5, getB_yes]
  have g3 : getB nSince [⟨nAfter, T⟩, ⟨nNone, qy⟩] = (⟨#[]⟩, false) := by rw [getB_no ne6, getB_no ne10, getB_nil]
  have g4 : getB nAfter [⟨nAfter, T⟩, ⟨nNone, qy⟩] = (T, true) := getB_yes _ _ _
  have := ask_ev [⟨nAfter, T⟩, ⟨nNone, qy⟩] tx time reads (0, false) (t, true) (by simp) (by rw [g1]; exact empty_okT) (by rw [g2]; exact ok_y) (by rw [g3]; exact http_empty) (by rw [g4]; exact h)
  refine ev_eq this ?_
  rw [taggedB, taggedB, g1, g2, g3, g4, tags_y]
  simp [askB, has_y]
theorem first_c (time : Int) (reads : Bool) :
    Ev (fun k => cond_Ask.f k ([⟨nMatch, qy⟩, ⟨nNone, qx⟩] : List S41) tx time reads) 327 := by
  have g1 : getB nMatch [⟨nMatch, qy⟩, ⟨nNone, qx⟩] = (qy, true) := getB_yes _ _ _
  have g2 : getB nNone [⟨nMatch, qy⟩, ⟨nNone, qx⟩] = (qx, true) := by rw [getB_no ne9, getB_yes]
  have g3 : getB nSince [⟨nMatch, qy⟩, ⟨nNone, qx⟩] = (⟨#[]⟩, false) := by rw [getB_no ne7, getB_no ne10, getB_nil]
  have g4 : getB nAfter [⟨nMatch, qy⟩, ⟨nNone, qx⟩] = (⟨#[]⟩, false) := by rw [getB_no ne8, getB_no ne11, getB_nil]
  have := ask_ev [⟨nMatch, qy⟩, ⟨nNone, qx⟩] tx time reads (0, false) (0, false) (by simp) (by rw [g1]; exact ok_y) (by rw [g2]; exact ok_x) (by rw [g3]; exact http_empty) (by rw [g4]; exact http_empty)
  refine ev_eq this ?_
  rw [taggedB, taggedB, g1, g2, g3, g4, tags_x, tags_y]
  simp [askB, has_y]
theorem CondFirst : stowagelaw21_CondFirst.Pure := by
  intro t o reads ht ho
  apply Ev.rounds
  simp only [stowagelaw21_CondFirst.f]
  have out : Ev (fun k => stowagelaw21_CondFirst.j0 k t o reads true) true := Ev.step (f := fun k => (stowagelaw21_awake.f k).bind fun t => some t) (fun k => by rw [stowagelaw21_CondFirst.j0, if_pos rfl]) (Ev.bind awake_ev (Ev.now _))
  by_cases h0 : t < 0
  · exact ev_pos h0 out
  refine ev_neg h0 ?_
  by_cases h1 : t > 253402300799
  · exact ev_pos h1 out
  refine ev_neg h1 ?_
  by_cases h2 : o < 0
  · exact ev_pos h2 out
  refine ev_neg h2 ?_
  by_cases h3 : o > 253402300799
  · rw [decide_eq_true h3]; exact out
  rw [decide_eq_false h3]
  refine Ev.step (f := fun k => _) (fun k => by rw [stowagelaw21_CondFirst.j0, if_neg (by simp)]) ?_
  obtain ⟨T, hT, hp⟩ := date_ev o (by omega) (by omega)
  refine Ev.bind hT (Ev.bind (first_a T o t reads hp) (Ev.bind (first_b T o t reads hp) (Ev.bind (first_c t reads) ?_)))
  refine ev_pos rfl (ev_pos rfl (ev_pos rfl ?_))
  exact Ev.bind awake_ev (Ev.now _)
end Go.Proofs.Ythjofhklkkmdoaa.Pure
