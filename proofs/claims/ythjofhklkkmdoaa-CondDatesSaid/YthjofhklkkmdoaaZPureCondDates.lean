/- A part of the proof of the seat's laws. No condition beyond those in the theorems. -/
import Derived.Test.YthjofhklkkmdoaaZCondDate
import Derived.Test.YthjofhklkkmdoaaZQ65

namespace Go.Proofs.Ythjofhklkkmdoaa.Pure
open Go.RowKit Go.Proofs.Ythjofhklkkmdoaa.Q Go.Proofs.YthjofhklkkmdoaaW.PrintWords Go.Proofs.YthjofhklkkmdoaaW.PrintLast
set_option linter.unusedVariables false
set_option linter.unusedSimpArgs false
theorem told_ev {t : Int} {T : ByteArray} (n : ByteArray) (h : Ev (fun k => stowageref4_Http.f k t) T) : Ev (fun k => stowagelaw21_CondDates_1.f k n t) [⟨n, T⟩] := by
  simp only [stowagelaw21_CondDates_1.f]
  exact Ev.bind h (Ev.now _)
theorem CondDates : stowagelaw21_CondDates.Pure := by
  intro e t he ht
  apply Ev.rounds
  simp only [stowagelaw21_CondDates.f]
  have out : Ev (fun k => stowagelaw21_CondDates.j0 k e t true) true := Ev.step (f := fun k => (stowagelaw21_awake.f k).bind fun t => some t) (fun k => by rw [stowagelaw21_CondDates.j0, if_pos rfl]) (Ev.bind awake_ev (Ev.now _))
  by_cases h0 : t < 1
  · exact ev_pos h0 out
  refine ev_neg h0 ?_
  by_cases h1 : t ≥ 253402300799
  · rw [decide_eq_true h1]; exact out
  rw [decide_eq_false h1]
  refine Ev.step (f := fun k => _) (fun k => by rw [stowagelaw21_CondDates.j0, if_neg (by simp)]) ?_
  obtain ⟨T, hT, hp⟩ := date_ev t (by omega) (by omega)
  obtain ⟨U, hU, hq⟩ := date_ev (t - 1) (by omega) (by omega)
  rw [w64 (n := t - 1) (by omega) (by omega)]
  refine Ev.bind (told_ev nAfter hT) (Ev.bind (ask_after T e t t true hp) ?_)
  refine Ev.bind (told_ev nAfter hU) (Ev.bind (ask_after U e (t - 1) t true hq) ?_)
  refine Ev.bind (told_ev nSince hT) (Ev.bind (ask_since T e t t false hp) ?_)
  refine Ev.bind (told_ev nSince hU) (Ev.bind (ask_since U e (t - 1) t false hq) ?_)
  refine Ev.bind (told_ev nAfter hT) (Ev.bind (ask_after T e t t false hp) ?_)
  refine ev_pos (by simp) (ev_pos (by rw [if_neg]; simp; omega) (ev_pos (by rw [if_neg]; omega) (ev_pos (by rw [if_pos]; omega) (ev_pos (by simp) ?_))))
  exact Ev.bind awake_ev (Ev.now _)
end Go.Proofs.Ythjofhklkkmdoaa.Pure
