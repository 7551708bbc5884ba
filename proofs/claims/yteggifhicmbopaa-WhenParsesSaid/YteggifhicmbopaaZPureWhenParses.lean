/- A part of the proof of the seat's laws. No condition beyond those in the theorems. -/
import Derived.Test.YteggifhicmbopaaZWhenHttp
import Derived.Test.YteggifhicmbopaaZQ45

namespace Go.Proofs.Yteggifhicmbopaa.Pure
open Go.RowKit Go.Proofs.Yteggifhicmbopaa.Q Go.Proofs.YteggifhicmbopaaW.PrintWords Go.Proofs.YteggifhicmbopaaW.PrintLast Cal
set_option linter.unusedVariables false
set_option linter.unusedSimpArgs false
theorem WhenParses : stowagelaw4_WhenParses.Pure := by
  intro a ha
  apply Ev.rounds
  obtain ⟨⟨r1, r2⟩, a1, b1⟩ := parseBasic_same a
  obtain ⟨⟨r3, r4⟩, a2, b2⟩ := parseHttp_same a
  obtain ⟨⟨r5, r6⟩, a3, b3⟩ := parseDay_same a ha
  simp only [stowagelaw4_WhenParses.f]
  refine Ev.bind a1 (Ev.bind b1 (Ev.bind a2 (Ev.bind b2 (Ev.bind a3 (Ev.bind b3 ?_)))))
  simp only [if_true, beq_self_eq_true]
  exact awb
end Go.Proofs.Yteggifhicmbopaa.Pure
