/- A part of the proof of the seat's laws. No condition beyond those in the theorems. -/
import Derived.Test.YtieejapamkokaaaDoorZPlaceB
import Derived.Test.YtieejapamkokaaaDoorZQ62g4

namespace Go.Proofs.YtieejapamkokaaaDoor.Pure
open Go.RowKit Go.Proofs.YtieejapamkokaaaDoor.Q Go.Proofs.YtieejapamkokaaaDoorW.PrintWords Go.Proofs.YtieejapamkokaaaDoorW.PrintLast
set_option linter.unusedVariables false
set_option linter.unusedSimpArgs false
theorem MetaKeys : stowagelaw12_MetaKeys.Pure := by
  intro a0 a1 a2 a3 h0 h1 h2 h3
  have b2 := wf_bd h2
  have b3 := wf_bd h3
  refine Ev.rounds ?_
  refine ev_some (bucketKey_eq a0 (by omega)) (ev_some (rbucketKey_eq a0 (by omega)) (ev_pos rfl ?_))
  refine Ev.bind (objectKey_ev a0 a1 a2 (by omega) (by omega) b2.2) (ev_some (robjectKey_eq a0 a1 a2 (by omega) (by omega) b2.2) (ev_pos rfl ?_))
  refine Ev.bind (uploadKey_ev a0 a1 a2 (by omega) (by omega) b2.2) (ev_some (ruploadKey_eq a0 a1 a2 (by omega) (by omega) b2.2) (ev_pos rfl ?_))
  refine Ev.bind (partKey_ev a2 a3 b2.2 b3.2) (ev_some (rpartKey_eq a2 a3 b2.2 b3.2) (ev_pos rfl ?_))
  refine Ev.bind (id_ev a2 b2.2) (Ev.bind (rid_ev a2 b2.2) (ev_pos rfl ?_))
  exact aw_ev
end Go.Proofs.YtieejapamkokaaaDoor.Pure
