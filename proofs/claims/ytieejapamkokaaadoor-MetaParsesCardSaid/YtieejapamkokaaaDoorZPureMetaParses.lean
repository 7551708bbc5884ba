/- A part of the proof of the seat's laws. No condition beyond those in the theorems. -/
import Derived.Test.YtieejapamkokaaaDoorZRParseB
import Derived.Test.YtieejapamkokaaaDoorZQ88

namespace Go.Proofs.YtieejapamkokaaaDoor.Pure
open Go.RowKit Go.Proofs.YtieejapamkokaaaDoor.Q Go.Proofs.YtieejapamkokaaaDoorW.PrintWords Go.Proofs.YtieejapamkokaaaDoorW.PrintLast Go.Proofs.YtieejapamkokaaaDoorW.PrintMore
set_option linter.unusedVariables false
set_option linter.unusedSimpArgs false
theorem tell_same (o : Option (List UInt8 × List UInt8 × Nat)) : (tell o).1 = (tellR o).1 ∧ (tell o).2.1 = (tellR o).2.1 ∧ (tell o).2.2.1 = (tellR o).2.2.1 ∧ (tell o).2.2.2 = (tellR o).2.2.2.2 := by rcases o with _ | ⟨b, k, n⟩ <;> exact ⟨rfl, rfl, rfl, rfl⟩
theorem tellO_same (o : Option (List UInt8 × List UInt8 × Nat)) : (tellO o).1 = (tellRO o).1 ∧ (tellO o).2.1 = (tellRO o).2.1 ∧ (tellO o).2.2.1 = (tellRO o).2.2.1 ∧ (tellO o).2.2.2 = (tellRO o).2.2.2.2 := by rcases o with _ | ⟨b, k, n⟩ <;> exact ⟨rfl, rfl, rfl, rfl⟩
theorem MetaParses : stowagelaw12_MetaParses.Pure := by
  intro s hs
  refine Ev.rounds ?_
  have bo := tellO_same (D 79 s.toList)
  have bu := tell_same (D 85 s.toList)
  refine Ev.bind (parseBucket_ev s (by omega)) (Ev.bind (rparseBucket_ev s (by omega)) (ev_pos rfl ?_))
  rw [show ((bucketR s.toList).2 != (bucketR s.toList).2) = false by simp]
  refine Ev.step (f := fun k => (meta_ParseObject.f k s).bind fun bt346 => ((stowageref12_ParseObject.f k s).bind fun bt350 => (if bt346.1.toList = bt350.1.toList then (if bt346.2.1.toList = bt350.2.1.toList then (if bt346.2.2.1 = bt350.2.2.1 then (stowagelaw12_MetaParses.j1 k s (bt346.2.2.2 != bt350.2.2.2.2)) else (stowagelaw12_MetaParses.j1 k s true)) else (stowagelaw12_MetaParses.j1 k s true)) else (stowagelaw12_MetaParses.j1 k s true)))) (fun k => by rw [stowagelaw12_MetaParses.j0, if_neg (by decide)]) ?_
  refine Ev.bind (object_ev s (by omega)) (Ev.bind (robject_ev s hs) (ev_pos (by rw [bo.1]) (ev_pos (by rw [bo.2.1]) (ev_pos bo.2.2.1 ?_))))
  rw [bo.2.2.2, show ((tellRO (D 79 s.toList)).2.2.2.2 != (tellRO (D 79 s.toList)).2.2.2.2) = false by simp]
  refine Ev.step (f := fun k => (meta_ParseUpload.f k s).bind fun bt355 => ((stowageref12_ParseUpload.f k s).bind fun bt359 => (if bt355.1.toList = bt359.1.toList then (if bt355.2.1.toList = bt359.2.1.toList then (if bt355.2.2.1 = bt359.2.2.1 then (stowagelaw12_MetaParses.j2 k s (bt355.2.2.2 != bt359.2.2.2.2)) else (stowagelaw12_MetaParses.j2 k s true)) else (stowagelaw12_MetaParses.j2 k s true)) else (stowagelaw12_MetaParses.j2 k s true)))) (fun k => by rw [stowagelaw12_MetaParses.j1, if_neg (by decide)]) ?_
  refine Ev.bind (upload_ev s (by omega)) (Ev.bind (rupload_ev s hs) (ev_pos (by rw [bu.1]) (ev_pos (by rw [bu.2.1]) (ev_pos bu.2.2.1 ?_))))
  rw [bu.2.2.2, show ((tellR (D 85 s.toList)).2.2.2.2 != (tellR (D 85 s.toList)).2.2.2.2) = false by simp]
  refine Ev.step (f := fun k => (meta_ParsePart.f k s).bind fun bt364 => ((stowageref12_ParsePart.f k s).bind fun bt367 => (if bt364.1 = bt367.2.2.1 then (if bt364.2.1 = bt367.2.2.2.1 then (stowagelaw12_MetaParses.j3 k s (bt364.2.2 != bt367.2.2.2.2)) else (stowagelaw12_MetaParses.j3 k s true)) else (stowagelaw12_MetaParses.j3 k s true)))) (fun k => by rw [stowagelaw12_MetaParses.j2, if_neg (by decide)]) ?_
  refine Ev.bind (parsePart_ev s (by omega)) (Ev.bind (rparsePart_ev s hs) (ev_pos rfl (ev_pos rfl ?_)))
  rw [show ((partR s.toList).2.2 != (partR s.toList).2.2) = false by simp]
  refine Ev.step (f := fun k => (meta_Seq.f k s).bind fun bt372 => ((stowageref12_Seq.f k s).bind fun bt374 => (if bt372.1 = bt374.1 then (if (bt372.2 == bt374.2) = true then ((stowagelaw12_awake.f k).bind fun t376 => (some t376)) else (some false)) else (some false)))) (fun k => by rw [stowagelaw12_MetaParses.j3, if_neg (by decide)]) ?_
  exact Ev.bind (seq_ev s hs) (Ev.bind (rseq_ev s hs) (ev_pos rfl (ev_pos (by simp) aw_ev)))
end Go.Proofs.YtieejapamkokaaaDoor.Pure
