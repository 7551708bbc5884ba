/- A part of the proof of the seat's laws. No condition beyond those in the theorems. -/
import Derived.Test.YthjofhklkkmdoaaZRefTags
import Derived.Test.YthjofhklkkmdoaaZCondAwake
import Derived.Test.YthjofhklkkmdoaaZQ47g3

namespace Go.Proofs.Ythjofhklkkmdoaa.Pure
open Go.RowKit Go.Proofs.Ythjofhklkkmdoaa.Q Go.Proofs.YthjofhklkkmdoaaW.PrintWords Go.Proofs.YthjofhklkkmdoaaW.PrintLast
set_option linter.unusedVariables false
set_option linter.unusedSimpArgs false
theorem CondTagsUpto (s : ByteArray) (hs : s.size ≤ 1099511627776) : ∃ k, stowagelaw21_CondTags.f k s = some true := by
  have hsl := length_toList s
  have hn := (splitB_len 44 s.toList []).1
  apply Ev.rounds
  simp only [stowagelaw21_CondTags.f]
  refine Ev.bind (tags_ev s (by omega) (by omega)) (Ev.bind (rtags_ev s (by omega) (by omega)) ?_)
  have hl : (tagsB s.toList).1.length ≤ 8796093022208 := by
    have key : ∀ ps o, allB ps = some o → o.length = ps.length := by
      intro ps
      induction ps with
      | nil => intro o h; rw [allB] at h; obtain rfl := Option.some.inj h; rfl
      | cons p ps ih =>
        intro o h
        rw [allB] at h
        split at h
        · cases h
        · obtain ⟨o', h', rfl⟩ := Option.map_eq_some_iff.mp h
          rw [List.length_cons, List.length_cons, ih o' h']
    rw [tagsB]
    split
    · simp
    · cases e : allB (splitB 44 [] s.toList) with
      | none => simp
      | some o => simp [key _ o e]; omega
  refine Ev.bind (same_ev _ (by omega)) ?_
  refine ev_pos rfl (ev_pos (by simp) (ev_pos (by simp) ?_))
  exact Ev.bind awake_ev (Ev.now _)
end Go.Proofs.Ythjofhklkkmdoaa.Pure
