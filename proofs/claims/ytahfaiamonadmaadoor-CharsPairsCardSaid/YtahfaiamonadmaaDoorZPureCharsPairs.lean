/- A part of the proof of the seat's laws. No condition beyond those in the theorems. -/
import Derived.Test.YtahfaiamonadmaaDoorZCharsAwake
import Derived.Test.YtahfaiamonadmaaDoorZCountL
import Derived.Test.YtahfaiamonadmaaDoorZQ71g2

namespace Go.Proofs.YtahfaiamonadmaaDoor.Pure
open Go.RowKit Go.Proofs.YtahfaiamonadmaaDoor.Q Go.Proofs.YtahfaiamonadmaaDoorW.PrintWords Go.Proofs.YtahfaiamonadmaaDoorW.PrintLast
set_option linter.unusedVariables false
set_option linter.unusedSimpArgs false
theorem cO_le (k : Nat) : ∀ l m, cO k l = some m → m ≤ l.length := by
  induction k with
  | zero => intro l m h; simp only [cO, Option.some.injEq] at h; omega
  | succ k ih =>
    intro l m h
    cases l with
    | nil => simp only [cO, Option.some.injEq] at h; omega
    | cons c l =>
      rw [cO] at h
      by_cases g : (stL (c :: l)).2 = 0
      · rw [if_pos g] at h; simp at h
      · rw [if_neg g] at h
        obtain ⟨m', hm', rfl⟩ := Option.map_eq_some_iff.mp h
        have := ih _ m' hm'
        rw [List.length_drop] at this
        simp only [List.length_cons] at this ⊢
        omega
theorem CharsPairs : stowagelaw3_CharsPairs.Pure := by
  intro a0 a1 h h1
  have hz : (a0 ++ a1).size = a0.size + a1.size := ByteArray.size_append
  have l0 := length_toList a0
  have l1 := length_toList a1
  refine Ev.rounds ?_
  refine ev_some (count_eq a0 (by omega)) (ev_some (count_eq a1 (by omega)) (ev_pos (by omega) (ev_some (count_eq (a0 ++ a1) (by omega)) ?_)))
  rw [hz, toList_append]
  have aw : Ev (fun k => (stowagelaw3_awake.f k).bind fun t => some t) true := Ev.bind awake_ev (Ev.now true)
  cases ha : cO a0.size a0.toList with
  | none =>
    refine ev_neg (by simp [cR]) ?_
    refine Ev.step (f := fun k => (stowagelaw3_awake.f k).bind fun t => some t) (fun k => ?_) aw
    rw [stowagelaw3_CharsPairs.j0, if_neg (by decide), if_neg (by simp [cR])]
  | some m =>
    have happ := cO_app a0.size a0.toList a1.toList m (by omega) ha
    have lapp := lO_app a0.size a0.toList a1.toList m (by omega) ha
    rw [l1] at happ lapp
    rw [happ]
    refine ev_pos rfl ?_
    cases hb : cO a1.size a1.toList with
    | none =>
      refine Ev.step (f := fun k => (stowagelaw3_awake.f k).bind fun t => some t) (fun k => ?_) aw
      rw [stowagelaw3_CharsPairs.j0, if_neg (by simp [cR]), if_pos (by simp [cR]), if_neg (by simp [cR])]
    | some m1 =>
      have hm := cO_le _ _ _ ha
      have hm1 := cO_le _ _ _ hb
      refine Ev.step (f := fun k => (chars_Legal.f (a0 ++ a1)).bind fun t267 => ((chars_Legal.f a0).bind fun t268 => (if t268 = true then ((chars_Legal.f a1).bind fun t269 => (if (t267 == t269) = true then ((stowagelaw3_awake.f k).bind fun t270 => (some t270)) else (some false))) else (if (t267 == false) = true then ((stowagelaw3_awake.f k).bind fun t271 => (some t271)) else (some false))))) (fun k => ?_) ?_
      · rw [stowagelaw3_CharsPairs.j0, if_pos (by simp [cR]), if_pos (by simp [cR]), if_pos (by simp only [cR, Option.map_some]; rw [w64 (by omega) (by omega)]; omega), if_pos (by omega)]
      · refine ev_some (legal_eq (a0 ++ a1) (by omega)) (ev_some (legal_eq a0 (by omega)) ?_)
        rw [hz, toList_append, lapp]
        cases hl : lO a0.size a0.toList
        · exact ev_neg (by decide) (ev_pos (by simp) aw)
        · exact ev_pos rfl (ev_some (legal_eq a1 (by omega)) (ev_pos (by simp) aw))
end Go.Proofs.YtahfaiamonadmaaDoor.Pure
