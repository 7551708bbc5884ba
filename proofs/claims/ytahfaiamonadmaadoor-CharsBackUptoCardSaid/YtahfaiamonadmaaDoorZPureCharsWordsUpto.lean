/- A part of the proof of the seat's laws. No condition beyond those in the theorems. -/
import Derived.Test.YtahfaiamonadmaaDoorZCharsAwake
import Derived.Test.YtahfaiamonadmaaDoorZFoldB
import Derived.Test.YtahfaiamonadmaaDoorZRSplitB
import Derived.Test.YtahfaiamonadmaaDoorZSameB
import Derived.Test.YtahfaiamonadmaaDoorZQ53g2

namespace Go.Proofs.YtahfaiamonadmaaDoor.Pure
open Go.RowKit Go.Proofs.YtahfaiamonadmaaDoor.Q Go.Proofs.YtahfaiamonadmaaDoorW.PrintWords Go.Proofs.YtahfaiamonadmaaDoorW.PrintLast
set_option linter.unusedVariables false
set_option linter.unusedSimpArgs false
theorem u8_of (a : Int) (h : (Lit.int .u8 a).wf = true) : ∃ c : UInt8, a = (c.toNat : Int) := by
  simp [Lit.wf] at h
  have e1 : IntKind.u8.min = 0 := by kernel_rfl
  have e2 : IntKind.u8.max = 255 := by kernel_rfl
  refine ⟨a.toNat.toUInt8, ?_⟩
  rw [Nat.toUInt8, UInt8.toNat_ofNat']
  omega
theorem splitB_num (c : UInt8) (l : List UInt8) : ∀ cur, (splitB c cur l).length ≤ l.length + 1 := by
  induction l with
  | nil => intro cur; simp [splitB]
  | cons a l ih =>
    intro cur
    rw [splitB]
    by_cases g : a = c
    · rw [if_pos g]
      have := ih []
      simp
      omega
    · rw [if_neg g]
      have := ih (cur ++ [a])
      simp
      omega
theorem CharsWordsUpto (a0 : ByteArray) (a1 : Int) (h : a0.size ≤ 1048576) (h1 : (Lit.int .u8 a1).wf = true) : ∃ k, stowagelaw3_CharsWords.f k a0 a1 = some true := by
  obtain ⟨c, rfl⟩ := u8_of a1 h1
  have hn : (splitB c [] a0.toList).length ≤ 1048577 := by have := splitB_num c a0.toList []; rw [length_toList] at this; omega
  refine Ev.rounds ?_
  refine Ev.bind (token_ev a0 (by omega)) (Ev.bind (rtoken_ev a0 (by omega)) (ev_pos (by simp) ?_))
  refine Ev.bind (value_ev a0 (by omega)) (Ev.bind (rvalue_ev a0 (by omega)) (ev_pos (by simp) ?_))
  refine Ev.bind (trim_ev a0 (by omega)) (Ev.bind (rtrim_ev a0 (by omega)) (ev_pos rfl ?_))
  refine Ev.bind (fold_ev a0 (by omega)) (Ev.bind (rfold_ev a0 (by omega)) (ev_pos rfl ?_))
  refine ev_some (lower_eq a0 (by omega)) (Ev.bind (rlower_ev a0 (by omega)) (ev_pos rfl ?_))
  refine Ev.bind (split_ev a0 c (by omega) (by omega)) (Ev.bind (rsplit_ev a0 c (by omega) (by omega)) (Ev.bind (same_ev _ (by rw [List.length_map]; omega)) (ev_pos rfl ?_)))
  exact Ev.bind awake_ev (Ev.now true)
end Go.Proofs.YtahfaiamonadmaaDoor.Pure
