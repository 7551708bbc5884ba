/- A part of the proof of the seat's laws. No condition beyond those in the theorems. -/
import Derived.Test.YtiaihkcadffllaaDoorZEvB
import Derived.Test.YtiaihkcadffllaaDoorZQ0g8

namespace Go.Proofs.YtiaihkcadffllaaDoor.Pure
open Go.RowKit Go.Proofs.YtiaihkcadffllaaDoor.Q Go.Proofs.YtiaihkcadffllaaDoorW.PrintWords Go.Proofs.YtiaihkcadffllaaDoorW.PrintLast
set_option linter.unusedVariables false
set_option linter.unusedSimpArgs false
def getB (name : ByteArray) : List S37 → ByteArray × Bool
  | [] => (⟨#[]⟩, false)
  | h :: l => if h.f0.toList = name.toList then (h.f1, true) else getB name l
theorem get_l0 (name : ByteArray) (all : List S37) (hn : all.length ≤ 1000000000000000) (l : List S37) : ∀ pre : List S37, all = pre ++ l → Ev (fun k => http_Get.l0 k name all (all.length : Int) (pre.length : Int)) (getB name l) := by
  induction l with
  | nil =>
    intro pre e
    rw [List.append_nil] at e
    exact Ev.step (f := fun _ => some (⟨#[]⟩, false)) (fun k => by rw [http_Get.l0, if_neg (by rw [e]; omega)]) (Ev.now _)
  | cons h l ih =>
    intro pre e
    have hlen : all.length = pre.length + (l.length + 1) := by rw [e, List.length_append, List.length_cons]
    have hget : rd_T37 all (pre.length : Int) = h := by rw [rd_T37]; simp [e]
    refine Ev.step (f := fun k => _) (fun k => by rw [http_Get.l0, if_pos (by omega), if_pos (by omega), if_pos (by omega), hget, w64 (n := (pre.length : Int) + 1) (by omega) (by omega)]) ?_
    rw [getB]
    by_cases c : h.f0.toList = name.toList
    · rw [if_pos c]; exact ev_pos c (Ev.now _)
    · rw [if_neg c]
      refine ev_neg c ?_
      have := ih (pre ++ [h]) (by rw [e]; simp)
      rw [show (((pre ++ [h]).length : Nat) : Int) = (pre.length : Int) + 1 by simp] at this
      exact this
theorem get_ev (name : ByteArray) (l : List S37) (hn : l.length ≤ 1000000000000000) : Ev (fun k => http_Get.f k l name) (getB name l) := get_l0 name l hn l [] rfl
end Go.Proofs.YtiaihkcadffllaaDoor.Pure
