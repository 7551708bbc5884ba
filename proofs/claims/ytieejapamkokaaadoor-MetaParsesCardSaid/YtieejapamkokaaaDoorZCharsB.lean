/- A part of the proof of the seat's laws. No condition beyond those in the theorems. -/
import Derived.Test.YtieejapamkokaaaDoorZByB

namespace Go.Proofs.YtieejapamkokaaaDoor.Pure
open Go.RowKit Go.Proofs.YtieejapamkokaaaDoorW.PrintWords
set_option linter.unusedVariables false
set_option linter.unusedSimpArgs false
theorem bt_pre (s : ByteArray) (pre l : List UInt8) (c : UInt8) (h : s.toList = pre ++ c :: l) : bt s (pre.length : Int) = (c.toNat : Int) ∧ pre.length < s.size := by
  apply bt_drop s pre.length c l
  rw [h, List.drop_left']
  rfl
theorem pre_end (s : ByteArray) (pre : List UInt8) (h : s.toList = pre ++ []) : s.size = pre.length := by rw [← length_toList, h, List.append_nil]
theorem pre_le (s : ByteArray) (pre l : List UInt8) (h : s.toList = pre ++ l) : pre.length + l.length = s.size := by rw [← length_toList, h, List.length_append]
theorem pre_next (pre : List UInt8) (c : UInt8) (n : Nat) (h : pre.length < n) (hn : n ≤ 9000000000000000000) : wrap64 ((pre.length : Int) + 1) = ((pre ++ [c]).length : Int) := by
  rw [w64 (by omega) (by omega), List.length_append]
  simp
theorem pre_app (s : ByteArray) (pre l : List UInt8) (c : UInt8) (h : s.toList = pre ++ c :: l) : s.toList = (pre ++ [c]) ++ l := by rw [h]; simp
def nm (a : List UInt8) : List Int := a.map fun c => (c.toNat : Int)
theorem nm_len (a : List UInt8) : (nm a).length = a.length := by simp [nm]
theorem nm_app (a : List UInt8) (c : UInt8) : nm a ++ [(c.toNat : Int)] = nm (a ++ [c]) := by simp [nm]
theorem nm_str (a : List UInt8) : strOfNums (nm a) = B a := by
  unfold strOfNums nm B
  rw [List.map_map]
  congr 2
  exact (List.map_congr_left (fun c _ => by simp)).trans (List.map_id a)
end Go.Proofs.YtieejapamkokaaaDoor.Pure
