/- A part of the proof of the seat's laws. No condition beyond those in the theorems. -/
import Derived.Test.YtiaihkcadffllaaDoorZByB
import Derived.Test.YtiaihkcadffllaaDoorZQ0g8
import Derived.Test.YtiaihkcadffllaaDoorZQ62g4

namespace Go.Proofs.YtiaihkcadffllaaDoor.Pure
open Go.RowKit Go.Proofs.YtiaihkcadffllaaDoor.Q Go.Proofs.YtiaihkcadffllaaDoorW.PrintWords Go.Proofs.YtiaihkcadffllaaDoorW.PrintLast
set_option linter.unusedVariables false
set_option linter.unusedSimpArgs false
def nmw (a : List UInt8) : List Int := a.map fun c => (c.toNat : Int)
theorem nmw_len (a : List UInt8) : (nmw a).length = a.length := by simp [nmw]
theorem nmw_app (a : List UInt8) (c : UInt8) : nmw a ++ [(c.toNat : Int)] = nmw (a ++ [c]) := by simp [nmw]
theorem nmw_str (a : List UInt8) : strOfNums (nmw a) = B a := by
  unfold strOfNums nmw B
  rw [List.map_map]
  congr 2
  exact (List.map_congr_left (fun c _ => by simp)).trans (List.map_id a)
theorem loww_int (c : UInt8) (h1 : 65 ≤ c.toNat) (h2 : c.toNat ≤ 90) : ((c.toNat : Int) + 32) % 256 = ((chars_Lower.b c).toNat : Int) := by
  rw [chars_Lower.b, if_pos ⟨h1, h2⟩, chars_Lower.add32 c h2]
  omega
def lowB (s : ByteArray) : ByteArray := B (s.toList.map chars_Lower.b)
theorem lowB_size (s : ByteArray) : (lowB s).size = s.size := by rw [lowB, B_size, List.length_map, length_toList]
theorem rloww_l0 (s : ByteArray) (hs : s.size ≤ 140737488351232) (l : List UInt8) : ∀ pre acc : List UInt8, s.toList = pre ++ l → acc.length = pre.length → Ev (fun k => stowageref3_Lower.l0 k s (nmw acc) (pre.length : Int)) (B (acc ++ l.map chars_Lower.b)) := by
  induction l with
  | nil =>
    intro pre acc h _
    have e : s.size = pre.length := by rw [← length_toList, h, List.append_nil]
    exact Ev.step (f := fun _ => some (strOfNums (nmw acc))) (fun k => by rw [stowageref3_Lower.l0, if_neg (by omega)]) (ev_eq (Ev.now _) (by rw [nmw_str]; simp))
  | cons c l ih =>
    intro pre acc h ha
    obtain ⟨hb, hl⟩ := bt_drop s pre.length c l (by rw [h, List.drop_left']; rfl)
    have hn : wrap64 ((pre.length : Int) + 1) = ((pre ++ [c]).length : Int) := by
      rw [w64 (by omega) (by omega), List.length_append]; simp
    refine Ev.step (f := fun k => stowageref3_Lower.l0 k s (nmw (acc ++ [chars_Lower.b c])) ((pre ++ [c]).length : Int)) (fun k => ?_) (ev_eq (ih (pre ++ [c]) (acc ++ [chars_Lower.b c]) (by rw [h]; simp) (by simp [ha])) (by simp))
    rw [stowageref3_Lower.l0, if_pos (by omega), if_pos (by omega), hb, hn]
    by_cases h1 : (c.toNat : Int) ≥ 65
    · rw [if_pos h1]
      by_cases h2 : (c.toNat : Int) ≤ 90
      · rw [if_pos h2, if_pos (by rw [nmw_len]; omega), loww_int c (by omega) (by omega), nmw_app]
      · rw [if_neg h2, if_pos (by rw [nmw_len]; omega), nmw_app, show chars_Lower.b c = c by rw [chars_Lower.b, if_neg (by omega)]]
    · rw [if_neg h1, if_pos (by rw [nmw_len]; omega), nmw_app, show chars_Lower.b c = c by rw [chars_Lower.b, if_neg (by omega)]]
theorem loww_eq (s : ByteArray) (hs : s.size ≤ 140737488351232) : chars_Lower.f s = some (lowB s) := by
  rw [chars_Lower.f, if_pos hs, chars_Lower.s, lowB, ByteArray.toList_eq]
  rfl
theorem rloww_ev (s : ByteArray) (hs : s.size ≤ 140737488351232) : Ev (fun k => stowageref3_Lower.f k s) (lowB s) := rloww_l0 s hs s.toList [] [] rfl rfl
end Go.Proofs.YtiaihkcadffllaaDoor.Pure
