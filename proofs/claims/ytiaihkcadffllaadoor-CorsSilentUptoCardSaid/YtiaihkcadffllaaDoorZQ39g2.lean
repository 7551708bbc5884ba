/- A part of the proof of the seat's laws. No condition beyond those in the theorems. -/
import Derived.Test.YtiaihkcadffllaaDoorZShelf
import Derived.Test.YtiaihkcadffllaaDoorZQ0g8
import Derived.Test.YtiaihkcadffllaaDoorZBase
import Derived.Lib.ItoaLen

namespace Go.Proofs.YtiaihkcadffllaaDoor.Q
open Go.RowKit Go.Proofs.YtiaihkcadffllaaDoorW.PrintWords Go.Proofs.YtiaihkcadffllaaDoorW.PrintLast Go.Proofs.YtiaihkcadffllaaDoorW.PrintMore
set_option linter.unusedVariables false
set_option linter.unusedSimpArgs false
attribute [local go_sem] max2_int min2_int max_two min_two max_three min_three max_four min_four   
def strings_Join.f (l0 : List ByteArray) (a1 : ByteArray) : Option ByteArray := if (Lib.join (l0.map (·.data.toList)) a1.data.toList).length ≤ 140737488355328 then (if l0.length ≤ 140737488355328 then some ⟨(Lib.join (l0.map (·.data.toList)) a1.data.toList).toArray⟩ else none) else none
theorem strings_Join.calls (A0 : Option Addr) (c0 : Nat) (l0 : List ByteArray) (a1 : ByteArray) (r : ByteArray) (w : World) (hr0 : Kd.C Kd.string w A0 l0.length l0) (hc0 : l0.length ≤ c0) (h : strings_Join.f l0 a1 = some r) :
  Calls Tryd.prog 18 #[.slice A0 l0.length c0, .string a1] w fun e w' => e = .returned (.string r) ∧ Below w.heap.size w w' := by
 unfold strings_Join.f at h
 by_cases c : (Lib.join (l0.map (·.data.toList)) a1.data.toList).length ≤ 140737488355328
 ·rw [if_pos c] at h
  by_cases c' : l0.length ≤ 140737488355328
  ·rw [if_pos c'] at h
   obtain rfl := Option.some.inj h
   rcases Nat.eq_zero_or_pos l0.length with hz | hz
   ·obtain rfl : l0 = [] := List.eq_nil_of_length_eq_zero hz
    exact (Tryd.strings_Join_none A0 c0 a1 w).mono fun e w' ⟨he, hw⟩ => ⟨he, hw ▸ Below.refl _ _⟩
   ·obtain ⟨ad, rfl, hc⟩ := hr0.2.2 hz
    have hcell : ∀ (j : Nat) x, l0[j]? = some x → w.cell? (ad.add j) = some (.string x) := by
     intro j x hj
     obtain ⟨cs, hl, hK, hcc⟩ := hc j x hj
     obtain rfl : cs = [.string x] := hK
     have := hcc 0 _ rfl
     simpa [Kd.string, Kd.scalar] using this
    have h0 := hcell 0 _ (List.getElem?_eq_getElem hz)
    have hlt := World.block_lt_of_cell? w _ h0
    obtain ⟨bk, o, sp⟩ := ad
    have hsp : sp = none := by
     cases sp with
     | none => rfl
     | some s =>
      simp only [Addr.add, if_true, World.cell?] at h0
      split at h0
      ·simp at h0
      ·cases h0
    subst hsp
    refine Tryd.strings_Join bk o c0 l0 a1 w (fun j x hj => ?_) (by simpa [Addr.add] using hlt) c' hc0 c
    have := hcell j x hj
    unfold Addr.add at this
    split at this
    ·rename_i e; subst e; exact this
    ·exact this
  ·rw [if_neg c'] at h; cases h
 ·rw [if_neg c] at h; cases h
end Go.Proofs.YtiaihkcadffllaaDoor.Q


namespace Go.Proofs.YtiaihkcadffllaaDoor.Q
open Go.RowKit Go.Proofs.YtiaihkcadffllaaDoorW.PrintWords Go.Proofs.YtiaihkcadffllaaDoorW.PrintLast Go.Proofs.YtiaihkcadffllaaDoorW.PrintMore
set_option linter.unusedVariables false
set_option linter.unusedSimpArgs false
attribute [local go_sem] max2_int min2_int max_two min_two max_three min_three max_four min_four   
def enc_Text.f (a0 : Int) : Option ByteArray := if -9223372036854775808 ≤ a0 ∧ a0 ≤ 9223372036854775807 then some ⟨(Lib.itoa a0).toArray⟩ else none
set_option maxHeartbeats 4000000 in
theorem enc_Text.calls (a0 : Int) (r : ByteArray) (w : World) (hG : GOk w) (h : enc_Text.f a0 = some r) :
  Calls Tryd.prog 20 #[.int .i64 a0] w fun e w' => e = .returned (.string r) ∧ Below w.heap.size w w' := by
 unfold enc_Text.f at h
 by_cases c : -9223372036854775808 ≤ a0 ∧ a0 ≤ 9223372036854775807
 ·rw [if_pos c] at h
  obtain rfl := Option.some.inj h
  go_enter Tryd.func20, Tryd.ntmps20
  go_wp2_with (first | (go_at_call 42; (with_reducible refine (Tryd.strconv_Itoa a0 c.1 c.2 _ (gok_tab hG)).mono ?_); rintro e w9 ⟨rfl, ⟨k, os, rfl⟩⟩))
  go_ret
  exact ⟨rfl, rfl, rfl, rfl, by show w.heap.size ≤ (w.heap ++ os).size; rw [Array.size_append]; omega, fun i hi => by show (w.heap ++ os)[i]? = _; rw [Array.getElem?_append_left hi]⟩
 ·rw [if_neg c] at h; cases h
end Go.Proofs.YtiaihkcadffllaaDoor.Q
