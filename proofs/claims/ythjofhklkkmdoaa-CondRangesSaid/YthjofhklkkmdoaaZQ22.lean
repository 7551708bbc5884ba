/- A part of the proof of the seat's laws. No condition beyond those in the theorems. -/
import Derived.Test.YthjofhklkkmdoaaZShelf
import Derived.Test.YthjofhklkkmdoaaZQ0

namespace Go.Proofs.Ythjofhklkkmdoaa.Q
open Go.RowKit Go.Proofs.YthjofhklkkmdoaaW.PrintWords Go.Proofs.YthjofhklkkmdoaaW.PrintLast Go.Proofs.YthjofhklkkmdoaaW.PrintMore
set_option linter.unusedVariables false
set_option linter.unusedSimpArgs false
attribute [local go_sem] max2_int min2_int max_two min_two max_three min_three max_four min_four   
def stringslite_Index.f (a0 a1 : ByteArray) : Option Int := match a1.data.toList with | [c] => some (Lib.indexByte a0.data.toList c) | _ => none
theorem stringslite_Index.calls (a0 a1 : ByteArray) (r : Int) (w : World) (h : stringslite_Index.f a0 a1 = some r) :
  Calls Try.prog 74 #[.string a0, .string a1] w fun e w' => e = .returned (.int .i64 r) ∧ Drawn0 w w' := by
 unfold stringslite_Index.f at h
 match hc : a1.data.toList with
 | [c] =>
  rw [hc] at h
  obtain rfl := Option.some.inj h
  have e : a1 = ⟨#[c]⟩ := by apply ByteArray.ext; apply Array.toList_inj.mp; rw [hc]
  rw [e]
  exact (Try.stringslite_Index_one a0 c w).mono fun e w' ⟨he, hw⟩ => ⟨he, by rw [hw]; exact Drawn0.refl _⟩
 | [] => rw [hc] at h; exact absurd h (by simp)
 | a :: b :: l => rw [hc] at h; exact absurd h (by simp)
end Go.Proofs.Ythjofhklkkmdoaa.Q
