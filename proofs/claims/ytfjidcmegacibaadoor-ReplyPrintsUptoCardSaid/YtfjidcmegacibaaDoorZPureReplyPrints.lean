/- A part of the proof of the seat's laws. No condition beyond those in the theorems. -/
import Derived.Test.YtfjidcmegacibaaDoorZPrintL
import Derived.Test.YtfjidcmegacibaaDoorZQ95

namespace Go.Proofs.YtfjidcmegacibaaDoor.Pure
open Go.RowKit Go.Proofs.YtfjidcmegacibaaDoor.Q Go.Proofs.YtfjidcmegacibaaDoorW.PrintWords Go.Proofs.YtfjidcmegacibaaDoorW.PrintLast
set_option linter.unusedVariables false
set_option linter.unusedSimpArgs false
theorem ReplyPrintsUpto (a0 : Int) (hs : List S52) (body : List Int) (head : Bool) (time : Int) (id : ByteArray) (closes : Bool) (h0 : (Lit.int .i64 a0).wf = true) (h8 : ∀ x ∈ body, (Lit.int .u8 x).wf = true)
    (hsz : pbulk hs + body.length + id.size ≤ 100000000) : ∃ k, stowagelaw17_ReplyPrints.f k a0 hs body head time id closes = some true := by
  apply Ev.rounds
  have hb : ∀ x ∈ body, 0 ≤ x ∧ x ≤ 255 := fun x hx => by
    have h := h8 x hx
    simp [Lit.wf] at h
    have e1 : IntKind.u8.min = 0 := by kernel_rfl
    have e2 : IntKind.u8.max = 255 := by kernel_rfl
    omega
  obtain ⟨R, _, e1, e2⟩ := print_same a0 hs body head time id closes (wf_bd h0).1 (wf_bd h0).2 hb hsz
  obtain ⟨p, _, hp1, hp2⟩ := phrase_same a0
  obtain ⟨b, hb1, hb2⟩ := bare_same a0
  simp only [stowagelaw17_ReplyPrints.f]
  exact Ev.bind e1 (Ev.bind e2 (ev_pos rfl (ev_some hp1 (Ev.bind hp2 (ev_pos rfl (ev_some hb1 (ev_some hb2 (ev_pos (by simp) awb))))))))
end Go.Proofs.YtfjidcmegacibaaDoor.Pure
