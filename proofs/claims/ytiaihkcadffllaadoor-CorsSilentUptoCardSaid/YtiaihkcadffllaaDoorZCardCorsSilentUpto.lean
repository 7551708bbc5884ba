/- For rules and requests of a bulk that the row bounds the law CorsSilent answers true, and its arguments read behind the call as before. -/
import Derived.Test.YtiaihkcadffllaaDoorRows
import Derived.Test.YtiaihkcadffllaaDoorCards
import Derived.Test.YtiaihkcadffllaaDoorTie
import Derived.Test.YtiaihkcadffllaaDoorZLaid
import Derived.Test.YtiaihkcadffllaaDoorZOpenQ
import Derived.Test.YtiaihkcadffllaaDoorZPureCorsSilent
import Derived.WalkKit
import Derived.ProofKit
import Derived.OpenShut
import Derived.ShutString
import Derived.ChangeOld
import Derived.Below
import Derived.Deep.DeepHandedRow

namespace Go.Proofs.YtiaihkcadffllaaDoor.corsSilentUpto
open Go.ChangeShapes Go.WideShapes Go.ChangeAt Go.RowKit Go.Proofs.YtiaihkcadffllaaDoorW.PrintWords
open Go.ChangeMaps (open_string shut_string)
theorem own : ownKnob Tryd.prog.godebug = none := by kernel_rfl
theorem laidOut : laidOutB Tryd.prog = true := by kernel_rfl
theorem reads (os : Os) {H : Type} (enc : TypeId × Value → H) : ∃ places, DataW.whole enc Tryd.prog ((Q.laidWorld os).forCall (fun _ _ => 0) ⟨#[], #[.slice none 0 0, .agg #[.string ByteArray.empty, .string ByteArray.empty, .slice none 0 0, .slice none 0 0]], []⟩).memory Tryd.f4.params.toList Rows.corsSilentSpec.vars false (#[.slice none 0 0, .agg #[.string ByteArray.empty, .string ByteArray.empty, .slice none 0 0, .slice none 0 0]] : Array Value).toList 8 = some ([.nil, .agg [.lit (.string []), .lit (.string []), .nil, .nil]], [], places) := ⟨[], by kernel_rfl⟩
set_option maxRecDepth 100000 in
theorem lifted (os : Os) (started : os.Started) (H : Type) (enc : TypeId × Value → H) (F : Stop.Interp) :
    ReturnsInHanded {} Tryd.checked os 4 .any ((Rows.OpenSpec.upto Rows.corsSilentSpec).preRow enc Tryd.prog Tryd.f4 Rows.corsSilentUptoRow.domain false Rows.corsSilentUptoRow.laid) (((Rows.OpenSpec.upto Rows.corsSilentSpec).at F).post enc Tryd.prog Tryd.f4 false true false false) := by
  obtain ⟨places, hx⟩ := reads os enc
  refine returnsInHanded_of_row (C := Tryd.checked) (s := Rows.OpenSpec.upto Rows.corsSilentSpec) own started (by kernel_rfl) Tryd.func4
    (witness_row_at (enc := enc) (C := Tryd.checked) false (Q.laidWorld os) #[.slice none 0 0, .agg #[.string ByteArray.empty, .string ByteArray.empty, .slice none 0 0, .slice none 0 0]] rfl (by kernel_rfl) (by kernel_rfl) (by kernel_rfl)
      (OpenSpec.preRow_of_cond 8 hx (by kernel_rfl) (fun k hk => by cases hk; kernel_rfl) (by kernel_rfl) (Q.laid_met os _))) ?_
  intro W base args ds gs before hval0 hW _ hk0 _ hL _ _
  have hval : ∀ (j : Nat) t v, Tryd.f4.params[j]? = some t → args[j]? = some v → Value.okWide Tryd.prog W .any base t v := hval0
  have hW' := hW
  obtain ⟨p, q, hA0, hV, rfl, hfz, hnd⟩ := hW
  have hA : DataW.TrodAll enc Tryd.prog W 0 (fun _ => true) true Tryd.f4.params.toList args.toList ds p := hA0
  rw [Tryd.params4] at hA hval
  obtain ⟨v0, vs0, d0, ds0, p0, q0, hargs, rfl, rfl, h0, r0⟩ := trodAll_cons hA
  obtain ⟨v1, vs1, d1, ds1, p1, q1, rfl, rfl, rfl, h1, r1⟩ := trodAll_cons r0
  obtain ⟨rfl, rfl, rfl⟩ := trodAll_nil r1
  obtain rfl : args = #[v0, v1] := by cases args; simp_all
  obtain ⟨rfl, rfl⟩ := trodVars_none hV
  obtain ⟨A0, c0, l0, rfl, hc0, hr0, hb0⟩ := Opn.open_arg Opn.up25 (okWide_slice Tryd.underlying22 (hval 0 22 v0 rfl rfl)) h0
  obtain ⟨m, t, A2, c2, hd, A3, c3, bd, rfl, ⟨hc2, hr2⟩, ⟨hc3, hr3⟩, hbq⟩ := Opn.open_request (okWide_struct Tryd.underlying26 (hval 1 26 v1 rfl rfl)) h1
  have hkb : Rows.uptoBulk d0 ≤ 1048576 ∧ Rows.uptoBulk d1 ≤ 1048576 := by
    have h_ := hk0 Rows.uptoSmall rfl
    simp only [List.append_nil] at h_
    unfold Rows.uptoSmall at h_
    have hk := of_decide_eq_true h_
    simp only [Rows.uptoBulkAll] at hk
    omega
  have hb0' := hb0.2
  have hlen := Opn.msz_len Pure.bulkR l0 (fun r => by have := Pure.bulkL_len r.f0; simp only [Pure.bulkR]; omega)
  have hlenH := Opn.msz_len Opn.bulkH hd (fun h => by simp only [Opn.bulkH]; omega)
  have hG : Q.GOk W := Q.pow_laid hL
  obtain ⟨k, h⟩ := Pure.CorsSilentUpto l0 m t hd bd (by omega) (fun r hr => Pure.bulk_heldR r (by have := Opn.msz_mem Pure.bulkR l0 r hr; omega)) ⟨by omega, fun x hx => by have := Opn.msz_mem Opn.bulkH hd x hx; simp only [Opn.bulkH] at this; omega⟩
  clear hA0 hval0
  have hlt0 : ∀ x ∈ p0, x.block < W.heap.size := fun x hx => by simpa using hW'.lt x (by simp [hx])
  have hlt1 : ∀ x ∈ p1, x.block < W.heap.size := fun x hx => by simpa using hW'.lt x (by simp [hx])
  refine (Q.stowagelaw25_CorsSilent.calls k A0 c0 l0 m t A2 c2 hd A3 c3 bd true W hr0 hc0 hr2 hc2 hr3 hc3 hG h rfl).mono fun e W' ⟨he, bel⟩ => ?_
  subst he
  exact ⟨_, rfl, _, _, _, [], _, [], hW', trodAll_mk1 (shut_bool Tryd.underlying4 _), (trodAll_cons_mk (Below.trod laidOut (by kernel_rfl) (of_decide_eq_true (by kernel_rfl)) h0 bel hlt0) (trodAll_cons_mk (Below.trod laidOut (by kernel_rfl) (of_decide_eq_true (by kernel_rfl)) h1 bel hlt1) trodAll_mk0)), rfl, bel.frame _, fun h => by cases h⟩
theorem over : Rows.corsSilentUptoRow.holds Tryd.pinned (Rows.OpenSpec.upto Rows.corsSilentSpec) :=
  OpenClaim.holds_of_cond 4 Tryd.f4 rfl rfl rfl rfl rfl rfl rfl ⟨rfl, rfl, rfl, rfl, rfl⟩ rfl rfl rfl rfl rfl (by kernel_rfl) Tryd.func4 (by kernel_rfl)
    (of_decide_eq_true (by kernel_rfl)) (by unfold Func.isWrapper; first | (rw [if_pos (by decide +kernel)]; kernel_rfl) | (rw [if_neg (by decide +kernel)]; exact ⟨rfl, rfl⟩))
    (fun os started H enc _ F => by rw [OpenClaim.pre_eq_preRow]; exact lifted os started H enc F)
theorem plain (f : FuncId) (fn : Func) (hf : Tryd.pinned.checked.prog.funcNamed "stowage/stowagelaw25.CorsSilent" = some f) (hfn : Tryd.pinned.checked.prog.funcs[f]? = some fn) :
    false = Tryd.pinned.checked.prog.looks [] ∧ ∀ (j : Nat) t, fn.params[j]? = some t → Tryd.pinned.checked.prog.wantsStandIn t = false := by
  obtain rfl : f = 4 := Option.some.inj ((show Tryd.prog.funcNamed "stowage/stowagelaw25.CorsSilent" = some 4 by kernel_rfl).symm.trans hf) |>.symm
  obtain rfl : fn = Tryd.f4 := (Option.some.inj (Tryd.func4.symm.trans hfn)).symm
  refine ⟨by kernel_rfl, fun j t ht => ?_⟩
  rw [Tryd.params4] at ht
  have hm := Array.mem_of_getElem? ht
  have hm' : t ∈ ([22, 26] : List Nat) := by simpa using hm
  exact (show ∀ t ∈ ([22, 26] : List Nat), Tryd.prog.wantsStandIn t = false by intro t ht; simp only [List.mem_cons, List.not_mem_nil, or_false] at ht; rcases ht with rfl | rfl <;> kernel_rfl) t hm'
theorem card : Rows.CorsSilentUptoCardSaid :=
  Claim7.holds_tied_plain_at .later [] _ _ _ _ over (fun _ h => by cases h) (by kernel_rfl) (fun _ h => by cases h) corsSilentUpto_row_tie rfl ⟨rfl, rfl⟩ (by kernel_rfl) rfl plain (by kernel_rfl)
end Go.Proofs.YtiaihkcadffllaaDoor.corsSilentUpto
namespace Go.Proofs.YtiaihkcadffllaaDoor
theorem corsSilentUpto_card : Rows.CorsSilentUptoCardSaid := corsSilentUpto.card
end Go.Proofs.YtiaihkcadffllaaDoor
