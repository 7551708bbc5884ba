/- Any answer is printed as the document says, for answers and ids of the bulk that the row names. -/
import Derived.Test.YtfjidcmegacibaaDoorRows
import Derived.Test.YtfjidcmegacibaaDoorCards
import Derived.Test.YtfjidcmegacibaaDoorTie
import Derived.Test.YtfjidcmegacibaaDoorZLaid
import Derived.Test.YtfjidcmegacibaaDoorZOpenP
import Derived.Test.YtfjidcmegacibaaDoorZPureReplyPrints
import Derived.WalkKit
import Derived.ProofKit
import Derived.OpenShut
import Derived.ShutString
import Derived.ChangeOld
import Derived.Below
import Derived.Deep.DeepHandedRow

namespace Go.Proofs.YtfjidcmegacibaaDoor.replyPrintsUpto
open Go.ChangeShapes Go.WideShapes Go.ChangeAt Go.RowKit Go.Proofs.YtfjidcmegacibaaDoorW.PrintWords
open Go.ChangeMaps (open_string shut_string)
theorem own : ownKnob Tryd.prog.godebug = none := by kernel_rfl
theorem laidOut : laidOutB Tryd.prog = true := by kernel_rfl
theorem reads (os : Os) {H : Type} (enc : TypeId × Value → H) : ∃ places, DataW.whole enc Tryd.prog ((Q.laidWorld os).forCall (fun _ _ => 0) ⟨#[], #[.agg #[.int .i64 0, .slice none 0 0, .slice none 0 0], .bool false, .int .i64 0, .string ByteArray.empty, .bool false], []⟩).memory Tryd.f4.params.toList Rows.replyPrintsSpec.vars false (#[.agg #[.int .i64 0, .slice none 0 0, .slice none 0 0], .bool false, .int .i64 0, .string ByteArray.empty, .bool false] : Array Value).toList 8 = some ([.agg [.lit (.int .i64 0), .nil, .nil], .lit (.bool false), .lit (.int .i64 0), .lit (.string []), .lit (.bool false)], [], places) := ⟨[], by kernel_rfl⟩
theorem bulk_p (hs : List Q.S52) : Pure.pbulk hs ≤ 2 * Opn.msz Opn.bulkH hs := by
  induction hs with
  | nil => exact Nat.zero_le _
  | cons h hs ih =>
    have e : Opn.msz Opn.bulkH (h :: hs) = Opn.bulkH h + Opn.msz Opn.bulkH hs := by simp only [Opn.msz, List.map_cons, List.sum_cons]; omega
    rw [Pure.pbulk_cons, e, Opn.bulkH]
    omega
set_option maxRecDepth 100000 in
theorem lifted (os : Os) (started : os.Started) (H : Type) (enc : TypeId × Value → H) (F : Stop.Interp) :
    ReturnsInHanded {} Tryd.checked os 4 .any ((Rows.OpenSpec.upto Rows.replyPrintsSpec).preRow enc Tryd.prog Tryd.f4 Rows.replyPrintsUptoRow.domain false Rows.replyPrintsUptoRow.laid) (((Rows.OpenSpec.upto Rows.replyPrintsSpec).at F).post enc Tryd.prog Tryd.f4 false true false false) := by
  obtain ⟨places, hx⟩ := reads os enc
  refine returnsInHanded_of_row (C := Tryd.checked) (s := Rows.OpenSpec.upto Rows.replyPrintsSpec) own started (by kernel_rfl) Tryd.func4
    (witness_row_at (enc := enc) (C := Tryd.checked) false (Q.laidWorld os) #[.agg #[.int .i64 0, .slice none 0 0, .slice none 0 0], .bool false, .int .i64 0, .string ByteArray.empty, .bool false] rfl (by kernel_rfl) (by kernel_rfl) (by kernel_rfl)
      (OpenSpec.preRow_of_cond 8 hx (by kernel_rfl) (fun k hk => by cases hk; kernel_rfl) (by kernel_rfl) (Q.laid_met os _))) ?_
  intro W base args ds gs before hval0 hW _ hk0 _ hL hsh _
  have hval : ∀ (j : Nat) t v, Tryd.f4.params[j]? = some t → args[j]? = some v → Value.okWide Tryd.prog W .any base t v := hval0
  have hW' := hW
  obtain ⟨p, q, hA0, hV, rfl, hfz, hnd⟩ := hW
  have hA : DataW.TrodAll enc Tryd.prog W 0 (fun _ => true) true Tryd.f4.params.toList args.toList ds p := hA0
  rw [Tryd.params4] at hA hval
  obtain ⟨v0, vs0, d0, ds0, p0, q0, hargs, rfl, rfl, h0, r0⟩ := trodAll_cons hA
  obtain ⟨v1, vs1, d1, ds1, p1, q1, rfl, rfl, rfl, h1, r1⟩ := trodAll_cons r0
  obtain ⟨v2, vs2, d2, ds2, p2, q2, rfl, rfl, rfl, h2, r2⟩ := trodAll_cons r1
  obtain ⟨v3, vs3, d3, ds3, p3, q3, rfl, rfl, rfl, h3, r3⟩ := trodAll_cons r2
  obtain ⟨v4, vs4, d4, ds4, p4, q4, rfl, rfl, rfl, h4, r4⟩ := trodAll_cons r3
  obtain ⟨rfl, rfl, rfl⟩ := trodAll_nil r4
  obtain rfl : args = #[v0, v1, v2, v3, v4] := by cases args; simp_all
  obtain ⟨rfl, rfl⟩ := trodVars_none hV
  obtain ⟨a, A2, c2, hd, A3, c3, bd, rfl, hwa, ⟨hc2, hr2⟩, ⟨hc3, hr3⟩, hw8, hbq⟩ := Opn.open_reply (okWide_struct Tryd.underlying27 (hval 0 27 v0 rfl rfl)) h0
  obtain ⟨b1, rfl, rfl, rfl⟩ := open_bool Tryd.underlying4 (hval 1 4 v1 rfl rfl) h1
  obtain ⟨n2, rfl, rfl, rfl, hw2⟩ := open_int Tryd.underlying3 (hval 2 3 v2 rfl rfl) h2
  obtain ⟨s3, rfl, rfl, rfl, hm3⟩ := open_string Tryd.underlying9 (hval 3 9 v3 rfl rfl) h3
  obtain ⟨b4, rfl, rfl, rfl⟩ := open_bool Tryd.underlying4 (hval 4 4 v4 rfl rfl) h4
  have hkb := hk0 Rows.uptoSmall rfl
  have hs3 : Rows.uptoBulk (H := H) (.lit (.string s3.data.toList)) = s3.size + 1 := by
    have e : s3.data.toList.length = s3.size := by rw [Array.length_toList]; rfl
    show s3.data.toList.length + 1 = _
    omega
  have hk1 : Rows.uptoBulk d0 ≤ 1048576 ∧ s3.size ≤ 1048576 := by
    simp only [List.append_nil] at hkb
    unfold Rows.uptoSmall at hkb
    have hk := of_decide_eq_true hkb
    simp only [Rows.uptoBulkAll, hs3] at hk
    omega
  have hlenB := Opn.msz_len (fun _ => 1) bd (fun _ => Nat.le_refl _)
  have hpb := bulk_p hd
  have hG : Q.GOk W := ⟨Q.gok_start_max hsh, Q.pow_laid hL⟩
  obtain ⟨k, h⟩ := Pure.ReplyPrintsUpto a hd bd b1 n2 s3 b4 hwa hw8 (by omega)
  clear hA0 hval0
  have hlt0 : ∀ x ∈ p0, x.block < W.heap.size := fun x hx => by simpa using hW'.lt x (by simp [hx])
  refine (Q.stowagelaw17_ReplyPrints.calls k a A2 c2 hd A3 c3 bd b1 n2 s3 b4 true W hr2 hc2 hr3 hc3 hG h rfl).mono fun e W' ⟨he, bel⟩ => ?_
  subst he
  exact ⟨_, rfl, _, _, _, [], _, [], hW', trodAll_mk1 (shut_bool Tryd.underlying4 _), (trodAll_cons_mk (Below.trod laidOut (by kernel_rfl) (of_decide_eq_true (by kernel_rfl)) h0 bel hlt0) (trodAll_cons_mk (shut_bool Tryd.underlying4 _) (trodAll_cons_mk (shut_int Tryd.underlying3 hw2) (trodAll_cons_mk (shut_string Tryd.underlying9 hm3) (trodAll_cons_mk (shut_bool Tryd.underlying4 _) trodAll_mk0))))), rfl, bel.frame _, fun h => by cases h⟩
theorem over : Rows.replyPrintsUptoRow.holds Tryd.pinned (Rows.OpenSpec.upto Rows.replyPrintsSpec) :=
  OpenClaim.holds_of_cond 4 Tryd.f4 rfl rfl rfl rfl rfl rfl rfl ⟨rfl, rfl, rfl, rfl, rfl⟩ rfl rfl rfl rfl rfl (by kernel_rfl) Tryd.func4 (by kernel_rfl)
    (of_decide_eq_true (by kernel_rfl)) (by unfold Func.isWrapper; first | (rw [if_pos (by decide +kernel)]; kernel_rfl) | (rw [if_neg (by decide +kernel)]; exact ⟨rfl, rfl⟩))
    (fun os started H enc _ F => by rw [OpenClaim.pre_eq_preRow]; exact lifted os started H enc F)
theorem plain (f : FuncId) (fn : Func) (hf : Tryd.pinned.checked.prog.funcNamed "stowage/stowagelaw17.ReplyPrints" = some f) (hfn : Tryd.pinned.checked.prog.funcs[f]? = some fn) :
    false = Tryd.pinned.checked.prog.looks [] ∧ ∀ (j : Nat) t, fn.params[j]? = some t → Tryd.pinned.checked.prog.wantsStandIn t = false := by
  obtain rfl : f = 4 := Option.some.inj ((show Tryd.prog.funcNamed "stowage/stowagelaw17.ReplyPrints" = some 4 by kernel_rfl).symm.trans hf) |>.symm
  obtain rfl : fn = Tryd.f4 := (Option.some.inj (Tryd.func4.symm.trans hfn)).symm
  refine ⟨by kernel_rfl, fun j t ht => ?_⟩
  rw [Tryd.params4] at ht
  have hm := Array.mem_of_getElem? ht
  have hm' : t ∈ ([27, 4, 3, 9, 4] : List Nat) := by simpa using hm
  exact (show ∀ t ∈ ([27, 4, 3, 9, 4] : List Nat), Tryd.prog.wantsStandIn t = false by intro t ht; simp only [List.mem_cons, List.not_mem_nil, or_false] at ht; rcases ht with rfl | rfl | rfl | rfl | rfl <;> kernel_rfl) t hm'
theorem card : Rows.ReplyPrintsUptoCardSaid :=
  Claim7.holds_tied_plain_at .later [] _ _ _ _ over (fun _ h => by cases h) (by kernel_rfl) (fun _ h => by cases h) replyPrintsUpto_row_tie rfl ⟨rfl, rfl⟩ (by kernel_rfl) rfl plain (by kernel_rfl)
end Go.Proofs.YtfjidcmegacibaaDoor.replyPrintsUpto
namespace Go.Proofs.YtfjidcmegacibaaDoor
theorem replyPrintsUpto_card : Rows.ReplyPrintsUptoCardSaid := replyPrintsUpto.card
end Go.Proofs.YtfjidcmegacibaaDoor
