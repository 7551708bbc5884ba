/- Documents become answers as the document says, for elements of the bulk that the row names. -/
import Derived.Test.YtfjidcmegacibaaDoorRows
import Derived.Test.YtfjidcmegacibaaDoorCards
import Derived.Test.YtfjidcmegacibaaDoorTie
import Derived.Test.YtfjidcmegacibaaDoorZLaidg13
import Derived.WalkKit
import Derived.ProofKit
import Derived.OpenShut
import Derived.ShutString
import Derived.ChangeOld
import Derived.Below
import Derived.Deep.DeepHandedRow

namespace Go.Proofs.YtfjidcmegacibaaDoor.replyNodesUpto
open Go.ChangeShapes Go.WideShapes Go.ChangeAt Go.RowKit Go.Proofs.YtfjidcmegacibaaDoorW.PrintWords
open Go.ChangeMaps (open_string shut_string)
theorem own:ownKnob Tryd.prog.godebug=none:=by kernel_rfl
theorem laidOut:laidOutB Tryd.prog=true:=by kernel_rfl
theorem reads (os:Os) {H:Type} (enc:TypeId×Value→H):∃ places,DataW.whole enc Tryd.prog ((Q.laidWorld os).forCall (fun _ _=>0) ⟨#[],#[.int .i64 0,.agg #[.string ByteArray.empty,.string ByteArray.empty,.slice none 0 0]],[]⟩).memory Tryd.f6.params.toList Rows.replyNodesSpec.vars false (#[.int .i64 0,.agg #[.string ByteArray.empty,.string ByteArray.empty,.slice none 0 0]]:Array Value).toList 8=some ([.lit (.int .i64 0),.agg [.lit (.string []),.lit (.string []),.nil]],[],places):=⟨[],by kernel_rfl⟩
set_option maxRecDepth 100000 in
theorem lifted (os:Os) (started:os.Started) (H:Type) (enc:TypeId×Value→H) (F:Stop.Interp) :
    ReturnsInHanded {} Tryd.checked os 6 .any ((Rows.OpenSpec.upto Rows.replyNodesSpec).preRow enc Tryd.prog Tryd.f6 Rows.replyNodesUptoRow.domain false Rows.replyNodesUptoRow.laid) (((Rows.OpenSpec.upto Rows.replyNodesSpec).at F).post enc Tryd.prog Tryd.f6 false true false false):=by
  obtain⟨places,hx⟩:=reads os enc
  refine returnsInHanded_of_row (C:=Tryd.checked) (s:=Rows.OpenSpec.upto Rows.replyNodesSpec) own started (by kernel_rfl) Tryd.func6
    (witness_row_at (enc:=enc) (C:=Tryd.checked) false (Q.laidWorld os) #[.int .i64 0,.agg #[.string ByteArray.empty,.string ByteArray.empty,.slice none 0 0]] rfl (by kernel_rfl) (by kernel_rfl) (by kernel_rfl)
      (OpenSpec.preRow_of_cond 8 hx (by kernel_rfl) (fun k hk=>by cases hk;kernel_rfl) (by kernel_rfl) (Q.laid_met os _))) ?_
  intro W base args ds gs before hval0 hW _ hk0 _ hL hsh _
  have hval:∀ (j:Nat) t v,Tryd.f6.params[j]? = some t→args[j]? = some v→Value.okWide Tryd.prog W .any base t v:=hval0
  have hW':=hW
  obtain⟨p,q,hA0,hV,rfl,hfz,hnd⟩:=hW
  have hA:DataW.TrodAll enc Tryd.prog W 0 (fun _=>true) true Tryd.f6.params.toList args.toList ds p:=hA0
  rw [Tryd.params6] at hA hval
  obtain⟨v0,vs0,d0,ds0,p0,q0,hargs,rfl,rfl,h0,r0⟩:=trodAll_cons hA
  obtain⟨v1,vs1,d1,ds1,p1,q1,rfl,rfl,rfl,h1,r1⟩:=trodAll_cons r0
  obtain⟨rfl,rfl,rfl⟩:=trodAll_nil r1
  obtain rfl:args=#[v0,v1]:=by cases args;simp_all
  obtain⟨rfl,rfl⟩:=trodVars_none hV
  obtain⟨n0,rfl,rfl,rfl,hw0⟩:=open_int Tryd.underlying3 (hval 0 3 v0 rfl rfl) h0
  obtain⟨x,y,A,c,l,rfl,hc1,hr1,hnb⟩:=Opn.open_node (okWide_struct Tryd.underlying42 (hval 1 42 v1 rfl rfl)) h1
  have hkb:=hk0 Rows.uptoSmall rfl
  have hk1:Rows.uptoBulk d1≤1048576:=by
    simp only [List.append_nil] at hkb
    unfold Rows.uptoSmall at hkb
    have hk:=of_decide_eq_true hkb
    simp only [Rows.uptoBulkAll] at hk
    omega
  have hG:Q.GOk W:=⟨Q.gok_start_max hsh,Q.pow_laid hL⟩
  obtain⟨k,h⟩:=Pure.ReplyNodesUpto n0 ⟨x,y,l⟩ (by omega)
  clear hA0 hval0
  have hlt0:∀ x∈p1,x.block<W.heap.size:=fun x hx=>by simpa using hW'.lt x (by simp [hx])
  refine(Q.stowagelaw17_ReplyNodes.calls k n0 x y A c l true W hr1 hc1 hG h rfl).mono fun e W' ⟨he,bel⟩=>?_
  subst he
  exact⟨_,rfl,_,_,_,[],_,[],hW',trodAll_mk1 (shut_bool Tryd.underlying4 _),(trodAll_cons_mk (shut_int Tryd.underlying3 hw0) (trodAll_cons_mk (Below.trod laidOut (by kernel_rfl) (of_decide_eq_true (by kernel_rfl)) h1 bel hlt0) trodAll_mk0)),rfl,bel.frame _,fun h=>by cases h⟩
theorem over:Rows.replyNodesUptoRow.holds Tryd.pinned (Rows.OpenSpec.upto Rows.replyNodesSpec):=
  OpenClaim.holds_of_cond 6 Tryd.f6 rfl rfl rfl rfl rfl rfl rfl ⟨rfl,rfl,rfl,rfl,rfl⟩ rfl rfl rfl rfl rfl (by kernel_rfl) Tryd.func6 (by kernel_rfl)
    (of_decide_eq_true (by kernel_rfl)) (by unfold Func.isWrapper;first|(rw [if_pos (by decide +kernel)];kernel_rfl)|(rw [if_neg (by decide +kernel)];exact⟨rfl,rfl⟩))
    (fun os started H enc _ F=>by rw [OpenClaim.pre_eq_preRow];exact lifted os started H enc F)
theorem plain (f : FuncId) (fn : Func) (hf : Tryd.pinned.checked.prog.funcNamed "stowage/stowagelaw17.ReplyNodes" = some f) (hfn : Tryd.pinned.checked.prog.funcs[f]? = some fn) :
    false=Tryd.pinned.checked.prog.looks [] ∧ ∀ (j:Nat) t,fn.params[j]? = some t→Tryd.pinned.checked.prog.wantsStandIn t=false:=by
  obtain rfl : f = 6 := Option.some.inj ((show Tryd.prog.funcNamed "stowage/stowagelaw17.ReplyNodes" = some 6 by kernel_rfl).symm.trans hf) |>.symm
  obtain rfl:fn=Tryd.f6:=(Option.some.inj (Tryd.func6.symm.trans hfn)).symm
  refine⟨by kernel_rfl,fun j t ht=>?_⟩
  rw [Tryd.params6] at ht
  have hm:=Array.mem_of_getElem? ht
  have hm':t∈([3,42]:List Nat):=by simpa using hm
  exact(show ∀ t∈([3,42]:List Nat),Tryd.prog.wantsStandIn t=false by intro t ht;simp only [List.mem_cons,List.not_mem_nil,or_false] at ht;rcases ht with rfl|rfl <;> kernel_rfl) t hm'
theorem card:Rows.ReplyNodesUptoCardSaid:=
  Claim7.holds_tied_plain_at .later [] _ _ _ _ over (fun _ h=>by cases h) (by kernel_rfl) (fun _ h=>by cases h) replyNodesUpto_row_tie rfl ⟨rfl,rfl⟩ (by kernel_rfl) rfl plain (by kernel_rfl)
end Go.Proofs.YtfjidcmegacibaaDoor.replyNodesUpto
namespace Go.Proofs.YtfjidcmegacibaaDoor
theorem replyNodesUpto_card:Rows.ReplyNodesUptoCardSaid:=replyNodesUpto.card
end Go.Proofs.YtfjidcmegacibaaDoor
