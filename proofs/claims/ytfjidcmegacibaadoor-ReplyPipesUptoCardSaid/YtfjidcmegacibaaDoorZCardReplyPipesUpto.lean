/- Answers one behind the other are read one by one, each as if it came alone, for any answers that the document's own way reads back and that are not too large for a machine (the second form). -/
import Derived.Test.YtfjidcmegacibaaDoorRows
import Derived.Test.YtfjidcmegacibaaDoorCards
import Derived.Test.YtfjidcmegacibaaDoorTie
import Derived.Test.YtfjidcmegacibaaDoorZLaidg24
import Derived.WalkKit
import Derived.ProofKit
import Derived.OpenShut
import Derived.ShutString
import Derived.ChangeOld
import Derived.Below
import Derived.Deep.DeepHandedRow

namespace Go.Proofs.YtfjidcmegacibaaDoor.replyPipesUpto
open Go.ChangeShapes Go.WideShapes Go.ChangeAt Go.RowKit Go.Proofs.YtfjidcmegacibaaDoorW.PrintWords
open Go.ChangeMaps (open_string shut_string)
theorem own:ownKnob Tryd.prog.godebug=none:=by kernel_rfl
theorem laidOut:laidOutB Tryd.prog=true:=by kernel_rfl
theorem reads (os:Os) {H:Type} (enc:TypeId×Value→H):∃ places,DataW.whole enc Tryd.prog ((Q.laidWorld os).forCall (fun _ _=>0) ⟨#[],#[.slice none 0 0,.int .i64 0,.string ByteArray.empty],[]⟩).memory Tryd.f3.params.toList Rows.replyPipesSpec.vars false (#[.slice none 0 0,.int .i64 0,.string ByteArray.empty]:Array Value).toList 8=some ([.nil,.lit (.int .i64 0),.lit (.string [])],[],places):=⟨[],by kernel_rfl⟩
theorem bulk_p (hs:List Q.S52):Pure.pbulk hs≤2*Opn.msz Opn.bulkH hs:=by
  induction hs with
  | nil=>exact Nat.zero_le _
  | cons h hs ih=>
    have e:Opn.msz Opn.bulkH (h :: hs)=Opn.bulkH h+Opn.msz Opn.bulkH hs:=by simp only [Opn.msz,List.map_cons,List.sum_cons];omega
    rw [Pure.pbulk_cons,e,Opn.bulkH]
    omega
set_option maxRecDepth 100000 in
theorem lifted (os:Os) (started:os.Started) (H:Type) (enc:TypeId×Value→H) (F:Stop.Interp) :
    ReturnsInHanded {} Tryd.checked os 3 .any ((Rows.OpenSpec.upto Rows.replyPipesSpec).preRow enc Tryd.prog Tryd.f3 Rows.replyPipesUptoRow.domain false Rows.replyPipesUptoRow.laid) (((Rows.OpenSpec.upto Rows.replyPipesSpec).at F).post enc Tryd.prog Tryd.f3 false true false false):=by
  obtain⟨places,hx⟩:=reads os enc
  refine returnsInHanded_of_row (C:=Tryd.checked) (s:=Rows.OpenSpec.upto Rows.replyPipesSpec) own started (by kernel_rfl) Tryd.func3
    (witness_row_at (enc:=enc) (C:=Tryd.checked) false (Q.laidWorld os) #[.slice none 0 0,.int .i64 0,.string ByteArray.empty] rfl (by kernel_rfl) (by kernel_rfl) (by kernel_rfl)
      (OpenSpec.preRow_of_cond 8 hx (by kernel_rfl) (fun k hk=>by cases hk;kernel_rfl) (by kernel_rfl) (Q.laid_met os _))) ?_
  intro W base args ds gs before hval0 hW _ hk0 _ hL hsh _
  have hval:∀ (j:Nat) t v,Tryd.f3.params[j]? = some t→args[j]? = some v→Value.okWide Tryd.prog W .any base t v:=hval0
  have hW':=hW
  obtain⟨p,q,hA0,hV,rfl,hfz,hnd⟩:=hW
  have hA:DataW.TrodAll enc Tryd.prog W 0 (fun _=>true) true Tryd.f3.params.toList args.toList ds p:=hA0
  rw [Tryd.params3] at hA hval
  obtain⟨v0,vs0,d0,ds0,p0,q0,hargs,rfl,rfl,h0,r0⟩:=trodAll_cons hA
  obtain⟨v1,vs1,d1,ds1,p1,q1,rfl,rfl,rfl,h1,r1⟩:=trodAll_cons r0
  obtain⟨v2,vs2,d2,ds2,p2,q2,rfl,rfl,rfl,h2,r2⟩:=trodAll_cons r1
  obtain⟨rfl,rfl,rfl⟩:=trodAll_nil r2
  obtain rfl:args=#[v0,v1,v2]:=by cases args;simp_all
  obtain⟨rfl,rfl⟩:=trodVars_none hV
  obtain⟨A0,c0,l0,rfl,hc0,hr0,hb0⟩:=Opn.open_arg Opn.up_replies (okWide_slice Tryd.underlying22 (hval 0 22 v0 rfl rfl)) h0
  obtain⟨n1,rfl,rfl,rfl,hw1⟩:=open_int Tryd.underlying3 (hval 1 3 v1 rfl rfl) h1
  obtain⟨s2,rfl,rfl,rfl,hm2⟩:=open_string Tryd.underlying9 (hval 2 9 v2 rfl rfl) h2
  have hkb:=hk0 Rows.uptoSmall rfl
  have hs2:Rows.uptoBulk (H:=H) (.lit (.string s2.data.toList))=s2.size+1:=by
    have e:s2.data.toList.length=s2.size:=by rw [Array.length_toList];rfl
    show s2.data.toList.length+1=_
    omega
  have hk1:Rows.uptoBulk d0≤1048576∧s2.size≤1048576:=by
    simp only [List.append_nil] at hkb
    unfold Rows.uptoSmall at hkb
    have hk:=of_decide_eq_true hkb
    simp only [Rows.uptoBulkAll,hs2] at hk
    omega
  have hb0':=hb0.2
  have hlen:=Opn.msz_len Opn.bulkR l0 (fun r=>by simp only [Opn.bulkR,Opn.msz];omega)
  have hG:Q.GOk W:=⟨Q.gok_start_max hsh,Q.pow_laid hL⟩
  obtain⟨k,h⟩:=Pure.ReplyPipesUpto l0 n1 s2 (fun x hx=>⟨(hb0.1 x hx).1,(hb0.1 x hx).2,by
    have hm:=Opn.msz_mem Opn.bulkR l0 x hx
    have hp:=bulk_p x.f1
    have hy:=Opn.msz_len (fun _=>1) x.f2 (fun _=>Nat.le_refl _)
    simp only [Opn.bulkR] at hm
    omega⟩) (by omega)
  clear hA0 hval0
  have hlt0:∀ x∈p0,x.block<W.heap.size:=fun x hx=>by simpa using hW'.lt x (by simp [hx])
  refine(Q.stowagelaw17_ReplyPipes.calls k A0 c0 l0 n1 s2 true W hr0 hc0 hG h rfl).mono fun e W' ⟨he,bel⟩=>?_
  subst he
  exact⟨_,rfl,_,_,_,[],_,[],hW',trodAll_mk1 (shut_bool Tryd.underlying4 _),(trodAll_cons_mk (Below.trod laidOut (by kernel_rfl) (of_decide_eq_true (by kernel_rfl)) h0 bel hlt0) (trodAll_cons_mk (shut_int Tryd.underlying3 hw1) (trodAll_cons_mk (shut_string Tryd.underlying9 hm2) trodAll_mk0))),rfl,bel.frame _,fun h=>by cases h⟩
theorem over:Rows.replyPipesUptoRow.holds Tryd.pinned (Rows.OpenSpec.upto Rows.replyPipesSpec):=
  OpenClaim.holds_of_cond 3 Tryd.f3 rfl rfl rfl rfl rfl rfl rfl ⟨rfl,rfl,rfl,rfl,rfl⟩ rfl rfl rfl rfl rfl (by kernel_rfl) Tryd.func3 (by kernel_rfl)
    (of_decide_eq_true (by kernel_rfl)) (by unfold Func.isWrapper;first|(rw [if_pos (by decide +kernel)];kernel_rfl)|(rw [if_neg (by decide +kernel)];exact⟨rfl,rfl⟩))
    (fun os started H enc _ F=>by rw [OpenClaim.pre_eq_preRow];exact lifted os started H enc F)
theorem plain (f : FuncId) (fn : Func) (hf : Tryd.pinned.checked.prog.funcNamed "stowage/stowagelaw17.ReplyPipes" = some f) (hfn : Tryd.pinned.checked.prog.funcs[f]? = some fn) :
    false=Tryd.pinned.checked.prog.looks [] ∧ ∀ (j:Nat) t,fn.params[j]? = some t→Tryd.pinned.checked.prog.wantsStandIn t=false:=by
  obtain rfl : f = 3 := Option.some.inj ((show Tryd.prog.funcNamed "stowage/stowagelaw17.ReplyPipes" = some 3 by kernel_rfl).symm.trans hf) |>.symm
  obtain rfl:fn=Tryd.f3:=(Option.some.inj (Tryd.func3.symm.trans hfn)).symm
  refine⟨by kernel_rfl,fun j t ht=>?_⟩
  rw [Tryd.params3] at ht
  have hm:=Array.mem_of_getElem? ht
  have hm':t∈([22,3,9]:List Nat):=by simpa using hm
  exact(show ∀ t∈([22,3,9]:List Nat),Tryd.prog.wantsStandIn t=false by intro t ht;simp only [List.mem_cons,List.not_mem_nil,or_false] at ht;rcases ht with rfl|rfl|rfl <;> kernel_rfl) t hm'
theorem card:Rows.ReplyPipesUptoCardSaid:=
  Claim7.holds_tied_plain_at .later [] _ _ _ _ over (fun _ h=>by cases h) (by kernel_rfl) (fun _ h=>by cases h) replyPipesUpto_row_tie rfl ⟨rfl,rfl⟩ (by kernel_rfl) rfl plain (by kernel_rfl)
end Go.Proofs.YtfjidcmegacibaaDoor.replyPipesUpto
namespace Go.Proofs.YtfjidcmegacibaaDoor
theorem replyPipesUpto_card:Rows.ReplyPipesUptoCardSaid:=replyPipesUpto.card
end Go.Proofs.YtfjidcmegacibaaDoor
