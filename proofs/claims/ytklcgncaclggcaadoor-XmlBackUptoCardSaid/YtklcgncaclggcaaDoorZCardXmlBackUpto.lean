/- For elements and texts of a bulk that the row bounds the law XmlBack answers true: what is printed is read as the same element, and what is read can be printed and read again; the row and its tied card. -/
import Derived.Test.YtklcgncaclggcaaDoorRows
import Derived.Test.YtklcgncaclggcaaDoorCards
import Derived.Test.YtklcgncaclggcaaDoorTie
import Derived.Test.YtklcgncaclggcaaDoorZLaidg6
import Derived.WalkKit
import Derived.ProofKit
import Derived.OpenShut
import Derived.ShutString
import Derived.ChangeOld
import Derived.Below
import Derived.Deep.DeepHandedRow
import Derived.Shelf.Vars

namespace Go.Proofs.YtklcgncaclggcaaDoor.xmlBackUpto
open Go.ChangeShapes Go.WideShapes Go.ChangeAt Go.RowKit Go.Proofs.YtklcgncaclggcaaDoorW.PrintWords
open Go.ChangeMaps (open_string shut_string)
theorem own:ownKnob Tryd.prog.godebug=none:=by kernel_rfl
theorem laidOut:laidOutB Tryd.prog=true:=by kernel_rfl
theorem reads (os:Os) {H:Type} (enc:TypeId×Value→H):∃ places,DataW.whole enc Tryd.prog ((Q.laidWorld os).forCall (fun _ _=>0) ⟨#[],#[.agg #[.string ByteArray.empty,.string ByteArray.empty,.slice none 0 0],.bool false,.string ByteArray.empty],[]⟩).memory Tryd.f5.params.toList Rows.xmlBackSpec.vars false (#[.agg #[.string ByteArray.empty,.string ByteArray.empty,.slice none 0 0],.bool false,.string ByteArray.empty]:Array Value).toList 8=some ([.agg [.lit (.string []),.lit (.string []),.nil],.lit (.bool false),.lit (.string [])],[],places):=⟨[],by kernel_rfl⟩
set_option maxRecDepth 100000 in
theorem lifted (os:Os) (started:os.Started) (H:Type) (enc:TypeId×Value→H) (F:Stop.Interp) :
    ReturnsInHanded {} Tryd.checked os 5 .any ((Rows.OpenSpec.upto Rows.xmlBackSpec).preRow enc Tryd.prog Tryd.f5 Rows.xmlBackUptoRow.domain false Rows.xmlBackUptoRow.laid) (((Rows.OpenSpec.upto Rows.xmlBackSpec).at F).post enc Tryd.prog Tryd.f5 false true false false):=by
  obtain⟨places,hx⟩:=reads os enc
  refine returnsInHanded_of_row (C:=Tryd.checked) (s:=Rows.OpenSpec.upto Rows.xmlBackSpec) own started (by kernel_rfl) Tryd.func5
    (witness_row_at (enc:=enc) (C:=Tryd.checked) false (Q.laidWorld os) #[.agg #[.string ByteArray.empty,.string ByteArray.empty,.slice none 0 0],.bool false,.string ByteArray.empty] rfl (by kernel_rfl) (by kernel_rfl) (by kernel_rfl)
      (OpenSpec.preRow_of_cond 8 hx (by kernel_rfl) (fun k hk=>by cases hk;kernel_rfl) (by kernel_rfl) (Q.laid_met os _))) ?_
  intro W base args ds gs before hval0 hW _ hk0 _ hL hsh _
  have hval:∀ (j:Nat) t v,Tryd.f5.params[j]? = some t→args[j]? = some v→Value.okWide Tryd.prog W .any base t v:=hval0
  have hW':=hW
  obtain⟨p,q,hA0,hV,rfl,hfz,hnd⟩:=hW
  have hA:DataW.TrodAll enc Tryd.prog W 0 (fun _=>true) true Tryd.f5.params.toList args.toList ds p:=hA0
  rw [Tryd.params5] at hA hval
  obtain⟨v0,vs0,d0,ds0,p0,q0,hargs,rfl,rfl,h0,r0⟩:=trodAll_cons hA
  obtain⟨v1,vs1,d1,ds1,p1,q1,rfl,rfl,rfl,h1,r1⟩:=trodAll_cons r0
  obtain⟨v2,vs2,d2,ds2,p2,q2,rfl,rfl,rfl,h2,r2⟩:=trodAll_cons r1
  obtain⟨rfl,rfl,rfl⟩:=trodAll_nil r2
  obtain rfl:args=#[v0,v1,v2]:=by cases args;simp_all
  obtain⟨rfl,rfl⟩:=trodVars_none hV
  have hkb:=hk0 Rows.uptoSmall rfl
  have hkA:Rows.uptoBulkAll [d0,d1,d2]≤1048576:=by
    simp only [List.append_nil] at hkb
    unfold Rows.uptoSmall at hkb
    exact of_decide_eq_true hkb
  have hkb0:Rows.uptoBulk d0≤1048576:=by
    simp only [Rows.uptoBulkAll] at hkA
    omega
  have hkb1:Rows.uptoBulk d1≤1048576:=by
    simp only [Rows.uptoBulkAll] at hkA
    omega
  have hkb2:Rows.uptoBulk d2≤1048576:=by
    simp only [Rows.uptoBulkAll] at hkA
    omega
  clear hkb hkA
  obtain⟨x0,y0,A0,c0,l0,rfl,hc0,hr0,hnb0⟩:=Opn.open_node (okWide_struct Tryd.underlying24 (hval 0 24 v0 rfl rfl)) h0
  obtain⟨b1,rfl,rfl,rfl⟩:=open_bool Tryd.underlying4 (hval 1 4 v1 rfl rfl) h1
  obtain⟨a2,rfl,rfl,rfl,z2⟩:=open_string Tryd.underlying9 (hval 2 9 v2 rfl rfl) h2
  have hs2:a2.size≤1048576:=by
    simp only [Rows.uptoBulk] at hkb2
    rw [Array.length_toList] at hkb2
    exact Nat.le_trans (Nat.le_succ _) hkb2
  have hG:Q.GOk W:=Go.Proofs.cell_of_shapedOpen_int (zero:=#[.int .i64 0]) (t:=3) hsh (of_decide_eq_true (by kernel_rfl)) (by kernel_rfl) rfl (by kernel_rfl) (by kernel_rfl) Tryd.underlying3
  obtain⟨k,h⟩:=Pure.XmlBackUpto ⟨x0,y0,l0⟩ b1 a2 (by omega) hs2
  clear hA0 hval0
  have hlt0:∀ x∈p0,x.block<W.heap.size:=fun x hx=>by simpa using hW'.lt x (by simp [hx])
  refine(Q.stowagelaw13_XmlBack.calls k x0 y0 A0 c0 l0 b1 a2 true W hr0 hc0 hG h rfl).mono fun e W' ⟨he,bel⟩=>?_
  subst he
  exact⟨_,rfl,_,_,_,[],_,[],hW',trodAll_mk1 (shut_bool Tryd.underlying4 _),(trodAll_cons_mk (Below.trod laidOut (by kernel_rfl) (of_decide_eq_true (by kernel_rfl)) h0 bel hlt0) (trodAll_cons_mk (shut_bool Tryd.underlying4 _) (trodAll_cons_mk (shut_string Tryd.underlying9 z2) trodAll_mk0))),rfl,bel.frame _,fun h=>by cases h⟩
theorem over:Rows.xmlBackUptoRow.holds Tryd.pinned (Rows.OpenSpec.upto Rows.xmlBackSpec):=
  OpenClaim.holds_of_cond 5 Tryd.f5 rfl rfl rfl rfl rfl rfl rfl ⟨rfl,rfl,rfl,rfl,rfl⟩ rfl rfl rfl rfl rfl (by kernel_rfl) Tryd.func5 (by kernel_rfl)
    (of_decide_eq_true (by kernel_rfl)) (by unfold Func.isWrapper;first|(rw [if_pos (by decide +kernel)];kernel_rfl)|(rw [if_neg (by decide +kernel)];exact⟨rfl,rfl⟩))
    (fun os started H enc _ F=>by rw [OpenClaim.pre_eq_preRow];exact lifted os started H enc F)
theorem plain (f : FuncId) (fn : Func) (hf : Tryd.pinned.checked.prog.funcNamed "stowage/stowagelaw13.XmlBack" = some f) (hfn : Tryd.pinned.checked.prog.funcs[f]? = some fn) :
    false=Tryd.pinned.checked.prog.looks [] ∧ ∀ (j:Nat) t,fn.params[j]? = some t→Tryd.pinned.checked.prog.wantsStandIn t=false:=by
  obtain rfl : f = 5 := Option.some.inj ((show Tryd.prog.funcNamed "stowage/stowagelaw13.XmlBack" = some 5 by kernel_rfl).symm.trans hf) |>.symm
  obtain rfl:fn=Tryd.f5:=(Option.some.inj (Tryd.func5.symm.trans hfn)).symm
  refine⟨by kernel_rfl,fun j t ht=>?_⟩
  rw [Tryd.params5] at ht
  have hm:=Array.mem_of_getElem? ht
  have hm':t∈([24,4,9]:List Nat):=by simpa using hm
  exact(show ∀ t∈([24,4,9]:List Nat),Tryd.prog.wantsStandIn t=false by intro t ht;simp only [List.mem_cons,List.not_mem_nil,or_false] at ht;rcases ht with rfl|rfl|rfl <;> kernel_rfl) t hm'
theorem card:Rows.XmlBackUptoCardSaid:=
  Claim7.holds_tied_plain_at .later [] _ _ _ _ over (fun _ h=>by cases h) (by kernel_rfl) (fun _ h=>by cases h) xmlBackUpto_row_tie rfl ⟨rfl,rfl⟩ (by kernel_rfl) rfl plain (by kernel_rfl)
end Go.Proofs.YtklcgncaclggcaaDoor.xmlBackUpto
namespace Go.Proofs.YtklcgncaclggcaaDoor
theorem xmlBackUpto_card:Rows.XmlBackUptoCardSaid:=xmlBackUpto.card
end Go.Proofs.YtklcgncaclggcaaDoor
