/- For texts of a bulk that the row bounds the law XmlTexts answers true: names are told, and texts are escaped and unescaped as the document says; the row and its tied card. -/
import Derived.Test.YtklcgncaclggcaaDoorRows
import Derived.Test.YtklcgncaclggcaaDoorCards
import Derived.Test.YtklcgncaclggcaaDoorTie
import Derived.Test.YtklcgncaclggcaaDoorZLaidg17
import Derived.WalkKit
import Derived.ProofKit
import Derived.OpenShut
import Derived.ShutString
import Derived.ChangeOld
import Derived.Below
import Derived.Deep.DeepHandedRow
import Derived.Shelf.Vars

namespace Go.Proofs.YtklcgncaclggcaaDoor.xmlTextsUpto
open Go.ChangeShapes Go.WideShapes Go.ChangeAt Go.RowKit Go.Proofs.YtklcgncaclggcaaDoorW.PrintWords
open Go.ChangeMaps (open_string shut_string)
theorem own:ownKnob Tryd.prog.godebug=none:=by kernel_rfl
theorem laidOut:laidOutB Tryd.prog=true:=by kernel_rfl
theorem reads (os:Os) {H:Type} (enc:TypeId×Value→H):∃ places,DataW.whole enc Tryd.prog ((Q.laidWorld os).forCall (fun _ _=>0) ⟨#[],#[.string ByteArray.empty],[]⟩).memory Tryd.f4.params.toList Rows.xmlTextsSpec.vars false (#[.string ByteArray.empty]:Array Value).toList 8=some ([.lit (.string [])],[],places):=⟨[],by kernel_rfl⟩
set_option maxRecDepth 100000 in
theorem lifted (os:Os) (started:os.Started) (H:Type) (enc:TypeId×Value→H) (F:Stop.Interp) :
    ReturnsInHanded {} Tryd.checked os 4 .any ((Rows.OpenSpec.upto Rows.xmlTextsSpec).preRow enc Tryd.prog Tryd.f4 Rows.xmlTextsUptoRow.domain false Rows.xmlTextsUptoRow.laid) (((Rows.OpenSpec.upto Rows.xmlTextsSpec).at F).post enc Tryd.prog Tryd.f4 false true false false):=by
  obtain⟨places,hx⟩:=reads os enc
  refine returnsInHanded_of_row (C:=Tryd.checked) (s:=Rows.OpenSpec.upto Rows.xmlTextsSpec) own started (by kernel_rfl) Tryd.func4
    (witness_row_at (enc:=enc) (C:=Tryd.checked) false (Q.laidWorld os) #[.string ByteArray.empty] rfl (by kernel_rfl) (by kernel_rfl) (by kernel_rfl)
      (OpenSpec.preRow_of_cond 8 hx (by kernel_rfl) (fun k hk=>by cases hk;kernel_rfl) (by kernel_rfl) (Q.laid_met os _))) ?_
  intro W base args ds gs before hval0 hW _ hk0 _ hL hsh _
  have hval:∀ (j:Nat) t v,Tryd.f4.params[j]? = some t→args[j]? = some v→Value.okWide Tryd.prog W .any base t v:=hval0
  have hW':=hW
  obtain⟨p,q,hA0,hV,rfl,hfz,hnd⟩:=hW
  have hA:DataW.TrodAll enc Tryd.prog W 0 (fun _=>true) true Tryd.f4.params.toList args.toList ds p:=hA0
  rw [Tryd.params4] at hA hval
  obtain⟨v0,vs0,d0,ds0,p0,q0,hargs,rfl,rfl,h0,r0⟩:=trodAll_cons hA
  obtain⟨rfl,rfl,rfl⟩:=trodAll_nil r0
  obtain rfl:args=#[v0]:=by cases args;simp_all
  obtain⟨rfl,rfl⟩:=trodVars_none hV
  have hkb:=hk0 Rows.uptoSmall rfl
  have hkA:Rows.uptoBulkAll [d0]≤1048576:=by
    simp only [List.append_nil] at hkb
    unfold Rows.uptoSmall at hkb
    exact of_decide_eq_true hkb
  have hkb0:Rows.uptoBulk d0≤1048576:=by
    simp only [Rows.uptoBulkAll] at hkA
    omega
  clear hkb hkA
  obtain⟨a0,rfl,rfl,rfl,z0⟩:=open_string Tryd.underlying9 (hval 0 9 v0 rfl rfl) h0
  have hs0:a0.size≤1048576:=by
    simp only [Rows.uptoBulk] at hkb0
    rw [Array.length_toList] at hkb0
    exact Nat.le_trans (Nat.le_succ _) hkb0
  have hG:Q.GOk W:=Go.Proofs.cell_of_shapedOpen_int (zero:=#[.int .i64 0]) (t:=3) hsh (of_decide_eq_true (by kernel_rfl)) (by kernel_rfl) rfl (by kernel_rfl) (by kernel_rfl) Tryd.underlying3
  obtain⟨k,h⟩:=Pure.XmlTextsUpto a0 hs0
  clear hA0 hval0
  refine(Q.stowagelaw13_XmlTexts.calls k a0 true W  hG h rfl).mono fun e W' ⟨he,bel⟩=>?_
  subst he
  exact⟨_,rfl,_,_,_,[],_,[],hW',trodAll_mk1 (shut_bool Tryd.underlying4 _),(trodAll_cons_mk (shut_string Tryd.underlying9 z0) trodAll_mk0),rfl,bel.frame _,fun h=>by cases h⟩
theorem over:Rows.xmlTextsUptoRow.holds Tryd.pinned (Rows.OpenSpec.upto Rows.xmlTextsSpec):=
  OpenClaim.holds_of_cond 4 Tryd.f4 rfl rfl rfl rfl rfl rfl rfl ⟨rfl,rfl,rfl,rfl,rfl⟩ rfl rfl rfl rfl rfl (by kernel_rfl) Tryd.func4 (by kernel_rfl)
    (of_decide_eq_true (by kernel_rfl)) (by unfold Func.isWrapper;first|(rw [if_pos (by decide +kernel)];kernel_rfl)|(rw [if_neg (by decide +kernel)];exact⟨rfl,rfl⟩))
    (fun os started H enc _ F=>by rw [OpenClaim.pre_eq_preRow];exact lifted os started H enc F)
theorem plain (f : FuncId) (fn : Func) (hf : Tryd.pinned.checked.prog.funcNamed "stowage/stowagelaw13.XmlTexts" = some f) (hfn : Tryd.pinned.checked.prog.funcs[f]? = some fn) :
    false=Tryd.pinned.checked.prog.looks [] ∧ ∀ (j:Nat) t,fn.params[j]? = some t→Tryd.pinned.checked.prog.wantsStandIn t=false:=by
  obtain rfl : f = 4 := Option.some.inj ((show Tryd.prog.funcNamed "stowage/stowagelaw13.XmlTexts" = some 4 by kernel_rfl).symm.trans hf) |>.symm
  obtain rfl:fn=Tryd.f4:=(Option.some.inj (Tryd.func4.symm.trans hfn)).symm
  refine⟨by kernel_rfl,fun j t ht=>?_⟩
  rw [Tryd.params4] at ht
  have hm:=Array.mem_of_getElem? ht
  have hm':t∈([9]:List Nat):=by simpa using hm
  exact(show ∀ t∈([9]:List Nat),Tryd.prog.wantsStandIn t=false by intro t ht;simp only [List.mem_cons,List.not_mem_nil,or_false] at ht;rcases ht with rfl <;> kernel_rfl) t hm'
theorem card:Rows.XmlTextsUptoCardSaid:=
  Claim7.holds_tied_plain_at .later [] _ _ _ _ over (fun _ h=>by cases h) (by kernel_rfl) (fun _ h=>by cases h) xmlTextsUpto_row_tie rfl ⟨rfl,rfl⟩ (by kernel_rfl) rfl plain (by kernel_rfl)
end Go.Proofs.YtklcgncaclggcaaDoor.xmlTextsUpto
namespace Go.Proofs.YtklcgncaclggcaaDoor
theorem xmlTextsUpto_card:Rows.XmlTextsUptoCardSaid:=xmlTextsUpto.card
end Go.Proofs.YtklcgncaclggcaaDoor
