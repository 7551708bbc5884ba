/- A part of the proof of the seat's laws. No condition beyond those in the theorems. -/
import Derived.Test.YtfjidcmegacibaaDoorRows
import Derived.Test.YtfjidcmegacibaaDoorZBase
import Derived.RowKit
import Derived.LaidLaws
import Derived.Lib.LaidU8
import Derived.Lib.LaidTab
import Derived.Stop.Joined
import Derived.Test.YtfjidcmegacibaaDoorV1
import Derived.Deep.Slices
import Derived.ChangeSame
import Derived.SizedLaws
import Derived.Test.YtfjidcmegacibaaDoorZQ92g3
import Derived.KernelRfl
import Derived.Laws.Strings
import Derived.Lib.Bytealg
import Derived.Test.YtfjidcmegacibaaDoorZQ11
import Derived.Test.YtfjidcmegacibaaDoorZQ82g8
import Derived.Test.YtfjidcmegacibaaDoorZQ18g12
import Derived.Test.YtfjidcmegacibaaDoorZQ0g11
import Derived.Test.YtfjidcmegacibaaDoorZQ31g8
import Derived.Lib.ItoaNum
import Derived.Test.YtfjidcmegacibaaDoorZQ59
import Derived.Test.YtfjidcmegacibaaDoorZQ12g5
import Derived.Lib.IndexLaws
import Derived.Test.YtfjidcmegacibaaDoorZQ61g16
import Derived.Test.YtfjidcmegacibaaDoorZQ90
import Derived.Test.YtfjidcmegacibaaDoorZQ30
import Derived.Test.YtfjidcmegacibaaDoorZQ91

namespace Go.Proofs.YtfjidcmegacibaaDoor.Q
open Go.ChangeShapes Go.WideShapes Go.RowKit
abbrev laidList : List (String × DataW Unit) := [("math/bits.deBruijn32tab", Rows.laid_math_bits_deBruijn32tab), ("math/bits.deBruijn64tab", Rows.laid_math_bits_deBruijn64tab), ("internal/strconv.uint64pow10", Rows.laid_internal_strconv_uint64pow10)]
noncomputable def laidWorld (os:Os):World:=
  let w0:=World.holding Tryd.prog os ⟨#[],#[],[]⟩
  { w0 with heap:=(((w0.heap.modify 2 fun
      | .cells _ t frozen=>.cells #[.int .u8 0,.int .u8 1,.int .u8 28,.int .u8 2,.int .u8 29,.int .u8 14,.int .u8 24,.int .u8 3,.int .u8 30,.int .u8 22,.int .u8 20,.int .u8 15,.int .u8 25,.int .u8 17,.int .u8 4,.int .u8 8,.int .u8 31,.int .u8 27,.int .u8 13,.int .u8 23,.int .u8 21,.int .u8 19,.int .u8 16,.int .u8 7,.int .u8 26,.int .u8 12,.int .u8 18,.int .u8 6,.int .u8 11,.int .u8 5,.int .u8 10,.int .u8 9] t frozen
      | o=>o).modify 3 fun
      | .cells _ t frozen=>.cells #[.int .u8 0,.int .u8 1,.int .u8 56,.int .u8 2,.int .u8 57,.int .u8 49,.int .u8 28,.int .u8 3,.int .u8 61,.int .u8 58,.int .u8 42,.int .u8 50,.int .u8 38,.int .u8 29,.int .u8 17,.int .u8 4,.int .u8 62,.int .u8 47,.int .u8 59,.int .u8 36,.int .u8 45,.int .u8 43,.int .u8 51,.int .u8 22,.int .u8 53,.int .u8 39,.int .u8 33,.int .u8 30,.int .u8 24,.int .u8 18,.int .u8 12,.int .u8 5,.int .u8 63,.int .u8 55,.int .u8 48,.int .u8 27,.int .u8 60,.int .u8 41,.int .u8 37,.int .u8 16,.int .u8 46,.int .u8 35,.int .u8 44,.int .u8 21,.int .u8 52,.int .u8 32,.int .u8 23,.int .u8 11,.int .u8 54,.int .u8 26,.int .u8 40,.int .u8 15,.int .u8 34,.int .u8 20,.int .u8 31,.int .u8 10,.int .u8 25,.int .u8 14,.int .u8 19,.int .u8 9,.int .u8 13,.int .u8 8,.int .u8 7,.int .u8 6] t frozen
      | o=>o).modify 1 fun
      | .cells _ t frozen=>.cells #[.int .u64 1,.int .u64 10,.int .u64 100,.int .u64 1000,.int .u64 10000,.int .u64 100000,.int .u64 1000000,.int .u64 10000000,.int .u64 100000000,.int .u64 1000000000,.int .u64 10000000000,.int .u64 100000000000,.int .u64 1000000000000,.int .u64 10000000000000,.int .u64 100000000000000,.int .u64 1000000000000000,.int .u64 10000000000000000,.int .u64 100000000000000000,.int .u64 1000000000000000000,.int .u64 10000000000000000000] t frozen
      | o=>o)}
theorem laid_met0 (os:Os) (args:Array Value):laidMet Tryd.prog laidList ((laidWorld os).forCall (fun _ _=>0) ⟨#[],args,[]⟩).memory:=
  laidMet_of_run' 8 (by kernel_rfl) (by kernel_rfl)
theorem laid_met (os:Os) (args:Array Value):laidMetH Tryd.prog laidList ((laidWorld os).forCall (fun _ _=>0) ⟨#[],args,[]⟩).memory:=laid_met0 os args
theorem pow_laid {W : World} (h : laidMetH Tryd.prog laidList W) : Lib.TabIs Tryd.prog W "internal/strconv.uint64pow10" .u64 Lib.pow10Tab := by
  have h':laidMet Tryd.prog laidList W:=h
  have e:(Rows.laid_internal_strconv_uint64pow10:DataW Unit)=Lib.tabData .u64 Lib.pow10Tab:=by kernel_rfl
  have hr := Lib.laidMet.reads h' (n := "internal/strconv.uint64pow10") (d := Rows.laid_internal_strconv_uint64pow10) (by simp)
  rw [e] at hr
  obtain⟨g',t',cs,fuel,p,hg',ht',hvar,hd⟩:=hr
  obtain rfl := Option.some.inj ((show Tryd.prog.globalNamed "internal/strconv.uint64pow10" = some 1 by kernel_rfl).symm.trans hg')
  unfold Lib.TabIs
  rw [hvar]
  have hc:cs.toList=Lib.pow10Tab.map fun z=>Value.int .u64 z:=by
    have ht2:(Tryd.prog.globals[1]?).map (·.type)=some 135:=by kernel_rfl
    obtain rfl:=Option.some.inj (ht2.symm.trans ht')
    exact Lib.cells_of_tab (e:=128) (n:=20) (by kernel_rfl) (by kernel_rfl) (by kernel_rfl) (by kernel_rfl) hd
  rw [← hc]
end Go.Proofs.YtfjidcmegacibaaDoor.Q


namespace Go.Proofs.YtfjidcmegacibaaDoor.Opn
open Go.ChangeShapes Go.WideShapes Go.RowKit Go.Proofs.YtfjidcmegacibaaDoorW.PrintWords
section
variable {H:Type} (enc:TypeId×Value→H) (P:Program) (w:World) (base:Nat) (spare:Nat→Bool) (held:Bool)
def Opens (t:TypeId) {α:Type} (d:Kd α) (R:DataW H→α→Prop):Prop:=∀ fuel cs x,DataW.trod enc P w base spare held fuel t cs=some x → ∃ a,d.K w a cs∧R x.1 a
end
section
variable {H:Type} {enc:TypeId×Value→H} {P:Program} {w:World} {base:Nat} {spare:Nat→Bool} {held:Bool} {t e:TypeId} {α:Type} {d:Kd α} {R:DataW H→α→Prop}
theorem Opens.imp_ {R':DataW H→α→Prop} (h:Opens enc P w base spare held t d R) (hr:∀ x a,R x a→R' x a):Opens enc P w base spare held t d R':=fun fuel cs x hx=>by
  obtain⟨a,h1,h2⟩:=h fuel cs x hx
  exact⟨a,h1,hr _ _ h2⟩
theorem opens_string (ht:P.underlying t=some .string):Opens enc P w base spare held t Kd.string (fun x a=>x = .lit (.string a.data.toList)):=fun fuel cs x hx=>by
  obtain⟨s,rfl,rfl,_⟩:=DataW.trod_string ht hx
  exact⟨s,rfl,rfl⟩
theorem opens_int {k:IntKind} (ht:P.underlying t=some (.int k)):Opens enc P w base spare held t (Kd.int k) (fun x a=>x = .lit (.int k a)∧(Lit.int k a).wf=true):=fun fuel cs x hx=>by
  obtain⟨s,rfl,rfl,h⟩:=DataW.trod_int ht hx
  exact⟨s,rfl,rfl,h⟩
theorem opens_bool (ht:P.underlying t=some .bool):Opens enc P w base spare held t Kd.bool (fun x a=>x = .lit (.bool a)):=fun fuel cs x hx=>by
  obtain⟨s,rfl,rfl⟩:=DataW.trod_bool ht hx
  exact⟨s,rfl,rfl⟩
theorem opens_slice [Inhabited α] (ht:P.underlying t=some (.slice e)) (hc:P.cellsOf e=d.sz) (h:Opens enc P w base spare held e d R) :
    Opens enc P w base spare held t (Kd.slice e d) (fun x xs=>(x = .nil∧xs = []) ∨ ∃ (n:Nat) (D:Nat→DataW H) (X:Nat→α) (sp:List (DataW H)),x = .slice ((List.range n).map D) sp∧xs=(List.range n).map X ∧ ∀ i,i<n→R (D i) (X i)):=by
  intro fuel cs x hx
  rcases Deep.open_slice ht hx with⟨rfl,rfl⟩|⟨a,len,cap,m,n,D,Pl,rfl,hb,hl,hm,hmm,rfl,hall⟩
  · exact⟨[],⟨none,0,rfl,Nat.le_refl _,rfl,by simp,fun h=>absurd h (Nat.lt_irrefl 0)⟩,.inl ⟨rfl,rfl⟩⟩
  · have hlm:len≤m:=by rw [hmm];split <;> omega
    have each:∀ i,i<len → ∃ x:α,∃ cs',w.cells? base (a.add (i*P.cellsOf e)) (P.cellsOf e)=some cs'∧d.K w x cs'∧R (D i) x:=by
      intro i hi
      obtain⟨cs',h1,h2⟩:=hall i (by omega)
      obtain⟨x,h3,h4⟩:=h _ _ _ h2
      exact⟨x,cs',h1,h3,h4⟩
    obtain⟨X,hX⟩:=Deep.choose_lt each
    have hlen:((List.range len).map X).length=len:=by simp
    refine⟨(List.range len).map X,⟨some a,cap,by rw [hlen],by rw [hlen];exact hl,?_⟩,.inr ⟨len,D,X,_,rfl,rfl,fun i hi=>by obtain⟨_,_,_,h4⟩:=hX i hi;exact h4⟩⟩
    rw [hlen]
    refine⟨hlen,by simp only [maxLen] at hm;omega,fun _=>⟨a,rfl,fun j p hp=>?_⟩⟩
    have hj:j<len:=by
      have:=(List.getElem?_eq_some_iff.mp hp).1
      simpa using this
    have hpx:p=X j:=by
      rw [List.getElem?_map,List.getElem?_range hj] at hp
      exact(Option.some.inj hp).symm
    subst hpx
    obtain⟨cs',h1,h3,_⟩:=hX j hj
    obtain⟨_,hl',hcell⟩:=World.cells?_some h1
    refine⟨cs',d.K_len h3,h3,fun i u hu=>?_⟩
    have hi:i<P.cellsOf e:=by
      have:=(List.getElem?_eq_some_iff.mp hu).1
      omega
    have hcc:=hcell i hi
    rw [hu,hc,Deep.add_add] at hcc
    exact hcc
def Up {H:Type} (W:α→Prop) (M:α→Nat) (x:DataW H) (a:α):Prop:=W a∧M a≤Rows.uptoBulk x
theorem bulk_all {H:Type} (D:Nat→DataW H) (X:Nat→Nat) (l:List Nat) (h:∀ i∈l,X i≤Rows.uptoBulk (D i)):(l.map X).sum≤Rows.uptoBulkAll (l.map D):=by
  induction l with
  | nil=>simp
  | cons i l ih=>
    simp only [List.map_cons,List.sum_cons,Rows.uptoBulkAll]
    have h1:=h i List.mem_cons_self
    have h2:=ih (fun j hj=>h j (List.mem_cons_of_mem _ hj))
    omega
def msz (M:α→Nat) (xs:List α):Nat:=(xs.map M).sum+1
theorem up_string (ht:P.underlying t=some .string):Opens enc P w base spare held t Kd.string (Up (fun _=>True) (fun s=>s.size+1)):=
  (opens_string ht).imp_ fun x a h=>by
    subst h
    refine⟨trivial,?_⟩
    have e:a.data.toList.length=a.size:=by rw [Array.length_toList];rfl
    show a.size+1≤a.data.toList.length+1
    omega
theorem up_int {k:IntKind} (ht:P.underlying t=some (.int k)):Opens enc P w base spare held t (Kd.int k) (Up (fun a=>(Lit.int k a).wf=true) (fun _=>1)):=
  (opens_int ht).imp_ fun x a h=>by
    obtain⟨rfl,h⟩:=h
    exact⟨h,Nat.le_refl _⟩
theorem up_bool (ht:P.underlying t=some .bool):Opens enc P w base spare held t Kd.bool (Up (fun _=>True) (fun _=>1)):=
  (opens_bool ht).imp_ fun x a h=>by
    subst h
    exact⟨trivial,Nat.le_refl _⟩
theorem up_slice [Inhabited α] {W:α→Prop} {M:α→Nat} (ht:P.underlying t=some (.slice e)) (hc:P.cellsOf e=d.sz) (h:Opens enc P w base spare held e d (Up W M)) :
    Opens enc P w base spare held t (Kd.slice e d) (Up (fun xs=>∀ a∈xs,W a) (msz M)):=
  (opens_slice ht hc h).imp_ fun x xs hx=>by
    rcases hx with⟨rfl,rfl⟩|⟨n,D,X,sp,rfl,rfl,h⟩
    · exact⟨fun a ha=>(by cases ha),Nat.le_refl _⟩
    · refine⟨fun a ha=>?_,?_⟩
      · obtain⟨i,hi,rfl⟩:=List.mem_map.mp ha
        exact(h i (List.mem_range.mp hi)).1
      · have:=bulk_all D (fun i=>M (X i)) (List.range n) (fun i hi=>(h i (List.mem_range.mp hi)).2)
        simp only [msz,Rows.uptoBulk,List.map_map]
        show((List.range n).map (M∘X)).sum+1≤_
        have e:((List.range n).map (M∘X)).sum=((List.range n).map fun i=>M (X i)).sum:=rfl
        omega
def Wt {H:Type} (P:Program) (t:TypeId) (B:α→Prop) (x:DataW H) (a:α):Prop:=(∀ n∈x.weights P t,n≤reachBytes)→B a
theorem wt_string (ht:P.underlying t=some .string):Opens enc P w base spare held t Kd.string (Wt P t (fun s=>s.size≤140737488351232)):=
  (opens_string ht).imp_ fun x a h=>by
    subst h
    intro hw
    have e:a.data.toList.length=a.size:=by rw [Array.length_toList];rfl
    have:=hw a.data.toList.length (by simp [DataW.weights])
    simp only [reachBytes] at this
    omega
theorem wt_int {k:IntKind} (ht:P.underlying t=some (.int k)):Opens enc P w base spare held t (Kd.int k) (Wt P t (fun a=>(Lit.int k a).wf=true)):=
  (opens_int ht).imp_ fun x a h=>fun _=>h.2
theorem weights_all {H:Type} (P:Program) (e:TypeId) (l:List (DataW H)) (d:DataW H) (hd:d∈l):∀ n∈d.weights P e,n∈DataW.weightsAll P e l:=by
  induction l with
  | nil=>cases hd
  | cons x r ih=>
    intro n hn
    rw [DataW.weightsAll]
    cases List.mem_cons.1 hd with
    | inl h=>subst h;exact List.mem_append_left _ hn
    | inr h=>exact List.mem_append_right _ (ih h n hn)
theorem wt_slice [Inhabited α] {B:α→Prop} (sz:Nat) (ht:P.underlying t=some (.slice e)) (hc:P.cellsOf e=d.sz) (hsz:P.bytesOf e=sz) (h:Opens enc P w base spare held e d (Wt P e B)) :
    Opens enc P w base spare held t (Kd.slice e d) (Wt P t (fun xs=>xs.length*sz≤140737488351232 ∧ ∀ a∈xs,B a)):=
  (opens_slice ht hc h).imp_ fun x xs hx=>by
    rcases hx with⟨rfl,rfl⟩|⟨n,D,X,sp,rfl,rfl,h⟩
    · exact fun _=>⟨by simp,fun a ha=>by cases ha⟩
    · intro hw
      simp only [DataW.weights,ht] at hw
      refine⟨?_,fun a ha=>?_⟩
      · have:=hw _ List.mem_cons_self
        simp only [List.length_map,List.length_range,reachBytes,hsz] at this ⊢
        have h2:n*sz≤(n+sp.length)*sz:=Nat.mul_le_mul_right _ (by omega)
        omega
      · obtain⟨i,hi,rfl⟩:=List.mem_map.mp ha
        refine h i (List.mem_range.mp hi) fun m hm=>hw m ?_
        refine List.mem_cons_of_mem _ (List.mem_append_left _ (weights_all P e _ (D i) (List.mem_map.mpr ⟨i,hi,rfl⟩) m hm))
end
instance:Inhabited Q.S52:=⟨Q.z52⟩
instance:Inhabited ByteArray:=⟨ByteArray.empty⟩
section
variable {H:Type} {enc:TypeId×Value→H} {w:World} {base:Nat} {spare:Nat→Bool} {held:Bool}
theorem c9:Tryd.prog.cellsOf 9=1:=by kernel_rfl
theorem c3:Tryd.prog.cellsOf 3=1:=by kernel_rfl
theorem ch2:Tryd.prog.cellsOf 52=2:=by kernel_rfl
theorem chs:Tryd.prog.cellsOf 25=1:=by kernel_rfl
theorem cby:Tryd.prog.cellsOf 23=1:=by kernel_rfl
theorem cu8:Tryd.prog.cellsOf 5=1:=by kernel_rfl
theorem crp:Tryd.prog.cellsOf 27=3:=by kernel_rfl
def bulkH (h:Q.S52):Nat:=h.f0.size+h.f1.size+3
set_option maxRecDepth 100000 in
theorem up_header:Opens enc Tryd.prog w base spare held 52 Q.k52 (Up (fun _=>True) bulkH):=by
  intro fuel cs x hx
  obtain⟨xs,n,_,rfl,hl,hlen,hf⟩:=DataW.trod_struct Tryd.underlying52 hx
  rw [ch2] at hl
  match xs,hlen,cs,hl with
  | [y0,y1],_,[u0,u1],_=>
    have g0:=hf 0 _ rfl
    have g1:=hf 1 _ rfl
    simp only [c9,List.drop_zero,List.drop_succ_cons,List.take_succ_cons,List.take_zero,List.getElem?_cons_zero,List.getElem?_cons_succ] at g0 g1
    obtain⟨r0,k0,e0⟩:=up_string Tryd.underlying9 _ _ _ g0
    obtain⟨r1,k1,e1⟩:=up_string Tryd.underlying9 _ _ _ g1
    refine⟨⟨r0,r1⟩,⟨[u0],[u1],rfl,k0,k1⟩,trivial,?_⟩
    have b0:r0.size+1≤Rows.uptoBulk y0.1:=e0.2
    have b1:r1.size+1≤Rows.uptoBulk y1.1:=e1.2
    simp only [bulkH,Rows.uptoBulk,Rows.uptoBulkAll,List.map_cons,List.map_nil]
    omega
theorem up_headers:Opens enc Tryd.prog w base spare held 25 (Kd.slice 52 Q.k52) (Up (fun _=>True) (msz bulkH)):=(up_slice Tryd.underlying25 ch2 up_header).imp_ fun _ _ h=>⟨trivial,h.2⟩
theorem up_bytes:Opens enc Tryd.prog w base spare held 23 (Kd.slice 5 (Kd.int .u8)) (Up (fun xs=>∀ x∈xs,(Lit.int .u8 x).wf=true) (msz (fun _=>1))):=up_slice Tryd.underlying23 cu8 (up_int Tryd.underlying5)
def bulkR (r:Q.S27):Nat:=msz bulkH r.f1+msz (fun _=>1) r.f2
instance:Inhabited Q.S27:=⟨Q.z27⟩
set_option maxRecDepth 100000 in
theorem up_reply:Opens enc Tryd.prog w base spare held 27 Q.k27 (Up (fun r=>(Lit.int .i64 r.f0).wf=true ∧ ∀ x∈r.f2,(Lit.int .u8 x).wf=true) bulkR):=by
  intro fuel cs x hx
  obtain⟨xs,n,_,rfl,hl,hlen,hf⟩:=DataW.trod_struct Tryd.underlying27 hx
  rw [crp] at hl
  match xs,hlen,cs,hl with
  | [y0,y1,y2],_,[u0,u1,u2],_=>
    have g0:=hf 0 _ rfl
    have g1:=hf 1 _ rfl
    have g2:=hf 2 _ rfl
    simp only [c3,chs,cby,List.drop_zero,List.drop_succ_cons,List.take_succ_cons,List.take_zero,List.getElem?_cons_zero,List.getElem?_cons_succ] at g0 g1 g2
    obtain⟨r0,k0,e0⟩:=up_int Tryd.underlying3 _ _ _ g0
    obtain⟨r1,k1,e1⟩:=up_headers _ _ _ g1
    obtain⟨r2,k2,e2⟩:=up_bytes _ _ _ g2
    refine⟨⟨r0,r1,r2⟩,⟨[u0],[u1,u2],rfl,k0,⟨[u1],[u2],rfl,k1,k2⟩⟩,⟨e0.1,e2.1⟩,?_⟩
    have b1:msz bulkH r1≤Rows.uptoBulk y1.1:=e1.2
    have b2:msz (fun _=>1) r2≤Rows.uptoBulk y2.1:=e2.2
    simp only [bulkR,Rows.uptoBulk,Rows.uptoBulkAll,List.map_cons,List.map_nil]
    omega
theorem up_replies:Opens enc Tryd.prog w base spare held 22 (Kd.slice 27 Q.k27) (Up (fun rs=>∀ r∈rs,(Lit.int .i64 r.f0).wf=true ∧ ∀ x∈r.f2,(Lit.int .u8 x).wf=true) (msz bulkR)):=up_slice Tryd.underlying22 crp up_reply
theorem msz_mem {α:Type} (M:α→Nat) (xs:List α):∀ a∈xs,M a≤msz M xs:=by
  induction xs with
  | nil=>intro a h;cases h
  | cons x l ih=>
    intro a h
    have e:msz M (x :: l)=M x+msz M l:=by simp only [msz,List.map_cons,List.sum_cons];omega
    rw [e]
    cases List.mem_cons.1 h with
    | inl h=>subst h;omega
    | inr h=>have:=ih a h;omega
set_option maxRecDepth 100000 in
theorem open_reply {v:Value} {x:DataW H} {p:List MemPlace} (hv:∃ cs,v = .agg cs∧cs.size=Tryd.prog.cellsOf 27) (ht:DataW.Trod enc Tryd.prog w base spare held 27 v x p) :
    ∃ (a:Int) (A2:Option Addr) (c2:Nat) (hd:List Q.S52) (A3:Option Addr) (c3:Nat) (bd:List Int),v = .agg #[.int .i64 a,.slice A2 hd.length c2,.slice A3 bd.length c3]∧(Lit.int .i64 a).wf=true ∧
      (hd.length≤c2∧Kd.C Q.k52 w A2 hd.length hd)∧(bd.length≤c3∧Kd.C (Kd.int .u8) w A3 bd.length bd)∧(∀ x∈bd,(Lit.int .u8 x).wf=true)∧msz bulkH hd+msz (fun _=>1) bd≤Rows.uptoBulk x:=by
  obtain⟨cs,rfl,hsz⟩:=hv
  obtain⟨fuel,hf⟩:=ht
  obtain⟨xs,n,_,e,hl,hlen,hall⟩:=DataW.trod_struct Tryd.underlying27 hf
  obtain⟨rfl,rfl⟩:=Prod.mk.inj e
  rw [crp] at hl hsz
  obtain⟨cs⟩:=cs
  match xs,hlen,cs,hl with
  | [y1,y2,y3],_,[u1,u2,u3],_=>
    have g1:DataW.trod enc Tryd.prog w base spare held n 3 [u1]=some y1:=hall 0 _ rfl
    have g2:DataW.trod enc Tryd.prog w base spare held n 25 [u2]=some y2:=hall 1 _ rfl
    have g3:DataW.trod enc Tryd.prog w base spare held n 23 [u3]=some y3:=hall 2 _ rfl
    obtain⟨r1,k1,e1⟩:=up_int Tryd.underlying3 _ _ _ g1
    obtain⟨r2,⟨A2,c2,k2,l2,q2⟩,e2⟩:=up_headers _ _ _ g2
    obtain⟨r3,⟨A3,c3,k3,l3,q3⟩,e3⟩:=up_bytes _ _ _ g3
    obtain rfl:u1 = .int .i64 r1:=(List.cons.inj k1).1
    obtain rfl:u2 = .slice A2 r2.length c2:=(List.cons.inj k2).1
    obtain rfl:u3 = .slice A3 r3.length c3:=(List.cons.inj k3).1
    refine⟨r1,A2,c2,r2,A3,c3,r3,rfl,e1.1,⟨l2,q2⟩,⟨l3,q3⟩,e3.1,?_⟩
    have b2:msz bulkH r2≤Rows.uptoBulk y2.1:=e2.2
    have b3:msz (fun _=>1) r3≤Rows.uptoBulk y3.1:=e3.2
    simp only [Rows.uptoBulk,Rows.uptoBulkAll,List.map_cons,List.map_nil]
    omega
theorem open_arg {t e:TypeId} {α:Type} {d:Kd α} {R:DataW H→List α→Prop} (h:Opens enc Tryd.prog w base spare held t (Kd.slice e d) R) {v:Value} {x:DataW H} {p:List MemPlace} (hv:∃ A n c,v = .slice A n c) (ht:DataW.Trod enc Tryd.prog w base spare held t v x p) :
    ∃ (A:Option Addr) (c:Nat) (l:List α),v = .slice A l.length c∧l.length≤c∧Kd.C d w A l.length l∧R x l:=by
  obtain⟨A,n,c,rfl⟩:=hv
  obtain⟨fuel,hf⟩:=ht
  obtain⟨l,⟨A',c',e',hl,hC⟩,hR⟩:=h _ _ _ hf
  have e2:(Value.slice A n c) = .slice A' l.length c':=by simpa [Value.cells] using e'
  injection e2 with e3 e4 e5
  subst e3 e4 e5
  exact⟨_,_,l,rfl,hl,hC,hR⟩
theorem msz_len {α:Type} (M:α→Nat) (xs:List α) (h1:∀ a,1≤M a):xs.length≤msz M xs:=by
  induction xs with
  | nil=>exact Nat.zero_le _
  | cons x l ih=>
    have e:msz M (x :: l)=M x+msz M l:=by simp only [msz,List.map_cons,List.sum_cons];omega
    have:=h1 x
    rw [e,List.length_cons]
    omega
end
end Go.Proofs.YtfjidcmegacibaaDoor.Opn


namespace Go.Proofs.YtfjidcmegacibaaDoor.Cal
def leap (y:Int):Bool:=decide (y % 4=0∧(¬ y % 100=0∨y % 400=0))
def L (y:Int):Int:=if leap y=true then 1 else 0
def size (y m:Int):Int:=if m=4∨m=6∨m=9∨m=11 then 30 else if m=2 then 28+L y else 31
def dby (y:Int):Int:=(y-1)*365+(y-1) / 4-(y-1) / 100+(y-1) / 400-719162
def cum (y m:Int):Int:=
  if m≤1 then 0 else if m=2 then 31 else if m=3 then 59+L y else if m=4 then 90+L y else if m=5 then 120+L y
  else if m=6 then 151+L y else if m=7 then 181+L y else if m=8 then 212+L y else if m=9 then 243+L y
  else if m=10 then 273+L y else if m=11 then 304+L y else if m=12 then 334+L y else 365+L y
theorem L_two (y:Int):L y=0∨L y=1:=by unfold L;split <;> simp
theorem L_leap {y:Int} (h:leap y=true):L y=1:=by unfold L;rw [if_pos h]
theorem L_not {y:Int} (h:leap y=false):L y=0:=by unfold L;rw [h];rfl
theorem leap_iff (y:Int):leap y=true↔y % 4=0∧(¬ y % 100=0∨y % 400=0):=by unfold leap;simp
theorem dby_succ (y:Int):dby (y+1)=dby y+365+L y:=by
  cases h:leap y with
  | true=>rw [L_leap h];rw [leap_iff] at h;unfold dby;omega
  | false=>
    rw [L_not h]
    have h':¬ (y % 4=0∧(¬ y % 100=0∨y % 400=0)):=by rw [← leap_iff,h];simp
    unfold dby;omega
theorem size_bd (y m:Int):28≤size y m∧size y m≤31:=by
  have:=L_two y
  unfold size;split
  · omega
  · split <;> omega
theorem cum_succ (y m:Int) (h1:1≤m) (h2:m≤12):cum y (m+1)=cum y m+size y m:=by
  have hm:m=1∨m=2∨m=3∨m=4∨m=5∨m=6∨m=7∨m=8∨m=9∨m=10∨m=11∨m=12:=by omega
  rcases hm with rfl|rfl|rfl|rfl|rfl|rfl|rfl|rfl|rfl|rfl|rfl|rfl <;> simp [cum,size] <;> omega
theorem cum_one (y:Int):cum y 1=0:=by simp [cum]
theorem cum_end (y:Int):cum y 13=365+L y:=by simp [cum]
theorem cum_mono (y m:Int) (h1:1≤m) (d:Nat):m+d≤13→cum y m≤cum y (m+d):=by
  induction d with
  | zero=>intro _;simp
  | succ d ih=>
    intro h
    have hs:=cum_succ y (m+d) (by omega) (by omega)
    have hz:=size_bd y (m+d)
    have:=ih (by omega)
    have e:m+((d+1:Nat):Int)=m+d+1:=by omega
    rw [e];omega
theorem cum_le (y m m':Int) (h1:1≤m) (h:m≤m') (h2:m'≤13):cum y m≤cum y m':=by
  have:=cum_mono y m h1 (m'-m).toNat (by omega)
  rwa [show m+((m'-m).toNat:Int)=m' by omega] at this
theorem cum_bd (y m:Int) (h1:1≤m) (h2:m≤13):0≤cum y m∧cum y m≤366:=by
  have a:=cum_le y 1 m (by omega) h1 h2
  have b:=cum_le y m 13 h1 h2 (by omega)
  have:=L_two y
  rw [cum_one] at a
  rw [cum_end] at b
  omega
theorem dby_mono (y:Int) (d:Nat):dby y+365*d≤dby (y+d):=by
  induction d with
  | zero=>simp
  | succ d ih=>
    have hs:=dby_succ (y+d)
    have:=L_two (y+d)
    have e:y+((d+1:Nat):Int)=y+d+1:=by omega
    rw [e];omega
theorem dby_le (y y':Int) (h:y≤y'):dby y≤dby y':=by
  have:=dby_mono y (y'-y).toNat
  rw [show y+((y'-y).toNat:Int)=y' by omega] at this
  omega
structure Valid (y m d n:Int):Prop where
  y0:1970≤y
  y1:y≤9999
  m0:1≤m
  m1:m≤12
  d0:1≤d
  d1:d≤size y m
  num:dby y+cum y m+d-1=n
theorem Valid.in_year {y m d n:Int} (h:Valid y m d n):dby y≤n∧n<dby (y+1):=by
  have hc:=cum_bd y m h.m0 (by have:=h.m1;omega)
  have hs:=cum_succ y m h.m0 h.m1
  have hl:=cum_le y (m+1) 13 (by have:=h.m0;omega) (by have:=h.m1;omega) (by omega)
  rw [cum_end] at hl
  have hd:=dby_succ y
  have:=h.num;have:=h.d0;have:=h.d1
  omega
theorem Valid.year_eq {y m d n y' m' d':Int} (h:Valid y m d n) (h':Valid y' m' d' n):y=y':=by
  have a:=h.in_year
  have b:=h'.in_year
  by_cases c:y<y'
  · have:=dby_le (y+1) y' (by omega);omega
  · by_cases c':y'<y
    · have:=dby_le (y'+1) y (by omega);omega
    · omega
theorem Valid.unique {y m d n y' m' d':Int} (h:Valid y m d n) (h':Valid y' m' d' n):y=y'∧m=m'∧d=d':=by
  obtain rfl:=h.year_eq h'
  have hm:m=m':=by
    by_cases c:m<m'
    · have:=cum_le y (m+1) m' (by have:=h.m0;omega) (by omega) (by have:=h'.m1;omega)
      have:=cum_succ y m h.m0 h.m1
      have:=h.num;have:=h'.num;have:=h.d1;have:=h'.d0
      omega
    · by_cases c':m'<m
      · have:=cum_le y (m'+1) m (by have:=h'.m0;omega) (by omega) (by have:=h.m1;omega)
        have:=cum_succ y m' h'.m0 h'.m1
        have:=h.num;have:=h'.num;have:=h'.d1;have:=h.d0
        omega
      · omega
  subst hm
  have:=h.num;have:=h'.num
  exact⟨rfl,rfl,by omega⟩
theorem Valid.next {y m d n:Int} (h:Valid y m d n) (hn:n+1<dby 10000) :
    (Valid y m (d+1) (n+1))∨(d=size y m∧Valid y (m+1) 1 (n+1))∨(d=size y m∧m=12∧Valid (y+1) 1 1 (n+1)):=by
  by_cases c:d<size y m
  · exact .inl ⟨h.y0,h.y1,h.m0,h.m1,by have:=h.d0;omega,by omega,by have:=h.num;omega⟩
  · have hd:d=size y m:=by have:=h.d1;omega
    by_cases c2:m<12
    · refine .inr (.inl ⟨hd,h.y0,h.y1,by have:=h.m0;omega,by omega,by omega,by have:=size_bd y (m+1);omega,?_⟩)
      have:=cum_succ y m h.m0 h.m1;have:=h.num;omega
    · have hm:m=12:=by have:=h.m1;omega
      subst hm
      have e:=cum_succ y 12 (by omega) (by omega)
      have hs:=dby_succ y
      rw [show(12:Int)+1=13 from rfl,cum_end] at e
      have hy:y+1≤9999:=by
        by_cases c3:y+1≤9999
        · exact c3
        · have:=h.y1
          have:y=9999:=by omega
          subst this
          have:=h.num
          rw [show(9999:Int)+1=10000 from rfl] at hs
          omega
      refine .inr (.inr ⟨hd,rfl,by have:=h.y0;omega,hy,by omega,by omega,by omega,by have:=size_bd (y+1) 1;omega,?_⟩)
      rw [cum_one]
      have:=h.num;omega
theorem dby_1970:dby 1970=0:=by decide
theorem dby_10000:dby 10000=2932897:=by decide
theorem Valid.bd {y m d n:Int} (h:Valid y m d n):0≤n∧n≤2932896:=by
  have a:=h.in_year
  have:=dby_le 1970 y h.y0
  have:=dby_le (y+1) 10000 (by have:=h.y1;omega)
  rw [dby_1970] at *
  rw [dby_10000] at *
  omega
end Go.Proofs.YtfjidcmegacibaaDoor.Cal


namespace Go.Proofs.YtfjidcmegacibaaDoor.Pure
open Go.RowKit Go.Proofs.YtfjidcmegacibaaDoorW.PrintWords
set_option linter.unusedVariables false
set_option linter.unusedSimpArgs false
theorem ev_pos {α:Type} {c:Prop} [Decidable c] {f g:Nat→Option α} {r:α} (hc:c) (h:Ev f r):Ev (fun k=>if c then f k else g k) r:=
  Ev.congr (fun _=>if_pos hc) h
theorem ev_neg {α:Type} {c:Prop} [Decidable c] {f g:Nat→Option α} {r:α} (hc:¬ c) (h:Ev g r):Ev (fun k=>if c then f k else g k) r:=
  Ev.congr (fun _=>if_neg hc) h
theorem ev_eq {α:Type} {g:Nat→Option α} {r r':α} (h:Ev g r) (e:r=r'):Ev g r':=e▸h
theorem ev_some {α β:Type} {o:Option α} {a:α} {f:Nat→α→Option β} {r:β} (h:o=some a) (k:Ev (fun n=>f n a) r):Ev (fun n=>o.bind (f n)) r:=by subst h;exact k
theorem w64 {n:Int} (h:-9000000000000000000≤n) (h':n≤9000000000000000000):wrap64 n=n:=by unfold wrap64;omega
theorem wf_bd {a:Int} (h:(Lit.int .i64 a).wf=true):-9223372036854775808≤a∧a≤9223372036854775807:=by
  simp [Lit.wf] at h
  have e1:IntKind.i64.min = -9223372036854775808:=by kernel_rfl
  have e2:IntKind.i64.max=9223372036854775807:=by kernel_rfl
  omega
theorem toList_inj {a b:ByteArray} (h:a.toList=b.toList):a=b:=by
  rw [ByteArray.toList_eq,ByteArray.toList_eq] at h
  exact ByteArray.ext (Array.toList_inj.mp h)
theorem toList_extract (a:ByteArray) (i j:Nat):(a.extract i j).toList=(a.toList.take j).drop i:=by
  rw [ByteArray.toList_eq,ByteArray.toList_eq,ByteArray.data_extract,Array.toList_extract,List.extract_eq_take_drop,List.drop_take]
theorem toList_append (a b:ByteArray):(a++b).toList=a.toList++b.toList:=by
  rw [ByteArray.toList_eq,ByteArray.toList_eq,ByteArray.toList_eq,ByteArray.data_append,Array.toList_append]
theorem length_toList (a:ByteArray):a.toList.length=a.size:=by rw [ByteArray.toList_eq,Array.length_toList];rfl
theorem bt_get (s:ByteArray) (i:Nat) (h:i<s.toList.length):bt s i=(s.toList[i].toNat:Int):=by
  unfold bt
  rw [dif_pos (show((i:Nat):Int).toNat<s.size by rw [length_toList] at h;omega)]
  congr 1
  simp only [Int.toNat_natCast]
  have e:s.toList=s.data.toList:=ByteArray.toList_eq s
  simp only [e,Array.getElem_toList]
  rfl
theorem bt_drop (s:ByteArray) (i:Nat) (c:UInt8) (l:List UInt8) (h:s.toList.drop i=c :: l):bt s i=(c.toNat:Int)∧i<s.size:=by
  have hi:i<s.toList.length:=by
    have:=congrArg List.length h
    rw [List.length_drop,List.length_cons] at this
    omega
  refine⟨?_,by rw [← length_toList];exact hi⟩
  rw [bt_get s i hi]
  rw [List.drop_eq_getElem_cons hi] at h
  rw [(List.cons.inj h).1]
end Go.Proofs.YtfjidcmegacibaaDoor.Pure


namespace Go.Proofs.YtfjidcmegacibaaDoor.Pure.Date
open Go.RowKit Go.Proofs.YtfjidcmegacibaaDoor.Q Go.Proofs.YtfjidcmegacibaaDoorW.PrintWords Go.Proofs.YtfjidcmegacibaaDoorW.PrintLast Cal
set_option linter.unusedVariables false
set_option linter.unusedSimpArgs false
theorem tdiv_pos {a b:Int} (h:0≤a):Int.tdiv a b=a / b:=Int.tdiv_eq_ediv_of_nonneg h
theorem tmod_pos {a b:Int} (h:0≤a):Int.tmod a b=a % b:=Int.tmod_eq_emod_of_nonneg h
theorem is_eq (t:Int):when_is.f t=some (decide (0≤t∧t≤253402300799)):=by
  unfold when_is.f
  by_cases h:t ≥ 0
  · rw [if_pos h];simp [h]
  · rw [if_neg h];simp;intro h2;omega
theorem size_ev (y m:Int) (hy:0≤y):Ev (fun k=>when_size.f k y m) (size y m):=by
  have hj:∀ b:Bool,Ev (fun k=>when_size.j0 k y m b) (if b=true then 30 else if m=11 then 30 else if m=2 then 28+L y else 31):=by
    intro b
    refine Ev.step (f:=fun _=>some _) (fun k=>?_) (Ev.now _)
    simp only [when_size.j0]
    cases b with
    | true=>rfl
    | false=>
      simp only [Bool.false_eq_true,if_false]
      split
      · rfl
      · split
        · rw [tmod_pos hy,tmod_pos hy,tmod_pos hy]
          cases hl:leap y with
          | true=>
            rw [L_leap hl]
            rw [leap_iff] at hl
            rw [if_pos hl.1]
            split
            · rw [if_pos (by omega)];rfl
            · rfl
          | false=>
            rw [L_not hl]
            have hl':¬ (y % 4=0∧(¬ y % 100=0∨y % 400=0)):=by rw [← leap_iff,hl];simp
            split
            · rw [if_pos (by omega),if_neg (by omega)];rfl
            · rfl
        · rfl
  simp only [when_size.f]
  by_cases h4:m=4
  · refine ev_pos h4 (ev_eq (hj _) ?_)
    subst h4;simp [size]
  · refine ev_neg h4 ?_
    by_cases h6:m=6
    · refine ev_pos h6 (ev_eq (hj _) ?_)
      subst h6;simp [size]
    · refine ev_neg h6 (ev_eq (hj _) ?_)
      by_cases h9:m=9
      · subst h9;simp [size]
      · simp only [size,beq_iff_eq,h9,h4,h6,if_false,false_or]
theorem before_eq (y:Int) (h0:1≤y) (h1:y≤10001):when_before.f y=some (dby y):=by
  unfold when_before.f dby
  have e:wrap64 (y-1)=y-1:=w64 (by omega) (by omega)
  rw [e,tdiv_pos (by omega),tdiv_pos (by omega),tdiv_pos (by omega)]
  rw [w64 (n:=(y-1)*365) (by omega) (by omega),w64 (n:=(y-1) / 4) (by omega) (by omega),w64 (n:=(y-1) / 100) (by omega) (by omega),w64 (n:=(y-1) / 400) (by omega) (by omega)]
  rw [w64 (n:=(y-1)*365+(y-1) / 4) (by omega) (by omega),w64 (n:=(y-1)*365+(y-1) / 4-(y-1) / 100) (by omega) (by omega),w64 (n:=(y-1)*365+(y-1) / 4-(y-1) / 100+(y-1) / 400) (by omega) (by omega),w64 (by omega) (by omega)]
theorem hour_eq (t:Int) (h0:0≤t) (h1:t≤253402300799):Int.tmod (wrap64 (Int.tdiv t 3600)) 24=t / 3600 % 24:=by
  rw [tdiv_pos h0,w64 (by omega) (by omega),tmod_pos (by omega)]
theorem min_eq (t:Int) (h0:0≤t) (h1:t≤253402300799):Int.tmod (wrap64 (Int.tdiv t 60)) 60=t / 60 % 60:=by
  rw [tdiv_pos h0,w64 (by omega) (by omega),tmod_pos (by omega)]
theorem civil_l1 (x y:Int) (hy0:1970≤y) (hy1:y≤9999) (j:Nat):∀ (m n:Int),1≤m→m+j=12→0≤n→cum y m+n<365+L y →
    ∃ m' d',Valid y m' d' (dby y+cum y m+n)∧Ev (fun k=>when_Civil.l1 k x y m n) (y,m',d',Int.tmod (wrap64 (Int.tdiv x 3600)) 24,Int.tmod (wrap64 (Int.tdiv x 60)) 60,Int.tmod x 60,true):=by
  induction j with
  | zero=>
    intro m n h1 hj hn hb
    have hm:m=12:=by omega
    have hs:=size_bd y m
    have hc:=cum_succ y m h1 (by omega)
    subst hm
    rw [show(12:Int)+1=13 from rfl,cum_end] at hc
    refine⟨12,n+1,⟨hy0,hy1,by omega,by omega,by omega,by omega,by omega⟩,?_⟩
    refine Ev.step (f:=fun k=>_) (fun k=>by rw [when_Civil.l1]) ?_
    refine Ev.bind (size_ev y 12 (by omega)) ?_
    refine ev_neg (by omega) (ev_eq (Ev.now _) ?_)
    rw [w64 (by omega) (by omega)]
  | succ j ih=>
    intro m n h1 hj hn hb
    have hs:=size_bd y m
    have hc:=cum_succ y m h1 (by omega)
    by_cases c:n ≥ size y m
    · obtain⟨m',d',hv,he⟩:=ih (m+1) (n-size y m) (by omega) (by omega) (by omega) (by omega)
      refine⟨m',d',by rw [show dby y+cum y m+n=dby y+cum y (m+1)+(n-size y m) by omega];exact hv,?_⟩
      refine Ev.step (f:=fun k=>_) (fun k=>by rw [when_Civil.l1]) ?_
      refine Ev.bind (size_ev y m (by omega)) ?_
      refine ev_pos c ?_
      refine Ev.bind (size_ev y m (by omega)) ?_
      have hL:=L_two y
      have hcb:=cum_bd y m h1 (by omega)
      rw [w64 (n:=m+1) (by omega) (by omega),w64 (n:=n-size y m) (by omega) (by omega)]
      exact he
    · refine⟨m,n+1,⟨hy0,hy1,by omega,by omega,by omega,by omega,by omega⟩,?_⟩
      refine Ev.step (f:=fun k=>_) (fun k=>by rw [when_Civil.l1]) ?_
      refine Ev.bind (size_ev y m (by omega)) ?_
      refine ev_neg (by omega) (ev_eq (Ev.now _) ?_)
      rw [w64 (by omega) (by omega)]
theorem civil_l0 (x n:Int) (hn:n<dby 10000) (j:Nat):∀ y:Int,1970≤y→y+j=9999→dby y≤n →
    ∃ y' m' d',Valid y' m' d' n∧Ev (fun k=>when_Civil.l0 k x y n) (y',m',d',Int.tmod (wrap64 (Int.tdiv x 3600)) 24,Int.tmod (wrap64 (Int.tdiv x 60)) 60,Int.tmod x 60,true):=by
  have fin:∀ y:Int,1970≤y→y≤9999→dby y≤n→n<dby (y+1) → ∃ y' m' d',Valid y' m' d' n∧Ev (fun k=>when_Civil.l0 k x y n) (y',m',d',Int.tmod (wrap64 (Int.tdiv x 3600)) 24,Int.tmod (wrap64 (Int.tdiv x 60)) 60,Int.tmod x 60,true):=by
    intro y h0 h1 h2 h3
    have hd:=dby_succ y
    obtain⟨m',d',hv,he⟩:=civil_l1 x y h0 h1 11 1 (n-dby y) (by omega) (by omega) (by omega) (by rw [cum_one];omega)
    rw [cum_one,show dby y+0+(n-dby y)=n by omega] at hv
    refine⟨y,m',d',hv,?_⟩
    refine Ev.step (f:=fun k=>_) (fun k=>by rw [when_Civil.l0]) ?_
    rw [w64 (n:=y+1) (by omega) (by omega),before_eq (y+1) (by omega) (by omega)]
    refine ev_neg (by omega) ?_
    rw [before_eq y (by omega) (by omega)]
    show Ev (fun k=>when_Civil.l1 k x y 1 (wrap64 (n-dby y))) _
    have:=L_two y
    rw [w64 (n:=n-dby y) (by omega) (by omega)]
    exact he
  induction j with
  | zero=>
    intro y h0 hj h2
    obtain rfl:y=9999:=by omega
    exact fin 9999 (by omega) (by omega) h2 hn
  | succ j ih=>
    intro y h0 hj h2
    by_cases c:dby (y+1)≤n
    · obtain⟨y',m',d',hv,he⟩:=ih (y+1) (by omega) (by omega) c
      refine⟨y',m',d',hv,?_⟩
      refine Ev.step (f:=fun k=>_) (fun k=>by rw [when_Civil.l0]) ?_
      rw [w64 (n:=y+1) (by omega) (by omega),before_eq (y+1) (by omega) (by omega)]
      exact ev_pos c he
    · exact fin y h0 (by omega) h2 (by omega)
theorem dby_guess (q:Nat):dby (1970+q)≤366*q:=by
  induction q with
  | zero=>decide
  | succ q ih=>
    have hs:=dby_succ (1970+q)
    have:=L_two (1970+q)
    rw [show(1970:Int)+((q+1:Nat):Int)=1970+q+1 by omega];omega
theorem civil_ev (t:Int) (h0:0≤t) (h1:t≤253402300799):∃ y m d,Valid y m d (t / 86400)∧Ev (fun k=>when_Civil.f k t) (y,m,d,t / 3600 % 24,t / 60 % 60,t % 60,true):=by
  have hg:=dby_guess (t / 86400 / 366).toNat
  rw [show(((t / 86400 / 366).toNat:Nat):Int)=t / 86400 / 366 by omega] at hg
  obtain⟨y,m,d,hv,he⟩:=civil_l0 t (t / 86400) (by rw [dby_10000];omega) (8029-t / 86400 / 366).toNat (1970+t / 86400 / 366) (by omega) (by omega) (by omega)
  refine⟨y,m,d,hv,?_⟩
  rw [hour_eq t h0 h1,min_eq t h0 h1,tmod_pos h0] at he
  refine Ev.congr (fun k=>by rw [when_Civil.f,is_eq t,Option.bind_some,if_pos (by simp;omega)]) ?_
  rw [tdiv_pos h0,w64 (n:=t / 86400) (by omega) (by omega),tdiv_pos (by omega),w64 (n:=t / 86400 / 366) (by omega) (by omega),w64 (by omega) (by omega)]
  exact he
theorem rleap_eq (y:Int) (hy:0≤y):stowageref4_leap.f y=some (leap y):=by
  unfold stowageref4_leap.f
  rw [tmod_pos hy,tmod_pos hy,tmod_pos hy]
  cases h:leap y with
  | true=>
    rw [leap_iff] at h
    rw [if_pos h.1]
    split
    · have:y % 400=0:=by omega
      simp [this]
    · rfl
  | false=>
    have h':¬ (y % 4=0∧(¬ y % 100=0∨y % 400=0)):=by rw [← leap_iff,h];simp
    have h4:¬ y % 400=0:=by omega
    split
    · split
      · simp [h4]
      · omega
    · simp [h4]
theorem ryear_eq (y:Int) (hy:0≤y):stowageref4_year.f y=some (365+L y):=by
  unfold stowageref4_year.f
  rw [rleap_eq y hy,Option.bind_some]
  cases h:leap y with
  | true=>rw [L_leap h];rfl
  | false=>rw [L_not h];rfl
theorem rsize_ev (y m:Int) (hy:0≤y):Ev (fun k=>stowageref4_size.f k y m) (size y m):=by
  have hj:∀ b:Bool,Ev (fun k=>stowageref4_size.j0 k y m b) (if b=true then 30 else if m=2 then 28+L y else 31):=by
    intro b
    refine Ev.step (f:=fun _=>some _) (fun k=>?_) (Ev.now _)
    simp only [stowageref4_size.j0]
    cases b with
    | true=>rfl
    | false=>
      simp only [Bool.false_eq_true,if_false]
      split
      · rw [rleap_eq y hy,Option.bind_some]
        cases h:leap y with
        | true=>rw [L_leap h];rfl
        | false=>rw [L_not h];rfl
      · rfl
  simp only [stowageref4_size.f]
  by_cases h4:m=4
  · refine ev_pos h4 (ev_eq (hj _) ?_)
    subst h4;simp [size]
  · refine ev_neg h4 ?_
    by_cases h6:m=6
    · refine ev_pos h6 (ev_eq (hj _) ?_)
      subst h6;simp [size]
    · refine ev_neg h6 ?_
      by_cases h9:m=9
      · refine ev_pos h9 (ev_eq (hj _) ?_)
        subst h9;simp [size]
      · refine ev_neg h9 (ev_eq (hj _) ?_)
        simp only [size,beq_iff_eq,h9,h4,h6,false_or]
theorem rcivil_l1 (y h mi s:Int) (hy0:1970≤y) (hy1:y≤9999) (j:Nat):∀ (m n dd:Int),1≤m→m+j=12→0≤n→cum y m+n<365+L y →
    ∃ m' d',Valid y m' d' (dby y+cum y m+n)∧Ev (fun k=>stowageref4_Civil.l1 k n y m dd h mi s) (y,m',d',h,mi,s,true):=by
  have stop:∀ (m n dd:Int),1≤m→m≤12→0≤n→¬ n ≥ size y m → ∃ m' d',Valid y m' d' (dby y+cum y m+n)∧Ev (fun k=>stowageref4_Civil.l1 k n y m dd h mi s) (y,m',d',h,mi,s,true):=by
    intro m n dd h1 h2 hn c
    have hs:=size_bd y m
    refine⟨m,n+1,⟨hy0,hy1,by omega,by omega,by omega,by omega,by omega⟩,?_⟩
    refine Ev.step (f:=fun k=>_) (fun k=>by rw [stowageref4_Civil.l1]) ?_
    refine Ev.bind (rsize_ev y m (by omega)) ?_
    refine ev_neg c (ev_eq (Ev.now _) ?_)
    rw [w64 (by omega) (by omega)]
  induction j with
  | zero=>
    intro m n dd h1 hj hn hb
    have hm:m=12:=by omega
    have hc:=cum_succ y m h1 (by omega)
    subst hm
    rw [show(12:Int)+1=13 from rfl,cum_end] at hc
    exact stop 12 n dd (by omega) (by omega) hn (by omega)
  | succ j ih=>
    intro m n dd h1 hj hn hb
    have hs:=size_bd y m
    have hc:=cum_succ y m h1 (by omega)
    by_cases c:n ≥ size y m
    · obtain⟨m',d',hv,he⟩:=ih (m+1) (n-size y m) dd (by omega) (by omega) (by omega) (by omega)
      refine⟨m',d',by rw [show dby y+cum y m+n=dby y+cum y (m+1)+(n-size y m) by omega];exact hv,?_⟩
      refine Ev.step (f:=fun k=>_) (fun k=>by rw [stowageref4_Civil.l1]) ?_
      refine Ev.bind (rsize_ev y m (by omega)) ?_
      refine ev_pos c ?_
      refine Ev.bind (rsize_ev y m (by omega)) ?_
      have hL:=L_two y
      have hcb:=cum_bd y m h1 (by omega)
      rw [w64 (n:=m+1) (by omega) (by omega),w64 (n:=n-size y m) (by omega) (by omega)]
      exact he
    · exact stop m n dd h1 (by omega) hn c
theorem rcivil_l0 (t h mi s:Int) (ht:t<dby 10000) (j:Nat):∀ (y n dd:Int),1970≤y→y+j=9999→dby y≤t→n=t-dby y →
    ∃ y' m' d',Valid y' m' d' t∧Ev (fun k=>stowageref4_Civil.l0 k n y 1 dd h mi s) (y',m',d',h,mi,s,true):=by
  have fin:∀ (y n dd:Int),1970≤y→y≤9999→dby y≤t→t<dby (y+1)→n=t-dby y → ∃ y' m' d',Valid y' m' d' t∧Ev (fun k=>stowageref4_Civil.l0 k n y 1 dd h mi s) (y',m',d',h,mi,s,true):=by
    intro y n dd h0 h1 h2 h3 hn
    have hd:=dby_succ y
    obtain⟨m',d',hv,he⟩:=rcivil_l1 y h mi s h0 h1 11 1 n dd (by omega) (by omega) (by omega) (by rw [cum_one];omega)
    rw [cum_one,show dby y+0+n=t by omega] at hv
    refine⟨y,m',d',hv,?_⟩
    refine Ev.step (f:=fun k=>_) (fun k=>by rw [stowageref4_Civil.l0,ryear_eq y (by omega),Option.bind_some,if_neg (by omega)]) ?_
    exact he
  induction j with
  | zero=>
    intro y n dd h0 hj h2 hn
    obtain rfl:y=9999:=by omega
    exact fin 9999 n dd (by omega) (by omega) h2 ht hn
  | succ j ih=>
    intro y n dd h0 hj h2 hn
    have hd:=dby_succ y
    have hL:=L_two y
    by_cases c:dby (y+1)≤t
    · obtain⟨y',m',d',hv,he⟩:=ih (y+1) (n-(365+L y)) dd (by omega) (by omega) c (by omega)
      refine⟨y',m',d',hv,?_⟩
      have hb:=dby_le y 10000 (by omega)
      have hz:=dby_le 1970 y (by omega)
      rw [dby_1970] at hz
      rw [dby_10000] at hb ht
      refine Ev.step (f:=fun k=>_) (fun k=>by rw [stowageref4_Civil.l0,ryear_eq y (by omega),Option.bind_some,if_pos (by omega),Option.bind_some,w64 (n:=y+1) (by omega) (by omega),w64 (n:=n-(365+L y)) (by omega) (by omega)]) ?_
      exact he
    · exact fin y n dd h0 (by omega) h2 (by omega) hn
theorem rcivil_ev (t:Int) (h0:0≤t) (h1:t≤253402300799):∃ y m d,Valid y m d (t / 86400)∧Ev (fun k=>stowageref4_Civil.f k t) (y,m,d,t / 3600 % 24,t / 60 % 60,t % 60,true):=by
  obtain⟨y,m,d,hv,he⟩:=rcivil_l0 (t / 86400) (t / 3600 % 24) (t / 60 % 60) (t % 60) (by rw [dby_10000];omega) 8029 1970 (t / 86400) 0 (by omega) (by omega) (by rw [dby_1970];omega) (by rw [dby_1970];omega)
  refine⟨y,m,d,hv,?_⟩
  refine Ev.congr (fun k=>by rw [stowageref4_Civil.f,if_neg (by omega),decide_eq_false (by omega)]) ?_
  refine Ev.step (f:=fun k=>_) (fun k=>by rw [stowageref4_Civil.j0,if_neg (by simp),hour_eq t h0 h1,min_eq t h0 h1,tmod_pos h0,tdiv_pos h0,w64 (n:=t / 86400) (by omega) (by omega)]) ?_
  exact he
def Real (y m d h mi s:Int):Prop:=1970≤y∧y≤9999∧1≤m∧m≤12∧1≤d∧d≤size y m∧0≤h∧h≤23∧0≤mi∧mi≤59∧0≤s∧s≤59
instance (y m d h mi s:Int):Decidable (Real y m d h mi s):=by unfold Real;infer_instance
def second (y m d h mi s:Int):Int:=(dby y+cum y m+d-1)*86400+h*3600+mi*60+s
theorem Real.valid {y m d h mi s:Int} (r:Real y m d h mi s):Valid y m d (dby y+cum y m+d-1):=by
  obtain⟨a,b,c,e,f,g,_⟩:=r
  exact⟨a,b,c,e,f,g,rfl⟩
theorem Real.bd {y m d h mi s:Int} (r:Real y m d h mi s):0≤dby y+cum y m+d-1∧dby y+cum y m+d-1≤2932896:=r.valid.bd
theorem of_1 (a b c:Int):when_Of_1.f a b c=some (decide (b≤a∧a≤c)):=by
  unfold when_Of_1.f
  by_cases h:a ≥ b
  · rw [if_pos h];simp [h]
  · rw [if_neg h];simp;intro h2;omega
theorem of_l0 (y m h mi s b:Int) (hy0:1970≤y) (hm1:m≤12) (hh:0≤h∧h≤23) (hmi:0≤mi∧mi≤59) (hs:0≤s∧s≤59) (hb:0≤b∧b≤2932897) (j:Nat):∀ i:Int,1≤i→i+j=m →
    Ev (fun k=>when_Of.l0 k y m h mi s (b+cum y i) i) ((b+cum y m)*86400+h*3600+mi*60+s,true):=by
  induction j with
  | zero=>
    intro i h1 hj
    obtain rfl:i=m:=by omega
    have hc:=cum_bd y i h1 (by omega)
    refine Ev.step (f:=fun _=>some ((b+cum y i)*86400+h*3600+mi*60+s,true)) (fun k=>?_) (Ev.now _)
    rw [when_Of.l0,if_neg (by omega)]
    generalize cum y i=c at *
    rw [w64 (n:=(b+c)*24) (by omega) (by omega),w64 (n:=(b+c)*24+h) (by omega) (by omega),w64 (n:=((b+c)*24+h)*60) (by omega) (by omega),w64 (n:=((b+c)*24+h)*60+mi) (by omega) (by omega),w64 (n:=(((b+c)*24+h)*60+mi)*60) (by omega) (by omega),w64 (by omega) (by omega)]
    rw [show(((b+c)*24+h)*60+mi)*60+s=(b+c)*86400+h*3600+mi*60+s by omega]
  | succ j ih=>
    intro i h1 hj
    have hc:=cum_bd y i h1 (by omega)
    have hz:=size_bd y i
    have e:=cum_succ y i h1 (by omega)
    refine Ev.step (f:=fun k=>_) (fun k=>by rw [when_Of.l0,if_pos (by omega)]) ?_
    refine Ev.bind (size_ev y i (by omega)) ?_
    rw [w64 (n:=b+cum y i+size y i) (by omega) (by omega),w64 (n:=i+1) (by omega) (by omega),show b+cum y i+size y i=b+cum y (i+1) by omega]
    exact ih (i+1) (by omega) (by omega)
theorem of_ev (y m d h mi s:Int):Ev (fun k=>when_Of.f k y m d h mi s) (if Real y m d h mi s then(second y m d h mi s,true) else(0,false)):=by
  have jt:∀ (b:Bool),(b=true→¬ Real y m d h mi s)→(b=false→Real y m d h mi s)→Ev (fun k=>when_Of.j0 k y m d h mi s b) (if Real y m d h mi s then(second y m d h mi s,true) else(0,false)):=by
    intro b hb1 hb0
    cases b with
    | true=>exact Ev.step (f:=fun _=>some _) (fun k=>by rw [when_Of.j0,if_pos rfl,if_neg (hb1 rfl)]) (Ev.now _)
    | false=>
      have r:=hb0 rfl
      have hbd:=r.bd
      have hv:=r.valid
      obtain⟨a1,a2,a3,a4,a5,a6,a7,a8,a9,b1,b2,b3⟩:=r
      rw [if_pos (hb0 rfl)]
      have hy:=hv.in_year
      have hc:=cum_bd y m a3 (by omega)
      have h19:=dby_le 1970 y a1
      have h99:=dby_le y 10000 (by omega)
      rw [dby_1970] at h19
      rw [dby_10000] at h99
      refine Ev.step (f:=fun k=>_) (fun k=>by rw [when_Of.j0,if_neg (by simp),before_eq y (by omega) (by omega),Option.bind_some]) ?_
      have hz:=size_bd y m
      rw [w64 (n:=dby y+d) (by omega) (by omega),w64 (n:=dby y+d-1) (by omega) (by omega)]
      have q:=of_l0 y m h mi s (dby y+d-1) a1 a4 ⟨a7,a8⟩ ⟨a9,b1⟩ ⟨b2,b3⟩ (by omega) (m-1).toNat 1 (by omega) (by omega)
      rw [cum_one,show dby y+d-1+0=dby y+d-1 by omega,show(dby y+d-1+cum y m)*86400+h*3600+mi*60+s=second y m d h mi s by unfold second;omega] at q
      exact q
  refine Ev.congr (fun k=>by rw [when_Of.f,of_1,Option.bind_some]) ?_
  by_cases c1:1970≤y∧y≤9999
  case neg=>exact ev_neg (by simpa using c1) (jt true (fun _ r=>c1 ⟨r.1,r.2.1⟩) (by simp))
  refine ev_pos (by simpa using c1) ?_
  refine Ev.congr (fun k=>by rw [of_1,Option.bind_some]) ?_
  by_cases c2:1≤m∧m≤12
  case neg=>exact ev_neg (by simpa using c2) (jt true (fun _ r=>c2 ⟨r.2.2.1,r.2.2.2.1⟩) (by simp))
  refine ev_pos (by simpa using c2) ?_
  refine Ev.bind (size_ev y m (by omega)) ?_
  refine Ev.congr (fun k=>by rw [of_1,Option.bind_some]) ?_
  by_cases c3:1≤d∧d≤size y m
  case neg=>exact ev_neg (by simpa using c3) (jt true (fun _ r=>c3 ⟨r.2.2.2.2.1,r.2.2.2.2.2.1⟩) (by simp))
  refine ev_pos (by simpa using c3) ?_
  refine Ev.congr (fun k=>by rw [of_1,Option.bind_some]) ?_
  by_cases c4:0≤h∧h≤23
  case neg=>exact ev_neg (by simpa using c4) (jt true (fun _ r=>c4 ⟨r.2.2.2.2.2.2.1,r.2.2.2.2.2.2.2.1⟩) (by simp))
  refine ev_pos (by simpa using c4) ?_
  refine Ev.congr (fun k=>by rw [of_1,Option.bind_some]) ?_
  by_cases c5:0≤mi∧mi≤59
  case neg=>exact ev_neg (by simpa using c5) (jt true (fun _ r=>c5 ⟨r.2.2.2.2.2.2.2.2.1,r.2.2.2.2.2.2.2.2.2.1⟩) (by simp))
  refine ev_pos (by simpa using c5) ?_
  refine Ev.congr (fun k=>by rw [of_1,Option.bind_some]) ?_
  refine jt _ (fun hb r=>?_) (fun hb=>?_)
  · have:=r.2.2.2.2.2.2.2.2.2.2
    simp at hb
    omega
  · simp at hb
    exact⟨c1.1,c1.2,c2.1,c2.2,c3.1,c3.2,c4.1,c4.2,c5.1,c5.2,hb.1,hb.2⟩
def p1 (n:Int):ByteArray:=strOfNums [48+n]
def p2 (n:Int):ByteArray:=strOfNums [48+n / 10,48+n % 10]
def p4 (n:Int):ByteArray:=strOfNums [48+n / 1000,48+n / 100 % 10,48+n / 10 % 10,48+n % 10]
theorem p2_size (n:Int):(p2 n).size=2:=rfl
theorem p4_size (n:Int):(p4 n).size=4:=rfl
theorem son_append (xs ys:List Int):strOfNums xs++strOfNums ys=strOfNums (xs++ys):=by apply ByteArray.ext;simp [strOfNums,ByteArray.data_append]
theorem dg (n:Int) (h:0≤n):(48+((Int.tmod n 10) % 256)) % 256=48+n % 10:=by rw [tmod_pos h];omega
theorem put2_ev (n:Int) (h0:0≤n) (h1:n≤99):Ev (fun k=>when_put.f k n 2) (p2 n):=by
  refine Ev.congr (f:=fun k=>when_put.l0 k n [0,0] 1) (fun k=>by rw [when_put.f,if_pos (by omega),if_pos (by decide),w64 (by omega) (by omega)];rfl) ?_
  refine Ev.step (f:=fun k=>when_put.l0 k (n / 10) [0,48+n % 10] 0) (fun k=>?_) ?_
  · rw [when_put.l0,dg n h0,tdiv_pos h0,w64 (n:=n / 10) (by omega) (by omega),w64 (by omega) (by omega)];rfl
  refine Ev.step (f:=fun k=>when_put.l0 k (n / 10 / 10) [48+n / 10 % 10,48+n % 10] (-1)) (fun k=>?_) ?_
  · rw [when_put.l0,dg (n / 10) (by omega),tdiv_pos (by omega),w64 (n:=n / 10 / 10) (by omega) (by omega),w64 (by omega) (by omega)];rfl
  refine Ev.step (f:=fun k=>some (p2 n)) (fun k=>?_) (Ev.now _)
  rw [when_put.l0,if_neg (by omega),p2,show n / 10 % 10=n / 10 by omega]
theorem put4_ev (n:Int) (h0:0≤n) (h1:n≤9999):Ev (fun k=>when_put.f k n 4) (p4 n):=by
  refine Ev.congr (f:=fun k=>when_put.l0 k n [0,0,0,0] 3) (fun k=>by rw [when_put.f,if_pos (by omega),if_pos (by decide),w64 (by omega) (by omega)];rfl) ?_
  refine Ev.step (f:=fun k=>when_put.l0 k (n / 10) [0,0,0,48+n % 10] 2) (fun k=>?_) ?_
  · rw [when_put.l0,dg n h0,tdiv_pos h0,w64 (n:=n / 10) (by omega) (by omega),w64 (by omega) (by omega)];rfl
  refine Ev.step (f:=fun k=>when_put.l0 k (n / 10 / 10) [0,0,48+n / 10 % 10,48+n % 10] 1) (fun k=>?_) ?_
  · rw [when_put.l0,dg (n / 10) (by omega),tdiv_pos (by omega),w64 (n:=n / 10 / 10) (by omega) (by omega),w64 (by omega) (by omega)];rfl
  refine Ev.step (f:=fun k=>when_put.l0 k (n / 10 / 10 / 10) [0,48+n / 10 / 10 % 10,48+n / 10 % 10,48+n % 10] 0) (fun k=>?_) ?_
  · rw [when_put.l0,dg (n / 10 / 10) (by omega),tdiv_pos (by omega),w64 (n:=n / 10 / 10 / 10) (by omega) (by omega),w64 (by omega) (by omega)];rfl
  refine Ev.step (f:=fun k=>when_put.l0 k (n / 10 / 10 / 10 / 10) [48+n / 10 / 10 / 10 % 10,48+n / 10 / 10 % 10,48+n / 10 % 10,48+n % 10] (-1)) (fun k=>?_) ?_
  · rw [when_put.l0,dg (n / 10 / 10 / 10) (by omega),tdiv_pos (by omega),w64 (n:=n / 10 / 10 / 10 / 10) (by omega) (by omega),w64 (by omega) (by omega)];rfl
  refine Ev.step (f:=fun k=>some (p4 n)) (fun k=>?_) (Ev.now _)
  rw [when_put.l0,if_neg (by omega),p4,show n / 10 / 10 / 10 % 10=n / 1000 by omega,show n / 10 / 10 % 10=n / 100 % 10 by omega]
theorem rdigit_all:∀ i:Fin 10,stowageref1_digit.f (i.val:Int)=some (p1 i.val):=by decide +kernel
theorem rdigit_eq (n:Int) (h0:0≤n) (h1:n≤9):stowageref1_digit.f n=some (p1 n):=by
  have h:=rdigit_all ⟨n.toNat,by omega⟩
  rw [show(((⟨n.toNat,by omega⟩ : Fin 10).val:Nat):Int)=n by show((n.toNat:Nat):Int)=n;omega] at h
  exact h
theorem text_more (n:Int) (s r:ByteArray) (h0:9<n) (h1:n≤9999) (hs:s.size≤100) (h:Ev (fun k=>stowageref1_Text.l0 k (n / 10) (p1 (n % 10)++s)) r):Ev (fun k=>stowageref1_Text.l0 k n s) r:=by
  refine Ev.step (f:=fun k=>_) (fun k=>by rw [stowageref1_Text.l0,if_pos (by omega),tmod_pos (by omega),rdigit_eq (n % 10) (by omega) (by omega),Option.bind_some,if_pos (by rw [show(p1 (n % 10)).size=1 from rfl];omega),tdiv_pos (by omega),w64 (n:=n / 10) (by omega) (by omega)]) h
theorem text_last (n:Int) (s:ByteArray) (h0:0≤n) (h1:n≤9) (hs:s.size≤100):Ev (fun k=>stowageref1_Text.l0 k n s) (p1 n++s):=
  Ev.step (f:=fun _=>some (p1 n++s)) (fun k=>by rw [stowageref1_Text.l0,if_neg (by omega),rdigit_eq n h0 h1,Option.bind_some,if_pos (by rw [show(p1 n).size=1 from rfl];omega)]) (Ev.now _)
theorem p1_nil (n:Int):p1 n++(⟨#[]⟩ : ByteArray)=p1 n:=by apply ByteArray.ext;simp [ByteArray.data_append]
theorem text_start (n:Int) (r:ByteArray) (h0:0≤n) (h:Ev (fun k=>stowageref1_Text.l0 k n ⟨#[]⟩) r):Ev (fun k=>stowageref1_Text.f k n) r:=
  Ev.step (f:=fun k=>_) (fun k=>by rw [stowageref1_Text.f,if_neg (by omega)]) h
theorem wide2_ev (n:Int) (h0:0≤n) (h1:n≤99):Ev (fun k=>stowageref4_wide.f k n 2) (p2 n):=by
  by_cases c:n≤9
  · refine Ev.bind (text_start n (p1 n) h0 (ev_eq (text_last n _ h0 c (by decide)) (p1_nil n))) ?_
    refine Ev.step (f:=fun k=>stowageref4_wide.l0 k 2 (p2 n)) (fun k=>?_) ?_
    · rw [stowageref4_wide.l0,if_pos (by rw [show(p1 n).size=1 from rfl];decide),if_pos (by rw [show(p1 n).size=1 from rfl];decide)]
      rw [show(⟨#[48]⟩ : ByteArray)=strOfNums [48] from rfl,p1,son_append,p2,show n / 10=0 by omega,show n % 10=n by omega];rfl
    · exact Ev.step (f:=fun _=>some _) (fun k=>by rw [stowageref4_wide.l0,if_neg (by rw [p2_size];decide)]) (Ev.now _)
  · refine Ev.bind (a:=p2 n) (text_start n _ h0 (text_more n _ _ (by omega) (by omega) (by decide) (ev_eq (text_last (n / 10) _ (by omega) (by omega) (by rw [p1_nil];show 1≤100;omega)) ?_))) ?_
    · rw [p1_nil,p1,p1,son_append];rfl
    · exact Ev.step (f:=fun _=>some _) (fun k=>by rw [stowageref4_wide.l0,if_neg (by rw [p2_size];decide)]) (Ev.now _)
theorem wide4_ev (n:Int) (h0:1000≤n) (h1:n≤9999):Ev (fun k=>stowageref4_wide.f k n 4) (p4 n):=by
  refine Ev.bind (a:=p4 n) (text_start n _ (by omega) (text_more n _ _ (by omega) (by omega) (by decide) (text_more (n / 10) _ _ (by omega) (by omega) (by rw [p1_nil];show 1≤100;omega) (text_more (n / 10 / 10) _ _ (by omega) (by omega) (by rw [p1_nil,p1,p1,son_append];show 2≤100;omega) (ev_eq (text_last (n / 10 / 10 / 10) _ (by omega) (by omega) (by rw [p1_nil,p1,p1,p1,son_append,son_append];show 3≤100;omega)) ?_))))) ?_
  · rw [p1_nil,p1,p1,p1,p1,son_append,son_append,son_append,p4,show n / 10 / 10 / 10=n / 1000 by omega,show n / 10 / 10 % 10=n / 100 % 10 by omega];rfl
  · exact Ev.step (f:=fun _=>some _) (fun k=>by rw [stowageref4_wide.l0,if_neg (by rw [p4_size];decide)]) (Ev.now _)
theorem z1 (a:UInt8):(⟨#[a]⟩ : ByteArray).size=1:=rfl
theorem z2 (a b:UInt8):(⟨#[a,b]⟩ : ByteArray).size=2:=rfl
theorem z4 (a b c d:UInt8):(⟨#[a,b,c,d]⟩ : ByteArray).size=4:=rfl
theorem z5 (a b c d e:UInt8):(⟨#[a,b,c,d,e]⟩ : ByteArray).size=5:=rfl
structure Date6 (y m d h mi s:Int):Prop where
  v:∃ n,Valid y m d n
  h0:0≤h
  h1:h≤23
  mi0:0≤mi
  mi1:mi≤59
  s0:0≤s
  s1:s≤59
theorem Date6.bd {y m d h mi s:Int} (D:Date6 y m d h mi s):1970≤y∧y≤9999∧1≤m∧m≤12∧1≤d∧d≤31:=by
  obtain⟨n,v⟩:=D.v
  have:=size_bd y m
  exact⟨v.y0,v.y1,v.m0,v.m1,v.d0,by have:=v.d1;omega⟩
def wd (r:Int):ByteArray:=(⟨#[84,104,117,70,114,105,83,97,116,83,117,110,77,111,110,84,117,101,87,101,100]⟩ : ByteArray).extract (r*3).toNat (r*3+3).toNat
def mo (m:Int):ByteArray:=(⟨#[74,97,110,70,101,98,77,97,114,65,112,114,77,97,121,74,117,110,74,117,108,65,117,103,83,101,112,79,99,116,78,111,118,68,101,99]⟩ : ByteArray).extract (3*m-3).toNat (3*m).toNat
theorem wd_def (r:Int):(⟨#[84,104,117,70,114,105,83,97,116,83,117,110,77,111,110,84,117,101,87,101,100]⟩ : ByteArray).extract (r*3).toNat (r*3+3).toNat=wd r:=rfl
theorem mo_def (m:Int):(⟨#[74,97,110,70,101,98,77,97,114,65,112,114,77,97,121,74,117,110,74,117,108,65,117,103,83,101,112,79,99,116,78,111,118,68,101,99]⟩ : ByteArray).extract (3*m-3).toNat (3*m).toNat=mo m:=rfl
theorem wd_all:∀ i:Fin 7,(wd (i.val:Int)).size=3∧(⟨#[77,111,110,84,117,101,87,101,100,84,104,117,70,114,105,83,97,116,83,117,110]⟩ : ByteArray).extract (3*(((i.val:Int)+3) % 7)).toNat (3*(((i.val:Int)+3) % 7)+3).toNat=wd (i.val:Int):=by decide +kernel
theorem wd_size (r:Int) (h0:0≤r) (h1:r<7):(wd r).size=3:=by
  have h:=(wd_all ⟨r.toNat,by omega⟩).1
  rwa [show(((⟨r.toNat,by omega⟩ : Fin 7).val:Nat):Int)=r by show((r.toNat:Nat):Int)=r;omega] at h
theorem rwd_def (r:Int) (h0:0≤r) (h1:r<7):(⟨#[77,111,110,84,117,101,87,101,100,84,104,117,70,114,105,83,97,116,83,117,110]⟩ : ByteArray).extract (3*((r+3) % 7)).toNat (3*((r+3) % 7)+3).toNat=wd r:=by
  have h:=(wd_all ⟨r.toNat,by omega⟩).2
  rwa [show(((⟨r.toNat,by omega⟩ : Fin 7).val:Nat):Int)=r by show((r.toNat:Nat):Int)=r;omega] at h
theorem mo_all:∀ i:Fin 12,(mo ((i.val:Int)+1)).size=3:=by decide +kernel
theorem mo_size (m:Int) (h0:1≤m) (h1:m≤12):(mo m).size=3:=by
  have h:=mo_all ⟨(m-1).toNat,by omega⟩
  rwa [show(((⟨(m-1).toNat,by omega⟩ : Fin 12).val:Nat):Int)+1=m by show(((m-1).toNat:Nat):Int)+1=m;omega] at h
def httpT (w y m d h mi s:Int):ByteArray:=(((((((((((((wd w)++(⟨#[44,32]⟩ : ByteArray))++p2 d)++(⟨#[32]⟩ : ByteArray))++mo m)++(⟨#[32]⟩ : ByteArray))++p4 y)++(⟨#[32]⟩ : ByteArray))++p2 h)++(⟨#[58]⟩ : ByteArray))++p2 mi)++(⟨#[58]⟩ : ByteArray))++p2 s)++(⟨#[32,71,77,84]⟩ : ByteArray)
theorem http_ev (t:Int) (h0:0≤t) (h1:t≤253402300799) (y m d h mi s:Int) (D:Date6 y m d h mi s) (he:Ev (fun k=>when_Civil.f k t) (y,m,d,h,mi,s,true)):Ev (fun k=>when_Http.f k t) (httpT (t / 86400 % 7) y m d h mi s):=by
  have b:=D.bd
  have:=D.h0;have:=D.h1;have:=D.mi0;have:=D.mi1;have:=D.s0;have:=D.s1
  have e0:wrap64 (Int.tdiv t 86400)=t / 86400:=by rw [tdiv_pos h0,w64 (by omega) (by omega)]
  have e1:Int.tmod (t / 86400) 7=t / 86400 % 7:=tmod_pos (by omega)
  have e2:wrap64 (t / 86400 % 7*3)=t / 86400 % 7*3:=w64 (by omega) (by omega)
  have e3:wrap64 (t / 86400 % 7*3+3)=t / 86400 % 7*3+3:=w64 (by omega) (by omega)
  have e4:wrap64 (3*m)=3*m:=w64 (by omega) (by omega)
  have e5:wrap64 (3*m-3)=3*m-3:=w64 (by omega) (by omega)
  simp only [when_Http.f,e0,e1,e2,e3]
  refine Ev.bind he ?_
  dsimp only
  simp only [e4,e5,wd_def,mo_def]
  have hw0:0≤t / 86400 % 7:=by omega
  have hw1:t / 86400 % 7<7:=by omega
  generalize t / 86400 % 7=w at *
  have hws:=wd_size w hw0 hw1
  have hms:=mo_size m b.2.2.1 b.2.2.2.1
  refine ev_pos trivial ?_
  repeat (first|with_reducible refine Ev.bind (put4_ev y (by omega) (by omega)) ?_|with_reducible refine Ev.bind (put2_ev d (by omega) (by omega)) ?_|with_reducible refine Ev.bind (put2_ev h (by omega) (by omega)) ?_|with_reducible refine Ev.bind (put2_ev mi (by omega) (by omega)) ?_|with_reducible refine Ev.bind (put2_ev s (by omega) (by omega)) ?_|with_reducible refine ev_pos (by simp only [ByteArray.size_append,p4_size,p2_size,z1,z2,z4,z5,hws,hms];decide) ?_|with_reducible refine ev_pos (by omega) ?_)
  exact Ev.now _
theorem rhttp_ev (t:Int) (h0:0≤t) (h1:t≤253402300799) (y m d h mi s:Int) (D:Date6 y m d h mi s) (he:Ev (fun k=>stowageref4_Civil.f k t) (y,m,d,h,mi,s,true)):Ev (fun k=>stowageref4_Http.f k t) (httpT (t / 86400 % 7) y m d h mi s):=by
  have b:=D.bd
  have:=D.h0;have:=D.h1;have:=D.mi0;have:=D.mi1;have:=D.s0;have:=D.s1
  have e0:wrap64 (Int.tdiv t 86400)=t / 86400:=by rw [tdiv_pos h0,w64 (by omega) (by omega)]
  have e1:Int.tmod (wrap64 (t / 86400+3)) 7=(t / 86400 % 7+3) % 7:=by rw [w64 (by omega) (by omega),tmod_pos (by omega)];omega
  have e2:wrap64 (3*((t / 86400 % 7+3) % 7))=3*((t / 86400 % 7+3) % 7):=w64 (by omega) (by omega)
  have e3:wrap64 (3*((t / 86400 % 7+3) % 7)+3)=3*((t / 86400 % 7+3) % 7)+3:=w64 (by omega) (by omega)
  have e4:wrap64 (3*m)=3*m:=w64 (by omega) (by omega)
  have e5:wrap64 (3*m-3)=3*m-3:=w64 (by omega) (by omega)
  simp only [stowageref4_Http.f,e0,e1,e2,e3]
  refine Ev.bind he ?_
  dsimp only
  have hw0:0≤t / 86400 % 7:=by omega
  have hw1:t / 86400 % 7<7:=by omega
  simp only [e4,e5,rwd_def _ hw0 hw1,mo_def]
  generalize t / 86400 % 7=w at *
  have hws:=wd_size w hw0 hw1
  have hms:=mo_size m b.2.2.1 b.2.2.2.1
  refine ev_pos trivial ?_
  repeat (first|with_reducible refine Ev.bind (wide4_ev y (by omega) (by omega)) ?_|with_reducible refine Ev.bind (wide2_ev d (by omega) (by omega)) ?_|with_reducible refine Ev.bind (wide2_ev h (by omega) (by omega)) ?_|with_reducible refine Ev.bind (wide2_ev mi (by omega) (by omega)) ?_|with_reducible refine Ev.bind (wide2_ev s (by omega) (by omega)) ?_|with_reducible refine ev_pos (by simp only [ByteArray.size_append,p4_size,p2_size,z1,z2,z4,z5,hws,hms];decide) ?_|with_reducible refine ev_pos (by omega) ?_)
  exact Ev.now _
theorem civil6 (t:Int) (h0:0≤t) (h1:t≤253402300799):∃ y m d h mi s,Date6 y m d h mi s∧Valid y m d (t / 86400)∧h=t / 3600 % 24∧mi=t / 60 % 60∧s=t % 60∧Ev (fun k=>when_Civil.f k t) (y,m,d,h,mi,s,true)∧Ev (fun k=>stowageref4_Civil.f k t) (y,m,d,h,mi,s,true):=by
  obtain⟨y,m,d,hv,he⟩:=civil_ev t h0 h1
  obtain⟨y',m',d',hv',he'⟩:=rcivil_ev t h0 h1
  obtain⟨rfl,rfl,rfl⟩:=hv.unique hv'
  exact⟨y,m,d,_,_,_,⟨⟨_,hv⟩,by omega,by omega,by omega,by omega,by omega,by omega⟩,hv,rfl,rfl,rfl,he,he'⟩
def dval (s:ByteArray):Nat→Int→Int→Option Int
  | 0,_,n=>some n
  | j+1,i,n=>if i<(s.size:Int)∧48≤bt s i∧bt s i≤57 then dval s j (i+1) (10*n+(bt s i-48)) else none
def pairOf (o:Option Int):Int×Bool:=match o with|some v=>(v,true)|none=>(0,false)
theorem get_l0 (s:ByteArray) (a b:Int) (hab:a+b≤100) (h0:0≤a) (hb:0≤b) (j:Nat) (hj4:j≤4):∀ (n i:Int) (c:Nat),c+j≤4→0≤n→n<10 ^ c→a≤i→i+j=a+b →
    Ev (fun k=>when_get.l0 k s a b n i) (pairOf (dval s j i n)):=by
  induction j with
  | zero=>
    intro n i c hc hn hn1 hi hij
    refine Ev.step (f:=fun _=>some (n,true)) (fun k=>?_) (Ev.now _)
    rw [when_get.l0,w64 (by omega) (by omega),if_neg (by omega)]
  | succ j ih=>
    intro n i c hc hn hn1 hi hij
    have hp:(10:Int) ^ c≤1000:=by
      have:c=0∨c=1∨c=2∨c=3:=by omega
      rcases this with rfl|rfl|rfl|rfl <;> decide
    have hbr:=bt_range s i
    by_cases h:i<(s.size:Int)∧48≤bt s i∧bt s i≤57
    · rw [dval,if_pos h]
      refine Ev.step (f:=fun k=>when_get.l0 k s a b (10*n+(bt s i-48)) (i+1)) (fun k=>?_) ?_
      · rw [when_get.l0,w64 (n:=a+b) (by omega) (by omega),if_pos (by omega),if_neg (by omega),if_pos (by omega),if_pos h.1,if_neg (by omega),if_neg (by omega),
          w64 (n:=10*n) (by omega) (by omega),show(bt s i-48) % 256=bt s i-48 by omega,w64 (n:=10*n+(bt s i-48)) (by omega) (by omega),w64 (n:=i+1) (by omega) (by omega)]
      · refine ih (by omega) _ _ (c+1) (by omega) (by omega) ?_ (by omega) (by omega)
        rw [Int.pow_succ];omega
    · rw [dval,if_neg h]
      refine Ev.step (f:=fun _=>some (0,false)) (fun k=>?_) (Ev.now _)
      rw [when_get.l0,w64 (n:=a+b) (by omega) (by omega),if_pos (by omega)]
      by_cases c1:i ≥ (s.size:Int)
      · rw [if_pos c1]
      · rw [if_neg c1,if_pos (by omega),if_pos (by omega)]
        by_cases c2:bt s i<48
        · rw [if_pos c2]
        · rw [if_neg c2,if_pos (by omega)]
theorem get_ev (s:ByteArray) (a:Int) (b:Nat) (h0:0≤a) (h1:a≤50) (hb:b≤4):Ev (fun k=>when_get.f k s a b) (pairOf (dval s b a 0)):=
  get_l0 s a b (by omega) h0 (by omega) b hb 0 a 0 (by omega) (by omega) (by decide) (by omega) rfl
theorem dval_two (s:ByteArray) (i:Int):dval s 2 i 0=if(i<(s.size:Int)∧48≤bt s i∧bt s i≤57)∧(i+1<(s.size:Int)∧48≤bt s (i+1)∧bt s (i+1)≤57) then some (10*(bt s i-48)+(bt s (i+1)-48)) else none:=by
  simp only [dval]
  by_cases h1:i<(s.size:Int)∧48≤bt s i∧bt s i≤57
  · rw [if_pos h1]
    by_cases h2:i+1<(s.size:Int)∧48≤bt s (i+1)∧bt s (i+1)≤57
    · rw [if_pos h2,if_pos ⟨h1,h2⟩];congr 1;omega
    · rw [if_neg h2,if_neg (fun h=>h2 h.2)]
  · rw [if_neg h1,if_neg (fun h=>h1 h.1)]
theorem dval_is2 (s:ByteArray) (i v:Int) (h0:0≤v) (h1:v≤99) (hs:i+1<(s.size:Int)) (a:bt s i=48+v / 10) (b:bt s (i+1)=48+v % 10):dval s 2 i 0=some v:=by
  rw [dval_two,if_pos (by omega)];congr 1;omega
theorem dval_is4 (s:ByteArray) (i v:Int) (h0:0≤v) (h1:v≤9999) (hs:i+3<(s.size:Int)) (a:bt s i=48+v / 1000) (b:bt s (i+1)=48+v / 100 % 10) (c:bt s (i+2)=48+v / 10 % 10) (d:bt s (i+3)=48+v % 10):dval s 4 i 0=some v:=by
  simp only [dval]
  rw [show i+1+1=i+2 by omega,show i+2+1=i+3 by omega,a,b,c,d,if_pos (by omega),if_pos (by omega),if_pos (by omega),if_pos (by omega)]
  congr 1;omega
theorem son_size (l:List Int):(strOfNums l).size=l.length:=by simp [strOfNums,ByteArray.size]
theorem bt_son (l:List Int) (h:∀ x∈l,0≤x∧x≤255) (i:Nat) (hi:i<l.length):bt (strOfNums l) i=l[i]:=by
  unfold bt
  rw [dif_pos (by rw [son_size];omega)]
  have hx:=h l[i] (List.getElem_mem hi)
  show(((strOfNums l).data[i]'(by simpa [strOfNums] using hi)).toNat:Int)=l[i]
  simp only [strOfNums,List.getElem_toArray,List.getElem_map]
  rw [UInt8.toNat_ofNat']
  omega
theorem real_of {y m d h mi s:Int} (D:Date6 y m d h mi s):Real y m d h mi s:=by
  obtain⟨n,v⟩:=D.v
  exact⟨v.y0,v.y1,v.m0,v.m1,v.d0,v.d1,D.h0,D.h1,D.mi0,D.mi1,D.s0,D.s1⟩
theorem date_of {y m d h mi s:Int} (r:Real y m d h mi s):Date6 y m d h mi s:=
  ⟨⟨_,r.valid⟩,r.2.2.2.2.2.2.1,r.2.2.2.2.2.2.2.1,r.2.2.2.2.2.2.2.2.1,r.2.2.2.2.2.2.2.2.2.1,r.2.2.2.2.2.2.2.2.2.2.1,r.2.2.2.2.2.2.2.2.2.2.2⟩
theorem second_bd {y m d h mi s:Int} (r:Real y m d h mi s):0≤second y m d h mi s∧second y m d h mi s≤253402300799:=by
  have b:=r.bd
  obtain⟨_,_,_,_,_,_,_,_,_,_,_,_⟩:=r
  unfold second;omega
theorem second_civil {y m d h mi s:Int} (r:Real y m d h mi s) :
    Ev (fun k=>when_Civil.f k (second y m d h mi s)) (y,m,d,h,mi,s,true)∧Ev (fun k=>stowageref4_Civil.f k (second y m d h mi s)) (y,m,d,h,mi,s,true):=by
  have b:=second_bd r
  obtain⟨y',m',d',h',mi',s',D,hv,e1,e2,e3,ha,hb⟩:=civil6 _ b.1 b.2
  have hr:=r.valid
  have c:=r
  obtain⟨_,_,_,_,_,_,_,_,_,_,_,_⟩:=c
  have hd:second y m d h mi s / 86400=dby y+cum y m+d-1:=by unfold second;omega
  rw [hd] at hv
  obtain⟨rfl,rfl,rfl⟩:=hr.unique hv
  have x1:h'=h:=by rw [e1];unfold second;omega
  have x2:mi'=mi:=by rw [e2];unfold second;omega
  have x3:s'=s:=by rw [e3];unfold second;omega
  subst x1 x2 x3
  exact⟨ha,hb⟩
theorem civil_second (t:Int) (h0:0≤t) (h1:t≤253402300799):∃ y m d h mi s,Real y m d h mi s∧t=second y m d h mi s:=by
  obtain⟨y,m,d,h,mi,s,D,hv,e1,e2,e3,_,_⟩:=civil6 t h0 h1
  refine⟨y,m,d,h,mi,s,real_of D,?_⟩
  have:=hv.num
  unfold second;omega
def allOf (s:ByteArray):List (Int×Nat)→Option (List Int)
  | []=>some []
  | (a,b) :: l=>match dval s b a 0 with|none=>none|some v=>(allOf s l).map (v :: ·)
def S116of (p:Int×Nat):S116:=⟨p.1,(p.2:Int)⟩
theorem all_l0 (s:ByteArray) (ps:List (Int×Nat)) (hps:∀ p∈ps,0≤p.1∧p.1≤50∧p.2≤4) (hl:ps.length≤10) (rest:List (Int×Nat)):∀ (done:List (Int×Nat)) (acc:List Int),ps=done++rest→acc.length=done.length →
    Ev (fun k=>when_all.l0 k s acc (ps.map S116of) (ps.length:Int) (done.length:Int)) (match allOf s rest with|some l=>(acc++l,true)|none=>([],false)):=by
  induction rest with
  | nil=>
    intro done acc e hacc
    have hd:done.length=ps.length:=by rw [e];simp
    refine Ev.step (f:=fun _=>some (acc ++ [],true)) (fun k=>?_) (Ev.now _)
    rw [when_all.l0,if_neg (by omega),List.append_nil]
  | cons p rest ih=>
    intro done acc e hacc
    have hlen:ps.length=done.length+(rest.length+1):=by rw [e];simp
    have hp:=hps p (by rw [e];simp)
    obtain⟨a,b⟩:=p
    have hrd:rd_T116 (ps.map S116of) (done.length:Int)=⟨a,(b:Int)⟩:=by
      unfold rd_T116
      rw [e]
      simp [S116of]
    refine Ev.step (f:=fun k=>_) (fun k=>by rw [when_all.l0,if_pos (by omega),if_pos (by omega),if_pos (by rw [List.length_map];omega),hrd]) ?_
    refine Ev.bind (get_ev s a b hp.1 hp.2.1 hp.2.2) ?_
    rw [allOf]
    cases hv:dval s b a 0 with
    | none=>exact ev_neg (by simp [pairOf]) (Ev.now _)
    | some v=>
      refine ev_pos rfl ?_
      refine ev_pos (by omega) ?_
      rw [w64 (n:=(done.length:Int)+1) (by omega) (by omega)]
      have h:=ih (done ++ [(a,b)]) (acc ++ [v]) (by rw [e];simp) (by simp [hacc])
      rw [show((done ++ [(a,b)]).length:Int)=(done.length:Int)+1 by simp] at h
      refine ev_eq h ?_
      cases allOf s rest with
      | none=>rfl
      | some l=>simp
theorem all_ev (s:ByteArray) (ps:List (Int×Nat)) (hps:∀ p∈ps,0≤p.1∧p.1≤50∧p.2≤4) (hl:ps.length≤10) :
    Ev (fun k=>when_all.f k s (ps.map S116of)) (match allOf s ps with|some l=>(l,true)|none=>([],false)):=by
  have h:=all_l0 s ps hps hl ps [] [] rfl rfl
  refine Ev.congr (fun k=>?_) (ev_eq h ?_)
  · rw [when_all.f,List.length_map];rfl
  · cases allOf s ps <;> rfl
theorem as_son (b:ByteArray):b=strOfNums (bytesOf b):=by
  apply ByteArray.ext
  apply Array.toList_inj.mp
  simp only [strOfNums,bytesOf,List.map_map]
  conv=>lhs;rw [← List.map_id b.data.toList]
  apply List.map_congr_left
  intro x _
  simp [Function.comp]
theorem bytesOf_range (b:ByteArray):∀ x∈bytesOf b,0≤x∧x≤255:=by
  intro x hx
  simp only [bytesOf,List.mem_map] at hx
  obtain⟨u,_,rfl⟩:=hx
  have:=u.toNat_lt
  omega
theorem bytesOf_length (b:ByteArray):(bytesOf b).length=b.size:=by simp [bytesOf]
theorem three (b:ByteArray) (h:b.size=3):∃ x y z:Int,(0≤x∧x≤255)∧(0≤y∧y≤255)∧(0≤z∧z≤255)∧b=strOfNums [x,y,z]:=by
  have hr:=bytesOf_range b
  have hl:=bytesOf_length b
  have e:=as_son b
  rw [h] at hl
  match hb:bytesOf b,hl with
  | [x,y,z],_=>
    rw [hb] at hr e
    exact⟨x,y,z,hr x (by simp),hr y (by simp),hr z (by simp),e⟩
def dow (y m d:Int):Int:=(dby y+cum y m+d-1) % 7
def httpD (y m d h mi s:Int):ByteArray:=httpT (dow y m d) y m d h mi s
theorem second_day {y m d h mi s:Int} (r:Real y m d h mi s):second y m d h mi s / 86400 % 7=dow y m d:=by
  obtain⟨_,_,_,_,_,_,_,_,_,_,_,_⟩:=r
  have hd:second y m d h mi s / 86400=dby y+cum y m+d-1:=by unfold second;omega
  rw [hd];rfl
theorem httpD_ev {y m d h mi s:Int} (r:Real y m d h mi s):Ev (fun k=>when_Http.f k (second y m d h mi s)) (httpD y m d h mi s)∧Ev (fun k=>stowageref4_Http.f k (second y m d h mi s)) (httpD y m d h mi s):=by
  have b:=second_bd r
  have c:=second_civil r
  have h1:=http_ev _ b.1 b.2 y m d h mi s (date_of r) c.1
  have h2:=rhttp_ev _ b.1 b.2 y m d h mi s (date_of r) c.2
  rw [second_day r] at h1 h2
  exact⟨h1,h2⟩
theorem httpD_bytes {y m d h mi s:Int} (D:Date6 y m d h mi s):∃ a b c e f g:Int,(0≤a∧a≤255)∧(0≤b∧b≤255)∧(0≤c∧c≤255)∧(0≤e∧e≤255)∧(0≤f∧f≤255)∧(0≤g∧g≤255)∧mo m=strOfNums [e,f,g] ∧
    httpD y m d h mi s=strOfNums [a,b,c,44,32,48+d / 10,48+d % 10,32,e,f,g,32,48+y / 1000,48+y / 100 % 10,48+y / 10 % 10,48+y % 10,32,48+h / 10,48+h % 10,58,48+mi / 10,48+mi % 10,58,48+s / 10,48+s % 10,32,71,77,84]:=by
  have bd:=D.bd
  obtain⟨a,b,c,ha,hb,hc,e1⟩:=three (wd (dow y m d)) (wd_size _ (by unfold dow;omega) (by unfold dow;omega))
  obtain⟨e,f,g,he,hf,hg,e2⟩:=three (mo m) (mo_size m bd.2.2.1 bd.2.2.2.1)
  refine⟨a,b,c,e,f,g,ha,hb,hc,he,hf,hg,e2,?_⟩
  rw [httpD,httpT,e1,e2,p4,p2,p2,p2,p2,show(⟨#[44,32]⟩ : ByteArray)=strOfNums [44,32] from rfl,show(⟨#[32]⟩ : ByteArray)=strOfNums [32] from rfl,show(⟨#[58]⟩ : ByteArray)=strOfNums [58] from rfl,show(⟨#[32,71,77,84]⟩ : ByteArray)=strOfNums [32,71,77,84] from rfl]
  simp only [son_append]
  rfl
theorem son_extract (l:List Int) (i j:Nat):(strOfNums l).extract i j=strOfNums ((l.take j).drop i):=by
  apply ByteArray.ext
  apply Array.toList_inj.mp
  rw [ByteArray.data_extract,Array.toList_extract]
  simp [strOfNums,List.extract,List.map_drop,List.map_take,List.drop_take]
theorem httpD_fields {y m d h mi s:Int} (D:Date6 y m d h mi s):(httpD y m d h mi s).size=29∧(httpD y m d h mi s).extract 8 11=mo m ∧
    dval (httpD y m d h mi s) 4 12 0=some y∧dval (httpD y m d h mi s) 2 5 0=some d∧dval (httpD y m d h mi s) 2 17 0=some h∧dval (httpD y m d h mi s) 2 20 0=some mi∧dval (httpD y m d h mi s) 2 23 0=some s:=by
  have bd:=D.bd
  have:=D.h0;have:=D.h1;have:=D.mi0;have:=D.mi1;have:=D.s0;have:=D.s1
  obtain⟨a,b,c,e,f,g,ha,hb,hc,he,hf,hg,e2,e1⟩:=httpD_bytes D
  have hr:∀ x ∈ [a,b,c,44,32,48+d / 10,48+d % 10,32,e,f,g,32,48+y / 1000,48+y / 100 % 10,48+y / 10 % 10,48+y % 10,32,48+h / 10,48+h % 10,58,48+mi / 10,48+mi % 10,58,48+s / 10,48+s % 10,32,71,77,84],0≤x∧x≤255:=by
    intro x hx
    simp only [List.mem_cons,List.not_mem_nil,or_false] at hx
    rcases hx with rfl|rfl|rfl|rfl|rfl|rfl|rfl|rfl|rfl|rfl|rfl|rfl|rfl|rfl|rfl|rfl|rfl|rfl|rfl|rfl|rfl|rfl|rfl|rfl|rfl|rfl|rfl|rfl|rfl <;> omega
  have hz:(httpD y m d h mi s).size=29:=by rw [e1];rfl
  have at_:∀ (i:Nat) (hi:i<29),bt (httpD y m d h mi s) i = [a,b,c,44,32,48+d / 10,48+d % 10,32,e,f,g,32,48+y / 1000,48+y / 100 % 10,48+y / 10 % 10,48+y % 10,32,48+h / 10,48+h % 10,58,48+mi / 10,48+mi % 10,58,48+s / 10,48+s % 10,32,71,77,84][i]'hi:=by
    intro i hi
    rw [e1];exact bt_son _ hr i hi
  refine⟨hz,by rw [e1,son_extract,e2];rfl,?_,?_,?_,?_,?_⟩
  · exact dval_is4 _ _ _ (by omega) (by omega) (by omega) (at_ 12 (by decide)) (at_ 13 (by decide)) (at_ 14 (by decide)) (at_ 15 (by decide))
  · exact dval_is2 _ _ _ (by omega) (by omega) (by omega) (at_ 5 (by decide)) (at_ 6 (by decide))
  · exact dval_is2 _ _ _ (by omega) (by omega) (by omega) (at_ 17 (by decide)) (at_ 18 (by decide))
  · exact dval_is2 _ _ _ (by omega) (by omega) (by omega) (at_ 20 (by decide)) (at_ 21 (by decide))
  · exact dval_is2 _ _ _ (by omega) (by omega) (by omega) (at_ 23 (by decide)) (at_ 24 (by decide))
theorem mo_index_all:∀ i:Fin 12,Lib.index (⟨#[74,97,110,70,101,98,77,97,114,65,112,114,77,97,121,74,117,110,74,117,108,65,117,103,83,101,112,79,99,116,78,111,118,68,101,99]⟩ : ByteArray).data.toList (mo ((i.val:Int)+1)).data.toList=3*(i.val:Int):=by decide +kernel
theorem mo_index (m:Int) (h0:1≤m) (h1:m≤12):Lib.index (⟨#[74,97,110,70,101,98,77,97,114,65,112,114,77,97,121,74,117,110,74,117,108,65,117,103,83,101,112,79,99,116,78,111,118,68,101,99]⟩ : ByteArray).data.toList (mo m).data.toList=3*(m-1):=by
  have h:=mo_index_all ⟨(m-1).toNat,by omega⟩
  rw [show(((⟨(m-1).toNat,by omega⟩ : Fin 12).val:Nat):Int)=m-1 by show(((m-1).toNat:Nat):Int)=m-1;omega,show m-1+1=m by omega] at h
  exact h
def httpAt:List (Int×Nat):=[(12,4),(5,2),(17,2),(20,2),(23,2)]
theorem httpAt_ok:∀ p∈httpAt,0≤p.1∧p.1≤50∧p.2≤4:=by decide
theorem phttp_tail (a:ByteArray) (y m d h mi s:Int) :
    (∀ (_:Real y m d h mi s),httpD y m d h mi s=a→Ev (fun k=>(when_Of.f k y m d h mi s).bind fun bt330=>(if bt330.2=true then((when_Http.f k bt330.1).bind fun t332=>(if t332.toList=a.toList then(some (bt330.1,true)) else(some (0,false)))) else(some (0,false)))) (second y m d h mi s,true)) ∧
    ((∀ (_:Real y m d h mi s),httpD y m d h mi s≠a)→Ev (fun k=>(when_Of.f k y m d h mi s).bind fun bt330=>(if bt330.2=true then((when_Http.f k bt330.1).bind fun t332=>(if t332.toList=a.toList then(some (bt330.1,true)) else(some (0,false)))) else(some (0,false)))) (0,false)):=by
  have h0:=of_ev y m d h mi s
  constructor
  · intro r e
    rw [if_pos r] at h0
    refine Ev.bind h0 (ev_pos rfl (Ev.bind (httpD_ev r).1 ?_))
    exact ev_pos (by rw [e]) (Ev.now _)
  · intro hn
    by_cases r:Real y m d h mi s
    · rw [if_pos r] at h0
      refine Ev.bind h0 (ev_pos rfl (Ev.bind (httpD_ev r).1 ?_))
      exact ev_neg (fun e=>hn r (toList_inj e)) (Ev.now _)
    · rw [if_neg r] at h0
      refine Ev.bind h0 ?_
      exact ev_neg (by simp) (Ev.now _)
theorem phttp_j1 (a:ByteArray) (y d h mi s i:Int) (r:Int×Bool) (hr:Ev (fun k=>(when_Of.f k y (wrap64 ((wrap64 (Int.tdiv i 3))+1)) d h mi s).bind fun bt330=>(if bt330.2=true then((when_Http.f k bt330.1).bind fun t332=>(if t332.toList=a.toList then(some (bt330.1,true)) else(some (0,false)))) else(some (0,false)))) r) :
    Ev (fun k=>when_ParseHttp.j1 k a [y,d,h,mi,s] i false) r:=by
  refine Ev.step (f:=fun k=>_) (fun k=>by rw [when_ParseHttp.j1,if_neg (by simp)]) ?_
  refine ev_pos (by simp) (ev_pos (by simp) (ev_pos (by simp) (ev_pos (by simp) (ev_pos (by simp) ?_))))
  exact hr
theorem phttp_index (b:ByteArray):strings_Index.f (⟨#[74,97,110,70,101,98,77,97,114,65,112,114,77,97,121,74,117,110,74,117,108,65,117,103,83,101,112,79,99,116,78,111,118,68,101,99]⟩ : ByteArray) b=some (Lib.index (⟨#[74,97,110,70,101,98,77,97,114,65,112,114,77,97,121,74,117,110,74,117,108,65,117,103,83,101,112,79,99,116,78,111,118,68,101,99]⟩ : ByteArray).data.toList b.data.toList):=by
  unfold strings_Index.f;rw [if_pos (by decide)]
theorem phttp_yes {y m d h mi s:Int} (r:Real y m d h mi s):Ev (fun k=>when_ParseHttp.f k (httpD y m d h mi s)) (second y m d h mi s,true):=by
  obtain⟨hz,hx,e1,e2,e3,e4,e5⟩:=httpD_fields (date_of r)
  have ha:=all_ev (httpD y m d h mi s) httpAt httpAt_ok (by decide)
  rw [show allOf (httpD y m d h mi s) httpAt=some [y,d,h,mi,s] by simp only [allOf,httpAt,e1,e2,e3,e4,e5];rfl] at ha
  simp only [when_ParseHttp.f]
  refine Ev.bind (a:=([y,d,h,mi,s],true)) ha ?_
  refine ev_pos rfl ?_
  rw [show(((httpD y m d h mi s).size:Int) != 29)=false by rw [hz];rfl]
  have m0:=r.2.2.1
  have m1:=r.2.2.2.1
  refine Ev.step (f:=fun k=>_) (fun k=>by rw [when_ParseHttp.j0,if_neg (by simp),if_pos (by omega),if_pos (by omega),hx,phttp_index,mo_index m m0 m1,Option.bind_some,if_neg (by omega)]) ?_
  rw [show(Int.tmod (3*(m-1)) 3 != 0)=false by rw [tmod_pos (by omega)];simp]
  refine phttp_j1 _ y d h mi s _ _ ?_
  rw [tdiv_pos (by omega),w64 (n:=3*(m-1) / 3) (by omega) (by omega),w64 (by omega) (by omega),show 3*(m-1) / 3+1=m by omega]
  exact(phttp_tail _ y m d h mi s).1 r rfl
theorem rof_l1 (y m d h mi s b:Int) (hy0:1970≤y) (hm1:m≤12) (hh:0≤h∧h≤23) (hmi:0≤mi∧mi≤59) (hs:0≤s∧s≤59) (hb:0≤b∧b≤2932897) (j:Nat):∀ i:Int,1≤i→i+j=m →
    Ev (fun k=>stowageref4_Of.l1 k (b+cum y i) i y m d h mi s) ((b+cum y m)*86400+h*3600+mi*60+s,true):=by
  induction j with
  | zero=>
    intro i h1 hj
    obtain rfl:i=m:=by omega
    have hc:=cum_bd y i h1 (by omega)
    refine Ev.step (f:=fun _=>some ((b+cum y i)*86400+h*3600+mi*60+s,true)) (fun k=>?_) (Ev.now _)
    rw [stowageref4_Of.l1,if_neg (by omega)]
    generalize cum y i=c at *
    rw [w64 (n:=(b+c)*86400) (by omega) (by omega),w64 (n:=h*3600) (by omega) (by omega),w64 (n:=(b+c)*86400+h*3600) (by omega) (by omega),w64 (n:=mi*60) (by omega) (by omega),w64 (n:=(b+c)*86400+h*3600+mi*60) (by omega) (by omega),w64 (by omega) (by omega)]
  | succ j ih=>
    intro i h1 hj
    have hc:=cum_bd y i h1 (by omega)
    have hz:=size_bd y i
    have e:=cum_succ y i h1 (by omega)
    refine Ev.step (f:=fun k=>_) (fun k=>by rw [stowageref4_Of.l1,if_pos (by omega)]) ?_
    refine Ev.bind (rsize_ev y i (by omega)) ?_
    rw [w64 (n:=b+cum y i+size y i) (by omega) (by omega),w64 (n:=i+1) (by omega) (by omega),show b+cum y i+size y i=b+cum y (i+1) by omega]
    exact ih (i+1) (by omega) (by omega)
theorem rof_l0 (y m d h mi s c:Int) (hc0:0≤c∧c≤31) (hy1:y≤9999) (r:Int×Bool) (hr:Ev (fun k=>stowageref4_Of.l1 k (c+dby y) 1 y m d h mi s) r) (j:Nat):∀ i:Int,1970≤i→i+j=y →
    Ev (fun k=>stowageref4_Of.l0 k (c+dby i) i y m d h mi s) r:=by
  induction j with
  | zero=>
    intro i h1 hj
    obtain rfl:i=y:=by omega
    exact Ev.step (f:=fun k=>_) (fun k=>by rw [stowageref4_Of.l0,if_neg (by omega)]) hr
  | succ j ih=>
    intro i h1 hj
    have hd:=dby_succ i
    have hL:=L_two i
    have h19:=dby_le 1970 i h1
    have h99:=dby_le i 10000 (by omega)
    rw [dby_1970] at h19
    rw [dby_10000] at h99
    refine Ev.step (f:=fun k=>_) (fun k=>by rw [stowageref4_Of.l0,if_pos (by omega),ryear_eq i (by omega),Option.bind_some,w64 (n:=c+dby i+(365+L i)) (by omega) (by omega),w64 (n:=i+1) (by omega) (by omega)]) ?_
    rw [show c+dby i+(365+L i)=c+dby (i+1) by omega]
    exact ih (i+1) (by omega) (by omega)
theorem rof_ev (y m d h mi s:Int):Ev (fun k=>stowageref4_Of.f k y m d h mi s) (if Real y m d h mi s then(second y m d h mi s,true) else(0,false)):=by
  have jt:∀ (b:Bool),(b=true→¬ Real y m d h mi s)→(b=false→Real y m d h mi s)→Ev (fun k=>stowageref4_Of.j0 k b y m d h mi s) (if Real y m d h mi s then(second y m d h mi s,true) else(0,false)):=by
    intro b hb1 hb0
    cases b with
    | true=>exact Ev.step (f:=fun _=>some _) (fun k=>by rw [stowageref4_Of.j0,if_pos rfl,if_neg (hb1 rfl)]) (Ev.now _)
    | false=>
      have r:=hb0 rfl
      have hbd:=r.bd
      have hv:=r.valid
      obtain⟨a1,a2,a3,a4,a5,a6,a7,a8,a9,b1,b2,b3⟩:=r
      rw [if_pos (hb0 rfl)]
      have hy:=hv.in_year
      have hc:=cum_bd y m a3 (by omega)
      have h19:=dby_le 1970 y a1
      have h99:=dby_le y 10000 (by omega)
      rw [dby_1970] at h19
      rw [dby_10000] at h99
      have hz:=size_bd y m
      refine Ev.step (f:=fun k=>_) (fun k=>by rw [stowageref4_Of.j0,if_neg (by simp),w64 (n:=d-1) (by omega) (by omega)]) ?_
      have q:=rof_l1 y m d h mi s (dby y+d-1) a1 a4 ⟨a7,a8⟩ ⟨a9,b1⟩ ⟨b2,b3⟩ (by omega) (m-1).toNat 1 (by omega) (by omega)
      rw [cum_one,show dby y+d-1+0=d-1+dby y by omega,show(dby y+d-1+cum y m)*86400+h*3600+mi*60+s=second y m d h mi s by unfold second;omega] at q
      have q2:=rof_l0 y m d h mi s (d-1) (by omega) a2 _ q (y-1970).toNat 1970 (by omega) (by omega)
      rw [dby_1970,show d-1+0=d-1 by omega] at q2
      exact q2
  simp only [stowageref4_Of.f]
  by_cases c1:y<1970
  · exact ev_pos c1 (jt true (fun _ r=>by have:=r.1;omega) (by simp))
  refine ev_neg c1 ?_
  by_cases c2:y>9999
  · exact ev_pos c2 (jt true (fun _ r=>by have:=r.2.1;omega) (by simp))
  refine ev_neg c2 ?_
  by_cases c3:m<1
  · exact ev_pos c3 (jt true (fun _ r=>by have:=r.2.2.1;omega) (by simp))
  refine ev_neg c3 ?_
  by_cases c4:m>12
  · exact ev_pos c4 (jt true (fun _ r=>by have:=r.2.2.2.1;omega) (by simp))
  refine ev_neg c4 ?_
  by_cases c5:d<1
  · exact ev_pos c5 (jt true (fun _ r=>by have:=r.2.2.2.2.1;omega) (by simp))
  refine ev_neg c5 ?_
  refine Ev.bind (rsize_ev y m (by omega)) ?_
  by_cases c6:d>size y m
  · exact ev_pos c6 (jt true (fun _ r=>by have:=r.2.2.2.2.2.1;omega) (by simp))
  refine ev_neg c6 ?_
  by_cases c7:h<0
  · exact ev_pos c7 (jt true (fun _ r=>by have:=r.2.2.2.2.2.2.1;omega) (by simp))
  refine ev_neg c7 ?_
  by_cases c8:h>23
  · exact ev_pos c8 (jt true (fun _ r=>by have:=r.2.2.2.2.2.2.2.1;omega) (by simp))
  refine ev_neg c8 ?_
  by_cases c9:mi<0
  · exact ev_pos c9 (jt true (fun _ r=>by have:=r.2.2.2.2.2.2.2.2.1;omega) (by simp))
  refine ev_neg c9 ?_
  by_cases d1:mi>59
  · exact ev_pos d1 (jt true (fun _ r=>by have:=r.2.2.2.2.2.2.2.2.2.1;omega) (by simp))
  refine ev_neg d1 ?_
  by_cases d2:s<0
  · exact ev_pos d2 (jt true (fun _ r=>by have:=r.2.2.2.2.2.2.2.2.2.2.1;omega) (by simp))
  refine ev_neg d2 ?_
  refine jt _ (fun hb r=>?_) (fun hb=>?_)
  · have:=r.2.2.2.2.2.2.2.2.2.2.2
    simp at hb
    omega
  · simp at hb
    exact⟨by omega,by omega,by omega,by omega,by omega,by omega,by omega,by omega,by omega,by omega,by omega,by omega⟩
def orMinus (o:Option Int):Int:=match o with|some v=>v|none=>-1
theorem number_l0 (s:ByteArray) (hsz:s.size≤100) (j:Nat):∀ (n i:Int) (c:Nat),c+j≤4→0≤n→n<10 ^ c→0≤i→i+j=s.size →
    Ev (fun k=>stowageref4_number.l0 k s n i) (orMinus (dval s j i n)):=by
  induction j with
  | zero=>
    intro n i c hc hn hn1 hi hij
    refine Ev.step (f:=fun _=>some n) (fun k=>?_) (Ev.now _)
    rw [stowageref4_number.l0,if_neg (by omega)]
  | succ j ih=>
    intro n i c hc hn hn1 hi hij
    have hp:(10:Int) ^ c≤1000:=by
      have:c=0∨c=1∨c=2∨c=3:=by omega
      rcases this with rfl|rfl|rfl|rfl <;> decide
    have hbr:=bt_range s i
    by_cases h:i<(s.size:Int)∧48≤bt s i∧bt s i≤57
    · rw [dval,if_pos h]
      refine Ev.step (f:=fun k=>stowageref4_number.l0 k s (10*n+(bt s i-48)) (i+1)) (fun k=>?_) ?_
      · rw [stowageref4_number.l0,if_pos h.1,if_pos hi,if_neg (by omega),if_neg (by omega),
          w64 (n:=10*n) (by omega) (by omega),show(bt s i-48) % 256=bt s i-48 by omega,w64 (n:=10*n+(bt s i-48)) (by omega) (by omega),w64 (n:=i+1) (by omega) (by omega)]
      · refine ih _ _ (c+1) (by omega) (by omega) ?_ (by omega) (by omega)
        rw [Int.pow_succ];omega
    · rw [dval,if_neg h]
      refine Ev.step (f:=fun _=>some (-1)) (fun k=>?_) (Ev.now _)
      rw [stowageref4_number.l0,if_pos (by omega),if_pos hi]
      by_cases c2:bt s i<48
      · rw [if_pos c2]
      · rw [if_neg c2,if_pos (by omega)]
theorem bt_extract (s:ByteArray) (a b:Nat) (i:Int) (h0:0≤i) (h1:a+i<b) (h2:b≤s.size):bt (s.extract a b) i=bt s (a+i):=by
  unfold bt
  have hs:(s.extract a b).size=b-a:=by rw [ByteArray.size_extract];omega
  rw [dif_pos (show i.toNat<(s.extract a b).size by omega),dif_pos (show((a:Int)+i).toNat<s.size by omega)]
  congr 2
  rw [ByteArray.getElem_extract]
  congr 1
  omega
theorem dval_extract (s:ByteArray) (a b:Nat) (h2:b≤s.size) (j:Nat):∀ (i n:Int),0≤i→a+i+j=b→dval (s.extract a b) j i n=dval s j (a+i) n:=by
  have hs:(s.extract a b).size=b-a:=by rw [ByteArray.size_extract];omega
  induction j with
  | zero=>intro i n _ _;rfl
  | succ j ih=>
    intro i n h0 hj
    rw [dval,dval,bt_extract s a b i h0 (by omega) h2,ih (i+1) _ (by omega) (by omega),hs,show(a:Int)+(i+1)=a+i+1 by omega]
    by_cases c:48≤bt s (a+i)∧bt s (a+i)≤57
    · rw [if_pos ⟨by omega,c⟩,if_pos ⟨by omega,c⟩]
    · rw [if_neg (fun h=>c h.2),if_neg (fun h=>c h.2)]
theorem number_ev (s:ByteArray) (a b:Nat) (hab:a≤b) (hb:b≤a+4) (h2:b≤s.size):Ev (fun k=>stowageref4_number.f k (s.extract a b)) (orMinus (dval s (b-a) a 0)):=by
  have hs:(s.extract a b).size=b-a:=by rw [ByteArray.size_extract];omega
  have h:=number_l0 (s.extract a b) (by omega) (b-a) 0 0 0 (by omega) (by omega) (by decide) (by omega) (by omega)
  rw [dval_extract s a b h2 (b-a) 0 0 (by omega) (by omega)] at h
  rw [show(a:Int)+0=a by omega] at h
  exact h
theorem allOf_length (s:ByteArray) (ps:List (Int×Nat)):∀ l,allOf s ps=some l→l.length=ps.length:=by
  induction ps with
  | nil=>intro l h;simp only [allOf,Option.some.injEq] at h;subst h;rfl
  | cons p ps ih=>
    intro l h
    obtain⟨a,b⟩:=p
    rw [allOf] at h
    cases hv:dval s b a 0 with
    | none=>rw [hv] at h;simp at h
    | some v=>
      rw [hv] at h
      cases hr:allOf s ps with
      | none=>rw [hr] at h;simp at h
      | some q=>rw [hr] at h;simp only [Option.map_some,Option.some.injEq] at h;subst h;simp [ih q hr]
theorem mo_inj {m m':Int} (h0:1≤m) (h1:m≤12) (h0':1≤m') (h1':m'≤12) (h:mo m=mo m'):m=m':=by
  have a:=mo_index m h0 h1
  rw [h,mo_index m' h0' h1'] at a
  omega
theorem phttp_j1_no (a:ByteArray) (l:List Int) (i:Int):Ev (fun k=>when_ParseHttp.j1 k a l i true) (0,false):=
  Ev.step (f:=fun _=>_) (fun k=>by rw [when_ParseHttp.j1,if_pos rfl]) (Ev.now _)
theorem phttp_j0_no (a:ByteArray) (l:List Int):Ev (fun k=>when_ParseHttp.j0 k a l true) (0,false):=
  Ev.step (f:=fun _=>_) (fun k=>by rw [when_ParseHttp.j0,if_pos rfl]) (Ev.now _)
theorem phttp_no (a:ByteArray) (hn:∀ y m d h mi s,Real y m d h mi s→httpD y m d h mi s≠a):Ev (fun k=>when_ParseHttp.f k a) (0,false):=by
  have ha:=all_ev a httpAt httpAt_ok (by decide)
  simp only [when_ParseHttp.f]
  cases hx:allOf a httpAt with
  | none=>
    rw [hx] at ha
    refine Ev.bind ha ?_
    exact ev_neg (by simp) (phttp_j0_no a _)
  | some l=>
    rw [hx] at ha
    have hlen:=allOf_length a httpAt l hx
    have hl:∃ y d h mi s,l = [y,d,h,mi,s]:=by
      match l,hlen with
      | [y,d,h,mi,s],_=>exact⟨y,d,h,mi,s,rfl⟩
    obtain⟨y,d,h,mi,s,rfl⟩:=hl
    refine Ev.bind (a:=([y,d,h,mi,s],true)) ha ?_
    refine ev_pos rfl ?_
    by_cases hz:(a.size:Int)=29
    · rw [show((a.size:Int) != 29)=false by rw [hz];rfl]
      refine Ev.step (f:=fun k=>_) (fun k=>by rw [when_ParseHttp.j0,if_neg (by simp),if_pos (by omega),if_pos (by omega),phttp_index,Option.bind_some]) ?_
      by_cases c:Lib.index (⟨#[74,97,110,70,101,98,77,97,114,65,112,114,77,97,121,74,117,110,74,117,108,65,117,103,83,101,112,79,99,116,78,111,118,68,101,99]⟩ : ByteArray).data.toList (a.extract 8 11).data.toList<0
      · exact ev_pos c (phttp_j1_no a _ _)
      · refine ev_neg c ?_
        cases hb:(Int.tmod (Lib.index (⟨#[74,97,110,70,101,98,77,97,114,65,112,114,77,97,121,74,117,110,74,117,108,65,117,103,83,101,112,79,99,116,78,111,118,68,101,99]⟩ : ByteArray).data.toList (a.extract 8 11).data.toList) 3 != 0) with
        | true=>exact phttp_j1_no a _ _
        | false=>exact phttp_j1 a y d h mi s _ _ ((phttp_tail a y _ d h mi s).2 (fun r=>hn _ _ _ _ _ _ r))
    · rw [show((a.size:Int) != 29)=true by simpa using hz]
      exact phttp_j0_no a _
theorem rphttp_round (a:ByteArray) (hs:a.size=29) (i:Int) (r:Int×Bool) (h:Ev (fun k=>(stowageref4_Of.f k (orMinus (dval a 4 12 0)) i (orMinus (dval a 2 5 0)) (orMinus (dval a 2 17 0)) (orMinus (dval a 2 20 0)) (orMinus (dval a 2 23 0))).bind fun bt338=>(if bt338.2=true then((stowageref4_Http.f k bt338.1).bind fun t340=>(if t340.toList=a.toList then(some (bt338.1,true)) else(stowageref4_ParseHttp.l0 k a (wrap64 (i+1))))) else(stowageref4_ParseHttp.l0 k a (wrap64 (i+1))))) r) (hi:i≤12):Ev (fun k=>stowageref4_ParseHttp.l0 k a i) r:=by
  refine Ev.step (f:=fun k=>_) (fun k=>by rw [stowageref4_ParseHttp.l0,if_pos hi]) ?_
  refine ev_pos (by omega) (ev_pos (by omega) ?_)
  refine Ev.bind (number_ev a 12 16 (by omega) (by omega) (by omega)) (ev_pos (by omega) (ev_pos (by omega) ?_))
  refine Ev.bind (number_ev a 5 7 (by omega) (by omega) (by omega)) (ev_pos (by omega) (ev_pos (by omega) ?_))
  refine Ev.bind (number_ev a 17 19 (by omega) (by omega) (by omega)) (ev_pos (by omega) (ev_pos (by omega) ?_))
  refine Ev.bind (number_ev a 20 22 (by omega) (by omega) (by omega)) (ev_pos (by omega) (ev_pos (by omega) ?_))
  refine Ev.bind (number_ev a 23 25 (by omega) (by omega) (by omega)) ?_
  exact h
theorem rphttp_on (a:ByteArray) (hs:a.size=29) (i:Int) (hi0:1≤i) (hi:i≤12) (hn:∀ y d h mi s,Real y i d h mi s→httpD y i d h mi s≠a) (r:Int×Bool) (h:Ev (fun k=>stowageref4_ParseHttp.l0 k a (i+1)) r):Ev (fun k=>stowageref4_ParseHttp.l0 k a i) r:=by
  refine rphttp_round a hs i r ?_ hi
  have h0:=rof_ev (orMinus (dval a 4 12 0)) i (orMinus (dval a 2 5 0)) (orMinus (dval a 2 17 0)) (orMinus (dval a 2 20 0)) (orMinus (dval a 2 23 0))
  rw [w64 (n:=i+1) (by omega) (by omega)]
  by_cases q:Real (orMinus (dval a 4 12 0)) i (orMinus (dval a 2 5 0)) (orMinus (dval a 2 17 0)) (orMinus (dval a 2 20 0)) (orMinus (dval a 2 23 0))
  · rw [if_pos q] at h0
    refine Ev.bind h0 (ev_pos rfl (Ev.bind (httpD_ev q).2 ?_))
    exact ev_neg (fun e=>hn _ _ _ _ _ q (toList_inj e)) h
  · rw [if_neg q] at h0
    refine Ev.bind h0 ?_
    exact ev_neg (by simp) h
theorem rphttp_no (a:ByteArray) (hn:∀ y m d h mi s,Real y m d h mi s→httpD y m d h mi s≠a):Ev (fun k=>stowageref4_ParseHttp.f k a) (0,false):=by
  simp only [stowageref4_ParseHttp.f]
  by_cases hs:a.size=29
  · refine ev_pos (by omega) ?_
    have go:∀ (j:Nat) (i:Int),1≤i→i+j=13→Ev (fun k=>stowageref4_ParseHttp.l0 k a i) (0,false):=by
      intro j
      induction j with
      | zero=>
        intro i h1 hj
        exact Ev.step (f:=fun _=>_) (fun k=>by rw [stowageref4_ParseHttp.l0,if_neg (by omega)]) (Ev.now _)
      | succ j ih=>
        intro i h1 hj
        exact rphttp_on a hs i h1 (by omega) (fun y d h mi s r=>hn y i d h mi s r) _ (ih (i+1) (by omega) (by omega))
    exact go 12 1 (by omega) (by omega)
  · exact ev_neg (by omega) (Ev.now _)
theorem rphttp_yes {y m d h mi s:Int} (r:Real y m d h mi s):Ev (fun k=>stowageref4_ParseHttp.f k (httpD y m d h mi s)) (second y m d h mi s,true):=by
  obtain⟨hz,hx,e1,e2,e3,e4,e5⟩:=httpD_fields (date_of r)
  have m0:=r.2.2.1
  have m1:=r.2.2.2.1
  simp only [stowageref4_ParseHttp.f]
  refine ev_pos (by omega) ?_
  have last:Ev (fun k=>stowageref4_ParseHttp.l0 k (httpD y m d h mi s) m) (second y m d h mi s,true):=by
    refine rphttp_round _ hz m _ ?_ m1
    rw [e1,e2,e3,e4,e5]
    have h0:=rof_ev y m d h mi s
    rw [if_pos r] at h0
    refine Ev.bind h0 (ev_pos rfl (Ev.bind (httpD_ev r).2 ?_))
    exact ev_pos rfl (Ev.now _)
  have go:∀ (j:Nat) (i:Int),1≤i→i+j=m→Ev (fun k=>stowageref4_ParseHttp.l0 k (httpD y m d h mi s) i) (second y m d h mi s,true):=by
    intro j
    induction j with
    | zero=>
      intro i h1 hj
      rw [show i=m by omega];exact last
    | succ j ih=>
      intro i h1 hj
      refine rphttp_on _ hz i h1 (by omega) (fun y' d' h' mi' s' r' e=>?_) _ (ih (i+1) (by omega) (by omega))
      have q:=(httpD_fields (date_of r')).2.1
      rw [e,hx] at q
      have:=mo_inj m0 m1 h1 (by omega) q
      omega
  exact go (m-1).toNat 1 (by omega) (by omega)
theorem parseHttp_same (a:ByteArray):∃ r,Ev (fun k=>when_ParseHttp.f k a) r∧Ev (fun k=>stowageref4_ParseHttp.f k a) r:=by
  by_cases h:∃ y m d h mi s,Real y m d h mi s∧httpD y m d h mi s=a
  · obtain⟨y,m,d,h,mi,s,r,rfl⟩:=h
    exact⟨_,phttp_yes r,rphttp_yes r⟩
  · have hn:∀ y m d h mi s,Real y m d h mi s→httpD y m d h mi s≠a:=fun y m d hh mi s r e=>h ⟨y,m,d,hh,mi,s,r,e⟩
    exact⟨_,phttp_no a hn,rphttp_no a hn⟩
end Go.Proofs.YtfjidcmegacibaaDoor.Pure.Date


namespace Go.Proofs.YtfjidcmegacibaaDoor.Pure
open Go.RowKit Go.Proofs.YtfjidcmegacibaaDoorW.PrintWords
set_option linter.unusedVariables false
set_option linter.unusedSimpArgs false
def B (l:List UInt8):ByteArray:=⟨l.toArray⟩
theorem B_toList (l:List UInt8):(B l).toList=l:=by rw [ByteArray.toList_eq];rfl
theorem of_B (s:ByteArray):B s.toList=s:=toList_inj (B_toList _)
theorem B_size (l:List UInt8):(B l).size=l.length:=by rw [← length_toList,B_toList]
theorem B_extract (l:List UInt8) (i j:Nat):(B l).extract i j=B ((l.take j).drop i):=by
  apply toList_inj
  rw [toList_extract,B_toList,B_toList]
theorem B_append (a b:List UInt8):B a++B b=B (a++b):=by
  apply toList_inj
  rw [toList_append,B_toList,B_toList,B_toList]
theorem B_inj {a b:List UInt8} (h:B a=B b):a=b:=by
  have:=congrArg ByteArray.toList h
  rwa [B_toList,B_toList] at this
theorem bt_B (l:List UInt8) (i:Nat) (c:UInt8) (h:l[i]? = some c):bt (B l) (i:Int)=(c.toNat:Int):=by
  obtain⟨hi,e⟩:=List.getElem?_eq_some_iff.mp h
  have hi':i<(B l).toList.length:=by rw [B_toList];exact hi
  rw [bt_get _ i hi']
  simp only [B_toList,e]
theorem toNat_eq {c d:UInt8}:(c.toNat:Int)=(d.toNat:Int)↔c=d:=by
  constructor
  · intro h;exact UInt8.toNat_inj.mp (Int.ofNat_inj.mp h)
  · intro h;rw [h]
open Go.RowKit Go.Proofs.YtfjidcmegacibaaDoor.Q Go.Proofs.YtfjidcmegacibaaDoorW.PrintWords Go.Proofs.YtfjidcmegacibaaDoorW.PrintLast
def dgt (d:Nat):UInt8:=UInt8.ofNat (48+d)
def dcm (n:Nat):List UInt8:=if n<10 then [dgt n] else dcm (n / 10) ++ [dgt (n % 10)]
theorem dcm_small (n:Nat) (h:n<10):dcm n = [dgt n]:=by rw [dcm,if_pos h]
theorem dcm_more (n:Nat) (h:¬ n<10):dcm n=dcm (n / 10) ++ [dgt (n % 10)]:=by rw [dcm,if_neg h]
theorem dcm_len (j:Nat):∀ n,n<10 ^ (j+1)→(dcm n).length≤j+1:=by
  induction j with
  | zero=>intro n h;rw [dcm_small n (by simpa using h)];simp
  | succ j ih=>
    intro n h
    by_cases c:n<10
    · rw [dcm_small n c];simp
    · rw [dcm_more n c,List.length_append,List.length_singleton]
      have:=ih (n / 10) (by rw [Nat.pow_succ] at h;omega)
      omega
theorem tdig_all:∀ i:Fin 10,stowageref1_digit.f (i.val:Int)=some (B [dgt i.val]):=by decide +kernel
theorem tdig (n:Int) (h0:0≤n) (h1:n≤9):stowageref1_digit.f n=some (B [dgt n.toNat]):=by
  have h:=tdig_all ⟨n.toNat,by omega⟩
  rw [show(((⟨n.toNat,by omega⟩ : Fin 10).val:Nat):Int)=n by show((n.toNat:Nat):Int)=n;omega] at h
  exact h
theorem txt_l0 (j:Nat):∀ (n:Nat) (s:List UInt8),n<10 ^ (j+1)→n≤9223372036854775807→s.length+j≤1000000000000000→Ev (fun k=>stowageref1_Text.l0 k (n:Int) (B s)) (B (dcm n++s)):=by
  have small:∀ (n:Nat) (s:List UInt8),n<10→s.length≤1000000000000000→Ev (fun k=>stowageref1_Text.l0 k (n:Int) (B s)) (B (dcm n++s)):=by
    intro n s h hs
    refine Ev.step (f:=fun _=>some (B (dcm n++s))) (fun k=>?_) (Ev.now _)
    rw [stowageref1_Text.l0,if_neg (by omega),tdig (n:Int) (by omega) (by omega),Option.bind_some,if_pos (by rw [B_size,B_size,List.length_singleton];omega),B_append,dcm_small n h]
    rfl
  induction j with
  | zero=>intro n s h _ hs;exact small n s (by simpa using h) (by omega)
  | succ j ih=>
    intro n s h hb hs
    by_cases g:n<10
    · exact small n s g (by omega)
    · have q:=ih (n / 10) ([dgt (n % 10)]++s) (by rw [Nat.pow_succ] at h;omega) (by omega) (by rw [List.length_append,List.length_singleton];omega)
      refine Ev.step (f:=fun k=>stowageref1_Text.l0 k ((n / 10:Nat):Int) (B ([dgt (n % 10)]++s))) (fun k=>?_) ?_
      · have e1:Int.tmod (n:Int) 10=((n % 10:Nat):Int):=by rw [Int.tmod_eq_emod_of_nonneg (by omega)];omega
        have e2:wrap64 (Int.tdiv (n:Int) 10)=((n / 10:Nat):Int):=by rw [Int.tdiv_eq_ediv_of_nonneg (by omega),w64 (by omega) (by omega)];omega
        rw [stowageref1_Text.l0,if_pos (by omega),e1,tdig _ (by omega) (by omega),Option.bind_some,if_pos (by rw [B_size,B_size,List.length_singleton];omega),B_append,e2,Int.toNat_natCast]
      · rw [dcm_more n g,List.append_assoc]
        exact q
def itx (n:Int):List UInt8:=if n<0 then(if n = -9223372036854775808 then [45,57,50,50,51,51,55,50,48,51,54,56,53,52,55,55,53,56,48,56] else 45 :: dcm (-n).toNat) else dcm n.toNat
theorem itx_len (n:Int) (h0:-9223372036854775808≤n) (h1:n≤9223372036854775807):(itx n).length≤20:=by
  unfold itx
  have e:(10:Nat) ^ (18+1)=10000000000000000000:=by decide
  by_cases c:n<0
  · rw [if_pos c]
    by_cases g:n = -9223372036854775808
    · rw [if_pos g];simp
    · rw [if_neg g,List.length_cons]
      have:=dcm_len 18 (-n).toNat (by omega)
      omega
  · rw [if_neg c]
    have:=dcm_len 18 n.toNat (by omega)
    omega
theorem txt_pos (n:Int) (h0:0≤n) (h1:n≤9223372036854775807):Ev (fun k=>stowageref1_Text.f k n) (B (dcm n.toNat)):=by
  obtain⟨m,rfl⟩:=Int.eq_ofNat_of_zero_le h0
  have e:(10:Nat) ^ (18+1)=10000000000000000000:=by decide
  have q:=txt_l0 18 m [] (by omega) (by omega) (by simp)
  rw [List.append_nil] at q
  exact Ev.step (f:=fun k=>_) (fun k=>by rw [stowageref1_Text.f,if_neg (by omega)];rfl) q
theorem txt_ev (n:Int) (h0:-9223372036854775808≤n) (h1:n≤9223372036854775807):Ev (fun k=>stowageref1_Text.f k n) (B (itx n)):=by
  by_cases c:n<0
  · by_cases g:n = -9223372036854775808
    · subst g
      exact Ev.step (f:=fun _=>some (B (itx (-9223372036854775808)))) (fun k=>by rw [stowageref1_Text.f,if_pos (by omega),if_pos (by unfold wrap64;omega)];rfl) (Ev.now _)
    · have hw:wrap64 (-n) = -n:=by unfold wrap64;omega
      have q:=txt_pos (-n) (by omega) (by omega)
      have hl:(dcm (-n).toNat).length≤20:=by
        have e:(10:Nat) ^ (18+1)=10000000000000000000:=by decide
        have:=dcm_len 18 (-n).toNat (by omega)
        omega
      refine Ev.step (f:=fun k=>(stowageref1_Text.f k (-n)).bind fun t=>if 1+t.size≤9223372036854775807 then some ((⟨#[45]⟩ : ByteArray)++t) else none) (fun k=>by rw [stowageref1_Text.f,if_pos c,if_neg (by rw [hw];omega),hw]) ?_
      refine Ev.bind q ?_
      refine ev_pos (by rw [B_size];omega) (ev_eq (Ev.now _) ?_)
      rw [show itx n=45 :: dcm (-n).toNat by rw [itx,if_pos c,if_neg g]]
      exact B_append [45] _
  · have q:=txt_pos n (by omega) h1
    rw [show itx n=dcm n.toNat by rw [itx,if_neg c]]
    exact q
theorem dcm_dec (n:Nat):Lib.decDigits n=dcm n:=by
  induction n using Nat.strongRecOn with
  | ind n ih=>
    rw [Lib.decDigits,dcm]
    by_cases c:n<10
    · rw [dif_pos c,if_pos c];rfl
    · rw [dif_neg c,if_neg c,ih _ (by omega)];rfl
theorem itx_itoa (n:Int) (h0:-9223372036854775808≤n):itx n=Lib.itoa n:=by
  unfold itx Lib.itoa
  by_cases c:n<0
  · rw [if_pos c,if_pos c]
    by_cases g:n = -9223372036854775808
    · subst g;rw [if_pos rfl];decide +kernel
    · rw [if_neg g,dcm_dec,show(-n).toNat=n.natAbs by omega]
  · rw [if_neg c,if_neg c,dcm_dec]
theorem encText_eq (n:Int) (h0:-9223372036854775808≤n) (h1:n≤9223372036854775807):enc_Text.f n=some (B (itx n)):=by
  rw [enc_Text.f,if_pos ⟨h0,h1⟩,itx_itoa n h0]
  rfl
theorem civil_out (t:Int) (h:¬ (0≤t∧t≤253402300799)):Ev (fun k=>when_Civil.f k t) (0,0,0,0,0,0,false):=by
  refine Ev.congr (f:=fun _=>_) (fun k=>by rw [when_Civil.f,Date.is_eq t,Option.bind_some,if_neg (by simpa using h)]) (Ev.now _)
theorem rcivil_out (t:Int) (h:¬ (0≤t∧t≤253402300799)):Ev (fun k=>stowageref4_Civil.f k t) (0,0,0,0,0,0,false):=by
  have hj:Ev (fun k=>stowageref4_Civil.j0 k t true) (0,0,0,0,0,0,false):=Ev.step (f:=fun _=>_) (fun k=>by rw [stowageref4_Civil.j0,if_pos rfl]) (Ev.now _)
  simp only [stowageref4_Civil.f]
  by_cases c:t<0
  · exact ev_pos c hj
  · refine ev_neg c ?_
    rw [decide_eq_true (by omega)]
    exact hj
theorem http_same (t:Int):∃ r:ByteArray,r.size≤40∧Ev (fun k=>when_Http.f k t) r∧Ev (fun k=>stowageref4_Http.f k t) r:=by
  by_cases h:0≤t∧t≤253402300799
  · obtain⟨y,m,d,hh,mi,s,D,hv,e1,e2,e3,he,he'⟩:=Date.civil6 t h.1 h.2
    refine⟨_,?_,Date.http_ev t h.1 h.2 y m d hh mi s D he,Date.rhttp_ev t h.1 h.2 y m d hh mi s D he'⟩
    have hb:=D.bd
    have hw:=Date.wd_size (t / 86400 % 7) (by omega) (by omega)
    have hm:=Date.mo_size m hb.2.2.1 hb.2.2.2.1
    simp only [Date.httpT,ByteArray.size_append,hw,hm,Date.p2_size,Date.p4_size]
    decide
  · refine⟨⟨#[]⟩,by decide,?_,?_⟩
    · simp only [when_Http.f];exact Ev.bind (civil_out t h) (ev_neg (by simp) (Ev.now _))
    · simp only [stowageref4_Http.f];exact Ev.bind (rcivil_out t h) (ev_neg (by simp) (Ev.now _))
def phN:List Int:=[100,200,204,206,304,400,403,404,405,409,412,414,416,417,431,500,501,503,505]
theorem phrase_no (n:Int) (S:List ByteArray) (h:∀ m∈phN,m≠n) (j:Nat):∀ i:Nat,i+j=19→Ev (fun k=>stowageref17_Phrase.l0 k n phN S (i:Int)) (⟨#[85,110,107,110,111,119,110]⟩ : ByteArray):=by
  induction j with
  | zero=>
    intro i hi
    obtain rfl:i=19:=by omega
    refine Ev.step (f:=fun _=>_) (fun k=>by rw [stowageref17_Phrase.l0,if_neg (by simp [phN])]) (Ev.now _)
  | succ j ih=>
    intro i hi
    have hl:i<phN.length:=by simp only [phN,List.length_cons,List.length_nil];omega
    have hr:rd phN (i:Int)≠n:=by
      have e:rd phN (i:Int)=phN[i]:=by simp [rd,List.getD_eq_getElem?_getD,List.getElem?_eq_getElem hl]
      rw [e]
      exact h _ (List.getElem_mem hl)
    refine Ev.step (f:=fun k=>stowageref17_Phrase.l0 k n phN S ((i+1:Nat):Int)) (fun k=>?_) (ih (i+1) (by omega))
    rw [stowageref17_Phrase.l0,if_pos (by omega),if_pos (by omega),if_neg hr,w64 (by omega) (by omega)]
    congr 1
theorem phrase_same (n:Int):∃ p:ByteArray,p.size≤100∧reply_Phrase.f n=some p∧Ev (fun k=>stowageref17_Phrase.f k n) p:=by
  by_cases h:∀ m∈phN,m≠n
  · refine⟨(⟨#[85,110,107,110,111,119,110]⟩ : ByteArray),by decide,?_,?_⟩
    · have h':∀ m∈phN,n≠m:=fun m hm e=>h m hm e.symm
      simp only [phN,List.forall_mem_cons,List.not_mem_nil,false_implies,implies_true,and_true] at h'
      obtain⟨a1,a2,a3,a4,a5,a6,a7,a8,a9,a10,a11,a12,a13,a14,a15,a16,a17,a18,a19⟩:=h'
      unfold reply_Phrase.f
      rw [if_neg a1,if_neg a2,if_neg a3,if_neg a4,if_neg a5,if_neg a6,if_neg a7,if_neg a8,if_neg a9,if_neg a10,if_neg a11,if_neg a12,if_neg a13,if_neg a14,if_neg a15,if_neg a16,if_neg a17,if_neg a18,if_neg a19]
    · simp only [stowageref17_Phrase.f]
      exact phrase_no n _ h 19 0 rfl
  · obtain⟨m,hm,rfl⟩ : ∃ m,m∈phN∧m=n:=Classical.byContradiction fun hx=>h fun m hm e=>hx ⟨m,hm,e⟩
    simp only [phN,List.mem_cons,List.not_mem_nil,or_false] at hm
    rcases hm with rfl|rfl|rfl|rfl|rfl|rfl|rfl|rfl|rfl|rfl|rfl|rfl|rfl|rfl|rfl|rfl|rfl|rfl|rfl <;> exact⟨_,by decide,rfl,Ev.of (fun k=>stowageref17_Phrase.mono _ k) (k:=25) (by decide +kernel)⟩
theorem bare_same (n:Int):∃ b,reply_Bare.f n=some b∧stowageref17_Bare.f n=some b:=by
  unfold reply_Bare.f stowageref17_Bare.f
  by_cases h1:n=100
  · exact⟨_,if_pos h1,if_pos h1⟩
  · by_cases h2:n=204
    · exact⟨_,by rw [if_neg h1,if_pos h2],by rw [if_neg h1,if_pos h2]⟩
    · exact⟨_,by rw [if_neg h1,if_neg h2],by rw [if_neg h1,if_neg h2]⟩
theorem awake_60:stowagelaw17_awake.f 60=some true:=by decide +kernel
theorem awake_ev:Ev (fun k=>stowagelaw17_awake.f k) true:=Ev.of (fun k=>stowagelaw17_awake.mono k) awake_60
theorem awb:Ev (fun k=>(stowagelaw17_awake.f k).bind fun t=>some t) true:=Ev.bind awake_ev (Ev.now _)
def NL:ByteArray:=⟨#[13,10]⟩
def CL:ByteArray:=⟨#[67,111,110,116,101,110,116,45,76,101,110,103,116,104,58,32]⟩
def pbulk (hs:List S52):Nat:=(hs.map fun h=>h.f0.size+h.f1.size+4).sum
theorem pbulk_cons (h:S52) (hs:List S52):pbulk (h :: hs)=h.f0.size+h.f1.size+4+pbulk hs:=by simp [pbulk]
theorem pbulk_len (hs:List S52):hs.length≤pbulk hs:=by
  induction hs with
  | nil=>exact Nat.zero_le _
  | cons h hs ih=>rw [pbulk_cons,List.length_cons];omega
theorem hd_eq (acc:ByteArray) (h:S52):(((acc++h.f0)++(⟨#[58,32]⟩ : ByteArray))++h.f1)++(⟨#[13,10]⟩ : ByteArray)=reply_Print.hd acc h:=by
  unfold reply_Print.hd reply_Print.nl
  simp only [ByteArray.append_assoc]
theorem fold_size (hs:List S52):∀ X:ByteArray,(hs.foldl reply_Print.hd X).size=X.size+pbulk hs:=by
  induction hs with
  | nil=>intro X;simp [pbulk]
  | cons h hs ih=>intro X;rw [List.foldl_cons,ih,reply_Print.hd_size,pbulk_cons];omega
def refEnd (k:Nat) (x1 x4:Bool) (F:ByteArray) (a0:Int) (hs:List S52) (body:List Int):Option (List Int):=
  (stowageref17_Bare.f a0).bind fun t140=>(if t140=true then(stowageref17_Print.j1 k x1 x4 F a0 hs body) else(if F.size+16≤9223372036854775807 then((stowageref1_Text.f k (body.length:Int)).bind fun t141=>(if(F++(⟨#[67,111,110,116,101,110,116,45,76,101,110,103,116,104,58,32]⟩ : ByteArray)).size+t141.size≤9223372036854775807 then(if((F++(⟨#[67,111,110,116,101,110,116,45,76,101,110,103,116,104,58,32]⟩ : ByteArray))++t141).size+2≤9223372036854775807 then(stowageref17_Print.j1 k x1 x4 (((F++(⟨#[67,111,110,116,101,110,116,45,76,101,110,103,116,104,58,32]⟩ : ByteArray))++t141)++(⟨#[13,10]⟩ : ByteArray)) a0 hs body) else(none)) else(none))) else(none)))
theorem ref_fold (x1 x4:Bool) (a0:Int) (hs:List S52) (body:List Int) (X:ByteArray) (r:List Int) (hsz:X.size+pbulk hs≤1000000000000000)
    (hr:Ev (fun k=>refEnd k x1 x4 (hs.foldl reply_Print.hd X) a0 hs body) r) (j:Nat):∀ i:Nat,i+j=hs.length →
    Ev (fun k=>stowageref17_Print.l0 k x1 x4 ((hs.take i).foldl reply_Print.hd X) (i:Int) a0 hs body) r:=by
  have hlen:=pbulk_len hs
  induction j with
  | zero=>
    intro i hi
    obtain rfl:i=hs.length:=by omega
    rw [List.take_length]
    exact Ev.step (f:=fun k=>refEnd k x1 x4 (hs.foldl reply_Print.hd X) a0 hs body) (fun k=>by rw [stowageref17_Print.l0,if_neg (by omega)];rfl) hr
  | succ j ih=>
    intro i hi
    have hl:i<hs.length:=by omega
    have e:rd_T52 hs (i:Int)=hs[i]:=by simp [rd_T52,List.getD_eq_getElem?_getD,List.getElem?_eq_getElem hl]
    have hq:=reply_Print.take_ge hs (i+1) X
    rw [fold_size hs X,reply_Print.snoc hs i X hl,reply_Print.hd_size] at hq
    have q:=ih (i+1) (by omega)
    rw [reply_Print.snoc hs i X hl] at q
    have z:((⟨#[58,32]⟩ : ByteArray)).size=2:=rfl
    refine Ev.step (f:=fun k=>stowageref17_Print.l0 k x1 x4 (reply_Print.hd ((hs.take i).foldl reply_Print.hd X) hs[i]) ((i+1:Nat):Int) a0 hs body) (fun k=>?_) q
    rw [stowageref17_Print.l0,if_pos (by omega),if_pos (by omega),e]
    rw [if_pos (by omega),if_pos (by rw [ByteArray.size_append];omega),if_pos (by rw [ByteArray.size_append,ByteArray.size_append,z];omega),if_pos (by rw [ByteArray.size_append,ByteArray.size_append,ByteArray.size_append,z];omega),hd_eq,w64 (by omega) (by omega)]
    congr 1
theorem app_nil (a:ByteArray):a++(⟨#[]⟩ : ByteArray)=a:=by apply toList_inj;rw [toList_append,ByteArray.toList_eq (⟨#[]⟩ : ByteArray)];simp
theorem closes_eq (a:ByteArray):a++(⟨#[67,111,110,110,101,99,116,105,111,110,58,32,99,108,111,115,101,13,10]⟩ : ByteArray)=a++(⟨#[67,111,110,110,101,99,116,105,111,110,58,32,99,108,111,115,101]⟩ : ByteArray)++NL:=by
  rw [ByteArray.append_assoc];rfl
theorem bytesOf_son (xs:List Int) (h:∀ x∈xs,0≤x∧x≤255):bytesOf (strOfNums xs)=xs:=by
  simp only [bytesOf,strOfNums,List.map_map]
  conv=>rhs;rw [← List.map_id xs]
  refine List.map_congr_left fun x hx=>?_
  have:=h x hx
  simp only [Function.comp,id]
  rw [show(x.toNat.toUInt8).toNat=x.toNat by simp [Nat.toUInt8];omega]
  omega
theorem bytesOf_app (a b:ByteArray):bytesOf (a++b)=bytesOf a++bytesOf b:=by
  simp [bytesOf,ByteArray.data_append]
theorem ref_j1 (x1 x4 b:Bool) (G:ByteArray) (a0:Int) (hs:List S52) (body:List Int) (hb:stowageref17_Bare.f a0=some b) (hsz:G.size+body.length≤100000000000000) (h8:∀ x∈body,0≤x∧x≤255) :
    Ev (fun k=>stowageref17_Print.j1 k x1 x4 G a0 hs body) (bytesOf (if x1=true then((if x4=true then G++(⟨#[67,111,110,110,101,99,116,105,111,110,58,32,99,108,111,115,101]⟩ : ByteArray)++reply_Print.nl else G)++(⟨#[]⟩ : ByteArray)++reply_Print.nl) else if b=true then((if x4=true then G++(⟨#[67,111,110,110,101,99,116,105,111,110,58,32,99,108,111,115,101]⟩ : ByteArray)++reply_Print.nl else G)++(⟨#[]⟩ : ByteArray)++reply_Print.nl) else((if x4=true then G++(⟨#[67,111,110,110,101,99,116,105,111,110,58,32,99,108,111,115,101]⟩ : ByteArray)++reply_Print.nl else G)++(⟨#[]⟩ : ByteArray)++reply_Print.nl)++strOfNums body)):=by
  have z19:(⟨#[67,111,110,110,101,99,116,105,111,110,58,32,99,108,111,115,101,13,10]⟩ : ByteArray).size=19:=rfl
  have z2:(⟨#[13,10]⟩ : ByteArray).size=2:=rfl
  have main:∀ T:ByteArray,T.size+body.length≤140737488355328→(((some (bytesOf T:List Int)).bind fun y142=>(if x1=true then(some y142) else((stowageref17_Bare.f a0).bind fun t145=>(if t145=true then(some y142) else(if y142.length+body.length≤140737488355328 then(some (y142++body)) else(none)))))))=some (bytesOf (if x1=true then T else if b=true then T else T++strOfNums body)):=by
    intro T hT
    cases x1 <;> cases b <;> simp only [Option.bind_some,hb,if_true,Bool.false_eq_true,if_false]
    rw [if_pos (by rw [bytesOf_length];exact hT),bytesOf_app,bytesOf_son body h8]
  cases x4
  · refine Ev.step (f:=fun _=>_) (fun k=>?_) (Ev.now _)
    rw [stowageref17_Print.j1,if_neg Bool.false_ne_true,if_pos (by omega),if_pos (by rw [ByteArray.size_append,z2];omega),main _ (by rw [ByteArray.size_append,z2];omega)]
    simp only [Bool.false_eq_true,if_false,app_nil]
    rfl
  · refine Ev.step (f:=fun _=>_) (fun k=>?_) (Ev.now _)
    rw [stowageref17_Print.j1,if_pos rfl,if_pos (by omega),if_pos (by rw [ByteArray.size_append,z19];omega),if_pos (by rw [ByteArray.size_append,ByteArray.size_append,z19,z2];omega),main _ (by rw [ByteArray.size_append,ByteArray.size_append,z19,z2];omega)]
    simp only [if_true,app_nil,closes_eq]
    rfl
theorem top_app (t p d id:ByteArray):(((((((((⟨#[72,84,84,80,47,49,46,49,32]⟩ : ByteArray)++t)++(⟨#[32]⟩ : ByteArray))++p)++(⟨#[13,10,83,101,114,118,101,114,58,32,115,116,111,119,97,103,101,13,10,68,97,116,101,58,32]⟩ : ByteArray))++d)++(⟨#[13,10,120,45,97,109,122,45,114,101,113,117,101,115,116,45,105,100,58,32]⟩ : ByteArray))++id)++(⟨#[13,10]⟩ : ByteArray))=reply_Print.top t p d id:=by
  apply toList_inj
  unfold reply_Print.top reply_Print.nl
  rw [ByteArray.toList_eq,ByteArray.toList_eq]
  simp [ByteArray.data_append]
theorem print_same (a0:Int) (hs:List S52) (body:List Int) (head:Bool) (time:Int) (id:ByteArray) (closes:Bool) (h0:-9223372036854775808≤a0) (h1:a0≤9223372036854775807) (h8:∀ x∈body,0≤x∧x≤255)
    (hsz:pbulk hs+body.length+id.size≤100000000):∃ R:List Int,R.length≤pbulk hs+body.length+id.size+1000∧(∀ x∈R,0≤x∧x≤255)∧Ev (fun k=>reply_Print.f k a0 hs body head time id closes) R∧Ev (fun k=>stowageref17_Print.f k a0 hs body head time id closes) R:=by
  obtain⟨p,hp0,hp1,hp2⟩:=phrase_same a0
  obtain⟨d,hd0,hd1,hd2⟩:=http_same time
  obtain⟨b,hb1,hb2⟩:=bare_same a0
  have ht1:=encText_eq a0 h0 h1
  have ht2:=txt_ev a0 h0 h1
  have ht0:(B (itx a0)).size≤20:=by rw [B_size];exact itx_len a0 h0 h1
  have hn1:=encText_eq (body.length:Int) (by omega) (by omega)
  have hn2:=txt_ev (body.length:Int) (by omega) (by omega)
  have hn0:(B (itx (body.length:Int))).size≤20:=by rw [B_size];exact itx_len _ (by omega) (by omega)
  generalize B (itx a0)=t at ht1 ht2 ht0
  generalize B (itx (body.length:Int))=n at hn1 hn2 hn0
  have hts:=reply_Print.top_size t p d id
  have hF:=fold_size hs (reply_Print.top t p d id)
  have z16:(⟨#[67,111,110,116,101,110,116,45,76,101,110,103,116,104,58,32]⟩ : ByteArray).size=16:=rfl
  have z17:(⟨#[67,111,110,110,101,99,116,105,111,110,58,32,99,108,111,115,101]⟩ : ByteArray).size=17:=rfl
  have z0:(⟨#[]⟩ : ByteArray).size=0:=rfl
  have znl:reply_Print.nl.size=2:=rfl
  have hall:(reply_Print.all t p d id n hs body head b closes).size≤pbulk hs+body.length+id.size+1000:=by
    have hso:(strOfNums body).size=body.length:=by simp [strOfNums,ByteArray.size]
    unfold reply_Print.all reply_Print.tail
    cases head <;> cases b <;> cases closes <;> simp only [if_true,Bool.false_eq_true,if_false,ByteArray.size_append,z16,z17,z0,znl,hso] <;> omega
  refine⟨bytesOf (reply_Print.all t p d id n hs body head b closes),by rw [bytesOf_length];exact hall,fun x hx=>Date.bytesOf_range _ x hx,?_,?_⟩
  · simp only [reply_Print.f]
    refine ev_some ht1 (ev_some hp1 (Ev.bind hd1 (ev_some hb1 (ev_some hn1 (ev_pos (by omega) (Ev.now _))))))
  · have hend:Ev (fun k=>refEnd k head closes (hs.foldl reply_Print.hd (reply_Print.top t p d id)) a0 hs body) (bytesOf (reply_Print.all t p d id n hs body head b closes)):=by
      simp only [refEnd]
      refine ev_some hb2 ?_
      cases b
      · refine ev_neg (by simp) (ev_pos (by omega) (Ev.bind hn2 (ev_pos (by rw [ByteArray.size_append,z16];omega) (ev_pos (by rw [ByteArray.size_append,ByteArray.size_append,z16];omega) ?_))))
        refine ev_eq (ref_j1 head closes false _ a0 hs body hb2 (by simp only [ByteArray.size_append,z16];have:(⟨#[13,10]⟩ : ByteArray).size=2:=rfl;omega) h8) ?_
        unfold reply_Print.all reply_Print.tail
        rw [show ∀ F:ByteArray,((F++(⟨#[67,111,110,116,101,110,116,45,76,101,110,103,116,104,58,32]⟩ : ByteArray))++n)++(⟨#[13,10]⟩ : ByteArray)=F++((⟨#[67,111,110,116,101,110,116,45,76,101,110,103,116,104,58,32]⟩ : ByteArray)++n)++reply_Print.nl from fun F=>by simp only [ByteArray.append_assoc];rfl]
        rfl
      · refine ev_pos rfl ?_
        refine ev_eq (ref_j1 head closes true _ a0 hs body hb2 (by omega) h8) ?_
        unfold reply_Print.all reply_Print.tail
        rfl
    have q:=ref_fold head closes a0 hs body (reply_Print.top t p d id) _ (by omega) hend hs.length 0 (by omega)
    rw [List.take_zero,List.foldl_nil] at q
    have y1:(⟨#[72,84,84,80,47,49,46,49,32]⟩ : ByteArray).size=9:=rfl
    have y2:(⟨#[32]⟩ : ByteArray).size=1:=rfl
    have y3:(⟨#[13,10,83,101,114,118,101,114,58,32,115,116,111,119,97,103,101,13,10,68,97,116,101,58,32]⟩ : ByteArray).size=25:=rfl
    have y4:(⟨#[13,10,120,45,97,109,122,45,114,101,113,117,101,115,116,45,105,100,58,32]⟩ : ByteArray).size=20:=rfl
    simp only [stowageref17_Print.f]
    refine Ev.bind ht2 (ev_pos (by omega) (ev_pos (by simp only [ByteArray.size_append,y1];omega) (Ev.bind hp2 (ev_pos (by simp only [ByteArray.size_append,y1,y2];omega) (ev_pos (by simp only [ByteArray.size_append,y1,y2];omega) (Ev.bind hd2 (ev_pos (by simp only [ByteArray.size_append,y1,y2,y3];omega) (ev_pos (by simp only [ByteArray.size_append,y1,y2,y3];omega) (ev_pos (by simp only [ByteArray.size_append,y1,y2,y3,y4];omega) (ev_pos (by simp only [ByteArray.size_append,y1,y2,y3,y4];omega) ?_))))))))))
    rw [top_app]
    exact q
def cutP (c d:UInt8):List UInt8→Option (List UInt8×List UInt8)
  | []=>none
  | [_]=>none
  | x :: y :: l=>if x=c∧y=d then some ([],l) else(cutP c d (y :: l)).map fun p=>(x :: p.1,p.2)
theorem cutP_cons (c d x y:UInt8) (l:List UInt8):cutP c d (x :: y :: l)=if x=c∧y=d then some ([],l) else(cutP c d (y :: l)).map fun p=>(x :: p.1,p.2):=rfl
theorem cutP_eq (c d:UInt8) (l:List UInt8):∀ p,cutP c d l=some p→l=p.1++c :: d :: p.2:=by
  induction l with
  | nil=>intro p h;simp [cutP] at h
  | cons x l ih=>
    intro p h
    cases l with
    | nil=>simp [cutP] at h
    | cons y l=>
      rw [cutP_cons] at h
      by_cases g:x=c∧y=d
      · rw [if_pos g] at h
        obtain rfl:=Option.some.inj h
        rw [g.1,g.2];rfl
      · rw [if_neg g] at h
        cases hc:cutP c d (y :: l) with
        | none=>rw [hc] at h;simp at h
        | some q=>
          rw [hc,Option.map_some] at h
          obtain rfl:=Option.some.inj h
          rw [ih q hc];rfl
theorem cutP_index (c d:UInt8) (l:List UInt8):Lib.index l [c,d]=match cutP c d l with|none=>-1|some p=>(p.1.length:Int):=by
  induction l with
  | nil=>rfl
  | cons x l ih=>
    cases l with
    | nil=>simp [cutP,Lib.index,List.isPrefixOf]
    | cons y l=>
      rw [cutP_cons,Lib.index,ih]
      have e:List.isPrefixOf [c,d] (x :: y :: l)=decide (x=c∧y=d):=by
        simp only [List.isPrefixOf,Bool.and_true]
        by_cases g:x=c
        · by_cases g2:y=d
          · simp [g,g2]
          · simp [g,g2];exact fun h=>g2 h.symm
        · simp [g];intro h;exact absurd h.symm g
      rw [e]
      by_cases g:x=c∧y=d
      · simp [g]
      · rw [if_neg g,decide_eq_false g]
        cases hc:cutP c d (y :: l) with
        | none=>simp
        | some p=>
          simp only [Option.map_some,Bool.false_eq_true,if_false,List.length_cons]
          have:((p.1.length:Int) == -1)=false:=by rw [beq_eq_false_iff_ne];omega
          rw [this]
          simp
theorem cutP_app (c d:UInt8) (l m:List UInt8):∀ p,cutP c d l=some p→cutP c d (l++m)=some (p.1,p.2++m):=by
  induction l with
  | nil=>intro p h;simp [cutP] at h
  | cons x l ih=>
    intro p h
    cases l with
    | nil=>simp [cutP] at h
    | cons y l=>
      rw [List.cons_append,List.cons_append,cutP_cons]
      rw [cutP_cons] at h
      by_cases g:x=c∧y=d
      · rw [if_pos g] at h ⊢
        obtain rfl:=Option.some.inj h
        rfl
      · rw [if_neg g] at h ⊢
        cases hc:cutP c d (y :: l) with
        | none=>rw [hc] at h;simp at h
        | some q=>
          rw [hc,Option.map_some] at h
          obtain rfl:=Option.some.inj h
          have:=ih q hc
          rw [List.cons_append] at this
          rw [this];rfl
structure Pos (S:ByteArray) (at_:Int) (l:List UInt8):Prop where
  a0:0≤at_
  a1:at_≤S.size
  d:S.toList.drop at_.toNat=l
theorem Pos.len {S:ByteArray} {at_:Int} {l:List UInt8} (h:Pos S at_ l):at_+l.length=S.size:=by
  have:=congrArg List.length h.d
  rw [List.length_drop,length_toList] at this
  have:=h.a0;have:=h.a1
  omega
theorem Pos.step {S:ByteArray} {at_:Int} {l a b:List UInt8} (h:Pos S at_ l) (e:l=a++b):Pos S (at_+a.length) b:=by
  have hl:=h.len
  have:=h.a0
  have e2:=congrArg List.length e
  rw [List.length_append] at e2
  refine⟨by omega,by omega,?_⟩
  rw [show(at_+a.length).toNat=at_.toNat+a.length by omega,← List.drop_drop,h.d,e,List.drop_left']
  rfl
theorem Pos.part {S:ByteArray} {at_:Int} {l a b:List UInt8} (h:Pos S at_ l) (e:l=a++b):S.extract at_.toNat (at_+a.length).toNat=B a:=by
  have:=h.a0
  apply toList_inj
  rw [toList_extract,B_toList,show(at_+a.length).toNat=at_.toNat+a.length by omega,List.drop_take,h.d,e,Nat.add_sub_cancel_left,List.take_left']
  rfl
def lineL (l:List UInt8):List UInt8×Bool×List UInt8:=match cutP 13 10 l with|none=>([],false,l)|some p=>(p.1,true,p.2)
theorem pline (S:ByteArray) (at_:Int) (l:List UInt8) (hS:S.size<4294967281) (h:Pos S at_ l):∃ at',Pos S at' (lineL l).2.2∧reply_reader_line.f S at_=some (B (lineL l).1,(lineL l).2.1,S,at'):=by
  have hlen:=h.len
  have h0:=h.a0
  have h1:=h.a1
  have ex:S.extract at_.toNat S.size=B l:=by
    have:=h.part (a:=l) (b:=[]) (by simp)
    rwa [show(at_+(l.length:Int)).toNat=S.size by omega] at this
  have ei:strings_Index.f (S.extract at_.toNat S.size) (⟨#[13,10]⟩ : ByteArray)=some (match cutP 13 10 l with|none=>-1|some p=>(p.1.length:Int)):=by
    rw [ex,strings_Index.f,if_pos (by rw [B_size];omega),← cutP_index]
    rfl
  unfold reply_reader_line.f
  rw [if_pos h0,if_pos h1,ei,Option.bind_some]
  unfold lineL
  cases hc:cutP 13 10 l with
  | none=>exact⟨at_,h,by rw [if_pos (by decide)];rfl⟩
  | some p=>
    have e:=cutP_eq 13 10 l p hc
    have el:=congrArg List.length e
    simp only [List.length_append,List.length_cons] at el
    refine⟨at_+((p.1 ++ [13,10]).length:Nat),h.step (by rw [e];simp),?_⟩
    simp only
    rw [if_neg (by omega),w64 (n:=at_+(p.1.length:Int)) (by omega) (by omega),if_pos (by omega),if_pos (by omega),h.part e,w64 (n:=(p.1.length:Int)+2) (by omega) (by omega),w64 (by omega) (by omega)]
    simp only [List.length_append,List.length_cons,List.length_nil]
    rfl
theorem rline_l0 (S:ByteArray) (at_:Int) (bad:Bool) (l:List UInt8) (hS:S.size<4294967281) (h:Pos S at_ l) (m:List UInt8):∀ pre:List UInt8,l=pre++m→(∀ p,cutP 13 10 m=some p→cutP 13 10 l=some (pre++p.1,p.2))→(cutP 13 10 m=none→cutP 13 10 l=none) →
    ∃ at',Pos S at' (lineL l).2.2∧Ev (fun k=>stowageref17_Reader_line.l0 k (at_+pre.length) S at_ bad) (B (lineL l).1,S,at',bad || !(lineL l).2.1):=by
  have hlen:=h.len
  have h0:=h.a0
  have h1:=h.a1
  induction m with
  | nil=>
    intro pre e _ hn
    have el:=congrArg List.length e
    simp only [List.length_append,List.length_nil] at el
    have hc:=hn rfl
    unfold lineL
    rw [hc]
    refine⟨at_,h,Ev.step (f:=fun _=>_) (fun k=>by rw [stowageref17_Reader_line.l0,if_neg (by rw [w64 (by omega) (by omega)];omega)]) (ev_eq (Ev.now _) (by cases bad <;> rfl))⟩
  | cons x m ih=>
    intro pre e hs hn
    have el:=congrArg List.length e
    simp only [List.length_append,List.length_cons] at el
    cases m with
    | nil=>
      have hc:=hn rfl
      simp only [List.length_nil] at el
      unfold lineL
      rw [hc]
      refine⟨at_,h,Ev.step (f:=fun _=>_) (fun k=>by rw [stowageref17_Reader_line.l0,if_neg (by rw [w64 (by omega) (by omega)];omega)]) (ev_eq (Ev.now _) (by cases bad <;> rfl))⟩
    | cons y m=>
      simp only [List.length_cons] at el
      have q:=h.step (a:=pre) (b:=x :: y :: m) e
      have b0:=bt_drop S (at_+pre.length).toNat x (y :: m) q.d
      have q1:=h.step (a:=pre ++ [x]) (b:=y :: m) (by rw [e];simp)
      simp only [List.length_append,List.length_cons,List.length_nil] at q1
      have b1:=bt_drop S (at_+((pre.length+(0+1):Nat):Int)).toNat y m q1.d
      rw [show(((at_+pre.length).toNat:Nat):Int)=at_+pre.length by omega] at b0
      rw [show(((at_+((pre.length+(0+1):Nat):Int)).toNat:Nat):Int)=at_+pre.length+1 by omega] at b1
      by_cases g:x=13∧y=10
      · have hc:=hs ([],m) (by rw [cutP_cons,if_pos g])
        unfold lineL
        rw [hc]
        simp only [List.append_nil]
        obtain⟨rfl,rfl⟩:=g
        refine⟨at_+((pre ++ [13,10]).length:Nat),h.step (by rw [e];simp),Ev.step (f:=fun _=>_) (fun k=>?_) (Ev.now _)⟩
        rw [stowageref17_Reader_line.l0,w64 (n:=at_+pre.length+1) (by omega) (by omega),if_pos (by omega),if_pos (by omega),if_pos (by omega),b0.1,if_pos (by decide),if_pos (by omega),b1.1,if_pos (by decide),if_pos (by omega),if_pos (by omega),if_pos (by omega),h.part e,w64 (by omega) (by omega)]
        simp only [List.length_append,List.length_cons,List.length_nil,Bool.not_true,Bool.or_false]
        rw [show at_+(((pre.length+(0+1+1)):Nat):Int)=at_+pre.length+2 by omega]
      · have hcm:cutP 13 10 (x :: y :: m)=(cutP 13 10 (y :: m)).map fun p=>(x :: p.1,p.2):=by rw [cutP_cons,if_neg g]
        obtain⟨at',hp,hev⟩:=ih (pre ++ [x]) (by rw [e];simp) (fun p hp=>by rw [hs (x :: p.1,p.2) (by rw [hcm,hp];rfl)];simp) (fun hp=>hn (by rw [hcm,hp];rfl))
        refine⟨at',hp,Ev.step (f:=fun k=>_) (fun k=>?_) hev⟩
        rw [stowageref17_Reader_line.l0,w64 (n:=at_+pre.length+1) (by omega) (by omega),if_pos (by omega),if_pos (by omega),if_pos (by omega),b0.1,b1.1]
        have e1:at_+((pre ++ [x]).length:Int)=at_+pre.length+1:=by simp only [List.length_append,List.length_cons,List.length_nil];omega
        rw [e1]
        by_cases gx:x=13
        · have gy:¬ ((y.toNat:Int)=10):=fun hy=>g ⟨gx,toNat_eq.mp (by rw [hy];rfl)⟩
          rw [if_pos (by rw [gx];rfl),if_pos (by omega),if_neg gy]
        · rw [if_neg (fun hx=>gx (toNat_eq.mp (by rw [hx];rfl)))]
theorem rline (S:ByteArray) (at_:Int) (bad:Bool) (l:List UInt8) (hS:S.size<4294967281) (h:Pos S at_ l):∃ at',Pos S at' (lineL l).2.2∧Ev (fun k=>stowageref17_Reader_line.f k S at_ bad) (B (lineL l).1,S,at',bad || !(lineL l).2.1):=by
  obtain⟨at',h1,h2⟩:=rline_l0 S at_ bad l hS h l [] rfl (fun p hp=>by rw [hp];rfl) (fun hp=>hp)
  simp only [List.length_nil] at h2
  exact⟨at',h1,by simpa [stowageref17_Reader_line.f] using h2⟩
theorem lineL_len (l:List UInt8):(lineL l).2.1=true→(lineL l).1.length+2+(lineL l).2.2.length=l.length:=by
  unfold lineL
  cases hc:cutP 13 10 l with
  | none=>intro h;simp at h
  | some p=>
    intro _
    have el:=congrArg List.length (cutP_eq 13 10 l p hc)
    simp only [List.length_append,List.length_cons] at el
    simp only
    omega
theorem lineL_no (l:List UInt8):(lineL l).2.1=false→(lineL l).1 = []∧(lineL l).2.2=l:=by
  unfold lineL
  cases hc:cutP 13 10 l with
  | none=>intro _;exact⟨rfl,rfl⟩
  | some p=>intro h;simp at h
theorem lineL_app (l m:List UInt8) (h:(lineL l).2.1=true):lineL (l++m)=((lineL l).1,true,(lineL l).2.2++m):=by
  unfold lineL at h ⊢
  cases hc:cutP 13 10 l with
  | none=>rw [hc] at h;simp at h
  | some p=>rw [cutP_app 13 10 l m p hc]
def cutL (c:UInt8):List UInt8→Option (List UInt8×List UInt8)
  | []=>none
  | b :: l=>if b=c then some ([],l) else(cutL c l).map fun p=>(b :: p.1,p.2)
theorem cutL_index (c:UInt8) (l:List UInt8):(match cutL c l with|none=>Lib.indexByte l c = -1|some p=>Lib.indexByte l c=p.1.length∧l=p.1++c :: p.2):=by
  induction l with
  | nil=>rfl
  | cons b l ih=>
    rw [cutL,Lib.indexByte]
    by_cases h:b=c
    · subst h;simp
    · rw [if_neg h]
      have hb:(b == c)=false:=by simpa using h
      cases hc:cutL c l with
      | none=>rw [hc] at ih;simp [ih,hb]
      | some p=>
        rw [hc] at ih
        obtain⟨h1,h2⟩:=ih
        simp only [Option.map_some]
        refine⟨?_,by rw [List.cons_append,← h2]⟩
        rw [h1]
        have:((p.1.length:Int) == -1)=false:=by rw [beq_eq_false_iff_ne];omega
        simp [hb,this]
def cutR (s:ByteArray) (c:UInt8):ByteArray×ByteArray×Bool:=
  match cutL c s.toList with|none=>(s,⟨#[]⟩,false)|some p=>(⟨p.1.toArray⟩,⟨p.2.toArray⟩,true)
theorem extract_of (s:ByteArray) (i j:Nat) (l:List UInt8) (h:(s.toList.take j).drop i=l):s.extract i j=⟨l.toArray⟩:=by
  apply toList_inj
  rw [toList_extract,h,ByteArray.toList_eq]
theorem rcut_l0 (s:ByteArray) (c:UInt8) (hs:s.size≤1000000000000000) (l:List UInt8):∀ pre:List UInt8,s.toList=pre++l→cutL c pre=none →
    Ev (fun k=>stowageref3_Cut.l0 k s (c.toNat:Int) (pre.length:Int)) (cutR s c):=by
  have hsl:=length_toList s
  have app:∀ (pre l:List UInt8),cutL c pre=none→cutL c (pre++l)=(cutL c l).map fun p=>(pre++p.1,p.2):=by
    intro pre
    induction pre with
    | nil=>intro l _;rw [List.nil_append];cases cutL c l <;> rfl
    | cons b pre ih=>
      intro l h
      rw [cutL] at h
      by_cases hb:b=c
      · rw [if_pos hb] at h;simp at h
      · rw [if_neg hb] at h
        have h':cutL c pre=none:=by simpa using h
        rw [List.cons_append,cutL,if_neg hb,ih l h']
        cases cutL c l <;> rfl
  induction l with
  | nil=>
    intro pre e hp
    rw [List.append_nil] at e
    refine Ev.step (f:=fun _=>some (cutR s c)) (fun k=>?_) (Ev.now _)
    have:pre.length=s.size:=by rw [← hsl,e]
    rw [stowageref3_Cut.l0,if_neg (by omega),cutR,e,hp]
  | cons b l ih=>
    intro pre e hp
    have hl:=congrArg List.length e
    rw [hsl,List.length_append,List.length_cons] at hl
    have hb:=(bt_drop s pre.length b l (by rw [e];simp)).1
    by_cases h:b=c
    · subst h
      refine Ev.step (f:=fun _=>some (cutR s b)) (fun k=>?_) (Ev.now _)
      rw [stowageref3_Cut.l0,if_pos (by omega),if_pos (by omega),if_pos hb,if_pos (by omega),w64 (n:=(pre.length:Int)+1) (by omega) (by omega),if_pos (by omega),if_pos (by omega)]
      rw [cutR,e,app pre _ hp,cutL,if_pos rfl,Option.map_some]
      dsimp only
      rw [extract_of s 0 _ pre (by rw [e];simp),extract_of s _ s.size l (by rw [e,show((pre.length:Int)+1).toNat=pre.length+1 by omega,List.take_of_length_le (by rw [List.length_append,List.length_cons];omega)];simp),List.append_nil]
    · have hne:¬ bt s (pre.length:Int)=(c.toNat:Int):=by
        rw [hb];intro q
        exact h (UInt8.toNat_inj.mp (Int.ofNat_inj.mp q))
      have q:=ih (pre ++ [b]) (by rw [e];simp) (by rw [app pre _ hp,cutL,if_neg h,cutL];rfl)
      refine Ev.step (f:=fun k=>_) (fun k=>by rw [stowageref3_Cut.l0,if_pos (by omega),if_pos (by omega),if_neg hne,w64 (n:=(pre.length:Int)+1) (by omega) (by omega)]) ?_
      rw [show((pre ++ [b]).length:Int)=(pre.length:Int)+1 by simp] at q
      exact q
theorem rcut_ev (s:ByteArray) (c:UInt8) (hs:s.size≤1000000000000000):Ev (fun k=>stowageref3_Cut.f k s (c.toNat:Int)) (cutR s c):=
  rcut_l0 s c hs s.toList [] rfl rfl
theorem cutR_size (s:ByteArray) (c:UInt8):(cutR s c).1.size≤s.size∧(cutR s c).2.1.size≤s.size:=by
  have hi:=cutL_index c s.toList
  have hsl:=length_toList s
  rw [cutR]
  cases hc:cutL c s.toList with
  | none=>exact⟨Nat.le_refl _,Nat.zero_le _⟩
  | some p=>
    rw [hc] at hi
    have hl:=congrArg List.length hi.2
    rw [List.length_append,List.length_cons,hsl] at hl
    exact⟨show p.1.toArray.size≤s.size by simp;omega,show p.2.toArray.size≤s.size by simp;omega⟩
theorem bt_pre (s:ByteArray) (pre l:List UInt8) (c:UInt8) (h:s.toList=pre++c :: l):bt s (pre.length:Int)=(c.toNat:Int)∧pre.length<s.size:=by
  apply bt_drop s pre.length c l
  rw [h,List.drop_left']
  rfl
theorem pre_end (s:ByteArray) (pre:List UInt8) (h:s.toList=pre ++ []):s.size=pre.length:=by rw [← length_toList,h,List.append_nil]
theorem pre_le (s:ByteArray) (pre l:List UInt8) (h:s.toList=pre++l):pre.length+l.length=s.size:=by rw [← length_toList,h,List.length_append]
theorem pre_next (pre:List UInt8) (c:UInt8) (n:Nat) (h:pre.length<n) (hn:n≤9000000000000000000):wrap64 ((pre.length:Int)+1)=((pre ++ [c]).length:Int):=by
  rw [w64 (by omega) (by omega),List.length_append]
  simp
theorem pre_app (s:ByteArray) (pre l:List UInt8) (c:UInt8) (h:s.toList=pre++c :: l):s.toList=(pre ++ [c])++l:=by rw [h];simp
def alB (c:UInt8):Bool:=(chars_letter.f (c.toNat:Int)).getD false
theorem al_a (c:UInt8):chars_letter.f (c.toNat:Int)=some (alB c):=by
  unfold alB chars_letter.f
  repeat' split
  all_goals rfl
theorem al_b (c:UInt8):stowageref3_Alnum.f (c.toNat:Int)=some (alB c):=al_a c
def tmB (c:UInt8):Bool:=[33,35,36,37,38,39,42,43,45,46,94,95,96,124,126].contains c
theorem tm_key:∀ n:Fin 256,(Lib.indexByte [33,35,36,37,38,39,42,43,45,46,94,95,96,124,126] (n.val:Int).toNat.toUInt8<0)=¬ ([33,35,36,37,38,39,42,43,45,46,94,95,96,124,126].contains (UInt8.ofNat n.val)=true):=by
  intro n
  rw [eq_iff_iff]
  revert n
  decide +kernel
theorem tm_a {α:Type} (c:UInt8) (a b:Option α):((strings_IndexByte.f (⟨#[33,35,36,37,38,39,42,43,45,46,94,95,96,124,126]⟩ : ByteArray) (c.toNat:Int)).bind fun t=>if t<0 then a else b)=if tmB c=true then b else a:=by
  show(if Lib.indexByte [33,35,36,37,38,39,42,43,45,46,94,95,96,124,126] (c.toNat:Int).toNat.toUInt8<0 then a else b)=_
  have h:=tm_key ⟨c.toNat,c.toNat_lt⟩
  simp only [UInt8.ofNat_toNat] at h
  unfold tmB
  by_cases g:[33,35,36,37,38,39,42,43,45,46,94,95,96,124,126].contains c=true
  · rw [if_pos g,if_neg (by rw [h];exact fun k=>k g)]
  · rw [if_neg g,if_pos (by rw [h];exact g)]
theorem tm_bkey:∀ n:Fin 256,stowageref3_in.f 20 (⟨#[33,35,36,37,38,39,42,43,45,46,94,95,96,124,126]⟩ : ByteArray) (n.val:Int)=some (tmB (UInt8.ofNat n.val)):=by decide +kernel
theorem tm_b (c:UInt8):Ev (fun k=>stowageref3_in.f k (⟨#[33,35,36,37,38,39,42,43,45,46,94,95,96,124,126]⟩ : ByteArray) (c.toNat:Int)) (tmB c):=by
  have h:=tm_bkey ⟨c.toNat,c.toNat_lt⟩
  simp only [UInt8.ofNat_toNat] at h
  exact Ev.of (fun k=>stowageref3_in.mono _ _ k) h
def tokB (c:UInt8):Bool:=alB c || tmB c
theorem token_l0 (s:ByteArray) (hs:s.size≤1000000000000000) (l:List UInt8):∀ pre,s.toList=pre++l→Ev (fun k=>chars_Token.l0 k s (s.size:Int) (pre.length:Int)) (l.all tokB && (s.toList != [])):=by
  induction l with
  | nil=>
    intro pre h
    have e:=pre_end s pre h
    exact Ev.step (f:=fun _=>some (s.toList != [])) (fun k=>by rw [chars_Token.l0,if_neg (by omega)]) (ev_eq (Ev.now _) (by simp))
  | cons c l ih=>
    intro pre h
    obtain⟨hb,hl⟩:=bt_pre s pre l c h
    have hn:=pre_next pre c s.size hl (by omega)
    refine Ev.step (f:=fun k=>if tokB c=true then chars_Token.l0 k s (s.size:Int) ((pre ++ [c]).length:Int) else some false) (fun k=>?_) ?_
    · rw [chars_Token.l0,if_pos (by omega),if_pos (by omega),if_pos (by omega),hb,al_a,Option.bind_some,hn,tm_a,tokB]
      cases alB c <;> cases tmB c <;> rfl
    · by_cases g:tokB c=true
      · exact ev_pos g (ev_eq (ih _ (pre_app s pre l c h)) (by rw [List.all_cons,g,Bool.true_and]))
      · exact ev_neg g (ev_eq (Ev.now _) (by rw [List.all_cons];simp [g]))
theorem token_ev (s:ByteArray) (hs:s.size≤1000000000000000):Ev (fun k=>chars_Token.f k s) (s.toList.all tokB && (s.toList != [])):=token_l0 s hs s.toList [] rfl
theorem rtoken_l0 (s:ByteArray) (hs:s.size≤1000000000000000) (l:List UInt8):∀ pre,s.toList=pre++l→Ev (fun k=>stowageref3_Token.l0 k s (pre.length:Int)) (l.all tokB && (s.toList != [])):=by
  induction l with
  | nil=>
    intro pre h
    have e:=pre_end s pre h
    refine Ev.step (f:=fun _=>some (decide ((s.size:Int)>0))) (fun k=>by rw [stowageref3_Token.l0,if_neg (by omega)]) (ev_eq (Ev.now _) ?_)
    have e2:=length_toList s
    cases hl:s.toList with
    | nil=>rw [hl] at e2;simp at e2;simp [← e2]
    | cons a b=>rw [hl,List.length_cons] at e2;rw [decide_eq_true (by omega)];rfl
  | cons c l ih=>
    intro pre h
    obtain⟨hb,hl⟩:=bt_pre s pre l c h
    have hn:=pre_next pre c s.size hl (by omega)
    refine Ev.step (f:=fun k=>(some (alB c)).bind fun t149=>if t149=true then stowageref3_Token.l0 k s ((pre ++ [c]).length:Int) else(stowageref3_in.f k (⟨#[33,35,36,37,38,39,42,43,45,46,94,95,96,124,126]⟩ : ByteArray) (c.toNat:Int)).bind fun t150=>if t150=true then stowageref3_Token.l0 k s ((pre ++ [c]).length:Int) else some false) (fun k=>?_) ?_
    · rw [stowageref3_Token.l0,if_pos (by omega),if_pos (by omega),hb,al_b,hn]
    · refine ev_some rfl ?_
      by_cases g:alB c=true
      · exact ev_pos g (ev_eq (ih _ (pre_app s pre l c h)) (by rw [List.all_cons,tokB,g];simp))
      · refine ev_neg g (Ev.bind (tm_b c) ?_)
        by_cases g2:tmB c=true
        · exact ev_pos g2 (ev_eq (ih _ (pre_app s pre l c h)) (by rw [List.all_cons,tokB,g2];simp))
        · exact ev_neg g2 (ev_eq (Ev.now _) (by rw [List.all_cons,tokB];simp [g,g2]))
theorem rtoken_ev (s:ByteArray) (hs:s.size≤1000000000000000):Ev (fun k=>stowageref3_Token.f k s) (s.toList.all tokB && (s.toList != [])):=rtoken_l0 s hs s.toList [] rfl
def valB (c:UInt8):Bool:=decide ((c.toNat=9∨32≤c.toNat)∧c.toNat≠127)
theorem value_l0 (s:ByteArray) (hs:s.size≤1000000000000000) (l:List UInt8):∀ pre,s.toList=pre++l→Ev (fun k=>chars_Value.l0 k s (s.size:Int) (pre.length:Int)) (l.all valB):=by
  induction l with
  | nil=>
    intro pre h
    have e:=pre_end s pre h
    exact Ev.step (f:=fun _=>some true) (fun k=>by rw [chars_Value.l0,if_neg (by omega)]) (Ev.now _)
  | cons c l ih=>
    intro pre h
    obtain⟨hb,hl⟩:=bt_pre s pre l c h
    have hn:=pre_next pre c s.size hl (by omega)
    refine Ev.step (f:=fun k=>if valB c=true then chars_Value.l0 k s (s.size:Int) ((pre ++ [c]).length:Int) else some false) (fun k=>?_) ?_
    · rw [chars_Value.l0,if_pos (by omega),if_pos (by omega),if_pos (by omega),hb,hn]
      by_cases g:valB c=true
      · rw [if_pos g]
        simp only [valB,decide_eq_true_iff] at g
        by_cases g1:(c.toNat:Int)<32
        · rw [if_pos g1,if_pos (by omega),if_neg (by omega)]
        · rw [if_neg g1,if_neg (by omega)]
      · rw [if_neg g]
        simp only [valB,decide_eq_true_iff] at g
        by_cases g1:(c.toNat:Int)<32
        · rw [if_pos g1,if_neg (by omega)]
        · rw [if_neg g1,if_pos (by omega)]
    · by_cases g:valB c=true
      · exact ev_pos g (ev_eq (ih _ (pre_app s pre l c h)) (by rw [List.all_cons,g,Bool.true_and]))
      · exact ev_neg g (ev_eq (Ev.now _) (by rw [List.all_cons];simp [g]))
theorem value_ev (s:ByteArray) (hs:s.size≤1000000000000000):Ev (fun k=>chars_Value.f k s) (s.toList.all valB):=value_l0 s hs s.toList [] rfl
theorem rvalue_l0 (s:ByteArray) (hs:s.size≤1000000000000000) (l:List UInt8):∀ pre,s.toList=pre++l→Ev (fun k=>stowageref3_Value.l0 k s (pre.length:Int)) (l.all valB):=by
  induction l with
  | nil=>
    intro pre h
    have e:=pre_end s pre h
    exact Ev.step (f:=fun _=>some true) (fun k=>by rw [stowageref3_Value.l0,if_neg (by omega)]) (Ev.now _)
  | cons c l ih=>
    intro pre h
    obtain⟨hb,hl⟩:=bt_pre s pre l c h
    have hn:=pre_next pre c s.size hl (by omega)
    refine Ev.step (f:=fun k=>if valB c=true then stowageref3_Value.l0 k s ((pre ++ [c]).length:Int) else some false) (fun k=>?_) ?_
    · rw [stowageref3_Value.l0,if_pos (by omega),if_pos (by omega),hb,hn]
      by_cases g:valB c=true
      · rw [if_pos g]
        simp only [valB,decide_eq_true_iff] at g
        by_cases g1:(c.toNat:Int)=9
        · rw [if_pos g1]
        · rw [if_neg g1,if_neg (by omega),if_neg (by omega)]
      · rw [if_neg g]
        simp only [valB,decide_eq_true_iff] at g
        rw [if_neg (by omega)]
        by_cases g1:(c.toNat:Int)<32
        · rw [if_pos g1]
        · rw [if_neg g1,if_pos (by omega)]
    · by_cases g:valB c=true
      · exact ev_pos g (ev_eq (ih _ (pre_app s pre l c h)) (by rw [List.all_cons,g,Bool.true_and]))
      · exact ev_neg g (ev_eq (Ev.now _) (by rw [List.all_cons];simp [g]))
theorem rvalue_ev (s:ByteArray) (hs:s.size≤1000000000000000):Ev (fun k=>stowageref3_Value.f k s) (s.toList.all valB):=rvalue_l0 s hs s.toList [] rfl
def blankB (c:UInt8):Bool:=c == 32 || c == 9
def dropB:List UInt8→List UInt8
  | []=>[]
  | c :: l=>if blankB c=true then dropB l else c :: l
def trimB (l:List UInt8):List UInt8:=(dropB (dropB l).reverse).reverse
theorem dropB_len (l:List UInt8):(dropB l).length≤l.length:=by
  induction l with
  | nil=>exact Nat.le_refl _
  | cons c l ih=>
    rw [dropB]
    split
    · rw [List.length_cons];omega
    · exact Nat.le_refl _
theorem trimB_len (l:List UInt8):(trimB l).length≤l.length:=by
  rw [trimB,List.length_reverse]
  have h1:=dropB_len (dropB l).reverse
  have h2:=dropB_len l
  rw [List.length_reverse] at h1
  omega
theorem blank_eq (c:UInt8):chars_blank.f (c.toNat:Int)=some (blankB c):=by
  rw [chars_blank.f,blankB]
  by_cases h:(c.toNat:Int)=32
  · rw [if_pos h]
    obtain rfl:c=32:=toNat_eq.mp (by rw [h];rfl)
    rfl
  · rw [if_neg h]
    have h':(c == 32)=false:=by rw [beq_eq_false_iff_ne];intro e;subst e;exact h rfl
    rw [h',Bool.false_or]
    congr 1
    by_cases g:c=9
    · subst g;rfl
    · rw [show(c == 9)=false by simpa using g,beq_eq_false_iff_ne]
      intro e;exact g (toNat_eq.mp (by rw [e];rfl))
theorem last_at (m:List UInt8) (c:UInt8):(c :: m).reverse[m.length]? = some c:=by
  rw [List.reverse_cons,List.getElem?_append_right (by rw [List.length_reverse];exact Nat.le_refl _),List.length_reverse,Nat.sub_self];rfl
theorem last_off (m:List UInt8) (c:UInt8):((c :: m).reverse.take m.length).drop 0=m.reverse:=by
  rw [List.drop_zero,List.reverse_cons]
  have:m.length=m.reverse.length:=(List.length_reverse).symm
  rw [this,List.take_left']
  rfl
theorem trim_l1 (m:List UInt8) (hm:m.length≤1000000000000000):Ev (fun k=>chars_Trim.l1 k (B m.reverse)) (B (dropB m).reverse):=by
  induction m with
  | nil=>exact Ev.step (f:=fun _=>some (B [])) (fun k=>by rw [chars_Trim.l1,if_pos (show(B ([]:List UInt8).reverse).toList = [] from B_toList _)];rfl) (Ev.now _)
  | cons c m ih=>
    rw [List.length_cons] at hm
    have hz:((B (c :: m).reverse).size:Int)=(m.length:Int)+1:=by rw [B_size,List.length_reverse,List.length_cons];omega
    have hw:wrap64 (((B (c :: m).reverse).size:Int)-1)=(m.length:Int):=by rw [hz,w64 (by omega) (by omega)];omega
    have hb:=bt_B (c :: m).reverse m.length c (last_at m c)
    refine Ev.step (f:=fun k=>if blankB c=true then chars_Trim.l1 k (B m.reverse) else some (B (c :: m).reverse)) (fun k=>?_) ?_
    · rw [chars_Trim.l1,if_neg (by rw [B_toList];simp),hw,if_pos (by omega),if_pos (by omega),hb,blank_eq,Option.bind_some]
      by_cases h:blankB c=true
      · rw [if_pos h,if_pos h,if_pos (by omega),B_extract,Int.toNat_natCast,last_off]
      · rw [if_neg h,if_neg h]
    · rw [dropB]
      by_cases h:blankB c=true
      · rw [if_pos h];exact ev_pos h (ih (by omega))
      · rw [if_neg h];exact ev_neg h (Ev.now _)
theorem trim_l0 (l:List UInt8) (hl:l.length≤1000000000000000):Ev (fun k=>chars_Trim.l0 k (B l)) (B (trimB l)):=by
  have tail:∀ d:List UInt8,d.length≤1000000000000000→Ev (fun k=>chars_Trim.j1 k (B d)) (B (dropB d.reverse).reverse):=fun d hd=>by
    refine Ev.step (f:=fun k=>chars_Trim.l1 k (B d)) (fun k=>by rw [chars_Trim.j1]) ?_
    have:=trim_l1 d.reverse (by rw [List.length_reverse];exact hd)
    rwa [List.reverse_reverse] at this
  induction l with
  | nil=>exact Ev.step (f:=fun k=>chars_Trim.j1 k (B [])) (fun k=>by rw [chars_Trim.l0,if_pos (B_toList _)]) (tail [] (by simp))
  | cons c l ih=>
    have hb:=bt_B (c :: l) 0 c rfl
    have hb':bt (B (c :: l)) 0=(c.toNat:Int):=hb
    have hz:((B (c :: l)).size:Int)=(l.length:Int)+1:=by rw [B_size,List.length_cons];omega
    have hz':(B (c :: l)).size=l.length+1:=by rw [B_size,List.length_cons]
    refine Ev.step (f:=fun k=>if blankB c=true then chars_Trim.l0 k (B l) else chars_Trim.j1 k (B (c :: l))) (fun k=>?_) ?_
    · rw [chars_Trim.l0,if_neg (by rw [B_toList];simp),if_pos (by omega),hb',blank_eq,Option.bind_some]
      by_cases h:blankB c=true
      · rw [if_pos h,if_pos h,if_pos (by omega),hz',B_extract,List.take_of_length_le (by simp),List.drop_one,List.tail_cons]
      · rw [if_neg h,if_neg h]
    · rw [List.length_cons] at hl
      by_cases h:blankB c=true
      · refine ev_pos h ?_
        have e:trimB (c :: l)=trimB l:=by rw [trimB,dropB,if_pos h];rfl
        rw [e];exact ih (by omega)
      · refine ev_neg h ?_
        have e:trimB (c :: l)=(dropB (c :: l).reverse).reverse:=by rw [trimB,dropB,if_neg h]
        rw [e];exact tail (c :: l) (by rw [List.length_cons];omega)
theorem trim_ev (s:ByteArray) (hs:s.size≤1000000000000000):Ev (fun k=>chars_Trim.f k s) (B (trimB s.toList)):=by
  have:=trim_l0 s.toList (by rw [length_toList];exact hs)
  rw [of_B] at this
  exact this
theorem blank_two {α:Type} (c:UInt8) (a b:Option α):(if(c.toNat:Int)=32 then a else if(c.toNat:Int)=9 then a else b)=if blankB c=true then a else b:=by
  rw [blankB]
  by_cases h:c=32
  · subst h;rfl
  · rw [if_neg (fun q:(c.toNat:Int)=32=>h (toNat_eq.mp q)),show(c == 32)=false by simpa using h,Bool.false_or]
    by_cases g:c=9
    · subst g;rfl
    · rw [if_neg (fun q:(c.toNat:Int)=9=>g (toNat_eq.mp q)),show(c == 9)=false by simpa using g,if_neg (by simp)]
theorem rtrim_l1 (m:List UInt8) (hm:m.length≤1000000000000000):Ev (fun k=>stowageref3_Trim.l1 k (B m.reverse)) (B (dropB m).reverse):=by
  induction m with
  | nil=>exact Ev.step (f:=fun _=>some (B [])) (fun k=>by rw [stowageref3_Trim.l1,if_neg (by rw [B_size];simp)];rfl) (Ev.now _)
  | cons c m ih=>
    rw [List.length_cons] at hm
    have hz:((B (c :: m).reverse).size:Int)=(m.length:Int)+1:=by rw [B_size,List.length_reverse,List.length_cons];omega
    have hw:wrap64 (((B (c :: m).reverse).size:Int)-1)=(m.length:Int):=by rw [hz,w64 (by omega) (by omega)];omega
    have hb:=bt_B (c :: m).reverse m.length c (last_at m c)
    refine Ev.step (f:=fun k=>if blankB c=true then stowageref3_Trim.l1 k (B m.reverse) else some (B (c :: m).reverse)) (fun k=>?_) ?_
    · rw [stowageref3_Trim.l1,if_pos (by omega),hw,if_pos (by omega),if_pos (by omega),hb,blank_two]
      by_cases h:blankB c=true
      · rw [if_pos h,if_pos h,if_pos (by omega),B_extract,Int.toNat_natCast,last_off]
      · rw [if_neg h,if_neg h]
    · rw [dropB]
      by_cases h:blankB c=true
      · rw [if_pos h];exact ev_pos h (ih (by omega))
      · rw [if_neg h];exact ev_neg h (Ev.now _)
theorem rtrim_l0 (l:List UInt8) (hl:l.length≤1000000000000000):Ev (fun k=>stowageref3_Trim.l0 k (B l)) (B (trimB l)):=by
  have tail:∀ d:List UInt8,d.length≤1000000000000000→Ev (fun k=>stowageref3_Trim.j1 k (B d)) (B (dropB d.reverse).reverse):=fun d hd=>by
    refine Ev.step (f:=fun k=>stowageref3_Trim.l1 k (B d)) (fun k=>by rw [stowageref3_Trim.j1]) ?_
    have:=rtrim_l1 d.reverse (by rw [List.length_reverse];exact hd)
    rwa [List.reverse_reverse] at this
  induction l with
  | nil=>exact Ev.step (f:=fun k=>stowageref3_Trim.j1 k (B [])) (fun k=>by rw [stowageref3_Trim.l0,if_neg (by rw [B_size];simp)]) (tail [] (by simp))
  | cons c l ih=>
    have hb:=bt_B (c :: l) 0 c rfl
    have hb':bt (B (c :: l)) 0=(c.toNat:Int):=hb
    have hz:((B (c :: l)).size:Int)=(l.length:Int)+1:=by rw [B_size,List.length_cons];omega
    have hz':(B (c :: l)).size=l.length+1:=by rw [B_size,List.length_cons]
    refine Ev.step (f:=fun k=>if blankB c=true then stowageref3_Trim.l0 k (B l) else stowageref3_Trim.j1 k (B (c :: l))) (fun k=>?_) ?_
    · rw [stowageref3_Trim.l0,if_pos (by omega),if_pos (by omega),hb',blank_two]
      by_cases h:blankB c=true
      · rw [if_pos h,if_pos h,if_pos (by omega),hz',B_extract,List.take_of_length_le (by simp),List.drop_one,List.tail_cons]
      · rw [if_neg h,if_neg h]
    · rw [List.length_cons] at hl
      by_cases h:blankB c=true
      · refine ev_pos h ?_
        have e:trimB (c :: l)=trimB l:=by rw [trimB,dropB,if_pos h];rfl
        rw [e];exact ih (by omega)
      · refine ev_neg h ?_
        have e:trimB (c :: l)=(dropB (c :: l).reverse).reverse:=by rw [trimB,dropB,if_neg h]
        rw [e];exact tail (c :: l) (by rw [List.length_cons];omega)
theorem rtrim_ev (s:ByteArray) (hs:s.size≤1000000000000000):Ev (fun k=>stowageref3_Trim.f k s) (B (trimB s.toList)):=by
  have:=rtrim_l0 s.toList (by rw [length_toList];exact hs)
  rw [of_B] at this
  exact this
def digB:List UInt8→Int→Int×Bool
  | [],n=>(n,true)
  | b :: l,n=>if(b.toNat:Int)<48 then(0,false) else if(b.toNat:Int)>57 then(0,false) else digB l (wrap64 ((wrap64 (10*n))+(((b.toNat:Int)-48) % 256)))
def intB (l:List UInt8):Int×Bool:=if l.length<1∨18<l.length∨(1<l.length∧l[0]? = some 48) then(0,false) else digB l 0
theorem enc_l0 (s:ByteArray) (hs:s.size≤1000000000000000) (l:List UInt8):∀ (pre:List UInt8) (n:Int),s.toList=pre++l →
    Ev (fun k=>enc_Int.l0 k s n (s.size:Int) (pre.length:Int)) (digB l n):=by
  have hsl:=length_toList s
  induction l with
  | nil=>
    intro pre n e
    rw [List.append_nil] at e
    have:pre.length=s.size:=by rw [← hsl,e]
    exact Ev.step (f:=fun _=>some (n,true)) (fun k=>by rw [enc_Int.l0,if_neg (by omega)]) (Ev.now _)
  | cons b l ih=>
    intro pre n e
    have hl:=congrArg List.length e
    rw [hsl,List.length_append,List.length_cons] at hl
    have hb:=(bt_drop s pre.length b l (by rw [e];simp)).1
    refine Ev.step (f:=fun k=>_) (fun k=>by rw [enc_Int.l0,if_pos (by omega),if_pos (by omega),if_pos (by omega),hb,w64 (n:=(pre.length:Int)+1) (by omega) (by omega)]) ?_
    rw [digB]
    by_cases c:(b.toNat:Int)<48
    · rw [if_pos c];exact ev_pos c (Ev.now _)
    · rw [if_neg c]
      refine ev_neg c ?_
      by_cases c':(b.toNat:Int)>57
      · rw [if_pos c'];exact ev_pos c' (Ev.now _)
      · rw [if_neg c']
        refine ev_neg c' ?_
        have q:=ih (pre ++ [b]) (wrap64 ((wrap64 (10*n))+(((b.toNat:Int)-48) % 256))) (by rw [e];simp)
        rw [show((pre ++ [b]).length:Int)=(pre.length:Int)+1 by simp] at q
        exact q
theorem ref_l0 (s:ByteArray) (hs:s.size≤1000000000000000) (l:List UInt8):∀ (pre:List UInt8) (n:Int),s.toList=pre++l →
    Ev (fun k=>stowageref1_Int.l0 k s n (pre.length:Int)) (digB l n):=by
  have hsl:=length_toList s
  induction l with
  | nil=>
    intro pre n e
    rw [List.append_nil] at e
    have:pre.length=s.size:=by rw [← hsl,e]
    exact Ev.step (f:=fun _=>some (n,true)) (fun k=>by rw [stowageref1_Int.l0,if_neg (by omega)]) (Ev.now _)
  | cons b l ih=>
    intro pre n e
    have hl:=congrArg List.length e
    rw [hsl,List.length_append,List.length_cons] at hl
    have hb:=(bt_drop s pre.length b l (by rw [e];simp)).1
    refine Ev.step (f:=fun k=>_) (fun k=>by rw [stowageref1_Int.l0,if_pos (by omega),if_pos (by omega),hb,w64 (n:=(pre.length:Int)+1) (by omega) (by omega)]) ?_
    rw [digB]
    by_cases c:(b.toNat:Int)<48
    · rw [if_pos c];exact ev_pos c (Ev.now _)
    · rw [if_neg c]
      refine ev_neg c ?_
      by_cases c':(b.toNat:Int)>57
      · rw [if_pos c'];exact ev_pos c' (Ev.now _)
      · rw [if_neg c']
        refine ev_neg c' ?_
        have q:=ih (pre ++ [b]) (wrap64 ((wrap64 (10*n))+(((b.toNat:Int)-48) % 256))) (by rw [e];simp)
        rw [show((pre ++ [b]).length:Int)=(pre.length:Int)+1 by simp] at q
        exact q
theorem bt_zero (s:ByteArray) (h:0<s.size):bt s 0=48↔s.toList[0]? = some 48:=by
  have hsl:=length_toList s
  have h0:0<s.toList.length:=by omega
  have e:=bt_get s 0 h0
  rw [List.getElem?_eq_getElem h0,show((0:Nat):Int)=0 from rfl] at *
  rw [e]
  constructor
  · intro q
    exact congrArg some (UInt8.toNat_inj.mp (show(s.toList[0]).toNat=(48:UInt8).toNat by have:(48:UInt8).toNat=48:=rfl;omega))
  · intro q
    rw [Option.some.inj q];rfl
theorem encInt_ev (s:ByteArray) (hs:s.size≤1000000000000000):Ev (fun k=>enc_Int.f k s) (intB s.toList):=by
  have hsl:=length_toList s
  have bad:Ev (fun k=>enc_Int.j0 k s true) ((0,false):Int×Bool):=Ev.step (f:=fun _=>some (0,false)) (fun k=>by rw [enc_Int.j0,if_pos rfl]) (Ev.now _)
  have good:Ev (fun k=>enc_Int.j0 k s false) (digB s.toList 0):=Ev.step (f:=fun k=>_) (fun k=>by rw [enc_Int.j0,if_neg (by simp)];rfl) (enc_l0 s hs s.toList [] 0 rfl)
  simp only [enc_Int.f]
  rw [intB]
  by_cases c1:(s.size:Int)<1
  · rw [if_pos (by omega)];exact ev_pos c1 bad
  · refine ev_neg c1 ?_
    by_cases c2:(s.size:Int)>18
    · rw [if_pos (by omega)];exact ev_pos c2 bad
    · refine ev_neg c2 ?_
      have hz:=bt_zero s (by omega)
      by_cases c3:(s.size:Int)>1
      · refine ev_pos c3 (ev_pos (by omega) ?_)
        by_cases c4:bt s 0=48
        · rw [if_pos (by rw [← hz];omega),show(bt s 0 == 48)=true from beq_iff_eq.mpr c4];exact bad
        · rw [if_neg (by rw [← hz];omega),show(bt s 0 == 48)=false from beq_eq_false_iff_ne.mpr c4];exact good
      · refine ev_neg c3 ?_
        rw [if_neg (by omega)];exact good
theorem refInt_ev (s:ByteArray) (hs:s.size≤1000000000000000):Ev (fun k=>stowageref1_Int.f k s) (intB s.toList):=by
  have hsl:=length_toList s
  have bad:Ev (fun k=>stowageref1_Int.j0 k s true) ((0,false):Int×Bool):=Ev.step (f:=fun _=>some (0,false)) (fun k=>by rw [stowageref1_Int.j0,if_pos rfl]) (Ev.now _)
  have good:Ev (fun k=>stowageref1_Int.j0 k s false) (digB s.toList 0):=Ev.step (f:=fun k=>_) (fun k=>by rw [stowageref1_Int.j0,if_neg (by simp)];rfl) (ref_l0 s hs s.toList [] 0 rfl)
  simp only [stowageref1_Int.f]
  rw [intB]
  by_cases c1:(s.size:Int)=0
  · rw [if_pos (by omega)];exact ev_pos c1 bad
  · refine ev_neg c1 ?_
    by_cases c2:(s.size:Int)>18
    · rw [if_pos (by omega)];exact ev_pos c2 bad
    · refine ev_neg c2 (ev_pos (by omega) ?_)
      have hz:=bt_zero s (by omega)
      by_cases c4:bt s 0=48
      · refine ev_pos c4 ?_
        by_cases c3:(s.size:Int)>1
        · rw [if_pos (by rw [← hz];omega),decide_eq_true c3];exact bad
        · rw [if_neg (by rw [← hz];omega),decide_eq_false c3];exact good
      · refine ev_neg c4 ?_
        rw [if_neg (by rw [← hz];omega)];exact good
theorem intB_nil:intB []=(0,false):=rfl
theorem intB_empty (l:List UInt8) (h:(intB l).2=true):l ≠ []:=by
  intro e;subst e;rw [intB_nil] at h;simp at h
def fitB (l:List UInt8):Bool:=l.all valB && (trimB l == l)
theorem may_ev (s:ByteArray) (hs:s.size≤1000000000000000):Ev (fun k=>reply_may.f k s) (fitB s.toList):=by
  simp only [reply_may.f]
  refine Ev.bind (value_ev s hs) ?_
  unfold fitB
  by_cases h:s.toList.all valB=true
  · refine ev_pos h (Ev.bind (trim_ev s hs) (ev_eq (Ev.now _) ?_))
    rw [B_toList,h,Bool.true_and]
  · refine ev_neg h (ev_eq (Ev.now _) ?_)
    rw [Bool.eq_false_iff.mpr h,Bool.false_and]
theorem fit_ev (s:ByteArray) (hs:s.size≤1000000000000000):Ev (fun k=>stowageref17_fit.f k s) (fitB s.toList):=by
  simp only [stowageref17_fit.f]
  refine Ev.bind (rvalue_ev s hs) ?_
  unfold fitB
  by_cases h:s.toList.all valB=true
  · refine ev_pos h (Ev.bind (rtrim_ev s hs) (ev_eq (Ev.now _) ?_))
    rw [B_toList,h,Bool.true_and]
  · refine ev_neg h (ev_eq (Ev.now _) ?_)
    rw [Bool.eq_false_iff.mpr h,Bool.false_and]
theorem B_ex (l:List UInt8) (i:Nat) (h:i≤l.length):(B l).extract i (B l).size=B (l.drop i):=by
  rw [B_extract,B_size,List.take_length]
theorem B_ex0 (l:List UInt8) (i:Nat):(B l).extract 0 i=B (l.take i):=by rw [B_extract,List.drop_zero]
theorem take_len {α:Type} {l p:List α} (h:l.take p.length=p):p.length≤l.length:=by
  have:=congrArg List.length h
  rw [List.length_take] at this
  omega
theorem cutPre_eq (l p:List UInt8) (hl:l.length≤1000000000000000):strings_CutPrefix.f (B l) (B p)=some (if l.take p.length=p then(B (l.drop p.length),true) else(B l,false)):=by
  have hh:stringslite_HasPrefix.f (B l) (B p)=some (decide (l.take p.length=p)):=by
    unfold stringslite_HasPrefix.f
    by_cases h:l.take p.length=p
    · have:=take_len h
      rw [if_pos (by rw [B_size,B_size];omega),if_pos (by omega),if_pos (by rw [B_size,B_size];omega),B_size,B_ex0,B_toList,B_toList,h]
      simp
    · by_cases g:p.length≤l.length
      · rw [if_pos (by rw [B_size,B_size];omega),if_pos (by omega),if_pos (by rw [B_size,B_size];omega),B_size,B_ex0,B_toList,B_toList]
        simp [h]
      · rw [if_neg (by rw [B_size,B_size];omega)];simp [h]
  unfold strings_CutPrefix.f stringslite_CutPrefix.f
  rw [hh,Option.bind_some]
  by_cases h:l.take p.length=p
  · have:=take_len h
    rw [if_pos (by simp [h]),if_pos (by omega),if_pos (by rw [B_size,B_size];omega),Option.bind_some,if_pos h,B_size p,B_ex _ _ this]
  · rw [if_neg (by simp [h]),Option.bind_some,if_neg h]
theorem begins_eq (l p:List UInt8):stowageref3_Begins.f (B l) (B p)=some (decide (l.take p.length=p)):=by
  unfold stowageref3_Begins.f
  by_cases g:p.length≤l.length
  · rw [if_pos (by rw [B_size,B_size];omega),if_pos (by omega),if_pos (by rw [B_size,B_size];omega),B_size,B_ex0,B_toList,B_toList]
    congr 1
    by_cases h:l.take p.length=p <;> simp [h]
  · rw [if_neg (by rw [B_size,B_size];omega)]
    congr 1
    refine(decide_eq_false fun h=>g (take_len h)).symm
def headL (l:List UInt8):Option (List UInt8×List UInt8):=match cutP 58 32 l with|none=>none|some p=>if(p.1.all tokB && p.1 != [])=true∧fitB p.2=true then some p else none
theorem cut_col (l:List UInt8):match cutL 58 l with|none=>cutP 58 32 l=none|some q=>(∀ v,q.2=32 :: v→cutP 58 32 l=some (q.1,v))∧((∀ v,q.2≠32 :: v) → ∀ p,cutP 58 32 l=some p→(58:UInt8)∈p.1):=by
  induction l with
  | nil=>rfl
  | cons x l ih=>
    rw [cutL]
    by_cases hx:x=58
    · rw [if_pos hx]
      subst hx
      refine⟨fun v hv=>?_,fun hv p hp=>?_⟩
      · simp only at hv
        rw [hv,cutP_cons,if_pos ⟨rfl,rfl⟩]
      · cases l with
        | nil=>simp [cutP] at hp
        | cons y m=>
          rw [cutP_cons] at hp
          by_cases hy:y=32
          · exact absurd (by rw [hy]) (hv m)
          · rw [if_neg (fun h=>hy h.2)] at hp
            cases hc:cutP 58 32 (y :: m) with
            | none=>rw [hc] at hp;simp at hp
            | some q=>rw [hc,Option.map_some] at hp;obtain rfl:=Option.some.inj hp;simp
    · rw [if_neg hx]
      have hcx:cutP 58 32 (x :: l)=(cutP 58 32 l).map fun p=>(x :: p.1,p.2):=by
        cases l with
        | nil=>rfl
        | cons y m=>rw [cutP_cons,if_neg (fun h=>hx h.1)]
      cases hc:cutL 58 l with
      | none=>rw [hc] at ih;simp only [Option.map_none];rw [hcx,ih];rfl
      | some q=>
        rw [hc] at ih
        obtain⟨h1,h2⟩:=ih
        simp only [Option.map_some]
        refine⟨fun v hv=>by rw [hcx,h1 v hv];rfl,fun hv p hp=>?_⟩
        rw [hcx] at hp
        cases hc2:cutP 58 32 l with
        | none=>rw [hc2] at hp;simp at hp
        | some r=>
          rw [hc2,Option.map_some] at hp
          obtain rfl:=Option.some.inj hp
          exact List.mem_cons_of_mem _ (h2 hv r hc2)
theorem tok_58:tokB 58=false:=by decide +kernel
theorem pcut_eq (l:List UInt8) (hl:l.length<4294967281):strings_Cut.f (B l) (⟨#[58,32]⟩ : ByteArray)=some (match cutP 58 32 l with|none=>(B l,(⟨#[]⟩ : ByteArray),false)|some p=>(B p.1,B p.2,true)):=by
  have ei:stringslite_Index.f (B l) (⟨#[58,32]⟩ : ByteArray)=some (match cutP 58 32 l with|none=>-1|some p=>(p.1.length:Int)):=by
    rw [stringslite_Index.f,if_pos (by rw [B_size];omega)]
    exact congrArg some (cutP_index 58 32 l)
  have z2:(⟨#[58,32]⟩ : ByteArray).size=2:=rfl
  unfold strings_Cut.f stringslite_Cut.f
  rw [ei,Option.bind_some]
  cases hc:cutP 58 32 l with
  | none=>rfl
  | some p=>
    have e:=cutP_eq 58 32 l p hc
    have el:=congrArg List.length e
    simp only [List.length_append,List.length_cons] at el
    simp only [z2]
    rw [w64 (n:=(p.1.length:Int)+((2:Nat):Int)) (by omega) (by omega),if_pos (by omega),if_pos (by omega),if_pos (by rw [B_size];omega),if_pos (by omega),if_pos (by rw [B_size];omega),Option.bind_some]
    rw [Int.toNat_natCast,B_ex0,show((p.1.length:Int)+((2:Nat):Int)).toNat=p.1.length+2 by omega,B_ex _ _ (by omega)]
    rw [show l.take p.1.length=p.1 by rw [e];simp,show l.drop (p.1.length+2)=p.2 by rw [e,← List.drop_drop];simp]
theorem header_ev (l:List UInt8) (hl:l.length≤1000000000000):Ev (fun k=>stowageref17_header.f k (B l)) (match headL l with|none=>((⟨#[]⟩ : ByteArray),(⟨#[]⟩ : ByteArray),false)|some p=>(B p.1,B p.2,true)):=by
  have hcut:=rcut_ev (B l) 58 (by rw [B_size];omega)
  have hcol:=cut_col l
  simp only [stowageref17_header.f]
  refine Ev.bind (a:=cutR (B l) 58) hcut ?_
  unfold cutR
  rw [B_toList]
  cases hc:cutL 58 l with
  | none=>
    rw [hc] at hcol
    refine ev_neg (by simp) (ev_eq (Ev.now _) ?_)
    unfold headL
    rw [show cutP 58 32 l=none from hcol]
  | some q=>
    rw [hc] at hcol
    obtain⟨h1,h2⟩:=hcol
    have hq:=cutL_index 58 l
    rw [hc] at hq
    have ql:=congrArg List.length hq.2
    simp only [List.length_append,List.length_cons] at ql
    refine ev_pos rfl ?_
    show Ev (fun k=>(stowageref3_Begins.f (B q.2) (B [32])).bind fun t201=>_) _
    refine ev_some (begins_eq q.2 [32]) ?_
    have hfail:((∀ v,q.2=32 :: v→cutP 58 32 l=some (q.1,v))∧((∀ v,q.2≠32 :: v) → ∀ p,cutP 58 32 l=some p→(58:UInt8)∈p.1)):=⟨h1,h2⟩
    by_cases hb:∃ v,q.2=32 :: v
    · obtain⟨v,hv⟩:=hb
      have hp:=h1 v hv
      have hhead:headL l=if(q.1.all tokB && q.1 != [])=true∧fitB v=true then some (q.1,v) else none:=by unfold headL;rw [hp]
      rw [hhead]
      refine ev_pos (by rw [hv];simp) ?_
      have vl:=congrArg List.length hv
      simp only [List.length_cons] at vl
      have ht:=rtoken_ev (B q.1) (by rw [B_size];omega)
      rw [B_toList] at ht
      refine Ev.bind ht ?_
      by_cases g:(q.1.all tokB && q.1 != [])=true
      · refine ev_pos g (ev_pos (by show((1:Int)≤((B q.2).size:Int));rw [B_size];omega) ?_)
        have ex:(B q.2).extract 1 (B q.2).size=B v:=by rw [B_ex _ _ (by omega),hv];rfl
        show Ev (fun k=>(stowageref17_fit.f k ((B q.2).extract 1 (B q.2).size)).bind fun t203=>if t203=true then some (B q.1,(B q.2).extract 1 (B q.2).size,true) else some ((⟨#[]⟩ : ByteArray),(⟨#[]⟩ : ByteArray),false)) _
        rw [ex]
        have hf:=fit_ev (B v) (by rw [B_size];omega)
        rw [B_toList] at hf
        refine Ev.bind hf ?_
        by_cases gf:fitB v=true
        · refine ev_pos gf (ev_eq (Ev.now _) ?_)
          rw [if_pos ⟨g,gf⟩]
        · refine ev_neg gf (ev_eq (Ev.now _) ?_)
          rw [if_neg (fun h=>gf h.2)]
      · refine ev_neg g (ev_eq (Ev.now _) ?_)
        rw [if_neg (fun h=>g h.1)]
    · have hhead:headL l=none:=by
        unfold headL
        cases hp:cutP 58 32 l with
        | none=>rfl
        | some p=>
          have:=h2 (fun v hv=>hb ⟨v,hv⟩) p hp
          simp only
          rw [if_neg]
          rintro ⟨g,_⟩
          rw [Bool.and_eq_true,List.all_eq_true] at g
          have:=g.1 58 this
          rw [tok_58] at this
          cases this
      rw [hhead]
      refine ev_neg ?_ (Ev.now _)
      rw [decide_eq_true_eq]
      intro h
      cases hq2:q.2 with
      | nil=>rw [hq2] at h;simp at h
      | cons x v=>
        rw [hq2] at h
        simp at h
        exact hb ⟨v,by rw [hq2,h]⟩
def isDate (a:ByteArray):Prop:=∃ y m d h mi s,Date.Real y m d h mi s∧Date.httpD y m d h mi s=a
noncomputable def dateOk (a:ByteArray):Bool:=@decide (isDate a) (Classical.propDecidable _)
theorem date_ev (a:ByteArray):∃ v,Ev (fun k=>when_ParseHttp.f k a) (v,dateOk a)∧Ev (fun k=>stowageref4_ParseHttp.f k a) (v,dateOk a):=by
  by_cases h:isDate a
  · have e:dateOk a=true:=by unfold dateOk;exact @decide_eq_true _ (Classical.propDecidable _) h
    obtain⟨y,m,d,h,mi,s,r,rfl⟩:=h
    rw [e]
    exact⟨_,Date.phttp_yes r,Date.rphttp_yes r⟩
  · have e:dateOk a=false:=by unfold dateOk;exact @decide_eq_false _ (Classical.propDecidable _) h
    have hn:∀ y m d h mi s,Date.Real y m d h mi s→Date.httpD y m d h mi s≠a:=fun y m d hh mi s r e=>h ⟨y,m,d,hh,mi,s,r,e⟩
    rw [e]
    exact⟨_,Date.phttp_no a hn,Date.rphttp_no a hn⟩
theorem p2_val (n:Int) (h0:0≤n) (h1:n≤99):(Date.p2 n).toList.all valB=true:=by
  have key:∀ i:Fin 100,(Date.p2 (i.val:Int)).toList.all valB=true:=by decide +kernel
  have:=key ⟨n.toNat,by omega⟩
  rwa [show((n.toNat:Nat):Int)=n by omega] at this
theorem p4_val (n:Int) (h0:0≤n) (h1:n≤9999):(Date.p4 n).toList.all valB=true:=by
  have e:Date.p4 n=Date.p2 (n / 100)++Date.p2 (n % 100):=by
    unfold Date.p4 Date.p2
    rw [Date.son_append]
    congr 1
    simp only [List.cons_append,List.nil_append,List.cons.injEq,and_true]
    refine⟨by omega,trivial,by omega,by omega⟩
  rw [e,toList_append,List.all_append,p2_val (n / 100) (by omega) (by omega),p2_val (n % 100) (by omega) (by omega)]
  rfl
theorem wd_val (r:Int) (h0:0≤r) (h1:r<7):(Date.wd r).toList.all valB=true ∧ ∃ c t,(Date.wd r).toList=c :: t∧blankB c=false:=by
  have key:∀ i:Fin 7,(Date.wd (i.val:Int)).toList.all valB=true∧((Date.wd (i.val:Int)).toList.head?.map blankB)=some false:=by decide +kernel
  have:=key ⟨r.toNat,by omega⟩
  rw [show((r.toNat:Nat):Int)=r by omega] at this
  refine⟨this.1,?_⟩
  cases hw:(Date.wd r).toList with
  | nil=>rw [hw] at this;simp at this
  | cons c t=>rw [hw] at this;exact⟨c,t,rfl,by simpa using this.2⟩
theorem mo_val (m:Int) (h0:1≤m) (h1:m≤12):(Date.mo m).toList.all valB=true:=by
  have key:∀ i:Fin 12,(Date.mo ((i.val:Int)+1)).toList.all valB=true:=by decide +kernel
  have:=key ⟨(m-1).toNat,by omega⟩
  rwa [show(((m-1).toNat:Nat):Int)+1=m by omega] at this
theorem trim_ends (c d:UInt8) (l:List UInt8) (hc:blankB c=false) (hd:blankB d=false):trimB (c :: l ++ [d])=c :: l ++ [d]:=by
  have e1:dropB (c :: l ++ [d])=c :: l ++ [d]:=by rw [List.cons_append,dropB,if_neg (by rw [hc];simp)]
  have e2:(c :: l ++ [d]).reverse=d :: (c :: l).reverse:=by rw [List.reverse_append];rfl
  have e3:dropB (d :: (c :: l).reverse)=d :: (c :: l).reverse:=by rw [dropB,if_neg (by rw [hd];simp)]
  unfold trimB
  rw [e1,e2,e3,← e2,List.reverse_reverse]
theorem date_fit (a:ByteArray) (h:dateOk a=true):fitB a.toList=true:=by
  unfold dateOk at h
  obtain⟨y,m,d,hh,mi,s,r,rfl⟩:=@of_decide_eq_true _ (Classical.propDecidable _) h
  have D:=Date.date_of r
  have b:=D.bd
  have:=D.h0;have:=D.h1;have:=D.mi0;have:=D.mi1;have:=D.s0;have:=D.s1
  have hw:=wd_val (Date.dow y m d) (by unfold Date.dow;omega) (by unfold Date.dow;omega)
  obtain⟨hw1,c,t,hw2,hc⟩:=hw
  have z:∀ s:List UInt8,s.all valB=true→(B s).toList.all valB=true:=fun s h=>by rw [B_toList];exact h
  unfold fitB
  rw [Bool.and_eq_true]
  constructor
  · unfold Date.httpD Date.httpT
    simp only [toList_append,List.all_append,hw1,p2_val _ (show 0≤d by omega) (show d≤99 by omega),p2_val _ (show 0≤hh by omega) (show hh≤99 by omega),p2_val _ (show 0≤mi by omega) (show mi≤99 by omega),p2_val _ (show 0≤s by omega) (show s≤99 by omega),p4_val _ (show 0≤y by omega) (show y≤9999 by omega),mo_val _ b.2.2.1 b.2.2.2.1,Bool.true_and,Bool.and_true]
    decide +kernel
  · unfold Date.httpD Date.httpT
    simp only [toList_append,hw2]
    rw [show(⟨#[32,71,77,84]⟩ : ByteArray).toList = [32,71,77] ++ [84] by decide +kernel,← List.append_assoc]
    simp only [List.cons_append]
    rw [beq_iff_eq]
    exact trim_ends c 84 _ hc (by decide)
def httpL:List UInt8:=[72,84,84,80,47,49,46,49,32]
def phL (n:Int):List UInt8:=((reply_Phrase.f n).getD ⟨#[]⟩).toList
def stL (l:List UInt8):Option Int:=if l.take 9=httpL∧(intB ((l.take 12).drop 9)).2=true∧l.drop 12=32 :: phL (intB ((l.take 12).drop 9)).1 then some (intB ((l.take 12).drop 9)).1 else none
theorem int3 (a b c:UInt8) (h:(intB [a,b,c]).2=true):a≠48∧100≤(intB [a,b,c]).1∧(intB [a,b,c]).1≤999:=by
  unfold intB at h ⊢
  by_cases g:a=48
  · subst g
    rw [if_pos (by simp)] at h
    simp at h
  · rw [if_neg (by simp [g])] at h ⊢
    refine⟨g,?_⟩
    have g':(a.toNat:Int)≠48:=fun e=>g (toNat_eq.mp (by rw [e];rfl))
    simp only [digB] at h ⊢
    by_cases a1:(a.toNat:Int)<48
    · rw [if_pos a1] at h;simp at h
    · by_cases a2:(a.toNat:Int)>57
      · rw [if_neg a1,if_pos a2] at h;simp at h
      · by_cases b1:(b.toNat:Int)<48
        · rw [if_neg a1,if_neg a2,if_pos b1] at h;simp at h
        · by_cases b2:(b.toNat:Int)>57
          · rw [if_neg a1,if_neg a2,if_neg b1,if_pos b2] at h;simp at h
          · by_cases c1:(c.toNat:Int)<48
            · rw [if_neg a1,if_neg a2,if_neg b1,if_neg b2,if_pos c1] at h;simp at h
            · by_cases c2:(c.toNat:Int)>57
              · rw [if_neg a1,if_neg a2,if_neg b1,if_neg b2,if_neg c1,if_pos c2] at h;simp at h
              · rw [if_neg a1,if_neg a2,if_neg b1,if_neg b2,if_neg c1,if_neg c2]
                simp only
                generalize (a.toNat:Int)=x at *
                generalize (b.toNat:Int)=y at *
                generalize (c.toNat:Int)=z at *
                rw [show wrap64 (10*0)=0 by unfold wrap64;omega,show(x-48) % 256=x-48 by omega,show(y-48) % 256=y-48 by omega,show(z-48) % 256=z-48 by omega,w64 (n:=0+(x-48)) (by omega) (by omega),w64 (n:=10*(0+(x-48))) (by omega) (by omega),w64 (n:=10*(0+(x-48))+(y-48)) (by omega) (by omega),w64 (n:=10*(10*(0+(x-48))+(y-48))) (by omega) (by omega),w64 (n:=10*(10*(0+(x-48))+(y-48))+(z-48)) (by omega) (by omega)]
                omega
theorem take12 (l:List UInt8) (h:12≤l.length):∃ a b c,(l.take 12).drop 9 = [a,b,c]∧l[9]? = some a:=by
  have e:((l.take 12).drop 9).length=3:=by rw [List.length_drop,List.length_take];omega
  match hx:(l.take 12).drop 9,e with
  | [a,b,c],_=>
    refine⟨a,b,c,rfl,?_⟩
    have:((l.take 12).drop 9)[0]? = some a:=by rw [hx];rfl
    rw [List.getElem?_drop,List.getElem?_take] at this
    simpa using this
theorem bt_at (l:List UInt8) (i:Nat) (c:UInt8) (h:l[i]? = some c):bt (B l) (i:Int)=(c.toNat:Int):=bt_B l i c h
theorem status_ev (l:List UInt8) (hl:l.length≤1000000000000):Ev (fun k=>stowageref17_status.f k (B l)) ((stL l).getD 0) ∧ ∀ n,stL l=some n→100≤n:=by
  have bad:Ev (fun k=>stowageref17_status.j0 k (B l) true) 0:=Ev.step (f:=fun _=>some 0) (fun k=>by rw [stowageref17_status.j0,if_pos rfl]) (Ev.now _)
  by_cases h13:l.length<13
  · have e:stL l=none:=by
      unfold stL
      rw [if_neg]
      rintro ⟨_,_,h⟩
      have:=congrArg List.length h
      rw [List.length_drop,List.length_cons] at this
      omega
    rw [e]
    refine⟨?_,fun n hn=>by cases hn⟩
    simp only [stowageref17_status.f]
    exact ev_pos (by rw [B_size];omega) bad
  · obtain⟨a,b,c,hx,h9⟩:=take12 l (by omega)
    have hlow:∀ n,stL l=some n→100≤n:=by
      intro n hn
      unfold stL at hn
      by_cases g:l.take 9=httpL∧(intB ((l.take 12).drop 9)).2=true∧l.drop 12=32 :: phL (intB ((l.take 12).drop 9)).1
      · rw [if_pos g] at hn
        obtain rfl:=Option.some.inj hn
        rw [hx] at g ⊢
        exact(int3 a b c g.2.1).2.1
      · rw [if_neg g] at hn;cases hn
    refine⟨?_,hlow⟩
    simp only [stowageref17_status.f]
    refine ev_neg (by rw [B_size];omega) (ev_pos (by decide) (ev_pos (by rw [B_size];omega) ?_))
    rw [B_ex0,B_toList]
    by_cases g9:l.take 9=httpL
    · refine ev_pos g9 (ev_pos (by rw [B_size];omega) ?_)
      obtain⟨d,m,hd⟩ : ∃ d m,l.drop 12=d :: m:=by
        cases hd:l.drop 12 with
        | nil=>have:=congrArg List.length hd;rw [List.length_drop,List.length_nil] at this;omega
        | cons d m=>exact⟨d,m,rfl⟩
      have h12:l[12]? = some d:=by
        have:(l.drop 12)[0]? = some d:=by rw [hd];rfl
        rw [List.getElem?_drop] at this
        simpa using this
      have hbt:bt (B l) 12=(d.toNat:Int):=bt_at l 12 d h12
      rw [hbt]
      by_cases gd:d=32
      · have e0:(((d.toNat:Int)) != 32)=false:=by rw [gd];rfl
        rw [e0]
        have hi:=refInt_ev (B ((l.take 12).drop 9)) (by rw [B_size,List.length_drop,List.length_take];omega)
        rw [B_toList] at hi
        refine Ev.step (f:=fun k=>_) (fun k=>by rw [stowageref17_status.j0,if_neg (by simp),if_pos (by decide),if_pos (by rw [B_size];omega),B_extract]) ?_
        refine Ev.bind hi ?_
        unfold stL
        by_cases gi:(intB ((l.take 12).drop 9)).2=true
        · refine ev_pos gi ?_
          have h3:=int3 a b c (by rw [← hx];exact gi)
          rw [← hx] at h3
          refine ev_neg (by omega) (ev_pos (by rw [B_size];omega) ?_)
          obtain⟨p,hp0,hp1,hp2⟩:=phrase_same (intB ((l.take 12).drop 9)).1
          refine Ev.bind hp2 ?_
          have ep:phL (intB ((l.take 12).drop 9)).1=p.toList:=by unfold phL;rw [hp1];rfl
          have e13:(B l).extract 13 (B l).size=B m:=by
            rw [B_ex _ _ (by omega)]
            have:l.drop 13=m:=by rw [show 13=12+1 from rfl,← List.drop_drop,hd];rfl
            rw [this]
          rw [ep,hd,gd,e13,B_toList]
          by_cases gm:m=p.toList
          · refine ev_pos gm (ev_eq (Ev.now _) ?_)
            rw [if_pos ⟨g9,gi,by rw [gm]⟩];rfl
          · refine ev_neg gm (ev_eq (Ev.now _) ?_)
            rw [if_neg (fun h=>gm (List.cons.inj h.2.2).2)];rfl
        · refine ev_neg gi (ev_eq (Ev.now _) ?_)
          rw [if_neg (fun h=>gi h.2.1)];rfl
      · have e0:(((d.toNat:Int)) != 32)=true:=by
          rw [bne_iff_ne];intro e;exact gd (toNat_eq.mp (by rw [e];rfl))
        rw [e0]
        refine ev_eq bad ?_
        unfold stL
        rw [if_neg];rfl
        rintro ⟨_,_,h⟩
        rw [hd] at h
        exact gd (List.cons.inj h).1
    · refine ev_neg g9 (ev_eq bad ?_)
      unfold stL
      rw [if_neg (fun h=>g9 h.1)];rfl
def srvP:List UInt8:=[83,101,114,118,101,114,58,32]
def stoL:List UInt8:=[115,116,111,119,97,103,101]
def datP:List UInt8:=[68,97,116,101,58,32]
def xidP:List UInt8:=[120,45,97,109,122,45,114,101,113,117,101,115,116,45,105,100,58,32]
def valL (p l:List UInt8):Bool:=decide (l.take p.length=p) && fitB (l.drop p.length)
theorem pos_len {S:ByteArray} {at_:Int} {l:List UInt8} (h:Pos S at_ l):l.length≤S.size:=by have:=h.len;have:=h.a0;omega
theorem lineL_le (l:List UInt8):(lineL l).1.length≤l.length∧(lineL l).2.2.length≤l.length:=by
  cases h:(lineL l).2.1
  · have:=lineL_no l h
    rw [this.1,this.2]
    exact⟨Nat.zero_le _,Nat.le_refl _⟩
  · have:=lineL_len l h
    omega
theorem value_ev2 (S:ByteArray) (at_:Int) (l p:List UInt8) (hS:S.size<4294967281) (h:Pos S at_ l):∃ at',Pos S at' (lineL l).2.2 ∧
    Ev (fun k=>reply_reader_value.f k S at_ (B p)) (B (if(lineL l).1.take p.length=p then(lineL l).1.drop p.length else(lineL l).1),((lineL l).2.1 && valL p (lineL l).1),S,at'):=by
  obtain⟨at',hp,he⟩:=pline S at_ l hS h
  have hl:=pos_len h
  have hl1:=(lineL_le l).1
  refine⟨at',hp,?_⟩
  simp only [reply_reader_value.f]
  refine ev_some he (ev_some (cutPre_eq _ p (by omega)) ?_)
  generalize (lineL l).1=s at *
  generalize (lineL l).2.1=ok at *
  unfold valL
  cases ok
  · refine ev_neg (by simp) (ev_eq (Ev.now _) ?_)
    by_cases g:s.take p.length=p
    · rw [if_pos g,if_pos g];rfl
    · rw [if_neg g,if_neg g];rfl
  · refine ev_pos rfl ?_
    by_cases g:s.take p.length=p
    · rw [if_pos g,if_pos g]
      refine ev_pos rfl ?_
      have hm:=may_ev (B (s.drop p.length)) (by rw [B_size,List.length_drop];omega)
      rw [B_toList] at hm
      refine Ev.bind hm (ev_eq (Ev.now _) ?_)
      rw [decide_eq_true g];rfl
    · rw [if_neg g,if_neg g]
      refine ev_neg (by simp) (ev_eq (Ev.now _) ?_)
      rw [decide_eq_false g];rfl
noncomputable def beg (l:List UInt8):Option (Int×List UInt8):=
  if(lineL l).2.1=true∧(lineL (lineL l).2.2).2.1=true∧(lineL (lineL (lineL l).2.2).2.2).2.1=true∧(lineL (lineL (lineL (lineL l).2.2).2.2).2.2).2.1=true∧(lineL (lineL l).2.2).1=srvP++stoL∧((lineL (lineL (lineL l).2.2).2.2).1.take 6=datP∧dateOk (B ((lineL (lineL (lineL l).2.2).2.2).1.drop 6))=true)∧valL xidP (lineL (lineL (lineL (lineL l).2.2).2.2).2.2).1=true
  then(stL (lineL l).1).map fun n=>(n,(lineL (lineL (lineL (lineL l).2.2).2.2).2.2).2.2) else none
def pX (k:Nat) (l:List UInt8) (S:ByteArray) (at_:Int):Option (Int×Bool×ByteArray×Int):=
  if((B l).size:Int)<12 then(reply_reader_begin.j0 k (B l) true S at_) else(if 0≤9 then(if 9≤((B l).size:Int) then(if((B l).extract 0 9).toList=([72,84,84,80,47,49,46,49,32]:List UInt8) then(if 9<((B l).size:Int) then(reply_reader_begin.j0 k (B l) ((bt (B l) 9) == 48) S at_) else(none)) else(reply_reader_begin.j0 k (B l) true S at_)) else(none)) else(none))
theorem pX_ev (l:List UInt8) (hl:l.length≤1000000000000) (S:ByteArray) (at_:Int):(stL l=none→Ev (fun k=>pX k l S at_) (0,false,S,at_)) ∧ ∀ n,stL l=some n → ∀ r,Ev (fun k=>reply_reader_begin.j1 k n false S at_) r→Ev (fun k=>pX k l S at_) r:=by
  have bad:Ev (fun k=>reply_reader_begin.j0 k (B l) true S at_) (0,false,S,at_):=Ev.step (f:=fun _=>some (0,false,S,at_)) (fun k=>by rw [reply_reader_begin.j0,if_pos rfl]) (Ev.now _)
  have bad1:∀ n,Ev (fun k=>reply_reader_begin.j1 k n true S at_) (0,false,S,at_):=fun n=>Ev.step (f:=fun _=>some (0,false,S,at_)) (fun k=>by rw [reply_reader_begin.j1,if_pos rfl]) (Ev.now _)
  by_cases h12:l.length<12
  · have e:stL l=none:=by
      unfold stL
      rw [if_neg]
      rintro ⟨_,_,h⟩
      have:=congrArg List.length h
      rw [List.length_drop,List.length_cons] at this
      omega
    rw [e]
    exact⟨fun _=>ev_pos (by rw [B_size];omega) bad,fun n hn=>by cases hn⟩
  · obtain⟨a,b,c,hx,h9⟩:=take12 l (by omega)
    by_cases g9:l.take 9=httpL
    · have step:∀ r,Ev (fun k=>reply_reader_begin.j0 k (B l) ((bt (B l) 9) == 48) S at_) r→Ev (fun k=>pX k l S at_) r:=fun r hr=>by
        simp only [pX]
        refine ev_neg (by rw [B_size];omega) (ev_pos (by decide) (ev_pos (by rw [B_size];omega) ?_))
        rw [B_ex0,B_toList]
        exact ev_pos g9 (ev_pos (by rw [B_size];omega) hr)
      have hbt:bt (B l) 9=(a.toNat:Int):=bt_at l 9 a h9
      by_cases ga:a=48
      · have e:stL l=none:=by
          unfold stL
          rw [if_neg]
          rintro ⟨_,h,_⟩
          rw [hx] at h
          exact(int3 a b c h).1 ga
        rw [e]
        refine⟨fun _=>step _ ?_,fun n hn=>by cases hn⟩
        rw [hbt,ga]
        exact bad
      · have e0:(((a.toNat:Int)) == 48)=false:=by
          rw [beq_eq_false_iff_ne];intro e;exact ga (toNat_eq.mp (by rw [e];rfl))
        have hi:=encInt_ev (B ((l.take 12).drop 9)) (by rw [B_size,List.length_drop,List.length_take];omega)
        rw [B_toList] at hi
        have e12:(B l).extract 12 (B l).size=B (l.drop 12):=B_ex _ _ (by omega)
        obtain⟨p,hp0,hp1,hp2⟩:=phrase_same (intB ((l.take 12).drop 9)).1
        have ep:phL (intB ((l.take 12).drop 9)).1=p.toList:=by unfold phL;rw [hp1];rfl
        have ep2:((⟨#[32]⟩ : ByteArray)++p).toList=32 :: p.toList:=by rw [toList_append,ByteArray.toList_eq (⟨#[32]⟩ : ByteArray)];rfl
        have go:∀ r,(((intB ((l.take 12).drop 9)).2=true→Ev (fun k=>reply_reader_begin.j1 k (intB ((l.take 12).drop 9)).1 ((l.drop 12) != 32 :: p.toList) S at_) r))→(¬ (intB ((l.take 12).drop 9)).2=true→Ev (fun k=>reply_reader_begin.j1 k (intB ((l.take 12).drop 9)).1 true S at_) r)→Ev (fun k=>pX k l S at_) r:=by
          intro r h1 h2
          refine step r ?_
          rw [hbt,e0]
          refine Ev.step (f:=fun k=>_) (fun k=>by rw [reply_reader_begin.j0,if_neg (by simp),if_pos (by decide),if_pos (by rw [B_size];omega),B_extract]) ?_
          refine Ev.bind hi ?_
          by_cases gi:(intB ((l.take 12).drop 9)).2=true
          · refine ev_pos gi (ev_some hp1 (ev_pos (by omega) ?_))
            rw [e12,B_toList,ep2]
            exact h1 gi
          · exact ev_neg gi (h2 gi)
        unfold stL
        by_cases g:l.take 9=httpL∧(intB ((l.take 12).drop 9)).2=true∧l.drop 12=32 :: phL (intB ((l.take 12).drop 9)).1
        · rw [if_pos g]
          refine⟨fun h=>(by cases h),fun n hn r hr=>?_⟩
          obtain rfl:=Option.some.inj hn
          refine go r (fun _=>?_) (fun h=>absurd g.2.1 h)
          rw [g.2.2,ep,bne_self_eq_false]
          exact hr
        · rw [if_neg g]
          refine⟨fun _=>go _ (fun gi=>?_) (fun _=>bad1 _),fun n hn=>by cases hn⟩
          have hne:((l.drop 12) != 32 :: p.toList)=true:=by
            rw [bne_iff_ne];intro e;exact g ⟨g9,gi,by rw [e,ep]⟩
          rw [hne]
          exact bad1 _
    · have e:stL l=none:=by unfold stL;rw [if_neg (fun h=>g9 h.1)]
      rw [e]
      refine⟨fun _=>?_,fun n hn=>by cases hn⟩
      simp only [pX]
      refine ev_neg (by rw [B_size];omega) (ev_pos (by decide) (ev_pos (by rw [B_size];omega) ?_))
      rw [B_ex0,B_toList]
      exact ev_neg g9 bad
theorem srv_val (l:List UInt8):(valL srvP l=true∧l.drop 8=stoL)↔l=srvP++stoL:=by
  constructor
  · rintro ⟨h1,h2⟩
    unfold valL at h1
    rw [Bool.and_eq_true,decide_eq_true_eq] at h1
    rw [← List.take_append_drop 8 l,h2]
    rw [show l.take 8=srvP from h1.1]
  · rintro rfl
    exact⟨by decide +kernel,by decide⟩
theorem pbegin (S:ByteArray) (hS:S.size<4294967281):∃ n ok at',Ev (fun k=>reply_reader_begin.f k S 0) (n,ok,S,at')∧(match beg S.toList with|none=>ok=false|some q=>ok=true∧n=q.1∧Pos S at' q.2):=by
  have P0:Pos S 0 S.toList:=⟨Int.le_refl _,by omega,by simp⟩
  have hlen:=pos_len P0
  have bad:∀ (s:ByteArray) (a:Int),Ev (fun k=>reply_reader_begin.j0 k s true S a) (0,false,S,a):=fun s a=>Ev.step (f:=fun _=>some (0,false,S,a)) (fun k=>by rw [reply_reader_begin.j0,if_pos rfl]) (Ev.now _)
  obtain⟨a1,P1,E1⟩:=pline S 0 _ hS P0
  have hl1:=lineL_le S.toList
  unfold beg
  generalize hL:S.toList=l at *
  simp only [reply_reader_begin.f]
  cases h1:(lineL l).2.1 with
  | false=>
    refine⟨0,false,a1,ev_some E1 ?_,?_⟩
    · rw [h1];exact ev_neg (by simp) (bad _ _)
    · rw [if_neg (fun h=>Bool.false_ne_true h.1)]
  | true=>
    have hX:=pX_ev (lineL l).1 (by omega) S a1
    have enter:∀ r,Ev (fun k=>pX k (lineL l).1 S a1) r→Ev (fun k=>(reply_reader_line.f S 0).bind fun bt333=>(if bt333.2.1=true then(if(bt333.1.size:Int)<12 then(reply_reader_begin.j0 k bt333.1 true bt333.2.2.1 bt333.2.2.2) else(if 0≤9 then(if 9≤(bt333.1.size:Int) then(if(bt333.1.extract 0 9).toList=([72,84,84,80,47,49,46,49,32]:List UInt8) then(if 9<(bt333.1.size:Int) then(reply_reader_begin.j0 k bt333.1 ((bt bt333.1 9) == 48) bt333.2.2.1 bt333.2.2.2) else(none)) else(reply_reader_begin.j0 k bt333.1 true bt333.2.2.1 bt333.2.2.2)) else(none)) else(none))) else(reply_reader_begin.j0 k bt333.1 true bt333.2.2.1 bt333.2.2.2))) r:=by
      intro r hr
      refine ev_some E1 ?_
      rw [h1]
      exact ev_pos rfl hr
    cases hst:stL (lineL l).1 with
    | none=>
      refine⟨0,false,a1,enter _ (hX.1 hst),?_⟩
      split
      · rfl
      · rename_i q hq
        by_cases g:true=true∧(lineL (lineL l).2.2).2.1=true∧(lineL (lineL (lineL l).2.2).2.2).2.1=true∧(lineL (lineL (lineL (lineL l).2.2).2.2).2.2).2.1=true∧(lineL (lineL l).2.2).1=srvP++stoL∧((lineL (lineL (lineL l).2.2).2.2).1.take 6=datP∧dateOk (B ((lineL (lineL (lineL l).2.2).2.2).1.drop 6))=true)∧valL xidP (lineL (lineL (lineL (lineL l).2.2).2.2).2.2).1=true
        · rw [if_pos g] at hq;cases hq
        · rw [if_neg g] at hq;cases hq
    | some n=>
      obtain⟨a2,P2,E2⟩:=value_ev2 S a1 _ srvP hS P1
      obtain⟨a3,P3,E3⟩:=value_ev2 S a2 _ datP hS P2
      obtain⟨a4,P4,E4⟩:=value_ev2 S a3 _ xidP hS P3
      generalize hL2:lineL (lineL l).2.2=L2 at *
      generalize hL3:lineL L2.2.2=L3 at *
      generalize hL4:lineL L3.2.2=L4 at *
      obtain⟨v,D1,_⟩:=date_ev (B (if L3.1.take datP.length=datP then L3.1.drop datP.length else L3.1))
      have main:Ev (fun k=>reply_reader_begin.j1 k n false S a1) (n,(L2.2.1 && valL srvP L2.1) && ((L3.2.1 && valL datP L3.1) && ((L4.2.1 && valL xidP L4.1) && (dateOk (B (if L3.1.take datP.length=datP then L3.1.drop datP.length else L3.1)) && ((B (if L2.1.take srvP.length=srvP then L2.1.drop srvP.length else L2.1)).toList == stoL)))),S,a4):=by
        refine Ev.step (f:=fun k=>_) (fun k=>by rw [reply_reader_begin.j1,if_neg (by simp)]) ?_
        refine Ev.bind E2 (Ev.bind E3 (Ev.bind E4 (Ev.bind D1 ?_)))
        simp only
        cases (L2.2.1 && valL srvP L2.1)
        · exact ev_neg (by simp) (Ev.now _)
        · refine ev_pos rfl ?_
          cases (L3.2.1 && valL datP L3.1)
          · exact ev_neg (by simp) (Ev.now _)
          · refine ev_pos rfl ?_
            cases (L4.2.1 && valL xidP L4.1)
            · exact ev_neg (by simp) (Ev.now _)
            · refine ev_pos rfl ?_
              cases dateOk (B (if L3.1.take datP.length=datP then L3.1.drop datP.length else L3.1))
              · exact ev_neg (by simp) (Ev.now _)
              · exact ev_pos rfl (Ev.now _)
      refine⟨n,_,a4,enter _ (hX.2 n hst _ main),?_⟩
      by_cases g:true=true∧L2.2.1=true∧L3.2.1=true∧L4.2.1=true∧L2.1=srvP++stoL∧(L3.1.take 6=datP∧dateOk (B (L3.1.drop 6))=true)∧valL xidP L4.1=true
      · rw [if_pos g]
        obtain⟨_,g2,g3,g4,gs,⟨gd,ge⟩,gx⟩:=g
        have hs:=(srv_val L2.1).mpr gs
        have hd:valL datP L3.1=true:=by
          unfold valL
          rw [Bool.and_eq_true]
          refine⟨decide_eq_true gd,?_⟩
          have:=date_fit _ ge
          rwa [B_toList] at this
        refine⟨?_,rfl,P4⟩
        have t2:L2.1.take srvP.length=srvP:=by rw [gs];rfl
        rw [g2,g3,g4,hs.1,hd,gx,if_pos (show L3.1.take datP.length=datP from gd),show L3.1.drop datP.length=L3.1.drop 6 from rfl,ge,if_pos t2,B_toList,show L2.1.drop srvP.length=stoL from hs.2]
        rfl
      · rw [if_neg g]
        simp only
        by_cases t2:L2.1.take srvP.length=srvP
        · by_cases t3:L3.1.take datP.length=datP
          · rw [if_pos t2,if_pos t3,B_toList]
            rw [← Bool.not_eq_true]
            intro h
            simp only [Bool.and_eq_true,beq_iff_eq] at h
            exact g ⟨rfl,h.1.1,h.2.1.1,h.2.2.1.1,(srv_val L2.1).mp ⟨h.1.2,h.2.2.2.2⟩,⟨t3,h.2.2.2.1⟩,h.2.2.1.2⟩
          · have e:valL datP L3.1=false:=by unfold valL;rw [decide_eq_false t3];rfl
            rw [e];simp
        · have e:valL srvP L2.1=false:=by unfold valL;rw [decide_eq_false t2];rfl
          rw [e];simp
theorem rbegun (S:ByteArray) (hS:S.size<4294967281):∃ n at' bad,Ev (fun k=>stowageref17_Reader_begun.f k S 0 false) (n,S,at',bad)∧(match beg S.toList with|none=>n=0|some q=>n=q.1∧bad=false∧Pos S at' q.2∧100≤q.1):=by
  have P0:Pos S 0 S.toList:=⟨Int.le_refl _,by omega,by simp⟩
  have hlen:=pos_len P0
  have jbad:∀ (n:Int) (s t:ByteArray) (a:Int) (b:Bool),Ev (fun k=>stowageref17_Reader_begun.j0 k n s t true S a b) (0,S,a,b):=fun n s t a b=>Ev.step (f:=fun _=>some (0,S,a,b)) (fun k=>by rw [stowageref17_Reader_begun.j0,if_pos rfl]) (Ev.now _)
  obtain⟨a1,P1,E1⟩:=rline S 0 false _ hS P0
  have hl1:=lineL_le S.toList
  unfold beg
  generalize hL:S.toList=l at *
  obtain⟨T1,Tlow⟩:=status_ev (lineL l).1 (by omega)
  have hl2:=lineL_le (lineL l).2.2
  obtain⟨a2,P2,E2⟩:=rline S a1 (false || !(lineL l).2.1) _ hS P1
  have hl3:=lineL_le (lineL (lineL l).2.2).2.2
  obtain⟨a3,P3,E3⟩:=rline S a2 ((false || !(lineL l).2.1) || !(lineL (lineL l).2.2).2.1) _ hS P2
  have hl4:=lineL_le (lineL (lineL (lineL l).2.2).2.2).2.2
  obtain⟨a4,P4,E4⟩:=rline S a3 (((false || !(lineL l).2.1) || !(lineL (lineL l).2.2).2.1) || !(lineL (lineL (lineL l).2.2).2.2).2.1) _ hS P3
  generalize hL1:lineL l=L1 at *
  generalize hL2:lineL L1.2.2=L2 at *
  generalize hL3:lineL L2.2.2=L3 at *
  generalize hL4:lineL L3.2.2=L4 at *
  obtain⟨bad,hbad⟩ : ∃ bad,((((false || !L1.2.1) || !L2.2.1) || !L3.2.1) || !L4.2.1)=bad:=⟨_,rfl⟩
  rw [hbad] at E4
  have enter:∀ r,Ev (fun k=>(if bad=true then(stowageref17_Reader_begun.j0 k ((stL L1.1).getD 0) (B L3.1) (B L4.1) true S a4 bad) else(if(stL L1.1).getD 0=0 then(stowageref17_Reader_begun.j0 k ((stL L1.1).getD 0) (B L3.1) (B L4.1) true S a4 bad) else(if(B L2.1).toList=([83,101,114,118,101,114,58,32,115,116,111,119,97,103,101]:List UInt8) then((stowageref3_Begins.f (B L3.1) (B datP)).bind fun t190=>(if t190=true then((stowageref3_Begins.f (B L4.1) (B xidP)).bind fun t191=>(stowageref17_Reader_begun.j0 k ((stL L1.1).getD 0) (B L3.1) (B L4.1) (!t191) S a4 bad)) else(stowageref17_Reader_begun.j0 k ((stL L1.1).getD 0) (B L3.1) (B L4.1) true S a4 bad))) else(stowageref17_Reader_begun.j0 k ((stL L1.1).getD 0) (B L3.1) (B L4.1) true S a4 bad))))) r→Ev (fun k=>stowageref17_Reader_begun.f k S 0 false) r:=by
    intro r hr
    simp only [stowageref17_Reader_begun.f]
    exact Ev.bind E1 (Ev.bind T1 (Ev.bind E2 (Ev.bind E3 (Ev.bind E4 hr))))
  have fail:∀ b2:Prop,(b2→False)→True:=fun _ _=>trivial
  cases hb:bad with
  | true=>
    rw [hb] at enter hbad
    refine⟨0,a4,true,enter _ (ev_pos rfl (jbad _ _ _ _ _)),?_⟩
    rw [if_neg]
    rintro ⟨g1,g2,g3,g4,_⟩
    rw [g1,g2,g3,g4] at hbad
    simp at hbad
  | false=>
    rw [hb] at enter hbad
    have oks:L1.2.1=true∧L2.2.1=true∧L3.2.1=true∧L4.2.1=true:=by
      revert hbad
      cases L1.2.1 <;> cases L2.2.1 <;> cases L3.2.1 <;> cases L4.2.1 <;> simp
    cases hst:stL L1.1 with
    | none=>
      rw [hst] at enter
      refine⟨0,a4,false,enter _ (ev_neg (by simp) (ev_pos rfl (jbad _ _ _ _ _))),?_⟩
      split
      · rfl
      · rename_i q hq
        by_cases g:L1.2.1=true∧L2.2.1=true∧L3.2.1=true∧L4.2.1=true∧L2.1=srvP++stoL∧(L3.1.take 6=datP∧dateOk (B (L3.1.drop 6))=true)∧valL xidP L4.1=true
        · rw [if_pos g] at hq;cases hq
        · rw [if_neg g] at hq;cases hq
    | some n=>
      rw [hst] at enter
      have hlow:=Tlow n hst
      by_cases gs:L2.1=srvP++stoL
      · by_cases gd:L3.1.take 6=datP
        · by_cases gx:L4.1.take 18=xidP
          · have l3:=take_len (p:=datP) gd
            have l4:=take_len (p:=xidP) gx
            obtain⟨v,_,D2⟩:=date_ev (B (L3.1.drop 6))
            have hfit:=fit_ev (B (L4.1.drop 18)) (by rw [B_size,List.length_drop];omega)
            rw [B_toList] at hfit
            have ed:dateOk (B (L3.1.drop 6))=dateOk (B (L3.1.drop 6)):=rfl
            have main:Ev (fun k=>stowageref17_Reader_begun.j0 k n (B L3.1) (B L4.1) (!true) S a4 false) (if dateOk (B (L3.1.drop 6))=true∧fitB (L4.1.drop 18)=true then n else 0,S,a4,false):=by
              refine Ev.step (f:=fun k=>_) (fun k=>by rw [stowageref17_Reader_begun.j0,if_neg (by simp),if_pos (by rw [B_size];simp only [datP,List.length_cons,List.length_nil] at l3;omega),B_ex _ _ (by simp only [datP,List.length_cons,List.length_nil] at l3;omega)]) ?_
              refine Ev.bind D2 ?_
              by_cases ge:dateOk (B (L3.1.drop 6))=true
              · refine ev_pos ge (ev_pos (by rw [B_size];simp only [xidP,List.length_cons,List.length_nil] at l4;omega) ?_)
                rw [B_ex _ _ (by simp only [xidP,List.length_cons,List.length_nil] at l4;omega)]
                refine Ev.bind hfit ?_
                by_cases gf:fitB (L4.1.drop 18)=true
                · exact ev_pos gf (ev_eq (Ev.now _) (by rw [if_pos ⟨ge,gf⟩]))
                · exact ev_neg gf (ev_eq (Ev.now _) (by rw [if_neg (fun h=>gf h.2)]))
              · exact ev_neg ge (ev_eq (Ev.now _) (by rw [if_neg (fun h=>ge h.1)]))
            have hr:=enter _ (ev_neg (by simp) (ev_neg (show ¬ ((some n).getD 0=0) by simp only [Option.getD_some];omega) (ev_pos (by rw [B_toList,gs];rfl) (ev_some (begins_eq L3.1 datP) (ev_pos (by rw [decide_eq_true (show L3.1.take datP.length=datP from gd)]) (ev_some (begins_eq L4.1 xidP) (by rw [decide_eq_true (show L4.1.take xidP.length=xidP from gx)];exact main)))))))
            refine⟨_,a4,false,hr,?_⟩
            by_cases g:L1.2.1=true∧L2.2.1=true∧L3.2.1=true∧L4.2.1=true∧L2.1=srvP++stoL∧(L3.1.take 6=datP∧dateOk (B (L3.1.drop 6))=true)∧valL xidP L4.1=true
            · rw [if_pos g]
              have gf:fitB (L4.1.drop 18)=true:=by
                have:=g.2.2.2.2.2.2
                unfold valL at this
                rw [Bool.and_eq_true] at this
                exact this.2
              rw [if_pos ⟨g.2.2.2.2.2.1.2,gf⟩]
              exact⟨rfl,rfl,P4,hlow⟩
            · rw [if_neg g]
              simp only
              rw [if_neg]
              rintro ⟨ge,gf⟩
              refine g ⟨oks.1,oks.2.1,oks.2.2.1,oks.2.2.2,gs,⟨gd,ge⟩,?_⟩
              unfold valL
              rw [Bool.and_eq_true]
              exact⟨decide_eq_true gx,gf⟩
          · have hr:=enter _ (ev_neg (by simp) (ev_neg (show ¬ ((some n).getD 0=0) by simp only [Option.getD_some];omega) (ev_pos (by rw [B_toList,gs];rfl) (ev_some (begins_eq L3.1 datP) (ev_pos (by rw [decide_eq_true (show L3.1.take datP.length=datP from gd)]) (ev_some (begins_eq L4.1 xidP) (by rw [decide_eq_false (show ¬ L4.1.take xidP.length=xidP from gx)];exact jbad _ _ _ _ _)))))))
            refine⟨0,a4,false,hr,?_⟩
            rw [if_neg]
            rintro ⟨_,_,_,_,_,_,g⟩
            unfold valL at g
            rw [Bool.and_eq_true,decide_eq_true_eq] at g
            exact gx g.1
        · have hr:=enter _ (ev_neg (by simp) (ev_neg (show ¬ ((some n).getD 0=0) by simp only [Option.getD_some];omega) (ev_pos (by rw [B_toList,gs];rfl) (ev_some (begins_eq L3.1 datP) (ev_neg (by rw [decide_eq_false (show ¬ L3.1.take datP.length=datP from gd)];simp) (jbad _ _ _ _ _))))))
          refine⟨0,a4,false,hr,?_⟩
          rw [if_neg (fun h=>gd h.2.2.2.2.2.1.1)]
      · have hr:=enter _ (ev_neg (by simp) (ev_neg (show ¬ ((some n).getD 0=0) by simp only [Option.getD_some];omega) (ev_neg (by rw [B_toList];exact gs) (jbad _ _ _ _ _))))
        refine⟨0,a4,false,hr,?_⟩
        rw [if_neg (fun h=>gs h.2.2.2.2.1)]
def ccL:List UInt8:=[67,111,110,110,101,99,116,105,111,110,58,32,99,108,111,115,101]
def clN:List UInt8:=[67,111,110,116,101,110,116,45,76,101,110,103,116,104]
def ownB (l:List UInt8):Bool:=(reply_own.f (B l)).getD false
theorem own_a (l:List UInt8):reply_own.f (B l)=some (ownB l):=by
  unfold ownB reply_own.f
  repeat' split
  all_goals rfl
theorem own_b (l:List UInt8):stowageref17_own.f (B l)=some (ownB l):=by
  unfold ownB reply_own.f stowageref17_own.f
  repeat' split
  all_goals first
    | rfl
    | (rename_i h;simp [h])
    | skip
theorem p10 (j m:Nat):0<(10:Int) ^ j∧(10:Int) ^ j≤10 ^ (j+m):=by
  have h0:∀ j:Nat,0<(10:Int) ^ j:=fun j=>by
    induction j with
    | zero=>decide
    | succ j ih=>rw [Int.pow_succ];omega
  refine⟨h0 j,?_⟩
  induction m with
  | zero=>exact Int.le_refl _
  | succ m ih=>
    have:=h0 (j+m)
    rw [← Nat.add_assoc,Int.pow_succ]
    omega
theorem digB_bd (l:List UInt8):∀ (n:Int) (j:Nat),0≤n→n<(10:Int) ^ j→l.length+j≤18→(digB l n).2=true→0≤(digB l n).1∧(digB l n).1<(10:Int) ^ 18:=by
  induction l with
  | nil=>
    intro n j h0 h1 hj _
    refine⟨h0,Int.lt_of_lt_of_le h1 ?_⟩
    have:=(p10 j (18-j)).2
    rw [List.length_nil] at hj
    rwa [show j+(18-j)=18 by omega] at this
  | cons b l ih=>
    intro n j h0 h1 hj h
    rw [digB] at h ⊢
    by_cases b1:(b.toNat:Int)<48
    · rw [if_pos b1] at h;simp at h
    · by_cases b2:(b.toNat:Int)>57
      · rw [if_neg b1,if_pos b2] at h;simp at h
      · rw [if_neg b1,if_neg b2] at h ⊢
        rw [List.length_cons] at hj
        have hp:(10:Int) ^ j≤10 ^ 17:=by
          have:=(p10 j (17-j)).2
          rwa [show j+(17-j)=17 by omega] at this
        have e17:(10:Int) ^ 17=100000000000000000:=by decide
        have hs:(10:Int) ^ (j+1)=10 ^ j*10:=Int.pow_succ _ _
        have e:wrap64 (wrap64 (10*n)+((b.toNat:Int)-48) % 256)=10*n+((b.toNat:Int)-48):=by
          rw [show((b.toNat:Int)-48) % 256=(b.toNat:Int)-48 by omega,w64 (n:=10*n) (by omega) (by omega),w64 (by omega) (by omega)]
        rw [e] at h ⊢
        exact ih _ (j+1) (by omega) (by omega) (by omega) h
theorem intB_bd (l:List UInt8) (h:(intB l).2=true):0≤(intB l).1∧(intB l).1<1000000000000000000:=by
  unfold intB at h ⊢
  by_cases g:l.length<1∨18<l.length∨(1<l.length∧l[0]? = some 48)
  · rw [if_pos g] at h;simp at h
  · rw [if_neg g] at h ⊢
    have:=digB_bd l 0 0 (Int.le_refl _) (by decide) (by omega) h
    have e18:(10:Int) ^ 18=1000000000000000000:=by decide
    omega
def hdr (bare:Bool):Nat→List UInt8→List S52→Option (List S52×Int×List UInt8)
  | 0,_,_=>none
  | f+1,l,acc=>
    if(lineL l).2.1=true then
      if bare=true∧(lineL l).1 = [] then some (acc,0,(lineL l).2.2)
      else if bare=true∧(lineL l).1=ccL then(if(lineL (lineL l).2.2).2.1=true∧(lineL (lineL l).2.2).1 = [] then some (acc,0,(lineL (lineL l).2.2).2.2) else none)
      else match headL (lineL l).1 with
        | none=>none
        | some p=>if bare=false∧p.1=clN then
            (if(lineL (lineL l).2.2).2.1=true∧(lineL (lineL l).2.2).1=ccL then(if(intB p.2).2=true∧(lineL (lineL (lineL l).2.2).2.2).2.1=true∧(lineL (lineL (lineL l).2.2).2.2).1 = [] then some (acc,(intB p.2).1,(lineL (lineL (lineL l).2.2).2.2).2.2) else none)
             else if(intB p.2).2=true∧(lineL (lineL l).2.2).2.1=true∧(lineL (lineL l).2.2).1 = [] then some (acc,(intB p.2).1,(lineL (lineL l).2.2).2.2) else none)
          else if ownB p.1=true then none else hdr bare f (lineL l).2.2 (acc ++ [⟨B p.1,B p.2⟩])
    else none
theorem headL_cut (l:List UInt8) (p:List UInt8×List UInt8) (h:headL l=some p):cutP 58 32 l=some p∧(p.1.all tokB && p.1 != [])=true∧fitB p.2=true:=by
  unfold headL at h
  cases hc:cutP 58 32 l with
  | none=>rw [hc] at h;cases h
  | some q=>
    rw [hc] at h
    simp only at h
    by_cases g:(q.1.all tokB && q.1 != [])=true∧fitB q.2=true
    · rw [if_pos g] at h
      obtain rfl:=Option.some.inj h
      exact⟨rfl,g⟩
    · rw [if_neg g] at h;cases h
theorem pcut_ev (k0:Unit) (bare:Bool) (acc:List S52) (l:List UInt8) (hl:l.length<4294967281) (x8:Bool) (S:ByteArray) (at_:Int) :
    (headL l=none→Ev (fun k=>reply_reader_headers.j1 k bare acc (B l) x8 false S at_) (([]:List S52),0,false,S,at_)) ∧
    ∀ p,headL l=some p → ∀ r,Ev (fun k=>reply_reader_headers.j2 k bare acc (B p.1) (B p.2) false S at_) r→Ev (fun k=>reply_reader_headers.j1 k bare acc (B l) x8 false S at_) r:=by
  have bad:∀ a b,Ev (fun k=>reply_reader_headers.j2 k bare acc a b true S at_) (([]:List S52),0,false,S,at_):=fun a b=>Ev.step (f:=fun _=>some (([]:List S52),0,false,S,at_)) (fun k=>by rw [reply_reader_headers.j2,if_pos rfl]) (Ev.now _)
  have enter:∀ r,Ev (fun k=>(strings_Cut.f (B l) (⟨#[58,32]⟩ : ByteArray)).bind fun bt369=>(if bt369.2.2=true then((chars_Token.f k bt369.1).bind fun t372=>(if t372=true then((reply_may.f k bt369.2.1).bind fun t373=>(reply_reader_headers.j2 k bare acc bt369.1 bt369.2.1 (!t373) S at_)) else(reply_reader_headers.j2 k bare acc bt369.1 bt369.2.1 true S at_))) else(reply_reader_headers.j2 k bare acc bt369.1 bt369.2.1 true S at_))) r→Ev (fun k=>reply_reader_headers.j1 k bare acc (B l) x8 false S at_) r:=fun r hr=>
    Ev.step (fun k=>by rw [reply_reader_headers.j1,if_neg Bool.false_ne_true]) hr
  cases hc:cutP 58 32 l with
  | none=>
    have e:headL l=none:=by unfold headL;rw [hc]
    rw [e]
    refine⟨fun _=>enter _ (ev_some (pcut_eq l hl) ?_),fun p hp=>by cases hp⟩
    rw [hc]
    exact ev_neg (by simp) (bad _ _)
  | some p=>
    have el:=congrArg List.length (cutP_eq 58 32 l p hc)
    simp only [List.length_append,List.length_cons] at el
    have ht:=token_ev (B p.1) (by rw [B_size];omega)
    have hm:=may_ev (B p.2) (by rw [B_size];omega)
    rw [B_toList] at ht hm
    have e:headL l=if(p.1.all tokB && p.1 != [])=true∧fitB p.2=true then some p else none:=by unfold headL;rw [hc]
    have go:∀ r,((p.1.all tokB && p.1 != [])=true→Ev (fun k=>reply_reader_headers.j2 k bare acc (B p.1) (B p.2) (!fitB p.2) S at_) r)→(¬ (p.1.all tokB && p.1 != [])=true→Ev (fun k=>reply_reader_headers.j2 k bare acc (B p.1) (B p.2) true S at_) r)→Ev (fun k=>reply_reader_headers.j1 k bare acc (B l) x8 false S at_) r:=by
      intro r h1 h2
      refine enter r (ev_some (pcut_eq l hl) ?_)
      rw [hc]
      refine ev_pos rfl (Ev.bind ht ?_)
      by_cases g:(p.1.all tokB && p.1 != [])=true
      · exact ev_pos g (Ev.bind hm (h1 g))
      · exact ev_neg g (h2 g)
    rw [e]
    by_cases g:(p.1.all tokB && p.1 != [])=true∧fitB p.2=true
    · rw [if_pos g]
      refine⟨fun h=>(by cases h),fun q hq r hr=>?_⟩
      obtain rfl:=Option.some.inj hq
      exact go r (fun _=>by rw [g.2];exact hr) (fun h=>absurd g.1 h)
    · rw [if_neg g]
      refine⟨fun _=>go _ (fun h=>?_) (fun _=>bad _ _),fun q hq=>by cases hq⟩
      have:fitB p.2=false:=by
        rw [← Bool.not_eq_true];exact fun hf=>g ⟨h,hf⟩
      rw [this]
      exact bad _ _
theorem pheaders (bare:Bool) (S:ByteArray) (hS:S.size<4294967281) (f:Nat):∀ (l:List UInt8) (acc:List S52) (at_:Int),Pos S at_ l→l.length<f→acc.length+l.length<4294967281 →
    ∃ hs n ok at',Ev (fun k=>reply_reader_headers.l0 k bare acc S at_) (hs,n,ok,S,at')∧(match hdr bare f l acc with|none=>ok=false|some q=>ok=true∧hs=q.1∧n=q.2.1∧Pos S at' q.2.2∧0≤q.2.1∧q.2.1≤1000000000000000000):=by
  induction f with
  | zero=>intro l acc at_ _ h;omega
  | succ f ih=>
    intro l acc at_ P hf hacc
    obtain⟨a1,P1,E1⟩:=pline S at_ l hS P
    have hle:=lineL_le l
    have hlen:=pos_len P
    obtain⟨a2,P2,E2⟩:=pline S a1 _ hS P1
    obtain⟨a3,P3,E3⟩:=pline S a2 _ hS P2
    rw [hdr]
    cases h1:(lineL l).2.1 with
    | false=>
      refine⟨[],0,false,a1,Ev.step (f:=fun k=>_) (fun k=>by rw [reply_reader_headers.l0]) (ev_some E1 (by rw [h1];exact ev_neg (by simp) (Ev.now _))),?_⟩
      simp
    | true=>
      have hshr:=lineL_len l h1
      rw [if_pos rfl]
      generalize hL:lineL l=L at *
      generalize hM:lineL L.2.2=M at *
      generalize hK:lineL M.2.2=K at *
      have enter:∀ r,(bare=true→L.1 = []→Ev (fun k=>reply_reader_headers.j1 k bare acc (B L.1) true true S a1) r)→(bare=true→¬ L.1 = []→Ev (fun k=>reply_reader_headers.j1 k bare acc (B L.1) true (L.1 == ccL) S a1) r)→(bare=false→Ev (fun k=>reply_reader_headers.j1 k bare acc (B L.1) true false S a1) r)→Ev (fun k=>reply_reader_headers.l0 k bare acc S at_) r:=by
        intro r c1 c2 c3
        refine Ev.step (f:=fun k=>_) (fun k=>by rw [reply_reader_headers.l0]) (ev_some E1 ?_)
        rw [h1]
        refine ev_pos rfl ?_
        cases bare with
        | false=>exact ev_neg (by simp) (c3 rfl)
        | true=>
          refine ev_pos rfl ?_
          by_cases g:L.1 = []
          · exact ev_pos (by rw [B_toList];exact g) (c1 rfl g)
          · refine ev_neg (by rw [B_toList];exact g) ?_
            rw [B_toList]
            exact c2 rfl g
      by_cases g1:bare=true∧L.1 = []
      · rw [if_pos g1]
        refine⟨acc,0,true,a1,enter _ (fun _ _=>?_) (fun _ h=>absurd g1.2 h) (fun h=>absurd (h.symm.trans g1.1) (by decide)),rfl,rfl,rfl,P1,Int.le_refl _,show(0:Int)≤1000000000000000000 by decide⟩
        refine Ev.step (f:=fun k=>_) (fun k=>by rw [reply_reader_headers.j1,if_pos rfl]) (ev_pos (by rw [B_toList];exact g1.2) (ev_pos rfl (ev_eq (Ev.now _) ?_)))
        rw [B_toList,g1.2];rfl
      · rw [if_neg g1]
        by_cases g2:bare=true∧L.1=ccL
        · rw [if_pos g2]
          have ecc:(L.1 == ccL)=true:=by rw [g2.2];exact beq_self_eq_true _
          have hne:¬ L.1 = []:=fun h=>g1 ⟨g2.1,h⟩
          have main:Ev (fun k=>reply_reader_headers.l0 k bare acc S at_) (acc,0,(M.2.1 && (M.1 == [])),S,a2):=by
            refine enter _ (fun _ h=>absurd h hne) (fun _ _=>?_) (fun h=>absurd (h.symm.trans g2.1) (by decide))
            rw [ecc]
            refine Ev.step (f:=fun k=>_) (fun k=>by rw [reply_reader_headers.j1,if_pos rfl]) (ev_neg (by rw [B_toList];exact hne) (ev_some E2 ?_))
            cases hm:M.2.1
            · exact ev_neg (by simp) (Ev.now _)
            · refine ev_pos rfl (ev_eq (Ev.now _) ?_)
              rw [B_toList];rfl
          refine⟨_,_,_,_,main,?_⟩
          by_cases g3:M.2.1=true∧M.1 = []
          · rw [if_pos g3]
            refine⟨by rw [g3.1,g3.2];rfl,rfl,rfl,P2,Int.le_refl _,show(0:Int)≤1000000000000000000 by decide⟩
          · rw [if_neg g3]
            simp only
            rw [← Bool.not_eq_true,Bool.and_eq_true,beq_iff_eq]
            exact g3
        · rw [if_neg g2]
          have toj1:∀ r,Ev (fun k=>reply_reader_headers.j1 k bare acc (B L.1) true false S a1) r→Ev (fun k=>reply_reader_headers.l0 k bare acc S at_) r:=by
            intro r hr
            refine enter r (fun hb h=>absurd ⟨hb,h⟩ g1) (fun hb h=>?_) (fun _=>hr)
            rw [show(L.1 == ccL)=false by rw [beq_eq_false_iff_ne];exact fun h=>g2 ⟨hb,h⟩]
            exact hr
          obtain⟨c1,c2⟩:=pcut_ev () bare acc L.1 (by omega) true S a1
          cases hh:headL L.1 with
          | none=>exact⟨_,_,_,_,toj1 _ (c1 hh),rfl⟩
          | some p=>
            have hcut:=headL_cut _ _ hh
            have pl:=congrArg List.length (cutP_eq 58 32 _ p hcut.1)
            simp only [List.length_append,List.length_cons] at pl
            simp only
            have toj2:∀ r,Ev (fun k=>reply_reader_headers.j2 k bare acc (B p.1) (B p.2) false S a1) r→Ev (fun k=>reply_reader_headers.l0 k bare acc S at_) r:=fun r hr=>toj1 r (c2 p hh r hr)
            by_cases g3:bare=false∧p.1=clN
            · rw [if_pos g3]
              have hi:=encInt_ev (B p.2) (by rw [B_size];omega)
              rw [B_toList] at hi
              have toj4:∀ r,Ev (fun k=>reply_reader_headers.j4 k acc (B M.1) M.2.1 (intB p.2).1 (intB p.2).2 (M.2.1 && (M.1 == ccL)) S a2) r→Ev (fun k=>reply_reader_headers.l0 k bare acc S at_) r:=by
                intro r hr
                refine toj2 r ?_
                refine Ev.step (f:=fun k=>_) (fun k=>by rw [reply_reader_headers.j2,if_neg Bool.false_ne_true]) ?_
                refine ev_pos (by rw [B_toList];exact g3.2) ?_
                rw [g3.1]
                refine Ev.step (f:=fun k=>_) (fun k=>by rw [reply_reader_headers.j3,if_pos (show(!false)=true from rfl)]) ?_
                refine Ev.bind hi (ev_some E2 ?_)
                cases hm:M.2.1
                · rw [hm] at hr
                  exact ev_neg (by simp) hr
                · rw [hm] at hr
                  refine ev_pos rfl ?_
                  rw [B_toList]
                  exact hr
              by_cases g4:M.2.1=true∧M.1=ccL
              · rw [if_pos g4]
                have main:Ev (fun k=>reply_reader_headers.l0 k bare acc S at_) (acc,(intB p.2).1,((intB p.2).2 && (K.2.1 && (K.1 == []))),S,a3):=by
                  refine toj4 _ ?_
                  rw [g4.1,g4.2,show(true && (ccL == ccL))=true by rw [beq_self_eq_true];rfl]
                  refine Ev.step (f:=fun k=>_) (fun k=>by rw [reply_reader_headers.j4,if_pos rfl]) (ev_some E3 ?_)
                  cases (intB p.2).2
                  · exact ev_neg (by simp) (Ev.now _)
                  · refine ev_pos rfl ?_
                    cases hk:K.2.1
                    · exact ev_neg (by simp) (Ev.now _)
                    · refine ev_pos rfl (ev_eq (Ev.now _) ?_)
                      rw [B_toList];rfl
                refine⟨_,_,_,_,main,?_⟩
                by_cases g5:(intB p.2).2=true∧K.2.1=true∧K.1 = []
                · rw [if_pos g5]
                  have hb:=intB_bd _ g5.1
                  refine⟨by rw [g5.1,g5.2.1,g5.2.2];rfl,rfl,rfl,P3,hb.1,Int.le_of_lt hb.2⟩
                · rw [if_neg g5]
                  simp only
                  rw [← Bool.not_eq_true,Bool.and_eq_true,Bool.and_eq_true,beq_iff_eq]
                  exact g5
              · rw [if_neg g4]
                have e4:(M.2.1 && (M.1 == ccL))=false:=by rw [← Bool.not_eq_true,Bool.and_eq_true,beq_iff_eq];exact g4
                have main:Ev (fun k=>reply_reader_headers.l0 k bare acc S at_) (acc,(intB p.2).1,((intB p.2).2 && (M.2.1 && (M.1 == []))),S,a2):=by
                  refine toj4 _ ?_
                  rw [e4]
                  refine Ev.step (f:=fun k=>_) (fun k=>by rw [reply_reader_headers.j4,if_neg Bool.false_ne_true]) ?_
                  cases (intB p.2).2
                  · exact ev_neg (by simp) (Ev.now _)
                  · refine ev_pos rfl ?_
                    cases hk:M.2.1
                    · exact ev_neg (by simp) (Ev.now _)
                    · refine ev_pos rfl (ev_eq (Ev.now _) ?_)
                      rw [B_toList];rfl
                refine⟨_,_,_,_,main,?_⟩
                by_cases g5:(intB p.2).2=true∧M.2.1=true∧M.1 = []
                · rw [if_pos g5]
                  have hb:=intB_bd _ g5.1
                  refine⟨by rw [g5.1,g5.2.1,g5.2.2];rfl,rfl,rfl,P2,hb.1,Int.le_of_lt hb.2⟩
                · rw [if_neg g5]
                  simp only
                  rw [← Bool.not_eq_true,Bool.and_eq_true,Bool.and_eq_true,beq_iff_eq]
                  exact g5
            · rw [if_neg g3]
              have toown:∀ r,Ev (fun k=>(reply_own.f (B p.1)).bind fun t384=>(if t384=true then(some (([]:List S52),0,false,S,a1)) else(if acc.length<4398046511104 then(reply_reader_headers.l0 k bare (acc ++ [(⟨B p.1,B p.2⟩ : S52)]) S a1) else(none)))) r→Ev (fun k=>reply_reader_headers.l0 k bare acc S at_) r:=by
                intro r hr
                have hj3:Ev (fun k=>reply_reader_headers.j3 k bare acc (B p.1) (B p.2) false S a1) r:=Ev.step (fun k=>by rw [reply_reader_headers.j3,if_neg Bool.false_ne_true]) hr
                refine toj2 r ?_
                refine Ev.step (f:=fun k=>_) (fun k=>by rw [reply_reader_headers.j2,if_neg Bool.false_ne_true]) ?_
                by_cases gp:p.1=clN
                · refine ev_pos (by rw [B_toList];exact gp) ?_
                  have:bare=true:=by cases bare with|true=>rfl|false=>exact absurd ⟨rfl,gp⟩ g3
                  rw [this] at hj3 ⊢
                  exact hj3
                · exact ev_neg (by rw [B_toList];exact gp) hj3
              by_cases g4:ownB p.1=true
              · rw [if_pos g4]
                exact⟨[],0,false,a1,toown _ (ev_some (own_a p.1) (ev_pos g4 (Ev.now _))),rfl⟩
              · rw [if_neg g4]
                obtain⟨hs,n,ok,at',he,hm⟩:=ih L.2.2 (acc ++ [⟨B p.1,B p.2⟩]) a1 P1 (by omega) (by rw [List.length_append,List.length_singleton];omega)
                refine⟨hs,n,ok,at',toown _ (ev_some (own_a p.1) ?_),hm⟩
                exact ev_neg g4 (ev_pos (by omega) he)
abbrev Got:Type:=Int×(List S52)×List Int×Int×Bool
def noGot:Got:=(0,[],[],0,false)
theorem rloop (head bare:Bool) (S:ByteArray) (hS:S.size<4294967281) (st:Int) (hb:stowageref17_Bare.f st=some bare) (f:Nat):∀ (l:List UInt8) (acc:List S52) (at_:Int),Pos S at_ l→l.length<f→acc.length+l.length<4294967281 →
    (hdr bare f l acc=none→Ev (fun k=>stowageref17_Parse.l0 k head 0 S at_ false st acc 0 true) noGot) ∧
    ∀ q,hdr bare f l acc=some q → ∀ r:Got,(∀ at',Pos S at' q.2.2→Ev (fun k=>stowageref17_Parse.j6 k head q.2.1 S at' false st q.1 0 true) r)→Ev (fun k=>stowageref17_Parse.l0 k head 0 S at_ false st acc 0 true) r:=by
  induction f with
  | zero=>intro l acc at_ _ h;omega
  | succ f ih=>
    intro l acc at_ P hf hacc
    obtain⟨a1,P1,E1⟩:=rline S at_ false l hS P
    have hle:=lineL_le l
    have hlen:=pos_len P
    rw [hdr]
    cases h1:(lineL l).2.1 with
    | false=>
      refine⟨fun _=>?_,fun q hq=>by simp at hq⟩
      refine Ev.step (f:=fun k=>_) (fun k=>by rw [stowageref17_Parse.l0]) ?_
      refine Ev.bind E1 ?_
      rw [h1]
      exact ev_pos rfl (Ev.now _)
    | true=>
      have hshr:=lineL_len l h1
      rw [if_pos rfl]
      rw [h1] at E1
      obtain⟨a2,P2,E2⟩:=rline S a1 false _ hS P1
      generalize hL:lineL l=L at *
      generalize hM:lineL L.2.2=M at *
      obtain⟨a3,P3,E3⟩:=rline S a2 (false || !M.2.1) _ hS P2
      generalize hK:lineL M.2.2=K at *
      have enter:∀ r,Ev (fun k=>stowageref17_Parse.j1 k head 0 (B L.1) (bare && (L.1 == [])) S a1 false st acc 0 true) r→Ev (fun k=>stowageref17_Parse.l0 k head 0 S at_ false st acc 0 true) r:=by
        intro r hr
        refine Ev.step (f:=fun k=>_) (fun k=>by rw [stowageref17_Parse.l0]) ?_
        refine Ev.bind E1 (ev_neg (by simp) (ev_some hb ?_))
        cases bare with
        | false=>exact ev_neg (by simp) hr
        | true=>
          refine ev_pos rfl ?_
          simp only
          rw [B_toList]
          exact hr
      by_cases g1:bare=true∧L.1 = []
      · rw [if_pos g1]
        have e1:(bare && (L.1 == []))=true:=by rw [g1.1,g1.2];rfl
        refine⟨fun h=>(by cases h),fun q hq r hr=>enter r ?_⟩
        obtain rfl:=Option.some.inj hq
        rw [e1]
        exact Ev.step (fun k=>by rw [stowageref17_Parse.j1,if_pos rfl]) (hr a1 P1)
      · rw [if_neg g1]
        have e1:(bare && (L.1 == []))=false:=by rw [← Bool.not_eq_true,Bool.and_eq_true,beq_iff_eq];exact g1
        have enter2:∀ r,Ev (fun k=>stowageref17_Parse.j2 k head 0 (B L.1) (bare && (L.1 == ccL)) S a1 false st acc 0 true) r→Ev (fun k=>stowageref17_Parse.l0 k head 0 S at_ false st acc 0 true) r:=by
          intro r hr
          refine enter r ?_
          rw [e1]
          refine Ev.step (f:=fun k=>_) (fun k=>by rw [stowageref17_Parse.j1,if_neg Bool.false_ne_true]) ?_
          refine ev_some hb ?_
          cases bare with
          | false=>exact ev_neg (by simp) hr
          | true=>
            refine ev_pos rfl ?_
            rw [B_toList]
            exact hr
        by_cases g2:bare=true∧L.1=ccL
        · rw [if_pos g2]
          have e2:(bare && (L.1 == ccL))=true:=by rw [g2.1,g2.2];decide
          have enter3:∀ r,Ev (fun k=>if(B M.1).toList=([]:List UInt8) then(if(false || !M.2.1)=true then(some ((0,[],[],0,false):Got)) else(stowageref17_Parse.j6 k head 0 S a2 (false || !M.2.1) st acc 0 true)) else(some ((0,[],[],0,false):Got))) r→Ev (fun k=>stowageref17_Parse.l0 k head 0 S at_ false st acc 0 true) r:=by
            intro r hr
            refine enter2 r ?_
            rw [e2]
            refine Ev.step (f:=fun k=>_) (fun k=>by rw [stowageref17_Parse.j2,if_pos rfl]) ?_
            exact Ev.bind E2 hr
          by_cases g3:M.2.1=true∧M.1 = []
          · rw [if_pos g3]
            refine⟨fun h=>(by cases h),fun q hq r hr=>enter3 r ?_⟩
            obtain rfl:=Option.some.inj hq
            rw [g3.1]
            exact ev_pos (by rw [B_toList];exact g3.2) (ev_neg (by simp) (hr a2 P2))
          · rw [if_neg g3]
            refine⟨fun _=>enter3 _ ?_,fun q hq=>by cases hq⟩
            by_cases g4:M.1 = []
            · have:M.2.1=false:=by rw [← Bool.not_eq_true];exact fun h=>g3 ⟨h,g4⟩
              rw [this]
              exact ev_pos (by rw [B_toList];exact g4) (ev_pos rfl (Ev.now _))
            · exact ev_neg (by rw [B_toList];exact g4) (Ev.now _)
        · rw [if_neg g2]
          have e2:(bare && (L.1 == ccL))=false:=by rw [← Bool.not_eq_true,Bool.and_eq_true,beq_iff_eq];exact g2
          have hh:=header_ev L.1 (by omega)
          cases hhead:headL L.1 with
          | none=>
            rw [hhead] at hh
            refine⟨fun _=>enter2 _ ?_,fun q hq=>by cases hq⟩
            rw [e2]
            refine Ev.step (f:=fun k=>_) (fun k=>by rw [stowageref17_Parse.j2,if_neg Bool.false_ne_true]) ?_
            exact Ev.bind hh (ev_neg (by simp) (Ev.now _))
          | some p=>
            rw [hhead] at hh
            have hcut:=headL_cut _ _ hhead
            have pl:=congrArg List.length (cutP_eq 58 32 _ p hcut.1)
            simp only [List.length_append,List.length_cons] at pl
            simp only
            have enter3:∀ r,Ev (fun k=>stowageref17_Parse.j3 k head 0 (!bare && (p.1 == clN)) S a1 false st acc 0 true (B p.1) (B p.2)) r→Ev (fun k=>stowageref17_Parse.l0 k head 0 S at_ false st acc 0 true) r:=by
              intro r hr
              refine enter2 r ?_
              rw [e2]
              refine Ev.step (f:=fun k=>_) (fun k=>by rw [stowageref17_Parse.j2,if_neg Bool.false_ne_true]) ?_
              refine Ev.bind hh (ev_pos rfl (ev_some hb ?_))
              cases bare with
              | true=>exact ev_pos rfl hr
              | false=>
                refine ev_neg (by simp) ?_
                simp only
                rw [B_toList]
                exact hr
            by_cases g3:bare=false∧p.1=clN
            · rw [if_pos g3]
              have e3:(!bare && (p.1 == clN))=true:=by rw [g3.1,g3.2];decide
              have hi:=refInt_ev (B p.2) (by rw [B_size];omega)
              rw [B_toList] at hi
              have j5:∀ (x:Bool) (a:Int) (bd:Bool) r,(x=true→r=noGot)→(x=false→Ev (fun k=>stowageref17_Parse.j6 k head (intB p.2).1 S a bd st acc 0 true) r)→Ev (fun k=>stowageref17_Parse.j5 k head (intB p.2).1 x S a bd st acc 0 true) r:=by
                intro x a bd r c1 c2
                cases x with
                | true=>rw [c1 rfl];exact Ev.step (f:=fun _=>some noGot) (fun k=>by rw [stowageref17_Parse.j5,if_pos rfl];rfl) (Ev.now _)
                | false=>exact Ev.step (fun k=>by rw [stowageref17_Parse.j5,if_neg Bool.false_ne_true]) (c2 rfl)
              have j4:∀ (t:List UInt8) (a:Int) (bd:Bool) r,(¬ ((intB p.2).2=true∧t = []∧bd=false)→r=noGot)→((intB p.2).2=true∧t = []∧bd=false→Ev (fun k=>stowageref17_Parse.j6 k head (intB p.2).1 S a bd st acc 0 true) r)→Ev (fun k=>stowageref17_Parse.j4 k head (intB p.2).1 (intB p.2).2 (B t) S a bd st acc 0 true) r:=by
                intro t a bd r c1 c2
                refine Ev.step (f:=fun k=>_) (fun k=>by rw [stowageref17_Parse.j4]) ?_
                by_cases x1:(intB p.2).2=true
                · refine ev_pos x1 ?_
                  by_cases x2:t = []
                  · refine ev_pos (by rw [B_toList];exact x2) (j5 bd a bd r (fun h=>c1 (fun g=>?_)) (fun h=>c2 ⟨x1,x2,h⟩))
                    rw [g.2.2] at h;cases h
                  · exact ev_neg (by rw [B_toList];exact x2) (j5 true a bd r (fun _=>c1 (fun g=>x2 g.2.1)) (fun h=>by cases h))
                · exact ev_neg x1 (j5 true a bd r (fun _=>c1 (fun g=>x1 g.1)) (fun h=>by cases h))
              by_cases g4:M.2.1=true∧M.1=ccL
              · rw [if_pos g4]
                have enter4:∀ r,Ev (fun k=>stowageref17_Parse.j4 k head (intB p.2).1 (intB p.2).2 (B K.1) S a3 ((false || !M.2.1) || !K.2.1) st acc 0 true) r→Ev (fun k=>stowageref17_Parse.l0 k head 0 S at_ false st acc 0 true) r:=by
                  intro r hr
                  refine enter3 r ?_
                  rw [e3]
                  refine Ev.step (f:=fun k=>_) (fun k=>by rw [stowageref17_Parse.j3,if_pos rfl]) ?_
                  refine Ev.bind hi (Ev.bind E2 (ev_pos (by rw [B_toList];exact g4.2) ?_))
                  exact Ev.bind E3 hr
                by_cases g5:(intB p.2).2=true∧K.2.1=true∧K.1 = []
                · rw [if_pos g5]
                  refine⟨fun h=>(by cases h),fun q hq r hr=>enter4 r (j4 _ _ _ _ (fun h=>absurd ⟨g5.1,g5.2.2,by rw [g4.1,g5.2.1];rfl⟩ h) (fun _=>?_))⟩
                  obtain rfl:=Option.some.inj hq
                  rw [g4.1,g5.2.1]
                  exact hr a3 P3
                · rw [if_neg g5]
                  refine⟨fun _=>enter4 _ (j4 _ _ _ _ (fun _=>rfl) (fun h=>?_)),fun q hq=>by cases hq⟩
                  refine absurd ⟨h.1,?_,h.2.1⟩ g5
                  have:=h.2.2
                  rw [g4.1] at this
                  simpa using this
              · rw [if_neg g4]
                have enter4:∀ r,Ev (fun k=>stowageref17_Parse.j4 k head (intB p.2).1 (intB p.2).2 (B M.1) S a2 (false || !M.2.1) st acc 0 true) r→Ev (fun k=>stowageref17_Parse.l0 k head 0 S at_ false st acc 0 true) r:=by
                  intro r hr
                  refine enter3 r ?_
                  rw [e3]
                  refine Ev.step (f:=fun k=>_) (fun k=>by rw [stowageref17_Parse.j3,if_pos rfl]) ?_
                  refine Ev.bind hi (Ev.bind E2 (ev_neg ?_ hr))
                  rw [B_toList]
                  intro h
                  refine g4 ⟨?_,h⟩
                  cases hm:M.2.1 with
                  | true=>rfl
                  | false=>
                    have:=(lineL_no L.2.2 (by rw [hM];exact hm)).1
                    rw [hM] at this
                    rw [this] at h
                    cases h
                by_cases g5:(intB p.2).2=true∧M.2.1=true∧M.1 = []
                · rw [if_pos g5]
                  refine⟨fun h=>(by cases h),fun q hq r hr=>enter4 r (j4 _ _ _ _ (fun h=>absurd ⟨g5.1,g5.2.2,by rw [g5.2.1];rfl⟩ h) (fun _=>?_))⟩
                  obtain rfl:=Option.some.inj hq
                  rw [g5.2.1]
                  exact hr a2 P2
                · rw [if_neg g5]
                  refine⟨fun _=>enter4 _ (j4 _ _ _ _ (fun _=>rfl) (fun h=>?_)),fun q hq=>by cases hq⟩
                  refine absurd ⟨h.1,?_,h.2.1⟩ g5
                  have:=h.2.2
                  simpa using this
            · rw [if_neg g3]
              have e3:(!bare && (p.1 == clN))=false:=by
                rw [← Bool.not_eq_true,Bool.and_eq_true,beq_iff_eq,Bool.not_eq_true'];exact g3
              have enter4:∀ r,Ev (fun k=>if ownB p.1=true then(some ((0,[],[],0,false):Got)) else(if acc.length<4398046511104 then(stowageref17_Parse.l0 k head 0 S a1 false st (acc ++ [(⟨B p.1,B p.2⟩ : S52)]) 0 true) else none)) r→Ev (fun k=>stowageref17_Parse.l0 k head 0 S at_ false st acc 0 true) r:=by
                intro r hr
                refine enter3 r ?_
                rw [e3]
                refine Ev.step (f:=fun k=>_) (fun k=>by rw [stowageref17_Parse.j3,if_neg Bool.false_ne_true]) ?_
                exact ev_some (own_b p.1) hr
              by_cases g4:ownB p.1=true
              · rw [if_pos g4]
                exact⟨fun _=>enter4 _ (ev_pos g4 (Ev.now _)),fun q hq=>by cases hq⟩
              · rw [if_neg g4]
                obtain⟨i1,i2⟩:=ih L.2.2 (acc ++ [⟨B p.1,B p.2⟩]) a1 P1 (by omega) (by rw [List.length_append,List.length_singleton];omega)
                exact⟨fun h=>enter4 _ (ev_neg g4 (ev_pos (by omega) (i1 h))),fun q hq r hr=>enter4 _ (ev_neg g4 (ev_pos (by omega) (i2 q hq r hr)))⟩
def bareB (n:Int):Bool:=(reply_Bare.f n).getD false
theorem bare_a (n:Int):reply_Bare.f n=some (bareB n):=by
  obtain⟨b,h,_⟩:=bare_same n
  unfold bareB
  rw [h];rfl
theorem bare_b (n:Int):stowageref17_Bare.f n=some (bareB n):=by
  obtain⟨b,h,h2⟩:=bare_same n
  unfold bareB
  rw [h,h2];rfl
noncomputable def parse (head:Bool) (l:List UInt8):Option (Int×List S52×List UInt8×List UInt8):=
  match beg l with
  | none=>none
  | some a=>match hdr (bareB a.1) (a.2.length+1) a.2 [] with
    | none=>none
    | some q=>if(q.2.2.length:Int)<reply_Parse.many head (bareB a.1) q.2.1 then none else some (a.1,q.1,q.2.2.take (reply_Parse.many head (bareB a.1) q.2.1).toNat,q.2.2.drop (reply_Parse.many head (bareB a.1) q.2.1).toNat)
def gotOf (S:ByteArray):Option (Int×List S52×List UInt8×List UInt8)→Got
  | none=>noGot
  | some p=>(p.1,p.2.1,bytesOf (B p.2.2.1),(S.size:Int)-p.2.2.2.length,true)
theorem beg_len (l:List UInt8) (a:Int×List UInt8) (h:beg l=some a):a.2.length≤l.length:=by
  unfold beg at h
  split at h
  · cases hs:stL (lineL l).1 with
    | none=>rw [hs] at h;cases h
    | some n=>
      rw [hs] at h
      obtain rfl:=Option.some.inj h
      have h1:=(lineL_le l).2
      have h2:=(lineL_le (lineL l).2.2).2
      have h3:=(lineL_le (lineL (lineL l).2.2).2.2).2
      have h4:=(lineL_le (lineL (lineL (lineL l).2.2).2.2).2.2).2
      simp only
      omega
  · cases h
theorem son_len (xs:List Int):(strOfNums xs).size=xs.length:=by simp [strOfNums,ByteArray.size]
def pP (k:Nat) (S:ByteArray) (head:Bool):Option Got:=
  (reply_reader_begin.f k S 0).bind fun b=>if b.2.1=true then(reply_Bare.f b.1).bind fun br=>(reply_reader_headers.f k b.2.2.1 b.2.2.2 br).bind fun h=>(if h.2.2.1=true then
      (if 0≤h.2.2.2.2 then(if h.2.2.2.2≤(S.size:Int) then(if 0≤reply_Parse.many head br h.2.1 then(if reply_Parse.many head br h.2.1≤9000000000000000000 then(if(S.size:Int)-h.2.2.2.2<reply_Parse.many head br h.2.1 then some (0,[],[],0,false)
        else if h.2.2.2.2+reply_Parse.many head br h.2.1≤(h.2.2.2.1.size:Int) then(if h.2.2.2.1.size≤140737488355328 then some (b.1,h.1,bytesOf (h.2.2.2.1.extract h.2.2.2.2.toNat (h.2.2.2.2+reply_Parse.many head br h.2.1).toNat),h.2.2.2.2+reply_Parse.many head br h.2.1,true) else none) else none) else none) else none) else none) else none)
      else some (0,[],[],0,false)) else some (0,[],[],0,false)
theorem pP_eq (k:Nat) (l0:List Int) (head:Bool):reply_Parse.f k l0 head=pP k (strOfNums l0) head:=by
  unfold pP reply_Parse.f
  rw [son_len]
theorem many_bd (head bare:Bool) (n:Int) (h0:0≤n) (h1:n≤1000000000000000000):0≤reply_Parse.many head bare n∧reply_Parse.many head bare n≤1000000000000000000:=by
  unfold reply_Parse.many
  cases head <;> cases bare <;> simp <;> omega
theorem part_eq {S:ByteArray} {at_:Int} {l:List UInt8} (h:Pos S at_ l) (M:Int) (h0:0≤M) (h1:M≤l.length):S.extract at_.toNat (at_+M).toNat=B (l.take M.toNat)∧at_+M=(S.size:Int)-(l.drop M.toNat).length:=by
  have hl:=h.len
  have:=h.part (a:=l.take M.toNat) (b:=l.drop M.toNat) (List.take_append_drop _ _).symm
  rw [List.length_take,show((min M.toNat l.length:Nat):Int)=M by omega] at this
  refine⟨this,?_⟩
  rw [List.length_drop]
  omega
theorem parse_ev (S:ByteArray) (head:Bool) (hS:S.size≤2000000000):Ev (fun k=>pP k S head) (gotOf S (parse head S.toList)) ∧
    Ev (fun k=>(stowageref17_Reader_begun.f k S 0 false).bind fun bt207=>(if bt207.1=0 then(some ((0,[],[],0,false):Got)) else(stowageref17_Parse.l0 k head 0 bt207.2.1 bt207.2.2.1 bt207.2.2.2 bt207.1 ([]:List (S52)) 0 true))) (gotOf S (parse head S.toList)):=by
  have hS':S.size<4294967281:=by omega
  obtain⟨n,ok,a1,B1,B2⟩:=pbegin S hS'
  obtain⟨n',a1',bad',R1,R2⟩:=rbegun S hS'
  unfold parse
  have hbl:=beg_len S.toList
  rw [length_toList] at hbl
  cases hbeg:beg S.toList with
  | none=>
    rw [hbeg] at B2 R2
    simp only at B2 R2
    subst B2 R2
    refine⟨?_,?_⟩
    · simp only [pP]
      exact Ev.bind B1 (ev_neg (by simp) (Ev.now _))
    · exact Ev.bind R1 (ev_pos rfl (Ev.now _))
  | some a=>
    rw [hbeg] at B2 R2
    obtain⟨b1,b2,b3⟩:=B2
    obtain⟨r1,r2,r3,r4⟩:=R2
    subst b1 b2 r1 r2
    have hal:=hbl a hbeg
    obtain⟨hs,m,ok2,a2,H1,H2⟩:=pheaders (bareB a.1) S hS' (a.2.length+1) a.2 [] a1 b3 (by omega) (by simp;omega)
    obtain⟨L1,L2⟩:=rloop head (bareB a.1) S hS' a.1 (bare_b a.1) (a.2.length+1) a.2 [] a1' r3 (by omega) (by simp;omega)
    simp only
    have enterP:∀ r,Ev (fun k=>(reply_reader_headers.l0 k (bareB a.1) [] S a1).bind fun h=>(if h.2.2.1=true then
      (if 0≤h.2.2.2.2 then(if h.2.2.2.2≤(S.size:Int) then(if 0≤reply_Parse.many head (bareB a.1) h.2.1 then(if reply_Parse.many head (bareB a.1) h.2.1≤9000000000000000000 then(if(S.size:Int)-h.2.2.2.2<reply_Parse.many head (bareB a.1) h.2.1 then some ((0,[],[],0,false):Got)
        else if h.2.2.2.2+reply_Parse.many head (bareB a.1) h.2.1≤(h.2.2.2.1.size:Int) then(if h.2.2.2.1.size≤140737488355328 then some (a.1,h.1,bytesOf (h.2.2.2.1.extract h.2.2.2.2.toNat (h.2.2.2.2+reply_Parse.many head (bareB a.1) h.2.1).toNat),h.2.2.2.2+reply_Parse.many head (bareB a.1) h.2.1,true) else none) else none) else none) else none) else none) else none)
      else some (0,[],[],0,false))) r→Ev (fun k=>pP k S head) r:=by
      intro r hr
      simp only [pP,reply_reader_headers.f]
      exact Ev.bind B1 (ev_pos rfl (ev_some (bare_a a.1) hr))
    have enterR:∀ r,Ev (fun k=>stowageref17_Parse.l0 k head 0 S a1' false a.1 [] 0 true) r→Ev (fun k=>(stowageref17_Reader_begun.f k S 0 false).bind fun bt207=>(if bt207.1=0 then(some ((0,[],[],0,false):Got)) else(stowageref17_Parse.l0 k head 0 bt207.2.1 bt207.2.2.1 bt207.2.2.2 bt207.1 ([]:List (S52)) 0 true))) r:=fun r hr=>
      Ev.bind R1 (ev_neg (by simp only;omega) hr)
    cases hh:hdr (bareB a.1) (a.2.length+1) a.2 [] with
    | none=>
      rw [hh] at H2
      simp only at H2
      subst H2
      refine⟨enterP _ (Ev.bind H1 (ev_neg (by simp) (Ev.now _))),enterR _ (L1 hh)⟩
    | some q=>
      rw [hh] at H2
      obtain⟨c1,c2,c3,c4,c5,c6⟩:=H2
      subst c1 c2 c3
      have hmb:=many_bd head (bareB a.1) q.2.1 c5 c6
      have hql:=c4.len
      have h0:=c4.a0
      have h1:=c4.a1
      simp only
      generalize hM:reply_Parse.many head (bareB a.1) q.2.1=M at *
      have e6:∀ at',Pos S at' q.2.2→Ev (fun k=>stowageref17_Parse.j6 k head q.2.1 S at' false a.1 q.1 0 true) (gotOf S (if(q.2.2.length:Int)<M then none else some (a.1,q.1,q.2.2.take M.toNat,q.2.2.drop M.toNat))):=by
        intro at' hp
        have hpl:=hp.len
        have p0:=hp.a0
        have p1:=hp.a1
        have low:M=0→Ev (fun k=>stowageref17_Parse.j7 k q.2.1 false S at' false a.1 q.1 0 true) (gotOf S (if(q.2.2.length:Int)<M then none else some (a.1,q.1,q.2.2.take M.toNat,q.2.2.drop M.toNat))):=by
          intro hm
          rw [hm,if_neg (by omega)]
          refine Ev.step (f:=fun _=>_) (fun k=>by rw [stowageref17_Parse.j7,if_neg Bool.false_ne_true]) (ev_eq (Ev.now _) ?_)
          simp only [gotOf,Int.toNat_zero,List.take_zero,List.drop_zero]
          rw [show(S.size:Int)-q.2.2.length=at' by omega]
          rfl
        have high:M=q.2.1→Ev (fun k=>stowageref17_Parse.j7 k q.2.1 true S at' false a.1 q.1 0 true) (gotOf S (if(q.2.2.length:Int)<M then none else some (a.1,q.1,q.2.2.take M.toNat,q.2.2.drop M.toNat))):=by
          intro hm
          refine Ev.step (f:=fun k=>_) (fun k=>by rw [stowageref17_Parse.j7,if_pos rfl]) ?_
          rw [w64 (n:=(S.size:Int)-at') (by omega) (by omega)]
          by_cases g:(q.2.2.length:Int)<M
          · rw [if_pos g]
            exact ev_pos (by omega) (Ev.now _)
          · rw [if_neg g]
            obtain⟨x1,x2⟩:=part_eq hp M hmb.1 (by omega)
            rw [← hm,w64 (n:=at'+M) (by omega) (by omega)]
            refine ev_neg (by omega) (ev_pos p0 (ev_pos (by omega) (ev_pos (by omega) (ev_pos (by rw [x1,B_size,List.length_take];omega) (ev_eq (Ev.now _) ?_)))))
            simp only [gotOf]
            rw [x1,x2]
        refine Ev.step (f:=fun k=>_) (fun k=>by rw [stowageref17_Parse.j6]) ?_
        cases head with
        | true=>exact ev_pos rfl (low (by rw [← hM];rfl))
        | false=>
          refine ev_neg (by simp) (ev_some (bare_b a.1) ?_)
          cases hbb:bareB a.1 with
          | true=>exact low (by rw [← hM,hbb];rfl)
          | false=>exact high (by rw [← hM,hbb];rfl)
      refine⟨enterP _ (Ev.bind H1 (ev_pos rfl (ev_pos h0 (ev_pos h1 ?_)))),enterR _ (L2 q hh _ e6)⟩
      simp only
      rw [hM]
      refine ev_pos hmb.1 (ev_pos (by omega) ?_)
      by_cases g:(q.2.2.length:Int)<M
      · rw [if_pos g]
        exact ev_pos (by omega) (Ev.now _)
      · rw [if_neg g]
        obtain⟨x1,x2⟩:=part_eq c4 M hmb.1 (by omega)
        refine ev_neg (by omega) (ev_pos (by omega) (ev_pos (by omega) (ev_eq (Ev.now _) ?_)))
        simp only [gotOf]
        rw [x1,x2]
theorem same_l0 (a:Int) (hs:List S52) (b:List Int) (a':Int) (b':List Int) (hl:hs.length≤1000000000000000) (j:Nat):∀ i:Nat,i+j=hs.length→Ev (fun k=>stowageref26_Same.l0 k (i:Int) a hs b a' hs b') true:=by
  induction j with
  | zero=>
    intro i hi
    exact Ev.step (f:=fun _=>some true) (fun k=>by rw [stowageref26_Same.l0,if_neg (by omega)]) (Ev.now _)
  | succ j ih=>
    intro i hi
    refine Ev.step (f:=fun k=>stowageref26_Same.l0 k ((i+1:Nat):Int) a hs b a' hs b') (fun k=>?_) (ih (i+1) (by omega))
    rw [stowageref26_Same.l0,if_pos (by omega),if_pos (by omega),if_pos (by omega),if_neg (by simp),w64 (by omega) (by omega)]
    congr 1
theorem same_ev (a:Int) (hs:List S52) (b:List Int) (hl:hs.length≤1000000000000000):Ev (fun k=>stowageref26_Same.f k a hs b a hs b) true:=by
  simp only [stowageref26_Same.f]
  refine ev_pos trivial (ev_pos trivial ?_)
  rw [bne_self_eq_false]
  refine Ev.step (f:=fun k=>_) (fun k=>by rw [stowageref26_Same.j0,if_neg Bool.false_ne_true]) ?_
  exact same_l0 a hs b a b hl hs.length 0 (by omega)
theorem hdr_len (bare:Bool) (f:Nat):∀ (l:List UInt8) (acc:List S52) (q:List S52×Int×List UInt8),hdr bare f l acc=some q→q.1.length≤acc.length+l.length:=by
  induction f with
  | zero=>intro l acc q h;cases h
  | succ f ih=>
    intro l acc q h
    rw [hdr] at h
    repeat' split at h
    all_goals first
      | (cases h;done)
      | (obtain rfl:=Option.some.inj h;simp only;omega)
      | skip
    all_goals
      rename_i h1 _ _ _ _ _ _ _
      have:=ih _ _ _ h
      rw [List.length_append,List.length_singleton] at this
      have:=lineL_len l h1
      omega
theorem parse_len (head:Bool) (l:List UInt8) (p:Int×List S52×List UInt8×List UInt8) (h:parse head l=some p):p.2.1.length≤l.length:=by
  unfold parse at h
  cases hb:beg l with
  | none=>rw [hb] at h;cases h
  | some a=>
    rw [hb] at h
    simp only at h
    cases hh:hdr (bareB a.1) (a.2.length+1) a.2 [] with
    | none=>rw [hh] at h;cases h
    | some q=>
      rw [hh] at h
      simp only at h
      split at h
      · cases h
      · obtain rfl:=Option.some.inj h
        have h1:=hdr_len _ _ _ _ _ hh
        have h2:=beg_len _ _ hb
        simp only [List.length_nil] at h1 ⊢
        omega
theorem beg_app (l m:List UInt8) (a:Int×List UInt8) (h:beg l=some a):beg (l++m)=some (a.1,a.2++m):=by
  unfold beg at h
  split at h
  · rename_i g
    obtain⟨g1,g2,g3,g4,g5,g6,g7⟩:=g
    have e1:=lineL_app l m g1
    have e2:=lineL_app (lineL l).2.2 m g2
    have e3:=lineL_app (lineL (lineL l).2.2).2.2 m g3
    have e4:=lineL_app (lineL (lineL (lineL l).2.2).2.2).2.2 m g4
    unfold beg
    rw [e1]
    simp only
    rw [e2]
    simp only
    rw [e3]
    simp only
    rw [e4]
    simp only
    rw [if_pos ⟨trivial,trivial,trivial,trivial,g5,g6,g7⟩]
    cases hs:stL (lineL l).1 with
    | none=>rw [hs] at h;cases h
    | some n=>
      rw [hs] at h
      obtain rfl:=Option.some.inj h
      rfl
  · cases h
theorem hdr_app (bare:Bool) (m:List UInt8) (f:Nat):∀ (f':Nat) (l:List UInt8) (acc:List S52) (q:List S52×Int×List UInt8),f≤f'→hdr bare f l acc=some q→hdr bare f' (l++m) acc=some (q.1,q.2.1,q.2.2++m):=by
  induction f with
  | zero=>intro f' l acc q _ h;cases h
  | succ f ih=>
    intro f' l acc q hf h
    obtain⟨f',rfl⟩ : ∃ g,f'=g+1:=⟨f'-1,by omega⟩
    rw [hdr] at h ⊢
    by_cases h1:(lineL l).2.1=true
    · rw [if_pos h1] at h
      rw [lineL_app l m h1]
      simp only
      rw [if_pos trivial]
      generalize hL:lineL l=L at *
      by_cases g1:bare=true∧L.1 = []
      · rw [if_pos g1] at h ⊢
        obtain rfl:=Option.some.inj h
        rfl
      · rw [if_neg g1] at h ⊢
        by_cases g2:bare=true∧L.1=ccL
        · rw [if_pos g2] at h ⊢
          by_cases g3:(lineL L.2.2).2.1=true∧(lineL L.2.2).1 = []
          · rw [if_pos g3] at h
            rw [lineL_app L.2.2 m g3.1]
            simp only
            rw [if_pos ⟨trivial,g3.2⟩]
            obtain rfl:=Option.some.inj h
            rfl
          · rw [if_neg g3] at h;cases h
        · rw [if_neg g2] at h ⊢
          cases hh:headL L.1 with
          | none=>rw [hh] at h;cases h
          | some p=>
            rw [hh] at h
            simp only at h ⊢
            by_cases g3:bare=false∧p.1=clN
            · rw [if_pos g3] at h ⊢
              by_cases g4:(lineL L.2.2).2.1=true∧(lineL L.2.2).1=ccL
              · rw [if_pos g4] at h
                rw [lineL_app L.2.2 m g4.1]
                simp only
                rw [if_pos ⟨trivial,g4.2⟩]
                by_cases g5:(intB p.2).2=true∧(lineL (lineL L.2.2).2.2).2.1=true∧(lineL (lineL L.2.2).2.2).1 = []
                · rw [if_pos g5] at h
                  rw [lineL_app _ m g5.2.1]
                  simp only
                  rw [if_pos ⟨g5.1,trivial,g5.2.2⟩]
                  obtain rfl:=Option.some.inj h
                  rfl
                · rw [if_neg g5] at h;cases h
              · rw [if_neg g4] at h
                by_cases g5:(intB p.2).2=true∧(lineL L.2.2).2.1=true∧(lineL L.2.2).1 = []
                · rw [if_pos g5] at h
                  rw [lineL_app L.2.2 m g5.2.1]
                  simp only
                  rw [if_neg (fun x=>g4 ⟨g5.2.1,x.2⟩),if_pos ⟨g5.1,trivial,g5.2.2⟩]
                  obtain rfl:=Option.some.inj h
                  rfl
                · rw [if_neg g5] at h;cases h
            · rw [if_neg g3] at h ⊢
              by_cases g4:ownB p.1=true
              · rw [if_pos g4] at h;cases h
              · rw [if_neg g4] at h ⊢
                exact ih f' _ _ q (by omega) h
    · rw [if_neg h1] at h;cases h
theorem parse_app (l m:List UInt8) (p:Int×List S52×List UInt8×List UInt8) (h:parse false l=some p) (hr:p.2.2.2 = []):parse false (l++m)=some (p.1,p.2.1,p.2.2.1,m):=by
  unfold parse at h ⊢
  cases hb:beg l with
  | none=>rw [hb] at h;cases h
  | some a=>
    rw [hb] at h
    rw [beg_app l m a hb]
    simp only at h ⊢
    cases hh:hdr (bareB a.1) (a.2.length+1) a.2 [] with
    | none=>rw [hh] at h;cases h
    | some q=>
      rw [hh] at h
      rw [hdr_app (bareB a.1) m (a.2.length+1) ((a.2++m).length+1) a.2 [] q (by rw [List.length_append];omega) hh]
      simp only at h ⊢
      by_cases g:(q.2.2.length:Int)<reply_Parse.many false (bareB a.1) q.2.1
      · rw [if_pos g] at h;cases h
      · rw [if_neg g] at h
        obtain rfl:=Option.some.inj h
        simp only at hr ⊢
        generalize reply_Parse.many false (bareB a.1) q.2.1=M at *
        have hl:M.toNat≤q.2.2.length:=by omega
        rw [if_neg (by rw [List.length_append];omega),List.take_append_of_le_length hl,List.drop_append_of_le_length hl,hr,List.nil_append]
theorem parse_nil (head:Bool):parse head []=none:=by
  unfold parse
  rw [show beg []=none by unfold beg;rw [if_neg (fun h=>by cases h.1)]]
def Chunk (c:List Int) (x:S27):Prop:=∃ p,parse false (strOfNums c).toList=some p∧p.2.2.2 = []∧x=⟨p.1,p.2.1,bytesOf (B p.2.2.1)⟩
theorem son_app (a b:List Int):(strOfNums (a++b)).toList=(strOfNums a).toList++(strOfNums b).toList:=by
  rw [← toList_append]
  congr 1
  apply ByteArray.ext
  simp [strOfNums,ByteArray.data_append]
theorem pipe_l1 (ps:List (List Int×S27)):∀ (pre:List S27),(∀ p∈ps,Chunk p.1 p.2)→((ps.map (·.1)).flatten).length≤2000000000→pre.length+ps.length≤1000 →
    Ev (fun k=>stowagelaw17_ReplyPipes.l1 k (ps.map (·.1)).flatten (pre++ps.map (·.2)) (pre.length:Int)) true:=by
  induction ps with
  | nil=>
    intro pre _ _ _
    refine Ev.step (f:=fun k=>_) (fun k=>by rw [stowagelaw17_ReplyPipes.l1,if_neg (by simp)]) ?_
    exact ev_pos rfl awb
  | cons q ps ih=>
    intro pre hc hl hn
    obtain⟨c,x⟩:=q
    obtain⟨p,hp1,hp2,hp3⟩:=hc (c,x) List.mem_cons_self
    simp only at hp1 hp3
    simp only [List.map_cons,List.flatten_cons,List.length_append,List.length_cons] at hl hn ⊢
    obtain⟨rest,hrest⟩ : ∃ rest,(ps.map (·.1)).flatten=rest:=⟨_,rfl⟩
    have ih':=ih (pre ++ [x]) (fun p hp=>hc p (List.mem_cons_of_mem _ hp)) (by omega) (by rw [List.length_append,List.length_singleton];omega)
    rw [hrest] at ih' hl ⊢
    have hS:(strOfNums (c++rest)).size≤2000000000:=by rw [son_len,List.length_append];omega
    obtain⟨e1,_⟩:=parse_ev (strOfNums (c++rest)) false hS
    rw [son_app,parse_app _ _ p hp1 hp2] at e1
    have e1':Ev (fun k=>reply_Parse.f k (c++rest) false) _:=Ev.congr (fun k=>pP_eq k (c++rest) false) e1
    have hcl:1≤c.length:=by
      cases c with
      | nil=>rw [show(strOfNums []).toList = [] by rw [ByteArray.toList_eq];rfl,parse_nil] at hp1;cases hp1
      | cons a c=>rw [List.length_cons];omega
    have hu:((strOfNums (c++rest)).size:Int)-((strOfNums rest).toList.length:Int)=c.length:=by
      rw [son_len,length_toList,son_len,List.length_append];omega
    have hrd:rd_T27 (pre++x :: ps.map (·.2)) (pre.length:Int)=x:=by simp [rd_T27,List.getD_eq_getElem?_getD]
    have hlen2:p.2.1.length≤1000000000000000:=by
      have:=parse_len _ _ _ hp1
      rw [length_toList,son_len] at this
      omega
    refine Ev.step (f:=fun k=>_) (fun k=>by rw [stowagelaw17_ReplyPipes.l1,if_pos (by rw [List.length_append,List.length_cons];omega)]) ?_
    have e1'':Ev (fun k=>reply_Parse.f k (c++rest) false) ((p.1,p.2.1,bytesOf (B p.2.2.1),(c.length:Int),true):Got):=by
      refine ev_eq e1' ?_
      simp only [gotOf]
      rw [hu]
    refine Ev.bind e1'' ?_
    simp only [hrd]
    refine ev_pos (by first|rfl|trivial) (ev_neg (by omega) (ev_neg (by rw [List.length_append];omega) (ev_pos (by omega) ?_)))
    have hsame:=same_ev p.1 p.2.1 (bytesOf (B p.2.2.1)) hlen2
    rw [hp3]
    refine Ev.bind hsame (ev_pos (by first|rfl|trivial) (ev_pos (by omega) (ev_pos (by rw [List.length_append];omega) ?_)))
    rw [show((c.length:Int)).toNat=c.length by omega,List.drop_left',w64 (by omega) (by omega)]
    · rw [List.length_append,List.length_singleton,List.append_assoc,List.singleton_append,hp3] at ih'
      exact ih'
    · rfl
theorem pipe_bd (a r i n s:Nat) (h1:a≤6000000*i) (h2:r≤s+1000) (h5:s≤5000000) (h3:i<8) (h4:n≤i):a+r<140737488355328∧a+r≤6000000*(i+1)∧n<2513169434916∧n+1≤i+1∧a≤6000000*(i+1)∧n≤i+1:=by omega
theorem pipe_l0 (l0:List S27) (a1:Int) (a2:ByteArray) (hw:∀ x∈l0,(-9223372036854775808≤x.f0∧x.f0≤9223372036854775807)∧(∀ b∈x.f2,0≤b∧b≤255)∧pbulk x.f1+x.f2.length+a2.size≤5000000) (hl:l0.length≤1000000000) (j:Nat) :
    ∀ (i:Nat) (ps:List (List Int×S27)),i+j=8→(∀ p∈ps,Chunk p.1 p.2)→ps.length≤i→((ps.map (·.1)).flatten).length≤6000000*i →
      Ev (fun k=>stowagelaw17_ReplyPipes.l0 k l0 a1 a2 (ps.map (·.1)).flatten (ps.map (·.2)) (i:Int)) true:=by
  have fin:∀ (i:Nat) (ps:List (List Int×S27)),i≤8→(∀ p∈ps,Chunk p.1 p.2)→ps.length≤i→((ps.map (·.1)).flatten).length≤6000000*i→Ev (fun k=>stowagelaw17_ReplyPipes.j1 k l0 a1 a2 (ps.map (·.1)).flatten (ps.map (·.2)) (i:Int) false) true:=by
    intro i ps hi hc hp hs
    refine Ev.step (f:=fun k=>_) (fun k=>by rw [stowagelaw17_ReplyPipes.j1,if_neg Bool.false_ne_true]) ?_
    have:=pipe_l1 ps [] hc (by omega) (by simp;omega)
    rwa [List.nil_append] at this
  induction j with
  | zero=>
    intro i ps hi hc hp hs
    obtain rfl:i=8:=by omega
    refine Ev.step (f:=fun k=>_) (fun k=>by rw [stowagelaw17_ReplyPipes.l0]) ?_
    by_cases g:((8:Nat):Int)<(l0.length:Int)
    · exact ev_pos g (fin 8 ps (by omega) hc hp hs)
    · exact ev_neg g (fin 8 ps (by omega) hc hp hs)
  | succ j ih=>
    intro i ps hi hc hp hs
    refine Ev.step (f:=fun k=>_) (fun k=>by rw [stowagelaw17_ReplyPipes.l0]) ?_
    by_cases g:(i:Int)<(l0.length:Int)
    · refine ev_pos g ?_
      rw [decide_eq_true (show(i:Int)<8 by omega)]
      have hi2:i<l0.length:=by omega
      have hrd:rd_T27 l0 (i:Int)=l0[i]:=by simp [rd_T27,List.getD_eq_getElem?_getD,List.getElem?_eq_getElem hi2]
      obtain⟨⟨h0,h1⟩,h8,hsz⟩:=hw l0[i] (List.getElem_mem hi2)
      obtain⟨R,hR1,hR2,e1,e2⟩:=print_same l0[i].f0 l0[i].f1 l0[i].f2 false a1 a2 false h0 h1 h8 (by omega)
      obtain⟨bd1,bd2,bd3,bd4,bd5,bd6⟩:=pipe_bd _ R.length i ps.length _ hs hR1 hsz (by omega) hp
      obtain⟨_,p2⟩:=parse_ev (strOfNums R) false (by rw [son_len];omega)
      have p2':Ev (fun k=>stowageref17_Parse.f k R false) _:=p2
      refine Ev.step (f:=fun k=>_) (fun k=>by rw [stowagelaw17_ReplyPipes.j1,if_pos rfl]) ?_
      refine ev_pos (by omega) (ev_pos g ?_)
      rw [hrd]
      have skip:=ih (i+1) ps (by omega) hc bd6 bd5
      have ew:wrap64 ((i:Int)+1)=((i+1:Nat):Int):=by rw [w64 (by omega) (by omega)];omega
      rw [ew]
      cases hpar:parse false (strOfNums R).toList with
      | none=>
        have p3:Ev (fun k=>stowageref17_Parse.f k R false) ((0,[],[],0,false):Got):=by
          rw [hpar] at p2'
          exact p2'
        exact Ev.bind e2 (Ev.bind p3 (ev_neg Bool.false_ne_true skip))
      | some p=>
        have p3:Ev (fun k=>stowageref17_Parse.f k R false) ((p.1,p.2.1,bytesOf (B p.2.2.1),(R.length:Int)-(p.2.2.2.length:Int),true):Got):=by
          rw [hpar] at p2'
          refine ev_eq p2' ?_
          simp only [gotOf]
          rw [son_len]
        refine Ev.bind e2 (Ev.bind p3 (ev_pos rfl ?_))
        by_cases gu:(R.length:Int)-(p.2.2.2.length:Int)=(R.length:Int)
        · refine ev_pos gu (Ev.bind e1 (ev_pos bd1 (ev_pos (by rw [List.length_map];exact bd3) ?_)))
          have hr:p.2.2.2 = []:=by
            exact List.eq_nil_of_length_eq_zero (by omega)
          have:=ih (i+1) (ps ++ [(R,⟨p.1,p.2.1,bytesOf (B p.2.2.1)⟩)]) (by omega) (fun q hq=>by
            rw [List.mem_append,List.mem_singleton] at hq
            rcases hq with hq|rfl
            · exact hc q hq
            · exact⟨p,hpar,hr,rfl⟩) (by rw [List.length_append,List.length_singleton];exact bd4) (by
            rw [List.map_append,List.flatten_append,List.length_append,List.map_singleton,List.flatten_singleton]
            exact bd2)
          rw [List.map_append,List.map_append,List.flatten_append,List.map_singleton,List.map_singleton,List.flatten_singleton] at this
          exact this
        · exact ev_neg gu skip
    · exact ev_neg g (fin i ps (by omega) hc hp hs)
theorem ReplyPipesUpto (l0:List S27) (a1:Int) (a2:ByteArray) (hw:∀ x∈l0,(Lit.int .i64 x.f0).wf=true∧(∀ b∈x.f2,(Lit.int .u8 b).wf=true)∧pbulk x.f1+x.f2.length+a2.size≤5000000) (hl:l0.length≤1000000000):∃ k,stowagelaw17_ReplyPipes.f k l0 a1 a2=some true:=by
  apply Ev.rounds
  have:=pipe_l0 l0 a1 a2 (fun x hx=>by
    obtain⟨h0,h8,hs⟩:=hw x hx
    refine⟨wf_bd h0,fun b hb=>?_,hs⟩
    have h:=h8 b hb
    simp [Lit.wf] at h
    have e1:IntKind.u8.min=0:=by kernel_rfl
    have e2:IntKind.u8.max=255:=by kernel_rfl
    omega) hl 8 0 [] rfl (fun p hp=>by cases hp) (by simp) (by simp)
  exact this
end Go.Proofs.YtfjidcmegacibaaDoor.Pure
