/- A part of the proof of the seat's laws. No condition beyond those in the theorems. -/
import Derived.Test.YtklcgncaclggcaaDoorRows
import Derived.RowKit
import Derived.LaidLaws
import Derived.Stop.Joined
import Derived.Test.YtklcgncaclggcaaDoorV1
import Derived.Deep.Slices
import Derived.ChangeSame
import Derived.SizedLaws
import Derived.Laws.Strings
import Derived.Lib.Bytealg
import Derived.Lib.DecodeN
import Derived.Test.YtklcgncaclggcaaDoorZQ0g15
import Derived.Test.YtklcgncaclggcaaDoorZQ59g6
import Derived.Test.YtklcgncaclggcaaDoorZQ90g10
import Derived.KernelRfl
import Derived.Test.YtklcgncaclggcaaDoorZQ53g4

namespace Go.Proofs.YtklcgncaclggcaaDoor.Q
open Go.ChangeShapes Go.WideShapes Go.RowKit
abbrev laidList : List (String × DataW Unit) := [("unicode/utf8.acceptRanges", Rows.laid_unicode_utf8_acceptRanges), ("unicode/utf8.first", Rows.laid_unicode_utf8_first)]
noncomputable def laidWorld (os:Os):World:=
  let w0:=World.holding Tryd.prog os ⟨#[],#[],[]⟩
  { w0 with heap:=(w0.heap.modify 1 fun
      | .cells _ t frozen=>.cells (Go.Pinned.utf8FirstZ.map fun (n:Nat)=>Value.int .u8 (n:Int)).toArray t frozen
      | o=>o).modify 2 fun
      | .cells _ t frozen=>.cells (([128,191,160,191,128,159,144,191,128,143]++List.replicate 22 0:List Nat).map fun (n:Nat)=>Value.int .u8 (n:Int)).toArray t frozen
      | o=>o}
theorem laid_met0 (os:Os) (args:Array Value):laidMet Tryd.prog laidList ((laidWorld os).forCall (fun _ _=>0) ⟨#[],args,[]⟩).memory:=
  laidMet_of_run' 8 (by kernel_rfl) (by kernel_rfl)
theorem laid_met (os:Os) (args:Array Value):laidMetH Tryd.prog laidList ((laidWorld os).forCall (fun _ _=>0) ⟨#[],args,[]⟩).memory:=laid_met0 os args
end Go.Proofs.YtklcgncaclggcaaDoor.Q


namespace Go.Proofs.YtklcgncaclggcaaDoor.Opn
open Go.ChangeShapes Go.WideShapes Go.RowKit Go.Proofs.YtklcgncaclggcaaDoorW.PrintWords
section
variable {H:Type} (enc:TypeId×Value→H) (P:Program) (w:World) (base:Nat) (spare:Nat→Bool) (held:Bool)
def Opens (t:TypeId) {α:Type} (d:Kd α) (R:DataW H→α→Prop):Prop:=∀ fuel cs x,DataW.trod enc P w base spare held fuel t cs=some x → ∃ a,d.K w a cs∧R x.1 a
end
section
variable {H:Type} {enc:TypeId×Value→H} {P:Program} {w:World} {base:Nat} {spare:Nat→Bool} {held:Bool} {t e:TypeId} {α:Type} {d:Kd α} {R:DataW H→α→Prop}
theorem Opens.imp_ {R':DataW H→α→Prop} (h:Opens enc P w base spare held t d R) (hr:∀ x a,R x a→R' x a):Opens enc P w base spare held t d R':=fun fuel cs x hx=>by
  obtain⟨a,h1,h2⟩:=h fuel cs x hx
  exact⟨a,h1,hr _ _ h2⟩
theorem opens_string (ht:P.underlying t=some .string):Opens enc P w base spare held t Kd.string (fun x a=>x = .lit (.string a.data.toList)):=fun fuel cs x hx=>by
  obtain⟨s,rfl,rfl,_⟩:=DataW.trod_string ht hx
  exact⟨s,rfl,rfl⟩
theorem opens_int {k:IntKind} (ht:P.underlying t=some (.int k)):Opens enc P w base spare held t (Kd.int k) (fun x a=>x = .lit (.int k a)∧(Lit.int k a).wf=true):=fun fuel cs x hx=>by
  obtain⟨s,rfl,rfl,h⟩:=DataW.trod_int ht hx
  exact⟨s,rfl,rfl,h⟩
theorem opens_bool (ht:P.underlying t=some .bool):Opens enc P w base spare held t Kd.bool (fun x a=>x = .lit (.bool a)):=fun fuel cs x hx=>by
  obtain⟨s,rfl,rfl⟩:=DataW.trod_bool ht hx
  exact⟨s,rfl,rfl⟩
theorem opens_slice [Inhabited α] (ht:P.underlying t=some (.slice e)) (hc:P.cellsOf e=d.sz) (h:Opens enc P w base spare held e d R) :
    Opens enc P w base spare held t (Kd.slice e d) (fun x xs=>(x = .nil∧xs = []) ∨ ∃ (n:Nat) (D:Nat→DataW H) (X:Nat→α) (sp:List (DataW H)),x = .slice ((List.range n).map D) sp∧xs=(List.range n).map X ∧ ∀ i,i<n→R (D i) (X i)):=by
  intro fuel cs x hx
  rcases Deep.open_slice ht hx with⟨rfl,rfl⟩|⟨a,len,cap,m,n,D,Pl,rfl,hb,hl,hm,hmm,rfl,hall⟩
  · exact⟨[],⟨none,0,rfl,Nat.le_refl _,rfl,by simp,fun h=>absurd h (Nat.lt_irrefl 0)⟩,.inl ⟨rfl,rfl⟩⟩
  · have hlm:len≤m:=by rw [hmm];split <;> omega
    have each:∀ i,i<len → ∃ x:α,∃ cs',w.cells? base (a.add (i*P.cellsOf e)) (P.cellsOf e)=some cs'∧d.K w x cs'∧R (D i) x:=by
      intro i hi
      obtain⟨cs',h1,h2⟩:=hall i (by omega)
      obtain⟨x,h3,h4⟩:=h _ _ _ h2
      exact⟨x,cs',h1,h3,h4⟩
    obtain⟨X,hX⟩:=Deep.choose_lt each
    have hlen:((List.range len).map X).length=len:=by simp
    refine⟨(List.range len).map X,⟨some a,cap,by rw [hlen],by rw [hlen];exact hl,?_⟩,.inr ⟨len,D,X,_,rfl,rfl,fun i hi=>by obtain⟨_,_,_,h4⟩:=hX i hi;exact h4⟩⟩
    rw [hlen]
    refine⟨hlen,by simp only [maxLen] at hm;omega,fun _=>⟨a,rfl,fun j p hp=>?_⟩⟩
    have hj:j<len:=by
      have:=(List.getElem?_eq_some_iff.mp hp).1
      simpa using this
    have hpx:p=X j:=by
      rw [List.getElem?_map,List.getElem?_range hj] at hp
      exact(Option.some.inj hp).symm
    subst hpx
    obtain⟨cs',h1,h3,_⟩:=hX j hj
    obtain⟨_,hl',hcell⟩:=World.cells?_some h1
    refine⟨cs',d.K_len h3,h3,fun i u hu=>?_⟩
    have hi:i<P.cellsOf e:=by
      have:=(List.getElem?_eq_some_iff.mp hu).1
      omega
    have hcc:=hcell i hi
    rw [hu,hc,Deep.add_add] at hcc
    exact hcc
def Up {H:Type} (W:α→Prop) (M:α→Nat) (x:DataW H) (a:α):Prop:=W a∧M a≤Rows.uptoBulk x
theorem bulk_all {H:Type} (D:Nat→DataW H) (X:Nat→Nat) (l:List Nat) (h:∀ i∈l,X i≤Rows.uptoBulk (D i)):(l.map X).sum≤Rows.uptoBulkAll (l.map D):=by
  induction l with
  | nil=>simp
  | cons i l ih=>
    simp only [List.map_cons,List.sum_cons,Rows.uptoBulkAll]
    have h1:=h i List.mem_cons_self
    have h2:=ih (fun j hj=>h j (List.mem_cons_of_mem _ hj))
    omega
def msz (M:α→Nat) (xs:List α):Nat:=(xs.map M).sum+1
theorem up_string (ht:P.underlying t=some .string):Opens enc P w base spare held t Kd.string (Up (fun _=>True) (fun s=>s.size+1)):=
  (opens_string ht).imp_ fun x a h=>by
    subst h
    refine⟨trivial,?_⟩
    have e:a.data.toList.length=a.size:=by rw [Array.length_toList];rfl
    show a.size+1≤a.data.toList.length+1
    omega
theorem up_int {k:IntKind} (ht:P.underlying t=some (.int k)):Opens enc P w base spare held t (Kd.int k) (Up (fun a=>(Lit.int k a).wf=true) (fun _=>1)):=
  (opens_int ht).imp_ fun x a h=>by
    obtain⟨rfl,h⟩:=h
    exact⟨h,Nat.le_refl _⟩
theorem up_bool (ht:P.underlying t=some .bool):Opens enc P w base spare held t Kd.bool (Up (fun _=>True) (fun _=>1)):=
  (opens_bool ht).imp_ fun x a h=>by
    subst h
    exact⟨trivial,Nat.le_refl _⟩
theorem up_slice [Inhabited α] {W:α→Prop} {M:α→Nat} (ht:P.underlying t=some (.slice e)) (hc:P.cellsOf e=d.sz) (h:Opens enc P w base spare held e d (Up W M)) :
    Opens enc P w base spare held t (Kd.slice e d) (Up (fun xs=>∀ a∈xs,W a) (msz M)):=
  (opens_slice ht hc h).imp_ fun x xs hx=>by
    rcases hx with⟨rfl,rfl⟩|⟨n,D,X,sp,rfl,rfl,h⟩
    · exact⟨fun a ha=>(by cases ha),Nat.le_refl _⟩
    · refine⟨fun a ha=>?_,?_⟩
      · obtain⟨i,hi,rfl⟩:=List.mem_map.mp ha
        exact(h i (List.mem_range.mp hi)).1
      · have:=bulk_all D (fun i=>M (X i)) (List.range n) (fun i hi=>(h i (List.mem_range.mp hi)).2)
        simp only [msz,Rows.uptoBulk,List.map_map]
        show((List.range n).map (M∘X)).sum+1≤_
        have e:((List.range n).map (M∘X)).sum=((List.range n).map fun i=>M (X i)).sum:=rfl
        omega
def Wt {H:Type} (P:Program) (t:TypeId) (B:α→Prop) (x:DataW H) (a:α):Prop:=(∀ n∈x.weights P t,n≤reachBytes)→B a
theorem wt_string (ht:P.underlying t=some .string):Opens enc P w base spare held t Kd.string (Wt P t (fun s=>s.size≤140737488351232)):=
  (opens_string ht).imp_ fun x a h=>by
    subst h
    intro hw
    have e:a.data.toList.length=a.size:=by rw [Array.length_toList];rfl
    have:=hw a.data.toList.length (by simp [DataW.weights])
    simp only [reachBytes] at this
    omega
theorem wt_int {k:IntKind} (ht:P.underlying t=some (.int k)):Opens enc P w base spare held t (Kd.int k) (Wt P t (fun a=>(Lit.int k a).wf=true)):=
  (opens_int ht).imp_ fun x a h=>fun _=>h.2
theorem weights_all {H:Type} (P:Program) (e:TypeId) (l:List (DataW H)) (d:DataW H) (hd:d∈l):∀ n∈d.weights P e,n∈DataW.weightsAll P e l:=by
  induction l with
  | nil=>cases hd
  | cons x r ih=>
    intro n hn
    rw [DataW.weightsAll]
    cases List.mem_cons.1 hd with
    | inl h=>subst h;exact List.mem_append_left _ hn
    | inr h=>exact List.mem_append_right _ (ih h n hn)
theorem wt_slice [Inhabited α] {B:α→Prop} (sz:Nat) (ht:P.underlying t=some (.slice e)) (hc:P.cellsOf e=d.sz) (hsz:P.bytesOf e=sz) (h:Opens enc P w base spare held e d (Wt P e B)) :
    Opens enc P w base spare held t (Kd.slice e d) (Wt P t (fun xs=>xs.length*sz≤140737488351232 ∧ ∀ a∈xs,B a)):=
  (opens_slice ht hc h).imp_ fun x xs hx=>by
    rcases hx with⟨rfl,rfl⟩|⟨n,D,X,sp,rfl,rfl,h⟩
    · exact fun _=>⟨by simp,fun a ha=>by cases ha⟩
    · intro hw
      simp only [DataW.weights,ht] at hw
      refine⟨?_,fun a ha=>?_⟩
      · have:=hw _ List.mem_cons_self
        simp only [List.length_map,List.length_range,reachBytes,hsz] at this ⊢
        have h2:n*sz≤(n+sp.length)*sz:=Nat.mul_le_mul_right _ (by omega)
        omega
      · obtain⟨i,hi,rfl⟩:=List.mem_map.mp ha
        refine h i (List.mem_range.mp hi) fun m hm=>hw m ?_
        refine List.mem_cons_of_mem _ (List.mem_append_left _ (weights_all P e _ (D i) (List.mem_map.mpr ⟨i,hi,rfl⟩) m hm))
end
end Go.Proofs.YtklcgncaclggcaaDoor.Opn


namespace Go.Proofs.YtklcgncaclggcaaDoor.Pure
open Go.RowKit Go.Proofs.YtklcgncaclggcaaDoorW.PrintWords
set_option linter.unusedVariables false
set_option linter.unusedSimpArgs false
theorem ev_pos {α:Type} {c:Prop} [Decidable c] {f g:Nat→Option α} {r:α} (hc:c) (h:Ev f r):Ev (fun k=>if c then f k else g k) r:=
  Ev.congr (fun _=>if_pos hc) h
theorem ev_neg {α:Type} {c:Prop} [Decidable c] {f g:Nat→Option α} {r:α} (hc:¬ c) (h:Ev g r):Ev (fun k=>if c then f k else g k) r:=
  Ev.congr (fun _=>if_neg hc) h
theorem ev_eq {α:Type} {g:Nat→Option α} {r r':α} (h:Ev g r) (e:r=r'):Ev g r':=e▸h
theorem ev_some {α β:Type} {o:Option α} {a:α} {f:Nat→α→Option β} {r:β} (h:o=some a) (k:Ev (fun n=>f n a) r):Ev (fun n=>o.bind (f n)) r:=by subst h;exact k
theorem w64 {n:Int} (h:-9000000000000000000≤n) (h':n≤9000000000000000000):wrap64 n=n:=by unfold wrap64;omega
theorem wf_bd {a:Int} (h:(Lit.int .i64 a).wf=true):-9223372036854775808≤a∧a≤9223372036854775807:=by
  simp [Lit.wf] at h
  have e1:IntKind.i64.min = -9223372036854775808:=by kernel_rfl
  have e2:IntKind.i64.max=9223372036854775807:=by kernel_rfl
  omega
theorem toList_inj {a b:ByteArray} (h:a.toList=b.toList):a=b:=by
  rw [ByteArray.toList_eq,ByteArray.toList_eq] at h
  exact ByteArray.ext (Array.toList_inj.mp h)
theorem toList_extract (a:ByteArray) (i j:Nat):(a.extract i j).toList=(a.toList.take j).drop i:=by
  rw [ByteArray.toList_eq,ByteArray.toList_eq,ByteArray.data_extract,Array.toList_extract,List.extract_eq_take_drop,List.drop_take]
theorem toList_append (a b:ByteArray):(a++b).toList=a.toList++b.toList:=by
  rw [ByteArray.toList_eq,ByteArray.toList_eq,ByteArray.toList_eq,ByteArray.data_append,Array.toList_append]
theorem length_toList (a:ByteArray):a.toList.length=a.size:=by rw [ByteArray.toList_eq,Array.length_toList];rfl
theorem bt_get (s:ByteArray) (i:Nat) (h:i<s.toList.length):bt s i=(s.toList[i].toNat:Int):=by
  unfold bt
  rw [dif_pos (show((i:Nat):Int).toNat<s.size by rw [length_toList] at h;omega)]
  congr 1
  simp only [Int.toNat_natCast]
  have e:s.toList=s.data.toList:=ByteArray.toList_eq s
  simp only [e,Array.getElem_toList]
  rfl
theorem bt_drop (s:ByteArray) (i:Nat) (c:UInt8) (l:List UInt8) (h:s.toList.drop i=c :: l):bt s i=(c.toNat:Int)∧i<s.size:=by
  have hi:i<s.toList.length:=by
    have:=congrArg List.length h
    rw [List.length_drop,List.length_cons] at this
    omega
  refine⟨?_,by rw [← length_toList];exact hi⟩
  rw [bt_get s i hi]
  rw [List.drop_eq_getElem_cons hi] at h
  rw [(List.cons.inj h).1]
def B (l:List UInt8):ByteArray:=⟨l.toArray⟩
theorem B_toList (l:List UInt8):(B l).toList=l:=by rw [ByteArray.toList_eq];rfl
theorem of_B (s:ByteArray):B s.toList=s:=toList_inj (B_toList _)
theorem B_size (l:List UInt8):(B l).size=l.length:=by rw [← length_toList,B_toList]
theorem B_extract (l:List UInt8) (i j:Nat):(B l).extract i j=B ((l.take j).drop i):=by
  apply toList_inj
  rw [toList_extract,B_toList,B_toList]
theorem B_append (a b:List UInt8):B a++B b=B (a++b):=by
  apply toList_inj
  rw [toList_append,B_toList,B_toList,B_toList]
theorem B_inj {a b:List UInt8} (h:B a=B b):a=b:=by
  have:=congrArg ByteArray.toList h
  rwa [B_toList,B_toList] at this
theorem bt_B (l:List UInt8) (i:Nat) (c:UInt8) (h:l[i]? = some c):bt (B l) (i:Int)=(c.toNat:Int):=by
  obtain⟨hi,e⟩:=List.getElem?_eq_some_iff.mp h
  have hi':i<(B l).toList.length:=by rw [B_toList];exact hi
  rw [bt_get _ i hi']
  simp only [B_toList,e]
theorem toNat_eq {c d:UInt8}:(c.toNat:Int)=(d.toNat:Int)↔c=d:=by
  constructor
  · intro h;exact UInt8.toNat_inj.mp (Int.ofNat_inj.mp h)
  · intro h;rw [h]
theorem bt_pre (s:ByteArray) (pre l:List UInt8) (c:UInt8) (h:s.toList=pre++c :: l):bt s (pre.length:Int)=(c.toNat:Int)∧pre.length<s.size:=by
  apply bt_drop s pre.length c l
  rw [h,List.drop_left']
  rfl
theorem pre_end (s:ByteArray) (pre:List UInt8) (h:s.toList=pre ++ []):s.size=pre.length:=by rw [← length_toList,h,List.append_nil]
theorem pre_le (s:ByteArray) (pre l:List UInt8) (h:s.toList=pre++l):pre.length+l.length=s.size:=by rw [← length_toList,h,List.length_append]
theorem pre_next (pre:List UInt8) (c:UInt8) (n:Nat) (h:pre.length<n) (hn:n≤9000000000000000000):wrap64 ((pre.length:Int)+1)=((pre ++ [c]).length:Int):=by
  rw [w64 (by omega) (by omega),List.length_append]
  simp
theorem pre_app (s:ByteArray) (pre l:List UInt8) (c:UInt8) (h:s.toList=pre++c :: l):s.toList=(pre ++ [c])++l:=by rw [h];simp
open Go.RowKit Go.Proofs.YtklcgncaclggcaaDoor.Q Go.Proofs.YtklcgncaclggcaaDoorW.PrintWords Go.Proofs.YtklcgncaclggcaaDoorW.PrintLast
def tailL:List UInt8→Nat→Nat→Option Nat
  | _,0,v=>some v
  | [],_+1,_=>none
  | b :: l,j+1,v=>if 128≤b.toNat∧b.toNat<192 then tailL l j (64*v+(b.toNat-128)) else none
def finL (v m n:Nat):Nat×Nat:=if v<m∨1114111<v∨(55296≤v∧v<57344) then(0,0) else(v,n)
def seqL (l:List UInt8) (j v m:Nat):Nat×Nat:=match tailL l j v with|none=>(0,0)|some v=>finL v m (j+1)
def stL:List UInt8→Nat×Nat
  | []=>(0,0)
  | b :: l=>if b.toNat<128 then(b.toNat,1) else if b.toNat<192 then(0,0) else if b.toNat<224 then seqL l 1 (b.toNat-192) 128 else if b.toNat<240 then seqL l 2 (b.toNat-224) 2048 else if b.toNat<248 then seqL l 3 (b.toNat-240) 65536 else(0,0)
def iP (p:Nat×Nat):Int×Int:=(p.1,p.2)
theorem tailL_short (l:List UInt8):∀ j v,l.length<j→tailL l j v=none:=by
  induction l with
  | nil=>intro j v h;cases j with|zero=>simp at h|succ j=>rfl
  | cons b l ih=>
    intro j v h
    cases j with
    | zero=>simp at h
    | succ j=>
      rw [tailL]
      split
      · exact ih j _ (by simpa using h)
      · rfl
theorem tailL_more (l m:List UInt8):∀ j v r,tailL l j v=some r→tailL (l++m) j v=some r:=by
  induction l with
  | nil=>
    intro j v r h
    cases j with
    | zero=>simpa [tailL] using h
    | succ j=>simp [tailL] at h
  | cons b l ih=>
    intro j v r h
    cases j with
    | zero=>simpa [tailL] using h
    | succ j=>
      rw [tailL] at h
      rw [List.cons_append,tailL]
      split at h
      · rename_i c;rw [if_pos c];exact ih j _ r h
      · exact absurd h (by simp)
theorem tailL_len (l:List UInt8) (j v r:Nat) (h:tailL l j v=some r):j≤l.length:=by
  by_cases c:l.length<j
  · rw [tailL_short l j v c] at h;exact absurd h (by simp)
  · omega
theorem step_l0 (s:ByteArray) (hs:s.size≤1000000000000000) (m:Nat) (j:Nat):∀ (pre l:List UInt8) (v:Nat),s.toList=pre++l→j≤l.length→(v+1)*64 ^ j≤1000000000000000 →
    Ev (fun k=>stowageref3_Step.l0 k s ((pre.length+j:Nat):Int) (v:Int) (m:Int) (pre.length:Int)) (iP (match tailL l j v with|none=>(0,0)|some v=>finL v m (pre.length+j))):=by
  induction j with
  | zero=>
    intro pre l v h hj hv
    have e0:tailL l 0 v=some v:=by cases l <;> rfl
    rw [e0]
    refine Ev.step (f:=fun _=>some (iP (finL v m (pre.length+0)))) (fun k=>?_) (Ev.now _)
    rw [stowageref3_Step.l0,if_neg (by omega),finL]
    by_cases c:v<m∨1114111<v∨(55296≤v∧v<57344)
    · rw [if_pos c]
      by_cases c1:(v:Int)<(m:Int)
      · rw [if_pos c1];rfl
      · rw [if_neg c1]
        by_cases c2:(v:Int)>1114111
        · rw [if_pos c2];rfl
        · rw [if_neg c2,if_pos (by omega),if_pos (by omega)];rfl
    · rw [if_neg c,if_neg (by omega),if_neg (by omega)]
      by_cases c3:(v:Int) ≥ 55296
      · rw [if_pos c3,if_neg (by omega)];rfl
      · rw [if_neg c3];rfl
  | succ j ih=>
    intro pre l v h hj hv
    cases l with
    | nil=>simp at hj
    | cons c l=>
      obtain⟨hb,hl⟩:=bt_pre s pre l c h
      have hn:=pre_next pre c s.size hl (by omega)
      have happ:=pre_app s _ l c h
      have hc:=c.toNat_lt
      have hp:1≤64 ^ j:=Nat.one_le_pow _ _ (by omega)
      have hv1:(v+1)*64 ^ (j+1)=(64*(v+1))*64 ^ j:=by rw [Nat.pow_succ];rw [Nat.mul_comm (64 ^ j) 64,← Nat.mul_assoc,Nat.mul_comm (v+1) 64]
      have hv2:64*(v+1)≤(64*(v+1))*64 ^ j:=Nat.le_mul_of_pos_right _ hp
      rw [tailL]
      by_cases g:128≤c.toNat∧c.toNat<192
      · rw [if_pos g]
        have hlen:((pre ++ [c]).length+j:Nat)=pre.length+(j+1):=by simp;omega
        have hm:(64*v+(c.toNat-128)+1)*64 ^ j≤(64*(v+1))*64 ^ j:=Nat.mul_le_mul_right _ (by omega)
        have h':=ih (pre ++ [c]) l (64*v+(c.toNat-128)) happ (by simpa using hj) (by omega)
        rw [hlen] at h'
        refine Ev.step (fun k=>?_) h'
        have ew:wrap64 (wrap64 (wrap64 (64*(v:Int))+wrap64 (c.toNat:Int))-128)=((64*v+(c.toNat-128):Nat):Int):=by
          rw [w64 (n:=64*(v:Int)) (by omega) (by omega),w64 (n:=(c.toNat:Int)) (by omega) (by omega),w64 (n:=64*(v:Int)+(c.toNat:Int)) (by omega) (by omega),w64 (by omega) (by omega)]
          omega
        rw [stowageref3_Step.l0,if_pos (by omega),if_pos (by omega),if_pos (by omega),hb,if_neg (by omega),if_neg (by omega),ew,hn]
      · rw [if_neg g]
        refine Ev.step (f:=fun _=>some ((0:Int),(0:Int))) (fun k=>?_) (Ev.now _)
        rw [stowageref3_Step.l0,if_pos (by omega),if_pos (by omega),if_pos (by omega),hb]
        by_cases g1:(c.toNat:Int)<128
        · rw [if_pos g1]
        · rw [if_neg g1,if_pos (by omega)]
theorem step_j2 (s:ByteArray) (hs:s.size≤1000000000000000) (c:UInt8) (l:List UInt8) (h:s.toList=c :: l) (j v m:Nat) (hv:(v+1)*64 ^ j≤1000000000000000) :
    Ev (fun k=>stowageref3_Step.j2 k s ((j+1:Nat):Int) (v:Int) (m:Int)) (iP (seqL l j v m)):=by
  have hz:l.length+1=s.size:=by rw [← length_toList,h];rfl
  unfold seqL
  by_cases g:l.length<j
  · rw [tailL_short l j v g]
    exact Ev.step (f:=fun _=>some ((0:Int),(0:Int))) (fun k=>by rw [stowageref3_Step.j2,if_pos (by omega)]) (Ev.now _)
  · have h':=step_l0 s hs m j [c] l v h (by omega) hv
    rw [show [c].length+j=j+1 by rw [List.length_singleton];omega] at h'
    exact Ev.step (fun k=>by rw [stowageref3_Step.j2,if_neg (by omega)];rfl) h'
theorem step_ev (s:ByteArray) (hs:s.size≤1000000000000000) (c:UInt8) (l:List UInt8) (h:s.toList=c :: l):Ev (fun k=>stowageref3_Step.f k s) (iP (stL s.toList)):=by
  have hz:l.length+1=s.size:=by rw [← length_toList,h];rfl
  obtain⟨hb,hl⟩:=bt_pre s [] l c h
  have hb':bt s 0=(c.toNat:Int):=hb
  have hc:=c.toNat_lt
  have hw:wrap64 (c.toNat:Int)=(c.toNat:Int):=w64 (by omega) (by omega)
  rw [h,stL]
  unfold stowageref3_Step.f
  refine ev_pos (by omega) ?_
  simp only [hb',hw]
  by_cases c1:c.toNat<128
  · rw [if_pos c1]
    exact ev_pos (by omega) (Ev.now _)
  · rw [if_neg c1]
    refine ev_neg (by omega) ?_
    by_cases c2:c.toNat<192
    · rw [if_pos c2]
      refine ev_neg (by omega) ?_
      refine Ev.step (f:=fun k=>stowageref3_Step.j1 k s (c.toNat:Int) false) (fun k=>by rw [stowageref3_Step.j0,if_neg (by decide),if_neg (by omega)]) ?_
      exact Ev.step (f:=fun _=>some ((0:Int),(0:Int))) (fun k=>by rw [stowageref3_Step.j1,if_neg (by decide),if_neg (by omega)]) (Ev.now _)
    · rw [if_neg c2]
      refine ev_pos (by omega) ?_
      by_cases c3:c.toNat<224
      · rw [if_pos c3]
        refine Ev.step (fun k=>?_) (step_j2 s hs c l h 1 (c.toNat-192) 128 (by omega))
        rw [stowageref3_Step.j0,if_pos (by rw [decide_eq_true_eq];omega),w64 (by omega) (by omega),show(c.toNat:Int)-192=((c.toNat-192:Nat):Int) by omega]
        rfl
      · rw [if_neg c3]
        by_cases c4:c.toNat<240
        · rw [if_pos c4]
          refine Ev.step (f:=fun k=>stowageref3_Step.j1 k s (c.toNat:Int) true) (fun k=>by rw [stowageref3_Step.j0,if_neg (by rw [decide_eq_true_eq];omega),if_pos (by omega),decide_eq_true (by omega)]) ?_
          refine Ev.step (fun k=>?_) (step_j2 s hs c l h 2 (c.toNat-224) 2048 (by omega))
          rw [stowageref3_Step.j1,if_pos rfl,w64 (by omega) (by omega),show(c.toNat:Int)-224=((c.toNat-224:Nat):Int) by omega]
          rfl
        · rw [if_neg c4]
          refine Ev.step (f:=fun k=>stowageref3_Step.j1 k s (c.toNat:Int) false) (fun k=>by rw [stowageref3_Step.j0,if_neg (by rw [decide_eq_true_eq];omega),if_pos (by omega),decide_eq_false (by omega)]) ?_
          by_cases c5:c.toNat<248
          · rw [if_pos c5]
            refine Ev.step (fun k=>?_) (step_j2 s hs c l h 3 (c.toNat-240) 65536 (by omega))
            rw [stowageref3_Step.j1,if_neg (by decide),if_pos (by omega),if_pos (by omega),w64 (by omega) (by omega),show(c.toNat:Int)-240=((c.toNat-240:Nat):Int) by omega]
            rfl
          · rw [if_neg c5]
            exact Ev.step (f:=fun _=>some ((0:Int),(0:Int))) (fun k=>by rw [stowageref3_Step.j1,if_neg (by decide),if_pos (by omega),if_neg (by omega)]) (Ev.now _)
theorem finL_cases (v m n:Nat):finL v m n=(0,0)∨finL v m n=(v,n):=by
  unfold finL;split
  · exact .inl rfl
  · exact .inr rfl
theorem seqL_cases (l:List UInt8) (j v m:Nat):seqL l j v m=(0,0) ∨ ∃ r,tailL l j v=some r∧seqL l j v m=(r,j+1):=by
  unfold seqL
  cases h:tailL l j v with
  | none=>exact .inl rfl
  | some r=>
    rcases finL_cases r m (j+1) with e|e
    · exact .inl e
    · exact .inr ⟨r,rfl,e⟩
theorem seqL_more (l t:List UInt8) (j v m:Nat) (h:(seqL l j v m).2≠0):seqL (l++t) j v m=seqL l j v m:=by
  unfold seqL at h ⊢
  cases e:tailL l j v with
  | none=>rw [e] at h;simp at h
  | some r=>rw [tailL_more l t j v r e]
theorem seqL_wid (l:List UInt8) (j v m:Nat):(seqL l j v m).2≤l.length+1:=by
  rcases seqL_cases l j v m with e|⟨r,hr,e⟩
  · rw [e];simp
  · rw [e];have:=tailL_len l j v r hr;simp;omega
theorem stL_more (l t:List UInt8) (h:(stL l).2≠0):stL (l++t)=stL l:=by
  cases l with
  | nil=>simp [stL] at h
  | cons b l=>
    rw [stL] at h
    rw [List.cons_append,stL,stL]
    split
    · rfl
    · rename_i c1
      rw [if_neg c1] at h
      split
      · rfl
      · rename_i c2
        rw [if_neg c2] at h
        split
        · rename_i c3;rw [if_pos c3] at h;exact seqL_more l t _ _ _ h
        · rename_i c3
          rw [if_neg c3] at h
          split
          · rename_i c4;rw [if_pos c4] at h;exact seqL_more l t _ _ _ h
          · rename_i c4
            rw [if_neg c4] at h
            split
            · rename_i c5;rw [if_pos c5] at h;exact seqL_more l t _ _ _ h
            · rfl
theorem stL_wid (b:UInt8) (l:List UInt8):(stL (b :: l)).2≤l.length+1:=by
  rw [stL]
  (repeat' split) <;> first|exact seqL_wid _ _ _ _|simp
def dL (l:List UInt8):Nat×Nat:=Lib.decodeN l.length (l.getD 0 0).toNat (l.getD 1 0).toNat (l.getD 2 0).toNat (l.getD 3 0).toNat
def Same (a d:Nat×Nat):Prop:=(a.2=0∧d=(65533,1))∨(a.2≠0∧d=a∧¬ d=(65533,1))
theorem finL_same (v m n:Nat) (P:Prop) [Decidable P] (hm:128≤m) (hn:2≤n) (hP:P↔¬ (v<m∨1114111<v∨(55296≤v∧v<57344))):Same (finL v m n) (if P then(v,n) else(65533,1)):=by
  unfold finL Same
  by_cases c:v<m∨1114111<v∨(55296≤v∧v<57344)
  · rw [if_pos c,if_neg (by rw [hP];exact fun h=>h c)];exact .inl ⟨rfl,rfl⟩
  · rw [if_neg c,if_pos (hP.mpr c)]
    refine .inr ⟨by simp only;omega,rfl,?_⟩
    intro e
    have:=congrArg Prod.snd e
    simp only at this
    omega
theorem nil_same:Same (0,0) (65533,1):=.inl ⟨rfl,rfl⟩
theorem dec2 (b:UInt8) (l:List UInt8) (h1:192≤b.toNat) (h2:b.toNat<224):Same (seqL l 1 (b.toNat-192) 128) (dL (b :: l)):=by
  unfold dL Lib.decodeN seqL
  rw [List.getD_cons_zero,if_neg (by omega)]
  cases l with
  | nil=>
    rw [if_neg (by simp),if_neg (by omega),if_neg (by omega)]
    exact nil_same
  | cons c l=>
    have hc:=c.toNat_lt
    have e1:((b :: c :: l).getD 1 0).toNat=c.toNat:=by simp
    rw [e1,tailL]
    by_cases g:128≤c.toNat∧c.toNat<192
    · have ht:∀ v,tailL l 0 v=some v:=fun v=>by cases l <;> rfl
      rw [if_pos g,ht,if_pos ⟨by omega,by simp,by omega⟩]
      have ev:b.toNat % 32*64+c.toNat % 64=64*(b.toNat-192)+(c.toNat-128):=by omega
      rw [ev]
      exact finL_same _ _ _ _ (by omega) (by omega) (by omega)
    · rw [if_neg g,if_neg (by intro h;omega),if_neg (by omega),if_neg (by omega)]
      exact nil_same
theorem dec3 (b:UInt8) (l:List UInt8) (h1:224≤b.toNat) (h2:b.toNat<240):Same (seqL l 2 (b.toNat-224) 2048) (dL (b :: l)):=by
  unfold dL Lib.decodeN seqL
  rw [List.getD_cons_zero,if_neg (by omega),if_neg (by omega)]
  match l with
  | []=>
    rw [if_neg (by simp),if_neg (by omega)]
    exact nil_same
  | [c]=>
    have e:tailL [c] 2 (b.toNat-224)=none:=tailL_short _ _ _ (by simp)
    rw [e,if_neg (by simp),if_neg (by omega)]
    exact nil_same
  | c :: d :: l=>
    have hc:=c.toNat_lt
    have hd:=d.toNat_lt
    have e1:((b :: c :: d :: l).getD 1 0).toNat=c.toNat:=by simp
    have e2:((b :: c :: d :: l).getD 2 0).toNat=d.toNat:=by simp
    rw [e1,e2,tailL]
    by_cases g:128≤c.toNat∧c.toNat<192
    · rw [if_pos g,tailL]
      by_cases g2:128≤d.toNat∧d.toNat<192
      · have ht:∀ v,tailL l 0 v=some v:=fun v=>by cases l <;> rfl
        rw [if_pos g2,ht,if_pos ⟨by omega,⟨by simp,by omega⟩,⟨by simp,by omega⟩⟩]
        have ev:b.toNat % 16*4096+c.toNat % 64*64+d.toNat % 64=64*(64*(b.toNat-224)+(c.toNat-128))+(d.toNat-128):=by omega
        rw [ev]
        exact finL_same _ _ _ _ (by omega) (by omega) (by omega)
      · rw [if_neg g2,if_neg (by intro h;omega),if_neg (by omega)]
        exact nil_same
    · rw [if_neg g,if_neg (by intro h;omega),if_neg (by omega)]
      exact nil_same
theorem dec4 (b:UInt8) (l:List UInt8) (h1:240≤b.toNat) (h2:b.toNat<248):Same (seqL l 3 (b.toNat-240) 65536) (dL (b :: l)):=by
  unfold dL Lib.decodeN seqL
  rw [List.getD_cons_zero,if_neg (by omega),if_neg (by omega),if_neg (by omega)]
  match l with
  | []=>
    rw [if_neg (by simp)]
    exact nil_same
  | [c]=>
    have e:tailL [c] 3 (b.toNat-240)=none:=tailL_short _ _ _ (by simp)
    rw [e,if_neg (by simp)]
    exact nil_same
  | [c,d]=>
    have e:tailL [c,d] 3 (b.toNat-240)=none:=tailL_short _ _ _ (by simp)
    rw [e,if_neg (by simp)]
    exact nil_same
  | c :: d :: x :: l=>
    have hc:=c.toNat_lt
    have hd:=d.toNat_lt
    have hx:=x.toNat_lt
    have e1:((b :: c :: d :: x :: l).getD 1 0).toNat=c.toNat:=by simp
    have e2:((b :: c :: d :: x :: l).getD 2 0).toNat=d.toNat:=by simp
    have e3:((b :: c :: d :: x :: l).getD 3 0).toNat=x.toNat:=by simp
    rw [e1,e2,e3,tailL]
    by_cases g:128≤c.toNat∧c.toNat<192
    · rw [if_pos g,tailL]
      by_cases g2:128≤d.toNat∧d.toNat<192
      · rw [if_pos g2,tailL]
        by_cases g3:128≤x.toNat∧x.toNat<192
        · have ht:∀ v,tailL l 0 v=some v:=fun v=>by cases l <;> rfl
          rw [if_pos g3,ht,if_pos ⟨by omega,⟨by simp,by omega⟩,⟨by simp,by omega⟩,⟨by simp,by omega⟩⟩]
          have ev:b.toNat % 8*262144+c.toNat % 64*4096+d.toNat % 64*64+x.toNat % 64=64*(64*(64*(b.toNat-240)+(c.toNat-128))+(d.toNat-128))+(x.toNat-128):=by omega
          rw [ev]
          exact finL_same _ _ _ _ (by omega) (by omega) (by omega)
        · rw [if_neg g3,if_neg (by intro h;omega)]
          exact nil_same
      · rw [if_neg g2,if_neg (by intro h;omega)]
        exact nil_same
    · rw [if_neg g,if_neg (by intro h;omega)]
      exact nil_same
theorem dec_same (b:UInt8) (l:List UInt8):Same (stL (b :: l)) (dL (b :: l)):=by
  have hb:=b.toNat_lt
  rw [stL]
  by_cases c1:b.toNat<128
  · rw [if_pos c1]
    unfold dL Lib.decodeN
    rw [List.getD_cons_zero,if_pos c1]
    refine .inr ⟨by simp,rfl,?_⟩
    intro e
    have:=congrArg Prod.fst e
    simp only at this
    omega
  · rw [if_neg c1]
    by_cases c2:b.toNat<192
    · rw [if_pos c2]
      unfold dL Lib.decodeN
      rw [List.getD_cons_zero,if_neg c1,if_neg (by omega),if_neg (by omega),if_neg (by omega)]
      exact nil_same
    · rw [if_neg c2]
      by_cases c3:b.toNat<224
      · rw [if_pos c3];exact dec2 b l (by omega) c3
      · rw [if_neg c3]
        by_cases c4:b.toNat<240
        · rw [if_pos c4];exact dec3 b l (by omega) c4
        · rw [if_neg c4]
          by_cases c5:b.toNat<248
          · rw [if_pos c5];exact dec4 b l (by omega) c5
          · rw [if_neg c5]
            unfold dL Lib.decodeN
            rw [List.getD_cons_zero,if_neg c1,if_neg (by omega),if_neg (by omega),if_neg (by omega)]
            exact nil_same
theorem get_list (s:ByteArray) (i:Nat):s.get! i=s.toList.getD i 0:=by
  rw [ByteArray.toList_eq]
  show s.data[i]! = _
  rw [List.getD_eq_getElem?_getD,Array.getElem!_eq_getD,Array.getD_eq_getD_getElem?,Array.getElem?_toList]
  rfl
theorem dec_at (s:ByteArray) (pos:Nat):Utf8.decode s pos=dL (s.toList.drop pos):=by
  rw [Lib.decode_at,get_list,get_list,get_list,get_list]
  unfold dL
  rw [List.length_drop,length_toList]
  have hd:∀ i,(s.toList.drop pos).getD i 0=s.toList.getD (pos+i) 0:=by
    intro i
    rw [List.getD_eq_getElem?_getD,List.getD_eq_getElem?_getD,List.getElem?_drop]
  rw [hd,hd,hd,hd]
  rfl
def cO:Nat→List UInt8→Option Nat
  | 0,_=>some 0
  | _+1,[]=>some 0
  | k+1,c :: l=>if(stL (c :: l)).2=0 then none else(cO k ((c :: l).drop (stL (c :: l)).2)).map (· + 1)
def cR (n:Nat):Option Nat→Int×Bool
  | none=>(0,false)
  | some m=>(((n+m:Nat):Int),true)
def lO:Nat→List UInt8→Bool
  | 0,_=>true
  | _+1,[]=>true
  | k+1,c :: l=>if(stL (c :: l)).2=0 then false else(chars_Legal.ok (stL (c :: l)).1 && lO k ((c :: l).drop (stL (c :: l)).2))
theorem st_wid (l:List UInt8):(stL l).2≤l.length:=by
  cases l with
  | nil=>simp [stL]
  | cons b l=>exact stL_wid b l
theorem cO_fuel (k:Nat):∀ k' l,l.length≤k→l.length≤k'→cO k l=cO k' l:=by
  induction k with
  | zero=>
    intro k' l h h'
    cases l with
    | nil=>cases k' <;> rfl
    | cons c l=>simp at h
  | succ k ih=>
    intro k' l h h'
    cases l with
    | nil=>cases k' <;> rfl
    | cons c l=>
      cases k' with
      | zero=>simp at h'
      | succ k'=>
        rw [cO,cO]
        by_cases g:(stL (c :: l)).2=0
        · rw [if_pos g,if_pos g]
        · rw [if_neg g,if_neg g,ih k']
          · rw [List.length_drop];simp only [List.length_cons] at h ⊢;omega
          · rw [List.length_drop];simp only [List.length_cons] at h' ⊢;omega
theorem lO_fuel (k:Nat):∀ k' l,l.length≤k→l.length≤k'→lO k l=lO k' l:=by
  induction k with
  | zero=>
    intro k' l h h'
    cases l with
    | nil=>cases k' <;> rfl
    | cons c l=>simp at h
  | succ k ih=>
    intro k' l h h'
    cases l with
    | nil=>cases k' <;> rfl
    | cons c l=>
      cases k' with
      | zero=>simp at h'
      | succ k'=>
        rw [lO,lO]
        by_cases g:(stL (c :: l)).2=0
        · rw [if_pos g,if_pos g]
        · rw [if_neg g,if_neg g,ih k']
          · rw [List.length_drop];simp only [List.length_cons] at h ⊢;omega
          · rw [List.length_drop];simp only [List.length_cons] at h' ⊢;omega
theorem own_at (s:ByteArray) (pos:Nat) (h:pos<s.size):((Utf8.decode s pos).1=65533∧chars_Count.own s pos=false)↔(stL (s.toList.drop pos)).2=0:=by
  have hlen:(s.toList.drop pos).length=s.size-pos:=by rw [List.length_drop,length_toList]
  have hown:chars_Count.own s pos=(decide (3≤(s.toList.drop pos).length) && ((s.toList.drop pos).take 3 == [239,191,189])):=by
    unfold chars_Count.own
    rw [hlen,toList_extract,toList_extract,List.take_of_length_le (l:=s.toList) (by rw [length_toList];omega),List.drop_zero]
  rw [dec_at,hown]
  cases hl:s.toList.drop pos with
  | nil=>rw [hl] at hlen;simp at hlen;omega
  | cons c l=>
    rcases dec_same c l with⟨e,d⟩|⟨e,d,dn⟩
    · rw [d,e]
      refine⟨fun _=>rfl,fun _=>⟨rfl,?_⟩⟩
      rw [Bool.and_eq_false_iff]
      by_cases g:(List.take 3 (c :: l) == [239,191,189])=true
      · exfalso
        have g':List.take 3 (c :: l) = [239,191,189]:=by simpa using g
        have:∃ t,c :: l = [239,191,189]++t:=⟨(c :: l).drop 3,by rw [← g',List.take_append_drop]⟩
        obtain⟨t,ht⟩:=this
        rw [ht] at e
        have h3:(stL [239,191,189]).2=3:=by decide
        rw [stL_more _ t (by rw [h3];decide),h3] at e
        exact absurd e (by decide)
      · right;simpa using g
    · rw [d]
      refine⟨fun ⟨h1,h2⟩=>?_,fun h0=>absurd h0 e⟩
      exfalso
      have hcases:=dn
      have key:c.toNat=239 ∧ ∃ x y t,l=x :: y :: t∧x.toNat=191∧y.toNat=189:=by
        have hc:=c.toNat_lt
        rw [stL] at h1 e
        by_cases c1:c.toNat<128
        · rw [if_pos c1] at h1;simp at h1;omega
        · rw [if_neg c1] at h1 e
          by_cases c2:c.toNat<192
          · rw [if_pos c2] at h1;simp at h1
          · rw [if_neg c2] at h1 e
            by_cases c3:c.toNat<224
            · rw [if_pos c3] at h1 e
              exfalso
              rcases seqL_cases l 1 (c.toNat-192) 128 with q|⟨r,hr,q⟩
              · rw [q] at h1;simp at h1
              · rw [q] at h1
                cases l with
                | nil=>simp [tailL] at hr
                | cons x l=>
                  have hx:=x.toNat_lt
                  rw [tailL] at hr
                  split at hr
                  · have ht:tailL l 0 (64*(c.toNat-192)+(x.toNat-128))=some (64*(c.toNat-192)+(x.toNat-128)):=by cases l <;> rfl
                    rw [ht] at hr
                    have:=Option.some.inj hr
                    simp only at h1
                    omega
                  · simp at hr
            · rw [if_neg c3] at h1 e
              by_cases c4:c.toNat<240
              · rw [if_pos c4] at h1 e
                rcases seqL_cases l 2 (c.toNat-224) 2048 with q|⟨r,hr,q⟩
                · rw [q] at h1;simp at h1
                · rw [q] at h1
                  match l with
                  | []=>simp [tailL] at hr
                  | [x]=>rw [tailL_short _ _ _ (by simp)] at hr;simp at hr
                  | x :: y :: t=>
                    have hx:=x.toNat_lt
                    have hy:=y.toNat_lt
                    rw [tailL] at hr
                    split at hr
                    · rw [tailL] at hr
                      split at hr
                      · have ht:∀ v,tailL t 0 v=some v:=fun v=>by cases t <;> rfl
                        rw [ht] at hr
                        have:=Option.some.inj hr
                        simp only at h1
                        exact⟨by omega,x,y,t,rfl,by omega,by omega⟩
                      · simp at hr
                    · simp at hr
              · rw [if_neg c4] at h1 e
                exfalso
                by_cases c5:c.toNat<248
                · rw [if_pos c5] at h1 e
                  have:seqL l 3 (c.toNat-240) 65536=(0,0)∨65536≤(seqL l 3 (c.toNat-240) 65536).1:=by
                    unfold seqL
                    cases tailL l 3 (c.toNat-240) with
                    | none=>exact .inl rfl
                    | some r=>
                      simp only [finL]
                      split
                      · exact .inl rfl
                      · right;simp only;omega
                  rcases this with q|q
                  · rw [q] at h1;simp at h1
                  · omega
                · rw [if_neg c5] at h1;simp at h1
      obtain⟨k0,x,y,t,rfl,kx,ky⟩:=key
      have e0:c=239:=UInt8.toNat_inj.mp (by rw [k0];rfl)
      have e1:x=191:=UInt8.toNat_inj.mp (by rw [kx];rfl)
      have e2:y=189:=UInt8.toNat_inj.mp (by rw [ky];rfl)
      subst e0 e1 e2
      simp at h2
theorem dec_good (s:ByteArray) (pos:Nat) (c:UInt8) (l:List UInt8) (h:s.toList.drop pos=c :: l) (g:¬ (stL (c :: l)).2=0):Utf8.decode s pos=stL (c :: l):=by
  rw [dec_at,h]
  rcases dec_same c l with⟨e,_⟩|⟨_,d,_⟩
  · exact absurd e g
  · exact d
theorem dec_bad (s:ByteArray) (pos:Nat) (c:UInt8) (l:List UInt8) (h:s.toList.drop pos=c :: l) (g:(stL (c :: l)).2=0):Utf8.decode s pos=(65533,1):=by
  rw [dec_at,h]
  rcases dec_same c l with⟨_,d⟩|⟨e,_,_⟩
  · exact d
  · exact absurd g e
theorem drop_nil (s:ByteArray) (pos:Nat) (h:s.toList.drop pos = []):¬ pos<s.size:=by
  have:=congrArg List.length h
  rw [List.length_drop,length_toList] at this
  simp at this
  omega
theorem drop_cons (s:ByteArray) (pos:Nat) (c:UInt8) (l:List UInt8) (h:s.toList.drop pos=c :: l):pos<s.size∧l.length+1=s.size-pos:=by
  have:=congrArg List.length h
  rw [List.length_drop,length_toList] at this
  simp at this
  omega
theorem g_cO (s:ByteArray) (fuel:Nat):∀ pos n,chars_Count.g s fuel pos (n:Nat)=cR n (cO fuel (s.toList.drop pos)):=by
  induction fuel with
  | zero=>intro pos n;rfl
  | succ k ih=>
    intro pos n
    cases hl:s.toList.drop pos with
    | nil=>rw [chars_Count.g,if_neg (drop_nil s pos hl),cO];rfl
    | cons c l=>
      obtain⟨hp,_⟩:=drop_cons s pos c l hl
      rw [chars_Count.g,if_pos hp,cO]
      by_cases g:(stL (c :: l)).2=0
      · rw [if_pos ((own_at s pos hp).mpr (by rw [hl];exact g)),if_pos g]
        rfl
      · rw [if_neg (fun h=>g (by have:=(own_at s pos hp).mp h;rwa [hl] at this)),if_neg g,dec_good s pos c l hl g]
        have:=ih (pos+(stL (c :: l)).2) (n+1)
        rw [← List.drop_drop,hl] at this
        rw [show((n:Nat):Int)+1=((n+1:Nat):Int) by omega,this]
        cases cO k ((c :: l).drop (stL (c :: l)).2) with
        | none=>rfl
        | some m=>simp only [cR,Option.map_some];rw [show n+1+m=n+(m+1) by omega]
theorem count_eq (s:ByteArray) (h:s.size≤9007199254740992):chars_Count.f s=some (cR 0 (cO s.size s.toList)):=by
  have:=g_cO s s.size 0 0
  rw [List.drop_zero] at this
  rw [chars_Count.f,if_pos h]
  exact congrArg some this
theorem valid_eq (s:ByteArray) (h:s.size≤9007199254740992):chars_Valid.f s=some (cO s.size s.toList).isSome:=by
  unfold chars_Valid.f
  rw [count_eq s h,Option.bind_some]
  cases cO s.size s.toList <;> rfl
theorem g_lO (s:ByteArray) (fuel:Nat):∀ pos,(chars_Legal.g s fuel pos && (cO fuel (s.toList.drop pos)).isSome)=lO fuel (s.toList.drop pos):=by
  have hok:chars_Legal.ok (65533:Nat)=true:=by decide
  induction fuel with
  | zero=>intro pos;rfl
  | succ k ih=>
    intro pos
    cases hl:s.toList.drop pos with
    | nil=>rw [chars_Legal.g,if_neg (drop_nil s pos hl),cO,lO];rfl
    | cons c l=>
      obtain⟨hp,_⟩:=drop_cons s pos c l hl
      rw [chars_Legal.g,if_pos hp,cO,lO]
      by_cases g:(stL (c :: l)).2=0
      · rw [if_pos g,if_pos g,Option.isSome_none,Bool.and_false]
      · rw [if_neg g,if_neg g,dec_good s pos c l hl g,Option.isSome_map]
        have:=ih (pos+(stL (c :: l)).2)
        rw [← List.drop_drop,hl] at this
        cases hk:chars_Legal.ok (((stL (c :: l)).1:Nat):Int)
        · rw [if_pos rfl];rfl
        · rw [if_neg (by decide),this,Bool.true_and]
theorem legal_eq (s:ByteArray) (h:s.size≤9007199254740992):chars_Legal.f s=some (lO s.size s.toList):=by
  have:=g_lO s s.size 0
  rw [List.drop_zero] at this
  rw [chars_Legal.f,if_pos h,← this]
  by_cases g:chars_Legal.g s s.size 0=true
  · rw [if_pos g,valid_eq s h,g,Bool.true_and]
  · rw [if_neg g]
    simp only [Bool.not_eq_true] at g
    rw [g,Bool.false_and]
theorem ext_list (s:ByteArray) (n:Nat):(s.extract n s.size).toList=s.toList.drop n:=by
  rw [toList_extract,List.take_of_length_le (by rw [length_toList];omega)]
theorem char_ok (c:Nat) (h:c≤1114111):stowageref3_Char.f (c:Int)=some (chars_Legal.ok (c:Int)):=by
  unfold stowageref3_Char.f chars_Legal.ok
  (repeat' split) <;> (congr 1;symm;first|(rw [decide_eq_true_eq];omega)|(rw [decide_eq_false_iff_not];omega)|(rw [decide_eq_true (by omega),decide_eq_true (by omega)]))
theorem st_max (b:UInt8) (l:List UInt8):(stL (b :: l)).1≤1114111:=by
  have hf:∀ v m n,(finL v m n).1≤1114111:=by
    intro v m n
    unfold finL
    split
    · simp
    · simp only;omega
  have hs:∀ l j v m,(seqL l j v m).1≤1114111:=by
    intro l j v m
    unfold seqL
    cases tailL l j v with
    | none=>simp
    | some r=>exact hf _ _ _
  have hb:=b.toNat_lt
  rw [stL]
  (repeat' split) <;> first|exact hs _ _ _ _|(simp only;omega)
theorem rlegal_l0 (fuel:Nat):∀ (s:ByteArray),s.size≤fuel→s.size≤1000000000000000→Ev (fun k=>stowageref3_Legal.l0 k s) (lO fuel s.toList):=by
  induction fuel with
  | zero=>
    intro s h hn
    exact Ev.step (f:=fun _=>some true) (fun k=>by rw [stowageref3_Legal.l0,if_neg (by omega)]) (Ev.now _)
  | succ f ih=>
    intro s h hn
    cases hl:s.toList with
    | nil=>
      have hz:s.size=0:=by rw [← length_toList,hl];rfl
      exact Ev.step (f:=fun _=>some true) (fun k=>by rw [stowageref3_Legal.l0,if_neg (by omega)]) (Ev.now _)
    | cons c l=>
      have hz:s.size=l.length+1:=by rw [← length_toList,hl];rfl
      have hs:=step_ev s (by omega) c l hl
      have hw:=stL_wid c l
      rw [hl] at hs
      rw [lO]
      refine Ev.step (f:=fun k=>(stowageref3_Step.f k s).bind fun bt250=>(if bt250.2=0 then(some false) else((stowageref3_Char.f bt250.1).bind fun t252=>(if t252=true then(if 0≤bt250.2 then(if bt250.2≤(s.size:Int) then(stowageref3_Legal.l0 k (s.extract (bt250.2:Int).toNat s.size)) else(none)) else(none)) else(some false))))) (fun k=>by rw [stowageref3_Legal.l0,if_pos (by omega)]) (Ev.bind hs ?_)
      simp only [iP]
      by_cases g:(stL (c :: l)).2=0
      · rw [if_pos g]
        exact ev_pos (by omega) (Ev.now _)
      · rw [if_neg g]
        refine ev_neg (by omega) (ev_some (char_ok _ (st_max c l)) ?_)
        cases hk:chars_Legal.ok (((stL (c :: l)).1:Nat):Int)
        · exact ev_neg (by decide) (Ev.now _)
        · refine ev_pos rfl (ev_pos (by omega) (ev_pos (by omega) ?_))
          simp only [Int.toNat_natCast]
          have hz2:(s.extract (stL (c :: l)).2 s.size).size=s.size-(stL (c :: l)).2:=by simp
          have h':=ih (s.extract (stL (c :: l)).2 s.size) (by omega) (by omega)
          rw [ext_list,hl] at h'
          exact h'
theorem rlegal_ev (s:ByteArray) (h:s.size≤1000000000000000):Ev (fun k=>stowageref3_Legal.f k s) (lO s.size s.toList):=rlegal_l0 s.size s (Nat.le_refl _) h
def letB (c:UInt8):Bool:=decide ((65≤c.toNat∧c.toNat≤90)∨(97≤c.toNat∧c.toNat≤122)∨c.toNat=95)
def inB (c:UInt8):Bool:=letB c || decide ((48≤c.toNat∧c.toNat≤57)∨c.toNat=45∨c.toNat=46)
theorem byte_all {P:UInt8→Prop} (h:∀ n:Fin 256,P (UInt8.ofNat n.val)) (c:UInt8):P c:=by
  have:=h ⟨c.toNat,c.toNat_lt⟩
  rwa [UInt8.ofNat_toNat] at this
theorem le_a (c:UInt8):xml_letter.f (c.toNat:Int)=some (letB c):=byte_all (P:=fun c=>xml_letter.f (c.toNat:Int)=some (letB c)) (by decide +kernel) c
theorem in_a (c:UInt8):xml_inner.f (c.toNat:Int)=some (inB c):=byte_all (P:=fun c=>xml_inner.f (c.toNat:Int)=some (inB c)) (by decide +kernel) c
theorem le_r (c:UInt8):stowageref13_letter.f (c.toNat:Int)=some (letB c):=byte_all (P:=fun c=>stowageref13_letter.f (c.toNat:Int)=some (letB c)) (by decide +kernel) c
theorem in_r (c:UInt8):stowageref13_inner.f (c.toNat:Int)=some (inB c):=byte_all (P:=fun c=>stowageref13_inner.f (c.toNat:Int)=some (inB c)) (by decide +kernel) c
def nmB:List UInt8→Bool
  | []=>false
  | c :: l=>letB c && l.all inB
theorem xname_l0 (s:ByteArray) (hs:s.size≤1000000000000000) (l:List UInt8):∀ pre,pre ≠ []→s.toList=pre++l→Ev (fun k=>xml_Name.l0 k s (s.size:Int) (pre.length:Int)) (l.all inB):=by
  induction l with
  | nil=>
    intro pre hp h
    have e:=pre_end s pre h
    refine Ev.step (f:=fun _=>some (s.toList != [])) (fun k=>by rw [xml_Name.l0,if_neg (by omega)]) (ev_eq (Ev.now _) ?_)
    rw [h]
    cases pre with
    | nil=>exact absurd rfl hp
    | cons=>rfl
  | cons c l ih=>
    intro pre hp h
    obtain⟨hb,hl⟩:=bt_pre s pre l c h
    have hn:=pre_next pre c s.size hl (by omega)
    have h0:¬ ((pre.length:Int)=0):=by
      cases pre with
      | nil=>exact absurd rfl hp
      | cons=>simp;omega
    refine Ev.step (f:=fun k=>if inB c=true then xml_Name.l0 k s (s.size:Int) ((pre ++ [c]).length:Int) else some false) (fun k=>?_) ?_
    · rw [xml_Name.l0,if_pos (by omega),if_pos (by omega),if_pos (by omega),hb,in_a,Option.bind_some,hn,if_neg h0]
    · by_cases g:inB c=true
      · exact ev_pos g (ev_eq (ih _ (by simp) (pre_app s pre l c h)) (by rw [List.all_cons,g,Bool.true_and]))
      · exact ev_neg g (ev_eq (Ev.now _) (by rw [List.all_cons];simp [g]))
theorem let_in {c:UInt8} (h:letB c=true):inB c=true:=by unfold inB;rw [h];rfl
theorem xname_ev (s:ByteArray) (hs:s.size≤1000000000000000):Ev (fun k=>xml_Name.f k s) (nmB s.toList):=by
  show Ev (fun k=>xml_Name.l0 k s (s.size:Int) 0) _
  have hz:=length_toList s
  cases hl:s.toList with
  | nil=>
    rw [hl] at hz
    refine Ev.step (f:=fun _=>some (s.toList != [])) (fun k=>by rw [xml_Name.l0,if_neg (by simp at hz;omega)]) (ev_eq (Ev.now _) ?_)
    rw [hl]
    rfl
  | cons c l=>
    have h:s.toList = []++c :: l:=hl
    obtain⟨hb,hlt⟩:=bt_pre s [] l c h
    have hn:=pre_next [] c s.size hlt (by omega)
    simp only [List.length_nil] at hb hlt hn
    refine Ev.step (f:=fun k=>if inB c=true then(if letB c=true then xml_Name.l0 k s (s.size:Int) (([] ++ [c]:List UInt8).length:Int) else some false) else some false) (fun k=>?_) ?_
    · rw [xml_Name.l0,if_pos (by omega),if_pos (by omega),if_pos (by omega)]
      rw [show bt s 0=(c.toNat:Int) from hb,in_a,Option.bind_some,if_pos rfl,le_a,Option.bind_some]
      rw [show wrap64 (0+1)=(([] ++ [c]:List UInt8).length:Int) from hn]
    · by_cases g:letB c=true
      · exact ev_pos (let_in g) (ev_pos g (ev_eq (xname_l0 s hs l _ (by simp) (pre_app s [] l c h)) (by rw [nmB,g,Bool.true_and])))
      · by_cases g2:inB c=true
        · exact ev_pos g2 (ev_neg g (ev_eq (Ev.now _) (by rw [nmB];simp [g])))
        · exact ev_neg g2 (ev_eq (Ev.now _) (by rw [nmB];simp [g]))
def hdB:List UInt8→Bool
  | []=>false
  | c :: _=>letB c
theorem rname_l0 (s:ByteArray) (hs:s.size≤1000000000000000) (l:List UInt8):∀ pre,s.toList=pre++l→Ev (fun k=>stowageref13_Name.l0 k s (pre.length:Int)) (l.all inB && hdB s.toList):=by
  induction l with
  | nil=>
    intro pre h
    have e:=pre_end s pre h
    refine Ev.step (f:=fun _=>some (hdB s.toList)) (fun k=>?_) (ev_eq (Ev.now _) (by simp))
    rw [stowageref13_Name.l0,if_neg (by omega)]
    cases hl:s.toList with
    | nil=>
      have hz:=length_toList s
      rw [hl] at hz
      rw [if_neg (by simp at hz;omega)]
      rfl
    | cons c l=>
      obtain⟨hb,hlt⟩:=bt_pre s [] l c hl
      simp only [List.length_nil] at hb hlt
      rw [if_pos (by omega),if_pos (by omega),show bt s 0=(c.toNat:Int) from hb,le_r]
      rfl
  | cons c l ih=>
    intro pre h
    obtain⟨hb,hl⟩:=bt_pre s pre l c h
    have hn:=pre_next pre c s.size hl (by omega)
    refine Ev.step (f:=fun k=>if inB c=true then stowageref13_Name.l0 k s ((pre ++ [c]).length:Int) else some false) (fun k=>?_) ?_
    · rw [stowageref13_Name.l0,if_pos (by omega),if_pos (by omega),hb,in_r,Option.bind_some,hn]
    · by_cases g:inB c=true
      · exact ev_pos g (ev_eq (ih _ (pre_app s pre l c h)) (by rw [List.all_cons,g,Bool.true_and]))
      · exact ev_neg g (ev_eq (Ev.now _) (by rw [List.all_cons];simp [g]))
theorem rname_ev (s:ByteArray) (hs:s.size≤1000000000000000):Ev (fun k=>stowageref13_Name.f k s) (nmB s.toList):=by
  refine ev_eq (rname_l0 s hs s.toList [] rfl) ?_
  cases s.toList with
  | nil=>rfl
  | cons c l=>
    rw [List.all_cons,hdB,nmB]
    cases g:letB c
    · simp
    · rw [let_in g];simp
theorem escape_s (s:ByteArray):xml_Escape.s s=B (s.toList.flatMap xml_Escape.e):=by
  rw [ByteArray.toList_eq]
  rfl
theorem escape_size (s:ByteArray):(B (s.toList.flatMap xml_Escape.e)).size≤6*s.size:=by
  rw [B_size,← length_toList]
  exact xml_Escape.flat_len _
theorem esc_a (s:ByteArray) (hs:s.size≤1000000000):xml_Escape.f s=some (B (s.toList.flatMap xml_Escape.e)):=by
  rw [xml_Escape.f,if_pos (by omega),escape_s]
theorem esc_key:∀ c:UInt8,((c.toNat:Int)=38↔c=38)∧((c.toNat:Int)=60↔c=60)∧((c.toNat:Int)=62↔c=62)∧((c.toNat:Int)=34↔c=34)∧((c.toNat:Int)=13↔c=13):=
  byte_all (P:=fun c=>((c.toNat:Int)=38↔c=38)∧((c.toNat:Int)=60↔c=60)∧((c.toNat:Int)=62↔c=62)∧((c.toNat:Int)=34↔c=34)∧((c.toNat:Int)=13↔c=13)) (by decide +kernel)
theorem resc_l0 (s:ByteArray) (hs:s.size≤1000000000) (l:List UInt8):∀ pre a,s.toList=pre++l→a.length≤6*pre.length→Ev (fun k=>stowageref13_Escape.l0 k s (B a) (pre.length:Int)) (B (a++l.flatMap xml_Escape.e)):=by
  induction l with
  | nil=>
    intro pre a h _
    have e:=pre_end s pre h
    exact Ev.step (f:=fun _=>some (B a)) (fun k=>by rw [stowageref13_Escape.l0,if_neg (by omega)]) (ev_eq (Ev.now _) (by simp))
  | cons c l ih=>
    intro pre a h ha
    obtain⟨hb,hl⟩:=bt_pre s pre l c h
    have hn:=pre_next pre c s.size hl (by omega)
    obtain⟨k1,k2,k3,k4,k5⟩:=esc_key c
    refine Ev.step (f:=fun k=>stowageref13_Escape.l0 k s (B (a++xml_Escape.e c)) ((pre ++ [c]).length:Int)) (fun k=>?_) ?_
    · rw [stowageref13_Escape.l0,if_pos (by omega),if_pos (by omega),hb]
      have hx:s.extract ((pre.length:Int)).toNat (wrap64 ((pre.length:Int)+1)).toNat=B [c]:=by
        rw [hn]
        apply toList_inj
        rw [toList_extract,B_toList,h]
        simp only [Int.toNat_natCast,List.length_append,List.length_singleton]
        rw [List.take_append,List.take_of_length_le (by omega),show pre.length+1-pre.length=1 from by omega,List.drop_append,List.drop_eq_nil_of_le (Nat.le_refl _)]
        simp
      have hz:=B_size a
      have hA (v:List UInt8):(⟨v.toArray⟩ : ByteArray)=B v:=rfl
      unfold xml_Escape.e
      by_cases g1:c=38
      · rw [if_pos (k1.2 g1),if_pos (by omega),if_pos g1,← B_append,hn];rfl
      · rw [if_neg (fun x=>g1 (k1.1 x)),if_neg g1]
        by_cases g2:c=60
        · rw [if_pos (k2.2 g2),if_pos (by omega),if_pos g2,← B_append,hn];rfl
        · rw [if_neg (fun x=>g2 (k2.1 x)),if_neg g2]
          by_cases g3:c=62
          · rw [if_pos (k3.2 g3),if_pos (by omega),if_pos g3,← B_append,hn];rfl
          · rw [if_neg (fun x=>g3 (k3.1 x)),if_neg g3]
            by_cases g4:c=34
            · rw [if_pos (k4.2 g4),if_pos (by omega),if_pos g4,← B_append,hn];rfl
            · rw [if_neg (fun x=>g4 (k4.1 x)),if_neg g4]
              by_cases g5:c=13
              · rw [if_pos (k5.2 g5),if_pos (by omega),if_pos g5,← B_append,hn];rfl
              · rw [if_neg (fun x=>g5 (k5.1 x)),if_neg g5,if_pos (by rw [hn,List.length_append];simp;omega),if_pos (by rw [hn,List.length_append];simp;omega),hx,if_pos (by rw [B_size,B_size];simp;omega),← B_append,hn]
    · refine ev_eq (ih _ _ (pre_app s pre l c h) ?_) (by rw [List.flatMap_cons,List.append_assoc])
      have:=xml_Escape.e_len c
      simp only [List.length_append,List.length_singleton]
      omega
theorem resc_ev (s:ByteArray) (hs:s.size≤1000000000):Ev (fun k=>stowageref13_Escape.f k s) (B (s.toList.flatMap xml_Escape.e)):=resc_l0 s hs s.toList [] [] rfl (by simp)
abbrev XN:=S24
abbrev RN:=S30
mutual
def nb:XN→Nat
  | ⟨a,b,l⟩=>a.size+b.size+nbl l+16
def nbl:List XN→Nat
  | []=>0
  | x :: xs=>nb x+nbl xs
end
mutual
def toN:XN→RN
  | ⟨a,b,l⟩=>⟨a,b,toNL l⟩
def toNL:List XN→List RN
  | []=>[]
  | x :: xs=>toN x :: toNL xs
end
theorem toNL_len (l:List XN):(toNL l).length=l.length:=by
  induction l with
  | nil=>rfl
  | cons x xs ih=>rw [toNL,List.length_cons,List.length_cons,ih]
theorem toNL_app (a b:List XN):toNL (a++b)=toNL a++toNL b:=by
  induction a with
  | nil=>rfl
  | cons x xs ih=>rw [List.cons_append,toNL,toNL,ih,List.cons_append]
theorem nbl_app (a b:List XN):nbl (a++b)=nbl a+nbl b:=by
  induction a with
  | nil=>rw [List.nil_append,nbl,Nat.zero_add]
  | cons x xs ih=>rw [List.cons_append,nbl,nbl,ih,Nat.add_assoc]
theorem nb_eq (n:XN):nb n=n.f0.size+n.f1.size+nbl n.f2+16:=by
  obtain⟨a,b,l⟩:=n
  rw [nb]
theorem toN_f (n:XN):(toN n).f0=n.f0∧(toN n).f1=n.f1∧(toN n).f2=toNL n.f2:=by
  obtain⟨a,b,l⟩:=n
  rw [toN]
  exact⟨rfl,rfl,rfl⟩
theorem nbl_len (l:List XN):16*l.length≤nbl l:=by
  induction l with
  | nil=>exact Nat.zero_le _
  | cons x xs ih=>
    rw [nbl,List.length_cons,nb_eq]
    omega
theorem rd_at (done:List XN) (x:XN) (rest:List XN):rd_T24 (done++x :: rest) (done.length:Int)=x:=by
  rw [rd_T24,Int.toNat_natCast,List.getD_eq_getElem?_getD,List.getElem?_append_right (Nat.le_refl _),Nat.sub_self]
  rfl
theorem rdr_at (done:List XN) (x:XN) (rest:List XN):rd_T30 (toNL (done++x :: rest)) (done.length:Int)=toN x:=by
  rw [rd_T30,Int.toNat_natCast,List.getD_eq_getElem?_getD,toNL_app,← toNL_len done,List.getElem?_append_right (Nat.le_refl _),Nat.sub_self,toNL]
  rfl
theorem next_at (done:List XN) (x:XN) (rest:List XN) (h:nbl (done++x :: rest)≤1000000000000):wrap64 ((done.length:Int)+1)=((done ++ [x]).length:Int):=by
  have:=nbl_len (done++x :: rest)
  rw [List.length_append] at this
  rw [w64 (by omega) (by omega),List.length_append]
  simp
theorem to_loop (N:Nat) (ih:∀ x,nb x≤N→Ev (fun k=>stowagelaw13_To.f k x.f0 x.f1 x.f2) ((toN x).f0,(toN x).f1,(toN x).f2)) (f0 f1 g0 g1:ByteArray) (rest:List XN) :
    ∀ done,nbl (done++rest)≤N→N≤1000000000000→Ev (fun k=>stowagelaw13_To.l0 k (done.length:Int) f0 f1 (done++rest) g0 g1 (toNL done)) (g0,g1,toNL (done++rest)):=by
  induction rest with
  | nil=>
    intro done _ _
    rw [List.append_nil]
    exact Ev.step (f:=fun _=>some (g0,g1,toNL done)) (fun k=>by rw [stowagelaw13_To.l0,if_neg (by omega)]) (Ev.now _)
  | cons x rest ihl=>
    intro done hn hN
    have hnx:=next_at done x rest (by omega)
    have hlen:=nbl_len (done++x :: rest)
    have hl:(done++x :: rest).length=done.length+rest.length+1:=by rw [List.length_append,List.length_cons];omega
    have hx:nb x≤N:=by rw [nbl_app,nbl] at hn;omega
    refine Ev.step (f:=fun k=>(stowagelaw13_To.f k x.f0 x.f1 x.f2).bind fun t=>if(toNL done).length<2513169434916 then stowagelaw13_To.l0 k (((done ++ [x]).length:Nat):Int) f0 f1 (done++x :: rest) g0 g1 (toNL done ++ [(⟨t.1,t.2.1,t.2.2⟩ : RN)]) else none) (fun k=>?_) ?_
    · rw [stowagelaw13_To.l0,if_pos (by omega),if_pos (by omega),rd_at,hnx]
    · refine Ev.bind (ih x hx) (ev_pos (by rw [toNL_len];omega) ?_)
      have he:done++x :: rest=(done ++ [x])++rest:=by simp
      have ht:toNL done ++ [toN x]=toNL (done ++ [x]):=by rw [toNL_app];rfl
      have heta:(⟨(toN x).f0,(toN x).f1,(toN x).f2⟩ : RN)=toN x:=by cases toN x;rfl
      show Ev (fun k=>stowagelaw13_To.l0 k (((done ++ [x]).length:Nat):Int) f0 f1 (done++x :: rest) g0 g1 (toNL done ++ [(⟨(toN x).f0,(toN x).f1,(toN x).f2⟩ : RN)])) _
      rw [heta]
      rw [he,ht]
      exact ihl (done ++ [x]) (by rw [← he];exact hn) hN
theorem to_ev (N:Nat) (hN:N≤1000000000000):∀ n,nb n≤N→Ev (fun k=>stowagelaw13_To.f k n.f0 n.f1 n.f2) ((toN n).f0,(toN n).f1,(toN n).f2):=by
  induction N with
  | zero=>intro n h;rw [nb_eq] at h;omega
  | succ N ih=>
    intro n h
    rw [nb_eq] at h
    obtain⟨e0,e1,e2⟩:=toN_f n
    rw [e0,e1,e2]
    exact Ev.step (f:=fun k=>stowagelaw13_To.l0 k 0 n.f0 n.f1 n.f2 n.f0 n.f1 []) (fun k=>by rw [stowagelaw13_To.f]) (to_loop N (ih (by omega)) n.f0 n.f1 n.f0 n.f1 n.f2 [] (by rw [List.nil_append];omega) (by omega))
theorem deep_loop (N:Nat) (m:Int) (hm0:0≤m) (hm1:m≤40) (ih:∀ x (m:Int),0≤m→m≤40→nb x≤N → ∃ r,Ev (fun k=>stowagelaw13_Deep.f k x.f0 x.f1 x.f2 m) r) (f0 f1:ByteArray) (rest:List XN) :
    ∀ done d,nbl (done++rest)≤N→N≤1000000000000 → ∃ r,Ev (fun k=>stowagelaw13_Deep.l0 k m d (done.length:Int) f0 f1 (done++rest)) r:=by
  induction rest with
  | nil=>
    intro done d _ _
    rw [List.append_nil]
    exact⟨_,Ev.step (f:=fun _=>some (wrap64 (d+1))) (fun k=>by rw [stowagelaw13_Deep.l0,if_neg (by omega)]) (Ev.now _)⟩
  | cons x rest ihl=>
    intro done d hn hN
    have hnx:=next_at done x rest (by omega)
    have hl:(done++x :: rest).length=done.length+rest.length+1:=by rw [List.length_append,List.length_cons];omega
    have hx:nb x≤N:=by rw [nbl_app,nbl] at hn;omega
    by_cases hm:m>0
    · obtain⟨r,hr⟩:=ih x (wrap64 (m-1)) (by rw [w64 (by omega) (by omega)];omega) (by rw [w64 (by omega) (by omega)];omega) hx
      have he:done++x :: rest=(done ++ [x])++rest:=by simp
      obtain⟨q,hq⟩:=ihl (done ++ [x]) (mx d r) (by rw [← he];exact hn) hN
      refine⟨q,Ev.step (f:=fun k=>(stowagelaw13_Deep.f k x.f0 x.f1 x.f2 (wrap64 (m-1))).bind fun t=>stowagelaw13_Deep.l0 k m (mx d t) (((done ++ [x]).length:Nat):Int) f0 f1 (done++x :: rest)) (fun k=>?_) (Ev.bind hr ?_)⟩
      · rw [stowagelaw13_Deep.l0,if_pos (by omega),if_pos hm,if_pos (by omega),rd_at,hnx]
      · rw [he]
        exact hq
    · exact⟨_,Ev.step (f:=fun _=>some (wrap64 (d+1))) (fun k=>by rw [stowagelaw13_Deep.l0,if_pos (by omega),if_neg hm]) (Ev.now _)⟩
theorem deep_ev (N:Nat) (hN:N≤1000000000000):∀ n (m:Int),0≤m→m≤40→nb n≤N → ∃ r,Ev (fun k=>stowagelaw13_Deep.f k n.f0 n.f1 n.f2 m) r:=by
  induction N with
  | zero=>intro n m _ _ h;rw [nb_eq] at h;omega
  | succ N ih=>
    intro n m h0 h1 h
    rw [nb_eq] at h
    obtain⟨r,hr⟩:=deep_loop N m h0 h1 (ih (by omega)) n.f0 n.f1 n.f2 [] 0 (by rw [List.nil_append];omega) (by omega)
    exact⟨r,Ev.step (f:=fun k=>stowagelaw13_Deep.l0 k m 0 0 n.f0 n.f1 n.f2) (fun k=>by rw [stowagelaw13_Deep.f]) hr⟩
theorem legal_both (s:ByteArray) (h:s.size≤1000000000000):∃ m,chars_Legal.f s=some m∧Ev (fun k=>stowageref3_Legal.f k s) m:=⟨_,legal_eq s (by omega),rlegal_ev s (by omega)⟩
theorem fit_loop (N:Nat) (d:Int) (hd0:1≤d) (hd1:d≤16) (ih:∀ x (d:Int),1≤d→d≤17→nb x≤N → ∃ m,Ev (fun k=>xml_may.f k x.f0 x.f1 x.f2 d) m∧Ev (fun k=>stowageref13_fit.f k (toN x).f0 (toN x).f1 (toN x).f2 d) m) (f0 f1:ByteArray) (rest:List XN) :
    ∀ done,nbl (done++rest)≤N→N≤1000000000000 → ∃ m,Ev (fun k=>xml_may.l0 k d (done++rest) ((done++rest).length:Int) (done.length:Int)) m∧Ev (fun k=>stowageref13_fit.l0 k d (done.length:Int) f0 f1 (toNL (done++rest))) m:=by
  induction rest with
  | nil=>
    intro done _ _
    rw [List.append_nil]
    exact⟨true,Ev.step (f:=fun _=>some true) (fun k=>by rw [xml_may.l0,if_neg (by omega)]) (Ev.now _),Ev.step (f:=fun _=>some true) (fun k=>by rw [stowageref13_fit.l0,toNL_len,if_neg (by omega)]) (Ev.now _)⟩
  | cons x rest ihl=>
    intro done hn hN
    have hnx:=next_at done x rest (by omega)
    have hl:(done++x :: rest).length=done.length+rest.length+1:=by rw [List.length_append,List.length_cons];omega
    have hx:nb x≤N:=by rw [nbl_app,nbl] at hn;omega
    have he:done++x :: rest=(done ++ [x])++rest:=by simp
    obtain⟨m,hma,hmb⟩:=ih x (wrap64 (d+1)) (by rw [w64 (by omega) (by omega)];omega) (by rw [w64 (by omega) (by omega)];omega) hx
    obtain⟨q,hqa,hqb⟩:=ihl (done ++ [x]) (by rw [← he];exact hn) hN
    rw [← he] at hqa hqb
    refine⟨if m=true then q else false,Ev.step (f:=fun k=>(xml_may.f k x.f0 x.f1 x.f2 (wrap64 (d+1))).bind fun t=>if t=true then xml_may.l0 k d (done++x :: rest) ((done++x :: rest).length:Int) (((done ++ [x]).length:Nat):Int) else some false) (fun k=>?_) (Ev.bind hma ?_),Ev.step (f:=fun k=>(stowageref13_fit.f k (toN x).f0 (toN x).f1 (toN x).f2 (wrap64 (d+1))).bind fun t=>if t=true then stowageref13_fit.l0 k d (((done ++ [x]).length:Nat):Int) f0 f1 (toNL (done++x :: rest)) else some false) (fun k=>?_) (Ev.bind hmb ?_)⟩
    · rw [xml_may.l0,if_pos (by omega),if_pos (by omega),if_pos (by omega),rd_at,hnx]
    · cases m
      · exact ev_neg (by decide) (Ev.now _)
      · exact ev_pos rfl hqa
    · rw [stowageref13_fit.l0,toNL_len,if_pos (by omega),if_pos (by omega),rdr_at,hnx]
    · cases m
      · exact ev_neg (by decide) (Ev.now _)
      · exact ev_pos rfl hqb
theorem fit_ev (N:Nat) (hN:N≤1000000000000):∀ n (d:Int),1≤d→d≤17→nb n≤N → ∃ m,Ev (fun k=>xml_may.f k n.f0 n.f1 n.f2 d) m∧Ev (fun k=>stowageref13_fit.f k (toN n).f0 (toN n).f1 (toN n).f2 d) m:=by
  induction N with
  | zero=>intro n d _ _ h;rw [nb_eq] at h;omega
  | succ N ih=>
    intro n d h0 h1 h
    rw [nb_eq] at h
    obtain⟨e0,e1,e2⟩:=toN_f n
    rw [e0,e1,e2]
    have ja:∀ (b:Bool),b=true→Ev (fun k=>xml_may.j0 k d b n.f0 n.f1 n.f2) false:=fun b hb=>Ev.step (f:=fun _=>some false) (fun k=>by rw [xml_may.j0,if_pos hb]) (Ev.now _)
    have jb:∀ (b:Bool),b=true→Ev (fun k=>stowageref13_fit.j0 k d b n.f0 n.f1 (toNL n.f2)) false:=fun b hb=>Ev.step (f:=fun _=>some false) (fun k=>by rw [stowageref13_fit.j0,if_pos hb]) (Ev.now _)
    by_cases hd:d>16
    · exact⟨false,Ev.step (f:=fun k=>xml_may.j0 k d true n.f0 n.f1 n.f2) (fun k=>by rw [xml_may.f,if_pos hd]) (ja true rfl),Ev.step (f:=fun k=>stowageref13_fit.j0 k d true n.f0 n.f1 (toNL n.f2)) (fun k=>by rw [stowageref13_fit.f,if_pos hd]) (jb true rfl)⟩
    · obtain⟨q,hqa,hqb⟩:=fit_loop N d h0 (by omega) (ih (by omega)) n.f0 n.f1 n.f2 [] (by rw [List.nil_append];omega) (by omega)
      rw [List.nil_append] at hqa hqb
      have jc:∀ (b:Bool),b=false→Ev (fun k=>xml_may.j0 k d b n.f0 n.f1 n.f2) q:=fun b hb=>Ev.step (f:=fun k=>xml_may.l0 k d n.f2 (n.f2.length:Int) 0) (fun k=>by rw [xml_may.j0,if_neg (by rw [hb];decide)]) hqa
      have jd:∀ (b:Bool),b=false→Ev (fun k=>stowageref13_fit.j0 k d b n.f0 n.f1 (toNL n.f2)) q:=fun b hb=>Ev.step (f:=fun k=>stowageref13_fit.l0 k d 0 n.f0 n.f1 (toNL n.f2)) (fun k=>by rw [stowageref13_fit.j0,if_neg (by rw [hb];decide)]) hqb
      have kk:∀ (b:Bool),∃ m,Ev (fun k=>xml_may.j0 k d b n.f0 n.f1 n.f2) m∧Ev (fun k=>stowageref13_fit.j0 k d b n.f0 n.f1 (toNL n.f2)) m:=by
        intro b
        cases b
        · exact⟨q,jc _ rfl,jd _ rfl⟩
        · exact⟨false,ja _ rfl,jb _ rfl⟩
      obtain⟨g,hga,hgb⟩:=legal_both n.f1 (by omega)
      have hna:=xname_ev n.f0 (by omega)
      have hnb:=rname_ev n.f0 (by omega)
      obtain⟨v,hva,hvb⟩:=kk (if nmB n.f0.toList=true then(if g=true then(if n.f1.toList = [] then false else decide ((n.f2.length:Int)>0)) else true) else true)
      refine⟨v,?_,?_⟩
      · refine Ev.step (f:=fun k=>(xml_Name.f k n.f0).bind fun t159=>(if t159=true then((chars_Legal.f n.f1).bind fun t160=>(if t160=true then(if n.f1.toList=([]:List UInt8) then(xml_may.j0 k d false n.f0 n.f1 n.f2) else(xml_may.j0 k d (decide ((n.f2.length:Int)>0)) n.f0 n.f1 n.f2)) else(xml_may.j0 k d true n.f0 n.f1 n.f2))) else(xml_may.j0 k d true n.f0 n.f1 n.f2))) (fun k=>by rw [xml_may.f,if_neg hd]) (Ev.bind hna ?_)
        by_cases hn:nmB n.f0.toList=true
        · rw [if_pos hn] at hva
          refine ev_pos hn (ev_some hga ?_)
          by_cases hg:g=true
          · rw [if_pos hg] at hva
            refine ev_pos hg ?_
            by_cases ht:n.f1.toList = []
            · rw [if_pos ht] at hva
              exact ev_pos ht hva
            · rw [if_neg ht] at hva
              exact ev_neg ht hva
          · rw [if_neg hg] at hva
            exact ev_neg hg hva
        · rw [if_neg hn] at hva
          exact ev_neg hn hva
      · refine Ev.step (f:=fun k=>(stowageref13_Name.f k n.f0).bind fun t286=>(if t286=true then((stowageref3_Legal.f k n.f1).bind fun t287=>(if t287=true then(if n.f1.toList=([]:List UInt8) then(stowageref13_fit.j0 k d false n.f0 n.f1 (toNL n.f2)) else(stowageref13_fit.j0 k d (decide (((toNL n.f2).length:Int)>0)) n.f0 n.f1 (toNL n.f2))) else(stowageref13_fit.j0 k d true n.f0 n.f1 (toNL n.f2)))) else(stowageref13_fit.j0 k d true n.f0 n.f1 (toNL n.f2)))) (fun k=>by rw [stowageref13_fit.f,if_neg hd]) (Ev.bind hnb ?_)
        by_cases hn:nmB n.f0.toList=true
        · rw [if_pos hn] at hvb
          refine ev_pos hn (Ev.bind hgb ?_)
          by_cases hg:g=true
          · rw [if_pos hg] at hvb
            refine ev_pos hg ?_
            by_cases ht:n.f1.toList = []
            · rw [if_pos ht] at hvb
              exact ev_pos ht hvb
            · rw [if_neg ht] at hvb
              rw [toNL_len]
              exact ev_neg ht hvb
          · rw [if_neg hg] at hvb
            exact ev_neg hg hvb
        · rw [if_neg hn] at hvb
          exact ev_neg hn hvb
end Go.Proofs.YtklcgncaclggcaaDoor.Pure


namespace Go.Proofs.YtklcgncaclggcaaDoor.Opn
open Go.ChangeShapes Go.WideShapes Go.RowKit Go.Proofs.YtklcgncaclggcaaDoorW.PrintWords
section
variable {H:Type} {enc:TypeId×Value→H} {w:World} {base:Nat} {spare:Nat→Bool} {held:Bool}
theorem cnd:Tryd.prog.cellsOf 24=3:=by kernel_rfl
theorem cst9:Tryd.prog.cellsOf 9=1:=by kernel_rfl
theorem cnds:Tryd.prog.cellsOf 22=1:=by kernel_rfl
theorem bulk_in (D:Nat→DataW H) (n i:Nat) (h:i<n):Rows.uptoBulk (D i)≤Rows.uptoBulkAll ((List.range n).map D):=by
  have key:∀ l:List Nat,i∈l→Rows.uptoBulk (D i)≤Rows.uptoBulkAll (l.map D):=by
    intro l
    induction l with
    | nil=>intro h;cases h
    | cons j l ih=>
      intro h
      rw [List.map_cons,Rows.uptoBulkAll]
      cases List.mem_cons.1 h with
      | inl e=>subst e;omega
      | inr e=>have:=ih e;omega
  exact key _ (List.mem_range.mpr h)
theorem nbl_bulk (D:Nat→DataW H) (X:Nat→Pure.XN) (l:List Nat) (h:∀ i∈l,Pure.nb (X i)≤16*Rows.uptoBulk (D i)):Pure.nbl (l.map X)≤16*Rows.uptoBulkAll (l.map D):=by
  induction l with
  | nil=>rw [List.map_nil,List.map_nil,Pure.nbl];exact Nat.zero_le _
  | cons i l ih=>
    rw [List.map_cons,List.map_cons,Pure.nbl,Rows.uptoBulkAll]
    have h1:=h i List.mem_cons_self
    have h2:=ih (fun j hj=>h j (List.mem_cons_of_mem _ hj))
    omega
theorem up_nodesN (N:Nat) (ih:∀ fuel cs (x:DataW H×List MemPlace),Rows.uptoBulk x.1≤N→DataW.trod enc Tryd.prog w base spare held fuel 24 cs=some x → ∃ a,Q.k24.K w a cs∧Pure.nb a≤16*Rows.uptoBulk x.1)
    (fuel:Nat) (cs:List Value) (x:DataW H×List MemPlace) (hb:Rows.uptoBulk x.1≤N) (hx:DataW.trod enc Tryd.prog w base spare held fuel 22 cs=some x) :
    ∃ (A:Option Addr) (c:Nat) (l:List Pure.XN),cs = [.slice A l.length c]∧l.length≤c∧Kd.C Q.k24 w A l.length l∧Pure.nbl l≤16*Rows.uptoBulk x.1:=by
  rcases Deep.open_slice Tryd.underlying22 hx with⟨rfl,rfl⟩|⟨a,len,cap,m,n,D,Pl,rfl,hbk,hl,hm,hmm,rfl,hall⟩
  · exact⟨none,0,[],rfl,Nat.le_refl _,⟨rfl,by simp,fun h=>absurd h (Nat.lt_irrefl 0)⟩,Nat.zero_le _⟩
  · have hlm:len≤m:=by rw [hmm];split <;> omega
    have hB:Rows.uptoBulkAll ((List.range len).map D)+1≤Rows.uptoBulk (DataW.slice ((List.range len).map D) ((List.range (m-len)).map fun j=>D (len+j))):=by
      rw [Rows.uptoBulk]
      omega
    have hb':Rows.uptoBulk (DataW.slice ((List.range len).map D) ((List.range (m-len)).map fun j=>D (len+j)))≤N:=hb
    have each:∀ i,i<len → ∃ x:Pure.XN,∃ cs',w.cells? base (a.add (i*3)) 3=some cs'∧Q.k24.K w x cs'∧Pure.nb x≤16*Rows.uptoBulk (D i):=by
      intro i hi
      obtain⟨cs',h1,h2⟩:=hall i (by omega)
      rw [cnd] at h1
      have hi2:=bulk_in D len i hi
      obtain⟨x,h3,h4⟩:=ih n cs' (D i,Pl i) (by show Rows.uptoBulk (D i)≤N;omega) h2
      exact⟨x,cs',h1,h3,h4⟩
    haveI:Inhabited Pure.XN:=⟨Q.z24⟩
    obtain⟨X,hX⟩:=Deep.choose_lt each
    have hlen:((List.range len).map X).length=len:=by simp
    refine⟨some a,cap,(List.range len).map X,by rw [hlen],by rw [hlen];exact hl,?_,?_⟩
    · rw [hlen]
      refine⟨hlen,by simp only [maxLen] at hm;omega,fun _=>⟨a,rfl,fun j p hp=>?_⟩⟩
      have hj:j<len:=by
        have:=(List.getElem?_eq_some_iff.mp hp).1
        simpa using this
      have hpx:p=X j:=by
        rw [List.getElem?_map,List.getElem?_range hj] at hp
        exact(Option.some.inj hp).symm
      subst hpx
      obtain⟨cs',h1,h3,_⟩:=hX j hj
      obtain⟨_,hl',hcell⟩:=World.cells?_some h1
      refine⟨cs',Q.k24.K_len h3,h3,fun i u hu=>?_⟩
      have hi:i<3:=by
        have:=(List.getElem?_eq_some_iff.mp hu).1
        omega
      have hcc:=hcell i hi
      rw [hu,Deep.add_add] at hcc
      exact hcc
    · have:=nbl_bulk D X (List.range len) (fun i hi=>by obtain⟨_,_,_,h4⟩:=hX i (List.mem_range.mp hi);exact h4)
      show _≤16*Rows.uptoBulk (DataW.slice ((List.range len).map D) ((List.range (m-len)).map fun j=>D (len+j)))
      omega
set_option maxRecDepth 100000 in
theorem up_nodeN (N:Nat):∀ fuel cs (x:DataW H×List MemPlace),Rows.uptoBulk x.1≤N→DataW.trod enc Tryd.prog w base spare held fuel 24 cs=some x → ∃ a,Q.k24.K w a cs∧Pure.nb a≤16*Rows.uptoBulk x.1:=by
  induction N with
  | zero=>
    intro fuel cs x hb hx
    obtain⟨xs,n,_,rfl,hl,hlen,hf⟩:=DataW.trod_struct Tryd.underlying24 hx
    exact absurd hb (by rw [Rows.uptoBulk];omega)
  | succ N ih=>
    intro fuel cs x hb hx
    obtain⟨xs,n,_,rfl,hl,hlen,hf⟩:=DataW.trod_struct Tryd.underlying24 hx
    rw [cnd] at hl
    match xs,hlen,cs,hl with
    | [y0,y1,y2],_,[u0,u1,u2],_=>
      have g0:=hf 0 _ rfl
      have g1:=hf 1 _ rfl
      have g2:=hf 2 _ rfl
      simp only [cst9,cnds,List.drop_zero,List.drop_succ_cons,List.take_succ_cons,List.take_zero,List.getElem?_cons_zero,List.getElem?_cons_succ] at g0 g1 g2
      obtain⟨r0,k0,e0⟩:=up_string Tryd.underlying9 _ _ _ g0
      obtain⟨r1,k1,e1⟩:=up_string Tryd.underlying9 _ _ _ g1
      simp only [Rows.uptoBulk,Rows.uptoBulkAll,List.map_cons,List.map_nil] at hb
      obtain⟨A,c,l,k2,hlc,hC,hn⟩:=up_nodesN N ih _ _ _ (by omega) g2
      have b0:r0.size+1≤Rows.uptoBulk y0.1:=e0.2
      have b1:r1.size+1≤Rows.uptoBulk y1.1:=e1.2
      obtain rfl:u0 = .string r0:=(List.cons.inj k0).1
      obtain rfl:u1 = .string r1:=(List.cons.inj k1).1
      obtain rfl:u2 = .slice A l.length c:=(List.cons.inj k2).1
      refine⟨⟨r0,r1,l⟩,Q.k24_mk w ⟨r0,r1,l⟩ hlc hC,?_⟩
      rw [Pure.nb]
      simp only [Rows.uptoBulk,Rows.uptoBulkAll,List.map_cons,List.map_nil]
      omega
set_option maxRecDepth 100000 in
theorem open_node {v:Value} {x:DataW H} {p:List MemPlace} (hv:∃ cs,v = .agg cs∧cs.size=Tryd.prog.cellsOf 24) (ht:DataW.Trod enc Tryd.prog w base spare held 24 v x p) :
    ∃ (a b:ByteArray) (A:Option Addr) (c:Nat) (l:List Pure.XN),v = .agg #[.string a,.string b,.slice A l.length c]∧l.length≤c∧Kd.C Q.k24 w A l.length l∧Pure.nb ⟨a,b,l⟩≤16*Rows.uptoBulk x:=by
  obtain⟨cs,rfl,hsz⟩:=hv
  obtain⟨fuel,hf⟩:=ht
  obtain⟨n,hK,hn⟩:=up_nodeN _ _ _ _ (Nat.le_refl _) hf
  obtain⟨A,c,e,hl,hC⟩:=Q.k24_open hK
  obtain⟨cs⟩:=cs
  have e2:cs = [.string n.f0,.string n.f1,.slice A n.f2.length c]:=by simpa [Value.cells] using e
  subst e2
  obtain⟨a,b,l⟩:=n
  exact⟨a,b,A,c,l,rfl,hl,hC,hn⟩
end
end Go.Proofs.YtklcgncaclggcaaDoor.Opn


namespace Go.Proofs.YtklcgncaclggcaaDoor.Pure
open Go.RowKit Go.Proofs.YtklcgncaclggcaaDoor.Q Go.Proofs.YtklcgncaclggcaaDoorW.PrintWords Go.Proofs.YtklcgncaclggcaaDoorW.PrintLast
set_option linter.unusedVariables false
set_option linter.unusedSimpArgs false
theorem bsz (a b:ByteArray):(a++b).size=a.size+b.size:=ByteArray.size_append
def tagE (f0:ByteArray):ByteArray:=((⟨#[60,47]⟩ : ByteArray)++f0)++⟨#[62]⟩
theorem tagE_size (f0:ByteArray):(tagE f0).size=2+f0.size+1:=by
  unfold tagE
  rw [bsz,bsz]
  rfl
theorem bapp (a b c:ByteArray):a++b++c=a++(b++c):=ByteArray.append_assoc
theorem text_loop (N:Nat) (ih:∀ x,nb x≤N → ∀ more:ByteArray,more.size≤1000 → ∃ t:ByteArray,t.size≤6*nb x+more.size∧Ev (fun k=>stowageref13_text.f k (toN x).f0 (toN x).f1 (toN x).f2 more) t ∧ ∀ acc:ByteArray,acc.size+6*nb x+more.size≤100000000000000→Ev (fun k=>xml_print.f k acc x.f0 x.f1 x.f2 more) (acc++t)) (f0 f1:ByteArray) (hf:f0.size≤1000000000) (rest:List XN) :
    ∀ done,nbl (done++rest)≤N→N≤1000000000 → ∃ u:ByteArray,u.size≤6*nbl rest∧(∀ acc:ByteArray,acc.size+6*nbl rest≤100000000000000→Ev (fun k=>stowageref13_text.l0 k acc (done.length:Int) f0 f1 (toNL (done++rest))) (acc++u++tagE f0))∧(∀ acc:ByteArray,acc.size+6*nbl rest≤100000000000000→Ev (fun k=>xml_print.l0 k acc (done++rest) (done.length:Int)) (acc++u)):=by
  induction rest with
  | nil=>
    intro done _ _
    refine⟨⟨#[]⟩,Nat.zero_le _,fun acc ha=>?_,fun acc ha=>?_⟩
    · rw [List.append_nil]
      have h2:((⟨#[60,47]⟩ : ByteArray)).size=2:=rfl
      refine Ev.step (f:=fun _=>some (((acc++(⟨#[60,47]⟩ : ByteArray))++f0)++(⟨#[62]⟩ : ByteArray))) (fun k=>?_) (ev_eq (Ev.now _) ?_)
      · rw [stowageref13_text.l0,toNL_len,if_neg (by omega),if_pos (by omega),if_pos (by rw [bsz,h2];omega),if_pos (by rw [bsz,bsz,h2];omega)]
      · unfold tagE
        simp only [bapp]
        congr 1
    · rw [List.append_nil]
      refine Ev.step (f:=fun _=>some acc) (fun k=>by rw [xml_print.l0,if_neg (by omega)]) (ev_eq (Ev.now _) ?_)
      exact(ByteArray.append_empty).symm
  | cons x rest ihl=>
    intro done hn hN
    have hnx:=next_at done x rest (by omega)
    have hl:(done++x :: rest).length=done.length+rest.length+1:=by rw [List.length_append,List.length_cons];omega
    have hx:nb x≤N:=by rw [nbl_app,nbl] at hn;omega
    have he:done++x :: rest=(done ++ [x])++rest:=by simp
    have h0:(⟨#[]⟩ : ByteArray).size=0:=rfl
    have hb:nbl (x :: rest)=nb x+nbl rest:=by rw [nbl]
    obtain⟨t,ht,hta,htb⟩:=ih x hx (⟨#[]⟩ : ByteArray) (by rw [h0];omega)
    rw [h0] at ht
    obtain⟨u,hu,hua,hub⟩:=ihl (done ++ [x]) (by rw [← he];exact hn) hN
    rw [← he] at hua hub
    refine⟨t++u,by rw [bsz,hb];omega,fun acc ha=>?_,fun acc ha=>?_⟩
    · rw [hb] at ha
      refine Ev.step (f:=fun k=>(stowageref13_text.f k (toN x).f0 (toN x).f1 (toN x).f2 (⟨#[]⟩ : ByteArray)).bind fun q=>if acc.size+q.size≤9223372036854775807 then stowageref13_text.l0 k (acc++q) (((done ++ [x]).length:Nat):Int) f0 f1 (toNL (done++x :: rest)) else none) (fun k=>?_) (Ev.bind hta (ev_pos (by omega) (ev_eq (hua (acc++t) (by rw [bsz];omega)) (by rw [bapp acc t u]))))
      rw [stowageref13_text.l0,toNL_len,if_pos (by omega),if_pos (by omega),rdr_at,hnx]
    · rw [hb] at ha
      refine Ev.step (f:=fun k=>(xml_print.f k acc x.f0 x.f1 x.f2 (⟨#[]⟩ : ByteArray)).bind fun q=>xml_print.l0 k q (done++x :: rest) (((done ++ [x]).length:Nat):Int)) (fun k=>?_) (Ev.bind (htb acc (by rw [h0];omega)) (ev_eq (hub (acc++t) (by rw [bsz];omega)) (by rw [bapp acc t u])))
      rw [xml_print.l0,if_pos (by omega),if_pos (by omega),rd_at,hnx]
theorem text_ev (N:Nat) (hN:N≤1000000000):∀ n,nb n≤N → ∀ more:ByteArray,more.size≤1000 → ∃ t:ByteArray,t.size≤6*nb n+more.size∧Ev (fun k=>stowageref13_text.f k (toN n).f0 (toN n).f1 (toN n).f2 more) t ∧ ∀ acc:ByteArray,acc.size+6*nb n+more.size≤100000000000000→Ev (fun k=>xml_print.f k acc n.f0 n.f1 n.f2 more) (acc++t):=by
  induction N with
  | zero=>intro n h;rw [nb_eq] at h;omega
  | succ N ih=>
    intro n h more hm
    have hb:=nb_eq n
    obtain⟨e0,e1,e2⟩:=toN_f n
    rw [e0,e1,e2]
    obtain⟨u,hu,hua,hub⟩:=text_loop N (ih (by omega)) n.f0 n.f1 (by omega) n.f2 [] (by rw [List.nil_append];omega) (by omega)
    rw [List.nil_append] at hua hub
    have hes:=escape_size n.f1
    have hea:=esc_a n.f1 (by omega)
    have heb:=resc_ev n.f1 (by omega)
    generalize B (n.f1.toList.flatMap xml_Escape.e)=e at hes hea heb
    have h1:(⟨#[60]⟩ : ByteArray).size=1:=rfl
    have h2:(⟨#[62]⟩ : ByteArray).size=1:=rfl
    have hsz:((((⟨#[60]⟩ : ByteArray)++n.f0)++more)++⟨#[62]⟩++e).size=1+n.f0.size+more.size+1+e.size:=xml_print.sz1 n.f0 more e
    refine⟨((((⟨#[60]⟩ : ByteArray)++n.f0)++more)++⟨#[62]⟩++e)++u++tagE n.f0,by rw [bsz,bsz,hsz,tagE_size];omega,?_,fun acc ha=>?_⟩
    · refine Ev.step (f:=fun k=>(stowageref13_Escape.f k n.f1).bind fun q=>if((((⟨#[60]⟩ : ByteArray)++n.f0)++more)++(⟨#[62]⟩ : ByteArray)).size+q.size≤9223372036854775807 then stowageref13_text.l0 k (((((⟨#[60]⟩ : ByteArray)++n.f0)++more)++(⟨#[62]⟩ : ByteArray))++q) 0 n.f0 n.f1 (toNL n.f2) else none) (fun k=>?_) (Ev.bind heb (ev_pos (by rw [bsz,bsz,bsz,h1,h2];omega) (hua _ (by rw [hsz];omega))))
      rw [stowageref13_text.f,if_pos (by omega),if_pos (by rw [bsz,h1];omega),if_pos (by rw [bsz,bsz,h1];omega)]
    · refine Ev.step (f:=fun k=>(xml_Escape.f n.f1).bind fun e=>(if acc.size+(1+n.f0.size+more.size+1+e.size)≤140737488355328 then((xml_print.l0 k (acc++((((⟨#[60]⟩ : ByteArray)++n.f0)++more)++⟨#[62]⟩++e)) n.f2 0).bind fun acc2=>(if acc2.size+(2+n.f0.size+1)≤140737488355328 then some (acc2++(((⟨#[60,47]⟩ : ByteArray)++n.f0)++⟨#[62]⟩)) else none)) else none)) (fun k=>by rw [xml_print.f]) (ev_some hea (ev_pos (by omega) (Ev.bind (hub _ (by rw [bsz,hsz];omega)) (ev_pos (by rw [bsz,bsz,hsz];omega) (ev_eq (Ev.now _) ?_)))))
      show acc++_++u++tagE n.f0=_
      simp only [bapp]
theorem print_ev (n:XN) (sp:Bool) (hn:nb n≤1000000000):∃ (s:ByteArray) (e:Int),s.size≤65536∧(e=0∨s.size=0∧(e=2∨e=130))∧Ev (fun k=>xml_Print.f k n.f0 n.f1 n.f2 sp) (s,e)∧Ev (fun k=>stowageref13_Print.f k (toN n).f0 (toN n).f1 (toN n).f2 sp) (s,e):=by
  obtain⟨m,hma,hmb⟩:=fit_ev 1000000000 (by omega) n 1 (by omega) (by omega) hn
  cases m with
  | false=>
    refine⟨⟨#[]⟩,130,by decide,.inr ⟨rfl,.inr rfl⟩,?_,?_⟩
    · unfold xml_Print.f
      exact Ev.bind hma (ev_neg (by decide) (Ev.now _))
    · unfold stowageref13_Print.f
      exact Ev.bind hmb (ev_neg (by decide) (Ev.now _))
  | true=>
    have key:∀ more:ByteArray,more.size≤1000 → ∃ t:ByteArray,t.size≤6*nb n+more.size∧Ev (fun k=>stowageref13_text.f k (toN n).f0 (toN n).f1 (toN n).f2 more) t∧Ev (fun k=>xml_print.f k xml_Print.head n.f0 n.f1 n.f2 more) (xml_Print.head++t):=by
      intro more hm
      obtain⟨t,h1,h2,h3⟩:=text_ev 1000000000 (by omega) n hn more hm
      exact⟨t,h1,h2,h3 _ (by have:xml_Print.head.size=39:=rfl;omega)⟩
    have h39:xml_Print.head.size=39:=rfl
    have fin:∀ more:ByteArray,more.size≤1000→(∀ k,xml_Print.f k n.f0 n.f1 n.f2 sp=(xml_may.f k n.f0 n.f1 n.f2 1).bind fun m=>(if m=true then((xml_print.f k xml_Print.head n.f0 n.f1 n.f2 more).bind fun s=>(if(65536:Int)<(s.size:Int) then some ((⟨#[]⟩ : ByteArray),(2:Int)) else some (s,0))) else some ((⟨#[]⟩ : ByteArray),130))) →
        (∀ k,stowageref13_Print.f k (toN n).f0 (toN n).f1 (toN n).f2 sp=(stowageref13_fit.f k (toN n).f0 (toN n).f1 (toN n).f2 1).bind fun m=>(if m=true then((stowageref13_text.f k (toN n).f0 (toN n).f1 (toN n).f2 more).bind fun t=>(if 39+t.size≤9223372036854775807 then(if((xml_Print.head++t).size:Int)>65536 then some ((⟨#[]⟩ : ByteArray),(2:Int)) else some (xml_Print.head++t,0)) else none)) else some ((⟨#[]⟩ : ByteArray),130))) →
        ∃ (s:ByteArray) (e:Int),s.size≤65536∧(e=0∨s.size=0∧(e=2∨e=130))∧Ev (fun k=>xml_Print.f k n.f0 n.f1 n.f2 sp) (s,e)∧Ev (fun k=>stowageref13_Print.f k (toN n).f0 (toN n).f1 (toN n).f2 sp) (s,e):=by
      intro more hm ha hb
      obtain⟨t,h1,h2,h3⟩:=key more hm
      by_cases hz:(65536:Int)<((xml_Print.head++t).size:Int)
      · refine⟨⟨#[]⟩,2,by decide,.inr ⟨rfl,.inl rfl⟩,Ev.congr ha (Ev.bind hma (ev_pos rfl (Ev.bind h3 (ev_pos hz (Ev.now _))))),Ev.congr hb (Ev.bind hmb (ev_pos rfl (Ev.bind h2 (ev_pos (by omega) (ev_pos hz (Ev.now _))))))⟩
      · exact⟨xml_Print.head++t,0,by omega,.inl rfl,Ev.congr ha (Ev.bind hma (ev_pos rfl (Ev.bind h3 (ev_neg hz (Ev.now _))))),Ev.congr hb (Ev.bind hmb (ev_pos rfl (Ev.bind h2 (ev_pos (by omega) (ev_neg hz (Ev.now _))))))⟩
    cases sp
    · refine fin ⟨#[]⟩ (by decide) (fun k=>?_) (fun k=>?_)
      · unfold xml_Print.f
        rw [if_neg (by decide)]
      · unfold stowageref13_Print.f
        simp only [Bool.false_eq_true,if_false]
    · refine fin xml_Print.room (by decide) (fun k=>?_) (fun k=>?_)
      · unfold xml_Print.f
        rw [if_pos rfl]
      · unfold stowageref13_Print.f
        simp only [if_true]
theorem copied_loop (N:Nat) (ih:∀ x,nb x≤N→Ev (fun k=>xml_copied.f k x.f0 x.f1 x.f2) (x.f0,x.f1,x.f2)) (g0 g1:ByteArray) (g2:List XN) (rest:List XN) :
    ∀ done,nbl (done++rest)≤N→N≤1000000000000→Ev (fun k=>xml_copied.l0 k done (done++rest) ((done++rest).length:Int) (done.length:Int) g0 g1 g2) (g0,g1,done++rest):=by
  induction rest with
  | nil=>
    intro done _ _
    rw [List.append_nil]
    refine Ev.step (f:=fun _=>some (g0,g1,done)) (fun k=>?_) (Ev.now _)
    rw [xml_copied.l0,if_neg (by omega),if_pos (by omega),if_pos (by omega),Int.toNat_natCast,List.take_length]
  | cons x rest ihl=>
    intro done hn hN
    have hnx:=next_at done x rest (by omega)
    have hlen:=nbl_len (done++x :: rest)
    have hl:(done++x :: rest).length=done.length+rest.length+1:=by rw [List.length_append,List.length_cons];omega
    have hx:nb x≤N:=by rw [nbl_app,nbl] at hn;omega
    refine Ev.step (f:=fun k=>(xml_copied.f k x.f0 x.f1 x.f2).bind fun t=>if done.length<2513169434916 then xml_copied.l0 k (done ++ [(⟨t.1,t.2.1,t.2.2⟩ : XN)]) (done++x :: rest) ((done++x :: rest).length:Int) (((done ++ [x]).length:Nat):Int) g0 g1 g2 else none) (fun k=>?_) ?_
    · rw [xml_copied.l0,if_pos (by omega),if_pos (by omega),if_pos (by omega),rd_at,hnx]
    · refine Ev.bind (ih x hx) (ev_pos (by omega) ?_)
      have he:done++x :: rest=(done ++ [x])++rest:=by simp
      have heta:(⟨x.f0,x.f1,x.f2⟩ : XN)=x:=by cases x;rfl
      show Ev (fun k=>xml_copied.l0 k (done ++ [(⟨x.f0,x.f1,x.f2⟩ : XN)]) (done++x :: rest) ((done++x :: rest).length:Int) (((done ++ [x]).length:Nat):Int) g0 g1 g2) _
      rw [heta,he]
      exact ihl (done ++ [x]) (by rw [← he];exact hn) hN
theorem copied_ev (N:Nat) (hN:N≤1000000000000):∀ n,nb n≤N→Ev (fun k=>xml_copied.f k n.f0 n.f1 n.f2) (n.f0,n.f1,n.f2):=by
  induction N with
  | zero=>intro n h;rw [nb_eq] at h;omega
  | succ N ih=>
    intro n h
    rw [nb_eq] at h
    exact Ev.step (f:=fun k=>xml_copied.l0 k [] n.f2 (n.f2.length:Int) 0 n.f0 n.f1 n.f2) (fun k=>by rw [xml_copied.f]) (copied_loop N (ih (by omega)) n.f0 n.f1 n.f2 n.f2 [] (by rw [List.nil_append];omega) (by omega))
def kidN (nm:ByteArray):List XN→Option XN
  | []=>none
  | x :: xs=>if x.f0.toList=nm.toList then some x else kidN nm xs
theorem kidN_nb {nm:ByteArray} {l:List XN} {x:XN} (h:kidN nm l=some x):nb x≤nbl l:=by
  induction l with
  | nil=>simp [kidN] at h
  | cons y ys ih=>
    rw [kidN] at h
    rw [nbl]
    split at h
    · cases h;omega
    · have:=ih h;omega
def kidA (nm:ByteArray) (l:List XN):ByteArray×ByteArray×List XN×Bool:=match kidN nm l with|some x=>(x.f0,x.f1,x.f2,true)|none=>(⟨#[]⟩,⟨#[]⟩,[],false)
def kidR (nm:ByteArray) (l:List XN):ByteArray×ByteArray×List RN×Bool:=match kidN nm l with|some x=>(x.f0,x.f1,toNL x.f2,true)|none=>(⟨#[]⟩,⟨#[]⟩,[],false)
theorem kid_loop (nm:ByteArray) (rest:List XN):∀ done,nbl (done++rest)≤1000000000000→Ev (fun k=>xml_Kid.l0 k nm (done++rest) ((done++rest).length:Int) (done.length:Int)) (kidA nm rest):=by
  induction rest with
  | nil=>
    intro done _
    rw [List.append_nil]
    exact Ev.step (f:=fun _=>some (⟨#[]⟩,⟨#[]⟩,[],false)) (fun k=>by rw [xml_Kid.l0,if_neg (by omega)]) (Ev.now _)
  | cons x rest ihl=>
    intro done hn
    have hnx:=next_at done x rest (by omega)
    have hl:(done++x :: rest).length=done.length+rest.length+1:=by rw [List.length_append,List.length_cons];omega
    have hx:nb x≤1000000000000:=by rw [nbl_app,nbl] at hn;omega
    have he:done++x :: rest=(done ++ [x])++rest:=by simp
    refine Ev.step (f:=fun k=>if x.f0.toList=nm.toList then((xml_copied.f k x.f0 x.f1 x.f2).bind fun t=>some (t.1,t.2.1,t.2.2,true)) else xml_Kid.l0 k nm (done++x :: rest) ((done++x :: rest).length:Int) (((done ++ [x]).length:Nat):Int)) (fun k=>?_) ?_
    · rw [xml_Kid.l0,if_pos (by omega),if_pos (by omega),if_pos (by omega),rd_at,hnx]
    · by_cases hc:x.f0.toList=nm.toList
      · refine ev_pos hc (Ev.bind (copied_ev 1000000000000 (by omega) x hx) ?_)
        rw [kidA,kidN,if_pos hc]
        exact Ev.now _
      · refine ev_neg hc ?_
        have hk:kidA nm (x :: rest)=kidA nm rest:=by rw [kidA,kidN,if_neg hc];rfl
        rw [hk,he]
        exact ihl (done ++ [x]) (by rw [← he];exact hn)
theorem rkid_loop (nm g0 g1:ByteArray) (rest:List XN):∀ done,nbl (done++rest)≤1000000000000→Ev (fun k=>stowageref13_Kid.l0 k nm (done.length:Int) g0 g1 (toNL (done++rest))) (kidR nm rest):=by
  induction rest with
  | nil=>
    intro done _
    rw [List.append_nil]
    exact Ev.step (f:=fun _=>some (⟨#[]⟩,⟨#[]⟩,[],false)) (fun k=>by rw [stowageref13_Kid.l0,if_neg (by rw [toNL_len];omega)]) (Ev.now _)
  | cons x rest ihl=>
    intro done hn
    have hnx:=next_at done x rest (by omega)
    have hl:(done++x :: rest).length=done.length+rest.length+1:=by rw [List.length_append,List.length_cons];omega
    have he:done++x :: rest=(done ++ [x])++rest:=by simp
    obtain⟨e0,e1,e2⟩:=toN_f x
    refine Ev.step (f:=fun k=>if x.f0.toList=nm.toList then some (x.f0,x.f1,toNL x.f2,true) else stowageref13_Kid.l0 k nm (((done ++ [x]).length:Nat):Int) g0 g1 (toNL (done++x :: rest))) (fun k=>?_) ?_
    · rw [stowageref13_Kid.l0,if_pos (by rw [toNL_len];omega),if_pos (by omega),rdr_at,hnx,e0,e1,e2]
    · by_cases hc:x.f0.toList=nm.toList
      · refine ev_pos hc ?_
        rw [kidR,kidN,if_pos hc]
        exact Ev.now _
      · refine ev_neg hc ?_
        have hk:kidR nm (x :: rest)=kidR nm rest:=by rw [kidR,kidN,if_neg hc];rfl
        rw [hk,he]
        exact ihl (done ++ [x]) (by rw [← he];exact hn)
theorem kid_ev (n:XN) (nm:ByteArray) (hn:nb n≤1000000000000):Ev (fun k=>xml_Kid.f k n.f0 n.f1 n.f2 nm) (kidA nm n.f2):=by
  rw [nb_eq] at hn
  simp only [xml_Kid.f]
  exact kid_loop nm n.f2 [] (by rw [List.nil_append];omega)
theorem rkid_ev (n:XN) (nm:ByteArray) (hn:nb n≤1000000000000):Ev (fun k=>stowageref13_Kid.f k (toN n).f0 (toN n).f1 (toN n).f2 nm) (kidR nm n.f2):=by
  rw [nb_eq] at hn
  obtain⟨e0,e1,e2⟩:=toN_f n
  rw [e0,e1,e2]
  simp only [stowageref13_Kid.f]
  exact rkid_loop nm n.f0 n.f1 n.f2 [] (by rw [List.nil_append];omega)
theorem same_loop (N:Nat) (ih:∀ x,nb x≤N→Ev (fun k=>stowageref13_Same.f k (toN x).f0 (toN x).f1 (toN x).f2 (toN x).f0 (toN x).f1 (toN x).f2) true) (f0 f1 g0 g1:ByteArray) (rest:List XN) :
    ∀ done,nbl (done++rest)≤N→N≤1000000000000→Ev (fun k=>stowageref13_Same.l0 k (done.length:Int) f0 f1 (toNL (done++rest)) g0 g1 (toNL (done++rest))) true:=by
  induction rest with
  | nil=>
    intro done _ _
    rw [List.append_nil]
    exact Ev.step (f:=fun _=>some true) (fun k=>by rw [stowageref13_Same.l0,if_neg (by rw [toNL_len];omega)]) (Ev.now _)
  | cons x rest ihl=>
    intro done hn hN
    have hnx:=next_at done x rest (by omega)
    have hl:(done++x :: rest).length=done.length+rest.length+1:=by rw [List.length_append,List.length_cons];omega
    have hx:nb x≤N:=by rw [nbl_app,nbl] at hn;omega
    have he:done++x :: rest=(done ++ [x])++rest:=by simp
    refine Ev.step (f:=fun k=>(stowageref13_Same.f k (toN x).f0 (toN x).f1 (toN x).f2 (toN x).f0 (toN x).f1 (toN x).f2).bind fun t=>if t=true then stowageref13_Same.l0 k (((done ++ [x]).length:Nat):Int) f0 f1 (toNL (done++x :: rest)) g0 g1 (toNL (done++x :: rest)) else some false) (fun k=>?_) ?_
    · rw [stowageref13_Same.l0,if_pos (by rw [toNL_len];omega),if_pos (by omega),if_pos (by rw [toNL_len];omega),rdr_at,hnx]
    · refine Ev.bind (ih x hx) (ev_pos rfl ?_)
      rw [he]
      exact ihl (done ++ [x]) (by rw [← he];exact hn) hN
theorem same_ev (N:Nat) (hN:N≤1000000000000):∀ n,nb n≤N→Ev (fun k=>stowageref13_Same.f k (toN n).f0 (toN n).f1 (toN n).f2 (toN n).f0 (toN n).f1 (toN n).f2) true:=by
  induction N with
  | zero=>intro n h;rw [nb_eq] at h;omega
  | succ N ih=>
    intro n h
    rw [nb_eq] at h
    obtain⟨e0,e1,e2⟩:=toN_f n
    rw [e0,e1,e2]
    refine Ev.step (f:=fun k=>stowageref13_Same.j0 k false n.f0 n.f1 (toNL n.f2) n.f0 n.f1 (toNL n.f2)) (fun k=>by rw [stowageref13_Same.f,if_pos rfl,if_pos rfl,bne_self_eq_false]) ?_
    refine Ev.step (f:=fun k=>stowageref13_Same.l0 k 0 n.f0 n.f1 (toNL n.f2) n.f0 n.f1 (toNL n.f2)) (fun k=>by rw [stowageref13_Same.j0,if_neg Bool.false_ne_true]) ?_
    exact same_loop N (ih (by omega)) n.f0 n.f1 n.f0 n.f1 n.f2 [] (by rw [List.nil_append];omega) (by omega)
theorem awake_60:stowagelaw13_awake.f 60=some true:=by decide +kernel
theorem awb:Ev (fun k=>(stowagelaw13_awake.f k).bind fun t=>some t) true:=Ev.bind (Ev.of (fun k=>stowagelaw13_awake.mono k) awake_60) (Ev.now _)
theorem XmlPrintsUpto (n:XN) (sp:Bool) (nm:ByteArray) (hn:nb n≤1000000000) (_:nm.size≤1048576):∃ k,stowagelaw13_XmlPrints.f k n.f0 n.f1 n.f2 sp nm=some true:=by
  apply Ev.rounds
  simp only [stowagelaw13_XmlPrints.f]
  obtain⟨d,hd⟩:=deep_ev 1000000000 (by omega) n 40 (by omega) (by omega) hn
  refine Ev.bind hd ?_
  by_cases h:d>40
  · exact ev_pos h awb
  · refine ev_neg h ?_
    obtain⟨s,e,hs,_,h1,h2⟩:=print_ev n sp hn
    have ht:=to_ev 1000000000 (by omega) n hn
    refine Ev.bind h1 (Ev.bind ht (Ev.bind h2 (Ev.bind (kid_ev n nm (by omega)) (Ev.bind ht (Ev.bind (rkid_ev n nm (by omega)) (ev_some (a:=(nm,s,([]:List XN))) rfl (ev_pos rfl (ev_pos rfl ?_))))))))
    have hn':=hn
    rw [nb_eq] at hn'
    cases hk:kidN nm n.f2 with
    | none=>
      rw [kidA,kidR,hk]
      refine Ev.bind (to_ev 1000000000 (by omega) (⟨⟨#[]⟩,⟨#[]⟩,[]⟩ : XN) (by rw [nb_eq];simp only [nbl];decide)) (Ev.bind (same_ev 1000000000 (by omega) (⟨⟨#[]⟩,⟨#[]⟩,[]⟩ : XN) (by rw [nb_eq];simp only [nbl];decide)) (ev_pos rfl (ev_pos rfl (ev_pos rfl (ev_pos rfl (ev_pos rfl awb))))))
    | some x=>
      have hx:nb x≤1000000000:=by have:=kidN_nb hk;omega
      obtain⟨e0,e1,e2⟩:=toN_f x
      have hS:=same_ev 1000000000 (by omega) x hx
      rw [kidA,kidR,hk]
      refine Ev.bind (to_ev 1000000000 (by omega) x hx) ?_
      rw [e0,e1,e2] at hS ⊢
      exact Ev.bind hS (ev_pos rfl (ev_pos rfl (ev_pos rfl (ev_pos rfl (ev_pos rfl awb)))))
end Go.Proofs.YtklcgncaclggcaaDoor.Pure
