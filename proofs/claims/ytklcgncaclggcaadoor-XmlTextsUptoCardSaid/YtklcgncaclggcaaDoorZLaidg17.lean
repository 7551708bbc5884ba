/- A part of the proof of the seat's laws. No condition beyond those in the theorems. -/
import Derived.Test.YtklcgncaclggcaaDoorRows
import Derived.RowKit
import Derived.LaidLaws
import Derived.Stop.Joined
import Derived.Test.YtklcgncaclggcaaDoorV1
import Derived.Deep.Slices
import Derived.ChangeSame
import Derived.SizedLaws
import Derived.Laws.Strings
import Derived.Lib.Bytealg
import Derived.Lib.DecodeN
import Derived.Test.YtklcgncaclggcaaDoorZQ0g15
import Derived.Test.YtklcgncaclggcaaDoorZQ59g5
import Derived.Test.YtklcgncaclggcaaDoorZQ72g6
import Derived.Test.YtklcgncaclggcaaDoorZRepS
import Derived.Test.YtklcgncaclggcaaDoorZQ66g15
import Derived.Test.YtklcgncaclggcaaDoorZQ53g4

namespace Go.Proofs.YtklcgncaclggcaaDoor.Q
open Go.ChangeShapes Go.WideShapes Go.RowKit
abbrev laidList : List (String × DataW Unit) := [("unicode/utf8.acceptRanges", Rows.laid_unicode_utf8_acceptRanges), ("unicode/utf8.first", Rows.laid_unicode_utf8_first)]
noncomputable def laidWorld (os:Os):World:=
  let w0:=World.holding Tryd.prog os ⟨#[],#[],[]⟩
  { w0 with heap:=(w0.heap.modify 1 fun
      | .cells _ t frozen=>.cells (Go.Pinned.utf8FirstZ.map fun (n:Nat)=>Value.int .u8 (n:Int)).toArray t frozen
      | o=>o).modify 2 fun
      | .cells _ t frozen=>.cells (([128,191,160,191,128,159,144,191,128,143]++List.replicate 22 0:List Nat).map fun (n:Nat)=>Value.int .u8 (n:Int)).toArray t frozen
      | o=>o}
theorem laid_met0 (os:Os) (args:Array Value):laidMet Tryd.prog laidList ((laidWorld os).forCall (fun _ _=>0) ⟨#[],args,[]⟩).memory:=
  laidMet_of_run' 8 (by kernel_rfl) (by kernel_rfl)
theorem laid_met (os:Os) (args:Array Value):laidMetH Tryd.prog laidList ((laidWorld os).forCall (fun _ _=>0) ⟨#[],args,[]⟩).memory:=laid_met0 os args
end Go.Proofs.YtklcgncaclggcaaDoor.Q


namespace Go.Proofs.YtklcgncaclggcaaDoor.Opn
open Go.ChangeShapes Go.WideShapes Go.RowKit Go.Proofs.YtklcgncaclggcaaDoorW.PrintWords
section
variable {H:Type} (enc:TypeId×Value→H) (P:Program) (w:World) (base:Nat) (spare:Nat→Bool) (held:Bool)
def Opens (t:TypeId) {α:Type} (d:Kd α) (R:DataW H→α→Prop):Prop:=∀ fuel cs x,DataW.trod enc P w base spare held fuel t cs=some x → ∃ a,d.K w a cs∧R x.1 a
end
section
variable {H:Type} {enc:TypeId×Value→H} {P:Program} {w:World} {base:Nat} {spare:Nat→Bool} {held:Bool} {t e:TypeId} {α:Type} {d:Kd α} {R:DataW H→α→Prop}
theorem Opens.imp_ {R':DataW H→α→Prop} (h:Opens enc P w base spare held t d R) (hr:∀ x a,R x a→R' x a):Opens enc P w base spare held t d R':=fun fuel cs x hx=>by
  obtain⟨a,h1,h2⟩:=h fuel cs x hx
  exact⟨a,h1,hr _ _ h2⟩
theorem opens_string (ht:P.underlying t=some .string):Opens enc P w base spare held t Kd.string (fun x a=>x = .lit (.string a.data.toList)):=fun fuel cs x hx=>by
  obtain⟨s,rfl,rfl,_⟩:=DataW.trod_string ht hx
  exact⟨s,rfl,rfl⟩
theorem opens_int {k:IntKind} (ht:P.underlying t=some (.int k)):Opens enc P w base spare held t (Kd.int k) (fun x a=>x = .lit (.int k a)∧(Lit.int k a).wf=true):=fun fuel cs x hx=>by
  obtain⟨s,rfl,rfl,h⟩:=DataW.trod_int ht hx
  exact⟨s,rfl,rfl,h⟩
theorem opens_bool (ht:P.underlying t=some .bool):Opens enc P w base spare held t Kd.bool (fun x a=>x = .lit (.bool a)):=fun fuel cs x hx=>by
  obtain⟨s,rfl,rfl⟩:=DataW.trod_bool ht hx
  exact⟨s,rfl,rfl⟩
theorem opens_slice [Inhabited α] (ht:P.underlying t=some (.slice e)) (hc:P.cellsOf e=d.sz) (h:Opens enc P w base spare held e d R) :
    Opens enc P w base spare held t (Kd.slice e d) (fun x xs=>(x = .nil∧xs = []) ∨ ∃ (n:Nat) (D:Nat→DataW H) (X:Nat→α) (sp:List (DataW H)),x = .slice ((List.range n).map D) sp∧xs=(List.range n).map X ∧ ∀ i,i<n→R (D i) (X i)):=by
  intro fuel cs x hx
  rcases Deep.open_slice ht hx with⟨rfl,rfl⟩|⟨a,len,cap,m,n,D,Pl,rfl,hb,hl,hm,hmm,rfl,hall⟩
  · exact⟨[],⟨none,0,rfl,Nat.le_refl _,rfl,by simp,fun h=>absurd h (Nat.lt_irrefl 0)⟩,.inl ⟨rfl,rfl⟩⟩
  · have hlm:len≤m:=by rw [hmm];split <;> omega
    have each:∀ i,i<len → ∃ x:α,∃ cs',w.cells? base (a.add (i*P.cellsOf e)) (P.cellsOf e)=some cs'∧d.K w x cs'∧R (D i) x:=by
      intro i hi
      obtain⟨cs',h1,h2⟩:=hall i (by omega)
      obtain⟨x,h3,h4⟩:=h _ _ _ h2
      exact⟨x,cs',h1,h3,h4⟩
    obtain⟨X,hX⟩:=Deep.choose_lt each
    have hlen:((List.range len).map X).length=len:=by simp
    refine⟨(List.range len).map X,⟨some a,cap,by rw [hlen],by rw [hlen];exact hl,?_⟩,.inr ⟨len,D,X,_,rfl,rfl,fun i hi=>by obtain⟨_,_,_,h4⟩:=hX i hi;exact h4⟩⟩
    rw [hlen]
    refine⟨hlen,by simp only [maxLen] at hm;omega,fun _=>⟨a,rfl,fun j p hp=>?_⟩⟩
    have hj:j<len:=by
      have:=(List.getElem?_eq_some_iff.mp hp).1
      simpa using this
    have hpx:p=X j:=by
      rw [List.getElem?_map,List.getElem?_range hj] at hp
      exact(Option.some.inj hp).symm
    subst hpx
    obtain⟨cs',h1,h3,_⟩:=hX j hj
    obtain⟨_,hl',hcell⟩:=World.cells?_some h1
    refine⟨cs',d.K_len h3,h3,fun i u hu=>?_⟩
    have hi:i<P.cellsOf e:=by
      have:=(List.getElem?_eq_some_iff.mp hu).1
      omega
    have hcc:=hcell i hi
    rw [hu,hc,Deep.add_add] at hcc
    exact hcc
def Up {H:Type} (W:α→Prop) (M:α→Nat) (x:DataW H) (a:α):Prop:=W a∧M a≤Rows.uptoBulk x
theorem bulk_all {H:Type} (D:Nat→DataW H) (X:Nat→Nat) (l:List Nat) (h:∀ i∈l,X i≤Rows.uptoBulk (D i)):(l.map X).sum≤Rows.uptoBulkAll (l.map D):=by
  induction l with
  | nil=>simp
  | cons i l ih=>
    simp only [List.map_cons,List.sum_cons,Rows.uptoBulkAll]
    have h1:=h i List.mem_cons_self
    have h2:=ih (fun j hj=>h j (List.mem_cons_of_mem _ hj))
    omega
def msz (M:α→Nat) (xs:List α):Nat:=(xs.map M).sum+1
theorem up_string (ht:P.underlying t=some .string):Opens enc P w base spare held t Kd.string (Up (fun _=>True) (fun s=>s.size+1)):=
  (opens_string ht).imp_ fun x a h=>by
    subst h
    refine⟨trivial,?_⟩
    have e:a.data.toList.length=a.size:=by rw [Array.length_toList];rfl
    show a.size+1≤a.data.toList.length+1
    omega
theorem up_int {k:IntKind} (ht:P.underlying t=some (.int k)):Opens enc P w base spare held t (Kd.int k) (Up (fun a=>(Lit.int k a).wf=true) (fun _=>1)):=
  (opens_int ht).imp_ fun x a h=>by
    obtain⟨rfl,h⟩:=h
    exact⟨h,Nat.le_refl _⟩
theorem up_bool (ht:P.underlying t=some .bool):Opens enc P w base spare held t Kd.bool (Up (fun _=>True) (fun _=>1)):=
  (opens_bool ht).imp_ fun x a h=>by
    subst h
    exact⟨trivial,Nat.le_refl _⟩
theorem up_slice [Inhabited α] {W:α→Prop} {M:α→Nat} (ht:P.underlying t=some (.slice e)) (hc:P.cellsOf e=d.sz) (h:Opens enc P w base spare held e d (Up W M)) :
    Opens enc P w base spare held t (Kd.slice e d) (Up (fun xs=>∀ a∈xs,W a) (msz M)):=
  (opens_slice ht hc h).imp_ fun x xs hx=>by
    rcases hx with⟨rfl,rfl⟩|⟨n,D,X,sp,rfl,rfl,h⟩
    · exact⟨fun a ha=>(by cases ha),Nat.le_refl _⟩
    · refine⟨fun a ha=>?_,?_⟩
      · obtain⟨i,hi,rfl⟩:=List.mem_map.mp ha
        exact(h i (List.mem_range.mp hi)).1
      · have:=bulk_all D (fun i=>M (X i)) (List.range n) (fun i hi=>(h i (List.mem_range.mp hi)).2)
        simp only [msz,Rows.uptoBulk,List.map_map]
        show((List.range n).map (M∘X)).sum+1≤_
        have e:((List.range n).map (M∘X)).sum=((List.range n).map fun i=>M (X i)).sum:=rfl
        omega
def Wt {H:Type} (P:Program) (t:TypeId) (B:α→Prop) (x:DataW H) (a:α):Prop:=(∀ n∈x.weights P t,n≤reachBytes)→B a
theorem wt_string (ht:P.underlying t=some .string):Opens enc P w base spare held t Kd.string (Wt P t (fun s=>s.size≤140737488351232)):=
  (opens_string ht).imp_ fun x a h=>by
    subst h
    intro hw
    have e:a.data.toList.length=a.size:=by rw [Array.length_toList];rfl
    have:=hw a.data.toList.length (by simp [DataW.weights])
    simp only [reachBytes] at this
    omega
theorem wt_int {k:IntKind} (ht:P.underlying t=some (.int k)):Opens enc P w base spare held t (Kd.int k) (Wt P t (fun a=>(Lit.int k a).wf=true)):=
  (opens_int ht).imp_ fun x a h=>fun _=>h.2
theorem weights_all {H:Type} (P:Program) (e:TypeId) (l:List (DataW H)) (d:DataW H) (hd:d∈l):∀ n∈d.weights P e,n∈DataW.weightsAll P e l:=by
  induction l with
  | nil=>cases hd
  | cons x r ih=>
    intro n hn
    rw [DataW.weightsAll]
    cases List.mem_cons.1 hd with
    | inl h=>subst h;exact List.mem_append_left _ hn
    | inr h=>exact List.mem_append_right _ (ih h n hn)
theorem wt_slice [Inhabited α] {B:α→Prop} (sz:Nat) (ht:P.underlying t=some (.slice e)) (hc:P.cellsOf e=d.sz) (hsz:P.bytesOf e=sz) (h:Opens enc P w base spare held e d (Wt P e B)) :
    Opens enc P w base spare held t (Kd.slice e d) (Wt P t (fun xs=>xs.length*sz≤140737488351232 ∧ ∀ a∈xs,B a)):=
  (opens_slice ht hc h).imp_ fun x xs hx=>by
    rcases hx with⟨rfl,rfl⟩|⟨n,D,X,sp,rfl,rfl,h⟩
    · exact fun _=>⟨by simp,fun a ha=>by cases ha⟩
    · intro hw
      simp only [DataW.weights,ht] at hw
      refine⟨?_,fun a ha=>?_⟩
      · have:=hw _ List.mem_cons_self
        simp only [List.length_map,List.length_range,reachBytes,hsz] at this ⊢
        have h2:n*sz≤(n+sp.length)*sz:=Nat.mul_le_mul_right _ (by omega)
        omega
      · obtain⟨i,hi,rfl⟩:=List.mem_map.mp ha
        refine h i (List.mem_range.mp hi) fun m hm=>hw m ?_
        refine List.mem_cons_of_mem _ (List.mem_append_left _ (weights_all P e _ (D i) (List.mem_map.mpr ⟨i,hi,rfl⟩) m hm))
end
end Go.Proofs.YtklcgncaclggcaaDoor.Opn


namespace Go.Proofs.YtklcgncaclggcaaDoor.Pure
open Go.RowKit Go.Proofs.YtklcgncaclggcaaDoorW.PrintWords
set_option linter.unusedVariables false
set_option linter.unusedSimpArgs false
theorem ev_pos {α:Type} {c:Prop} [Decidable c] {f g:Nat→Option α} {r:α} (hc:c) (h:Ev f r):Ev (fun k=>if c then f k else g k) r:=
  Ev.congr (fun _=>if_pos hc) h
theorem ev_neg {α:Type} {c:Prop} [Decidable c] {f g:Nat→Option α} {r:α} (hc:¬ c) (h:Ev g r):Ev (fun k=>if c then f k else g k) r:=
  Ev.congr (fun _=>if_neg hc) h
theorem ev_eq {α:Type} {g:Nat→Option α} {r r':α} (h:Ev g r) (e:r=r'):Ev g r':=e▸h
theorem ev_some {α β:Type} {o:Option α} {a:α} {f:Nat→α→Option β} {r:β} (h:o=some a) (k:Ev (fun n=>f n a) r):Ev (fun n=>o.bind (f n)) r:=by subst h;exact k
theorem w64 {n:Int} (h:-9000000000000000000≤n) (h':n≤9000000000000000000):wrap64 n=n:=by unfold wrap64;omega
theorem wf_bd {a:Int} (h:(Lit.int .i64 a).wf=true):-9223372036854775808≤a∧a≤9223372036854775807:=by
  simp [Lit.wf] at h
  have e1:IntKind.i64.min = -9223372036854775808:=by kernel_rfl
  have e2:IntKind.i64.max=9223372036854775807:=by kernel_rfl
  omega
theorem toList_inj {a b:ByteArray} (h:a.toList=b.toList):a=b:=by
  rw [ByteArray.toList_eq,ByteArray.toList_eq] at h
  exact ByteArray.ext (Array.toList_inj.mp h)
theorem toList_extract (a:ByteArray) (i j:Nat):(a.extract i j).toList=(a.toList.take j).drop i:=by
  rw [ByteArray.toList_eq,ByteArray.toList_eq,ByteArray.data_extract,Array.toList_extract,List.extract_eq_take_drop,List.drop_take]
theorem toList_append (a b:ByteArray):(a++b).toList=a.toList++b.toList:=by
  rw [ByteArray.toList_eq,ByteArray.toList_eq,ByteArray.toList_eq,ByteArray.data_append,Array.toList_append]
theorem length_toList (a:ByteArray):a.toList.length=a.size:=by rw [ByteArray.toList_eq,Array.length_toList];rfl
theorem bt_get (s:ByteArray) (i:Nat) (h:i<s.toList.length):bt s i=(s.toList[i].toNat:Int):=by
  unfold bt
  rw [dif_pos (show((i:Nat):Int).toNat<s.size by rw [length_toList] at h;omega)]
  congr 1
  simp only [Int.toNat_natCast]
  have e:s.toList=s.data.toList:=ByteArray.toList_eq s
  simp only [e,Array.getElem_toList]
  rfl
theorem bt_drop (s:ByteArray) (i:Nat) (c:UInt8) (l:List UInt8) (h:s.toList.drop i=c :: l):bt s i=(c.toNat:Int)∧i<s.size:=by
  have hi:i<s.toList.length:=by
    have:=congrArg List.length h
    rw [List.length_drop,List.length_cons] at this
    omega
  refine⟨?_,by rw [← length_toList];exact hi⟩
  rw [bt_get s i hi]
  rw [List.drop_eq_getElem_cons hi] at h
  rw [(List.cons.inj h).1]
def B (l:List UInt8):ByteArray:=⟨l.toArray⟩
theorem B_toList (l:List UInt8):(B l).toList=l:=by rw [ByteArray.toList_eq];rfl
theorem of_B (s:ByteArray):B s.toList=s:=toList_inj (B_toList _)
theorem B_size (l:List UInt8):(B l).size=l.length:=by rw [← length_toList,B_toList]
theorem B_extract (l:List UInt8) (i j:Nat):(B l).extract i j=B ((l.take j).drop i):=by
  apply toList_inj
  rw [toList_extract,B_toList,B_toList]
theorem B_append (a b:List UInt8):B a++B b=B (a++b):=by
  apply toList_inj
  rw [toList_append,B_toList,B_toList,B_toList]
theorem B_inj {a b:List UInt8} (h:B a=B b):a=b:=by
  have:=congrArg ByteArray.toList h
  rwa [B_toList,B_toList] at this
theorem bt_B (l:List UInt8) (i:Nat) (c:UInt8) (h:l[i]? = some c):bt (B l) (i:Int)=(c.toNat:Int):=by
  obtain⟨hi,e⟩:=List.getElem?_eq_some_iff.mp h
  have hi':i<(B l).toList.length:=by rw [B_toList];exact hi
  rw [bt_get _ i hi']
  simp only [B_toList,e]
theorem toNat_eq {c d:UInt8}:(c.toNat:Int)=(d.toNat:Int)↔c=d:=by
  constructor
  · intro h;exact UInt8.toNat_inj.mp (Int.ofNat_inj.mp h)
  · intro h;rw [h]
theorem bt_pre (s:ByteArray) (pre l:List UInt8) (c:UInt8) (h:s.toList=pre++c :: l):bt s (pre.length:Int)=(c.toNat:Int)∧pre.length<s.size:=by
  apply bt_drop s pre.length c l
  rw [h,List.drop_left']
  rfl
theorem pre_end (s:ByteArray) (pre:List UInt8) (h:s.toList=pre ++ []):s.size=pre.length:=by rw [← length_toList,h,List.append_nil]
theorem pre_le (s:ByteArray) (pre l:List UInt8) (h:s.toList=pre++l):pre.length+l.length=s.size:=by rw [← length_toList,h,List.length_append]
theorem pre_next (pre:List UInt8) (c:UInt8) (n:Nat) (h:pre.length<n) (hn:n≤9000000000000000000):wrap64 ((pre.length:Int)+1)=((pre ++ [c]).length:Int):=by
  rw [w64 (by omega) (by omega),List.length_append]
  simp
theorem pre_app (s:ByteArray) (pre l:List UInt8) (c:UInt8) (h:s.toList=pre++c :: l):s.toList=(pre ++ [c])++l:=by rw [h];simp
open Go.RowKit Go.Proofs.YtklcgncaclggcaaDoor.Q Go.Proofs.YtklcgncaclggcaaDoorW.PrintWords Go.Proofs.YtklcgncaclggcaaDoorW.PrintLast
def tailL:List UInt8→Nat→Nat→Option Nat
  | _,0,v=>some v
  | [],_+1,_=>none
  | b :: l,j+1,v=>if 128≤b.toNat∧b.toNat<192 then tailL l j (64*v+(b.toNat-128)) else none
def finL (v m n:Nat):Nat×Nat:=if v<m∨1114111<v∨(55296≤v∧v<57344) then(0,0) else(v,n)
def seqL (l:List UInt8) (j v m:Nat):Nat×Nat:=match tailL l j v with|none=>(0,0)|some v=>finL v m (j+1)
def stL:List UInt8→Nat×Nat
  | []=>(0,0)
  | b :: l=>if b.toNat<128 then(b.toNat,1) else if b.toNat<192 then(0,0) else if b.toNat<224 then seqL l 1 (b.toNat-192) 128 else if b.toNat<240 then seqL l 2 (b.toNat-224) 2048 else if b.toNat<248 then seqL l 3 (b.toNat-240) 65536 else(0,0)
def iP (p:Nat×Nat):Int×Int:=(p.1,p.2)
theorem tailL_short (l:List UInt8):∀ j v,l.length<j→tailL l j v=none:=by
  induction l with
  | nil=>intro j v h;cases j with|zero=>simp at h|succ j=>rfl
  | cons b l ih=>
    intro j v h
    cases j with
    | zero=>simp at h
    | succ j=>
      rw [tailL]
      split
      · exact ih j _ (by simpa using h)
      · rfl
theorem tailL_more (l m:List UInt8):∀ j v r,tailL l j v=some r→tailL (l++m) j v=some r:=by
  induction l with
  | nil=>
    intro j v r h
    cases j with
    | zero=>simpa [tailL] using h
    | succ j=>simp [tailL] at h
  | cons b l ih=>
    intro j v r h
    cases j with
    | zero=>simpa [tailL] using h
    | succ j=>
      rw [tailL] at h
      rw [List.cons_append,tailL]
      split at h
      · rename_i c;rw [if_pos c];exact ih j _ r h
      · exact absurd h (by simp)
theorem tailL_len (l:List UInt8) (j v r:Nat) (h:tailL l j v=some r):j≤l.length:=by
  by_cases c:l.length<j
  · rw [tailL_short l j v c] at h;exact absurd h (by simp)
  · omega
theorem step_l0 (s:ByteArray) (hs:s.size≤1000000000000000) (m:Nat) (j:Nat):∀ (pre l:List UInt8) (v:Nat),s.toList=pre++l→j≤l.length→(v+1)*64 ^ j≤1000000000000000 →
    Ev (fun k=>stowageref3_Step.l0 k s ((pre.length+j:Nat):Int) (v:Int) (m:Int) (pre.length:Int)) (iP (match tailL l j v with|none=>(0,0)|some v=>finL v m (pre.length+j))):=by
  induction j with
  | zero=>
    intro pre l v h hj hv
    have e0:tailL l 0 v=some v:=by cases l <;> rfl
    rw [e0]
    refine Ev.step (f:=fun _=>some (iP (finL v m (pre.length+0)))) (fun k=>?_) (Ev.now _)
    rw [stowageref3_Step.l0,if_neg (by omega),finL]
    by_cases c:v<m∨1114111<v∨(55296≤v∧v<57344)
    · rw [if_pos c]
      by_cases c1:(v:Int)<(m:Int)
      · rw [if_pos c1];rfl
      · rw [if_neg c1]
        by_cases c2:(v:Int)>1114111
        · rw [if_pos c2];rfl
        · rw [if_neg c2,if_pos (by omega),if_pos (by omega)];rfl
    · rw [if_neg c,if_neg (by omega),if_neg (by omega)]
      by_cases c3:(v:Int) ≥ 55296
      · rw [if_pos c3,if_neg (by omega)];rfl
      · rw [if_neg c3];rfl
  | succ j ih=>
    intro pre l v h hj hv
    cases l with
    | nil=>simp at hj
    | cons c l=>
      obtain⟨hb,hl⟩:=bt_pre s pre l c h
      have hn:=pre_next pre c s.size hl (by omega)
      have happ:=pre_app s _ l c h
      have hc:=c.toNat_lt
      have hp:1≤64 ^ j:=Nat.one_le_pow _ _ (by omega)
      have hv1:(v+1)*64 ^ (j+1)=(64*(v+1))*64 ^ j:=by rw [Nat.pow_succ];rw [Nat.mul_comm (64 ^ j) 64,← Nat.mul_assoc,Nat.mul_comm (v+1) 64]
      have hv2:64*(v+1)≤(64*(v+1))*64 ^ j:=Nat.le_mul_of_pos_right _ hp
      rw [tailL]
      by_cases g:128≤c.toNat∧c.toNat<192
      · rw [if_pos g]
        have hlen:((pre ++ [c]).length+j:Nat)=pre.length+(j+1):=by simp;omega
        have hm:(64*v+(c.toNat-128)+1)*64 ^ j≤(64*(v+1))*64 ^ j:=Nat.mul_le_mul_right _ (by omega)
        have h':=ih (pre ++ [c]) l (64*v+(c.toNat-128)) happ (by simpa using hj) (by omega)
        rw [hlen] at h'
        refine Ev.step (fun k=>?_) h'
        have ew:wrap64 (wrap64 (wrap64 (64*(v:Int))+wrap64 (c.toNat:Int))-128)=((64*v+(c.toNat-128):Nat):Int):=by
          rw [w64 (n:=64*(v:Int)) (by omega) (by omega),w64 (n:=(c.toNat:Int)) (by omega) (by omega),w64 (n:=64*(v:Int)+(c.toNat:Int)) (by omega) (by omega),w64 (by omega) (by omega)]
          omega
        rw [stowageref3_Step.l0,if_pos (by omega),if_pos (by omega),if_pos (by omega),hb,if_neg (by omega),if_neg (by omega),ew,hn]
      · rw [if_neg g]
        refine Ev.step (f:=fun _=>some ((0:Int),(0:Int))) (fun k=>?_) (Ev.now _)
        rw [stowageref3_Step.l0,if_pos (by omega),if_pos (by omega),if_pos (by omega),hb]
        by_cases g1:(c.toNat:Int)<128
        · rw [if_pos g1]
        · rw [if_neg g1,if_pos (by omega)]
theorem step_j2 (s:ByteArray) (hs:s.size≤1000000000000000) (c:UInt8) (l:List UInt8) (h:s.toList=c :: l) (j v m:Nat) (hv:(v+1)*64 ^ j≤1000000000000000) :
    Ev (fun k=>stowageref3_Step.j2 k s ((j+1:Nat):Int) (v:Int) (m:Int)) (iP (seqL l j v m)):=by
  have hz:l.length+1=s.size:=by rw [← length_toList,h];rfl
  unfold seqL
  by_cases g:l.length<j
  · rw [tailL_short l j v g]
    exact Ev.step (f:=fun _=>some ((0:Int),(0:Int))) (fun k=>by rw [stowageref3_Step.j2,if_pos (by omega)]) (Ev.now _)
  · have h':=step_l0 s hs m j [c] l v h (by omega) hv
    rw [show [c].length+j=j+1 by rw [List.length_singleton];omega] at h'
    exact Ev.step (fun k=>by rw [stowageref3_Step.j2,if_neg (by omega)];rfl) h'
theorem step_ev (s:ByteArray) (hs:s.size≤1000000000000000) (c:UInt8) (l:List UInt8) (h:s.toList=c :: l):Ev (fun k=>stowageref3_Step.f k s) (iP (stL s.toList)):=by
  have hz:l.length+1=s.size:=by rw [← length_toList,h];rfl
  obtain⟨hb,hl⟩:=bt_pre s [] l c h
  have hb':bt s 0=(c.toNat:Int):=hb
  have hc:=c.toNat_lt
  have hw:wrap64 (c.toNat:Int)=(c.toNat:Int):=w64 (by omega) (by omega)
  rw [h,stL]
  unfold stowageref3_Step.f
  refine ev_pos (by omega) ?_
  simp only [hb',hw]
  by_cases c1:c.toNat<128
  · rw [if_pos c1]
    exact ev_pos (by omega) (Ev.now _)
  · rw [if_neg c1]
    refine ev_neg (by omega) ?_
    by_cases c2:c.toNat<192
    · rw [if_pos c2]
      refine ev_neg (by omega) ?_
      refine Ev.step (f:=fun k=>stowageref3_Step.j1 k s (c.toNat:Int) false) (fun k=>by rw [stowageref3_Step.j0,if_neg (by decide),if_neg (by omega)]) ?_
      exact Ev.step (f:=fun _=>some ((0:Int),(0:Int))) (fun k=>by rw [stowageref3_Step.j1,if_neg (by decide),if_neg (by omega)]) (Ev.now _)
    · rw [if_neg c2]
      refine ev_pos (by omega) ?_
      by_cases c3:c.toNat<224
      · rw [if_pos c3]
        refine Ev.step (fun k=>?_) (step_j2 s hs c l h 1 (c.toNat-192) 128 (by omega))
        rw [stowageref3_Step.j0,if_pos (by rw [decide_eq_true_eq];omega),w64 (by omega) (by omega),show(c.toNat:Int)-192=((c.toNat-192:Nat):Int) by omega]
        rfl
      · rw [if_neg c3]
        by_cases c4:c.toNat<240
        · rw [if_pos c4]
          refine Ev.step (f:=fun k=>stowageref3_Step.j1 k s (c.toNat:Int) true) (fun k=>by rw [stowageref3_Step.j0,if_neg (by rw [decide_eq_true_eq];omega),if_pos (by omega),decide_eq_true (by omega)]) ?_
          refine Ev.step (fun k=>?_) (step_j2 s hs c l h 2 (c.toNat-224) 2048 (by omega))
          rw [stowageref3_Step.j1,if_pos rfl,w64 (by omega) (by omega),show(c.toNat:Int)-224=((c.toNat-224:Nat):Int) by omega]
          rfl
        · rw [if_neg c4]
          refine Ev.step (f:=fun k=>stowageref3_Step.j1 k s (c.toNat:Int) false) (fun k=>by rw [stowageref3_Step.j0,if_neg (by rw [decide_eq_true_eq];omega),if_pos (by omega),decide_eq_false (by omega)]) ?_
          by_cases c5:c.toNat<248
          · rw [if_pos c5]
            refine Ev.step (fun k=>?_) (step_j2 s hs c l h 3 (c.toNat-240) 65536 (by omega))
            rw [stowageref3_Step.j1,if_neg (by decide),if_pos (by omega),if_pos (by omega),w64 (by omega) (by omega),show(c.toNat:Int)-240=((c.toNat-240:Nat):Int) by omega]
            rfl
          · rw [if_neg c5]
            exact Ev.step (f:=fun _=>some ((0:Int),(0:Int))) (fun k=>by rw [stowageref3_Step.j1,if_neg (by decide),if_pos (by omega),if_neg (by omega)]) (Ev.now _)
theorem finL_cases (v m n:Nat):finL v m n=(0,0)∨finL v m n=(v,n):=by
  unfold finL;split
  · exact .inl rfl
  · exact .inr rfl
theorem seqL_cases (l:List UInt8) (j v m:Nat):seqL l j v m=(0,0) ∨ ∃ r,tailL l j v=some r∧seqL l j v m=(r,j+1):=by
  unfold seqL
  cases h:tailL l j v with
  | none=>exact .inl rfl
  | some r=>
    rcases finL_cases r m (j+1) with e|e
    · exact .inl e
    · exact .inr ⟨r,rfl,e⟩
theorem seqL_more (l t:List UInt8) (j v m:Nat) (h:(seqL l j v m).2≠0):seqL (l++t) j v m=seqL l j v m:=by
  unfold seqL at h ⊢
  cases e:tailL l j v with
  | none=>rw [e] at h;simp at h
  | some r=>rw [tailL_more l t j v r e]
theorem seqL_wid (l:List UInt8) (j v m:Nat):(seqL l j v m).2≤l.length+1:=by
  rcases seqL_cases l j v m with e|⟨r,hr,e⟩
  · rw [e];simp
  · rw [e];have:=tailL_len l j v r hr;simp;omega
theorem stL_more (l t:List UInt8) (h:(stL l).2≠0):stL (l++t)=stL l:=by
  cases l with
  | nil=>simp [stL] at h
  | cons b l=>
    rw [stL] at h
    rw [List.cons_append,stL,stL]
    split
    · rfl
    · rename_i c1
      rw [if_neg c1] at h
      split
      · rfl
      · rename_i c2
        rw [if_neg c2] at h
        split
        · rename_i c3;rw [if_pos c3] at h;exact seqL_more l t _ _ _ h
        · rename_i c3
          rw [if_neg c3] at h
          split
          · rename_i c4;rw [if_pos c4] at h;exact seqL_more l t _ _ _ h
          · rename_i c4
            rw [if_neg c4] at h
            split
            · rename_i c5;rw [if_pos c5] at h;exact seqL_more l t _ _ _ h
            · rfl
theorem stL_wid (b:UInt8) (l:List UInt8):(stL (b :: l)).2≤l.length+1:=by
  rw [stL]
  (repeat' split) <;> first|exact seqL_wid _ _ _ _|simp
def dL (l:List UInt8):Nat×Nat:=Lib.decodeN l.length (l.getD 0 0).toNat (l.getD 1 0).toNat (l.getD 2 0).toNat (l.getD 3 0).toNat
def Same (a d:Nat×Nat):Prop:=(a.2=0∧d=(65533,1))∨(a.2≠0∧d=a∧¬ d=(65533,1))
theorem finL_same (v m n:Nat) (P:Prop) [Decidable P] (hm:128≤m) (hn:2≤n) (hP:P↔¬ (v<m∨1114111<v∨(55296≤v∧v<57344))):Same (finL v m n) (if P then(v,n) else(65533,1)):=by
  unfold finL Same
  by_cases c:v<m∨1114111<v∨(55296≤v∧v<57344)
  · rw [if_pos c,if_neg (by rw [hP];exact fun h=>h c)];exact .inl ⟨rfl,rfl⟩
  · rw [if_neg c,if_pos (hP.mpr c)]
    refine .inr ⟨by simp only;omega,rfl,?_⟩
    intro e
    have:=congrArg Prod.snd e
    simp only at this
    omega
theorem nil_same:Same (0,0) (65533,1):=.inl ⟨rfl,rfl⟩
theorem dec2 (b:UInt8) (l:List UInt8) (h1:192≤b.toNat) (h2:b.toNat<224):Same (seqL l 1 (b.toNat-192) 128) (dL (b :: l)):=by
  unfold dL Lib.decodeN seqL
  rw [List.getD_cons_zero,if_neg (by omega)]
  cases l with
  | nil=>
    rw [if_neg (by simp),if_neg (by omega),if_neg (by omega)]
    exact nil_same
  | cons c l=>
    have hc:=c.toNat_lt
    have e1:((b :: c :: l).getD 1 0).toNat=c.toNat:=by simp
    rw [e1,tailL]
    by_cases g:128≤c.toNat∧c.toNat<192
    · have ht:∀ v,tailL l 0 v=some v:=fun v=>by cases l <;> rfl
      rw [if_pos g,ht,if_pos ⟨by omega,by simp,by omega⟩]
      have ev:b.toNat % 32*64+c.toNat % 64=64*(b.toNat-192)+(c.toNat-128):=by omega
      rw [ev]
      exact finL_same _ _ _ _ (by omega) (by omega) (by omega)
    · rw [if_neg g,if_neg (by intro h;omega),if_neg (by omega),if_neg (by omega)]
      exact nil_same
theorem dec3 (b:UInt8) (l:List UInt8) (h1:224≤b.toNat) (h2:b.toNat<240):Same (seqL l 2 (b.toNat-224) 2048) (dL (b :: l)):=by
  unfold dL Lib.decodeN seqL
  rw [List.getD_cons_zero,if_neg (by omega),if_neg (by omega)]
  match l with
  | []=>
    rw [if_neg (by simp),if_neg (by omega)]
    exact nil_same
  | [c]=>
    have e:tailL [c] 2 (b.toNat-224)=none:=tailL_short _ _ _ (by simp)
    rw [e,if_neg (by simp),if_neg (by omega)]
    exact nil_same
  | c :: d :: l=>
    have hc:=c.toNat_lt
    have hd:=d.toNat_lt
    have e1:((b :: c :: d :: l).getD 1 0).toNat=c.toNat:=by simp
    have e2:((b :: c :: d :: l).getD 2 0).toNat=d.toNat:=by simp
    rw [e1,e2,tailL]
    by_cases g:128≤c.toNat∧c.toNat<192
    · rw [if_pos g,tailL]
      by_cases g2:128≤d.toNat∧d.toNat<192
      · have ht:∀ v,tailL l 0 v=some v:=fun v=>by cases l <;> rfl
        rw [if_pos g2,ht,if_pos ⟨by omega,⟨by simp,by omega⟩,⟨by simp,by omega⟩⟩]
        have ev:b.toNat % 16*4096+c.toNat % 64*64+d.toNat % 64=64*(64*(b.toNat-224)+(c.toNat-128))+(d.toNat-128):=by omega
        rw [ev]
        exact finL_same _ _ _ _ (by omega) (by omega) (by omega)
      · rw [if_neg g2,if_neg (by intro h;omega),if_neg (by omega)]
        exact nil_same
    · rw [if_neg g,if_neg (by intro h;omega),if_neg (by omega)]
      exact nil_same
theorem dec4 (b:UInt8) (l:List UInt8) (h1:240≤b.toNat) (h2:b.toNat<248):Same (seqL l 3 (b.toNat-240) 65536) (dL (b :: l)):=by
  unfold dL Lib.decodeN seqL
  rw [List.getD_cons_zero,if_neg (by omega),if_neg (by omega),if_neg (by omega)]
  match l with
  | []=>
    rw [if_neg (by simp)]
    exact nil_same
  | [c]=>
    have e:tailL [c] 3 (b.toNat-240)=none:=tailL_short _ _ _ (by simp)
    rw [e,if_neg (by simp)]
    exact nil_same
  | [c,d]=>
    have e:tailL [c,d] 3 (b.toNat-240)=none:=tailL_short _ _ _ (by simp)
    rw [e,if_neg (by simp)]
    exact nil_same
  | c :: d :: x :: l=>
    have hc:=c.toNat_lt
    have hd:=d.toNat_lt
    have hx:=x.toNat_lt
    have e1:((b :: c :: d :: x :: l).getD 1 0).toNat=c.toNat:=by simp
    have e2:((b :: c :: d :: x :: l).getD 2 0).toNat=d.toNat:=by simp
    have e3:((b :: c :: d :: x :: l).getD 3 0).toNat=x.toNat:=by simp
    rw [e1,e2,e3,tailL]
    by_cases g:128≤c.toNat∧c.toNat<192
    · rw [if_pos g,tailL]
      by_cases g2:128≤d.toNat∧d.toNat<192
      · rw [if_pos g2,tailL]
        by_cases g3:128≤x.toNat∧x.toNat<192
        · have ht:∀ v,tailL l 0 v=some v:=fun v=>by cases l <;> rfl
          rw [if_pos g3,ht,if_pos ⟨by omega,⟨by simp,by omega⟩,⟨by simp,by omega⟩,⟨by simp,by omega⟩⟩]
          have ev:b.toNat % 8*262144+c.toNat % 64*4096+d.toNat % 64*64+x.toNat % 64=64*(64*(64*(b.toNat-240)+(c.toNat-128))+(d.toNat-128))+(x.toNat-128):=by omega
          rw [ev]
          exact finL_same _ _ _ _ (by omega) (by omega) (by omega)
        · rw [if_neg g3,if_neg (by intro h;omega)]
          exact nil_same
      · rw [if_neg g2,if_neg (by intro h;omega)]
        exact nil_same
    · rw [if_neg g,if_neg (by intro h;omega)]
      exact nil_same
theorem dec_same (b:UInt8) (l:List UInt8):Same (stL (b :: l)) (dL (b :: l)):=by
  have hb:=b.toNat_lt
  rw [stL]
  by_cases c1:b.toNat<128
  · rw [if_pos c1]
    unfold dL Lib.decodeN
    rw [List.getD_cons_zero,if_pos c1]
    refine .inr ⟨by simp,rfl,?_⟩
    intro e
    have:=congrArg Prod.fst e
    simp only at this
    omega
  · rw [if_neg c1]
    by_cases c2:b.toNat<192
    · rw [if_pos c2]
      unfold dL Lib.decodeN
      rw [List.getD_cons_zero,if_neg c1,if_neg (by omega),if_neg (by omega),if_neg (by omega)]
      exact nil_same
    · rw [if_neg c2]
      by_cases c3:b.toNat<224
      · rw [if_pos c3];exact dec2 b l (by omega) c3
      · rw [if_neg c3]
        by_cases c4:b.toNat<240
        · rw [if_pos c4];exact dec3 b l (by omega) c4
        · rw [if_neg c4]
          by_cases c5:b.toNat<248
          · rw [if_pos c5];exact dec4 b l (by omega) c5
          · rw [if_neg c5]
            unfold dL Lib.decodeN
            rw [List.getD_cons_zero,if_neg c1,if_neg (by omega),if_neg (by omega),if_neg (by omega)]
            exact nil_same
theorem get_list (s:ByteArray) (i:Nat):s.get! i=s.toList.getD i 0:=by
  rw [ByteArray.toList_eq]
  show s.data[i]! = _
  rw [List.getD_eq_getElem?_getD,Array.getElem!_eq_getD,Array.getD_eq_getD_getElem?,Array.getElem?_toList]
  rfl
theorem dec_at (s:ByteArray) (pos:Nat):Utf8.decode s pos=dL (s.toList.drop pos):=by
  rw [Lib.decode_at,get_list,get_list,get_list,get_list]
  unfold dL
  rw [List.length_drop,length_toList]
  have hd:∀ i,(s.toList.drop pos).getD i 0=s.toList.getD (pos+i) 0:=by
    intro i
    rw [List.getD_eq_getElem?_getD,List.getD_eq_getElem?_getD,List.getElem?_drop]
  rw [hd,hd,hd,hd]
  rfl
def cO:Nat→List UInt8→Option Nat
  | 0,_=>some 0
  | _+1,[]=>some 0
  | k+1,c :: l=>if(stL (c :: l)).2=0 then none else(cO k ((c :: l).drop (stL (c :: l)).2)).map (· + 1)
def cR (n:Nat):Option Nat→Int×Bool
  | none=>(0,false)
  | some m=>(((n+m:Nat):Int),true)
def lO:Nat→List UInt8→Bool
  | 0,_=>true
  | _+1,[]=>true
  | k+1,c :: l=>if(stL (c :: l)).2=0 then false else(chars_Legal.ok (stL (c :: l)).1 && lO k ((c :: l).drop (stL (c :: l)).2))
theorem st_wid (l:List UInt8):(stL l).2≤l.length:=by
  cases l with
  | nil=>simp [stL]
  | cons b l=>exact stL_wid b l
theorem cO_fuel (k:Nat):∀ k' l,l.length≤k→l.length≤k'→cO k l=cO k' l:=by
  induction k with
  | zero=>
    intro k' l h h'
    cases l with
    | nil=>cases k' <;> rfl
    | cons c l=>simp at h
  | succ k ih=>
    intro k' l h h'
    cases l with
    | nil=>cases k' <;> rfl
    | cons c l=>
      cases k' with
      | zero=>simp at h'
      | succ k'=>
        rw [cO,cO]
        by_cases g:(stL (c :: l)).2=0
        · rw [if_pos g,if_pos g]
        · rw [if_neg g,if_neg g,ih k']
          · rw [List.length_drop];simp only [List.length_cons] at h ⊢;omega
          · rw [List.length_drop];simp only [List.length_cons] at h' ⊢;omega
theorem lO_fuel (k:Nat):∀ k' l,l.length≤k→l.length≤k'→lO k l=lO k' l:=by
  induction k with
  | zero=>
    intro k' l h h'
    cases l with
    | nil=>cases k' <;> rfl
    | cons c l=>simp at h
  | succ k ih=>
    intro k' l h h'
    cases l with
    | nil=>cases k' <;> rfl
    | cons c l=>
      cases k' with
      | zero=>simp at h'
      | succ k'=>
        rw [lO,lO]
        by_cases g:(stL (c :: l)).2=0
        · rw [if_pos g,if_pos g]
        · rw [if_neg g,if_neg g,ih k']
          · rw [List.length_drop];simp only [List.length_cons] at h ⊢;omega
          · rw [List.length_drop];simp only [List.length_cons] at h' ⊢;omega
theorem own_at (s:ByteArray) (pos:Nat) (h:pos<s.size):((Utf8.decode s pos).1=65533∧chars_Count.own s pos=false)↔(stL (s.toList.drop pos)).2=0:=by
  have hlen:(s.toList.drop pos).length=s.size-pos:=by rw [List.length_drop,length_toList]
  have hown:chars_Count.own s pos=(decide (3≤(s.toList.drop pos).length) && ((s.toList.drop pos).take 3 == [239,191,189])):=by
    unfold chars_Count.own
    rw [hlen,toList_extract,toList_extract,List.take_of_length_le (l:=s.toList) (by rw [length_toList];omega),List.drop_zero]
  rw [dec_at,hown]
  cases hl:s.toList.drop pos with
  | nil=>rw [hl] at hlen;simp at hlen;omega
  | cons c l=>
    rcases dec_same c l with⟨e,d⟩|⟨e,d,dn⟩
    · rw [d,e]
      refine⟨fun _=>rfl,fun _=>⟨rfl,?_⟩⟩
      rw [Bool.and_eq_false_iff]
      by_cases g:(List.take 3 (c :: l) == [239,191,189])=true
      · exfalso
        have g':List.take 3 (c :: l) = [239,191,189]:=by simpa using g
        have:∃ t,c :: l = [239,191,189]++t:=⟨(c :: l).drop 3,by rw [← g',List.take_append_drop]⟩
        obtain⟨t,ht⟩:=this
        rw [ht] at e
        have h3:(stL [239,191,189]).2=3:=by decide
        rw [stL_more _ t (by rw [h3];decide),h3] at e
        exact absurd e (by decide)
      · right;simpa using g
    · rw [d]
      refine⟨fun ⟨h1,h2⟩=>?_,fun h0=>absurd h0 e⟩
      exfalso
      have hcases:=dn
      have key:c.toNat=239 ∧ ∃ x y t,l=x :: y :: t∧x.toNat=191∧y.toNat=189:=by
        have hc:=c.toNat_lt
        rw [stL] at h1 e
        by_cases c1:c.toNat<128
        · rw [if_pos c1] at h1;simp at h1;omega
        · rw [if_neg c1] at h1 e
          by_cases c2:c.toNat<192
          · rw [if_pos c2] at h1;simp at h1
          · rw [if_neg c2] at h1 e
            by_cases c3:c.toNat<224
            · rw [if_pos c3] at h1 e
              exfalso
              rcases seqL_cases l 1 (c.toNat-192) 128 with q|⟨r,hr,q⟩
              · rw [q] at h1;simp at h1
              · rw [q] at h1
                cases l with
                | nil=>simp [tailL] at hr
                | cons x l=>
                  have hx:=x.toNat_lt
                  rw [tailL] at hr
                  split at hr
                  · have ht:tailL l 0 (64*(c.toNat-192)+(x.toNat-128))=some (64*(c.toNat-192)+(x.toNat-128)):=by cases l <;> rfl
                    rw [ht] at hr
                    have:=Option.some.inj hr
                    simp only at h1
                    omega
                  · simp at hr
            · rw [if_neg c3] at h1 e
              by_cases c4:c.toNat<240
              · rw [if_pos c4] at h1 e
                rcases seqL_cases l 2 (c.toNat-224) 2048 with q|⟨r,hr,q⟩
                · rw [q] at h1;simp at h1
                · rw [q] at h1
                  match l with
                  | []=>simp [tailL] at hr
                  | [x]=>rw [tailL_short _ _ _ (by simp)] at hr;simp at hr
                  | x :: y :: t=>
                    have hx:=x.toNat_lt
                    have hy:=y.toNat_lt
                    rw [tailL] at hr
                    split at hr
                    · rw [tailL] at hr
                      split at hr
                      · have ht:∀ v,tailL t 0 v=some v:=fun v=>by cases t <;> rfl
                        rw [ht] at hr
                        have:=Option.some.inj hr
                        simp only at h1
                        exact⟨by omega,x,y,t,rfl,by omega,by omega⟩
                      · simp at hr
                    · simp at hr
              · rw [if_neg c4] at h1 e
                exfalso
                by_cases c5:c.toNat<248
                · rw [if_pos c5] at h1 e
                  have:seqL l 3 (c.toNat-240) 65536=(0,0)∨65536≤(seqL l 3 (c.toNat-240) 65536).1:=by
                    unfold seqL
                    cases tailL l 3 (c.toNat-240) with
                    | none=>exact .inl rfl
                    | some r=>
                      simp only [finL]
                      split
                      · exact .inl rfl
                      · right;simp only;omega
                  rcases this with q|q
                  · rw [q] at h1;simp at h1
                  · omega
                · rw [if_neg c5] at h1;simp at h1
      obtain⟨k0,x,y,t,rfl,kx,ky⟩:=key
      have e0:c=239:=UInt8.toNat_inj.mp (by rw [k0];rfl)
      have e1:x=191:=UInt8.toNat_inj.mp (by rw [kx];rfl)
      have e2:y=189:=UInt8.toNat_inj.mp (by rw [ky];rfl)
      subst e0 e1 e2
      simp at h2
theorem dec_good (s:ByteArray) (pos:Nat) (c:UInt8) (l:List UInt8) (h:s.toList.drop pos=c :: l) (g:¬ (stL (c :: l)).2=0):Utf8.decode s pos=stL (c :: l):=by
  rw [dec_at,h]
  rcases dec_same c l with⟨e,_⟩|⟨_,d,_⟩
  · exact absurd e g
  · exact d
theorem dec_bad (s:ByteArray) (pos:Nat) (c:UInt8) (l:List UInt8) (h:s.toList.drop pos=c :: l) (g:(stL (c :: l)).2=0):Utf8.decode s pos=(65533,1):=by
  rw [dec_at,h]
  rcases dec_same c l with⟨_,d⟩|⟨e,_,_⟩
  · exact d
  · exact absurd g e
theorem drop_nil (s:ByteArray) (pos:Nat) (h:s.toList.drop pos = []):¬ pos<s.size:=by
  have:=congrArg List.length h
  rw [List.length_drop,length_toList] at this
  simp at this
  omega
theorem drop_cons (s:ByteArray) (pos:Nat) (c:UInt8) (l:List UInt8) (h:s.toList.drop pos=c :: l):pos<s.size∧l.length+1=s.size-pos:=by
  have:=congrArg List.length h
  rw [List.length_drop,length_toList] at this
  simp at this
  omega
theorem g_cO (s:ByteArray) (fuel:Nat):∀ pos n,chars_Count.g s fuel pos (n:Nat)=cR n (cO fuel (s.toList.drop pos)):=by
  induction fuel with
  | zero=>intro pos n;rfl
  | succ k ih=>
    intro pos n
    cases hl:s.toList.drop pos with
    | nil=>rw [chars_Count.g,if_neg (drop_nil s pos hl),cO];rfl
    | cons c l=>
      obtain⟨hp,_⟩:=drop_cons s pos c l hl
      rw [chars_Count.g,if_pos hp,cO]
      by_cases g:(stL (c :: l)).2=0
      · rw [if_pos ((own_at s pos hp).mpr (by rw [hl];exact g)),if_pos g]
        rfl
      · rw [if_neg (fun h=>g (by have:=(own_at s pos hp).mp h;rwa [hl] at this)),if_neg g,dec_good s pos c l hl g]
        have:=ih (pos+(stL (c :: l)).2) (n+1)
        rw [← List.drop_drop,hl] at this
        rw [show((n:Nat):Int)+1=((n+1:Nat):Int) by omega,this]
        cases cO k ((c :: l).drop (stL (c :: l)).2) with
        | none=>rfl
        | some m=>simp only [cR,Option.map_some];rw [show n+1+m=n+(m+1) by omega]
theorem count_eq (s:ByteArray) (h:s.size≤9007199254740992):chars_Count.f s=some (cR 0 (cO s.size s.toList)):=by
  have:=g_cO s s.size 0 0
  rw [List.drop_zero] at this
  rw [chars_Count.f,if_pos h]
  exact congrArg some this
theorem valid_eq (s:ByteArray) (h:s.size≤9007199254740992):chars_Valid.f s=some (cO s.size s.toList).isSome:=by
  unfold chars_Valid.f
  rw [count_eq s h,Option.bind_some]
  cases cO s.size s.toList <;> rfl
theorem g_lO (s:ByteArray) (fuel:Nat):∀ pos,(chars_Legal.g s fuel pos && (cO fuel (s.toList.drop pos)).isSome)=lO fuel (s.toList.drop pos):=by
  have hok:chars_Legal.ok (65533:Nat)=true:=by decide
  induction fuel with
  | zero=>intro pos;rfl
  | succ k ih=>
    intro pos
    cases hl:s.toList.drop pos with
    | nil=>rw [chars_Legal.g,if_neg (drop_nil s pos hl),cO,lO];rfl
    | cons c l=>
      obtain⟨hp,_⟩:=drop_cons s pos c l hl
      rw [chars_Legal.g,if_pos hp,cO,lO]
      by_cases g:(stL (c :: l)).2=0
      · rw [if_pos g,if_pos g,Option.isSome_none,Bool.and_false]
      · rw [if_neg g,if_neg g,dec_good s pos c l hl g,Option.isSome_map]
        have:=ih (pos+(stL (c :: l)).2)
        rw [← List.drop_drop,hl] at this
        cases hk:chars_Legal.ok (((stL (c :: l)).1:Nat):Int)
        · rw [if_pos rfl];rfl
        · rw [if_neg (by decide),this,Bool.true_and]
theorem legal_eq (s:ByteArray) (h:s.size≤9007199254740992):chars_Legal.f s=some (lO s.size s.toList):=by
  have:=g_lO s s.size 0
  rw [List.drop_zero] at this
  rw [chars_Legal.f,if_pos h,← this]
  by_cases g:chars_Legal.g s s.size 0=true
  · rw [if_pos g,valid_eq s h,g,Bool.true_and]
  · rw [if_neg g]
    simp only [Bool.not_eq_true] at g
    rw [g,Bool.false_and]
theorem ext_list (s:ByteArray) (n:Nat):(s.extract n s.size).toList=s.toList.drop n:=by
  rw [toList_extract,List.take_of_length_le (by rw [length_toList];omega)]
theorem char_ok (c:Nat) (h:c≤1114111):stowageref3_Char.f (c:Int)=some (chars_Legal.ok (c:Int)):=by
  unfold stowageref3_Char.f chars_Legal.ok
  (repeat' split) <;> (congr 1;symm;first|(rw [decide_eq_true_eq];omega)|(rw [decide_eq_false_iff_not];omega)|(rw [decide_eq_true (by omega),decide_eq_true (by omega)]))
theorem st_max (b:UInt8) (l:List UInt8):(stL (b :: l)).1≤1114111:=by
  have hf:∀ v m n,(finL v m n).1≤1114111:=by
    intro v m n
    unfold finL
    split
    · simp
    · simp only;omega
  have hs:∀ l j v m,(seqL l j v m).1≤1114111:=by
    intro l j v m
    unfold seqL
    cases tailL l j v with
    | none=>simp
    | some r=>exact hf _ _ _
  have hb:=b.toNat_lt
  rw [stL]
  (repeat' split) <;> first|exact hs _ _ _ _|(simp only;omega)
theorem rlegal_l0 (fuel:Nat):∀ (s:ByteArray),s.size≤fuel→s.size≤1000000000000000→Ev (fun k=>stowageref3_Legal.l0 k s) (lO fuel s.toList):=by
  induction fuel with
  | zero=>
    intro s h hn
    exact Ev.step (f:=fun _=>some true) (fun k=>by rw [stowageref3_Legal.l0,if_neg (by omega)]) (Ev.now _)
  | succ f ih=>
    intro s h hn
    cases hl:s.toList with
    | nil=>
      have hz:s.size=0:=by rw [← length_toList,hl];rfl
      exact Ev.step (f:=fun _=>some true) (fun k=>by rw [stowageref3_Legal.l0,if_neg (by omega)]) (Ev.now _)
    | cons c l=>
      have hz:s.size=l.length+1:=by rw [← length_toList,hl];rfl
      have hs:=step_ev s (by omega) c l hl
      have hw:=stL_wid c l
      rw [hl] at hs
      rw [lO]
      refine Ev.step (f:=fun k=>(stowageref3_Step.f k s).bind fun bt250=>(if bt250.2=0 then(some false) else((stowageref3_Char.f bt250.1).bind fun t252=>(if t252=true then(if 0≤bt250.2 then(if bt250.2≤(s.size:Int) then(stowageref3_Legal.l0 k (s.extract (bt250.2:Int).toNat s.size)) else(none)) else(none)) else(some false))))) (fun k=>by rw [stowageref3_Legal.l0,if_pos (by omega)]) (Ev.bind hs ?_)
      simp only [iP]
      by_cases g:(stL (c :: l)).2=0
      · rw [if_pos g]
        exact ev_pos (by omega) (Ev.now _)
      · rw [if_neg g]
        refine ev_neg (by omega) (ev_some (char_ok _ (st_max c l)) ?_)
        cases hk:chars_Legal.ok (((stL (c :: l)).1:Nat):Int)
        · exact ev_neg (by decide) (Ev.now _)
        · refine ev_pos rfl (ev_pos (by omega) (ev_pos (by omega) ?_))
          simp only [Int.toNat_natCast]
          have hz2:(s.extract (stL (c :: l)).2 s.size).size=s.size-(stL (c :: l)).2:=by simp
          have h':=ih (s.extract (stL (c :: l)).2 s.size) (by omega) (by omega)
          rw [ext_list,hl] at h'
          exact h'
theorem rlegal_ev (s:ByteArray) (h:s.size≤1000000000000000):Ev (fun k=>stowageref3_Legal.f k s) (lO s.size s.toList):=rlegal_l0 s.size s (Nat.le_refl _) h
def letB (c:UInt8):Bool:=decide ((65≤c.toNat∧c.toNat≤90)∨(97≤c.toNat∧c.toNat≤122)∨c.toNat=95)
def inB (c:UInt8):Bool:=letB c || decide ((48≤c.toNat∧c.toNat≤57)∨c.toNat=45∨c.toNat=46)
theorem byte_all {P:UInt8→Prop} (h:∀ n:Fin 256,P (UInt8.ofNat n.val)) (c:UInt8):P c:=by
  have:=h ⟨c.toNat,c.toNat_lt⟩
  rwa [UInt8.ofNat_toNat] at this
theorem le_a (c:UInt8):xml_letter.f (c.toNat:Int)=some (letB c):=byte_all (P:=fun c=>xml_letter.f (c.toNat:Int)=some (letB c)) (by decide +kernel) c
theorem in_a (c:UInt8):xml_inner.f (c.toNat:Int)=some (inB c):=byte_all (P:=fun c=>xml_inner.f (c.toNat:Int)=some (inB c)) (by decide +kernel) c
theorem le_r (c:UInt8):stowageref13_letter.f (c.toNat:Int)=some (letB c):=byte_all (P:=fun c=>stowageref13_letter.f (c.toNat:Int)=some (letB c)) (by decide +kernel) c
theorem in_r (c:UInt8):stowageref13_inner.f (c.toNat:Int)=some (inB c):=byte_all (P:=fun c=>stowageref13_inner.f (c.toNat:Int)=some (inB c)) (by decide +kernel) c
def nmB:List UInt8→Bool
  | []=>false
  | c :: l=>letB c && l.all inB
theorem xname_l0 (s:ByteArray) (hs:s.size≤1000000000000000) (l:List UInt8):∀ pre,pre ≠ []→s.toList=pre++l→Ev (fun k=>xml_Name.l0 k s (s.size:Int) (pre.length:Int)) (l.all inB):=by
  induction l with
  | nil=>
    intro pre hp h
    have e:=pre_end s pre h
    refine Ev.step (f:=fun _=>some (s.toList != [])) (fun k=>by rw [xml_Name.l0,if_neg (by omega)]) (ev_eq (Ev.now _) ?_)
    rw [h]
    cases pre with
    | nil=>exact absurd rfl hp
    | cons=>rfl
  | cons c l ih=>
    intro pre hp h
    obtain⟨hb,hl⟩:=bt_pre s pre l c h
    have hn:=pre_next pre c s.size hl (by omega)
    have h0:¬ ((pre.length:Int)=0):=by
      cases pre with
      | nil=>exact absurd rfl hp
      | cons=>simp;omega
    refine Ev.step (f:=fun k=>if inB c=true then xml_Name.l0 k s (s.size:Int) ((pre ++ [c]).length:Int) else some false) (fun k=>?_) ?_
    · rw [xml_Name.l0,if_pos (by omega),if_pos (by omega),if_pos (by omega),hb,in_a,Option.bind_some,hn,if_neg h0]
    · by_cases g:inB c=true
      · exact ev_pos g (ev_eq (ih _ (by simp) (pre_app s pre l c h)) (by rw [List.all_cons,g,Bool.true_and]))
      · exact ev_neg g (ev_eq (Ev.now _) (by rw [List.all_cons];simp [g]))
theorem let_in {c:UInt8} (h:letB c=true):inB c=true:=by unfold inB;rw [h];rfl
theorem xname_ev (s:ByteArray) (hs:s.size≤1000000000000000):Ev (fun k=>xml_Name.f k s) (nmB s.toList):=by
  show Ev (fun k=>xml_Name.l0 k s (s.size:Int) 0) _
  have hz:=length_toList s
  cases hl:s.toList with
  | nil=>
    rw [hl] at hz
    refine Ev.step (f:=fun _=>some (s.toList != [])) (fun k=>by rw [xml_Name.l0,if_neg (by simp at hz;omega)]) (ev_eq (Ev.now _) ?_)
    rw [hl]
    rfl
  | cons c l=>
    have h:s.toList = []++c :: l:=hl
    obtain⟨hb,hlt⟩:=bt_pre s [] l c h
    have hn:=pre_next [] c s.size hlt (by omega)
    simp only [List.length_nil] at hb hlt hn
    refine Ev.step (f:=fun k=>if inB c=true then(if letB c=true then xml_Name.l0 k s (s.size:Int) (([] ++ [c]:List UInt8).length:Int) else some false) else some false) (fun k=>?_) ?_
    · rw [xml_Name.l0,if_pos (by omega),if_pos (by omega),if_pos (by omega)]
      rw [show bt s 0=(c.toNat:Int) from hb,in_a,Option.bind_some,if_pos rfl,le_a,Option.bind_some]
      rw [show wrap64 (0+1)=(([] ++ [c]:List UInt8).length:Int) from hn]
    · by_cases g:letB c=true
      · exact ev_pos (let_in g) (ev_pos g (ev_eq (xname_l0 s hs l _ (by simp) (pre_app s [] l c h)) (by rw [nmB,g,Bool.true_and])))
      · by_cases g2:inB c=true
        · exact ev_pos g2 (ev_neg g (ev_eq (Ev.now _) (by rw [nmB];simp [g])))
        · exact ev_neg g2 (ev_eq (Ev.now _) (by rw [nmB];simp [g]))
def hdB:List UInt8→Bool
  | []=>false
  | c :: _=>letB c
theorem rname_l0 (s:ByteArray) (hs:s.size≤1000000000000000) (l:List UInt8):∀ pre,s.toList=pre++l→Ev (fun k=>stowageref13_Name.l0 k s (pre.length:Int)) (l.all inB && hdB s.toList):=by
  induction l with
  | nil=>
    intro pre h
    have e:=pre_end s pre h
    refine Ev.step (f:=fun _=>some (hdB s.toList)) (fun k=>?_) (ev_eq (Ev.now _) (by simp))
    rw [stowageref13_Name.l0,if_neg (by omega)]
    cases hl:s.toList with
    | nil=>
      have hz:=length_toList s
      rw [hl] at hz
      rw [if_neg (by simp at hz;omega)]
      rfl
    | cons c l=>
      obtain⟨hb,hlt⟩:=bt_pre s [] l c hl
      simp only [List.length_nil] at hb hlt
      rw [if_pos (by omega),if_pos (by omega),show bt s 0=(c.toNat:Int) from hb,le_r]
      rfl
  | cons c l ih=>
    intro pre h
    obtain⟨hb,hl⟩:=bt_pre s pre l c h
    have hn:=pre_next pre c s.size hl (by omega)
    refine Ev.step (f:=fun k=>if inB c=true then stowageref13_Name.l0 k s ((pre ++ [c]).length:Int) else some false) (fun k=>?_) ?_
    · rw [stowageref13_Name.l0,if_pos (by omega),if_pos (by omega),hb,in_r,Option.bind_some,hn]
    · by_cases g:inB c=true
      · exact ev_pos g (ev_eq (ih _ (pre_app s pre l c h)) (by rw [List.all_cons,g,Bool.true_and]))
      · exact ev_neg g (ev_eq (Ev.now _) (by rw [List.all_cons];simp [g]))
theorem rname_ev (s:ByteArray) (hs:s.size≤1000000000000000):Ev (fun k=>stowageref13_Name.f k s) (nmB s.toList):=by
  refine ev_eq (rname_l0 s hs s.toList [] rfl) ?_
  cases s.toList with
  | nil=>rfl
  | cons c l=>
    rw [List.all_cons,hdB,nmB]
    cases g:letB c
    · simp
    · rw [let_in g];simp
theorem escape_s (s:ByteArray):xml_Escape.s s=B (s.toList.flatMap xml_Escape.e):=by
  rw [ByteArray.toList_eq]
  rfl
theorem escape_size (s:ByteArray):(B (s.toList.flatMap xml_Escape.e)).size≤6*s.size:=by
  rw [B_size,← length_toList]
  exact xml_Escape.flat_len _
theorem esc_a (s:ByteArray) (hs:s.size≤1000000000):xml_Escape.f s=some (B (s.toList.flatMap xml_Escape.e)):=by
  rw [xml_Escape.f,if_pos (by omega),escape_s]
theorem esc_key:∀ c:UInt8,((c.toNat:Int)=38↔c=38)∧((c.toNat:Int)=60↔c=60)∧((c.toNat:Int)=62↔c=62)∧((c.toNat:Int)=34↔c=34)∧((c.toNat:Int)=13↔c=13):=
  byte_all (P:=fun c=>((c.toNat:Int)=38↔c=38)∧((c.toNat:Int)=60↔c=60)∧((c.toNat:Int)=62↔c=62)∧((c.toNat:Int)=34↔c=34)∧((c.toNat:Int)=13↔c=13)) (by decide +kernel)
theorem resc_l0 (s:ByteArray) (hs:s.size≤1000000000) (l:List UInt8):∀ pre a,s.toList=pre++l→a.length≤6*pre.length→Ev (fun k=>stowageref13_Escape.l0 k s (B a) (pre.length:Int)) (B (a++l.flatMap xml_Escape.e)):=by
  induction l with
  | nil=>
    intro pre a h _
    have e:=pre_end s pre h
    exact Ev.step (f:=fun _=>some (B a)) (fun k=>by rw [stowageref13_Escape.l0,if_neg (by omega)]) (ev_eq (Ev.now _) (by simp))
  | cons c l ih=>
    intro pre a h ha
    obtain⟨hb,hl⟩:=bt_pre s pre l c h
    have hn:=pre_next pre c s.size hl (by omega)
    obtain⟨k1,k2,k3,k4,k5⟩:=esc_key c
    refine Ev.step (f:=fun k=>stowageref13_Escape.l0 k s (B (a++xml_Escape.e c)) ((pre ++ [c]).length:Int)) (fun k=>?_) ?_
    · rw [stowageref13_Escape.l0,if_pos (by omega),if_pos (by omega),hb]
      have hx:s.extract ((pre.length:Int)).toNat (wrap64 ((pre.length:Int)+1)).toNat=B [c]:=by
        rw [hn]
        apply toList_inj
        rw [toList_extract,B_toList,h]
        simp only [Int.toNat_natCast,List.length_append,List.length_singleton]
        rw [List.take_append,List.take_of_length_le (by omega),show pre.length+1-pre.length=1 from by omega,List.drop_append,List.drop_eq_nil_of_le (Nat.le_refl _)]
        simp
      have hz:=B_size a
      have hA (v:List UInt8):(⟨v.toArray⟩ : ByteArray)=B v:=rfl
      unfold xml_Escape.e
      by_cases g1:c=38
      · rw [if_pos (k1.2 g1),if_pos (by omega),if_pos g1,← B_append,hn];rfl
      · rw [if_neg (fun x=>g1 (k1.1 x)),if_neg g1]
        by_cases g2:c=60
        · rw [if_pos (k2.2 g2),if_pos (by omega),if_pos g2,← B_append,hn];rfl
        · rw [if_neg (fun x=>g2 (k2.1 x)),if_neg g2]
          by_cases g3:c=62
          · rw [if_pos (k3.2 g3),if_pos (by omega),if_pos g3,← B_append,hn];rfl
          · rw [if_neg (fun x=>g3 (k3.1 x)),if_neg g3]
            by_cases g4:c=34
            · rw [if_pos (k4.2 g4),if_pos (by omega),if_pos g4,← B_append,hn];rfl
            · rw [if_neg (fun x=>g4 (k4.1 x)),if_neg g4]
              by_cases g5:c=13
              · rw [if_pos (k5.2 g5),if_pos (by omega),if_pos g5,← B_append,hn];rfl
              · rw [if_neg (fun x=>g5 (k5.1 x)),if_neg g5,if_pos (by rw [hn,List.length_append];simp;omega),if_pos (by rw [hn,List.length_append];simp;omega),hx,if_pos (by rw [B_size,B_size];simp;omega),← B_append,hn]
    · refine ev_eq (ih _ _ (pre_app s pre l c h) ?_) (by rw [List.flatMap_cons,List.append_assoc])
      have:=xml_Escape.e_len c
      simp only [List.length_append,List.length_singleton]
      omega
theorem resc_ev (s:ByteArray) (hs:s.size≤1000000000):Ev (fun k=>stowageref13_Escape.f k s) (B (s.toList.flatMap xml_Escape.e)):=resc_l0 s hs s.toList [] [] rfl (by simp)
def repR (old new s:List UInt8):List UInt8:=Lib.replaceK old new (Lib.count s old) s
theorem rep_all (old new s:List UInt8) (h:(old == new)=false):Lib.replaceAll s old new=repR old new s:=by
  unfold Lib.replaceAll Lib.replace Lib.replaceNum repR
  rw [h,if_neg Bool.false_ne_true,if_pos (.inl (by decide))]
theorem rep_hit (old new:List UInt8) (hne:old ≠ []) (s:List UInt8) (i:Nat) (h:Lib.index s old=i):repR old new s=s.take i++new++repR old new (s.drop (i+old.length)):=by
  unfold repR
  rw [Lib.count_hit hne h,Nat.add_comm 1,Lib.replaceK_hit _ _ _ _ _ h]
theorem rep_miss (old new s:List UInt8) (h:Lib.index s old = -1):repR old new s=s:=by
  unfold repR
  rw [Lib.count_miss h]
  rfl
theorem rep_nil (old new:List UInt8) (hne:old ≠ []):repR old new [] = []:=by
  refine rep_miss old new [] ?_
  cases old with
  | nil=>exact absurd rfl hne
  | cons a t=>rfl
theorem rep_pre (old new:List UInt8) (hne:old ≠ []) (c:UInt8) (r:List UInt8) (h:old.isPrefixOf (c :: r)=true):repR old new (c :: r)=new++repR old new ((c :: r).drop old.length):=by
  have hi:Lib.index (c :: r) old=(0:Nat):=by rw [Lib.index,if_pos h];rfl
  rw [rep_hit old new hne _ 0 hi,Nat.zero_add]
  rfl
theorem rep_not (old new:List UInt8) (hne:old ≠ []) (c:UInt8) (r:List UInt8) (h:old.isPrefixOf (c :: r)=false):repR old new (c :: r)=c :: repR old new r:=by
  rcases Lib.index_spec r old with⟨hm,_⟩|⟨i,hi,_⟩
  · have hi:Lib.index (c :: r) old = -1:=by rw [Lib.index,h,if_neg Bool.false_ne_true,hm];rfl
    rw [rep_miss old new _ hi,rep_miss old new _ hm]
  · have hi2:Lib.index (c :: r) old=((i+1:Nat):Int):=by
      rw [Lib.index,h,if_neg Bool.false_ne_true,hi,if_neg (by rw [beq_iff_eq];omega)];omega
    rw [rep_hit old new hne _ _ hi2,rep_hit old new hne _ _ hi,show i+1+old.length=(i+old.length)+1 by omega]
    rfl
def nrm:List UInt8→List UInt8
  | []=>[]
  | [c]=>[if c=13 then 10 else c]
  | c :: d :: r=>if c=13 then(if d=10 then 10 :: nrm r else 10 :: nrm (d :: r)) else c :: nrm (d :: r)
def n1 (l:List UInt8):List UInt8:=repR [13,10] [10] l
def n2 (l:List UInt8):List UInt8:=repR [13] [10] l
theorem n2_cons (c:UInt8) (r:List UInt8):n2 (c :: r)=(if c=13 then 10 else c) :: n2 r:=by
  by_cases h:c=13
  · subst h
    exact rep_pre [13] [10] (by simp) 13 r (by simp [List.isPrefixOf])
  · rw [if_neg h]
    exact rep_not [13] [10] (by simp) c r (by simp [List.isPrefixOf];exact fun e=>h e.symm)
theorem n2_nil:n2 [] = []:=rep_nil _ _ (by simp)
theorem n1_nil:n1 [] = []:=rep_nil _ _ (by simp)
theorem n1_one (c:UInt8):n1 [c] = [c]:=by
  have:n1 [c]=c :: n1 []:=rep_not [13,10] [10] (by simp) c [] (by simp [List.isPrefixOf])
  rw [this,n1_nil]
theorem n1_two (r:List UInt8):n1 (13 :: 10 :: r)=10 :: n1 r:=rep_pre [13,10] [10] (by simp) 13 (10 :: r) (by simp [List.isPrefixOf])
theorem n1_not (c d:UInt8) (r:List UInt8) (h:¬ (c=13∧d=10)):n1 (c :: d :: r)=c :: n1 (d :: r):=by
  refine rep_not [13,10] [10] (by simp) c (d :: r) ?_
  simp only [List.isPrefixOf,Bool.and_true]
  rw [Bool.and_eq_false_iff]
  by_cases h1:c=13
  · right;rw [beq_eq_false_iff_ne];exact fun e=>h ⟨h1,e.symm⟩
  · left;rw [beq_eq_false_iff_ne];exact fun e=>h1 e.symm
theorem nrm_eq:∀ l,n2 (n1 l)=nrm l
  | []=>by rw [n1_nil,n2_nil,nrm]
  | [c]=>by rw [n1_one,n2_cons,n2_nil,nrm]
  | c :: d :: r=>by
    rw [nrm]
    by_cases h:c=13
    · subst h
      rw [if_pos rfl]
      by_cases h2:d=10
      · subst h2
        rw [if_pos rfl,n1_two,n2_cons,nrm_eq r]
        rfl
      · rw [if_neg h2,n1_not 13 d r (fun q=>h2 q.2),n2_cons,nrm_eq (d :: r)]
        rfl
    · rw [if_neg h,n1_not c d r (fun q=>h q.1),n2_cons,nrm_eq (d :: r),if_neg h]
theorem nrm_len:∀ l,(nrm l).length≤l.length
  | []=>by simp [nrm]
  | [c]=>by simp [nrm]
  | c :: d :: r=>by
    have h1:=nrm_len r
    have h2:=nrm_len (d :: r)
    rw [nrm]
    simp only [List.length_cons] at h2 ⊢
    split
    · split
      · simp only [List.length_cons];omega
      · simp only [List.length_cons];omega
    · simp only [List.length_cons];omega
theorem nrm_cons (c:UInt8) (l:List UInt8) (h:c≠13):nrm (c :: l)=c :: nrm l:=by
  cases l with
  | nil=>simp [nrm,h]
  | cons d r=>rw [nrm,if_neg h]
theorem nrm_cr (l:List UInt8) (h:l.head? ≠ some 10):nrm (13 :: l)=10 :: nrm l:=by
  cases l with
  | nil=>simp [nrm]
  | cons d r=>rw [nrm,if_pos rfl,if_neg (fun e=>h (by rw [e];rfl))]
theorem nrm_crlf (l:List UInt8):nrm (13 :: 10 :: l)=10 :: nrm l:=by rw [nrm,if_pos rfl,if_pos rfl]
theorem ofN (n:Nat) (h:n<256):(UInt8.ofNat n).toNat=n:=by rw [UInt8.toNat_ofNat'];omega
def encL (c:Nat):List UInt8:=
  if c<128 then [UInt8.ofNat c] else if c<2048 then [UInt8.ofNat (192+c / 64),UInt8.ofNat (128+c % 64)] else if c<65536 then [UInt8.ofNat (224+c / 4096),UInt8.ofNat (128+c / 64 % 64),UInt8.ofNat (128+c % 64)] else [UInt8.ofNat (240+c / 262144),UInt8.ofNat (128+c / 4096 % 64),UInt8.ofNat (128+c / 64 % 64),UInt8.ofNat (128+c % 64)]
def okN (n:Nat):Prop:=n<55296∨(57344≤n∧n≤1114111)
instance (n:Nat):Decidable (okN n):=inferInstanceAs (Decidable (_∨_))
theorem enc_ok (n:Nat) (h:okN n):Utf8.encode (n:Int)=B (encL n):=by
  have hv:Utf8.valid (n:Int)=true:=by
    unfold Utf8.valid
    rcases h with h|⟨h1,h2⟩
    · simp;omega
    · simp;omega
  unfold Utf8.encode encL
  simp only [hv,if_true,Int.toNat_natCast]
  split
  · rfl
  · split
    · rfl
    · split <;> rfl
theorem enc_bad (n:Nat) (h:¬ okN n):Utf8.encode (n:Int)=B [239,191,189]:=by
  have hv:Utf8.valid (n:Int)=false:=by
    unfold okN at h
    unfold Utf8.valid
    simp
    omega
  unfold Utf8.encode
  simp only [hv,Bool.false_eq_true,if_false]
  rfl
theorem legal_rep:chars_Legal.f (B [239,191,189])=some true:=by
  rw [legal_eq _ (by decide),B_toList]
  decide
theorem st_enc (n:Nat) (h:okN n):stL (encL n)=(n,(encL n).length):=by
  have hmax:n≤1114111:=by rcases h with h|h <;> omega
  unfold encL
  by_cases c1:n<128
  · rw [if_pos c1,stL,ofN n (by omega),if_pos c1];rfl
  rw [if_neg c1]
  by_cases c2:n<2048
  · rw [if_pos c2,stL,ofN _ (by omega),if_neg (by omega),if_neg (by omega),if_pos (by omega),seqL,tailL,ofN _ (by omega),if_pos (by omega),tailL]
    dsimp only
    rw [finL,if_neg (by omega),show 64*(192+n / 64-192)+(128+n % 64-128)=n by omega]
    rfl
  rw [if_neg c2]
  by_cases c3:n<65536
  · rw [if_pos c3,stL,ofN _ (by omega),if_neg (by omega),if_neg (by omega),if_neg (by omega),if_pos (by omega),seqL,tailL,ofN _ (by omega),if_pos (by omega),tailL,ofN _ (by omega),if_pos (by omega),tailL]
    dsimp only
    have e:64*(64*(224+n / 4096-224)+(128+n / 64 % 64-128))+(128+n % 64-128)=n:=by omega
    rw [e,finL,if_neg (by rcases h with h|h <;> omega)]
    rfl
  rw [if_neg c3]
  rw [stL,ofN _ (by omega),if_neg (by omega),if_neg (by omega),if_neg (by omega),if_neg (by omega),if_pos (by omega),seqL,tailL,ofN _ (by omega),if_pos (by omega),tailL,ofN _ (by omega),if_pos (by omega),tailL,ofN _ (by omega),if_pos (by omega),tailL]
  dsimp only
  have e:64*(64*(64*(240+n / 262144-240)+(128+n / 4096 % 64-128))+(128+n / 64 % 64-128))+(128+n % 64-128)=n:=by omega
  rw [e,finL,if_neg (by rcases h with h|h <;> omega)]
  rfl
theorem enc_len (n:Nat):1≤(encL n).length∧(encL n).length≤4:=by
  unfold encL
  split
  · simp
  · split
    · simp
    · split <;> simp
theorem legal_enc (n:Nat) (h:okN n):chars_Legal.f (Utf8.encode (n:Int))=some (chars_Legal.ok (n:Int)):=by
  have hl:=enc_len n
  rw [enc_ok n h,legal_eq _ (by rw [B_size];omega),B_toList,B_size]
  congr 1
  have hs:=st_enc n h
  cases he:encL n with
  | nil=>rw [he] at hl;simp at hl
  | cons c l=>
    rw [he] at hs hl
    rw [List.length_cons,lO,hs,if_neg (by simp),List.length_cons,List.drop_of_length_le (by simp)]
    have:lO l.length []=true:=by cases l.length <;> rfl
    rw [this,Bool.and_true]
def chN (n:Nat):Bool:=decide (n≤1114111) && chars_Legal.ok (n:Int)
theorem ch_ok (n:Nat) (h:chN n=true):okN n:=by
  unfold chN at h
  rw [Bool.and_eq_true,decide_eq_true_eq] at h
  have h2:=of_decide_eq_true h.2
  unfold okN
  omega
theorem fin_ev (n:Nat):xml_number.fin (n:Int)=some ((n:Int),chN n):=by
  unfold xml_number.fin
  by_cases c1:n≤1114111
  · rw [if_pos (by omega)]
    by_cases c2:okN n
    · rw [legal_enc n c2,Option.bind_some]
      have hc:chN n=chars_Legal.ok (n:Int):=by rw [chN,decide_eq_true c1,Bool.true_and]
      rw [hc]
      cases hk:chars_Legal.ok (n:Int) with
      | false=>
        rw [if_neg Bool.false_ne_true]
        have:¬ n=65533:=by rintro rfl;simp [chars_Legal.ok] at hk
        rw [show((n:Int) == 65533)=false by rw [beq_eq_false_iff_ne];omega]
      | true=>
        rw [if_pos rfl]
        split
        · rename_i he
          rw [enc_ok n c2,B_toList] at he
          have hs:=st_enc n c2
          rw [he] at hs
          have hs1:=congrArg Prod.fst hs
          have e3:(stL [239,191,189]).1=65533:=by decide
          rw [e3] at hs1
          rw [show((n:Int) == 65533)=true by rw [beq_iff_eq];simp only at hs1;omega]
        · rfl
    · rw [enc_bad n c2,legal_rep,Option.bind_some,if_pos rfl,if_pos (B_toList _)]
      have hc:chN n=false:=by
        cases hk:chN n with
        | false=>rfl
        | true=>exact absurd (ch_ok n hk) c2
      have:¬ n=65533:=by rintro rfl;exact c2 (by decide)
      rw [hc,show((n:Int) == 65533)=false by rw [beq_eq_false_iff_ne];omega]
  · rw [if_neg (by omega),chN,decide_eq_false c1,Bool.false_and,show((n:Int) == 65533)=false by rw [beq_eq_false_iff_ne];omega]
theorem rchar_ev (n:Nat):stowageref3_Char.f (n:Int)=some (chN n):=by
  by_cases c:n≤1114111
  · rw [char_ok n c,chN,decide_eq_true c,Bool.true_and]
  · rw [chN,decide_eq_false c,Bool.false_and]
    unfold stowageref3_Char.f
    rw [if_neg (by omega),if_neg (by omega),if_neg (by omega),if_pos (by omega),if_neg (by omega),if_pos (by omega),if_neg (by omega),if_pos (by omega),decide_eq_false (by omega)]
theorem rutf8_ev (n:Nat) (h:okN n):stowageref13_utf8.f (n:Int)=some (B (encL n)):=by
  have hmax:n≤1114111:=by rcases h with h|h <;> omega
  have tm:∀ a:Nat,Int.tmod (a:Int) 64=((a % 64:Nat):Int):=fun a=>by rw [Int.tmod_eq_emod_of_nonneg (by omega)];rfl
  have hw:∀ m:Nat,m≤2000000→wrap64 (m:Int)=(m:Int):=fun m hm=>w64 (by omega) (by omega)
  have hb:∀ m:Nat,m<256→((m:Int) % 256)=(m:Int):=fun m hm=>by omega
  have d64:Int.tdiv (n:Int) 64=((n / 64:Nat):Int):=by rw [Int.tdiv_eq_ediv_of_nonneg (by omega)];rfl
  have d12:Int.tdiv (n:Int) 4096=((n / 4096:Nat):Int):=by rw [Int.tdiv_eq_ediv_of_nonneg (by omega)];rfl
  have d18:Int.tdiv (n:Int) 262144=((n / 262144:Nat):Int):=by rw [Int.tdiv_eq_ediv_of_nonneg (by omega)];rfl
  unfold stowageref13_utf8.f encL
  by_cases c1:n<128
  · rw [if_pos (by omega),if_pos c1,hb n (by omega)];rfl
  rw [if_neg (by omega),if_neg c1]
  by_cases c2:n<2048
  · rw [if_pos (by omega),if_pos c2,d64,tm,hw _ (by omega),show(192:Int)+((n / 64:Nat):Int)=((192+n / 64:Nat):Int) by omega,show(128:Int)+((n % 64:Nat):Int)=((128+n % 64:Nat):Int) by omega,hw _ (by omega),hw _ (by omega),hb _ (by omega),hb _ (by omega)]
    rfl
  rw [if_neg (by omega),if_neg c2]
  by_cases c3:n<65536
  · rw [if_pos (by omega),if_pos c3,d64,d12,hw _ (by omega),hw _ (by omega),tm,tm,show(224:Int)+((n / 4096:Nat):Int)=((224+n / 4096:Nat):Int) by omega,show(128:Int)+((n / 64 % 64:Nat):Int)=((128+n / 64 % 64:Nat):Int) by omega,show(128:Int)+((n % 64:Nat):Int)=((128+n % 64:Nat):Int) by omega,hw _ (by omega),hw _ (by omega),hw _ (by omega),hb _ (by omega),hb _ (by omega),hb _ (by omega)]
    rfl
  rw [if_neg (by omega),if_neg c3]
  rw [d64,d12,d18,hw _ (by omega),hw _ (by omega),hw _ (by omega),tm,tm,tm,show(240:Int)+((n / 262144:Nat):Int)=((240+n / 262144:Nat):Int) by omega,show(128:Int)+((n / 4096 % 64:Nat):Int)=((128+n / 4096 % 64:Nat):Int) by omega,show(128:Int)+((n / 64 % 64:Nat):Int)=((128+n / 64 % 64:Nat):Int) by omega,show(128:Int)+((n % 64:Nat):Int)=((128+n % 64:Nat):Int) by omega,hw _ (by omega),hw _ (by omega),hw _ (by omega),hw _ (by omega),hb _ (by omega),hb _ (by omega),hb _ (by omega),hb _ (by omega)]
  rfl
def dgB (b:Nat) (c:UInt8):Option Nat:=if 48≤c.toNat∧c.toNat≤57 then some (c.toNat-48) else if b=16∧97≤c.toNat∧c.toNat≤102 then some (c.toNat-87) else if b=16∧65≤c.toNat∧c.toNat≤70 then some (c.toNat-55) else none
def nuB (b:Nat):Nat→List UInt8→Option Nat
  | n,[]=>some n
  | n,c :: l=>match dgB b c with|none=>none|some d=>nuB b (n*b+d) l
def rfB (b:Nat) (l:List UInt8):Option (List UInt8):=if l.length<1 then none else if 7<l.length then none else match nuB b 0 l with|none=>none|some n=>if chN n=true then some (encL n) else none
def nrB:List UInt8→Option (List UInt8)
  | 120 :: r=>rfB 16 r
  | l=>rfB 10 l
theorem nr_x (l:List UInt8):nrB (120 :: l)=rfB 16 l:=rfl
theorem nr_n (l:List UInt8) (h:l.head? ≠ some 120):nrB l=rfB 10 l:=by
  unfold nrB
  split
  · simp at h
  · rfl
def ndB:List UInt8→Option (List UInt8)
  | 35 :: r=>nrB r
  | _=>none
theorem nd_n (l:List UInt8) (h:l.head? ≠ some 35):ndB l=none:=by
  unfold ndB
  split
  · simp at h
  · rfl
def entB (l:List UInt8):Option (List UInt8):=
  if l = [97,109,112] then some [38] else if l = [108,116] then some [60] else if l = [103,116] then some [62] else if l = [113,117,111,116] then some [34] else if l = [97,112,111,115] then some [39] else ndB l
theorem dg_lt {b:Nat} {c:UInt8} {d:Nat} (hb:b=10∨b=16) (h:dgB b c=some d):d<b:=by
  unfold dgB at h
  split at h
  · cases h;omega
  · split at h
    · cases h;omega
    · split at h
      · cases h;omega
      · cases h
theorem dg_ascii {b:Nat} {c:UInt8} {d:Nat} (h:dgB b c=some d):c.toNat<128:=by
  unfold dgB at h
  split at h
  · omega
  · split at h
    · omega
    · split at h
      · omega
      · cases h
theorem w32 {n:Int} (h:-2000000000≤n) (h':n≤2000000000):wrap32 n=n:=by unfold wrap32;omega
theorem step_eq (b:Nat) (hb:b=10∨b=16) (n:Nat) (hn:n*b≤268435456) (c:UInt8):xml_number.step (b:Int) (n:Int) (c.toNat:Int)=(dgB b c).map fun d=>((n*b+d:Nat):Int):=by
  have hc:=c.toNat_lt
  have hm:(n:Int)*(b:Int)=((n*b:Nat):Int):=by rw [Int.natCast_mul]
  unfold xml_number.step dgB
  rw [hm,w32 (n:=((n*b:Nat):Int)) (by omega) (by omega),w32 (n:=((n*b:Nat):Int)+(c.toNat:Int)) (by omega) (by omega)]
  by_cases c1:48≤c.toNat∧c.toNat≤57
  · rw [if_pos (by omega),if_pos c1,w32 (by omega) (by omega),Option.map_some]
    congr 1
    omega
  · rw [if_neg (by omega),if_neg c1]
    by_cases c2:b=16∧97≤c.toNat∧c.toNat≤102
    · rw [if_pos (by omega),if_pos c2,w32 (n:=_-97) (by omega) (by omega),w32 (by omega) (by omega),Option.map_some]
      congr 1
      omega
    · rw [if_neg (by omega),if_neg c2]
      by_cases c3:b=16∧65≤c.toNat∧c.toNat≤70
      · rw [if_pos (by omega),if_pos c3,w32 (n:=_-65) (by omega) (by omega),w32 (by omega) (by omega),Option.map_some]
        congr 1
        omega
      · rw [if_neg (by omega),if_neg c3];rfl
theorem step_hi (b n c:Int) (h:128≤c):xml_number.step b n c=none:=by
  unfold xml_number.step
  rw [if_neg (by omega),if_neg (by omega),if_neg (by omega)]
theorem fin_lo {v m n:Nat} (hm:128≤m) (h:¬ (finL v m n).2=0):128≤(finL v m n).1:=by
  unfold finL at h ⊢
  split
  · rename_i c;rw [if_pos c] at h;simp at h
  · simp only;omega
theorem seq_lo {l:List UInt8} {j v m:Nat} (hm:128≤m) (h:¬ (seqL l j v m).2=0):128≤(seqL l j v m).1:=by
  unfold seqL at h ⊢
  split
  · rename_i c;simp [c] at h
  · rename_i c;simp only [c] at h;exact fin_lo hm h
theorem st_lo {c:UInt8} {l:List UInt8} (hc:128≤c.toNat) (h:¬ (stL (c :: l)).2=0):128≤(stL (c :: l)).1:=by
  rw [stL,if_neg (by omega)] at h ⊢
  split
  · rename_i k;rw [if_pos k] at h;simp at h
  · rename_i k;rw [if_neg k] at h
    split
    · rename_i k2;rw [if_pos k2] at h;exact seq_lo (by omega) h
    · rename_i k2;rw [if_neg k2] at h
      split
      · rename_i k3;rw [if_pos k3] at h;exact seq_lo (by omega) h
      · rename_i k3;rw [if_neg k3] at h
        split
        · rename_i k4;rw [if_pos k4] at h;exact seq_lo (by omega) h
        · rename_i k4;rw [if_neg k4] at h;simp at h
theorem dec_hi (s:ByteArray) (pos:Nat) (c:UInt8) (l:List UInt8) (h:s.toList.drop pos=c :: l) (hc:128≤c.toNat):128≤(Utf8.decode s pos).1:=by
  by_cases g:(stL (c :: l)).2=0
  · rw [dec_bad s pos c l h g];omega
  · rw [dec_good s pos c l h g];exact st_lo hc g
theorem dec_lo (s:ByteArray) (pos:Nat) (c:UInt8) (l:List UInt8) (h:s.toList.drop pos=c :: l) (hc:c.toNat<128):Utf8.decode s pos=(c.toNat,1):=by
  have e:stL (c :: l)=(c.toNat,1):=by rw [stL,if_pos hc]
  rw [dec_good s pos c l h (by rw [e];simp),e]
theorem num_g (s:ByteArray) (b:Nat) (hb:b=10∨b=16) (l:List UInt8):∀ fuel pos n,s.toList.drop pos=l→l.length≤fuel→(n+1)*b ^ l.length≤268435456→xml_number.g s (b:Int) fuel pos (n:Int)=(nuB b n l).map Int.ofNat:=by
  induction l with
  | nil=>
    intro fuel pos n h _ _
    rw [xml_number.g_end (drop_nil s pos h)]
    rfl
  | cons c l ih=>
    intro fuel pos n h hf hn
    obtain⟨hp,_⟩:=drop_cons s pos c l h
    obtain⟨f,rfl⟩ : ∃ f,fuel=f+1:=⟨fuel-1,by simp at hf;omega⟩
    have hpow:(n+1)*b ^ (c :: l).length=((n+1)*b)*b ^ l.length:=by rw [List.length_cons,Nat.pow_succ,Nat.mul_comm (b ^ l.length) b,Nat.mul_assoc]
    rw [hpow] at hn
    have hb1:0<b ^ l.length:=Nat.pow_pos (by omega)
    have hnb:(n+1)*b≤268435456:=Nat.le_trans (Nat.le_mul_of_pos_right _ hb1) hn
    have hnb2:n*b≤268435456:=by rw [Nat.succ_mul] at hnb;omega
    rw [nuB]
    by_cases hc:c.toNat<128
    · have hd:=dec_lo s pos c l h hc
      have hs:=step_eq b hb n hnb2 c
      cases hg:dgB b c with
      | none=>
        rw [hg] at hs
        rw [xml_number.g_bad hp (by rw [hd];exact hs)]
        rfl
      | some d=>
        rw [hg,Option.map_some] at hs
        rw [xml_number.g_on hp (by rw [hd];exact hs),hd]
        have hdl:=dg_lt hb hg
        refine ih f (pos+1) (n*b+d) ?_ (by simp at hf;omega) ?_
        · rw [← List.drop_drop,h];rfl
        · refine Nat.le_trans (Nat.mul_le_mul_right _ ?_) hn
          rw [Nat.succ_mul];omega
    · have hg:dgB b c=none:=by
        cases hg:dgB b c with
        | none=>rfl
        | some d=>exact absurd (dg_ascii hg) hc
      rw [xml_number.g_bad hp (step_hi _ _ _ (by have:=dec_hi s pos c l h (by omega);omega)),hg]
      rfl
theorem num_r (s:ByteArray) (b:Nat) (hb:b=10∨b=16):∃ n:Nat,xml_number.r s (b:Int)=some ((n:Int),(rfB b s.toList).isSome) ∧ ∀ r,rfB b s.toList=some r→Utf8.encode (n:Int)=B r:=by
  have hsl:=length_toList s
  unfold xml_number.r rfB
  rw [hsl]
  by_cases c1:s.size<1
  · rw [if_pos c1,if_pos c1];exact⟨0,rfl,fun r h=>by cases h⟩
  rw [if_neg c1,if_neg c1]
  by_cases c2:7<s.size
  · rw [if_pos c2,if_pos c2];exact⟨0,rfl,fun r h=>by cases h⟩
  rw [if_neg c2,if_neg c2]
  have hg:=num_g s b hb s.toList s.size 0 0 (by simp) (by omega) (by
    rw [hsl,Nat.zero_add,Nat.one_mul]
    exact Nat.le_trans (Nat.pow_le_pow_left (show b≤16 by omega) _) (Nat.le_trans (Nat.pow_le_pow_right (show 0<16 by omega) (show s.size≤7 by omega)) (by decide)))
  rw [show((0:Nat):Int)=0 from rfl] at hg
  rw [hg]
  cases hn:nuB b 0 s.toList with
  | none=>exact⟨0,rfl,fun r h=>by cases h⟩
  | some n=>
    refine⟨n,?_,?_⟩
    · rw [Option.map_some]
      show xml_number.fin (n:Int)=_
      rw [fin_ev]
      cases hk:chN n <;> simp [hk]
    · intro r h
      simp only at h
      by_cases hk:chN n=true
      · rw [if_pos hk] at h;cases h;exact enc_ok n (ch_ok n hk)
      · rw [if_neg hk] at h;cases h
theorem hasP1 (s:ByteArray) (c:UInt8) (h:s.size≤1000000000000000):strings_HasPrefix.f s (⟨#[c]⟩ : ByteArray)=some (decide (s.toList.head? = some c)):=by
  have hsl:=length_toList s
  have hz:(⟨#[c]⟩ : ByteArray).size=1:=rfl
  have hl:(⟨#[c]⟩ : ByteArray).toList = [c]:=by rw [ByteArray.toList_eq]
  unfold strings_HasPrefix.f stringslite_HasPrefix.f
  rw [hz,hl]
  cases hs:s.toList with
  | nil=>
    rw [hs] at hsl
    simp at hsl
    rw [if_neg (by omega)];rfl
  | cons d l=>
    rw [hs] at hsl
    simp at hsl
    rw [if_pos (by omega),if_pos (by omega),if_pos (by omega),toList_extract,hs]
    simp [List.head?_cons]
    by_cases hdc:d=c
    · subst hdc;simp
    · simp [hdc]
theorem tail1 (s:ByteArray) (c:UInt8) (l:List UInt8) (h:s.toList=c :: l):(s.extract 1 s.size).toList=l:=by rw [ext_list,h];rfl
theorem num_eq (s:ByteArray) (h:s.size≤1000000000000000):∃ n:Nat,xml_number.f s=some ((n:Int),(nrB s.toList).isSome) ∧ ∀ r,nrB s.toList=some r→Utf8.encode (n:Int)=B r:=by
  have hsl:=length_toList s
  unfold xml_number.f
  rw [hasP1 s 120 h,Option.bind_some]
  by_cases hc:s.toList.head? = some 120
  · rw [if_pos (decide_eq_true hc)]
    cases hs:s.toList with
    | nil=>rw [hs] at hc;cases hc
    | cons c l=>
      rw [hs] at hc hsl
      obtain rfl:c=120:=Option.some.inj hc
      rw [List.length_cons] at hsl
      rw [if_pos (by omega),nr_x]
      have:=num_r (s.extract 1 s.size) 16 (.inr rfl)
      rw [tail1 s 120 l hs] at this
      exact this
  · rw [if_neg (by rw [decide_eq_false hc];exact Bool.false_ne_true),nr_n _ hc]
    exact num_r s 10 (.inl rfl)
theorem sign_eq (s:ByteArray) (h:s.size≤1000000000000000):∃ t:ByteArray,xml_sign.f s=some (t,(entB s.toList).isSome) ∧ ∀ r,entB s.toList=some r→t=B r:=by
  have hsl:=length_toList s
  unfold xml_sign.f entB
  by_cases c1:s.toList = [97,109,112]
  · rw [if_pos c1,if_pos c1];exact⟨_,rfl,fun r h=>by cases h;rfl⟩
  rw [if_neg c1,if_neg c1]
  by_cases c2:s.toList = [108,116]
  · rw [if_pos c2,if_pos c2];exact⟨_,rfl,fun r h=>by cases h;rfl⟩
  rw [if_neg c2,if_neg c2]
  by_cases c3:s.toList = [103,116]
  · rw [if_pos c3,if_pos c3];exact⟨_,rfl,fun r h=>by cases h;rfl⟩
  rw [if_neg c3,if_neg c3]
  by_cases c4:s.toList = [113,117,111,116]
  · rw [if_pos c4,if_pos c4];exact⟨_,rfl,fun r h=>by cases h;rfl⟩
  rw [if_neg c4,if_neg c4]
  by_cases c5:s.toList = [97,112,111,115]
  · rw [if_pos c5,if_pos c5];exact⟨_,rfl,fun r h=>by cases h;rfl⟩
  rw [if_neg c5,if_neg c5,hasP1 s 35 h,Option.bind_some]
  clear c1 c2 c3 c4 c5
  by_cases hc:s.toList.head? = some 35
  · rw [if_pos (decide_eq_true hc)]
    cases hs:s.toList with
    | nil=>rw [hs] at hc;cases hc
    | cons c l=>
      rw [hs] at hc hsl
      obtain rfl:c=35:=Option.some.inj hc
      rw [List.length_cons] at hsl
      obtain⟨n,h1,h2⟩:=num_eq (s.extract 1 s.size) (by rw [ByteArray.size_extract];omega)
      rw [tail1 s 35 l hs] at h1 h2
      rw [if_pos (by omega),h1,Option.bind_some]
      exact⟨_,rfl,h2⟩
  · rw [if_neg (by rw [decide_eq_false hc];exact Bool.false_ne_true),nd_n _ hc]
    exact⟨_,rfl,fun r h=>by cases h⟩
theorem byteAll {P:UInt8→Prop} (h:∀ n:Fin 256,P (UInt8.ofNat n.val)) (c:UInt8):P c:=by
  have:=h ⟨c.toNat,c.toNat_lt⟩
  rwa [UInt8.ofNat_toNat] at this
def dgI (c:UInt8):Int:=match dgB 16 c with|some d=>d|none=>-1
theorem digit_a (c:UInt8):stowageref3_Digit.f 3 (c.toNat:Int)=some (dgI c):=byteAll (P:=fun c=>stowageref3_Digit.f 3 (c.toNat:Int)=some (dgI c)) (by decide +kernel) c
theorem digit_ev (c:UInt8):Ev (fun k=>stowageref3_Digit.f k (c.toNat:Int)) (dgI c):=Ev.of (fun k=>stowageref3_Digit.mono _ k) (digit_a c)
theorem dg_ten (c:UInt8):dgB 10 c=(match dgB 16 c with|some d=>if d<10 then some d else none|none=>none):=byteAll (P:=fun c=>dgB 10 c=(match dgB 16 c with|some d=>if d<10 then some d else none|none=>none)) (by decide +kernel) c
theorem dgI_none {b:Nat} {c:UInt8} (hb:b=10∨b=16) (h:dgB b c=none):dgI c<0∨(b:Int)≤dgI c:=by
  unfold dgI
  rcases hb with rfl|rfl
  · rw [dg_ten] at h
    cases hd:dgB 16 c with
    | none=>exact .inl (by decide)
    | some d=>
      rw [hd] at h
      simp only at h
      split at h
      · cases h
      · right;simp only;omega
  · rw [h];exact .inl (by decide)
theorem dgI_some {b:Nat} {c:UInt8} {d:Nat} (hb:b=10∨b=16) (h:dgB b c=some d):dgI c=(d:Int):=by
  unfold dgI
  rcases hb with rfl|rfl
  · rw [dg_ten] at h
    cases hd:dgB 16 c with
    | none=>rw [hd] at h;cases h
    | some d=>
      rw [hd] at h
      simp only at h
      split at h
      · cases h;rfl
      · cases h
  · rw [h]
def outR (r:Option (List UInt8)):ByteArray×Bool:=match r with|none=>(⟨#[]⟩,false)|some l=>(B l,true)
def finR (r:Option Nat):ByteArray×Bool:=match r with|none=>(⟨#[]⟩,false)|some n=>if chN n=true then(B (encL n),true) else(⟨#[]⟩,false)
theorem ent_l0 (s:ByteArray) (b:Nat) (hb:b=10∨b=16) (l:List UInt8):∀ (pre:List UInt8) (n:Nat),s.toList=pre++l→s.size≤1000000000000000→(n+1)*b ^ l.length≤268435456→Ev (fun k=>stowageref13_entity.l0 k s (b:Int) (n:Int) (pre.length:Int)) (finR (nuB b n l)):=by
  induction l with
  | nil=>
    intro pre n h _ _
    have:=pre_end s pre h
    refine Ev.step (f:=fun _=>(stowageref3_Char.f (n:Int)).bind fun t=>if t=true then((stowageref13_utf8.f (n:Int)).bind fun u=>some (u,true)) else some ((⟨#[]⟩ : ByteArray),false)) (fun k=>by rw [stowageref13_entity.l0,if_neg (by omega)]) ?_
    refine ev_some (rchar_ev n) ?_
    rw [nuB]
    by_cases hk:chN n=true
    · rw [finR]
      simp only [hk,if_true]
      exact ev_some (rutf8_ev n (ch_ok n hk)) (Ev.now _)
    · rw [finR]
      simp only [hk,Bool.false_eq_true,if_false]
      exact Ev.now _
  | cons c l ih=>
    intro pre n h hs hn
    obtain⟨hbt,hlt⟩:=bt_pre s pre l c h
    have hnx:=pre_next pre c s.size hlt (by omega)
    have hpow:(n+1)*b ^ (c :: l).length=((n+1)*b)*b ^ l.length:=by rw [List.length_cons,Nat.pow_succ,Nat.mul_comm (b ^ l.length) b,Nat.mul_assoc]
    rw [hpow] at hn
    have hb1:0<b ^ l.length:=Nat.pow_pos (by omega)
    have hnb:(n+1)*b≤268435456:=Nat.le_trans (Nat.le_mul_of_pos_right _ hb1) hn
    rw [Nat.succ_mul] at hnb
    refine Ev.step (f:=fun k=>(stowageref3_Digit.f k (c.toNat:Int)).bind fun t=>if t<0 then some ((⟨#[]⟩ : ByteArray),false) else if t ≥ (b:Int) then some ((⟨#[]⟩ : ByteArray),false) else stowageref13_entity.l0 k s (b:Int) (wrap64 (wrap64 ((b:Int)*(n:Int))+t)) (((pre ++ [c]).length:Nat):Int)) (fun k=>by rw [stowageref13_entity.l0,if_pos (by omega),if_pos (by omega),hbt,hnx]) ?_
    refine Ev.bind (digit_ev c) ?_
    rw [nuB]
    cases hg:dgB b c with
    | none=>
      rcases dgI_none hb hg with q|q
      · exact ev_pos q (Ev.now _)
      · by_cases q2:dgI c<0
        · exact ev_pos q2 (Ev.now _)
        · exact ev_neg q2 (ev_pos q (Ev.now _))
    | some d=>
      have hd:=dgI_some hb hg
      have hdl:=dg_lt hb hg
      rw [hd]
      refine ev_neg (by omega) (ev_neg (by omega) ?_)
      have hm:(b:Int)*(n:Int)=((n*b:Nat):Int):=by rw [Int.natCast_mul,Int.mul_comm]
      rw [hm,w64 (n:=((n*b:Nat):Int)) (by omega) (by omega),w64 (by omega) (by omega)]
      refine ih (pre ++ [c]) (n*b+d) (pre_app s pre l c h) hs ?_
      refine Nat.le_trans (Nat.mul_le_mul_right _ ?_) hn
      rw [Nat.succ_mul];omega
theorem ent_j0 (s:ByteArray) (b:Nat) (hb:b=10∨b=16) (hs:s.size≤1000000000000000):Ev (fun k=>stowageref13_entity.j0 k s (b:Int)) (outR (rfB b s.toList)):=by
  have hsl:=length_toList s
  unfold rfB
  rw [hsl]
  by_cases c1:s.size<1
  · rw [if_pos c1]
    refine Ev.step (f:=fun k=>stowageref13_entity.j1 k s (b:Int) true) (fun k=>by rw [stowageref13_entity.j0,if_pos (by omega)]) ?_
    exact Ev.step (f:=fun _=>some ((⟨#[]⟩ : ByteArray),false)) (fun k=>by rw [stowageref13_entity.j1,if_pos rfl]) (Ev.now _)
  rw [if_neg c1]
  refine Ev.step (f:=fun k=>stowageref13_entity.j1 k s (b:Int) (decide ((s.size:Int)>7))) (fun k=>by rw [stowageref13_entity.j0,if_neg (by omega)]) ?_
  by_cases c2:7<s.size
  · rw [if_pos c2]
    exact Ev.step (f:=fun _=>some ((⟨#[]⟩ : ByteArray),false)) (fun k=>by rw [stowageref13_entity.j1,if_pos (decide_eq_true (by omega))]) (Ev.now _)
  rw [if_neg c2]
  refine Ev.step (f:=fun k=>stowageref13_entity.l0 k s (b:Int) 0 0) (fun k=>by rw [stowageref13_entity.j1,if_neg (by rw [decide_eq_false (by omega)];exact Bool.false_ne_true)]) ?_
  have:=ent_l0 s b hb s.toList [] 0 rfl hs (by
    rw [hsl,Nat.zero_add,Nat.one_mul]
    exact Nat.le_trans (Nat.pow_le_pow_left (show b≤16 by omega) _) (Nat.le_trans (Nat.pow_le_pow_right (show 0<16 by omega) (show s.size≤7 by omega)) (by decide)))
  refine ev_eq this ?_
  unfold finR outR
  cases nuB b 0 s.toList with
  | none=>rfl
  | some n=>cases hk:chN n <;> simp [hk]
theorem beg_eq (s:ByteArray) (p:List UInt8):stowageref3_Begins.f s (B p)=some (s.toList.take p.length == p):=by
  have hsl:=length_toList s
  unfold stowageref3_Begins.f
  rw [B_size]
  by_cases c:p.length≤s.size
  · rw [if_pos (by omega),if_pos (by omega),if_pos (by omega),toList_extract,B_toList]
    rfl
  · rw [if_neg (by omega)]
    congr 1
    symm
    rw [beq_eq_false_iff_ne]
    intro e
    have:=congrArg List.length e
    rw [List.length_take,hsl] at this
    omega
theorem entity_ev (s:ByteArray) (h:s.size≤1000000000000000):Ev (fun k=>stowageref13_entity.f k s) (outR (entB s.toList)):=by
  have hsl:=length_toList s
  simp only [stowageref13_entity.f]
  unfold entB
  by_cases c1:s.toList = [97,109,112]
  · rw [if_pos c1];exact ev_pos c1 (Ev.now _)
  rw [if_neg c1];refine ev_neg c1 ?_
  by_cases c2:s.toList = [108,116]
  · rw [if_pos c2];exact ev_pos c2 (Ev.now _)
  rw [if_neg c2];refine ev_neg c2 ?_
  by_cases c3:s.toList = [103,116]
  · rw [if_pos c3];exact ev_pos c3 (Ev.now _)
  rw [if_neg c3];refine ev_neg c3 ?_
  by_cases c4:s.toList = [113,117,111,116]
  · rw [if_pos c4];exact ev_pos c4 (Ev.now _)
  rw [if_neg c4];refine ev_neg c4 ?_
  by_cases c5:s.toList = [97,112,111,115]
  · rw [if_pos c5];exact ev_pos c5 (Ev.now _)
  rw [if_neg c5];refine ev_neg c5 ?_
  clear c1 c2 c3 c4 c5
  refine ev_some (beg_eq s [35,120]) ?_
  have hx:∀ n,(s.extract n s.size).toList=s.toList.drop n:=ext_list s
  by_cases hA:s.toList.take 2 = [35,120]
  · refine ev_pos (beq_iff_eq.mpr hA) ?_
    have hl:=congrArg List.length hA
    rw [List.length_take,hsl] at hl
    simp at hl
    refine ev_pos (by omega) ?_
    have hj:=ent_j0 (s.extract 2 s.size) 16 (.inr rfl) (by rw [ByteArray.size_extract];omega)
    rw [hx 2] at hj
    have e:s.toList=35 :: 120 :: s.toList.drop 2:=by
      have:=List.take_append_drop 2 s.toList
      rw [hA] at this
      exact this.symm
    have e2:ndB s.toList=rfB 16 (s.toList.drop 2):=by rw [e];rfl
    rw [e2]
    exact hj
  · refine ev_neg (fun q=>hA (beq_iff_eq.mp q)) ?_
    refine ev_some (beg_eq s [35]) ?_
    by_cases hB:s.toList.take 1 = [35]
    · refine ev_pos (beq_iff_eq.mpr hB) ?_
      have hl:=congrArg List.length hB
      rw [List.length_take,hsl] at hl
      simp at hl
      refine ev_pos (by omega) ?_
      have hj:=ent_j0 (s.extract 1 s.size) 10 (.inl rfl) (by rw [ByteArray.size_extract];omega)
      rw [hx 1] at hj
      have e:s.toList=35 :: s.toList.drop 1:=by
        have:=List.take_append_drop 1 s.toList
        rw [hB] at this
        exact this.symm
      have e2:ndB s.toList=rfB 10 (s.toList.drop 1):=by
        rw [e]
        show nrB (s.toList.drop 1)=rfB 10 (s.toList.drop 1)
        refine nr_n _ (fun q=>hA ?_)
        cases hd:s.toList.drop 1 with
        | nil=>rw [hd] at q;cases q
        | cons d t=>
          rw [hd] at q
          obtain rfl:d=120:=Option.some.inj q
          rw [e,hd]
          rfl
      rw [e2]
      exact hj
    · refine ev_neg (fun q=>hB (beq_iff_eq.mp q)) ?_
      have e2:ndB s.toList=none:=nd_n _ (fun q=>hB (by
        cases hs:s.toList with
        | nil=>rw [hs] at q;cases q
        | cons d t=>rw [hs] at q;obtain rfl:d=35:=Option.some.inj q;rfl))
      rw [e2]
      exact Ev.now _
def cutL (c:UInt8):List UInt8→Option (List UInt8×List UInt8)
  | []=>none
  | b :: l=>if b=c then some ([],l) else(cutL c l).map fun p=>(b :: p.1,p.2)
theorem cutL_index (c:UInt8) (l:List UInt8):(match cutL c l with|none=>Lib.indexByte l c = -1|some p=>Lib.indexByte l c=p.1.length∧l=p.1++c :: p.2):=by
  induction l with
  | nil=>rfl
  | cons b l ih=>
    rw [cutL,Lib.indexByte]
    by_cases h:b=c
    · subst h;simp
    · rw [if_neg h]
      have hb:(b == c)=false:=by simpa using h
      cases hc:cutL c l with
      | none=>rw [hc] at ih;simp [ih,hb]
      | some p=>
        rw [hc] at ih
        obtain⟨h1,h2⟩:=ih
        simp only [Option.map_some]
        refine⟨?_,by rw [List.cons_append,← h2]⟩
        rw [h1]
        have:((p.1.length:Int) == -1)=false:=by rw [beq_eq_false_iff_ne];omega
        simp [hb,this]
def cutR (s:ByteArray) (c:UInt8):ByteArray×ByteArray×Bool:=
  match cutL c s.toList with|none=>(s,⟨#[]⟩,false)|some p=>(⟨p.1.toArray⟩,⟨p.2.toArray⟩,true)
theorem extract_of (s:ByteArray) (i j:Nat) (l:List UInt8) (h:(s.toList.take j).drop i=l):s.extract i j=⟨l.toArray⟩:=by
  apply toList_inj
  rw [toList_extract,h,ByteArray.toList_eq]
theorem rcut_l0 (s:ByteArray) (c:UInt8) (hs:s.size≤1000000000000000) (l:List UInt8):∀ pre:List UInt8,s.toList=pre++l→cutL c pre=none →
    Ev (fun k=>stowageref3_Cut.l0 k s (c.toNat:Int) (pre.length:Int)) (cutR s c):=by
  have hsl:=length_toList s
  have app:∀ (pre l:List UInt8),cutL c pre=none→cutL c (pre++l)=(cutL c l).map fun p=>(pre++p.1,p.2):=by
    intro pre
    induction pre with
    | nil=>intro l _;rw [List.nil_append];cases cutL c l <;> rfl
    | cons b pre ih=>
      intro l h
      rw [cutL] at h
      by_cases hb:b=c
      · rw [if_pos hb] at h;simp at h
      · rw [if_neg hb] at h
        have h':cutL c pre=none:=by simpa using h
        rw [List.cons_append,cutL,if_neg hb,ih l h']
        cases cutL c l <;> rfl
  induction l with
  | nil=>
    intro pre e hp
    rw [List.append_nil] at e
    refine Ev.step (f:=fun _=>some (cutR s c)) (fun k=>?_) (Ev.now _)
    have:pre.length=s.size:=by rw [← hsl,e]
    rw [stowageref3_Cut.l0,if_neg (by omega),cutR,e,hp]
  | cons b l ih=>
    intro pre e hp
    have hl:=congrArg List.length e
    rw [hsl,List.length_append,List.length_cons] at hl
    have hb:=(bt_drop s pre.length b l (by rw [e];simp)).1
    by_cases h:b=c
    · subst h
      refine Ev.step (f:=fun _=>some (cutR s b)) (fun k=>?_) (Ev.now _)
      rw [stowageref3_Cut.l0,if_pos (by omega),if_pos (by omega),if_pos hb,if_pos (by omega),w64 (n:=(pre.length:Int)+1) (by omega) (by omega),if_pos (by omega),if_pos (by omega)]
      rw [cutR,e,app pre _ hp,cutL,if_pos rfl,Option.map_some]
      dsimp only
      rw [extract_of s 0 _ pre (by rw [e];simp),extract_of s _ s.size l (by rw [e,show((pre.length:Int)+1).toNat=pre.length+1 by omega,List.take_of_length_le (by rw [List.length_append,List.length_cons];omega)];simp),List.append_nil]
    · have hne:¬ bt s (pre.length:Int)=(c.toNat:Int):=by
        rw [hb];intro q
        exact h (UInt8.toNat_inj.mp (Int.ofNat_inj.mp q))
      have q:=ih (pre ++ [b]) (by rw [e];simp) (by rw [app pre _ hp,cutL,if_neg h,cutL];rfl)
      refine Ev.step (f:=fun k=>_) (fun k=>by rw [stowageref3_Cut.l0,if_pos (by omega),if_pos (by omega),if_neg hne,w64 (n:=(pre.length:Int)+1) (by omega) (by omega)]) ?_
      rw [show((pre ++ [b]).length:Int)=(pre.length:Int)+1 by simp] at q
      exact q
theorem rcut_ev (s:ByteArray) (c:UInt8) (hs:s.size≤1000000000000000):Ev (fun k=>stowageref3_Cut.f k s (c.toNat:Int)) (cutR s c):=
  rcut_l0 s c hs s.toList [] rfl rfl
theorem cutR_size (s:ByteArray) (c:UInt8):(cutR s c).1.size≤s.size∧(cutR s c).2.1.size≤s.size:=by
  have hi:=cutL_index c s.toList
  have hsl:=length_toList s
  rw [cutR]
  cases hc:cutL c s.toList with
  | none=>exact⟨Nat.le_refl _,Nat.zero_le _⟩
  | some p=>
    rw [hc] at hi
    have hl:=congrArg List.length hi.2
    rw [List.length_append,List.length_cons,hsl] at hl
    exact⟨show p.1.toArray.size≤s.size by simp;omega,show p.2.toArray.size≤s.size by simp;omega⟩
theorem rf_len {b:Nat} {l r:List UInt8} (h:rfB b l=some r):r.length≤4:=by
  unfold rfB at h
  split at h
  · cases h
  · split at h
    · cases h
    · split at h
      · cases h
      · split at h
        · cases h;exact(enc_len _).2
        · cases h
theorem ent_len {l r:List UInt8} (h:entB l=some r):r.length≤4:=by
  unfold entB at h
  split at h
  · cases h;decide
  · split at h
    · cases h;decide
    · split at h
      · cases h;decide
      · split at h
        · cases h;decide
        · split at h
          · cases h;decide
          · unfold ndB at h
            split at h
            · unfold nrB at h
              split at h <;> exact rf_len h
            · cases h
theorem cut_at {c:UInt8} {l a t:List UInt8} (h:cutL c l=some (a,t)):l=a++c :: t:=by
  have:=cutL_index c l
  rw [h] at this
  exact this.2
theorem cut_no {c:UInt8} {l a t:List UInt8} (h:cutL c l=some (a,t)):c ∉ a:=by
  induction l generalizing a with
  | nil=>cases h
  | cons b l ih=>
    rw [cutL] at h
    split at h
    · cases h;simp
    · rename_i hb
      cases hc:cutL c l with
      | none=>rw [hc] at h;cases h
      | some p=>
        rw [hc] at h
        cases h
        simp only [List.mem_cons,not_or]
        exact⟨fun e=>hb e.symm,ih hc⟩
def unL:Nat→List UInt8→Option (List UInt8)
  | 0,_=>some []
  | _+1,[]=>some []
  | k+1,c :: l=>if c=38 then(match cutL 59 l with|none=>none|some p=>match entB p.1 with|none=>none|some e=>(unL k p.2).map (e ++ ·)) else(unL k l).map (c :: ·)
def unD:Nat→List UInt8→Option (List UInt8)
  | 0,_=>some []
  | _+1,[]=>some []
  | k+1,c :: l=>if c=13 then(if l.head? = some 10 then(unD k l.tail).map (10 :: ·) else(unD k l).map (10 :: ·)) else if c=38 then(match cutL 59 l with|none=>none|some p=>match entB p.1 with|none=>none|some e=>(unD k p.2).map (e ++ ·)) else(unD k l).map (c :: ·)
theorem cut_len {c:UInt8} {l a t:List UInt8} (h:cutL c l=some (a,t)):a.length+t.length+1=l.length:=by
  have:=congrArg List.length (cut_at h)
  rw [List.length_append,List.length_cons] at this
  omega
theorem unL_fuel (k:Nat):∀ k' l,l.length<k→l.length<k'→unL k l=unL k' l:=by
  induction k with
  | zero=>intro k' l h _;omega
  | succ k ih=>
    intro k' l h h'
    obtain⟨j,rfl⟩ : ∃ j,k'=j+1:=⟨k'-1,by omega⟩
    cases l with
    | nil=>rfl
    | cons c l=>
      simp only [List.length_cons] at h h'
      rw [unL,unL,ih j l (by omega) (by omega)]
      by_cases hc:c=38
      · rw [if_pos hc,if_pos hc]
        cases hp:cutL 59 l with
        | none=>rfl
        | some p=>
          obtain⟨a,t⟩:=p
          have:=cut_len hp
          simp only
          rw [ih j t (by omega) (by omega)]
      · rw [if_neg hc,if_neg hc]
theorem unL_cut (k:Nat):∀ l,l.length<k→unL k l=(match cutL 38 l with
    | none=>some l
    | some p=>match cutL 59 p.2 with|none=>none|some q=>match entB q.1 with|none=>none|some e=>(unL k q.2).map (p.1++e ++ ·)):=by
  induction k with
  | zero=>intro l h;omega
  | succ k ih=>
    intro l h
    cases l with
    | nil=>rfl
    | cons c l=>
      simp only [List.length_cons] at h
      rw [unL,cutL]
      by_cases hc:c=38
      · rw [if_pos hc,if_pos hc]
        simp only
        cases hp:cutL 59 l with
        | none=>rfl
        | some p=>
          obtain⟨a,t⟩:=p
          have:=cut_len hp
          simp only [List.nil_append]
          rw [unL_fuel k (k+1) t (by omega) (by omega)]
      · rw [if_neg hc,if_neg hc,ih l (by omega)]
        cases hp:cutL 38 l with
        | none=>rfl
        | some p=>
          obtain⟨a,t⟩:=p
          have h1:=cut_len hp
          simp only [Option.map_some]
          cases hq:cutL 59 t with
          | none=>rfl
          | some q=>
            obtain⟨b,u⟩:=q
            have h2:=cut_len hq
            simp only
            cases he:entB b with
            | none=>rfl
            | some e=>
              simp only
              rw [unL_fuel k (k+1) u (by omega) (by omega)]
              cases unL (k+1) u <;> rfl
theorem nrm_app (b:UInt8) (hb:b≠13) (hb2:b≠10) (t:List UInt8):∀ n a,a.length≤n→nrm (a++b :: t)=nrm a++b :: nrm t:=by
  intro n
  induction n with
  | zero=>intro a h;obtain rfl:a = []:=List.length_eq_zero_iff.mp (by omega);rw [List.nil_append,nrm_cons b t hb];rfl
  | succ n ih=>
    intro a h
    cases a with
    | nil=>rw [List.nil_append,nrm_cons b t hb];rfl
    | cons c a=>
      simp only [List.length_cons] at h
      rw [List.cons_append]
      by_cases hc:c=13
      · subst hc
        by_cases hd:a.head? = some 10
        · cases a with
          | nil=>cases hd
          | cons d a=>
            obtain rfl:d=10:=Option.some.inj hd
            rw [List.cons_append,nrm_crlf,nrm_crlf,ih a (by simp at h;omega),List.cons_append]
        · rw [nrm_cr a hd,nrm_cr _ (by cases a with|nil=>simp [hb2]|cons d a=>simpa using hd),ih a (by omega),List.cons_append]
      · rw [nrm_cons c _ hc,nrm_cons c _ hc,ih a (by omega),List.cons_append]
theorem nrm_mem {c:UInt8} (hc:c≠10) (hc2:c≠13):∀ n l,l.length≤n→(c∈nrm l↔c∈l):=by
  intro n
  induction n with
  | zero=>intro l h;obtain rfl:l = []:=List.length_eq_zero_iff.mp (by omega);rfl
  | succ n ih=>
    intro l h
    cases l with
    | nil=>rfl
    | cons d l=>
      simp only [List.length_cons] at h
      by_cases hd:d=13
      · subst hd
        by_cases he:l.head? = some 10
        · cases l with
          | nil=>cases he
          | cons e l=>
            obtain rfl:e=10:=Option.some.inj he
            rw [nrm_crlf,List.mem_cons,ih l (by simp at h;omega),List.mem_cons,List.mem_cons]
            simp [hc,hc2]
        · rw [nrm_cr l he,List.mem_cons,ih l (by omega),List.mem_cons]
          simp [hc,hc2]
      · rw [nrm_cons d l hd,List.mem_cons,ih l (by omega),List.mem_cons]
theorem cut_none_iff (c:UInt8) (l:List UInt8):cutL c l=none↔c ∉ l:=by
  induction l with
  | nil=>simp [cutL]
  | cons b l ih=>
    rw [cutL]
    by_cases hb:b=c
    · rw [if_pos hb];simp [hb]
    · rw [if_neg hb,Option.map_eq_none_iff,ih,List.mem_cons]
      exact⟨fun h q=>q.elim (fun e=>hb e.symm) h,fun h q=>h (.inr q)⟩
theorem cut_mk (c:UInt8) (a t:List UInt8) (h:c ∉ a):cutL c (a++c :: t)=some (a,t):=by
  induction a with
  | nil=>rw [List.nil_append,cutL,if_pos rfl]
  | cons b a ih=>
    simp only [List.mem_cons,not_or] at h
    rw [List.cons_append,cutL,if_neg (fun e=>h.1 e.symm),ih h.2]
    rfl
theorem cut_nrm_none {l:List UInt8} (h:cutL 59 l=none):cutL 59 (nrm l)=none:=by
  rw [cut_none_iff] at h ⊢
  rwa [nrm_mem (by decide) (by decide) l.length l (Nat.le_refl _)]
theorem cut_nrm_some {l a t:List UInt8} (h:cutL 59 l=some (a,t)):cutL 59 (nrm l)=some (nrm a,nrm t):=by
  rw [cut_at h,nrm_app 59 (by decide) (by decide) t a.length a (Nat.le_refl _)]
  refine cut_mk 59 _ _ ?_
  rw [nrm_mem (by decide) (by decide) a.length a (Nat.le_refl _)]
  exact cut_no h
theorem nu_bad {b:Nat} {c:UInt8} (hd:dgB b c=none) (l:List UInt8) (h:c∈l):∀ n,nuB b n l=none:=by
  induction l with
  | nil=>cases h
  | cons d l ih=>
    intro n
    rw [nuB]
    rcases List.mem_cons.mp h with rfl|h2
    · rw [hd]
    · cases dgB b d with
      | none=>rfl
      | some x=>exact ih h2 _
theorem rf_bad {b:Nat} {c:UInt8} (hd:dgB b c=none) (l:List UInt8) (h:c∈l):rfB b l=none:=by
  unfold rfB
  rw [nu_bad hd l h]
  split
  · rfl
  · split <;> rfl
theorem ent_bad {c:UInt8} (hc:c=13∨c=10) (l:List UInt8) (h:c∈l):entB l=none:=by
  have d16:dgB 16 c=none:=by rcases hc with rfl|rfl <;> decide
  have d10:dgB 10 c=none:=by rcases hc with rfl|rfl <;> decide
  unfold entB
  rw [if_neg (by rintro rfl;rcases hc with rfl|rfl <;> simp at h),if_neg (by rintro rfl;rcases hc with rfl|rfl <;> simp at h),if_neg (by rintro rfl;rcases hc with rfl|rfl <;> simp at h),if_neg (by rintro rfl;rcases hc with rfl|rfl <;> simp at h),if_neg (by rintro rfl;rcases hc with rfl|rfl <;> simp at h)]
  unfold ndB
  split
  · rename_i r
    have hr:c∈r:=by
      rcases List.mem_cons.mp h with e|e
      · rcases hc with rfl|rfl <;> simp at e
      · exact e
    unfold nrB
    split
    · rename_i u
      have hu:c∈u:=by
        rcases List.mem_cons.mp hr with e|e
        · rcases hc with rfl|rfl <;> simp at e
        · exact e
      exact rf_bad d16 u hu
    · exact rf_bad d10 _ hr
  · rfl
theorem nrm_same:∀ l:List UInt8,13 ∉ l→nrm l=l:=by
  intro l
  induction l with
  | nil=>intro _;rfl
  | cons c l ih=>
    intro h
    simp only [List.mem_cons,not_or] at h
    rw [nrm_cons c l (fun e=>h.1 e.symm),ih h.2]
theorem nrm_ten:∀ n l,l.length≤n→(13:UInt8)∈l→(10:UInt8)∈nrm l:=by
  intro n
  induction n with
  | zero=>intro l h hm;obtain rfl:l = []:=List.length_eq_zero_iff.mp (by omega);cases hm
  | succ n ih=>
    intro l h hm
    cases l with
    | nil=>cases hm
    | cons c l=>
      simp only [List.length_cons] at h
      by_cases hc:c=13
      · subst hc
        by_cases he:l.head? = some 10
        · cases l with
          | nil=>cases he
          | cons e l=>obtain rfl:e=10:=Option.some.inj he;rw [nrm_crlf];exact List.mem_cons_self
        · rw [nrm_cr l he];exact List.mem_cons_self
      · rw [nrm_cons c l hc]
        rcases List.mem_cons.mp hm with e|e
        · exact absurd e.symm hc
        · exact List.mem_cons_of_mem _ (ih l (by omega) e)
theorem ent_nrm (a:List UInt8):entB (nrm a)=entB a:=by
  by_cases h:(13:UInt8)∈a
  · rw [ent_bad (.inl rfl) a h,ent_bad (.inr rfl) _ (nrm_ten a.length a (Nat.le_refl _) h)]
  · rw [nrm_same a h]
theorem unD_eq (k:Nat):∀ l,l.length<k→unD k l=unL k (nrm l):=by
  induction k with
  | zero=>intro l h;omega
  | succ k ih=>
    intro l h
    cases l with
    | nil=>rfl
    | cons c l=>
      simp only [List.length_cons] at h
      rw [unD]
      by_cases hc:c=13
      · subst hc
        rw [if_pos rfl]
        by_cases he:l.head? = some 10
        · cases l with
          | nil=>cases he
          | cons e l=>
            obtain rfl:e=10:=Option.some.inj he
            simp only [List.length_cons] at h
            rw [if_pos he,nrm_crlf,unL,if_neg (by decide),List.tail_cons,ih l (by omega)]
        · rw [if_neg he,nrm_cr l he,unL,if_neg (by decide),ih l (by omega)]
      · rw [if_neg hc,nrm_cons c l hc,unL,ih l (by omega)]
        by_cases h38:c=38
        · rw [if_pos h38,if_pos h38]
          cases hp:cutL 59 l with
          | none=>rw [cut_nrm_none hp]
          | some p=>
            obtain⟨a,t⟩:=p
            have:=cut_len hp
            rw [cut_nrm_some hp]
            simp only
            rw [ent_nrm,ih t (by omega)]
        · rw [if_neg h38,if_neg h38]
theorem cut_g (s:ByteArray) (c:UInt8) (hs:s.size≤4000000):strings_Cut.f s ⟨#[c]⟩=some (cutR s c):=by
  have hi:=cutL_index c s.toList
  have hsl:=length_toList s
  have e1:stringslite_Index.f s ⟨#[c]⟩=some (Lib.indexByte s.toList c):=by
    unfold stringslite_Index.f
    rw [if_pos (by omega),← ByteArray.toList_eq]
    exact congrArg some (Lib.index_one s.toList c)
  unfold strings_Cut.f stringslite_Cut.f cutR
  rw [e1,Option.bind_some]
  cases hc:cutL c s.toList with
  | none=>
    rw [hc] at hi
    rw [hi];rfl
  | some p=>
    rw [hc] at hi
    obtain⟨h1,h2⟩:=hi
    have hl:=congrArg List.length h2
    rw [List.length_append,List.length_cons,hsl] at hl
    have hz:(⟨#[c]⟩ : ByteArray).size=1:=rfl
    rw [h1,hz,w64 (n:=(p.1.length:Int)+((1:Nat):Int)) (by omega) (by omega),if_pos (by omega),if_pos (by omega),if_pos (by omega),if_pos (by omega),if_pos (by omega),Option.bind_some]
    rw [extract_of s 0 _ p.1 (by rw [h2];simp),extract_of s _ s.size p.2 (by rw [h2,show((p.1.length:Int)+((1:Nat):Int)).toNat=p.1.length+1 by omega,List.take_of_length_le (by rw [List.length_append,List.length_cons];omega)];simp)]
def unR (acc:ByteArray) (r:Option (List UInt8)):ByteArray×Bool:=match r with|none=>(⟨#[]⟩,false)|some l=>(acc++B l,true)
theorem bz (a b:ByteArray):(a++b).size=a.size+b.size:=ByteArray.size_append
section
variable {k:Nat} {acc s p1 p2 q1 q2 t:ByteArray}
theorem l0_end (h:strings_Cut.f s ⟨#[38]⟩=some (p1,p2,false)) (hz:acc.size+p1.size≤140737488355328):xml_Unescape.l0 (k+1) acc s=some (acc++p1,true):=by
  rw [xml_Unescape.l0,h,Option.bind_some]
  dsimp only
  rw [if_pos hz,if_neg Bool.false_ne_true]
theorem l0_cut (h:strings_Cut.f s ⟨#[38]⟩=some (p1,p2,true)) (hz:acc.size+p1.size≤140737488355328) (h2:strings_Cut.f p2 ⟨#[59]⟩=some (q1,q2,false)):xml_Unescape.l0 (k+1) acc s=some (⟨#[]⟩,false):=by
  rw [xml_Unescape.l0,h,Option.bind_some]
  dsimp only
  rw [if_pos hz,if_pos rfl,h2,Option.bind_some]
  dsimp only
  rw [if_neg Bool.false_ne_true]
theorem l0_bad (h:strings_Cut.f s ⟨#[38]⟩=some (p1,p2,true)) (hz:acc.size+p1.size≤140737488355328) (h2:strings_Cut.f p2 ⟨#[59]⟩=some (q1,q2,true)) (h3:xml_sign.f q1=some (t,false)):xml_Unescape.l0 (k+1) acc s=some (⟨#[]⟩,false):=by
  rw [xml_Unescape.l0,h,Option.bind_some]
  dsimp only
  rw [if_pos hz,if_pos rfl,h2,Option.bind_some]
  dsimp only
  rw [if_pos rfl,h3,Option.bind_some]
  dsimp only
  rw [if_neg Bool.false_ne_true]
theorem l0_on (h:strings_Cut.f s ⟨#[38]⟩=some (p1,p2,true)) (hz:acc.size+p1.size≤140737488355328) (h2:strings_Cut.f p2 ⟨#[59]⟩=some (q1,q2,true)) (h3:xml_sign.f q1=some (t,true)) (hy:(acc++p1).size+t.size≤140737488355328):xml_Unescape.l0 (k+1) acc s=xml_Unescape.l0 k (acc++p1++t) q2:=by
  rw [xml_Unescape.l0,h,Option.bind_some]
  dsimp only
  rw [if_pos hz,if_pos rfl,h2,Option.bind_some]
  dsimp only
  rw [if_pos rfl,h3,Option.bind_some]
  dsimp only
  rw [if_pos rfl,if_pos hy]
end
theorem cut_no_B {l:List UInt8} {c:UInt8} (hl:l.length≤4000000) (h:cutL c l=none):strings_Cut.f (B l) ⟨#[c]⟩=some (B l,⟨#[]⟩,false):=by
  rw [cut_g _ _ (by rw [B_size];omega),cutR,B_toList,h]
theorem cut_at_B {l a t:List UInt8} {c:UInt8} (hl:l.length≤4000000) (h:cutL c l=some (a,t)):strings_Cut.f (B l) ⟨#[c]⟩=some (B a,B t,true):=by
  rw [cut_g _ _ (by rw [B_size];omega),cutR,B_toList,h]
  rfl
theorem ent_nil:entB []=none:=by decide
theorem un_l0 (n:Nat):∀ (l:List UInt8) (acc:ByteArray),l.length<n→l.length≤4000000→acc.size+4*l.length≤100000000→Ev (fun k=>xml_Unescape.l0 k acc (B l)) (unR acc (unL (l.length+1) l)):=by
  induction n with
  | zero=>intro l acc h _ ha;omega
  | succ n ih=>
    intro l acc h hl ha
    rw [unL_cut _ l (by omega)]
    cases hp:cutL 38 l with
    | none=>exact Ev.step (f:=fun _=>some (acc++B l,true)) (fun k=>l0_end (cut_no_B hl hp) (by rw [B_size];omega)) (Ev.now _)
    | some p=>
      obtain⟨a,t⟩:=p
      have h1:=cut_len hp
      dsimp only
      cases hq:cutL 59 t with
      | none=>exact Ev.step (f:=fun _=>some (⟨#[]⟩,false)) (fun k=>l0_cut (cut_at_B hl hp) (by rw [B_size];omega) (cut_no_B (by omega) hq)) (Ev.now _)
      | some q=>
        obtain⟨b,u⟩:=q
        have h2:=cut_len hq
        dsimp only
        obtain⟨x,hx1,hx2⟩:=sign_eq (B b) (by rw [B_size];omega)
        rw [B_toList] at hx1 hx2
        cases he:entB b with
        | none=>
          rw [he,Option.isSome_none] at hx1
          exact Ev.step (f:=fun _=>some (⟨#[]⟩,false)) (fun k=>l0_bad (cut_at_B hl hp) (by rw [B_size];omega) (cut_at_B (by omega) hq) hx1) (Ev.now _)
        | some e=>
          rw [he,Option.isSome_some] at hx1
          obtain rfl:=hx2 e he
          have hel:=ent_len he
          dsimp only
          have hbz:b.length≠0:=by
            intro z
            rw [List.length_eq_zero_iff.mp z,ent_nil] at he
            cases he
          have hac:(acc++B a++B e).size=acc.size+a.length+e.length:=by rw [bz,bz,B_size,B_size]
          refine Ev.step (f:=fun k=>xml_Unescape.l0 k (acc++B a++B e) (B u)) (fun k=>l0_on (cut_at_B hl hp) (by rw [B_size];omega) (cut_at_B (by omega) hq) hx1 (by rw [bz,B_size,B_size];omega)) ?_
          refine ev_eq (ih u (acc++B a++B e) (by omega) (by omega) (by rw [hac];omega)) ?_
          rw [unL_fuel (u.length+1) (l.length+1) u (by omega) (by omega)]
          cases unL (l.length+1) u with
          | none=>rfl
          | some r=>
            rw [Option.map_some,unR,unR]
            rw [← B_append,← B_append,ByteArray.append_assoc,ByteArray.append_assoc,ByteArray.append_assoc]
theorem rep_f (s:ByteArray) (o w:List UInt8) (hs:s.size≤4000000) (ho:1≤o.length) (hw:w.length=1) (hne:(o == w)=false):strings_ReplaceAll.f s (B o) (B w)=some (B (repR o w s.toList)):=by
  have hc:Lib.countB s (B o)≤s.size:=Lib.countB_le (B o) (by rw [B_size];omega) s.size s (Nat.le_refl _)
  unfold strings_ReplaceAll.f
  rw [if_pos ⟨by omega,by rw [B_size];omega,by rw [B_size,hw];omega⟩]
  congr 1
  show B _=_
  rw [← ByteArray.toList_eq,← ByteArray.toList_eq,← ByteArray.toList_eq,B_toList,B_toList,rep_all _ _ _ hne]
theorem n1_len:∀ l,(n1 l).length≤l.length
  | []=>by rw [n1_nil];simp
  | [c]=>by rw [n1_one];simp
  | c :: d :: r=>by
    by_cases h:c=13∧d=10
    · obtain⟨rfl,rfl⟩:=h
      have:=n1_len r
      rw [n1_two]
      simp only [List.length_cons];omega
    · have:=n1_len (d :: r)
      rw [n1_not c d r h]
      simp only [List.length_cons] at this ⊢;omega
theorem unescape_ev (s:ByteArray) (hs:s.size≤4000000):Ev (fun k=>xml_Unescape.f k s) (unR ⟨#[]⟩ (unL ((nrm s.toList).length+1) (nrm s.toList))):=by
  have hsl:=length_toList s
  have hl:=nrm_len s.toList
  have h1:=n1_len s.toList
  simp only [xml_Unescape.f]
  refine ev_some (rep_f s [13,10] [10] hs (by decide) rfl (by decide)) ?_
  refine ev_some (rep_f (B (repR [13,10] [10] s.toList)) [13] [10] (by rw [B_size];show(n1 s.toList).length≤_;omega) (by decide) rfl (by decide)) ?_
  rw [B_toList,show repR [13] [10] (repR [13,10] [10] s.toList)=nrm s.toList from nrm_eq _]
  exact un_l0 _ (nrm s.toList) ⟨#[]⟩ (Nat.lt_succ_self _) (by omega) (by show 0+_≤_;omega)
theorem ext_pre (s:ByteArray) (pre l:List UInt8) (c:UInt8) (h:s.toList=pre++c :: l):s.extract ((((pre.length+1:Nat)):Int)).toNat s.size=B l:=by
  rw [Int.toNat_natCast]
  refine(extract_of s _ _ l ?_).trans rfl
  rw [List.take_of_length_le (by rw [length_toList];exact Nat.le_refl _),h]
  simp
theorem ext_one (s:ByteArray) (pre l:List UInt8) (c:UInt8) (h:s.toList=pre++c :: l):s.extract ((pre.length:Int)).toNat ((((pre.length+1:Nat)):Int)).toNat=B [c]:=by
  rw [Int.toNat_natCast,Int.toNat_natCast]
  refine(extract_of s _ _ [c] ?_).trans rfl
  rw [h]
  simp [List.take_append]
section
variable {k p:Nat} {acc s:ByteArray}
theorem wp1 (h:p<s.size) (hs:s.size≤4000000):wrap64 ((p:Int)+1)=((p+1:Nat):Int):=by rw [w64 (by omega) (by omega)];rfl
theorem ru_end (h:¬ p<s.size):stowageref13_Unescape.l0 (k+1) s acc (p:Int)=some (acc,true):=by
  rw [stowageref13_Unescape.l0,if_neg (by omega)]
theorem ru_crlf (h:p+1<s.size) (hs:s.size≤4000000) (ha:acc.size≤100000000) (hb:bt s (p:Int)=13) (hb2:bt s ((p+1:Nat):Int)=10):stowageref13_Unescape.l0 (k+1) s acc (p:Int)=stowageref13_Unescape.l0 k s (acc++B [10]) ((p+2:Nat):Int):=by
  have h1:=wp1 (p:=p) (s:=s) (by omega) hs
  have h2:=wp1 (p:=p+1) (s:=s) h hs
  rw [stowageref13_Unescape.l0,if_pos (by omega),if_pos (by omega),if_pos hb,if_pos (by omega),h1,if_pos (by omega),if_pos (by omega),if_pos hb2,h2]
  rfl
theorem ru_cr (h:p<s.size) (hs:s.size≤4000000) (ha:acc.size≤100000000) (hb:bt s (p:Int)=13) (hb2:p+1<s.size→¬ bt s ((p+1:Nat):Int)=10):stowageref13_Unescape.l0 (k+1) s acc (p:Int)=stowageref13_Unescape.l0 k s (acc++B [10]) ((p+1:Nat):Int):=by
  have h1:=wp1 (p:=p) (s:=s) h hs
  rw [stowageref13_Unescape.l0,if_pos (by omega),if_pos (by omega),if_pos hb,if_pos (by omega),h1]
  by_cases hz:p+1<s.size
  · rw [if_pos (by omega),if_pos (by omega),if_neg (hb2 hz)]
    rfl
  · rw [if_neg (by omega)]
    rfl
theorem ru_amp (h:p<s.size) (hs:s.size≤4000000) (hb:bt s (p:Int)=38):stowageref13_Unescape.l0 (k+1) s acc (p:Int)=(stowageref3_Cut.f k (s.extract ((p+1:Nat):Int).toNat s.size) 59).bind fun q=>(stowageref13_entity.f k q.1).bind fun t=>if q.2.2=true then(if t.2=true then(if acc.size+t.1.size≤9223372036854775807 then stowageref13_Unescape.l0 k s (acc++t.1) (wrap64 (wrap64 (((p+1:Nat):Int)+(q.1.size:Int))+1)) else none) else some ((⟨#[]⟩ : ByteArray),false)) else some ((⟨#[]⟩ : ByteArray),false):=by
  have h1:=wp1 (p:=p) (s:=s) h hs
  rw [stowageref13_Unescape.l0,if_pos (by omega),if_pos (by omega),if_neg (by omega),if_pos hb,h1,if_pos (by omega),if_pos (by omega)]
theorem ru_on (h:p<s.size) (hs:s.size≤4000000) (ha:acc.size≤100000000) (hb:¬ bt s (p:Int)=13) (hb2:¬ bt s (p:Int)=38) {x:ByteArray} (hx:s.extract (p:Int).toNat ((p+1:Nat):Int).toNat=x) (hz:x.size≤1000):stowageref13_Unescape.l0 (k+1) s acc (p:Int)=stowageref13_Unescape.l0 k s (acc++x) ((p+1:Nat):Int):=by
  have h1:=wp1 (p:=p) (s:=s) h hs
  rw [stowageref13_Unescape.l0,if_pos (by omega),if_pos (by omega),if_neg hb,if_neg hb2,h1,if_pos (by omega),if_pos (by omega),hx,if_pos (by omega)]
end
theorem unR_key (acc:ByteArray) (x:List UInt8) (q:Option (List UInt8)):unR (acc++B x) q=unR acc (q.map (x ++ ·)):=by
  cases q with
  | none=>rfl
  | some r=>rw [Option.map_some,unR,unR];rw [← B_append,ByteArray.append_assoc]
theorem B_nil (acc:ByteArray):acc++B []=acc:=ByteArray.append_empty
theorem und_l0 (s:ByteArray) (hs:s.size≤4000000) (n:Nat):∀ (l pre:List UInt8) (acc:ByteArray),l.length<n→s.toList=pre++l→acc.size+4*l.length≤100000000→Ev (fun k=>stowageref13_Unescape.l0 k s acc (pre.length:Int)) (unR acc (unD n l)):=by
  induction n with
  | zero=>intro l pre acc h;omega
  | succ n ih=>
    intro l pre acc h hp ha
    cases l with
    | nil=>
      have hpe:=pre_end s pre hp
      refine ev_eq (Ev.step (f:=fun _=>some (acc,true)) (fun k=>ru_end (by omega)) (Ev.now _)) ?_
      rw [unD,unR,B_nil]
    | cons c l=>
      obtain⟨hbt,hlt⟩:=bt_pre s pre l c hp
      have hle:=pre_le s pre (c :: l) hp
      rw [List.length_cons] at h ha hle
      have hp1:s.toList=(pre ++ [c])++l:=by rw [hp];simp
      have hl1:(pre ++ [c]).length=pre.length+1:=by simp
      rw [unD]
      by_cases c13:c=13
      · subst c13
        rw [if_pos rfl]
        by_cases hd:l.head? = some 10
        · cases l with
          | nil=>cases hd
          | cons d l=>
            obtain rfl:d=10:=Option.some.inj hd
            rw [if_pos hd,List.tail_cons]
            obtain⟨hbt2,hlt2⟩:=bt_pre s (pre ++ [13]) l 10 hp1
            rw [hl1] at hbt2 hlt2
            rw [List.length_cons] at h ha hle
            refine Ev.step (fun k=>ru_crlf hlt2 hs (by omega) hbt hbt2) ?_
            have:=ih l (pre ++ [13,10]) (acc++B [10]) (by omega) (by rw [hp];simp) (by rw [bz,B_size,List.length_cons,List.length_nil];omega)
            have e1:(pre++([13,10]:List UInt8)).length=pre.length+2:=by simp
            rw [e1] at this
            exact ev_eq this (unR_key acc [10] _)
        · rw [if_neg hd]
          refine Ev.step (fun k=>ru_cr hlt hs (by omega) hbt (fun hz=>?_)) ?_
          · cases l with
            | nil=>rw [List.length_nil] at hle;omega
            | cons d l=>
              have q:=(bt_pre s (pre ++ [13]) l d hp1).1
              rw [hl1] at q
              rw [q]
              intro e
              exact hd (by rw [List.head?_cons,toNat_eq.mp (show(d.toNat:Int)=((10:UInt8).toNat:Int) from e)])
          · have:=ih l (pre ++ [13]) (acc++B [10]) (by omega) hp1 (by rw [bz,B_size,List.length_cons,List.length_nil];omega)
            rw [hl1] at this
            exact ev_eq this (unR_key acc [10] _)
      · have hb13:¬ bt s (pre.length:Int)=13:=by rw [hbt];intro e;exact c13 (toNat_eq.mp (show(c.toNat:Int)=((13:UInt8).toNat:Int) from e))
        rw [if_neg c13]
        by_cases c38:c=38
        · subst c38
          rw [if_pos rfl]
          refine Ev.step (fun k=>ru_amp hlt hs hbt) ?_
          rw [ext_pre s pre l 38 hp]
          refine Ev.bind (rcut_ev (B l) 59 (by rw [B_size];omega)) ?_
          rw [cutR,B_toList]
          cases hp2:cutL 59 l with
          | none=>exact Ev.bind (entity_ev (B l) (by rw [B_size];omega)) (ev_neg Bool.false_ne_true (Ev.now _))
          | some p=>
            obtain⟨a,t⟩:=p
            have h1:=cut_len hp2
            have ht:=cut_at hp2
            refine Ev.bind (entity_ev (B a) (by rw [B_size];omega)) (ev_pos rfl ?_)
            rw [B_toList]
            dsimp only
            cases he:entB a with
            | none=>exact ev_neg Bool.false_ne_true (Ev.now _)
            | some e=>
              have hel:=ent_len he
              have haz:a.length≠0:=by
                intro z
                rw [List.length_eq_zero_iff.mp z,ent_nil] at he
                cases he
              refine ev_pos rfl (ev_pos (by show acc.size+(B e).size≤_;rw [B_size];omega) ?_)
              show Ev (fun k=>stowageref13_Unescape.l0 k s (acc++B e) (wrap64 (wrap64 (((pre.length+1:Nat):Int)+((B a).size:Int))+1))) _
              rw [B_size,w64 (n:=((pre.length+1:Nat):Int)+(a.length:Int)) (by omega) (by omega),w64 (by omega) (by omega)]
              have:=ih t (pre++38 :: (a ++ [59])) (acc++B e) (by omega) (by rw [hp,ht];simp) (by rw [bz,B_size];omega)
              have e1:(((pre++(38:UInt8) :: (a ++ [59])).length:Nat):Int)=((pre.length+1:Nat):Int)+(a.length:Int)+1:=by rw [List.length_append,List.length_cons,List.length_append,List.length_cons,List.length_nil];omega
              rw [e1] at this
              exact ev_eq this (unR_key acc e _)
        · have hb38:¬ bt s (pre.length:Int)=38:=by rw [hbt];intro e;exact c38 (toNat_eq.mp (show(c.toNat:Int)=((38:UInt8).toNat:Int) from e))
          rw [if_neg c38]
          refine Ev.step (fun k=>ru_on hlt hs (by omega) hb13 hb38 (ext_one s pre l c hp) (by rw [B_size];simp)) ?_
          have:=ih l (pre ++ [c]) (acc++B [c]) (by omega) hp1 (by rw [bz,B_size,List.length_cons,List.length_nil];omega)
          rw [hl1] at this
          exact ev_eq this (unR_key acc [c] _)
theorem unD_fuel (k:Nat) (k':Nat) (l:List UInt8) (h:l.length<k) (h':l.length<k'):unD k l=unD k' l:=by
  have:=nrm_len l
  rw [unD_eq k l h,unD_eq k' l h',unL_fuel k k' _ (by omega) (by omega)]
theorem runescape_ev (s:ByteArray) (hs:s.size≤4000000):Ev (fun k=>stowageref13_Unescape.f k s) (unR ⟨#[]⟩ (unL ((nrm s.toList).length+1) (nrm s.toList))):=by
  have hsl:=length_toList s
  have hl:=nrm_len s.toList
  simp only [stowageref13_Unescape.f]
  refine ev_eq (und_l0 s hs (s.toList.length+1) s.toList [] ⟨#[]⟩ (Nat.lt_succ_self _) rfl (by show 0+_≤_;omega)) ?_
  rw [unD_eq _ _ (by omega),unL_fuel _ ((nrm s.toList).length+1) _ (by omega) (by omega)]
theorem awake_60:stowagelaw13_awake.f 60=some true:=by decide +kernel
theorem awb:Ev (fun k=>(stowagelaw13_awake.f k).bind fun t=>some t) true:=Ev.bind (Ev.of (fun k=>stowagelaw13_awake.mono k) awake_60) (Ev.now _)
theorem XmlTextsUpto (s:ByteArray) (hs:s.size≤1048576):∃ k,stowagelaw13_XmlTexts.f k s=some true:=by
  apply Ev.rounds
  simp only [stowagelaw13_XmlTexts.f]
  refine Ev.bind (unescape_ev s (by omega)) (Ev.bind (runescape_ev s (by omega)) (Ev.bind (xname_ev s (by omega)) (Ev.bind (rname_ev s (by omega)) (ev_pos (beq_self_eq_true _) ?_))))
  refine ev_some (esc_a s (by omega)) (Ev.bind (resc_ev s (by omega)) (ev_pos rfl (ev_pos rfl (ev_pos (beq_self_eq_true _) awb))))
end Go.Proofs.YtklcgncaclggcaaDoor.Pure
