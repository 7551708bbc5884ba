/- A part of the proof of the seat's laws. No condition beyond those in the theorems. -/
import Derived.Test.YtklcgncaclggcaaDoorRows
import Derived.Test.YtklcgncaclggcaaDoorZBase
import Derived.Shelf.Vars
import Derived.RowKit
import Derived.LaidLaws
import Derived.Stop.Joined
import Derived.Test.YtklcgncaclggcaaDoorV1
import Derived.Laws.Strings
import Derived.Lib.Bytealg
import Derived.Test.YtklcgncaclggcaaDoorZRepS
import Derived.Lib.DecodeN
import Derived.Test.YtklcgncaclggcaaDoorZQ74g6

namespace Go.Proofs.YtklcgncaclggcaaDoor.Q
open Go.ChangeShapes Go.WideShapes Go.RowKit
abbrev laidList : List (String × DataW Unit) := [("unicode/utf8.acceptRanges", Rows.laid_unicode_utf8_acceptRanges), ("unicode/utf8.first", Rows.laid_unicode_utf8_first)]
noncomputable def laidWorld (os:Os):World:=
  let w0:=World.holding Tryd.prog os ⟨#[],#[],[]⟩
  { w0 with heap:=(w0.heap.modify 1 fun
      | .cells _ t frozen=>.cells (Go.Pinned.utf8FirstZ.map fun (n:Nat)=>Value.int .u8 (n:Int)).toArray t frozen
      | o=>o).modify 2 fun
      | .cells _ t frozen=>.cells (([128,191,160,191,128,159,144,191,128,143]++List.replicate 22 0:List Nat).map fun (n:Nat)=>Value.int .u8 (n:Int)).toArray t frozen
      | o=>o}
theorem laid_met0 (os:Os) (args:Array Value):laidMet Tryd.prog laidList ((laidWorld os).forCall (fun _ _=>0) ⟨#[],args,[]⟩).memory:=
  laidMet_of_run' 8 (by kernel_rfl) (by kernel_rfl)
theorem laid_met (os:Os) (args:Array Value):laidMetH Tryd.prog laidList ((laidWorld os).forCall (fun _ _=>0) ⟨#[],args,[]⟩).memory:=laid_met0 os args
theorem gok_laid {W:World} (_:laidMetH Tryd.prog laidList W) (h:W.ShapedOpen Tryd.prog):GOk W:=
  Go.Proofs.cell_of_shapedOpen_int (zero:=#[.int .i64 0]) (t:=3) h (of_decide_eq_true (by kernel_rfl)) (by kernel_rfl) rfl (by kernel_rfl) (by kernel_rfl) Tryd.underlying3
end Go.Proofs.YtklcgncaclggcaaDoor.Q


namespace Go.Proofs.YtklcgncaclggcaaDoor.Pure
open Go.RowKit Go.Proofs.YtklcgncaclggcaaDoorW.PrintWords
set_option linter.unusedVariables false
set_option linter.unusedSimpArgs false
theorem ev_pos {α:Type} {c:Prop} [Decidable c] {f g:Nat→Option α} {r:α} (hc:c) (h:Ev f r):Ev (fun k=>if c then f k else g k) r:=
  Ev.congr (fun _=>if_pos hc) h
theorem ev_neg {α:Type} {c:Prop} [Decidable c] {f g:Nat→Option α} {r:α} (hc:¬ c) (h:Ev g r):Ev (fun k=>if c then f k else g k) r:=
  Ev.congr (fun _=>if_neg hc) h
theorem ev_eq {α:Type} {g:Nat→Option α} {r r':α} (h:Ev g r) (e:r=r'):Ev g r':=e▸h
theorem ev_some {α β:Type} {o:Option α} {a:α} {f:Nat→α→Option β} {r:β} (h:o=some a) (k:Ev (fun n=>f n a) r):Ev (fun n=>o.bind (f n)) r:=by subst h;exact k
theorem w64 {n:Int} (h:-9000000000000000000≤n) (h':n≤9000000000000000000):wrap64 n=n:=by unfold wrap64;omega
theorem wf_bd {a:Int} (h:(Lit.int .i64 a).wf=true):-9223372036854775808≤a∧a≤9223372036854775807:=by
  simp [Lit.wf] at h
  have e1:IntKind.i64.min = -9223372036854775808:=by kernel_rfl
  have e2:IntKind.i64.max=9223372036854775807:=by kernel_rfl
  omega
theorem toList_inj {a b:ByteArray} (h:a.toList=b.toList):a=b:=by
  rw [ByteArray.toList_eq,ByteArray.toList_eq] at h
  exact ByteArray.ext (Array.toList_inj.mp h)
theorem toList_extract (a:ByteArray) (i j:Nat):(a.extract i j).toList=(a.toList.take j).drop i:=by
  rw [ByteArray.toList_eq,ByteArray.toList_eq,ByteArray.data_extract,Array.toList_extract,List.extract_eq_take_drop,List.drop_take]
theorem toList_append (a b:ByteArray):(a++b).toList=a.toList++b.toList:=by
  rw [ByteArray.toList_eq,ByteArray.toList_eq,ByteArray.toList_eq,ByteArray.data_append,Array.toList_append]
theorem length_toList (a:ByteArray):a.toList.length=a.size:=by rw [ByteArray.toList_eq,Array.length_toList];rfl
theorem bt_get (s:ByteArray) (i:Nat) (h:i<s.toList.length):bt s i=(s.toList[i].toNat:Int):=by
  unfold bt
  rw [dif_pos (show((i:Nat):Int).toNat<s.size by rw [length_toList] at h;omega)]
  congr 1
  simp only [Int.toNat_natCast]
  have e:s.toList=s.data.toList:=ByteArray.toList_eq s
  simp only [e,Array.getElem_toList]
  rfl
theorem bt_drop (s:ByteArray) (i:Nat) (c:UInt8) (l:List UInt8) (h:s.toList.drop i=c :: l):bt s i=(c.toNat:Int)∧i<s.size:=by
  have hi:i<s.toList.length:=by
    have:=congrArg List.length h
    rw [List.length_drop,List.length_cons] at this
    omega
  refine⟨?_,by rw [← length_toList];exact hi⟩
  rw [bt_get s i hi]
  rw [List.drop_eq_getElem_cons hi] at h
  rw [(List.cons.inj h).1]
def B (l:List UInt8):ByteArray:=⟨l.toArray⟩
theorem B_toList (l:List UInt8):(B l).toList=l:=by rw [ByteArray.toList_eq];rfl
theorem of_B (s:ByteArray):B s.toList=s:=toList_inj (B_toList _)
theorem B_size (l:List UInt8):(B l).size=l.length:=by rw [← length_toList,B_toList]
theorem B_extract (l:List UInt8) (i j:Nat):(B l).extract i j=B ((l.take j).drop i):=by
  apply toList_inj
  rw [toList_extract,B_toList,B_toList]
theorem B_append (a b:List UInt8):B a++B b=B (a++b):=by
  apply toList_inj
  rw [toList_append,B_toList,B_toList,B_toList]
theorem B_inj {a b:List UInt8} (h:B a=B b):a=b:=by
  have:=congrArg ByteArray.toList h
  rwa [B_toList,B_toList] at this
theorem bt_B (l:List UInt8) (i:Nat) (c:UInt8) (h:l[i]? = some c):bt (B l) (i:Int)=(c.toNat:Int):=by
  obtain⟨hi,e⟩:=List.getElem?_eq_some_iff.mp h
  have hi':i<(B l).toList.length:=by rw [B_toList];exact hi
  rw [bt_get _ i hi']
  simp only [B_toList,e]
theorem toNat_eq {c d:UInt8}:(c.toNat:Int)=(d.toNat:Int)↔c=d:=by
  constructor
  · intro h;exact UInt8.toNat_inj.mp (Int.ofNat_inj.mp h)
  · intro h;rw [h]
open Go.RowKit Go.Proofs.YtklcgncaclggcaaDoor.Q Go.Proofs.YtklcgncaclggcaaDoorW.PrintWords Go.Proofs.YtklcgncaclggcaaDoorW.PrintLast
theorem bt_pre (s:ByteArray) (pre l:List UInt8) (c:UInt8) (h:s.toList=pre++c :: l):bt s (pre.length:Int)=(c.toNat:Int)∧pre.length<s.size:=by
  apply bt_drop s pre.length c l
  rw [h,List.drop_left']
  rfl
theorem pre_end (s:ByteArray) (pre:List UInt8) (h:s.toList=pre ++ []):s.size=pre.length:=by rw [← length_toList,h,List.append_nil]
theorem pre_le (s:ByteArray) (pre l:List UInt8) (h:s.toList=pre++l):pre.length+l.length=s.size:=by rw [← length_toList,h,List.length_append]
theorem pre_next (pre:List UInt8) (c:UInt8) (n:Nat) (h:pre.length<n) (hn:n≤9000000000000000000):wrap64 ((pre.length:Int)+1)=((pre ++ [c]).length:Int):=by
  rw [w64 (by omega) (by omega),List.length_append]
  simp
theorem pre_app (s:ByteArray) (pre l:List UInt8) (c:UInt8) (h:s.toList=pre++c :: l):s.toList=(pre ++ [c])++l:=by rw [h];simp
def tailL:List UInt8→Nat→Nat→Option Nat
  | _,0,v=>some v
  | [],_+1,_=>none
  | b :: l,j+1,v=>if 128≤b.toNat∧b.toNat<192 then tailL l j (64*v+(b.toNat-128)) else none
def finL (v m n:Nat):Nat×Nat:=if v<m∨1114111<v∨(55296≤v∧v<57344) then(0,0) else(v,n)
def seqL (l:List UInt8) (j v m:Nat):Nat×Nat:=match tailL l j v with|none=>(0,0)|some v=>finL v m (j+1)
def stL:List UInt8→Nat×Nat
  | []=>(0,0)
  | b :: l=>if b.toNat<128 then(b.toNat,1) else if b.toNat<192 then(0,0) else if b.toNat<224 then seqL l 1 (b.toNat-192) 128 else if b.toNat<240 then seqL l 2 (b.toNat-224) 2048 else if b.toNat<248 then seqL l 3 (b.toNat-240) 65536 else(0,0)
def iP (p:Nat×Nat):Int×Int:=(p.1,p.2)
theorem tailL_short (l:List UInt8):∀ j v,l.length<j→tailL l j v=none:=by
  induction l with
  | nil=>intro j v h;cases j with|zero=>simp at h|succ j=>rfl
  | cons b l ih=>
    intro j v h
    cases j with
    | zero=>simp at h
    | succ j=>
      rw [tailL]
      split
      · exact ih j _ (by simpa using h)
      · rfl
theorem tailL_more (l m:List UInt8):∀ j v r,tailL l j v=some r→tailL (l++m) j v=some r:=by
  induction l with
  | nil=>
    intro j v r h
    cases j with
    | zero=>simpa [tailL] using h
    | succ j=>simp [tailL] at h
  | cons b l ih=>
    intro j v r h
    cases j with
    | zero=>simpa [tailL] using h
    | succ j=>
      rw [tailL] at h
      rw [List.cons_append,tailL]
      split at h
      · rename_i c;rw [if_pos c];exact ih j _ r h
      · exact absurd h (by simp)
theorem tailL_len (l:List UInt8) (j v r:Nat) (h:tailL l j v=some r):j≤l.length:=by
  by_cases c:l.length<j
  · rw [tailL_short l j v c] at h;exact absurd h (by simp)
  · omega
theorem step_l0 (s:ByteArray) (hs:s.size≤1000000000000000) (m:Nat) (j:Nat):∀ (pre l:List UInt8) (v:Nat),s.toList=pre++l→j≤l.length→(v+1)*64 ^ j≤1000000000000000 →
    Ev (fun k=>stowageref3_Step.l0 k s ((pre.length+j:Nat):Int) (v:Int) (m:Int) (pre.length:Int)) (iP (match tailL l j v with|none=>(0,0)|some v=>finL v m (pre.length+j))):=by
  induction j with
  | zero=>
    intro pre l v h hj hv
    have e0:tailL l 0 v=some v:=by cases l <;> rfl
    rw [e0]
    refine Ev.step (f:=fun _=>some (iP (finL v m (pre.length+0)))) (fun k=>?_) (Ev.now _)
    rw [stowageref3_Step.l0,if_neg (by omega),finL]
    by_cases c:v<m∨1114111<v∨(55296≤v∧v<57344)
    · rw [if_pos c]
      by_cases c1:(v:Int)<(m:Int)
      · rw [if_pos c1];rfl
      · rw [if_neg c1]
        by_cases c2:(v:Int)>1114111
        · rw [if_pos c2];rfl
        · rw [if_neg c2,if_pos (by omega),if_pos (by omega)];rfl
    · rw [if_neg c,if_neg (by omega),if_neg (by omega)]
      by_cases c3:(v:Int) ≥ 55296
      · rw [if_pos c3,if_neg (by omega)];rfl
      · rw [if_neg c3];rfl
  | succ j ih=>
    intro pre l v h hj hv
    cases l with
    | nil=>simp at hj
    | cons c l=>
      obtain⟨hb,hl⟩:=bt_pre s pre l c h
      have hn:=pre_next pre c s.size hl (by omega)
      have happ:=pre_app s _ l c h
      have hc:=c.toNat_lt
      have hp:1≤64 ^ j:=Nat.one_le_pow _ _ (by omega)
      have hv1:(v+1)*64 ^ (j+1)=(64*(v+1))*64 ^ j:=by rw [Nat.pow_succ];rw [Nat.mul_comm (64 ^ j) 64,← Nat.mul_assoc,Nat.mul_comm (v+1) 64]
      have hv2:64*(v+1)≤(64*(v+1))*64 ^ j:=Nat.le_mul_of_pos_right _ hp
      rw [tailL]
      by_cases g:128≤c.toNat∧c.toNat<192
      · rw [if_pos g]
        have hlen:((pre ++ [c]).length+j:Nat)=pre.length+(j+1):=by simp;omega
        have hm:(64*v+(c.toNat-128)+1)*64 ^ j≤(64*(v+1))*64 ^ j:=Nat.mul_le_mul_right _ (by omega)
        have h':=ih (pre ++ [c]) l (64*v+(c.toNat-128)) happ (by simpa using hj) (by omega)
        rw [hlen] at h'
        refine Ev.step (fun k=>?_) h'
        have ew:wrap64 (wrap64 (wrap64 (64*(v:Int))+wrap64 (c.toNat:Int))-128)=((64*v+(c.toNat-128):Nat):Int):=by
          rw [w64 (n:=64*(v:Int)) (by omega) (by omega),w64 (n:=(c.toNat:Int)) (by omega) (by omega),w64 (n:=64*(v:Int)+(c.toNat:Int)) (by omega) (by omega),w64 (by omega) (by omega)]
          omega
        rw [stowageref3_Step.l0,if_pos (by omega),if_pos (by omega),if_pos (by omega),hb,if_neg (by omega),if_neg (by omega),ew,hn]
      · rw [if_neg g]
        refine Ev.step (f:=fun _=>some ((0:Int),(0:Int))) (fun k=>?_) (Ev.now _)
        rw [stowageref3_Step.l0,if_pos (by omega),if_pos (by omega),if_pos (by omega),hb]
        by_cases g1:(c.toNat:Int)<128
        · rw [if_pos g1]
        · rw [if_neg g1,if_pos (by omega)]
theorem step_j2 (s:ByteArray) (hs:s.size≤1000000000000000) (c:UInt8) (l:List UInt8) (h:s.toList=c :: l) (j v m:Nat) (hv:(v+1)*64 ^ j≤1000000000000000) :
    Ev (fun k=>stowageref3_Step.j2 k s ((j+1:Nat):Int) (v:Int) (m:Int)) (iP (seqL l j v m)):=by
  have hz:l.length+1=s.size:=by rw [← length_toList,h];rfl
  unfold seqL
  by_cases g:l.length<j
  · rw [tailL_short l j v g]
    exact Ev.step (f:=fun _=>some ((0:Int),(0:Int))) (fun k=>by rw [stowageref3_Step.j2,if_pos (by omega)]) (Ev.now _)
  · have h':=step_l0 s hs m j [c] l v h (by omega) hv
    rw [show [c].length+j=j+1 by rw [List.length_singleton];omega] at h'
    exact Ev.step (fun k=>by rw [stowageref3_Step.j2,if_neg (by omega)];rfl) h'
theorem step_ev (s:ByteArray) (hs:s.size≤1000000000000000) (c:UInt8) (l:List UInt8) (h:s.toList=c :: l):Ev (fun k=>stowageref3_Step.f k s) (iP (stL s.toList)):=by
  have hz:l.length+1=s.size:=by rw [← length_toList,h];rfl
  obtain⟨hb,hl⟩:=bt_pre s [] l c h
  have hb':bt s 0=(c.toNat:Int):=hb
  have hc:=c.toNat_lt
  have hw:wrap64 (c.toNat:Int)=(c.toNat:Int):=w64 (by omega) (by omega)
  rw [h,stL]
  unfold stowageref3_Step.f
  refine ev_pos (by omega) ?_
  simp only [hb',hw]
  by_cases c1:c.toNat<128
  · rw [if_pos c1]
    exact ev_pos (by omega) (Ev.now _)
  · rw [if_neg c1]
    refine ev_neg (by omega) ?_
    by_cases c2:c.toNat<192
    · rw [if_pos c2]
      refine ev_neg (by omega) ?_
      refine Ev.step (f:=fun k=>stowageref3_Step.j1 k s (c.toNat:Int) false) (fun k=>by rw [stowageref3_Step.j0,if_neg (by decide),if_neg (by omega)]) ?_
      exact Ev.step (f:=fun _=>some ((0:Int),(0:Int))) (fun k=>by rw [stowageref3_Step.j1,if_neg (by decide),if_neg (by omega)]) (Ev.now _)
    · rw [if_neg c2]
      refine ev_pos (by omega) ?_
      by_cases c3:c.toNat<224
      · rw [if_pos c3]
        refine Ev.step (fun k=>?_) (step_j2 s hs c l h 1 (c.toNat-192) 128 (by omega))
        rw [stowageref3_Step.j0,if_pos (by rw [decide_eq_true_eq];omega),w64 (by omega) (by omega),show(c.toNat:Int)-192=((c.toNat-192:Nat):Int) by omega]
        rfl
      · rw [if_neg c3]
        by_cases c4:c.toNat<240
        · rw [if_pos c4]
          refine Ev.step (f:=fun k=>stowageref3_Step.j1 k s (c.toNat:Int) true) (fun k=>by rw [stowageref3_Step.j0,if_neg (by rw [decide_eq_true_eq];omega),if_pos (by omega),decide_eq_true (by omega)]) ?_
          refine Ev.step (fun k=>?_) (step_j2 s hs c l h 2 (c.toNat-224) 2048 (by omega))
          rw [stowageref3_Step.j1,if_pos rfl,w64 (by omega) (by omega),show(c.toNat:Int)-224=((c.toNat-224:Nat):Int) by omega]
          rfl
        · rw [if_neg c4]
          refine Ev.step (f:=fun k=>stowageref3_Step.j1 k s (c.toNat:Int) false) (fun k=>by rw [stowageref3_Step.j0,if_neg (by rw [decide_eq_true_eq];omega),if_pos (by omega),decide_eq_false (by omega)]) ?_
          by_cases c5:c.toNat<248
          · rw [if_pos c5]
            refine Ev.step (fun k=>?_) (step_j2 s hs c l h 3 (c.toNat-240) 65536 (by omega))
            rw [stowageref3_Step.j1,if_neg (by decide),if_pos (by omega),if_pos (by omega),w64 (by omega) (by omega),show(c.toNat:Int)-240=((c.toNat-240:Nat):Int) by omega]
            rfl
          · rw [if_neg c5]
            exact Ev.step (f:=fun _=>some ((0:Int),(0:Int))) (fun k=>by rw [stowageref3_Step.j1,if_neg (by decide),if_pos (by omega),if_neg (by omega)]) (Ev.now _)
theorem finL_cases (v m n:Nat):finL v m n=(0,0)∨finL v m n=(v,n):=by
  unfold finL;split
  · exact .inl rfl
  · exact .inr rfl
theorem seqL_cases (l:List UInt8) (j v m:Nat):seqL l j v m=(0,0) ∨ ∃ r,tailL l j v=some r∧seqL l j v m=(r,j+1):=by
  unfold seqL
  cases h:tailL l j v with
  | none=>exact .inl rfl
  | some r=>
    rcases finL_cases r m (j+1) with e|e
    · exact .inl e
    · exact .inr ⟨r,rfl,e⟩
theorem seqL_more (l t:List UInt8) (j v m:Nat) (h:(seqL l j v m).2≠0):seqL (l++t) j v m=seqL l j v m:=by
  unfold seqL at h ⊢
  cases e:tailL l j v with
  | none=>rw [e] at h;simp at h
  | some r=>rw [tailL_more l t j v r e]
theorem seqL_wid (l:List UInt8) (j v m:Nat):(seqL l j v m).2≤l.length+1:=by
  rcases seqL_cases l j v m with e|⟨r,hr,e⟩
  · rw [e];simp
  · rw [e];have:=tailL_len l j v r hr;simp;omega
theorem stL_more (l t:List UInt8) (h:(stL l).2≠0):stL (l++t)=stL l:=by
  cases l with
  | nil=>simp [stL] at h
  | cons b l=>
    rw [stL] at h
    rw [List.cons_append,stL,stL]
    split
    · rfl
    · rename_i c1
      rw [if_neg c1] at h
      split
      · rfl
      · rename_i c2
        rw [if_neg c2] at h
        split
        · rename_i c3;rw [if_pos c3] at h;exact seqL_more l t _ _ _ h
        · rename_i c3
          rw [if_neg c3] at h
          split
          · rename_i c4;rw [if_pos c4] at h;exact seqL_more l t _ _ _ h
          · rename_i c4
            rw [if_neg c4] at h
            split
            · rename_i c5;rw [if_pos c5] at h;exact seqL_more l t _ _ _ h
            · rfl
theorem stL_wid (b:UInt8) (l:List UInt8):(stL (b :: l)).2≤l.length+1:=by
  rw [stL]
  (repeat' split) <;> first|exact seqL_wid _ _ _ _|simp
def dL (l:List UInt8):Nat×Nat:=Lib.decodeN l.length (l.getD 0 0).toNat (l.getD 1 0).toNat (l.getD 2 0).toNat (l.getD 3 0).toNat
def Same (a d:Nat×Nat):Prop:=(a.2=0∧d=(65533,1))∨(a.2≠0∧d=a∧¬ d=(65533,1))
theorem finL_same (v m n:Nat) (P:Prop) [Decidable P] (hm:128≤m) (hn:2≤n) (hP:P↔¬ (v<m∨1114111<v∨(55296≤v∧v<57344))):Same (finL v m n) (if P then(v,n) else(65533,1)):=by
  unfold finL Same
  by_cases c:v<m∨1114111<v∨(55296≤v∧v<57344)
  · rw [if_pos c,if_neg (by rw [hP];exact fun h=>h c)];exact .inl ⟨rfl,rfl⟩
  · rw [if_neg c,if_pos (hP.mpr c)]
    refine .inr ⟨by simp only;omega,rfl,?_⟩
    intro e
    have:=congrArg Prod.snd e
    simp only at this
    omega
theorem nil_same:Same (0,0) (65533,1):=.inl ⟨rfl,rfl⟩
theorem dec2 (b:UInt8) (l:List UInt8) (h1:192≤b.toNat) (h2:b.toNat<224):Same (seqL l 1 (b.toNat-192) 128) (dL (b :: l)):=by
  unfold dL Lib.decodeN seqL
  rw [List.getD_cons_zero,if_neg (by omega)]
  cases l with
  | nil=>
    rw [if_neg (by simp),if_neg (by omega),if_neg (by omega)]
    exact nil_same
  | cons c l=>
    have hc:=c.toNat_lt
    have e1:((b :: c :: l).getD 1 0).toNat=c.toNat:=by simp
    rw [e1,tailL]
    by_cases g:128≤c.toNat∧c.toNat<192
    · have ht:∀ v,tailL l 0 v=some v:=fun v=>by cases l <;> rfl
      rw [if_pos g,ht,if_pos ⟨by omega,by simp,by omega⟩]
      have ev:b.toNat % 32*64+c.toNat % 64=64*(b.toNat-192)+(c.toNat-128):=by omega
      rw [ev]
      exact finL_same _ _ _ _ (by omega) (by omega) (by omega)
    · rw [if_neg g,if_neg (by intro h;omega),if_neg (by omega),if_neg (by omega)]
      exact nil_same
theorem dec3 (b:UInt8) (l:List UInt8) (h1:224≤b.toNat) (h2:b.toNat<240):Same (seqL l 2 (b.toNat-224) 2048) (dL (b :: l)):=by
  unfold dL Lib.decodeN seqL
  rw [List.getD_cons_zero,if_neg (by omega),if_neg (by omega)]
  match l with
  | []=>
    rw [if_neg (by simp),if_neg (by omega)]
    exact nil_same
  | [c]=>
    have e:tailL [c] 2 (b.toNat-224)=none:=tailL_short _ _ _ (by simp)
    rw [e,if_neg (by simp),if_neg (by omega)]
    exact nil_same
  | c :: d :: l=>
    have hc:=c.toNat_lt
    have hd:=d.toNat_lt
    have e1:((b :: c :: d :: l).getD 1 0).toNat=c.toNat:=by simp
    have e2:((b :: c :: d :: l).getD 2 0).toNat=d.toNat:=by simp
    rw [e1,e2,tailL]
    by_cases g:128≤c.toNat∧c.toNat<192
    · rw [if_pos g,tailL]
      by_cases g2:128≤d.toNat∧d.toNat<192
      · have ht:∀ v,tailL l 0 v=some v:=fun v=>by cases l <;> rfl
        rw [if_pos g2,ht,if_pos ⟨by omega,⟨by simp,by omega⟩,⟨by simp,by omega⟩⟩]
        have ev:b.toNat % 16*4096+c.toNat % 64*64+d.toNat % 64=64*(64*(b.toNat-224)+(c.toNat-128))+(d.toNat-128):=by omega
        rw [ev]
        exact finL_same _ _ _ _ (by omega) (by omega) (by omega)
      · rw [if_neg g2,if_neg (by intro h;omega),if_neg (by omega)]
        exact nil_same
    · rw [if_neg g,if_neg (by intro h;omega),if_neg (by omega)]
      exact nil_same
theorem dec4 (b:UInt8) (l:List UInt8) (h1:240≤b.toNat) (h2:b.toNat<248):Same (seqL l 3 (b.toNat-240) 65536) (dL (b :: l)):=by
  unfold dL Lib.decodeN seqL
  rw [List.getD_cons_zero,if_neg (by omega),if_neg (by omega),if_neg (by omega)]
  match l with
  | []=>
    rw [if_neg (by simp)]
    exact nil_same
  | [c]=>
    have e:tailL [c] 3 (b.toNat-240)=none:=tailL_short _ _ _ (by simp)
    rw [e,if_neg (by simp)]
    exact nil_same
  | [c,d]=>
    have e:tailL [c,d] 3 (b.toNat-240)=none:=tailL_short _ _ _ (by simp)
    rw [e,if_neg (by simp)]
    exact nil_same
  | c :: d :: x :: l=>
    have hc:=c.toNat_lt
    have hd:=d.toNat_lt
    have hx:=x.toNat_lt
    have e1:((b :: c :: d :: x :: l).getD 1 0).toNat=c.toNat:=by simp
    have e2:((b :: c :: d :: x :: l).getD 2 0).toNat=d.toNat:=by simp
    have e3:((b :: c :: d :: x :: l).getD 3 0).toNat=x.toNat:=by simp
    rw [e1,e2,e3,tailL]
    by_cases g:128≤c.toNat∧c.toNat<192
    · rw [if_pos g,tailL]
      by_cases g2:128≤d.toNat∧d.toNat<192
      · rw [if_pos g2,tailL]
        by_cases g3:128≤x.toNat∧x.toNat<192
        · have ht:∀ v,tailL l 0 v=some v:=fun v=>by cases l <;> rfl
          rw [if_pos g3,ht,if_pos ⟨by omega,⟨by simp,by omega⟩,⟨by simp,by omega⟩,⟨by simp,by omega⟩⟩]
          have ev:b.toNat % 8*262144+c.toNat % 64*4096+d.toNat % 64*64+x.toNat % 64=64*(64*(64*(b.toNat-240)+(c.toNat-128))+(d.toNat-128))+(x.toNat-128):=by omega
          rw [ev]
          exact finL_same _ _ _ _ (by omega) (by omega) (by omega)
        · rw [if_neg g3,if_neg (by intro h;omega)]
          exact nil_same
      · rw [if_neg g2,if_neg (by intro h;omega)]
        exact nil_same
    · rw [if_neg g,if_neg (by intro h;omega)]
      exact nil_same
theorem dec_same (b:UInt8) (l:List UInt8):Same (stL (b :: l)) (dL (b :: l)):=by
  have hb:=b.toNat_lt
  rw [stL]
  by_cases c1:b.toNat<128
  · rw [if_pos c1]
    unfold dL Lib.decodeN
    rw [List.getD_cons_zero,if_pos c1]
    refine .inr ⟨by simp,rfl,?_⟩
    intro e
    have:=congrArg Prod.fst e
    simp only at this
    omega
  · rw [if_neg c1]
    by_cases c2:b.toNat<192
    · rw [if_pos c2]
      unfold dL Lib.decodeN
      rw [List.getD_cons_zero,if_neg c1,if_neg (by omega),if_neg (by omega),if_neg (by omega)]
      exact nil_same
    · rw [if_neg c2]
      by_cases c3:b.toNat<224
      · rw [if_pos c3];exact dec2 b l (by omega) c3
      · rw [if_neg c3]
        by_cases c4:b.toNat<240
        · rw [if_pos c4];exact dec3 b l (by omega) c4
        · rw [if_neg c4]
          by_cases c5:b.toNat<248
          · rw [if_pos c5];exact dec4 b l (by omega) c5
          · rw [if_neg c5]
            unfold dL Lib.decodeN
            rw [List.getD_cons_zero,if_neg c1,if_neg (by omega),if_neg (by omega),if_neg (by omega)]
            exact nil_same
theorem get_list (s:ByteArray) (i:Nat):s.get! i=s.toList.getD i 0:=by
  rw [ByteArray.toList_eq]
  show s.data[i]! = _
  rw [List.getD_eq_getElem?_getD,Array.getElem!_eq_getD,Array.getD_eq_getD_getElem?,Array.getElem?_toList]
  rfl
theorem dec_at (s:ByteArray) (pos:Nat):Utf8.decode s pos=dL (s.toList.drop pos):=by
  rw [Lib.decode_at,get_list,get_list,get_list,get_list]
  unfold dL
  rw [List.length_drop,length_toList]
  have hd:∀ i,(s.toList.drop pos).getD i 0=s.toList.getD (pos+i) 0:=by
    intro i
    rw [List.getD_eq_getElem?_getD,List.getD_eq_getElem?_getD,List.getElem?_drop]
  rw [hd,hd,hd,hd]
  rfl
def cO:Nat→List UInt8→Option Nat
  | 0,_=>some 0
  | _+1,[]=>some 0
  | k+1,c :: l=>if(stL (c :: l)).2=0 then none else(cO k ((c :: l).drop (stL (c :: l)).2)).map (· + 1)
def cR (n:Nat):Option Nat→Int×Bool
  | none=>(0,false)
  | some m=>(((n+m:Nat):Int),true)
def lO:Nat→List UInt8→Bool
  | 0,_=>true
  | _+1,[]=>true
  | k+1,c :: l=>if(stL (c :: l)).2=0 then false else(chars_Legal.ok (stL (c :: l)).1 && lO k ((c :: l).drop (stL (c :: l)).2))
theorem own_at (s:ByteArray) (pos:Nat) (h:pos<s.size):((Utf8.decode s pos).1=65533∧chars_Count.own s pos=false)↔(stL (s.toList.drop pos)).2=0:=by
  have hlen:(s.toList.drop pos).length=s.size-pos:=by rw [List.length_drop,length_toList]
  have hown:chars_Count.own s pos=(decide (3≤(s.toList.drop pos).length) && ((s.toList.drop pos).take 3 == [239,191,189])):=by
    unfold chars_Count.own
    rw [hlen,toList_extract,toList_extract,List.take_of_length_le (l:=s.toList) (by rw [length_toList];omega),List.drop_zero]
  rw [dec_at,hown]
  cases hl:s.toList.drop pos with
  | nil=>rw [hl] at hlen;simp at hlen;omega
  | cons c l=>
    rcases dec_same c l with⟨e,d⟩|⟨e,d,dn⟩
    · rw [d,e]
      refine⟨fun _=>rfl,fun _=>⟨rfl,?_⟩⟩
      rw [Bool.and_eq_false_iff]
      by_cases g:(List.take 3 (c :: l) == [239,191,189])=true
      · exfalso
        have g':List.take 3 (c :: l) = [239,191,189]:=by simpa using g
        have:∃ t,c :: l = [239,191,189]++t:=⟨(c :: l).drop 3,by rw [← g',List.take_append_drop]⟩
        obtain⟨t,ht⟩:=this
        rw [ht] at e
        have h3:(stL [239,191,189]).2=3:=by decide
        rw [stL_more _ t (by rw [h3];decide),h3] at e
        exact absurd e (by decide)
      · right;simpa using g
    · rw [d]
      refine⟨fun ⟨h1,h2⟩=>?_,fun h0=>absurd h0 e⟩
      exfalso
      have hcases:=dn
      have key:c.toNat=239 ∧ ∃ x y t,l=x :: y :: t∧x.toNat=191∧y.toNat=189:=by
        have hc:=c.toNat_lt
        rw [stL] at h1 e
        by_cases c1:c.toNat<128
        · rw [if_pos c1] at h1;simp at h1;omega
        · rw [if_neg c1] at h1 e
          by_cases c2:c.toNat<192
          · rw [if_pos c2] at h1;simp at h1
          · rw [if_neg c2] at h1 e
            by_cases c3:c.toNat<224
            · rw [if_pos c3] at h1 e
              exfalso
              rcases seqL_cases l 1 (c.toNat-192) 128 with q|⟨r,hr,q⟩
              · rw [q] at h1;simp at h1
              · rw [q] at h1
                cases l with
                | nil=>simp [tailL] at hr
                | cons x l=>
                  have hx:=x.toNat_lt
                  rw [tailL] at hr
                  split at hr
                  · have ht:tailL l 0 (64*(c.toNat-192)+(x.toNat-128))=some (64*(c.toNat-192)+(x.toNat-128)):=by cases l <;> rfl
                    rw [ht] at hr
                    have:=Option.some.inj hr
                    simp only at h1
                    omega
                  · simp at hr
            · rw [if_neg c3] at h1 e
              by_cases c4:c.toNat<240
              · rw [if_pos c4] at h1 e
                rcases seqL_cases l 2 (c.toNat-224) 2048 with q|⟨r,hr,q⟩
                · rw [q] at h1;simp at h1
                · rw [q] at h1
                  match l with
                  | []=>simp [tailL] at hr
                  | [x]=>rw [tailL_short _ _ _ (by simp)] at hr;simp at hr
                  | x :: y :: t=>
                    have hx:=x.toNat_lt
                    have hy:=y.toNat_lt
                    rw [tailL] at hr
                    split at hr
                    · rw [tailL] at hr
                      split at hr
                      · have ht:∀ v,tailL t 0 v=some v:=fun v=>by cases t <;> rfl
                        rw [ht] at hr
                        have:=Option.some.inj hr
                        simp only at h1
                        exact⟨by omega,x,y,t,rfl,by omega,by omega⟩
                      · simp at hr
                    · simp at hr
              · rw [if_neg c4] at h1 e
                exfalso
                by_cases c5:c.toNat<248
                · rw [if_pos c5] at h1 e
                  have:seqL l 3 (c.toNat-240) 65536=(0,0)∨65536≤(seqL l 3 (c.toNat-240) 65536).1:=by
                    unfold seqL
                    cases tailL l 3 (c.toNat-240) with
                    | none=>exact .inl rfl
                    | some r=>
                      simp only [finL]
                      split
                      · exact .inl rfl
                      · right;simp only;omega
                  rcases this with q|q
                  · rw [q] at h1;simp at h1
                  · omega
                · rw [if_neg c5] at h1;simp at h1
      obtain⟨k0,x,y,t,rfl,kx,ky⟩:=key
      have e0:c=239:=UInt8.toNat_inj.mp (by rw [k0];rfl)
      have e1:x=191:=UInt8.toNat_inj.mp (by rw [kx];rfl)
      have e2:y=189:=UInt8.toNat_inj.mp (by rw [ky];rfl)
      subst e0 e1 e2
      simp at h2
theorem dec_good (s:ByteArray) (pos:Nat) (c:UInt8) (l:List UInt8) (h:s.toList.drop pos=c :: l) (g:¬ (stL (c :: l)).2=0):Utf8.decode s pos=stL (c :: l):=by
  rw [dec_at,h]
  rcases dec_same c l with⟨e,_⟩|⟨_,d,_⟩
  · exact absurd e g
  · exact d
theorem dec_bad (s:ByteArray) (pos:Nat) (c:UInt8) (l:List UInt8) (h:s.toList.drop pos=c :: l) (g:(stL (c :: l)).2=0):Utf8.decode s pos=(65533,1):=by
  rw [dec_at,h]
  rcases dec_same c l with⟨_,d⟩|⟨e,_,_⟩
  · exact d
  · exact absurd g e
theorem drop_nil (s:ByteArray) (pos:Nat) (h:s.toList.drop pos = []):¬ pos<s.size:=by
  have:=congrArg List.length h
  rw [List.length_drop,length_toList] at this
  simp at this
  omega
theorem drop_cons (s:ByteArray) (pos:Nat) (c:UInt8) (l:List UInt8) (h:s.toList.drop pos=c :: l):pos<s.size∧l.length+1=s.size-pos:=by
  have:=congrArg List.length h
  rw [List.length_drop,length_toList] at this
  simp at this
  omega
theorem g_cO (s:ByteArray) (fuel:Nat):∀ pos n,chars_Count.g s fuel pos (n:Nat)=cR n (cO fuel (s.toList.drop pos)):=by
  induction fuel with
  | zero=>intro pos n;rfl
  | succ k ih=>
    intro pos n
    cases hl:s.toList.drop pos with
    | nil=>rw [chars_Count.g,if_neg (drop_nil s pos hl),cO];rfl
    | cons c l=>
      obtain⟨hp,_⟩:=drop_cons s pos c l hl
      rw [chars_Count.g,if_pos hp,cO]
      by_cases g:(stL (c :: l)).2=0
      · rw [if_pos ((own_at s pos hp).mpr (by rw [hl];exact g)),if_pos g]
        rfl
      · rw [if_neg (fun h=>g (by have:=(own_at s pos hp).mp h;rwa [hl] at this)),if_neg g,dec_good s pos c l hl g]
        have:=ih (pos+(stL (c :: l)).2) (n+1)
        rw [← List.drop_drop,hl] at this
        rw [show((n:Nat):Int)+1=((n+1:Nat):Int) by omega,this]
        cases cO k ((c :: l).drop (stL (c :: l)).2) with
        | none=>rfl
        | some m=>simp only [cR,Option.map_some];rw [show n+1+m=n+(m+1) by omega]
theorem count_eq (s:ByteArray) (h:s.size≤9007199254740992):chars_Count.f s=some (cR 0 (cO s.size s.toList)):=by
  have:=g_cO s s.size 0 0
  rw [List.drop_zero] at this
  rw [chars_Count.f,if_pos h]
  exact congrArg some this
theorem valid_eq (s:ByteArray) (h:s.size≤9007199254740992):chars_Valid.f s=some (cO s.size s.toList).isSome:=by
  unfold chars_Valid.f
  rw [count_eq s h,Option.bind_some]
  cases cO s.size s.toList <;> rfl
theorem g_lO (s:ByteArray) (fuel:Nat):∀ pos,(chars_Legal.g s fuel pos && (cO fuel (s.toList.drop pos)).isSome)=lO fuel (s.toList.drop pos):=by
  have hok:chars_Legal.ok (65533:Nat)=true:=by decide
  induction fuel with
  | zero=>intro pos;rfl
  | succ k ih=>
    intro pos
    cases hl:s.toList.drop pos with
    | nil=>rw [chars_Legal.g,if_neg (drop_nil s pos hl),cO,lO];rfl
    | cons c l=>
      obtain⟨hp,_⟩:=drop_cons s pos c l hl
      rw [chars_Legal.g,if_pos hp,cO,lO]
      by_cases g:(stL (c :: l)).2=0
      · rw [if_pos g,if_pos g,Option.isSome_none,Bool.and_false]
      · rw [if_neg g,if_neg g,dec_good s pos c l hl g,Option.isSome_map]
        have:=ih (pos+(stL (c :: l)).2)
        rw [← List.drop_drop,hl] at this
        cases hk:chars_Legal.ok (((stL (c :: l)).1:Nat):Int)
        · rw [if_pos rfl];rfl
        · rw [if_neg (by decide),this,Bool.true_and]
theorem legal_eq (s:ByteArray) (h:s.size≤9007199254740992):chars_Legal.f s=some (lO s.size s.toList):=by
  have:=g_lO s s.size 0
  rw [List.drop_zero] at this
  rw [chars_Legal.f,if_pos h,← this]
  by_cases g:chars_Legal.g s s.size 0=true
  · rw [if_pos g,valid_eq s h,g,Bool.true_and]
  · rw [if_neg g]
    simp only [Bool.not_eq_true] at g
    rw [g,Bool.false_and]
theorem ext_list (s:ByteArray) (n:Nat):(s.extract n s.size).toList=s.toList.drop n:=by
  rw [toList_extract,List.take_of_length_le (by rw [length_toList];omega)]
theorem char_ok (c:Nat) (h:c≤1114111):stowageref3_Char.f (c:Int)=some (chars_Legal.ok (c:Int)):=by
  unfold stowageref3_Char.f chars_Legal.ok
  (repeat' split) <;> (congr 1;symm;first|(rw [decide_eq_true_eq];omega)|(rw [decide_eq_false_iff_not];omega)|(rw [decide_eq_true (by omega),decide_eq_true (by omega)]))
theorem st_max (b:UInt8) (l:List UInt8):(stL (b :: l)).1≤1114111:=by
  have hf:∀ v m n,(finL v m n).1≤1114111:=by
    intro v m n
    unfold finL
    split
    · simp
    · simp only;omega
  have hs:∀ l j v m,(seqL l j v m).1≤1114111:=by
    intro l j v m
    unfold seqL
    cases tailL l j v with
    | none=>simp
    | some r=>exact hf _ _ _
  have hb:=b.toNat_lt
  rw [stL]
  (repeat' split) <;> first|exact hs _ _ _ _|(simp only;omega)
theorem rlegal_l0 (fuel:Nat):∀ (s:ByteArray),s.size≤fuel→s.size≤1000000000000000→Ev (fun k=>stowageref3_Legal.l0 k s) (lO fuel s.toList):=by
  induction fuel with
  | zero=>
    intro s h hn
    exact Ev.step (f:=fun _=>some true) (fun k=>by rw [stowageref3_Legal.l0,if_neg (by omega)]) (Ev.now _)
  | succ f ih=>
    intro s h hn
    cases hl:s.toList with
    | nil=>
      have hz:s.size=0:=by rw [← length_toList,hl];rfl
      exact Ev.step (f:=fun _=>some true) (fun k=>by rw [stowageref3_Legal.l0,if_neg (by omega)]) (Ev.now _)
    | cons c l=>
      have hz:s.size=l.length+1:=by rw [← length_toList,hl];rfl
      have hs:=step_ev s (by omega) c l hl
      have hw:=stL_wid c l
      rw [hl] at hs
      rw [lO]
      refine Ev.step (f:=fun k=>(stowageref3_Step.f k s).bind fun bt250=>(if bt250.2=0 then(some false) else((stowageref3_Char.f bt250.1).bind fun t252=>(if t252=true then(if 0≤bt250.2 then(if bt250.2≤(s.size:Int) then(stowageref3_Legal.l0 k (s.extract (bt250.2:Int).toNat s.size)) else(none)) else(none)) else(some false))))) (fun k=>by rw [stowageref3_Legal.l0,if_pos (by omega)]) (Ev.bind hs ?_)
      simp only [iP]
      by_cases g:(stL (c :: l)).2=0
      · rw [if_pos g]
        exact ev_pos (by omega) (Ev.now _)
      · rw [if_neg g]
        refine ev_neg (by omega) (ev_some (char_ok _ (st_max c l)) ?_)
        cases hk:chars_Legal.ok (((stL (c :: l)).1:Nat):Int)
        · exact ev_neg (by decide) (Ev.now _)
        · refine ev_pos rfl (ev_pos (by omega) (ev_pos (by omega) ?_))
          simp only [Int.toNat_natCast]
          have hz2:(s.extract (stL (c :: l)).2 s.size).size=s.size-(stL (c :: l)).2:=by simp
          have h':=ih (s.extract (stL (c :: l)).2 s.size) (by omega) (by omega)
          rw [ext_list,hl] at h'
          exact h'
theorem rlegal_ev (s:ByteArray) (h:s.size≤1000000000000000):Ev (fun k=>stowageref3_Legal.f k s) (lO s.size s.toList):=rlegal_l0 s.size s (Nat.le_refl _) h
def letB (c:UInt8):Bool:=decide ((65≤c.toNat∧c.toNat≤90)∨(97≤c.toNat∧c.toNat≤122)∨c.toNat=95)
def inB (c:UInt8):Bool:=letB c || decide ((48≤c.toNat∧c.toNat≤57)∨c.toNat=45∨c.toNat=46)
theorem byte_all {P:UInt8→Prop} (h:∀ n:Fin 256,P (UInt8.ofNat n.val)) (c:UInt8):P c:=by
  have:=h ⟨c.toNat,c.toNat_lt⟩
  rwa [UInt8.ofNat_toNat] at this
theorem le_a (c:UInt8):xml_letter.f (c.toNat:Int)=some (letB c):=byte_all (P:=fun c=>xml_letter.f (c.toNat:Int)=some (letB c)) (by decide +kernel) c
theorem in_a (c:UInt8):xml_inner.f (c.toNat:Int)=some (inB c):=byte_all (P:=fun c=>xml_inner.f (c.toNat:Int)=some (inB c)) (by decide +kernel) c
theorem le_r (c:UInt8):stowageref13_letter.f (c.toNat:Int)=some (letB c):=byte_all (P:=fun c=>stowageref13_letter.f (c.toNat:Int)=some (letB c)) (by decide +kernel) c
theorem in_r (c:UInt8):stowageref13_inner.f (c.toNat:Int)=some (inB c):=byte_all (P:=fun c=>stowageref13_inner.f (c.toNat:Int)=some (inB c)) (by decide +kernel) c
def nmB:List UInt8→Bool
  | []=>false
  | c :: l=>letB c && l.all inB
theorem xname_l0 (s:ByteArray) (hs:s.size≤1000000000000000) (l:List UInt8):∀ pre,pre ≠ []→s.toList=pre++l→Ev (fun k=>xml_Name.l0 k s (s.size:Int) (pre.length:Int)) (l.all inB):=by
  induction l with
  | nil=>
    intro pre hp h
    have e:=pre_end s pre h
    refine Ev.step (f:=fun _=>some (s.toList != [])) (fun k=>by rw [xml_Name.l0,if_neg (by omega)]) (ev_eq (Ev.now _) ?_)
    rw [h]
    cases pre with
    | nil=>exact absurd rfl hp
    | cons=>rfl
  | cons c l ih=>
    intro pre hp h
    obtain⟨hb,hl⟩:=bt_pre s pre l c h
    have hn:=pre_next pre c s.size hl (by omega)
    have h0:¬ ((pre.length:Int)=0):=by
      cases pre with
      | nil=>exact absurd rfl hp
      | cons=>simp;omega
    refine Ev.step (f:=fun k=>if inB c=true then xml_Name.l0 k s (s.size:Int) ((pre ++ [c]).length:Int) else some false) (fun k=>?_) ?_
    · rw [xml_Name.l0,if_pos (by omega),if_pos (by omega),if_pos (by omega),hb,in_a,Option.bind_some,hn,if_neg h0]
    · by_cases g:inB c=true
      · exact ev_pos g (ev_eq (ih _ (by simp) (pre_app s pre l c h)) (by rw [List.all_cons,g,Bool.true_and]))
      · exact ev_neg g (ev_eq (Ev.now _) (by rw [List.all_cons];simp [g]))
theorem let_in {c:UInt8} (h:letB c=true):inB c=true:=by unfold inB;rw [h];rfl
theorem xname_ev (s:ByteArray) (hs:s.size≤1000000000000000):Ev (fun k=>xml_Name.f k s) (nmB s.toList):=by
  show Ev (fun k=>xml_Name.l0 k s (s.size:Int) 0) _
  have hz:=length_toList s
  cases hl:s.toList with
  | nil=>
    rw [hl] at hz
    refine Ev.step (f:=fun _=>some (s.toList != [])) (fun k=>by rw [xml_Name.l0,if_neg (by simp at hz;omega)]) (ev_eq (Ev.now _) ?_)
    rw [hl]
    rfl
  | cons c l=>
    have h:s.toList = []++c :: l:=hl
    obtain⟨hb,hlt⟩:=bt_pre s [] l c h
    have hn:=pre_next [] c s.size hlt (by omega)
    simp only [List.length_nil] at hb hlt hn
    refine Ev.step (f:=fun k=>if inB c=true then(if letB c=true then xml_Name.l0 k s (s.size:Int) (([] ++ [c]:List UInt8).length:Int) else some false) else some false) (fun k=>?_) ?_
    · rw [xml_Name.l0,if_pos (by omega),if_pos (by omega),if_pos (by omega)]
      rw [show bt s 0=(c.toNat:Int) from hb,in_a,Option.bind_some,if_pos rfl,le_a,Option.bind_some]
      rw [show wrap64 (0+1)=(([] ++ [c]:List UInt8).length:Int) from hn]
    · by_cases g:letB c=true
      · exact ev_pos (let_in g) (ev_pos g (ev_eq (xname_l0 s hs l _ (by simp) (pre_app s [] l c h)) (by rw [nmB,g,Bool.true_and])))
      · by_cases g2:inB c=true
        · exact ev_pos g2 (ev_neg g (ev_eq (Ev.now _) (by rw [nmB];simp [g])))
        · exact ev_neg g2 (ev_eq (Ev.now _) (by rw [nmB];simp [g]))
abbrev XN:=S24
abbrev RN:=S30
mutual
def nb:XN→Nat
  | ⟨a,b,l⟩=>a.size+b.size+nbl l+16
def nbl:List XN→Nat
  | []=>0
  | x :: xs=>nb x+nbl xs
end
mutual
def toN:XN→RN
  | ⟨a,b,l⟩=>⟨a,b,toNL l⟩
def toNL:List XN→List RN
  | []=>[]
  | x :: xs=>toN x :: toNL xs
end
theorem toNL_len (l:List XN):(toNL l).length=l.length:=by
  induction l with
  | nil=>rfl
  | cons x xs ih=>rw [toNL,List.length_cons,List.length_cons,ih]
theorem toNL_app (a b:List XN):toNL (a++b)=toNL a++toNL b:=by
  induction a with
  | nil=>rfl
  | cons x xs ih=>rw [List.cons_append,toNL,toNL,ih,List.cons_append]
theorem nbl_app (a b:List XN):nbl (a++b)=nbl a+nbl b:=by
  induction a with
  | nil=>rw [List.nil_append,nbl,Nat.zero_add]
  | cons x xs ih=>rw [List.cons_append,nbl,nbl,ih,Nat.add_assoc]
theorem nb_eq (n:XN):nb n=n.f0.size+n.f1.size+nbl n.f2+16:=by
  obtain⟨a,b,l⟩:=n
  rw [nb]
theorem toN_f (n:XN):(toN n).f0=n.f0∧(toN n).f1=n.f1∧(toN n).f2=toNL n.f2:=by
  obtain⟨a,b,l⟩:=n
  rw [toN]
  exact⟨rfl,rfl,rfl⟩
theorem nbl_len (l:List XN):16*l.length≤nbl l:=by
  induction l with
  | nil=>exact Nat.zero_le _
  | cons x xs ih=>
    rw [nbl,List.length_cons,nb_eq]
    omega
theorem rd_at (done:List XN) (x:XN) (rest:List XN):rd_T24 (done++x :: rest) (done.length:Int)=x:=by
  rw [rd_T24,Int.toNat_natCast,List.getD_eq_getElem?_getD,List.getElem?_append_right (Nat.le_refl _),Nat.sub_self]
  rfl
theorem rdr_at (done:List XN) (x:XN) (rest:List XN):rd_T30 (toNL (done++x :: rest)) (done.length:Int)=toN x:=by
  rw [rd_T30,Int.toNat_natCast,List.getD_eq_getElem?_getD,toNL_app,← toNL_len done,List.getElem?_append_right (Nat.le_refl _),Nat.sub_self,toNL]
  rfl
theorem next_at (done:List XN) (x:XN) (rest:List XN) (h:nbl (done++x :: rest)≤1000000000000):wrap64 ((done.length:Int)+1)=((done ++ [x]).length:Int):=by
  have:=nbl_len (done++x :: rest)
  rw [List.length_append] at this
  rw [w64 (by omega) (by omega),List.length_append]
  simp
theorem to_loop (N:Nat) (ih:∀ x,nb x≤N→Ev (fun k=>stowagelaw13_To.f k x.f0 x.f1 x.f2) ((toN x).f0,(toN x).f1,(toN x).f2)) (f0 f1 g0 g1:ByteArray) (rest:List XN) :
    ∀ done,nbl (done++rest)≤N→N≤1000000000000→Ev (fun k=>stowagelaw13_To.l0 k (done.length:Int) f0 f1 (done++rest) g0 g1 (toNL done)) (g0,g1,toNL (done++rest)):=by
  induction rest with
  | nil=>
    intro done _ _
    rw [List.append_nil]
    exact Ev.step (f:=fun _=>some (g0,g1,toNL done)) (fun k=>by rw [stowagelaw13_To.l0,if_neg (by omega)]) (Ev.now _)
  | cons x rest ihl=>
    intro done hn hN
    have hnx:=next_at done x rest (by omega)
    have hlen:=nbl_len (done++x :: rest)
    have hl:(done++x :: rest).length=done.length+rest.length+1:=by rw [List.length_append,List.length_cons];omega
    have hx:nb x≤N:=by rw [nbl_app,nbl] at hn;omega
    refine Ev.step (f:=fun k=>(stowagelaw13_To.f k x.f0 x.f1 x.f2).bind fun t=>if(toNL done).length<2513169434916 then stowagelaw13_To.l0 k (((done ++ [x]).length:Nat):Int) f0 f1 (done++x :: rest) g0 g1 (toNL done ++ [(⟨t.1,t.2.1,t.2.2⟩ : RN)]) else none) (fun k=>?_) ?_
    · rw [stowagelaw13_To.l0,if_pos (by omega),if_pos (by omega),rd_at,hnx]
    · refine Ev.bind (ih x hx) (ev_pos (by rw [toNL_len];omega) ?_)
      have he:done++x :: rest=(done ++ [x])++rest:=by simp
      have ht:toNL done ++ [toN x]=toNL (done ++ [x]):=by rw [toNL_app];rfl
      have heta:(⟨(toN x).f0,(toN x).f1,(toN x).f2⟩ : RN)=toN x:=by cases toN x;rfl
      show Ev (fun k=>stowagelaw13_To.l0 k (((done ++ [x]).length:Nat):Int) f0 f1 (done++x :: rest) g0 g1 (toNL done ++ [(⟨(toN x).f0,(toN x).f1,(toN x).f2⟩ : RN)])) _
      rw [heta]
      rw [he,ht]
      exact ihl (done ++ [x]) (by rw [← he];exact hn) hN
theorem to_ev (N:Nat) (hN:N≤1000000000000):∀ n,nb n≤N→Ev (fun k=>stowagelaw13_To.f k n.f0 n.f1 n.f2) ((toN n).f0,(toN n).f1,(toN n).f2):=by
  induction N with
  | zero=>intro n h;rw [nb_eq] at h;omega
  | succ N ih=>
    intro n h
    rw [nb_eq] at h
    obtain⟨e0,e1,e2⟩:=toN_f n
    rw [e0,e1,e2]
    exact Ev.step (f:=fun k=>stowagelaw13_To.l0 k 0 n.f0 n.f1 n.f2 n.f0 n.f1 []) (fun k=>by rw [stowagelaw13_To.f]) (to_loop N (ih (by omega)) n.f0 n.f1 n.f0 n.f1 n.f2 [] (by rw [List.nil_append];omega) (by omega))
theorem same_loop (N:Nat) (ih:∀ x,nb x≤N→Ev (fun k=>stowageref13_Same.f k (toN x).f0 (toN x).f1 (toN x).f2 (toN x).f0 (toN x).f1 (toN x).f2) true) (f0 f1 g0 g1:ByteArray) (rest:List XN) :
    ∀ done,nbl (done++rest)≤N→N≤1000000000000→Ev (fun k=>stowageref13_Same.l0 k (done.length:Int) f0 f1 (toNL (done++rest)) g0 g1 (toNL (done++rest))) true:=by
  induction rest with
  | nil=>
    intro done _ _
    rw [List.append_nil]
    exact Ev.step (f:=fun _=>some true) (fun k=>by rw [stowageref13_Same.l0,if_neg (by rw [toNL_len];omega)]) (Ev.now _)
  | cons x rest ihl=>
    intro done hn hN
    have hnx:=next_at done x rest (by omega)
    have hl:(done++x :: rest).length=done.length+rest.length+1:=by rw [List.length_append,List.length_cons];omega
    have hx:nb x≤N:=by rw [nbl_app,nbl] at hn;omega
    have he:done++x :: rest=(done ++ [x])++rest:=by simp
    refine Ev.step (f:=fun k=>(stowageref13_Same.f k (toN x).f0 (toN x).f1 (toN x).f2 (toN x).f0 (toN x).f1 (toN x).f2).bind fun t=>if t=true then stowageref13_Same.l0 k (((done ++ [x]).length:Nat):Int) f0 f1 (toNL (done++x :: rest)) g0 g1 (toNL (done++x :: rest)) else some false) (fun k=>?_) ?_
    · rw [stowageref13_Same.l0,if_pos (by rw [toNL_len];omega),if_pos (by omega),if_pos (by rw [toNL_len];omega),rdr_at,hnx]
    · refine Ev.bind (ih x hx) (ev_pos rfl ?_)
      rw [he]
      exact ihl (done ++ [x]) (by rw [← he];exact hn) hN
theorem same_ev (N:Nat) (hN:N≤1000000000000):∀ n,nb n≤N→Ev (fun k=>stowageref13_Same.f k (toN n).f0 (toN n).f1 (toN n).f2 (toN n).f0 (toN n).f1 (toN n).f2) true:=by
  induction N with
  | zero=>intro n h;rw [nb_eq] at h;omega
  | succ N ih=>
    intro n h
    rw [nb_eq] at h
    obtain⟨e0,e1,e2⟩:=toN_f n
    rw [e0,e1,e2]
    refine Ev.step (f:=fun k=>stowageref13_Same.j0 k false n.f0 n.f1 (toNL n.f2) n.f0 n.f1 (toNL n.f2)) (fun k=>by rw [stowageref13_Same.f,if_pos rfl,if_pos rfl,bne_self_eq_false]) ?_
    refine Ev.step (f:=fun k=>stowageref13_Same.l0 k 0 n.f0 n.f1 (toNL n.f2) n.f0 n.f1 (toNL n.f2)) (fun k=>by rw [stowageref13_Same.j0,if_neg Bool.false_ne_true]) ?_
    exact same_loop N (ih (by omega)) n.f0 n.f1 n.f0 n.f1 n.f2 [] (by rw [List.nil_append];omega) (by omega)
theorem ofN (n:Nat) (h:n<256):(UInt8.ofNat n).toNat=n:=by rw [UInt8.toNat_ofNat'];omega
def encL (c:Nat):List UInt8:=
  if c<128 then [UInt8.ofNat c] else if c<2048 then [UInt8.ofNat (192+c / 64),UInt8.ofNat (128+c % 64)] else if c<65536 then [UInt8.ofNat (224+c / 4096),UInt8.ofNat (128+c / 64 % 64),UInt8.ofNat (128+c % 64)] else [UInt8.ofNat (240+c / 262144),UInt8.ofNat (128+c / 4096 % 64),UInt8.ofNat (128+c / 64 % 64),UInt8.ofNat (128+c % 64)]
def okN (n:Nat):Prop:=n<55296∨(57344≤n∧n≤1114111)
instance (n:Nat):Decidable (okN n):=inferInstanceAs (Decidable (_∨_))
theorem enc_ok (n:Nat) (h:okN n):Utf8.encode (n:Int)=B (encL n):=by
  have hv:Utf8.valid (n:Int)=true:=by
    unfold Utf8.valid
    rcases h with h|⟨h1,h2⟩
    · simp;omega
    · simp;omega
  unfold Utf8.encode encL
  simp only [hv,if_true,Int.toNat_natCast]
  split
  · rfl
  · split
    · rfl
    · split <;> rfl
theorem enc_bad (n:Nat) (h:¬ okN n):Utf8.encode (n:Int)=B [239,191,189]:=by
  have hv:Utf8.valid (n:Int)=false:=by
    unfold okN at h
    unfold Utf8.valid
    simp
    omega
  unfold Utf8.encode
  simp only [hv,Bool.false_eq_true,if_false]
  rfl
theorem legal_rep:chars_Legal.f (B [239,191,189])=some true:=by
  rw [legal_eq _ (by decide),B_toList]
  decide
theorem st_enc (n:Nat) (h:okN n):stL (encL n)=(n,(encL n).length):=by
  have hmax:n≤1114111:=by rcases h with h|h <;> omega
  unfold encL
  by_cases c1:n<128
  · rw [if_pos c1,stL,ofN n (by omega),if_pos c1];rfl
  rw [if_neg c1]
  by_cases c2:n<2048
  · rw [if_pos c2,stL,ofN _ (by omega),if_neg (by omega),if_neg (by omega),if_pos (by omega),seqL,tailL,ofN _ (by omega),if_pos (by omega),tailL]
    dsimp only
    rw [finL,if_neg (by omega),show 64*(192+n / 64-192)+(128+n % 64-128)=n by omega]
    rfl
  rw [if_neg c2]
  by_cases c3:n<65536
  · rw [if_pos c3,stL,ofN _ (by omega),if_neg (by omega),if_neg (by omega),if_neg (by omega),if_pos (by omega),seqL,tailL,ofN _ (by omega),if_pos (by omega),tailL,ofN _ (by omega),if_pos (by omega),tailL]
    dsimp only
    have e:64*(64*(224+n / 4096-224)+(128+n / 64 % 64-128))+(128+n % 64-128)=n:=by omega
    rw [e,finL,if_neg (by rcases h with h|h <;> omega)]
    rfl
  rw [if_neg c3]
  rw [stL,ofN _ (by omega),if_neg (by omega),if_neg (by omega),if_neg (by omega),if_neg (by omega),if_pos (by omega),seqL,tailL,ofN _ (by omega),if_pos (by omega),tailL,ofN _ (by omega),if_pos (by omega),tailL,ofN _ (by omega),if_pos (by omega),tailL]
  dsimp only
  have e:64*(64*(64*(240+n / 262144-240)+(128+n / 4096 % 64-128))+(128+n / 64 % 64-128))+(128+n % 64-128)=n:=by omega
  rw [e,finL,if_neg (by rcases h with h|h <;> omega)]
  rfl
theorem enc_len (n:Nat):1≤(encL n).length∧(encL n).length≤4:=by
  unfold encL
  split
  · simp
  · split
    · simp
    · split <;> simp
theorem legal_enc (n:Nat) (h:okN n):chars_Legal.f (Utf8.encode (n:Int))=some (chars_Legal.ok (n:Int)):=by
  have hl:=enc_len n
  rw [enc_ok n h,legal_eq _ (by rw [B_size];omega),B_toList,B_size]
  congr 1
  have hs:=st_enc n h
  cases he:encL n with
  | nil=>rw [he] at hl;simp at hl
  | cons c l=>
    rw [he] at hs hl
    rw [List.length_cons,lO,hs,if_neg (by simp),List.length_cons,List.drop_of_length_le (by simp)]
    have:lO l.length []=true:=by cases l.length <;> rfl
    rw [this,Bool.and_true]
def chN (n:Nat):Bool:=decide (n≤1114111) && chars_Legal.ok (n:Int)
theorem ch_ok (n:Nat) (h:chN n=true):okN n:=by
  unfold chN at h
  rw [Bool.and_eq_true,decide_eq_true_eq] at h
  have h2:=of_decide_eq_true h.2
  unfold okN
  omega
theorem fin_ev (n:Nat):xml_number.fin (n:Int)=some ((n:Int),chN n):=by
  unfold xml_number.fin
  by_cases c1:n≤1114111
  · rw [if_pos (by omega)]
    by_cases c2:okN n
    · rw [legal_enc n c2,Option.bind_some]
      have hc:chN n=chars_Legal.ok (n:Int):=by rw [chN,decide_eq_true c1,Bool.true_and]
      rw [hc]
      cases hk:chars_Legal.ok (n:Int) with
      | false=>
        rw [if_neg Bool.false_ne_true]
        have:¬ n=65533:=by rintro rfl;simp [chars_Legal.ok] at hk
        rw [show((n:Int) == 65533)=false by rw [beq_eq_false_iff_ne];omega]
      | true=>
        rw [if_pos rfl]
        split
        · rename_i he
          rw [enc_ok n c2,B_toList] at he
          have hs:=st_enc n c2
          rw [he] at hs
          have hs1:=congrArg Prod.fst hs
          have e3:(stL [239,191,189]).1=65533:=by decide
          rw [e3] at hs1
          rw [show((n:Int) == 65533)=true by rw [beq_iff_eq];simp only at hs1;omega]
        · rfl
    · rw [enc_bad n c2,legal_rep,Option.bind_some,if_pos rfl,if_pos (B_toList _)]
      have hc:chN n=false:=by
        cases hk:chN n with
        | false=>rfl
        | true=>exact absurd (ch_ok n hk) c2
      have:¬ n=65533:=by rintro rfl;exact c2 (by decide)
      rw [hc,show((n:Int) == 65533)=false by rw [beq_eq_false_iff_ne];omega]
  · rw [if_neg (by omega),chN,decide_eq_false c1,Bool.false_and,show((n:Int) == 65533)=false by rw [beq_eq_false_iff_ne];omega]
theorem rchar_ev (n:Nat):stowageref3_Char.f (n:Int)=some (chN n):=by
  by_cases c:n≤1114111
  · rw [char_ok n c,chN,decide_eq_true c,Bool.true_and]
  · rw [chN,decide_eq_false c,Bool.false_and]
    unfold stowageref3_Char.f
    rw [if_neg (by omega),if_neg (by omega),if_neg (by omega),if_pos (by omega),if_neg (by omega),if_pos (by omega),if_neg (by omega),if_pos (by omega),decide_eq_false (by omega)]
theorem rutf8_ev (n:Nat) (h:okN n):stowageref13_utf8.f (n:Int)=some (B (encL n)):=by
  have hmax:n≤1114111:=by rcases h with h|h <;> omega
  have tm:∀ a:Nat,Int.tmod (a:Int) 64=((a % 64:Nat):Int):=fun a=>by rw [Int.tmod_eq_emod_of_nonneg (by omega)];rfl
  have hw:∀ m:Nat,m≤2000000→wrap64 (m:Int)=(m:Int):=fun m hm=>w64 (by omega) (by omega)
  have hb:∀ m:Nat,m<256→((m:Int) % 256)=(m:Int):=fun m hm=>by omega
  have d64:Int.tdiv (n:Int) 64=((n / 64:Nat):Int):=by rw [Int.tdiv_eq_ediv_of_nonneg (by omega)];rfl
  have d12:Int.tdiv (n:Int) 4096=((n / 4096:Nat):Int):=by rw [Int.tdiv_eq_ediv_of_nonneg (by omega)];rfl
  have d18:Int.tdiv (n:Int) 262144=((n / 262144:Nat):Int):=by rw [Int.tdiv_eq_ediv_of_nonneg (by omega)];rfl
  unfold stowageref13_utf8.f encL
  by_cases c1:n<128
  · rw [if_pos (by omega),if_pos c1,hb n (by omega)];rfl
  rw [if_neg (by omega),if_neg c1]
  by_cases c2:n<2048
  · rw [if_pos (by omega),if_pos c2,d64,tm,hw _ (by omega),show(192:Int)+((n / 64:Nat):Int)=((192+n / 64:Nat):Int) by omega,show(128:Int)+((n % 64:Nat):Int)=((128+n % 64:Nat):Int) by omega,hw _ (by omega),hw _ (by omega),hb _ (by omega),hb _ (by omega)]
    rfl
  rw [if_neg (by omega),if_neg c2]
  by_cases c3:n<65536
  · rw [if_pos (by omega),if_pos c3,d64,d12,hw _ (by omega),hw _ (by omega),tm,tm,show(224:Int)+((n / 4096:Nat):Int)=((224+n / 4096:Nat):Int) by omega,show(128:Int)+((n / 64 % 64:Nat):Int)=((128+n / 64 % 64:Nat):Int) by omega,show(128:Int)+((n % 64:Nat):Int)=((128+n % 64:Nat):Int) by omega,hw _ (by omega),hw _ (by omega),hw _ (by omega),hb _ (by omega),hb _ (by omega),hb _ (by omega)]
    rfl
  rw [if_neg (by omega),if_neg c3]
  rw [d64,d12,d18,hw _ (by omega),hw _ (by omega),hw _ (by omega),tm,tm,tm,show(240:Int)+((n / 262144:Nat):Int)=((240+n / 262144:Nat):Int) by omega,show(128:Int)+((n / 4096 % 64:Nat):Int)=((128+n / 4096 % 64:Nat):Int) by omega,show(128:Int)+((n / 64 % 64:Nat):Int)=((128+n / 64 % 64:Nat):Int) by omega,show(128:Int)+((n % 64:Nat):Int)=((128+n % 64:Nat):Int) by omega,hw _ (by omega),hw _ (by omega),hw _ (by omega),hw _ (by omega),hb _ (by omega),hb _ (by omega),hb _ (by omega),hb _ (by omega)]
  rfl
def dgB (b:Nat) (c:UInt8):Option Nat:=if 48≤c.toNat∧c.toNat≤57 then some (c.toNat-48) else if b=16∧97≤c.toNat∧c.toNat≤102 then some (c.toNat-87) else if b=16∧65≤c.toNat∧c.toNat≤70 then some (c.toNat-55) else none
def nuB (b:Nat):Nat→List UInt8→Option Nat
  | n,[]=>some n
  | n,c :: l=>match dgB b c with|none=>none|some d=>nuB b (n*b+d) l
def rfB (b:Nat) (l:List UInt8):Option (List UInt8):=if l.length<1 then none else if 7<l.length then none else match nuB b 0 l with|none=>none|some n=>if chN n=true then some (encL n) else none
def nrB:List UInt8→Option (List UInt8)
  | 120 :: r=>rfB 16 r
  | l=>rfB 10 l
theorem nr_x (l:List UInt8):nrB (120 :: l)=rfB 16 l:=rfl
theorem nr_n (l:List UInt8) (h:l.head? ≠ some 120):nrB l=rfB 10 l:=by
  unfold nrB
  split
  · simp at h
  · rfl
def ndB:List UInt8→Option (List UInt8)
  | 35 :: r=>nrB r
  | _=>none
theorem nd_n (l:List UInt8) (h:l.head? ≠ some 35):ndB l=none:=by
  unfold ndB
  split
  · simp at h
  · rfl
def entB (l:List UInt8):Option (List UInt8):=
  if l = [97,109,112] then some [38] else if l = [108,116] then some [60] else if l = [103,116] then some [62] else if l = [113,117,111,116] then some [34] else if l = [97,112,111,115] then some [39] else ndB l
theorem dg_lt {b:Nat} {c:UInt8} {d:Nat} (hb:b=10∨b=16) (h:dgB b c=some d):d<b:=by
  unfold dgB at h
  split at h
  · cases h;omega
  · split at h
    · cases h;omega
    · split at h
      · cases h;omega
      · cases h
theorem dg_ascii {b:Nat} {c:UInt8} {d:Nat} (h:dgB b c=some d):c.toNat<128:=by
  unfold dgB at h
  split at h
  · omega
  · split at h
    · omega
    · split at h
      · omega
      · cases h
theorem w32 {n:Int} (h:-2000000000≤n) (h':n≤2000000000):wrap32 n=n:=by unfold wrap32;omega
theorem step_eq (b:Nat) (hb:b=10∨b=16) (n:Nat) (hn:n*b≤268435456) (c:UInt8):xml_number.step (b:Int) (n:Int) (c.toNat:Int)=(dgB b c).map fun d=>((n*b+d:Nat):Int):=by
  have hc:=c.toNat_lt
  have hm:(n:Int)*(b:Int)=((n*b:Nat):Int):=by rw [Int.natCast_mul]
  unfold xml_number.step dgB
  rw [hm,w32 (n:=((n*b:Nat):Int)) (by omega) (by omega),w32 (n:=((n*b:Nat):Int)+(c.toNat:Int)) (by omega) (by omega)]
  by_cases c1:48≤c.toNat∧c.toNat≤57
  · rw [if_pos (by omega),if_pos c1,w32 (by omega) (by omega),Option.map_some]
    congr 1
    omega
  · rw [if_neg (by omega),if_neg c1]
    by_cases c2:b=16∧97≤c.toNat∧c.toNat≤102
    · rw [if_pos (by omega),if_pos c2,w32 (n:=_-97) (by omega) (by omega),w32 (by omega) (by omega),Option.map_some]
      congr 1
      omega
    · rw [if_neg (by omega),if_neg c2]
      by_cases c3:b=16∧65≤c.toNat∧c.toNat≤70
      · rw [if_pos (by omega),if_pos c3,w32 (n:=_-65) (by omega) (by omega),w32 (by omega) (by omega),Option.map_some]
        congr 1
        omega
      · rw [if_neg (by omega),if_neg c3];rfl
theorem step_hi (b n c:Int) (h:128≤c):xml_number.step b n c=none:=by
  unfold xml_number.step
  rw [if_neg (by omega),if_neg (by omega),if_neg (by omega)]
theorem fin_lo {v m n:Nat} (hm:128≤m) (h:¬ (finL v m n).2=0):128≤(finL v m n).1:=by
  unfold finL at h ⊢
  split
  · rename_i c;rw [if_pos c] at h;simp at h
  · simp only;omega
theorem seq_lo {l:List UInt8} {j v m:Nat} (hm:128≤m) (h:¬ (seqL l j v m).2=0):128≤(seqL l j v m).1:=by
  unfold seqL at h ⊢
  split
  · rename_i c;simp [c] at h
  · rename_i c;simp only [c] at h;exact fin_lo hm h
theorem st_lo {c:UInt8} {l:List UInt8} (hc:128≤c.toNat) (h:¬ (stL (c :: l)).2=0):128≤(stL (c :: l)).1:=by
  rw [stL,if_neg (by omega)] at h ⊢
  split
  · rename_i k;rw [if_pos k] at h;simp at h
  · rename_i k;rw [if_neg k] at h
    split
    · rename_i k2;rw [if_pos k2] at h;exact seq_lo (by omega) h
    · rename_i k2;rw [if_neg k2] at h
      split
      · rename_i k3;rw [if_pos k3] at h;exact seq_lo (by omega) h
      · rename_i k3;rw [if_neg k3] at h
        split
        · rename_i k4;rw [if_pos k4] at h;exact seq_lo (by omega) h
        · rename_i k4;rw [if_neg k4] at h;simp at h
theorem dec_hi (s:ByteArray) (pos:Nat) (c:UInt8) (l:List UInt8) (h:s.toList.drop pos=c :: l) (hc:128≤c.toNat):128≤(Utf8.decode s pos).1:=by
  by_cases g:(stL (c :: l)).2=0
  · rw [dec_bad s pos c l h g];omega
  · rw [dec_good s pos c l h g];exact st_lo hc g
theorem dec_lo (s:ByteArray) (pos:Nat) (c:UInt8) (l:List UInt8) (h:s.toList.drop pos=c :: l) (hc:c.toNat<128):Utf8.decode s pos=(c.toNat,1):=by
  have e:stL (c :: l)=(c.toNat,1):=by rw [stL,if_pos hc]
  rw [dec_good s pos c l h (by rw [e];simp),e]
theorem num_g (s:ByteArray) (b:Nat) (hb:b=10∨b=16) (l:List UInt8):∀ fuel pos n,s.toList.drop pos=l→l.length≤fuel→(n+1)*b ^ l.length≤268435456→xml_number.g s (b:Int) fuel pos (n:Int)=(nuB b n l).map Int.ofNat:=by
  induction l with
  | nil=>
    intro fuel pos n h _ _
    rw [xml_number.g_end (drop_nil s pos h)]
    rfl
  | cons c l ih=>
    intro fuel pos n h hf hn
    obtain⟨hp,_⟩:=drop_cons s pos c l h
    obtain⟨f,rfl⟩ : ∃ f,fuel=f+1:=⟨fuel-1,by simp at hf;omega⟩
    have hpow:(n+1)*b ^ (c :: l).length=((n+1)*b)*b ^ l.length:=by rw [List.length_cons,Nat.pow_succ,Nat.mul_comm (b ^ l.length) b,Nat.mul_assoc]
    rw [hpow] at hn
    have hb1:0<b ^ l.length:=Nat.pow_pos (by omega)
    have hnb:(n+1)*b≤268435456:=Nat.le_trans (Nat.le_mul_of_pos_right _ hb1) hn
    have hnb2:n*b≤268435456:=by rw [Nat.succ_mul] at hnb;omega
    rw [nuB]
    by_cases hc:c.toNat<128
    · have hd:=dec_lo s pos c l h hc
      have hs:=step_eq b hb n hnb2 c
      cases hg:dgB b c with
      | none=>
        rw [hg] at hs
        rw [xml_number.g_bad hp (by rw [hd];exact hs)]
        rfl
      | some d=>
        rw [hg,Option.map_some] at hs
        rw [xml_number.g_on hp (by rw [hd];exact hs),hd]
        have hdl:=dg_lt hb hg
        refine ih f (pos+1) (n*b+d) ?_ (by simp at hf;omega) ?_
        · rw [← List.drop_drop,h];rfl
        · refine Nat.le_trans (Nat.mul_le_mul_right _ ?_) hn
          rw [Nat.succ_mul];omega
    · have hg:dgB b c=none:=by
        cases hg:dgB b c with
        | none=>rfl
        | some d=>exact absurd (dg_ascii hg) hc
      rw [xml_number.g_bad hp (step_hi _ _ _ (by have:=dec_hi s pos c l h (by omega);omega)),hg]
      rfl
theorem num_r (s:ByteArray) (b:Nat) (hb:b=10∨b=16):∃ n:Nat,xml_number.r s (b:Int)=some ((n:Int),(rfB b s.toList).isSome) ∧ ∀ r,rfB b s.toList=some r→Utf8.encode (n:Int)=B r:=by
  have hsl:=length_toList s
  unfold xml_number.r rfB
  rw [hsl]
  by_cases c1:s.size<1
  · rw [if_pos c1,if_pos c1];exact⟨0,rfl,fun r h=>by cases h⟩
  rw [if_neg c1,if_neg c1]
  by_cases c2:7<s.size
  · rw [if_pos c2,if_pos c2];exact⟨0,rfl,fun r h=>by cases h⟩
  rw [if_neg c2,if_neg c2]
  have hg:=num_g s b hb s.toList s.size 0 0 (by simp) (by omega) (by
    rw [hsl,Nat.zero_add,Nat.one_mul]
    exact Nat.le_trans (Nat.pow_le_pow_left (show b≤16 by omega) _) (Nat.le_trans (Nat.pow_le_pow_right (show 0<16 by omega) (show s.size≤7 by omega)) (by decide)))
  rw [show((0:Nat):Int)=0 from rfl] at hg
  rw [hg]
  cases hn:nuB b 0 s.toList with
  | none=>exact⟨0,rfl,fun r h=>by cases h⟩
  | some n=>
    refine⟨n,?_,?_⟩
    · rw [Option.map_some]
      show xml_number.fin (n:Int)=_
      rw [fin_ev]
      cases hk:chN n <;> simp [hk]
    · intro r h
      simp only at h
      by_cases hk:chN n=true
      · rw [if_pos hk] at h;cases h;exact enc_ok n (ch_ok n hk)
      · rw [if_neg hk] at h;cases h
theorem hasP1 (s:ByteArray) (c:UInt8) (h:s.size≤1000000000000000):strings_HasPrefix.f s (⟨#[c]⟩ : ByteArray)=some (decide (s.toList.head? = some c)):=by
  have hsl:=length_toList s
  have hz:(⟨#[c]⟩ : ByteArray).size=1:=rfl
  have hl:(⟨#[c]⟩ : ByteArray).toList = [c]:=by rw [ByteArray.toList_eq]
  unfold strings_HasPrefix.f stringslite_HasPrefix.f
  rw [hz,hl]
  cases hs:s.toList with
  | nil=>
    rw [hs] at hsl
    simp at hsl
    rw [if_neg (by omega)];rfl
  | cons d l=>
    rw [hs] at hsl
    simp at hsl
    rw [if_pos (by omega),if_pos (by omega),if_pos (by omega),toList_extract,hs]
    simp [List.head?_cons]
    by_cases hdc:d=c
    · subst hdc;simp
    · simp [hdc]
theorem tail1 (s:ByteArray) (c:UInt8) (l:List UInt8) (h:s.toList=c :: l):(s.extract 1 s.size).toList=l:=by rw [ext_list,h];rfl
theorem num_eq (s:ByteArray) (h:s.size≤1000000000000000):∃ n:Nat,xml_number.f s=some ((n:Int),(nrB s.toList).isSome) ∧ ∀ r,nrB s.toList=some r→Utf8.encode (n:Int)=B r:=by
  have hsl:=length_toList s
  unfold xml_number.f
  rw [hasP1 s 120 h,Option.bind_some]
  by_cases hc:s.toList.head? = some 120
  · rw [if_pos (decide_eq_true hc)]
    cases hs:s.toList with
    | nil=>rw [hs] at hc;cases hc
    | cons c l=>
      rw [hs] at hc hsl
      obtain rfl:c=120:=Option.some.inj hc
      rw [List.length_cons] at hsl
      rw [if_pos (by omega),nr_x]
      have:=num_r (s.extract 1 s.size) 16 (.inr rfl)
      rw [tail1 s 120 l hs] at this
      exact this
  · rw [if_neg (by rw [decide_eq_false hc];exact Bool.false_ne_true),nr_n _ hc]
    exact num_r s 10 (.inl rfl)
theorem sign_eq (s:ByteArray) (h:s.size≤1000000000000000):∃ t:ByteArray,xml_sign.f s=some (t,(entB s.toList).isSome) ∧ ∀ r,entB s.toList=some r→t=B r:=by
  have hsl:=length_toList s
  unfold xml_sign.f entB
  by_cases c1:s.toList = [97,109,112]
  · rw [if_pos c1,if_pos c1];exact⟨_,rfl,fun r h=>by cases h;rfl⟩
  rw [if_neg c1,if_neg c1]
  by_cases c2:s.toList = [108,116]
  · rw [if_pos c2,if_pos c2];exact⟨_,rfl,fun r h=>by cases h;rfl⟩
  rw [if_neg c2,if_neg c2]
  by_cases c3:s.toList = [103,116]
  · rw [if_pos c3,if_pos c3];exact⟨_,rfl,fun r h=>by cases h;rfl⟩
  rw [if_neg c3,if_neg c3]
  by_cases c4:s.toList = [113,117,111,116]
  · rw [if_pos c4,if_pos c4];exact⟨_,rfl,fun r h=>by cases h;rfl⟩
  rw [if_neg c4,if_neg c4]
  by_cases c5:s.toList = [97,112,111,115]
  · rw [if_pos c5,if_pos c5];exact⟨_,rfl,fun r h=>by cases h;rfl⟩
  rw [if_neg c5,if_neg c5,hasP1 s 35 h,Option.bind_some]
  clear c1 c2 c3 c4 c5
  by_cases hc:s.toList.head? = some 35
  · rw [if_pos (decide_eq_true hc)]
    cases hs:s.toList with
    | nil=>rw [hs] at hc;cases hc
    | cons c l=>
      rw [hs] at hc hsl
      obtain rfl:c=35:=Option.some.inj hc
      rw [List.length_cons] at hsl
      obtain⟨n,h1,h2⟩:=num_eq (s.extract 1 s.size) (by rw [ByteArray.size_extract];omega)
      rw [tail1 s 35 l hs] at h1 h2
      rw [if_pos (by omega),h1,Option.bind_some]
      exact⟨_,rfl,h2⟩
  · rw [if_neg (by rw [decide_eq_false hc];exact Bool.false_ne_true),nd_n _ hc]
    exact⟨_,rfl,fun r h=>by cases h⟩
theorem byteAll {P:UInt8→Prop} (h:∀ n:Fin 256,P (UInt8.ofNat n.val)) (c:UInt8):P c:=by
  have:=h ⟨c.toNat,c.toNat_lt⟩
  rwa [UInt8.ofNat_toNat] at this
def dgI (c:UInt8):Int:=match dgB 16 c with|some d=>d|none=>-1
theorem digit_a (c:UInt8):stowageref3_Digit.f 3 (c.toNat:Int)=some (dgI c):=byteAll (P:=fun c=>stowageref3_Digit.f 3 (c.toNat:Int)=some (dgI c)) (by decide +kernel) c
theorem digit_ev (c:UInt8):Ev (fun k=>stowageref3_Digit.f k (c.toNat:Int)) (dgI c):=Ev.of (fun k=>stowageref3_Digit.mono _ k) (digit_a c)
theorem dg_ten (c:UInt8):dgB 10 c=(match dgB 16 c with|some d=>if d<10 then some d else none|none=>none):=byteAll (P:=fun c=>dgB 10 c=(match dgB 16 c with|some d=>if d<10 then some d else none|none=>none)) (by decide +kernel) c
theorem dgI_none {b:Nat} {c:UInt8} (hb:b=10∨b=16) (h:dgB b c=none):dgI c<0∨(b:Int)≤dgI c:=by
  unfold dgI
  rcases hb with rfl|rfl
  · rw [dg_ten] at h
    cases hd:dgB 16 c with
    | none=>exact .inl (by decide)
    | some d=>
      rw [hd] at h
      simp only at h
      split at h
      · cases h
      · right;simp only;omega
  · rw [h];exact .inl (by decide)
theorem dgI_some {b:Nat} {c:UInt8} {d:Nat} (hb:b=10∨b=16) (h:dgB b c=some d):dgI c=(d:Int):=by
  unfold dgI
  rcases hb with rfl|rfl
  · rw [dg_ten] at h
    cases hd:dgB 16 c with
    | none=>rw [hd] at h;cases h
    | some d=>
      rw [hd] at h
      simp only at h
      split at h
      · cases h;rfl
      · cases h
  · rw [h]
def outR (r:Option (List UInt8)):ByteArray×Bool:=match r with|none=>(⟨#[]⟩,false)|some l=>(B l,true)
def finR (r:Option Nat):ByteArray×Bool:=match r with|none=>(⟨#[]⟩,false)|some n=>if chN n=true then(B (encL n),true) else(⟨#[]⟩,false)
theorem ent_l0 (s:ByteArray) (b:Nat) (hb:b=10∨b=16) (l:List UInt8):∀ (pre:List UInt8) (n:Nat),s.toList=pre++l→s.size≤1000000000000000→(n+1)*b ^ l.length≤268435456→Ev (fun k=>stowageref13_entity.l0 k s (b:Int) (n:Int) (pre.length:Int)) (finR (nuB b n l)):=by
  induction l with
  | nil=>
    intro pre n h _ _
    have:=pre_end s pre h
    refine Ev.step (f:=fun _=>(stowageref3_Char.f (n:Int)).bind fun t=>if t=true then((stowageref13_utf8.f (n:Int)).bind fun u=>some (u,true)) else some ((⟨#[]⟩ : ByteArray),false)) (fun k=>by rw [stowageref13_entity.l0,if_neg (by omega)]) ?_
    refine ev_some (rchar_ev n) ?_
    rw [nuB]
    by_cases hk:chN n=true
    · rw [finR]
      simp only [hk,if_true]
      exact ev_some (rutf8_ev n (ch_ok n hk)) (Ev.now _)
    · rw [finR]
      simp only [hk,Bool.false_eq_true,if_false]
      exact Ev.now _
  | cons c l ih=>
    intro pre n h hs hn
    obtain⟨hbt,hlt⟩:=bt_pre s pre l c h
    have hnx:=pre_next pre c s.size hlt (by omega)
    have hpow:(n+1)*b ^ (c :: l).length=((n+1)*b)*b ^ l.length:=by rw [List.length_cons,Nat.pow_succ,Nat.mul_comm (b ^ l.length) b,Nat.mul_assoc]
    rw [hpow] at hn
    have hb1:0<b ^ l.length:=Nat.pow_pos (by omega)
    have hnb:(n+1)*b≤268435456:=Nat.le_trans (Nat.le_mul_of_pos_right _ hb1) hn
    rw [Nat.succ_mul] at hnb
    refine Ev.step (f:=fun k=>(stowageref3_Digit.f k (c.toNat:Int)).bind fun t=>if t<0 then some ((⟨#[]⟩ : ByteArray),false) else if t ≥ (b:Int) then some ((⟨#[]⟩ : ByteArray),false) else stowageref13_entity.l0 k s (b:Int) (wrap64 (wrap64 ((b:Int)*(n:Int))+t)) (((pre ++ [c]).length:Nat):Int)) (fun k=>by rw [stowageref13_entity.l0,if_pos (by omega),if_pos (by omega),hbt,hnx]) ?_
    refine Ev.bind (digit_ev c) ?_
    rw [nuB]
    cases hg:dgB b c with
    | none=>
      rcases dgI_none hb hg with q|q
      · exact ev_pos q (Ev.now _)
      · by_cases q2:dgI c<0
        · exact ev_pos q2 (Ev.now _)
        · exact ev_neg q2 (ev_pos q (Ev.now _))
    | some d=>
      have hd:=dgI_some hb hg
      have hdl:=dg_lt hb hg
      rw [hd]
      refine ev_neg (by omega) (ev_neg (by omega) ?_)
      have hm:(b:Int)*(n:Int)=((n*b:Nat):Int):=by rw [Int.natCast_mul,Int.mul_comm]
      rw [hm,w64 (n:=((n*b:Nat):Int)) (by omega) (by omega),w64 (by omega) (by omega)]
      refine ih (pre ++ [c]) (n*b+d) (pre_app s pre l c h) hs ?_
      refine Nat.le_trans (Nat.mul_le_mul_right _ ?_) hn
      rw [Nat.succ_mul];omega
theorem ent_j0 (s:ByteArray) (b:Nat) (hb:b=10∨b=16) (hs:s.size≤1000000000000000):Ev (fun k=>stowageref13_entity.j0 k s (b:Int)) (outR (rfB b s.toList)):=by
  have hsl:=length_toList s
  unfold rfB
  rw [hsl]
  by_cases c1:s.size<1
  · rw [if_pos c1]
    refine Ev.step (f:=fun k=>stowageref13_entity.j1 k s (b:Int) true) (fun k=>by rw [stowageref13_entity.j0,if_pos (by omega)]) ?_
    exact Ev.step (f:=fun _=>some ((⟨#[]⟩ : ByteArray),false)) (fun k=>by rw [stowageref13_entity.j1,if_pos rfl]) (Ev.now _)
  rw [if_neg c1]
  refine Ev.step (f:=fun k=>stowageref13_entity.j1 k s (b:Int) (decide ((s.size:Int)>7))) (fun k=>by rw [stowageref13_entity.j0,if_neg (by omega)]) ?_
  by_cases c2:7<s.size
  · rw [if_pos c2]
    exact Ev.step (f:=fun _=>some ((⟨#[]⟩ : ByteArray),false)) (fun k=>by rw [stowageref13_entity.j1,if_pos (decide_eq_true (by omega))]) (Ev.now _)
  rw [if_neg c2]
  refine Ev.step (f:=fun k=>stowageref13_entity.l0 k s (b:Int) 0 0) (fun k=>by rw [stowageref13_entity.j1,if_neg (by rw [decide_eq_false (by omega)];exact Bool.false_ne_true)]) ?_
  have:=ent_l0 s b hb s.toList [] 0 rfl hs (by
    rw [hsl,Nat.zero_add,Nat.one_mul]
    exact Nat.le_trans (Nat.pow_le_pow_left (show b≤16 by omega) _) (Nat.le_trans (Nat.pow_le_pow_right (show 0<16 by omega) (show s.size≤7 by omega)) (by decide)))
  refine ev_eq this ?_
  unfold finR outR
  cases nuB b 0 s.toList with
  | none=>rfl
  | some n=>cases hk:chN n <;> simp [hk]
theorem beg_eq (s:ByteArray) (p:List UInt8):stowageref3_Begins.f s (B p)=some (s.toList.take p.length == p):=by
  have hsl:=length_toList s
  unfold stowageref3_Begins.f
  rw [B_size]
  by_cases c:p.length≤s.size
  · rw [if_pos (by omega),if_pos (by omega),if_pos (by omega),toList_extract,B_toList]
    rfl
  · rw [if_neg (by omega)]
    congr 1
    symm
    rw [beq_eq_false_iff_ne]
    intro e
    have:=congrArg List.length e
    rw [List.length_take,hsl] at this
    omega
theorem entity_ev (s:ByteArray) (h:s.size≤1000000000000000):Ev (fun k=>stowageref13_entity.f k s) (outR (entB s.toList)):=by
  have hsl:=length_toList s
  simp only [stowageref13_entity.f]
  unfold entB
  by_cases c1:s.toList = [97,109,112]
  · rw [if_pos c1];exact ev_pos c1 (Ev.now _)
  rw [if_neg c1];refine ev_neg c1 ?_
  by_cases c2:s.toList = [108,116]
  · rw [if_pos c2];exact ev_pos c2 (Ev.now _)
  rw [if_neg c2];refine ev_neg c2 ?_
  by_cases c3:s.toList = [103,116]
  · rw [if_pos c3];exact ev_pos c3 (Ev.now _)
  rw [if_neg c3];refine ev_neg c3 ?_
  by_cases c4:s.toList = [113,117,111,116]
  · rw [if_pos c4];exact ev_pos c4 (Ev.now _)
  rw [if_neg c4];refine ev_neg c4 ?_
  by_cases c5:s.toList = [97,112,111,115]
  · rw [if_pos c5];exact ev_pos c5 (Ev.now _)
  rw [if_neg c5];refine ev_neg c5 ?_
  clear c1 c2 c3 c4 c5
  refine ev_some (beg_eq s [35,120]) ?_
  have hx:∀ n,(s.extract n s.size).toList=s.toList.drop n:=ext_list s
  by_cases hA:s.toList.take 2 = [35,120]
  · refine ev_pos (beq_iff_eq.mpr hA) ?_
    have hl:=congrArg List.length hA
    rw [List.length_take,hsl] at hl
    simp at hl
    refine ev_pos (by omega) ?_
    have hj:=ent_j0 (s.extract 2 s.size) 16 (.inr rfl) (by rw [ByteArray.size_extract];omega)
    rw [hx 2] at hj
    have e:s.toList=35 :: 120 :: s.toList.drop 2:=by
      have:=List.take_append_drop 2 s.toList
      rw [hA] at this
      exact this.symm
    have e2:ndB s.toList=rfB 16 (s.toList.drop 2):=by rw [e];rfl
    rw [e2]
    exact hj
  · refine ev_neg (fun q=>hA (beq_iff_eq.mp q)) ?_
    refine ev_some (beg_eq s [35]) ?_
    by_cases hB:s.toList.take 1 = [35]
    · refine ev_pos (beq_iff_eq.mpr hB) ?_
      have hl:=congrArg List.length hB
      rw [List.length_take,hsl] at hl
      simp at hl
      refine ev_pos (by omega) ?_
      have hj:=ent_j0 (s.extract 1 s.size) 10 (.inl rfl) (by rw [ByteArray.size_extract];omega)
      rw [hx 1] at hj
      have e:s.toList=35 :: s.toList.drop 1:=by
        have:=List.take_append_drop 1 s.toList
        rw [hB] at this
        exact this.symm
      have e2:ndB s.toList=rfB 10 (s.toList.drop 1):=by
        rw [e]
        show nrB (s.toList.drop 1)=rfB 10 (s.toList.drop 1)
        refine nr_n _ (fun q=>hA ?_)
        cases hd:s.toList.drop 1 with
        | nil=>rw [hd] at q;cases q
        | cons d t=>
          rw [hd] at q
          obtain rfl:d=120:=Option.some.inj q
          rw [e,hd]
          rfl
      rw [e2]
      exact hj
    · refine ev_neg (fun q=>hB (beq_iff_eq.mp q)) ?_
      have e2:ndB s.toList=none:=nd_n _ (fun q=>hB (by
        cases hs:s.toList with
        | nil=>rw [hs] at q;cases q
        | cons d t=>rw [hs] at q;obtain rfl:d=35:=Option.some.inj q;rfl))
      rw [e2]
      exact Ev.now _
def repR (old new s:List UInt8):List UInt8:=Lib.replaceK old new (Lib.count s old) s
theorem rep_all (old new s:List UInt8) (h:(old == new)=false):Lib.replaceAll s old new=repR old new s:=by
  unfold Lib.replaceAll Lib.replace Lib.replaceNum repR
  rw [h,if_neg Bool.false_ne_true,if_pos (.inl (by decide))]
theorem rep_hit (old new:List UInt8) (hne:old ≠ []) (s:List UInt8) (i:Nat) (h:Lib.index s old=i):repR old new s=s.take i++new++repR old new (s.drop (i+old.length)):=by
  unfold repR
  rw [Lib.count_hit hne h,Nat.add_comm 1,Lib.replaceK_hit _ _ _ _ _ h]
theorem rep_miss (old new s:List UInt8) (h:Lib.index s old = -1):repR old new s=s:=by
  unfold repR
  rw [Lib.count_miss h]
  rfl
theorem rep_nil (old new:List UInt8) (hne:old ≠ []):repR old new [] = []:=by
  refine rep_miss old new [] ?_
  cases old with
  | nil=>exact absurd rfl hne
  | cons a t=>rfl
theorem rep_pre (old new:List UInt8) (hne:old ≠ []) (c:UInt8) (r:List UInt8) (h:old.isPrefixOf (c :: r)=true):repR old new (c :: r)=new++repR old new ((c :: r).drop old.length):=by
  have hi:Lib.index (c :: r) old=(0:Nat):=by rw [Lib.index,if_pos h];rfl
  rw [rep_hit old new hne _ 0 hi,Nat.zero_add]
  rfl
theorem rep_not (old new:List UInt8) (hne:old ≠ []) (c:UInt8) (r:List UInt8) (h:old.isPrefixOf (c :: r)=false):repR old new (c :: r)=c :: repR old new r:=by
  rcases Lib.index_spec r old with⟨hm,_⟩|⟨i,hi,_⟩
  · have hi:Lib.index (c :: r) old = -1:=by rw [Lib.index,h,if_neg Bool.false_ne_true,hm];rfl
    rw [rep_miss old new _ hi,rep_miss old new _ hm]
  · have hi2:Lib.index (c :: r) old=((i+1:Nat):Int):=by
      rw [Lib.index,h,if_neg Bool.false_ne_true,hi,if_neg (by rw [beq_iff_eq];omega)];omega
    rw [rep_hit old new hne _ _ hi2,rep_hit old new hne _ _ hi,show i+1+old.length=(i+old.length)+1 by omega]
    rfl
def nrm:List UInt8→List UInt8
  | []=>[]
  | [c]=>[if c=13 then 10 else c]
  | c :: d :: r=>if c=13 then(if d=10 then 10 :: nrm r else 10 :: nrm (d :: r)) else c :: nrm (d :: r)
def n1 (l:List UInt8):List UInt8:=repR [13,10] [10] l
def n2 (l:List UInt8):List UInt8:=repR [13] [10] l
theorem n2_cons (c:UInt8) (r:List UInt8):n2 (c :: r)=(if c=13 then 10 else c) :: n2 r:=by
  by_cases h:c=13
  · subst h
    exact rep_pre [13] [10] (by simp) 13 r (by simp [List.isPrefixOf])
  · rw [if_neg h]
    exact rep_not [13] [10] (by simp) c r (by simp [List.isPrefixOf];exact fun e=>h e.symm)
theorem n2_nil:n2 [] = []:=rep_nil _ _ (by simp)
theorem n1_nil:n1 [] = []:=rep_nil _ _ (by simp)
theorem n1_one (c:UInt8):n1 [c] = [c]:=by
  have:n1 [c]=c :: n1 []:=rep_not [13,10] [10] (by simp) c [] (by simp [List.isPrefixOf])
  rw [this,n1_nil]
theorem n1_two (r:List UInt8):n1 (13 :: 10 :: r)=10 :: n1 r:=rep_pre [13,10] [10] (by simp) 13 (10 :: r) (by simp [List.isPrefixOf])
theorem n1_not (c d:UInt8) (r:List UInt8) (h:¬ (c=13∧d=10)):n1 (c :: d :: r)=c :: n1 (d :: r):=by
  refine rep_not [13,10] [10] (by simp) c (d :: r) ?_
  simp only [List.isPrefixOf,Bool.and_true]
  rw [Bool.and_eq_false_iff]
  by_cases h1:c=13
  · right;rw [beq_eq_false_iff_ne];exact fun e=>h ⟨h1,e.symm⟩
  · left;rw [beq_eq_false_iff_ne];exact fun e=>h1 e.symm
theorem nrm_eq:∀ l,n2 (n1 l)=nrm l
  | []=>by rw [n1_nil,n2_nil,nrm]
  | [c]=>by rw [n1_one,n2_cons,n2_nil,nrm]
  | c :: d :: r=>by
    rw [nrm]
    by_cases h:c=13
    · subst h
      rw [if_pos rfl]
      by_cases h2:d=10
      · subst h2
        rw [if_pos rfl,n1_two,n2_cons,nrm_eq r]
        rfl
      · rw [if_neg h2,n1_not 13 d r (fun q=>h2 q.2),n2_cons,nrm_eq (d :: r)]
        rfl
    · rw [if_neg h,n1_not c d r (fun q=>h q.1),n2_cons,nrm_eq (d :: r),if_neg h]
theorem nrm_len:∀ l,(nrm l).length≤l.length
  | []=>by simp [nrm]
  | [c]=>by simp [nrm]
  | c :: d :: r=>by
    have h1:=nrm_len r
    have h2:=nrm_len (d :: r)
    rw [nrm]
    simp only [List.length_cons] at h2 ⊢
    split
    · split
      · simp only [List.length_cons];omega
      · simp only [List.length_cons];omega
    · simp only [List.length_cons];omega
theorem nrm_cons (c:UInt8) (l:List UInt8) (h:c≠13):nrm (c :: l)=c :: nrm l:=by
  cases l with
  | nil=>simp [nrm,h]
  | cons d r=>rw [nrm,if_neg h]
theorem nrm_cr (l:List UInt8) (h:l.head? ≠ some 10):nrm (13 :: l)=10 :: nrm l:=by
  cases l with
  | nil=>simp [nrm]
  | cons d r=>rw [nrm,if_pos rfl,if_neg (fun e=>h (by rw [e];rfl))]
theorem nrm_crlf (l:List UInt8):nrm (13 :: 10 :: l)=10 :: nrm l:=by rw [nrm,if_pos rfl,if_pos rfl]
def cutL (c:UInt8):List UInt8→Option (List UInt8×List UInt8)
  | []=>none
  | b :: l=>if b=c then some ([],l) else(cutL c l).map fun p=>(b :: p.1,p.2)
theorem cutL_index (c:UInt8) (l:List UInt8):(match cutL c l with|none=>Lib.indexByte l c = -1|some p=>Lib.indexByte l c=p.1.length∧l=p.1++c :: p.2):=by
  induction l with
  | nil=>rfl
  | cons b l ih=>
    rw [cutL,Lib.indexByte]
    by_cases h:b=c
    · subst h;simp
    · rw [if_neg h]
      have hb:(b == c)=false:=by simpa using h
      cases hc:cutL c l with
      | none=>rw [hc] at ih;simp [ih,hb]
      | some p=>
        rw [hc] at ih
        obtain⟨h1,h2⟩:=ih
        simp only [Option.map_some]
        refine⟨?_,by rw [List.cons_append,← h2]⟩
        rw [h1]
        have:((p.1.length:Int) == -1)=false:=by rw [beq_eq_false_iff_ne];omega
        simp [hb,this]
def cutR (s:ByteArray) (c:UInt8):ByteArray×ByteArray×Bool:=
  match cutL c s.toList with|none=>(s,⟨#[]⟩,false)|some p=>(⟨p.1.toArray⟩,⟨p.2.toArray⟩,true)
theorem extract_of (s:ByteArray) (i j:Nat) (l:List UInt8) (h:(s.toList.take j).drop i=l):s.extract i j=⟨l.toArray⟩:=by
  apply toList_inj
  rw [toList_extract,h,ByteArray.toList_eq]
theorem rcut_l0 (s:ByteArray) (c:UInt8) (hs:s.size≤1000000000000000) (l:List UInt8):∀ pre:List UInt8,s.toList=pre++l→cutL c pre=none →
    Ev (fun k=>stowageref3_Cut.l0 k s (c.toNat:Int) (pre.length:Int)) (cutR s c):=by
  have hsl:=length_toList s
  have app:∀ (pre l:List UInt8),cutL c pre=none→cutL c (pre++l)=(cutL c l).map fun p=>(pre++p.1,p.2):=by
    intro pre
    induction pre with
    | nil=>intro l _;rw [List.nil_append];cases cutL c l <;> rfl
    | cons b pre ih=>
      intro l h
      rw [cutL] at h
      by_cases hb:b=c
      · rw [if_pos hb] at h;simp at h
      · rw [if_neg hb] at h
        have h':cutL c pre=none:=by simpa using h
        rw [List.cons_append,cutL,if_neg hb,ih l h']
        cases cutL c l <;> rfl
  induction l with
  | nil=>
    intro pre e hp
    rw [List.append_nil] at e
    refine Ev.step (f:=fun _=>some (cutR s c)) (fun k=>?_) (Ev.now _)
    have:pre.length=s.size:=by rw [← hsl,e]
    rw [stowageref3_Cut.l0,if_neg (by omega),cutR,e,hp]
  | cons b l ih=>
    intro pre e hp
    have hl:=congrArg List.length e
    rw [hsl,List.length_append,List.length_cons] at hl
    have hb:=(bt_drop s pre.length b l (by rw [e];simp)).1
    by_cases h:b=c
    · subst h
      refine Ev.step (f:=fun _=>some (cutR s b)) (fun k=>?_) (Ev.now _)
      rw [stowageref3_Cut.l0,if_pos (by omega),if_pos (by omega),if_pos hb,if_pos (by omega),w64 (n:=(pre.length:Int)+1) (by omega) (by omega),if_pos (by omega),if_pos (by omega)]
      rw [cutR,e,app pre _ hp,cutL,if_pos rfl,Option.map_some]
      dsimp only
      rw [extract_of s 0 _ pre (by rw [e];simp),extract_of s _ s.size l (by rw [e,show((pre.length:Int)+1).toNat=pre.length+1 by omega,List.take_of_length_le (by rw [List.length_append,List.length_cons];omega)];simp),List.append_nil]
    · have hne:¬ bt s (pre.length:Int)=(c.toNat:Int):=by
        rw [hb];intro q
        exact h (UInt8.toNat_inj.mp (Int.ofNat_inj.mp q))
      have q:=ih (pre ++ [b]) (by rw [e];simp) (by rw [app pre _ hp,cutL,if_neg h,cutL];rfl)
      refine Ev.step (f:=fun k=>_) (fun k=>by rw [stowageref3_Cut.l0,if_pos (by omega),if_pos (by omega),if_neg hne,w64 (n:=(pre.length:Int)+1) (by omega) (by omega)]) ?_
      rw [show((pre ++ [b]).length:Int)=(pre.length:Int)+1 by simp] at q
      exact q
theorem rcut_ev (s:ByteArray) (c:UInt8) (hs:s.size≤1000000000000000):Ev (fun k=>stowageref3_Cut.f k s (c.toNat:Int)) (cutR s c):=
  rcut_l0 s c hs s.toList [] rfl rfl
theorem rf_len {b:Nat} {l r:List UInt8} (h:rfB b l=some r):r.length≤4:=by
  unfold rfB at h
  split at h
  · cases h
  · split at h
    · cases h
    · split at h
      · cases h
      · split at h
        · cases h;exact(enc_len _).2
        · cases h
theorem ent_len {l r:List UInt8} (h:entB l=some r):r.length≤4:=by
  unfold entB at h
  split at h
  · cases h;decide
  · split at h
    · cases h;decide
    · split at h
      · cases h;decide
      · split at h
        · cases h;decide
        · split at h
          · cases h;decide
          · unfold ndB at h
            split at h
            · unfold nrB at h
              split at h <;> exact rf_len h
            · cases h
theorem cut_at {c:UInt8} {l a t:List UInt8} (h:cutL c l=some (a,t)):l=a++c :: t:=by
  have:=cutL_index c l
  rw [h] at this
  exact this.2
theorem cut_no {c:UInt8} {l a t:List UInt8} (h:cutL c l=some (a,t)):c ∉ a:=by
  induction l generalizing a with
  | nil=>cases h
  | cons b l ih=>
    rw [cutL] at h
    split at h
    · cases h;simp
    · rename_i hb
      cases hc:cutL c l with
      | none=>rw [hc] at h;cases h
      | some p=>
        rw [hc] at h
        cases h
        simp only [List.mem_cons,not_or]
        exact⟨fun e=>hb e.symm,ih hc⟩
def unL:Nat→List UInt8→Option (List UInt8)
  | 0,_=>some []
  | _+1,[]=>some []
  | k+1,c :: l=>if c=38 then(match cutL 59 l with|none=>none|some p=>match entB p.1 with|none=>none|some e=>(unL k p.2).map (e ++ ·)) else(unL k l).map (c :: ·)
def unD:Nat→List UInt8→Option (List UInt8)
  | 0,_=>some []
  | _+1,[]=>some []
  | k+1,c :: l=>if c=13 then(if l.head? = some 10 then(unD k l.tail).map (10 :: ·) else(unD k l).map (10 :: ·)) else if c=38 then(match cutL 59 l with|none=>none|some p=>match entB p.1 with|none=>none|some e=>(unD k p.2).map (e ++ ·)) else(unD k l).map (c :: ·)
theorem cut_len {c:UInt8} {l a t:List UInt8} (h:cutL c l=some (a,t)):a.length+t.length+1=l.length:=by
  have:=congrArg List.length (cut_at h)
  rw [List.length_append,List.length_cons] at this
  omega
theorem unL_fuel (k:Nat):∀ k' l,l.length<k→l.length<k'→unL k l=unL k' l:=by
  induction k with
  | zero=>intro k' l h _;omega
  | succ k ih=>
    intro k' l h h'
    obtain⟨j,rfl⟩ : ∃ j,k'=j+1:=⟨k'-1,by omega⟩
    cases l with
    | nil=>rfl
    | cons c l=>
      simp only [List.length_cons] at h h'
      rw [unL,unL,ih j l (by omega) (by omega)]
      by_cases hc:c=38
      · rw [if_pos hc,if_pos hc]
        cases hp:cutL 59 l with
        | none=>rfl
        | some p=>
          obtain⟨a,t⟩:=p
          have:=cut_len hp
          simp only
          rw [ih j t (by omega) (by omega)]
      · rw [if_neg hc,if_neg hc]
theorem unL_cut (k:Nat):∀ l,l.length<k→unL k l=(match cutL 38 l with
    | none=>some l
    | some p=>match cutL 59 p.2 with|none=>none|some q=>match entB q.1 with|none=>none|some e=>(unL k q.2).map (p.1++e ++ ·)):=by
  induction k with
  | zero=>intro l h;omega
  | succ k ih=>
    intro l h
    cases l with
    | nil=>rfl
    | cons c l=>
      simp only [List.length_cons] at h
      rw [unL,cutL]
      by_cases hc:c=38
      · rw [if_pos hc,if_pos hc]
        simp only
        cases hp:cutL 59 l with
        | none=>rfl
        | some p=>
          obtain⟨a,t⟩:=p
          have:=cut_len hp
          simp only [List.nil_append]
          rw [unL_fuel k (k+1) t (by omega) (by omega)]
      · rw [if_neg hc,if_neg hc,ih l (by omega)]
        cases hp:cutL 38 l with
        | none=>rfl
        | some p=>
          obtain⟨a,t⟩:=p
          have h1:=cut_len hp
          simp only [Option.map_some]
          cases hq:cutL 59 t with
          | none=>rfl
          | some q=>
            obtain⟨b,u⟩:=q
            have h2:=cut_len hq
            simp only
            cases he:entB b with
            | none=>rfl
            | some e=>
              simp only
              rw [unL_fuel k (k+1) u (by omega) (by omega)]
              cases unL (k+1) u <;> rfl
theorem nrm_app (b:UInt8) (hb:b≠13) (hb2:b≠10) (t:List UInt8):∀ n a,a.length≤n→nrm (a++b :: t)=nrm a++b :: nrm t:=by
  intro n
  induction n with
  | zero=>intro a h;obtain rfl:a = []:=List.length_eq_zero_iff.mp (by omega);rw [List.nil_append,nrm_cons b t hb];rfl
  | succ n ih=>
    intro a h
    cases a with
    | nil=>rw [List.nil_append,nrm_cons b t hb];rfl
    | cons c a=>
      simp only [List.length_cons] at h
      rw [List.cons_append]
      by_cases hc:c=13
      · subst hc
        by_cases hd:a.head? = some 10
        · cases a with
          | nil=>cases hd
          | cons d a=>
            obtain rfl:d=10:=Option.some.inj hd
            rw [List.cons_append,nrm_crlf,nrm_crlf,ih a (by simp at h;omega),List.cons_append]
        · rw [nrm_cr a hd,nrm_cr _ (by cases a with|nil=>simp [hb2]|cons d a=>simpa using hd),ih a (by omega),List.cons_append]
      · rw [nrm_cons c _ hc,nrm_cons c _ hc,ih a (by omega),List.cons_append]
theorem nrm_mem {c:UInt8} (hc:c≠10) (hc2:c≠13):∀ n l,l.length≤n→(c∈nrm l↔c∈l):=by
  intro n
  induction n with
  | zero=>intro l h;obtain rfl:l = []:=List.length_eq_zero_iff.mp (by omega);rfl
  | succ n ih=>
    intro l h
    cases l with
    | nil=>rfl
    | cons d l=>
      simp only [List.length_cons] at h
      by_cases hd:d=13
      · subst hd
        by_cases he:l.head? = some 10
        · cases l with
          | nil=>cases he
          | cons e l=>
            obtain rfl:e=10:=Option.some.inj he
            rw [nrm_crlf,List.mem_cons,ih l (by simp at h;omega),List.mem_cons,List.mem_cons]
            simp [hc,hc2]
        · rw [nrm_cr l he,List.mem_cons,ih l (by omega),List.mem_cons]
          simp [hc,hc2]
      · rw [nrm_cons d l hd,List.mem_cons,ih l (by omega),List.mem_cons]
theorem cut_none_iff (c:UInt8) (l:List UInt8):cutL c l=none↔c ∉ l:=by
  induction l with
  | nil=>simp [cutL]
  | cons b l ih=>
    rw [cutL]
    by_cases hb:b=c
    · rw [if_pos hb];simp [hb]
    · rw [if_neg hb,Option.map_eq_none_iff,ih,List.mem_cons]
      exact⟨fun h q=>q.elim (fun e=>hb e.symm) h,fun h q=>h (.inr q)⟩
theorem cut_mk (c:UInt8) (a t:List UInt8) (h:c ∉ a):cutL c (a++c :: t)=some (a,t):=by
  induction a with
  | nil=>rw [List.nil_append,cutL,if_pos rfl]
  | cons b a ih=>
    simp only [List.mem_cons,not_or] at h
    rw [List.cons_append,cutL,if_neg (fun e=>h.1 e.symm),ih h.2]
    rfl
theorem cut_nrm_none {l:List UInt8} (h:cutL 59 l=none):cutL 59 (nrm l)=none:=by
  rw [cut_none_iff] at h ⊢
  rwa [nrm_mem (by decide) (by decide) l.length l (Nat.le_refl _)]
theorem cut_nrm_some {l a t:List UInt8} (h:cutL 59 l=some (a,t)):cutL 59 (nrm l)=some (nrm a,nrm t):=by
  rw [cut_at h,nrm_app 59 (by decide) (by decide) t a.length a (Nat.le_refl _)]
  refine cut_mk 59 _ _ ?_
  rw [nrm_mem (by decide) (by decide) a.length a (Nat.le_refl _)]
  exact cut_no h
theorem nu_bad {b:Nat} {c:UInt8} (hd:dgB b c=none) (l:List UInt8) (h:c∈l):∀ n,nuB b n l=none:=by
  induction l with
  | nil=>cases h
  | cons d l ih=>
    intro n
    rw [nuB]
    rcases List.mem_cons.mp h with rfl|h2
    · rw [hd]
    · cases dgB b d with
      | none=>rfl
      | some x=>exact ih h2 _
theorem rf_bad {b:Nat} {c:UInt8} (hd:dgB b c=none) (l:List UInt8) (h:c∈l):rfB b l=none:=by
  unfold rfB
  rw [nu_bad hd l h]
  split
  · rfl
  · split <;> rfl
theorem ent_bad {c:UInt8} (hc:c=13∨c=10) (l:List UInt8) (h:c∈l):entB l=none:=by
  have d16:dgB 16 c=none:=by rcases hc with rfl|rfl <;> decide
  have d10:dgB 10 c=none:=by rcases hc with rfl|rfl <;> decide
  unfold entB
  rw [if_neg (by rintro rfl;rcases hc with rfl|rfl <;> simp at h),if_neg (by rintro rfl;rcases hc with rfl|rfl <;> simp at h),if_neg (by rintro rfl;rcases hc with rfl|rfl <;> simp at h),if_neg (by rintro rfl;rcases hc with rfl|rfl <;> simp at h),if_neg (by rintro rfl;rcases hc with rfl|rfl <;> simp at h)]
  unfold ndB
  split
  · rename_i r
    have hr:c∈r:=by
      rcases List.mem_cons.mp h with e|e
      · rcases hc with rfl|rfl <;> simp at e
      · exact e
    unfold nrB
    split
    · rename_i u
      have hu:c∈u:=by
        rcases List.mem_cons.mp hr with e|e
        · rcases hc with rfl|rfl <;> simp at e
        · exact e
      exact rf_bad d16 u hu
    · exact rf_bad d10 _ hr
  · rfl
theorem nrm_same:∀ l:List UInt8,13 ∉ l→nrm l=l:=by
  intro l
  induction l with
  | nil=>intro _;rfl
  | cons c l ih=>
    intro h
    simp only [List.mem_cons,not_or] at h
    rw [nrm_cons c l (fun e=>h.1 e.symm),ih h.2]
theorem nrm_ten:∀ n l,l.length≤n→(13:UInt8)∈l→(10:UInt8)∈nrm l:=by
  intro n
  induction n with
  | zero=>intro l h hm;obtain rfl:l = []:=List.length_eq_zero_iff.mp (by omega);cases hm
  | succ n ih=>
    intro l h hm
    cases l with
    | nil=>cases hm
    | cons c l=>
      simp only [List.length_cons] at h
      by_cases hc:c=13
      · subst hc
        by_cases he:l.head? = some 10
        · cases l with
          | nil=>cases he
          | cons e l=>obtain rfl:e=10:=Option.some.inj he;rw [nrm_crlf];exact List.mem_cons_self
        · rw [nrm_cr l he];exact List.mem_cons_self
      · rw [nrm_cons c l hc]
        rcases List.mem_cons.mp hm with e|e
        · exact absurd e.symm hc
        · exact List.mem_cons_of_mem _ (ih l (by omega) e)
theorem ent_nrm (a:List UInt8):entB (nrm a)=entB a:=by
  by_cases h:(13:UInt8)∈a
  · rw [ent_bad (.inl rfl) a h,ent_bad (.inr rfl) _ (nrm_ten a.length a (Nat.le_refl _) h)]
  · rw [nrm_same a h]
theorem unD_eq (k:Nat):∀ l,l.length<k→unD k l=unL k (nrm l):=by
  induction k with
  | zero=>intro l h;omega
  | succ k ih=>
    intro l h
    cases l with
    | nil=>rfl
    | cons c l=>
      simp only [List.length_cons] at h
      rw [unD]
      by_cases hc:c=13
      · subst hc
        rw [if_pos rfl]
        by_cases he:l.head? = some 10
        · cases l with
          | nil=>cases he
          | cons e l=>
            obtain rfl:e=10:=Option.some.inj he
            simp only [List.length_cons] at h
            rw [if_pos he,nrm_crlf,unL,if_neg (by decide),List.tail_cons,ih l (by omega)]
        · rw [if_neg he,nrm_cr l he,unL,if_neg (by decide),ih l (by omega)]
      · rw [if_neg hc,nrm_cons c l hc,unL,ih l (by omega)]
        by_cases h38:c=38
        · rw [if_pos h38,if_pos h38]
          cases hp:cutL 59 l with
          | none=>rw [cut_nrm_none hp]
          | some p=>
            obtain⟨a,t⟩:=p
            have:=cut_len hp
            rw [cut_nrm_some hp]
            simp only
            rw [ent_nrm,ih t (by omega)]
        · rw [if_neg h38,if_neg h38]
theorem cut_g (s:ByteArray) (c:UInt8) (hs:s.size≤4000000):strings_Cut.f s ⟨#[c]⟩=some (cutR s c):=by
  have hi:=cutL_index c s.toList
  have hsl:=length_toList s
  have e1:stringslite_Index.f s ⟨#[c]⟩=some (Lib.indexByte s.toList c):=by
    unfold stringslite_Index.f
    rw [if_pos (by omega),← ByteArray.toList_eq]
    exact congrArg some (Lib.index_one s.toList c)
  unfold strings_Cut.f stringslite_Cut.f cutR
  rw [e1,Option.bind_some]
  cases hc:cutL c s.toList with
  | none=>
    rw [hc] at hi
    rw [hi];rfl
  | some p=>
    rw [hc] at hi
    obtain⟨h1,h2⟩:=hi
    have hl:=congrArg List.length h2
    rw [List.length_append,List.length_cons,hsl] at hl
    have hz:(⟨#[c]⟩ : ByteArray).size=1:=rfl
    rw [h1,hz,w64 (n:=(p.1.length:Int)+((1:Nat):Int)) (by omega) (by omega),if_pos (by omega),if_pos (by omega),if_pos (by omega),if_pos (by omega),if_pos (by omega),Option.bind_some]
    rw [extract_of s 0 _ p.1 (by rw [h2];simp),extract_of s _ s.size p.2 (by rw [h2,show((p.1.length:Int)+((1:Nat):Int)).toNat=p.1.length+1 by omega,List.take_of_length_le (by rw [List.length_append,List.length_cons];omega)];simp)]
def unR (acc:ByteArray) (r:Option (List UInt8)):ByteArray×Bool:=match r with|none=>(⟨#[]⟩,false)|some l=>(acc++B l,true)
theorem bz (a b:ByteArray):(a++b).size=a.size+b.size:=ByteArray.size_append
section
variable {k:Nat} {acc s p1 p2 q1 q2 t:ByteArray}
theorem l0_end (h:strings_Cut.f s ⟨#[38]⟩=some (p1,p2,false)) (hz:acc.size+p1.size≤140737488355328):xml_Unescape.l0 (k+1) acc s=some (acc++p1,true):=by
  rw [xml_Unescape.l0,h,Option.bind_some]
  dsimp only
  rw [if_pos hz,if_neg Bool.false_ne_true]
theorem l0_cut (h:strings_Cut.f s ⟨#[38]⟩=some (p1,p2,true)) (hz:acc.size+p1.size≤140737488355328) (h2:strings_Cut.f p2 ⟨#[59]⟩=some (q1,q2,false)):xml_Unescape.l0 (k+1) acc s=some (⟨#[]⟩,false):=by
  rw [xml_Unescape.l0,h,Option.bind_some]
  dsimp only
  rw [if_pos hz,if_pos rfl,h2,Option.bind_some]
  dsimp only
  rw [if_neg Bool.false_ne_true]
theorem l0_bad (h:strings_Cut.f s ⟨#[38]⟩=some (p1,p2,true)) (hz:acc.size+p1.size≤140737488355328) (h2:strings_Cut.f p2 ⟨#[59]⟩=some (q1,q2,true)) (h3:xml_sign.f q1=some (t,false)):xml_Unescape.l0 (k+1) acc s=some (⟨#[]⟩,false):=by
  rw [xml_Unescape.l0,h,Option.bind_some]
  dsimp only
  rw [if_pos hz,if_pos rfl,h2,Option.bind_some]
  dsimp only
  rw [if_pos rfl,h3,Option.bind_some]
  dsimp only
  rw [if_neg Bool.false_ne_true]
theorem l0_on (h:strings_Cut.f s ⟨#[38]⟩=some (p1,p2,true)) (hz:acc.size+p1.size≤140737488355328) (h2:strings_Cut.f p2 ⟨#[59]⟩=some (q1,q2,true)) (h3:xml_sign.f q1=some (t,true)) (hy:(acc++p1).size+t.size≤140737488355328):xml_Unescape.l0 (k+1) acc s=xml_Unescape.l0 k (acc++p1++t) q2:=by
  rw [xml_Unescape.l0,h,Option.bind_some]
  dsimp only
  rw [if_pos hz,if_pos rfl,h2,Option.bind_some]
  dsimp only
  rw [if_pos rfl,h3,Option.bind_some]
  dsimp only
  rw [if_pos rfl,if_pos hy]
end
theorem cut_no_B {l:List UInt8} {c:UInt8} (hl:l.length≤4000000) (h:cutL c l=none):strings_Cut.f (B l) ⟨#[c]⟩=some (B l,⟨#[]⟩,false):=by
  rw [cut_g _ _ (by rw [B_size];omega),cutR,B_toList,h]
theorem cut_at_B {l a t:List UInt8} {c:UInt8} (hl:l.length≤4000000) (h:cutL c l=some (a,t)):strings_Cut.f (B l) ⟨#[c]⟩=some (B a,B t,true):=by
  rw [cut_g _ _ (by rw [B_size];omega),cutR,B_toList,h]
  rfl
theorem ent_nil:entB []=none:=by decide
theorem un_l0 (n:Nat):∀ (l:List UInt8) (acc:ByteArray),l.length<n→l.length≤4000000→acc.size+4*l.length≤100000000→Ev (fun k=>xml_Unescape.l0 k acc (B l)) (unR acc (unL (l.length+1) l)):=by
  induction n with
  | zero=>intro l acc h _ ha;omega
  | succ n ih=>
    intro l acc h hl ha
    rw [unL_cut _ l (by omega)]
    cases hp:cutL 38 l with
    | none=>exact Ev.step (f:=fun _=>some (acc++B l,true)) (fun k=>l0_end (cut_no_B hl hp) (by rw [B_size];omega)) (Ev.now _)
    | some p=>
      obtain⟨a,t⟩:=p
      have h1:=cut_len hp
      dsimp only
      cases hq:cutL 59 t with
      | none=>exact Ev.step (f:=fun _=>some (⟨#[]⟩,false)) (fun k=>l0_cut (cut_at_B hl hp) (by rw [B_size];omega) (cut_no_B (by omega) hq)) (Ev.now _)
      | some q=>
        obtain⟨b,u⟩:=q
        have h2:=cut_len hq
        dsimp only
        obtain⟨x,hx1,hx2⟩:=sign_eq (B b) (by rw [B_size];omega)
        rw [B_toList] at hx1 hx2
        cases he:entB b with
        | none=>
          rw [he,Option.isSome_none] at hx1
          exact Ev.step (f:=fun _=>some (⟨#[]⟩,false)) (fun k=>l0_bad (cut_at_B hl hp) (by rw [B_size];omega) (cut_at_B (by omega) hq) hx1) (Ev.now _)
        | some e=>
          rw [he,Option.isSome_some] at hx1
          obtain rfl:=hx2 e he
          have hel:=ent_len he
          dsimp only
          have hbz:b.length≠0:=by
            intro z
            rw [List.length_eq_zero_iff.mp z,ent_nil] at he
            cases he
          have hac:(acc++B a++B e).size=acc.size+a.length+e.length:=by rw [bz,bz,B_size,B_size]
          refine Ev.step (f:=fun k=>xml_Unescape.l0 k (acc++B a++B e) (B u)) (fun k=>l0_on (cut_at_B hl hp) (by rw [B_size];omega) (cut_at_B (by omega) hq) hx1 (by rw [bz,B_size,B_size];omega)) ?_
          refine ev_eq (ih u (acc++B a++B e) (by omega) (by omega) (by rw [hac];omega)) ?_
          rw [unL_fuel (u.length+1) (l.length+1) u (by omega) (by omega)]
          cases unL (l.length+1) u with
          | none=>rfl
          | some r=>
            rw [Option.map_some,unR,unR]
            rw [← B_append,← B_append,ByteArray.append_assoc,ByteArray.append_assoc,ByteArray.append_assoc]
theorem rep_f (s:ByteArray) (o w:List UInt8) (hs:s.size≤4000000) (ho:1≤o.length) (hw:w.length=1) (hne:(o == w)=false):strings_ReplaceAll.f s (B o) (B w)=some (B (repR o w s.toList)):=by
  have hc:Lib.countB s (B o)≤s.size:=Lib.countB_le (B o) (by rw [B_size];omega) s.size s (Nat.le_refl _)
  unfold strings_ReplaceAll.f
  rw [if_pos ⟨by omega,by rw [B_size];omega,by rw [B_size,hw];omega⟩]
  congr 1
  show B _=_
  rw [← ByteArray.toList_eq,← ByteArray.toList_eq,← ByteArray.toList_eq,B_toList,B_toList,rep_all _ _ _ hne]
theorem n1_len:∀ l,(n1 l).length≤l.length
  | []=>by rw [n1_nil];simp
  | [c]=>by rw [n1_one];simp
  | c :: d :: r=>by
    by_cases h:c=13∧d=10
    · obtain⟨rfl,rfl⟩:=h
      have:=n1_len r
      rw [n1_two]
      simp only [List.length_cons];omega
    · have:=n1_len (d :: r)
      rw [n1_not c d r h]
      simp only [List.length_cons] at this ⊢;omega
theorem unescape_ev (s:ByteArray) (hs:s.size≤4000000):Ev (fun k=>xml_Unescape.f k s) (unR ⟨#[]⟩ (unL ((nrm s.toList).length+1) (nrm s.toList))):=by
  have hsl:=length_toList s
  have hl:=nrm_len s.toList
  have h1:=n1_len s.toList
  simp only [xml_Unescape.f]
  refine ev_some (rep_f s [13,10] [10] hs (by decide) rfl (by decide)) ?_
  refine ev_some (rep_f (B (repR [13,10] [10] s.toList)) [13] [10] (by rw [B_size];show(n1 s.toList).length≤_;omega) (by decide) rfl (by decide)) ?_
  rw [B_toList,show repR [13] [10] (repR [13,10] [10] s.toList)=nrm s.toList from nrm_eq _]
  exact un_l0 _ (nrm s.toList) ⟨#[]⟩ (Nat.lt_succ_self _) (by omega) (by show 0+_≤_;omega)
theorem ext_pre (s:ByteArray) (pre l:List UInt8) (c:UInt8) (h:s.toList=pre++c :: l):s.extract ((((pre.length+1:Nat)):Int)).toNat s.size=B l:=by
  rw [Int.toNat_natCast]
  refine(extract_of s _ _ l ?_).trans rfl
  rw [List.take_of_length_le (by rw [length_toList];exact Nat.le_refl _),h]
  simp
theorem ext_one (s:ByteArray) (pre l:List UInt8) (c:UInt8) (h:s.toList=pre++c :: l):s.extract ((pre.length:Int)).toNat ((((pre.length+1:Nat)):Int)).toNat=B [c]:=by
  rw [Int.toNat_natCast,Int.toNat_natCast]
  refine(extract_of s _ _ [c] ?_).trans rfl
  rw [h]
  simp [List.take_append]
section
variable {k p:Nat} {acc s:ByteArray}
theorem wp1 (h:p<s.size) (hs:s.size≤4000000):wrap64 ((p:Int)+1)=((p+1:Nat):Int):=by rw [w64 (by omega) (by omega)];rfl
theorem ru_end (h:¬ p<s.size):stowageref13_Unescape.l0 (k+1) s acc (p:Int)=some (acc,true):=by
  rw [stowageref13_Unescape.l0,if_neg (by omega)]
theorem ru_crlf (h:p+1<s.size) (hs:s.size≤4000000) (ha:acc.size≤100000000) (hb:bt s (p:Int)=13) (hb2:bt s ((p+1:Nat):Int)=10):stowageref13_Unescape.l0 (k+1) s acc (p:Int)=stowageref13_Unescape.l0 k s (acc++B [10]) ((p+2:Nat):Int):=by
  have h1:=wp1 (p:=p) (s:=s) (by omega) hs
  have h2:=wp1 (p:=p+1) (s:=s) h hs
  rw [stowageref13_Unescape.l0,if_pos (by omega),if_pos (by omega),if_pos hb,if_pos (by omega),h1,if_pos (by omega),if_pos (by omega),if_pos hb2,h2]
  rfl
theorem ru_cr (h:p<s.size) (hs:s.size≤4000000) (ha:acc.size≤100000000) (hb:bt s (p:Int)=13) (hb2:p+1<s.size→¬ bt s ((p+1:Nat):Int)=10):stowageref13_Unescape.l0 (k+1) s acc (p:Int)=stowageref13_Unescape.l0 k s (acc++B [10]) ((p+1:Nat):Int):=by
  have h1:=wp1 (p:=p) (s:=s) h hs
  rw [stowageref13_Unescape.l0,if_pos (by omega),if_pos (by omega),if_pos hb,if_pos (by omega),h1]
  by_cases hz:p+1<s.size
  · rw [if_pos (by omega),if_pos (by omega),if_neg (hb2 hz)]
    rfl
  · rw [if_neg (by omega)]
    rfl
theorem ru_amp (h:p<s.size) (hs:s.size≤4000000) (hb:bt s (p:Int)=38):stowageref13_Unescape.l0 (k+1) s acc (p:Int)=(stowageref3_Cut.f k (s.extract ((p+1:Nat):Int).toNat s.size) 59).bind fun q=>(stowageref13_entity.f k q.1).bind fun t=>if q.2.2=true then(if t.2=true then(if acc.size+t.1.size≤9223372036854775807 then stowageref13_Unescape.l0 k s (acc++t.1) (wrap64 (wrap64 (((p+1:Nat):Int)+(q.1.size:Int))+1)) else none) else some ((⟨#[]⟩ : ByteArray),false)) else some ((⟨#[]⟩ : ByteArray),false):=by
  have h1:=wp1 (p:=p) (s:=s) h hs
  rw [stowageref13_Unescape.l0,if_pos (by omega),if_pos (by omega),if_neg (by omega),if_pos hb,h1,if_pos (by omega),if_pos (by omega)]
theorem ru_on (h:p<s.size) (hs:s.size≤4000000) (ha:acc.size≤100000000) (hb:¬ bt s (p:Int)=13) (hb2:¬ bt s (p:Int)=38) {x:ByteArray} (hx:s.extract (p:Int).toNat ((p+1:Nat):Int).toNat=x) (hz:x.size≤1000):stowageref13_Unescape.l0 (k+1) s acc (p:Int)=stowageref13_Unescape.l0 k s (acc++x) ((p+1:Nat):Int):=by
  have h1:=wp1 (p:=p) (s:=s) h hs
  rw [stowageref13_Unescape.l0,if_pos (by omega),if_pos (by omega),if_neg hb,if_neg hb2,h1,if_pos (by omega),if_pos (by omega),hx,if_pos (by omega)]
end
theorem unR_key (acc:ByteArray) (x:List UInt8) (q:Option (List UInt8)):unR (acc++B x) q=unR acc (q.map (x ++ ·)):=by
  cases q with
  | none=>rfl
  | some r=>rw [Option.map_some,unR,unR];rw [← B_append,ByteArray.append_assoc]
theorem B_nil (acc:ByteArray):acc++B []=acc:=ByteArray.append_empty
theorem und_l0 (s:ByteArray) (hs:s.size≤4000000) (n:Nat):∀ (l pre:List UInt8) (acc:ByteArray),l.length<n→s.toList=pre++l→acc.size+4*l.length≤100000000→Ev (fun k=>stowageref13_Unescape.l0 k s acc (pre.length:Int)) (unR acc (unD n l)):=by
  induction n with
  | zero=>intro l pre acc h;omega
  | succ n ih=>
    intro l pre acc h hp ha
    cases l with
    | nil=>
      have hpe:=pre_end s pre hp
      refine ev_eq (Ev.step (f:=fun _=>some (acc,true)) (fun k=>ru_end (by omega)) (Ev.now _)) ?_
      rw [unD,unR,B_nil]
    | cons c l=>
      obtain⟨hbt,hlt⟩:=bt_pre s pre l c hp
      have hle:=pre_le s pre (c :: l) hp
      rw [List.length_cons] at h ha hle
      have hp1:s.toList=(pre ++ [c])++l:=by rw [hp];simp
      have hl1:(pre ++ [c]).length=pre.length+1:=by simp
      rw [unD]
      by_cases c13:c=13
      · subst c13
        rw [if_pos rfl]
        by_cases hd:l.head? = some 10
        · cases l with
          | nil=>cases hd
          | cons d l=>
            obtain rfl:d=10:=Option.some.inj hd
            rw [if_pos hd,List.tail_cons]
            obtain⟨hbt2,hlt2⟩:=bt_pre s (pre ++ [13]) l 10 hp1
            rw [hl1] at hbt2 hlt2
            rw [List.length_cons] at h ha hle
            refine Ev.step (fun k=>ru_crlf hlt2 hs (by omega) hbt hbt2) ?_
            have:=ih l (pre ++ [13,10]) (acc++B [10]) (by omega) (by rw [hp];simp) (by rw [bz,B_size,List.length_cons,List.length_nil];omega)
            have e1:(pre++([13,10]:List UInt8)).length=pre.length+2:=by simp
            rw [e1] at this
            exact ev_eq this (unR_key acc [10] _)
        · rw [if_neg hd]
          refine Ev.step (fun k=>ru_cr hlt hs (by omega) hbt (fun hz=>?_)) ?_
          · cases l with
            | nil=>rw [List.length_nil] at hle;omega
            | cons d l=>
              have q:=(bt_pre s (pre ++ [13]) l d hp1).1
              rw [hl1] at q
              rw [q]
              intro e
              exact hd (by rw [List.head?_cons,toNat_eq.mp (show(d.toNat:Int)=((10:UInt8).toNat:Int) from e)])
          · have:=ih l (pre ++ [13]) (acc++B [10]) (by omega) hp1 (by rw [bz,B_size,List.length_cons,List.length_nil];omega)
            rw [hl1] at this
            exact ev_eq this (unR_key acc [10] _)
      · have hb13:¬ bt s (pre.length:Int)=13:=by rw [hbt];intro e;exact c13 (toNat_eq.mp (show(c.toNat:Int)=((13:UInt8).toNat:Int) from e))
        rw [if_neg c13]
        by_cases c38:c=38
        · subst c38
          rw [if_pos rfl]
          refine Ev.step (fun k=>ru_amp hlt hs hbt) ?_
          rw [ext_pre s pre l 38 hp]
          refine Ev.bind (rcut_ev (B l) 59 (by rw [B_size];omega)) ?_
          rw [cutR,B_toList]
          cases hp2:cutL 59 l with
          | none=>exact Ev.bind (entity_ev (B l) (by rw [B_size];omega)) (ev_neg Bool.false_ne_true (Ev.now _))
          | some p=>
            obtain⟨a,t⟩:=p
            have h1:=cut_len hp2
            have ht:=cut_at hp2
            refine Ev.bind (entity_ev (B a) (by rw [B_size];omega)) (ev_pos rfl ?_)
            rw [B_toList]
            dsimp only
            cases he:entB a with
            | none=>exact ev_neg Bool.false_ne_true (Ev.now _)
            | some e=>
              have hel:=ent_len he
              have haz:a.length≠0:=by
                intro z
                rw [List.length_eq_zero_iff.mp z,ent_nil] at he
                cases he
              refine ev_pos rfl (ev_pos (by show acc.size+(B e).size≤_;rw [B_size];omega) ?_)
              show Ev (fun k=>stowageref13_Unescape.l0 k s (acc++B e) (wrap64 (wrap64 (((pre.length+1:Nat):Int)+((B a).size:Int))+1))) _
              rw [B_size,w64 (n:=((pre.length+1:Nat):Int)+(a.length:Int)) (by omega) (by omega),w64 (by omega) (by omega)]
              have:=ih t (pre++38 :: (a ++ [59])) (acc++B e) (by omega) (by rw [hp,ht];simp) (by rw [bz,B_size];omega)
              have e1:(((pre++(38:UInt8) :: (a ++ [59])).length:Nat):Int)=((pre.length+1:Nat):Int)+(a.length:Int)+1:=by rw [List.length_append,List.length_cons,List.length_append,List.length_cons,List.length_nil];omega
              rw [e1] at this
              exact ev_eq this (unR_key acc e _)
        · have hb38:¬ bt s (pre.length:Int)=38:=by rw [hbt];intro e;exact c38 (toNat_eq.mp (show(c.toNat:Int)=((38:UInt8).toNat:Int) from e))
          rw [if_neg c38]
          refine Ev.step (fun k=>ru_on hlt hs (by omega) hb13 hb38 (ext_one s pre l c hp) (by rw [B_size];simp)) ?_
          have:=ih l (pre ++ [c]) (acc++B [c]) (by omega) hp1 (by rw [bz,B_size,List.length_cons,List.length_nil];omega)
          rw [hl1] at this
          exact ev_eq this (unR_key acc [c] _)
theorem runescape_ev (s:ByteArray) (hs:s.size≤4000000):Ev (fun k=>stowageref13_Unescape.f k s) (unR ⟨#[]⟩ (unL ((nrm s.toList).length+1) (nrm s.toList))):=by
  have hsl:=length_toList s
  have hl:=nrm_len s.toList
  simp only [stowageref13_Unescape.f]
  refine ev_eq (und_l0 s hs (s.toList.length+1) s.toList [] ⟨#[]⟩ (Nat.lt_succ_self _) rfl (by show 0+_≤_;omega)) ?_
  rw [unD_eq _ _ (by omega),unL_fuel _ ((nrm s.toList).length+1) _ (by omega) (by omega)]
def whB (c:UInt8):Bool:=decide (c.toNat=32∨c.toNat=9∨c.toNat=10∨c.toNat=13)
theorem wh_a (c:UInt8):xml_white.f (c.toNat:Int)=some (whB c):=byte_all (P:=fun c=>xml_white.f (c.toNat:Int)=some (whB c)) (by decide +kernel) c
theorem bt_at_pre {s:ByteArray} {pre l:List UInt8} {c:UInt8} (h:s.toList=pre++c :: l):bt s (pre.length:Int)=(c.toNat:Int)∧pre.length<s.size:=bt_pre s pre l c h
theorem len_nx (pre:List UInt8) (c:UInt8) (n:Nat) (h:pre.length<n) (hn:n≤4000000):wrap64 ((pre.length:Int)+1)=(((pre ++ [c]).length:Nat):Int):=pre_next pre c n h (by omega)
theorem sp_l0 (s:ByteArray) (hs:s.size≤4000000) (x3:Int) (ws:List UInt8):∀ (pre rest:List UInt8),s.toList=pre++(ws++rest)→ws.all whB=true→(∀ c,rest.head? = some c→whB c=false) →
    Ev (fun k=>xml_reader_space.l0 k x3 s (pre.length:Int)) (decide (((pre.length+ws.length:Nat):Int)>x3),s,((pre.length+ws.length:Nat):Int)):=by
  induction ws with
  | nil=>
    intro pre rest h _ hr
    cases rest with
    | nil=>
      have:=pre_end s pre h
      exact Ev.step (f:=fun _=>some (decide ((pre.length:Int)>x3),s,(pre.length:Int))) (fun k=>by rw [xml_reader_space.l0,if_neg (by omega)]) (Ev.now _)
    | cons c rest=>
      obtain⟨hb,hlt⟩:=bt_at_pre (h:=h)
      refine Ev.step (f:=fun _=>some (decide ((pre.length:Int)>x3),s,(pre.length:Int))) (fun k=>?_) (Ev.now _)
      rw [xml_reader_space.l0,if_pos (by omega),if_pos (by omega),hb,wh_a,Option.bind_some,hr c rfl,if_neg Bool.false_ne_true]
  | cons c ws ih=>
    intro pre rest h hw hr
    rw [List.cons_append] at h
    obtain⟨hb,hlt⟩:=bt_at_pre (h:=h)
    rw [List.all_cons,Bool.and_eq_true] at hw
    have hnx:=len_nx pre c s.size hlt hs
    have:=ih (pre ++ [c]) rest (by rw [h];simp) hw.2 hr
    refine ev_eq (Ev.step (f:=fun k=>xml_reader_space.l0 k x3 s (((pre ++ [c]).length:Nat):Int)) (fun k=>?_) this) ?_
    · rw [xml_reader_space.l0,if_pos (by omega),if_pos (by omega),hb,wh_a,Option.bind_some,hw.1,if_pos rfl,hnx]
    · rw [List.length_append,List.length_cons,List.length_nil,List.length_cons,show pre.length+(0+1)+ws.length=pre.length+(ws.length+1) by omega]
theorem sp_ev (s:ByteArray) (hs:s.size≤4000000) (pre ws rest:List UInt8) (h:s.toList=pre++(ws++rest)) (hw:ws.all whB=true) (hr:∀ c,rest.head? = some c→whB c=false) :
    Ev (fun k=>xml_reader_space.f k s (pre.length:Int)) (decide (ws ≠ []),s,((pre.length+ws.length:Nat):Int)):=by
  simp only [xml_reader_space.f]
  refine ev_eq (sp_l0 s hs (pre.length:Int) ws pre rest h hw hr) ?_
  congr 1
  rw [decide_eq_decide]
  cases ws with
  | nil=>simp
  | cons c ws=>simp;omega
theorem hp_eq (s:ByteArray) (p:List UInt8):strings_HasPrefix.f s (B p)=some (s.toList.take p.length == p):=by
  have hsl:=length_toList s
  unfold strings_HasPrefix.f stringslite_HasPrefix.f
  rw [B_size]
  by_cases c:p.length≤s.size
  · rw [if_pos (by omega),if_pos (by omega),if_pos (by omega),toList_extract,B_toList]
    rfl
  · rw [if_neg (by omega)]
    refine congrArg some ?_
    symm
    rw [beq_eq_false_iff_ne]
    intro e
    have:=congrArg List.length e
    rw [List.length_take,hsl] at this
    omega
theorem ext_p {s:ByteArray} {pre l:List UInt8} (h:s.toList=pre++l):(s.extract ((pre.length:Int)).toNat s.size).toList=l:=by
  rw [ext_list,Int.toNat_natCast,h,List.drop_left]
theorem hp_at {s:ByteArray} {pre l:List UInt8} (h:s.toList=pre++l) (p:List UInt8):strings_HasPrefix.f (s.extract ((pre.length:Int)).toNat s.size) (B p)=some (l.take p.length == p):=by
  rw [hp_eq,ext_p h]
theorem eat_yes {s:ByteArray} (hs:s.size≤4000000) {pre p l:List UInt8} (h:s.toList=pre++(p++l)):xml_reader_eat.f s (pre.length:Int) (B p)=some (true,s,(((pre++p).length:Nat):Int)):=by
  have hl:=pre_le s pre (p++l) h
  rw [List.length_append] at hl
  rw [xml_reader_eat.f,if_pos (by omega),if_pos (by omega),hp_at h p,Option.bind_some,List.take_left,beq_self_eq_true,if_pos rfl,B_size,w64 (by omega) (by omega),List.length_append]
  rfl
theorem eat_no {s:ByteArray} (hs:s.size≤4000000) {pre l:List UInt8} (h:s.toList=pre++l) (p:List UInt8) (hn:¬ l.take p.length=p):xml_reader_eat.f s (pre.length:Int) (B p)=some (false,s,(pre.length:Int)):=by
  have hl:=pre_le s pre l h
  rw [xml_reader_eat.f,if_pos (by omega),if_pos (by omega),hp_at h p,Option.bind_some,beq_eq_false_iff_ne.mpr hn,if_neg Bool.false_ne_true]
theorem nm_l0 (s:ByteArray) (hs:s.size≤4000000) (p0:List UInt8) (nm:List UInt8):∀ (done rest:List UInt8),s.toList=(p0++done)++(nm++rest)→nm.all inB=true→(∀ c,rest.head? = some c→inB c=false) →
    Ev (fun k=>xml_reader_name.l0 k (p0.length:Int) s (((p0++done).length:Nat):Int)) (B (done++nm),s,(((p0++(done++nm)).length:Nat):Int)):=by
  have hend:∀ (done rest:List UInt8),s.toList=(p0++done)++rest→(if(0:Int)≤(p0.length:Int) then(if(p0.length:Int)≤(((p0++done).length:Nat):Int) then(if(((p0++done).length:Nat):Int)≤(s.size:Int) then(some (s.extract ((p0.length:Int)).toNat ((((p0++done).length:Nat):Int)).toNat,s,(((p0++done).length:Nat):Int))) else none) else none) else none)=some (B done,s,(((p0++done).length:Nat):Int)):=by
    intro done rest h
    have hl:=pre_le s (p0++done) rest h
    rw [if_pos (by omega),if_pos (by rw [List.length_append];omega),if_pos (by omega),Int.toNat_natCast,Int.toNat_natCast]
    congr 2
    refine(extract_of s _ _ done ?_).trans rfl
    rw [h,List.take_left,List.drop_left]
  induction nm with
  | nil=>
    intro done rest h _ hr
    rw [List.nil_append] at h
    rw [List.append_nil]
    cases rest with
    | nil=>
      have:=pre_end s (p0++done) h
      refine Ev.step (f:=fun _=>some (B done,s,(((p0++done).length:Nat):Int))) (fun k=>?_) (Ev.now _)
      rw [xml_reader_name.l0,if_neg (by omega),hend done [] h]
    | cons c rest=>
      obtain⟨hb,hlt⟩:=bt_at_pre (h:=h)
      refine Ev.step (f:=fun _=>some (B done,s,(((p0++done).length:Nat):Int))) (fun k=>?_) (Ev.now _)
      rw [xml_reader_name.l0,if_pos (by omega),if_pos (by omega),hb,in_a,Option.bind_some,hr c rfl,if_neg Bool.false_ne_true,hend done (c :: rest) h]
  | cons c nm ih=>
    intro done rest h hw hr
    rw [List.cons_append] at h
    obtain⟨hb,hlt⟩:=bt_at_pre (h:=h)
    rw [List.all_cons,Bool.and_eq_true] at hw
    have hnx:=len_nx (p0++done) c s.size hlt hs
    rw [List.append_assoc p0 done [c]] at hnx
    have:=ih (done ++ [c]) rest (by rw [h];simp) hw.2 hr
    refine ev_eq (Ev.step (f:=fun k=>xml_reader_name.l0 k (p0.length:Int) s (((p0++(done ++ [c])).length:Nat):Int)) (fun k=>?_) this) ?_
    · rw [xml_reader_name.l0,if_pos (by omega),if_pos (by omega),hb,in_a,Option.bind_some,hw.1,if_pos rfl,hnx]
    · rw [List.append_assoc done [c] nm];rfl
theorem nm_ev (s:ByteArray) (hs:s.size≤4000000) (pre nm rest:List UInt8) (h:s.toList=pre++(nm++rest)) (hw:nm.all inB=true) (hr:∀ c,rest.head? = some c→inB c=false) :
    Ev (fun k=>xml_reader_name.f k s (pre.length:Int)) (B nm,s,(((pre++nm).length:Nat):Int)):=by
  simp only [xml_reader_name.f]
  have:=nm_l0 s hs pre nm [] rest (by rw [List.append_nil];exact h) hw hr
  rwa [List.append_nil,List.nil_append] at this
theorem split_wh:∀ l:List UInt8,∃ ws r,l=ws++r∧ws.all whB=true ∧ ∀ c,r.head? = some c→whB c=false
  | []=>⟨[],[],rfl,rfl,fun c h=>by cases h⟩
  | c :: l=>by
    by_cases h:whB c=true
    · obtain⟨ws,r,h1,h2,h3⟩:=split_wh l
      exact⟨c :: ws,r,by rw [h1];rfl,by rw [List.all_cons,h,h2];rfl,h3⟩
    · exact⟨[],c :: l,rfl,rfl,fun d hd=>by cases hd;simpa using h⟩
theorem lp_end {s:ByteArray} {pre tail:List UInt8} (h:s.toList=pre++60 :: 47 :: tail) (d:Int) (kids:List XN):Ev (fun k=>xml_co.lp k s (pre.length:Int) d kids) (true,kids,s,(pre.length:Int)):=by
  have hl:=pre_le s pre _ h
  refine Ev.step (f:=fun _=>some (true,kids,s,(pre.length:Int))) (fun k=>?_) (Ev.now _)
  have hx1:((60 :: 47 :: tail).take ([60]:List UInt8).length == ([60]:List UInt8))=true:=rfl
  have hx2:((60 :: 47 :: tail).take ([60,47]:List UInt8).length == ([60,47]:List UInt8))=true:=rfl
  rw [xml_co.lp,if_pos (by omega),if_pos (by omega),show(⟨#[60]⟩ : ByteArray)=B [60] from rfl,show(⟨#[60,47]⟩ : ByteArray)=B [60,47] from rfl,hp_at h,hp_at h,hx1,hx2,Option.bind_some,if_pos rfl,Option.bind_some,if_pos rfl]
theorem lp_text {s:ByteArray} {pre l:List UInt8} (h:s.toList=pre++l) (hn:l.head? ≠ some 60) (d:Int) (kids:List XN):Ev (fun k=>xml_co.lp k s (pre.length:Int) d kids) (true,kids,s,(pre.length:Int)):=by
  have hl:=pre_le s pre _ h
  refine Ev.step (f:=fun _=>some (true,kids,s,(pre.length:Int))) (fun k=>?_) (Ev.now _)
  have hx:(l.take ([60]:List UInt8).length == ([60]:List UInt8))=false:=by
    rw [beq_eq_false_iff_ne]
    intro e
    cases l with
    | nil=>cases e
    | cons c l=>exact hn (by rw [List.head?_cons];exact congrArg some (List.cons.inj e).1)
  rw [xml_co.lp,if_pos (by omega),if_pos (by omega),show(⟨#[60]⟩ : ByteArray)=B [60] from rfl,hp_at h,hx,Option.bind_some,if_neg Bool.false_ne_true]
theorem nm_head {a:List UInt8} (h:nmB a=true):∃ c l,a=c :: l∧letB c=true∧a.all inB=true:=by
  cases a with
  | nil=>cases h
  | cons c l=>
    rw [nmB,Bool.and_eq_true] at h
    exact⟨c,l,rfl,h.1,by rw [List.all_cons,let_in h.1,h.2];rfl⟩
theorem tailL_take (l:List UInt8):∀ j v r,tailL l j v=some r→tailL (l.take j) j v=some r ∧ ∀ b∈l.take j,128≤b.toNat:=by
  induction l with
  | nil=>
    intro j v r h
    cases j with
    | zero=>exact⟨h,fun b hb=>by simp at hb⟩
    | succ j=>rw [tailL] at h;cases h
  | cons b l ih=>
    intro j v r h
    cases j with
    | zero=>exact⟨by rw [tailL] at h ⊢;exact h,fun b hb=>by simp at hb⟩
    | succ j=>
      rw [tailL] at h
      split at h
      · rename_i c
        obtain⟨h1,h2⟩:=ih j _ r h
        rw [List.take_succ_cons]
        refine⟨by rw [tailL,if_pos c];exact h1,fun x hx=>?_⟩
        rcases List.mem_cons.mp hx with rfl|hx
        · exact c.1
        · exact h2 x hx
      · cases h
theorem seqL_take (l:List UInt8) (j v m:Nat) (h:(seqL l j v m).2≠0):seqL (l.take j) j v m=seqL l j v m∧(seqL l j v m).2=j+1 ∧ ∀ b∈l.take j,128≤b.toNat:=by
  rcases seqL_cases l j v m with e|⟨r,h1,h2⟩
  · rw [e] at h;exact absurd rfl h
  · obtain⟨h3,h4⟩:=tailL_take l j v r h1
    refine⟨?_,by rw [h2],h4⟩
    unfold seqL
    rw [h1,h3]
theorem stL_take (c:UInt8) (l:List UInt8) (hc:128≤c.toNat) (h:(stL (c :: l)).2≠0):stL ((c :: l).take (stL (c :: l)).2)=stL (c :: l) ∧ ∀ b∈(c :: l).take (stL (c :: l)).2,128≤b.toNat:=by
  have key:∀ j v m,stL (c :: l)=seqL l j v m→(∀ t,stL (c :: t)=seqL t j v m)→stL ((c :: l).take (stL (c :: l)).2)=stL (c :: l) ∧ ∀ b∈(c :: l).take (stL (c :: l)).2,128≤b.toNat:=by
    intro j v m e et
    rw [e] at h
    obtain⟨h1,h2,h3⟩:=seqL_take l j v m h
    rw [e,h2,List.take_succ_cons,et]
    refine⟨h1,fun b hb=>?_⟩
    rcases List.mem_cons.mp hb with rfl|hb
    · exact hc
    · exact h3 b hb
  have e0:∀ t,stL (c :: t)=if c.toNat<192 then(0,0) else if c.toNat<224 then seqL t 1 (c.toNat-192) 128 else if c.toNat<240 then seqL t 2 (c.toNat-224) 2048 else if c.toNat<248 then seqL t 3 (c.toNat-240) 65536 else(0,0):=fun t=>by rw [stL,if_neg (by omega)]
  by_cases c1:c.toNat<192
  · rw [e0,if_pos c1] at h;exact absurd rfl h
  · by_cases c2:c.toNat<224
    · exact key 1 _ 128 (by rw [e0,if_neg c1,if_pos c2]) (fun t=>by rw [e0,if_neg c1,if_pos c2])
    · by_cases c3:c.toNat<240
      · exact key 2 _ 2048 (by rw [e0,if_neg c1,if_neg c2,if_pos c3]) (fun t=>by rw [e0,if_neg c1,if_neg c2,if_pos c3])
      · by_cases c4:c.toNat<248
        · exact key 3 _ 65536 (by rw [e0,if_neg c1,if_neg c2,if_neg c3,if_pos c4]) (fun t=>by rw [e0,if_neg c1,if_neg c2,if_neg c3,if_pos c4])
        · rw [e0,if_neg c1,if_neg c2,if_neg c3,if_neg c4] at h;exact absurd rfl h
theorem split_in:∀ l:List UInt8,∃ nm r,l=nm++r∧nm.all inB=true ∧ ∀ c,r.head? = some c→inB c=false
  | []=>⟨[],[],rfl,rfl,fun c h=>by cases h⟩
  | c :: l=>by
    by_cases h:inB c=true
    · obtain⟨nm,r,h1,h2,h3⟩:=split_in l
      exact⟨c :: nm,r,by rw [h1];rfl,by rw [List.all_cons,h,h2];rfl,h3⟩
    · exact⟨[],c :: l,rfl,rfl,fun d hd=>by cases hd;simpa using h⟩
section
variable {s:ByteArray} {pre l:List UInt8}
theorem sp_tot (hs:s.size≤4000000) (h:s.toList=pre++l):∃ ws r,l=ws++r∧ws.all whB=true∧(∀ c,r.head? = some c→whB c=false)∧s.toList=(pre++ws)++r∧Ev (fun k=>xml_reader_space.f k s (pre.length:Int)) (decide (ws ≠ []),s,(((pre++ws).length:Nat):Int)):=by
  obtain⟨ws,r,h1,h2,h3⟩:=split_wh l
  have:=sp_ev s hs pre ws r (by rw [h,h1]) h2 h3
  rw [← List.length_append] at this
  exact⟨ws,r,h1,h2,h3,by rw [h,h1,List.append_assoc],this⟩
theorem nm_tot (hs:s.size≤4000000) (h:s.toList=pre++l):∃ nm r,l=nm++r∧s.toList=(pre++nm)++r∧Ev (fun k=>xml_reader_name.f k s (pre.length:Int)) (B nm,s,(((pre++nm).length:Nat):Int)):=by
  obtain⟨nm,r,h1,h2,h3⟩:=split_in l
  exact⟨nm,r,h1,by rw [h,h1,List.append_assoc],nm_ev s hs pre nm r (by rw [h,h1]) h2 h3⟩
theorem eat_tot (hs:s.size≤4000000) (h:s.toList=pre++l) (p:List UInt8):(∃ r,l=p++r∧s.toList=(pre++p)++r∧xml_reader_eat.f s (pre.length:Int) (B p)=some (true,s,(((pre++p).length:Nat):Int)))∨xml_reader_eat.f s (pre.length:Int) (B p)=some (false,s,(pre.length:Int)):=by
  by_cases c:l.take p.length=p
  · left
    have e:l=p++l.drop p.length:=by
      have:=List.take_append_drop p.length l
      rw [c] at this
      exact this.symm
    exact⟨l.drop p.length,e,by rw [h,List.append_assoc,← e],eat_yes hs (by rw [h,← e])⟩
  · exact .inr (eat_no hs h p c)
theorem isnm_tot (nm:List UInt8) (h:nm.length≤4000000):Ev (fun k=>xml_Name.f k (B nm)) (nmB nm):=by
  have:=xname_ev (B nm) (by rw [B_size];omega)
  rwa [B_toList] at this
theorem toU8 (c:UInt8):((c.toNat:Int)).toNat.toUInt8=c:=by
  rw [Int.toNat_natCast]
  exact UInt8.ofNat_toNat
theorem any_tot (a b:ByteArray) (h:a.size≤4000000) (hb:b=⟨#[60,38]⟩):∃ c,strings_ContainsAny.f a b=some c:=by
  unfold strings_ContainsAny.f
  rw [if_pos ⟨by omega,hb⟩]
  exact⟨_,rfl⟩
set_option maxHeartbeats 1000000 in
theorem at2_tot (hs:s.size≤4000000) (h:s.toList=pre++l):∃ b m r,l=m++r∧s.toList=(pre++m)++r∧xml_reader_attribute.r2 s (pre.length:Int)=some (b,s,(((pre++m).length:Nat):Int)):=by
  have hl:=pre_le s pre l h
  have stay:∀ b:Bool,xml_reader_attribute.r2 s (pre.length:Int)=some (b,s,(pre.length:Int)) → ∃ b m r,l=m++r∧s.toList=(pre++m)++r∧xml_reader_attribute.r2 s (pre.length:Int)=some (b,s,(((pre++m).length:Nat):Int)):=fun b e=>⟨b,[],l,rfl,by rw [List.append_nil];exact h,by rw [List.append_nil];exact e⟩
  cases l with
  | nil=>
    have:=pre_end s pre h
    refine stay false ?_
    rw [xml_reader_attribute.r2,if_pos (by omega),if_pos (by omega),if_pos (by omega)]
  | cons c t=>
    rw [List.length_cons] at hl
    have hl1:(pre ++ [c]).length=pre.length+1:=by simp
    have p1:(0:Int)≤(pre.length:Int):=by omega
    have p2:(pre.length:Int)≤(s.size:Int):=by omega
    have p3:¬ (pre.length:Int)=(s.size:Int):=by omega
    have p4:(0:Int)≤(((pre ++ [c]).length:Nat):Int):=by omega
    have p5:(((pre ++ [c]).length:Nat):Int)≤(s.size:Int):=by omega
    obtain⟨hb,hlt⟩:=bt_at_pre (h:=h)
    have h1:s.toList=(pre ++ [c])++t:=by rw [h];simp
    have hw:wrap64 ((pre.length:Int)+1)=(((pre ++ [c]).length:Nat):Int):=len_nx pre c s.size hlt hs
    by_cases hm:((c.toNat:Int)=34∨(c.toNat:Int)=39)
    · have hix:strings_IndexByte.f (s.extract ((((pre ++ [c]).length:Nat):Int)).toNat s.size) (c.toNat:Int)=some (Lib.indexByte t c):=by
        unfold strings_IndexByte.f stringslite_IndexByte.f
        rw [← ByteArray.toList_eq,ext_p h1,Option.bind_some,toU8]
      have hci:=cutL_index c t
      cases hcut:cutL c t with
      | none=>
        rw [hcut] at hci
        refine stay false ?_
        rw [xml_reader_attribute.r2,if_pos p1,if_pos p2,if_neg p3,hb,if_pos hm,hw,if_pos p4,if_pos p5,hix,Option.bind_some,hci,if_pos (by decide)]
      | some q=>
        obtain⟨a,u⟩:=q
        rw [hcut] at hci
        obtain⟨hi,ht⟩:=hci
        dsimp only at hi ht
        have htl:=congrArg List.length ht
        rw [List.length_append,List.length_cons] at htl
        have p6:(((pre ++ [c]).length:Nat):Int)≤((pre.length+1+a.length:Nat):Int):=by clear hb hw hi hix;omega
        have p7:((pre.length+1+a.length:Nat):Int)≤(s.size:Int):=by clear hb hw hi hix;omega
        have p8:¬ (a.length:Int)<0:=by clear hb hw hi hix;omega
        have hw2:wrap64 ((((pre ++ [c]).length:Nat):Int)+(a.length:Int))=((pre.length+1+a.length:Nat):Int):=by clear hb hw hi hix;rw [w64 (by omega) (by omega)];omega
        obtain⟨v,hv⟩:=any_tot (s.extract ((((pre ++ [c]).length:Nat):Int)).toNat (((pre.length+1+a.length:Nat):Int)).toNat) (⟨#[60,38]⟩ : ByteArray) (by clear hb hw hi hix hw2;rw [ByteArray.size_extract];omega) rfl
        have hw3:wrap64 ((pre.length:Int)+wrap64 ((a.length:Int)+2))=(((pre++(c :: a ++ [c])).length:Nat):Int):=by
          clear hb hw hi hix hw2 hv
          rw [w64 (n:=(a.length:Int)+2) (by omega) (by omega),w64 (by omega) (by omega),List.length_append]
          simp only [List.length_append,List.length_cons,List.length_nil]
          omega
        have hr:xml_reader_attribute.r2 s (pre.length:Int)=(if v=true then some (false,s,(pre.length:Int)) else some (true,s,(((pre++(c :: a ++ [c])).length:Nat):Int))):=by
          rw [xml_reader_attribute.r2,if_pos p1,if_pos p2,if_neg p3,hb,if_pos hm,hw,if_pos p4,if_pos p5,hix,Option.bind_some,hi,if_neg p8,hw2,if_pos p6,if_pos p7,hv,Option.bind_some,hw3]
        cases v with
        | true=>exact stay false (by rw [hr,if_pos rfl])
        | false=>
          rw [if_neg Bool.false_ne_true] at hr
          exact⟨true,c :: a ++ [c],u,by rw [ht];simp,by rw [h,ht];simp,hr⟩
    · refine stay false ?_
      rw [xml_reader_attribute.r2,if_pos p1,if_pos p2,if_neg p3,hb,if_neg hm]
theorem at1_tot (hs:s.size≤4000000) (h:s.toList=pre++l):∃ b m r,l=m++r∧s.toList=(pre++m)++r∧Ev (fun k=>xml_reader_attribute.r1 k s (pre.length:Int)) (b,s,(((pre++m).length:Nat):Int)):=by
  obtain⟨w1,l1,e1,_,_,h1,v1⟩:=sp_tot hs h
  unfold xml_reader_attribute.r1
  rcases eat_tot hs h1 [61] with⟨l2,e2,h2,v2⟩|v2
  · obtain⟨w3,l3,e3,_,_,h3,v3⟩:=sp_tot hs h2
    obtain⟨b,m,r,e4,h4,v4⟩:=at2_tot hs h3
    refine⟨b,w1++([61]++(w3++m)),r,by rw [e1,e2,e3,e4];simp,by rw [h4];simp,?_⟩
    refine ev_eq (Ev.bind v1 (ev_some v2 (ev_pos rfl (Ev.bind v3 (Ev.congr (fun _=>v4) (Ev.now _)))))) ?_
    simp only [List.append_assoc]
  · exact⟨false,w1,l1,e1,h1,Ev.bind v1 (ev_some v2 (ev_neg Bool.false_ne_true (Ev.now _)))⟩
theorem at_tot1 (hs:s.size≤4000000) (h:s.toList=pre++l):∃ b m r,l=m++r∧s.toList=(pre++m)++r∧Ev (fun k=>xml_reader_attribute.f k s (pre.length:Int)) (b,s,(((pre++m).length:Nat):Int))∧(b=true→m ≠ []):=by
  obtain⟨nm,l1,e1,h1,v1⟩:=nm_tot hs h
  have hl:=pre_le s pre l h
  rw [e1,List.length_append] at hl
  have n1:=isnm_tot nm (by omega)
  unfold xml_reader_attribute.f
  cases hn:nmB nm with
  | false=>
    rw [hn] at n1
    exact⟨false,nm,l1,e1,h1,Ev.bind v1 (Ev.bind n1 (ev_neg Bool.false_ne_true (Ev.now _))),fun q=>by cases q⟩
  | true=>
    rw [hn] at n1
    have hne:nm ≠ []:=by rintro rfl;cases hn
    rcases eat_tot hs h1 [58] with⟨l2,e2,h2,v2⟩|v2
    · obtain⟨n2,l3,e3,h3,v3⟩:=nm_tot hs h2
      have hl3:=congrArg List.length e3
      have hl4:=congrArg List.length e2
      rw [List.length_append] at hl3 hl4
      have n3:=isnm_tot n2 (by omega)
      cases hn2:nmB n2 with
      | false=>
        rw [hn2] at n3
        refine⟨false,nm++([58]++n2),l3,by rw [e1,e2,e3];simp,by rw [h3];simp,ev_eq (Ev.bind v1 (Ev.bind n1 (ev_pos rfl (ev_some v2 (ev_pos rfl (Ev.bind v3 (Ev.bind n3 (ev_neg Bool.false_ne_true (Ev.now _))))))))) ?_,fun q=>by cases q⟩
        simp only [List.append_assoc]
      | true=>
        rw [hn2] at n3
        obtain⟨b,m,r,e4,h4,v4⟩:=at1_tot hs h3
        refine⟨b,nm++([58]++(n2++m)),r,by rw [e1,e2,e3,e4];simp,by rw [h4];simp,ev_eq (Ev.bind v1 (Ev.bind n1 (ev_pos rfl (ev_some v2 (ev_pos rfl (Ev.bind v3 (Ev.bind n3 (ev_pos rfl v4)))))))) ?_,fun _ q=>hne (List.append_eq_nil_iff.mp q).1⟩
        simp only [List.append_assoc]
    · obtain⟨b,m,r,e4,h4,v4⟩:=at1_tot hs h1
      refine⟨b,nm++m,r,by rw [e1,e4];simp,by rw [h4];simp,ev_eq (Ev.bind v1 (Ev.bind n1 (ev_pos rfl (ev_some v2 (ev_neg Bool.false_ne_true v4))))) ?_,fun _ q=>hne (List.append_eq_nil_iff.mp q).1⟩
      simp only [List.append_assoc]
end
theorem unD_len (k:Nat):∀ (l r:List UInt8),unD k l=some r→r.length≤4*l.length:=by
  induction k with
  | zero=>intro l r h;cases h;simp
  | succ k ih=>
    intro l r h
    cases l with
    | nil=>cases h;simp
    | cons c l=>
      rw [unD] at h
      rw [List.length_cons]
      split at h
      · split at h
        · cases l with
          | nil=>rename_i hd;cases hd
          | cons d l=>
            rw [List.tail_cons] at h
            rw [List.length_cons]
            cases hu:unD k l with
            | none=>rw [hu] at h;cases h
            | some q=>
              rw [hu] at h
              cases h
              have:=ih l q hu
              show(10 :: q).length≤_
              rw [List.length_cons];omega
        · cases hu:unD k l with
          | none=>rw [hu] at h;cases h
          | some q=>
            rw [hu] at h
            cases h
            have:=ih l q hu
            show(10 :: q).length≤_
            rw [List.length_cons];omega
      · split at h
        · cases hp:cutL 59 l with
          | none=>rw [hp] at h;cases h
          | some p=>
            obtain⟨a,t⟩:=p
            rw [hp] at h
            have hlen:=cut_len hp
            dsimp only at h
            cases he:entB a with
            | none=>rw [he] at h;cases h
            | some e=>
              rw [he] at h
              have hel:=ent_len he
              dsimp only at h
              cases hu:unD k t with
              | none=>rw [hu] at h;cases h
              | some q=>
                rw [hu] at h
                cases h
                have:=ih t q hu
                show(e++q).length≤_
                rw [List.length_append];omega
        · cases hu:unD k l with
          | none=>rw [hu] at h;cases h
          | some q=>
            rw [hu] at h
            cases h
            have:=ih l q hu
            show(c :: q).length≤_
            rw [List.length_cons];omega
theorem el_unf {s:ByteArray} {p d:Int} (hd:¬ d>16) {q:XN×Bool×ByteArray×Int} (h:Ev (fun k=>(xml_reader_eat.f s p (⟨#[60]⟩ : ByteArray)).bind fun e=>(if e.1=true then((xml_reader_name.f k e.2.1 e.2.2).bind fun n=>(xml_Name.f k n.1).bind fun v=>(if v=true then((xml_el.at_ k n.2.1 n.2.2).bind fun a=>(if a.1=true then((xml_reader_eat.f a.2.1 a.2.2 (⟨#[47,62]⟩ : ByteArray)).bind fun b=>(if b.1=true then some ((⟨n.1,⟨#[]⟩,[]⟩ : XN),true,b.2.1,b.2.2) else((xml_reader_eat.f b.2.1 b.2.2 (⟨#[62]⟩ : ByteArray)).bind fun c=>(if c.1=true then((xml_co.f k c.2.1 c.2.2 d).bind fun x=>(if x.1=true then xml_el.out k n.1 x.2.1 x.2.2.1 x.2.2.2.1 x.2.2.2.2 else some (z24,false,x.2.2.2.1,x.2.2.2.2))) else some (z24,false,c.2.1,c.2.2))))) else some (z24,false,a.2.1,a.2.2))) else some (z24,false,n.2.1,n.2.2))) else some (z24,false,e.2.1,e.2.2))) q):Ev (fun k=>xml_el.f k s p d) q:=Ev.step (fun k=>by rw [xml_el.f,if_neg hd]) h
def a2 (l:List UInt8):Bool:=l.any (fun c=>decide (c=60∨c=38))
theorem a2_hi {u l:List UInt8} (h:∀ b∈u,128≤b.toNat):a2 (u++l)=a2 l:=by
  unfold a2
  rw [List.any_append]
  have:u.any (fun c=>decide (c=60∨c=38))=false:=by
    rw [List.any_eq_false]
    intro b hb
    have:=h b hb
    rw [decide_eq_true_eq]
    rintro (rfl|rfl) <;> simp at this
  rw [this,Bool.false_or]
theorem seqL_min (l:List UInt8) (j v m:Nat) (h:(seqL l j v m).2≠0):m≤(seqL l j v m).1:=by
  unfold seqL at h ⊢
  cases ht:tailL l j v with
  | none=>rw [ht] at h;exact absurd rfl h
  | some r=>
    rw [ht] at h
    dsimp only at h ⊢
    unfold finL at h ⊢
    by_cases c:r<m∨1114111<r∨(55296≤r∧r<57344)
    · rw [if_pos c] at h;exact absurd rfl h
    · rw [if_neg c]
      show m≤r
      omega
theorem stL_min (c:UInt8) (l:List UInt8) (hc:128≤c.toNat) (h:(stL (c :: l)).2≠0):128≤(stL (c :: l)).1:=by
  have e0:stL (c :: l)=if c.toNat<192 then(0,0) else if c.toNat<224 then seqL l 1 (c.toNat-192) 128 else if c.toNat<240 then seqL l 2 (c.toNat-224) 2048 else if c.toNat<248 then seqL l 3 (c.toNat-240) 65536 else(0,0):=by rw [stL,if_neg (by omega)]
  by_cases c1:c.toNat<192
  · rw [e0,if_pos c1] at h;exact absurd rfl h
  · by_cases c2:c.toNat<224
    · rw [e0,if_neg c1,if_pos c2] at h ⊢;exact seqL_min _ _ _ _ h
    · by_cases c3:c.toNat<240
      · rw [e0,if_neg c1,if_neg c2,if_pos c3] at h ⊢;have:=seqL_min _ _ _ _ h;omega
      · by_cases c4:c.toNat<248
        · rw [e0,if_neg c1,if_neg c2,if_neg c3,if_pos c4] at h ⊢;have:=seqL_min _ _ _ _ h;omega
        · rw [e0,if_neg c1,if_neg c2,if_neg c3,if_neg c4] at h;exact absurd rfl h
theorem ix_hi (n:Nat) (h:128≤n):¬ 0≤strings_ContainsAny.ix (n:Int):=by
  unfold strings_ContainsAny.ix
  rw [if_neg (by omega),if_neg (by omega)]
  decide
theorem ix_lo (c:UInt8):decide (0≤strings_ContainsAny.ix (c.toNat:Int))=decide (c=60∨c=38):=byte_all (P:=fun c=>decide (0≤strings_ContainsAny.ix (c.toNat:Int))=decide (c=60∨c=38)) (by decide +kernel) c
theorem g_a2 (s:ByteArray) (fuel:Nat):∀ pos,s.size-pos≤fuel→decide (0≤strings_ContainsAny.g s fuel pos)=a2 (s.toList.drop pos):=by
  induction fuel with
  | zero=>
    intro pos h
    have e:s.toList.drop pos = []:=List.drop_of_length_le (by rw [length_toList];omega)
    rw [e]
    rfl
  | succ fuel ih=>
    intro pos h
    rw [strings_ContainsAny.g]
    cases hd:s.toList.drop pos with
    | nil=>
      rw [if_neg (drop_nil s pos hd)]
      rfl
    | cons c l=>
      obtain⟨h1,h2⟩:=drop_cons s pos c l hd
      rw [if_pos h1]
      have hnx:∀ n,s.toList.drop (pos+n)=(c :: l).drop n:=fun n=>by rw [← List.drop_drop,hd]
      by_cases g:(stL (c :: l)).2=0
      · have hc:128≤c.toNat:=by
          rcases Nat.lt_or_ge c.toNat 128 with q|q
          · rw [stL,if_pos q] at g;exact absurd g (show ¬ (1:Nat)=0 by decide)
          · exact q
        rw [dec_bad s pos c l hd g,if_neg (ix_hi 65533 (by decide)),ih (pos+1) (by omega),hnx 1]
        exact(a2_hi (u:=[c]) (l:=l) (fun b hb=>by rw [List.mem_singleton] at hb;rw [hb];exact hc)).symm
      · rw [dec_good s pos c l hd g]
        rcases Nat.lt_or_ge c.toNat 128 with q|q
        · have e:stL (c :: l)=(c.toNat,1):=by rw [stL,if_pos q]
          rw [e]
          dsimp only
          have hx:=ix_lo c
          have ha:a2 (c :: l)=(decide (c=60∨c=38) || a2 l):=rfl
          rw [ha,← hx]
          by_cases t:0≤strings_ContainsAny.ix (c.toNat:Int)
          · rw [if_pos t,decide_eq_true t,Bool.true_or]
            exact decide_eq_true (Int.natCast_nonneg _)
          · rw [if_neg t,decide_eq_false t,Bool.false_or,ih (pos+1) (by omega),hnx 1]
            rfl
        · obtain⟨_,h4⟩:=stL_take c l q g
          rw [if_neg (ix_hi _ (stL_min c l q g)),ih _ (by omega),hnx]
          have:=a2_hi (l:=(c :: l).drop (stL (c :: l)).2) h4
          rw [List.take_append_drop] at this
          exact this.symm
theorem ixany_a2:∀ l:List UInt8,decide (0≤Lib.indexAny l [60,38])=a2 l
  | []=>rfl
  | c :: l=>by
    have ih:=ixany_a2 l
    have ge:=Lib.indexAny_ge [60,38] l
    have ha:a2 (c :: l)=(decide (c=60∨c=38) || a2 l):=rfl
    rw [ha,← ih,Lib.indexAny]
    by_cases t:([60,38]:List UInt8).contains c=true
    · have t':c=60∨c=38:=by simpa using t
      rw [if_pos t,decide_eq_true t',Bool.true_or]
      rfl
    · have t':¬ (c=60∨c=38):=by simpa using t
      rw [if_neg t,decide_eq_false t',Bool.false_or]
      by_cases u:(Lib.indexAny l [60,38] == -1)=true
      · rw [if_pos u]
        rw [beq_iff_eq] at u
        rw [u]
      · rw [if_neg u]
        have u':¬ Lib.indexAny l [60,38] = -1:=by simpa using u
        rw [decide_eq_true (by omega),decide_eq_true (by omega)]
theorem any_eq (a:List UInt8) (h:a.length≤4000000):strings_ContainsAny.f (B a) (⟨#[60,38]⟩ : ByteArray)=some (a2 a):=by
  unfold strings_ContainsAny.f
  rw [if_pos ⟨by rw [B_size];omega,rfl⟩]
  refine congrArg some ?_
  by_cases c:8<(B a).size
  · rw [if_pos c]
    have:=ixany_a2 a
    exact this
  · rw [if_neg c]
    have:=g_a2 (B a) (B a).size 0 (by omega)
    rw [List.drop_zero,B_toList] at this
    exact this
theorem wh_r (c:UInt8):stowageref13_white.f (c.toNat:Int)=some (whB c):=byte_all (P:=fun c=>stowageref13_white.f (c.toNat:Int)=some (whB c)) (by decide +kernel) c
theorem rsp_l0 (s:ByteArray) (hs:s.size≤4000000) (bd:Bool) (ws:List UInt8):∀ (n:Nat) (pre rest:List UInt8),s.toList=pre++(ws++rest)→ws.all whB=true→(∀ c,rest.head? = some c→whB c=false)→n≤pre.length →
    Ev (fun k=>stowageref13_Reader_skip.l0 k (n:Int) s (pre.length:Int) bd) (((n+ws.length:Nat):Int),s,((pre.length+ws.length:Nat):Int),bd):=by
  induction ws with
  | nil=>
    intro n pre rest h _ hr _
    cases rest with
    | nil=>
      have:=pre_end s pre h
      exact Ev.step (f:=fun _=>some ((n:Int),s,(pre.length:Int),bd)) (fun k=>by rw [stowageref13_Reader_skip.l0,if_neg (by omega)]) (Ev.now _)
    | cons c rest=>
      obtain⟨hb,hlt⟩:=bt_at_pre (h:=h)
      refine Ev.step (f:=fun _=>some ((n:Int),s,(pre.length:Int),bd)) (fun k=>?_) (Ev.now _)
      rw [stowageref13_Reader_skip.l0,if_pos (by omega),if_pos (by omega),hb,wh_r,Option.bind_some,hr c rfl,if_neg Bool.false_ne_true]
  | cons c ws ih=>
    intro n pre rest h hw hr hn
    rw [List.cons_append] at h
    obtain⟨hb,hlt⟩:=bt_at_pre (h:=h)
    rw [List.all_cons,Bool.and_eq_true] at hw
    have hnx:=len_nx pre c s.size hlt hs
    have hn1:wrap64 ((n:Int)+1)=((n+1:Nat):Int):=by rw [w64 (by omega) (by omega)];rfl
    have:=ih (n+1) (pre ++ [c]) rest (by rw [h];simp) hw.2 hr (by rw [List.length_append];simp;omega)
    refine ev_eq (Ev.step (f:=fun k=>stowageref13_Reader_skip.l0 k ((n+1:Nat):Int) s (((pre ++ [c]).length:Nat):Int) bd) (fun k=>?_) this) ?_
    · rw [stowageref13_Reader_skip.l0,if_pos (by omega),if_pos (by omega),hb,wh_r,Option.bind_some,hw.1,if_pos rfl,hnx,hn1]
    · rw [List.length_append,List.length_cons,List.length_nil,List.length_cons,show pre.length+(0+1)+ws.length=pre.length+(ws.length+1) by omega,show n+1+ws.length=n+(ws.length+1) by omega]
section
variable {s:ByteArray} {pre l:List UInt8}
theorem sp_both (hs:s.size≤4000000) (h:s.toList=pre++l) (bd:Bool):∃ ws r,l=ws++r∧ws.all whB=true∧(∀ c,r.head? = some c→whB c=false)∧s.toList=(pre++ws)++r∧Ev (fun k=>xml_reader_space.f k s (pre.length:Int)) (decide (ws ≠ []),s,(((pre++ws).length:Nat):Int))∧Ev (fun k=>stowageref13_Reader_skip.f k s (pre.length:Int) bd) ((ws.length:Int),s,(((pre++ws).length:Nat):Int),bd):=by
  obtain⟨ws,r,h1,h2,h3⟩:=split_wh l
  have hp:=sp_ev s hs pre ws r (by rw [h,h1]) h2 h3
  have hd:=rsp_l0 s hs bd ws 0 pre r (by rw [h,h1]) h2 h3 (Nat.zero_le _)
  rw [← List.length_append] at hp hd
  rw [Nat.zero_add] at hd
  exact⟨ws,r,h1,h2,h3,by rw [h,h1,List.append_assoc],hp,hd⟩
theorem bg_eq (s:ByteArray) (p:List UInt8):stowageref3_Begins.f s (B p)=some (s.toList.take p.length == p):=by
  have hsl:=length_toList s
  unfold stowageref3_Begins.f
  rw [B_size]
  by_cases c:p.length≤s.size
  · rw [if_pos (by omega),if_pos (by omega),if_pos (by omega),toList_extract,B_toList]
    rfl
  · rw [if_neg (by omega)]
    refine congrArg some ?_
    symm
    rw [beq_eq_false_iff_ne]
    intro e
    have:=congrArg List.length e
    rw [List.length_take,hsl] at this
    omega
theorem bg_at (h:s.toList=pre++l) (p:List UInt8):stowageref3_Begins.f (s.extract ((pre.length:Int)).toNat s.size) (B p)=some (l.take p.length == p):=by
  rw [bg_eq,ext_p h]
theorem reat_yes (hs:s.size≤4000000) {p:List UInt8} (h:s.toList=pre++(p++l)) (bd:Bool):stowageref13_Reader_eat.f s (pre.length:Int) bd (B p)=some (true,s,(((pre++p).length:Nat):Int),bd):=by
  have hl:=pre_le s pre (p++l) h
  rw [List.length_append] at hl
  rw [stowageref13_Reader_eat.f,if_pos (by omega),if_pos (by omega),bg_at h p,Option.bind_some,List.take_left,beq_self_eq_true,if_pos rfl,B_size,w64 (by omega) (by omega),List.length_append]
  rfl
theorem reat_no (hs:s.size≤4000000) (h:s.toList=pre++l) (bd:Bool) (p:List UInt8) (hn:¬ l.take p.length=p):stowageref13_Reader_eat.f s (pre.length:Int) bd (B p)=some (false,s,(pre.length:Int),bd):=by
  have hl:=pre_le s pre l h
  rw [stowageref13_Reader_eat.f,if_pos (by omega),if_pos (by omega),bg_at h p,Option.bind_some,beq_eq_false_iff_ne.mpr hn,if_neg Bool.false_ne_true]
theorem eat_both (hs:s.size≤4000000) (h:s.toList=pre++l) (bd:Bool) (p:List UInt8):(∃ r,l=p++r∧s.toList=(pre++p)++r∧xml_reader_eat.f s (pre.length:Int) (B p)=some (true,s,(((pre++p).length:Nat):Int))∧stowageref13_Reader_eat.f s (pre.length:Int) bd (B p)=some (true,s,(((pre++p).length:Nat):Int),bd))∨(xml_reader_eat.f s (pre.length:Int) (B p)=some (false,s,(pre.length:Int))∧stowageref13_Reader_eat.f s (pre.length:Int) bd (B p)=some (false,s,(pre.length:Int),bd)∧¬ l.take p.length=p):=by
  by_cases c:l.take p.length=p
  · left
    have e:l=p++l.drop p.length:=by
      have:=List.take_append_drop p.length l
      rw [c] at this
      exact this.symm
    exact⟨l.drop p.length,e,by rw [h,List.append_assoc,← e],eat_yes hs (by rw [h,← e]),reat_yes hs (by rw [h,← e]) bd⟩
  · exact .inr ⟨eat_no hs h p c,reat_no hs h bd p c,c⟩
end
theorem rnm_l0 (s:ByteArray) (hs:s.size≤4000000) (bd:Bool) (p0:List UInt8) (nm:List UInt8):∀ (done rest:List UInt8),s.toList=(p0++done)++(nm++rest)→nm.all inB=true→(∀ c,rest.head? = some c→inB c=false) →
    Ev (fun k=>stowageref13_Reader_name.l0 k (p0.length:Int) s (((p0++done).length:Nat):Int) bd) (B (done++nm),s,(((p0++(done++nm)).length:Nat):Int),bd):=by
  have hend:∀ (done rest:List UInt8),s.toList=(p0++done)++rest→(if(0:Int)≤(p0.length:Int) then(if(p0.length:Int)≤(((p0++done).length:Nat):Int) then(if(((p0++done).length:Nat):Int)≤(s.size:Int) then(some (s.extract ((p0.length:Int)).toNat ((((p0++done).length:Nat):Int)).toNat,s,(((p0++done).length:Nat):Int),bd)) else none) else none) else none)=some (B done,s,(((p0++done).length:Nat):Int),bd):=by
    intro done rest h
    have hl:=pre_le s (p0++done) rest h
    rw [if_pos (by omega),if_pos (by rw [List.length_append];omega),if_pos (by omega),Int.toNat_natCast,Int.toNat_natCast]
    congr 2
    refine(extract_of s _ _ done ?_).trans rfl
    rw [h,List.take_left,List.drop_left]
  induction nm with
  | nil=>
    intro done rest h _ hr
    rw [List.nil_append] at h
    rw [List.append_nil]
    cases rest with
    | nil=>
      have:=pre_end s (p0++done) h
      refine Ev.step (f:=fun _=>some (B done,s,(((p0++done).length:Nat):Int),bd)) (fun k=>?_) (Ev.now _)
      rw [stowageref13_Reader_name.l0,if_neg (by omega),hend done [] h]
    | cons c rest=>
      obtain⟨hb,hlt⟩:=bt_at_pre (h:=h)
      refine Ev.step (f:=fun _=>some (B done,s,(((p0++done).length:Nat):Int),bd)) (fun k=>?_) (Ev.now _)
      rw [stowageref13_Reader_name.l0,if_pos (by omega),if_pos (by omega),hb,in_r,Option.bind_some,hr c rfl,if_neg Bool.false_ne_true,hend done (c :: rest) h]
  | cons c nm ih=>
    intro done rest h hw hr
    rw [List.cons_append] at h
    obtain⟨hb,hlt⟩:=bt_at_pre (h:=h)
    rw [List.all_cons,Bool.and_eq_true] at hw
    have hnx:=len_nx (p0++done) c s.size hlt hs
    rw [List.append_assoc p0 done [c]] at hnx
    have:=ih (done ++ [c]) rest (by rw [h];simp) hw.2 hr
    refine ev_eq (Ev.step (f:=fun k=>stowageref13_Reader_name.l0 k (p0.length:Int) s (((p0++(done ++ [c])).length:Nat):Int) bd) (fun k=>?_) this) ?_
    · rw [stowageref13_Reader_name.l0,if_pos (by omega),if_pos (by omega),hb,in_r,Option.bind_some,hw.1,if_pos rfl,hnx]
    · rw [List.append_assoc done [c] nm];rfl
theorem rnm_yes (s:ByteArray) (hs:s.size≤4000000) (bd:Bool) (pre nm rest:List UInt8) (h:s.toList=pre++(nm++rest)) (hn:nmB nm=true) (hr:∀ c,rest.head? = some c→inB c=false) :
    Ev (fun k=>stowageref13_Reader_name.f k s (pre.length:Int) bd) (B nm,s,(((pre++nm).length:Nat):Int),bd):=by
  obtain⟨c,t,rfl,hc,hw⟩:=nm_head hn
  have h':=h
  rw [List.cons_append] at h'
  obtain⟨hb,hlt⟩:=bt_at_pre (h:=h')
  have:=rnm_l0 s hs bd pre (c :: t) [] rest (by rw [List.append_nil];exact h) hw hr
  rw [List.append_nil,List.nil_append] at this
  unfold stowageref13_Reader_name.f
  refine ev_pos (by omega) (ev_pos (by omega) ?_)
  rw [hb]
  refine ev_some (le_r c) ?_
  exact Ev.step (f:=fun k=>stowageref13_Reader_name.l0 k (pre.length:Int) s (pre.length:Int) bd) (fun k=>by rw [stowageref13_Reader_name.j0,hc,if_pos rfl]) this
theorem rnm_no (s:ByteArray) (hs:s.size≤4000000) (bd:Bool) (pre l:List UInt8) (h:s.toList=pre++l) (hn:∀ c,l.head? = some c→letB c=false) :
    Ev (fun k=>stowageref13_Reader_name.f k s (pre.length:Int) bd) (B [],s,(pre.length:Int),bd):=by
  have hl:=pre_le s pre l h
  have hend:(if(0:Int)≤(pre.length:Int) then(if(pre.length:Int)≤(pre.length:Int) then(if(pre.length:Int)≤(s.size:Int) then(some (s.extract ((pre.length:Int)).toNat ((pre.length:Int)).toNat,s,(pre.length:Int),bd)) else none) else none) else none)=some (B [],s,(pre.length:Int),bd):=by
    rw [if_pos (by omega),if_pos (by omega),if_pos (by omega),Int.toNat_natCast]
    congr 2
    refine(extract_of s _ _ [] ?_).trans rfl
    rw [List.drop_of_length_le]
    rw [List.length_take];omega
  have hj:Ev (fun k=>stowageref13_Reader_name.j0 k (pre.length:Int) false s (pre.length:Int) bd) (B [],s,(pre.length:Int),bd):=
    Ev.step (f:=fun _=>some (B [],s,(pre.length:Int),bd)) (fun k=>by rw [stowageref13_Reader_name.j0,if_neg Bool.false_ne_true,hend]) (Ev.now _)
  unfold stowageref13_Reader_name.f
  cases l with
  | nil=>exact ev_neg (by rw [List.length_nil] at hl;omega) hj
  | cons c t=>
    obtain⟨hb,hlt⟩:=bt_at_pre (h:=h)
    refine ev_pos (by omega) (ev_pos (by omega) ?_)
    rw [hb]
    refine ev_some (le_r c) ?_
    rw [hn c rfl]
    exact hj
theorem nm_both {s:ByteArray} {pre l:List UInt8} (hs:s.size≤4000000) (h:s.toList=pre++l) (bd:Bool):∃ nm r,l=nm++r∧s.toList=(pre++nm)++r∧Ev (fun k=>xml_reader_name.f k s (pre.length:Int)) (B nm,s,(((pre++nm).length:Nat):Int)) ∧
    (nmB nm=true→Ev (fun k=>stowageref13_Reader_name.f k s (pre.length:Int) bd) (B nm,s,(((pre++nm).length:Nat):Int),bd)) ∧
    (nmB nm=false→Ev (fun k=>stowageref13_Reader_name.f k s (pre.length:Int) bd) (B [],s,(pre.length:Int),bd)):=by
  obtain⟨nm,r,h1,h2,h3⟩:=split_in l
  refine⟨nm,r,h1,by rw [h,h1,List.append_assoc],nm_ev s hs pre nm r (by rw [h,h1]) h2 h3,fun q=>rnm_yes s hs bd pre nm r (by rw [h,h1]) q h3,fun q=>rnm_no s hs bd pre l h ?_⟩
  intro c hc
  cases nm with
  | nil=>
    rw [h1,List.nil_append] at hc
    have:=h3 c hc
    rcases hl:letB c with _|_
    · rfl
    · rw [let_in hl] at this;cases this
  | cons d t=>
    rw [h1,List.cons_append] at hc
    obtain rfl:d=c:=Option.some.inj hc
    rcases hl:letB d with _|_
    · rfl
    · rw [List.all_cons,Bool.and_eq_true] at h2
      rw [nmB,hl,h2.2] at q
      cases q
def scA (c:UInt8):List UInt8→Option (List UInt8)
  | []=>none
  | d :: t=>if d=c then some [] else if d=60∨d=38 then none else(scA c t).map (d :: ·)
theorem scA_cut (c:UInt8):∀ t,scA c t=match cutL c t with|none=>none|some p=>if a2 p.1=true then none else some p.1
  | []=>rfl
  | d :: t=>by
    have ih:=scA_cut c t
    rw [scA,cutL]
    by_cases h:d=c
    · rw [if_pos h,if_pos h];rfl
    · rw [if_neg h,if_neg h]
      by_cases g:d=60∨d=38
      · rw [if_pos g]
        cases cutL c t with
        | none=>rfl
        | some p=>
          show none=if a2 (d :: p.1)=true then none else some (d :: p.1)
          rw [if_pos]
          show(decide (d=60∨d=38) || a2 p.1)=true
          rw [decide_eq_true g];rfl
      · rw [if_neg g,ih]
        cases cutL c t with
        | none=>rfl
        | some p=>
          show Option.map _ (if a2 p.1=true then none else some p.1)=if(decide (d=60∨d=38) || a2 p.1)=true then none else some (d :: p.1)
          rw [decide_eq_false g,Bool.false_or]
          split <;> rfl
theorem neq_u (a b:UInt8) (h:a≠b):((a.toNat:Int) != (b.toNat:Int))=true:=by
  rw [bne_iff_ne]
  intro e
  exact h (toNat_eq.mp e)
theorem neq_uu (a:UInt8):((a.toNat:Int) != (a.toNat:Int))=false:=by simp
theorem rat_l0 (s:ByteArray) (hs:s.size≤4000000) (bd:Bool) (c:UInt8):∀ (t pre:List UInt8),s.toList=pre++t →
    match scA c t with|some a=>Ev (fun k=>stowageref13_Reader_attribute.l0 k (c.toNat:Int) s (pre.length:Int) bd) (true,s,(((pre++(a ++ [c])).length:Nat):Int),bd)|none=>∃ q,0≤q∧Ev (fun k=>stowageref13_Reader_attribute.l0 k (c.toNat:Int) s (pre.length:Int) bd) (false,s,q,bd)
  | [],pre,h=>by
    have he:=pre_end s pre h
    have hw:wrap64 ((pre.length:Int)+1)=(pre.length:Int)+1:=w64 (by omega) (by omega)
    refine⟨wrap64 ((pre.length:Int)+1),by omega,Ev.step (f:=fun k=>stowageref13_Reader_attribute.j3 k (c.toNat:Int) false s (pre.length:Int) bd) (fun k=>?_) (Ev.step (f:=fun _=>some (false,s,wrap64 ((pre.length:Int)+1),bd)) (fun k=>?_) (Ev.now _))⟩
    · rw [stowageref13_Reader_attribute.l0,if_neg (by omega)]
    · rw [stowageref13_Reader_attribute.j3,if_neg Bool.false_ne_true,hw,decide_eq_false (by omega)]
  | d :: t,pre,h=>by
    obtain⟨hb,hlt⟩:=bt_at_pre (h:=h)
    have hnx:=len_nx pre d s.size hlt hs
    have hln:((pre ++ [d]).length:Nat)=pre.length+1:=by simp
    have ih:=rat_l0 s hs bd c t (pre ++ [d]) (by rw [h];simp)
    rw [scA]
    by_cases e:d=c
    · subst e
      rw [if_pos rfl]
      refine Ev.step (f:=fun k=>stowageref13_Reader_attribute.j3 k (d.toNat:Int) false s (pre.length:Int) bd) (fun k=>?_) (Ev.step (f:=fun _=>some (true,s,(((pre++([] ++ [d])).length:Nat):Int),bd)) (fun k=>?_) (Ev.now _))
      · rw [stowageref13_Reader_attribute.l0,if_pos (by omega),if_pos (by omega),hb,neq_uu]
      · rw [stowageref13_Reader_attribute.j3,if_neg Bool.false_ne_true,hnx,decide_eq_true (by omega),List.nil_append]
    · rw [if_neg e]
      have step:∀ r,Ev (fun k=>(if(d.toNat:Int)=60 then some (false,s,(pre.length:Int),bd) else if(d.toNat:Int)=38 then some (false,s,(pre.length:Int),bd) else stowageref13_Reader_attribute.l0 k (c.toNat:Int) s (((pre ++ [d]).length:Nat):Int) bd)) r→Ev (fun k=>stowageref13_Reader_attribute.l0 k (c.toNat:Int) s (pre.length:Int) bd) r:=by
        intro r hr
        refine Ev.step (f:=fun k=>stowageref13_Reader_attribute.j3 k (c.toNat:Int) true s (pre.length:Int) bd) (fun k=>?_) (Ev.step (fun k=>?_) hr)
        · rw [stowageref13_Reader_attribute.l0,if_pos (by omega),if_pos (by omega),hb,neq_u _ _ e]
        · rw [stowageref13_Reader_attribute.j3,if_pos rfl,if_pos (by omega),if_pos (by omega),hb,hnx]
      have h60:(d.toNat:Int)=60↔d=60:=toNat_eq (c:=d) (d:=60)
      have h38:(d.toNat:Int)=38↔d=38:=toNat_eq (c:=d) (d:=38)
      by_cases g:d=60∨d=38
      · rw [if_pos g]
        rcases g with g|g
        · exact⟨_,Int.natCast_nonneg _,step _ (ev_pos (h60.mpr g) (Ev.now _))⟩
        · exact⟨_,Int.natCast_nonneg _,step _ (ev_neg (by rw [h60];rintro rfl;cases g) (ev_pos (h38.mpr g) (Ev.now _)))⟩
      · rw [if_neg g]
        have n60:¬ (d.toNat:Int)=60:=by rw [h60];exact fun q=>g (.inl q)
        have n38:¬ (d.toNat:Int)=38:=by rw [h38];exact fun q=>g (.inr q)
        cases hsc:scA c t with
        | none=>
          rw [hsc] at ih
          obtain⟨q,hq0,hq⟩:=ih
          exact⟨q,hq0,step _ (ev_neg n60 (ev_neg n38 hq))⟩
        | some a=>
          rw [hsc] at ih
          refine ev_eq (step _ (ev_neg n60 (ev_neg n38 ih))) ?_
          rw [List.append_assoc];rfl
section
variable {s:ByteArray} {pre l:List UInt8}
def ratT (k:Nat) (s:ByteArray) (p:Int) (bd:Bool):Option (Bool×ByteArray×Int×Bool):=(if p ≥ (s.size:Int) then(stowageref13_Reader_attribute.j1 k true s p bd) else(if 0≤p then(if p<(s.size:Int) then(if(bt s p)=34 then(stowageref13_Reader_attribute.j1 k false s p bd) else(stowageref13_Reader_attribute.j1 k ((bt s p) != 39) s p bd)) else(none)) else(none)))
theorem rj1_t (p:Int) (bd:Bool):Ev (fun k=>stowageref13_Reader_attribute.j1 k true s p bd) (false,s,p,bd):=Ev.step (f:=fun _=>some (false,s,p,bd)) (fun k=>by rw [stowageref13_Reader_attribute.j1,if_pos rfl]) (Ev.now _)
set_option maxHeartbeats 1000000 in
theorem at2_both (hs:s.size≤4000000) (h:s.toList=pre++l) (bd:Bool):∃ b m r p',l=m++r∧s.toList=(pre++m)++r∧xml_reader_attribute.r2 s (pre.length:Int)=some (b,s,(((pre++m).length:Nat):Int))∧Ev (fun k=>ratT k s (pre.length:Int) bd) (b,s,p',bd)∧(b=true→p'=(((pre++m).length:Nat):Int))∧0≤p':=by
  have hl:=pre_le s pre l h
  have stay:∀ p',0≤p'→xml_reader_attribute.r2 s (pre.length:Int)=some (false,s,(pre.length:Int))→Ev (fun k=>ratT k s (pre.length:Int) bd) (false,s,p',bd) → ∃ b m r p',l=m++r∧s.toList=(pre++m)++r∧xml_reader_attribute.r2 s (pre.length:Int)=some (b,s,(((pre++m).length:Nat):Int))∧Ev (fun k=>ratT k s (pre.length:Int) bd) (b,s,p',bd)∧(b=true→p'=(((pre++m).length:Nat):Int))∧0≤p':=
    fun p' e0 e1 e2=>⟨false,[],l,p',rfl,by rw [List.append_nil];exact h,by rw [List.append_nil];exact e1,e2,(fun q=>by cases q),e0⟩
  cases l with
  | nil=>
    have:=pre_end s pre h
    refine stay _ (Int.natCast_nonneg _) ?_ (ev_pos (by omega) (rj1_t _ bd))
    rw [xml_reader_attribute.r2,if_pos (by omega),if_pos (by omega),if_pos (by omega)]
  | cons c t=>
    rw [List.length_cons] at hl
    have hl1:(pre ++ [c]).length=pre.length+1:=by simp
    have p1:(0:Int)≤(pre.length:Int):=by omega
    have p2:(pre.length:Int)≤(s.size:Int):=by omega
    have p3:¬ (pre.length:Int)=(s.size:Int):=by omega
    have p4:(0:Int)≤(((pre ++ [c]).length:Nat):Int):=by omega
    have p5:(((pre ++ [c]).length:Nat):Int)≤(s.size:Int):=by omega
    have p9:¬ (pre.length:Int) ≥ (s.size:Int):=by omega
    have p10:(pre.length:Int)<(s.size:Int):=by omega
    obtain⟨hb,hlt⟩:=bt_at_pre (h:=h)
    have h1:s.toList=(pre ++ [c])++t:=by rw [h];simp
    have hw:wrap64 ((pre.length:Int)+1)=(((pre ++ [c]).length:Nat):Int):=len_nx pre c s.size hlt hs
    by_cases hm:((c.toNat:Int)=34∨(c.toNat:Int)=39)
    · have hgo:∀ r,Ev (fun k=>stowageref13_Reader_attribute.l0 k (c.toNat:Int) s (((pre ++ [c]).length:Nat):Int) bd) r→Ev (fun k=>ratT k s (pre.length:Int) bd) r:=by
        intro r hr
        have hj:Ev (fun k=>stowageref13_Reader_attribute.j1 k false s (pre.length:Int) bd) r:=Ev.step (f:=fun k=>stowageref13_Reader_attribute.l0 k (c.toNat:Int) s (((pre ++ [c]).length:Nat):Int) bd) (fun k=>by rw [stowageref13_Reader_attribute.j1,if_neg Bool.false_ne_true,if_pos p1,if_pos p10,hb,hw]) hr
        refine ev_neg p9 (ev_pos p1 (ev_pos p10 ?_))
        rw [hb]
        by_cases h34:(c.toNat:Int)=34
        · exact ev_pos h34 hj
        · have h39:((c.toNat:Int) != 39)=false:=by rw [bne_eq_false_iff_eq];exact hm.resolve_left h34
          refine ev_neg h34 ?_
          rw [h39]
          exact hj
      have hsc:=rat_l0 s hs bd c t (pre ++ [c]) h1
      rw [scA_cut] at hsc
      have hix:strings_IndexByte.f (s.extract ((((pre ++ [c]).length:Nat):Int)).toNat s.size) (c.toNat:Int)=some (Lib.indexByte t c):=by
        unfold strings_IndexByte.f stringslite_IndexByte.f
        rw [← ByteArray.toList_eq,ext_p h1,Option.bind_some,toU8]
      have hci:=cutL_index c t
      cases hcut:cutL c t with
      | none=>
        rw [hcut] at hci hsc
        obtain⟨q,hq0,hq⟩:=hsc
        refine stay q hq0 ?_ (hgo _ hq)
        rw [xml_reader_attribute.r2,if_pos p1,if_pos p2,if_neg p3,hb,if_pos hm,hw,if_pos p4,if_pos p5,hix,Option.bind_some,hci,if_pos (by decide)]
      | some q=>
        obtain⟨a,u⟩:=q
        rw [hcut] at hci hsc
        obtain⟨hi,ht⟩:=hci
        dsimp only at hi ht hsc
        have htl:=congrArg List.length ht
        rw [List.length_append,List.length_cons] at htl
        have p6:(((pre ++ [c]).length:Nat):Int)≤((pre.length+1+a.length:Nat):Int):=by clear hb hw hi hix hsc hgo;omega
        have p7:((pre.length+1+a.length:Nat):Int)≤(s.size:Int):=by clear hb hw hi hix hsc hgo;omega
        have p8:¬ (a.length:Int)<0:=by clear hb hw hi hix hsc hgo;omega
        have pa:a.length≤4000000:=by clear hb hw hi hix hsc hgo;omega
        have hw2:wrap64 ((((pre ++ [c]).length:Nat):Int)+(a.length:Int))=((pre.length+1+a.length:Nat):Int):=by clear hb hw hi hix hsc hgo;rw [w64 (by omega) (by omega)];omega
        have hex:s.extract ((((pre ++ [c]).length:Nat):Int)).toNat (((pre.length+1+a.length:Nat):Int)).toNat=B a:=by
          rw [Int.toNat_natCast,Int.toNat_natCast]
          refine(extract_of s _ _ a ?_).trans rfl
          rw [h1,ht,← List.append_assoc,show pre.length+1+a.length=((pre ++ [c])++a).length by rw [List.length_append,hl1],List.take_left,List.drop_left]
        have hv:=any_eq a pa
        rw [← hex] at hv
        have hw3:wrap64 ((pre.length:Int)+wrap64 ((a.length:Int)+2))=(((pre++(c :: a ++ [c])).length:Nat):Int):=by
          clear hb hw hi hix hw2 hv hex hsc hgo
          rw [w64 (n:=(a.length:Int)+2) (by omega) (by omega),w64 (by omega) (by omega),List.length_append]
          simp only [List.length_append,List.length_cons,List.length_nil]
          omega
        have hr:xml_reader_attribute.r2 s (pre.length:Int)=(if a2 a=true then some (false,s,(pre.length:Int)) else some (true,s,(((pre++(c :: a ++ [c])).length:Nat):Int))):=by
          rw [xml_reader_attribute.r2,if_pos p1,if_pos p2,if_neg p3,hb,if_pos hm,hw,if_pos p4,if_pos p5,hix,Option.bind_some,hi,if_neg p8,hw2,if_pos p6,if_pos p7,hv,Option.bind_some,hw3]
        cases hA:a2 a with
        | true=>
          rw [hA,if_pos rfl] at hsc hr
          obtain⟨q,hq0,hq⟩:=hsc
          exact stay q hq0 hr (hgo _ hq)
        | false=>
          rw [hA,if_neg Bool.false_ne_true] at hsc hr
          refine⟨true,c :: a ++ [c],u,_,by rw [ht];simp,by rw [h,ht];simp,hr,hgo _ hsc,fun _=>?_,Int.natCast_nonneg _⟩
          rw [List.append_assoc];rfl
    · have h34:¬ (c.toNat:Int)=34:=fun q=>hm (.inl q)
      have h39:((c.toNat:Int) != 39)=true:=by rw [bne_iff_ne];exact fun q=>hm (.inr q)
      refine stay _ p1 ?_ (ev_neg p9 (ev_pos p1 (ev_pos p10 (?_:Ev _ (false,s,(pre.length:Int),bd)))))
      · rw [xml_reader_attribute.r2,if_pos p1,if_pos p2,if_neg p3,hb,if_neg hm]
      · rw [hb]
        refine ev_neg h34 ?_
        rw [h39]
        exact rj1_t _ bd
theorem at1_both (hs:s.size≤4000000) (h:s.toList=pre++l) (bd:Bool):∃ b m r p',l=m++r∧s.toList=(pre++m)++r∧Ev (fun k=>xml_reader_attribute.r1 k s (pre.length:Int)) (b,s,(((pre++m).length:Nat):Int))∧Ev (fun k=>stowageref13_Reader_attribute.j0 k false s (pre.length:Int) bd) (b,s,p',bd)∧(b=true→p'=(((pre++m).length:Nat):Int))∧0≤p':=by
  obtain⟨w1,l1,e1,_,_,h1,v1,d1⟩:=sp_both hs h bd
  have dstep:∀ r,Ev (fun k=>(stowageref13_Reader_skip.f k s (pre.length:Int) bd).bind fun bt198=>((stowageref13_Reader_eat.f bt198.2.1 bt198.2.2.1 bt198.2.2.2 (⟨#[61]⟩ : ByteArray)).bind fun bt202=>(if bt202.1=true then((stowageref13_Reader_skip.f k bt202.2.1 bt202.2.2.1 bt202.2.2.2).bind fun bt206=>ratT k bt206.2.1 bt206.2.2.1 bt206.2.2.2) else(some (false,bt202.2.1,bt202.2.2.1,bt202.2.2.2))))) r→Ev (fun k=>stowageref13_Reader_attribute.j0 k false s (pre.length:Int) bd) r:=
    fun r hr=>Ev.step (fun k=>by rw [stowageref13_Reader_attribute.j0,if_neg Bool.false_ne_true];rfl) hr
  unfold xml_reader_attribute.r1
  rcases eat_both hs h1 bd [61] with⟨l2,e2,h2,v2,d2⟩|⟨v2,d2,_⟩
  · obtain⟨w3,l3,e3,_,_,h3,v3,d3⟩:=sp_both hs h2 bd
    obtain⟨b,m,r,p',e4,h4,v4,d4,hp,hp0⟩:=at2_both hs h3 bd
    refine⟨b,w1++([61]++(w3++m)),r,p',by rw [e1,e2,e3,e4];simp,by rw [h4];simp,?_,dstep _ (Ev.bind d1 (ev_some d2 (ev_pos rfl (Ev.bind d3 d4)))),fun q=>?_,hp0⟩
    · refine ev_eq (Ev.bind v1 (ev_some v2 (ev_pos rfl (Ev.bind v3 (Ev.congr (fun _=>v4) (Ev.now _)))))) ?_
      simp only [List.append_assoc]
    · rw [hp q];simp only [List.append_assoc]
  · exact⟨false,w1,l1,_,e1,h1,Ev.bind v1 (ev_some v2 (ev_neg Bool.false_ne_true (Ev.now _))),dstep _ (Ev.bind d1 (ev_some d2 (ev_neg Bool.false_ne_true (Ev.now _)))),(fun q=>by cases q),Int.natCast_nonneg _⟩
theorem rj0_t (p:Int) (bd:Bool):Ev (fun k=>stowageref13_Reader_attribute.j0 k true s p bd) (false,s,p,bd):=Ev.step (f:=fun _=>some (false,s,p,bd)) (fun k=>by rw [stowageref13_Reader_attribute.j0,if_pos rfl]) (Ev.now _)
theorem nm_ne {nm:List UInt8} (h:nmB nm=true):¬ (B nm).toList = []:=by
  rw [B_toList]
  rintro rfl
  cases h
theorem at_both (hs:s.size≤4000000) (h:s.toList=pre++l) (bd:Bool):∃ b m r p',l=m++r∧s.toList=(pre++m)++r∧Ev (fun k=>xml_reader_attribute.f k s (pre.length:Int)) (b,s,(((pre++m).length:Nat):Int))∧Ev (fun k=>stowageref13_Reader_attribute.f k s (pre.length:Int) bd) (b,s,p',bd)∧(b=true→p'=(((pre++m).length:Nat):Int)∧m ≠ [])∧0≤p':=by
  obtain⟨nm,l1,e1,h1,v1,dy,dn⟩:=nm_both hs h bd
  have hl:=pre_le s pre l h
  rw [e1,List.length_append] at hl
  have n1:=isnm_tot nm (by omega)
  unfold xml_reader_attribute.f stowageref13_Reader_attribute.f
  cases hn:nmB nm with
  | false=>
    rw [hn] at n1
    exact⟨false,nm,l1,_,e1,h1,Ev.bind v1 (Ev.bind n1 (ev_neg Bool.false_ne_true (Ev.now _))),Ev.bind (dn hn) (ev_pos (B_toList []) (rj0_t _ bd)),(fun q=>by cases q),Int.natCast_nonneg _⟩
  | true=>
    rw [hn] at n1
    have hne:nm ≠ []:=by rintro rfl;cases hn
    rcases eat_both hs h1 bd [58] with⟨l2,e2,h2,v2,d2⟩|⟨v2,d2,_⟩
    · obtain⟨n2,l3,e3,h3,v3,dy2,dn2⟩:=nm_both hs h2 bd
      have hl3:=congrArg List.length e3
      have hl4:=congrArg List.length e2
      rw [List.length_append] at hl3 hl4
      have n3:=isnm_tot n2 (by omega)
      cases hn2:nmB n2 with
      | false=>
        rw [hn2] at n3
        refine⟨false,nm++([58]++n2),l3,((((pre++nm) ++ [58]).length:Nat):Int),by rw [e1,e2,e3];simp,by rw [h3];simp,ev_eq (Ev.bind v1 (Ev.bind n1 (ev_pos rfl (ev_some v2 (ev_pos rfl (Ev.bind v3 (Ev.bind n3 (ev_neg Bool.false_ne_true (Ev.now _))))))))) ?_,Ev.bind (dy hn) (ev_neg (nm_ne hn) (ev_some d2 (ev_pos rfl (Ev.bind (dn2 hn2) ?_)))),(fun q=>by cases q),Int.natCast_nonneg _⟩
        · simp only [List.append_assoc]
        · dsimp only
          rw [B_toList]
          exact rj0_t _ bd
      | true=>
        rw [hn2] at n3
        obtain⟨b,m,r,p',e4,h4,v4,d4,hp,hp0⟩:=at1_both hs h3 bd
        refine⟨b,nm++([58]++(n2++m)),r,p',by rw [e1,e2,e3,e4];simp,by rw [h4];simp,ev_eq (Ev.bind v1 (Ev.bind n1 (ev_pos rfl (ev_some v2 (ev_pos rfl (Ev.bind v3 (Ev.bind n3 (ev_pos rfl v4)))))))) ?_,Ev.bind (dy hn) (ev_neg (nm_ne hn) (ev_some d2 (ev_pos rfl (Ev.bind (dy2 hn2) ?_)))),fun q=>⟨?_,fun q'=>hne (List.append_eq_nil_iff.mp q').1⟩,hp0⟩
        · simp only [List.append_assoc]
        · dsimp only
          have:((B n2).toList == ([]:List UInt8))=false:=beq_eq_false_iff_ne.mpr (nm_ne hn2)
          rw [this]
          exact d4
        · rw [hp q];simp only [List.append_assoc]
    · obtain⟨b,m,r,p',e4,h4,v4,d4,hp,hp0⟩:=at1_both hs h1 bd
      refine⟨b,nm++m,r,p',by rw [e1,e4];simp,by rw [h4];simp,ev_eq (Ev.bind v1 (Ev.bind n1 (ev_pos rfl (ev_some v2 (ev_neg Bool.false_ne_true v4))))) ?_,Ev.bind (dy hn) (ev_neg (nm_ne hn) (ev_some d2 (ev_neg Bool.false_ne_true d4))),fun q=>⟨?_,fun q'=>hne (List.append_eq_nil_iff.mp q').1⟩,hp0⟩
      · simp only [List.append_assoc]
      · rw [hp q];simp only [List.append_assoc]
theorem rat_no (hs:s.size≤4000000) (h:s.toList=pre++l) (bd:Bool) (hn:∀ c,l.head? = some c→letB c=false):Ev (fun k=>stowageref13_Reader_attribute.f k s (pre.length:Int) bd) (false,s,(pre.length:Int),bd):=by
  unfold stowageref13_Reader_attribute.f
  exact Ev.bind (rnm_no s hs bd pre l h hn) (ev_pos (B_toList []) (rj0_t _ bd))
theorem rsk_any (s:ByteArray) (hs:s.size≤4000000) (q:Int) (hq:0≤q) (bd:Bool):∃ n q',0≤q'∧Ev (fun k=>stowageref13_Reader_skip.f k s q bd) (n,s,q',bd):=by
  by_cases c:q<(s.size:Int)
  · obtain⟨n,rfl⟩ : ∃ n:Nat,q=(n:Int):=⟨q.toNat,by omega⟩
    have hl:=length_toList s
    have e:s.toList=s.toList.take n++s.toList.drop n:=(List.take_append_drop n _).symm
    have en:(s.toList.take n).length=n:=by rw [List.length_take];omega
    obtain⟨ws,r,_,_,_,_,_,d⟩:=sp_both hs e bd
    rw [en] at d
    exact⟨_,_,Int.natCast_nonneg _,d⟩
  · exact⟨0,q,hq,Ev.step (g:=fun k=>stowageref13_Reader_skip.f k s q bd) (f:=fun _=>some (0,s,q,bd)) (fun k=>by rw [stowageref13_Reader_skip.f,stowageref13_Reader_skip.l0,if_neg c]) (Ev.now _)⟩
theorem al_both (s:ByteArray) (hs:s.size≤4000000) (bd:Bool) (n:Nat):∀ (pre l:List UInt8),s.toList=pre++l→l.length<n → ∃ bb m r,l=m++r∧s.toList=(pre++m)++r∧Ev (fun k=>xml_el.at_ k s (pre.length:Int)) (bb,s,(((pre++m).length:Nat):Int)) ∧
    (bb=false → ∃ q,0≤q∧Ev (fun k=>rel.at_ k s (pre.length:Int) bd) (2,s,q,bd)) ∧
    (bb=true→(∀ r',r = [47,62]++r'→Ev (fun k=>rel.at_ k s (pre.length:Int) bd) (0,s,((((pre++m) ++ [47,62]).length:Nat):Int),bd))∧(∀ r',r = [62]++r'→Ev (fun k=>rel.at_ k s (pre.length:Int) bd) (1,s,((((pre++m) ++ [62]).length:Nat):Int),bd)) ∧
      (¬ r.take 2 = [47,62]→¬ r.take 1 = [62] → ∃ q,0≤q∧Ev (fun k=>rel.at_ k s (pre.length:Int) bd) (2,s,q,bd))):=by
  induction n with
  | zero=>intro pre l _ hl;exact absurd hl (Nat.not_lt_zero _)
  | succ n ih=>
    intro pre l h hl
    obtain⟨ws,r1,e1,_,hr1,h1,v1,d1⟩:=sp_both hs h bd
    have hl1:=pre_le s (pre++ws) r1 h1
    have ll:=congrArg List.length e1
    rw [List.length_append] at ll
    have p1:(0:Int)≤(((pre++ws).length:Nat):Int):=Int.natCast_nonneg _
    have p2:(((pre++ws).length:Nat):Int)≤(s.size:Int):=by omega
    have dstep:∀ r,Ev (fun k=>(stowageref13_Reader_eat.f s (((pre++ws).length:Nat):Int) bd (B [47,62])).bind fun x=>(if x.1=true then some (0,x.2.1,x.2.2.1,x.2.2.2) else((stowageref13_Reader_eat.f x.2.1 x.2.2.1 x.2.2.2 (B [62])).bind fun y=>(if y.1=true then some (1,y.2.1,y.2.2.1,y.2.2.2) else(if(ws.length:Int)=0 then some (2,y.2.1,y.2.2.1,y.2.2.2) else((stowageref13_Reader_attribute.f k y.2.1 y.2.2.1 y.2.2.2).bind fun t=>(if t.1=true then rel.at_ k t.2.1 t.2.2.1 t.2.2.2 else some (2,t.2.1,t.2.2.1,t.2.2.2)))))))) r→Ev (fun k=>rel.at_ k s (pre.length:Int) bd) r:=
      fun r hr=>Ev.step (fun k=>by rw [rel.at_]) (Ev.bind d1 hr)
    have vstop:ws = []∨r1.take 1 = [47]∨r1.take 1 = [62]→Ev (fun k=>xml_el.at_ k s (pre.length:Int)) (true,s,(((pre++ws).length:Nat):Int)):=by
      intro hc
      refine Ev.step (f:=fun k=>(xml_reader_space.f k s (pre.length:Int)).bind fun a=>(if a.1=true then(if 0≤a.2.2 then(if a.2.2≤(a.2.1.size:Int) then((strings_HasPrefix.f (a.2.1.extract (a.2.2:Int).toNat a.2.1.size) (⟨#[47]⟩ : ByteArray)).bind fun x=>(if x=true then some (true,a.2.1,a.2.2) else((strings_HasPrefix.f (a.2.1.extract (a.2.2:Int).toNat a.2.1.size) (⟨#[62]⟩ : ByteArray)).bind fun y=>(if y=true then some (true,a.2.1,a.2.2) else((xml_reader_attribute.f k a.2.1 a.2.2).bind fun b=>(if b.1=true then xml_el.at_ k b.2.1 b.2.2 else some (false,b.2.1,b.2.2))))))) else none) else none) else some (true,a.2.1,a.2.2))) (fun k=>by rw [xml_el.at_]) (Ev.bind v1 ?_)
      by_cases hw:ws = []
      · refine ev_neg ?_ (Ev.now _)
        rw [decide_eq_true_eq]
        exact fun q=>q hw
      · refine ev_pos (decide_eq_true hw) (ev_pos p1 (ev_pos p2 (ev_some (hp_at h1 [47]) ?_)))
        rcases hc with hc|hc|hc
        · exact absurd hc hw
        · exact ev_pos (beq_iff_eq.mpr hc) (Ev.now _)
        · refine ev_neg (fun q=>?_) (ev_some (hp_at h1 [62]) (ev_pos (beq_iff_eq.mpr hc) (Ev.now _)))
          have:=(beq_iff_eq.mp q).symm.trans hc
          revert this;decide
    have dfail:¬ r1.take 2 = [47,62]→¬ r1.take 1 = [62]→(∀ c,r1.head? = some c→letB c=false)∨ws = [] → ∃ q,0≤q∧Ev (fun k=>rel.at_ k s (pre.length:Int) bd) (2,s,q,bd):=by
      intro c1 c2 c3
      refine⟨_,p1,dstep _ (ev_some (reat_no hs h1 bd [47,62] c1) (ev_neg Bool.false_ne_true (ev_some (reat_no hs h1 bd [62] c2) (ev_neg Bool.false_ne_true ?_))))⟩
      by_cases hw:ws = []
      · exact ev_pos (by rw [hw];rfl) (Ev.now _)
      · have hwl:=List.length_pos_iff.mpr hw
        exact ev_neg (by omega) (Ev.bind (rat_no hs h1 bd (c3.resolve_right hw)) (ev_neg Bool.false_ne_true (Ev.now _)))
    have dyes:(∀ r',r1 = [47,62]++r'→Ev (fun k=>rel.at_ k s (pre.length:Int) bd) (0,s,((((pre++ws) ++ [47,62]).length:Nat):Int),bd))∧(∀ r',r1 = [62]++r'→Ev (fun k=>rel.at_ k s (pre.length:Int) bd) (1,s,((((pre++ws) ++ [62]).length:Nat):Int),bd)):=by
      refine⟨fun r' e=>dstep _ (ev_some (reat_yes hs (l:=r') (by rw [h1,e]) bd) (ev_pos rfl (Ev.now _))),fun r' e=>dstep _ (ev_some (reat_no hs h1 bd [47,62] ?_) (ev_neg Bool.false_ne_true (ev_some (reat_yes hs (l:=r') (by rw [h1,e]) bd) (ev_pos rfl (Ev.now _)))))⟩
      rw [e]
      intro q
      cases r' with
      | nil=>simp at q
      | cons _ _=>simp at q
    by_cases g:ws = []∨r1.take 1 = [47]∨r1.take 1 = [62]
    · refine⟨true,ws,r1,e1,h1,vstop g,fun q=>(by cases q),fun _=>⟨dyes.1,dyes.2,fun c1 c2=>dfail c1 c2 ?_⟩⟩
      rcases g with g|g|g
      · exact .inr g
      · refine .inl fun c hc=>?_
        cases r1 with
        | nil=>cases hc
        | cons d t=>
          obtain rfl:d=c:=Option.some.inj hc
          have:d=47:=by simpa using g
          rw [this];decide
      · exact absurd g c2
    · have hw:¬ ws = []:=fun q=>g (.inl q)
      have c47:¬ r1.take 1 = [47]:=fun q=>g (.inr (.inl q))
      have c62:¬ r1.take 1 = [62]:=fun q=>g (.inr (.inr q))
      have c2:¬ r1.take 2 = [47,62]:=by
        intro q
        refine c47 ?_
        have:=congrArg (List.take 1) q
        rwa [List.take_take] at this
      have hwl:=List.length_pos_iff.mpr hw
      obtain⟨b,m,r,p',e2,h2,v2,d2,hp,hp0⟩:=at_both hs h1 bd
      have vstep:∀ r,Ev (fun k=>(xml_reader_attribute.f k s (((pre++ws).length:Nat):Int)).bind fun b=>(if b.1=true then xml_el.at_ k b.2.1 b.2.2 else some (false,b.2.1,b.2.2))) r→Ev (fun k=>xml_el.at_ k s (pre.length:Int)) r:=by
        intro r hr
        refine Ev.step (f:=fun k=>(xml_reader_space.f k s (pre.length:Int)).bind fun a=>(if a.1=true then(if 0≤a.2.2 then(if a.2.2≤(a.2.1.size:Int) then((strings_HasPrefix.f (a.2.1.extract (a.2.2:Int).toNat a.2.1.size) (⟨#[47]⟩ : ByteArray)).bind fun x=>(if x=true then some (true,a.2.1,a.2.2) else((strings_HasPrefix.f (a.2.1.extract (a.2.2:Int).toNat a.2.1.size) (⟨#[62]⟩ : ByteArray)).bind fun y=>(if y=true then some (true,a.2.1,a.2.2) else((xml_reader_attribute.f k a.2.1 a.2.2).bind fun b=>(if b.1=true then xml_el.at_ k b.2.1 b.2.2 else some (false,b.2.1,b.2.2))))))) else none) else none) else some (true,a.2.1,a.2.2))) (fun k=>by rw [xml_el.at_]) (Ev.bind v1 ?_)
        exact ev_pos (decide_eq_true hw) (ev_pos p1 (ev_pos p2 (ev_some (hp_at h1 [47]) (ev_neg (fun q=>c47 (beq_iff_eq.mp q)) (ev_some (hp_at h1 [62]) (ev_neg (fun q=>c62 (beq_iff_eq.mp q)) hr))))))
      have dgo:∀ r,Ev (fun k=>(if b=true then rel.at_ k s p' bd else some (2,s,p',bd))) r→Ev (fun k=>rel.at_ k s (pre.length:Int) bd) r:=
        fun r hr=>dstep _ (ev_some (reat_no hs h1 bd [47,62] c2) (ev_neg Bool.false_ne_true (ev_some (reat_no hs h1 bd [62] c62) (ev_neg Bool.false_ne_true (ev_neg (by omega) (Ev.bind d2 hr))))))
      cases b with
      | false=>
        refine⟨false,ws++m,r,by rw [e1,e2];simp,by rw [h2];simp,ev_eq (vstep _ (Ev.bind v2 (ev_neg Bool.false_ne_true (Ev.now _)))) ?_,fun _=>⟨p',hp0,dgo _ (ev_neg Bool.false_ne_true (Ev.now _))⟩,fun q=>(by cases q)⟩
        simp only [List.append_assoc]
      | true=>
        obtain⟨hpe,hmn⟩:=hp rfl
        have hmp:=List.length_pos_iff.mpr hmn
        have ll2:=congrArg List.length e2
        rw [List.length_append] at ll2
        obtain⟨bb,m2,r2,e3,h3,v3,k1,k2⟩:=ih ((pre++ws)++m) r h2 (by omega)
        have dgo2:∀ r,Ev (fun k=>rel.at_ k s (((((pre++ws)++m).length:Nat)):Int) bd) r→Ev (fun k=>rel.at_ k s (pre.length:Int) bd) r:=
          fun r hr=>dgo r (ev_pos rfl (by rw [hpe];exact hr))
        have hass:((pre++ws)++m)++m2=pre++(ws++(m++m2)):=by simp
        rw [hass] at h3 v3
        refine⟨bb,ws++(m++m2),r2,by rw [e1,e2,e3];simp,h3,vstep _ (Ev.bind v2 (ev_pos rfl v3)),fun q=>?_,fun q=>?_⟩
        · obtain⟨q1,q2,q3⟩:=k1 q
          exact⟨q1,q2,dgo2 _ q3⟩
        · obtain⟨j1,j2,j3⟩:=k2 q
          rw [hass] at j1 j2
          exact⟨fun r' e=>dgo2 _ (j1 r' e),fun r' e=>dgo2 _ (j2 r' e),fun c1 c2=>by obtain⟨q1,q2,q3⟩:=j3 c1 c2;exact⟨q1,q2,dgo2 _ q3⟩⟩
end
theorem un_both (raw:List UInt8) (h:raw.length≤4000000):∃ t b,Ev (fun k=>xml_Unescape.f k (B raw)) (t,b)∧Ev (fun k=>stowageref13_Unescape.f k (B raw)) (t,b)∧(b=true→t.size≤4*raw.length):=by
  have hv:=unescape_ev (B raw) (by rw [B_size];exact h)
  have hd:=runescape_ev (B raw) (by rw [B_size];exact h)
  rw [B_toList] at hv hd
  have hl:=nrm_len raw
  have e:unL ((nrm raw).length+1) (nrm raw)=unD (raw.length+1) raw:=by rw [unD_eq _ _ (Nat.lt_succ_self _)];exact unL_fuel _ _ _ (by omega) (by omega)
  rw [e] at hv hd
  cases hu:unD (raw.length+1) raw with
  | none=>rw [hu] at hv hd;exact⟨_,false,hv,hd,fun q=>by cases q⟩
  | some q=>
    rw [hu] at hv hd
    have e0:(⟨#[]⟩ : ByteArray)++B q=B q:=ByteArray.empty_append
    rw [unR] at hv hd
    rw [e0] at hv hd
    exact⟨B q,true,hv,hd,fun _=>by rw [B_size];exact unD_len _ raw q hu⟩
def zX:XN:=⟨⟨#[]⟩,⟨#[]⟩,[]⟩
def zR:RN:=⟨⟨#[]⟩,⟨#[]⟩,[]⟩
theorem rout_bad (k:Nat) (nm tx:ByteArray) (kids:List RN) (s:ByteArray) (p:Int):rco.out k nm tx kids s p true=some (⟨nm,tx,kids⟩,s,p,true):=by rw [rco.out,if_pos rfl]
theorem out_both {s:ByteArray} {pre l:List UInt8} (hs:s.size≤4000000) (h:s.toList=pre++l) (nm:List UInt8) (hn:nmB nm=true) (tx:ByteArray) (kids:List XN) (rk:List RN) :
    ∃ b m r q,l=m++r∧s.toList=(pre++m)++r∧Ev (fun k=>xml_el.out k (B nm) tx kids s (pre.length:Int)) ((if b=true then(⟨B nm,tx,kids⟩ : XN) else zX),b,s,(((pre++m).length:Nat):Int))∧0≤q∧Ev (fun k=>rco.out k (B nm) tx rk s (pre.length:Int) false) ((⟨B nm,tx,rk⟩ : RN),s,q,!b)∧(b=true→q=(((pre++m).length:Nat):Int)):=by
  have r0:∀ r,Ev (fun k=>(stowageref13_Reader_eat.f s (pre.length:Int) false (B [60,47])).bind fun y=>(if y.1=true then((stowageref13_Reader_name.f k y.2.1 y.2.2.1 y.2.2.2).bind fun z=>(if z.1.toList=(B nm).toList then((stowageref13_Reader_skip.f k z.2.1 z.2.2.1 z.2.2.2).bind fun u=>(stowageref13_Reader_eat.f u.2.1 u.2.2.1 u.2.2.2 (B [62])).bind fun t=>some (⟨B nm,tx,rk⟩,t.2.1,t.2.2.1,!t.1)) else some (⟨B nm,tx,rk⟩,z.2.1,z.2.2.1,true))) else some (⟨B nm,tx,rk⟩,y.2.1,y.2.2.1,true))) r→Ev (fun k=>rco.out k (B nm) tx rk s (pre.length:Int) false) r:=
    fun r hr=>Ev.congr (fun k=>by rw [rco.out,if_neg Bool.false_ne_true];rfl) hr
  unfold xml_el.out
  rcases eat_both hs h false [60,47] with⟨l7,e7,h7,v7,d7⟩|⟨v7,d7,_⟩
  · obtain⟨nm2,l8,e8,h8,v8,dy,dn⟩:=nm_both hs h7 false
    by_cases hee:nm2=nm
    · subst hee
      obtain⟨w9,l9,e9,_,_,h9,v9,d9⟩:=sp_both hs h8 false
      rcases eat_both hs h9 false [62] with⟨l10,e10,h10,v10,d10⟩|⟨v10,d10,_⟩
      · refine⟨true,[60,47]++(nm2++(w9 ++ [62])),l10,_,by rw [e7,e8,e9,e10];simp,by rw [h10];simp,ev_eq (ev_some v7 (ev_pos rfl (Ev.bind v8 (ev_pos rfl (Ev.bind v9 (ev_some v10 (ev_pos rfl (Ev.now _)))))))) ?_,Int.natCast_nonneg _,r0 _ (ev_some d7 (ev_pos rfl (Ev.bind (dy hn) (ev_pos rfl (Ev.bind d9 (ev_some d10 (Ev.now _))))))),fun _=>?_⟩
        · simp only [List.append_assoc];rfl
        · simp only [List.append_assoc]
      · refine⟨false,[60,47]++(nm2++w9),l9,_,by rw [e7,e8,e9];simp,by rw [h9];simp,ev_eq (ev_some v7 (ev_pos rfl (Ev.bind v8 (ev_pos rfl (Ev.bind v9 (ev_some v10 (ev_neg Bool.false_ne_true (Ev.now _)))))))) ?_,Int.natCast_nonneg _,r0 _ (ev_some d7 (ev_pos rfl (Ev.bind (dy hn) (ev_pos rfl (Ev.bind d9 (ev_some d10 (Ev.now _))))))),fun q=>by cases q⟩
        simp only [List.append_assoc];rfl
    · have hnn:¬ (B nm2).toList=(B nm).toList:=fun q=>hee (by simpa only [B_toList] using q)
      have hv:Ev (fun k=>(xml_reader_eat.f s (pre.length:Int) (B [60,47])).bind fun y=>(if y.1=true then((xml_reader_name.f k y.2.1 y.2.2).bind fun z=>(if z.1.toList=(B nm).toList then((xml_reader_space.f k z.2.1 z.2.2).bind fun u=>(xml_reader_eat.f u.2.1 u.2.2 (B [62])).bind fun t=>(if t.1=true then some ((⟨B nm,tx,kids⟩ : XN),true,t.2.1,t.2.2) else some (zX,false,t.2.1,t.2.2))) else some (zX,false,z.2.1,z.2.2))) else some (zX,false,y.2.1,y.2.2))) (zX,false,s,(((pre++([60,47]++nm2)).length:Nat):Int)):=by
        refine ev_eq (ev_some v7 (ev_pos rfl (Ev.bind v8 (ev_neg hnn (Ev.now _))))) ?_
        simp only [List.append_assoc]
      cases hn2:nmB nm2 with
      | true=>
        exact⟨false,[60,47]++nm2,l8,_,by rw [e7,e8];simp,by rw [h8];simp,hv,Int.natCast_nonneg _,r0 _ (ev_some d7 (ev_pos rfl (Ev.bind (dy hn2) (ev_neg hnn (Ev.now _))))),fun q=>by cases q⟩
      | false=>
        refine⟨false,[60,47]++nm2,l8,_,by rw [e7,e8];simp,by rw [h8];simp,hv,Int.natCast_nonneg _,r0 _ (ev_some d7 (ev_pos rfl (Ev.bind (dn hn2) (ev_neg ?_ (Ev.now _))))),fun q=>by cases q⟩
        intro q
        rw [B_toList] at q
        exact nm_ne hn q.symm
  · refine⟨false,[],l,_,rfl,by rw [List.append_nil];exact h,?_,Int.natCast_nonneg _,r0 _ (ev_some d7 (ev_neg Bool.false_ne_true (Ev.now _))),fun q=>by cases q⟩
    rw [List.append_nil]
    exact ev_some v7 (ev_neg Bool.false_ne_true (Ev.now _))
def ElBoth (s:ByteArray) (N:Nat):Prop:=∀ (pre l:List UInt8) (d:Nat),s.toList=pre++l→l.length<N→d≤17 →
  ∃ x b m r y q,l=m++r∧s.toList=(pre++m)++r∧Ev (fun k=>xml_el.f k s (pre.length:Int) (d:Int)) (x,b,s,(((pre++m).length:Nat):Int))∧0≤q∧Ev (fun k=>rel.f k s (pre.length:Int) false (d:Int)) (y,s,q,!b)∧(b=true→y=toN x∧q=(((pre++m).length:Nat):Int)∧m ≠ []∧nb x≤30*m.length)
theorem rlp_true (s:ByteArray) (p d:Int) (ks:List RN):Ev (fun k=>rco.lp k s p true d ks) (ks,s,p,true):=Ev.step (f:=fun _=>some (ks,s,p,true)) (fun k=>by rw [rco.lp,if_pos rfl]) (Ev.now _)
theorem toNL_one (done:List XN) (x:XN):toNL (done ++ [x])=toNL done ++ [toN x]:=by rw [toNL_app];rfl
def relB (k:Nat) (d:Int) (e:Bool×ByteArray×Int×Bool):Option (RN×ByteArray×Int×Bool):=(stowageref13_Reader_name.f k e.2.1 e.2.2.1 e.2.2.2).bind fun n=>(if n.1.toList=([]:List UInt8) then some (⟨n.1,⟨#[]⟩,[]⟩,n.2.1,n.2.2.1,true) else((rel.at_ k n.2.1 n.2.2.1 n.2.2.2).bind fun a=>(if a.1=0 then some (⟨n.1,⟨#[]⟩,[]⟩,a.2.1,a.2.2.1,a.2.2.2) else(if a.1=1 then rco.f k n.1 a.2.1 a.2.2.1 a.2.2.2 d else some (⟨n.1,⟨#[]⟩,[]⟩,a.2.1,a.2.2.1,true)))))
theorem rel_unf {s:ByteArray} {p d:Int} {b:Bool} (hd:¬ d>16) {r:RN×ByteArray×Int×Bool} (h:Ev (fun k=>(stowageref13_Reader_eat.f s p b (B [60])).bind fun e=>(if e.1=true then relB k d e else some (zR,e.2.1,e.2.2.1,true))) r):Ev (fun k=>rel.f k s p b d) r:=
  Ev.step (fun k=>by rw [rel.f,if_neg hd];rfl) h
theorem rel_no {s:ByteArray} {pre l:List UInt8} (hs:s.size≤4000000) (h:s.toList=pre++l) (d:Int) (hn:¬ l.take 1 = [60]):Ev (fun k=>rel.f k s (pre.length:Int) false d) (zR,s,(pre.length:Int),true):=by
  by_cases hd:d>16
  · exact Ev.step (f:=fun _=>some (zR,s,(pre.length:Int),true)) (fun k=>by rw [rel.f,if_pos hd];rfl) (Ev.now _)
  · exact rel_unf hd (ev_some (reat_no hs h false [60] hn) (ev_neg Bool.false_ne_true (Ev.now _)))
theorem rlp_no {s:ByteArray} {pre l:List UInt8} (hs:s.size≤4000000) (h:s.toList=pre++l) (hne:l ≠ []) (hn:¬ l.take 1 = [60]) (d:Nat) (hd:d≤16) (ks:List RN) (hk:ks.length≤pre.length):∃ ys q,0≤q∧Ev (fun k=>rco.lp k s (pre.length:Int) false (d:Int) ks) (ys,s,q,true):=by
  have hl:=pre_le s pre l h
  have hlp:=List.length_pos_iff.mpr hne
  have hw:wrap64 ((d:Int)+1)=((d+1:Nat):Int):=by rw [w64 (by omega) (by omega)];rfl
  obtain⟨n,q',hq',hsk⟩:=rsk_any s hs (pre.length:Int) (Int.natCast_nonneg _) true
  have hb:¬ l.take 2 = [60,47]:=by
    intro q
    refine hn ?_
    have:=congrArg (List.take 1) q
    rwa [List.take_take] at this
  refine⟨ks ++ [zR],q',hq',Ev.step (f:=fun k=>(stowageref3_Begins.f (s.extract ((pre.length:Int)).toNat s.size) (B [60,47])).bind fun x=>(if x=true then some (ks,s,(pre.length:Int),false) else((rel.f k s (pre.length:Int) false ((d+1:Nat):Int)).bind fun e=>(if ks.length<2513169434916 then((stowageref13_Reader_skip.f k e.2.1 e.2.2.1 e.2.2.2).bind fun a=>rco.lp k a.2.1 a.2.2.1 a.2.2.2 (d:Int) (ks ++ [e.1])) else none)))) (fun k=>?_) ?_⟩
  · rw [rco.lp,if_neg Bool.false_ne_true,if_pos (by omega),if_pos (by omega),hw];rfl
  · exact ev_some (bg_at h [60,47]) (ev_neg (fun q=>hb (beq_iff_eq.mp q)) (Ev.bind (rel_no hs h _ hn) (ev_pos (by omega) (Ev.bind hsk (rlp_true _ _ _ _)))))
theorem lp_both (s:ByteArray) (hs:s.size≤4000000) (N:Nat) (IH:ElBoth s N) (d:Nat) (hd:d≤16) (n:Nat):∀ (pre l:List UInt8) (done:List XN),s.toList=pre++l→l.length<n→n≤N→done.length≤pre.length →
    ∃ b kids m r ys q bq,l=m++r∧s.toList=(pre++m)++r∧Ev (fun k=>xml_co.lp k s (pre.length:Int) (d:Int) done) (b,done++kids,s,(((pre++m).length:Nat):Int))∧0≤q∧Ev (fun k=>rco.lp k s (pre.length:Int) false (d:Int) (toNL done)) (ys,s,q,bq) ∧
      (b=false→bq=true)∧(b=true→r.take 2 = [60,47]→ys=toNL (done++kids)∧q=(((pre++m).length:Nat):Int)∧bq=false) ∧
      (b=true→¬ r.take 2 = [60,47]→bq=true∨(bq=false∧q=(((pre++m).length:Nat):Int)∧r = []))∧(b=true→kids = []→l.take 1 = [60]→l.take 2 = [60,47])∧(b=true→nbl kids≤30*m.length):=by
  induction n with
  | zero=>intro pre l done _ hl;exact absurd hl (Nat.not_lt_zero _)
  | succ n ih=>
    intro pre l done h hl hnN hdn
    have hle:=pre_le s pre l h
    have hw:wrap64 ((d:Int)+1)=((d+1:Nat):Int):=by rw [w64 (by omega) (by omega)];rfl
    have p1:(0:Int)≤(pre.length:Int):=by omega
    have p2:(pre.length:Int)≤(s.size:Int):=by omega
    have hpn:((pre ++ []).length:Nat)=pre.length:=by rw [List.append_nil]
    by_cases h60:l.take 1 = [60]
    · cases l with
      | nil=>cases h60
      | cons c l=>
        obtain rfl:c=60:=by simpa using h60
        rw [List.length_cons] at hl hle
        have p3:(pre.length:Int)<(s.size:Int):=by omega
        have dstep:∀ r,Ev (fun k=>(stowageref3_Begins.f (s.extract ((pre.length:Int)).toNat s.size) (B [60,47])).bind fun x=>(if x=true then some (toNL done,s,(pre.length:Int),false) else((rel.f k s (pre.length:Int) false ((d+1:Nat):Int)).bind fun e=>(if(toNL done).length<2513169434916 then((stowageref13_Reader_skip.f k e.2.1 e.2.2.1 e.2.2.2).bind fun a=>rco.lp k a.2.1 a.2.2.1 a.2.2.2 (d:Int) (toNL done ++ [e.1])) else none)))) r→Ev (fun k=>rco.lp k s (pre.length:Int) false (d:Int) (toNL done)) r:=
          fun r hr=>Ev.step (fun k=>by rw [rco.lp,if_neg Bool.false_ne_true,if_pos p3,if_pos p1,hw];rfl) hr
        by_cases h47:l.head? = some 47
        · cases l with
          | nil=>cases h47
          | cons c l=>
            obtain rfl:c=47:=Option.some.inj h47
            refine⟨true,[],[],60 :: 47 :: l,toNL done,(pre.length:Int),false,rfl,by rw [List.append_nil];exact h,?_,p1,dstep _ (ev_some (bg_at h [60,47]) (ev_pos (beq_iff_eq.mpr rfl) (Ev.now _))),fun q=>(by cases q),fun _ _=>⟨by rw [List.append_nil],by rw [hpn],rfl⟩,fun _ q=>absurd rfl q,fun _ _ _=>rfl,fun _=>Nat.zero_le _⟩
            rw [List.append_nil,List.append_nil]
            exact lp_end h d done
        · have hx1:((60 :: l).take ([60]:List UInt8).length == ([60]:List UInt8))=true:=by simp
          have hx2:((60 :: l).take ([60,47]:List UInt8).length == ([60,47]:List UInt8))=false:=by
            rw [beq_eq_false_iff_ne]
            intro e
            cases l with
            | nil=>simp at e
            | cons c l=>exact h47 (by rw [List.head?_cons];exact congrArg some (List.cons.inj (List.cons.inj e).2).1)
          obtain⟨x,b,m,r,y,q,e1,h1,v1,hq0,d1,hb⟩:=IH pre (60 :: l) (d+1) h (by rw [List.length_cons];omega) (by omega)
          have base:∀ q,Ev (fun k=>(xml_el.f k s (pre.length:Int) ((d+1:Nat):Int)).bind fun e=>(if e.2.1=true then(if done.length<2513169434916 then((xml_reader_space.f k e.2.2.1 e.2.2.2).bind fun a=>xml_co.lp k a.2.1 a.2.2 (d:Int) (done ++ [e.1])) else none) else some (false,done,e.2.2.1,e.2.2.2))) q→Ev (fun k=>xml_co.lp k s (pre.length:Int) (d:Int) done) q:=by
            intro q hq
            refine Ev.step (fun k=>?_) hq
            rw [xml_co.lp,if_pos p1,if_pos p2,show(⟨#[60]⟩ : ByteArray)=B [60] from rfl,show(⟨#[60,47]⟩ : ByteArray)=B [60,47] from rfl,hp_at h,hx1,Option.bind_some,if_pos rfl,hp_at h,hx2,Option.bind_some,if_neg Bool.false_ne_true,hw]
          have dgo:∀ z,Ev (fun k=>(stowageref13_Reader_skip.f k s q (!b)).bind fun a=>rco.lp k a.2.1 a.2.2.1 a.2.2.2 (d:Int) (toNL done ++ [y])) z→Ev (fun k=>rco.lp k s (pre.length:Int) false (d:Int) (toNL done)) z:=
            fun z hz=>dstep _ (ev_some (bg_at h [60,47]) (ev_neg (fun q=>by rw [hx2] at q;cases q) (Ev.bind d1 (ev_pos (by rw [toNL_len];omega) hz))))
          cases b with
          | false=>
            obtain⟨n',q',hq',hsk⟩:=rsk_any s hs q hq0 true
            exact⟨false,[],m,r,_,q',true,e1,h1,by rw [List.append_nil];exact base _ (Ev.bind v1 (ev_neg Bool.false_ne_true (Ev.now _))),hq',dgo _ (Ev.bind hsk (rlp_true _ _ _ _)),fun _=>rfl,fun q=>(by cases q),fun q=>(by cases q),fun q=>(by cases q),fun q=>(by cases q)⟩
          | true=>
            obtain⟨rfl,rfl,hmn,hnb⟩:=hb rfl
            have hmp:=List.length_pos_iff.mpr hmn
            obtain⟨ws,l2,e2,_,_,h2,v2,d2⟩:=sp_both hs h1 false
            have ll1:=congrArg List.length e1
            have ll2:=congrArg List.length e2
            rw [List.length_append] at ll1 ll2
            rw [List.length_cons] at ll1
            obtain⟨b2,kids,m2,r2,ys,q2,bq,e3,h3,v3,hq2,d3,k1,k2,k3,_,k5⟩:=ih ((pre++m)++ws) l2 (done ++ [x]) h2 (by omega) (by omega) (by simp only [List.length_append,List.length_cons,List.length_nil];omega)
            have hdl:done.length<2513169434916:=by omega
            rw [toNL_one] at d3
            have hass:((pre++m)++ws)++m2=pre++(m++(ws++m2)):=by simp
            rw [hass] at h3 v3 k2 k3
            have hki:(done ++ [x])++kids=done++(x :: kids):=by simp
            rw [hki] at v3 k2
            exact⟨b2,x :: kids,m++(ws++m2),r2,ys,q2,bq,by rw [e1,e2,e3];simp,h3,base _ (Ev.bind v1 (ev_pos rfl (ev_pos hdl (Ev.bind v2 v3)))),hq2,dgo _ (Ev.bind d2 d3),k1,k2,k3,(fun _ q=>by cases q),fun c=>by have:=k5 c;rw [nbl];simp only [List.length_append];omega⟩
    · have hh:l.head? ≠ some 60:=by
        intro q
        cases l with
        | nil=>cases q
        | cons c l=>obtain rfl:=Option.some.inj q;exact h60 rfl
      have hv:Ev (fun k=>xml_co.lp k s (pre.length:Int) (d:Int) done) (true,done ++ [],s,(((pre ++ []).length:Nat):Int)):=by
        rw [List.append_nil,List.append_nil]
        exact lp_text h hh d done
      have h2:¬ l.take 2 = [60,47]:=by
        intro q
        refine h60 ?_
        have:=congrArg (List.take 1) q
        rwa [List.take_take] at this
      by_cases hne:l = []
      · subst hne
        have he:=pre_end s pre h
        refine⟨true,[],[],[],toNL done,(pre.length:Int),false,rfl,by rw [List.append_nil];exact h,hv,p1,Ev.step (f:=fun _=>some (toNL done,s,(pre.length:Int),false)) (fun k=>?_) (Ev.now _),fun q=>(by cases q),fun _ q=>(by cases q),fun _ _=>.inr ⟨rfl,by rw [hpn],rfl⟩,fun _ _ q=>(by cases q),fun _=>Nat.zero_le _⟩
        rw [rco.lp,if_neg Bool.false_ne_true,if_neg (by omega)]
      · obtain⟨ys,q,hq,hd'⟩:=rlp_no hs h hne h60 d hd (toNL done) (by rw [toNL_len];exact hdn)
        exact⟨true,[],[],l,ys,q,true,rfl,by rw [List.append_nil];exact h,hv,hq,hd',fun q=>(by cases q),fun _ q=>absurd q h2,fun _ _=>.inl rfl,fun _ _ q=>absurd q h60,fun _=>Nat.zero_le _⟩
theorem rto (s:ByteArray) (hs:s.size≤4000000) (bd:Bool):∀ (t pre:List UInt8),s.toList=pre++t →
    match cutL 60 t with|none=>Ev (fun k=>rco.to k s (pre.length:Int) bd) (s,(((pre++t).length:Nat):Int),bd)|some q=>Ev (fun k=>rco.to k s (pre.length:Int) bd) (s,(((pre++q.1).length:Nat):Int),bd)
  | [],pre,h=>by
    have he:=pre_end s pre h
    show Ev _ _
    rw [List.append_nil]
    exact Ev.step (f:=fun _=>some (s,(pre.length:Int),bd)) (fun k=>by rw [rco.to,if_neg (by omega)]) (Ev.now _)
  | c :: t,pre,h=>by
    obtain⟨hb,hlt⟩:=bt_at_pre (h:=h)
    have hnx:=len_nx pre c s.size hlt hs
    have ih:=rto s hs bd t (pre ++ [c]) (by rw [h];simp)
    have h60:(c.toNat:Int)=60↔c=60:=toNat_eq (c:=c) (d:=60)
    have step:∀ r,Ev (fun k=>(if(c.toNat:Int)=60 then some (s,(pre.length:Int),bd) else rco.to k s (((pre ++ [c]).length:Nat):Int) bd)) r→Ev (fun k=>rco.to k s (pre.length:Int) bd) r:=
      fun r hr=>Ev.step (fun k=>by rw [rco.to,if_pos (by omega),if_pos (by omega),hb,hnx]) hr
    rw [cutL]
    by_cases e:c=60
    · rw [if_pos e]
      show Ev _ (s,(((pre ++ []).length:Nat):Int),bd)
      rw [List.append_nil]
      exact step _ (ev_pos (h60.mpr e) (Ev.now _))
    · rw [if_neg e]
      have n60:¬ (c.toNat:Int)=60:=by rw [h60];exact e
      cases hc:cutL 60 t with
      | none=>
        rw [hc] at ih
        show Ev _ _
        refine ev_eq (step _ (ev_neg n60 ih)) ?_
        rw [List.append_assoc];rfl
      | some q=>
        rw [hc] at ih
        show Ev _ (s,(((pre++(c :: q.1)).length:Nat):Int),bd)
        refine ev_eq (step _ (ev_neg n60 ih)) ?_
        rw [List.append_assoc];rfl
theorem wh_no60 {c:UInt8} (h:whB c=true):c≠60:=by rintro rfl;revert h;decide
theorem cut_ws (ws l:List UInt8) (h:ws.all whB=true):cutL 60 (ws++l)=(cutL 60 l).map fun q=>(ws++q.1,q.2):=by
  induction ws with
  | nil=>rw [List.nil_append];cases cutL 60 l <;> rfl
  | cons c ws ih=>
    rw [List.all_cons,Bool.and_eq_true] at h
    rw [List.cons_append,cutL,if_neg (wh_no60 h.1),ih h.2]
    cases cutL 60 l <;> rfl
theorem ris {s:ByteArray} {pre l:List UInt8} (hs:s.size≤4000000) (h:s.toList=pre++l):rco.is s (pre.length:Int)=some (decide (l.take 1 = [60]∧2≤l.length∧¬ l.take 2 = [60,47])):=by
  have hle:=pre_le s pre l h
  unfold rco.is
  rcases l with _|⟨c,_|⟨e,t⟩⟩
  · rw [List.length_nil] at hle
    have hw:wrap64 ((pre.length:Int)+1)=(pre.length:Int)+1:=w64 (by omega) (by omega)
    rw [hw,if_neg (by omega)]
    rfl
  · rw [List.length_cons,List.length_nil] at hle
    have hw:wrap64 ((pre.length:Int)+1)=(pre.length:Int)+1:=w64 (by omega) (by omega)
    rw [hw,if_neg (by omega),decide_eq_false]
    intro q
    have:=q.2.1
    simp at this
  · rw [List.length_cons,List.length_cons] at hle
    obtain⟨hb,hlt⟩:=bt_at_pre (h:=h)
    have hnx:=len_nx pre c s.size hlt hs
    obtain⟨hb2,hlt2⟩:=bt_at_pre (s:=s) (pre:=pre ++ [c]) (l:=t) (c:=e) (h:=by rw [h];simp)
    rw [hnx,if_pos (by omega),if_pos (by omega),if_pos (by omega),hb,hb2]
    have h60:(c.toNat:Int)=60↔c=60:=toNat_eq (c:=c) (d:=60)
    have h47:(e.toNat:Int)=47↔e=47:=toNat_eq (c:=e) (d:=47)
    have hlen:2≤(c :: e :: t).length:=by simp
    have ht2:(c :: e :: t).take 2 = [c,e]:=rfl
    have ht1:(c :: e :: t).take 1 = [c]:=rfl
    by_cases g:c=60
    · rw [if_pos (h60.mpr g),if_pos (by omega)]
      by_cases g2:e=47
      · rw [if_pos (h47.mpr g2),decide_eq_false]
        rintro ⟨_,_,q⟩
        exact q (by rw [ht2,g,g2])
      · rw [if_neg (fun q=>g2 (h47.mp q)),decide_eq_true]
        refine⟨by rw [ht1,g],hlen,fun q=>g2 ?_⟩
        rw [ht2] at q
        exact(List.cons.inj (List.cons.inj q).2).1
    · rw [if_neg (fun q=>g (h60.mp q)),decide_eq_false]
      rintro ⟨q,_,_⟩
      rw [ht1] at q
      exact g (List.cons.inj q).1
theorem el_bare {s:ByteArray} {pre:List UInt8} (hs:s.size≤4000000) (h:s.toList=pre ++ [60]) (d:Nat) (hd:d≤17):∃ p,Ev (fun k=>xml_el.f k s (pre.length:Int) (d:Int)) (zX,false,s,p):=by
  by_cases hd16:(d:Int)>16
  · exact⟨_,Ev.step (f:=fun _=>some (zX,false,s,(pre.length:Int))) (fun k=>by rw [xml_el.f,if_pos hd16];rfl) (Ev.now _)⟩
  · have h1:s.toList=(pre ++ [60]) ++ []:=by rw [h,List.append_nil]
    have v1:=eat_yes (s:=s) hs (pre:=pre) (p:=[60]) (l:=[]) (by rw [h,List.append_nil])
    have v2:=nm_ev s hs (pre ++ [60]) [] [] (by rw [h1];rfl) rfl (fun c q=>by cases q)
    have v3:=isnm_tot [] (by decide)
    exact⟨_,el_unf hd16 (ev_some v1 (ev_pos rfl (Ev.bind v2 (Ev.bind v3 (ev_neg Bool.false_ne_true (Ev.now _))))))⟩
theorem co_both (s:ByteArray) (hs:s.size≤4000000) (N:Nat) (IH:ElBoth s N) (d:Nat) (hd:d≤16) (nm:List UInt8) (hn:nmB nm=true) (pre l:List UInt8) (h:s.toList=pre++l) (hl:l.length<N) :
    ∃ x b m r y q,l=m++r∧s.toList=(pre++m)++r∧Ev (fun k=>(xml_co.f k s (pre.length:Int) (d:Int)).bind fun x=>(if x.1=true then xml_el.out k (B nm) x.2.1 x.2.2.1 x.2.2.2.1 x.2.2.2.2 else some (zX,false,x.2.2.2.1,x.2.2.2.2))) (x,b,s,(((pre++m).length:Nat):Int))∧0≤q∧Ev (fun k=>rco.f k (B nm) s (pre.length:Int) false (d:Int)) (y,s,q,!b)∧(b=true→y=toN x∧q=(((pre++m).length:Nat):Int)∧nb x≤30*m.length+nm.length+16):=by
  have hle:=pre_le s pre l h
  obtain⟨ws,l1,e1,hws,hr1,h1,v1,d1⟩:=sp_both hs h false
  have ll1:=congrArg List.length e1
  rw [List.length_append] at ll1
  have hle1:=pre_le s (pre++ws) l1 h1
  have p1:(0:Int)≤(pre.length:Int):=by omega
  have p2:(pre.length:Int)≤(s.size:Int):=by omega
  have dstep:∀ r,Ev (fun k=>(rco.is s (((pre++ws).length:Nat):Int)).bind fun q=>(if q=true then((rco.lp k s (((pre++ws).length:Nat):Int) false (d:Int) []).bind fun r=>rco.out k (B nm) ⟨#[]⟩ r.1 r.2.1 r.2.2.1 r.2.2.2) else((rco.to k s (((pre++ws).length:Nat):Int) false).bind fun r=>(if 0≤(pre.length:Int) then(if(pre.length:Int)≤r.2.1 then(if r.2.1≤(r.1.size:Int) then((stowageref13_Unescape.f k (r.1.extract ((pre.length:Int)).toNat (r.2.1:Int).toNat)).bind fun t=>rco.out k (B nm) t.1 [] r.1 r.2.1 (r.2.2 || !t.2)) else none) else none) else none)))) r→Ev (fun k=>rco.f k (B nm) s (pre.length:Int) false (d:Int)) r:=
    fun r hr=>Ev.step (fun k=>by rw [rco.f]) (Ev.bind d1 hr)
  have vstep:∀ z w,Ev (fun k=>(xml_co.lp k s (((pre++ws).length:Nat):Int) (d:Int) []).bind fun r=>(if r.1=true then(if(0:Int)<(r.2.1.length:Int) then some (true,(⟨#[]⟩ : ByteArray),r.2.1,r.2.2.1,r.2.2.2) else(if 0≤(pre.length:Int) then(if(pre.length:Int)≤(r.2.2.1.size:Int) then((strings_IndexByte.f (r.2.2.1.extract ((pre.length:Int)).toNat r.2.2.1.size) 60).bind fun i=>(if i<0 then some (false,(⟨#[]⟩ : ByteArray),[],r.2.2.1,r.2.2.2) else(if(pre.length:Int)≤wrap64 ((pre.length:Int)+i) then(if wrap64 ((pre.length:Int)+i)≤(r.2.2.1.size:Int) then((xml_Unescape.f k (r.2.2.1.extract ((pre.length:Int)).toNat (wrap64 ((pre.length:Int)+i):Int).toNat)).bind fun t=>some (t.2,t.1,[],r.2.2.1,wrap64 ((pre.length:Int)+i))) else none) else none))) else none) else none)) else some (false,(⟨#[]⟩ : ByteArray),r.2.1,r.2.2.1,r.2.2.2))) z→Ev (fun k=>(if z.1=true then xml_el.out k (B nm) z.2.1 z.2.2.1 z.2.2.2.1 z.2.2.2.2 else some (zX,false,z.2.2.2.1,z.2.2.2.2))) w→Ev (fun k=>(xml_co.f k s (pre.length:Int) (d:Int)).bind fun x=>(if x.1=true then xml_el.out k (B nm) x.2.1 x.2.2.1 x.2.2.2.1 x.2.2.2.2 else some (zX,false,x.2.2.2.1,x.2.2.2.2))) w:=
    fun z w hz hw=>Ev.bind (Ev.step (g:=fun k=>xml_co.f k s (pre.length:Int) (d:Int)) (fun k=>by rw [xml_co.f]) (Ev.bind v1 hz)) hw
  have fail:∀ p y q,0≤q→(∃ m r,l=m++r∧s.toList=(pre++m)++r∧p=(((pre++m).length:Nat):Int))→Ev (fun k=>(xml_co.f k s (pre.length:Int) (d:Int)).bind fun x=>(if x.1=true then xml_el.out k (B nm) x.2.1 x.2.2.1 x.2.2.2.1 x.2.2.2.2 else some (zX,false,x.2.2.2.1,x.2.2.2.2))) (zX,false,s,p)→Ev (fun k=>rco.f k (B nm) s (pre.length:Int) false (d:Int)) (y,s,q,true) →
      ∃ x b m r y q,l=m++r∧s.toList=(pre++m)++r∧Ev (fun k=>(xml_co.f k s (pre.length:Int) (d:Int)).bind fun x=>(if x.1=true then xml_el.out k (B nm) x.2.1 x.2.2.1 x.2.2.2.1 x.2.2.2.2 else some (zX,false,x.2.2.2.1,x.2.2.2.2))) (x,b,s,(((pre++m).length:Nat):Int))∧0≤q∧Ev (fun k=>rco.f k (B nm) s (pre.length:Int) false (d:Int)) (y,s,q,!b)∧(b=true→y=toN x∧q=(((pre++m).length:Nat):Int)∧nb x≤30*m.length+nm.length+16):=
    fun p y q hq ⟨m,r,a1,a2,a3⟩ a4 a5=>⟨zX,false,m,r,y,q,a1,a2,by rw [← a3];exact a4,hq,a5,fun c=>by cases c⟩
  have hW:∃ m r,l=m++r∧s.toList=(pre++m)++r∧(((pre++ws).length:Nat):Int)=(((pre++m).length:Nat):Int):=⟨ws,l1,e1,h1,rfl⟩
  have no2:∀ t:List UInt8,¬ t.take 1 = [60]→¬ t.take 2 = [60,47]:=by
    intro t c q
    refine c ?_
    have:=congrArg (List.take 1) q
    rwa [List.take_take] at this
  by_cases hA:l1.take 1 = [60]∧2≤l1.length∧¬ l1.take 2 = [60,47]
  · obtain⟨b,kids,m,r,ys,q,bq,e2,h2,v2,hq,d2,k1,k2,k3,k4,k5⟩:=lp_both s hs N IH d hd N (pre++ws) l1 [] h1 (by omega) (Nat.le_refl _) (Nat.zero_le _)
    rw [List.nil_append] at v2 k2
    have hass:(pre++ws)++m=pre++(ws++m):=by simp
    rw [hass] at h2 v2 k2 k3
    have d2':Ev (fun k=>rco.lp k s (((pre++ws).length:Nat):Int) false (d:Int) []) (ys,s,q,bq):=d2
    have dkids:∀ w,Ev (fun k=>rco.out k (B nm) ⟨#[]⟩ ys s q bq) w→Ev (fun k=>rco.f k (B nm) s (pre.length:Int) false (d:Int)) w:=
      fun w hw=>dstep w (ev_some (ris hs h1) (ev_pos (decide_eq_true hA) (Ev.bind d2' hw)))
    have hM:∃ m' r',l=m'++r'∧s.toList=(pre++m')++r'∧(((pre++(ws++m)).length:Nat):Int)=(((pre++m').length:Nat):Int):=⟨ws++m,r,by rw [e1,e2];simp,h2,rfl⟩
    cases b with
    | false=>
      obtain rfl:=k1 rfl
      exact fail _ (⟨B nm,⟨#[]⟩,ys⟩ : RN) q hq hM (vstep (false,⟨#[]⟩,kids,s,(((pre++(ws++m)).length:Nat):Int)) (zX,false,s,(((pre++(ws++m)).length:Nat):Int)) (Ev.bind v2 (ev_neg Bool.false_ne_true (Ev.now _))) (ev_neg Bool.false_ne_true (Ev.now _))) (dkids _ (Ev.congr (fun k=>rout_bad k _ _ _ _ _) (Ev.now _)))
    | true=>
      have hkn:kids ≠ []:=fun e=>hA.2.2 (k4 rfl e hA.1)
      have hkp:=List.length_pos_iff.mpr hkn
      have hki:(0:Int)<((kids.length:Nat):Int):=by omega
      have vk:∀ w,Ev (fun k=>xml_el.out k (B nm) (⟨#[]⟩ : ByteArray) kids s (((pre++(ws++m)).length:Nat):Int)) w→Ev (fun k=>(xml_co.f k s (pre.length:Int) (d:Int)).bind fun x=>(if x.1=true then xml_el.out k (B nm) x.2.1 x.2.2.1 x.2.2.2.1 x.2.2.2.2 else some (zX,false,x.2.2.2.1,x.2.2.2.2))) w:=
        fun w hw=>vstep (true,⟨#[]⟩,kids,s,_) w (Ev.bind v2 (ev_pos rfl (ev_pos hki (Ev.now _)))) (ev_pos rfl hw)
      by_cases hr2:r.take 2 = [60,47]
      · obtain⟨rfl,rfl,rfl⟩:=k2 rfl hr2
        obtain⟨b',m',r',q',e3,h3,v3,hq',d3,hp'⟩:=out_both hs h2 nm hn (⟨#[]⟩ : ByteArray) kids (toNL kids)
        have hass2:(pre++(ws++m))++m'=pre++((ws++m)++m'):=by simp
        rw [hass2] at h3 v3 hp'
        refine⟨_,b',(ws++m)++m',r',_,q',by rw [e1,e2,e3];simp,h3,vk _ v3,hq',dkids _ d3,fun c=>⟨?_,hp' c,?_⟩⟩
        · rw [if_pos c,toN]
        · have:=k5 rfl
          rw [if_pos c,nb_eq,B_size]
          show nm.length+0+nbl kids+16≤_
          simp only [List.length_append]
          omega
      · have vf:=eat_no hs h2 [60,47] hr2
        have hv:Ev (fun k=>xml_el.out k (B nm) (⟨#[]⟩ : ByteArray) kids s (((pre++(ws++m)).length:Nat):Int)) (zX,false,s,(((pre++(ws++m)).length:Nat):Int)):=by
          unfold xml_el.out
          exact ev_some vf (ev_neg Bool.false_ne_true (Ev.now _))
        rcases k3 rfl hr2 with rfl|⟨rfl,rfl,_⟩
        · exact fail _ (⟨B nm,⟨#[]⟩,ys⟩ : RN) q hq hM (vk _ hv) (dkids _ (Ev.congr (fun k=>rout_bad k _ _ _ _ _) (Ev.now _)))
        · refine fail _ (⟨B nm,⟨#[]⟩,ys⟩ : RN) (((pre++(ws++m)).length:Nat):Int) (Int.natCast_nonneg _) hM (vk _ hv) (dkids (⟨B nm,⟨#[]⟩,ys⟩,s,(((pre++(ws++m)).length:Nat):Int),true) ?_)
          exact Ev.congr (fun k=>by rw [rco.out,if_neg Bool.false_ne_true];rfl) (ev_some (reat_no hs h2 false [60,47] hr2) (ev_neg Bool.false_ne_true (Ev.now _)))
  · have dtext:∀ w,Ev (fun k=>((rco.to k s (((pre++ws).length:Nat):Int) false).bind fun r=>(if 0≤(pre.length:Int) then(if(pre.length:Int)≤r.2.1 then(if r.2.1≤(r.1.size:Int) then((stowageref13_Unescape.f k (r.1.extract ((pre.length:Int)).toNat (r.2.1:Int).toNat)).bind fun t=>rco.out k (B nm) t.1 [] r.1 r.2.1 (r.2.2 || !t.2)) else none) else none) else none))) w→Ev (fun k=>rco.f k (B nm) s (pre.length:Int) false (d:Int)) w:=
      fun w hw=>dstep w (ev_some (ris hs h1) (ev_neg (by rw [decide_eq_false hA];exact Bool.false_ne_true) hw))
    have hto:=rto s hs false l1 (pre++ws) h1
    have hcw:cutL 60 l=(cutL 60 l1).map fun q=>(ws++q.1,q.2):=by rw [e1];exact cut_ws ws l1 hws
    have dun:∀ raw r2 t ok w,l=raw++r2→Ev (fun k=>rco.to k s (((pre++ws).length:Nat):Int) false) (s,(((pre++raw).length:Nat):Int),false)→Ev (fun k=>stowageref13_Unescape.f k (B raw)) (t,ok)→Ev (fun k=>rco.out k (B nm) t [] s (((pre++raw).length:Nat):Int) (!ok)) w→Ev (fun k=>rco.f k (B nm) s (pre.length:Int) false (d:Int)) w:=by
      intro raw r2 t ok w hraw a1 a2 a3
      have hlr:=congrArg List.length hraw
      rw [List.length_append] at hlr
      have hex:s.extract ((pre.length:Int)).toNat ((((pre++raw).length:Nat):Int)).toNat=B raw:=by
        rw [Int.toNat_natCast,Int.toNat_natCast]
        refine(extract_of s _ _ raw ?_).trans rfl
        rw [h,hraw,← List.append_assoc,List.take_left,List.drop_left]
      refine dtext w (Ev.bind a1 (ev_pos p1 (ev_pos (by show(pre.length:Int)≤(((pre++raw).length:Nat):Int);rw [List.length_append];omega) (ev_pos (by show(((pre++raw).length:Nat):Int)≤(s.size:Int);rw [List.length_append];omega) (Ev.bind (a:=(t,ok)) (by rw [hex];exact a2) ?_)))))
      dsimp only
      rw [Bool.false_or]
      exact a3
    have dbad:∀ raw r2,l=raw++r2→Ev (fun k=>rco.to k s (((pre++ws).length:Nat):Int) false) (s,(((pre++raw).length:Nat):Int),false)→¬ r2.take 2 = [60,47] → ∃ y,Ev (fun k=>rco.f k (B nm) s (pre.length:Int) false (d:Int)) (y,s,(((pre++raw).length:Nat):Int),true):=by
      intro raw r2 hraw a1 a2
      have hlr:=congrArg List.length hraw
      rw [List.length_append] at hlr
      obtain⟨t,ok,_,u2,_⟩:=un_both raw (by omega)
      refine⟨(⟨B nm,t,[]⟩ : RN),dun raw r2 t ok _ hraw a1 u2 ?_⟩
      cases ok with
      | false=>exact Ev.congr (fun k=>rout_bad k _ _ _ _ _) (Ev.now _)
      | true=>exact Ev.congr (fun k=>by rw [Bool.not_true,rco.out,if_neg Bool.false_ne_true];rfl) (ev_some (reat_no hs (pre:=pre++raw) (l:=r2) (by rw [h,hraw,List.append_assoc]) false [60,47] a2) (ev_neg Bool.false_ne_true (Ev.now _)))
    by_cases hB:l1 = [60]
    · subst hB
      have hc:cutL 60 [60]=some ([],[]):=rfl
      rw [hc] at hto
      have hto':Ev (fun k=>rco.to k s (((pre++ws).length:Nat):Int) false) (s,(((pre++ws).length:Nat):Int),false):=by
        have:=hto
        dsimp only at this
        rwa [List.append_nil] at this
      obtain⟨y,dy⟩:=dbad ws [60] e1 hto' (by decide)
      have hw:wrap64 ((d:Int)+1)=((d+1:Nat):Int):=by rw [w64 (by omega) (by omega)];rfl
      obtain⟨p,ve⟩:=el_bare hs h1 (d+1) (by omega)
      have hx1:(([60]:List UInt8).take ([60]:List UInt8).length == ([60]:List UInt8))=true:=rfl
      have hx2:(([60]:List UInt8).take ([60,47]:List UInt8).length == ([60,47]:List UInt8))=false:=rfl
      have v2:Ev (fun k=>xml_co.lp k s (((pre++ws).length:Nat):Int) (d:Int) []) (false,[],s,p):=by
        refine Ev.step (f:=fun k=>(xml_el.f k s (((pre++ws).length:Nat):Int) ((d+1:Nat):Int)).bind fun e=>(if e.2.1=true then(if([]:List XN).length<2513169434916 then((xml_reader_space.f k e.2.2.1 e.2.2.2).bind fun a=>xml_co.lp k a.2.1 a.2.2 (d:Int) ([] ++ [e.1])) else none) else some (false,[],e.2.2.1,e.2.2.2))) (fun k=>?_) (Ev.bind ve (ev_neg Bool.false_ne_true (Ev.now _)))
        rw [xml_co.lp,if_pos (by omega),if_pos (by omega),show(⟨#[60]⟩ : ByteArray)=B [60] from rfl,show(⟨#[60,47]⟩ : ByteArray)=B [60,47] from rfl,hp_at h1,hx1,Option.bind_some,if_pos rfl,hp_at h1,hx2,Option.bind_some,if_neg Bool.false_ne_true,hw]
      obtain⟨p',v2',hp'⟩ : ∃ p',Ev (fun k=>xml_co.lp k s (((pre++ws).length:Nat):Int) (d:Int) []) (false,[],s,p') ∧ ∃ m r,l=m++r∧s.toList=(pre++m)++r∧p'=(((pre++m).length:Nat):Int):=by
        obtain⟨b,kids,m,r,_,_,_,e2,h2,v2',_⟩:=lp_both s hs N IH d hd N (pre++ws) [60] [] h1 (by omega) (Nat.le_refl _) (Nat.zero_le _)
        obtain⟨K1,hK1⟩:=v2
        obtain⟨K2,hK2⟩:=v2'
        have e:=(hK1 (max K1 K2) (Nat.le_max_left _ _)).symm.trans (hK2 (max K1 K2) (Nat.le_max_right _ _))
        have e':=Option.some.inj e
        refine⟨p,⟨K1,hK1⟩,ws++m,r,by rw [e1,e2];simp,by rw [h2];simp,?_⟩
        have:=congrArg (fun z=>z.2.2.2) e'
        dsimp only at this
        rw [this,List.append_assoc]
      exact fail p' y _ (Int.natCast_nonneg _) hp' (vstep (false,⟨#[]⟩,[],s,p') (zX,false,s,p') (Ev.bind v2' (ev_neg Bool.false_ne_true (Ev.now _))) (ev_neg Bool.false_ne_true (Ev.now _))) dy
    · have hlp:Ev (fun k=>xml_co.lp k s (((pre++ws).length:Nat):Int) (d:Int) []) (true,[],s,(((pre++ws).length:Nat):Int)):=by
        rcases l1 with _|⟨c,t⟩
        · exact lp_text h1 (by simp) d []
        · by_cases g:c=60
          · subst g
            rcases t with _|⟨e,t⟩
            · exact absurd rfl hB
            · by_cases g2:e=47
              · subst g2
                exact lp_end h1 d []
              · refine absurd ⟨rfl,by simp,fun q=>g2 ?_⟩ hA
                exact(List.cons.inj (List.cons.inj q).2).1
          · exact lp_text h1 (by rw [List.head?_cons];exact fun q=>g (Option.some.inj q)) d []
      have hk0:¬ (0:Int)<((([]:List XN).length:Nat):Int):=by simp
      have hix:strings_IndexByte.f (s.extract ((pre.length:Int)).toNat s.size) 60=some (Lib.indexByte l 60):=by
        unfold strings_IndexByte.f stringslite_IndexByte.f
        rw [← ByteArray.toList_eq,ext_p h,Option.bind_some]
        rfl
      have hci:=cutL_index 60 l
      cases hcut:cutL 60 l1 with
      | none=>
        rw [hcut] at hto hcw
        rw [hcw] at hci
        have hci':Lib.indexByte l 60 = -1:=hci
        rw [hci'] at hix
        have hto':Ev (fun k=>rco.to k s (((pre++ws).length:Nat):Int) false) (s,(((pre++l).length:Nat):Int),false):=by
          have:=hto
          dsimp only at this
          rwa [List.append_assoc,← e1] at this
        obtain⟨y,dy⟩:=dbad l [] (by simp) hto' (by decide)
        exact fail _ y _ (Int.natCast_nonneg _) hW (vstep (false,⟨#[]⟩,[],s,(((pre++ws).length:Nat):Int)) (zX,false,s,(((pre++ws).length:Nat):Int)) (Ev.bind hlp (ev_pos rfl (ev_neg hk0 (ev_pos p1 (ev_pos p2 (ev_some hix (ev_pos (by decide) (Ev.now _)))))))) (ev_neg Bool.false_ne_true (Ev.now _))) dy
      | some qq=>
        obtain⟨a,u⟩:=qq
        rw [hcut] at hto hcw
        rw [hcw] at hci
        obtain⟨hi,ht⟩ : Lib.indexByte l 60=((ws++a).length:Int)∧l=(ws++a)++60 :: u:=hci
        rw [hi] at hix
        have hto':Ev (fun k=>rco.to k s (((pre++ws).length:Nat):Int) false) (s,(((pre++(ws++a)).length:Nat):Int),false):=by
          have:=hto
          dsimp only at this
          rwa [List.append_assoc] at this
        generalize ws++a=raw at hix ht hto' hi
        have htl:=congrArg List.length ht
        rw [List.length_append,List.length_cons] at htl
        have hp:wrap64 ((pre.length:Int)+(raw.length:Int))=(((pre++raw).length:Nat):Int):=by rw [w64 (by omega) (by omega),List.length_append];rfl
        have hex:s.extract ((pre.length:Int)).toNat ((((pre++raw).length:Nat):Int)).toNat=B raw:=by
          rw [Int.toNat_natCast,Int.toNat_natCast]
          refine(extract_of s _ _ raw ?_).trans rfl
          rw [h,ht,← List.append_assoc,List.take_left,List.drop_left]
        obtain⟨t,ok,u1,u2,u3⟩:=un_both raw (by omega)
        have q1:(pre.length:Int)≤wrap64 ((pre.length:Int)+(raw.length:Int)):=by rw [hp,List.length_append];omega
        have q2:wrap64 ((pre.length:Int)+(raw.length:Int))≤(s.size:Int):=by rw [hp,List.length_append];omega
        have q3:¬ (raw.length:Int)<0:=by omega
        have hv':Ev (fun k=>xml_Unescape.f k (s.extract ((pre.length:Int)).toNat (wrap64 ((pre.length:Int)+(raw.length:Int))).toNat)) (t,ok):=by rw [hp,hex];exact u1
        have hfull:s.toList=(pre++raw)++(60 :: u):=by rw [h,ht,List.append_assoc]
        have vt:∀ w,Ev (fun k=>(if ok=true then xml_el.out k (B nm) t [] s (((pre++raw).length:Nat):Int) else some (zX,false,s,(((pre++raw).length:Nat):Int)))) w→Ev (fun k=>(xml_co.f k s (pre.length:Int) (d:Int)).bind fun x=>(if x.1=true then xml_el.out k (B nm) x.2.1 x.2.2.1 x.2.2.2.1 x.2.2.2.2 else some (zX,false,x.2.2.2.1,x.2.2.2.2))) w:=by
          intro w hw
          refine vstep (ok,t,[],s,(((pre++raw).length:Nat):Int)) w ?_ hw
          rw [← hp]
          exact Ev.bind hlp (ev_pos rfl (ev_neg hk0 (ev_pos p1 (ev_pos p2 (ev_some hix (ev_neg q3 (ev_pos q1 (ev_pos q2 (Ev.bind hv' (Ev.now _))))))))))
        cases ok with
        | false=>exact fail _ (⟨B nm,t,[]⟩ : RN) _ (Int.natCast_nonneg _) ⟨raw,60 :: u,ht,hfull,rfl⟩ (vt _ (ev_neg Bool.false_ne_true (Ev.now _))) (dun raw (60 :: u) t false _ ht hto' u2 (Ev.congr (fun k=>rout_bad k _ _ _ _ _) (Ev.now _)))
        | true=>
          obtain⟨b',m',r',q',e3,h3,v3,hq',d3,hp'⟩:=out_both hs hfull nm hn t [] ([]:List RN)
          rw [List.append_assoc pre raw m'] at h3 v3 hp'
          refine⟨_,b',raw++m',r',_,q',by rw [ht,e3];simp,h3,vt _ (ev_pos rfl v3),hq',dun raw (60 :: u) t true _ ht hto' u2 d3,fun c=>⟨?_,hp' c,?_⟩⟩
          · rw [if_pos c,toN]
            rfl
          · have:=u3 rfl
            rw [if_pos c,nb_eq,B_size]
            show nm.length+t.size+0+16≤_
            simp only [List.length_append]
            omega
theorem beg_w (i:Nat) (h:i≤4000000):wrap64 (wrap64 (5+(i:Int))+2)=((5+i+2:Nat):Int):=by
  rw [w64 (n:=5+(i:Int)) (by omega) (by omega),w64 (by omega) (by omega)]
  omega
theorem el_both (s:ByteArray) (hs:s.size≤4000000) (N:Nat):ElBoth s N:=by
  induction N with
  | zero=>intro pre l d _ hl;exact absurd hl (Nat.not_lt_zero _)
  | succ N IH=>
    intro pre l d h hl hd
    have hle:=pre_le s pre l h
    have fail:∀ m r y q,l=m++r→s.toList=(pre++m)++r→Ev (fun k=>xml_el.f k s (pre.length:Int) (d:Int)) (zX,false,s,(((pre++m).length:Nat):Int))→0≤q→Ev (fun k=>rel.f k s (pre.length:Int) false (d:Int)) (y,s,q,true) →
        ∃ x b m r y q,l=m++r∧s.toList=(pre++m)++r∧Ev (fun k=>xml_el.f k s (pre.length:Int) (d:Int)) (x,b,s,(((pre++m).length:Nat):Int))∧0≤q∧Ev (fun k=>rel.f k s (pre.length:Int) false (d:Int)) (y,s,q,!b)∧(b=true→y=toN x∧q=(((pre++m).length:Nat):Int)∧m ≠ []∧nb x≤30*m.length):=
      fun m r y q e1 e2 e3 e4 e5=>⟨zX,false,m,r,y,q,e1,e2,e3,e4,e5,fun c=>by cases c⟩
    by_cases hd16:(d:Int)>16
    · refine fail [] l zR (pre.length:Int) rfl (by rw [List.append_nil];exact h) ?_ (Int.natCast_nonneg _) (Ev.step (f:=fun _=>some (zR,s,(pre.length:Int),true)) (fun k=>by rw [rel.f,if_pos hd16];rfl) (Ev.now _))
      rw [List.append_nil]
      exact Ev.step (f:=fun _=>some (zX,false,s,(pre.length:Int))) (fun k=>by rw [xml_el.f,if_pos hd16];rfl) (Ev.now _)
    have hdn:d≤16:=by omega
    rcases eat_both hs h false [60] with⟨l1,e1,h1,v1,d1⟩|⟨v1,d1,_⟩
    case inr=>
      refine fail [] l zR (pre.length:Int) rfl (by rw [List.append_nil];exact h) ?_ (Int.natCast_nonneg _) (rel_unf hd16 (ev_some d1 (ev_neg Bool.false_ne_true (Ev.now _))))
      rw [List.append_nil]
      exact el_unf hd16 (ev_some v1 (ev_neg Bool.false_ne_true (Ev.now _)))
    obtain⟨nm,l2,e2,h2,v2,dy,dn⟩:=nm_both hs h1 false
    have ll1:=congrArg List.length e1
    have ll2:=congrArg List.length e2
    rw [List.length_append] at ll1 ll2
    have hone:([60]:List UInt8).length=1:=rfl
    have n2:=isnm_tot nm (by omega)
    cases hnm:nmB nm with
    | false=>
      rw [hnm] at n2
      refine fail ([60]++nm) l2 (⟨B [],⟨#[]⟩,[]⟩ : RN) (((pre ++ [60]).length:Nat):Int) (by rw [e1,e2,List.append_assoc]) (by rw [h2,List.append_assoc pre]) ?_ (Int.natCast_nonneg _) (rel_unf hd16 (ev_some d1 (ev_pos rfl (Ev.bind (dn hnm) (ev_pos (B_toList []) (Ev.now _))))))
      rw [← List.append_assoc]
      exact el_unf hd16 (ev_some v1 (ev_pos rfl (Ev.bind v2 (Ev.bind n2 (ev_neg Bool.false_ne_true (Ev.now _))))))
    | true=>
      rw [hnm] at n2
      obtain⟨bb,m3,l3,e3,h3,v3,k1,k2⟩:=al_both s hs false (l2.length+1) _ l2 h2 (Nat.lt_succ_self _)
      have ll3:=congrArg List.length e3
      rw [List.length_append] at ll3
      have dgo:∀ a w,Ev (fun k=>rel.at_ k s (((((pre ++ [60])++nm).length:Nat)):Int) false) a→Ev (fun k=>(if a.1=0 then some ((⟨B nm,⟨#[]⟩,[]⟩ : RN),a.2.1,a.2.2.1,a.2.2.2) else(if a.1=1 then rco.f k (B nm) a.2.1 a.2.2.1 a.2.2.2 (d:Int) else some (⟨B nm,⟨#[]⟩,[]⟩,a.2.1,a.2.2.1,true)))) w→Ev (fun k=>rel.f k s (pre.length:Int) false (d:Int)) w:=
        fun a w ha hw=>rel_unf hd16 (ev_some d1 (ev_pos rfl (Ev.bind (dy hnm) (ev_neg (nm_ne hnm) (Ev.bind ha hw)))))
      cases bb with
      | false=>
        obtain⟨q,hq,dq⟩:=k1 rfl
        refine fail ([60]++(nm++m3)) l3 _ q (by rw [e1,e2,e3];simp) (by rw [h3];simp) (ev_eq (el_unf hd16 (ev_some v1 (ev_pos rfl (Ev.bind v2 (Ev.bind n2 (ev_pos rfl (Ev.bind v3 (ev_neg Bool.false_ne_true (Ev.now _))))))))) ?_) hq (dgo _ (⟨B nm,⟨#[]⟩,[]⟩,s,q,true) dq (ev_neg (show ¬ (2:Nat)=0 by decide) (ev_neg (show ¬ (2:Nat)=1 by decide) (Ev.now _))))
        simp only [List.append_assoc];rfl
      | true=>
        obtain⟨j1,j2,j3⟩:=k2 rfl
        rcases eat_both hs h3 false [47,62] with⟨l4,e4,h4,v4,_⟩|⟨v4,_,c4⟩
        · refine⟨(⟨B nm,⟨#[]⟩,[]⟩ : XN),true,[60]++(nm++(m3 ++ [47,62])),l4,_,_,by rw [e1,e2,e3,e4];simp,by rw [h4];simp,ev_eq (el_unf hd16 (ev_some v1 (ev_pos rfl (Ev.bind v2 (Ev.bind n2 (ev_pos rfl (Ev.bind v3 (ev_pos rfl (ev_some v4 (ev_pos rfl (Ev.now _))))))))))) ?_,Int.natCast_nonneg _,dgo _ (⟨B nm,⟨#[]⟩,[]⟩,s,(((((((pre ++ [60])++nm)++m3) ++ [47,62]).length:Nat)):Int),false) (j1 l4 e4) (ev_pos rfl (Ev.now _)),fun _=>⟨rfl,?_,by simp,?_⟩⟩
          · simp only [List.append_assoc]
          · simp only [List.append_assoc]
          · rw [nb,nbl,B_size]
            simp only [List.length_append,List.length_cons,List.length_nil]
            show nm.length+0+0+16≤_
            omega
        · rcases eat_both hs h3 false [62] with⟨l5,e5,h5,v5,_⟩|⟨v5,_,c5⟩
          · have ll5:=congrArg List.length e5
            rw [List.length_append] at ll5
            obtain⟨x,b,m6,l6,y,q,e6,h6,v6,hq,d6,hb⟩:=co_both s hs N IH d hdn nm hnm _ l5 h5 (by omega)
            have hass:((((pre ++ [60])++nm)++m3) ++ [62])++m6=pre++([60]++(nm++(m3++([62]++m6)))):=by simp
            rw [hass] at h6 v6 hb
            exact⟨x,b,[60]++(nm++(m3++([62]++m6))),l6,y,q,by rw [e1,e2,e3,e5,e6];simp,h6,el_unf hd16 (ev_some v1 (ev_pos rfl (Ev.bind v2 (Ev.bind n2 (ev_pos rfl (Ev.bind v3 (ev_pos rfl (ev_some v4 (ev_neg Bool.false_ne_true (ev_some v5 (ev_pos rfl v6))))))))))),hq,dgo _ _ (j2 l5 e5) (ev_neg (show ¬ (1:Nat)=0 by decide) (ev_pos rfl d6)),fun c=>⟨(hb c).1,(hb c).2.1,by simp,by have:=(hb c).2.2;simp only [List.length_append,List.length_cons,List.length_nil];omega⟩⟩
          · obtain⟨q,hq,dq⟩:=j3 c4 c5
            refine fail ([60]++(nm++m3)) l3 _ q (by rw [e1,e2,e3];simp) (by rw [h3];simp) (ev_eq (el_unf hd16 (ev_some v1 (ev_pos rfl (Ev.bind v2 (Ev.bind n2 (ev_pos rfl (Ev.bind v3 (ev_pos rfl (ev_some v4 (ev_neg Bool.false_ne_true (ev_some v5 (ev_neg Bool.false_ne_true (Ev.now _)))))))))))))  ?_) hq (dgo _ (⟨B nm,⟨#[]⟩,[]⟩,s,q,true) dq (ev_neg (show ¬ (2:Nat)=0 by decide) (ev_neg (show ¬ (2:Nat)=1 by decide) (Ev.now _))))
            simp only [List.append_assoc];rfl
theorem rpro_l0 (s:ByteArray) (hs:s.size≤4000000) (bd:Bool):∀ (t pre:List UInt8),s.toList=pre++t →
    (Lib.index t [63,62] = -1 ∧ ∃ q,Ev (fun k=>stowageref13_Reader_prolog.l0 k s (pre.length:Int) bd) (false,s,q,bd)) ∨ ∃ i:Nat,Lib.index t [63,62]=(i:Int)∧i+2≤t.length∧Ev (fun k=>stowageref13_Reader_prolog.l0 k s (pre.length:Int) bd) (true,s,((pre.length+i+2:Nat):Int),bd)
  | [],pre,h=>by
    have he:=pre_end s pre h
    have hw:wrap64 ((pre.length:Int)+1)=(pre.length:Int)+1:=w64 (by omega) (by omega)
    exact .inl ⟨by decide,(pre.length:Int),Ev.step (f:=fun _=>some (false,s,(pre.length:Int),bd)) (fun k=>by rw [stowageref13_Reader_prolog.l0,hw,if_neg (by omega)]) (Ev.now _)⟩
  | [c],pre,h=>by
    have hle:=pre_le s pre [c] h
    rw [List.length_singleton] at hle
    have hw:wrap64 ((pre.length:Int)+1)=(pre.length:Int)+1:=w64 (by omega) (by omega)
    refine .inl ⟨?_,(pre.length:Int),Ev.step (f:=fun _=>some (false,s,(pre.length:Int),bd)) (fun k=>by rw [stowageref13_Reader_prolog.l0,hw,if_neg (by omega)]) (Ev.now _)⟩
    rw [Lib.index,if_neg (by simp [List.isPrefixOf])]
    rfl
  | c :: e :: t,pre,h=>by
    have hle:=pre_le s pre _ h
    rw [List.length_cons,List.length_cons] at hle
    obtain⟨hb,hlt⟩:=bt_at_pre (h:=h)
    have hnx:=len_nx pre c s.size hlt hs
    have hln:((pre ++ [c]).length:Nat)=pre.length+1:=by simp
    obtain⟨hb2,hlt2⟩:=bt_at_pre (s:=s) (pre:=pre ++ [c]) (l:=t) (c:=e) (h:=by rw [h];simp)
    have hw2:wrap64 ((pre.length:Int)+2)=((pre.length+0+2:Nat):Int):=by rw [w64 (by omega) (by omega)];omega
    have ih:=rpro_l0 s hs bd (e :: t) (pre ++ [c]) (by rw [h];simp)
    have hc:(c.toNat:Int)=63↔c=63:=toNat_eq (c:=c) (d:=63)
    have he:(e.toNat:Int)=62↔e=62:=toNat_eq (c:=e) (d:=62)
    by_cases g:c=63∧e=62
    · obtain⟨rfl,rfl⟩:=g
      refine .inr ⟨0,by rw [Lib.index,if_pos (by simp [List.isPrefixOf])];rfl,by simp,Ev.step (f:=fun _=>some (true,s,((pre.length+0+2:Nat):Int),bd)) (fun k=>?_) (Ev.now _)⟩
      rw [stowageref13_Reader_prolog.l0,hnx,if_pos (by omega),if_pos (by omega),if_pos (by omega),hb,if_pos (by decide),if_pos (by omega),hb2,if_pos (by decide),hw2]
    · have step:∀ w,Ev (fun k=>stowageref13_Reader_prolog.l0 k s (((pre ++ [c]).length:Nat):Int) bd) w→Ev (fun k=>stowageref13_Reader_prolog.l0 k s (pre.length:Int) bd) w:=by
        intro w hw
        refine Ev.step (fun k=>?_) hw
        rw [stowageref13_Reader_prolog.l0,hnx,if_pos (by omega),if_pos (by omega),if_pos (by omega),hb]
        by_cases g1:c=63
        · rw [if_pos (hc.mpr g1),if_pos (by omega),hb2,if_neg (fun q=>g ⟨g1,he.mp q⟩)]
        · rw [if_neg (fun q=>g1 (hc.mp q))]
      have hno:([63,62]:List UInt8).isPrefixOf (c :: e :: t)=false:=by
        simp only [List.isPrefixOf,Bool.and_eq_false_iff,beq_eq_false_iff_ne]
        by_cases g1:c=63
        · exact .inr (.inl fun q=>g ⟨g1,q.symm⟩)
        · exact .inl fun q=>g1 q.symm
      have hix:Lib.index (c :: e :: t) [63,62]=if Lib.index (e :: t) [63,62] == -1 then -1 else Lib.index (e :: t) [63,62]+1:=by
        rw [Lib.index,if_neg (by rw [hno];exact Bool.false_ne_true)]
      rcases ih with⟨i1,q,i2⟩|⟨i,i1,i3,i2⟩
      · exact .inl ⟨by rw [hix,i1];rfl,q,step _ i2⟩
      · refine .inr ⟨i+1,?_,by rw [List.length_cons];omega,?_⟩
        · rw [hix,i1,if_neg (by rw [beq_iff_eq];omega)];rfl
        · refine ev_eq (step _ i2) ?_
          rw [hln,show pre.length+1+i+2=pre.length+(i+1)+2 by omega]
theorem begin_both (s:ByteArray) (hs:s.size≤65536) :
    (∃ pre l,s.toList=pre++l∧xml_reader_begin.f s 0=some (true,s,(pre.length:Int))∧Ev (fun k=>stowageref13_Reader_prolog.f k s 0 false) (true,s,(pre.length:Int),false)) ∨
    ((∃ p,xml_reader_begin.f s 0=some (false,s,p))∧((∃ q,Ev (fun k=>stowageref13_Reader_prolog.f k s 0 false) (false,s,q,false))∨(Ev (fun k=>stowageref13_Reader_prolog.f k s 0 false) (true,s,0,false)∧s.toList.take 2 = [60,63]))):=by
  have hsl:=length_toList s
  have jt:Ev (fun k=>stowageref13_Reader_prolog.j0 k true s 0 false) (true,s,0,false):=Ev.step (f:=fun _=>some (true,s,0,false)) (fun k=>by rw [stowageref13_Reader_prolog.j0,if_pos rfl]) (Ev.now _)
  have hbg:=bg_eq s [60,63,120,109,108]
  have hhp:=hp_eq s [60,63,120,109,108]
  by_cases hp:s.toList.take 5 = [60,63,120,109,108]
  · have h5:s.toList = [60,63,120,109,108]++s.toList.drop 5:=by
      have:=List.take_append_drop 5 s.toList
      rw [hp] at this
      exact this.symm
    have hl5:=congrArg List.length h5
    have hlen5:([60,63,120,109,108]:List UInt8).length=5:=rfl
    rw [List.length_append,hsl,hlen5] at hl5
    have hbt:(s.toList.take ([60,63,120,109,108]:List UInt8).length == [60,63,120,109,108])=true:=beq_iff_eq.mpr hp
    rw [hbt] at hbg hhp
    have t2:s.toList.take 2 = [60,63]:=by rw [h5];rfl
    have hix:strings_Index.f (s.extract 5 s.size) (⟨#[63,62]⟩ : ByteArray)=some (Lib.index (s.toList.drop 5) [63,62]):=by
      unfold strings_Index.f
      rw [if_pos (by rw [ByteArray.size_extract];omega),← ByteArray.toList_eq,ext_list]
    have q5:(5:Int)≤(s.size:Int):=by omega
    have vb:xml_reader_begin.f s 0=(if Lib.index (s.toList.drop 5) [63,62]<0 then some (false,s,0) else(if Lib.index (s.toList.drop 5) [63,62]>0 then(if 5<(s.size:Int) then((xml_white.f (bt s 5)).bind fun t=>(if t=true then some (true,s,wrap64 (wrap64 (5+Lib.index (s.toList.drop 5) [63,62])+2)) else(if(bt s 5)=63 then some (true,s,wrap64 (wrap64 (5+Lib.index (s.toList.drop 5) [63,62])+2)) else some (false,s,0)))) else none) else some (true,s,wrap64 (wrap64 (5+Lib.index (s.toList.drop 5) [63,62])+2)))):=by
      unfold xml_reader_begin.f
      rw [show(⟨#[60,63,120,109,108]⟩ : ByteArray)=B [60,63,120,109,108] from rfl,hhp,Option.bind_some,if_pos rfl,if_pos q5,hix,Option.bind_some]
    cases hd:s.toList.drop 5 with
    | nil=>
      rw [hd] at hl5 vb
      rw [List.length_nil] at hl5
      refine .inr ⟨⟨0,?_⟩,.inr ⟨?_,t2⟩⟩
      · rw [vb,if_pos (by decide)]
      · unfold stowageref13_Reader_prolog.f
        exact ev_some hbg (ev_pos rfl (ev_pos (by omega) jt))
    | cons c t=>
      rw [hd] at hl5 vb h5
      rw [List.length_cons] at hl5
      have hb5:bt s 5=(c.toNat:Int):=(bt_pre s [60,63,120,109,108] t c h5).1
      have n6:¬ (s.size:Int)<6:=by omega
      have l5:(5:Int)<(s.size:Int):=by omega
      have dpro:∀ w,Ev (fun k=>(if whB c=true then(stowageref13_Reader_prolog.j0 k false s 0 false) else(stowageref13_Reader_prolog.j0 k ((c.toNat:Int) != 63) s 0 false))) w→Ev (fun k=>stowageref13_Reader_prolog.f k s 0 false) w:=by
        intro w hw
        unfold stowageref13_Reader_prolog.f
        refine ev_some hbg (ev_pos rfl (ev_neg n6 (ev_pos l5 ?_)))
        rw [hb5]
        exact ev_some (wh_r c) hw
      rw [hb5,wh_a,Option.bind_some,if_pos l5] at vb
      have hc:(c.toNat:Int)=63↔c=63:=toNat_eq (c:=c) (d:=63)
      by_cases g:whB c=true∨c=63
      · have dl0:∀ w,Ev (fun k=>stowageref13_Reader_prolog.l0 k s 5 false) w→Ev (fun k=>stowageref13_Reader_prolog.f k s 0 false) w:=by
          intro w hw
          have hj:Ev (fun k=>stowageref13_Reader_prolog.j0 k false s 0 false) w:=Ev.step (fun k=>by rw [stowageref13_Reader_prolog.j0,if_neg Bool.false_ne_true]) hw
          refine dpro w ?_
          by_cases g1:whB c=true
          · exact ev_pos g1 hj
          · refine ev_neg g1 ?_
            have:((c.toNat:Int) != 63)=false:=by rw [bne_eq_false_iff_eq];exact hc.mpr (g.resolve_left g1)
            rw [this]
            exact hj
        rcases rpro_l0 s (by omega) false (c :: t) [60,63,120,109,108] h5 with⟨i1,q,i2⟩|⟨i,i1,i3,i2⟩
        · exact .inr ⟨⟨0,by rw [vb,i1,if_pos (by decide)]⟩,.inl ⟨q,dl0 _ i2⟩⟩
        · rw [hlen5] at i2
          rw [List.length_cons] at i3
          have hn:5+i+2≤s.toList.length:=by omega
          have hin:¬ (i:Int)<0:=Int.not_lt.mpr (Int.natCast_nonneg i)
          have hw:wrap64 (wrap64 (5+(i:Int))+2)=((5+i+2:Nat):Int):=beg_w i (by omega)
          have ev:xml_reader_begin.f s 0=some (true,s,((5+i+2:Nat):Int)):=by
            rw [vb,i1,if_neg hin,hw]
            by_cases hi0:(i:Int)>0
            · rw [if_pos hi0]
              by_cases g1:whB c=true
              · rw [if_pos g1]
              · rw [if_neg g1,if_pos (hc.mpr (g.resolve_left g1))]
            · rw [if_neg hi0]
          refine .inl ⟨s.toList.take (5+i+2),s.toList.drop (5+i+2),(List.take_append_drop _ _).symm,?_,?_⟩
          · rw [List.length_take,Nat.min_eq_left hn];exact ev
          · rw [List.length_take,Nat.min_eq_left hn];exact dl0 _ i2
      · have g1:¬ whB c=true:=fun q=>g (.inl q)
        have g2:¬ c=63:=fun q=>g (.inr q)
        have hne:((c.toNat:Int) != 63)=true:=by rw [bne_iff_ne];exact fun q=>g2 (hc.mp q)
        refine .inr ⟨⟨0,?_⟩,.inr ⟨dpro _ (ev_neg g1 (by rw [hne];exact jt)),t2⟩⟩
        rw [vb,if_neg g1,if_neg (fun q=>g2 (hc.mp q))]
        by_cases m1:Lib.index (c :: t) [63,62]<0
        · rw [if_pos m1]
        · rw [if_neg m1,if_pos]
          rw [Lib.index,if_neg (by simp only [List.isPrefixOf,Bool.and_eq_true,beq_iff_eq];exact fun q=>g2 q.1.symm)] at m1 ⊢
          split at m1
          · exact absurd (by decide) m1
          · rename_i hq
            rw [if_neg hq]
            have:=Lib.index_ge t [63,62]
            have hq':¬ Lib.index t [63,62] = -1:=by simpa using hq
            omega
  · have hbt:(s.toList.take ([60,63,120,109,108]:List UInt8).length == [60,63,120,109,108])=false:=beq_eq_false_iff_ne.mpr hp
    rw [hbt] at hbg hhp
    refine .inl ⟨[],s.toList,rfl,?_,?_⟩
    · unfold xml_reader_begin.f
      rw [show(⟨#[60,63,120,109,108]⟩ : ByteArray)=B [60,63,120,109,108] from rfl,hhp,Option.bind_some,if_neg Bool.false_ne_true]
      rfl
    · unfold stowageref13_Reader_prolog.f
      exact ev_some hbg (ev_neg Bool.false_ne_true jt)
theorem nb_zX:nb zX≤2000000:=by decide
theorem parse_both (s:ByteArray):∃ x e,Ev (fun k=>xml_Parse.f k s) (x.f0,x.f1,x.f2,e)∧Ev (fun k=>stowageref13_Parse.f k s) ((toN x).f0,(toN x).f1,(toN x).f2,e)∧nb x≤2000000:=by
  by_cases hz:(65536:Int)<(s.size:Int)
  · refine⟨zX,2,?_,?_,nb_zX⟩
    · unfold xml_Parse.f
      exact ev_pos hz (Ev.now _)
    · unfold stowageref13_Parse.f
      exact ev_pos hz (Ev.now _)
  have hs:s.size≤65536:=by omega
  have hsz:s.size≤4000000:=by omega
  have hlg:=legal_eq s (by omega)
  have hrl:=rlegal_ev s (by omega)
  have done:∀ x e,Ev (fun k=>xml_Parse.f k s) (x.f0,x.f1,x.f2,e)→Ev (fun k=>stowageref13_Parse.f k s) ((toN x).f0,(toN x).f1,(toN x).f2,e)→nb x≤2000000 → ∃ x e,Ev (fun k=>xml_Parse.f k s) (x.f0,x.f1,x.f2,e)∧Ev (fun k=>stowageref13_Parse.f k s) ((toN x).f0,(toN x).f1,(toN x).f2,e)∧nb x≤2000000:=
    fun x e a b c=>⟨x,e,a,b,c⟩
  cases hL:lO s.size s.toList with
  | false=>
    rw [hL] at hlg hrl
    refine done zX 130 ?_ ?_ nb_zX
    · unfold xml_Parse.f
      exact ev_neg hz (ev_some hlg (ev_neg Bool.false_ne_true (Ev.now _)))
    · unfold stowageref13_Parse.f
      exact ev_neg hz (Ev.bind hrl (ev_neg Bool.false_ne_true (Ev.now _)))
  | true=>
    rw [hL] at hlg hrl
    have dcore:∀ p w,Ev (fun k=>stowageref13_Reader_prolog.f k s 0 false) (true,s,p,false)→Ev (fun k=>(stowageref13_Reader_skip.f k s p false).bind fun a=>(rel.f k a.2.1 a.2.2.1 a.2.2.2 1).bind fun e=>(stowageref13_Reader_skip.f k e.2.1 e.2.2.1 e.2.2.2).bind fun z=>(if z.2.2.2=true then some ((⟨#[]⟩ : ByteArray),(⟨#[]⟩ : ByteArray),([]:List RN),(130:Int)) else(if z.2.2.1=(s.size:Int) then some (e.1.f0,e.1.f1,e.1.f2,0) else some (⟨#[]⟩,⟨#[]⟩,[],130)))) w→Ev (fun k=>stowageref13_Parse.f k s) w:=by
      intro p w a b
      unfold stowageref13_Parse.f
      exact ev_neg hz (Ev.bind hrl (ev_pos rfl (Ev.bind a (ev_pos rfl b))))
    rcases begin_both s hs with⟨pre,l,h,vb,db⟩|⟨⟨p,vb⟩,db⟩
    · have vcore:∀ w,Ev (fun k=>(xml_reader_space.f k s (pre.length:Int)).bind fun a=>(xml_el.f k a.2.1 a.2.2 1).bind fun e=>(xml_reader_space.f k e.2.2.1 e.2.2.2).bind fun z=>(if e.2.1=true then(if z.2.2=(s.size:Int) then some (e.1.f0,e.1.f1,e.1.f2,0) else some (⟨#[]⟩,⟨#[]⟩,[],130)) else some (⟨#[]⟩,⟨#[]⟩,[],130))) w→Ev (fun k=>xml_Parse.f k s) w:=by
        intro w hw
        unfold xml_Parse.f
        exact ev_neg hz (ev_some hlg (ev_pos rfl (ev_some vb (ev_pos rfl hw))))
      obtain⟨ws,l1,e1,_,_,h1,v1,d1⟩:=sp_both hsz h false
      obtain⟨x,b,m,r,y,q,e2,h2,v2,hq,d2,hb⟩:=el_both s hsz (l1.length+1) (pre++ws) l1 1 h1 (Nat.lt_succ_self _) (by decide)
      obtain⟨w3,l3,e3,_,_,h3,v3,d3⟩:=sp_both hsz h2 false
      cases b with
      | false=>
        obtain⟨n',q',hq',hsk⟩:=rsk_any s hsz q hq true
        exact done zX 130 (vcore _ (Ev.bind v1 (Ev.bind v2 (Ev.bind v3 (ev_neg Bool.false_ne_true (Ev.now _)))))) (dcore _ _ db (Ev.bind d1 (Ev.bind d2 (Ev.bind hsk (ev_pos rfl (Ev.now _)))))) nb_zX
      | true=>
        obtain⟨rfl,rfl,_,hnb⟩:=hb rfl
        have hle:=pre_le s (pre++ws) l1 h1
        have ll2:=congrArg List.length e2
        rw [List.length_append] at ll2
        by_cases he:(((((pre++ws)++m)++w3).length:Nat):Int)=(s.size:Int)
        · exact done x 0 (vcore _ (Ev.bind v1 (Ev.bind v2 (Ev.bind v3 (ev_pos rfl (ev_pos he (Ev.now _))))))) (dcore _ _ db (Ev.bind d1 (Ev.bind d2 (Ev.bind d3 (ev_neg Bool.false_ne_true (ev_pos he (Ev.now _))))))) (by omega)
        · exact done zX 130 (vcore _ (Ev.bind v1 (Ev.bind v2 (Ev.bind v3 (ev_pos rfl (ev_neg he (Ev.now _))))))) (dcore _ _ db (Ev.bind d1 (Ev.bind d2 (Ev.bind d3 (ev_neg Bool.false_ne_true (ev_neg he (Ev.now _))))))) nb_zX
    · refine done zX 130 ?_ ?_ nb_zX
      · unfold xml_Parse.f
        exact ev_neg hz (ev_some hlg (ev_pos rfl (ev_some vb (ev_neg Bool.false_ne_true (Ev.now _)))))
      · rcases db with⟨q,db⟩|⟨db,t2⟩
        · unfold stowageref13_Parse.f
          exact ev_neg hz (Ev.bind hrl (ev_pos rfl (Ev.bind db (ev_neg Bool.false_ne_true (Ev.now _)))))
        · have e2:s.toList = [60,63]++s.toList.drop 2:=by
            have:=List.take_append_drop 2 s.toList
            rw [t2] at this
            exact this.symm
          have d1:=rsp_l0 s hsz false [] 0 [] s.toList rfl rfl (by rw [e2];intro c hc;cases hc;decide) (Nat.zero_le _)
          have d2:=reat_yes (s:=s) hsz (pre:=[]) (p:=[60]) (l:=63 :: s.toList.drop 2) e2 false
          have d3:=rnm_no s hsz false [60] (63 :: s.toList.drop 2) e2 (by intro c hc;cases hc;decide)
          have d4:Ev (fun k=>rel.f k s 0 false 1) (⟨B [],⟨#[]⟩,[]⟩,s,(1:Int),true):=rel_unf (by decide) (ev_some d2 (ev_pos rfl (Ev.bind d3 (ev_pos (B_toList []) (Ev.now _)))))
          obtain⟨n',q',hq',hsk⟩:=rsk_any s hsz 1 (by decide) true
          exact dcore 0 _ db (Ev.bind d1 (Ev.bind d4 (Ev.bind hsk (ev_pos rfl (Ev.now _)))))
theorem awake_60:stowagelaw13_awake.f 60=some true:=by decide +kernel
theorem awb:Ev (fun k=>(stowagelaw13_awake.f k).bind fun t=>some t) true:=Ev.bind (Ev.of (fun k=>stowagelaw13_awake.mono k) awake_60) (Ev.now _)
theorem XmlParses:stowagelaw13_XmlParses.Pure:=by
  intro s _
  apply Ev.rounds
  simp only [stowagelaw13_XmlParses.f]
  obtain⟨x,e,h1,h2,hb⟩:=parse_both s
  exact Ev.bind h1 (Ev.bind h2 (Ev.bind (to_ev 1000000000 (by omega) x (by omega)) (Ev.bind (same_ev 1000000000 (by omega) x (by omega)) (ev_pos rfl (ev_pos rfl awb)))))
end Go.Proofs.YtklcgncaclggcaaDoor.Pure
