/- A part of the proof of the seat's laws. No condition beyond those in the theorems. -/
import Derived.Test.YtklcgncaclggcaaDoorRows
import Derived.Test.YtklcgncaclggcaaDoorZBase
import Derived.Shelf.Vars
import Derived.RowKit
import Derived.LaidLaws
import Derived.Stop.Joined
import Derived.Test.YtklcgncaclggcaaDoorV1
import Derived.Laws.Strings
import Derived.Lib.Bytealg
import Derived.Test.YtklcgncaclggcaaDoorZRepS
import Derived.Lib.DecodeN
import Derived.Laws.Bits128
import Derived.Test.YtklcgncaclggcaaDoorZQ98

namespace Go.Proofs.YtklcgncaclggcaaDoor.Q
open Go.ChangeShapes Go.WideShapes Go.RowKit
abbrev laidList : List (String × DataW Unit) := [("unicode/utf8.acceptRanges", Rows.laid_unicode_utf8_acceptRanges), ("unicode/utf8.first", Rows.laid_unicode_utf8_first)]
noncomputable def laidWorld (os:Os):World:=
  let w0:=World.holding Tryd.prog os ⟨#[],#[],[]⟩
  { w0 with heap:=(w0.heap.modify 1 fun
      | .cells _ t frozen=>.cells (Go.Pinned.utf8FirstZ.map fun (n:Nat)=>Value.int .u8 (n:Int)).toArray t frozen
      | o=>o).modify 2 fun
      | .cells _ t frozen=>.cells (([128,191,160,191,128,159,144,191,128,143]++List.replicate 22 0:List Nat).map fun (n:Nat)=>Value.int .u8 (n:Int)).toArray t frozen
      | o=>o}
theorem laid_met0 (os:Os) (args:Array Value):laidMet Tryd.prog laidList ((laidWorld os).forCall (fun _ _=>0) ⟨#[],args,[]⟩).memory:=
  laidMet_of_run' 8 (by kernel_rfl) (by kernel_rfl)
theorem laid_met (os:Os) (args:Array Value):laidMetH Tryd.prog laidList ((laidWorld os).forCall (fun _ _=>0) ⟨#[],args,[]⟩).memory:=laid_met0 os args
theorem gok_laid {W:World} (_:laidMetH Tryd.prog laidList W) (h:W.ShapedOpen Tryd.prog):GOk W:=
  Go.Proofs.cell_of_shapedOpen_int (zero:=#[.int .i64 0]) (t:=3) h (of_decide_eq_true (by kernel_rfl)) (by kernel_rfl) rfl (by kernel_rfl) (by kernel_rfl) Tryd.underlying3
end Go.Proofs.YtklcgncaclggcaaDoor.Q


namespace Go.Proofs.YtklcgncaclggcaaDoor.Pure
open Go.RowKit Go.Proofs.YtklcgncaclggcaaDoorW.PrintWords
set_option linter.unusedVariables false
set_option linter.unusedSimpArgs false
theorem ev_pos {α:Type} {c:Prop} [Decidable c] {f g:Nat→Option α} {r:α} (hc:c) (h:Ev f r):Ev (fun k=>if c then f k else g k) r:=
  Ev.congr (fun _=>if_pos hc) h
theorem ev_neg {α:Type} {c:Prop} [Decidable c] {f g:Nat→Option α} {r:α} (hc:¬ c) (h:Ev g r):Ev (fun k=>if c then f k else g k) r:=
  Ev.congr (fun _=>if_neg hc) h
theorem ev_eq {α:Type} {g:Nat→Option α} {r r':α} (h:Ev g r) (e:r=r'):Ev g r':=e▸h
theorem ev_some {α β:Type} {o:Option α} {a:α} {f:Nat→α→Option β} {r:β} (h:o=some a) (k:Ev (fun n=>f n a) r):Ev (fun n=>o.bind (f n)) r:=by subst h;exact k
theorem w64 {n:Int} (h:-9000000000000000000≤n) (h':n≤9000000000000000000):wrap64 n=n:=by unfold wrap64;omega
theorem wf_bd {a:Int} (h:(Lit.int .i64 a).wf=true):-9223372036854775808≤a∧a≤9223372036854775807:=by
  simp [Lit.wf] at h
  have e1:IntKind.i64.min = -9223372036854775808:=by kernel_rfl
  have e2:IntKind.i64.max=9223372036854775807:=by kernel_rfl
  omega
theorem toList_inj {a b:ByteArray} (h:a.toList=b.toList):a=b:=by
  rw [ByteArray.toList_eq,ByteArray.toList_eq] at h
  exact ByteArray.ext (Array.toList_inj.mp h)
theorem toList_extract (a:ByteArray) (i j:Nat):(a.extract i j).toList=(a.toList.take j).drop i:=by
  rw [ByteArray.toList_eq,ByteArray.toList_eq,ByteArray.data_extract,Array.toList_extract,List.extract_eq_take_drop,List.drop_take]
theorem toList_append (a b:ByteArray):(a++b).toList=a.toList++b.toList:=by
  rw [ByteArray.toList_eq,ByteArray.toList_eq,ByteArray.toList_eq,ByteArray.data_append,Array.toList_append]
theorem length_toList (a:ByteArray):a.toList.length=a.size:=by rw [ByteArray.toList_eq,Array.length_toList];rfl
theorem bt_get (s:ByteArray) (i:Nat) (h:i<s.toList.length):bt s i=(s.toList[i].toNat:Int):=by
  unfold bt
  rw [dif_pos (show((i:Nat):Int).toNat<s.size by rw [length_toList] at h;omega)]
  congr 1
  simp only [Int.toNat_natCast]
  have e:s.toList=s.data.toList:=ByteArray.toList_eq s
  simp only [e,Array.getElem_toList]
  rfl
theorem bt_drop (s:ByteArray) (i:Nat) (c:UInt8) (l:List UInt8) (h:s.toList.drop i=c :: l):bt s i=(c.toNat:Int)∧i<s.size:=by
  have hi:i<s.toList.length:=by
    have:=congrArg List.length h
    rw [List.length_drop,List.length_cons] at this
    omega
  refine⟨?_,by rw [← length_toList];exact hi⟩
  rw [bt_get s i hi]
  rw [List.drop_eq_getElem_cons hi] at h
  rw [(List.cons.inj h).1]
def B (l:List UInt8):ByteArray:=⟨l.toArray⟩
theorem B_toList (l:List UInt8):(B l).toList=l:=by rw [ByteArray.toList_eq];rfl
theorem of_B (s:ByteArray):B s.toList=s:=toList_inj (B_toList _)
theorem B_size (l:List UInt8):(B l).size=l.length:=by rw [← length_toList,B_toList]
theorem B_extract (l:List UInt8) (i j:Nat):(B l).extract i j=B ((l.take j).drop i):=by
  apply toList_inj
  rw [toList_extract,B_toList,B_toList]
theorem B_append (a b:List UInt8):B a++B b=B (a++b):=by
  apply toList_inj
  rw [toList_append,B_toList,B_toList,B_toList]
theorem B_inj {a b:List UInt8} (h:B a=B b):a=b:=by
  have:=congrArg ByteArray.toList h
  rwa [B_toList,B_toList] at this
theorem bt_B (l:List UInt8) (i:Nat) (c:UInt8) (h:l[i]? = some c):bt (B l) (i:Int)=(c.toNat:Int):=by
  obtain⟨hi,e⟩:=List.getElem?_eq_some_iff.mp h
  have hi':i<(B l).toList.length:=by rw [B_toList];exact hi
  rw [bt_get _ i hi']
  simp only [B_toList,e]
theorem toNat_eq {c d:UInt8}:(c.toNat:Int)=(d.toNat:Int)↔c=d:=by
  constructor
  · intro h;exact UInt8.toNat_inj.mp (Int.ofNat_inj.mp h)
  · intro h;rw [h]
open Go.RowKit Go.Proofs.YtklcgncaclggcaaDoor.Q Go.Proofs.YtklcgncaclggcaaDoorW.PrintWords Go.Proofs.YtklcgncaclggcaaDoorW.PrintLast
theorem bt_pre (s:ByteArray) (pre l:List UInt8) (c:UInt8) (h:s.toList=pre++c :: l):bt s (pre.length:Int)=(c.toNat:Int)∧pre.length<s.size:=by
  apply bt_drop s pre.length c l
  rw [h,List.drop_left']
  rfl
theorem pre_end (s:ByteArray) (pre:List UInt8) (h:s.toList=pre ++ []):s.size=pre.length:=by rw [← length_toList,h,List.append_nil]
theorem pre_le (s:ByteArray) (pre l:List UInt8) (h:s.toList=pre++l):pre.length+l.length=s.size:=by rw [← length_toList,h,List.length_append]
theorem pre_next (pre:List UInt8) (c:UInt8) (n:Nat) (h:pre.length<n) (hn:n≤9000000000000000000):wrap64 ((pre.length:Int)+1)=((pre ++ [c]).length:Int):=by
  rw [w64 (by omega) (by omega),List.length_append]
  simp
theorem pre_app (s:ByteArray) (pre l:List UInt8) (c:UInt8) (h:s.toList=pre++c :: l):s.toList=(pre ++ [c])++l:=by rw [h];simp
def tailL:List UInt8→Nat→Nat→Option Nat
  | _,0,v=>some v
  | [],_+1,_=>none
  | b :: l,j+1,v=>if 128≤b.toNat∧b.toNat<192 then tailL l j (64*v+(b.toNat-128)) else none
def finL (v m n:Nat):Nat×Nat:=if v<m∨1114111<v∨(55296≤v∧v<57344) then(0,0) else(v,n)
def seqL (l:List UInt8) (j v m:Nat):Nat×Nat:=match tailL l j v with|none=>(0,0)|some v=>finL v m (j+1)
def stL:List UInt8→Nat×Nat
  | []=>(0,0)
  | b :: l=>if b.toNat<128 then(b.toNat,1) else if b.toNat<192 then(0,0) else if b.toNat<224 then seqL l 1 (b.toNat-192) 128 else if b.toNat<240 then seqL l 2 (b.toNat-224) 2048 else if b.toNat<248 then seqL l 3 (b.toNat-240) 65536 else(0,0)
theorem tailL_short (l:List UInt8):∀ j v,l.length<j→tailL l j v=none:=by
  induction l with
  | nil=>intro j v h;cases j with|zero=>simp at h|succ j=>rfl
  | cons b l ih=>
    intro j v h
    cases j with
    | zero=>simp at h
    | succ j=>
      rw [tailL]
      split
      · exact ih j _ (by simpa using h)
      · rfl
theorem tailL_more (l m:List UInt8):∀ j v r,tailL l j v=some r→tailL (l++m) j v=some r:=by
  induction l with
  | nil=>
    intro j v r h
    cases j with
    | zero=>simpa [tailL] using h
    | succ j=>simp [tailL] at h
  | cons b l ih=>
    intro j v r h
    cases j with
    | zero=>simpa [tailL] using h
    | succ j=>
      rw [tailL] at h
      rw [List.cons_append,tailL]
      split at h
      · rename_i c;rw [if_pos c];exact ih j _ r h
      · exact absurd h (by simp)
theorem tailL_len (l:List UInt8) (j v r:Nat) (h:tailL l j v=some r):j≤l.length:=by
  by_cases c:l.length<j
  · rw [tailL_short l j v c] at h;exact absurd h (by simp)
  · omega
theorem finL_cases (v m n:Nat):finL v m n=(0,0)∨finL v m n=(v,n):=by
  unfold finL;split
  · exact .inl rfl
  · exact .inr rfl
theorem seqL_cases (l:List UInt8) (j v m:Nat):seqL l j v m=(0,0) ∨ ∃ r,tailL l j v=some r∧seqL l j v m=(r,j+1):=by
  unfold seqL
  cases h:tailL l j v with
  | none=>exact .inl rfl
  | some r=>
    rcases finL_cases r m (j+1) with e|e
    · exact .inl e
    · exact .inr ⟨r,rfl,e⟩
theorem seqL_more (l t:List UInt8) (j v m:Nat) (h:(seqL l j v m).2≠0):seqL (l++t) j v m=seqL l j v m:=by
  unfold seqL at h ⊢
  cases e:tailL l j v with
  | none=>rw [e] at h;simp at h
  | some r=>rw [tailL_more l t j v r e]
theorem seqL_wid (l:List UInt8) (j v m:Nat):(seqL l j v m).2≤l.length+1:=by
  rcases seqL_cases l j v m with e|⟨r,hr,e⟩
  · rw [e];simp
  · rw [e];have:=tailL_len l j v r hr;simp;omega
theorem stL_more (l t:List UInt8) (h:(stL l).2≠0):stL (l++t)=stL l:=by
  cases l with
  | nil=>simp [stL] at h
  | cons b l=>
    rw [stL] at h
    rw [List.cons_append,stL,stL]
    split
    · rfl
    · rename_i c1
      rw [if_neg c1] at h
      split
      · rfl
      · rename_i c2
        rw [if_neg c2] at h
        split
        · rename_i c3;rw [if_pos c3] at h;exact seqL_more l t _ _ _ h
        · rename_i c3
          rw [if_neg c3] at h
          split
          · rename_i c4;rw [if_pos c4] at h;exact seqL_more l t _ _ _ h
          · rename_i c4
            rw [if_neg c4] at h
            split
            · rename_i c5;rw [if_pos c5] at h;exact seqL_more l t _ _ _ h
            · rfl
theorem stL_wid (b:UInt8) (l:List UInt8):(stL (b :: l)).2≤l.length+1:=by
  rw [stL]
  (repeat' split) <;> first|exact seqL_wid _ _ _ _|simp
def dL (l:List UInt8):Nat×Nat:=Lib.decodeN l.length (l.getD 0 0).toNat (l.getD 1 0).toNat (l.getD 2 0).toNat (l.getD 3 0).toNat
def Same (a d:Nat×Nat):Prop:=(a.2=0∧d=(65533,1))∨(a.2≠0∧d=a∧¬ d=(65533,1))
theorem finL_same (v m n:Nat) (P:Prop) [Decidable P] (hm:128≤m) (hn:2≤n) (hP:P↔¬ (v<m∨1114111<v∨(55296≤v∧v<57344))):Same (finL v m n) (if P then(v,n) else(65533,1)):=by
  unfold finL Same
  by_cases c:v<m∨1114111<v∨(55296≤v∧v<57344)
  · rw [if_pos c,if_neg (by rw [hP];exact fun h=>h c)];exact .inl ⟨rfl,rfl⟩
  · rw [if_neg c,if_pos (hP.mpr c)]
    refine .inr ⟨by simp only;omega,rfl,?_⟩
    intro e
    have:=congrArg Prod.snd e
    simp only at this
    omega
theorem nil_same:Same (0,0) (65533,1):=.inl ⟨rfl,rfl⟩
theorem dec2 (b:UInt8) (l:List UInt8) (h1:192≤b.toNat) (h2:b.toNat<224):Same (seqL l 1 (b.toNat-192) 128) (dL (b :: l)):=by
  unfold dL Lib.decodeN seqL
  rw [List.getD_cons_zero,if_neg (by omega)]
  cases l with
  | nil=>
    rw [if_neg (by simp),if_neg (by omega),if_neg (by omega)]
    exact nil_same
  | cons c l=>
    have hc:=c.toNat_lt
    have e1:((b :: c :: l).getD 1 0).toNat=c.toNat:=by simp
    rw [e1,tailL]
    by_cases g:128≤c.toNat∧c.toNat<192
    · have ht:∀ v,tailL l 0 v=some v:=fun v=>by cases l <;> rfl
      rw [if_pos g,ht,if_pos ⟨by omega,by simp,by omega⟩]
      have ev:b.toNat % 32*64+c.toNat % 64=64*(b.toNat-192)+(c.toNat-128):=by omega
      rw [ev]
      exact finL_same _ _ _ _ (by omega) (by omega) (by omega)
    · rw [if_neg g,if_neg (by intro h;omega),if_neg (by omega),if_neg (by omega)]
      exact nil_same
theorem dec3 (b:UInt8) (l:List UInt8) (h1:224≤b.toNat) (h2:b.toNat<240):Same (seqL l 2 (b.toNat-224) 2048) (dL (b :: l)):=by
  unfold dL Lib.decodeN seqL
  rw [List.getD_cons_zero,if_neg (by omega),if_neg (by omega)]
  match l with
  | []=>
    rw [if_neg (by simp),if_neg (by omega)]
    exact nil_same
  | [c]=>
    have e:tailL [c] 2 (b.toNat-224)=none:=tailL_short _ _ _ (by simp)
    rw [e,if_neg (by simp),if_neg (by omega)]
    exact nil_same
  | c :: d :: l=>
    have hc:=c.toNat_lt
    have hd:=d.toNat_lt
    have e1:((b :: c :: d :: l).getD 1 0).toNat=c.toNat:=by simp
    have e2:((b :: c :: d :: l).getD 2 0).toNat=d.toNat:=by simp
    rw [e1,e2,tailL]
    by_cases g:128≤c.toNat∧c.toNat<192
    · rw [if_pos g,tailL]
      by_cases g2:128≤d.toNat∧d.toNat<192
      · have ht:∀ v,tailL l 0 v=some v:=fun v=>by cases l <;> rfl
        rw [if_pos g2,ht,if_pos ⟨by omega,⟨by simp,by omega⟩,⟨by simp,by omega⟩⟩]
        have ev:b.toNat % 16*4096+c.toNat % 64*64+d.toNat % 64=64*(64*(b.toNat-224)+(c.toNat-128))+(d.toNat-128):=by omega
        rw [ev]
        exact finL_same _ _ _ _ (by omega) (by omega) (by omega)
      · rw [if_neg g2,if_neg (by intro h;omega),if_neg (by omega)]
        exact nil_same
    · rw [if_neg g,if_neg (by intro h;omega),if_neg (by omega)]
      exact nil_same
theorem dec4 (b:UInt8) (l:List UInt8) (h1:240≤b.toNat) (h2:b.toNat<248):Same (seqL l 3 (b.toNat-240) 65536) (dL (b :: l)):=by
  unfold dL Lib.decodeN seqL
  rw [List.getD_cons_zero,if_neg (by omega),if_neg (by omega),if_neg (by omega)]
  match l with
  | []=>
    rw [if_neg (by simp)]
    exact nil_same
  | [c]=>
    have e:tailL [c] 3 (b.toNat-240)=none:=tailL_short _ _ _ (by simp)
    rw [e,if_neg (by simp)]
    exact nil_same
  | [c,d]=>
    have e:tailL [c,d] 3 (b.toNat-240)=none:=tailL_short _ _ _ (by simp)
    rw [e,if_neg (by simp)]
    exact nil_same
  | c :: d :: x :: l=>
    have hc:=c.toNat_lt
    have hd:=d.toNat_lt
    have hx:=x.toNat_lt
    have e1:((b :: c :: d :: x :: l).getD 1 0).toNat=c.toNat:=by simp
    have e2:((b :: c :: d :: x :: l).getD 2 0).toNat=d.toNat:=by simp
    have e3:((b :: c :: d :: x :: l).getD 3 0).toNat=x.toNat:=by simp
    rw [e1,e2,e3,tailL]
    by_cases g:128≤c.toNat∧c.toNat<192
    · rw [if_pos g,tailL]
      by_cases g2:128≤d.toNat∧d.toNat<192
      · rw [if_pos g2,tailL]
        by_cases g3:128≤x.toNat∧x.toNat<192
        · have ht:∀ v,tailL l 0 v=some v:=fun v=>by cases l <;> rfl
          rw [if_pos g3,ht,if_pos ⟨by omega,⟨by simp,by omega⟩,⟨by simp,by omega⟩,⟨by simp,by omega⟩⟩]
          have ev:b.toNat % 8*262144+c.toNat % 64*4096+d.toNat % 64*64+x.toNat % 64=64*(64*(64*(b.toNat-240)+(c.toNat-128))+(d.toNat-128))+(x.toNat-128):=by omega
          rw [ev]
          exact finL_same _ _ _ _ (by omega) (by omega) (by omega)
        · rw [if_neg g3,if_neg (by intro h;omega)]
          exact nil_same
      · rw [if_neg g2,if_neg (by intro h;omega)]
        exact nil_same
    · rw [if_neg g,if_neg (by intro h;omega)]
      exact nil_same
theorem dec_same (b:UInt8) (l:List UInt8):Same (stL (b :: l)) (dL (b :: l)):=by
  have hb:=b.toNat_lt
  rw [stL]
  by_cases c1:b.toNat<128
  · rw [if_pos c1]
    unfold dL Lib.decodeN
    rw [List.getD_cons_zero,if_pos c1]
    refine .inr ⟨by simp,rfl,?_⟩
    intro e
    have:=congrArg Prod.fst e
    simp only at this
    omega
  · rw [if_neg c1]
    by_cases c2:b.toNat<192
    · rw [if_pos c2]
      unfold dL Lib.decodeN
      rw [List.getD_cons_zero,if_neg c1,if_neg (by omega),if_neg (by omega),if_neg (by omega)]
      exact nil_same
    · rw [if_neg c2]
      by_cases c3:b.toNat<224
      · rw [if_pos c3];exact dec2 b l (by omega) c3
      · rw [if_neg c3]
        by_cases c4:b.toNat<240
        · rw [if_pos c4];exact dec3 b l (by omega) c4
        · rw [if_neg c4]
          by_cases c5:b.toNat<248
          · rw [if_pos c5];exact dec4 b l (by omega) c5
          · rw [if_neg c5]
            unfold dL Lib.decodeN
            rw [List.getD_cons_zero,if_neg c1,if_neg (by omega),if_neg (by omega),if_neg (by omega)]
            exact nil_same
theorem get_list (s:ByteArray) (i:Nat):s.get! i=s.toList.getD i 0:=by
  rw [ByteArray.toList_eq]
  show s.data[i]! = _
  rw [List.getD_eq_getElem?_getD,Array.getElem!_eq_getD,Array.getD_eq_getD_getElem?,Array.getElem?_toList]
  rfl
theorem dec_at (s:ByteArray) (pos:Nat):Utf8.decode s pos=dL (s.toList.drop pos):=by
  rw [Lib.decode_at,get_list,get_list,get_list,get_list]
  unfold dL
  rw [List.length_drop,length_toList]
  have hd:∀ i,(s.toList.drop pos).getD i 0=s.toList.getD (pos+i) 0:=by
    intro i
    rw [List.getD_eq_getElem?_getD,List.getD_eq_getElem?_getD,List.getElem?_drop]
  rw [hd,hd,hd,hd]
  rfl
def cO:Nat→List UInt8→Option Nat
  | 0,_=>some 0
  | _+1,[]=>some 0
  | k+1,c :: l=>if(stL (c :: l)).2=0 then none else(cO k ((c :: l).drop (stL (c :: l)).2)).map (· + 1)
def cR (n:Nat):Option Nat→Int×Bool
  | none=>(0,false)
  | some m=>(((n+m:Nat):Int),true)
def lO:Nat→List UInt8→Bool
  | 0,_=>true
  | _+1,[]=>true
  | k+1,c :: l=>if(stL (c :: l)).2=0 then false else(chars_Legal.ok (stL (c :: l)).1 && lO k ((c :: l).drop (stL (c :: l)).2))
theorem st_wid (l:List UInt8):(stL l).2≤l.length:=by
  cases l with
  | nil=>simp [stL]
  | cons b l=>exact stL_wid b l
theorem lO_fuel (k:Nat):∀ k' l,l.length≤k→l.length≤k'→lO k l=lO k' l:=by
  induction k with
  | zero=>
    intro k' l h h'
    cases l with
    | nil=>cases k' <;> rfl
    | cons c l=>simp at h
  | succ k ih=>
    intro k' l h h'
    cases l with
    | nil=>cases k' <;> rfl
    | cons c l=>
      cases k' with
      | zero=>simp at h'
      | succ k'=>
        rw [lO,lO]
        by_cases g:(stL (c :: l)).2=0
        · rw [if_pos g,if_pos g]
        · rw [if_neg g,if_neg g,ih k']
          · rw [List.length_drop];simp only [List.length_cons] at h ⊢;omega
          · rw [List.length_drop];simp only [List.length_cons] at h' ⊢;omega
theorem own_at (s:ByteArray) (pos:Nat) (h:pos<s.size):((Utf8.decode s pos).1=65533∧chars_Count.own s pos=false)↔(stL (s.toList.drop pos)).2=0:=by
  have hlen:(s.toList.drop pos).length=s.size-pos:=by rw [List.length_drop,length_toList]
  have hown:chars_Count.own s pos=(decide (3≤(s.toList.drop pos).length) && ((s.toList.drop pos).take 3 == [239,191,189])):=by
    unfold chars_Count.own
    rw [hlen,toList_extract,toList_extract,List.take_of_length_le (l:=s.toList) (by rw [length_toList];omega),List.drop_zero]
  rw [dec_at,hown]
  cases hl:s.toList.drop pos with
  | nil=>rw [hl] at hlen;simp at hlen;omega
  | cons c l=>
    rcases dec_same c l with⟨e,d⟩|⟨e,d,dn⟩
    · rw [d,e]
      refine⟨fun _=>rfl,fun _=>⟨rfl,?_⟩⟩
      rw [Bool.and_eq_false_iff]
      by_cases g:(List.take 3 (c :: l) == [239,191,189])=true
      · exfalso
        have g':List.take 3 (c :: l) = [239,191,189]:=by simpa using g
        have:∃ t,c :: l = [239,191,189]++t:=⟨(c :: l).drop 3,by rw [← g',List.take_append_drop]⟩
        obtain⟨t,ht⟩:=this
        rw [ht] at e
        have h3:(stL [239,191,189]).2=3:=by decide
        rw [stL_more _ t (by rw [h3];decide),h3] at e
        exact absurd e (by decide)
      · right;simpa using g
    · rw [d]
      refine⟨fun ⟨h1,h2⟩=>?_,fun h0=>absurd h0 e⟩
      exfalso
      have hcases:=dn
      have key:c.toNat=239 ∧ ∃ x y t,l=x :: y :: t∧x.toNat=191∧y.toNat=189:=by
        have hc:=c.toNat_lt
        rw [stL] at h1 e
        by_cases c1:c.toNat<128
        · rw [if_pos c1] at h1;simp at h1;omega
        · rw [if_neg c1] at h1 e
          by_cases c2:c.toNat<192
          · rw [if_pos c2] at h1;simp at h1
          · rw [if_neg c2] at h1 e
            by_cases c3:c.toNat<224
            · rw [if_pos c3] at h1 e
              exfalso
              rcases seqL_cases l 1 (c.toNat-192) 128 with q|⟨r,hr,q⟩
              · rw [q] at h1;simp at h1
              · rw [q] at h1
                cases l with
                | nil=>simp [tailL] at hr
                | cons x l=>
                  have hx:=x.toNat_lt
                  rw [tailL] at hr
                  split at hr
                  · have ht:tailL l 0 (64*(c.toNat-192)+(x.toNat-128))=some (64*(c.toNat-192)+(x.toNat-128)):=by cases l <;> rfl
                    rw [ht] at hr
                    have:=Option.some.inj hr
                    simp only at h1
                    omega
                  · simp at hr
            · rw [if_neg c3] at h1 e
              by_cases c4:c.toNat<240
              · rw [if_pos c4] at h1 e
                rcases seqL_cases l 2 (c.toNat-224) 2048 with q|⟨r,hr,q⟩
                · rw [q] at h1;simp at h1
                · rw [q] at h1
                  match l with
                  | []=>simp [tailL] at hr
                  | [x]=>rw [tailL_short _ _ _ (by simp)] at hr;simp at hr
                  | x :: y :: t=>
                    have hx:=x.toNat_lt
                    have hy:=y.toNat_lt
                    rw [tailL] at hr
                    split at hr
                    · rw [tailL] at hr
                      split at hr
                      · have ht:∀ v,tailL t 0 v=some v:=fun v=>by cases t <;> rfl
                        rw [ht] at hr
                        have:=Option.some.inj hr
                        simp only at h1
                        exact⟨by omega,x,y,t,rfl,by omega,by omega⟩
                      · simp at hr
                    · simp at hr
              · rw [if_neg c4] at h1 e
                exfalso
                by_cases c5:c.toNat<248
                · rw [if_pos c5] at h1 e
                  have:seqL l 3 (c.toNat-240) 65536=(0,0)∨65536≤(seqL l 3 (c.toNat-240) 65536).1:=by
                    unfold seqL
                    cases tailL l 3 (c.toNat-240) with
                    | none=>exact .inl rfl
                    | some r=>
                      simp only [finL]
                      split
                      · exact .inl rfl
                      · right;simp only;omega
                  rcases this with q|q
                  · rw [q] at h1;simp at h1
                  · omega
                · rw [if_neg c5] at h1;simp at h1
      obtain⟨k0,x,y,t,rfl,kx,ky⟩:=key
      have e0:c=239:=UInt8.toNat_inj.mp (by rw [k0];rfl)
      have e1:x=191:=UInt8.toNat_inj.mp (by rw [kx];rfl)
      have e2:y=189:=UInt8.toNat_inj.mp (by rw [ky];rfl)
      subst e0 e1 e2
      simp at h2
theorem dec_good (s:ByteArray) (pos:Nat) (c:UInt8) (l:List UInt8) (h:s.toList.drop pos=c :: l) (g:¬ (stL (c :: l)).2=0):Utf8.decode s pos=stL (c :: l):=by
  rw [dec_at,h]
  rcases dec_same c l with⟨e,_⟩|⟨_,d,_⟩
  · exact absurd e g
  · exact d
theorem dec_bad (s:ByteArray) (pos:Nat) (c:UInt8) (l:List UInt8) (h:s.toList.drop pos=c :: l) (g:(stL (c :: l)).2=0):Utf8.decode s pos=(65533,1):=by
  rw [dec_at,h]
  rcases dec_same c l with⟨_,d⟩|⟨e,_,_⟩
  · exact d
  · exact absurd g e
theorem drop_nil (s:ByteArray) (pos:Nat) (h:s.toList.drop pos = []):¬ pos<s.size:=by
  have:=congrArg List.length h
  rw [List.length_drop,length_toList] at this
  simp at this
  omega
theorem drop_cons (s:ByteArray) (pos:Nat) (c:UInt8) (l:List UInt8) (h:s.toList.drop pos=c :: l):pos<s.size∧l.length+1=s.size-pos:=by
  have:=congrArg List.length h
  rw [List.length_drop,length_toList] at this
  simp at this
  omega
theorem g_cO (s:ByteArray) (fuel:Nat):∀ pos n,chars_Count.g s fuel pos (n:Nat)=cR n (cO fuel (s.toList.drop pos)):=by
  induction fuel with
  | zero=>intro pos n;rfl
  | succ k ih=>
    intro pos n
    cases hl:s.toList.drop pos with
    | nil=>rw [chars_Count.g,if_neg (drop_nil s pos hl),cO];rfl
    | cons c l=>
      obtain⟨hp,_⟩:=drop_cons s pos c l hl
      rw [chars_Count.g,if_pos hp,cO]
      by_cases g:(stL (c :: l)).2=0
      · rw [if_pos ((own_at s pos hp).mpr (by rw [hl];exact g)),if_pos g]
        rfl
      · rw [if_neg (fun h=>g (by have:=(own_at s pos hp).mp h;rwa [hl] at this)),if_neg g,dec_good s pos c l hl g]
        have:=ih (pos+(stL (c :: l)).2) (n+1)
        rw [← List.drop_drop,hl] at this
        rw [show((n:Nat):Int)+1=((n+1:Nat):Int) by omega,this]
        cases cO k ((c :: l).drop (stL (c :: l)).2) with
        | none=>rfl
        | some m=>simp only [cR,Option.map_some];rw [show n+1+m=n+(m+1) by omega]
theorem count_eq (s:ByteArray) (h:s.size≤9007199254740992):chars_Count.f s=some (cR 0 (cO s.size s.toList)):=by
  have:=g_cO s s.size 0 0
  rw [List.drop_zero] at this
  rw [chars_Count.f,if_pos h]
  exact congrArg some this
theorem valid_eq (s:ByteArray) (h:s.size≤9007199254740992):chars_Valid.f s=some (cO s.size s.toList).isSome:=by
  unfold chars_Valid.f
  rw [count_eq s h,Option.bind_some]
  cases cO s.size s.toList <;> rfl
theorem g_lO (s:ByteArray) (fuel:Nat):∀ pos,(chars_Legal.g s fuel pos && (cO fuel (s.toList.drop pos)).isSome)=lO fuel (s.toList.drop pos):=by
  have hok:chars_Legal.ok (65533:Nat)=true:=by decide
  induction fuel with
  | zero=>intro pos;rfl
  | succ k ih=>
    intro pos
    cases hl:s.toList.drop pos with
    | nil=>rw [chars_Legal.g,if_neg (drop_nil s pos hl),cO,lO];rfl
    | cons c l=>
      obtain⟨hp,_⟩:=drop_cons s pos c l hl
      rw [chars_Legal.g,if_pos hp,cO,lO]
      by_cases g:(stL (c :: l)).2=0
      · rw [if_pos g,if_pos g,Option.isSome_none,Bool.and_false]
      · rw [if_neg g,if_neg g,dec_good s pos c l hl g,Option.isSome_map]
        have:=ih (pos+(stL (c :: l)).2)
        rw [← List.drop_drop,hl] at this
        cases hk:chars_Legal.ok (((stL (c :: l)).1:Nat):Int)
        · rw [if_pos rfl];rfl
        · rw [if_neg (by decide),this,Bool.true_and]
theorem legal_eq (s:ByteArray) (h:s.size≤9007199254740992):chars_Legal.f s=some (lO s.size s.toList):=by
  have:=g_lO s s.size 0
  rw [List.drop_zero] at this
  rw [chars_Legal.f,if_pos h,← this]
  by_cases g:chars_Legal.g s s.size 0=true
  · rw [if_pos g,valid_eq s h,g,Bool.true_and]
  · rw [if_neg g]
    simp only [Bool.not_eq_true] at g
    rw [g,Bool.false_and]
theorem ext_list (s:ByteArray) (n:Nat):(s.extract n s.size).toList=s.toList.drop n:=by
  rw [toList_extract,List.take_of_length_le (by rw [length_toList];omega)]
def letB (c:UInt8):Bool:=decide ((65≤c.toNat∧c.toNat≤90)∨(97≤c.toNat∧c.toNat≤122)∨c.toNat=95)
def inB (c:UInt8):Bool:=letB c || decide ((48≤c.toNat∧c.toNat≤57)∨c.toNat=45∨c.toNat=46)
theorem byte_all {P:UInt8→Prop} (h:∀ n:Fin 256,P (UInt8.ofNat n.val)) (c:UInt8):P c:=by
  have:=h ⟨c.toNat,c.toNat_lt⟩
  rwa [UInt8.ofNat_toNat] at this
theorem le_a (c:UInt8):xml_letter.f (c.toNat:Int)=some (letB c):=byte_all (P:=fun c=>xml_letter.f (c.toNat:Int)=some (letB c)) (by decide +kernel) c
theorem in_a (c:UInt8):xml_inner.f (c.toNat:Int)=some (inB c):=byte_all (P:=fun c=>xml_inner.f (c.toNat:Int)=some (inB c)) (by decide +kernel) c
def nmB:List UInt8→Bool
  | []=>false
  | c :: l=>letB c && l.all inB
theorem xname_l0 (s:ByteArray) (hs:s.size≤1000000000000000) (l:List UInt8):∀ pre,pre ≠ []→s.toList=pre++l→Ev (fun k=>xml_Name.l0 k s (s.size:Int) (pre.length:Int)) (l.all inB):=by
  induction l with
  | nil=>
    intro pre hp h
    have e:=pre_end s pre h
    refine Ev.step (f:=fun _=>some (s.toList != [])) (fun k=>by rw [xml_Name.l0,if_neg (by omega)]) (ev_eq (Ev.now _) ?_)
    rw [h]
    cases pre with
    | nil=>exact absurd rfl hp
    | cons=>rfl
  | cons c l ih=>
    intro pre hp h
    obtain⟨hb,hl⟩:=bt_pre s pre l c h
    have hn:=pre_next pre c s.size hl (by omega)
    have h0:¬ ((pre.length:Int)=0):=by
      cases pre with
      | nil=>exact absurd rfl hp
      | cons=>simp;omega
    refine Ev.step (f:=fun k=>if inB c=true then xml_Name.l0 k s (s.size:Int) ((pre ++ [c]).length:Int) else some false) (fun k=>?_) ?_
    · rw [xml_Name.l0,if_pos (by omega),if_pos (by omega),if_pos (by omega),hb,in_a,Option.bind_some,hn,if_neg h0]
    · by_cases g:inB c=true
      · exact ev_pos g (ev_eq (ih _ (by simp) (pre_app s pre l c h)) (by rw [List.all_cons,g,Bool.true_and]))
      · exact ev_neg g (ev_eq (Ev.now _) (by rw [List.all_cons];simp [g]))
theorem let_in {c:UInt8} (h:letB c=true):inB c=true:=by unfold inB;rw [h];rfl
theorem xname_ev (s:ByteArray) (hs:s.size≤1000000000000000):Ev (fun k=>xml_Name.f k s) (nmB s.toList):=by
  show Ev (fun k=>xml_Name.l0 k s (s.size:Int) 0) _
  have hz:=length_toList s
  cases hl:s.toList with
  | nil=>
    rw [hl] at hz
    refine Ev.step (f:=fun _=>some (s.toList != [])) (fun k=>by rw [xml_Name.l0,if_neg (by simp at hz;omega)]) (ev_eq (Ev.now _) ?_)
    rw [hl]
    rfl
  | cons c l=>
    have h:s.toList = []++c :: l:=hl
    obtain⟨hb,hlt⟩:=bt_pre s [] l c h
    have hn:=pre_next [] c s.size hlt (by omega)
    simp only [List.length_nil] at hb hlt hn
    refine Ev.step (f:=fun k=>if inB c=true then(if letB c=true then xml_Name.l0 k s (s.size:Int) (([] ++ [c]:List UInt8).length:Int) else some false) else some false) (fun k=>?_) ?_
    · rw [xml_Name.l0,if_pos (by omega),if_pos (by omega),if_pos (by omega)]
      rw [show bt s 0=(c.toNat:Int) from hb,in_a,Option.bind_some,if_pos rfl,le_a,Option.bind_some]
      rw [show wrap64 (0+1)=(([] ++ [c]:List UInt8).length:Int) from hn]
    · by_cases g:letB c=true
      · exact ev_pos (let_in g) (ev_pos g (ev_eq (xname_l0 s hs l _ (by simp) (pre_app s [] l c h)) (by rw [nmB,g,Bool.true_and])))
      · by_cases g2:inB c=true
        · exact ev_pos g2 (ev_neg g (ev_eq (Ev.now _) (by rw [nmB];simp [g])))
        · exact ev_neg g2 (ev_eq (Ev.now _) (by rw [nmB];simp [g]))
theorem escape_s (s:ByteArray):xml_Escape.s s=B (s.toList.flatMap xml_Escape.e):=by
  rw [ByteArray.toList_eq]
  rfl
theorem escape_size (s:ByteArray):(B (s.toList.flatMap xml_Escape.e)).size≤6*s.size:=by
  rw [B_size,← length_toList]
  exact xml_Escape.flat_len _
theorem esc_a (s:ByteArray) (hs:s.size≤1000000000):xml_Escape.f s=some (B (s.toList.flatMap xml_Escape.e)):=by
  rw [xml_Escape.f,if_pos (by omega),escape_s]
abbrev XN:=S24
mutual
def nb:XN→Nat
  | ⟨a,b,l⟩=>a.size+b.size+nbl l+16
def nbl:List XN→Nat
  | []=>0
  | x :: xs=>nb x+nbl xs
end
theorem nb_eq (n:XN):nb n=n.f0.size+n.f1.size+nbl n.f2+16:=by
  obtain⟨a,b,l⟩:=n
  rw [nb]
theorem nbl_len (l:List XN):16*l.length≤nbl l:=by
  induction l with
  | nil=>exact Nat.zero_le _
  | cons x xs ih=>
    rw [nbl,List.length_cons,nb_eq]
    omega
def escB (t:ByteArray):List UInt8:=t.toList.flatMap xml_Escape.e
mutual
def txN:XN→List UInt8→List UInt8
  | ⟨a,b,l⟩,more=>60 :: (a.toList++more)++62 :: (escB b++(txL l++60 :: 47 :: (a.toList ++ [62])))
def txL:List XN→List UInt8
  | []=>[]
  | x :: xs=>txN x []++txL xs
end
theorem txN_eq (n:XN) (more:List UInt8):txN n more=60 :: (n.f0.toList++more)++62 :: (escB n.f1++(txL n.f2++60 :: 47 :: (n.f0.toList ++ [62]))):=by
  obtain⟨a,b,l⟩:=n
  rw [txN]
mutual
def mayN:XN→Nat→Bool
  | ⟨a,b,l⟩,d=>decide (d≤16) && (nmB a.toList && (lO b.size b.toList && (decide (b.toList = []∨l = []) && mayL l (d+1))))
def mayL:List XN→Nat→Bool
  | [],_=>true
  | x :: xs,d=>mayN x d && mayL xs d
end
theorem mayN_eq (n:XN) (d:Nat):mayN n d=(decide (d≤16) && (nmB n.f0.toList && (lO n.f1.size n.f1.toList && (decide (n.f1.toList = []∨n.f2 = []) && mayL n.f2 (d+1))))):=by
  obtain⟨a,b,l⟩:=n
  rw [mayN]
theorem ofN (n:Nat) (h:n<256):(UInt8.ofNat n).toNat=n:=by rw [UInt8.toNat_ofNat'];omega
def encL (c:Nat):List UInt8:=
  if c<128 then [UInt8.ofNat c] else if c<2048 then [UInt8.ofNat (192+c / 64),UInt8.ofNat (128+c % 64)] else if c<65536 then [UInt8.ofNat (224+c / 4096),UInt8.ofNat (128+c / 64 % 64),UInt8.ofNat (128+c % 64)] else [UInt8.ofNat (240+c / 262144),UInt8.ofNat (128+c / 4096 % 64),UInt8.ofNat (128+c / 64 % 64),UInt8.ofNat (128+c % 64)]
def okN (n:Nat):Prop:=n<55296∨(57344≤n∧n≤1114111)
instance (n:Nat):Decidable (okN n):=inferInstanceAs (Decidable (_∨_))
theorem enc_ok (n:Nat) (h:okN n):Utf8.encode (n:Int)=B (encL n):=by
  have hv:Utf8.valid (n:Int)=true:=by
    unfold Utf8.valid
    rcases h with h|⟨h1,h2⟩
    · simp;omega
    · simp;omega
  unfold Utf8.encode encL
  simp only [hv,if_true,Int.toNat_natCast]
  split
  · rfl
  · split
    · rfl
    · split <;> rfl
theorem enc_bad (n:Nat) (h:¬ okN n):Utf8.encode (n:Int)=B [239,191,189]:=by
  have hv:Utf8.valid (n:Int)=false:=by
    unfold okN at h
    unfold Utf8.valid
    simp
    omega
  unfold Utf8.encode
  simp only [hv,Bool.false_eq_true,if_false]
  rfl
theorem legal_rep:chars_Legal.f (B [239,191,189])=some true:=by
  rw [legal_eq _ (by decide),B_toList]
  decide
theorem st_enc (n:Nat) (h:okN n):stL (encL n)=(n,(encL n).length):=by
  have hmax:n≤1114111:=by rcases h with h|h <;> omega
  unfold encL
  by_cases c1:n<128
  · rw [if_pos c1,stL,ofN n (by omega),if_pos c1];rfl
  rw [if_neg c1]
  by_cases c2:n<2048
  · rw [if_pos c2,stL,ofN _ (by omega),if_neg (by omega),if_neg (by omega),if_pos (by omega),seqL,tailL,ofN _ (by omega),if_pos (by omega),tailL]
    dsimp only
    rw [finL,if_neg (by omega),show 64*(192+n / 64-192)+(128+n % 64-128)=n by omega]
    rfl
  rw [if_neg c2]
  by_cases c3:n<65536
  · rw [if_pos c3,stL,ofN _ (by omega),if_neg (by omega),if_neg (by omega),if_neg (by omega),if_pos (by omega),seqL,tailL,ofN _ (by omega),if_pos (by omega),tailL,ofN _ (by omega),if_pos (by omega),tailL]
    dsimp only
    have e:64*(64*(224+n / 4096-224)+(128+n / 64 % 64-128))+(128+n % 64-128)=n:=by omega
    rw [e,finL,if_neg (by rcases h with h|h <;> omega)]
    rfl
  rw [if_neg c3]
  rw [stL,ofN _ (by omega),if_neg (by omega),if_neg (by omega),if_neg (by omega),if_neg (by omega),if_pos (by omega),seqL,tailL,ofN _ (by omega),if_pos (by omega),tailL,ofN _ (by omega),if_pos (by omega),tailL,ofN _ (by omega),if_pos (by omega),tailL]
  dsimp only
  have e:64*(64*(64*(240+n / 262144-240)+(128+n / 4096 % 64-128))+(128+n / 64 % 64-128))+(128+n % 64-128)=n:=by omega
  rw [e,finL,if_neg (by rcases h with h|h <;> omega)]
  rfl
theorem enc_len (n:Nat):1≤(encL n).length∧(encL n).length≤4:=by
  unfold encL
  split
  · simp
  · split
    · simp
    · split <;> simp
theorem legal_enc (n:Nat) (h:okN n):chars_Legal.f (Utf8.encode (n:Int))=some (chars_Legal.ok (n:Int)):=by
  have hl:=enc_len n
  rw [enc_ok n h,legal_eq _ (by rw [B_size];omega),B_toList,B_size]
  congr 1
  have hs:=st_enc n h
  cases he:encL n with
  | nil=>rw [he] at hl;simp at hl
  | cons c l=>
    rw [he] at hs hl
    rw [List.length_cons,lO,hs,if_neg (by simp),List.length_cons,List.drop_of_length_le (by simp)]
    have:lO l.length []=true:=by cases l.length <;> rfl
    rw [this,Bool.and_true]
def chN (n:Nat):Bool:=decide (n≤1114111) && chars_Legal.ok (n:Int)
theorem ch_ok (n:Nat) (h:chN n=true):okN n:=by
  unfold chN at h
  rw [Bool.and_eq_true,decide_eq_true_eq] at h
  have h2:=of_decide_eq_true h.2
  unfold okN
  omega
theorem fin_ev (n:Nat):xml_number.fin (n:Int)=some ((n:Int),chN n):=by
  unfold xml_number.fin
  by_cases c1:n≤1114111
  · rw [if_pos (by omega)]
    by_cases c2:okN n
    · rw [legal_enc n c2,Option.bind_some]
      have hc:chN n=chars_Legal.ok (n:Int):=by rw [chN,decide_eq_true c1,Bool.true_and]
      rw [hc]
      cases hk:chars_Legal.ok (n:Int) with
      | false=>
        rw [if_neg Bool.false_ne_true]
        have:¬ n=65533:=by rintro rfl;simp [chars_Legal.ok] at hk
        rw [show((n:Int) == 65533)=false by rw [beq_eq_false_iff_ne];omega]
      | true=>
        rw [if_pos rfl]
        split
        · rename_i he
          rw [enc_ok n c2,B_toList] at he
          have hs:=st_enc n c2
          rw [he] at hs
          have hs1:=congrArg Prod.fst hs
          have e3:(stL [239,191,189]).1=65533:=by decide
          rw [e3] at hs1
          rw [show((n:Int) == 65533)=true by rw [beq_iff_eq];simp only at hs1;omega]
        · rfl
    · rw [enc_bad n c2,legal_rep,Option.bind_some,if_pos rfl,if_pos (B_toList _)]
      have hc:chN n=false:=by
        cases hk:chN n with
        | false=>rfl
        | true=>exact absurd (ch_ok n hk) c2
      have:¬ n=65533:=by rintro rfl;exact c2 (by decide)
      rw [hc,show((n:Int) == 65533)=false by rw [beq_eq_false_iff_ne];omega]
  · rw [if_neg (by omega),chN,decide_eq_false c1,Bool.false_and,show((n:Int) == 65533)=false by rw [beq_eq_false_iff_ne];omega]
def dgB (b:Nat) (c:UInt8):Option Nat:=if 48≤c.toNat∧c.toNat≤57 then some (c.toNat-48) else if b=16∧97≤c.toNat∧c.toNat≤102 then some (c.toNat-87) else if b=16∧65≤c.toNat∧c.toNat≤70 then some (c.toNat-55) else none
def nuB (b:Nat):Nat→List UInt8→Option Nat
  | n,[]=>some n
  | n,c :: l=>match dgB b c with|none=>none|some d=>nuB b (n*b+d) l
def rfB (b:Nat) (l:List UInt8):Option (List UInt8):=if l.length<1 then none else if 7<l.length then none else match nuB b 0 l with|none=>none|some n=>if chN n=true then some (encL n) else none
def nrB:List UInt8→Option (List UInt8)
  | 120 :: r=>rfB 16 r
  | l=>rfB 10 l
theorem nr_x (l:List UInt8):nrB (120 :: l)=rfB 16 l:=rfl
theorem nr_n (l:List UInt8) (h:l.head? ≠ some 120):nrB l=rfB 10 l:=by
  unfold nrB
  split
  · simp at h
  · rfl
def ndB:List UInt8→Option (List UInt8)
  | 35 :: r=>nrB r
  | _=>none
theorem nd_n (l:List UInt8) (h:l.head? ≠ some 35):ndB l=none:=by
  unfold ndB
  split
  · simp at h
  · rfl
def entB (l:List UInt8):Option (List UInt8):=
  if l = [97,109,112] then some [38] else if l = [108,116] then some [60] else if l = [103,116] then some [62] else if l = [113,117,111,116] then some [34] else if l = [97,112,111,115] then some [39] else ndB l
theorem dg_lt {b:Nat} {c:UInt8} {d:Nat} (hb:b=10∨b=16) (h:dgB b c=some d):d<b:=by
  unfold dgB at h
  split at h
  · cases h;omega
  · split at h
    · cases h;omega
    · split at h
      · cases h;omega
      · cases h
theorem dg_ascii {b:Nat} {c:UInt8} {d:Nat} (h:dgB b c=some d):c.toNat<128:=by
  unfold dgB at h
  split at h
  · omega
  · split at h
    · omega
    · split at h
      · omega
      · cases h
theorem w32 {n:Int} (h:-2000000000≤n) (h':n≤2000000000):wrap32 n=n:=by unfold wrap32;omega
theorem step_eq (b:Nat) (hb:b=10∨b=16) (n:Nat) (hn:n*b≤268435456) (c:UInt8):xml_number.step (b:Int) (n:Int) (c.toNat:Int)=(dgB b c).map fun d=>((n*b+d:Nat):Int):=by
  have hc:=c.toNat_lt
  have hm:(n:Int)*(b:Int)=((n*b:Nat):Int):=by rw [Int.natCast_mul]
  unfold xml_number.step dgB
  rw [hm,w32 (n:=((n*b:Nat):Int)) (by omega) (by omega),w32 (n:=((n*b:Nat):Int)+(c.toNat:Int)) (by omega) (by omega)]
  by_cases c1:48≤c.toNat∧c.toNat≤57
  · rw [if_pos (by omega),if_pos c1,w32 (by omega) (by omega),Option.map_some]
    congr 1
    omega
  · rw [if_neg (by omega),if_neg c1]
    by_cases c2:b=16∧97≤c.toNat∧c.toNat≤102
    · rw [if_pos (by omega),if_pos c2,w32 (n:=_-97) (by omega) (by omega),w32 (by omega) (by omega),Option.map_some]
      congr 1
      omega
    · rw [if_neg (by omega),if_neg c2]
      by_cases c3:b=16∧65≤c.toNat∧c.toNat≤70
      · rw [if_pos (by omega),if_pos c3,w32 (n:=_-65) (by omega) (by omega),w32 (by omega) (by omega),Option.map_some]
        congr 1
        omega
      · rw [if_neg (by omega),if_neg c3];rfl
theorem step_hi (b n c:Int) (h:128≤c):xml_number.step b n c=none:=by
  unfold xml_number.step
  rw [if_neg (by omega),if_neg (by omega),if_neg (by omega)]
theorem fin_lo {v m n:Nat} (hm:128≤m) (h:¬ (finL v m n).2=0):128≤(finL v m n).1:=by
  unfold finL at h ⊢
  split
  · rename_i c;rw [if_pos c] at h;simp at h
  · simp only;omega
theorem seq_lo {l:List UInt8} {j v m:Nat} (hm:128≤m) (h:¬ (seqL l j v m).2=0):128≤(seqL l j v m).1:=by
  unfold seqL at h ⊢
  split
  · rename_i c;simp [c] at h
  · rename_i c;simp only [c] at h;exact fin_lo hm h
theorem st_lo {c:UInt8} {l:List UInt8} (hc:128≤c.toNat) (h:¬ (stL (c :: l)).2=0):128≤(stL (c :: l)).1:=by
  rw [stL,if_neg (by omega)] at h ⊢
  split
  · rename_i k;rw [if_pos k] at h;simp at h
  · rename_i k;rw [if_neg k] at h
    split
    · rename_i k2;rw [if_pos k2] at h;exact seq_lo (by omega) h
    · rename_i k2;rw [if_neg k2] at h
      split
      · rename_i k3;rw [if_pos k3] at h;exact seq_lo (by omega) h
      · rename_i k3;rw [if_neg k3] at h
        split
        · rename_i k4;rw [if_pos k4] at h;exact seq_lo (by omega) h
        · rename_i k4;rw [if_neg k4] at h;simp at h
theorem dec_hi (s:ByteArray) (pos:Nat) (c:UInt8) (l:List UInt8) (h:s.toList.drop pos=c :: l) (hc:128≤c.toNat):128≤(Utf8.decode s pos).1:=by
  by_cases g:(stL (c :: l)).2=0
  · rw [dec_bad s pos c l h g];omega
  · rw [dec_good s pos c l h g];exact st_lo hc g
theorem dec_lo (s:ByteArray) (pos:Nat) (c:UInt8) (l:List UInt8) (h:s.toList.drop pos=c :: l) (hc:c.toNat<128):Utf8.decode s pos=(c.toNat,1):=by
  have e:stL (c :: l)=(c.toNat,1):=by rw [stL,if_pos hc]
  rw [dec_good s pos c l h (by rw [e];simp),e]
theorem num_g (s:ByteArray) (b:Nat) (hb:b=10∨b=16) (l:List UInt8):∀ fuel pos n,s.toList.drop pos=l→l.length≤fuel→(n+1)*b ^ l.length≤268435456→xml_number.g s (b:Int) fuel pos (n:Int)=(nuB b n l).map Int.ofNat:=by
  induction l with
  | nil=>
    intro fuel pos n h _ _
    rw [xml_number.g_end (drop_nil s pos h)]
    rfl
  | cons c l ih=>
    intro fuel pos n h hf hn
    obtain⟨hp,_⟩:=drop_cons s pos c l h
    obtain⟨f,rfl⟩ : ∃ f,fuel=f+1:=⟨fuel-1,by simp at hf;omega⟩
    have hpow:(n+1)*b ^ (c :: l).length=((n+1)*b)*b ^ l.length:=by rw [List.length_cons,Nat.pow_succ,Nat.mul_comm (b ^ l.length) b,Nat.mul_assoc]
    rw [hpow] at hn
    have hb1:0<b ^ l.length:=Nat.pow_pos (by omega)
    have hnb:(n+1)*b≤268435456:=Nat.le_trans (Nat.le_mul_of_pos_right _ hb1) hn
    have hnb2:n*b≤268435456:=by rw [Nat.succ_mul] at hnb;omega
    rw [nuB]
    by_cases hc:c.toNat<128
    · have hd:=dec_lo s pos c l h hc
      have hs:=step_eq b hb n hnb2 c
      cases hg:dgB b c with
      | none=>
        rw [hg] at hs
        rw [xml_number.g_bad hp (by rw [hd];exact hs)]
        rfl
      | some d=>
        rw [hg,Option.map_some] at hs
        rw [xml_number.g_on hp (by rw [hd];exact hs),hd]
        have hdl:=dg_lt hb hg
        refine ih f (pos+1) (n*b+d) ?_ (by simp at hf;omega) ?_
        · rw [← List.drop_drop,h];rfl
        · refine Nat.le_trans (Nat.mul_le_mul_right _ ?_) hn
          rw [Nat.succ_mul];omega
    · have hg:dgB b c=none:=by
        cases hg:dgB b c with
        | none=>rfl
        | some d=>exact absurd (dg_ascii hg) hc
      rw [xml_number.g_bad hp (step_hi _ _ _ (by have:=dec_hi s pos c l h (by omega);omega)),hg]
      rfl
theorem num_r (s:ByteArray) (b:Nat) (hb:b=10∨b=16):∃ n:Nat,xml_number.r s (b:Int)=some ((n:Int),(rfB b s.toList).isSome) ∧ ∀ r,rfB b s.toList=some r→Utf8.encode (n:Int)=B r:=by
  have hsl:=length_toList s
  unfold xml_number.r rfB
  rw [hsl]
  by_cases c1:s.size<1
  · rw [if_pos c1,if_pos c1];exact⟨0,rfl,fun r h=>by cases h⟩
  rw [if_neg c1,if_neg c1]
  by_cases c2:7<s.size
  · rw [if_pos c2,if_pos c2];exact⟨0,rfl,fun r h=>by cases h⟩
  rw [if_neg c2,if_neg c2]
  have hg:=num_g s b hb s.toList s.size 0 0 (by simp) (by omega) (by
    rw [hsl,Nat.zero_add,Nat.one_mul]
    exact Nat.le_trans (Nat.pow_le_pow_left (show b≤16 by omega) _) (Nat.le_trans (Nat.pow_le_pow_right (show 0<16 by omega) (show s.size≤7 by omega)) (by decide)))
  rw [show((0:Nat):Int)=0 from rfl] at hg
  rw [hg]
  cases hn:nuB b 0 s.toList with
  | none=>exact⟨0,rfl,fun r h=>by cases h⟩
  | some n=>
    refine⟨n,?_,?_⟩
    · rw [Option.map_some]
      show xml_number.fin (n:Int)=_
      rw [fin_ev]
      cases hk:chN n <;> simp [hk]
    · intro r h
      simp only at h
      by_cases hk:chN n=true
      · rw [if_pos hk] at h;cases h;exact enc_ok n (ch_ok n hk)
      · rw [if_neg hk] at h;cases h
theorem hasP1 (s:ByteArray) (c:UInt8) (h:s.size≤1000000000000000):strings_HasPrefix.f s (⟨#[c]⟩ : ByteArray)=some (decide (s.toList.head? = some c)):=by
  have hsl:=length_toList s
  have hz:(⟨#[c]⟩ : ByteArray).size=1:=rfl
  have hl:(⟨#[c]⟩ : ByteArray).toList = [c]:=by rw [ByteArray.toList_eq]
  unfold strings_HasPrefix.f stringslite_HasPrefix.f
  rw [hz,hl]
  cases hs:s.toList with
  | nil=>
    rw [hs] at hsl
    simp at hsl
    rw [if_neg (by omega)];rfl
  | cons d l=>
    rw [hs] at hsl
    simp at hsl
    rw [if_pos (by omega),if_pos (by omega),if_pos (by omega),toList_extract,hs]
    simp [List.head?_cons]
    by_cases hdc:d=c
    · subst hdc;simp
    · simp [hdc]
theorem tail1 (s:ByteArray) (c:UInt8) (l:List UInt8) (h:s.toList=c :: l):(s.extract 1 s.size).toList=l:=by rw [ext_list,h];rfl
theorem num_eq (s:ByteArray) (h:s.size≤1000000000000000):∃ n:Nat,xml_number.f s=some ((n:Int),(nrB s.toList).isSome) ∧ ∀ r,nrB s.toList=some r→Utf8.encode (n:Int)=B r:=by
  have hsl:=length_toList s
  unfold xml_number.f
  rw [hasP1 s 120 h,Option.bind_some]
  by_cases hc:s.toList.head? = some 120
  · rw [if_pos (decide_eq_true hc)]
    cases hs:s.toList with
    | nil=>rw [hs] at hc;cases hc
    | cons c l=>
      rw [hs] at hc hsl
      obtain rfl:c=120:=Option.some.inj hc
      rw [List.length_cons] at hsl
      rw [if_pos (by omega),nr_x]
      have:=num_r (s.extract 1 s.size) 16 (.inr rfl)
      rw [tail1 s 120 l hs] at this
      exact this
  · rw [if_neg (by rw [decide_eq_false hc];exact Bool.false_ne_true),nr_n _ hc]
    exact num_r s 10 (.inl rfl)
theorem sign_eq (s:ByteArray) (h:s.size≤1000000000000000):∃ t:ByteArray,xml_sign.f s=some (t,(entB s.toList).isSome) ∧ ∀ r,entB s.toList=some r→t=B r:=by
  have hsl:=length_toList s
  unfold xml_sign.f entB
  by_cases c1:s.toList = [97,109,112]
  · rw [if_pos c1,if_pos c1];exact⟨_,rfl,fun r h=>by cases h;rfl⟩
  rw [if_neg c1,if_neg c1]
  by_cases c2:s.toList = [108,116]
  · rw [if_pos c2,if_pos c2];exact⟨_,rfl,fun r h=>by cases h;rfl⟩
  rw [if_neg c2,if_neg c2]
  by_cases c3:s.toList = [103,116]
  · rw [if_pos c3,if_pos c3];exact⟨_,rfl,fun r h=>by cases h;rfl⟩
  rw [if_neg c3,if_neg c3]
  by_cases c4:s.toList = [113,117,111,116]
  · rw [if_pos c4,if_pos c4];exact⟨_,rfl,fun r h=>by cases h;rfl⟩
  rw [if_neg c4,if_neg c4]
  by_cases c5:s.toList = [97,112,111,115]
  · rw [if_pos c5,if_pos c5];exact⟨_,rfl,fun r h=>by cases h;rfl⟩
  rw [if_neg c5,if_neg c5,hasP1 s 35 h,Option.bind_some]
  clear c1 c2 c3 c4 c5
  by_cases hc:s.toList.head? = some 35
  · rw [if_pos (decide_eq_true hc)]
    cases hs:s.toList with
    | nil=>rw [hs] at hc;cases hc
    | cons c l=>
      rw [hs] at hc hsl
      obtain rfl:c=35:=Option.some.inj hc
      rw [List.length_cons] at hsl
      obtain⟨n,h1,h2⟩:=num_eq (s.extract 1 s.size) (by rw [ByteArray.size_extract];omega)
      rw [tail1 s 35 l hs] at h1 h2
      rw [if_pos (by omega),h1,Option.bind_some]
      exact⟨_,rfl,h2⟩
  · rw [if_neg (by rw [decide_eq_false hc];exact Bool.false_ne_true),nd_n _ hc]
    exact⟨_,rfl,fun r h=>by cases h⟩
theorem byteAll {P:UInt8→Prop} (h:∀ n:Fin 256,P (UInt8.ofNat n.val)) (c:UInt8):P c:=by
  have:=h ⟨c.toNat,c.toNat_lt⟩
  rwa [UInt8.ofNat_toNat] at this
def repR (old new s:List UInt8):List UInt8:=Lib.replaceK old new (Lib.count s old) s
theorem rep_all (old new s:List UInt8) (h:(old == new)=false):Lib.replaceAll s old new=repR old new s:=by
  unfold Lib.replaceAll Lib.replace Lib.replaceNum repR
  rw [h,if_neg Bool.false_ne_true,if_pos (.inl (by decide))]
theorem rep_hit (old new:List UInt8) (hne:old ≠ []) (s:List UInt8) (i:Nat) (h:Lib.index s old=i):repR old new s=s.take i++new++repR old new (s.drop (i+old.length)):=by
  unfold repR
  rw [Lib.count_hit hne h,Nat.add_comm 1,Lib.replaceK_hit _ _ _ _ _ h]
theorem rep_miss (old new s:List UInt8) (h:Lib.index s old = -1):repR old new s=s:=by
  unfold repR
  rw [Lib.count_miss h]
  rfl
theorem rep_nil (old new:List UInt8) (hne:old ≠ []):repR old new [] = []:=by
  refine rep_miss old new [] ?_
  cases old with
  | nil=>exact absurd rfl hne
  | cons a t=>rfl
theorem rep_pre (old new:List UInt8) (hne:old ≠ []) (c:UInt8) (r:List UInt8) (h:old.isPrefixOf (c :: r)=true):repR old new (c :: r)=new++repR old new ((c :: r).drop old.length):=by
  have hi:Lib.index (c :: r) old=(0:Nat):=by rw [Lib.index,if_pos h];rfl
  rw [rep_hit old new hne _ 0 hi,Nat.zero_add]
  rfl
theorem rep_not (old new:List UInt8) (hne:old ≠ []) (c:UInt8) (r:List UInt8) (h:old.isPrefixOf (c :: r)=false):repR old new (c :: r)=c :: repR old new r:=by
  rcases Lib.index_spec r old with⟨hm,_⟩|⟨i,hi,_⟩
  · have hi:Lib.index (c :: r) old = -1:=by rw [Lib.index,h,if_neg Bool.false_ne_true,hm];rfl
    rw [rep_miss old new _ hi,rep_miss old new _ hm]
  · have hi2:Lib.index (c :: r) old=((i+1:Nat):Int):=by
      rw [Lib.index,h,if_neg Bool.false_ne_true,hi,if_neg (by rw [beq_iff_eq];omega)];omega
    rw [rep_hit old new hne _ _ hi2,rep_hit old new hne _ _ hi,show i+1+old.length=(i+old.length)+1 by omega]
    rfl
def nrm:List UInt8→List UInt8
  | []=>[]
  | [c]=>[if c=13 then 10 else c]
  | c :: d :: r=>if c=13 then(if d=10 then 10 :: nrm r else 10 :: nrm (d :: r)) else c :: nrm (d :: r)
def n1 (l:List UInt8):List UInt8:=repR [13,10] [10] l
def n2 (l:List UInt8):List UInt8:=repR [13] [10] l
theorem n2_cons (c:UInt8) (r:List UInt8):n2 (c :: r)=(if c=13 then 10 else c) :: n2 r:=by
  by_cases h:c=13
  · subst h
    exact rep_pre [13] [10] (by simp) 13 r (by simp [List.isPrefixOf])
  · rw [if_neg h]
    exact rep_not [13] [10] (by simp) c r (by simp [List.isPrefixOf];exact fun e=>h e.symm)
theorem n2_nil:n2 [] = []:=rep_nil _ _ (by simp)
theorem n1_nil:n1 [] = []:=rep_nil _ _ (by simp)
theorem n1_one (c:UInt8):n1 [c] = [c]:=by
  have:n1 [c]=c :: n1 []:=rep_not [13,10] [10] (by simp) c [] (by simp [List.isPrefixOf])
  rw [this,n1_nil]
theorem n1_two (r:List UInt8):n1 (13 :: 10 :: r)=10 :: n1 r:=rep_pre [13,10] [10] (by simp) 13 (10 :: r) (by simp [List.isPrefixOf])
theorem n1_not (c d:UInt8) (r:List UInt8) (h:¬ (c=13∧d=10)):n1 (c :: d :: r)=c :: n1 (d :: r):=by
  refine rep_not [13,10] [10] (by simp) c (d :: r) ?_
  simp only [List.isPrefixOf,Bool.and_true]
  rw [Bool.and_eq_false_iff]
  by_cases h1:c=13
  · right;rw [beq_eq_false_iff_ne];exact fun e=>h ⟨h1,e.symm⟩
  · left;rw [beq_eq_false_iff_ne];exact fun e=>h1 e.symm
theorem nrm_eq:∀ l,n2 (n1 l)=nrm l
  | []=>by rw [n1_nil,n2_nil,nrm]
  | [c]=>by rw [n1_one,n2_cons,n2_nil,nrm]
  | c :: d :: r=>by
    rw [nrm]
    by_cases h:c=13
    · subst h
      rw [if_pos rfl]
      by_cases h2:d=10
      · subst h2
        rw [if_pos rfl,n1_two,n2_cons,nrm_eq r]
        rfl
      · rw [if_neg h2,n1_not 13 d r (fun q=>h2 q.2),n2_cons,nrm_eq (d :: r)]
        rfl
    · rw [if_neg h,n1_not c d r (fun q=>h q.1),n2_cons,nrm_eq (d :: r),if_neg h]
theorem nrm_len:∀ l,(nrm l).length≤l.length
  | []=>by simp [nrm]
  | [c]=>by simp [nrm]
  | c :: d :: r=>by
    have h1:=nrm_len r
    have h2:=nrm_len (d :: r)
    rw [nrm]
    simp only [List.length_cons] at h2 ⊢
    split
    · split
      · simp only [List.length_cons];omega
      · simp only [List.length_cons];omega
    · simp only [List.length_cons];omega
theorem nrm_cons (c:UInt8) (l:List UInt8) (h:c≠13):nrm (c :: l)=c :: nrm l:=by
  cases l with
  | nil=>simp [nrm,h]
  | cons d r=>rw [nrm,if_neg h]
theorem nrm_cr (l:List UInt8) (h:l.head? ≠ some 10):nrm (13 :: l)=10 :: nrm l:=by
  cases l with
  | nil=>simp [nrm]
  | cons d r=>rw [nrm,if_pos rfl,if_neg (fun e=>h (by rw [e];rfl))]
theorem nrm_crlf (l:List UInt8):nrm (13 :: 10 :: l)=10 :: nrm l:=by rw [nrm,if_pos rfl,if_pos rfl]
def cutL (c:UInt8):List UInt8→Option (List UInt8×List UInt8)
  | []=>none
  | b :: l=>if b=c then some ([],l) else(cutL c l).map fun p=>(b :: p.1,p.2)
theorem cutL_index (c:UInt8) (l:List UInt8):(match cutL c l with|none=>Lib.indexByte l c = -1|some p=>Lib.indexByte l c=p.1.length∧l=p.1++c :: p.2):=by
  induction l with
  | nil=>rfl
  | cons b l ih=>
    rw [cutL,Lib.indexByte]
    by_cases h:b=c
    · subst h;simp
    · rw [if_neg h]
      have hb:(b == c)=false:=by simpa using h
      cases hc:cutL c l with
      | none=>rw [hc] at ih;simp [ih,hb]
      | some p=>
        rw [hc] at ih
        obtain⟨h1,h2⟩:=ih
        simp only [Option.map_some]
        refine⟨?_,by rw [List.cons_append,← h2]⟩
        rw [h1]
        have:((p.1.length:Int) == -1)=false:=by rw [beq_eq_false_iff_ne];omega
        simp [hb,this]
def cutR (s:ByteArray) (c:UInt8):ByteArray×ByteArray×Bool:=
  match cutL c s.toList with|none=>(s,⟨#[]⟩,false)|some p=>(⟨p.1.toArray⟩,⟨p.2.toArray⟩,true)
theorem extract_of (s:ByteArray) (i j:Nat) (l:List UInt8) (h:(s.toList.take j).drop i=l):s.extract i j=⟨l.toArray⟩:=by
  apply toList_inj
  rw [toList_extract,h,ByteArray.toList_eq]
theorem rf_len {b:Nat} {l r:List UInt8} (h:rfB b l=some r):r.length≤4:=by
  unfold rfB at h
  split at h
  · cases h
  · split at h
    · cases h
    · split at h
      · cases h
      · split at h
        · cases h;exact(enc_len _).2
        · cases h
theorem ent_len {l r:List UInt8} (h:entB l=some r):r.length≤4:=by
  unfold entB at h
  split at h
  · cases h;decide
  · split at h
    · cases h;decide
    · split at h
      · cases h;decide
      · split at h
        · cases h;decide
        · split at h
          · cases h;decide
          · unfold ndB at h
            split at h
            · unfold nrB at h
              split at h <;> exact rf_len h
            · cases h
theorem cut_at {c:UInt8} {l a t:List UInt8} (h:cutL c l=some (a,t)):l=a++c :: t:=by
  have:=cutL_index c l
  rw [h] at this
  exact this.2
theorem cut_no {c:UInt8} {l a t:List UInt8} (h:cutL c l=some (a,t)):c ∉ a:=by
  induction l generalizing a with
  | nil=>cases h
  | cons b l ih=>
    rw [cutL] at h
    split at h
    · cases h;simp
    · rename_i hb
      cases hc:cutL c l with
      | none=>rw [hc] at h;cases h
      | some p=>
        rw [hc] at h
        cases h
        simp only [List.mem_cons,not_or]
        exact⟨fun e=>hb e.symm,ih hc⟩
def unL:Nat→List UInt8→Option (List UInt8)
  | 0,_=>some []
  | _+1,[]=>some []
  | k+1,c :: l=>if c=38 then(match cutL 59 l with|none=>none|some p=>match entB p.1 with|none=>none|some e=>(unL k p.2).map (e ++ ·)) else(unL k l).map (c :: ·)
def unD:Nat→List UInt8→Option (List UInt8)
  | 0,_=>some []
  | _+1,[]=>some []
  | k+1,c :: l=>if c=13 then(if l.head? = some 10 then(unD k l.tail).map (10 :: ·) else(unD k l).map (10 :: ·)) else if c=38 then(match cutL 59 l with|none=>none|some p=>match entB p.1 with|none=>none|some e=>(unD k p.2).map (e ++ ·)) else(unD k l).map (c :: ·)
theorem cut_len {c:UInt8} {l a t:List UInt8} (h:cutL c l=some (a,t)):a.length+t.length+1=l.length:=by
  have:=congrArg List.length (cut_at h)
  rw [List.length_append,List.length_cons] at this
  omega
theorem unL_fuel (k:Nat):∀ k' l,l.length<k→l.length<k'→unL k l=unL k' l:=by
  induction k with
  | zero=>intro k' l h _;omega
  | succ k ih=>
    intro k' l h h'
    obtain⟨j,rfl⟩ : ∃ j,k'=j+1:=⟨k'-1,by omega⟩
    cases l with
    | nil=>rfl
    | cons c l=>
      simp only [List.length_cons] at h h'
      rw [unL,unL,ih j l (by omega) (by omega)]
      by_cases hc:c=38
      · rw [if_pos hc,if_pos hc]
        cases hp:cutL 59 l with
        | none=>rfl
        | some p=>
          obtain⟨a,t⟩:=p
          have:=cut_len hp
          simp only
          rw [ih j t (by omega) (by omega)]
      · rw [if_neg hc,if_neg hc]
theorem unL_cut (k:Nat):∀ l,l.length<k→unL k l=(match cutL 38 l with
    | none=>some l
    | some p=>match cutL 59 p.2 with|none=>none|some q=>match entB q.1 with|none=>none|some e=>(unL k q.2).map (p.1++e ++ ·)):=by
  induction k with
  | zero=>intro l h;omega
  | succ k ih=>
    intro l h
    cases l with
    | nil=>rfl
    | cons c l=>
      simp only [List.length_cons] at h
      rw [unL,cutL]
      by_cases hc:c=38
      · rw [if_pos hc,if_pos hc]
        simp only
        cases hp:cutL 59 l with
        | none=>rfl
        | some p=>
          obtain⟨a,t⟩:=p
          have:=cut_len hp
          simp only [List.nil_append]
          rw [unL_fuel k (k+1) t (by omega) (by omega)]
      · rw [if_neg hc,if_neg hc,ih l (by omega)]
        cases hp:cutL 38 l with
        | none=>rfl
        | some p=>
          obtain⟨a,t⟩:=p
          have h1:=cut_len hp
          simp only [Option.map_some]
          cases hq:cutL 59 t with
          | none=>rfl
          | some q=>
            obtain⟨b,u⟩:=q
            have h2:=cut_len hq
            simp only
            cases he:entB b with
            | none=>rfl
            | some e=>
              simp only
              rw [unL_fuel k (k+1) u (by omega) (by omega)]
              cases unL (k+1) u <;> rfl
theorem nrm_app (b:UInt8) (hb:b≠13) (hb2:b≠10) (t:List UInt8):∀ n a,a.length≤n→nrm (a++b :: t)=nrm a++b :: nrm t:=by
  intro n
  induction n with
  | zero=>intro a h;obtain rfl:a = []:=List.length_eq_zero_iff.mp (by omega);rw [List.nil_append,nrm_cons b t hb];rfl
  | succ n ih=>
    intro a h
    cases a with
    | nil=>rw [List.nil_append,nrm_cons b t hb];rfl
    | cons c a=>
      simp only [List.length_cons] at h
      rw [List.cons_append]
      by_cases hc:c=13
      · subst hc
        by_cases hd:a.head? = some 10
        · cases a with
          | nil=>cases hd
          | cons d a=>
            obtain rfl:d=10:=Option.some.inj hd
            rw [List.cons_append,nrm_crlf,nrm_crlf,ih a (by simp at h;omega),List.cons_append]
        · rw [nrm_cr a hd,nrm_cr _ (by cases a with|nil=>simp [hb2]|cons d a=>simpa using hd),ih a (by omega),List.cons_append]
      · rw [nrm_cons c _ hc,nrm_cons c _ hc,ih a (by omega),List.cons_append]
theorem nrm_mem {c:UInt8} (hc:c≠10) (hc2:c≠13):∀ n l,l.length≤n→(c∈nrm l↔c∈l):=by
  intro n
  induction n with
  | zero=>intro l h;obtain rfl:l = []:=List.length_eq_zero_iff.mp (by omega);rfl
  | succ n ih=>
    intro l h
    cases l with
    | nil=>rfl
    | cons d l=>
      simp only [List.length_cons] at h
      by_cases hd:d=13
      · subst hd
        by_cases he:l.head? = some 10
        · cases l with
          | nil=>cases he
          | cons e l=>
            obtain rfl:e=10:=Option.some.inj he
            rw [nrm_crlf,List.mem_cons,ih l (by simp at h;omega),List.mem_cons,List.mem_cons]
            simp [hc,hc2]
        · rw [nrm_cr l he,List.mem_cons,ih l (by omega),List.mem_cons]
          simp [hc,hc2]
      · rw [nrm_cons d l hd,List.mem_cons,ih l (by omega),List.mem_cons]
theorem cut_none_iff (c:UInt8) (l:List UInt8):cutL c l=none↔c ∉ l:=by
  induction l with
  | nil=>simp [cutL]
  | cons b l ih=>
    rw [cutL]
    by_cases hb:b=c
    · rw [if_pos hb];simp [hb]
    · rw [if_neg hb,Option.map_eq_none_iff,ih,List.mem_cons]
      exact⟨fun h q=>q.elim (fun e=>hb e.symm) h,fun h q=>h (.inr q)⟩
theorem cut_mk (c:UInt8) (a t:List UInt8) (h:c ∉ a):cutL c (a++c :: t)=some (a,t):=by
  induction a with
  | nil=>rw [List.nil_append,cutL,if_pos rfl]
  | cons b a ih=>
    simp only [List.mem_cons,not_or] at h
    rw [List.cons_append,cutL,if_neg (fun e=>h.1 e.symm),ih h.2]
    rfl
theorem cut_nrm_none {l:List UInt8} (h:cutL 59 l=none):cutL 59 (nrm l)=none:=by
  rw [cut_none_iff] at h ⊢
  rwa [nrm_mem (by decide) (by decide) l.length l (Nat.le_refl _)]
theorem cut_nrm_some {l a t:List UInt8} (h:cutL 59 l=some (a,t)):cutL 59 (nrm l)=some (nrm a,nrm t):=by
  rw [cut_at h,nrm_app 59 (by decide) (by decide) t a.length a (Nat.le_refl _)]
  refine cut_mk 59 _ _ ?_
  rw [nrm_mem (by decide) (by decide) a.length a (Nat.le_refl _)]
  exact cut_no h
theorem nu_bad {b:Nat} {c:UInt8} (hd:dgB b c=none) (l:List UInt8) (h:c∈l):∀ n,nuB b n l=none:=by
  induction l with
  | nil=>cases h
  | cons d l ih=>
    intro n
    rw [nuB]
    rcases List.mem_cons.mp h with rfl|h2
    · rw [hd]
    · cases dgB b d with
      | none=>rfl
      | some x=>exact ih h2 _
theorem rf_bad {b:Nat} {c:UInt8} (hd:dgB b c=none) (l:List UInt8) (h:c∈l):rfB b l=none:=by
  unfold rfB
  rw [nu_bad hd l h]
  split
  · rfl
  · split <;> rfl
theorem ent_bad {c:UInt8} (hc:c=13∨c=10) (l:List UInt8) (h:c∈l):entB l=none:=by
  have d16:dgB 16 c=none:=by rcases hc with rfl|rfl <;> decide
  have d10:dgB 10 c=none:=by rcases hc with rfl|rfl <;> decide
  unfold entB
  rw [if_neg (by rintro rfl;rcases hc with rfl|rfl <;> simp at h),if_neg (by rintro rfl;rcases hc with rfl|rfl <;> simp at h),if_neg (by rintro rfl;rcases hc with rfl|rfl <;> simp at h),if_neg (by rintro rfl;rcases hc with rfl|rfl <;> simp at h),if_neg (by rintro rfl;rcases hc with rfl|rfl <;> simp at h)]
  unfold ndB
  split
  · rename_i r
    have hr:c∈r:=by
      rcases List.mem_cons.mp h with e|e
      · rcases hc with rfl|rfl <;> simp at e
      · exact e
    unfold nrB
    split
    · rename_i u
      have hu:c∈u:=by
        rcases List.mem_cons.mp hr with e|e
        · rcases hc with rfl|rfl <;> simp at e
        · exact e
      exact rf_bad d16 u hu
    · exact rf_bad d10 _ hr
  · rfl
theorem nrm_same:∀ l:List UInt8,13 ∉ l→nrm l=l:=by
  intro l
  induction l with
  | nil=>intro _;rfl
  | cons c l ih=>
    intro h
    simp only [List.mem_cons,not_or] at h
    rw [nrm_cons c l (fun e=>h.1 e.symm),ih h.2]
theorem nrm_ten:∀ n l,l.length≤n→(13:UInt8)∈l→(10:UInt8)∈nrm l:=by
  intro n
  induction n with
  | zero=>intro l h hm;obtain rfl:l = []:=List.length_eq_zero_iff.mp (by omega);cases hm
  | succ n ih=>
    intro l h hm
    cases l with
    | nil=>cases hm
    | cons c l=>
      simp only [List.length_cons] at h
      by_cases hc:c=13
      · subst hc
        by_cases he:l.head? = some 10
        · cases l with
          | nil=>cases he
          | cons e l=>obtain rfl:e=10:=Option.some.inj he;rw [nrm_crlf];exact List.mem_cons_self
        · rw [nrm_cr l he];exact List.mem_cons_self
      · rw [nrm_cons c l hc]
        rcases List.mem_cons.mp hm with e|e
        · exact absurd e.symm hc
        · exact List.mem_cons_of_mem _ (ih l (by omega) e)
theorem ent_nrm (a:List UInt8):entB (nrm a)=entB a:=by
  by_cases h:(13:UInt8)∈a
  · rw [ent_bad (.inl rfl) a h,ent_bad (.inr rfl) _ (nrm_ten a.length a (Nat.le_refl _) h)]
  · rw [nrm_same a h]
theorem unD_eq (k:Nat):∀ l,l.length<k→unD k l=unL k (nrm l):=by
  induction k with
  | zero=>intro l h;omega
  | succ k ih=>
    intro l h
    cases l with
    | nil=>rfl
    | cons c l=>
      simp only [List.length_cons] at h
      rw [unD]
      by_cases hc:c=13
      · subst hc
        rw [if_pos rfl]
        by_cases he:l.head? = some 10
        · cases l with
          | nil=>cases he
          | cons e l=>
            obtain rfl:e=10:=Option.some.inj he
            simp only [List.length_cons] at h
            rw [if_pos he,nrm_crlf,unL,if_neg (by decide),List.tail_cons,ih l (by omega)]
        · rw [if_neg he,nrm_cr l he,unL,if_neg (by decide),ih l (by omega)]
      · rw [if_neg hc,nrm_cons c l hc,unL,ih l (by omega)]
        by_cases h38:c=38
        · rw [if_pos h38,if_pos h38]
          cases hp:cutL 59 l with
          | none=>rw [cut_nrm_none hp]
          | some p=>
            obtain⟨a,t⟩:=p
            have:=cut_len hp
            rw [cut_nrm_some hp]
            simp only
            rw [ent_nrm,ih t (by omega)]
        · rw [if_neg h38,if_neg h38]
theorem cut_g (s:ByteArray) (c:UInt8) (hs:s.size≤4000000):strings_Cut.f s ⟨#[c]⟩=some (cutR s c):=by
  have hi:=cutL_index c s.toList
  have hsl:=length_toList s
  have e1:stringslite_Index.f s ⟨#[c]⟩=some (Lib.indexByte s.toList c):=by
    unfold stringslite_Index.f
    rw [if_pos (by omega),← ByteArray.toList_eq]
    exact congrArg some (Lib.index_one s.toList c)
  unfold strings_Cut.f stringslite_Cut.f cutR
  rw [e1,Option.bind_some]
  cases hc:cutL c s.toList with
  | none=>
    rw [hc] at hi
    rw [hi];rfl
  | some p=>
    rw [hc] at hi
    obtain⟨h1,h2⟩:=hi
    have hl:=congrArg List.length h2
    rw [List.length_append,List.length_cons,hsl] at hl
    have hz:(⟨#[c]⟩ : ByteArray).size=1:=rfl
    rw [h1,hz,w64 (n:=(p.1.length:Int)+((1:Nat):Int)) (by omega) (by omega),if_pos (by omega),if_pos (by omega),if_pos (by omega),if_pos (by omega),if_pos (by omega),Option.bind_some]
    rw [extract_of s 0 _ p.1 (by rw [h2];simp),extract_of s _ s.size p.2 (by rw [h2,show((p.1.length:Int)+((1:Nat):Int)).toNat=p.1.length+1 by omega,List.take_of_length_le (by rw [List.length_append,List.length_cons];omega)];simp)]
def unR (acc:ByteArray) (r:Option (List UInt8)):ByteArray×Bool:=match r with|none=>(⟨#[]⟩,false)|some l=>(acc++B l,true)
theorem bz (a b:ByteArray):(a++b).size=a.size+b.size:=ByteArray.size_append
section
variable {k:Nat} {acc s p1 p2 q1 q2 t:ByteArray}
theorem l0_end (h:strings_Cut.f s ⟨#[38]⟩=some (p1,p2,false)) (hz:acc.size+p1.size≤140737488355328):xml_Unescape.l0 (k+1) acc s=some (acc++p1,true):=by
  rw [xml_Unescape.l0,h,Option.bind_some]
  dsimp only
  rw [if_pos hz,if_neg Bool.false_ne_true]
theorem l0_cut (h:strings_Cut.f s ⟨#[38]⟩=some (p1,p2,true)) (hz:acc.size+p1.size≤140737488355328) (h2:strings_Cut.f p2 ⟨#[59]⟩=some (q1,q2,false)):xml_Unescape.l0 (k+1) acc s=some (⟨#[]⟩,false):=by
  rw [xml_Unescape.l0,h,Option.bind_some]
  dsimp only
  rw [if_pos hz,if_pos rfl,h2,Option.bind_some]
  dsimp only
  rw [if_neg Bool.false_ne_true]
theorem l0_bad (h:strings_Cut.f s ⟨#[38]⟩=some (p1,p2,true)) (hz:acc.size+p1.size≤140737488355328) (h2:strings_Cut.f p2 ⟨#[59]⟩=some (q1,q2,true)) (h3:xml_sign.f q1=some (t,false)):xml_Unescape.l0 (k+1) acc s=some (⟨#[]⟩,false):=by
  rw [xml_Unescape.l0,h,Option.bind_some]
  dsimp only
  rw [if_pos hz,if_pos rfl,h2,Option.bind_some]
  dsimp only
  rw [if_pos rfl,h3,Option.bind_some]
  dsimp only
  rw [if_neg Bool.false_ne_true]
theorem l0_on (h:strings_Cut.f s ⟨#[38]⟩=some (p1,p2,true)) (hz:acc.size+p1.size≤140737488355328) (h2:strings_Cut.f p2 ⟨#[59]⟩=some (q1,q2,true)) (h3:xml_sign.f q1=some (t,true)) (hy:(acc++p1).size+t.size≤140737488355328):xml_Unescape.l0 (k+1) acc s=xml_Unescape.l0 k (acc++p1++t) q2:=by
  rw [xml_Unescape.l0,h,Option.bind_some]
  dsimp only
  rw [if_pos hz,if_pos rfl,h2,Option.bind_some]
  dsimp only
  rw [if_pos rfl,h3,Option.bind_some]
  dsimp only
  rw [if_pos rfl,if_pos hy]
end
theorem cut_no_B {l:List UInt8} {c:UInt8} (hl:l.length≤4000000) (h:cutL c l=none):strings_Cut.f (B l) ⟨#[c]⟩=some (B l,⟨#[]⟩,false):=by
  rw [cut_g _ _ (by rw [B_size];omega),cutR,B_toList,h]
theorem cut_at_B {l a t:List UInt8} {c:UInt8} (hl:l.length≤4000000) (h:cutL c l=some (a,t)):strings_Cut.f (B l) ⟨#[c]⟩=some (B a,B t,true):=by
  rw [cut_g _ _ (by rw [B_size];omega),cutR,B_toList,h]
  rfl
theorem ent_nil:entB []=none:=by decide
theorem un_l0 (n:Nat):∀ (l:List UInt8) (acc:ByteArray),l.length<n→l.length≤4000000→acc.size+4*l.length≤100000000→Ev (fun k=>xml_Unescape.l0 k acc (B l)) (unR acc (unL (l.length+1) l)):=by
  induction n with
  | zero=>intro l acc h _ ha;omega
  | succ n ih=>
    intro l acc h hl ha
    rw [unL_cut _ l (by omega)]
    cases hp:cutL 38 l with
    | none=>exact Ev.step (f:=fun _=>some (acc++B l,true)) (fun k=>l0_end (cut_no_B hl hp) (by rw [B_size];omega)) (Ev.now _)
    | some p=>
      obtain⟨a,t⟩:=p
      have h1:=cut_len hp
      dsimp only
      cases hq:cutL 59 t with
      | none=>exact Ev.step (f:=fun _=>some (⟨#[]⟩,false)) (fun k=>l0_cut (cut_at_B hl hp) (by rw [B_size];omega) (cut_no_B (by omega) hq)) (Ev.now _)
      | some q=>
        obtain⟨b,u⟩:=q
        have h2:=cut_len hq
        dsimp only
        obtain⟨x,hx1,hx2⟩:=sign_eq (B b) (by rw [B_size];omega)
        rw [B_toList] at hx1 hx2
        cases he:entB b with
        | none=>
          rw [he,Option.isSome_none] at hx1
          exact Ev.step (f:=fun _=>some (⟨#[]⟩,false)) (fun k=>l0_bad (cut_at_B hl hp) (by rw [B_size];omega) (cut_at_B (by omega) hq) hx1) (Ev.now _)
        | some e=>
          rw [he,Option.isSome_some] at hx1
          obtain rfl:=hx2 e he
          have hel:=ent_len he
          dsimp only
          have hbz:b.length≠0:=by
            intro z
            rw [List.length_eq_zero_iff.mp z,ent_nil] at he
            cases he
          have hac:(acc++B a++B e).size=acc.size+a.length+e.length:=by rw [bz,bz,B_size,B_size]
          refine Ev.step (f:=fun k=>xml_Unescape.l0 k (acc++B a++B e) (B u)) (fun k=>l0_on (cut_at_B hl hp) (by rw [B_size];omega) (cut_at_B (by omega) hq) hx1 (by rw [bz,B_size,B_size];omega)) ?_
          refine ev_eq (ih u (acc++B a++B e) (by omega) (by omega) (by rw [hac];omega)) ?_
          rw [unL_fuel (u.length+1) (l.length+1) u (by omega) (by omega)]
          cases unL (l.length+1) u with
          | none=>rfl
          | some r=>
            rw [Option.map_some,unR,unR]
            rw [← B_append,← B_append,ByteArray.append_assoc,ByteArray.append_assoc,ByteArray.append_assoc]
theorem rep_f (s:ByteArray) (o w:List UInt8) (hs:s.size≤4000000) (ho:1≤o.length) (hw:w.length=1) (hne:(o == w)=false):strings_ReplaceAll.f s (B o) (B w)=some (B (repR o w s.toList)):=by
  have hc:Lib.countB s (B o)≤s.size:=Lib.countB_le (B o) (by rw [B_size];omega) s.size s (Nat.le_refl _)
  unfold strings_ReplaceAll.f
  rw [if_pos ⟨by omega,by rw [B_size];omega,by rw [B_size,hw];omega⟩]
  congr 1
  show B _=_
  rw [← ByteArray.toList_eq,← ByteArray.toList_eq,← ByteArray.toList_eq,B_toList,B_toList,rep_all _ _ _ hne]
theorem n1_len:∀ l,(n1 l).length≤l.length
  | []=>by rw [n1_nil];simp
  | [c]=>by rw [n1_one];simp
  | c :: d :: r=>by
    by_cases h:c=13∧d=10
    · obtain⟨rfl,rfl⟩:=h
      have:=n1_len r
      rw [n1_two]
      simp only [List.length_cons];omega
    · have:=n1_len (d :: r)
      rw [n1_not c d r h]
      simp only [List.length_cons] at this ⊢;omega
theorem unescape_ev (s:ByteArray) (hs:s.size≤4000000):Ev (fun k=>xml_Unescape.f k s) (unR ⟨#[]⟩ (unL ((nrm s.toList).length+1) (nrm s.toList))):=by
  have hsl:=length_toList s
  have hl:=nrm_len s.toList
  have h1:=n1_len s.toList
  simp only [xml_Unescape.f]
  refine ev_some (rep_f s [13,10] [10] hs (by decide) rfl (by decide)) ?_
  refine ev_some (rep_f (B (repR [13,10] [10] s.toList)) [13] [10] (by rw [B_size];show(n1 s.toList).length≤_;omega) (by decide) rfl (by decide)) ?_
  rw [B_toList,show repR [13] [10] (repR [13,10] [10] s.toList)=nrm s.toList from nrm_eq _]
  exact un_l0 _ (nrm s.toList) ⟨#[]⟩ (Nat.lt_succ_self _) (by omega) (by show 0+_≤_;omega)
def whB (c:UInt8):Bool:=decide (c.toNat=32∨c.toNat=9∨c.toNat=10∨c.toNat=13)
theorem wh_a (c:UInt8):xml_white.f (c.toNat:Int)=some (whB c):=byte_all (P:=fun c=>xml_white.f (c.toNat:Int)=some (whB c)) (by decide +kernel) c
theorem bt_at_pre {s:ByteArray} {pre l:List UInt8} {c:UInt8} (h:s.toList=pre++c :: l):bt s (pre.length:Int)=(c.toNat:Int)∧pre.length<s.size:=bt_pre s pre l c h
theorem len_nx (pre:List UInt8) (c:UInt8) (n:Nat) (h:pre.length<n) (hn:n≤4000000):wrap64 ((pre.length:Int)+1)=(((pre ++ [c]).length:Nat):Int):=pre_next pre c n h (by omega)
theorem sp_l0 (s:ByteArray) (hs:s.size≤4000000) (x3:Int) (ws:List UInt8):∀ (pre rest:List UInt8),s.toList=pre++(ws++rest)→ws.all whB=true→(∀ c,rest.head? = some c→whB c=false) →
    Ev (fun k=>xml_reader_space.l0 k x3 s (pre.length:Int)) (decide (((pre.length+ws.length:Nat):Int)>x3),s,((pre.length+ws.length:Nat):Int)):=by
  induction ws with
  | nil=>
    intro pre rest h _ hr
    cases rest with
    | nil=>
      have:=pre_end s pre h
      exact Ev.step (f:=fun _=>some (decide ((pre.length:Int)>x3),s,(pre.length:Int))) (fun k=>by rw [xml_reader_space.l0,if_neg (by omega)]) (Ev.now _)
    | cons c rest=>
      obtain⟨hb,hlt⟩:=bt_at_pre (h:=h)
      refine Ev.step (f:=fun _=>some (decide ((pre.length:Int)>x3),s,(pre.length:Int))) (fun k=>?_) (Ev.now _)
      rw [xml_reader_space.l0,if_pos (by omega),if_pos (by omega),hb,wh_a,Option.bind_some,hr c rfl,if_neg Bool.false_ne_true]
  | cons c ws ih=>
    intro pre rest h hw hr
    rw [List.cons_append] at h
    obtain⟨hb,hlt⟩:=bt_at_pre (h:=h)
    rw [List.all_cons,Bool.and_eq_true] at hw
    have hnx:=len_nx pre c s.size hlt hs
    have:=ih (pre ++ [c]) rest (by rw [h];simp) hw.2 hr
    refine ev_eq (Ev.step (f:=fun k=>xml_reader_space.l0 k x3 s (((pre ++ [c]).length:Nat):Int)) (fun k=>?_) this) ?_
    · rw [xml_reader_space.l0,if_pos (by omega),if_pos (by omega),hb,wh_a,Option.bind_some,hw.1,if_pos rfl,hnx]
    · rw [List.length_append,List.length_cons,List.length_nil,List.length_cons,show pre.length+(0+1)+ws.length=pre.length+(ws.length+1) by omega]
theorem sp_ev (s:ByteArray) (hs:s.size≤4000000) (pre ws rest:List UInt8) (h:s.toList=pre++(ws++rest)) (hw:ws.all whB=true) (hr:∀ c,rest.head? = some c→whB c=false) :
    Ev (fun k=>xml_reader_space.f k s (pre.length:Int)) (decide (ws ≠ []),s,((pre.length+ws.length:Nat):Int)):=by
  simp only [xml_reader_space.f]
  refine ev_eq (sp_l0 s hs (pre.length:Int) ws pre rest h hw hr) ?_
  congr 1
  rw [decide_eq_decide]
  cases ws with
  | nil=>simp
  | cons c ws=>simp;omega
theorem sp_no (s:ByteArray) (hs:s.size≤4000000) (pre rest:List UInt8) (h:s.toList=pre++rest) (hr:∀ c,rest.head? = some c→whB c=false) :
    Ev (fun k=>xml_reader_space.f k s (pre.length:Int)) (false,s,(pre.length:Int)):=
  sp_ev s hs pre [] rest h rfl hr
theorem hp_eq (s:ByteArray) (p:List UInt8):strings_HasPrefix.f s (B p)=some (s.toList.take p.length == p):=by
  have hsl:=length_toList s
  unfold strings_HasPrefix.f stringslite_HasPrefix.f
  rw [B_size]
  by_cases c:p.length≤s.size
  · rw [if_pos (by omega),if_pos (by omega),if_pos (by omega),toList_extract,B_toList]
    rfl
  · rw [if_neg (by omega)]
    refine congrArg some ?_
    symm
    rw [beq_eq_false_iff_ne]
    intro e
    have:=congrArg List.length e
    rw [List.length_take,hsl] at this
    omega
theorem ext_p {s:ByteArray} {pre l:List UInt8} (h:s.toList=pre++l):(s.extract ((pre.length:Int)).toNat s.size).toList=l:=by
  rw [ext_list,Int.toNat_natCast,h,List.drop_left]
theorem hp_at {s:ByteArray} {pre l:List UInt8} (h:s.toList=pre++l) (p:List UInt8):strings_HasPrefix.f (s.extract ((pre.length:Int)).toNat s.size) (B p)=some (l.take p.length == p):=by
  rw [hp_eq,ext_p h]
theorem eat_yes {s:ByteArray} (hs:s.size≤4000000) {pre p l:List UInt8} (h:s.toList=pre++(p++l)):xml_reader_eat.f s (pre.length:Int) (B p)=some (true,s,(((pre++p).length:Nat):Int)):=by
  have hl:=pre_le s pre (p++l) h
  rw [List.length_append] at hl
  rw [xml_reader_eat.f,if_pos (by omega),if_pos (by omega),hp_at h p,Option.bind_some,List.take_left,beq_self_eq_true,if_pos rfl,B_size,w64 (by omega) (by omega),List.length_append]
  rfl
theorem eat_no {s:ByteArray} (hs:s.size≤4000000) {pre l:List UInt8} (h:s.toList=pre++l) (p:List UInt8) (hn:¬ l.take p.length=p):xml_reader_eat.f s (pre.length:Int) (B p)=some (false,s,(pre.length:Int)):=by
  have hl:=pre_le s pre l h
  rw [xml_reader_eat.f,if_pos (by omega),if_pos (by omega),hp_at h p,Option.bind_some,beq_eq_false_iff_ne.mpr hn,if_neg Bool.false_ne_true]
theorem nm_l0 (s:ByteArray) (hs:s.size≤4000000) (p0:List UInt8) (nm:List UInt8):∀ (done rest:List UInt8),s.toList=(p0++done)++(nm++rest)→nm.all inB=true→(∀ c,rest.head? = some c→inB c=false) →
    Ev (fun k=>xml_reader_name.l0 k (p0.length:Int) s (((p0++done).length:Nat):Int)) (B (done++nm),s,(((p0++(done++nm)).length:Nat):Int)):=by
  have hend:∀ (done rest:List UInt8),s.toList=(p0++done)++rest→(if(0:Int)≤(p0.length:Int) then(if(p0.length:Int)≤(((p0++done).length:Nat):Int) then(if(((p0++done).length:Nat):Int)≤(s.size:Int) then(some (s.extract ((p0.length:Int)).toNat ((((p0++done).length:Nat):Int)).toNat,s,(((p0++done).length:Nat):Int))) else none) else none) else none)=some (B done,s,(((p0++done).length:Nat):Int)):=by
    intro done rest h
    have hl:=pre_le s (p0++done) rest h
    rw [if_pos (by omega),if_pos (by rw [List.length_append];omega),if_pos (by omega),Int.toNat_natCast,Int.toNat_natCast]
    congr 2
    refine(extract_of s _ _ done ?_).trans rfl
    rw [h,List.take_left,List.drop_left]
  induction nm with
  | nil=>
    intro done rest h _ hr
    rw [List.nil_append] at h
    rw [List.append_nil]
    cases rest with
    | nil=>
      have:=pre_end s (p0++done) h
      refine Ev.step (f:=fun _=>some (B done,s,(((p0++done).length:Nat):Int))) (fun k=>?_) (Ev.now _)
      rw [xml_reader_name.l0,if_neg (by omega),hend done [] h]
    | cons c rest=>
      obtain⟨hb,hlt⟩:=bt_at_pre (h:=h)
      refine Ev.step (f:=fun _=>some (B done,s,(((p0++done).length:Nat):Int))) (fun k=>?_) (Ev.now _)
      rw [xml_reader_name.l0,if_pos (by omega),if_pos (by omega),hb,in_a,Option.bind_some,hr c rfl,if_neg Bool.false_ne_true,hend done (c :: rest) h]
  | cons c nm ih=>
    intro done rest h hw hr
    rw [List.cons_append] at h
    obtain⟨hb,hlt⟩:=bt_at_pre (h:=h)
    rw [List.all_cons,Bool.and_eq_true] at hw
    have hnx:=len_nx (p0++done) c s.size hlt hs
    rw [List.append_assoc p0 done [c]] at hnx
    have:=ih (done ++ [c]) rest (by rw [h];simp) hw.2 hr
    refine ev_eq (Ev.step (f:=fun k=>xml_reader_name.l0 k (p0.length:Int) s (((p0++(done ++ [c])).length:Nat):Int)) (fun k=>?_) this) ?_
    · rw [xml_reader_name.l0,if_pos (by omega),if_pos (by omega),hb,in_a,Option.bind_some,hw.1,if_pos rfl,hnx]
    · rw [List.append_assoc done [c] nm];rfl
theorem nm_ev (s:ByteArray) (hs:s.size≤4000000) (pre nm rest:List UInt8) (h:s.toList=pre++(nm++rest)) (hw:nm.all inB=true) (hr:∀ c,rest.head? = some c→inB c=false) :
    Ev (fun k=>xml_reader_name.f k s (pre.length:Int)) (B nm,s,(((pre++nm).length:Nat):Int)):=by
  simp only [xml_reader_name.f]
  have:=nm_l0 s hs pre nm [] rest (by rw [List.append_nil];exact h) hw hr
  rwa [List.append_nil,List.nil_append] at this
theorem e_no60 (c:UInt8):(60:UInt8) ∉ xml_Escape.e c:=byteAll (P:=fun c=>(60:UInt8) ∉ xml_Escape.e c) (by decide +kernel) c
theorem e_no13 (c:UInt8):(13:UInt8) ∉ xml_Escape.e c:=byteAll (P:=fun c=>(13:UInt8) ∉ xml_Escape.e c) (by decide +kernel) c
theorem esc_no60 (t:ByteArray):(60:UInt8) ∉ escB t:=by
  unfold escB
  rw [List.mem_flatMap]
  rintro ⟨c,_,h⟩
  exact e_no60 c h
theorem esc_no13 (t:ByteArray):(13:UInt8) ∉ escB t:=by
  unfold escB
  rw [List.mem_flatMap]
  rintro ⟨c,_,h⟩
  exact e_no13 c h
theorem un_amp (k:Nat) (a rest:List UInt8) (c:UInt8) (h:(59:UInt8) ∉ a) (he:entB a=some [c]):unL (k+1) ((38 :: a ++ [59])++rest)=(unL k rest).map (c :: ·):=by
  have e:(38 :: a ++ [59])++rest=38 :: (a++59 :: rest):=by simp
  rw [e,unL,if_pos rfl,cut_mk 59 a rest h]
  simp only [he]
  rfl
theorem un_esc (k:Nat) (c:UInt8) (rest:List UInt8):unL (k+1) (xml_Escape.e c++rest)=(unL k rest).map (c :: ·):=by
  unfold xml_Escape.e
  split
  · rename_i h;subst h;exact un_amp k [97,109,112] rest 38 (by decide) (by decide)
  · split
    · rename_i h;subst h;exact un_amp k [108,116] rest 60 (by decide) (by decide)
    · split
      · rename_i h;subst h;exact un_amp k [103,116] rest 62 (by decide) (by decide)
      · split
        · rename_i h;subst h;exact un_amp k [113,117,111,116] rest 34 (by decide) (by decide)
        · split
          · rename_i h;subst h;exact un_amp k [35,49,51] rest 13 (by decide) (by decide)
          · rename_i h _ _ _ _
            rw [List.singleton_append,unL,if_neg h]
theorem un_all (l:List UInt8):∀ k,l.length≤k→unL k (l.flatMap xml_Escape.e)=some l:=by
  induction l with
  | nil=>intro k _;cases k <;> rfl
  | cons c l ih=>
    intro k h
    obtain⟨j,rfl⟩ : ∃ j,k=j+1:=⟨k-1,by simp at h;omega⟩
    rw [List.flatMap_cons,un_esc,ih j (by simp at h;omega)]
    rfl
theorem e_pos (c:UInt8):1≤(xml_Escape.e c).length:=byteAll (P:=fun c=>1≤(xml_Escape.e c).length) (by decide +kernel) c
theorem flat_len (l:List UInt8):l.length≤(l.flatMap xml_Escape.e).length:=by
  induction l with
  | nil=>exact Nat.le_refl _
  | cons c l ih=>
    have:=e_pos c
    rw [List.flatMap_cons,List.length_append,List.length_cons]
    omega
theorem unesc_esc (t:ByteArray) (h:(escB t).length≤4000000):Ev (fun k=>xml_Unescape.f k (B (escB t))) (t,true):=by
  have hl:=flat_len t.toList
  refine ev_eq (unescape_ev (B (escB t)) (by rw [B_size];omega)) ?_
  rw [B_toList,nrm_same _ (esc_no13 t)]
  have:unL ((escB t).length+1) (escB t)=some t.toList:=un_all t.toList _ (by unfold escB;omega)
  rw [this,unR]
  show((⟨#[]⟩ : ByteArray)++B t.toList,true)=(t,true)
  rw [of_B,show(⟨#[]⟩ : ByteArray)++t=t from ByteArray.empty_append]
theorem split_wh:∀ l:List UInt8,∃ ws r,l=ws++r∧ws.all whB=true ∧ ∀ c,r.head? = some c→whB c=false
  | []=>⟨[],[],rfl,rfl,fun c h=>by cases h⟩
  | c :: l=>by
    by_cases h:whB c=true
    · obtain⟨ws,r,h1,h2,h3⟩:=split_wh l
      exact⟨c :: ws,r,by rw [h1];rfl,by rw [List.all_cons,h,h2];rfl,h3⟩
    · exact⟨[],c :: l,rfl,rfl,fun d hd=>by cases hd;simpa using h⟩
theorem lp_end {s:ByteArray} {pre tail:List UInt8} (h:s.toList=pre++60 :: 47 :: tail) (d:Int) (kids:List XN):Ev (fun k=>xml_co.lp k s (pre.length:Int) d kids) (true,kids,s,(pre.length:Int)):=by
  have hl:=pre_le s pre _ h
  refine Ev.step (f:=fun _=>some (true,kids,s,(pre.length:Int))) (fun k=>?_) (Ev.now _)
  have hx1:((60 :: 47 :: tail).take ([60]:List UInt8).length == ([60]:List UInt8))=true:=rfl
  have hx2:((60 :: 47 :: tail).take ([60,47]:List UInt8).length == ([60,47]:List UInt8))=true:=rfl
  rw [xml_co.lp,if_pos (by omega),if_pos (by omega),show(⟨#[60]⟩ : ByteArray)=B [60] from rfl,show(⟨#[60,47]⟩ : ByteArray)=B [60,47] from rfl,hp_at h,hp_at h,hx1,hx2,Option.bind_some,if_pos rfl,Option.bind_some,if_pos rfl]
theorem lp_text {s:ByteArray} {pre l:List UInt8} (h:s.toList=pre++l) (hn:l.head? ≠ some 60) (d:Int) (kids:List XN):Ev (fun k=>xml_co.lp k s (pre.length:Int) d kids) (true,kids,s,(pre.length:Int)):=by
  have hl:=pre_le s pre _ h
  refine Ev.step (f:=fun _=>some (true,kids,s,(pre.length:Int))) (fun k=>?_) (Ev.now _)
  have hx:(l.take ([60]:List UInt8).length == ([60]:List UInt8))=false:=by
    rw [beq_eq_false_iff_ne]
    intro e
    cases l with
    | nil=>cases e
    | cons c l=>exact hn (by rw [List.head?_cons];exact congrArg some (List.cons.inj e).1)
  rw [xml_co.lp,if_pos (by omega),if_pos (by omega),show(⟨#[60]⟩ : ByteArray)=B [60] from rfl,hp_at h,hx,Option.bind_some,if_neg Bool.false_ne_true]
theorem nm_head {a:List UInt8} (h:nmB a=true):∃ c l,a=c :: l∧letB c=true∧a.all inB=true:=by
  cases a with
  | nil=>cases h
  | cons c l=>
    rw [nmB,Bool.and_eq_true] at h
    exact⟨c,l,rfl,h.1,by rw [List.all_cons,let_in h.1,h.2];rfl⟩
theorem let47 {c:UInt8} (h:letB c=true):c≠47:=by rintro rfl;revert h;decide
theorem txN_head (n:XN) (h:nmB n.f0.toList=true):∃ c l,txN n []=60 :: c :: l∧c≠47:=by
  obtain⟨c,l,he,hc,_⟩:=nm_head h
  refine⟨c,(l ++ [])++62 :: (escB n.f1++(txL n.f2++60 :: 47 :: (n.f0.toList ++ [62]))),?_,let47 hc⟩
  rw [txN_eq,he]
  rfl
theorem head60 (l:List XN) (tail:List UInt8) (h:∀ x∈l,nmB x.f0.toList=true):∀ c,(txL l++60 :: 47 :: tail).head? = some c→whB c=false:=by
  intro c hc
  have:c=60:=by
    cases l with
    | nil=>rw [txL,List.nil_append,List.head?_cons] at hc;exact(Option.some.inj hc).symm
    | cons x xs=>
      obtain⟨d,l,he,_⟩:=txN_head x (h x List.mem_cons_self)
      rw [txL,he] at hc
      exact(Option.some.inj hc).symm
  rw [this];decide
theorem mayL_mem:∀ {l:List XN} {d:Nat},mayL l d=true → ∀ x∈l,nmB x.f0.toList=true
  | [],_,_=>fun x hx=>by cases hx
  | y :: ys,d,h=>fun x hx=>by
    rw [mayL,Bool.and_eq_true] at h
    rcases List.mem_cons.mp hx with rfl|hx
    · have:=h.1
      rw [mayN_eq,Bool.and_eq_true,Bool.and_eq_true] at this
      exact this.2.1
    · exact mayL_mem h.2 x hx
theorem lp_ev (s:ByteArray) (hs:s.size≤4000000) (N d:Nat) (hd:d≤16) (tail:List UInt8)
    (ih:∀ x,nb x≤N → ∀ (pre rest:List UInt8) (d:Nat),s.toList=pre++(txN x []++rest)→mayN x d=true→Ev (fun k=>xml_el.f k s (pre.length:Int) (d:Int)) (x,true,s,(((pre++txN x []).length:Nat):Int))) (l:List XN) :
    ∀ (done:List XN) (pre:List UInt8),nbl (done++l)≤100000000→nbl l≤N→mayL l (d+1)=true→s.toList=pre++(txL l++60 :: 47 :: tail)→Ev (fun k=>xml_co.lp k s (pre.length:Int) (d:Int) done) (true,done++l,s,(((pre++txL l).length:Nat):Int)):=by
  induction l with
  | nil=>
    intro done pre _ _ _ h
    rw [txL,List.nil_append] at h
    rw [txL,List.append_nil,List.append_nil]
    exact lp_end h d done
  | cons x l ihl=>
    intro done pre hb hN hm h
    have hms:=mayL_mem hm
    rw [mayL,Bool.and_eq_true] at hm
    obtain⟨c,q,he,hc⟩:=txN_head x (hms x List.mem_cons_self)
    have h':s.toList=pre++(txN x []++(txL l++60 :: 47 :: tail)):=by rw [h,txL,List.append_assoc]
    have hl:=pre_le s pre _ h
    have hbl:nbl (x :: l)=nb x+nbl l:=by rw [nbl]
    rw [hbl] at hN
    have hdl:done.length≤100000000:=by
      have:=nbl_len (done++x :: l)
      rw [List.length_append] at this
      omega
    have hw:wrap64 ((d:Int)+1)=((d+1:Nat):Int):=by rw [w64 (by omega) (by omega)];rfl
    have h1:=ih x (by omega) pre (txL l++60 :: 47 :: tail) (d+1) h' hm.1
    have h2:s.toList=(pre++txN x [])++(txL l++60 :: 47 :: tail):=by rw [h',List.append_assoc]
    have h3:=sp_no s hs (pre++txN x []) _ h2 (head60 l tail (fun y hy=>hms y (List.mem_cons_of_mem _ hy)))
    have h4:=ihl (done ++ [x]) (pre++txN x []) (by rw [List.append_assoc];exact hb) (by omega) hm.2 h2
    have hx1:((txL (x :: l)++60 :: 47 :: tail).take ([60]:List UInt8).length == ([60]:List UInt8))=true:=by rw [txL,he];rfl
    have hx2:((txL (x :: l)++60 :: 47 :: tail).take ([60,47]:List UInt8).length == ([60,47]:List UInt8))=false:=by
      rw [txL,he,beq_eq_false_iff_ne]
      intro e
      exact hc (List.cons.inj (List.cons.inj e).2).1
    refine Ev.step (f:=fun k=>(xml_el.f k s (pre.length:Int) ((d+1:Nat):Int)).bind fun e=>(if e.2.1=true then(if done.length<2513169434916 then((xml_reader_space.f k e.2.2.1 e.2.2.2).bind fun a=>xml_co.lp k a.2.1 a.2.2 (d:Int) (done ++ [e.1])) else none) else some (false,done,e.2.2.1,e.2.2.2))) (fun k=>?_) ?_
    · rw [xml_co.lp,if_pos (by omega),if_pos (by omega),show(⟨#[60]⟩ : ByteArray)=B [60] from rfl,show(⟨#[60,47]⟩ : ByteArray)=B [60,47] from rfl,hp_at h,hx1,Option.bind_some,if_pos rfl,hp_at h,hx2,Option.bind_some,if_neg Bool.false_ne_true,hw]
    · refine Ev.bind h1 (ev_pos rfl (ev_pos (by omega) (Ev.bind h3 (ev_eq h4 ?_))))
      rw [List.append_assoc,txL,← List.append_assoc pre]
      rfl
theorem co_ev (s:ByteArray) (hs:s.size≤4000000) (N d:Nat) (hd:d≤16) (hN:N≤100000000)
    (ih:∀ x,nb x≤N → ∀ (pre rest:List UInt8) (d:Nat),s.toList=pre++(txN x []++rest)→mayN x d=true→Ev (fun k=>xml_el.f k s (pre.length:Int) (d:Int)) (x,true,s,(((pre++txN x []).length:Nat):Int)))
    (b:ByteArray) (l:List XN) (pre tail:List UInt8) (hl:nbl l≤N) (hm:mayL l (d+1)=true) (hbl:b.toList = []∨l = []) (h:s.toList=pre++(escB b++(txL l++60 :: 47 :: tail))) :
    Ev (fun k=>xml_co.f k s (pre.length:Int) (d:Int)) (true,b,l,s,(((pre++(escB b++txL l)).length:Nat):Int)):=by
  have hlen:=pre_le s pre _ h
  by_cases hk:l = []
  · subst hk
    rw [txL,List.nil_append] at h
    rw [txL,List.append_nil]
    obtain⟨ws,r,hsp,hw,hr⟩:=split_wh (escB b)
    have h1:s.toList=pre++(ws++(r++60 :: 47 :: tail)):=by rw [h,hsp,List.append_assoc]
    have hr':∀ c,(r++60 :: 47 :: tail).head? = some c→whB c=false:=by
      intro c hc
      cases r with
      | nil=>cases hc;decide
      | cons x r=>exact hr c hc
    have hs1:=sp_ev s hs pre ws _ h1 hw hr'
    have h2:s.toList=(pre++ws)++(r++60 :: 47 :: tail):=by rw [h1,List.append_assoc]
    have hl1:Ev (fun k=>xml_co.lp k s (((pre++ws).length:Nat):Int) (d:Int) []) (true,[],s,(((pre++ws).length:Nat):Int)):=by
      cases r with
      | nil=>exact lp_end h2 d []
      | cons c r=>
        refine lp_text h2 ?_ d []
        intro e
        have hc:c=60:=Option.some.inj e
        have:=esc_no60 b
        rw [hsp,hc] at this
        exact this (List.mem_append_right _ List.mem_cons_self)
    have hex:=ext_p h
    have hi:strings_IndexByte.f (s.extract ((pre.length:Int)).toNat s.size) 60=some ((escB b).length:Int):=by
      unfold strings_IndexByte.f stringslite_IndexByte.f
      rw [← ByteArray.toList_eq,hex,Option.bind_some]
      have:=cutL_index 60 (escB b++60 :: 47 :: tail)
      rw [cut_mk 60 _ _ (esc_no60 b)] at this
      exact congrArg some this.1
    rw [txL,List.nil_append,List.length_append,List.length_cons] at hlen
    have hp:wrap64 ((pre.length:Int)+((escB b).length:Int))=(((pre++escB b).length:Nat):Int):=by rw [w64 (by omega) (by omega),List.length_append];rfl
    have hex2:s.extract ((pre.length:Int)).toNat ((((pre++escB b).length:Nat):Int)).toNat=B (escB b):=by
      rw [Int.toNat_natCast,Int.toNat_natCast]
      refine(extract_of s _ _ (escB b) ?_).trans rfl
      rw [h,← List.append_assoc,List.take_left,List.drop_left]
    rw [← List.length_append] at hs1
    refine Ev.step (f:=fun k=>(xml_reader_space.f k s (pre.length:Int)).bind fun a=>(xml_co.lp k a.2.1 a.2.2 (d:Int) []).bind fun r=>(if r.1=true then(if(0:Int)<(r.2.1.length:Int) then some (true,(⟨#[]⟩ : ByteArray),r.2.1,r.2.2.1,r.2.2.2) else(if 0≤(pre.length:Int) then(if(pre.length:Int)≤(r.2.2.1.size:Int) then((strings_IndexByte.f (r.2.2.1.extract ((pre.length:Int)).toNat r.2.2.1.size) 60).bind fun i=>(if i<0 then some (false,(⟨#[]⟩ : ByteArray),[],r.2.2.1,r.2.2.2) else(if(pre.length:Int)≤wrap64 ((pre.length:Int)+i) then(if wrap64 ((pre.length:Int)+i)≤(r.2.2.1.size:Int) then((xml_Unescape.f k (r.2.2.1.extract ((pre.length:Int)).toNat (wrap64 ((pre.length:Int)+i):Int).toNat)).bind fun t=>some (t.2,t.1,[],r.2.2.1,wrap64 ((pre.length:Int)+i))) else none) else none))) else none) else none)) else some (false,(⟨#[]⟩ : ByteArray),r.2.1,r.2.2.1,r.2.2.2))) (fun k=>by rw [xml_co.f]) ?_
    refine Ev.bind hs1 (Ev.bind hl1 (ev_pos rfl (ev_neg (by simp) (ev_pos (show(0:Int)≤(pre.length:Int) by omega) (ev_pos (show(pre.length:Int)≤(s.size:Int) by omega) (ev_some hi (ev_neg (show ¬ ((escB b).length:Int)<0 by omega) ?_)))))))
    simp only [hp]
    refine ev_pos (by rw [List.length_append];omega) (ev_pos (by rw [List.length_append];omega) ?_)
    rw [hex2]
    refine Ev.bind (unesc_esc b (by omega)) (Ev.now _)
  · have hb0:b.toList = []:=hbl.resolve_right hk
    have hbb:b=⟨#[]⟩:=toList_inj (hb0.trans (B_toList []).symm)
    have he0:escB b = []:=by unfold escB;rw [hb0];rfl
    rw [he0,List.nil_append] at h
    rw [he0,List.nil_append,hbb]
    have hs1:=sp_no s hs pre _ h (head60 l tail (mayL_mem hm))
    have hl1:=lp_ev s hs N d hd tail ih l [] pre (by rw [List.nil_append];omega) hl hm h
    rw [List.nil_append] at hl1
    refine Ev.step (f:=fun k=>_) (fun k=>by rw [xml_co.f]) ?_
    refine Ev.bind hs1 (Ev.bind hl1 (ev_pos rfl (ev_pos ?_ (Ev.now _))))
    have:=List.length_pos_iff.mpr hk
    show(0:Int)<(l.length:Int)
    omega
theorem el_ev (s:ByteArray) (hs:s.size≤4000000) (N:Nat) (hN:N≤100000000):∀ x,nb x≤N → ∀ (pre rest:List UInt8) (d:Nat),s.toList=pre++(txN x []++rest)→mayN x d=true→Ev (fun k=>xml_el.f k s (pre.length:Int) (d:Int)) (x,true,s,(((pre++txN x []).length:Nat):Int)):=by
  induction N with
  | zero=>intro x h;rw [nb_eq] at h;omega
  | succ N ih=>
    intro x hx pre rest d h hm
    rw [nb_eq] at hx
    rw [mayN_eq] at hm
    simp only [Bool.and_eq_true,decide_eq_true_eq] at hm
    obtain⟨hd,hnm,_,hbl,hml⟩:=hm
    obtain⟨a,b,l⟩:=x
    dsimp only at hx hnm hbl hml
    obtain⟨c0,q0,hA,hlet,hin⟩:=nm_head hnm
    have ht:txN ⟨a,b,l⟩ []=60 :: (a.toList++62 :: (escB b++(txL l++60 :: 47 :: (a.toList ++ [62])))):=by rw [txN_eq];simp
    have e0:s.toList=pre++([60]++(a.toList++62 :: (escB b++(txL l++60 :: 47 :: (a.toList++62 :: rest))))):=by rw [h,ht];simp
    have e1:s.toList=(pre ++ [60])++(a.toList++62 :: (escB b++(txL l++60 :: 47 :: (a.toList++62 :: rest)))):=by rw [e0];simp
    have e2:s.toList=((pre ++ [60])++a.toList)++62 :: (escB b++(txL l++60 :: 47 :: (a.toList++62 :: rest))):=by rw [e0];simp
    have e2':s.toList=((pre ++ [60])++a.toList)++([62]++(escB b++(txL l++60 :: 47 :: (a.toList++62 :: rest)))):=by rw [e0];simp
    have e3:s.toList=(((pre ++ [60])++a.toList) ++ [62])++(escB b++(txL l++60 :: 47 :: (a.toList++62 :: rest))):=by rw [e0];simp
    have e4:s.toList=((((pre ++ [60])++a.toList) ++ [62])++(escB b++txL l))++([60,47]++(a.toList++62 :: rest)):=by rw [e0];simp
    have e5:s.toList=(((((pre ++ [60])++a.toList) ++ [62])++(escB b++txL l)) ++ [60,47])++(a.toList++62 :: rest):=by rw [e0];simp
    have e6:s.toList=((((((pre ++ [60])++a.toList) ++ [62])++(escB b++txL l)) ++ [60,47])++a.toList)++62 :: rest:=by rw [e0];simp
    have e6':s.toList=((((((pre ++ [60])++a.toList) ++ [62])++(escB b++txL l)) ++ [60,47])++a.toList)++([62]++rest):=by rw [e0];simp
    have i62:∀ (m:List UInt8) c,(62 :: m).head? = some c→inB c=false:=by intro m c hc;cases hc;decide
    have w62:∀ (m:List UInt8) c,(62 :: m).head? = some c→whB c=false:=by intro m c hc;cases hc;decide
    have hat:Ev (fun k=>xml_el.at_ k s ((((pre ++ [60])++a.toList).length:Nat):Int)) (true,s,((((pre ++ [60])++a.toList).length:Nat):Int)):=by
      refine Ev.step (f:=fun k=>_) (fun k=>by rw [xml_el.at_]) ?_
      exact Ev.bind (sp_no s hs _ _ e2 (w62 _)) (ev_neg Bool.false_ne_true (Ev.now _))
    have hco:=co_ev s hs N d hd (by omega) (ih (by omega)) b l _ (a.toList++62 :: rest) (by omega) hml hbl e3
    have hname:=nm_ev s hs (pre ++ [60]) a.toList _ e1 hin (i62 _)
    have hname2:=nm_ev s hs _ a.toList _ e5 hin (i62 _)
    have hNm:=xname_ev (B a.toList) (by rw [B_size,length_toList];omega)
    rw [B_toList,hnm] at hNm
    have hout:Ev (fun k=>xml_el.out k (B a.toList) b l s ((((((pre ++ [60])++a.toList) ++ [62])++(escB b++txL l)).length:Nat):Int)) ((⟨B a.toList,b,l⟩ : XN),true,s,(((((((((pre ++ [60])++a.toList) ++ [62])++(escB b++txL l)) ++ [60,47])++a.toList) ++ [62]).length:Nat):Int)):=by
      unfold xml_el.out
      refine ev_some (eat_yes hs e4) (ev_pos rfl (Ev.bind hname2 (ev_pos rfl (Ev.bind (sp_no s hs _ _ e6 (w62 _)) (ev_some (eat_yes hs e6') (ev_pos rfl (Ev.now _)))))))
    refine Ev.step (f:=fun k=>_) (fun k=>by rw [xml_el.f,if_neg (by omega)]) ?_
    refine ev_some (eat_yes hs e0) (ev_pos rfl (Ev.bind hname (Ev.bind hNm (ev_pos rfl (Ev.bind hat (ev_pos rfl (ev_some (eat_no hs e2 [47,62] ?_) (ev_neg Bool.false_ne_true (ev_some (eat_yes hs e2') (ev_pos rfl (Ev.bind hco (ev_pos rfl (ev_eq hout ?_)))))))))))))
    · intro e;have:=(List.cons.inj e).1;revert this;decide
    · rw [of_B,ht]
      congr 3
      simp
def LG (l:List UInt8):Bool:=lO l.length l
theorem lg_fuel (k:Nat) (l:List UInt8) (h:l.length≤k):lO k l=LG l:=lO_fuel k l.length l h (Nat.le_refl _)
theorem tailL_take (l:List UInt8):∀ j v r,tailL l j v=some r→tailL (l.take j) j v=some r ∧ ∀ b∈l.take j,128≤b.toNat:=by
  induction l with
  | nil=>
    intro j v r h
    cases j with
    | zero=>exact⟨h,fun b hb=>by simp at hb⟩
    | succ j=>rw [tailL] at h;cases h
  | cons b l ih=>
    intro j v r h
    cases j with
    | zero=>exact⟨by rw [tailL] at h ⊢;exact h,fun b hb=>by simp at hb⟩
    | succ j=>
      rw [tailL] at h
      split at h
      · rename_i c
        obtain⟨h1,h2⟩:=ih j _ r h
        rw [List.take_succ_cons]
        refine⟨by rw [tailL,if_pos c];exact h1,fun x hx=>?_⟩
        rcases List.mem_cons.mp hx with rfl|hx
        · exact c.1
        · exact h2 x hx
      · cases h
theorem seqL_take (l:List UInt8) (j v m:Nat) (h:(seqL l j v m).2≠0):seqL (l.take j) j v m=seqL l j v m∧(seqL l j v m).2=j+1 ∧ ∀ b∈l.take j,128≤b.toNat:=by
  rcases seqL_cases l j v m with e|⟨r,h1,h2⟩
  · rw [e] at h;exact absurd rfl h
  · obtain⟨h3,h4⟩:=tailL_take l j v r h1
    refine⟨?_,by rw [h2],h4⟩
    unfold seqL
    rw [h1,h3]
theorem stL_take (c:UInt8) (l:List UInt8) (hc:128≤c.toNat) (h:(stL (c :: l)).2≠0):stL ((c :: l).take (stL (c :: l)).2)=stL (c :: l) ∧ ∀ b∈(c :: l).take (stL (c :: l)).2,128≤b.toNat:=by
  have key:∀ j v m,stL (c :: l)=seqL l j v m→(∀ t,stL (c :: t)=seqL t j v m)→stL ((c :: l).take (stL (c :: l)).2)=stL (c :: l) ∧ ∀ b∈(c :: l).take (stL (c :: l)).2,128≤b.toNat:=by
    intro j v m e et
    rw [e] at h
    obtain⟨h1,h2,h3⟩:=seqL_take l j v m h
    rw [e,h2,List.take_succ_cons,et]
    refine⟨h1,fun b hb=>?_⟩
    rcases List.mem_cons.mp hb with rfl|hb
    · exact hc
    · exact h3 b hb
  have e0:∀ t,stL (c :: t)=if c.toNat<192 then(0,0) else if c.toNat<224 then seqL t 1 (c.toNat-192) 128 else if c.toNat<240 then seqL t 2 (c.toNat-224) 2048 else if c.toNat<248 then seqL t 3 (c.toNat-240) 65536 else(0,0):=fun t=>by rw [stL,if_neg (by omega)]
  by_cases c1:c.toNat<192
  · rw [e0,if_pos c1] at h;exact absurd rfl h
  · by_cases c2:c.toNat<224
    · exact key 1 _ 128 (by rw [e0,if_neg c1,if_pos c2]) (fun t=>by rw [e0,if_neg c1,if_pos c2])
    · by_cases c3:c.toNat<240
      · exact key 2 _ 2048 (by rw [e0,if_neg c1,if_neg c2,if_pos c3]) (fun t=>by rw [e0,if_neg c1,if_neg c2,if_pos c3])
      · by_cases c4:c.toNat<248
        · exact key 3 _ 65536 (by rw [e0,if_neg c1,if_neg c2,if_neg c3,if_pos c4]) (fun t=>by rw [e0,if_neg c1,if_neg c2,if_neg c3,if_pos c4])
        · rw [e0,if_neg c1,if_neg c2,if_neg c3,if_neg c4] at h;exact absurd rfl h
def okA (c:UInt8):Bool:=decide (c.toNat<128) && chars_Legal.ok (c.toNat:Int)
theorem lg_one (c:UInt8) (l:List UInt8) (h:okA c=true):LG (c :: l)=LG l:=by
  unfold okA at h
  rw [Bool.and_eq_true,decide_eq_true_eq] at h
  have e:stL (c :: l)=(c.toNat,1):=by rw [stL,if_pos h.1]
  unfold LG
  rw [List.length_cons,lO,e,if_neg (by simp)]
  simp only
  rw [h.2,Bool.true_and]
  rfl
theorem lg_list (a:List UInt8) (l:List UInt8) (h:a.all okA=true):LG (a++l)=LG l:=by
  induction a with
  | nil=>rfl
  | cons c a ih=>
    rw [List.all_cons,Bool.and_eq_true] at h
    rw [List.cons_append,lg_one c _ h.1,ih h.2]
theorem e_hi (c:UInt8) (h:128≤c.toNat):xml_Escape.e c = [c]:=by
  have:=byteAll (P:=fun c=>128≤c.toNat→xml_Escape.e c = [c]) (by decide +kernel) c
  exact this h
theorem e_ok (c:UInt8) (h:okA c=true):(xml_Escape.e c).all okA=true:=by
  have:=byteAll (P:=fun c=>okA c=true→(xml_Escape.e c).all okA=true) (by decide +kernel) c
  exact this h
theorem flat_hi (u:List UInt8) (h:∀ b∈u,128≤b.toNat):u.flatMap xml_Escape.e=u:=by
  induction u with
  | nil=>rfl
  | cons c u ih=>rw [List.flatMap_cons,e_hi c (h c List.mem_cons_self),ih (fun b hb=>h b (List.mem_cons_of_mem _ hb))];rfl
theorem lg_step (u X:List UInt8) (c:UInt8) (u':List UInt8) (hu:u=c :: u') (hw:(stL u).2=u.length) (hk:chars_Legal.ok ((stL u).1:Int)=true):LG (u++X)=LG X:=by
  have hne:(stL u).2≠0:=by rw [hw,hu];simp
  have hm:=stL_more u X hne
  subst hu
  unfold LG
  rw [List.cons_append] at hm ⊢
  rw [List.length_cons,lO,hm,if_neg hne,hk,Bool.true_and,hw,List.length_cons,List.drop_succ_cons,List.drop_left]
  refine lO_fuel _ _ _ ?_ (Nat.le_refl _)
  rw [List.length_append];omega
theorem lg_esc (n:Nat):∀ (t X:List UInt8),t.length≤n→LG t=true→LG (t.flatMap xml_Escape.e++X)=LG X:=by
  induction n with
  | zero=>
    intro t X h _
    obtain rfl:t = []:=List.length_eq_zero_iff.mp (by omega)
    rfl
  | succ n ih=>
    intro t X h hl
    cases t with
    | nil=>rfl
    | cons c l=>
      have hl0:=hl
      unfold LG at hl
      rw [List.length_cons,lO] at hl
      by_cases hz:(stL (c :: l)).2=0
      · rw [if_pos hz] at hl;cases hl
      · rw [if_neg hz,Bool.and_eq_true] at hl
        obtain⟨hok,hrest⟩:=hl
        have hwid:=st_wid (c :: l)
        have hdl:((c :: l).drop (stL (c :: l)).2).length≤l.length:=by rw [List.length_drop,List.length_cons];omega
        rw [lg_fuel _ _ hdl] at hrest
        simp only [List.length_cons] at h
        by_cases hc:c.toNat<128
        · have e:stL (c :: l)=(c.toNat,1):=by rw [stL,if_pos hc]
          rw [e] at hok hrest
          have hA:okA c=true:=by unfold okA;rw [decide_eq_true hc,Bool.true_and];exact hok
          rw [List.flatMap_cons,List.append_assoc,lg_list _ _ (e_ok c hA)]
          exact ih l X (by omega) hrest
        · obtain⟨h1,h2⟩:=stL_take c l (by omega) hz
          have hsp:=List.take_append_drop (stL (c :: l)).2 (c :: l)
          have hul:((c :: l).take (stL (c :: l)).2).length=(stL (c :: l)).2:=by rw [List.length_take];omega
          obtain⟨w,hw⟩ : ∃ w,(stL (c :: l)).2=w+1:=⟨(stL (c :: l)).2-1,by omega⟩
          have hcons:(c :: l).take (stL (c :: l)).2=c :: l.take w:=by rw [hw,List.take_succ_cons]
          have hstep:=fun Y=>lg_step ((c :: l).take (stL (c :: l)).2) Y c (l.take w) hcons (by rw [h1,hul]) (by rw [h1];exact hok)
          have hd:((c :: l).drop (stL (c :: l)).2).length≤n:=by omega
          have:=ih _ X hd hrest
          have e:(c :: l).flatMap xml_Escape.e=(c :: l).take (stL (c :: l)).2++((c :: l).drop (stL (c :: l)).2).flatMap xml_Escape.e:=by
            have e2:(c :: l).flatMap xml_Escape.e=(((c :: l).take (stL (c :: l)).2)++((c :: l).drop (stL (c :: l)).2)).flatMap xml_Escape.e:=by rw [hsp]
            rw [e2,List.flatMap_append,flat_hi _ h2]
          rw [e,List.append_assoc,hstep,this]
theorem in_okA (c:UInt8) (h:inB c=true):okA c=true:=by
  have:=byteAll (P:=fun c=>inB c=true→okA c=true) (by decide +kernel) c
  exact this h
theorem nm_ok {a:List UInt8} (h:nmB a=true):a.all okA=true:=by
  obtain⟨_,_,_,_,hin⟩:=nm_head h
  rw [List.all_eq_true] at hin ⊢
  exact fun c hc=>in_okA c (hin c hc)
mutual
theorem lg_tx:∀ (x:XN) (d:Nat) (X:List UInt8),mayN x d=true→LG (txN x []++X)=LG X
  | ⟨a,b,l⟩,d,X,hm=>by
    rw [mayN] at hm
    simp only [Bool.and_eq_true,decide_eq_true_eq] at hm
    obtain⟨_,hnm,hlg,_,hml⟩:=hm
    have hA:=nm_ok hnm
    have hlg':LG b.toList=true:=by unfold LG;rw [length_toList];exact hlg
    have e:txN ⟨a,b,l⟩ []++X=(60 :: (a.toList ++ [62]))++(escB b++(txL l++((60 :: 47 :: (a.toList ++ [62]))++X))):=by rw [txN];simp
    rw [e,lg_list _ _ (by rw [List.all_cons,List.all_append,hA];decide)]
    unfold escB
    rw [lg_esc b.toList.length b.toList _ (Nat.le_refl _) hlg',lg_txL l (d+1) _ hml,lg_list _ _ (by rw [List.all_cons,List.all_cons,List.all_append,hA];decide)]
theorem lg_txL:∀ (l:List XN) (d:Nat) (X:List UInt8),mayL l d=true→LG (txL l++X)=LG X
  | [],_,_,_=>by rw [txL];rfl
  | x :: xs,d,X,hm=>by
    rw [mayL,Bool.and_eq_true] at hm
    rw [txL,List.append_assoc,lg_tx x d _ hm.1,lg_txL xs d X hm.2]
end
theorem split_in:∀ l:List UInt8,∃ nm r,l=nm++r∧nm.all inB=true ∧ ∀ c,r.head? = some c→inB c=false
  | []=>⟨[],[],rfl,rfl,fun c h=>by cases h⟩
  | c :: l=>by
    by_cases h:inB c=true
    · obtain⟨nm,r,h1,h2,h3⟩:=split_in l
      exact⟨c :: nm,r,by rw [h1];rfl,by rw [List.all_cons,h,h2];rfl,h3⟩
    · exact⟨[],c :: l,rfl,rfl,fun d hd=>by cases hd;simpa using h⟩
section
variable {s:ByteArray} {pre l:List UInt8}
theorem sp_tot (hs:s.size≤4000000) (h:s.toList=pre++l):∃ ws r,l=ws++r∧ws.all whB=true∧(∀ c,r.head? = some c→whB c=false)∧s.toList=(pre++ws)++r∧Ev (fun k=>xml_reader_space.f k s (pre.length:Int)) (decide (ws ≠ []),s,(((pre++ws).length:Nat):Int)):=by
  obtain⟨ws,r,h1,h2,h3⟩:=split_wh l
  have:=sp_ev s hs pre ws r (by rw [h,h1]) h2 h3
  rw [← List.length_append] at this
  exact⟨ws,r,h1,h2,h3,by rw [h,h1,List.append_assoc],this⟩
theorem nm_tot (hs:s.size≤4000000) (h:s.toList=pre++l):∃ nm r,l=nm++r∧s.toList=(pre++nm)++r∧Ev (fun k=>xml_reader_name.f k s (pre.length:Int)) (B nm,s,(((pre++nm).length:Nat):Int)):=by
  obtain⟨nm,r,h1,h2,h3⟩:=split_in l
  exact⟨nm,r,h1,by rw [h,h1,List.append_assoc],nm_ev s hs pre nm r (by rw [h,h1]) h2 h3⟩
theorem eat_tot (hs:s.size≤4000000) (h:s.toList=pre++l) (p:List UInt8):(∃ r,l=p++r∧s.toList=(pre++p)++r∧xml_reader_eat.f s (pre.length:Int) (B p)=some (true,s,(((pre++p).length:Nat):Int)))∨xml_reader_eat.f s (pre.length:Int) (B p)=some (false,s,(pre.length:Int)):=by
  by_cases c:l.take p.length=p
  · left
    have e:l=p++l.drop p.length:=by
      have:=List.take_append_drop p.length l
      rw [c] at this
      exact this.symm
    exact⟨l.drop p.length,e,by rw [h,List.append_assoc,← e],eat_yes hs (by rw [h,← e])⟩
  · exact .inr (eat_no hs h p c)
theorem isnm_tot (nm:List UInt8) (h:nm.length≤4000000):Ev (fun k=>xml_Name.f k (B nm)) (nmB nm):=by
  have:=xname_ev (B nm) (by rw [B_size];omega)
  rwa [B_toList] at this
theorem toU8 (c:UInt8):((c.toNat:Int)).toNat.toUInt8=c:=by
  rw [Int.toNat_natCast]
  exact UInt8.ofNat_toNat
theorem any_tot (a b:ByteArray) (h:a.size≤4000000) (hb:b=⟨#[60,38]⟩):∃ c,strings_ContainsAny.f a b=some c:=by
  unfold strings_ContainsAny.f
  rw [if_pos ⟨by omega,hb⟩]
  exact⟨_,rfl⟩
set_option maxHeartbeats 1000000 in
theorem at2_tot (hs:s.size≤4000000) (h:s.toList=pre++l):∃ b m r,l=m++r∧s.toList=(pre++m)++r∧xml_reader_attribute.r2 s (pre.length:Int)=some (b,s,(((pre++m).length:Nat):Int)):=by
  have hl:=pre_le s pre l h
  have stay:∀ b:Bool,xml_reader_attribute.r2 s (pre.length:Int)=some (b,s,(pre.length:Int)) → ∃ b m r,l=m++r∧s.toList=(pre++m)++r∧xml_reader_attribute.r2 s (pre.length:Int)=some (b,s,(((pre++m).length:Nat):Int)):=fun b e=>⟨b,[],l,rfl,by rw [List.append_nil];exact h,by rw [List.append_nil];exact e⟩
  cases l with
  | nil=>
    have:=pre_end s pre h
    refine stay false ?_
    rw [xml_reader_attribute.r2,if_pos (by omega),if_pos (by omega),if_pos (by omega)]
  | cons c t=>
    rw [List.length_cons] at hl
    have hl1:(pre ++ [c]).length=pre.length+1:=by simp
    have p1:(0:Int)≤(pre.length:Int):=by omega
    have p2:(pre.length:Int)≤(s.size:Int):=by omega
    have p3:¬ (pre.length:Int)=(s.size:Int):=by omega
    have p4:(0:Int)≤(((pre ++ [c]).length:Nat):Int):=by omega
    have p5:(((pre ++ [c]).length:Nat):Int)≤(s.size:Int):=by omega
    obtain⟨hb,hlt⟩:=bt_at_pre (h:=h)
    have h1:s.toList=(pre ++ [c])++t:=by rw [h];simp
    have hw:wrap64 ((pre.length:Int)+1)=(((pre ++ [c]).length:Nat):Int):=len_nx pre c s.size hlt hs
    by_cases hm:((c.toNat:Int)=34∨(c.toNat:Int)=39)
    · have hix:strings_IndexByte.f (s.extract ((((pre ++ [c]).length:Nat):Int)).toNat s.size) (c.toNat:Int)=some (Lib.indexByte t c):=by
        unfold strings_IndexByte.f stringslite_IndexByte.f
        rw [← ByteArray.toList_eq,ext_p h1,Option.bind_some,toU8]
      have hci:=cutL_index c t
      cases hcut:cutL c t with
      | none=>
        rw [hcut] at hci
        refine stay false ?_
        rw [xml_reader_attribute.r2,if_pos p1,if_pos p2,if_neg p3,hb,if_pos hm,hw,if_pos p4,if_pos p5,hix,Option.bind_some,hci,if_pos (by decide)]
      | some q=>
        obtain⟨a,u⟩:=q
        rw [hcut] at hci
        obtain⟨hi,ht⟩:=hci
        dsimp only at hi ht
        have htl:=congrArg List.length ht
        rw [List.length_append,List.length_cons] at htl
        have p6:(((pre ++ [c]).length:Nat):Int)≤((pre.length+1+a.length:Nat):Int):=by clear hb hw hi hix;omega
        have p7:((pre.length+1+a.length:Nat):Int)≤(s.size:Int):=by clear hb hw hi hix;omega
        have p8:¬ (a.length:Int)<0:=by clear hb hw hi hix;omega
        have hw2:wrap64 ((((pre ++ [c]).length:Nat):Int)+(a.length:Int))=((pre.length+1+a.length:Nat):Int):=by clear hb hw hi hix;rw [w64 (by omega) (by omega)];omega
        obtain⟨v,hv⟩:=any_tot (s.extract ((((pre ++ [c]).length:Nat):Int)).toNat (((pre.length+1+a.length:Nat):Int)).toNat) (⟨#[60,38]⟩ : ByteArray) (by clear hb hw hi hix hw2;rw [ByteArray.size_extract];omega) rfl
        have hw3:wrap64 ((pre.length:Int)+wrap64 ((a.length:Int)+2))=(((pre++(c :: a ++ [c])).length:Nat):Int):=by
          clear hb hw hi hix hw2 hv
          rw [w64 (n:=(a.length:Int)+2) (by omega) (by omega),w64 (by omega) (by omega),List.length_append]
          simp only [List.length_append,List.length_cons,List.length_nil]
          omega
        have hr:xml_reader_attribute.r2 s (pre.length:Int)=(if v=true then some (false,s,(pre.length:Int)) else some (true,s,(((pre++(c :: a ++ [c])).length:Nat):Int))):=by
          rw [xml_reader_attribute.r2,if_pos p1,if_pos p2,if_neg p3,hb,if_pos hm,hw,if_pos p4,if_pos p5,hix,Option.bind_some,hi,if_neg p8,hw2,if_pos p6,if_pos p7,hv,Option.bind_some,hw3]
        cases v with
        | true=>exact stay false (by rw [hr,if_pos rfl])
        | false=>
          rw [if_neg Bool.false_ne_true] at hr
          exact⟨true,c :: a ++ [c],u,by rw [ht];simp,by rw [h,ht];simp,hr⟩
    · refine stay false ?_
      rw [xml_reader_attribute.r2,if_pos p1,if_pos p2,if_neg p3,hb,if_neg hm]
theorem at1_tot (hs:s.size≤4000000) (h:s.toList=pre++l):∃ b m r,l=m++r∧s.toList=(pre++m)++r∧Ev (fun k=>xml_reader_attribute.r1 k s (pre.length:Int)) (b,s,(((pre++m).length:Nat):Int)):=by
  obtain⟨w1,l1,e1,_,_,h1,v1⟩:=sp_tot hs h
  unfold xml_reader_attribute.r1
  rcases eat_tot hs h1 [61] with⟨l2,e2,h2,v2⟩|v2
  · obtain⟨w3,l3,e3,_,_,h3,v3⟩:=sp_tot hs h2
    obtain⟨b,m,r,e4,h4,v4⟩:=at2_tot hs h3
    refine⟨b,w1++([61]++(w3++m)),r,by rw [e1,e2,e3,e4];simp,by rw [h4];simp,?_⟩
    refine ev_eq (Ev.bind v1 (ev_some v2 (ev_pos rfl (Ev.bind v3 (Ev.congr (fun _=>v4) (Ev.now _)))))) ?_
    simp only [List.append_assoc]
  · exact⟨false,w1,l1,e1,h1,Ev.bind v1 (ev_some v2 (ev_neg Bool.false_ne_true (Ev.now _)))⟩
theorem at_tot1 (hs:s.size≤4000000) (h:s.toList=pre++l):∃ b m r,l=m++r∧s.toList=(pre++m)++r∧Ev (fun k=>xml_reader_attribute.f k s (pre.length:Int)) (b,s,(((pre++m).length:Nat):Int))∧(b=true→m ≠ []):=by
  obtain⟨nm,l1,e1,h1,v1⟩:=nm_tot hs h
  have hl:=pre_le s pre l h
  rw [e1,List.length_append] at hl
  have n1:=isnm_tot nm (by omega)
  unfold xml_reader_attribute.f
  cases hn:nmB nm with
  | false=>
    rw [hn] at n1
    exact⟨false,nm,l1,e1,h1,Ev.bind v1 (Ev.bind n1 (ev_neg Bool.false_ne_true (Ev.now _))),fun q=>by cases q⟩
  | true=>
    rw [hn] at n1
    have hne:nm ≠ []:=by rintro rfl;cases hn
    rcases eat_tot hs h1 [58] with⟨l2,e2,h2,v2⟩|v2
    · obtain⟨n2,l3,e3,h3,v3⟩:=nm_tot hs h2
      have hl3:=congrArg List.length e3
      have hl4:=congrArg List.length e2
      rw [List.length_append] at hl3 hl4
      have n3:=isnm_tot n2 (by omega)
      cases hn2:nmB n2 with
      | false=>
        rw [hn2] at n3
        refine⟨false,nm++([58]++n2),l3,by rw [e1,e2,e3];simp,by rw [h3];simp,ev_eq (Ev.bind v1 (Ev.bind n1 (ev_pos rfl (ev_some v2 (ev_pos rfl (Ev.bind v3 (Ev.bind n3 (ev_neg Bool.false_ne_true (Ev.now _))))))))) ?_,fun q=>by cases q⟩
        simp only [List.append_assoc]
      | true=>
        rw [hn2] at n3
        obtain⟨b,m,r,e4,h4,v4⟩:=at1_tot hs h3
        refine⟨b,nm++([58]++(n2++m)),r,by rw [e1,e2,e3,e4];simp,by rw [h4];simp,ev_eq (Ev.bind v1 (Ev.bind n1 (ev_pos rfl (ev_some v2 (ev_pos rfl (Ev.bind v3 (Ev.bind n3 (ev_pos rfl v4)))))))) ?_,fun _ q=>hne (List.append_eq_nil_iff.mp q).1⟩
        simp only [List.append_assoc]
    · obtain⟨b,m,r,e4,h4,v4⟩:=at1_tot hs h1
      refine⟨b,nm++m,r,by rw [e1,e4];simp,by rw [h4];simp,ev_eq (Ev.bind v1 (Ev.bind n1 (ev_pos rfl (ev_some v2 (ev_neg Bool.false_ne_true v4))))) ?_,fun _ q=>hne (List.append_eq_nil_iff.mp q).1⟩
      simp only [List.append_assoc]
end
theorem lg_first {c:UInt8} {l:List UInt8} (h:LG (c :: l)=true):(okA c=true∧LG l=true)∨(128≤c.toNat∧(stL (c :: l)).2≠0∧chars_Legal.ok ((stL (c :: l)).1:Int)=true∧LG ((c :: l).drop (stL (c :: l)).2)=true):=by
  unfold LG at h
  rw [List.length_cons,lO] at h
  by_cases hz:(stL (c :: l)).2=0
  · rw [if_pos hz] at h;cases h
  · rw [if_neg hz,Bool.and_eq_true] at h
    obtain⟨hok,hrest⟩:=h
    have hwid:=st_wid (c :: l)
    have hdl:((c :: l).drop (stL (c :: l)).2).length≤l.length:=by rw [List.length_drop,List.length_cons];omega
    rw [lg_fuel _ _ hdl] at hrest
    by_cases hc:c.toNat<128
    · left
      have e:stL (c :: l)=(c.toNat,1):=by rw [stL,if_pos hc]
      rw [e] at hok hrest
      exact⟨by unfold okA;rw [decide_eq_true hc,Bool.true_and];exact hok,hrest⟩
    · right
      exact⟨by omega,hz,hok,hrest⟩
theorem lg_multi {c:UInt8} {l:List UInt8} (hc:128≤c.toNat) (hz:(stL (c :: l)).2≠0):∃ u X,c :: l=u++X∧u.length=(stL (c :: l)).2∧u ≠ []∧stL u=stL (c :: l)∧(∀ b∈u,128≤b.toNat)∧(c :: l).drop (stL (c :: l)).2=X:=by
  obtain⟨h1,h2⟩:=stL_take c l hc hz
  have hwid:=st_wid (c :: l)
  have hul:((c :: l).take (stL (c :: l)).2).length=(stL (c :: l)).2:=by rw [List.length_take];omega
  refine⟨(c :: l).take (stL (c :: l)).2,(c :: l).drop (stL (c :: l)).2,(List.take_append_drop _ _).symm,hul,?_,h1,h2,rfl⟩
  intro e
  rw [e] at hul
  exact hz hul.symm
theorem lg_part {u X:List UInt8} (hu:u ≠ []) (hw:(stL u).2=u.length) (hk:chars_Legal.ok ((stL u).1:Int)=true):LG (u++X)=LG X:=by
  cases u with
  | nil=>exact absurd rfl hu
  | cons c u=>exact lg_step (c :: u) X c u rfl hw hk
theorem lg_split (n:Nat):∀ (a:List UInt8) (c:UInt8) (l:List UInt8),a.length≤n→c.toNat<128→LG (a++c :: l)=true→LG a=true∧LG l=true:=by
  induction n with
  | zero=>
    intro a c l h hc hg
    obtain rfl:a = []:=List.length_eq_zero_iff.mp (by omega)
    rw [List.nil_append] at hg
    rcases lg_first hg with⟨_,h2⟩|⟨h2,_⟩
    · exact⟨rfl,h2⟩
    · omega
  | succ n ih=>
    intro a c l h hc hg
    cases a with
    | nil=>
      rw [List.nil_append] at hg
      rcases lg_first hg with⟨_,h2⟩|⟨h2,_⟩
      · exact⟨rfl,h2⟩
      · omega
    | cons x a=>
      rw [List.length_cons] at h
      rw [List.cons_append] at hg
      rcases lg_first hg with⟨h1,h2⟩|⟨h1,hz,hok,hrest⟩
      · obtain⟨h3,h4⟩:=ih a c l (by omega) hc h2
        exact⟨by rw [lg_one x a h1];exact h3,h4⟩
      · obtain⟨u,X,e,hul,hun,hst,hhi,hdr⟩:=lg_multi h1 hz
        rw [hdr] at hrest
        have hul2:=List.length_pos_iff.mpr hun
        have hle:u.length≤(x :: a).length:=by
          refine Classical.byContradiction fun q=>?_
          have e2:(x :: a)++c :: l=u++X:=e
          have hg1:((x :: a)++c :: l)[(x :: a).length]? = some c:=by rw [List.getElem?_append_right (Nat.le_refl _),Nat.sub_self];rfl
          rw [e2,List.getElem?_append_left (by omega)] at hg1
          have:=hhi c (List.mem_of_getElem? hg1)
          omega
        obtain⟨b,hb⟩ : ∃ b,x :: a=u++b:=by
          refine⟨(x :: a).drop u.length,?_⟩
          have e2:(x :: a)++c :: l=u++X:=e
          have:=congrArg (List.take u.length) e2
          rw [List.take_append_of_le_length hle,List.take_left] at this
          rw [← this]
          rw [this]
          have h3:=List.take_append_drop u.length (x :: a)
          rw [this] at h3
          exact h3.symm
        have hX:X=b++c :: l:=by
          have e2:(x :: a)++c :: l=u++X:=e
          rw [hb,List.append_assoc] at e2
          exact(List.append_cancel_left e2).symm
        rw [hX] at hrest
        have hbl:b.length≤n:=by
          have:=congrArg List.length hb
          rw [List.length_append,List.length_cons] at this
          omega
        obtain⟨h3,h4⟩:=ih b c l hbl hc hrest
        exact⟨by rw [hb,lg_part hun (by rw [hst,hul]) (by rw [hst];exact hok)];exact h3,h4⟩
theorem lg_cut {a l:List UInt8} {c:UInt8} (hc:c.toNat<128) (h:LG (a++c :: l)=true):LG a=true∧LG l=true:=lg_split a.length a c l (Nat.le_refl _) hc h
theorem rf_lg {b:Nat} {l r:List UInt8} (h:rfB b l=some r) (X:List UInt8):LG (r++X)=LG X:=by
  unfold rfB at h
  split at h
  · cases h
  · split at h
    · cases h
    · split at h
      · cases h
      · split at h
        · rename_i n _ hk
          cases h
          have ho:=ch_ok _ hk
          have hs:=st_enc _ ho
          refine lg_part ?_ ?_ ?_
          · intro e
            have:=enc_len n
            rw [e] at this
            simp at this
          · rw [hs]
          · rw [hs]
            unfold chN at hk
            rw [Bool.and_eq_true] at hk
            exact hk.2
        · cases h
theorem ent_lg {l r:List UInt8} (h:entB l=some r) (X:List UInt8):LG (r++X)=LG X:=by
  have one:∀ c:UInt8,okA c=true→LG ([c]++X)=LG X:=fun c hc=>lg_one c X hc
  unfold entB at h
  split at h
  · cases h;exact one 38 (by decide)
  · split at h
    · cases h;exact one 60 (by decide)
    · split at h
      · cases h;exact one 62 (by decide)
      · split at h
        · cases h;exact one 34 (by decide)
        · split at h
          · cases h;exact one 39 (by decide)
          · unfold ndB at h
            split at h
            · unfold nrB at h
              split at h <;> exact rf_lg h X
            · cases h
theorem unD_hi (u X:List UInt8) (hu:∀ b∈u,128≤b.toNat):∀ k,u.length+X.length<k→unD k (u++X)=(unD (k-u.length) X).map (u ++ ·):=by
  induction u with
  | nil=>intro k _;rw [List.nil_append,List.length_nil,Nat.sub_zero];cases unD k X <;> rfl
  | cons c u ih=>
    intro k hk
    rw [List.length_cons] at hk
    obtain⟨j,rfl⟩ : ∃ j,k=j+1:=⟨k-1,by omega⟩
    have hc:=hu c List.mem_cons_self
    have h13:c≠13:=by rintro rfl;revert hc;decide
    have h38:c≠38:=by rintro rfl;revert hc;decide
    rw [List.cons_append,unD,if_neg h13,if_neg h38,ih (fun b hb=>hu b (List.mem_cons_of_mem _ hb)) j (by omega),List.length_cons,show j+1-(u.length+1)=j-u.length by omega]
    cases unD (j-u.length) X <;> rfl
theorem unD_lg (n:Nat):∀ (l r:List UInt8) (k:Nat),l.length≤n→l.length<k→LG l=true→unD k l=some r→LG r=true:=by
  induction n with
  | zero=>
    intro l r k h hk _ hr
    obtain rfl:l = []:=List.length_eq_zero_iff.mp (by omega)
    obtain⟨j,rfl⟩ : ∃ j,k=j+1:=⟨k-1,by omega⟩
    cases hr;rfl
  | succ n ih=>
    intro l r k h hk hg hr
    obtain⟨j,rfl⟩ : ∃ j,k=j+1:=⟨k-1,by omega⟩
    cases l with
    | nil=>cases hr;rfl
    | cons c l=>
      rw [List.length_cons] at h hk
      rcases lg_first hg with⟨h1,h2⟩|⟨h1,hz,hok,hrest⟩
      · rw [unD] at hr
        by_cases c13:c=13
        · rw [if_pos c13] at hr
          by_cases hd:l.head? = some 10
          · rw [if_pos hd] at hr
            cases l with
            | nil=>cases hd
            | cons d l=>
              rw [List.tail_cons] at hr
              rw [List.length_cons] at h hk
              cases hu:unD j l with
              | none=>rw [hu] at hr;cases hr
              | some q=>
                rw [hu] at hr
                cases hr
                obtain rfl:d=10:=Option.some.inj hd
                rcases lg_first h2 with⟨_,h3⟩|⟨h3,_⟩
                · rw [lg_one 10 q (by decide)]
                  exact ih l q j (by omega) (by omega) h3 hu
                · exact absurd h3 (by decide)
          · rw [if_neg hd] at hr
            cases hu:unD j l with
            | none=>rw [hu] at hr;cases hr
            | some q=>
              rw [hu] at hr
              cases hr
              rw [lg_one 10 q (by decide)]
              exact ih l q j (by omega) (by omega) h2 hu
        · rw [if_neg c13] at hr
          by_cases c38:c=38
          · rw [if_pos c38] at hr
            cases hp:cutL 59 l with
            | none=>rw [hp] at hr;cases hr
            | some p=>
              obtain⟨a,t⟩:=p
              rw [hp] at hr
              have ht:=cut_at hp
              have hlen:=cut_len hp
              dsimp only at hr
              cases he:entB a with
              | none=>rw [he] at hr;cases hr
              | some e=>
                rw [he] at hr
                dsimp only at hr
                cases hu:unD j t with
                | none=>rw [hu] at hr;cases hr
                | some q=>
                  rw [hu] at hr
                  cases hr
                  rw [ht] at h2
                  show LG (e++q)=true
                  rw [ent_lg he]
                  exact ih t q j (by omega) (by omega) (lg_cut (by decide) h2).2 hu
          · rw [if_neg c38] at hr
            cases hu:unD j l with
            | none=>rw [hu] at hr;cases hr
            | some q=>
              rw [hu] at hr
              cases hr
              show LG (c :: q)=true
              rw [lg_one c q h1]
              exact ih l q j (by omega) (by omega) h2 hu
      · obtain⟨u,X,e,hul,hun,hst,hhi,hdr⟩:=lg_multi h1 hz
        rw [hdr] at hrest
        have hup:=List.length_pos_iff.mpr hun
        have hlen:=congrArg List.length e
        rw [List.length_append,List.length_cons] at hlen
        rw [e,unD_hi u X hhi (j+1) (by omega)] at hr
        cases hu:unD (j+1-u.length) X with
        | none=>rw [hu] at hr;cases hr
        | some q=>
          rw [hu] at hr
          cases hr
          show LG (u++q)=true
          rw [lg_part hun (by rw [hst,hul]) (by rw [hst];exact hok)]
          exact ih X q _ (by omega) (by omega) hrest hu
theorem wh_ok {ws:List UInt8} (h:ws.all whB=true):ws.all okA=true:=by
  rw [List.all_eq_true] at h ⊢
  intro c hc
  have:=byteAll (P:=fun c=>whB c=true→okA c=true) (by decide +kernel) c
  exact this (h c hc)
theorem el_unf {s:ByteArray} {p d:Int} (hd:¬ d>16) {q:XN×Bool×ByteArray×Int} (h:Ev (fun k=>(xml_reader_eat.f s p (⟨#[60]⟩ : ByteArray)).bind fun e=>(if e.1=true then((xml_reader_name.f k e.2.1 e.2.2).bind fun n=>(xml_Name.f k n.1).bind fun v=>(if v=true then((xml_el.at_ k n.2.1 n.2.2).bind fun a=>(if a.1=true then((xml_reader_eat.f a.2.1 a.2.2 (⟨#[47,62]⟩ : ByteArray)).bind fun b=>(if b.1=true then some ((⟨n.1,⟨#[]⟩,[]⟩ : XN),true,b.2.1,b.2.2) else((xml_reader_eat.f b.2.1 b.2.2 (⟨#[62]⟩ : ByteArray)).bind fun c=>(if c.1=true then((xml_co.f k c.2.1 c.2.2 d).bind fun x=>(if x.1=true then xml_el.out k n.1 x.2.1 x.2.2.1 x.2.2.2.1 x.2.2.2.2 else some (z24,false,x.2.2.2.1,x.2.2.2.2))) else some (z24,false,c.2.1,c.2.2))))) else some (z24,false,a.2.1,a.2.2))) else some (z24,false,n.2.1,n.2.2))) else some (z24,false,e.2.1,e.2.2))) q):Ev (fun k=>xml_el.f k s p d) q:=Ev.step (fun k=>by rw [xml_el.f,if_neg hd]) h
def a2 (l:List UInt8):Bool:=l.any (fun c=>decide (c=60∨c=38))
theorem a2_hi {u l:List UInt8} (h:∀ b∈u,128≤b.toNat):a2 (u++l)=a2 l:=by
  unfold a2
  rw [List.any_append]
  have:u.any (fun c=>decide (c=60∨c=38))=false:=by
    rw [List.any_eq_false]
    intro b hb
    have:=h b hb
    rw [decide_eq_true_eq]
    rintro (rfl|rfl) <;> simp at this
  rw [this,Bool.false_or]
theorem seqL_min (l:List UInt8) (j v m:Nat) (h:(seqL l j v m).2≠0):m≤(seqL l j v m).1:=by
  unfold seqL at h ⊢
  cases ht:tailL l j v with
  | none=>rw [ht] at h;exact absurd rfl h
  | some r=>
    rw [ht] at h
    dsimp only at h ⊢
    unfold finL at h ⊢
    by_cases c:r<m∨1114111<r∨(55296≤r∧r<57344)
    · rw [if_pos c] at h;exact absurd rfl h
    · rw [if_neg c]
      show m≤r
      omega
theorem stL_min (c:UInt8) (l:List UInt8) (hc:128≤c.toNat) (h:(stL (c :: l)).2≠0):128≤(stL (c :: l)).1:=by
  have e0:stL (c :: l)=if c.toNat<192 then(0,0) else if c.toNat<224 then seqL l 1 (c.toNat-192) 128 else if c.toNat<240 then seqL l 2 (c.toNat-224) 2048 else if c.toNat<248 then seqL l 3 (c.toNat-240) 65536 else(0,0):=by rw [stL,if_neg (by omega)]
  by_cases c1:c.toNat<192
  · rw [e0,if_pos c1] at h;exact absurd rfl h
  · by_cases c2:c.toNat<224
    · rw [e0,if_neg c1,if_pos c2] at h ⊢;exact seqL_min _ _ _ _ h
    · by_cases c3:c.toNat<240
      · rw [e0,if_neg c1,if_neg c2,if_pos c3] at h ⊢;have:=seqL_min _ _ _ _ h;omega
      · by_cases c4:c.toNat<248
        · rw [e0,if_neg c1,if_neg c2,if_neg c3,if_pos c4] at h ⊢;have:=seqL_min _ _ _ _ h;omega
        · rw [e0,if_neg c1,if_neg c2,if_neg c3,if_neg c4] at h;exact absurd rfl h
theorem ix_hi (n:Nat) (h:128≤n):¬ 0≤strings_ContainsAny.ix (n:Int):=by
  unfold strings_ContainsAny.ix
  rw [if_neg (by omega),if_neg (by omega)]
  decide
theorem ix_lo (c:UInt8):decide (0≤strings_ContainsAny.ix (c.toNat:Int))=decide (c=60∨c=38):=byte_all (P:=fun c=>decide (0≤strings_ContainsAny.ix (c.toNat:Int))=decide (c=60∨c=38)) (by decide +kernel) c
theorem g_a2 (s:ByteArray) (fuel:Nat):∀ pos,s.size-pos≤fuel→decide (0≤strings_ContainsAny.g s fuel pos)=a2 (s.toList.drop pos):=by
  induction fuel with
  | zero=>
    intro pos h
    have e:s.toList.drop pos = []:=List.drop_of_length_le (by rw [length_toList];omega)
    rw [e]
    rfl
  | succ fuel ih=>
    intro pos h
    rw [strings_ContainsAny.g]
    cases hd:s.toList.drop pos with
    | nil=>
      rw [if_neg (drop_nil s pos hd)]
      rfl
    | cons c l=>
      obtain⟨h1,h2⟩:=drop_cons s pos c l hd
      rw [if_pos h1]
      have hnx:∀ n,s.toList.drop (pos+n)=(c :: l).drop n:=fun n=>by rw [← List.drop_drop,hd]
      by_cases g:(stL (c :: l)).2=0
      · have hc:128≤c.toNat:=by
          rcases Nat.lt_or_ge c.toNat 128 with q|q
          · rw [stL,if_pos q] at g;exact absurd g (show ¬ (1:Nat)=0 by decide)
          · exact q
        rw [dec_bad s pos c l hd g,if_neg (ix_hi 65533 (by decide)),ih (pos+1) (by omega),hnx 1]
        exact(a2_hi (u:=[c]) (l:=l) (fun b hb=>by rw [List.mem_singleton] at hb;rw [hb];exact hc)).symm
      · rw [dec_good s pos c l hd g]
        rcases Nat.lt_or_ge c.toNat 128 with q|q
        · have e:stL (c :: l)=(c.toNat,1):=by rw [stL,if_pos q]
          rw [e]
          dsimp only
          have hx:=ix_lo c
          have ha:a2 (c :: l)=(decide (c=60∨c=38) || a2 l):=rfl
          rw [ha,← hx]
          by_cases t:0≤strings_ContainsAny.ix (c.toNat:Int)
          · rw [if_pos t,decide_eq_true t,Bool.true_or]
            exact decide_eq_true (Int.natCast_nonneg _)
          · rw [if_neg t,decide_eq_false t,Bool.false_or,ih (pos+1) (by omega),hnx 1]
            rfl
        · obtain⟨_,h4⟩:=stL_take c l q g
          rw [if_neg (ix_hi _ (stL_min c l q g)),ih _ (by omega),hnx]
          have:=a2_hi (l:=(c :: l).drop (stL (c :: l)).2) h4
          rw [List.take_append_drop] at this
          exact this.symm
theorem ixany_a2:∀ l:List UInt8,decide (0≤Lib.indexAny l [60,38])=a2 l
  | []=>rfl
  | c :: l=>by
    have ih:=ixany_a2 l
    have ge:=Lib.indexAny_ge [60,38] l
    have ha:a2 (c :: l)=(decide (c=60∨c=38) || a2 l):=rfl
    rw [ha,← ih,Lib.indexAny]
    by_cases t:([60,38]:List UInt8).contains c=true
    · have t':c=60∨c=38:=by simpa using t
      rw [if_pos t,decide_eq_true t',Bool.true_or]
      rfl
    · have t':¬ (c=60∨c=38):=by simpa using t
      rw [if_neg t,decide_eq_false t',Bool.false_or]
      by_cases u:(Lib.indexAny l [60,38] == -1)=true
      · rw [if_pos u]
        rw [beq_iff_eq] at u
        rw [u]
      · rw [if_neg u]
        have u':¬ Lib.indexAny l [60,38] = -1:=by simpa using u
        rw [decide_eq_true (by omega),decide_eq_true (by omega)]
theorem any_eq (a:List UInt8) (h:a.length≤4000000):strings_ContainsAny.f (B a) (⟨#[60,38]⟩ : ByteArray)=some (a2 a):=by
  unfold strings_ContainsAny.f
  rw [if_pos ⟨by rw [B_size];omega,rfl⟩]
  refine congrArg some ?_
  by_cases c:8<(B a).size
  · rw [if_pos c]
    have:=ixany_a2 a
    exact this
  · rw [if_neg c]
    have:=g_a2 (B a) (B a).size 0 (by omega)
    rw [List.drop_zero,B_toList] at this
    exact this
section
variable {s:ByteArray} {pre:List UInt8}
theorem r2_yes (hs:s.size≤4000000) {c:UInt8} {a u:List UInt8} (h:s.toList=pre++(c :: (a++c :: u))) (hm:(c.toNat:Int)=34∨(c.toNat:Int)=39) (hna:c ∉ a) (hA:a2 a=false):xml_reader_attribute.r2 s (pre.length:Int)=some (true,s,(((pre++(c :: a ++ [c])).length:Nat):Int)):=by
  have hl:=pre_le s pre _ h
  rw [List.length_cons,List.length_append,List.length_cons] at hl
  have hl1:(pre ++ [c]).length=pre.length+1:=by simp
  have p1:(0:Int)≤(pre.length:Int):=by omega
  have p2:(pre.length:Int)≤(s.size:Int):=by omega
  have p3:¬ (pre.length:Int)=(s.size:Int):=by omega
  have p4:(0:Int)≤(((pre ++ [c]).length:Nat):Int):=by omega
  have p5:(((pre ++ [c]).length:Nat):Int)≤(s.size:Int):=by omega
  obtain⟨hb,hlt⟩:=bt_at_pre (h:=h)
  have h1:s.toList=(pre ++ [c])++(a++c :: u):=by rw [h];simp
  have hw:wrap64 ((pre.length:Int)+1)=(((pre ++ [c]).length:Nat):Int):=len_nx pre c s.size hlt hs
  have hix:strings_IndexByte.f (s.extract ((((pre ++ [c]).length:Nat):Int)).toNat s.size) (c.toNat:Int)=some (a.length:Int):=by
    unfold strings_IndexByte.f stringslite_IndexByte.f
    rw [← ByteArray.toList_eq,ext_p h1,Option.bind_some,toU8]
    have:=cutL_index c (a++c :: u)
    rw [cut_mk c a u hna] at this
    exact congrArg some this.1
  have p6:(((pre ++ [c]).length:Nat):Int)≤((pre.length+1+a.length:Nat):Int):=by clear hb hw hix;omega
  have p7:((pre.length+1+a.length:Nat):Int)≤(s.size:Int):=by clear hb hw hix;omega
  have p8:¬ (a.length:Int)<0:=by clear hb hw hix;omega
  have pa:a.length≤4000000:=by clear hb hw hix;omega
  have hw2:wrap64 ((((pre ++ [c]).length:Nat):Int)+(a.length:Int))=((pre.length+1+a.length:Nat):Int):=by clear hb hw hix;rw [w64 (by omega) (by omega)];omega
  have hex:s.extract ((((pre ++ [c]).length:Nat):Int)).toNat (((pre.length+1+a.length:Nat):Int)).toNat=B a:=by
    rw [Int.toNat_natCast,Int.toNat_natCast]
    refine(extract_of s _ _ a ?_).trans rfl
    rw [h1,← List.append_assoc,show pre.length+1+a.length=((pre ++ [c])++a).length by rw [List.length_append,hl1],List.take_left,List.drop_left]
  have hv:=any_eq a pa
  rw [← hex,hA] at hv
  have hw3:wrap64 ((pre.length:Int)+wrap64 ((a.length:Int)+2))=(((pre++(c :: a ++ [c])).length:Nat):Int):=by
    clear hb hw hix hw2 hv hex
    rw [w64 (n:=(a.length:Int)+2) (by omega) (by omega),w64 (by omega) (by omega),List.length_append]
    simp only [List.length_append,List.length_cons,List.length_nil]
    omega
  rw [xml_reader_attribute.r2,if_pos p1,if_pos p2,if_neg p3,hb,if_pos hm,hw,if_pos p4,if_pos p5,hix,Option.bind_some,if_neg p8,hw2,if_pos p6,if_pos p7,hv,Option.bind_some,if_neg Bool.false_ne_true,hw3]
theorem att_yes (hs:s.size≤4000000) {nm a u:List UInt8} {c:UInt8} (hn:nmB nm=true) (h:s.toList=pre++(nm++(61 :: (c :: (a++c :: u))))) (hm:(c.toNat:Int)=34∨(c.toNat:Int)=39) (hna:c ∉ a) (hA:a2 a=false):Ev (fun k=>xml_reader_attribute.f k s (pre.length:Int)) (true,s,(((pre++(nm++(61 :: (c :: a ++ [c])))).length:Nat):Int)):=by
  have hl:=pre_le s pre _ h
  rw [List.length_append] at hl
  obtain⟨_,_,hA',_,hin⟩:=nm_head hn
  have hc:whB c=false:=by
    unfold whB
    rw [decide_eq_false]
    omega
  have v1:=nm_ev s hs pre nm _ h hin (by intro c hc;cases hc;decide)
  have n1:=isnm_tot nm (by omega)
  rw [hn] at n1
  have h1:s.toList=(pre++nm)++(61 :: (c :: (a++c :: u))):=by rw [h,List.append_assoc]
  have h2:s.toList=((pre++nm) ++ [61])++(c :: (a++c :: u)):=by rw [h1];simp
  have v2:=eat_no hs h1 [58] (by intro q;have:=(List.cons.inj q).1;revert this;decide)
  have v3:=sp_no s hs _ _ h1 (by intro d hd;cases hd;decide)
  have v4:=eat_yes (p:=[61]) hs (by rw [h1];rfl)
  have v5:=sp_no s hs _ _ h2 (by intro d hd;cases hd;exact hc)
  have v6:=r2_yes hs h2 hm hna hA
  unfold xml_reader_attribute.f
  refine Ev.bind v1 (Ev.bind n1 (ev_pos rfl (ev_some v2 (ev_neg Bool.false_ne_true ?_))))
  unfold xml_reader_attribute.r1
  refine Ev.bind v3 (ev_some v4 (ev_pos rfl (Ev.bind v5 (ev_eq (Ev.congr (fun _=>v6) (Ev.now _)) ?_))))
  simp only [List.append_assoc,List.cons_append,List.nil_append]
def atB (k:Nat) (a:Bool×ByteArray×Int):Option (Bool×ByteArray×Int):=(if a.1=true then(if 0≤a.2.2 then(if a.2.2≤(a.2.1.size:Int) then((strings_HasPrefix.f (a.2.1.extract (a.2.2:Int).toNat a.2.1.size) (B [47])).bind fun x=>(if x=true then some (true,a.2.1,a.2.2) else((strings_HasPrefix.f (a.2.1.extract (a.2.2:Int).toNat a.2.1.size) (B [62])).bind fun y=>(if y=true then some (true,a.2.1,a.2.2) else((xml_reader_attribute.f k a.2.1 a.2.2).bind fun b=>(if b.1=true then xml_el.at_ k b.2.1 b.2.2 else some (false,b.2.1,b.2.2))))))) else none) else none) else some (true,a.2.1,a.2.2))
theorem at_unf {p:Int} {r:Bool×ByteArray×Int} (h:Ev (fun k=>(xml_reader_space.f k s p).bind fun a=>atB k a) r):Ev (fun k=>xml_el.at_ k s p) r:=Ev.step (fun k=>by rw [xml_el.at_];rfl) h
theorem at_none (hs:s.size≤4000000) {u:List UInt8} (h:s.toList=pre++62 :: u):Ev (fun k=>xml_el.at_ k s (pre.length:Int)) (true,s,(pre.length:Int)):=
  at_unf (Ev.bind (sp_no s hs _ _ h (by intro d hd;cases hd;decide)) (ev_neg Bool.false_ne_true (Ev.now _)))
theorem at_ws (hs:s.size≤4000000) {ws u:List UInt8} (hw:ws.all whB=true) (h:s.toList=pre++(ws++47 :: u)):Ev (fun k=>xml_el.at_ k s (pre.length:Int)) (true,s,(((pre++ws).length:Nat):Int)):=by
  have h1:s.toList=(pre++ws)++47 :: u:=by rw [h,List.append_assoc]
  have hle:=pre_le s _ _ h1
  have v1:=sp_ev s hs pre ws _ h hw (by intro d hd;cases hd;decide)
  rw [← List.length_append] at v1
  refine at_unf (Ev.bind v1 ?_)
  by_cases hw0:ws = []
  · exact ev_neg (by rw [decide_eq_true_eq];exact fun q=>q hw0) (Ev.now _)
  · exact ev_pos (decide_eq_true hw0) (ev_pos (Int.natCast_nonneg _) (ev_pos (by show(((pre++ws).length:Nat):Int)≤(s.size:Int);omega) (ev_some (hp_at h1 [47]) (ev_pos (by simp) (Ev.now _)))))
theorem at_one (hs:s.size≤4000000) {ws nm a u:List UInt8} {c:UInt8} (hw:ws.all whB=true) (hw0:ws ≠ []) (hn:nmB nm=true) (h:s.toList=pre++(ws++(nm++(61 :: (c :: (a++c :: (62 :: u))))))) (hm:(c.toNat:Int)=34∨(c.toNat:Int)=39) (hna:c ∉ a) (hA:a2 a=false) :
    Ev (fun k=>xml_el.at_ k s (pre.length:Int)) (true,s,(((pre++(ws++(nm++(61 :: (c :: a ++ [c]))))).length:Nat):Int)):=by
  have h1:s.toList=(pre++ws)++(nm++(61 :: (c :: (a++c :: (62 :: u))))):=by rw [h,List.append_assoc]
  have hle:=pre_le s _ _ h1
  obtain⟨n0,nt,hnm,hlet,hin⟩:=nm_head hn
  have hn0:whB n0=false∧n0≠47∧n0≠62:=by
    have:=byte_all (P:=fun c=>letB c=true→whB c=false∧c≠47∧c≠62) (by decide +kernel) n0
    exact this hlet
  have v1:=sp_ev s hs pre ws _ h hw (by rw [hnm];intro d hd;cases hd;exact hn0.1)
  rw [← List.length_append] at v1
  have hx1:((nm++(61 :: (c :: (a++c :: (62 :: u))))).take ([47]:List UInt8).length == [47])=false:=by
    rw [hnm,beq_eq_false_iff_ne]
    intro q
    exact hn0.2.1 (List.cons.inj q).1
  have hx2:((nm++(61 :: (c :: (a++c :: (62 :: u))))).take ([62]:List UInt8).length == [62])=false:=by
    rw [hnm,beq_eq_false_iff_ne]
    intro q
    exact hn0.2.2 (List.cons.inj q).1
  have v2:=att_yes hs hn h1 hm hna hA
  have h3:s.toList=((pre++ws)++(nm++(61 :: (c :: a ++ [c]))))++62 :: u:=by rw [h1];simp
  have v3:=at_none hs h3
  have v4:=hp_at h1 [47]
  have v5:=hp_at h1 [62]
  rw [hx1] at v4
  rw [hx2] at v5
  refine ev_eq (at_unf (Ev.bind v1 (ev_pos (decide_eq_true hw0) (ev_pos (Int.natCast_nonneg _) (ev_pos (by show(((pre++ws).length:Nat):Int)≤(s.size:Int);omega) (ev_some v4 (ev_neg Bool.false_ne_true (ev_some v5 (ev_neg Bool.false_ne_true (Ev.bind v2 (ev_pos rfl v3))))))))))) ?_
  rw [List.append_assoc pre]
theorem el_gen (hs:s.size≤4000000) {nm A C W rest:List UInt8} {d:Nat} (hd:d≤16) (hn:nmB nm=true) {tx:ByteArray} {kids:List XN}
    (h:s.toList=pre++([60]++(nm++(A++([62]++(C++([60,47]++(nm++(W++([62]++rest))))))))))
    (hA:∀ c,(A ++ [62]).head? = some c→inB c=false∧True)
    (hat:Ev (fun k=>xml_el.at_ k s (((pre++([60]++nm)).length:Nat):Int)) (true,s,(((pre++([60]++(nm++A))).length:Nat):Int)))
    (hco:Ev (fun k=>xml_co.f k s (((pre++([60]++(nm++(A ++ [62])))).length:Nat):Int) (d:Int)) (true,tx,kids,s,(((pre++([60]++(nm++(A++([62]++C))))).length:Nat):Int))) (hW:W.all whB=true) :
    Ev (fun k=>xml_el.f k s (pre.length:Int) (d:Int)) (⟨B nm,tx,kids⟩,true,s,(((pre++([60]++(nm++(A++([62]++(C++([60,47]++(nm++(W ++ [62]))))))))).length:Nat):Int)):=by
  have hle:=pre_le s _ _ h
  simp only [List.length_append] at hle
  obtain⟨_,_,_,_,hin⟩:=nm_head hn
  have e1:s.toList=(pre ++ [60])++(nm++(A++([62]++(C++([60,47]++(nm++(W++([62]++rest)))))))):=by rw [h];simp
  have e2:s.toList=(pre++([60]++(nm++A)))++(62 :: (C++([60,47]++(nm++(W++([62]++rest)))))):=by rw [h];simp
  have e4:s.toList=(pre++([60]++(nm++(A++([62]++C)))))++([60,47]++(nm++(W++([62]++rest)))):=by rw [h];simp
  have e5:s.toList=((pre++([60]++(nm++(A++([62]++C))))) ++ [60,47])++(nm++(W++([62]++rest))):=by rw [h];simp
  have e6:s.toList=(((pre++([60]++(nm++(A++([62]++C))))) ++ [60,47])++nm)++(W++([62]++rest)):=by rw [h];simp
  have e7:s.toList=((((pre++([60]++(nm++(A++([62]++C))))) ++ [60,47])++nm)++W)++([62]++rest):=by rw [h];simp
  have v1:=eat_yes hs h
  have v2:=nm_ev s hs _ nm _ e1 hin (by
    intro c hc
    refine(hA c ?_).1
    cases A with
    | nil=>exact hc
    | cons x A=>exact hc)
  have n2:=isnm_tot nm (by omega)
  rw [hn] at n2
  have v3:Ev (fun k=>xml_el.at_ k s ((((pre ++ [60])++nm).length:Nat):Int)) (true,s,(((pre++([60]++(nm++A))).length:Nat):Int)):=by rw [List.append_assoc];exact hat
  have v4:=eat_no hs e2 [47,62] (by
    intro q
    have:=(List.cons.inj q).1
    revert this;decide)
  have v5:=eat_yes (p:=[62]) hs (by rw [e2];rfl)
  have v6:Ev (fun k=>xml_co.f k s ((((pre++([60]++(nm++A))) ++ [62]).length:Nat):Int) (d:Int)) (true,tx,kids,s,(((pre++([60]++(nm++(A++([62]++C))))).length:Nat):Int)):=by
    have:(pre++([60]++(nm++A))) ++ [62]=pre++([60]++(nm++(A ++ [62]))):=by simp
    rw [this];exact hco
  have v7:=eat_yes hs e4
  have inW:∀ c,(W++([62]++rest)).head? = some c→inB c=false:=by
    intro c hc
    cases W with
    | nil=>cases hc;decide
    | cons x W=>
      have e:x=c:=Option.some.inj hc
      rw [← e]
      rw [List.all_cons,Bool.and_eq_true] at hW
      have:=byte_all (P:=fun c=>whB c=true→inB c=false) (by decide +kernel) x
      exact this hW.1
  have v8:=nm_ev s hs _ nm _ e5 hin inW
  have v9:=sp_ev s hs _ W _ e6 hW (by intro c hc;cases hc;decide)
  rw [← List.length_append] at v9
  have v10:=eat_yes hs e7
  refine ev_eq (el_unf (by omega) (ev_some v1 (ev_pos rfl (Ev.bind v2 (Ev.bind n2 (ev_pos rfl (Ev.bind v3 (ev_pos rfl (ev_some v4 (ev_neg Bool.false_ne_true (ev_some v5 (ev_pos rfl (Ev.bind v6 (ev_pos rfl (?_:Ev _ ((⟨B nm,tx,kids⟩ : XN),true,s,((((((pre++([60]++(nm++(A++([62]++C))))) ++ [60,47])++nm)++W) ++ [62]).length:Int))))))))))))))))) ?_
  · unfold xml_el.out
    exact ev_some v7 (ev_pos rfl (Ev.bind v8 (ev_pos rfl (Ev.bind v9 (ev_some v10 (ev_pos rfl (Ev.now _)))))))
  · simp only [List.append_assoc]
theorem el_short (hs:s.size≤4000000) {nm W rest:List UInt8} {d:Nat} (hd:d≤16) (hn:nmB nm=true) (hW:W.all whB=true) (h:s.toList=pre++([60]++(nm++(W++([47,62]++rest))))) :
    Ev (fun k=>xml_el.f k s (pre.length:Int) (d:Int)) (⟨B nm,⟨#[]⟩,[]⟩,true,s,(((pre++([60]++(nm++(W ++ [47,62])))).length:Nat):Int)):=by
  have hle:=pre_le s _ _ h
  simp only [List.length_append] at hle
  obtain⟨_,_,_,_,hin⟩:=nm_head hn
  have e1:s.toList=(pre ++ [60])++(nm++(W++([47,62]++rest))):=by rw [h];simp
  have e2:s.toList=((pre ++ [60])++nm)++(W++47 :: (62 :: rest)):=by rw [h];simp
  have e3:s.toList=(((pre ++ [60])++nm)++W)++([47,62]++rest):=by rw [h];simp
  have v1:=eat_yes hs h
  have v2:=nm_ev s hs _ nm _ e1 hin (by
    intro c hc
    cases W with
    | nil=>cases hc;decide
    | cons x W=>
      have e:x=c:=Option.some.inj hc
      rw [← e]
      rw [List.all_cons,Bool.and_eq_true] at hW
      have:=byte_all (P:=fun c=>whB c=true→inB c=false) (by decide +kernel) x
      exact this hW.1)
  have n2:=isnm_tot nm (by omega)
  rw [hn] at n2
  have v3:=at_ws hs hW e2
  have v4:=eat_yes hs e3
  refine ev_eq (el_unf (by omega) (ev_some v1 (ev_pos rfl (Ev.bind v2 (Ev.bind n2 (ev_pos rfl (Ev.bind v3 (ev_pos rfl (ev_some v4 (ev_pos rfl (Ev.now _))))))))))) ?_
  simp only [List.append_assoc]
theorem lp_cons (hs:s.size≤4000000) {q ws rest:List UInt8} {c:UInt8} {d:Nat} (hd:d≤16) {x:XN} {done:List XN} {r:Bool×List XN×ByteArray×Int} (hc:c≠47) (hdn:done.length≤1000000) (h:s.toList=pre++((60 :: c :: q)++(ws++rest))) (hws:ws.all whB=true) (hr:∀ c,rest.head? = some c→whB c=false)
    (hel:Ev (fun k=>xml_el.f k s (pre.length:Int) ((d+1:Nat):Int)) (x,true,s,(((pre++(60 :: c :: q)).length:Nat):Int)))
    (hlp:Ev (fun k=>xml_co.lp k s ((((pre++(60 :: c :: q))++ws).length:Nat):Int) (d:Int) (done ++ [x])) r):Ev (fun k=>xml_co.lp k s (pre.length:Int) (d:Int) done) r:=by
  have hle:=pre_le s _ _ h
  have hw:wrap64 ((d:Int)+1)=((d+1:Nat):Int):=by rw [w64 (by omega) (by omega)];rfl
  have h1:s.toList=(pre++(60 :: c :: q))++(ws++rest):=by rw [h,List.append_assoc]
  have hx1:(((60 :: c :: q)++(ws++rest)).take ([60]:List UInt8).length == ([60]:List UInt8))=true:=rfl
  have hx2:(((60 :: c :: q)++(ws++rest)).take ([60,47]:List UInt8).length == ([60,47]:List UInt8))=false:=by
    rw [beq_eq_false_iff_ne]
    intro e
    exact hc (List.cons.inj (List.cons.inj e).2).1
  have v2:=sp_ev s hs _ ws _ h1 hws hr
  rw [← List.length_append] at v2
  refine Ev.step (f:=fun k=>(xml_el.f k s (pre.length:Int) ((d+1:Nat):Int)).bind fun e=>(if e.2.1=true then(if done.length<2513169434916 then((xml_reader_space.f k e.2.2.1 e.2.2.2).bind fun a=>xml_co.lp k a.2.1 a.2.2 (d:Int) (done ++ [e.1])) else none) else some (false,done,e.2.2.1,e.2.2.2))) (fun k=>?_) (Ev.bind hel (ev_pos rfl (ev_pos (by omega) (Ev.bind v2 hlp))))
  rw [xml_co.lp,if_pos (by omega),if_pos (by omega),show(⟨#[60]⟩ : ByteArray)=B [60] from rfl,show(⟨#[60,47]⟩ : ByteArray)=B [60,47] from rfl,hp_at h,hx1,Option.bind_some,if_pos rfl,hp_at h,hx2,Option.bind_some,if_neg Bool.false_ne_true,hw]
theorem co_kids (hs:s.size≤4000000) {ws rest:List UInt8} {d:Nat} {kids:List XN} {p:Int} (hk:kids ≠ []) (h:s.toList=pre++(ws++rest)) (hws:ws.all whB=true) (hr:∀ c,rest.head? = some c→whB c=false)
    (hlp:Ev (fun k=>xml_co.lp k s (((pre++ws).length:Nat):Int) (d:Int) []) (true,kids,s,p)):Ev (fun k=>xml_co.f k s (pre.length:Int) (d:Int)) (true,⟨#[]⟩,kids,s,p):=by
  have v1:=sp_ev s hs pre ws _ h hws hr
  rw [← List.length_append] at v1
  refine Ev.step (f:=fun k=>_) (fun k=>by rw [xml_co.f]) ?_
  refine Ev.bind v1 (Ev.bind hlp (ev_pos rfl (ev_pos ?_ (Ev.now _))))
  have:=List.length_pos_iff.mpr hk
  show(0:Int)<(kids.length:Int)
  omega
end
def kidK (a:ByteArray):XN:=⟨B [107],a,[]⟩
def kidV (b:ByteArray):XN:=⟨B [118],b,[]⟩
def kidZ:XN:=⟨B [122],⟨#[]⟩,[]⟩
def rootW (a b:ByteArray):XN:=⟨B [114],⟨#[]⟩,[kidK a,kidV b,kidZ]⟩
def tK (ws:List UInt8) (a:ByteArray):List UInt8:=[60]++([107]++(([32]++([121]++(61 :: (34 :: [50] ++ [34]))))++([62]++(escB a++([60,47]++([107]++(ws ++ [62])))))))
def tZ (ws:List UInt8):List UInt8:=[60]++([122]++(ws ++ [47,62]))
def tA (ws:List UInt8):List UInt8:=(ws ++ [32])++([120]++(61 :: (39 :: [49] ++ [39])))
def tC (ws:List UInt8) (a b:ByteArray):List UInt8:=ws++(tK ws a++(ws++(txN (kidV b) []++(ws++(tZ ws++ws)))))
def tW (ws:List UInt8) (a b:ByteArray):List UInt8:=ws++([60]++([114]++(tA ws++([62]++(tC ws a b++([60,47]++([114]++([]++([62]++ws)))))))))
section
variable {s:ByteArray} {ws:List UInt8} {a b:ByteArray}
theorem begin_no (s:ByteArray) (h:¬ s.toList.take 5 = [60,63,120,109,108]):xml_reader_begin.f s 0=some (true,s,0):=by
  have hhp:=hp_eq s [60,63,120,109,108]
  have:(s.toList.take ([60,63,120,109,108]:List UInt8).length == [60,63,120,109,108])=false:=beq_eq_false_iff_ne.mpr h
  rw [this] at hhp
  unfold xml_reader_begin.f
  rw [show(⟨#[60,63,120,109,108]⟩ : ByteArray)=B [60,63,120,109,108] from rfl,hhp,Option.bind_some,if_neg Bool.false_ne_true]
theorem may_kid {nm:List UInt8} (hn:nmB nm=true) (b:ByteArray) (hb:LG b.toList=true) (d:Nat) (hd:d≤16):mayN ⟨B nm,b,[]⟩ d=true:=by
  have:lO b.size b.toList=true:=by rw [← length_toList];exact hb
  rw [mayN,B_toList,hn,decide_eq_true hd,this,decide_eq_true (.inr rfl),mayL]
  rfl
set_option maxHeartbeats 2000000 in
theorem white_el (hs:s.size≤4000000) (hw:ws.all whB=true) (hb:LG b.toList=true) (ha4:a.size≤1000000) (hb4:b.size≤1000000) (h:s.toList=tW ws a b) :
    Ev (fun k=>xml_el.f k s (ws.length:Int) 1) (rootW a b,true,s,(((ws++([60]++([114]++(tA ws++([62]++(tC ws a b++([60,47]++([114]++([] ++ [62]))))))))).length:Nat):Int)):=by
  have w60:∀ (m:List UInt8) c,(60 :: m).head? = some c→whB c=false:=by intro m c hc;cases hc;decide
  have h0:s.toList=ws++([60]++([114]++(tA ws++([62]++(tC ws a b++([60,47]++([114]++([]++([62]++ws))))))))):=h
  obtain⟨P,hP⟩ : ∃ P,ws++([60]++([114]++(tA ws ++ [62])))=P:=⟨_,rfl⟩
  have hc0:s.toList=P++(ws++(tK ws a++(ws++(txN (kidV b) []++(ws++(tZ ws++(ws++(60 :: 47 :: ([114]++([]++([62]++ws))))))))))):=by rw [h0,← hP,tC];simp
  have hc1:s.toList=(P++ws)++(tK ws a++(ws++(txN (kidV b) []++(ws++(tZ ws++(ws++(60 :: 47 :: ([114]++([]++([62]++ws)))))))))):=by rw [hc0];simp
  have hc2:s.toList=(((P++ws)++tK ws a)++ws)++(txN (kidV b) []++(ws++(tZ ws++(ws++(60 :: 47 :: ([114]++([]++([62]++ws)))))))):=by rw [hc0];simp
  have hc3:s.toList=(((((P++ws)++tK ws a)++ws)++txN (kidV b) [])++ws)++(tZ ws++(ws++(60 :: 47 :: ([114]++([]++([62]++ws)))))):=by rw [hc0];simp
  have hc4:s.toList=(((((((P++ws)++tK ws a)++ws)++txN (kidV b) [])++ws)++tZ ws)++ws)++(60 :: 47 :: ([114]++([]++([62]++ws)))):=by rw [hc0];simp
  obtain⟨vq,hvq⟩ : ∃ q,txN (kidV b) []=60 :: 118 :: q:=⟨_,by rw [txN_eq,kidV,B_toList];rfl⟩
  have hkq:tK ws a=60 :: 107 :: (([32]++([121]++(61 :: (34 :: [50] ++ [34]))))++([62]++(escB a++([60,47]++([107]++(ws ++ [62])))))):=rfl
  have hzq:tZ ws=60 :: 122 :: (ws ++ [47,62]):=rfl
  have ihel:=el_ev s hs 100000000 (Nat.le_refl _)
  obtain⟨R0,hR0⟩ : ∃ R,ws++(txN (kidV b) []++(ws++(tZ ws++(ws++(60 :: 47 :: ([114]++([]++([62]++ws))))))))=R:=⟨_,rfl⟩
  have k0:s.toList=(P++ws)++([60]++([107]++(([32]++([121]++(61 :: (34 :: [50] ++ [34]))))++([62]++(escB a++([60,47]++([107]++(ws++([62]++R0))))))))):=by rw [hc1,tK,← hR0];simp
  have k1:s.toList=((P++ws)++([60] ++ [107]))++([32]++([121]++(61 :: (34 :: ([50]++34 :: (62 :: (escB a++([60,47]++([107]++(ws++([62]++R0))))))))))):=by rw [k0];simp
  have k2:s.toList=((P++ws)++([60]++([107]++(([32]++([121]++(61 :: (34 :: [50] ++ [34])))) ++ [62]))))++(escB a++(txL []++60 :: 47 :: ([107]++(ws++([62]++R0))))):=by rw [k0,txL];simp
  have kat:=at_one hs (ws:=[32]) (nm:=[121]) (a:=[50]) (c:=34) (by decide) (by decide) (by decide) k1 (by decide) (by decide) (by decide)
  have kco:=co_ev s hs 100000000 2 (by decide) (Nat.le_refl _) ihel a [] _ _ (by rw [nbl];omega) rfl (.inr rfl) k2
  have kel:=el_gen hs (nm:=[107]) (A:=[32]++([121]++(61 :: (34 :: [50] ++ [34])))) (C:=escB a) (W:=ws) (d:=2) (tx:=a) (kids:=[]) (by decide) (by decide) k0 (by intro c hc;cases hc;exact⟨by decide,trivial⟩)
    (by refine ev_eq kat ?_;simp only [List.append_assoc]) (by refine ev_eq kco ?_;rw [txL];simp only [List.append_assoc,List.append_nil]) hw
  have kel':Ev (fun k=>xml_el.f k s (((P++ws).length:Nat):Int) ((1+1:Nat):Int)) (kidK a,true,s,((((P++ws)++tK ws a).length:Nat):Int)):=kel
  have vel:=ihel (kidV b) (by rw [nb_eq,kidV,nbl,B_size];simp only [List.length_cons,List.length_nil];omega) ((((P++ws)++tK ws a)++ws)) _ 2 hc2 (may_kid (by decide) b hb 2 (by decide))
  have z0:s.toList=((((((P++ws)++tK ws a)++ws)++txN (kidV b) [])++ws))++([60]++([122]++(ws++([47,62]++(ws++(60 :: 47 :: ([114]++([]++([62]++ws))))))))):=by rw [hc3,tZ];simp
  have zel:=el_short hs (nm:=[122]) (d:=2) (by decide) (by decide) hw z0
  have lpE:=lp_end hc4 1 ([kidK a,kidV b] ++ [kidZ])
  have lp3:=lp_cons hs (c:=122) (q:=ws ++ [47,62]) (d:=1) (x:=kidZ) (done:=[kidK a,kidV b]) (by decide) (by decide) (by simp) hc3 hw (w60 _) zel lpE
  have lp2:=lp_cons hs (c:=118) (q:=vq) (d:=1) (x:=kidV b) (done:=[kidK a]) (by decide) (by decide) (by simp) (by rw [← hvq];exact hc2) hw (by rw [hzq];exact w60 _) (by rw [← hvq];exact vel) (by rw [← hvq];exact lp3)
  have lp1:=lp_cons hs (c:=107) (d:=1) (x:=kidK a) (done:=[]) (by decide) (by decide) (by simp) hc1 hw (by rw [hvq];exact w60 _) kel' lp2
  have hco:=co_kids hs (d:=1) (by simp) hc0 hw (by rw [hkq];exact w60 _) lp1
  have hat0:s.toList=(ws++([60] ++ [114]))++((ws ++ [32])++([120]++(61 :: (39 :: ([49]++39 :: (62 :: (tC ws a b++([60,47]++([114]++([]++([62]++ws))))))))))):=by rw [h0,tA];simp
  have hat:=at_one hs (ws:=ws ++ [32]) (nm:=[120]) (a:=[49]) (c:=39) (by rw [List.all_append,hw];decide) (by simp) (by decide) hat0 (by decide) (by decide) (by decide)
  have hel:=el_gen hs (nm:=[114]) (A:=tA ws) (C:=tC ws a b) (W:=[]) (rest:=ws) (d:=1) (tx:=⟨#[]⟩) (kids:=[kidK a,kidV b,kidZ]) (by decide) (by decide) h0
    (by
      intro c hc
      refine⟨?_,trivial⟩
      have inw:=byte_all (P:=fun c=>whB c=true→inB c=false) (by decide +kernel)
      cases ws with
      | nil=>cases hc;decide
      | cons x t=>
        have e:x=c:=Option.some.inj hc
        rw [List.all_cons,Bool.and_eq_true] at hw
        rw [← e]
        exact inw x hw.1)
    (by refine ev_eq hat ?_;rw [tA];simp only [List.append_assoc])
    (by rw [hP];refine ev_eq hco ?_;rw [← hP,tC];simp only [List.append_assoc];rfl) rfl
  exact hel
end
theorem esc_lg (t:ByteArray) (h:LG (escB t)=true):LG t.toList=true:=by
  have e:unD ((escB t).length+1) (escB t)=some t.toList:=by
    rw [unD_eq _ _ (Nat.lt_succ_self _),nrm_same _ (esc_no13 t)]
    exact un_all t.toList _ (Nat.le_succ_of_le (flat_len t.toList))
  exact unD_lg (escB t).length (escB t) t.toList _ (Nat.le_refl _) (Nat.lt_succ_self _) h e
theorem lg_two {P Q R:List UInt8} {a b:ByteArray} (h:LG (P++62 :: (escB a++60 :: (Q++62 :: (escB b++60 :: R))))=true):LG a.toList=true∧LG b.toList=true:=by
  have h1:=(lg_cut (by decide) h).2
  have h2:=lg_cut (a:=escB a) (c:=60) (by decide) h1
  have h3:=(lg_cut (by decide) h2.2).2
  have h4:=lg_cut (a:=escB b) (c:=60) (by decide) h3
  exact⟨esc_lg a h2.1,esc_lg b h4.1⟩
theorem lg_e (t:ByteArray) (h:LG t.toList=true) (X:List UInt8):LG (escB t++X)=LG X:=lg_esc t.toList.length t.toList X (Nat.le_refl _) h
theorem lg_tW {ws:List UInt8} {a b:ByteArray} (hw:ws.all whB=true) (ha:LG a.toList=true) (hb:LG b.toList=true):LG (tW ws a b)=true:=by
  have W:∀ X,LG (ws++X)=LG X:=fun X=>lg_list ws X (wh_ok hw)
  have A:=lg_e a ha
  have Bb:=lg_e b hb
  have L:∀ (u X:List UInt8),u.all okA=true→LG (u++X)=LG X:=lg_list
  unfold tW tC tA tK tZ
  rw [txN_eq,kidV,B_toList]
  simp only [List.append_assoc,List.nil_append,txL,List.cons_append]
  rw [W,lg_one _ _ (by decide),lg_one _ _ (by decide),W]
  iterate 7 rw [lg_one _ _ (by decide)]
  rw [W]
  iterate 9 rw [lg_one _ _ (by decide)]
  rw [A]
  iterate 3 rw [lg_one _ _ (by decide)]
  rw [W,lg_one _ _ (by decide),W]
  iterate 3 rw [lg_one _ _ (by decide)]
  rw [Bb]
  iterate 4 rw [lg_one _ _ (by decide)]
  rw [W]
  iterate 2 rw [lg_one _ _ (by decide)]
  rw [W]
  iterate 2 rw [lg_one _ _ (by decide)]
  rw [W]
  iterate 4 rw [lg_one _ _ (by decide)]
  have:=W []
  rw [List.append_nil] at this
  rw [this]
  rfl
theorem parse_no (s:ByteArray) (hz:s.size≤65536) (h:LG s.toList=false):Ev (fun k=>xml_Parse.f k s) (⟨#[]⟩,⟨#[]⟩,[],130):=by
  have hlg:=legal_eq s (by omega)
  have:lO s.size s.toList=false:=by rw [← length_toList];exact h
  rw [this] at hlg
  unfold xml_Parse.f
  exact ev_neg (by omega) (ev_some hlg (ev_neg Bool.false_ne_true (Ev.now _)))
theorem parse_yes (s:ByteArray) (hz:s.size≤65536) (hg:LG s.toList=true) (x:XN) (ws X w2:List UInt8) (h:s.toList=ws++(X++w2)) (hws:ws.all whB=true) (hw2:w2.all whB=true) (hX:∃ c q,X=60 :: c :: q∧c≠63)
    (hel:Ev (fun k=>xml_el.f k s (ws.length:Int) 1) (x,true,s,(((ws++X).length:Nat):Int))):Ev (fun k=>xml_Parse.f k s) (x.f0,x.f1,x.f2,0):=by
  have hsz:s.size≤4000000:=by omega
  obtain⟨c,q,hXe,hc⟩:=hX
  have hlg:=legal_eq s (by omega)
  have:lO s.size s.toList=true:=by rw [← length_toList];exact hg
  rw [this] at hlg
  have v0:=begin_no s (by
    rw [h,hXe]
    cases ws with
    | nil=>
      intro e
      exact hc (List.cons.inj (List.cons.inj e).2).1
    | cons x t=>
      intro e
      rw [List.all_cons,Bool.and_eq_true] at hws
      have:=(List.cons.inj e).1
      rw [this] at hws
      revert hws
      intro hws
      have:=hws.1
      revert this
      decide)
  have v1:=sp_ev s hsz [] ws (X++w2) h hws (by rw [hXe];intro d hd;cases hd;decide)
  rw [List.length_nil,Nat.zero_add] at v1
  have h2:s.toList=(ws++X)++(w2 ++ []):=by rw [h];simp
  have v3:=sp_ev s hsz _ w2 [] h2 hw2 (by intro d hd;cases hd)
  have he:(((ws++X).length+w2.length:Nat):Int)=(s.size:Int):=by
    have:=pre_le s _ _ h
    simp only [List.length_append] at this ⊢
    omega
  unfold xml_Parse.f
  exact ev_neg (by omega) (ev_some hlg (ev_pos rfl (ev_some v0 (ev_pos rfl (Ev.bind v1 (Ev.bind hel (Ev.bind v3 (ev_pos rfl (ev_pos he (Ev.now _))))))))))
theorem and3 (n:Int):Go.bits .and .i64 n 3=n % 4:=by
  have h3:(BitVec.ofInt 64 3).toNat=2 ^ 2-1:=by decide
  have key:(BitVec.ofInt 64 n &&& BitVec.ofInt 64 3).toNat=(n % ((2 ^ 64:Nat):Int)).toNat % 2 ^ 2:=by
    rw [BitVec.toNat_and,BitVec.toNat_ofInt,h3,Nat.and_two_pow_sub_one_eq_mod]
  show IntKind.i64.wrap ((BitVec.ofInt 64 n &&& BitVec.ofInt 64 3).toNat:Nat)=n % 4
  rw [key,IntKind.wrap_i64]
  omega
def wList:List ByteArray:=[(⟨#[]⟩ : ByteArray),(⟨#[32]⟩ : ByteArray),(⟨#[10,9]⟩ : ByteArray),(⟨#[13,10,32,32]⟩ : ByteArray)]
theorem w_of (n:Int):0≤n % 4∧n % 4<(wList.length:Int) ∧ ∃ ws:List UInt8,rdOf ByteArray.empty wList (n % 4)=B ws∧ws.all whB=true∧ws.length≤4:=by
  have h:n % 4=0∨n % 4=1∨n % 4=2∨n % 4=3:=by omega
  rcases h with e|e|e|e <;> rw [e]
  · exact⟨by decide,by decide,[],rfl,by decide,by decide⟩
  · exact⟨by decide,by decide,[32],rfl,by decide,by decide⟩
  · exact⟨by decide,by decide,[10,9],rfl,by decide,by decide⟩
  · exact⟨by decide,by decide,[13,10,32,32],rfl,by decide,by decide⟩
theorem root_tx (a b:ByteArray):txN (rootW a b) [] = [60,114,62,60,107,62]++(escB a++([60,47,107,62,60,118,62]++(escB b ++ [60,47,118,62,60,122,62,60,47,122,62,60,47,114,62]))):=by
  have e0:escB (⟨#[]⟩ : ByteArray) = []:=by unfold escB;rw [show(⟨#[]⟩ : ByteArray).toList = [] from B_toList []];rfl
  rw [rootW,txN,txL,txL,txL,txL,kidK,kidV,kidZ,txN,txN,txN,txL,e0,B_toList,B_toList,B_toList,B_toList]
  simp
theorem esc_len (t:ByteArray):(escB t).length≤6*t.size:=by
  have:=escape_size t
  rwa [B_size] at this
theorem may_root {a b:ByteArray} (ha:LG a.toList=true) (hb:LG b.toList=true):mayN (rootW a b) 1=true:=by
  have k:=may_kid (nm:=[107]) (by decide) a ha 2 (by decide)
  have v:=may_kid (nm:=[118]) (by decide) b hb 2 (by decide)
  have z:=may_kid (nm:=[122]) (by decide) ⟨#[]⟩ (by rw [show(⟨#[]⟩ : ByteArray).toList = [] from B_toList []];rfl) 2 (by decide)
  rw [mayN_eq]
  have hk:mayL (rootW a b).f2 (1+1)=true:=by
    show mayL [kidK a,kidV b,kidZ] 2=true
    rw [mayL,mayL,mayL,mayL,kidK,kidV,kidZ,k,v,z]
    rfl
  rw [hk]
  show(decide (1≤16) && (nmB (B [114]).toList && (lO 0 (⟨#[]⟩ : ByteArray).toList && (decide ((⟨#[]⟩ : ByteArray).toList = [] ∨ [kidK a,kidV b,kidZ] = []) && true))))=true
  rw [B_toList,show(⟨#[]⟩ : ByteArray).toList = [] from B_toList []]
  rfl
theorem white_both (a b:ByteArray) (ws:List UInt8) (hw:ws.all whB=true) (hwl:ws.length≤4) (ha:a.size≤1000) (hb:b.size≤1000) (s1 s2:ByteArray) (h1:s1.toList=txN (rootW a b) []) (h2:s2.toList=tW ws a b) :
    ∃ x e,Ev (fun k=>xml_Parse.f k s1) (x.f0,x.f1,x.f2,e)∧Ev (fun k=>xml_Parse.f k s2) (x.f0,x.f1,x.f2,e)∧(e=0→x=rootW a b):=by
  have la:=esc_len a
  have lb:=esc_len b
  have z1:s1.size≤65536:=by
    rw [← length_toList,h1,root_tx]
    simp only [List.length_append,List.length_cons,List.length_nil]
    omega
  have z2:s2.size≤65536:=by
    rw [← length_toList,h2,tW,tC,tA,tK,tZ,txN_eq,kidV,B_toList]
    simp only [List.length_append,List.length_cons,List.length_nil,txL]
    omega
  by_cases g:LG a.toList=true∧LG b.toList=true
  · obtain⟨ga,gb⟩:=g
    have hm:=may_root ga gb
    have g1:LG s1.toList=true:=by
      rw [h1]
      have:=lg_tx (rootW a b) 1 [] hm
      rw [List.append_nil] at this
      rw [this]
      rfl
    have g2:LG s2.toList=true:=by rw [h2];exact lg_tW hw ga gb
    have nbr:nb (rootW a b)≤100000000:=by
      rw [rootW,nb,nbl,nbl,nbl,nbl,kidK,kidV,kidZ,nb,nb,nb,nbl,B_size,B_size,B_size,B_size]
      have z0:(⟨#[]⟩ : ByteArray).size=0:=rfl
      simp only [List.length_cons,List.length_nil,z0]
      omega
    have v1:=el_ev s1 (by omega) 100000000 (Nat.le_refl _) (rootW a b) nbr [] [] 1 (by rw [h1];simp) hm
    refine⟨rootW a b,0,?_,?_,fun _=>rfl⟩
    · exact parse_yes s1 z1 g1 (rootW a b) [] (txN (rootW a b) []) [] (by rw [h1];simp) rfl rfl ⟨114,_,by rw [root_tx];rfl,by decide⟩ v1
    · exact parse_yes s2 z2 g2 (rootW a b) ws ([60]++([114]++(tA ws++([62]++(tC ws a b++([60,47]++([114]++([] ++ [62])))))))) ws (by rw [h2,tW];simp) hw hw ⟨114,_,rfl,by decide⟩ (white_el (by omega) hw gb (by omega) (by omega) h2)
  · refine⟨⟨⟨#[]⟩,⟨#[]⟩,[]⟩,130,parse_no s1 z1 ?_,parse_no s2 z2 ?_,fun q=>(by cases q)⟩
    · cases hq:LG s1.toList with
      | false=>rfl
      | true=>
        rw [h1,root_tx] at hq
        exact absurd (lg_two (P:=[60,114,62,60,107]) (Q:=[47,107,62,60,118]) (R:=[47,118,62,60,122,62,60,47,122,62,60,47,114,62]) (a:=a) (b:=b) (by rw [← hq];simp)) g
    · cases hq:LG s2.toList with
      | false=>rfl
      | true=>
        rw [h2] at hq
        refine absurd (lg_two (P:=ws++([60,114]++(ws++([32,120,61,39,49,39,62]++(ws ++ [60,107,32,121,61,34,50,34]))))) (Q:=[47,107]++(ws++([62]++(ws ++ [60,118])))) (R:=[47,118,62]++(ws++([60,122]++(ws++([47,62]++(ws++([60,47,114,62]++ws))))))) (a:=a) (b:=b) ?_) g
        rw [← hq,tW,tC,tA,tK,tZ,txN_eq,kidV,B_toList,txL]
        simp
theorem awake_60:stowagelaw13_awake.f 60=some true:=by decide +kernel
theorem awb:Ev (fun k=>(stowagelaw13_awake.f k).bind fun t=>some t) true:=Ev.bind (Ev.of (fun k=>stowagelaw13_awake.mono k) awake_60) (Ev.now _)
theorem lit_z (l:List UInt8):(ByteArray.mk l.toArray).size=l.length:=rfl
theorem lit_l (l:List UInt8):(ByteArray.mk l.toArray).toList=l:=B_toList l
set_option maxRecDepth 10000 in
theorem XmlWhite:stowagelaw13_XmlWhite.Pure:=by
  intro a0 a1 a2 w0 w1 _
  apply Ev.rounds
  simp only [stowagelaw13_XmlWhite.f]
  have hws:wrap64 ((a0.size:Int)+(a1.size:Int))=(a0.size:Int)+(a1.size:Int):=w64 (by omega) (by omega)
  by_cases c4:(wrap64 ((a0.size:Int)+(a1.size:Int)))>1000
  · exact ev_pos c4 awb
  rw [hws] at c4
  have z0:a0.size≤1000:=by omega
  have z1:a1.size≤1000:=by omega
  obtain⟨i0,i1,ws,hW,hw,hwl⟩:=w_of a2
  rw [← and3] at i0 i1 hW
  have zP:(B (a0.toList.flatMap xml_Escape.e)).size≤6000:=by have:=escape_size a0;omega
  have zQ:(B (a1.toList.flatMap xml_Escape.e)).size≤6000:=by have:=escape_size a1;omega
  refine ev_neg (by rw [hws];exact c4) (ev_some (a:=wList) rfl (ev_pos i0 (ev_pos i1 (ev_some (esc_a a0 (by omega)) (ev_some (esc_a a1 (by omega)) ?_)))))
  rw [hW]
  have hwz:(B ws).size≤4:=by rw [B_size];exact hwl
  obtain⟨pp,hpp⟩ : ∃ p,B (a0.toList.flatMap xml_Escape.e)=p:=⟨_,rfl⟩
  obtain⟨qq,hqq⟩ : ∃ p,B (a1.toList.flatMap xml_Escape.e)=p:=⟨_,rfl⟩
  rw [hpp] at zP ⊢
  rw [hqq] at zQ ⊢
  obtain⟨s1,hs1⟩ : ∃ s,(((((⟨#[60,114,62,60,107,62]⟩ : ByteArray)++pp)++(⟨#[60,47,107,62,60,118,62]⟩ : ByteArray))++qq)++(⟨#[60,47,118,62,60,122,62,60,47,122,62,60,47,114,62]⟩ : ByteArray))=s:=⟨_,rfl⟩
  obtain⟨s2,hs2⟩ : ∃ s,((((((((((((((((((((B ws++(⟨#[60,114]⟩ : ByteArray))++B ws)++(⟨#[32,120,61,39,49,39,62]⟩ : ByteArray))++B ws)++(⟨#[60,107,32,121,61,34,50,34,62]⟩ : ByteArray))++pp)++(⟨#[60,47,107]⟩ : ByteArray))++B ws)++(⟨#[62]⟩ : ByteArray))++B ws)++(⟨#[60,118,62]⟩ : ByteArray))++qq)++(⟨#[60,47,118,62]⟩ : ByteArray))++B ws)++(⟨#[60,122]⟩ : ByteArray))++B ws)++(⟨#[47,62]⟩ : ByteArray))++B ws)++(⟨#[60,47,114,62]⟩ : ByteArray))++B ws)=s:=⟨_,rfl⟩
  have t1:s1.toList=txN (rootW a0 a1) []:=by
    rw [root_tx,← hs1,← hpp,← hqq]
    simp only [toList_append,B_toList,lit_l,List.append_assoc]
    rfl
  have t2:s2.toList=tW ws a0 a1:=by
    rw [← hs2,← hpp,← hqq,tW,tC,tA,tK,tZ,txN_eq,kidV,B_toList]
    simp only [toList_append,B_toList,lit_l,txL]
    simp [escB]
  obtain⟨x,e,v1,v2,he⟩:=white_both a0 a1 ws hw hwl z0 z1 s1 s2 t1 t2
  rw [hs1,hs2]
  iterate 4 refine ev_pos (by first|omega|(simp only [ByteArray.size_append,lit_z,List.length_cons,List.length_nil];omega)) ?_
  refine Ev.bind v1 ?_
  iterate 20 refine ev_pos (by first|omega|(simp only [ByteArray.size_append,lit_z,List.length_cons,List.length_nil];omega)) ?_
  refine Ev.bind v2 (ev_pos rfl ?_)
  dsimp only
  by_cases h0:e=0
  · obtain rfl:=he h0
    subst h0
    refine Ev.step (f:=fun k=>(stowagelaw13_awake.f k).bind fun t=>some t) (fun k=>?_) awb
    have hl:(((rootW a0 a1).f2.length:Nat):Int)=3:=rfl
    have h2:(rd_T24 (rootW a0 a1).f2 2).f1.toList = []:=B_toList []
    rw [stowagelaw13_XmlWhite.j0,if_neg (by decide),hl,if_pos rfl,if_pos rfl,if_pos (by decide),if_pos (by decide),if_pos rfl,if_pos (by decide),if_pos (by decide),if_pos rfl,if_pos (by decide),if_pos h2]
  · have hne:(e != 0)=true:=bne_iff_ne.mpr h0
    rw [hne]
    refine Ev.step (f:=fun k=>(stowagelaw13_awake.f k).bind fun t=>some t) (fun k=>?_) awb
    rw [stowagelaw13_XmlWhite.j0,if_pos rfl,if_pos rfl]
end Go.Proofs.YtklcgncaclggcaaDoor.Pure
