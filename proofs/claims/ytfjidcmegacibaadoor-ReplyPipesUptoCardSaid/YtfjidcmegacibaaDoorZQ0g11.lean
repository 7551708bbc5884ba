/- A part of the proof of the seat's laws. No condition beyond those in the theorems. -/
import Derived.Test.YtfjidcmegacibaaDoorZSqzB
import Derived.Test.YtfjidcmegacibaaDoorProg
import Derived.Test.YtfjidcmegacibaaDoorZXW
import Derived.Below
import Derived.Deep.Draws
import Derived.Deep.AppendLies
import Derived.Maps.AppendAt
import Derived.OwnWalk
import Derived.Laws.BytesArg
import Derived.Laws.MakeOwn
import Derived.Laws.OwnMore
import Derived.Deep.OwnRows
import Derived.Tactics
import Derived.Lib.ConvBytes
import Derived.Laws.Slices
import Derived.WalkKit
import Derived.KernelRfl
import Derived.RowKit3
import Derived.Deep.LoopGhost
import Derived.Deep.QuietTactic
import Derived.BigQuiet
import Derived.WideLaws
import Derived.Deep.DeepCutAuto
import Derived.Deep.CutBlock
import Derived.Deep.RegionHeld3
import Derived.Laws.Rows
import Derived.Lib.AppendStr
import Derived.ArgAppend
import Derived.Laws.IdiomCopy
import Derived.OrdersHeld
import Derived.Laws.BitsLemmas
import Derived.RowKit
import Derived.Test.YtfjidcmegacibaaDoorV1

namespace Go.Proofs.YtfjidcmegacibaaDoor.Q
open Go.RowKit Go.Proofs.YtfjidcmegacibaaDoorW.PrintWords Go.Proofs.YtfjidcmegacibaaDoorW.PrintLast Go.Proofs.YtfjidcmegacibaaDoorW.PrintMore
set_option linter.unusedVariables false
set_option linter.unusedSimpArgs false
attribute [local go_sem] max2_int min2_int max_two min_two max_three min_three max_four min_four   
def errW:Option Int→Value
  | none=>.nilIface
  | some c=>.iface 0 (.int .i64 c)
theorem errW_none:errW none = .nilIface:=rfl
theorem errW_some (c:Int):errW (some c) = .iface 0 (.int .i64 c):=rfl
theorem info3:(Tryd.prog.info? 3).map (fun i=>(i.zero,i.size,i.bytes))=some (some (.int .i64 0),1,8):=by kernel_rfl
theorem info5:(Tryd.prog.info? 5).map (fun i=>(i.zero,i.size,i.bytes))=some (some (.int .u8 0),1,1):=by kernel_rfl
theorem info9:(Tryd.prog.info? 9).map (fun i=>(i.zero,i.size,i.bytes))=some (some (.string ⟨#[]⟩),1,16):=by kernel_rfl
theorem info27:(Tryd.prog.info? 27).map (fun i=>(i.zero,i.size,i.bytes))=some (some (.agg #[(.int .i64 0),(.slice none 0 0),(.slice none 0 0)]),3,56):=by kernel_rfl
theorem info52:(Tryd.prog.info? 52).map (fun i=>(i.zero,i.size,i.bytes))=some (some (.agg #[(.string ⟨#[]⟩),(.string ⟨#[]⟩)]),2,32):=by kernel_rfl
theorem info116:(Tryd.prog.info? 116).map (fun i=>(i.zero,i.size,i.bytes))=some (some (.agg #[(.int .i64 0),(.int .i64 0)]),2,16):=by kernel_rfl
structure S52 where
  f0:ByteArray
  f1:ByteArray
def z52:S52:=⟨(⟨#[]⟩ : ByteArray),(⟨#[]⟩ : ByteArray)⟩
def k52:Kd S52:=Kd.iso (Kd.pair Kd.string Kd.string) (fun x:S52=>(x.f0,x.f1))
theorem k52_open {w:World} {x:S52} {cs:List Value} (h:k52.K w x cs):cs = [.string x.f0,.string x.f1]:=by
 obtain⟨_,_,rfl,rfl,rfl⟩:=h
 exact rfl
theorem k52_openM {w:World} {base:Nat} {ok:Nat→Prop} {x:S52} {cs:List Value} (h:k52.M w base ok x cs):cs = [.string x.f0,.string x.f1]:=by
 obtain⟨_,_,rfl,rfl,rfl⟩:=h
 exact rfl
theorem k52_mk (w:World) (x:S52)  : k52.K w x [.string x.f0,.string x.f1]:=⟨[.string x.f0],[.string x.f1],rfl,rfl,rfl⟩
theorem k52_mkM (w:World) (base:Nat) (ok:Nat→Prop) (x:S52)  : k52.M w base ok x [.string x.f0,.string x.f1]:=⟨[.string x.f0],[.string x.f1],rfl,rfl,rfl⟩
theorem k52_mkF (W:World) (ok:Nat→Prop) (x:S52):Kd.FK k52 W ok x [.string x.f0,.string x.f1]:=fun W2 _=>k52_mk W2 x
def rd_T52 (xs:List S52) (i:Int):S52:=xs.getD i.toNat z52
theorem at_T52 {w:World} {A:Option Addr} {n:Nat} {xs:List S52} (h:Kd.C k52 w A n xs) (i:Int) (h0:0≤i) (h1:i<n):∃ ad,A=some ad∧w.cell? (ad.add (i.toNat*2))=some (.string (rd_T52 xs i).f0)∧w.cell? ⟨(ad.add (i.toNat*2)).block,(ad.add (i.toNat*2)).off+1,none⟩=some (.string (rd_T52 xs i).f1):=by
 obtain⟨ad,c,e,_,hK,hc0⟩:=Kd.C_get h z52 i h0 h1
 have hc:∀ j u,c[j]? = some u→w.cell? (ad.add (i.toNat*2+j))=some u:=hc0
 obtain rfl:=k52_open hK
 exact⟨ad,e,hc 0 _ rfl,by rw [← add_field _ _ 1 (by omega)];exact hc 1 _ rfl⟩
structure S116 where
  f0:Int
  f1:Int
def z116:S116:=⟨(0:Int),(0:Int)⟩
def k116:Kd S116:=Kd.iso (Kd.pair (Kd.int .i64) (Kd.int .i64)) (fun x:S116=>(x.f0,x.f1))
theorem k116_open {w:World} {x:S116} {cs:List Value} (h:k116.K w x cs):cs = [.int .i64 x.f0,.int .i64 x.f1]:=by
 obtain⟨_,_,rfl,rfl,rfl⟩:=h
 exact rfl
theorem k116_openM {w:World} {base:Nat} {ok:Nat→Prop} {x:S116} {cs:List Value} (h:k116.M w base ok x cs):cs = [.int .i64 x.f0,.int .i64 x.f1]:=by
 obtain⟨_,_,rfl,rfl,rfl⟩:=h
 exact rfl
theorem k116_mk (w:World) (x:S116)  : k116.K w x [.int .i64 x.f0,.int .i64 x.f1]:=⟨[.int .i64 x.f0],[.int .i64 x.f1],rfl,rfl,rfl⟩
theorem k116_mkM (w:World) (base:Nat) (ok:Nat→Prop) (x:S116)  : k116.M w base ok x [.int .i64 x.f0,.int .i64 x.f1]:=⟨[.int .i64 x.f0],[.int .i64 x.f1],rfl,rfl,rfl⟩
theorem k116_mkF (W:World) (ok:Nat→Prop) (x:S116):Kd.FK k116 W ok x [.int .i64 x.f0,.int .i64 x.f1]:=fun W2 _=>k116_mk W2 x
def rd_T116 (xs:List S116) (i:Int):S116:=xs.getD i.toNat z116
theorem at_T116 {w:World} {A:Option Addr} {n:Nat} {xs:List S116} (h:Kd.C k116 w A n xs) (i:Int) (h0:0≤i) (h1:i<n):∃ ad,A=some ad∧w.cell? (ad.add (i.toNat*2))=some (.int .i64 (rd_T116 xs i).f0)∧w.cell? ⟨(ad.add (i.toNat*2)).block,(ad.add (i.toNat*2)).off+1,none⟩=some (.int .i64 (rd_T116 xs i).f1):=by
 obtain⟨ad,c,e,_,hK,hc0⟩:=Kd.C_get h z116 i h0 h1
 have hc:∀ j u,c[j]? = some u→w.cell? (ad.add (i.toNat*2+j))=some u:=hc0
 obtain rfl:=k116_open hK
 exact⟨ad,e,hc 0 _ rfl,by rw [← add_field _ _ 1 (by omega)];exact hc 1 _ rfl⟩
def rd_L5 (xs:List (List S52)) (i:Int):(List S52):=xs.getD i.toNat ([]:List S52)
theorem at_L5 {w:World} {A:Option Addr} {n:Nat} {xs:List (List S52)} (h:Kd.C (Kd.slice 52 k52) w A n xs) (i:Int) (h0:0≤i) (h1:i<n):∃ ad A0 c0,A=some ad∧w.cell? (ad.add i.toNat)=some (.slice A0 (rd_L5 xs i).length c0)∧(rd_L5 xs i).length≤c0∧k52.C w A0 (rd_L5 xs i).length (rd_L5 xs i):=by
 obtain⟨ad,c,e,_,hK,hc0⟩:=Kd.C_get h ([]:List S52) i h0 h1
 have hc:∀ j u,c[j]? = some u→w.cell? (ad.add (i.toNat*1+j))=some u:=hc0
 obtain⟨A0,c0,rfl,l0,g0⟩:=hK
 exact⟨ad,A0,c0,e,by have hq:=hc 0 _ rfl;rwa [Nat.mul_one,Nat.add_zero] at hq,l0,g0⟩
def rd_L6 (xs:List (List Int)) (i:Int):(List Int):=xs.getD i.toNat ([]:List Int)
theorem at_L6 {w:World} {A:Option Addr} {n:Nat} {xs:List (List Int)} (h:Kd.C (Kd.slice 5 (Kd.int .u8)) w A n xs) (i:Int) (h0:0≤i) (h1:i<n):∃ ad A0 c0,A=some ad∧w.cell? (ad.add i.toNat)=some (.slice A0 (rd_L6 xs i).length c0)∧(rd_L6 xs i).length≤c0∧(Kd.int .u8).C w A0 (rd_L6 xs i).length (rd_L6 xs i):=by
 obtain⟨ad,c,e,_,hK,hc0⟩:=Kd.C_get h ([]:List Int) i h0 h1
 have hc:∀ j u,c[j]? = some u→w.cell? (ad.add (i.toNat*1+j))=some u:=hc0
 obtain⟨A0,c0,rfl,l0,g0⟩:=hK
 exact⟨ad,A0,c0,e,by have hq:=hc 0 _ rfl;rwa [Nat.mul_one,Nat.add_zero] at hq,l0,g0⟩
structure S27 where
  f0:Int
  f1:(List S52)
  f2:(List Int)
def z27:S27:=⟨(0:Int),([]:List S52),([]:List Int)⟩
def k27:Kd S27:=Kd.iso (Kd.pair (Kd.int .i64) (Kd.pair (Kd.slice 52 k52) (Kd.slice 5 (Kd.int .u8)))) (fun x:S27=>(x.f0,x.f1,x.f2))
theorem k27_open {w:World} {x:S27} {cs:List Value} (h:k27.K w x cs):∃ A1 c1 A2 c2,cs = [.int .i64 x.f0,.slice A1 x.f1.length c1,.slice A2 x.f2.length c2]∧x.f1.length≤c1∧k52.C w A1 x.f1.length x.f1∧x.f2.length≤c2∧(Kd.int .u8).C w A2 x.f2.length x.f2:=by
 obtain⟨_,_,rfl,rfl,⟨_,_,rfl,⟨A1,c1,rfl,l1,g1⟩,⟨A2,c2,rfl,l2,g2⟩⟩⟩:=h
 exact⟨A1,c1,A2,c2,rfl,l1,g1,l2,g2⟩
theorem k27_openM {w:World} {base:Nat} {ok:Nat→Prop} {x:S27} {cs:List Value} (h:k27.M w base ok x cs):∃ v1 v2,cs = [.int .i64 x.f0,v1,v2]∧k52.R 52 w base ok v1 x.f1∧(Kd.int .u8).R 5 w base ok v2 x.f2:=by
 obtain⟨_,_,rfl,rfl,⟨_,_,rfl,⟨v1,rfl,g1⟩,⟨v2,rfl,g2⟩⟩⟩:=h
 exact⟨v1,v2,rfl,g1,g2⟩
theorem k27_mk (w:World) (x:S27) {A1:Option Addr} {c1:Nat} (l1:x.f1.length≤c1) (g1:k52.C w A1 x.f1.length x.f1) {A2:Option Addr} {c2:Nat} (l2:x.f2.length≤c2) (g2:(Kd.int .u8).C w A2 x.f2.length x.f2):k27.K w x [.int .i64 x.f0,.slice A1 x.f1.length c1,.slice A2 x.f2.length c2]:=⟨[.int .i64 x.f0],[.slice A1 x.f1.length c1,.slice A2 x.f2.length c2],rfl,rfl,⟨[.slice A1 x.f1.length c1],[.slice A2 x.f2.length c2],rfl,⟨A1,c1,rfl,l1,g1⟩,⟨A2,c2,rfl,l2,g2⟩⟩⟩
theorem k27_mkM (w:World) (base:Nat) (ok:Nat→Prop) (x:S27) {v1:Value} (g1:k52.R 52 w base ok v1 x.f1) {v2:Value} (g2:(Kd.int .u8).R 5 w base ok v2 x.f2):k27.M w base ok x [.int .i64 x.f0,v1,v2]:=⟨[.int .i64 x.f0],[v1,v2],rfl,rfl,⟨[v1],[v2],rfl,⟨v1,rfl,g1⟩,⟨v2,rfl,g2⟩⟩⟩
theorem k27_openF {W:World} {ok:Nat→Prop} {x:S27} {cs:List Value} (h:Kd.FK k27 W ok x cs):∃ A1 c1 A2 c2,cs = [.int .i64 x.f0,.slice A1 x.f1.length c1,.slice A2 x.f2.length c2]∧x.f1.length≤c1∧Kd.F k52 W ok A1 x.f1.length x.f1∧x.f2.length≤c2∧Kd.F (Kd.int .u8) W ok A2 x.f2.length x.f2:=by
 obtain⟨A1,c1,A2,c2,rfl,l1,_,l2,_⟩:=k27_open (Kd.FK_now h)
 exact⟨A1,c1,A2,c2,rfl,l1,(fun W' hW=>by obtain⟨A1_,c1_,A2_,c2_,he,l1_,g1_,l2_,g2_⟩:=k27_open (h W' hW);injection (Option.some.inj (show some (Value.slice A1 x.f1.length c1)=some (Value.slice A1_ x.f1.length c1_) from congrArg (fun l=>l[1]?) he)) with ha_ _ _;rw [ha_];exact g1_),l2,(fun W' hW=>by obtain⟨A1_,c1_,A2_,c2_,he,l1_,g1_,l2_,g2_⟩:=k27_open (h W' hW);injection (Option.some.inj (show some (Value.slice A2 x.f2.length c2)=some (Value.slice A2_ x.f2.length c2_) from congrArg (fun l=>l[2]?) he)) with ha_ _ _;rw [ha_];exact g2_)⟩
theorem k27_mkF (W:World) (ok:Nat→Prop) (x:S27) {A1:Option Addr} {c1:Nat} (l1:x.f1.length≤c1) (g1:Kd.F k52 W ok A1 x.f1.length x.f1) {A2:Option Addr} {c2:Nat} (l2:x.f2.length≤c2) (g2:Kd.F (Kd.int .u8) W ok A2 x.f2.length x.f2):Kd.FK k27 W ok x [.int .i64 x.f0,.slice A1 x.f1.length c1,.slice A2 x.f2.length c2]:=fun W2 hW=>k27_mk W2 x l1 (g1 W2 hW) l2 (g2 W2 hW)
def rd_T27 (xs:List S27) (i:Int):S27:=xs.getD i.toNat z27
theorem at_T27 {w:World} {A:Option Addr} {n:Nat} {xs:List S27} (h:Kd.C k27 w A n xs) (i:Int) (h0:0≤i) (h1:i<n):∃ ad A1 c1 A2 c2,A=some ad∧w.cell? (ad.add (i.toNat*3))=some (.int .i64 (rd_T27 xs i).f0)∧w.cell? ⟨(ad.add (i.toNat*3)).block,(ad.add (i.toNat*3)).off+1,none⟩=some (.slice A1 (rd_T27 xs i).f1.length c1)∧w.cell? ⟨(ad.add (i.toNat*3)).block,(ad.add (i.toNat*3)).off+2,none⟩=some (.slice A2 (rd_T27 xs i).f2.length c2)∧(rd_T27 xs i).f1.length≤c1∧k52.C w A1 (rd_T27 xs i).f1.length (rd_T27 xs i).f1∧(rd_T27 xs i).f2.length≤c2∧(Kd.int .u8).C w A2 (rd_T27 xs i).f2.length (rd_T27 xs i).f2:=by
 obtain⟨ad,c,e,_,hK,hc0⟩:=Kd.C_get h z27 i h0 h1
 have hc:∀ j u,c[j]? = some u→w.cell? (ad.add (i.toNat*3+j))=some u:=hc0
 obtain⟨A1,c1,A2,c2,rfl,l1,g1,l2,g2⟩:=k27_open hK
 exact⟨ad,A1,c1,A2,c2,e,hc 0 _ rfl,by rw [← add_field _ _ 1 (by omega)];exact hc 1 _ rfl,by rw [← add_field _ _ 2 (by omega)];exact hc 2 _ rfl,l1,g1,l2,g2⟩
theorem eqA52 (d:Nat) (w:World) (x0 y0:ByteArray) (x1 y1:ByteArray) :
    (Op.equalIn (d+2) 52 (.agg #[.string x0,.string x1]) (.agg #[.string y0,.string y1])).run Tryd.prog w = .ok (x0.toList == y0.toList && (x1.toList == y1.toList)) w:=by
 refine eqA_of Tryd.underlying52 kr ?_
 refine eqf_cons (by rfl) (by go_simp;rfl) (by go_simp;rfl) (by go_simp) ?_
 exact eqf_last (by rfl) (by go_simp;rfl) (by go_simp;rfl) (by go_simp)
set_option maxHeartbeats 8000000
set_option maxRecDepth 100000
def stowageref17_Phrase.l0:Nat→Int→List Int→List ByteArray→Int→Option (ByteArray)
  | 0,_,_,_,_=>none
  | k+1,x0,x3,x4,x5=>if x5<(x3.length:Int) then(if 0≤x5 then(if(rd x3 x5)=x0 then(if x5<(x4.length:Int) then(some (rdOf ByteArray.empty x4 x5)) else(none)) else(stowageref17_Phrase.l0 k x0 x3 x4 (wrap64 (x5+1)))) else(none)) else(some (⟨#[85,110,107,110,111,119,110]⟩ : ByteArray))
def stowageref17_Phrase.f (k:Nat) (a0:Int):Option (ByteArray):=stowageref17_Phrase.l0 k a0 (([100,200,204,206,304,400,403,404,405,409,412,414,416,417,431,500,501,503,505]:List Int)) (([(⟨#[67,111,110,116,105,110,117,101]⟩ : ByteArray),(⟨#[79,75]⟩ : ByteArray),(⟨#[78,111,32,67,111,110,116,101,110,116]⟩ : ByteArray),(⟨#[80,97,114,116,105,97,108,32,67,111,110,116,101,110,116]⟩ : ByteArray),(⟨#[78,111,116,32,77,111,100,105,102,105,101,100]⟩ : ByteArray),(⟨#[66,97,100,32,82,101,113,117,101,115,116]⟩ : ByteArray),(⟨#[70,111,114,98,105,100,100,101,110]⟩ : ByteArray),(⟨#[78,111,116,32,70,111,117,110,100]⟩ : ByteArray),(⟨#[77,101,116,104,111,100,32,78,111,116,32,65,108,108,111,119,101,100]⟩ : ByteArray),(⟨#[67,111,110,102,108,105,99,116]⟩ : ByteArray),(⟨#[80,114,101,99,111,110,100,105,116,105,111,110,32,70,97,105,108,101,100]⟩ : ByteArray),(⟨#[85,82,73,32,84,111,111,32,76,111,110,103]⟩ : ByteArray),(⟨#[82,97,110,103,101,32,78,111,116,32,83,97,116,105,115,102,105,97,98,108,101]⟩ : ByteArray),(⟨#[69,120,112,101,99,116,97,116,105,111,110,32,70,97,105,108,101,100]⟩ : ByteArray),(⟨#[82,101,113,117,101,115,116,32,72,101,97,100,101,114,32,70,105,101,108,100,115,32,84,111,111,32,76,97,114,103,101]⟩ : ByteArray),(⟨#[73,110,116,101,114,110,97,108,32,83,101,114,118,101,114,32,69,114,114,111,114]⟩ : ByteArray),(⟨#[78,111,116,32,73,109,112,108,101,109,101,110,116,101,100]⟩ : ByteArray),(⟨#[83,101,114,118,105,99,101,32,85,110,97,118,97,105,108,97,98,108,101]⟩ : ByteArray),(⟨#[72,84,84,80,32,86,101,114,115,105,111,110,32,78,111,116,32,83,117,112,112,111,114,116,101,100]⟩ : ByteArray)]:List ByteArray)) 0
theorem stowageref17_Phrase.mono_l:∀ k,(∀ y0 y1 y2 y3,LeO (stowageref17_Phrase.l0 k y0 y1 y2 y3) (stowageref17_Phrase.l0 (k+1) y0 y1 y2 y3))
  | 0=>fun _ _ _ _ r h=>by simp [stowageref17_Phrase.l0] at h
  | k+1=>by
    have ih0:=stowageref17_Phrase.mono_l k
    · intro y0 y1 y2 y3
      unfold stowageref17_Phrase.l0
      with_reducible repeat' first|exact ih0 _ _ _ _|exact LeO.refl _|exact LeO.none _|refine LeO.ite ?_ ?_|refine LeO.bind ?_ (fun _=>?_)
theorem stowageref17_Phrase.mono:∀ a0 k,LeO (stowageref17_Phrase.f k a0) (stowageref17_Phrase.f (k+1) a0):=by
 intro a0 k
 have ih0:=stowageref17_Phrase.mono_l k
 unfold stowageref17_Phrase.f
 with_reducible repeat' first|exact ih0 _ _ _ _|exact LeO.refl _|exact LeO.none _|refine LeO.ite ?_ ?_|refine LeO.bind ?_ (fun _=>?_)
theorem stowageref17_Phrase.calls (k:Nat) (a0:Int) (r:ByteArray) (w:World) (h:stowageref17_Phrase.f k a0=some r) :
    Calls Tryd.prog 14 #[.int .i64 a0] w fun e w'=>e = .returned (.string r)∧Below w.heap.size w w':=by
 have HB:=Aside0.mk (Below.refl w.heap.size w)
 unfold stowageref17_Phrase.f at h
 have H:=h
 clear h
 obtain⟨y101,hy101⟩ : ∃ y_:List Int,y_=(([100,200,204,206,304,400,403,404,405,409,412,414,416,417,431,500,501,503,505]:List Int)):=⟨_,rfl⟩
 replace H:(stowageref17_Phrase.l0 k a0 y101 (([(⟨#[67,111,110,116,105,110,117,101]⟩ : ByteArray),(⟨#[79,75]⟩ : ByteArray),(⟨#[78,111,32,67,111,110,116,101,110,116]⟩ : ByteArray),(⟨#[80,97,114,116,105,97,108,32,67,111,110,116,101,110,116]⟩ : ByteArray),(⟨#[78,111,116,32,77,111,100,105,102,105,101,100]⟩ : ByteArray),(⟨#[66,97,100,32,82,101,113,117,101,115,116]⟩ : ByteArray),(⟨#[70,111,114,98,105,100,100,101,110]⟩ : ByteArray),(⟨#[78,111,116,32,70,111,117,110,100]⟩ : ByteArray),(⟨#[77,101,116,104,111,100,32,78,111,116,32,65,108,108,111,119,101,100]⟩ : ByteArray),(⟨#[67,111,110,102,108,105,99,116]⟩ : ByteArray),(⟨#[80,114,101,99,111,110,100,105,116,105,111,110,32,70,97,105,108,101,100]⟩ : ByteArray),(⟨#[85,82,73,32,84,111,111,32,76,111,110,103]⟩ : ByteArray),(⟨#[82,97,110,103,101,32,78,111,116,32,83,97,116,105,115,102,105,97,98,108,101]⟩ : ByteArray),(⟨#[69,120,112,101,99,116,97,116,105,111,110,32,70,97,105,108,101,100]⟩ : ByteArray),(⟨#[82,101,113,117,101,115,116,32,72,101,97,100,101,114,32,70,105,101,108,100,115,32,84,111,111,32,76,97,114,103,101]⟩ : ByteArray),(⟨#[73,110,116,101,114,110,97,108,32,83,101,114,118,101,114,32,69,114,114,111,114]⟩ : ByteArray),(⟨#[78,111,116,32,73,109,112,108,101,109,101,110,116,101,100]⟩ : ByteArray),(⟨#[83,101,114,118,105,99,101,32,85,110,97,118,97,105,108,97,98,108,101]⟩ : ByteArray),(⟨#[72,84,84,80,32,86,101,114,115,105,111,110,32,78,111,116,32,83,117,112,112,111,114,116,101,100]⟩ : ByteArray)]:List ByteArray)) 0)=some r:=by first|(rw [hy101];with_reducible exact H)|(have H2_:=(Option.bind_some _ _).symm.trans H;rw [hy101];with_reducible exact H2_)|(have H2_:=(Option.bind_some _ _).symm.trans H;with_reducible exact H2_)|with_reducible exact H|(rw [hy101];exact H)|exact H
 have Ny101:=Aside0.mk hy101
 clear hy101
 obtain⟨y104,hy104⟩ : ∃ y_:List ByteArray,y_=(([(⟨#[67,111,110,116,105,110,117,101]⟩ : ByteArray),(⟨#[79,75]⟩ : ByteArray),(⟨#[78,111,32,67,111,110,116,101,110,116]⟩ : ByteArray),(⟨#[80,97,114,116,105,97,108,32,67,111,110,116,101,110,116]⟩ : ByteArray),(⟨#[78,111,116,32,77,111,100,105,102,105,101,100]⟩ : ByteArray),(⟨#[66,97,100,32,82,101,113,117,101,115,116]⟩ : ByteArray),(⟨#[70,111,114,98,105,100,100,101,110]⟩ : ByteArray),(⟨#[78,111,116,32,70,111,117,110,100]⟩ : ByteArray),(⟨#[77,101,116,104,111,100,32,78,111,116,32,65,108,108,111,119,101,100]⟩ : ByteArray),(⟨#[67,111,110,102,108,105,99,116]⟩ : ByteArray),(⟨#[80,114,101,99,111,110,100,105,116,105,111,110,32,70,97,105,108,101,100]⟩ : ByteArray),(⟨#[85,82,73,32,84,111,111,32,76,111,110,103]⟩ : ByteArray),(⟨#[82,97,110,103,101,32,78,111,116,32,83,97,116,105,115,102,105,97,98,108,101]⟩ : ByteArray),(⟨#[69,120,112,101,99,116,97,116,105,111,110,32,70,97,105,108,101,100]⟩ : ByteArray),(⟨#[82,101,113,117,101,115,116,32,72,101,97,100,101,114,32,70,105,101,108,100,115,32,84,111,111,32,76,97,114,103,101]⟩ : ByteArray),(⟨#[73,110,116,101,114,110,97,108,32,83,101,114,118,101,114,32,69,114,114,111,114]⟩ : ByteArray),(⟨#[78,111,116,32,73,109,112,108,101,109,101,110,116,101,100]⟩ : ByteArray),(⟨#[83,101,114,118,105,99,101,32,85,110,97,118,97,105,108,97,98,108,101]⟩ : ByteArray),(⟨#[72,84,84,80,32,86,101,114,115,105,111,110,32,78,111,116,32,83,117,112,112,111,114,116,101,100]⟩ : ByteArray)]:List ByteArray)):=⟨_,rfl⟩
 replace H:(stowageref17_Phrase.l0 k a0 y101 y104 0)=some r:=by first|(rw [hy104];with_reducible exact H)|(have H2_:=(Option.bind_some _ _).symm.trans H;rw [hy104];with_reducible exact H2_)|(have H2_:=(Option.bind_some _ _).symm.trans H;with_reducible exact H2_)|with_reducible exact H|(rw [hy104];exact H)|exact H
 have Ny104:=Aside0.mk hy104
 clear hy104
 have H':=Aside0.mk H
 clear H
 go_enter Tryd.func14,Tryd.ntmps14
 go_wp2_with (first|((with_reducible refine gate_dst (N:=6) rfl ?_);refine Kd.R_lit (Kd.int .i64) _ 3 ?hg (N:=6) ?hd (xs:=([100,200,204,206,304,400,403,404,405,409,412,414,416,417,431,500,501,503,505]:List Int)) (inner:=[.int .i64 100,.int .i64 200,.int .i64 204,.int .i64 206,.int .i64 304,.int .i64 400,.int .i64 403,.int .i64 404,.int .i64 405,.int .i64 409,.int .i64 412,.int .i64 414,.int .i64 416,.int .i64 417,.int .i64 431,.int .i64 500,.int .i64 501,.int .i64 503,.int .i64 505]) (ok:=fun _=>True) (okp:=fun _=>True) ?hr ?hp (fun _ hk=>hk) trivial (Below.refl _ _) (Nat.le_refl _) (by simp) ?_;(case hd=>rfl);(case hg=>rfl);(case hr=>first|(go_simp;done)|(go_simp;rfl));(case hp=>exact(Reps.one (show Kd.M (Kd.int .i64) _ _ _ 100 [.int .i64 100] from rfl) (Reps.one (show Kd.M (Kd.int .i64) _ _ _ 200 [.int .i64 200] from rfl) (Reps.one (show Kd.M (Kd.int .i64) _ _ _ 204 [.int .i64 204] from rfl) (Reps.one (show Kd.M (Kd.int .i64) _ _ _ 206 [.int .i64 206] from rfl) (Reps.one (show Kd.M (Kd.int .i64) _ _ _ 304 [.int .i64 304] from rfl) (Reps.one (show Kd.M (Kd.int .i64) _ _ _ 400 [.int .i64 400] from rfl) (Reps.one (show Kd.M (Kd.int .i64) _ _ _ 403 [.int .i64 403] from rfl) (Reps.one (show Kd.M (Kd.int .i64) _ _ _ 404 [.int .i64 404] from rfl) (Reps.one (show Kd.M (Kd.int .i64) _ _ _ 405 [.int .i64 405] from rfl) (Reps.one (show Kd.M (Kd.int .i64) _ _ _ 409 [.int .i64 409] from rfl) (Reps.one (show Kd.M (Kd.int .i64) _ _ _ 412 [.int .i64 412] from rfl) (Reps.one (show Kd.M (Kd.int .i64) _ _ _ 414 [.int .i64 414] from rfl) (Reps.one (show Kd.M (Kd.int .i64) _ _ _ 416 [.int .i64 416] from rfl) (Reps.one (show Kd.M (Kd.int .i64) _ _ _ 417 [.int .i64 417] from rfl) (Reps.one (show Kd.M (Kd.int .i64) _ _ _ 431 [.int .i64 431] from rfl) (Reps.one (show Kd.M (Kd.int .i64) _ _ _ 500 [.int .i64 500] from rfl) (Reps.one (show Kd.M (Kd.int .i64) _ _ _ 501 [.int .i64 501] from rfl) (Reps.one (show Kd.M (Kd.int .i64) _ _ _ 503 [.int .i64 503] from rfl) (Reps.one (show Kd.M (Kd.int .i64) _ _ _ 505 [.int .i64 505] from rfl) (Reps.none _ _)))))))))))))))))))));intro v102 w2 ho3 hb hg_ hnew_;clear hg_ hnew_;(first|rw [← Ny101.out] at ho3|(simp only [Int.reduceToNat] at ho3;rw [← Ny101.out] at ho3));have HO103:=Aside0.mk (Kd.R_lower ho3 (below_size bl));replace HB:=Aside0.mk (below_step bl hb);clear hb ho3)|((with_reducible refine gate_dst (N:=7) rfl ?_);refine Kd.R_lit Kd.string _ 9 ?hg (N:=7) ?hd (xs:=([(⟨#[67,111,110,116,105,110,117,101]⟩ : ByteArray),(⟨#[79,75]⟩ : ByteArray),(⟨#[78,111,32,67,111,110,116,101,110,116]⟩ : ByteArray),(⟨#[80,97,114,116,105,97,108,32,67,111,110,116,101,110,116]⟩ : ByteArray),(⟨#[78,111,116,32,77,111,100,105,102,105,101,100]⟩ : ByteArray),(⟨#[66,97,100,32,82,101,113,117,101,115,116]⟩ : ByteArray),(⟨#[70,111,114,98,105,100,100,101,110]⟩ : ByteArray),(⟨#[78,111,116,32,70,111,117,110,100]⟩ : ByteArray),(⟨#[77,101,116,104,111,100,32,78,111,116,32,65,108,108,111,119,101,100]⟩ : ByteArray),(⟨#[67,111,110,102,108,105,99,116]⟩ : ByteArray),(⟨#[80,114,101,99,111,110,100,105,116,105,111,110,32,70,97,105,108,101,100]⟩ : ByteArray),(⟨#[85,82,73,32,84,111,111,32,76,111,110,103]⟩ : ByteArray),(⟨#[82,97,110,103,101,32,78,111,116,32,83,97,116,105,115,102,105,97,98,108,101]⟩ : ByteArray),(⟨#[69,120,112,101,99,116,97,116,105,111,110,32,70,97,105,108,101,100]⟩ : ByteArray),(⟨#[82,101,113,117,101,115,116,32,72,101,97,100,101,114,32,70,105,101,108,100,115,32,84,111,111,32,76,97,114,103,101]⟩ : ByteArray),(⟨#[73,110,116,101,114,110,97,108,32,83,101,114,118,101,114,32,69,114,114,111,114]⟩ : ByteArray),(⟨#[78,111,116,32,73,109,112,108,101,109,101,110,116,101,100]⟩ : ByteArray),(⟨#[83,101,114,118,105,99,101,32,85,110,97,118,97,105,108,97,98,108,101]⟩ : ByteArray),(⟨#[72,84,84,80,32,86,101,114,115,105,111,110,32,78,111,116,32,83,117,112,112,111,114,116,101,100]⟩ : ByteArray)]:List ByteArray)) (inner:=[.string (⟨#[67,111,110,116,105,110,117,101]⟩ : ByteArray),.string (⟨#[79,75]⟩ : ByteArray),.string (⟨#[78,111,32,67,111,110,116,101,110,116]⟩ : ByteArray),.string (⟨#[80,97,114,116,105,97,108,32,67,111,110,116,101,110,116]⟩ : ByteArray),.string (⟨#[78,111,116,32,77,111,100,105,102,105,101,100]⟩ : ByteArray),.string (⟨#[66,97,100,32,82,101,113,117,101,115,116]⟩ : ByteArray),.string (⟨#[70,111,114,98,105,100,100,101,110]⟩ : ByteArray),.string (⟨#[78,111,116,32,70,111,117,110,100]⟩ : ByteArray),.string (⟨#[77,101,116,104,111,100,32,78,111,116,32,65,108,108,111,119,101,100]⟩ : ByteArray),.string (⟨#[67,111,110,102,108,105,99,116]⟩ : ByteArray),.string (⟨#[80,114,101,99,111,110,100,105,116,105,111,110,32,70,97,105,108,101,100]⟩ : ByteArray),.string (⟨#[85,82,73,32,84,111,111,32,76,111,110,103]⟩ : ByteArray),.string (⟨#[82,97,110,103,101,32,78,111,116,32,83,97,116,105,115,102,105,97,98,108,101]⟩ : ByteArray),.string (⟨#[69,120,112,101,99,116,97,116,105,111,110,32,70,97,105,108,101,100]⟩ : ByteArray),.string (⟨#[82,101,113,117,101,115,116,32,72,101,97,100,101,114,32,70,105,101,108,100,115,32,84,111,111,32,76,97,114,103,101]⟩ : ByteArray),.string (⟨#[73,110,116,101,114,110,97,108,32,83,101,114,118,101,114,32,69,114,114,111,114]⟩ : ByteArray),.string (⟨#[78,111,116,32,73,109,112,108,101,109,101,110,116,101,100]⟩ : ByteArray),.string (⟨#[83,101,114,118,105,99,101,32,85,110,97,118,97,105,108,97,98,108,101]⟩ : ByteArray),.string (⟨#[72,84,84,80,32,86,101,114,115,105,111,110,32,78,111,116,32,83,117,112,112,111,114,116,101,100]⟩ : ByteArray)]) (ok:=fun _=>True) (okp:=fun _=>True) ?hr ?hp (fun _ hk=>hk) trivial (Below.refl _ _) (Nat.le_refl _) (by simp) ?_;(case hd=>rfl);(case hg=>rfl);(case hr=>first|(go_simp;done)|(go_simp;rfl));(case hp=>exact(Reps.one (show Kd.M Kd.string _ _ _ (⟨#[67,111,110,116,105,110,117,101]⟩ : ByteArray) [.string (⟨#[67,111,110,116,105,110,117,101]⟩ : ByteArray)] from rfl) (Reps.one (show Kd.M Kd.string _ _ _ (⟨#[79,75]⟩ : ByteArray) [.string (⟨#[79,75]⟩ : ByteArray)] from rfl) (Reps.one (show Kd.M Kd.string _ _ _ (⟨#[78,111,32,67,111,110,116,101,110,116]⟩ : ByteArray) [.string (⟨#[78,111,32,67,111,110,116,101,110,116]⟩ : ByteArray)] from rfl) (Reps.one (show Kd.M Kd.string _ _ _ (⟨#[80,97,114,116,105,97,108,32,67,111,110,116,101,110,116]⟩ : ByteArray) [.string (⟨#[80,97,114,116,105,97,108,32,67,111,110,116,101,110,116]⟩ : ByteArray)] from rfl) (Reps.one (show Kd.M Kd.string _ _ _ (⟨#[78,111,116,32,77,111,100,105,102,105,101,100]⟩ : ByteArray) [.string (⟨#[78,111,116,32,77,111,100,105,102,105,101,100]⟩ : ByteArray)] from rfl) (Reps.one (show Kd.M Kd.string _ _ _ (⟨#[66,97,100,32,82,101,113,117,101,115,116]⟩ : ByteArray) [.string (⟨#[66,97,100,32,82,101,113,117,101,115,116]⟩ : ByteArray)] from rfl) (Reps.one (show Kd.M Kd.string _ _ _ (⟨#[70,111,114,98,105,100,100,101,110]⟩ : ByteArray) [.string (⟨#[70,111,114,98,105,100,100,101,110]⟩ : ByteArray)] from rfl) (Reps.one (show Kd.M Kd.string _ _ _ (⟨#[78,111,116,32,70,111,117,110,100]⟩ : ByteArray) [.string (⟨#[78,111,116,32,70,111,117,110,100]⟩ : ByteArray)] from rfl) (Reps.one (show Kd.M Kd.string _ _ _ (⟨#[77,101,116,104,111,100,32,78,111,116,32,65,108,108,111,119,101,100]⟩ : ByteArray) [.string (⟨#[77,101,116,104,111,100,32,78,111,116,32,65,108,108,111,119,101,100]⟩ : ByteArray)] from rfl) (Reps.one (show Kd.M Kd.string _ _ _ (⟨#[67,111,110,102,108,105,99,116]⟩ : ByteArray) [.string (⟨#[67,111,110,102,108,105,99,116]⟩ : ByteArray)] from rfl) (Reps.one (show Kd.M Kd.string _ _ _ (⟨#[80,114,101,99,111,110,100,105,116,105,111,110,32,70,97,105,108,101,100]⟩ : ByteArray) [.string (⟨#[80,114,101,99,111,110,100,105,116,105,111,110,32,70,97,105,108,101,100]⟩ : ByteArray)] from rfl) (Reps.one (show Kd.M Kd.string _ _ _ (⟨#[85,82,73,32,84,111,111,32,76,111,110,103]⟩ : ByteArray) [.string (⟨#[85,82,73,32,84,111,111,32,76,111,110,103]⟩ : ByteArray)] from rfl) (Reps.one (show Kd.M Kd.string _ _ _ (⟨#[82,97,110,103,101,32,78,111,116,32,83,97,116,105,115,102,105,97,98,108,101]⟩ : ByteArray) [.string (⟨#[82,97,110,103,101,32,78,111,116,32,83,97,116,105,115,102,105,97,98,108,101]⟩ : ByteArray)] from rfl) (Reps.one (show Kd.M Kd.string _ _ _ (⟨#[69,120,112,101,99,116,97,116,105,111,110,32,70,97,105,108,101,100]⟩ : ByteArray) [.string (⟨#[69,120,112,101,99,116,97,116,105,111,110,32,70,97,105,108,101,100]⟩ : ByteArray)] from rfl) (Reps.one (show Kd.M Kd.string _ _ _ (⟨#[82,101,113,117,101,115,116,32,72,101,97,100,101,114,32,70,105,101,108,100,115,32,84,111,111,32,76,97,114,103,101]⟩ : ByteArray) [.string (⟨#[82,101,113,117,101,115,116,32,72,101,97,100,101,114,32,70,105,101,108,100,115,32,84,111,111,32,76,97,114,103,101]⟩ : ByteArray)] from rfl) (Reps.one (show Kd.M Kd.string _ _ _ (⟨#[73,110,116,101,114,110,97,108,32,83,101,114,118,101,114,32,69,114,114,111,114]⟩ : ByteArray) [.string (⟨#[73,110,116,101,114,110,97,108,32,83,101,114,118,101,114,32,69,114,114,111,114]⟩ : ByteArray)] from rfl) (Reps.one (show Kd.M Kd.string _ _ _ (⟨#[78,111,116,32,73,109,112,108,101,109,101,110,116,101,100]⟩ : ByteArray) [.string (⟨#[78,111,116,32,73,109,112,108,101,109,101,110,116,101,100]⟩ : ByteArray)] from rfl) (Reps.one (show Kd.M Kd.string _ _ _ (⟨#[83,101,114,118,105,99,101,32,85,110,97,118,97,105,108,97,98,108,101]⟩ : ByteArray) [.string (⟨#[83,101,114,118,105,99,101,32,85,110,97,118,97,105,108,97,98,108,101]⟩ : ByteArray)] from rfl) (Reps.one (show Kd.M Kd.string _ _ _ (⟨#[72,84,84,80,32,86,101,114,115,105,111,110,32,78,111,116,32,83,117,112,112,111,114,116,101,100]⟩ : ByteArray) [.string (⟨#[72,84,84,80,32,86,101,114,115,105,111,110,32,78,111,116,32,83,117,112,112,111,114,116,101,100]⟩ : ByteArray)] from rfl) (Reps.none _ _)))))))))))))))))))));intro v105 w4 ho5 hb hg_ hnew_;clear hg_ hnew_;(first|rw [← Ny104.out] at ho5|(simp only [Int.reduceToNat] at ho5;rw [← Ny104.out] at ho5));replace HO103:=Aside0.mk (Kd.R_below rl hb);have HO106:=Aside0.mk (Kd.R_lower ho5 (below_size bl));replace HB:=Aside0.mk (below_step bl hb);clear hb ho5))
 go_loopg [5] k (fun kq v5 w'=>∃ (x5_1:Int),v5 = .int .i64 x5_1∧Aside0 (stowageref17_Phrase.l0 kq a0 y101 y104 x5_1=some r)∧Aside0 (kq≤k)∧Aside0 (Kd.R (Kd.int .i64) 3 w' w.heap.size (fun _=>True) v102 y101)∧Aside0 (Kd.R Kd.string 9 w' w.heap.size (fun _=>True) v105 y104)∧Aside0 (Below w.heap.size w w'))
 case atStart=>exact⟨(0),rs,H',⟨Nat.le_refl _⟩,⟨rl⟩,⟨rl⟩,⟨bl⟩⟩
 case round=>
  clear H'
  obtain⟨x5_1,rfl,HA,HK1,HO_3,HO_4,HB⟩:=hrel
  cases gk with
  | zero=>exact absurd HA.out (by simp [stowageref17_Phrase.l0])
  | succ k1=>
   have H:=HA.out
   clear HA
   simp only [stowageref17_Phrase.l0] at H
   replace H:=itO H
   rcases H with⟨c6,H⟩|⟨c6,H⟩
   {
   have c6b0:decide (x5_1<(y101.length:Int))=true:=decide_eq_true c6
   clear c6
   replace H:=itO H
   rcases H with⟨c7,H⟩|⟨c7,H⟩
   {
   have c7b0:decide (0≤x5_1)=true:=decide_eq_true c7
   clear c7
   replace H:=itO H
   rcases H with⟨c8,H⟩|⟨c8,H⟩
   {
   have c8b0:((rd y101 x5_1) == a0)=true:=beq_iff_eq.mpr c8
   have c8b1:((rd y101 x5_1) != a0)=false:=bne_eq_false_iff_eq.mpr c8
   clear c8
   replace H:=itO H
   rcases H with⟨c9,H⟩|⟨c9,H⟩
   {
   have c9b0:decide (x5_1<(y104.length:Int))=true:=decide_eq_true c9
   clear c9
   obtain rfl:=Option.some.inj H
   obtain⟨Ao10,co10,eo10⟩:=Kd.R_slice HO_3.out
   subst eo10
   have p107:0≤(x5_1:Int):=of_decide_eq_true asm
   have q107:x5_1<(y101.length:Int):=of_decide_eq_true asm
   obtain⟨ad107,e107,hx107_0⟩:=Kd.at_int (Kd.R_reads' HO_3.out).2.2 x5_1 p107 q107
   cases e107
   replace p107:=eq_true p107
   replace q107:=eq_true q107
   obtain⟨Ao11,co11,eo11⟩:=Kd.R_slice HO_4.out
   subst eo11
   have p108:0≤(x5_1:Int):=of_decide_eq_true asm
   have q108:x5_1<(y104.length:Int):=of_decide_eq_true asm
   obtain⟨ad108,e108,hx108_0⟩:=Kd.at_string (Kd.R_reads' HO_4.out).2.2 x5_1 p108 q108
   cases e108
   replace p108:=eq_true p108
   replace q108:=eq_true q108
   go_wp2
   go_ret
   exact⟨ew,bl⟩
   }
   ·exact absurd H (by simp)
   }
   {
   have c8b0:((rd y101 x5_1) == a0)=false:=beq_eq_false_iff_ne.mpr c8
   have c8b1:((rd y101 x5_1) != a0)=true:=bne_iff_ne.mpr c8
   have H':=Aside0.mk H
   clear H
   obtain⟨Ao12,co12,eo12⟩:=Kd.R_slice HO_3.out
   subst eo12
   have p107:0≤(x5_1:Int):=of_decide_eq_true asm
   have q107:x5_1<(y101.length:Int):=of_decide_eq_true asm
   obtain⟨ad107,e107,hx107_0⟩:=Kd.at_int (Kd.R_reads' HO_3.out).2.2 x5_1 p107 q107
   cases e107
   replace p107:=eq_true p107
   replace q107:=eq_true q107
   go_wp2
   go_roundg k1
   case measure=>have:=HK1.out;omega
   case rel=>exact⟨(wrap64 (x5_1+1)),rs,H',⟨by have:=HK1.out;omega⟩,⟨rl⟩,⟨rl⟩,⟨bl⟩⟩
   }
   }
   ·exact absurd H (by simp)
   }
   {
   have c6b0:decide (x5_1<(y101.length:Int))=false:=decide_eq_false c6
   clear c6
   obtain rfl:=Option.some.inj H
   obtain⟨Ao13,co13,eo13⟩:=Kd.R_slice HO_3.out
   subst eo13
   go_wp2
   go_ret
   exact⟨ew,bl⟩
   }
def stowageref17_Bare.f (a0:Int):Option (Bool):=if a0=100 then(some true) else(if a0=204 then(some true) else(some (a0 == 304)))
theorem stowageref17_Bare.calls (a0:Int) (r:Bool) (w:World) (h:stowageref17_Bare.f a0=some r) :
    Calls Tryd.prog 16 #[.int .i64 a0] w fun e w'=>e = .returned (.bool r)∧Drawn0 w w':=by
 unfold stowageref17_Bare.f at h
 have H:=h
 clear h
 replace H:=itO H
 rcases H with⟨c2,H⟩|⟨c2,H⟩
 {
 have c2b0:(a0 == 100)=true:=beq_iff_eq.mpr c2
 have c2b1:(a0 != 100)=false:=bne_eq_false_iff_eq.mpr c2
 clear c2
 obtain rfl:=Option.some.inj H
 go_enter Tryd.func16,Tryd.ntmps16
 go_wp2
 go_ret
 exact⟨rs,dr⟩
 }
 {
 have c2b0:(a0 == 100)=false:=beq_eq_false_iff_ne.mpr c2
 have c2b1:(a0 != 100)=true:=bne_iff_ne.mpr c2
 replace H:=itO H
 rcases H with⟨c3,H⟩|⟨c3,H⟩
 {
 have c3b0:(a0 == 204)=true:=beq_iff_eq.mpr c3
 have c3b1:(a0 != 204)=false:=bne_eq_false_iff_eq.mpr c3
 clear c3
 obtain rfl:=Option.some.inj H
 go_enter Tryd.func16,Tryd.ntmps16
 go_wp2
 go_ret
 exact⟨rs,dr⟩
 }
 {
 have c3b0:(a0 == 204)=false:=beq_eq_false_iff_ne.mpr c3
 have c3b1:(a0 != 204)=true:=bne_iff_ne.mpr c3
 obtain rfl:=Option.some.inj H
 go_enter Tryd.func16,Tryd.ntmps16
 go_wp2
 go_ret
 exact⟨rs,dr⟩
 }
 }
def stowageref1_digit.f (a0:Int):Option (ByteArray):=if 0≤a0 then(if a0≤(wrap64 (a0+1)) then(if(wrap64 (a0+1))≤16 then(some ((⟨#[48,49,50,51,52,53,54,55,56,57,97,98,99,100,101,102]⟩ : ByteArray).extract (a0:Int).toNat ((wrap64 (a0+1)):Int).toNat)) else(none)) else(none)) else(none)
theorem stowageref1_digit.calls (a0:Int) (r:ByteArray) (w:World) (h:stowageref1_digit.f a0=some r) :
    Calls Tryd.prog 37 #[.int .i64 a0] w fun e w'=>e = .returned (.string r)∧Drawn0 w w':=by
 unfold stowageref1_digit.f at h
 have H:=h
 clear h
 replace H:=itO H
 rcases H with⟨c2,H⟩|⟨c2,H⟩
 {
 have c2b0:=eq_true c2
 have c2b1:=decide_eq_true c2
 clear c2
 replace H:=itO H
 rcases H with⟨c3,H⟩|⟨c3,H⟩
 {
 have c3b0:=eq_true c3
 have c3b1:=decide_eq_true c3
 replace H:=itO H
 rcases H with⟨c4,H⟩|⟨c4,H⟩
 {
 have c4b0:=eq_true c4
 have c4b1:=decide_eq_true c4
 obtain rfl:=Option.some.inj H
 go_enter Tryd.func37,Tryd.ntmps37
 go_wp2
 go_ret
 exact⟨rs,dr⟩
 }
 ·exact absurd H (by simp)
 }
 ·exact absurd H (by simp)
 }
 ·exact absurd H (by simp)
mutual
def stowageref1_Text.l0:Nat→Int→ByteArray→Option (ByteArray)
  | 0,_,_=>none
  | k+1,x0,x3=>if x0>9 then((stowageref1_digit.f (Int.tmod x0 10)).bind fun t110=>(if t110.size+x3.size≤9223372036854775807 then(stowageref1_Text.l0 k (wrap64 (Int.tdiv x0 10)) (t110++x3)) else(none))) else((stowageref1_digit.f x0).bind fun t111=>(if t111.size+x3.size≤9223372036854775807 then(some (t111++x3)) else(none)))
def stowageref1_Text.f:Nat→Int→Option (ByteArray)
  | 0,_=>none
  | k+1,a0=>if a0<0 then(if a0=(wrap64 (-a0)) then(some (⟨#[45,57,50,50,51,51,55,50,48,51,54,56,53,52,55,55,53,56,48,56]⟩ : ByteArray)) else((stowageref1_Text.f k (wrap64 (-a0))).bind fun t109=>(if 1+t109.size≤9223372036854775807 then(some ((⟨#[45]⟩ : ByteArray)++t109)) else(none)))) else(stowageref1_Text.l0 k a0 (⟨#[]⟩ : ByteArray))
end
theorem stowageref1_Text.mono_l:∀ k,(∀ y0,LeO (stowageref1_Text.f k y0) (stowageref1_Text.f (k+1) y0))∧(∀ y0 y1,LeO (stowageref1_Text.l0 k y0 y1) (stowageref1_Text.l0 (k+1) y0 y1))
  | 0=>⟨fun _ r h=>by simp [stowageref1_Text.f] at h,fun _ _ r h=>by simp [stowageref1_Text.l0] at h⟩
  | k+1=>by
    obtain⟨ih0,ih1⟩:=stowageref1_Text.mono_l k
    refine⟨?_,?_⟩
    · intro y0
      unfold stowageref1_Text.f
      with_reducible repeat' first|exact ih0 _|exact ih1 _ _|exact LeO.refl _|exact LeO.none _|refine LeO.ite ?_ ?_|refine LeO.bind ?_ (fun _=>?_)
    · intro y0 y1
      unfold stowageref1_Text.l0
      with_reducible repeat' first|exact ih0 _|exact ih1 _ _|exact LeO.refl _|exact LeO.none _|refine LeO.ite ?_ ?_|refine LeO.bind ?_ (fun _=>?_)
theorem stowageref1_Text.mono:∀ a0 k,LeO (stowageref1_Text.f k a0) (stowageref1_Text.f (k+1) a0):=by
 intro a0 k
 obtain⟨ih0,ih1⟩:=stowageref1_Text.mono_l k
 exact ih0 a0
theorem stowageref1_Text.calls (k:Nat):∀ (a0:Int) (r:ByteArray) (w:World) (h:stowageref1_Text.f k a0=some r),
    Calls Tryd.prog 21 #[.int .i64 a0] w fun e w'=>e = .returned (.string r)∧Drawn0 w w':=by
 induction k using Nat.strongRecOn with
 | _ k ih=>
 intro a0 r w h
 cases k with
 | zero=>exact absurd h (by simp [stowageref1_Text.f])
 | succ k=>
 simp only [stowageref1_Text.f] at h
 have H:(if a0<0 then(if a0=(wrap64 (-a0)) then(some (⟨#[45,57,50,50,51,51,55,50,48,51,54,56,53,52,55,55,53,56,48,56]⟩ : ByteArray)) else((stowageref1_Text.f k (wrap64 (-a0))).bind fun t109=>(if 1+t109.size≤9223372036854775807 then(some ((⟨#[45]⟩ : ByteArray)++t109)) else(none)))) else(stowageref1_Text.l0 k a0 (⟨#[]⟩ : ByteArray)))=some r:=h
 clear h
 replace H:=itO H
 rcases H with⟨c2,H⟩|⟨c2,H⟩
 {
 have c2b0:decide (a0<0)=true:=decide_eq_true c2
 clear c2
 replace H:=itO H
 rcases H with⟨c3,H⟩|⟨c3,H⟩
 {
 have c3b0:(a0 == (wrap64 (-a0)))=true:=beq_iff_eq.mpr c3
 have c3b1:(a0 != (wrap64 (-a0)))=false:=bne_eq_false_iff_eq.mpr c3
 clear c3
 obtain rfl:=Option.some.inj H
 go_enter Tryd.func21,Tryd.ntmps21
 go_wp2
 go_ret
 exact⟨rs,dr⟩
 }
 {
 have c3b0:(a0 == (wrap64 (-a0)))=false:=beq_eq_false_iff_ne.mpr c3
 have c3b1:(a0 != (wrap64 (-a0)))=true:=bne_iff_ne.mpr c3
 replace H:=bndO H
 obtain⟨t109,A40,H⟩:=H
 have A4:=Aside0.mk A40
 clear A40
 replace H:=itO H
 rcases H with⟨c5,H⟩|⟨c5,H⟩
 {
 have c5b0:=eq_true c5
 have c5b1:=decide_eq_true c5
 try have c5b2:=eq_false (Nat.not_lt.2 c5)
 try (have c5n:1+t109.size≤9223372036854775807:=by have h_:=c5;simp only [ByteArray.size_append,ByteArray.size_extract] at h_;exact h_)
 try have c5f:(9223372036854775807<1+t109.size)=False:=eq_false (by first|omega|(simp only [eq_iff_iff,iff_true] at *;omega))
 obtain rfl:=Option.some.inj H
 go_enter Tryd.func21,Tryd.ntmps21
 go_wp2_with (first|((with_reducible refine gate_callee (f:=21) rfl ?_);refine goesL_ (some 12) rfl rfl Tryd.func21 kr rfl #[.int .i64 (wrap64 (-a0))] rfl am ?_;(with_reducible refine(ih k (by omega) (wrap64 (-a0)) t109 _ A4.out).mono ?_);rintro e w' ⟨rfl,⟨nd,rfl⟩⟩;refine⟨_,rfl,?_⟩))
 go_ret
 exact⟨rs,dr⟩
 }
 ·exact absurd H (by simp)
 }
 }
 {
 have c2b0:decide (a0<0)=false:=decide_eq_false c2
 clear c2
 have H':=Aside0.mk H
 clear H
 go_enter Tryd.func21,Tryd.ntmps21
 go_wp2
 go_loopg [0,3] k (fun kq v0 v3 w'=>∃ (x0_1:Int) (x3_1:ByteArray),v0 = .int .i64 x0_1∧v3 = .string x3_1∧Aside0 (stowageref1_Text.l0 kq x0_1 x3_1=some r)∧Aside0 (kq≤k)∧Drawn0 w w')
 case atStart=>exact⟨(a0),((⟨#[]⟩ : ByteArray)),rs,rs,H',⟨Nat.le_refl _⟩,by repeat (first|exact Drawn0.refl _|apply Drawn0.step)⟩
 case round=>
  clear H'
  obtain⟨x0_1,x3_1,rfl,rfl,HA,HK1,⟨m1,rfl⟩⟩:=hrel
  cases gk with
  | zero=>exact absurd HA.out (by simp [stowageref1_Text.l0])
  | succ k1=>
   have H:=HA.out
   clear HA
   simp only [stowageref1_Text.l0] at H
   replace H:=itO H
   rcases H with⟨c6,H⟩|⟨c6,H⟩
   {
   have c6b0:decide (9<x0_1)=true:=decide_eq_true c6
   clear c6
   replace H:=bndO H
   obtain⟨t110,A70,H⟩:=H
   have A7:=Aside0.mk A70
   clear A70
   replace H:=itO H
   rcases H with⟨c8,H⟩|⟨c8,H⟩
   {
   have c8b0:=eq_true c8
   have c8b1:=decide_eq_true c8
   try have c8b2:=eq_false (Nat.not_lt.2 c8)
   try (have c8n:t110.size+x3_1.size≤9223372036854775807:=by have h_:=c8;simp only [ByteArray.size_append,ByteArray.size_extract] at h_;exact h_)
   try have c8f:(9223372036854775807<t110.size+x3_1.size)=False:=eq_false (by first|omega|(simp only [eq_iff_iff,iff_true] at *;omega))
   have H':=Aside0.mk H
   clear H
   go_wp2_with (first|((with_reducible refine gate_callee (f:=37) rfl ?_);refine goesL_ (some 18) rfl rfl Tryd.func37 kr rfl #[.int .i64 (Int.tmod x0_1 10)] rfl am ?_;(with_reducible refine(stowageref1_digit.calls (Int.tmod x0_1 10) t110 _ A7.out).mono ?_);rintro e w' ⟨rfl,⟨nd,rfl⟩⟩;refine⟨_,rfl,?_⟩))
   go_roundg k1
   case measure=>have:=HK1.out;omega
   case rel=>exact⟨(wrap64 (Int.tdiv x0_1 10)),(t110++x3_1),rs,rs,H',⟨by have:=HK1.out;omega⟩,by repeat (first|exact Drawn0.refl _|apply Drawn0.step)⟩
   }
   ·exact absurd H (by simp)
   }
   {
   have c6b0:decide (9<x0_1)=false:=decide_eq_false c6
   clear c6
   replace H:=bndO H
   obtain⟨t111,A90,H⟩:=H
   have A9:=Aside0.mk A90
   clear A90
   replace H:=itO H
   rcases H with⟨c10,H⟩|⟨c10,H⟩
   {
   have c10b0:=eq_true c10
   have c10b1:=decide_eq_true c10
   try have c10b2:=eq_false (Nat.not_lt.2 c10)
   try (have c10n:t111.size+x3_1.size≤9223372036854775807:=by have h_:=c10;simp only [ByteArray.size_append,ByteArray.size_extract] at h_;exact h_)
   try have c10f:(9223372036854775807<t111.size+x3_1.size)=False:=eq_false (by first|omega|(simp only [eq_iff_iff,iff_true] at *;omega))
   obtain rfl:=Option.some.inj H
   go_wp2_with (first|((with_reducible refine gate_callee (f:=37) rfl ?_);refine goesL_ (some 24) rfl rfl Tryd.func37 kr rfl #[.int .i64 x0_1] rfl am ?_;(with_reducible refine(stowageref1_digit.calls x0_1 t111 _ A9.out).mono ?_);rintro e w' ⟨rfl,⟨nd,rfl⟩⟩;refine⟨_,rfl,?_⟩))
   go_ret
   exact⟨rs,dr⟩
   }
   ·exact absurd H (by simp)
   }
 }
def stowageref4_leap.f (a0:Int):Option (Bool):=if(Int.tmod a0 4)=0 then(if(Int.tmod a0 100)=0 then(some ((Int.tmod a0 400) == 0)) else(some true)) else(some ((Int.tmod a0 400) == 0))
theorem stowageref4_leap.calls (a0:Int) (r:Bool) (w:World) (h:stowageref4_leap.f a0=some r) :
    Calls Tryd.prog 91 #[.int .i64 a0] w fun e w'=>e = .returned (.bool r)∧Drawn0 w w':=by
 unfold stowageref4_leap.f at h
 have H:=h
 clear h
 replace H:=itO H
 rcases H with⟨c2,H⟩|⟨c2,H⟩
 {
 have c2b0:((Int.tmod a0 4) == 0)=true:=beq_iff_eq.mpr c2
 have c2b1:((Int.tmod a0 4) != 0)=false:=bne_eq_false_iff_eq.mpr c2
 clear c2
 replace H:=itO H
 rcases H with⟨c3,H⟩|⟨c3,H⟩
 {
 have c3b0:((Int.tmod a0 100) == 0)=true:=beq_iff_eq.mpr c3
 have c3b1:((Int.tmod a0 100) != 0)=false:=bne_eq_false_iff_eq.mpr c3
 clear c3
 obtain rfl:=Option.some.inj H
 go_enter Tryd.func91,Tryd.ntmps91
 go_wp2
 go_ret
 exact⟨rs,dr⟩
 }
 {
 have c3b0:((Int.tmod a0 100) == 0)=false:=beq_eq_false_iff_ne.mpr c3
 have c3b1:((Int.tmod a0 100) != 0)=true:=bne_iff_ne.mpr c3
 obtain rfl:=Option.some.inj H
 go_enter Tryd.func91,Tryd.ntmps91
 go_wp2
 go_ret
 exact⟨rs,dr⟩
 }
 }
 {
 have c2b0:((Int.tmod a0 4) == 0)=false:=beq_eq_false_iff_ne.mpr c2
 have c2b1:((Int.tmod a0 4) != 0)=true:=bne_iff_ne.mpr c2
 obtain rfl:=Option.some.inj H
 go_enter Tryd.func91,Tryd.ntmps91
 go_wp2
 go_ret
 exact⟨rs,dr⟩
 }
def stowageref4_year.f (a0:Int):Option (Int):=(stowageref4_leap.f a0).bind fun t112=>(if t112=true then(some 366) else(some 365))
theorem stowageref4_year.calls (a0:Int) (r:Int) (w:World) (h:stowageref4_year.f a0=some r) :
    Calls Tryd.prog 63 #[.int .i64 a0] w fun e w'=>e = .returned (.int .i64 r)∧Drawn0 w w':=by
 unfold stowageref4_year.f at h
 have H:=h
 clear h
 replace H:=bndO H
 obtain⟨t112,A20,H⟩:=H
 have A2:=Aside0.mk A20
 clear A20
 by_cases c3:t112=true
 {
 subst c3
 replace H:=itT H
 obtain rfl:=Option.some.inj H
 go_enter Tryd.func63,Tryd.ntmps63
 go_wp2_with (first|((with_reducible refine gate_callee (f:=91) rfl ?_);refine goesL_ (some 4) rfl rfl Tryd.func91 kr rfl #[.int .i64 a0] rfl am ?_;(with_reducible refine(stowageref4_leap.calls a0 true _ A2.out).mono ?_);rintro e w' ⟨rfl,⟨nd,rfl⟩⟩;refine⟨_,rfl,?_⟩))
 go_ret
 exact⟨rs,dr⟩
 }
 {
 replace c3:=Bool.eq_false_iff.mpr c3
 subst c3
 replace H:=itF H
 obtain rfl:=Option.some.inj H
 go_enter Tryd.func63,Tryd.ntmps63
 go_wp2_with (first|((with_reducible refine gate_callee (f:=91) rfl ?_);refine goesL_ (some 4) rfl rfl Tryd.func91 kr rfl #[.int .i64 a0] rfl am ?_;(with_reducible refine(stowageref4_leap.calls a0 false _ A2.out).mono ?_);rintro e w' ⟨rfl,⟨nd,rfl⟩⟩;refine⟨_,rfl,?_⟩))
 go_ret
 exact⟨rs,dr⟩
 }
def stowageref4_size.j0:Nat→Int→Int→Bool→Option (Int)
  | 0,_,_,_=>none
  | k+1,x0,x5,x6=>if x6=true then(some 30) else(if x5=2 then((stowageref4_leap.f x0).bind fun t113=>(if t113=true then(some 29) else(some 28))) else(some 31))
def stowageref4_size.f (k:Nat) (a0:Int) (a1:Int):Option (Int):=if a1=4 then(stowageref4_size.j0 k a0 a1 (a1 == 4)) else(if a1=6 then(stowageref4_size.j0 k a0 a1 (a1 == 6)) else(if a1=9 then(stowageref4_size.j0 k a0 a1 (a1 == 9)) else(stowageref4_size.j0 k a0 a1 (a1 == 11))))
theorem stowageref4_size.mono_l:∀ k,(∀ y0 y1 y2,LeO (stowageref4_size.j0 k y0 y1 y2) (stowageref4_size.j0 (k+1) y0 y1 y2))
  | 0=>fun _ _ _ r h=>by simp [stowageref4_size.j0] at h
  | k+1=>by
    have ih0:=stowageref4_size.mono_l k
    · intro y0 y1 y2
      unfold stowageref4_size.j0
      with_reducible repeat' first|exact ih0 _ _ _|exact LeO.refl _|exact LeO.none _|refine LeO.ite ?_ ?_|refine LeO.bind ?_ (fun _=>?_)
theorem stowageref4_size.mono:∀ a0 a1 k,LeO (stowageref4_size.f k a0 a1) (stowageref4_size.f (k+1) a0 a1):=by
 intro a0 a1 k
 have ih0:=stowageref4_size.mono_l k
 unfold stowageref4_size.f
 with_reducible repeat' first|exact ih0 _ _ _|exact LeO.refl _|exact LeO.none _|refine LeO.ite ?_ ?_|refine LeO.bind ?_ (fun _=>?_)
theorem stowageref4_size.calls (k:Nat) (a0:Int) (a1:Int) (r:Int) (w:World) (h:stowageref4_size.f k a0 a1=some r) :
    Calls Tryd.prog 64 #[.int .i64 a0,.int .i64 a1] w fun e w'=>e = .returned (.int .i64 r)∧Drawn0 w w':=by
 unfold stowageref4_size.f at h
 have H:=h
 clear h
 have HC3:=Aside0.mk H
 clear H
 go_enter Tryd.func64,Tryd.ntmps64
 go_upto_if 6 with(fail)
 go_cut [6] (fun v6 wc=>∃ (kq:Nat) (x6_2:Bool),v6 = .bool x6_2∧Aside0 (stowageref4_size.j0 kq a0 a1 x6_2=some r)∧Aside0 (kq≤k)∧Drawn0 w wc)
 case first=>
  have H:=HC3.out
  clear HC3
  replace H:=itO H
  rcases H with⟨c4,H⟩|⟨c4,H⟩
  {
  have c4b0:(a1 == 4)=true:=beq_iff_eq.mpr c4
  clear c4
  (first|rw [c4b0]|(simp only [i64_w,i32_w];rw [c4b0])|skip)
  have H':=Aside0.mk H
  clear H
  go_wp2
  go_meet
  case rel=>exact⟨_,((a1 == 4)),rs,H',⟨by first|omega|exact Nat.le_refl _⟩,by repeat (first|exact Drawn0.refl _|apply Drawn0.step)⟩
  }
  {
  have c4b0:(a1 == 4)=false:=beq_eq_false_iff_ne.mpr c4
  (first|rw [c4b0]|(simp only [i64_w,i32_w];rw [c4b0])|skip)
  replace H:=itO H
  rcases H with⟨c5,H⟩|⟨c5,H⟩
  {
  have c5b0:(a1 == 6)=true:=beq_iff_eq.mpr c5
  clear c5
  have H':=Aside0.mk H
  clear H
  go_wp2
  go_meet
  case rel=>exact⟨_,((a1 == 6)),rs,H',⟨by first|omega|exact Nat.le_refl _⟩,by repeat (first|exact Drawn0.refl _|apply Drawn0.step)⟩
  }
  {
  have c5b0:(a1 == 6)=false:=beq_eq_false_iff_ne.mpr c5
  replace H:=itO H
  rcases H with⟨c6,H⟩|⟨c6,H⟩
  {
  have c6b0:(a1 == 9)=true:=beq_iff_eq.mpr c6
  clear c6
  have H':=Aside0.mk H
  clear H
  go_wp2
  go_meet
  case rel=>exact⟨_,((a1 == 9)),rs,H',⟨by first|omega|exact Nat.le_refl _⟩,by repeat (first|exact Drawn0.refl _|apply Drawn0.step)⟩
  }
  {
  have c6b0:(a1 == 9)=false:=beq_eq_false_iff_ne.mpr c6
  have H':=Aside0.mk H
  clear H
  go_wp2
  go_meet
  case rel=>exact⟨_,((a1 == 11)),rs,H',⟨by first|omega|exact Nat.le_refl _⟩,by repeat (first|exact Drawn0.refl _|apply Drawn0.step)⟩
  }
  }
  }
 case rest=>
  clear HC3
  obtain⟨kq,x6_2,rfl,HA,HJ2,⟨mc2,rfl⟩⟩:=hcut
  cases kq with
  | zero=>exact absurd HA.out (by simp [stowageref4_size.j0])
  | succ kj2=>
   have H:=HA.out
   clear HA
   simp only [stowageref4_size.j0] at H
   by_cases c7:x6_2=true
   {
   subst c7
   replace H:=itT H
   obtain rfl:=Option.some.inj H
   go_wp2
   go_ret
   exact⟨rs,dr⟩
   }
   {
   replace c7:=Bool.eq_false_iff.mpr c7
   subst c7
   replace H:=itF H
   replace H:=itO H
   rcases H with⟨c8,H⟩|⟨c8,H⟩
   {
   have c8b0:(a1 == 2)=true:=beq_iff_eq.mpr c8
   clear c8
   replace H:=bndO H
   obtain⟨t113,A90,H⟩:=H
   have A9:=Aside0.mk A90
   clear A90
   by_cases c10:t113=true
   {
   subst c10
   replace H:=itT H
   obtain rfl:=Option.some.inj H
   go_wp2_with (first|((with_reducible refine gate_callee (f:=91) rfl ?_);refine goesL_ (some 14) rfl rfl Tryd.func91 kr rfl #[.int .i64 a0] rfl am ?_;(with_reducible refine(stowageref4_leap.calls a0 true _ A9.out).mono ?_);rintro e w' ⟨rfl,⟨nd,rfl⟩⟩;refine⟨_,rfl,?_⟩))
   go_ret
   exact⟨rs,dr⟩
   }
   {
   replace c10:=Bool.eq_false_iff.mpr c10
   subst c10
   replace H:=itF H
   obtain rfl:=Option.some.inj H
   go_wp2_with (first|((with_reducible refine gate_callee (f:=91) rfl ?_);refine goesL_ (some 14) rfl rfl Tryd.func91 kr rfl #[.int .i64 a0] rfl am ?_;(with_reducible refine(stowageref4_leap.calls a0 false _ A9.out).mono ?_);rintro e w' ⟨rfl,⟨nd,rfl⟩⟩;refine⟨_,rfl,?_⟩))
   go_ret
   exact⟨rs,dr⟩
   }
   }
   {
   have c8b0:(a1 == 2)=false:=beq_eq_false_iff_ne.mpr c8
   obtain rfl:=Option.some.inj H
   go_wp2
   go_ret
   exact⟨rs,dr⟩
   }
   }
mutual
def stowageref4_Civil.j0:Nat→Int→Bool→Option (Int×Int×Int×Int×Int×Int×Bool)
  | 0,_,_=>none
  | k+1,x0,x11=>if x11=true then(some (0,0,0,0,0,0,false)) else(stowageref4_Civil.l0 k (wrap64 (Int.tdiv x0 86400)) 1970 1 0 (Int.tmod (wrap64 (Int.tdiv x0 3600)) 24) (Int.tmod (wrap64 (Int.tdiv x0 60)) 60) (Int.tmod x0 60))
def stowageref4_Civil.l0:Nat→Int→Int→Int→Int→Int→Int→Int→Option (Int×Int×Int×Int×Int×Int×Bool)
  | 0,_,_,_,_,_,_,_=>none
  | k+1,x5,x116000,x116001,x116002,x116003,x116004,x116005=>(stowageref4_year.f x116000).bind fun t116=>(if x5 ≥ t116 then((stowageref4_year.f x116000).bind fun t117=>(stowageref4_Civil.l0 k (wrap64 (x5-t117)) (wrap64 (x116000+1)) x116001 x116002 x116003 x116004 x116005)) else(stowageref4_Civil.l1 k x5 x116000 x116001 x116002 x116003 x116004 x116005))
def stowageref4_Civil.l1:Nat→Int→Int→Int→Int→Int→Int→Int→Option (Int×Int×Int×Int×Int×Int×Bool)
  | 0,_,_,_,_,_,_,_=>none
  | k+1,x5,x116000,x116001,x116002,x116003,x116004,x116005=>(stowageref4_size.f k x116000 x116001).bind fun t118=>(if x5 ≥ t118 then((stowageref4_size.f k x116000 x116001).bind fun t119=>(stowageref4_Civil.l1 k (wrap64 (x5-t119)) x116000 (wrap64 (x116001+1)) x116002 x116003 x116004 x116005)) else(some (x116000,x116001,wrap64 (x5+1),x116003,x116004,x116005,true)))
end
def stowageref4_Civil.f (k:Nat) (a0:Int):Option (Int×Int×Int×Int×Int×Int×Bool):=if a0<0 then(stowageref4_Civil.j0 k a0 true) else(stowageref4_Civil.j0 k a0 (decide (a0>253402300799)))
theorem stowageref4_Civil.mono_l:∀ k,(∀ y0 y1,LeO (stowageref4_Civil.j0 k y0 y1) (stowageref4_Civil.j0 (k+1) y0 y1))∧(∀ y0 y1 y2 y3 y4 y5 y6,LeO (stowageref4_Civil.l0 k y0 y1 y2 y3 y4 y5 y6) (stowageref4_Civil.l0 (k+1) y0 y1 y2 y3 y4 y5 y6))∧(∀ y0 y1 y2 y3 y4 y5 y6,LeO (stowageref4_Civil.l1 k y0 y1 y2 y3 y4 y5 y6) (stowageref4_Civil.l1 (k+1) y0 y1 y2 y3 y4 y5 y6))
  | 0=>⟨fun _ _ r h=>by simp [stowageref4_Civil.j0] at h,fun _ _ _ _ _ _ _ r h=>by simp [stowageref4_Civil.l0] at h,fun _ _ _ _ _ _ _ r h=>by simp [stowageref4_Civil.l1] at h⟩
  | k+1=>by
    obtain⟨ih0,ih1,ih2⟩:=stowageref4_Civil.mono_l k
    refine⟨?_,?_,?_⟩
    · intro y0 y1
      unfold stowageref4_Civil.j0
      with_reducible repeat' first|exact ih0 _ _|exact ih1 _ _ _ _ _ _ _|exact ih2 _ _ _ _ _ _ _|exact stowageref4_size.mono _ _ _|exact LeO.refl _|exact LeO.none _|refine LeO.ite ?_ ?_|refine LeO.bind ?_ (fun _=>?_)
    · intro y0 y1 y2 y3 y4 y5 y6
      unfold stowageref4_Civil.l0
      with_reducible repeat' first|exact ih0 _ _|exact ih1 _ _ _ _ _ _ _|exact ih2 _ _ _ _ _ _ _|exact stowageref4_size.mono _ _ _|exact LeO.refl _|exact LeO.none _|refine LeO.ite ?_ ?_|refine LeO.bind ?_ (fun _=>?_)
    · intro y0 y1 y2 y3 y4 y5 y6
      unfold stowageref4_Civil.l1
      with_reducible repeat' first|exact ih0 _ _|exact ih1 _ _ _ _ _ _ _|exact ih2 _ _ _ _ _ _ _|exact stowageref4_size.mono _ _ _|exact LeO.refl _|exact LeO.none _|refine LeO.ite ?_ ?_|refine LeO.bind ?_ (fun _=>?_)
theorem stowageref4_Civil.mono:∀ a0 k,LeO (stowageref4_Civil.f k a0) (stowageref4_Civil.f (k+1) a0):=by
 intro a0 k
 obtain⟨ih0,ih1,ih2⟩:=stowageref4_Civil.mono_l k
 unfold stowageref4_Civil.f
 with_reducible repeat' first|exact ih0 _ _|exact ih1 _ _ _ _ _ _ _|exact ih2 _ _ _ _ _ _ _|exact stowageref4_size.mono _ _ _|exact LeO.refl _|exact LeO.none _|refine LeO.ite ?_ ?_|refine LeO.bind ?_ (fun _=>?_)
theorem stowageref4_Civil.calls (k:Nat) (a0:Int) (r1:Int) (r2:Int) (r3:Int) (r4:Int) (r5:Int) (r6:Int) (r7:Bool) (w:World) (h:stowageref4_Civil.f k a0=some (r1,r2,r3,r4,r5,r6,r7)) :
    Calls Tryd.prog 38 #[.int .i64 a0] w fun e w'=>e = .returned (.tuple #[.agg #[.int .i64 r1,.int .i64 r2,.int .i64 r3,.int .i64 r4,.int .i64 r5,.int .i64 r6],.bool r7])∧Below w.heap.size w w':=by
 have hu85:=Tryd.underlying85
 have HB:=Aside0.mk (Below.refl w.heap.size w)
 unfold stowageref4_Civil.f at h
 have H:=h
 clear h
 have HC2:=Aside0.mk H
 clear H
 go_enter Tryd.func38,Tryd.ntmps38
 go_upto_region 1 with(first|((with_reducible refine gate_dst (N:=2) rfl ?_);refine box_event ?hg (N:=2) ?hd (cs:=#[.int .i64 0,.int .i64 0,.int .i64 0,.int .i64 0,.int .i64 0,.int .i64 0]) (t:=85) ?hr ?_;(case hd=>rfl);(case hg=>rfl);(case hr=>first|(go_simp;done)|(go_simp;rfl));intro gb114 hg w3 hbox hb;have n0_:=Aside0.mk (below_step bl hb);have n1_:=Aside0.mk (hbox);have n2_:=Aside0.mk ((by rw [hg];exact(below_size bl):w.heap.size≤gb114));have n3_:=Aside0.mk ((by rw [hg];exact(below_size bl):w.heap.size≤gb114));clear HB;have HB:=n0_;have BK114:=n1_;have GW114:=n2_;have GE114:=n3_;clear n0_ n1_ n2_ n3_;clear hb hbox hg))
 (try simp only [Act.put,l1,l2,l3])
 go_cut [11] (fun v11 wc=>∃ (kq:Nat) (x11_1:Bool),v11 = .bool x11_1∧Aside0 (stowageref4_Civil.j0 kq a0 x11_1=some (r1,r2,r3,r4,r5,r6,r7))∧Aside0 (kq≤k)∧Aside0 (wc.heap[gb114]? = some (.cells #[.int .i64 0,.int .i64 0,.int .i64 0,.int .i64 0,.int .i64 0,.int .i64 0] 85 (0,0)))∧Aside0 (Below w.heap.size w wc))
 case first=>
  have H:=HC2.out
  clear HC2
  replace H:=itO H
  rcases H with⟨c4,H⟩|⟨c4,H⟩
  {
  have c4b0:decide (a0<0)=true:=decide_eq_true c4
  clear c4
  (first|rw [c4b0]|(simp only [i64_w,i32_w];rw [c4b0])|skip)
  have H':=Aside0.mk H
  clear H
  go_wp2
  go_meet
  case rel=>exact⟨_,(true),rs,H',⟨by first|omega|exact Nat.le_refl _⟩,⟨kl⟩,⟨bl⟩⟩
  }
  {
  have c4b0:decide (a0<0)=false:=decide_eq_false c4
  clear c4
  (first|rw [c4b0]|(simp only [i64_w,i32_w];rw [c4b0])|skip)
  have H':=Aside0.mk H
  clear H
  go_wp2
  go_meet
  case rel=>exact⟨_,(decide (a0>253402300799)),rs,H',⟨by first|omega|exact Nat.le_refl _⟩,⟨kl⟩,⟨bl⟩⟩
  }
 case rest=>
  clear HC2
  obtain⟨kq,x11_1,rfl,HA,HJ1,BK114,HB⟩:=hcut
  cases kq with
  | zero=>exact absurd HA.out (by simp [stowageref4_Civil.j0])
  | succ kj1=>
   have H:=HA.out
   clear HA
   simp only [stowageref4_Civil.j0] at H
   by_cases c5:x11_1=true
   {
   subst c5
   replace H:=itT H
   simp only [Option.some.injEq,Prod.mk.injEq] at H
   obtain⟨rfl,rfl,rfl,rfl,rfl,rfl,rfl⟩:=H
   obtain⟨_,_,_,_,_,_,_,_,_,_,_,_⟩:=bc6 BK114.out
   go_wp2
   refine bodyPost_ret (results_ct rfl _ _ gb114 85 #[.int .i64 0,.int .i64 0,.int .i64 0,.int .i64 0,.int .i64 0,.int .i64 0] (0,0) _ rfl (by(with_reducible repeat (first|refine blk_drewN ?_ _|refine blk_drew ?_|refine blk_alloc ?_ _));refine blk_put (cs:=#[.int .i64 0,.int .i64 0,.int .i64 0,.int .i64 0,.int .i64 0,.int .i64 0]) ?_ 5 _ rfl;(with_reducible repeat (first|refine blk_drewN ?_ _|refine blk_drew ?_|refine blk_alloc ?_ _));refine blk_put (cs:=#[.int .i64 0,.int .i64 0,.int .i64 0,.int .i64 0,.int .i64 0,.int .i64 0]) ?_ 4 _ rfl;(with_reducible repeat (first|refine blk_drewN ?_ _|refine blk_drew ?_|refine blk_alloc ?_ _));refine blk_put (cs:=#[.int .i64 0,.int .i64 0,.int .i64 0,.int .i64 0,.int .i64 0,.int .i64 0]) ?_ 3 _ rfl;(with_reducible repeat (first|refine blk_drewN ?_ _|refine blk_drew ?_|refine blk_alloc ?_ _));refine blk_put (cs:=#[.int .i64 0,.int .i64 0,.int .i64 0,.int .i64 0,.int .i64 0,.int .i64 0]) ?_ 2 _ rfl;(with_reducible repeat (first|refine blk_drewN ?_ _|refine blk_drew ?_|refine blk_alloc ?_ _));refine blk_put (cs:=#[.int .i64 0,.int .i64 0,.int .i64 0,.int .i64 0,.int .i64 0,.int .i64 0]) ?_ 1 _ rfl;(with_reducible repeat (first|refine blk_drewN ?_ _|refine blk_drew ?_|refine blk_alloc ?_ _));refine blk_put (cs:=#[.int .i64 0,.int .i64 0,.int .i64 0,.int .i64 0,.int .i64 0,.int .i64 0]) ?_ 0 _ rfl;(with_reducible repeat (first|refine blk_drewN ?_ _|refine blk_drew ?_|refine blk_alloc ?_ _));exact BK114.out) Tryd.underlying85 rfl kr) rfl ?_
   exact⟨ew,bl⟩
   }
   {
   replace c5:=Bool.eq_false_iff.mpr c5
   subst c5
   replace H:=itF H
   have H':=Aside0.mk H
   clear H
   go_wp2_with (first|((with_reducible refine gate_dst (N:=4) rfl ?_);refine box_event ?hg (N:=4) ?hd (cs:=#[.int .i64 0,.int .i64 0,.int .i64 0,.int .i64 0,.int .i64 0,.int .i64 0]) (t:=85) ?hr ?_;(case hd=>rfl);(case hg=>rfl);(case hr=>first|(go_simp;done)|(go_simp;rfl));intro gb115 hg w7 hbox hb;have n0_:=Aside0.mk (blk_below (g:=gb114) (o:=.cells #[.int .i64 0,.int .i64 0,.int .i64 0,.int .i64 0,.int .i64 0,.int .i64 0] 85 (0,0)) kl hb);have n1_:=Aside0.mk (below_step bl hb);have n2_:=Aside0.mk (hbox);have n3_:=Aside0.mk ((by rw [hg];exact(below_size bl):w.heap.size≤gb115));have n4_:=Aside0.mk ((by rw [hg];exact(below_size bl):w.heap.size≤gb115));have n5_:=Aside0.mk ((by rw [hg];exact Nat.ne_of_lt (blk_lt (g:=gb114) (o:=.cells #[.int .i64 0,.int .i64 0,.int .i64 0,.int .i64 0,.int .i64 0,.int .i64 0] 85 (0,0)) kl):gb114≠gb115));have n6_:=Aside0.mk ((by rw [hg];exact Nat.ne_of_gt (blk_lt (g:=gb114) (o:=.cells #[.int .i64 0,.int .i64 0,.int .i64 0,.int .i64 0,.int .i64 0,.int .i64 0] 85 (0,0)) kl):gb115≠gb114));clear BK114;clear HB;have BK114:=n0_;have HB:=n1_;have BK115:=n2_;have GW115:=n3_;have GE115:=n4_;have NB114_115:=n5_;have NB115_114:=n6_;clear n0_ n1_ n2_ n3_ n4_ n5_ n6_;clear hb hbox hg;have hnb8:=NB115_114.out;have hnc8:=NB114_115.out;obtain⟨_,_,_,_,_,_,_,_,_,_,_,_⟩:=bc6 BK115.out))
   go_loopg [5] kj1 (fun kq v5 w'=>∃ (x5_2:Int) (x116000_2:Int),v5 = .int .i64 x5_2∧Aside0 (stowageref4_Civil.l0 kq x5_2 x116000_2 1 0 (Int.tmod (wrap64 (Int.tdiv a0 3600)) 24) (Int.tmod (wrap64 (Int.tdiv a0 60)) 60) (Int.tmod a0 60)=some (r1,r2,r3,r4,r5,r6,r7))∧Aside0 (kq≤kj1)∧Aside0 (w'.heap[gb114]? = some (.cells #[.int .i64 0,.int .i64 0,.int .i64 0,.int .i64 0,.int .i64 0,.int .i64 0] 85 (0,0)))∧Aside0 (w'.heap[gb115]? = some (.cells #[.int .i64 x116000_2,.int .i64 1,.int .i64 0,.int .i64 (Int.tmod (wrap64 (Int.tdiv a0 3600)) 24),.int .i64 (Int.tmod (wrap64 (Int.tdiv a0 60)) 60),.int .i64 (Int.tmod a0 60)] 85 (0,0)))∧Aside0 (Below w.heap.size w w'))
   case atStart=>exact⟨(wrap64 (Int.tdiv a0 86400)),(1970),rs,H',⟨Nat.le_refl _⟩,⟨by(with_reducible repeat (first|refine blk_drewN ?_ _|refine blk_drew ?_|refine blk_alloc ?_ _));refine blk_far ?_ NB114_115.out _;(with_reducible repeat (first|refine blk_drewN ?_ _|refine blk_drew ?_|refine blk_alloc ?_ _));refine blk_far ?_ NB114_115.out _;(with_reducible repeat (first|refine blk_drewN ?_ _|refine blk_drew ?_|refine blk_alloc ?_ _));refine blk_far ?_ NB114_115.out _;(with_reducible repeat (first|refine blk_drewN ?_ _|refine blk_drew ?_|refine blk_alloc ?_ _));refine blk_far ?_ NB114_115.out _;(with_reducible repeat (first|refine blk_drewN ?_ _|refine blk_drew ?_|refine blk_alloc ?_ _));refine blk_far ?_ NB114_115.out _;(with_reducible repeat (first|refine blk_drewN ?_ _|refine blk_drew ?_|refine blk_alloc ?_ _));refine blk_far ?_ NB114_115.out _;(with_reducible repeat (first|refine blk_drewN ?_ _|refine blk_drew ?_|refine blk_alloc ?_ _));exact BK114.out⟩,⟨by(with_reducible repeat (first|refine blk_drewN ?_ _|refine blk_drew ?_|refine blk_alloc ?_ _));refine blk_put (cs:=#[.int .i64 1970,.int .i64 1,.int .i64 0,.int .i64 (Int.tmod (wrap64 (Int.tdiv a0 3600)) 24),.int .i64 (Int.tmod (wrap64 (Int.tdiv a0 60)) 60),.int .i64 0]) ?_ 5 _ rfl;(with_reducible repeat (first|refine blk_drewN ?_ _|refine blk_drew ?_|refine blk_alloc ?_ _));refine blk_put (cs:=#[.int .i64 1970,.int .i64 1,.int .i64 0,.int .i64 (Int.tmod (wrap64 (Int.tdiv a0 3600)) 24),.int .i64 0,.int .i64 0]) ?_ 4 _ rfl;(with_reducible repeat (first|refine blk_drewN ?_ _|refine blk_drew ?_|refine blk_alloc ?_ _));refine blk_put (cs:=#[.int .i64 1970,.int .i64 1,.int .i64 0,.int .i64 0,.int .i64 0,.int .i64 0]) ?_ 3 _ rfl;(with_reducible repeat (first|refine blk_drewN ?_ _|refine blk_drew ?_|refine blk_alloc ?_ _));refine blk_put (cs:=#[.int .i64 1970,.int .i64 1,.int .i64 0,.int .i64 0,.int .i64 0,.int .i64 0]) ?_ 2 _ rfl;(with_reducible repeat (first|refine blk_drewN ?_ _|refine blk_drew ?_|refine blk_alloc ?_ _));refine blk_put (cs:=#[.int .i64 1970,.int .i64 0,.int .i64 0,.int .i64 0,.int .i64 0,.int .i64 0]) ?_ 1 _ rfl;(with_reducible repeat (first|refine blk_drewN ?_ _|refine blk_drew ?_|refine blk_alloc ?_ _));refine blk_put (cs:=#[.int .i64 0,.int .i64 0,.int .i64 0,.int .i64 0,.int .i64 0,.int .i64 0]) ?_ 0 _ rfl;(with_reducible repeat (first|refine blk_drewN ?_ _|refine blk_drew ?_|refine blk_alloc ?_ _));exact BK115.out⟩,⟨bl⟩⟩
   case round=>
    clear H'
    obtain⟨x5_2,x116000_2,rfl,HA,HK2,BK114,BK115,HB⟩:=hrel
    cases gk with
    | zero=>exact absurd HA.out (by simp [stowageref4_Civil.l0])
    | succ k2=>
     have H:=HA.out
     clear HA
     simp only [stowageref4_Civil.l0] at H
     replace H:=bndO H
     obtain⟨t116,A100,H⟩:=H
     have A10:=Aside0.mk A100
     clear A100
     replace H:=itO H
     rcases H with⟨c11,H⟩|⟨c11,H⟩
     {
     have c11b0:decide (t116≤x5_2)=true:=decide_eq_true c11
     clear c11
     replace H:=bndO H
     obtain⟨t117,A120,H⟩:=H
     have A12:=Aside0.mk A120
     clear A120
     have H':=Aside0.mk H
     clear H
     have hnb13:=NB115_114.out
     have hnc13:=NB114_115.out
     obtain⟨_,_,_,_,_,_,_,_,_,_,_,_⟩:=bc6 BK115.out
     go_wp2_with (first|((with_reducible refine gate_callee (f:=63) rfl ?_);refine goesL_ (some 27) rfl rfl Tryd.func63 kr rfl #[.int .i64 x116000_2] rfl am ?_;(with_reducible refine(stowageref4_year.calls x116000_2 t116 _ A10.out).mono ?_);rintro e w' ⟨rfl,⟨nd,rfl⟩⟩;refine⟨_,rfl,?_⟩;(try (rw [drewN_self wr];generalize hq_:World.drewN wr _=wr;have n0_:Aside0 (wr.heap[gb114]? = some (.cells #[.int .i64 0,.int .i64 0,.int .i64 0,.int .i64 0,.int .i64 0,.int .i64 0] 85 (0,0))):=⟨by rw [← hq_];exact kl⟩;have n1_:Aside0 (wr.heap[gb115]? = some (.cells #[.int .i64 x116000_2,.int .i64 1,.int .i64 0,.int .i64 (Int.tmod (wrap64 (Int.tdiv a0 3600)) 24),.int .i64 (Int.tmod (wrap64 (Int.tdiv a0 60)) 60),.int .i64 (Int.tmod a0 60)] 85 (0,0))):=⟨by rw [← hq_];exact kl⟩;have n2_:Aside0 (Below w.heap.size w wr):=⟨by rw [← hq_];exact bl⟩;clear BK114 BK115 HB hq_;have BK114:=n0_;have BK115:=n1_;have HB:=n2_;clear n0_ n1_ n2_));(try (have hcu114_0:wr.cell? ⟨gb114,0,none⟩=some (.int .i64 0):=(blk_cell BK114.out 0).trans rfl));(try (have hfu114_0:=blk_frozen BK114.out 0));(try (have hcu114_1:wr.cell? ⟨gb114,1,none⟩=some (.int .i64 0):=(blk_cell BK114.out 1).trans rfl));(try (have hfu114_1:=blk_frozen BK114.out 1));(try (have hcu114_2:wr.cell? ⟨gb114,2,none⟩=some (.int .i64 0):=(blk_cell BK114.out 2).trans rfl));(try (have hfu114_2:=blk_frozen BK114.out 2));(try (have hcu114_3:wr.cell? ⟨gb114,3,none⟩=some (.int .i64 0):=(blk_cell BK114.out 3).trans rfl));(try (have hfu114_3:=blk_frozen BK114.out 3));(try (have hcu114_4:wr.cell? ⟨gb114,4,none⟩=some (.int .i64 0):=(blk_cell BK114.out 4).trans rfl));(try (have hfu114_4:=blk_frozen BK114.out 4));(try (have hcu114_5:wr.cell? ⟨gb114,5,none⟩=some (.int .i64 0):=(blk_cell BK114.out 5).trans rfl));(try (have hfu114_5:=blk_frozen BK114.out 5));(try (have hcu115_0:wr.cell? ⟨gb115,0,none⟩=some (.int .i64 x116000_2):=(blk_cell BK115.out 0).trans rfl));(try (have hfu115_0:=blk_frozen BK115.out 0));(try (have hcu115_1:wr.cell? ⟨gb115,1,none⟩=some (.int .i64 1):=(blk_cell BK115.out 1).trans rfl));(try (have hfu115_1:=blk_frozen BK115.out 1));(try (have hcu115_2:wr.cell? ⟨gb115,2,none⟩=some (.int .i64 0):=(blk_cell BK115.out 2).trans rfl));(try (have hfu115_2:=blk_frozen BK115.out 2));(try (have hcu115_3:wr.cell? ⟨gb115,3,none⟩=some (.int .i64 (Int.tmod (wrap64 (Int.tdiv a0 3600)) 24)):=(blk_cell BK115.out 3).trans rfl));(try (have hfu115_3:=blk_frozen BK115.out 3));(try (have hcu115_4:wr.cell? ⟨gb115,4,none⟩=some (.int .i64 (Int.tmod (wrap64 (Int.tdiv a0 60)) 60)):=(blk_cell BK115.out 4).trans rfl));(try (have hfu115_4:=blk_frozen BK115.out 4));(try (have hcu115_5:wr.cell? ⟨gb115,5,none⟩=some (.int .i64 (Int.tmod a0 60)):=(blk_cell BK115.out 5).trans rfl));(try (have hfu115_5:=blk_frozen BK115.out 5)))|((with_reducible refine gate_callee (f:=63) rfl ?_);refine goesL_ (some 32) rfl rfl Tryd.func63 kr rfl #[.int .i64 x116000_2] rfl am ?_;(with_reducible refine(stowageref4_year.calls x116000_2 t117 _ A12.out).mono ?_);rintro e w' ⟨rfl,⟨nd,rfl⟩⟩;refine⟨_,rfl,?_⟩;(try (rw [drewN_self wr];generalize hq_:World.drewN wr _=wr;have n0_:Aside0 (wr.heap[gb114]? = some (.cells #[.int .i64 0,.int .i64 0,.int .i64 0,.int .i64 0,.int .i64 0,.int .i64 0] 85 (0,0))):=⟨by rw [← hq_];exact kl⟩;have n1_:Aside0 (wr.heap[gb115]? = some (.cells #[.int .i64 x116000_2,.int .i64 1,.int .i64 0,.int .i64 (Int.tmod (wrap64 (Int.tdiv a0 3600)) 24),.int .i64 (Int.tmod (wrap64 (Int.tdiv a0 60)) 60),.int .i64 (Int.tmod a0 60)] 85 (0,0))):=⟨by rw [← hq_];exact kl⟩;have n2_:Aside0 (Below w.heap.size w wr):=⟨by rw [← hq_];exact bl⟩;clear BK114 BK115 HB hq_;have BK114:=n0_;have BK115:=n1_;have HB:=n2_;clear n0_ n1_ n2_));(try (have hcu114_0:wr.cell? ⟨gb114,0,none⟩=some (.int .i64 0):=(blk_cell BK114.out 0).trans rfl));(try (have hfu114_0:=blk_frozen BK114.out 0));(try (have hcu114_1:wr.cell? ⟨gb114,1,none⟩=some (.int .i64 0):=(blk_cell BK114.out 1).trans rfl));(try (have hfu114_1:=blk_frozen BK114.out 1));(try (have hcu114_2:wr.cell? ⟨gb114,2,none⟩=some (.int .i64 0):=(blk_cell BK114.out 2).trans rfl));(try (have hfu114_2:=blk_frozen BK114.out 2));(try (have hcu114_3:wr.cell? ⟨gb114,3,none⟩=some (.int .i64 0):=(blk_cell BK114.out 3).trans rfl));(try (have hfu114_3:=blk_frozen BK114.out 3));(try (have hcu114_4:wr.cell? ⟨gb114,4,none⟩=some (.int .i64 0):=(blk_cell BK114.out 4).trans rfl));(try (have hfu114_4:=blk_frozen BK114.out 4));(try (have hcu114_5:wr.cell? ⟨gb114,5,none⟩=some (.int .i64 0):=(blk_cell BK114.out 5).trans rfl));(try (have hfu114_5:=blk_frozen BK114.out 5));(try (have hcu115_0:wr.cell? ⟨gb115,0,none⟩=some (.int .i64 x116000_2):=(blk_cell BK115.out 0).trans rfl));(try (have hfu115_0:=blk_frozen BK115.out 0));(try (have hcu115_1:wr.cell? ⟨gb115,1,none⟩=some (.int .i64 1):=(blk_cell BK115.out 1).trans rfl));(try (have hfu115_1:=blk_frozen BK115.out 1));(try (have hcu115_2:wr.cell? ⟨gb115,2,none⟩=some (.int .i64 0):=(blk_cell BK115.out 2).trans rfl));(try (have hfu115_2:=blk_frozen BK115.out 2));(try (have hcu115_3:wr.cell? ⟨gb115,3,none⟩=some (.int .i64 (Int.tmod (wrap64 (Int.tdiv a0 3600)) 24)):=(blk_cell BK115.out 3).trans rfl));(try (have hfu115_3:=blk_frozen BK115.out 3));(try (have hcu115_4:wr.cell? ⟨gb115,4,none⟩=some (.int .i64 (Int.tmod (wrap64 (Int.tdiv a0 60)) 60)):=(blk_cell BK115.out 4).trans rfl));(try (have hfu115_4:=blk_frozen BK115.out 4));(try (have hcu115_5:wr.cell? ⟨gb115,5,none⟩=some (.int .i64 (Int.tmod a0 60)):=(blk_cell BK115.out 5).trans rfl));(try (have hfu115_5:=blk_frozen BK115.out 5))))
     go_roundg k2
     case measure=>have:=HJ1.out;have:=HK2.out;omega
     case rel=>exact⟨(wrap64 (x5_2-t117)),(wrap64 (x116000_2+1)),rs,H',⟨by have:=HJ1.out;have:=HK2.out;omega⟩,⟨by(with_reducible repeat (first|refine blk_drewN ?_ _|refine blk_drew ?_|refine blk_alloc ?_ _));refine blk_far ?_ NB114_115.out _;(with_reducible repeat (first|refine blk_drewN ?_ _|refine blk_drew ?_|refine blk_alloc ?_ _));exact BK114.out⟩,⟨by(with_reducible repeat (first|refine blk_drewN ?_ _|refine blk_drew ?_|refine blk_alloc ?_ _));refine blk_put (cs:=#[.int .i64 x116000_2,.int .i64 1,.int .i64 0,.int .i64 (Int.tmod (wrap64 (Int.tdiv a0 3600)) 24),.int .i64 (Int.tmod (wrap64 (Int.tdiv a0 60)) 60),.int .i64 (Int.tmod a0 60)]) ?_ 0 _ rfl;(with_reducible repeat (first|refine blk_drewN ?_ _|refine blk_drew ?_|refine blk_alloc ?_ _));exact BK115.out⟩,⟨bl⟩⟩
     }
     {
     have c11b0:decide (t116≤x5_2)=false:=decide_eq_false c11
     clear c11
     have H':=Aside0.mk H
     clear H
     have hnb15:=NB115_114.out
     have hnc15:=NB114_115.out
     obtain⟨_,_,_,_,_,_,_,_,_,_,_,_⟩:=bc6 BK115.out
     go_wp2_with (first|((with_reducible refine gate_callee (f:=63) rfl ?_);refine goesL_ (some 27) rfl rfl Tryd.func63 kr rfl #[.int .i64 x116000_2] rfl am ?_;(with_reducible refine(stowageref4_year.calls x116000_2 t116 _ A10.out).mono ?_);rintro e w' ⟨rfl,⟨nd,rfl⟩⟩;refine⟨_,rfl,?_⟩))
     go_loopg [5] k2 (fun kq v5 w'=>∃ (x5_3:Int) (x116001_3:Int),v5 = .int .i64 x5_3∧Aside0 (stowageref4_Civil.l1 kq x5_3 x116000_2 x116001_3 0 (Int.tmod (wrap64 (Int.tdiv a0 3600)) 24) (Int.tmod (wrap64 (Int.tdiv a0 60)) 60) (Int.tmod a0 60)=some (r1,r2,r3,r4,r5,r6,r7))∧Aside0 (kq≤k2)∧Aside0 (w'.heap[gb114]? = some (.cells #[.int .i64 0,.int .i64 0,.int .i64 0,.int .i64 0,.int .i64 0,.int .i64 0] 85 (0,0)))∧Aside0 (w'.heap[gb115]? = some (.cells #[.int .i64 x116000_2,.int .i64 x116001_3,.int .i64 0,.int .i64 (Int.tmod (wrap64 (Int.tdiv a0 3600)) 24),.int .i64 (Int.tmod (wrap64 (Int.tdiv a0 60)) 60),.int .i64 (Int.tmod a0 60)] 85 (0,0)))∧Aside0 (Below w.heap.size w w'))
     case atStart=>exact⟨(x5_2),(1),rs,H',⟨Nat.le_refl _⟩,⟨kl⟩,⟨kl⟩,⟨bl⟩⟩
     case round=>
      clear H'
      obtain⟨x5_3,x116001_3,rfl,HA,HK3,BK114,BK115,HB⟩:=hrel
      cases gk with
      | zero=>exact absurd HA.out (by simp [stowageref4_Civil.l1])
      | succ k3=>
       have H:=HA.out
       clear HA
       simp only [stowageref4_Civil.l1] at H
       replace H:=bndO H
       obtain⟨t118,A170,H⟩:=H
       have A17:=Aside0.mk A170
       clear A170
       replace H:=itO H
       rcases H with⟨c18,H⟩|⟨c18,H⟩
       {
       have c18b0:decide (t118≤x5_3)=true:=decide_eq_true c18
       clear c18
       replace H:=bndO H
       obtain⟨t119,A190,H⟩:=H
       have A19:=Aside0.mk A190
       clear A190
       have H':=Aside0.mk H
       clear H
       have hnb20:=NB115_114.out
       have hnc20:=NB114_115.out
       obtain⟨_,_,_,_,_,_,_,_,_,_,_,_⟩:=bc6 BK115.out
       go_wp2_with (first|((with_reducible refine gate_callee (f:=64) rfl ?_);refine goesL_ (some 43) rfl rfl Tryd.func64 kr rfl #[.int .i64 x116000_2,.int .i64 x116001_3] rfl am ?_;(with_reducible refine(stowageref4_size.calls k3 x116000_2 x116001_3 t118 _ A17.out).mono ?_);rintro e w' ⟨rfl,⟨nd,rfl⟩⟩;refine⟨_,rfl,?_⟩;(try (rw [drewN_self wr];generalize hq_:World.drewN wr _=wr;have n0_:Aside0 (wr.heap[gb114]? = some (.cells #[.int .i64 0,.int .i64 0,.int .i64 0,.int .i64 0,.int .i64 0,.int .i64 0] 85 (0,0))):=⟨by rw [← hq_];exact kl⟩;have n1_:Aside0 (wr.heap[gb115]? = some (.cells #[.int .i64 x116000_2,.int .i64 x116001_3,.int .i64 0,.int .i64 (Int.tmod (wrap64 (Int.tdiv a0 3600)) 24),.int .i64 (Int.tmod (wrap64 (Int.tdiv a0 60)) 60),.int .i64 (Int.tmod a0 60)] 85 (0,0))):=⟨by rw [← hq_];exact kl⟩;have n2_:Aside0 (Below w.heap.size w wr):=⟨by rw [← hq_];exact bl⟩;clear BK114 BK115 HB hq_;have BK114:=n0_;have BK115:=n1_;have HB:=n2_;clear n0_ n1_ n2_));(try (have hcu114_0:wr.cell? ⟨gb114,0,none⟩=some (.int .i64 0):=(blk_cell BK114.out 0).trans rfl));(try (have hfu114_0:=blk_frozen BK114.out 0));(try (have hcu114_1:wr.cell? ⟨gb114,1,none⟩=some (.int .i64 0):=(blk_cell BK114.out 1).trans rfl));(try (have hfu114_1:=blk_frozen BK114.out 1));(try (have hcu114_2:wr.cell? ⟨gb114,2,none⟩=some (.int .i64 0):=(blk_cell BK114.out 2).trans rfl));(try (have hfu114_2:=blk_frozen BK114.out 2));(try (have hcu114_3:wr.cell? ⟨gb114,3,none⟩=some (.int .i64 0):=(blk_cell BK114.out 3).trans rfl));(try (have hfu114_3:=blk_frozen BK114.out 3));(try (have hcu114_4:wr.cell? ⟨gb114,4,none⟩=some (.int .i64 0):=(blk_cell BK114.out 4).trans rfl));(try (have hfu114_4:=blk_frozen BK114.out 4));(try (have hcu114_5:wr.cell? ⟨gb114,5,none⟩=some (.int .i64 0):=(blk_cell BK114.out 5).trans rfl));(try (have hfu114_5:=blk_frozen BK114.out 5));(try (have hcu115_0:wr.cell? ⟨gb115,0,none⟩=some (.int .i64 x116000_2):=(blk_cell BK115.out 0).trans rfl));(try (have hfu115_0:=blk_frozen BK115.out 0));(try (have hcu115_1:wr.cell? ⟨gb115,1,none⟩=some (.int .i64 x116001_3):=(blk_cell BK115.out 1).trans rfl));(try (have hfu115_1:=blk_frozen BK115.out 1));(try (have hcu115_2:wr.cell? ⟨gb115,2,none⟩=some (.int .i64 0):=(blk_cell BK115.out 2).trans rfl));(try (have hfu115_2:=blk_frozen BK115.out 2));(try (have hcu115_3:wr.cell? ⟨gb115,3,none⟩=some (.int .i64 (Int.tmod (wrap64 (Int.tdiv a0 3600)) 24)):=(blk_cell BK115.out 3).trans rfl));(try (have hfu115_3:=blk_frozen BK115.out 3));(try (have hcu115_4:wr.cell? ⟨gb115,4,none⟩=some (.int .i64 (Int.tmod (wrap64 (Int.tdiv a0 60)) 60)):=(blk_cell BK115.out 4).trans rfl));(try (have hfu115_4:=blk_frozen BK115.out 4));(try (have hcu115_5:wr.cell? ⟨gb115,5,none⟩=some (.int .i64 (Int.tmod a0 60)):=(blk_cell BK115.out 5).trans rfl));(try (have hfu115_5:=blk_frozen BK115.out 5)))|((with_reducible refine gate_callee (f:=64) rfl ?_);refine goesL_ (some 50) rfl rfl Tryd.func64 kr rfl #[.int .i64 x116000_2,.int .i64 x116001_3] rfl am ?_;(with_reducible refine(stowageref4_size.calls k3 x116000_2 x116001_3 t119 _ A19.out).mono ?_);rintro e w' ⟨rfl,⟨nd,rfl⟩⟩;refine⟨_,rfl,?_⟩;(try (rw [drewN_self wr];generalize hq_:World.drewN wr _=wr;have n0_:Aside0 (wr.heap[gb114]? = some (.cells #[.int .i64 0,.int .i64 0,.int .i64 0,.int .i64 0,.int .i64 0,.int .i64 0] 85 (0,0))):=⟨by rw [← hq_];exact kl⟩;have n1_:Aside0 (wr.heap[gb115]? = some (.cells #[.int .i64 x116000_2,.int .i64 x116001_3,.int .i64 0,.int .i64 (Int.tmod (wrap64 (Int.tdiv a0 3600)) 24),.int .i64 (Int.tmod (wrap64 (Int.tdiv a0 60)) 60),.int .i64 (Int.tmod a0 60)] 85 (0,0))):=⟨by rw [← hq_];exact kl⟩;have n2_:Aside0 (Below w.heap.size w wr):=⟨by rw [← hq_];exact bl⟩;clear BK114 BK115 HB hq_;have BK114:=n0_;have BK115:=n1_;have HB:=n2_;clear n0_ n1_ n2_));(try (have hcu114_0:wr.cell? ⟨gb114,0,none⟩=some (.int .i64 0):=(blk_cell BK114.out 0).trans rfl));(try (have hfu114_0:=blk_frozen BK114.out 0));(try (have hcu114_1:wr.cell? ⟨gb114,1,none⟩=some (.int .i64 0):=(blk_cell BK114.out 1).trans rfl));(try (have hfu114_1:=blk_frozen BK114.out 1));(try (have hcu114_2:wr.cell? ⟨gb114,2,none⟩=some (.int .i64 0):=(blk_cell BK114.out 2).trans rfl));(try (have hfu114_2:=blk_frozen BK114.out 2));(try (have hcu114_3:wr.cell? ⟨gb114,3,none⟩=some (.int .i64 0):=(blk_cell BK114.out 3).trans rfl));(try (have hfu114_3:=blk_frozen BK114.out 3));(try (have hcu114_4:wr.cell? ⟨gb114,4,none⟩=some (.int .i64 0):=(blk_cell BK114.out 4).trans rfl));(try (have hfu114_4:=blk_frozen BK114.out 4));(try (have hcu114_5:wr.cell? ⟨gb114,5,none⟩=some (.int .i64 0):=(blk_cell BK114.out 5).trans rfl));(try (have hfu114_5:=blk_frozen BK114.out 5));(try (have hcu115_0:wr.cell? ⟨gb115,0,none⟩=some (.int .i64 x116000_2):=(blk_cell BK115.out 0).trans rfl));(try (have hfu115_0:=blk_frozen BK115.out 0));(try (have hcu115_1:wr.cell? ⟨gb115,1,none⟩=some (.int .i64 x116001_3):=(blk_cell BK115.out 1).trans rfl));(try (have hfu115_1:=blk_frozen BK115.out 1));(try (have hcu115_2:wr.cell? ⟨gb115,2,none⟩=some (.int .i64 0):=(blk_cell BK115.out 2).trans rfl));(try (have hfu115_2:=blk_frozen BK115.out 2));(try (have hcu115_3:wr.cell? ⟨gb115,3,none⟩=some (.int .i64 (Int.tmod (wrap64 (Int.tdiv a0 3600)) 24)):=(blk_cell BK115.out 3).trans rfl));(try (have hfu115_3:=blk_frozen BK115.out 3));(try (have hcu115_4:wr.cell? ⟨gb115,4,none⟩=some (.int .i64 (Int.tmod (wrap64 (Int.tdiv a0 60)) 60)):=(blk_cell BK115.out 4).trans rfl));(try (have hfu115_4:=blk_frozen BK115.out 4));(try (have hcu115_5:wr.cell? ⟨gb115,5,none⟩=some (.int .i64 (Int.tmod a0 60)):=(blk_cell BK115.out 5).trans rfl));(try (have hfu115_5:=blk_frozen BK115.out 5))))
       go_roundg k3
       case measure=>have:=HJ1.out;have:=HK2.out;have:=HK3.out;omega
       case rel=>exact⟨(wrap64 (x5_3-t119)),(wrap64 (x116001_3+1)),rs,H',⟨by have:=HJ1.out;have:=HK2.out;have:=HK3.out;omega⟩,⟨by(with_reducible repeat (first|refine blk_drewN ?_ _|refine blk_drew ?_|refine blk_alloc ?_ _));refine blk_far ?_ NB114_115.out _;(with_reducible repeat (first|refine blk_drewN ?_ _|refine blk_drew ?_|refine blk_alloc ?_ _));exact BK114.out⟩,⟨by(with_reducible repeat (first|refine blk_drewN ?_ _|refine blk_drew ?_|refine blk_alloc ?_ _));refine blk_put (cs:=#[.int .i64 x116000_2,.int .i64 x116001_3,.int .i64 0,.int .i64 (Int.tmod (wrap64 (Int.tdiv a0 3600)) 24),.int .i64 (Int.tmod (wrap64 (Int.tdiv a0 60)) 60),.int .i64 (Int.tmod a0 60)]) ?_ 1 _ rfl;(with_reducible repeat (first|refine blk_drewN ?_ _|refine blk_drew ?_|refine blk_alloc ?_ _));exact BK115.out⟩,⟨bl⟩⟩
       }
       {
       have c18b0:decide (t118≤x5_3)=false:=decide_eq_false c18
       clear c18
       simp only [Option.some.injEq,Prod.mk.injEq] at H
       obtain⟨rfl,rfl,rfl,rfl,rfl,rfl,rfl⟩:=H
       have hnb22:=NB115_114.out
       have hnc22:=NB114_115.out
       obtain⟨_,_,_,_,_,_,_,_,_,_,_,_⟩:=bc6 BK115.out
       go_wp2_with (first|((with_reducible refine gate_callee (f:=64) rfl ?_);refine goesL_ (some 43) rfl rfl Tryd.func64 kr rfl #[.int .i64 x116000_2,.int .i64 x116001_3] rfl am ?_;(with_reducible refine(stowageref4_size.calls k3 x116000_2 x116001_3 t118 _ A17.out).mono ?_);rintro e w' ⟨rfl,⟨nd,rfl⟩⟩;refine⟨_,rfl,?_⟩;(try (rw [drewN_self wr];generalize hq_:World.drewN wr _=wr;have n0_:Aside0 (wr.heap[gb114]? = some (.cells #[.int .i64 0,.int .i64 0,.int .i64 0,.int .i64 0,.int .i64 0,.int .i64 0] 85 (0,0))):=⟨by rw [← hq_];exact kl⟩;have n1_:Aside0 (wr.heap[gb115]? = some (.cells #[.int .i64 x116000_2,.int .i64 x116001_3,.int .i64 0,.int .i64 (Int.tmod (wrap64 (Int.tdiv a0 3600)) 24),.int .i64 (Int.tmod (wrap64 (Int.tdiv a0 60)) 60),.int .i64 (Int.tmod a0 60)] 85 (0,0))):=⟨by rw [← hq_];exact kl⟩;have n2_:Aside0 (Below w.heap.size w wr):=⟨by rw [← hq_];exact bl⟩;clear BK114 BK115 HB hq_;have BK114:=n0_;have BK115:=n1_;have HB:=n2_;clear n0_ n1_ n2_));(try (have hcu114_0:wr.cell? ⟨gb114,0,none⟩=some (.int .i64 0):=(blk_cell BK114.out 0).trans rfl));(try (have hfu114_0:=blk_frozen BK114.out 0));(try (have hcu114_1:wr.cell? ⟨gb114,1,none⟩=some (.int .i64 0):=(blk_cell BK114.out 1).trans rfl));(try (have hfu114_1:=blk_frozen BK114.out 1));(try (have hcu114_2:wr.cell? ⟨gb114,2,none⟩=some (.int .i64 0):=(blk_cell BK114.out 2).trans rfl));(try (have hfu114_2:=blk_frozen BK114.out 2));(try (have hcu114_3:wr.cell? ⟨gb114,3,none⟩=some (.int .i64 0):=(blk_cell BK114.out 3).trans rfl));(try (have hfu114_3:=blk_frozen BK114.out 3));(try (have hcu114_4:wr.cell? ⟨gb114,4,none⟩=some (.int .i64 0):=(blk_cell BK114.out 4).trans rfl));(try (have hfu114_4:=blk_frozen BK114.out 4));(try (have hcu114_5:wr.cell? ⟨gb114,5,none⟩=some (.int .i64 0):=(blk_cell BK114.out 5).trans rfl));(try (have hfu114_5:=blk_frozen BK114.out 5));(try (have hcu115_0:wr.cell? ⟨gb115,0,none⟩=some (.int .i64 x116000_2):=(blk_cell BK115.out 0).trans rfl));(try (have hfu115_0:=blk_frozen BK115.out 0));(try (have hcu115_1:wr.cell? ⟨gb115,1,none⟩=some (.int .i64 x116001_3):=(blk_cell BK115.out 1).trans rfl));(try (have hfu115_1:=blk_frozen BK115.out 1));(try (have hcu115_2:wr.cell? ⟨gb115,2,none⟩=some (.int .i64 0):=(blk_cell BK115.out 2).trans rfl));(try (have hfu115_2:=blk_frozen BK115.out 2));(try (have hcu115_3:wr.cell? ⟨gb115,3,none⟩=some (.int .i64 (Int.tmod (wrap64 (Int.tdiv a0 3600)) 24)):=(blk_cell BK115.out 3).trans rfl));(try (have hfu115_3:=blk_frozen BK115.out 3));(try (have hcu115_4:wr.cell? ⟨gb115,4,none⟩=some (.int .i64 (Int.tmod (wrap64 (Int.tdiv a0 60)) 60)):=(blk_cell BK115.out 4).trans rfl));(try (have hfu115_4:=blk_frozen BK115.out 4));(try (have hcu115_5:wr.cell? ⟨gb115,5,none⟩=some (.int .i64 (Int.tmod a0 60)):=(blk_cell BK115.out 5).trans rfl));(try (have hfu115_5:=blk_frozen BK115.out 5));obtain⟨_,_,_,_,_,_,_,_,_,_,_,_⟩:=bc6 BK114.out))
       refine bodyPost_ret (results_ct rfl _ _ gb114 85 #[.int .i64 x116000_2,.int .i64 x116001_3,.int .i64 (wrap64 (x5_3+1)),.int .i64 (Int.tmod (wrap64 (Int.tdiv a0 3600)) 24),.int .i64 (Int.tmod (wrap64 (Int.tdiv a0 60)) 60),.int .i64 (Int.tmod a0 60)] (0,0) _ rfl (by(with_reducible repeat (first|refine blk_drewN ?_ _|refine blk_drew ?_|refine blk_alloc ?_ _));refine blk_put (cs:=#[.int .i64 x116000_2,.int .i64 x116001_3,.int .i64 (wrap64 (x5_3+1)),.int .i64 (Int.tmod (wrap64 (Int.tdiv a0 3600)) 24),.int .i64 (Int.tmod (wrap64 (Int.tdiv a0 60)) 60),.int .i64 0]) ?_ 5 _ rfl;(with_reducible repeat (first|refine blk_drewN ?_ _|refine blk_drew ?_|refine blk_alloc ?_ _));refine blk_put (cs:=#[.int .i64 x116000_2,.int .i64 x116001_3,.int .i64 (wrap64 (x5_3+1)),.int .i64 (Int.tmod (wrap64 (Int.tdiv a0 3600)) 24),.int .i64 0,.int .i64 0]) ?_ 4 _ rfl;(with_reducible repeat (first|refine blk_drewN ?_ _|refine blk_drew ?_|refine blk_alloc ?_ _));refine blk_put (cs:=#[.int .i64 x116000_2,.int .i64 x116001_3,.int .i64 (wrap64 (x5_3+1)),.int .i64 0,.int .i64 0,.int .i64 0]) ?_ 3 _ rfl;(with_reducible repeat (first|refine blk_drewN ?_ _|refine blk_drew ?_|refine blk_alloc ?_ _));refine blk_put (cs:=#[.int .i64 x116000_2,.int .i64 x116001_3,.int .i64 0,.int .i64 0,.int .i64 0,.int .i64 0]) ?_ 2 _ rfl;(with_reducible repeat (first|refine blk_drewN ?_ _|refine blk_drew ?_|refine blk_alloc ?_ _));refine blk_put (cs:=#[.int .i64 x116000_2,.int .i64 0,.int .i64 0,.int .i64 0,.int .i64 0,.int .i64 0]) ?_ 1 _ rfl;(with_reducible repeat (first|refine blk_drewN ?_ _|refine blk_drew ?_|refine blk_alloc ?_ _));refine blk_put (cs:=#[.int .i64 0,.int .i64 0,.int .i64 0,.int .i64 0,.int .i64 0,.int .i64 0]) ?_ 0 _ rfl;(with_reducible repeat (first|refine blk_drewN ?_ _|refine blk_drew ?_|refine blk_alloc ?_ _));refine blk_far ?_ NB114_115.out _;(with_reducible repeat (first|refine blk_drewN ?_ _|refine blk_drew ?_|refine blk_alloc ?_ _));exact BK114.out) Tryd.underlying85 rfl kr) rfl ?_
       exact⟨ew,bl⟩
       }
     }
   }
def stowageref4_wide.l0:Nat→Int→ByteArray→Option (ByteArray)
  | 0,_,_=>none
  | k+1,x1,x5=>if(x5.size:Int)<x1 then(if 1+x5.size≤9223372036854775807 then(stowageref4_wide.l0 k x1 ((⟨#[48]⟩ : ByteArray)++x5)) else(none)) else(some x5)
def stowageref4_wide.f (k:Nat) (a0:Int) (a1:Int):Option (ByteArray):=(stowageref1_Text.f k a0).bind fun t120=>(stowageref4_wide.l0 k a1 t120)
theorem stowageref4_wide.mono_l:∀ k,(∀ y0 y1,LeO (stowageref4_wide.l0 k y0 y1) (stowageref4_wide.l0 (k+1) y0 y1))
  | 0=>fun _ _ r h=>by simp [stowageref4_wide.l0] at h
  | k+1=>by
    have ih0:=stowageref4_wide.mono_l k
    · intro y0 y1
      unfold stowageref4_wide.l0
      with_reducible repeat' first|exact ih0 _ _|exact stowageref1_Text.mono _ _|exact LeO.refl _|exact LeO.none _|refine LeO.ite ?_ ?_|refine LeO.bind ?_ (fun _=>?_)
theorem stowageref4_wide.mono:∀ a0 a1 k,LeO (stowageref4_wide.f k a0 a1) (stowageref4_wide.f (k+1) a0 a1):=by
 intro a0 a1 k
 have ih0:=stowageref4_wide.mono_l k
 unfold stowageref4_wide.f
 with_reducible repeat' first|exact ih0 _ _|exact stowageref1_Text.mono _ _|exact LeO.refl _|exact LeO.none _|refine LeO.ite ?_ ?_|refine LeO.bind ?_ (fun _=>?_)
theorem stowageref4_wide.calls (k:Nat) (a0:Int) (a1:Int) (r:ByteArray) (w:World) (h:stowageref4_wide.f k a0 a1=some r) :
    Calls Tryd.prog 39 #[.int .i64 a0,.int .i64 a1] w fun e w'=>e = .returned (.string r)∧Drawn0 w w':=by
 unfold stowageref4_wide.f at h
 have H:=h
 clear h
 replace H:=bndO H
 obtain⟨t120,A30,H⟩:=H
 have A3:=Aside0.mk A30
 clear A30
 have H':=Aside0.mk H
 clear H
 go_enter Tryd.func39,Tryd.ntmps39
 go_wp2_with (first|((with_reducible refine gate_callee (f:=21) rfl ?_);refine goesL_ (some 7) rfl rfl Tryd.func21 kr rfl #[.int .i64 a0] rfl am ?_;(with_reducible refine(stowageref1_Text.calls k a0 t120 _ A3.out).mono ?_);rintro e w' ⟨rfl,⟨nd,rfl⟩⟩;refine⟨_,rfl,?_⟩))
 go_loopg [5] k (fun kq v5 w'=>∃ (x5_1:ByteArray),v5 = .string x5_1∧Aside0 (stowageref4_wide.l0 kq a1 x5_1=some r)∧Aside0 (kq≤k)∧Drawn0 w w')
 case atStart=>exact⟨(t120),rs,H',⟨Nat.le_refl _⟩,by repeat (first|exact Drawn0.refl _|apply Drawn0.step)⟩
 case round=>
  clear H'
  obtain⟨x5_1,rfl,HA,HK1,⟨m1,rfl⟩⟩:=hrel
  cases gk with
  | zero=>exact absurd HA.out (by simp [stowageref4_wide.l0])
  | succ k1=>
   have H:=HA.out
   clear HA
   simp only [stowageref4_wide.l0] at H
   replace H:=itO H
   rcases H with⟨c4,H⟩|⟨c4,H⟩
   {
   have c4b0:decide ((x5_1.size:Int)<a1)=true:=decide_eq_true c4
   clear c4
   replace H:=itO H
   rcases H with⟨c5,H⟩|⟨c5,H⟩
   {
   have c5b0:=eq_true c5
   have c5b1:=decide_eq_true c5
   try have c5b2:=eq_false (Nat.not_lt.2 c5)
   try (have c5n:1+x5_1.size≤9223372036854775807:=by have h_:=c5;simp only [ByteArray.size_append,ByteArray.size_extract] at h_;exact h_)
   try have c5f:(9223372036854775807<1+x5_1.size)=False:=eq_false (by first|omega|(simp only [eq_iff_iff,iff_true] at *;omega))
   have H':=Aside0.mk H
   clear H
   go_wp2
   go_roundg k1
   case measure=>have:=HK1.out;omega
   case rel=>exact⟨((⟨#[48]⟩ : ByteArray)++x5_1),rs,H',⟨by have:=HK1.out;omega⟩,by repeat (first|exact Drawn0.refl _|apply Drawn0.step)⟩
   }
   ·exact absurd H (by simp)
   }
   {
   have c4b0:decide ((x5_1.size:Int)<a1)=false:=decide_eq_false c4
   clear c4
   obtain rfl:=Option.some.inj H
   go_wp2
   go_ret
   exact⟨rs,dr⟩
   }
end Go.Proofs.YtfjidcmegacibaaDoor.Q
