/- A part of the proof of the seat's laws. No condition beyond those in the theorems. -/
import Derived.Test.YtklcgncaclggcaaDoorProg
import Derived.Test.YtklcgncaclggcaaDoorZXW
import Derived.Below
import Derived.Deep.Draws
import Derived.Deep.AppendLies
import Derived.Maps.AppendAt
import Derived.OwnWalk
import Derived.Laws.BytesArg
import Derived.Laws.MakeOwn
import Derived.Laws.OwnMore
import Derived.Deep.OwnRows
import Derived.Tactics
import Derived.Lib.ConvBytes
import Derived.Laws.Slices
import Derived.WalkKit
import Derived.KernelRfl
import Derived.RowKit3
import Derived.Deep.LoopGhost
import Derived.Deep.QuietTactic
import Derived.BigQuiet
import Derived.WideLaws
import Derived.Deep.DeepCutAuto
import Derived.Deep.CutBlock
import Derived.Deep.RegionHeld3
import Derived.Laws.Rows
import Derived.Lib.AppendStr
import Derived.ArgAppend
import Derived.Laws.IdiomCopy
import Derived.OrdersHeld
import Derived.Laws.BitsLemmas
import Derived.RowKit
import Derived.Test.YtklcgncaclggcaaDoorV1
import Derived.Test.YtklcgncaclggcaaDoorZSqzB
import Derived.Lib.Hide
import Derived.Lib.OthersKept
import Derived.Test.YtklcgncaclggcaaDoorZBld

namespace Go.Proofs.YtklcgncaclggcaaDoor.Q
open Go.RowKit Go.Proofs.YtklcgncaclggcaaDoorW.PrintWords Go.Proofs.YtklcgncaclggcaaDoorW.PrintLast Go.Proofs.YtklcgncaclggcaaDoorW.PrintMore
set_option linter.unusedVariables false
set_option linter.unusedSimpArgs false
attribute [local go_sem] max2_int min2_int max_two min_two max_three min_three max_four min_four   
def errW:Option Int→Value
 | none=>.nilIface
 | some c=>.iface 0 (.int .i64 c)
theorem errW_none:errW none = .nilIface:=rfl
theorem errW_some (c:Int):errW (some c) = .iface 0 (.int .i64 c):=rfl
theorem info5:(Tryd.prog.info? 5).map (fun i=>(i.zero,i.size,i.bytes))=some (some (.int .u8 0),1,1):=by kernel_rfl
theorem info9:(Tryd.prog.info? 9).map (fun i=>(i.zero,i.size,i.bytes))=some (some (.string ⟨#[]⟩),1,16):=by kernel_rfl
theorem info24:(Tryd.prog.info? 24).map (fun i=>(i.zero,i.size,i.bytes))=some (some (.agg #[(.string ⟨#[]⟩),(.string ⟨#[]⟩),(.slice none 0 0)]),3,56):=by kernel_rfl
theorem info30:(Tryd.prog.info? 30).map (fun i=>(i.zero,i.size,i.bytes))=some (some (.agg #[(.string ⟨#[]⟩),(.string ⟨#[]⟩),(.slice none 0 0)]),3,56):=by kernel_rfl
structure S24 where
 f0:ByteArray
 f1:ByteArray
 f2:(List S24)
def z24:S24:=⟨(⟨#[]⟩ : ByteArray),(⟨#[]⟩ : ByteArray),([]:List S24)⟩
def F24 (d:Kd S24):Kd S24:=Kd.iso (Kd.pair Kd.string (Kd.pair Kd.string (Kd.slice 24 d))) (fun x:S24=>(x.f0,x.f1,x.f2))
theorem mono24:Kd.Mono F24:=Kd.mono_iso _ (Kd.mono_pair (Kd.mono_const _) (Kd.mono_pair (Kd.mono_const _) (Kd.mono_slice 24 Kd.mono_id)))
theorem sub24:Kd.Sub F24 [24]:=Kd.sub_iso _ (Kd.sub_pair (Kd.sub_const _ (by decide)) (Kd.sub_pair (Kd.sub_const _ (by decide)) (Kd.sub_slice 24 (by decide) Kd.sub_id)))
theorem sz24:∀ n,(Kd.upto F24 3 [24] n).sz=3:=Kd.upto_sz (fun _=>rfl)
def k24:Kd S24:=Kd.fix F24 3 [24] sz24 (Kd.upto_E sub24)
theorem k24_open {w:World} {x:S24} {cs:List Value} (h:k24.K w x cs):∃ A2 c2,cs = [.string x.f0,.string x.f1,.slice A2 x.f2.length c2]∧x.f2.length≤c2∧k24.C w A2 x.f2.length x.f2:=by
 obtain⟨n,h⟩:=h
 cases n with
 | zero=>exact h.elim
 | succ n=>
  obtain⟨_,_,rfl,rfl,⟨_,_,rfl,rfl,⟨A2,c2,rfl,l2,g2⟩⟩⟩:=h
  exact⟨A2,c2,rfl,l2,Kd.fix_C g2⟩
theorem k24_openM {w:World} {base:Nat} {ok:Nat→Prop} {x:S24} {cs:List Value} (h:k24.M w base ok x cs):∃ v2,cs = [.string x.f0,.string x.f1,v2]∧k24.R 24 w base ok v2 x.f2:=by
 obtain⟨n,h⟩:=h
 cases n with
 | zero=>exact h.elim
 | succ n=>
  obtain⟨_,_,rfl,rfl,⟨_,_,rfl,rfl,⟨v2,rfl,g2⟩⟩⟩:=h
  exact⟨v2,rfl,Kd.fix_R g2⟩
theorem k24_mk (w:World) (x:S24) {A2:Option Addr} {c2:Nat} (l2:x.f2.length≤c2) (g2:k24.C w A2 x.f2.length x.f2):k24.K w x [.string x.f0,.string x.f1,.slice A2 x.f2.length c2]:=by
 obtain⟨n2,q2⟩:=Kd.fix_C_back mono24 g2
 have r2:=Kd.upto_C_le mono24 sz24 (show n2≤n2 by omega) q2
 exact⟨n2+1,⟨[.string x.f0],[.string x.f1,.slice A2 x.f2.length c2],rfl,rfl,⟨[.string x.f1],[.slice A2 x.f2.length c2],rfl,rfl,⟨A2,c2,rfl,l2,r2⟩⟩⟩⟩
theorem k24_mkM (w:World) (base:Nat) (ok:Nat→Prop) (x:S24) {v2:Value} (g2:k24.R 24 w base ok v2 x.f2):k24.M w base ok x [.string x.f0,.string x.f1,v2]:=by
 obtain⟨n2,q2⟩:=Kd.fix_R_back mono24 g2
 have r2:=Kd.upto_R_le mono24 sz24 (show n2≤n2 by omega) q2
 exact⟨n2+1,⟨[.string x.f0],[.string x.f1,v2],rfl,rfl,⟨[.string x.f1],[v2],rfl,rfl,⟨v2,rfl,r2⟩⟩⟩⟩
theorem k24_openF {W:World} {ok:Nat→Prop} {x:S24} {cs:List Value} (h:Kd.FK k24 W ok x cs):∃ A2 c2,cs = [.string x.f0,.string x.f1,.slice A2 x.f2.length c2]∧x.f2.length≤c2∧Kd.F k24 W ok A2 x.f2.length x.f2:=by
 obtain⟨A2,c2,rfl,l2,_⟩:=k24_open (Kd.FK_now h)
 exact⟨A2,c2,rfl,l2,(fun W' hW=>by obtain⟨A2_,c2_,he,l2_,g2_⟩:=k24_open (h W' hW);injection (Option.some.inj (show some (Value.slice A2 x.f2.length c2)=some (Value.slice A2_ x.f2.length c2_) from congrArg (fun l=>l[2]?) he)) with ha_ _ _;rw [ha_];exact g2_)⟩
theorem k24_mkF (W:World) (ok:Nat→Prop) (x:S24) {A2:Option Addr} {c2:Nat} (l2:x.f2.length≤c2) (g2:Kd.F k24 W ok A2 x.f2.length x.f2):Kd.FK k24 W ok x [.string x.f0,.string x.f1,.slice A2 x.f2.length c2]:=fun W2 hW=>k24_mk W2 x l2 (g2 W2 hW)
def rd_T24 (xs:List S24) (i:Int):S24:=xs.getD i.toNat z24
theorem at_T24 {w:World} {A:Option Addr} {n:Nat} {xs:List S24} (h:Kd.C k24 w A n xs) (i:Int) (h0:0≤i) (h1:i<n):∃ ad A2 c2,A=some ad∧w.cell? (ad.add (i.toNat*3))=some (.string (rd_T24 xs i).f0)∧w.cell? ⟨(ad.add (i.toNat*3)).block,(ad.add (i.toNat*3)).off+1,none⟩=some (.string (rd_T24 xs i).f1)∧w.cell? ⟨(ad.add (i.toNat*3)).block,(ad.add (i.toNat*3)).off+2,none⟩=some (.slice A2 (rd_T24 xs i).f2.length c2)∧(rd_T24 xs i).f2.length≤c2∧k24.C w A2 (rd_T24 xs i).f2.length (rd_T24 xs i).f2:=by
 obtain⟨ad,c,e,_,hK,hc0⟩:=Kd.C_get h z24 i h0 h1
 have hc:∀ j u,c[j]? = some u→w.cell? (ad.add (i.toNat*3+j))=some u:=hc0
 obtain⟨A2,c2,rfl,l2,g2⟩:=k24_open hK
 exact⟨ad,A2,c2,e,hc 0 _ rfl,by rw [← add_field _ _ 1 (by omega)];exact hc 1 _ rfl,by rw [← add_field _ _ 2 (by omega)];exact hc 2 _ rfl,l2,g2⟩
structure S30 where
 f0:ByteArray
 f1:ByteArray
 f2:(List S30)
def z30:S30:=⟨(⟨#[]⟩ : ByteArray),(⟨#[]⟩ : ByteArray),([]:List S30)⟩
def F30 (d:Kd S30):Kd S30:=Kd.iso (Kd.pair Kd.string (Kd.pair Kd.string (Kd.slice 30 d))) (fun x:S30=>(x.f0,x.f1,x.f2))
theorem mono30:Kd.Mono F30:=Kd.mono_iso _ (Kd.mono_pair (Kd.mono_const _) (Kd.mono_pair (Kd.mono_const _) (Kd.mono_slice 30 Kd.mono_id)))
theorem sub30:Kd.Sub F30 [30]:=Kd.sub_iso _ (Kd.sub_pair (Kd.sub_const _ (by decide)) (Kd.sub_pair (Kd.sub_const _ (by decide)) (Kd.sub_slice 30 (by decide) Kd.sub_id)))
theorem sz30:∀ n,(Kd.upto F30 3 [30] n).sz=3:=Kd.upto_sz (fun _=>rfl)
def k30:Kd S30:=Kd.fix F30 3 [30] sz30 (Kd.upto_E sub30)
theorem k30_open {w:World} {x:S30} {cs:List Value} (h:k30.K w x cs):∃ A2 c2,cs = [.string x.f0,.string x.f1,.slice A2 x.f2.length c2]∧x.f2.length≤c2∧k30.C w A2 x.f2.length x.f2:=by
 obtain⟨n,h⟩:=h
 cases n with
 | zero=>exact h.elim
 | succ n=>
  obtain⟨_,_,rfl,rfl,⟨_,_,rfl,rfl,⟨A2,c2,rfl,l2,g2⟩⟩⟩:=h
  exact⟨A2,c2,rfl,l2,Kd.fix_C g2⟩
theorem k30_openM {w:World} {base:Nat} {ok:Nat→Prop} {x:S30} {cs:List Value} (h:k30.M w base ok x cs):∃ v2,cs = [.string x.f0,.string x.f1,v2]∧k30.R 30 w base ok v2 x.f2:=by
 obtain⟨n,h⟩:=h
 cases n with
 | zero=>exact h.elim
 | succ n=>
  obtain⟨_,_,rfl,rfl,⟨_,_,rfl,rfl,⟨v2,rfl,g2⟩⟩⟩:=h
  exact⟨v2,rfl,Kd.fix_R g2⟩
theorem k30_mk (w:World) (x:S30) {A2:Option Addr} {c2:Nat} (l2:x.f2.length≤c2) (g2:k30.C w A2 x.f2.length x.f2):k30.K w x [.string x.f0,.string x.f1,.slice A2 x.f2.length c2]:=by
 obtain⟨n2,q2⟩:=Kd.fix_C_back mono30 g2
 have r2:=Kd.upto_C_le mono30 sz30 (show n2≤n2 by omega) q2
 exact⟨n2+1,⟨[.string x.f0],[.string x.f1,.slice A2 x.f2.length c2],rfl,rfl,⟨[.string x.f1],[.slice A2 x.f2.length c2],rfl,rfl,⟨A2,c2,rfl,l2,r2⟩⟩⟩⟩
theorem k30_mkM (w:World) (base:Nat) (ok:Nat→Prop) (x:S30) {v2:Value} (g2:k30.R 30 w base ok v2 x.f2):k30.M w base ok x [.string x.f0,.string x.f1,v2]:=by
 obtain⟨n2,q2⟩:=Kd.fix_R_back mono30 g2
 have r2:=Kd.upto_R_le mono30 sz30 (show n2≤n2 by omega) q2
 exact⟨n2+1,⟨[.string x.f0],[.string x.f1,v2],rfl,rfl,⟨[.string x.f1],[v2],rfl,rfl,⟨v2,rfl,r2⟩⟩⟩⟩
theorem k30_openF {W:World} {ok:Nat→Prop} {x:S30} {cs:List Value} (h:Kd.FK k30 W ok x cs):∃ A2 c2,cs = [.string x.f0,.string x.f1,.slice A2 x.f2.length c2]∧x.f2.length≤c2∧Kd.F k30 W ok A2 x.f2.length x.f2:=by
 obtain⟨A2,c2,rfl,l2,_⟩:=k30_open (Kd.FK_now h)
 exact⟨A2,c2,rfl,l2,(fun W' hW=>by obtain⟨A2_,c2_,he,l2_,g2_⟩:=k30_open (h W' hW);injection (Option.some.inj (show some (Value.slice A2 x.f2.length c2)=some (Value.slice A2_ x.f2.length c2_) from congrArg (fun l=>l[2]?) he)) with ha_ _ _;rw [ha_];exact g2_)⟩
theorem k30_mkF (W:World) (ok:Nat→Prop) (x:S30) {A2:Option Addr} {c2:Nat} (l2:x.f2.length≤c2) (g2:Kd.F k30 W ok A2 x.f2.length x.f2):Kd.FK k30 W ok x [.string x.f0,.string x.f1,.slice A2 x.f2.length c2]:=fun W2 hW=>k30_mk W2 x l2 (g2 W2 hW)
def rd_T30 (xs:List S30) (i:Int):S30:=xs.getD i.toNat z30
theorem at_T30 {w:World} {A:Option Addr} {n:Nat} {xs:List S30} (h:Kd.C k30 w A n xs) (i:Int) (h0:0≤i) (h1:i<n):∃ ad A2 c2,A=some ad∧w.cell? (ad.add (i.toNat*3))=some (.string (rd_T30 xs i).f0)∧w.cell? ⟨(ad.add (i.toNat*3)).block,(ad.add (i.toNat*3)).off+1,none⟩=some (.string (rd_T30 xs i).f1)∧w.cell? ⟨(ad.add (i.toNat*3)).block,(ad.add (i.toNat*3)).off+2,none⟩=some (.slice A2 (rd_T30 xs i).f2.length c2)∧(rd_T30 xs i).f2.length≤c2∧k30.C w A2 (rd_T30 xs i).f2.length (rd_T30 xs i).f2:=by
 obtain⟨ad,c,e,_,hK,hc0⟩:=Kd.C_get h z30 i h0 h1
 have hc:∀ j u,c[j]? = some u→w.cell? (ad.add (i.toNat*3+j))=some u:=hc0
 obtain⟨A2,c2,rfl,l2,g2⟩:=k30_open hK
 exact⟨ad,A2,c2,e,hc 0 _ rfl,by rw [← add_field _ _ 1 (by omega)];exact hc 1 _ rfl,by rw [← add_field _ _ 2 (by omega)];exact hc 2 _ rfl,l2,g2⟩
set_option maxHeartbeats 8000000
set_option maxRecDepth 100000
mutual
def stowageref3_Step.j2:Nat→ByteArray→Int→Int→Int→Option (Int×Int)
  | 0,_,_,_,_=>none
  | k+1,x0,x5,x6,x7=>if(x0.size:Int)<x5 then(some (0,0)) else(stowageref3_Step.l0 k x0 x5 x6 x7 1)
def stowageref3_Step.l0:Nat→ByteArray→Int→Int→Int→Int→Option (Int×Int)
  | 0,_,_,_,_,_=>none
  | k+1,x0,x5,x6,x7,x8=>if x8<x5 then(if 0≤x8 then(if x8<(x0.size:Int) then(if(bt x0 x8)<128 then(some (0,0)) else(if(bt x0 x8) ≥ 192 then(some (0,0)) else(stowageref3_Step.l0 k x0 x5 (wrap64 ((wrap64 ((wrap64 (64*x6))+(wrap64 (bt x0 x8))))-128)) x7 (wrap64 (x8+1))))) else(none)) else(none)) else(if x6<x7 then(some (0,0)) else(if x6>1114111 then(some (0,0)) else(if x6 ≥ 55296 then(if x6<57344 then(some (0,0)) else(some (x6,x5))) else(some (x6,x5)))))
def stowageref3_Step.j0:Nat→ByteArray→Int→Bool→Option (Int×Int)
  | 0,_,_,_=>none
  | k+1,x0,x4,x16=>if x16=true then(stowageref3_Step.j2 k x0 2 (wrap64 (x4-192)) 128) else(if x4 ≥ 224 then(stowageref3_Step.j1 k x0 x4 (decide (x4<240))) else(stowageref3_Step.j1 k x0 x4 false))
def stowageref3_Step.j1:Nat→ByteArray→Int→Bool→Option (Int×Int)
  | 0,_,_,_=>none
  | k+1,x0,x4,x25=>if x25=true then(stowageref3_Step.j2 k x0 3 (wrap64 (x4-224)) 2048) else(if x4 ≥ 240 then(if x4<248 then(stowageref3_Step.j2 k x0 4 (wrap64 (x4-240)) 65536) else(some (0,0))) else(some (0,0)))
end
def stowageref3_Step.f (k:Nat) (a0:ByteArray):Option (Int×Int):=if 0<(a0.size:Int) then(if(wrap64 (bt a0 0))<128 then(some (wrap64 (bt a0 0),1)) else(if(wrap64 (bt a0 0)) ≥ 192 then(stowageref3_Step.j0 k a0 (wrap64 (bt a0 0)) (decide ((wrap64 (bt a0 0))<224))) else(stowageref3_Step.j0 k a0 (wrap64 (bt a0 0)) false))) else(none)
theorem stowageref3_Step.mono_l:∀ k,(∀ y0 y1 y2 y3,LeO (stowageref3_Step.j2 k y0 y1 y2 y3) (stowageref3_Step.j2 (k+1) y0 y1 y2 y3))∧(∀ y0 y1 y2 y3 y4,LeO (stowageref3_Step.l0 k y0 y1 y2 y3 y4) (stowageref3_Step.l0 (k+1) y0 y1 y2 y3 y4))∧(∀ y0 y1 y2,LeO (stowageref3_Step.j0 k y0 y1 y2) (stowageref3_Step.j0 (k+1) y0 y1 y2))∧(∀ y0 y1 y2,LeO (stowageref3_Step.j1 k y0 y1 y2) (stowageref3_Step.j1 (k+1) y0 y1 y2))
  | 0=>⟨fun _ _ _ _ r h=>by simp [stowageref3_Step.j2] at h,fun _ _ _ _ _ r h=>by simp [stowageref3_Step.l0] at h,fun _ _ _ r h=>by simp [stowageref3_Step.j0] at h,fun _ _ _ r h=>by simp [stowageref3_Step.j1] at h⟩
  | k+1=>by
    obtain⟨ih0,ih1,ih2,ih3⟩:=stowageref3_Step.mono_l k
    refine⟨?_,?_,?_,?_⟩
    · intro y0 y1 y2 y3
      unfold stowageref3_Step.j2
      with_reducible repeat' first|exact ih0 _ _ _ _|exact ih1 _ _ _ _ _|exact ih2 _ _ _|exact ih3 _ _ _|exact LeO.refl _|exact LeO.none _|refine LeO.ite ?_ ?_|refine LeO.bind ?_ (fun _=>?_)
    · intro y0 y1 y2 y3 y4
      unfold stowageref3_Step.l0
      with_reducible repeat' first|exact ih0 _ _ _ _|exact ih1 _ _ _ _ _|exact ih2 _ _ _|exact ih3 _ _ _|exact LeO.refl _|exact LeO.none _|refine LeO.ite ?_ ?_|refine LeO.bind ?_ (fun _=>?_)
    · intro y0 y1 y2
      unfold stowageref3_Step.j0
      with_reducible repeat' first|exact ih0 _ _ _ _|exact ih1 _ _ _ _ _|exact ih2 _ _ _|exact ih3 _ _ _|exact LeO.refl _|exact LeO.none _|refine LeO.ite ?_ ?_|refine LeO.bind ?_ (fun _=>?_)
    · intro y0 y1 y2
      unfold stowageref3_Step.j1
      with_reducible repeat' first|exact ih0 _ _ _ _|exact ih1 _ _ _ _ _|exact ih2 _ _ _|exact ih3 _ _ _|exact LeO.refl _|exact LeO.none _|refine LeO.ite ?_ ?_|refine LeO.bind ?_ (fun _=>?_)
theorem stowageref3_Step.mono:∀ a0 k,LeO (stowageref3_Step.f k a0) (stowageref3_Step.f (k+1) a0):=by
 intro a0 k
 obtain⟨ih0,ih1,ih2,ih3⟩:=stowageref3_Step.mono_l k
 unfold stowageref3_Step.f
 with_reducible repeat' first|exact ih0 _ _ _ _|exact ih1 _ _ _ _ _|exact ih2 _ _ _|exact ih3 _ _ _|exact LeO.refl _|exact LeO.none _|refine LeO.ite ?_ ?_|refine LeO.bind ?_ (fun _=>?_)
theorem stowageref3_Step.calls (k:Nat) (a0:ByteArray) (r1:Int) (r2:Int) (w:World) (h:stowageref3_Step.f k a0=some (r1,r2)) :
    Calls Tryd.prog 62 #[.string a0] w fun e w'=>e = .returned (.tuple #[.int .i64 r1,.int .i64 r2])∧Drawn0 w w':=by
 unfold stowageref3_Step.f at h
 have H:=h
 clear h
 replace H:=itO H
 rcases H with⟨c2,H⟩|⟨c2,H⟩
 {
 have c2b0:decide (0<(a0.size:Int))=true:=decide_eq_true c2
 have c2b1:decide (0<a0.size)=true:=decide_eq_true (by omega)
 clear c2
 have HC4:=Aside0.mk H
 clear H
 have p3:0≤(0:Int):=(by omega)
 have q3:0<a0.size:=(by have:(0:Int)<(a0.size:Int):=of_decide_eq_true asm;omega)
 have hx3:∀ h:0<a0.size,((a0[0]'h).toNat:Int)=bt a0 0:=bt_at a0 0
 clear p3
 have qi3:(0<(a0.size:Int))=True:=eq_true (of_decide_eq_true asm)
 replace q3:=eq_true q3
 go_enter Tryd.func62,Tryd.ntmps62
 go_upto_block 0 with(fail)
 go_cut [5,6,7] (fun v5 v6 v7 wc=>∃ (kq:Nat) (x5_3:Int) (x6_3:Int) (x7_3:Int),v5 = .int .i64 x5_3∧v6 = .int .i64 x6_3∧v7 = .int .i64 x7_3∧Aside0 (stowageref3_Step.j2 kq a0 x5_3 x6_3 x7_3=some (r1,r2))∧Aside0 (kq≤k)∧Drawn0 w wc)
 case first=>
  have H:=HC4.out
  clear HC4
  replace H:=itO H
  rcases H with⟨c5,H⟩|⟨c5,H⟩
  {
  have c5b0:decide ((wrap64 (bt a0 0))<128)=true:=decide_eq_true c5
  clear c5
  (first|rw [c5b0]|(simp only [i64_w,i32_w];rw [c5b0])|skip)
  simp only [Option.some.injEq,Prod.mk.injEq] at H
  obtain⟨rfl,rfl⟩:=H
  go_wp2
  go_ret2
  exact⟨rs,dr⟩
  }
  {
  have c5b0:decide ((wrap64 (bt a0 0))<128)=false:=decide_eq_false c5
  clear c5
  (first|rw [c5b0]|(simp only [i64_w,i32_w];rw [c5b0])|skip)
  have HC6:=Aside0.mk H
  clear H
  go_upto_region 8 with(fail)
  go_cut [16] (fun v16 wc=>∃ (kq:Nat) (x16_5:Bool),v16 = .bool x16_5∧Aside0 (stowageref3_Step.j0 kq a0 (wrap64 (bt a0 0)) x16_5=some (r1,r2))∧Aside0 (kq≤k)∧Drawn0 w wc)
  case first=>
   have H:=HC6.out
   clear HC6
   replace H:=itO H
   rcases H with⟨c7,H⟩|⟨c7,H⟩
   {
   have c7b0:decide (192≤(wrap64 (bt a0 0)))=true:=decide_eq_true c7
   clear c7
   (first|rw [c7b0]|(simp only [i64_w,i32_w];rw [c7b0])|skip)
   have H':=Aside0.mk H
   clear H
   go_wp2
   go_meet
   case rel=>exact⟨_,(decide ((wrap64 (bt a0 0))<224)),rs,H',⟨by first|omega|exact Nat.le_refl _⟩,by repeat (first|exact Drawn0.refl _|apply Drawn0.step)⟩
   }
   {
   have c7b0:decide (192≤(wrap64 (bt a0 0)))=false:=decide_eq_false c7
   clear c7
   (first|rw [c7b0]|(simp only [i64_w,i32_w];rw [c7b0])|skip)
   have H':=Aside0.mk H
   clear H
   go_wp2
   go_meet
   case rel=>exact⟨_,(false),rs,H',⟨by first|omega|exact Nat.le_refl _⟩,by repeat (first|exact Drawn0.refl _|apply Drawn0.step)⟩
   }
  case rest=>
   clear HC6
   obtain⟨kq,x16_5,rfl,HA,HJ5,⟨mc5,rfl⟩⟩:=hcut
   cases kq with
   | zero=>exact absurd HA.out (by simp [stowageref3_Step.j0])
   | succ kj5=>
    have H:=HA.out
    clear HA
    simp only [stowageref3_Step.j0] at H
    by_cases c8:x16_5=true
    {
    subst c8
    replace H:=itT H
    have H':=Aside0.mk H
    clear H
    go_wp2
    go_meet
    case rel=>exact⟨_,(2),(wrap64 ((wrap64 (bt a0 0))-192)),(128),rs,rs,rs,H',⟨by have:=HJ5.out;first|omega|exact Nat.le_refl _⟩,by repeat (first|exact Drawn0.refl _|apply Drawn0.step)⟩
    }
    {
    replace c8:=Bool.eq_false_iff.mpr c8
    subst c8
    replace H:=itF H
    have HC9:=Aside0.mk H
    clear H
    go_upto_region 12 with(fail)
    go_cut [25] (fun v25 wc=>∃ (kq:Nat) (x25_8:Bool),v25 = .bool x25_8∧Aside0 (stowageref3_Step.j1 kq a0 (wrap64 (bt a0 0)) x25_8=some (r1,r2))∧Aside0 (kq≤kj5)∧Drawn0 w wc)
    case first=>
     have H:=HC9.out
     clear HC9
     replace H:=itO H
     rcases H with⟨c10,H⟩|⟨c10,H⟩
     {
     have c10b0:decide (224≤(wrap64 (bt a0 0)))=true:=decide_eq_true c10
     clear c10
     (first|rw [c10b0]|(simp only [i64_w,i32_w];rw [c10b0])|skip)
     have H':=Aside0.mk H
     clear H
     go_wp2
     go_meet
     case rel=>exact⟨_,(decide ((wrap64 (bt a0 0))<240)),rs,H',⟨by have:=HJ5.out;first|omega|exact Nat.le_refl _⟩,by repeat (first|exact Drawn0.refl _|apply Drawn0.step)⟩
     }
     {
     have c10b0:decide (224≤(wrap64 (bt a0 0)))=false:=decide_eq_false c10
     clear c10
     (first|rw [c10b0]|(simp only [i64_w,i32_w];rw [c10b0])|skip)
     have H':=Aside0.mk H
     clear H
     go_wp2
     go_meet
     case rel=>exact⟨_,(false),rs,H',⟨by have:=HJ5.out;first|omega|exact Nat.le_refl _⟩,by repeat (first|exact Drawn0.refl _|apply Drawn0.step)⟩
     }
    case rest=>
     clear HC9
     obtain⟨kq,x25_8,rfl,HA,HJ8,⟨mc8,rfl⟩⟩:=hcut
     cases kq with
     | zero=>exact absurd HA.out (by simp [stowageref3_Step.j1])
     | succ kj8=>
      have H:=HA.out
      clear HA
      simp only [stowageref3_Step.j1] at H
      by_cases c11:x25_8=true
      {
      subst c11
      replace H:=itT H
      have H':=Aside0.mk H
      clear H
      go_wp2
      go_meet
      case rel=>exact⟨_,(3),(wrap64 ((wrap64 (bt a0 0))-224)),(2048),rs,rs,rs,H',⟨by have:=HJ5.out;have:=HJ8.out;first|omega|exact Nat.le_refl _⟩,by repeat (first|exact Drawn0.refl _|apply Drawn0.step)⟩
      }
      {
      replace c11:=Bool.eq_false_iff.mpr c11
      subst c11
      replace H:=itF H
      replace H:=itO H
      rcases H with⟨c12,H⟩|⟨c12,H⟩
      {
      have c12b0:decide (240≤(wrap64 (bt a0 0)))=true:=decide_eq_true c12
      clear c12
      replace H:=itO H
      rcases H with⟨c13,H⟩|⟨c13,H⟩
      {
      have c13b0:decide ((wrap64 (bt a0 0))<248)=true:=decide_eq_true c13
      clear c13
      have H':=Aside0.mk H
      clear H
      go_wp2
      go_meet
      case rel=>exact⟨_,(4),(wrap64 ((wrap64 (bt a0 0))-240)),(65536),rs,rs,rs,H',⟨by have:=HJ5.out;have:=HJ8.out;first|omega|exact Nat.le_refl _⟩,by repeat (first|exact Drawn0.refl _|apply Drawn0.step)⟩
      }
      {
      have c13b0:decide ((wrap64 (bt a0 0))<248)=false:=decide_eq_false c13
      clear c13
      simp only [Option.some.injEq,Prod.mk.injEq] at H
      obtain⟨rfl,rfl⟩:=H
      go_wp2
      go_ret2
      exact⟨rs,dr⟩
      }
      }
      {
      have c12b0:decide (240≤(wrap64 (bt a0 0)))=false:=decide_eq_false c12
      clear c12
      simp only [Option.some.injEq,Prod.mk.injEq] at H
      obtain⟨rfl,rfl⟩:=H
      go_wp2
      go_ret2
      exact⟨rs,dr⟩
      }
      }
    }
  }
 case rest=>
  clear HC4
  obtain⟨kq,x5_3,x6_3,x7_3,rfl,rfl,rfl,HA,HJ3,⟨mc3,rfl⟩⟩:=hcut
  cases kq with
  | zero=>exact absurd HA.out (by simp [stowageref3_Step.j2])
  | succ kj3=>
   have H:=HA.out
   clear HA
   simp only [stowageref3_Step.j2] at H
   replace H:=itO H
   rcases H with⟨c14,H⟩|⟨c14,H⟩
   {
   have c14b0:decide ((a0.size:Int)<x5_3)=true:=decide_eq_true c14
   clear c14
   simp only [Option.some.injEq,Prod.mk.injEq] at H
   obtain⟨rfl,rfl⟩:=H
   go_wp2
   go_ret2
   exact⟨rs,dr⟩
   }
   {
   have c14b0:decide ((a0.size:Int)<x5_3)=false:=decide_eq_false c14
   clear c14
   have H':=Aside0.mk H
   clear H
   go_wp2
   go_loopg [6,8] kj3 (fun kq v6 v8 w'=>∃ (x6_2:Int) (x8_2:Int),v6 = .int .i64 x6_2∧v8 = .int .i64 x8_2∧Aside0 (stowageref3_Step.l0 kq a0 x5_3 x6_2 x7_3 x8_2=some (r1,r2))∧Aside0 (kq≤kj3)∧Drawn0 w w')
   case atStart=>exact⟨(x6_3),(1),rs,rs,H',⟨Nat.le_refl _⟩,by repeat (first|exact Drawn0.refl _|apply Drawn0.step)⟩
   case round=>
    clear H'
    obtain⟨x6_2,x8_2,rfl,rfl,HA,HK2,⟨m2,rfl⟩⟩:=hrel
    cases gk with
    | zero=>exact absurd HA.out (by simp [stowageref3_Step.l0])
    | succ k2=>
     have H:=HA.out
     clear HA
     simp only [stowageref3_Step.l0] at H
     replace H:=itO H
     rcases H with⟨c15,H⟩|⟨c15,H⟩
     {
     have c15b0:decide (x8_2<x5_3)=true:=decide_eq_true c15
     clear c15
     replace H:=itO H
     rcases H with⟨c16,H⟩|⟨c16,H⟩
     {
     have c16b0:decide (0≤x8_2)=true:=decide_eq_true c16
     clear c16
     replace H:=itO H
     rcases H with⟨c17,H⟩|⟨c17,H⟩
     {
     have c17b0:decide (x8_2<(a0.size:Int))=true:=decide_eq_true c17
     clear c17
     replace H:=itO H
     rcases H with⟨c19,H⟩|⟨c19,H⟩
     {
     have c19b0:decide ((bt a0 x8_2)<128)=true:=decide_eq_true c19
     clear c19
     simp only [Option.some.injEq,Prod.mk.injEq] at H
     obtain⟨rfl,rfl⟩:=H
     have p18:0≤(x8_2:Int):=of_decide_eq_true asm
     have q18:x8_2<(a0.size:Int):=of_decide_eq_true asm
     have hx18:=bt_at a0 x8_2
     replace p18:=eq_true p18
     replace q18:=eq_true q18
     go_wp2
     go_ret2
     exact⟨rs,dr⟩
     }
     {
     have c19b0:decide ((bt a0 x8_2)<128)=false:=decide_eq_false c19
     clear c19
     replace H:=itO H
     rcases H with⟨c21,H⟩|⟨c21,H⟩
     {
     have c21b0:decide (192≤(bt a0 x8_2))=true:=decide_eq_true c21
     clear c21
     simp only [Option.some.injEq,Prod.mk.injEq] at H
     obtain⟨rfl,rfl⟩:=H
     have p18:0≤(x8_2:Int):=of_decide_eq_true asm
     have q18:x8_2<(a0.size:Int):=of_decide_eq_true asm
     have hx18:=bt_at a0 x8_2
     replace p18:=eq_true p18
     replace q18:=eq_true q18
     have p20:0≤(x8_2:Int):=of_decide_eq_true asm
     have q20:x8_2<(a0.size:Int):=of_decide_eq_true asm
     have hx20:=bt_at a0 x8_2
     replace p20:=eq_true p20
     replace q20:=eq_true q20
     go_wp2
     go_ret2
     exact⟨rs,dr⟩
     }
     {
     have c21b0:decide (192≤(bt a0 x8_2))=false:=decide_eq_false c21
     clear c21
     have H':=Aside0.mk H
     clear H
     have p18:0≤(x8_2:Int):=of_decide_eq_true asm
     have q18:x8_2<(a0.size:Int):=of_decide_eq_true asm
     have hx18:=bt_at a0 x8_2
     replace p18:=eq_true p18
     replace q18:=eq_true q18
     have p20:0≤(x8_2:Int):=of_decide_eq_true asm
     have q20:x8_2<(a0.size:Int):=of_decide_eq_true asm
     have hx20:=bt_at a0 x8_2
     replace p20:=eq_true p20
     replace q20:=eq_true q20
     have p22:0≤(x8_2:Int):=of_decide_eq_true asm
     have q22:x8_2<(a0.size:Int):=of_decide_eq_true asm
     have hx22:=bt_at a0 x8_2
     replace p22:=eq_true p22
     replace q22:=eq_true q22
     go_wp2
     go_roundg k2
     case measure=>have:=HJ3.out;have:=HK2.out;omega
     case rel=>exact⟨(wrap64 ((wrap64 ((wrap64 (64*x6_2))+(wrap64 (bt a0 x8_2))))-128)),(wrap64 (x8_2+1)),rs,rs,H',⟨by have:=HJ3.out;have:=HK2.out;omega⟩,by repeat (first|exact Drawn0.refl _|apply Drawn0.step)⟩
     }
     }
     }
     ·exact absurd H (by simp)
     }
     ·exact absurd H (by simp)
     }
     {
     have c15b0:decide (x8_2<x5_3)=false:=decide_eq_false c15
     clear c15
     replace H:=itO H
     rcases H with⟨c23,H⟩|⟨c23,H⟩
     {
     have c23b0:decide (x6_2<x7_3)=true:=decide_eq_true c23
     clear c23
     simp only [Option.some.injEq,Prod.mk.injEq] at H
     obtain⟨rfl,rfl⟩:=H
     go_wp2
     go_ret2
     exact⟨rs,dr⟩
     }
     {
     have c23b0:decide (x6_2<x7_3)=false:=decide_eq_false c23
     clear c23
     replace H:=itO H
     rcases H with⟨c24,H⟩|⟨c24,H⟩
     {
     have c24b0:decide (1114111<x6_2)=true:=decide_eq_true c24
     clear c24
     simp only [Option.some.injEq,Prod.mk.injEq] at H
     obtain⟨rfl,rfl⟩:=H
     go_wp2
     go_ret2
     exact⟨rs,dr⟩
     }
     {
     have c24b0:decide (1114111<x6_2)=false:=decide_eq_false c24
     clear c24
     replace H:=itO H
     rcases H with⟨c25,H⟩|⟨c25,H⟩
     {
     have c25b0:decide (55296≤x6_2)=true:=decide_eq_true c25
     clear c25
     replace H:=itO H
     rcases H with⟨c26,H⟩|⟨c26,H⟩
     {
     have c26b0:decide (x6_2<57344)=true:=decide_eq_true c26
     clear c26
     simp only [Option.some.injEq,Prod.mk.injEq] at H
     obtain⟨rfl,rfl⟩:=H
     go_wp2
     go_ret2
     exact⟨rs,dr⟩
     }
     {
     have c26b0:decide (x6_2<57344)=false:=decide_eq_false c26
     clear c26
     simp only [Option.some.injEq,Prod.mk.injEq] at H
     obtain⟨rfl,rfl⟩:=H
     go_wp2
     go_ret2
     exact⟨rs,dr⟩
     }
     }
     {
     have c25b0:decide (55296≤x6_2)=false:=decide_eq_false c25
     clear c25
     simp only [Option.some.injEq,Prod.mk.injEq] at H
     obtain⟨rfl,rfl⟩:=H
     go_wp2
     go_ret2
     exact⟨rs,dr⟩
     }
     }
     }
     }
   }
 }
 ·exact absurd H (by simp)
def stringslite_HasPrefix.f (a0:ByteArray) (a1:ByteArray):Option (Bool):=if(a0.size:Int) ≥ (a1.size:Int) then(if 0≤(a1.size:Int) then(if(a1.size:Int)≤(a0.size:Int) then(some ((a0.extract 0 a1.size).toList == a1.toList)) else(none)) else(none)) else(some false)
theorem stringslite_HasPrefix.calls (a0:ByteArray) (a1:ByteArray) (r:Bool) (w:World) (h:stringslite_HasPrefix.f a0 a1=some r) :
  Calls Tryd.prog 77 #[.string a0,.string a1] w fun e w'=>e = .returned (.bool r)∧Drawn0 w w':=by
 unfold stringslite_HasPrefix.f at h
 have H:=h
 clear h
 replace H:=itO H
 rcases H with⟨c3,H⟩|⟨c3,H⟩
 ·skip
  have c3b0:decide ((a1.size:Int)≤(a0.size:Int))=true:=decide_eq_true c3
  have c3b1:decide (a1.size≤a0.size)=true:=decide_eq_true (Int.ofNat_le.mp c3)
  clear c3
  replace H:=itO H
  rcases H with⟨c4,H⟩|⟨c4,H⟩
  ·skip
   have c4b0:=eq_true c4
   have c4b1:=decide_eq_true c4
   clear c4
   replace H:=itO H
   rcases H with⟨c5,H⟩|⟨c5,H⟩
   ·skip
    have c5b0:=eq_true c5
    have c5b1:=decide_eq_true c5
    clear c5
    obtain rfl:=Option.some.inj H
    go_enter Tryd.func77,Tryd.ntmps77
    go_wp2
    go_ret
    exact⟨by first|rfl|(simp;done)|(simp [*];done),by repeat (first|exact Drawn0.refl _|apply Drawn0.step)⟩
   ·exact absurd H (by simp)
  ·exact absurd H (by simp)
 ·skip
  have c3b0:decide ((a1.size:Int)≤(a0.size:Int))=false:=decide_eq_false c3
  have c3b1:decide (a1.size≤a0.size)=false:=decide_eq_false (fun h=>c3 (Int.ofNat_le.mpr h))
  clear c3
  obtain rfl:=Option.some.inj H
  go_enter Tryd.func77,Tryd.ntmps77
  go_wp2
  go_ret
  exact⟨by first|rfl|(simp;done)|(simp [*];done),by repeat (first|exact Drawn0.refl _|apply Drawn0.step)⟩
def strings_HasPrefix.f (a0:ByteArray) (a1:ByteArray):Option (Bool):=(stringslite_HasPrefix.f a0 a1).bind fun t101=>(some t101)
theorem strings_HasPrefix.calls (a0:ByteArray) (a1:ByteArray) (r:Bool) (w:World) (h:strings_HasPrefix.f a0 a1=some r) :
  Calls Tryd.prog 55 #[.string a0,.string a1] w fun e w'=>e = .returned (.bool r)∧Drawn0 w w':=by
 unfold strings_HasPrefix.f at h
 have H:=h
 clear h
 replace H:=bndO H
 obtain⟨t101,A30,H⟩:=H
 have A3:=Aside0.mk A30
 clear A30
 obtain rfl:=Option.some.inj H
 go_enter Tryd.func55,Tryd.ntmps55
 go_wp2_with (first|((with_reducible refine gate_callee (f:=77) rfl ?_);refine goesL_ (some 7) rfl rfl Tryd.func77 (by kernel_rfl) rfl #[.string a0,.string a1] rfl (by(try simp only [List.map_toArray,List.map_cons,List.map_nil]);first|done|rfl|(simp only [List.length_drop,List.length_take];rfl)) ?_;(with_reducible refine(stringslite_HasPrefix.calls a0 a1 t101 _ A3.out).mono ?_);rintro e w' ⟨rfl,⟨nd,rfl⟩⟩;refine⟨_,rfl,?_⟩))
 go_ret
 exact⟨by first|rfl|(simp;done)|(simp [*];done),by repeat (first|exact Drawn0.refl _|apply Drawn0.step)⟩
def chars_Count.own (s:ByteArray) (pos:Nat):Bool:=decide (3≤s.size-pos) && ((s.extract pos s.size).extract 0 3).toList == [239,191,189]
def chars_Count.g (s:ByteArray):Nat→Nat→Int→Int×Bool
 | 0,_,n=>(n,true)
 | k+1,pos,n=>if pos<s.size then(if(Utf8.decode s pos).1=65533∧chars_Count.own s pos=false then(0,false) else chars_Count.g s k (pos+(Utf8.decode s pos).2) (n+1)) else(n,true)
def chars_Count.f (a0:ByteArray):Option (Int×Bool):=if a0.size≤9007199254740992 then some (chars_Count.g a0 a0.size 0 0) else none
theorem chars_Count.width_pos (s:ByteArray) (pos:Nat) (h:pos<s.size):1≤(Utf8.decode s pos).2:=by
 by_cases ha:(s[pos]'h).toNat<128
 ·rw [decode_ascii s pos h ha]
  exact Nat.le_refl _
 ·exact(decode_high s pos h (by omega)).2
theorem chars_Count.own_eq (s:ByteArray) (pos:Nat) (h:s.size≤9007199254740992):strings_HasPrefix.f (s.extract pos s.size) ⟨#[239,191,189]⟩=some (chars_Count.own s pos):=by
 have hz:(s.extract pos s.size).size=s.size-pos:=by simp
 have h3:(⟨#[239,191,189]⟩ : ByteArray).size=3:=rfl
 have hl:(⟨#[239,191,189]⟩ : ByteArray).toList = [239,191,189]:=by rw [ByteArray.toList_eq]
 unfold strings_HasPrefix.f stringslite_HasPrefix.f chars_Count.own
 rw [hz,h3,hl]
 by_cases c:3≤s.size-pos
 ·rw [if_pos (by omega),if_pos (by omega),if_pos (by omega),decide_eq_true c]
  rfl
 ·rw [if_neg (by omega)]
  simp [c]
theorem chars_Count.g_bad (s:ByteArray) (k pos:Nat) (n:Int) (h:pos<s.size) (hd:(Utf8.decode s pos).1=65533) (ho:chars_Count.own s pos=false):chars_Count.g s (k+1) pos n=(0,false):=by
 rw [chars_Count.g,if_pos h,if_pos ⟨hd,ho⟩]
theorem chars_Count.g_on (s:ByteArray) (k pos:Nat) (n:Int) (h:pos<s.size) (hd:¬ ((Utf8.decode s pos).1=65533∧chars_Count.own s pos=false)):chars_Count.g s (k+1) pos n=chars_Count.g s k (pos+(Utf8.decode s pos).2) (n+1):=by
 rw [chars_Count.g,if_pos h,if_neg hd]
theorem chars_Count.g_end (s:ByteArray) (k pos:Nat) (n:Int) (h:¬ pos<s.size):chars_Count.g s k pos n=(n,true):=by
 cases k with
 | zero=>rfl
 | succ k=>rw [chars_Count.g,if_neg h]
theorem chars_Count.calls (a0:ByteArray) (r1:Int) (r2:Bool) (w:World) (h:chars_Count.f a0=some (r1,r2)) :
  Calls Tryd.prog 76 #[.string a0] w fun e w'=>e = .returned (.tuple #[.int .i64 r1,.bool r2])∧Below w.heap.size w w':=by
 unfold chars_Count.f at h
 have hs:a0.size≤9007199254740992:=by
  by_cases c:a0.size≤9007199254740992
  ·exact c
  ·simp [c] at h
 rw [if_pos hs] at h
 have hR:=Lib.hid (Option.some.inj h)
 clear h
 go_enter Tryd.func76,Tryd.ntmps76
 go_wp2
 go_loopw [4] (fun i wr=>∃ (pos fuel:Nat) (n:Nat),i = .int .i64 n∧Hid (wr.heap[w.heap.size]? = some (.stringIter a0 pos)∧Below w.heap.size w wr∧chars_Count.g a0 fuel pos n=(r1,r2)∧a0.size≤pos+fuel∧n≤pos)) (fun _ wr=>a0.size-wr.iterPos w.heap.size)
 case atStart=>
  refine⟨0,a0.size,0,rfl,Lib.hid ⟨?_,(Below.refl _ w).alloc (Nat.le_refl _) _,hR.out,by omega,Nat.le_refl _⟩⟩
  exact World.iter_heap w a0 0
 case round=>
  obtain⟨pos,fuel,n,rfl,hI⟩:=hrel
  by_cases hp:pos<a0.size
  ·have hit:=hI.out.1
   have hnx:∀ ty,(Instr.next (.pointer (some ⟨w.heap.size,0,none⟩)) true ty).run Tryd.prog wr=_:=fun ty=>Lib.run_next_any_at wr w.heap.size a0 pos ty hit hp
   have hwd:=chars_Count.width_pos a0 pos hp
   have hB2:=Lib.below_iterAt hI.out.2.1 (k:=w.heap.size) (Nat.le_refl _) a0 (pos+(Utf8.decode a0 pos).2)
   have hit2:=Lib.iterAt_heap wr w.heap.size a0 pos (pos+(Utf8.decode a0 pos).2) hit
   obtain⟨W2,hW2⟩ : ∃ W2,wr.iterAt w.heap.size a0 (pos+(Utf8.decode a0 pos).2)=W2:=⟨_,rfl⟩
   rw [hW2] at hB2 hit2
   simp only [hW2] at hnx
   obtain⟨f,rfl⟩ : ∃ f,fuel=f+1:=⟨fuel-1,by have:=hI.out.2.2.2.1;omega⟩
   have hn:n≤9007199254740992:=by have:=hI.out.2.2.2.2;omega
   have hmeas:a0.size-W2.iterPos w.heap.size<a0.size-wr.iterPos w.heap.size:=by simp only [World.iterPos,hit2,hit];omega
   have hpos:=Lib.hid (And.intro hp hwd)
   have hkeep:=Lib.hid (And.intro hB2 (And.intro hit2 hmeas))
   have hfr:Hid (a0.size≤pos+(f+1)):=Lib.hid hI.out.2.2.2.1
   have hpl:pos≤a0.size:=by omega
   clear hW2 hB2 hit2 hmeas hwd hit
   by_cases hd:(Utf8.decode a0 pos).1=65533
   ·have hdb:(((Utf8.decode a0 pos).1:Int) == 65533)=true:=by rw [hd];rfl
    obtain⟨o,ho⟩ : ∃ o,chars_Count.own a0 pos=o:=⟨_,rfl⟩
    have hown:=Lib.hid (chars_Count.own_eq a0 pos hs)
    rw [ho] at hown
    have hd':=Lib.hid hd
    have ho':=Lib.hid ho
    clear hd ho hp
    cases o
    ·go_wp2_with (go_at_call 55;refine(strings_HasPrefix.calls _ _ false _ hown.out).mono ?_;rintro e w9 ⟨rfl,⟨⟨nd,rfl⟩⟩⟩)
     go_ret2
     have hr:=(chars_Count.g_bad a0 f pos n hpos.out.1 hd'.out ho'.out).symm.trans hI.out.2.2.1
     obtain⟨rfl,rfl⟩:=Prod.mk.inj hr
     exact⟨rfl,pw_below_drewN hkeep.out.1 _⟩
    ·go_wp2_with (go_at_call 55;refine(strings_HasPrefix.calls _ _ true _ hown.out).mono ?_;rintro e w9 ⟨rfl,⟨⟨nd,rfl⟩⟩⟩)
     go_roundw
     case rel=>exact⟨pos+(Utf8.decode a0 pos).2,f,n+1,by go_num,Lib.hid ⟨hkeep.out.2.1,pw_below_drewN hkeep.out.1 _,by have h_:=(chars_Count.g_on a0 f pos n hpos.out.1 (by rw [ho'.out];simp)).symm.trans hI.out.2.2.1;simpa using h_,by have:=hfr.out;have:=hpos.out.2;omega,by have:=hpos.out.2;have:=hI.out.2.2.2.2;omega⟩⟩
     case measure=>exact hkeep.out.2.2
   ·have hdb:(((Utf8.decode a0 pos).1:Int) == 65533)=false:=by
     rw [beq_eq_false_iff_ne];intro h_;exact hd (by omega)
    have hd':=Lib.hid hd
    clear hd hp
    go_wp2
    go_roundw
    case rel=>exact⟨pos+(Utf8.decode a0 pos).2,f,n+1,by go_num,Lib.hid ⟨hkeep.out.2.1,hkeep.out.1,by have h_:=(chars_Count.g_on a0 f pos n hpos.out.1 (fun h9=>hd'.out h9.1)).symm.trans hI.out.2.2.1;simpa using h_,by have:=hfr.out;have:=hpos.out.2;omega,by have:=hpos.out.2;have:=hI.out.2.2.2.2;omega⟩⟩
    case measure=>exact hkeep.out.2.2
  ·have hnx:∀ ty,(Instr.next (.pointer (some ⟨w.heap.size,0,none⟩)) true ty).run Tryd.prog wr=_:=fun ty=>Lib.run_next_end_at wr w.heap.size a0 pos ty hI.out.1 hp
   have hr:=Lib.hid ((chars_Count.g_end a0 fuel pos n hp).symm.trans hI.out.2.2.1)
   go_wp2
   go_ret2
   obtain⟨rfl,rfl⟩:=Prod.mk.inj hr.out
   exact⟨rfl,hI.out.2.1⟩
def chars_Valid.f (a0:ByteArray):Option (Bool):=(chars_Count.f a0).bind fun bt102=>(some bt102.2)
theorem chars_Valid.calls (a0:ByteArray) (r:Bool) (w:World) (h:chars_Valid.f a0=some r) :
  Calls Tryd.prog 54 #[.string a0] w fun e w'=>e = .returned (.bool r)∧Below w.heap.size w w':=by
 have HB:=Aside0.mk (Below.refl w.heap.size w)
 unfold chars_Valid.f at h
 have H:=h
 clear h
 replace H:=bndO H
 obtain⟨⟨t102,t103⟩,A20,H⟩:=H
 dsimp only at H
 have A2:=Aside0.mk A20
 clear A20
 obtain rfl:=Option.some.inj H
 go_enter Tryd.func54,Tryd.ntmps54
 go_wp2_with (first|((with_reducible refine gate_callee (f:=76) rfl ?_);refine goesL_ (some 7) rfl rfl Tryd.func76 (by kernel_rfl) rfl #[.string a0] rfl (by(try simp only [List.map_toArray,List.map_cons,List.map_nil]);first|done|rfl|(simp only [List.length_drop,List.length_take];rfl)) ?_;(with_reducible refine(chars_Count.calls a0 t102 t103 _ A2.out).mono ?_);rintro e w3 ⟨rfl,hb⟩;refine⟨_,rfl,?_⟩;have n0_:=Aside0.mk (below_step (by repeat (first|(with_reducible first|exact HB.out|apply below_alloc|apply pw_below_drewN|apply below_drew1)|exact HB.out)) hb);clear HB;have HB:=n0_;clear n0_;(try clear hb);(try clear hb2);(try clear hk);(try clear hi)))
 go_ret
 exact⟨by first|rfl|(simp [errW_none,errW_some] <;> rfl)|(simp [*,errW_none,errW_some] <;> rfl),by repeat (first|(with_reducible first|exact HB.out|apply below_alloc|apply pw_below_drewN|apply below_drew1)|exact HB.out)⟩
mutual
def chars_legal.j0:Nat→Int→Bool→Option (Bool)
  | 0,_,_=>none
  | k+1,x0,x3=>if x3=true then(some true) else(if x0 ≥ 57344 then(chars_legal.j1 k x0 (decide (x0≤65533))) else(chars_legal.j1 k x0 false))
def chars_legal.j1:Nat→Int→Bool→Option (Bool)
  | 0,_,_=>none
  | k+1,x0,x3=>if x3=true then(some true) else(if x0 ≥ 65536 then(some true) else(some false))
end
def chars_legal.f (k:Nat) (a0:Int):Option (Bool):=if a0=9 then(some true) else(if a0=10 then(some true) else(if a0=13 then(some true) else(if a0 ≥ 32 then(chars_legal.j0 k a0 (decide (a0≤55295))) else(chars_legal.j0 k a0 false))))
theorem chars_legal.mono_l:∀ k,(∀ y0 y1,LeO (chars_legal.j0 k y0 y1) (chars_legal.j0 (k+1) y0 y1))∧(∀ y0 y1,LeO (chars_legal.j1 k y0 y1) (chars_legal.j1 (k+1) y0 y1))
  | 0=>⟨fun _ _ r h=>by simp [chars_legal.j0] at h,fun _ _ r h=>by simp [chars_legal.j1] at h⟩
  | k+1=>by
    obtain⟨ih0,ih1⟩:=chars_legal.mono_l k
    refine⟨?_,?_⟩
    · intro y0 y1
      unfold chars_legal.j0
      with_reducible repeat' first|exact ih0 _ _|exact ih1 _ _|exact LeO.refl _|exact LeO.none _|refine LeO.ite ?_ ?_|refine LeO.bind ?_ (fun _=>?_)
    · intro y0 y1
      unfold chars_legal.j1
      with_reducible repeat' first|exact ih0 _ _|exact ih1 _ _|exact LeO.refl _|exact LeO.none _|refine LeO.ite ?_ ?_|refine LeO.bind ?_ (fun _=>?_)
theorem chars_legal.mono:∀ a0 k,LeO (chars_legal.f k a0) (chars_legal.f (k+1) a0):=by
 intro a0 k
 obtain⟨ih0,ih1⟩:=chars_legal.mono_l k
 unfold chars_legal.f
 with_reducible repeat' first|exact ih0 _ _|exact ih1 _ _|exact LeO.refl _|exact LeO.none _|refine LeO.ite ?_ ?_|refine LeO.bind ?_ (fun _=>?_)
theorem chars_legal.calls (k:Nat) (a0:Int) (r:Bool) (w:World) (h:chars_legal.f k a0=some r) :
    Calls Tryd.prog 53 #[.int .i32 a0] w fun e w'=>e = .returned (.bool r)∧Drawn0 w w':=by
 unfold chars_legal.f at h
 have H:=h
 clear h
 replace H:=itO H
 rcases H with⟨c2,H⟩|⟨c2,H⟩
 {
 have c2b0:(a0 == 9)=true:=beq_iff_eq.mpr c2
 clear c2
 obtain rfl:=Option.some.inj H
 go_enter Tryd.func53,Tryd.ntmps53
 go_wp2
 go_ret
 exact⟨rs,dr⟩
 }
 {
 have c2b0:(a0 == 9)=false:=beq_eq_false_iff_ne.mpr c2
 replace H:=itO H
 rcases H with⟨c3,H⟩|⟨c3,H⟩
 {
 have c3b0:(a0 == 10)=true:=beq_iff_eq.mpr c3
 clear c3
 obtain rfl:=Option.some.inj H
 go_enter Tryd.func53,Tryd.ntmps53
 go_wp2
 go_ret
 exact⟨rs,dr⟩
 }
 {
 have c3b0:(a0 == 10)=false:=beq_eq_false_iff_ne.mpr c3
 replace H:=itO H
 rcases H with⟨c4,H⟩|⟨c4,H⟩
 {
 have c4b0:(a0 == 13)=true:=beq_iff_eq.mpr c4
 clear c4
 obtain rfl:=Option.some.inj H
 go_enter Tryd.func53,Tryd.ntmps53
 go_wp2
 go_ret
 exact⟨rs,dr⟩
 }
 {
 have c4b0:(a0 == 13)=false:=beq_eq_false_iff_ne.mpr c4
 have HC5:=Aside0.mk H
 clear H
 go_enter Tryd.func53,Tryd.ntmps53
 go_upto_region 4 with(fail)
 go_cut [3] (fun v3 wc=>∃ (kq:Nat) (x3_4:Bool),v3 = .bool x3_4∧Aside0 (chars_legal.j0 kq a0 x3_4=some r)∧Aside0 (kq≤k)∧Drawn0 w wc)
 case first=>
  have H:=HC5.out
  clear HC5
  replace H:=itO H
  rcases H with⟨c6,H⟩|⟨c6,H⟩
  {
  have c6b0:decide (32≤a0)=true:=decide_eq_true c6
  clear c6
  (first|rw [c6b0]|(simp only [i64_w,i32_w];rw [c6b0])|skip)
  have H':=Aside0.mk H
  clear H
  go_wp2
  go_meet
  case rel=>exact⟨_,(decide (a0≤55295)),rs,H',⟨by first|omega|exact Nat.le_refl _⟩,by repeat (first|exact Drawn0.refl _|apply Drawn0.step)⟩
  }
  {
  have c6b0:decide (32≤a0)=false:=decide_eq_false c6
  clear c6
  (first|rw [c6b0]|(simp only [i64_w,i32_w];rw [c6b0])|skip)
  have H':=Aside0.mk H
  clear H
  go_wp2
  go_meet
  case rel=>exact⟨_,(false),rs,H',⟨by first|omega|exact Nat.le_refl _⟩,by repeat (first|exact Drawn0.refl _|apply Drawn0.step)⟩
  }
 case rest=>
  clear HC5
  obtain⟨kq,x3_4,rfl,HA,HJ4,⟨mc4,rfl⟩⟩:=hcut
  cases kq with
  | zero=>exact absurd HA.out (by simp [chars_legal.j0])
  | succ kj4=>
   have H:=HA.out
   clear HA
   simp only [chars_legal.j0] at H
   by_cases c7:x3_4=true
   {
   subst c7
   replace H:=itT H
   obtain rfl:=Option.some.inj H
   go_wp2
   go_ret
   exact⟨rs,dr⟩
   }
   {
   replace c7:=Bool.eq_false_iff.mpr c7
   subst c7
   replace H:=itF H
   have HC8:=Aside0.mk H
   clear H
   go_upto_region 5 with(fail)
   go_cut [3] (fun v3 wc=>∃ (kq:Nat) (x3_7:Bool),v3 = .bool x3_7∧Aside0 (chars_legal.j1 kq a0 x3_7=some r)∧Aside0 (kq≤kj4)∧Drawn0 w wc)
   case first=>
    have H:=HC8.out
    clear HC8
    replace H:=itO H
    rcases H with⟨c9,H⟩|⟨c9,H⟩
    {
    have c9b0:decide (57344≤a0)=true:=decide_eq_true c9
    clear c9
    (first|rw [c9b0]|(simp only [i64_w,i32_w];rw [c9b0])|skip)
    have H':=Aside0.mk H
    clear H
    go_wp2
    go_meet
    case rel=>exact⟨_,(decide (a0≤65533)),rs,H',⟨by have:=HJ4.out;first|omega|exact Nat.le_refl _⟩,by repeat (first|exact Drawn0.refl _|apply Drawn0.step)⟩
    }
    {
    have c9b0:decide (57344≤a0)=false:=decide_eq_false c9
    clear c9
    (first|rw [c9b0]|(simp only [i64_w,i32_w];rw [c9b0])|skip)
    have H':=Aside0.mk H
    clear H
    go_wp2
    go_meet
    case rel=>exact⟨_,(false),rs,H',⟨by have:=HJ4.out;first|omega|exact Nat.le_refl _⟩,by repeat (first|exact Drawn0.refl _|apply Drawn0.step)⟩
    }
   case rest=>
    clear HC8
    obtain⟨kq,x3_7,rfl,HA,HJ7,⟨mc7,rfl⟩⟩:=hcut
    cases kq with
    | zero=>exact absurd HA.out (by simp [chars_legal.j1])
    | succ kj7=>
     have H:=HA.out
     clear HA
     simp only [chars_legal.j1] at H
     by_cases c10:x3_7=true
     {
     subst c10
     replace H:=itT H
     obtain rfl:=Option.some.inj H
     go_wp2
     go_ret
     exact⟨rs,dr⟩
     }
     {
     replace c10:=Bool.eq_false_iff.mpr c10
     subst c10
     replace H:=itF H
     replace H:=itO H
     rcases H with⟨c11,H⟩|⟨c11,H⟩
     {
     have c11b0:decide (65536≤a0)=true:=decide_eq_true c11
     clear c11
     obtain rfl:=Option.some.inj H
     go_wp2
     go_ret
     exact⟨rs,dr⟩
     }
     {
     have c11b0:decide (65536≤a0)=false:=decide_eq_false c11
     clear c11
     obtain rfl:=Option.some.inj H
     go_wp2
     go_ret
     exact⟨rs,dr⟩
     }
     }
   }
 }
 }
 }
def chars_Legal.ok (c:Int):Bool:=decide (c=9∨c=10∨c=13∨(32≤c∧c≤55295)∨(57344≤c∧c≤65533)∨65536≤c)
theorem chars_Legal.ok_eq (c:Int):chars_legal.f 3 c=some (chars_Legal.ok c):=by
 unfold chars_legal.f chars_Legal.ok
 by_cases h1:c=9
 ·rw [if_pos h1,decide_eq_true (by omega)]
 ·rw [if_neg h1]
  by_cases h2:c=10
  ·rw [if_pos h2,decide_eq_true (by omega)]
  ·rw [if_neg h2]
   by_cases h3:c=13
   ·rw [if_pos h3,decide_eq_true (by omega)]
   ·rw [if_neg h3]
    have tail:chars_legal.j0 3 c false=some (decide ((57344≤c∧c≤65533)∨65536≤c)):=by
     simp only [chars_legal.j0]
     rw [if_neg (by decide)]
     by_cases h5:c ≥ 57344
     ·rw [if_pos h5]
      by_cases h6:c≤65533
      ·rw [chars_legal.j1,if_pos (decide_eq_true h6),decide_eq_true (by omega)]
      ·rw [chars_legal.j1,if_neg (by simpa using h6)]
       by_cases h7:c ≥ 65536
       ·rw [if_pos h7,decide_eq_true (by omega)]
       ·rw [if_neg h7,decide_eq_false (by omega)]
     ·rw [if_neg h5,chars_legal.j1,if_neg (by decide),if_neg (by omega),decide_eq_false (by omega)]
    by_cases h4:c ≥ 32
    ·rw [if_pos h4]
     by_cases h5:c≤55295
     ·rw [chars_legal.j0,if_pos (decide_eq_true h5),decide_eq_true (by omega)]
     ·rw [decide_eq_false h5,tail]
      congr 1
      rw [decide_eq_decide]
      omega
    ·rw [if_neg h4,tail]
     congr 1
     rw [decide_eq_decide]
     omega
def chars_Legal.g (s:ByteArray):Nat→Nat→Bool
 | 0,_=>true
 | k+1,pos=>if pos<s.size then(if chars_Legal.ok (Utf8.decode s pos).1=false then false else chars_Legal.g s k (pos+(Utf8.decode s pos).2)) else true
def chars_Legal.f (a0:ByteArray):Option Bool:=if a0.size≤9007199254740992 then(if chars_Legal.g a0 a0.size 0=true then chars_Valid.f a0 else some false) else none
theorem chars_Legal.g_bad (s:ByteArray) (k pos:Nat) (h:pos<s.size) (hd:chars_Legal.ok (Utf8.decode s pos).1=false):chars_Legal.g s (k+1) pos=false:=by
 rw [chars_Legal.g,if_pos h,if_pos hd]
theorem chars_Legal.g_on (s:ByteArray) (k pos:Nat) (h:pos<s.size) (hd:chars_Legal.ok (Utf8.decode s pos).1=true):chars_Legal.g s (k+1) pos=chars_Legal.g s k (pos+(Utf8.decode s pos).2):=by
 rw [chars_Legal.g,if_pos h,if_neg (by rw [hd];decide)]
theorem chars_Legal.g_end (s:ByteArray) (k pos:Nat) (h:¬ pos<s.size):chars_Legal.g s k pos=true:=by
 cases k with
 | zero=>rfl
 | succ k=>rw [chars_Legal.g,if_neg h]
theorem chars_Legal.calls (a0:ByteArray) (r:Bool) (w:World) (h:chars_Legal.f a0=some r) :
  Calls Tryd.prog 27 #[.string a0] w fun e w'=>e = .returned (.bool r)∧Below w.heap.size w w':=by
 unfold chars_Legal.f at h
 have hs:a0.size≤9007199254740992:=by
  by_cases c:a0.size≤9007199254740992
  ·exact c
  ·simp [c] at h
 rw [if_pos hs] at h
 have hR:Hid (∀ v,chars_Legal.g a0 a0.size 0=v→(v=true→chars_Valid.f a0=some r)∧(v=false→r=false)):=by
  refine Lib.hid fun v hv=>?_
  rw [hv] at h
  cases v
  ·exact⟨fun h_=>by simp at h_,fun _=>(Option.some.inj h).symm⟩
  ·exact⟨fun _=>h,fun h_=>by simp at h_⟩
 clear h
 go_enter Tryd.func27,Tryd.ntmps27
 go_wp2
 go_loopw [] (fun wr=>∃ (pos fuel:Nat),Hid (wr.heap[w.heap.size]? = some (.stringIter a0 pos)∧Below w.heap.size w wr∧chars_Legal.g a0 fuel pos=chars_Legal.g a0 a0.size 0∧a0.size≤pos+fuel)) (fun wr=>a0.size-wr.iterPos w.heap.size)
 case atStart=>
  refine⟨0,a0.size,Lib.hid ⟨?_,(Below.refl _ w).alloc (Nat.le_refl _) _,rfl,by omega⟩⟩
  exact World.iter_heap w a0 0
 case round=>
  obtain⟨pos,fuel,hI⟩:=hrel
  by_cases hp:pos<a0.size
  ·have hit:=hI.out.1
   have hnx:∀ ty,(Instr.next (.pointer (some ⟨w.heap.size,0,none⟩)) true ty).run Tryd.prog wr=_:=fun ty=>Lib.run_next_any_at wr w.heap.size a0 pos ty hit hp
   have hwd:=chars_Count.width_pos a0 pos hp
   have hB2:=Lib.below_iterAt hI.out.2.1 (k:=w.heap.size) (Nat.le_refl _) a0 (pos+(Utf8.decode a0 pos).2)
   have hit2:=Lib.iterAt_heap wr w.heap.size a0 pos (pos+(Utf8.decode a0 pos).2) hit
   obtain⟨W2,hW2⟩ : ∃ W2,wr.iterAt w.heap.size a0 (pos+(Utf8.decode a0 pos).2)=W2:=⟨_,rfl⟩
   rw [hW2] at hB2 hit2
   simp only [hW2] at hnx
   obtain⟨f,rfl⟩ : ∃ f,fuel=f+1:=⟨fuel-1,by have:=hI.out.2.2.2;omega⟩
   have hmeas:a0.size-W2.iterPos w.heap.size<a0.size-wr.iterPos w.heap.size:=by simp only [World.iterPos,hit2,hit];omega
   have hpos:=Lib.hid (And.intro hp hwd)
   have hkeep:=Lib.hid (And.intro hB2 (And.intro hit2 hmeas))
   have hfr:Hid (a0.size≤pos+(f+1)):=Lib.hid hI.out.2.2.2
   clear hW2 hB2 hit2 hmeas hwd hit hp
   obtain⟨o,ho⟩ : ∃ o,chars_Legal.ok (Utf8.decode a0 pos).1=o:=⟨_,rfl⟩
   have hok:=Lib.hid (chars_Legal.ok_eq (Utf8.decode a0 pos).1)
   rw [ho] at hok
   have ho':=Lib.hid ho
   clear ho
   cases o
   ·go_wp2_with (go_at_call 53;refine(chars_legal.calls 3 _ false _ hok.out).mono ?_;rintro e w9 ⟨rfl,⟨⟨nd,rfl⟩⟩⟩)
    go_ret
    have hr:=(hR.out false (hI.out.2.2.1.symm.trans (chars_Legal.g_bad a0 f pos hpos.out.1 ho'.out))).2 rfl
    subst hr
    exact⟨rfl,pw_below_drewN hkeep.out.1 _⟩
   ·go_wp2_with (go_at_call 53;refine(chars_legal.calls 3 _ true _ hok.out).mono ?_;rintro e w9 ⟨rfl,⟨⟨nd,rfl⟩⟩⟩)
    go_roundw
    case rel=>exact⟨pos+(Utf8.decode a0 pos).2,f,Lib.hid ⟨hkeep.out.2.1,pw_below_drewN hkeep.out.1 _,(chars_Legal.g_on a0 f pos hpos.out.1 ho'.out).symm.trans hI.out.2.2.1,by have:=hfr.out;have:=hpos.out.2;omega⟩⟩
    case measure=>exact hkeep.out.2.2
  ·have hnx:∀ ty,(Instr.next (.pointer (some ⟨w.heap.size,0,none⟩)) true ty).run Tryd.prog wr=_:=fun ty=>Lib.run_next_end_at wr w.heap.size a0 pos ty hI.out.1 hp
   have hv:=Lib.hid ((hR.out true (hI.out.2.2.1.symm.trans (chars_Legal.g_end a0 fuel pos hp))).1 rfl)
   go_wp2_with (go_at_call 54;refine(chars_Valid.calls _ r _ hv.out).mono ?_;rintro e w9 ⟨rfl,hb9⟩;have hb9':=Lib.hid hb9;clear hb9)
   go_ret
   exact⟨rfl,below_step hI.out.2.1 hb9'.out⟩
def stowageref3_Char.f (a0:Int):Option (Bool):=if a0=9 then(some true) else(if a0=10 then(some true) else(if a0=13 then(some true) else(if a0 ≥ 32 then(if a0≤55295 then(some true) else(if a0 ≥ 57344 then(if a0≤65533 then(some true) else(if a0 ≥ 65536 then(some (decide (a0≤1114111))) else(some false))) else(if a0 ≥ 65536 then(some (decide (a0≤1114111))) else(some false)))) else(if a0 ≥ 57344 then(if a0≤65533 then(some true) else(if a0 ≥ 65536 then(some (decide (a0≤1114111))) else(some false))) else(if a0 ≥ 65536 then(some (decide (a0≤1114111))) else(some false))))))
theorem stowageref3_Char.calls (a0:Int) (r:Bool) (w:World) (h:stowageref3_Char.f a0=some r) :
  Calls Tryd.prog 63 #[.int .i64 a0] w fun e w'=>e = .returned (.bool r)∧Drawn0 w w':=by
 unfold stowageref3_Char.f at h
 have H:=h
 clear h
 replace H:=itO H
 rcases H with⟨c2,H⟩|⟨c2,H⟩
 ·skip
  have c2b0:(a0 == 9)=true:=beq_iff_eq.mpr c2
  have c2b1:(a0 != 9)=false:=bne_eq_false_iff_eq.mpr c2
  clear c2
  obtain rfl:=Option.some.inj H
  go_enter Tryd.func63,Tryd.ntmps63
  go_wp2
  go_ret
  exact⟨by first|rfl|(simp;done)|(simp [*];done),by repeat (first|exact Drawn0.refl _|apply Drawn0.step)⟩
 ·skip
  have c2b0:(a0 == 9)=false:=beq_eq_false_iff_ne.mpr c2
  have c2b1:(a0 != 9)=true:=bne_iff_ne.mpr c2
  replace H:=itO H
  rcases H with⟨c3,H⟩|⟨c3,H⟩
  ·skip
   have c3b0:(a0 == 10)=true:=beq_iff_eq.mpr c3
   have c3b1:(a0 != 10)=false:=bne_eq_false_iff_eq.mpr c3
   clear c3
   obtain rfl:=Option.some.inj H
   go_enter Tryd.func63,Tryd.ntmps63
   go_wp2
   go_ret
   exact⟨by first|rfl|(simp;done)|(simp [*];done),by repeat (first|exact Drawn0.refl _|apply Drawn0.step)⟩
  ·skip
   have c3b0:(a0 == 10)=false:=beq_eq_false_iff_ne.mpr c3
   have c3b1:(a0 != 10)=true:=bne_iff_ne.mpr c3
   replace H:=itO H
   rcases H with⟨c4,H⟩|⟨c4,H⟩
   ·skip
    have c4b0:(a0 == 13)=true:=beq_iff_eq.mpr c4
    have c4b1:(a0 != 13)=false:=bne_eq_false_iff_eq.mpr c4
    clear c4
    obtain rfl:=Option.some.inj H
    go_enter Tryd.func63,Tryd.ntmps63
    go_wp2
    go_ret
    exact⟨by first|rfl|(simp;done)|(simp [*];done),by repeat (first|exact Drawn0.refl _|apply Drawn0.step)⟩
   ·skip
    have c4b0:(a0 == 13)=false:=beq_eq_false_iff_ne.mpr c4
    have c4b1:(a0 != 13)=true:=bne_iff_ne.mpr c4
    replace H:=itO H
    rcases H with⟨c5,H⟩|⟨c5,H⟩
    ·skip
     have c5b0:decide (32≤a0)=true:=decide_eq_true c5
     clear c5
     replace H:=itO H
     rcases H with⟨c6,H⟩|⟨c6,H⟩
     ·skip
      have c6b0:decide (a0≤55295)=true:=decide_eq_true c6
      clear c6
      obtain rfl:=Option.some.inj H
      go_enter Tryd.func63,Tryd.ntmps63
      go_wp2
      go_ret
      exact⟨by first|rfl|(simp;done)|(simp [*];done),by repeat (first|exact Drawn0.refl _|apply Drawn0.step)⟩
     ·skip
      have c6b0:decide (a0≤55295)=false:=decide_eq_false c6
      clear c6
      replace H:=itO H
      rcases H with⟨c7,H⟩|⟨c7,H⟩
      ·skip
       have c7b0:decide (57344≤a0)=true:=decide_eq_true c7
       clear c7
       replace H:=itO H
       rcases H with⟨c8,H⟩|⟨c8,H⟩
       ·skip
        have c8b0:decide (a0≤65533)=true:=decide_eq_true c8
        clear c8
        obtain rfl:=Option.some.inj H
        go_enter Tryd.func63,Tryd.ntmps63
        go_wp2
        go_ret
        exact⟨by first|rfl|(simp;done)|(simp [*];done),by repeat (first|exact Drawn0.refl _|apply Drawn0.step)⟩
       ·skip
        have c8b0:decide (a0≤65533)=false:=decide_eq_false c8
        clear c8
        replace H:=itO H
        rcases H with⟨c9,H⟩|⟨c9,H⟩
        ·skip
         have c9b0:decide (65536≤a0)=true:=decide_eq_true c9
         clear c9
         obtain rfl:=Option.some.inj H
         go_enter Tryd.func63,Tryd.ntmps63
         go_wp2
         go_ret
         exact⟨by first|rfl|(simp;done)|(simp [*];done),by repeat (first|exact Drawn0.refl _|apply Drawn0.step)⟩
        ·skip
         have c9b0:decide (65536≤a0)=false:=decide_eq_false c9
         clear c9
         obtain rfl:=Option.some.inj H
         go_enter Tryd.func63,Tryd.ntmps63
         go_wp2
         go_ret
         exact⟨by first|rfl|(simp;done)|(simp [*];done),by repeat (first|exact Drawn0.refl _|apply Drawn0.step)⟩
      ·skip
       have c7b0:decide (57344≤a0)=false:=decide_eq_false c7
       clear c7
       replace H:=itO H
       rcases H with⟨c10,H⟩|⟨c10,H⟩
       ·skip
        have c10b0:decide (65536≤a0)=true:=decide_eq_true c10
        clear c10
        obtain rfl:=Option.some.inj H
        go_enter Tryd.func63,Tryd.ntmps63
        go_wp2
        go_ret
        exact⟨by first|rfl|(simp;done)|(simp [*];done),by repeat (first|exact Drawn0.refl _|apply Drawn0.step)⟩
       ·skip
        have c10b0:decide (65536≤a0)=false:=decide_eq_false c10
        clear c10
        obtain rfl:=Option.some.inj H
        go_enter Tryd.func63,Tryd.ntmps63
        go_wp2
        go_ret
        exact⟨by first|rfl|(simp;done)|(simp [*];done),by repeat (first|exact Drawn0.refl _|apply Drawn0.step)⟩
    ·skip
     have c5b0:decide (32≤a0)=false:=decide_eq_false c5
     clear c5
     replace H:=itO H
     rcases H with⟨c11,H⟩|⟨c11,H⟩
     ·skip
      have c11b0:decide (57344≤a0)=true:=decide_eq_true c11
      clear c11
      replace H:=itO H
      rcases H with⟨c12,H⟩|⟨c12,H⟩
      ·skip
       have c12b0:decide (a0≤65533)=true:=decide_eq_true c12
       clear c12
       obtain rfl:=Option.some.inj H
       go_enter Tryd.func63,Tryd.ntmps63
       go_wp2
       go_ret
       exact⟨by first|rfl|(simp;done)|(simp [*];done),by repeat (first|exact Drawn0.refl _|apply Drawn0.step)⟩
      ·skip
       have c12b0:decide (a0≤65533)=false:=decide_eq_false c12
       clear c12
       replace H:=itO H
       rcases H with⟨c13,H⟩|⟨c13,H⟩
       ·skip
        have c13b0:decide (65536≤a0)=true:=decide_eq_true c13
        clear c13
        obtain rfl:=Option.some.inj H
        go_enter Tryd.func63,Tryd.ntmps63
        go_wp2
        go_ret
        exact⟨by first|rfl|(simp;done)|(simp [*];done),by repeat (first|exact Drawn0.refl _|apply Drawn0.step)⟩
       ·skip
        have c13b0:decide (65536≤a0)=false:=decide_eq_false c13
        clear c13
        obtain rfl:=Option.some.inj H
        go_enter Tryd.func63,Tryd.ntmps63
        go_wp2
        go_ret
        exact⟨by first|rfl|(simp;done)|(simp [*];done),by repeat (first|exact Drawn0.refl _|apply Drawn0.step)⟩
     ·skip
      have c11b0:decide (57344≤a0)=false:=decide_eq_false c11
      clear c11
      replace H:=itO H
      rcases H with⟨c14,H⟩|⟨c14,H⟩
      ·skip
       have c14b0:decide (65536≤a0)=true:=decide_eq_true c14
       clear c14
       obtain rfl:=Option.some.inj H
       go_enter Tryd.func63,Tryd.ntmps63
       go_wp2
       go_ret
       exact⟨by first|rfl|(simp;done)|(simp [*];done),by repeat (first|exact Drawn0.refl _|apply Drawn0.step)⟩
      ·skip
       have c14b0:decide (65536≤a0)=false:=decide_eq_false c14
       clear c14
       obtain rfl:=Option.some.inj H
       go_enter Tryd.func63,Tryd.ntmps63
       go_wp2
       go_ret
       exact⟨by first|rfl|(simp;done)|(simp [*];done),by repeat (first|exact Drawn0.refl _|apply Drawn0.step)⟩
def stowageref3_Legal.l0:Nat→ByteArray→Option (Bool)
 | 0,_=>none
 | k+1,x0=>if(x0.size:Int)>0 then((stowageref3_Step.f k x0).bind fun bt177=>(if bt177.2=0 then(some false) else((stowageref3_Char.f bt177.1).bind fun t179=>(if t179=true then(if 0≤bt177.2 then(if bt177.2≤(x0.size:Int) then(stowageref3_Legal.l0 k (x0.extract (bt177.2:Int).toNat x0.size)) else(none)) else(none)) else(some false))))) else(some true)
def stowageref3_Legal.f (k:Nat) (a0:ByteArray):Option (Bool):=stowageref3_Legal.l0 k a0
theorem stowageref3_Legal.mono_l:∀ k,(∀ y0,LeO (stowageref3_Legal.l0 k y0) (stowageref3_Legal.l0 (k+1) y0))
 | 0=>fun _ r h=>by simp [stowageref3_Legal.l0] at h
 | k+1=>by
  have ih0:=stowageref3_Legal.mono_l k
  ·intro y0
   unfold stowageref3_Legal.l0
   repeat' first
   | (with_reducible exact ih0 _)
   | (with_reducible exact stowageref3_Step.mono _ _)
   | (with_reducible exact LeO.refl _)
   | (with_reducible exact LeO.none _)
   | (with_reducible refine LeO.ite ?_ ?_)
   | (with_reducible refine LeO.bind ?_ (fun _=>?_))
   | exact ih0 _
   | exact stowageref3_Step.mono _ _
   | exact LeO.none _
   | refine LeO.ite ?_ ?_
   | refine LeO.bind ?_ (fun _=>?_)
theorem stowageref3_Legal.mono:∀ a0 k,LeO (stowageref3_Legal.f k a0) (stowageref3_Legal.f (k+1) a0):=by
 intro a0 k
 have ih0:=stowageref3_Legal.mono_l k
 unfold stowageref3_Legal.f
 repeat' first
   | (with_reducible exact ih0 _)
   | (with_reducible exact stowageref3_Step.mono _ _)
   | (with_reducible exact LeO.refl _)
   | (with_reducible exact LeO.none _)
   | (with_reducible refine LeO.ite ?_ ?_)
   | (with_reducible refine LeO.bind ?_ (fun _=>?_))
   | exact ih0 _
   | exact stowageref3_Step.mono _ _
   | exact LeO.none _
   | refine LeO.ite ?_ ?_
   | refine LeO.bind ?_ (fun _=>?_)
theorem stowageref3_Legal.calls (k:Nat) (a0:ByteArray) (r:Bool) (w:World) (h:stowageref3_Legal.f k a0=some r) :
  Calls Tryd.prog 31 #[.string a0] w fun e w'=>e = .returned (.bool r)∧Drawn0 w w':=by
 unfold stowageref3_Legal.f at h
 have H:=h
 clear h
 have H':=Aside0.mk H
 clear H
 go_enter Tryd.func31,Tryd.ntmps31
 go_wp2
 go_loopg [0] k (fun kq v0 w'=>∃ (x0_1:ByteArray),v0 = .string x0_1∧Aside0 (stowageref3_Legal.l0 kq x0_1=some r)∧Aside0 (kq≤k)∧Drawn0 w w')
 case atStart=>exact⟨(a0),(by first|rfl|(simp;done)|(simp [*];done)),H',⟨Nat.le_refl _⟩,by repeat (first|exact Drawn0.refl _|apply Drawn0.step)⟩
 case round=>
  clear H'
  obtain⟨x0_1,rfl,HA,HK1,⟨m1,rfl⟩⟩:=hrel
  cases gk with
  | zero=>exact absurd HA.out (by simp [stowageref3_Legal.l0])
  | succ k1=>
   have H:=HA.out
   clear HA
   simp only [stowageref3_Legal.l0] at H
   replace H:=itO H
   rcases H with⟨c2,H⟩|⟨c2,H⟩
   ·skip
    have c2b0:decide (0<(x0_1.size:Int))=true:=decide_eq_true c2
    have c2b1:decide (0<x0_1.size)=true:=decide_eq_true (by omega)
    clear c2
    replace H:=bndO H
    obtain⟨⟨t177,t178⟩,A30,H⟩:=H
    dsimp only at H
    have A3:=Aside0.mk A30
    clear A30
    replace H:=itO H
    rcases H with⟨c4,H⟩|⟨c4,H⟩
    ·skip
     have c4b0:(t178 == 0)=true:=beq_iff_eq.mpr c4
     have c4b1:(t178 != 0)=false:=bne_eq_false_iff_eq.mpr c4
     clear c4
     obtain rfl:=Option.some.inj H
     go_wp2_with (first|((with_reducible refine gate_callee (f:=62) rfl ?_);refine goesL_ (some 10) rfl rfl Tryd.func62 (by kernel_rfl) rfl #[.string x0_1] rfl (by(try simp only [List.map_toArray,List.map_cons,List.map_nil]);first|done|rfl|(simp only [List.length_drop,List.length_take];rfl)) ?_;(with_reducible refine(stowageref3_Step.calls k1 x0_1 t177 t178 _ A3.out).mono ?_);rintro e w' ⟨rfl,⟨nd,rfl⟩⟩;refine⟨_,rfl,?_⟩))
     go_ret
     exact⟨by first|rfl|(simp;done)|(simp [*];done),by repeat (first|exact Drawn0.refl _|apply Drawn0.step)⟩
    ·skip
     have c4b0:(t178 == 0)=false:=beq_eq_false_iff_ne.mpr c4
     have c4b1:(t178 != 0)=true:=bne_iff_ne.mpr c4
     replace H:=bndO H
     obtain⟨t179,A50,H⟩:=H
     have A5:=Aside0.mk A50
     clear A50
     by_cases c6:t179=true
     ·subst c6
      replace H:=itT H
      replace H:=itO H
      rcases H with⟨c7,H⟩|⟨c7,H⟩
      ·skip
       have c7b0:=eq_true c7
       have c7b1:=decide_eq_true c7
       clear c7
       replace H:=itO H
       rcases H with⟨c8,H⟩|⟨c8,H⟩
       ·skip
        have c8b0:=eq_true c8
        have c8b1:=decide_eq_true c8
        clear c8
        have H':=Aside0.mk H
        clear H
        go_wp2_with (first|((with_reducible refine gate_callee (f:=62) rfl ?_);refine goesL_ (some 10) rfl rfl Tryd.func62 (by kernel_rfl) rfl #[.string x0_1] rfl (by(try simp only [List.map_toArray,List.map_cons,List.map_nil]);first|done|rfl|(simp only [List.length_drop,List.length_take];rfl)) ?_;(with_reducible refine(stowageref3_Step.calls k1 x0_1 t177 t178 _ A3.out).mono ?_);rintro e w' ⟨rfl,⟨nd,rfl⟩⟩;refine⟨_,rfl,?_⟩)|(go_at_call 63;(with_reducible refine(stowageref3_Char.calls t177 true _ A5.out).mono ?_);rintro e w' ⟨rfl,⟨nd,rfl⟩⟩))
        go_roundg k1
        case measure=>have:=HK1.out;omega
        case rel=>exact⟨(x0_1.extract (t178:Int).toNat x0_1.size),(by first|rfl|(simp;done)|(simp [*];done)),H',⟨by have:=HK1.out;omega⟩,by repeat (first|exact Drawn0.refl _|apply Drawn0.step)⟩
       ·exact absurd H (by simp)
      ·exact absurd H (by simp)
     ·replace c6:=Bool.eq_false_iff.mpr c6
      subst c6
      replace H:=itF H
      obtain rfl:=Option.some.inj H
      go_wp2_with (first|((with_reducible refine gate_callee (f:=62) rfl ?_);refine goesL_ (some 10) rfl rfl Tryd.func62 (by kernel_rfl) rfl #[.string x0_1] rfl (by(try simp only [List.map_toArray,List.map_cons,List.map_nil]);first|done|rfl|(simp only [List.length_drop,List.length_take];rfl)) ?_;(with_reducible refine(stowageref3_Step.calls k1 x0_1 t177 t178 _ A3.out).mono ?_);rintro e w' ⟨rfl,⟨nd,rfl⟩⟩;refine⟨_,rfl,?_⟩)|(go_at_call 63;(with_reducible refine(stowageref3_Char.calls t177 false _ A5.out).mono ?_);rintro e w' ⟨rfl,⟨nd,rfl⟩⟩))
      go_ret
      exact⟨by first|rfl|(simp;done)|(simp [*];done),by repeat (first|exact Drawn0.refl _|apply Drawn0.step)⟩
   ·skip
    have c2b0:decide (0<(x0_1.size:Int))=false:=decide_eq_false c2
    have c2b1:decide (0<x0_1.size)=false:=decide_eq_false (by omega)
    clear c2
    obtain rfl:=Option.some.inj H
    go_wp2
    go_ret
    exact⟨by first|rfl|(simp;done)|(simp [*];done),by repeat (first|exact Drawn0.refl _|apply Drawn0.step)⟩
def xml_letter.f (a0:Int):Option (Bool):=if a0 ≥ 65 then(if a0≤90 then(some true) else(if a0 ≥ 97 then(if a0≤122 then(some true) else(some (a0 == 95))) else(some (a0 == 95)))) else(if a0 ≥ 97 then(if a0≤122 then(some true) else(some (a0 == 95))) else(some (a0 == 95)))
theorem xml_letter.calls (a0:Int) (r:Bool) (w:World) (h:xml_letter.f a0=some r) :
  Calls Tryd.prog 43 #[.int .u8 a0] w fun e w'=>e = .returned (.bool r)∧Drawn0 w w':=by
 unfold xml_letter.f at h
 have H:=h
 clear h
 replace H:=itO H
 rcases H with⟨c2,H⟩|⟨c2,H⟩
 ·skip
  have c2b0:decide (65≤a0)=true:=decide_eq_true c2
  clear c2
  replace H:=itO H
  rcases H with⟨c3,H⟩|⟨c3,H⟩
  ·skip
   have c3b0:decide (a0≤90)=true:=decide_eq_true c3
   clear c3
   obtain rfl:=Option.some.inj H
   go_enter Tryd.func43,Tryd.ntmps43
   go_wp2
   go_ret
   exact⟨by first|rfl|(simp;done)|(simp [*];done),by repeat (first|exact Drawn0.refl _|apply Drawn0.step)⟩
  ·skip
   have c3b0:decide (a0≤90)=false:=decide_eq_false c3
   clear c3
   replace H:=itO H
   rcases H with⟨c4,H⟩|⟨c4,H⟩
   ·skip
    have c4b0:decide (97≤a0)=true:=decide_eq_true c4
    clear c4
    replace H:=itO H
    rcases H with⟨c5,H⟩|⟨c5,H⟩
    ·skip
     have c5b0:decide (a0≤122)=true:=decide_eq_true c5
     clear c5
     obtain rfl:=Option.some.inj H
     go_enter Tryd.func43,Tryd.ntmps43
     go_wp2
     go_ret
     exact⟨by first|rfl|(simp;done)|(simp [*];done),by repeat (first|exact Drawn0.refl _|apply Drawn0.step)⟩
    ·skip
     have c5b0:decide (a0≤122)=false:=decide_eq_false c5
     clear c5
     obtain rfl:=Option.some.inj H
     go_enter Tryd.func43,Tryd.ntmps43
     go_wp2
     go_ret
     exact⟨by first|rfl|(simp;done)|(simp [*];done),by repeat (first|exact Drawn0.refl _|apply Drawn0.step)⟩
   ·skip
    have c4b0:decide (97≤a0)=false:=decide_eq_false c4
    clear c4
    obtain rfl:=Option.some.inj H
    go_enter Tryd.func43,Tryd.ntmps43
    go_wp2
    go_ret
    exact⟨by first|rfl|(simp;done)|(simp [*];done),by repeat (first|exact Drawn0.refl _|apply Drawn0.step)⟩
 ·skip
  have c2b0:decide (65≤a0)=false:=decide_eq_false c2
  clear c2
  replace H:=itO H
  rcases H with⟨c6,H⟩|⟨c6,H⟩
  ·skip
   have c6b0:decide (97≤a0)=true:=decide_eq_true c6
   clear c6
   replace H:=itO H
   rcases H with⟨c7,H⟩|⟨c7,H⟩
   ·skip
    have c7b0:decide (a0≤122)=true:=decide_eq_true c7
    clear c7
    obtain rfl:=Option.some.inj H
    go_enter Tryd.func43,Tryd.ntmps43
    go_wp2
    go_ret
    exact⟨by first|rfl|(simp;done)|(simp [*];done),by repeat (first|exact Drawn0.refl _|apply Drawn0.step)⟩
   ·skip
    have c7b0:decide (a0≤122)=false:=decide_eq_false c7
    clear c7
    obtain rfl:=Option.some.inj H
    go_enter Tryd.func43,Tryd.ntmps43
    go_wp2
    go_ret
    exact⟨by first|rfl|(simp;done)|(simp [*];done),by repeat (first|exact Drawn0.refl _|apply Drawn0.step)⟩
  ·skip
   have c6b0:decide (97≤a0)=false:=decide_eq_false c6
   clear c6
   obtain rfl:=Option.some.inj H
   go_enter Tryd.func43,Tryd.ntmps43
   go_wp2
   go_ret
   exact⟨by first|rfl|(simp;done)|(simp [*];done),by repeat (first|exact Drawn0.refl _|apply Drawn0.step)⟩
def xml_inner.f (a0:Int):Option (Bool):=(xml_letter.f a0).bind fun t110=>(if t110=true then(some true) else(if a0 ≥ 48 then(if a0≤57 then(some true) else(if a0=45 then(some true) else(some (a0 == 46)))) else(if a0=45 then(some true) else(some (a0 == 46)))))
theorem xml_inner.calls (a0:Int) (r:Bool) (w:World) (h:xml_inner.f a0=some r) :
  Calls Tryd.prog 42 #[.int .u8 a0] w fun e w'=>e = .returned (.bool r)∧Drawn0 w w':=by
 unfold xml_inner.f at h
 have H:=h
 clear h
 replace H:=bndO H
 obtain⟨t110,A20,H⟩:=H
 have A2:=Aside0.mk A20
 clear A20
 by_cases c3:t110=true
 ·subst c3
  replace H:=itT H
  obtain rfl:=Option.some.inj H
  go_enter Tryd.func42,Tryd.ntmps42
  go_wp2_with (first|((with_reducible refine gate_callee (f:=43) rfl ?_);refine goesL_ (some 4) rfl rfl Tryd.func43 (by kernel_rfl) rfl #[.int .u8 a0] rfl (by(try simp only [List.map_toArray,List.map_cons,List.map_nil]);first|done|rfl|(simp only [List.length_drop,List.length_take];rfl)) ?_;(with_reducible refine(xml_letter.calls a0 true _ A2.out).mono ?_);rintro e w' ⟨rfl,⟨nd,rfl⟩⟩;refine⟨_,rfl,?_⟩))
  go_ret
  exact⟨by first|rfl|(simp;done)|(simp [*];done),by repeat (first|exact Drawn0.refl _|apply Drawn0.step)⟩
 ·replace c3:=Bool.eq_false_iff.mpr c3
  subst c3
  replace H:=itF H
  replace H:=itO H
  rcases H with⟨c4,H⟩|⟨c4,H⟩
  ·skip
   have c4b0:decide (48≤a0)=true:=decide_eq_true c4
   clear c4
   replace H:=itO H
   rcases H with⟨c5,H⟩|⟨c5,H⟩
   ·skip
    have c5b0:decide (a0≤57)=true:=decide_eq_true c5
    clear c5
    obtain rfl:=Option.some.inj H
    go_enter Tryd.func42,Tryd.ntmps42
    go_wp2_with (first|((with_reducible refine gate_callee (f:=43) rfl ?_);refine goesL_ (some 4) rfl rfl Tryd.func43 (by kernel_rfl) rfl #[.int .u8 a0] rfl (by(try simp only [List.map_toArray,List.map_cons,List.map_nil]);first|done|rfl|(simp only [List.length_drop,List.length_take];rfl)) ?_;(with_reducible refine(xml_letter.calls a0 false _ A2.out).mono ?_);rintro e w' ⟨rfl,⟨nd,rfl⟩⟩;refine⟨_,rfl,?_⟩))
    go_ret
    exact⟨by first|rfl|(simp;done)|(simp [*];done),by repeat (first|exact Drawn0.refl _|apply Drawn0.step)⟩
   ·skip
    have c5b0:decide (a0≤57)=false:=decide_eq_false c5
    clear c5
    replace H:=itO H
    rcases H with⟨c6,H⟩|⟨c6,H⟩
    ·skip
     have c6b0:(a0 == 45)=true:=beq_iff_eq.mpr c6
     have c6b1:(a0 != 45)=false:=bne_eq_false_iff_eq.mpr c6
     clear c6
     obtain rfl:=Option.some.inj H
     go_enter Tryd.func42,Tryd.ntmps42
     go_wp2_with (first|((with_reducible refine gate_callee (f:=43) rfl ?_);refine goesL_ (some 4) rfl rfl Tryd.func43 (by kernel_rfl) rfl #[.int .u8 a0] rfl (by(try simp only [List.map_toArray,List.map_cons,List.map_nil]);first|done|rfl|(simp only [List.length_drop,List.length_take];rfl)) ?_;(with_reducible refine(xml_letter.calls a0 false _ A2.out).mono ?_);rintro e w' ⟨rfl,⟨nd,rfl⟩⟩;refine⟨_,rfl,?_⟩))
     go_ret
     exact⟨by first|rfl|(simp;done)|(simp [*];done),by repeat (first|exact Drawn0.refl _|apply Drawn0.step)⟩
    ·skip
     have c6b0:(a0 == 45)=false:=beq_eq_false_iff_ne.mpr c6
     have c6b1:(a0 != 45)=true:=bne_iff_ne.mpr c6
     obtain rfl:=Option.some.inj H
     go_enter Tryd.func42,Tryd.ntmps42
     go_wp2_with (first|((with_reducible refine gate_callee (f:=43) rfl ?_);refine goesL_ (some 4) rfl rfl Tryd.func43 (by kernel_rfl) rfl #[.int .u8 a0] rfl (by(try simp only [List.map_toArray,List.map_cons,List.map_nil]);first|done|rfl|(simp only [List.length_drop,List.length_take];rfl)) ?_;(with_reducible refine(xml_letter.calls a0 false _ A2.out).mono ?_);rintro e w' ⟨rfl,⟨nd,rfl⟩⟩;refine⟨_,rfl,?_⟩))
     go_ret
     exact⟨by first|rfl|(simp;done)|(simp [*];done),by repeat (first|exact Drawn0.refl _|apply Drawn0.step)⟩
  ·skip
   have c4b0:decide (48≤a0)=false:=decide_eq_false c4
   clear c4
   replace H:=itO H
   rcases H with⟨c7,H⟩|⟨c7,H⟩
   ·skip
    have c7b0:(a0 == 45)=true:=beq_iff_eq.mpr c7
    have c7b1:(a0 != 45)=false:=bne_eq_false_iff_eq.mpr c7
    clear c7
    obtain rfl:=Option.some.inj H
    go_enter Tryd.func42,Tryd.ntmps42
    go_wp2_with (first|((with_reducible refine gate_callee (f:=43) rfl ?_);refine goesL_ (some 4) rfl rfl Tryd.func43 (by kernel_rfl) rfl #[.int .u8 a0] rfl (by(try simp only [List.map_toArray,List.map_cons,List.map_nil]);first|done|rfl|(simp only [List.length_drop,List.length_take];rfl)) ?_;(with_reducible refine(xml_letter.calls a0 false _ A2.out).mono ?_);rintro e w' ⟨rfl,⟨nd,rfl⟩⟩;refine⟨_,rfl,?_⟩))
    go_ret
    exact⟨by first|rfl|(simp;done)|(simp [*];done),by repeat (first|exact Drawn0.refl _|apply Drawn0.step)⟩
   ·skip
    have c7b0:(a0 == 45)=false:=beq_eq_false_iff_ne.mpr c7
    have c7b1:(a0 != 45)=true:=bne_iff_ne.mpr c7
    obtain rfl:=Option.some.inj H
    go_enter Tryd.func42,Tryd.ntmps42
    go_wp2_with (first|((with_reducible refine gate_callee (f:=43) rfl ?_);refine goesL_ (some 4) rfl rfl Tryd.func43 (by kernel_rfl) rfl #[.int .u8 a0] rfl (by(try simp only [List.map_toArray,List.map_cons,List.map_nil]);first|done|rfl|(simp only [List.length_drop,List.length_take];rfl)) ?_;(with_reducible refine(xml_letter.calls a0 false _ A2.out).mono ?_);rintro e w' ⟨rfl,⟨nd,rfl⟩⟩;refine⟨_,rfl,?_⟩))
    go_ret
    exact⟨by first|rfl|(simp;done)|(simp [*];done),by repeat (first|exact Drawn0.refl _|apply Drawn0.step)⟩
def xml_Name.l0:Nat→ByteArray→Int→Int→Option (Bool)
  | 0,_,_,_=>none
  | k+1,x0,x5,x6=>if x6<x5 then(if 0≤x6 then(if x6<(x0.size:Int) then((xml_inner.f (bt x0 x6)).bind fun t111=>(if t111=true then(if x6=0 then((xml_letter.f (bt x0 x6)).bind fun t112=>(if t112=true then(xml_Name.l0 k x0 x5 (wrap64 (x6+1))) else(some false))) else(xml_Name.l0 k x0 x5 (wrap64 (x6+1)))) else(some false))) else(none)) else(none)) else(some (x0.toList != ([]:List UInt8)))
def xml_Name.f (k:Nat) (a0:ByteArray):Option (Bool):=xml_Name.l0 k a0 (a0.size:Int) 0
theorem xml_Name.mono_l:∀ k,(∀ y0 y1 y2,LeO (xml_Name.l0 k y0 y1 y2) (xml_Name.l0 (k+1) y0 y1 y2))
  | 0=>fun _ _ _ r h=>by simp [xml_Name.l0] at h
  | k+1=>by
    have ih0:=xml_Name.mono_l k
    · intro y0 y1 y2
      unfold xml_Name.l0
      with_reducible repeat' first|exact ih0 _ _ _|exact LeO.refl _|exact LeO.none _|refine LeO.ite ?_ ?_|refine LeO.bind ?_ (fun _=>?_)
theorem xml_Name.mono:∀ a0 k,LeO (xml_Name.f k a0) (xml_Name.f (k+1) a0):=by
 intro a0 k
 have ih0:=xml_Name.mono_l k
 unfold xml_Name.f
 with_reducible repeat' first|exact ih0 _ _ _|exact LeO.refl _|exact LeO.none _|refine LeO.ite ?_ ?_|refine LeO.bind ?_ (fun _=>?_)
theorem xml_Name.calls (k:Nat) (a0:ByteArray) (r:Bool) (w:World) (h:xml_Name.f k a0=some r) :
    Calls Tryd.prog 17 #[.string a0] w fun e w'=>e = .returned (.bool r)∧Drawn0 w w':=by
 unfold xml_Name.f at h
 have H:=h
 clear h
 have H':=Aside0.mk H
 clear H
 go_enter Tryd.func17,Tryd.ntmps17
 go_wp2
 go_loopg [6] k (fun kq v6 w'=>∃ (x6_1:Int),v6 = .int .i64 x6_1∧Aside0 (xml_Name.l0 kq a0 (a0.size:Int) x6_1=some r)∧Aside0 (kq≤k)∧Drawn0 w w')
 case atStart=>exact⟨(0),(by first|rfl|(cases a0.toList <;> rfl)|(simp;done)|(simp [*];done)),H',⟨Nat.le_refl _⟩,by repeat (first|exact Drawn0.refl _|apply Drawn0.step)⟩
 case round=>
  clear H'
  obtain⟨x6_1,rfl,HA,HK1,⟨m1,rfl⟩⟩:=hrel
  cases gk with
  | zero=>exact absurd HA.out (by simp [xml_Name.l0])
  | succ k1=>
   have H:=HA.out
   clear HA
   simp only [xml_Name.l0] at H
   replace H:=itO H
   rcases H with⟨c2,H⟩|⟨c2,H⟩
   {
   have c2b0:decide (x6_1<(a0.size:Int))=true:=decide_eq_true c2
   clear c2
   replace H:=itO H
   rcases H with⟨c3,H⟩|⟨c3,H⟩
   {
   have c3b0:decide (0≤x6_1)=true:=decide_eq_true c3
   clear c3
   replace H:=itO H
   rcases H with⟨c4,H⟩|⟨c4,H⟩
   {
   have c4b0:decide (x6_1<(a0.size:Int))=true:=decide_eq_true c4
   clear c4
   replace H:=bndO H
   obtain⟨t111,A60,H⟩:=H
   have A6:=Aside0.mk A60
   clear A60
   by_cases c7:t111=true
   {
   subst c7
   replace H:=itT H
   replace H:=itO H
   rcases H with⟨c8,H⟩|⟨c8,H⟩
   {
   have c8b0:(x6_1 == 0)=true:=beq_iff_eq.mpr c8
   have c8b1:(x6_1 != 0)=false:=bne_eq_false_iff_eq.mpr c8
   clear c8
   replace H:=bndO H
   obtain⟨t112,A100,H⟩:=H
   have A10:=Aside0.mk A100
   clear A100
   by_cases c11:t112=true
   {
   subst c11
   replace H:=itT H
   have H':=Aside0.mk H
   clear H
   have p5:0≤(x6_1:Int):=of_decide_eq_true asm
   have q5:x6_1<(a0.size:Int):=of_decide_eq_true asm
   have hx5:=bt_at a0 x6_1
   replace p5:=eq_true p5
   replace q5:=eq_true q5
   go_wp2_with (first|((with_reducible refine gate_callee (f:=42) rfl ?_);refine goesL_ (some 12) rfl rfl Tryd.func42 kr rfl #[.int .u8 (bt a0 x6_1)] rfl am ?_;(with_reducible refine(xml_inner.calls (bt a0 x6_1) true _ A6.out).mono ?_);rintro e w' ⟨rfl,⟨nd,rfl⟩⟩;refine⟨_,rfl,?_⟩;have p9:0≤(x6_1:Int):=of_decide_eq_true asm;have q9:x6_1<(a0.size:Int):=of_decide_eq_true asm;have hx9:=bt_at a0 x6_1;replace p9:=eq_true p9;replace q9:=eq_true q9)|(go_at_call 43;(with_reducible refine(xml_letter.calls (bt a0 x6_1) true _ A10.out).mono ?_);rintro e w' ⟨rfl,⟨nd,rfl⟩⟩))
   go_roundg k1
   case measure=>have:=HK1.out;omega
   case rel=>exact⟨(wrap64 (x6_1+1)),(by first|rfl|(cases a0.toList <;> rfl)|(simp;done)|(simp [*];done)),H',⟨by have:=HK1.out;omega⟩,by repeat (first|exact Drawn0.refl _|apply Drawn0.step)⟩
   }
   {
   replace c11:=Bool.eq_false_iff.mpr c11
   subst c11
   replace H:=itF H
   obtain rfl:=Option.some.inj H
   have p5:0≤(x6_1:Int):=of_decide_eq_true asm
   have q5:x6_1<(a0.size:Int):=of_decide_eq_true asm
   have hx5:=bt_at a0 x6_1
   replace p5:=eq_true p5
   replace q5:=eq_true q5
   go_wp2_with (first|((with_reducible refine gate_callee (f:=42) rfl ?_);refine goesL_ (some 12) rfl rfl Tryd.func42 kr rfl #[.int .u8 (bt a0 x6_1)] rfl am ?_;(with_reducible refine(xml_inner.calls (bt a0 x6_1) true _ A6.out).mono ?_);rintro e w' ⟨rfl,⟨nd,rfl⟩⟩;refine⟨_,rfl,?_⟩;have p9:0≤(x6_1:Int):=of_decide_eq_true asm;have q9:x6_1<(a0.size:Int):=of_decide_eq_true asm;have hx9:=bt_at a0 x6_1;replace p9:=eq_true p9;replace q9:=eq_true q9)|(go_at_call 43;(with_reducible refine(xml_letter.calls (bt a0 x6_1) false _ A10.out).mono ?_);rintro e w' ⟨rfl,⟨nd,rfl⟩⟩))
   go_ret
   exact⟨by first|rfl|(cases a0.toList <;> rfl)|(simp;done)|(simp [*];done),by repeat (first|exact Drawn0.refl _|apply Drawn0.step)⟩
   }
   }
   {
   have c8b0:(x6_1 == 0)=false:=beq_eq_false_iff_ne.mpr c8
   have c8b1:(x6_1 != 0)=true:=bne_iff_ne.mpr c8
   have H':=Aside0.mk H
   clear H
   have p5:0≤(x6_1:Int):=of_decide_eq_true asm
   have q5:x6_1<(a0.size:Int):=of_decide_eq_true asm
   have hx5:=bt_at a0 x6_1
   replace p5:=eq_true p5
   replace q5:=eq_true q5
   go_wp2_with (first|((with_reducible refine gate_callee (f:=42) rfl ?_);refine goesL_ (some 12) rfl rfl Tryd.func42 kr rfl #[.int .u8 (bt a0 x6_1)] rfl am ?_;(with_reducible refine(xml_inner.calls (bt a0 x6_1) true _ A6.out).mono ?_);rintro e w' ⟨rfl,⟨nd,rfl⟩⟩;refine⟨_,rfl,?_⟩))
   go_roundg k1
   case measure=>have:=HK1.out;omega
   case rel=>exact⟨(wrap64 (x6_1+1)),(by first|rfl|(cases a0.toList <;> rfl)|(simp;done)|(simp [*];done)),H',⟨by have:=HK1.out;omega⟩,by repeat (first|exact Drawn0.refl _|apply Drawn0.step)⟩
   }
   }
   {
   replace c7:=Bool.eq_false_iff.mpr c7
   subst c7
   replace H:=itF H
   obtain rfl:=Option.some.inj H
   have p5:0≤(x6_1:Int):=of_decide_eq_true asm
   have q5:x6_1<(a0.size:Int):=of_decide_eq_true asm
   have hx5:=bt_at a0 x6_1
   replace p5:=eq_true p5
   replace q5:=eq_true q5
   go_wp2_with (first|((with_reducible refine gate_callee (f:=42) rfl ?_);refine goesL_ (some 12) rfl rfl Tryd.func42 kr rfl #[.int .u8 (bt a0 x6_1)] rfl am ?_;(with_reducible refine(xml_inner.calls (bt a0 x6_1) false _ A6.out).mono ?_);rintro e w' ⟨rfl,⟨nd,rfl⟩⟩;refine⟨_,rfl,?_⟩))
   go_ret
   exact⟨by first|rfl|(cases a0.toList <;> rfl)|(simp;done)|(simp [*];done),by repeat (first|exact Drawn0.refl _|apply Drawn0.step)⟩
   }
   }
   ·exact absurd H (by simp)
   }
   ·exact absurd H (by simp)
   }
   {
   have c2b0:decide (x6_1<(a0.size:Int))=false:=decide_eq_false c2
   clear c2
   obtain rfl:=Option.some.inj H
   go_wp2
   go_ret
   exact⟨by first|rfl|(cases a0.toList <;> rfl)|(simp;done)|(simp [*];done),by repeat (first|exact Drawn0.refl _|apply Drawn0.step)⟩
   }
mutual
def xml_may.j0:Nat→Int→Bool→ByteArray→ByteArray→List (S24)→Option (Bool)
  | 0,_,_,_,_,_=>none
  | k+1,x1,x31,x122000,x122001,x122002=>if x31=true then(some false) else(xml_may.l0 k x1 x122002 (x122002.length:Int) 0)
def xml_may.l0:Nat→Int→List (S24)→Int→Int→Option (Bool)
  | 0,_,_,_,_=>none
  | k+1,x1,x33,x34,x35=>if x35<x34 then(if 0≤x35 then(if x35<(x33.length:Int) then((xml_may.f k ((rd_T24 x33 x35).f0) ((rd_T24 x33 x35).f1) ((rd_T24 x33 x35).f2) (wrap64 (x1+1))).bind fun t126=>(if t126=true then(xml_may.l0 k x1 x33 x34 (wrap64 (x35+1))) else(some false))) else(none)) else(none)) else(some true)
def xml_may.f:Nat→ByteArray→ByteArray→List (S24)→Int→Option (Bool)
  | 0,_,_,_,_=>none
  | k+1,a0_0,a0_1,l0_2,a1=>if a1>16 then(xml_may.j0 k a1 true a0_0 a0_1 l0_2) else((xml_Name.f k a0_0).bind fun t122=>(if t122=true then((chars_Legal.f a0_1).bind fun t123=>(if t123=true then(if a0_1.toList=([]:List UInt8) then(xml_may.j0 k a1 false a0_0 a0_1 l0_2) else(xml_may.j0 k a1 (decide ((l0_2.length:Int)>0)) a0_0 a0_1 l0_2)) else(xml_may.j0 k a1 true a0_0 a0_1 l0_2))) else(xml_may.j0 k a1 true a0_0 a0_1 l0_2)))
end
theorem xml_may.mono_l:∀ k,(∀ y0 y1 y2 y3,LeO (xml_may.f k y0 y1 y2 y3) (xml_may.f (k+1) y0 y1 y2 y3))∧(∀ y0 y1 y2 y3 y4,LeO (xml_may.j0 k y0 y1 y2 y3 y4) (xml_may.j0 (k+1) y0 y1 y2 y3 y4))∧(∀ y0 y1 y2 y3,LeO (xml_may.l0 k y0 y1 y2 y3) (xml_may.l0 (k+1) y0 y1 y2 y3))
  | 0=>⟨fun _ _ _ _ r h=>by simp [xml_may.f] at h,fun _ _ _ _ _ r h=>by simp [xml_may.j0] at h,fun _ _ _ _ r h=>by simp [xml_may.l0] at h⟩
  | k+1=>by
    obtain⟨ih0,ih1,ih2⟩:=xml_may.mono_l k
    refine⟨?_,?_,?_⟩
    · intro y0 y1 y2 y3
      unfold xml_may.f
      with_reducible repeat' first|exact ih0 _ _ _ _|exact ih1 _ _ _ _ _|exact ih2 _ _ _ _|exact xml_Name.mono _ _|exact LeO.refl _|exact LeO.none _|refine LeO.ite ?_ ?_|refine LeO.bind ?_ (fun _=>?_)
    · intro y0 y1 y2 y3 y4
      unfold xml_may.j0
      with_reducible repeat' first|exact ih0 _ _ _ _|exact ih1 _ _ _ _ _|exact ih2 _ _ _ _|exact xml_Name.mono _ _|exact LeO.refl _|exact LeO.none _|refine LeO.ite ?_ ?_|refine LeO.bind ?_ (fun _=>?_)
    · intro y0 y1 y2 y3
      unfold xml_may.l0
      with_reducible repeat' first|exact ih0 _ _ _ _|exact ih1 _ _ _ _ _|exact ih2 _ _ _ _|exact xml_Name.mono _ _|exact LeO.refl _|exact LeO.none _|refine LeO.ite ?_ ?_|refine LeO.bind ?_ (fun _=>?_)
theorem xml_may.mono:∀ a0 a1 a2 a3 k,LeO (xml_may.f k a0 a1 a2 a3) (xml_may.f (k+1) a0 a1 a2 a3):=by
 intro a0 a1 a2 a3 k
 obtain⟨ih0,ih1,ih2⟩:=xml_may.mono_l k
 exact ih0 a0 a1 a2 a3
theorem xml_may.calls (k:Nat):∀ (a0_0:ByteArray) (a0_1:ByteArray) (A0_2:Option Addr) (c0_2:Nat) (l0_2:List (S24)) (a1:Int) (r:Bool) (w:World) (hr0_2:Kd.C k24 w A0_2 l0_2.length l0_2) (hc0_2:l0_2.length≤c0_2) (h:xml_may.f k a0_0 a0_1 l0_2 a1=some r),
    Calls Tryd.prog 47 #[.agg #[.string a0_0,.string a0_1,.slice A0_2 l0_2.length c0_2],.int .i64 a1] w fun e w'=>e = .returned (.bool r)∧Below w.heap.size w w':=by
 induction k using Nat.strongRecOn with
 | _ k ih=>
 intro a0_0 a0_1 A0_2 c0_2 l0_2 a1 r w hr0_2 hc0_2 h
 cases k with
 | zero=>exact absurd h (by simp [xml_may.f])
 | succ k=>
 simp only [xml_may.f] at h
 have hu24:=Tryd.underlying24
 have HR0_2:=Aside0.mk hr0_2
 have HC0_2:=Aside0.mk hc0_2
 clear hr0_2 hc0_2
 have HB:=Aside0.mk (Below.refl w.heap.size w)
 have H:(if a1>16 then(xml_may.j0 k a1 true a0_0 a0_1 l0_2) else((xml_Name.f k a0_0).bind fun t122=>(if t122=true then((chars_Legal.f a0_1).bind fun t123=>(if t123=true then(if a0_1.toList=([]:List UInt8) then(xml_may.j0 k a1 false a0_0 a0_1 l0_2) else(xml_may.j0 k a1 (decide ((l0_2.length:Int)>0)) a0_0 a0_1 l0_2)) else(xml_may.j0 k a1 true a0_0 a0_1 l0_2))) else(xml_may.j0 k a1 true a0_0 a0_1 l0_2))))=some r:=h
 clear h
 have HC3:=Aside0.mk H
 clear H
 go_enter Tryd.func47,Tryd.ntmps47
 go_upto_region 1 with(first|((with_reducible refine gate_dst (N:=2) rfl ?_);(try (refine gate_guard (by rfl) ?_;dsimp only));refine box_event ?hg (N:=2) ?hd (cs:=#[.string a0_0,.string a0_1,.slice A0_2 l0_2.length c0_2]) (t:=24) ?hr ?_;(case hd=>rfl);(case hg=>rfl);(case hr=>first|(go_simp;done)|(go_simp;rfl));intro gb121 hg w4 hbox hb;have n0_:=Aside0.mk (below_step bl hb);have n1_:=Aside0.mk (hbox);have n2_:=Aside0.mk ((by rw [hg];exact(below_size bl):w.heap.size≤gb121));have n3_:=Aside0.mk ((by rw [hg];exact(below_size bl):w.heap.size≤gb121));clear HB;have HB:=n0_;have BK121:=n1_;have GW121:=n2_;have GE121:=n3_;clear n0_ n1_ n2_ n3_;clear hb hbox hg))
 (try simp only [Act.put,l1,l2,l3])
 go_cut [31] (fun v31 wc=>∃ (kq:Nat) (x31_2:Bool),v31 = .bool x31_2∧Aside0 (xml_may.j0 kq a1 x31_2 a0_0 a0_1 l0_2=some r)∧Aside0 (kq≤k)∧Aside0 (wc.heap[gb121]? = some (.cells #[.string a0_0,.string a0_1,(.slice A0_2 l0_2.length c0_2)] 24 (0,0)))∧Aside0 (Below w.heap.size w wc))
 case first=>
  have H:=HC3.out
  clear HC3
  replace H:=itO H
  rcases H with⟨c5,H⟩|⟨c5,H⟩
  {
  have c5b0:decide (16<a1)=true:=decide_eq_true c5
  clear c5
  (first|rw [c5b0]|(simp only [i64_w,i32_w];rw [c5b0])|skip)
  have H':=Aside0.mk H
  clear H
  go_wp2
  go_meet
  case rel=>exact⟨_,(true),rs,H',⟨by first|omega|exact Nat.le_refl _⟩,⟨kl⟩,⟨bl⟩⟩
  }
  {
  have c5b0:decide (16<a1)=false:=decide_eq_false c5
  clear c5
  (first|rw [c5b0]|(simp only [i64_w,i32_w];rw [c5b0])|skip)
  replace H:=bndO H
  obtain⟨t122,A60,H⟩:=H
  have A6:=Aside0.mk A60
  clear A60
  by_cases c7:t122=true
  {
  subst c7
  replace H:=itT H
  replace H:=bndO H
  obtain⟨t123,A80,H⟩:=H
  have A8:=Aside0.mk A80
  clear A80
  by_cases c9:t123=true
  {
  subst c9
  replace H:=itT H
  replace H:=itO H
  rcases H with⟨c10,H⟩|⟨c10,H⟩
  {
  have c10b0:(a0_1.toList == ([]:List UInt8))=true:=beq_iff_eq.mpr c10
  have c10b1:(a0_1.toList != ([]:List UInt8))=false:=bne_eq_false_iff_eq.mpr c10
  clear c10
  have H':=Aside0.mk H
  clear H
  obtain⟨_,_,_,_,_,_⟩:=bc3 BK121.out
  go_wp2_with (first|(go_at_call 17;(with_reducible refine(xml_Name.calls k a0_0 true _ A6.out).mono ?_);rintro e w' ⟨rfl,⟨nd,rfl⟩⟩)|(go_at_call 27;(with_reducible refine(chars_Legal.calls a0_1 true _ A8.out).mono ?_);rintro e w12 ⟨rfl,hb⟩;have n0_:=Aside0.mk (blk_below (g:=gb121) (o:=.cells #[.string a0_0,.string a0_1,.slice A0_2 l0_2.length c0_2] 24 (0,0)) kl hb);have n1_:=Aside0.mk (below_step bl hb);clear BK121;clear HB;have BK121:=n0_;have HB:=n1_;clear n0_ n1_;obtain⟨_,_,_,_,_,_⟩:=bc3 BK121.out))
  go_meet
  case rel=>exact⟨_,(false),rs,H',⟨by first|omega|exact Nat.le_refl _⟩,⟨kl⟩,⟨bl⟩⟩
  }
  {
  have c10b0:(a0_1.toList == ([]:List UInt8))=false:=beq_eq_false_iff_ne.mpr c10
  have c10b1:(a0_1.toList != ([]:List UInt8))=true:=bne_iff_ne.mpr c10
  have H':=Aside0.mk H
  clear H
  obtain⟨_,_,_,_,_,_⟩:=bc3 BK121.out
  go_wp2_with (first|(go_at_call 17;(with_reducible refine(xml_Name.calls k a0_0 true _ A6.out).mono ?_);rintro e w' ⟨rfl,⟨nd,rfl⟩⟩)|(go_at_call 27;(with_reducible refine(chars_Legal.calls a0_1 true _ A8.out).mono ?_);rintro e w15 ⟨rfl,hb⟩;have n0_:=Aside0.mk (blk_below (g:=gb121) (o:=.cells #[.string a0_0,.string a0_1,.slice A0_2 l0_2.length c0_2] 24 (0,0)) kl hb);have n1_:=Aside0.mk (below_step bl hb);clear BK121;clear HB;have BK121:=n0_;have HB:=n1_;clear n0_ n1_;obtain⟨_,_,_,_,_,_⟩:=bc3 BK121.out))
  go_meet
  case rel=>exact⟨_,(decide ((l0_2.length:Int)>0)),rs,H',⟨by first|omega|exact Nat.le_refl _⟩,⟨kl⟩,⟨bl⟩⟩
  }
  }
  {
  replace c9:=Bool.eq_false_iff.mpr c9
  subst c9
  replace H:=itF H
  have H':=Aside0.mk H
  clear H
  obtain⟨_,_,_,_,_,_⟩:=bc3 BK121.out
  go_wp2_with (first|(go_at_call 17;(with_reducible refine(xml_Name.calls k a0_0 true _ A6.out).mono ?_);rintro e w' ⟨rfl,⟨nd,rfl⟩⟩)|(go_at_call 27;(with_reducible refine(chars_Legal.calls a0_1 false _ A8.out).mono ?_);rintro e w18 ⟨rfl,hb⟩;have n0_:=Aside0.mk (blk_below (g:=gb121) (o:=.cells #[.string a0_0,.string a0_1,.slice A0_2 l0_2.length c0_2] 24 (0,0)) kl hb);have n1_:=Aside0.mk (below_step bl hb);clear BK121;clear HB;have BK121:=n0_;have HB:=n1_;clear n0_ n1_))
  go_meet
  case rel=>exact⟨_,(true),rs,H',⟨by first|omega|exact Nat.le_refl _⟩,⟨kl⟩,⟨bl⟩⟩
  }
  }
  {
  replace c7:=Bool.eq_false_iff.mpr c7
  subst c7
  replace H:=itF H
  have H':=Aside0.mk H
  clear H
  obtain⟨_,_,_,_,_,_⟩:=bc3 BK121.out
  go_wp2_with (first|(go_at_call 17;(with_reducible refine(xml_Name.calls k a0_0 false _ A6.out).mono ?_);rintro e w' ⟨rfl,⟨nd,rfl⟩⟩))
  go_meet
  case rel=>exact⟨_,(true),rs,H',⟨by first|omega|exact Nat.le_refl _⟩,⟨kl⟩,⟨bl⟩⟩
  }
  }
 case rest=>
  clear HC3
  obtain⟨kq,x31_2,rfl,HA,HJ2,BK121,HB⟩:=hcut
  cases kq with
  | zero=>exact absurd HA.out (by simp [xml_may.j0])
  | succ kj2=>
   have H:=HA.out
   clear HA
   simp only [xml_may.j0] at H
   by_cases c20:x31_2=true
   {
   subst c20
   replace H:=itT H
   obtain rfl:=Option.some.inj H
   go_wp2
   go_ret
   exact⟨ew,bl⟩
   }
   {
   replace c20:=Bool.eq_false_iff.mpr c20
   subst c20
   replace H:=itF H
   have H':=Aside0.mk H
   clear H
   obtain⟨_,_,_,_,_,_⟩:=bc3 BK121.out
   go_wp2
   go_loopg [35] kj2 (fun kq v35 w'=>∃ (x35_2:Int),v35 = .int .i64 x35_2∧Aside0 (xml_may.l0 kq a1 l0_2 (l0_2.length:Int) x35_2=some r)∧Aside0 (kq≤kj2)∧Aside0 (w'.heap[gb121]? = some (.cells #[.string a0_0,.string a0_1,(.slice A0_2 l0_2.length c0_2)] 24 (0,0)))∧Aside0 (Below w.heap.size w w'))
   case atStart=>exact⟨(0),rs,H',⟨Nat.le_refl _⟩,⟨kl⟩,⟨bl⟩⟩
   case round=>
    clear H'
    obtain⟨x35_2,rfl,HA,HK2,BK121,HB⟩:=hrel
    cases gk with
    | zero=>exact absurd HA.out (by simp [xml_may.l0])
    | succ k2=>
     have H:=HA.out
     clear HA
     simp only [xml_may.l0] at H
     replace H:=itO H
     rcases H with⟨c22,H⟩|⟨c22,H⟩
     {
     have c22b0:decide (x35_2<(l0_2.length:Int))=true:=decide_eq_true c22
     clear c22
     replace H:=itO H
     rcases H with⟨c23,H⟩|⟨c23,H⟩
     {
     have c23b0:decide (0≤x35_2)=true:=decide_eq_true c23
     clear c23
     replace H:=itO H
     rcases H with⟨c24,H⟩|⟨c24,H⟩
     {
     have c24b0:decide (x35_2<(l0_2.length:Int))=true:=decide_eq_true c24
     clear c24
     replace H:=bndO H
     obtain⟨t126,A250,H⟩:=H
     have A25:=Aside0.mk A250
     clear A250
     by_cases c26:t126=true
     {
     subst c26
     replace H:=itT H
     have H':=Aside0.mk H
     clear H
     have p124:0≤(x35_2:Int):=of_decide_eq_true asm
     have q124:x35_2<(l0_2.length:Int):=of_decide_eq_true asm
     obtain⟨ad124,A124_2,c124_2,e124,hx124_0,hx124_1,hx124_2,hl124_2,hi124_2⟩:=at_T24 HR0_2.out x35_2 p124 q124
     cases e124
     replace hx124_0:=(HB.out.cell (World.block_lt_of_cell? w _ hx124_0)).trans hx124_0
     replace hx124_1:=(HB.out.cell (World.block_lt_of_cell? w _ hx124_1)).trans hx124_1
     replace hx124_2:=(HB.out.cell (World.block_lt_of_cell? w _ hx124_2)).trans hx124_2
     have HR124_2:=Aside0.mk hi124_2
     have HC124_2:=Aside0.mk hl124_2
     clear hi124_2 hl124_2
     replace p124:=eq_true p124
     replace q124:=eq_true q124
     go_wp2_with (first|((with_reducible refine gate_dst (N:=6) rfl ?_);(try (refine gate_guard (by rfl) ?_;dsimp only));refine box_event ?hg (N:=6) ?hd (cs:=#[.string (⟨#[]⟩ : ByteArray),.string (⟨#[]⟩ : ByteArray),.slice none 0 0]) (t:=24) ?hr ?_;(case hd=>rfl);(case hg=>rfl);(case hr=>first|(go_simp;done)|(go_simp;rfl));intro gb125 hg w27 hbox hb;have n0_:=Aside0.mk (blk_below (g:=gb121) (o:=.cells #[.string a0_0,.string a0_1,.slice (some ad124) l0_2.length c0_2] 24 (0,0)) kl hb);have n1_:=Aside0.mk (below_step bl hb);have n2_:=Aside0.mk (hbox);have n3_:=Aside0.mk ((by rw [hg];exact(below_size bl):w.heap.size≤gb125));have n4_:=Aside0.mk ((by rw [hg];exact(below_size bl):w.heap.size≤gb125));have n5_:=Aside0.mk ((by rw [hg];exact Nat.ne_of_lt (blk_lt (g:=gb121) (o:=.cells #[.string a0_0,.string a0_1,.slice (some ad124) l0_2.length c0_2] 24 (0,0)) kl):gb121≠gb125));have n6_:=Aside0.mk ((by rw [hg];exact Nat.ne_of_gt (blk_lt (g:=gb121) (o:=.cells #[.string a0_0,.string a0_1,.slice (some ad124) l0_2.length c0_2] 24 (0,0)) kl):gb125≠gb121));clear BK121;clear HB;have BK121:=n0_;have HB:=n1_;have BK125:=n2_;have GW125:=n3_;have GE125:=n4_;have NB121_125:=n5_;have NB125_121:=n6_;clear n0_ n1_ n2_ n3_ n4_ n5_ n6_;clear hb hbox hg;have hnb28:=NB125_121.out;have hnc28:=NB121_125.out;obtain⟨_,_,_,_,_,_⟩:=bc3 BK125.out)|((with_reducible refine gate_callee (f:=47) rfl ?_);refine goesL_ (some 42) rfl rfl Tryd.func47 kr rfl #[.agg #[.string ((rd_T24 l0_2 x35_2).f0),.string ((rd_T24 l0_2 x35_2).f1),.slice A124_2 ((rd_T24 l0_2 x35_2).f2).length c124_2],.int .i64 (wrap64 (a1+1))] rfl am ?_;(with_reducible refine(ih k2 (by have:=HJ2.out;have:=HK2.out;omega) ((rd_T24 l0_2 x35_2).f0) ((rd_T24 l0_2 x35_2).f1) _ _ ((rd_T24 l0_2 x35_2).f2) (wrap64 (a1+1)) true _ ?side1 ?side2 A25.out).mono ?_);(case side1=>exact Kd.C_below HR124_2.out bl);(case side2=>exact HC124_2.out);rintro e w30 ⟨rfl,hb⟩;refine⟨_,rfl,?_⟩;have n0_:=Aside0.mk (blk_below (g:=gb121) (o:=.cells #[.string a0_0,.string a0_1,.slice (some ad124) l0_2.length c0_2] 24 (0,0)) (by(with_reducible repeat (first|refine blk_drewN ?_ _|refine blk_drew ?_|refine blk_alloc ?_ _));refine blk_far ?_ NB121_125.out _;(with_reducible repeat (first|refine blk_drewN ?_ _|refine blk_drew ?_|refine blk_alloc ?_ _));refine blk_far ?_ NB121_125.out _;(with_reducible repeat (first|refine blk_drewN ?_ _|refine blk_drew ?_|refine blk_alloc ?_ _));refine blk_far ?_ NB121_125.out _;(with_reducible repeat (first|refine blk_drewN ?_ _|refine blk_drew ?_|refine blk_alloc ?_ _));exact BK121.out) hb);have n1_:=Aside0.mk (blk_below (g:=gb125) (o:=.cells #[.string ((rd_T24 l0_2 x35_2).f0),.string ((rd_T24 l0_2 x35_2).f1),.slice A124_2 ((rd_T24 l0_2 x35_2).f2).length c124_2] 24 (0,0)) (by(with_reducible repeat (first|refine blk_drewN ?_ _|refine blk_drew ?_|refine blk_alloc ?_ _));refine blk_put (cs:=#[.string ((rd_T24 l0_2 x35_2).f0),.string ((rd_T24 l0_2 x35_2).f1),.slice none 0 0]) ?_ 2 _ rfl;(with_reducible repeat (first|refine blk_drewN ?_ _|refine blk_drew ?_|refine blk_alloc ?_ _));refine blk_put (cs:=#[.string ((rd_T24 l0_2 x35_2).f0),.string (⟨#[]⟩ : ByteArray),.slice none 0 0]) ?_ 1 _ rfl;(with_reducible repeat (first|refine blk_drewN ?_ _|refine blk_drew ?_|refine blk_alloc ?_ _));refine blk_put (cs:=#[.string (⟨#[]⟩ : ByteArray),.string (⟨#[]⟩ : ByteArray),.slice none 0 0]) ?_ 0 _ rfl;(with_reducible repeat (first|refine blk_drewN ?_ _|refine blk_drew ?_|refine blk_alloc ?_ _));exact BK125.out) hb);have n2_:=Aside0.mk (below_step bl hb);clear BK121;clear BK125;clear HB;have BK121:=n0_;have BK125:=n1_;have HB:=n2_;clear n0_ n1_ n2_))
     go_roundg k2
     case measure=>have:=HJ2.out;have:=HK2.out;omega
     case rel=>exact⟨(wrap64 (x35_2+1)),rs,H',⟨by have:=HJ2.out;have:=HK2.out;omega⟩,⟨kl⟩,⟨bl⟩⟩
     }
     {
     replace c26:=Bool.eq_false_iff.mpr c26
     subst c26
     replace H:=itF H
     obtain rfl:=Option.some.inj H
     have p124:0≤(x35_2:Int):=of_decide_eq_true asm
     have q124:x35_2<(l0_2.length:Int):=of_decide_eq_true asm
     obtain⟨ad124,A124_2,c124_2,e124,hx124_0,hx124_1,hx124_2,hl124_2,hi124_2⟩:=at_T24 HR0_2.out x35_2 p124 q124
     cases e124
     replace hx124_0:=(HB.out.cell (World.block_lt_of_cell? w _ hx124_0)).trans hx124_0
     replace hx124_1:=(HB.out.cell (World.block_lt_of_cell? w _ hx124_1)).trans hx124_1
     replace hx124_2:=(HB.out.cell (World.block_lt_of_cell? w _ hx124_2)).trans hx124_2
     have HR124_2:=Aside0.mk hi124_2
     have HC124_2:=Aside0.mk hl124_2
     clear hi124_2 hl124_2
     replace p124:=eq_true p124
     replace q124:=eq_true q124
     go_wp2_with (first|((with_reducible refine gate_dst (N:=6) rfl ?_);(try (refine gate_guard (by rfl) ?_;dsimp only));refine box_event ?hg (N:=6) ?hd (cs:=#[.string (⟨#[]⟩ : ByteArray),.string (⟨#[]⟩ : ByteArray),.slice none 0 0]) (t:=24) ?hr ?_;(case hd=>rfl);(case hg=>rfl);(case hr=>first|(go_simp;done)|(go_simp;rfl));intro gb125 hg w31 hbox hb;have n0_:=Aside0.mk (blk_below (g:=gb121) (o:=.cells #[.string a0_0,.string a0_1,.slice (some ad124) l0_2.length c0_2] 24 (0,0)) kl hb);have n1_:=Aside0.mk (below_step bl hb);have n2_:=Aside0.mk (hbox);have n3_:=Aside0.mk ((by rw [hg];exact(below_size bl):w.heap.size≤gb125));have n4_:=Aside0.mk ((by rw [hg];exact(below_size bl):w.heap.size≤gb125));have n5_:=Aside0.mk ((by rw [hg];exact Nat.ne_of_lt (blk_lt (g:=gb121) (o:=.cells #[.string a0_0,.string a0_1,.slice (some ad124) l0_2.length c0_2] 24 (0,0)) kl):gb121≠gb125));have n6_:=Aside0.mk ((by rw [hg];exact Nat.ne_of_gt (blk_lt (g:=gb121) (o:=.cells #[.string a0_0,.string a0_1,.slice (some ad124) l0_2.length c0_2] 24 (0,0)) kl):gb125≠gb121));clear BK121;clear HB;have BK121:=n0_;have HB:=n1_;have BK125:=n2_;have GW125:=n3_;have GE125:=n4_;have NB121_125:=n5_;have NB125_121:=n6_;clear n0_ n1_ n2_ n3_ n4_ n5_ n6_;clear hb hbox hg;have hnb32:=NB125_121.out;have hnc32:=NB121_125.out;obtain⟨_,_,_,_,_,_⟩:=bc3 BK125.out)|((with_reducible refine gate_callee (f:=47) rfl ?_);refine goesL_ (some 42) rfl rfl Tryd.func47 kr rfl #[.agg #[.string ((rd_T24 l0_2 x35_2).f0),.string ((rd_T24 l0_2 x35_2).f1),.slice A124_2 ((rd_T24 l0_2 x35_2).f2).length c124_2],.int .i64 (wrap64 (a1+1))] rfl am ?_;(with_reducible refine(ih k2 (by have:=HJ2.out;have:=HK2.out;omega) ((rd_T24 l0_2 x35_2).f0) ((rd_T24 l0_2 x35_2).f1) _ _ ((rd_T24 l0_2 x35_2).f2) (wrap64 (a1+1)) false _ ?side1 ?side2 A25.out).mono ?_);(case side1=>exact Kd.C_below HR124_2.out bl);(case side2=>exact HC124_2.out);rintro e w34 ⟨rfl,hb⟩;refine⟨_,rfl,?_⟩;have n0_:=Aside0.mk (blk_below (g:=gb121) (o:=.cells #[.string a0_0,.string a0_1,.slice (some ad124) l0_2.length c0_2] 24 (0,0)) (by(with_reducible repeat (first|refine blk_drewN ?_ _|refine blk_drew ?_|refine blk_alloc ?_ _));refine blk_far ?_ NB121_125.out _;(with_reducible repeat (first|refine blk_drewN ?_ _|refine blk_drew ?_|refine blk_alloc ?_ _));refine blk_far ?_ NB121_125.out _;(with_reducible repeat (first|refine blk_drewN ?_ _|refine blk_drew ?_|refine blk_alloc ?_ _));refine blk_far ?_ NB121_125.out _;(with_reducible repeat (first|refine blk_drewN ?_ _|refine blk_drew ?_|refine blk_alloc ?_ _));exact BK121.out) hb);have n1_:=Aside0.mk (blk_below (g:=gb125) (o:=.cells #[.string ((rd_T24 l0_2 x35_2).f0),.string ((rd_T24 l0_2 x35_2).f1),.slice A124_2 ((rd_T24 l0_2 x35_2).f2).length c124_2] 24 (0,0)) (by(with_reducible repeat (first|refine blk_drewN ?_ _|refine blk_drew ?_|refine blk_alloc ?_ _));refine blk_put (cs:=#[.string ((rd_T24 l0_2 x35_2).f0),.string ((rd_T24 l0_2 x35_2).f1),.slice none 0 0]) ?_ 2 _ rfl;(with_reducible repeat (first|refine blk_drewN ?_ _|refine blk_drew ?_|refine blk_alloc ?_ _));refine blk_put (cs:=#[.string ((rd_T24 l0_2 x35_2).f0),.string (⟨#[]⟩ : ByteArray),.slice none 0 0]) ?_ 1 _ rfl;(with_reducible repeat (first|refine blk_drewN ?_ _|refine blk_drew ?_|refine blk_alloc ?_ _));refine blk_put (cs:=#[.string (⟨#[]⟩ : ByteArray),.string (⟨#[]⟩ : ByteArray),.slice none 0 0]) ?_ 0 _ rfl;(with_reducible repeat (first|refine blk_drewN ?_ _|refine blk_drew ?_|refine blk_alloc ?_ _));exact BK125.out) hb);have n2_:=Aside0.mk (below_step bl hb);clear BK121;clear BK125;clear HB;have BK121:=n0_;have BK125:=n1_;have HB:=n2_;clear n0_ n1_ n2_))
     go_ret
     exact⟨ew,bl⟩
     }
     }
     ·exact absurd H (by simp)
     }
     ·exact absurd H (by simp)
     }
     {
     have c22b0:decide (x35_2<(l0_2.length:Int))=false:=decide_eq_false c22
     clear c22
     obtain rfl:=Option.some.inj H
     go_wp2
     go_ret
     exact⟨ew,bl⟩
     }
   }
def xml_Escape.e (c:UInt8):List UInt8:=if c=38 then [38,97,109,112,59] else if c=60 then [38,108,116,59] else if c=62 then [38,103,116,59] else if c=34 then [38,113,117,111,116,59] else if c=13 then [38,35,49,51,59] else [c]
def xml_Escape.s (a0:ByteArray):ByteArray:=⟨(a0.data.toList.flatMap xml_Escape.e).toArray⟩
def xml_Escape.f (a0:ByteArray):Option ByteArray:=if a0.size≤23456248059220 then some (xml_Escape.s a0) else none
theorem xml_Escape.e_len (c:UInt8):(xml_Escape.e c).length≤6:=by
 unfold xml_Escape.e
 (repeat' split) <;> simp
theorem xml_Escape.flat_len (l:List UInt8):(l.flatMap xml_Escape.e).length≤6*l.length:=by
 induction l with
 | nil=>simp
 | cons a l ih=>
  rw [List.flatMap_cons,List.length_append,List.length_cons]
  have:=xml_Escape.e_len a
  omega
theorem xml_Escape.snoc (a0:ByteArray) (k:Nat) (h:k<a0.size) (c:Int) (hc:bt a0 k=c) :
  (a0.data.toList.take (k+1)).flatMap xml_Escape.e=(a0.data.toList.take k).flatMap xml_Escape.e++xml_Escape.e c.toNat.toUInt8:=by
 have hl:k<a0.data.toList.length:=by rw [data_length];exact h
 have hb:((a0.data.toList[k]'hl).toNat:Int)=c:=by
  rw [← hc]
  have:=bt_at a0 (k:Int) (by simpa using h)
  rw [← this]
  simp only [Int.toNat_natCast,Array.getElem_toList]
  rfl
 rw [List.take_succ_eq_append_getElem hl,List.flatMap_append,List.flatMap_cons,List.flatMap_nil,List.append_nil]
 congr 2
 subst hb
 simp
theorem xml_Escape.one (c:Int) (h0:0≤c) (h1:c≤255):Lib.byteCells [c.toNat.toUInt8] = [.int .u8 c]:=by
 have:(c.toNat.toUInt8.toNat:Int)=c:=by
  rw [Nat.toUInt8,UInt8.toNat_ofNat']
  omega
 rw [Lib.byteCells,List.map_cons,List.map_nil,this]
theorem xml_Escape.plain (c:Int) (h0:0≤c) (h1:c≤255) (a:c≠38) (b:c≠60) (d:c≠62) (e:c≠34) (f:c≠13):xml_Escape.e c.toNat.toUInt8 = [c.toNat.toUInt8]:=by
 have key:∀ v:UInt8,(v.toNat:Int)≠c→c.toNat.toUInt8≠v:=by
  intro v hv he
  apply hv
  rw [← he,Nat.toUInt8,UInt8.toNat_ofNat']
  omega
 unfold xml_Escape.e
 rw [if_neg (key 38 (by simpa using fun h=>a h.symm)),if_neg (key 60 (by simpa using fun h=>b h.symm)),if_neg (key 62 (by simpa using fun h=>d h.symm)),if_neg (key 34 (by simpa using fun h=>e h.symm)),if_neg (key 13 (by simpa using fun h=>f h.symm))]
theorem xml_Escape.arm (c:Int):c=38∨c=60∨c=62∨c=34∨c=13∨(c≠38∧c≠60∧c≠62∧c≠34∧c≠13):=by omega
theorem xml_Escape.calls (a0:ByteArray) (r:ByteArray) (w:World) (h:xml_Escape.f a0=some r) :
  Calls Tryd.prog 19 #[.string a0] w fun e w'=>e = .returned (.string r)∧Below w.heap.size w w':=by
 unfold xml_Escape.f at h
 have hs:a0.size≤23456248059220:=by
  by_cases c:a0.size≤23456248059220
  ·exact c
  ·simp [c] at h
 rw [if_pos hs] at h
 obtain rfl:=Option.some.inj h
 go_enter Tryd.func19,Tryd.ntmps19
 go_wp2
 go_loopw [7] (fun i wr=>∃ (k:Nat),k≤a0.size∧i = .int .i64 k∧Hid (Lib.IsBuilderF 68 5 w.heap.size w.heap.size (Lib.byteCells ((a0.data.toList.take k).flatMap xml_Escape.e)) wr∧Below w.heap.size w wr)) (fun i _=>a0.size-(intOf i).toNat)
 case atStart=>exact⟨0,Nat.zero_le _,rfl,Lib.hid ⟨Bld.fresh w,(Below.refl _ w).alloc (Nat.le_refl _) _⟩⟩
 case round=>
  obtain⟨k,hk,rfl,hI⟩:=hrel
  by_cases hlt:k<a0.size
  ·obtain⟨c,hc⟩ : ∃ c,bt a0 k=c:=⟨_,rfl⟩
   have hc0:0≤c:=by rw [← hc];exact(bt_range a0 k).1
   have hc1:c≤255:=by rw [← hc];exact(bt_range a0 k).2
   have hx:=bt_at a0 (k:Int)
   rw [hc,Int.toNat_natCast] at hx
   have hsn:=Lib.hid (xml_Escape.snoc a0 k hlt c hc)
   have hlen:(Lib.byteCells ((a0.data.toList.take k).flatMap xml_Escape.e)).length+6≤140737488355328:=by
    rw [Lib.byteCells_length]
    have h1:=xml_Escape.flat_len (a0.data.toList.take k)
    have h2:(a0.data.toList.take k).length≤k:=List.length_take_le _ _
    omega
   have hlen':=Lib.hid hlen
   have hsz':=Lib.hid (show w.heap.size≤wr.heap.size from hI.out.2.size)
   clear hlen hc
   rcases xml_Escape.arm c with rfl|rfl|rfl|rfl|rfl|⟨n1,n2,n3,n4,n5⟩
   ·go_wp2_with fail
    refine(Bld.WriteString w.heap.size w.heap.size _ ⟨#[38,97,109,112,59]⟩ _ hI.out.1 (Nat.le_trans (Nat.add_le_add_left (show(5:Nat)≤6 by decide) _) hlen'.out) hsz'.out).mono ?_
    rintro e w9 ⟨rfl,h9,b9,_⟩
    have h9':=Lib.hid h9
    have b9':=Lib.hid (hI.out.2.trans b9)
    clear h9 b9
    go_wp2
    go_roundw
    case rel=>exact⟨k+1,by omega,by go_num,Lib.hid ⟨by rw [hsn.out,Lib.byteCells_append];exact h9'.out,b9'.out⟩⟩
    case measure=>simp [intOf];omega
   ·go_wp2_with fail
    refine(Bld.WriteString w.heap.size w.heap.size _ ⟨#[38,108,116,59]⟩ _ hI.out.1 (Nat.le_trans (Nat.add_le_add_left (show(4:Nat)≤6 by decide) _) hlen'.out) hsz'.out).mono ?_
    rintro e w9 ⟨rfl,h9,b9,_⟩
    have h9':=Lib.hid h9
    have b9':=Lib.hid (hI.out.2.trans b9)
    clear h9 b9
    go_wp2
    go_roundw
    case rel=>exact⟨k+1,by omega,by go_num,Lib.hid ⟨by rw [hsn.out,Lib.byteCells_append];exact h9'.out,b9'.out⟩⟩
    case measure=>simp [intOf];omega
   ·go_wp2_with fail
    refine(Bld.WriteString w.heap.size w.heap.size _ ⟨#[38,103,116,59]⟩ _ hI.out.1 (Nat.le_trans (Nat.add_le_add_left (show(4:Nat)≤6 by decide) _) hlen'.out) hsz'.out).mono ?_
    rintro e w9 ⟨rfl,h9,b9,_⟩
    have h9':=Lib.hid h9
    have b9':=Lib.hid (hI.out.2.trans b9)
    clear h9 b9
    go_wp2
    go_roundw
    case rel=>exact⟨k+1,by omega,by go_num,Lib.hid ⟨by rw [hsn.out,Lib.byteCells_append];exact h9'.out,b9'.out⟩⟩
    case measure=>simp [intOf];omega
   ·go_wp2_with fail
    refine(Bld.WriteString w.heap.size w.heap.size _ ⟨#[38,113,117,111,116,59]⟩ _ hI.out.1 (Nat.le_trans (Nat.add_le_add_left (show(6:Nat)≤6 by decide) _) hlen'.out) hsz'.out).mono ?_
    rintro e w9 ⟨rfl,h9,b9,_⟩
    have h9':=Lib.hid h9
    have b9':=Lib.hid (hI.out.2.trans b9)
    clear h9 b9
    go_wp2
    go_roundw
    case rel=>exact⟨k+1,by omega,by go_num,Lib.hid ⟨by rw [hsn.out,Lib.byteCells_append];exact h9'.out,b9'.out⟩⟩
    case measure=>simp [intOf];omega
   ·go_wp2_with fail
    refine(Bld.WriteString w.heap.size w.heap.size _ ⟨#[38,35,49,51,59]⟩ _ hI.out.1 (Nat.le_trans (Nat.add_le_add_left (show(5:Nat)≤6 by decide) _) hlen'.out) hsz'.out).mono ?_
    rintro e w9 ⟨rfl,h9,b9,_⟩
    have h9':=Lib.hid h9
    have b9':=Lib.hid (hI.out.2.trans b9)
    clear h9 b9
    go_wp2
    go_roundw
    case rel=>exact⟨k+1,by omega,by go_num,Lib.hid ⟨by rw [hsn.out,Lib.byteCells_append];exact h9'.out,b9'.out⟩⟩
    case measure=>simp [intOf];omega
   ·have hpl:=Lib.hid (xml_Escape.plain c hc0 hc1 n1 n2 n3 n4 n5)
    have m1:(c == 38)=false:=beq_eq_false_iff_ne.mpr n1
    have m2:(c == 60)=false:=beq_eq_false_iff_ne.mpr n2
    have m3:(c == 62)=false:=beq_eq_false_iff_ne.mpr n3
    have m4:(c == 34)=false:=beq_eq_false_iff_ne.mpr n4
    have m5:(c == 13)=false:=beq_eq_false_iff_ne.mpr n5
    clear n1 n2 n3 n4 n5
    go_wp2_with fail
    refine(Bld.WriteByte w.heap.size w.heap.size _ c _ hI.out.1 (Nat.le_trans (Nat.add_le_add_left (show(1:Nat)≤6 by decide) _) hlen'.out) hsz'.out).mono ?_
    rintro e w9 ⟨rfl,h9,b9,_⟩
    have h9':=Lib.hid h9
    have b9':=Lib.hid (hI.out.2.trans b9)
    clear h9 b9
    go_wp2
    go_roundw
    case rel=>exact⟨k+1,by omega,by go_num,Lib.hid ⟨by rw [hsn.out,hpl.out,Lib.byteCells_append,xml_Escape.one c hc0 hc1];exact h9'.out,b9'.out⟩⟩
    case measure=>simp [intOf];omega
  ·go_wp2_with fail
   refine(Bld.String_ w.heap.size w.heap.size _ _ hI.out.1 hI.out.2.size).mono ?_
   rintro e w9 ⟨rfl,b9⟩
   have b9':=Lib.hid b9
   clear b9
   go_wp2
   go_ret
   have hk':k=a0.size:=by omega
   have he:a0.data.toList.take k=a0.data.toList:=List.take_of_length_le (by rw [data_length];omega)
   refine⟨by rw [he];rfl,hI.out.2.trans b9'.out⟩
end Go.Proofs.YtklcgncaclggcaaDoor.Q
