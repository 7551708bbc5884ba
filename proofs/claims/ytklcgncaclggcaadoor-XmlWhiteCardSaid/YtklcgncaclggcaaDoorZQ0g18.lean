/- A part of the proof of the seat's laws. No condition beyond those in the theorems. -/
import Derived.Test.YtklcgncaclggcaaDoorProg
import Derived.Test.YtklcgncaclggcaaDoorZXW
import Derived.Below
import Derived.Deep.Draws
import Derived.Deep.AppendLies
import Derived.Maps.AppendAt
import Derived.OwnWalk
import Derived.Laws.BytesArg
import Derived.Laws.MakeOwn
import Derived.Laws.OwnMore
import Derived.Deep.OwnRows
import Derived.Tactics
import Derived.Lib.ConvBytes
import Derived.Laws.Slices
import Derived.WalkKit
import Derived.KernelRfl
import Derived.RowKit3
import Derived.Deep.LoopGhost
import Derived.Deep.QuietTactic
import Derived.BigQuiet
import Derived.WideLaws
import Derived.Deep.DeepCutAuto
import Derived.Deep.CutBlock
import Derived.Deep.RegionHeld3
import Derived.Laws.Rows
import Derived.Lib.AppendStr
import Derived.ArgAppend
import Derived.Laws.IdiomCopy
import Derived.OrdersHeld
import Derived.Laws.BitsLemmas
import Derived.RowKit
import Derived.Test.YtklcgncaclggcaaDoorV1
import Derived.Test.YtklcgncaclggcaaDoorZBase
import Derived.Test.YtklcgncaclggcaaDoorZSqzB
import Derived.Test.YtklcgncaclggcaaDoorZShelf
import Derived.Lib.Hide
import Derived.Lib.OthersKept
import Derived.Test.YtklcgncaclggcaaDoorZRepS
import Derived.Test.YtklcgncaclggcaaDoorZAnyS
import Derived.Laws.RangeString
import Derived.WalkMore
import Derived.Deep.WholeRow

namespace Go.Proofs.YtklcgncaclggcaaDoor.Q
open Go.RowKit Go.Proofs.YtklcgncaclggcaaDoorW.PrintWords Go.Proofs.YtklcgncaclggcaaDoorW.PrintLast Go.Proofs.YtklcgncaclggcaaDoorW.PrintMore
set_option linter.unusedVariables false
set_option linter.unusedSimpArgs false
attribute [local go_sem] max2_int min2_int max_two min_two max_three min_three max_four min_four   
def errW:Option Int→Value
 | none=>.nilIface
 | some c=>.iface 0 (.int .i64 c)
theorem errW_none:errW none = .nilIface:=rfl
theorem errW_some (c:Int):errW (some c) = .iface 0 (.int .i64 c):=rfl
theorem info5:(Tryd.prog.info? 5).map (fun i=>(i.zero,i.size,i.bytes))=some (some (.int .u8 0),1,1):=by kernel_rfl
theorem info9:(Tryd.prog.info? 9).map (fun i=>(i.zero,i.size,i.bytes))=some (some (.string ⟨#[]⟩),1,16):=by kernel_rfl
theorem info24:(Tryd.prog.info? 24).map (fun i=>(i.zero,i.size,i.bytes))=some (some (.agg #[(.string ⟨#[]⟩),(.string ⟨#[]⟩),(.slice none 0 0)]),3,56):=by kernel_rfl
theorem info30:(Tryd.prog.info? 30).map (fun i=>(i.zero,i.size,i.bytes))=some (some (.agg #[(.string ⟨#[]⟩),(.string ⟨#[]⟩),(.slice none 0 0)]),3,56):=by kernel_rfl
structure S24 where
 f0:ByteArray
 f1:ByteArray
 f2:(List S24)
def z24:S24:=⟨(⟨#[]⟩ : ByteArray),(⟨#[]⟩ : ByteArray),([]:List S24)⟩
def F24 (d:Kd S24):Kd S24:=Kd.iso (Kd.pair Kd.string (Kd.pair Kd.string (Kd.slice 24 d))) (fun x:S24=>(x.f0,x.f1,x.f2))
theorem mono24:Kd.Mono F24:=Kd.mono_iso _ (Kd.mono_pair (Kd.mono_const _) (Kd.mono_pair (Kd.mono_const _) (Kd.mono_slice 24 Kd.mono_id)))
theorem sub24:Kd.Sub F24 [24]:=Kd.sub_iso _ (Kd.sub_pair (Kd.sub_const _ (by decide)) (Kd.sub_pair (Kd.sub_const _ (by decide)) (Kd.sub_slice 24 (by decide) Kd.sub_id)))
theorem sz24:∀ n,(Kd.upto F24 3 [24] n).sz=3:=Kd.upto_sz (fun _=>rfl)
def k24:Kd S24:=Kd.fix F24 3 [24] sz24 (Kd.upto_E sub24)
theorem k24_open {w:World} {x:S24} {cs:List Value} (h:k24.K w x cs):∃ A2 c2,cs = [.string x.f0,.string x.f1,.slice A2 x.f2.length c2]∧x.f2.length≤c2∧k24.C w A2 x.f2.length x.f2:=by
 obtain⟨n,h⟩:=h
 cases n with
 | zero=>exact h.elim
 | succ n=>
  obtain⟨_,_,rfl,rfl,⟨_,_,rfl,rfl,⟨A2,c2,rfl,l2,g2⟩⟩⟩:=h
  exact⟨A2,c2,rfl,l2,Kd.fix_C g2⟩
theorem k24_openM {w:World} {base:Nat} {ok:Nat→Prop} {x:S24} {cs:List Value} (h:k24.M w base ok x cs):∃ v2,cs = [.string x.f0,.string x.f1,v2]∧k24.R 24 w base ok v2 x.f2:=by
 obtain⟨n,h⟩:=h
 cases n with
 | zero=>exact h.elim
 | succ n=>
  obtain⟨_,_,rfl,rfl,⟨_,_,rfl,rfl,⟨v2,rfl,g2⟩⟩⟩:=h
  exact⟨v2,rfl,Kd.fix_R g2⟩
theorem k24_mk (w:World) (x:S24) {A2:Option Addr} {c2:Nat} (l2:x.f2.length≤c2) (g2:k24.C w A2 x.f2.length x.f2):k24.K w x [.string x.f0,.string x.f1,.slice A2 x.f2.length c2]:=by
 obtain⟨n2,q2⟩:=Kd.fix_C_back mono24 g2
 have r2:=Kd.upto_C_le mono24 sz24 (show n2≤n2 by omega) q2
 exact⟨n2+1,⟨[.string x.f0],[.string x.f1,.slice A2 x.f2.length c2],rfl,rfl,⟨[.string x.f1],[.slice A2 x.f2.length c2],rfl,rfl,⟨A2,c2,rfl,l2,r2⟩⟩⟩⟩
theorem k24_mkM (w:World) (base:Nat) (ok:Nat→Prop) (x:S24) {v2:Value} (g2:k24.R 24 w base ok v2 x.f2):k24.M w base ok x [.string x.f0,.string x.f1,v2]:=by
 obtain⟨n2,q2⟩:=Kd.fix_R_back mono24 g2
 have r2:=Kd.upto_R_le mono24 sz24 (show n2≤n2 by omega) q2
 exact⟨n2+1,⟨[.string x.f0],[.string x.f1,v2],rfl,rfl,⟨[.string x.f1],[v2],rfl,rfl,⟨v2,rfl,r2⟩⟩⟩⟩
theorem k24_openF {W:World} {ok:Nat→Prop} {x:S24} {cs:List Value} (h:Kd.FK k24 W ok x cs):∃ A2 c2,cs = [.string x.f0,.string x.f1,.slice A2 x.f2.length c2]∧x.f2.length≤c2∧Kd.F k24 W ok A2 x.f2.length x.f2:=by
 obtain⟨A2,c2,rfl,l2,_⟩:=k24_open (Kd.FK_now h)
 exact⟨A2,c2,rfl,l2,(fun W' hW=>by obtain⟨A2_,c2_,he,l2_,g2_⟩:=k24_open (h W' hW);injection (Option.some.inj (show some (Value.slice A2 x.f2.length c2)=some (Value.slice A2_ x.f2.length c2_) from congrArg (fun l=>l[2]?) he)) with ha_ _ _;rw [ha_];exact g2_)⟩
theorem k24_mkF (W:World) (ok:Nat→Prop) (x:S24) {A2:Option Addr} {c2:Nat} (l2:x.f2.length≤c2) (g2:Kd.F k24 W ok A2 x.f2.length x.f2):Kd.FK k24 W ok x [.string x.f0,.string x.f1,.slice A2 x.f2.length c2]:=fun W2 hW=>k24_mk W2 x l2 (g2 W2 hW)
def rd_T24 (xs:List S24) (i:Int):S24:=xs.getD i.toNat z24
theorem at_T24 {w:World} {A:Option Addr} {n:Nat} {xs:List S24} (h:Kd.C k24 w A n xs) (i:Int) (h0:0≤i) (h1:i<n):∃ ad A2 c2,A=some ad∧w.cell? (ad.add (i.toNat*3))=some (.string (rd_T24 xs i).f0)∧w.cell? ⟨(ad.add (i.toNat*3)).block,(ad.add (i.toNat*3)).off+1,none⟩=some (.string (rd_T24 xs i).f1)∧w.cell? ⟨(ad.add (i.toNat*3)).block,(ad.add (i.toNat*3)).off+2,none⟩=some (.slice A2 (rd_T24 xs i).f2.length c2)∧(rd_T24 xs i).f2.length≤c2∧k24.C w A2 (rd_T24 xs i).f2.length (rd_T24 xs i).f2:=by
 obtain⟨ad,c,e,_,hK,hc0⟩:=Kd.C_get h z24 i h0 h1
 have hc:∀ j u,c[j]? = some u→w.cell? (ad.add (i.toNat*3+j))=some u:=hc0
 obtain⟨A2,c2,rfl,l2,g2⟩:=k24_open hK
 exact⟨ad,A2,c2,e,hc 0 _ rfl,by rw [← add_field _ _ 1 (by omega)];exact hc 1 _ rfl,by rw [← add_field _ _ 2 (by omega)];exact hc 2 _ rfl,l2,g2⟩
structure S30 where
 f0:ByteArray
 f1:ByteArray
 f2:(List S30)
def z30:S30:=⟨(⟨#[]⟩ : ByteArray),(⟨#[]⟩ : ByteArray),([]:List S30)⟩
def F30 (d:Kd S30):Kd S30:=Kd.iso (Kd.pair Kd.string (Kd.pair Kd.string (Kd.slice 30 d))) (fun x:S30=>(x.f0,x.f1,x.f2))
theorem mono30:Kd.Mono F30:=Kd.mono_iso _ (Kd.mono_pair (Kd.mono_const _) (Kd.mono_pair (Kd.mono_const _) (Kd.mono_slice 30 Kd.mono_id)))
theorem sub30:Kd.Sub F30 [30]:=Kd.sub_iso _ (Kd.sub_pair (Kd.sub_const _ (by decide)) (Kd.sub_pair (Kd.sub_const _ (by decide)) (Kd.sub_slice 30 (by decide) Kd.sub_id)))
theorem sz30:∀ n,(Kd.upto F30 3 [30] n).sz=3:=Kd.upto_sz (fun _=>rfl)
def k30:Kd S30:=Kd.fix F30 3 [30] sz30 (Kd.upto_E sub30)
theorem k30_open {w:World} {x:S30} {cs:List Value} (h:k30.K w x cs):∃ A2 c2,cs = [.string x.f0,.string x.f1,.slice A2 x.f2.length c2]∧x.f2.length≤c2∧k30.C w A2 x.f2.length x.f2:=by
 obtain⟨n,h⟩:=h
 cases n with
 | zero=>exact h.elim
 | succ n=>
  obtain⟨_,_,rfl,rfl,⟨_,_,rfl,rfl,⟨A2,c2,rfl,l2,g2⟩⟩⟩:=h
  exact⟨A2,c2,rfl,l2,Kd.fix_C g2⟩
theorem k30_openM {w:World} {base:Nat} {ok:Nat→Prop} {x:S30} {cs:List Value} (h:k30.M w base ok x cs):∃ v2,cs = [.string x.f0,.string x.f1,v2]∧k30.R 30 w base ok v2 x.f2:=by
 obtain⟨n,h⟩:=h
 cases n with
 | zero=>exact h.elim
 | succ n=>
  obtain⟨_,_,rfl,rfl,⟨_,_,rfl,rfl,⟨v2,rfl,g2⟩⟩⟩:=h
  exact⟨v2,rfl,Kd.fix_R g2⟩
theorem k30_mk (w:World) (x:S30) {A2:Option Addr} {c2:Nat} (l2:x.f2.length≤c2) (g2:k30.C w A2 x.f2.length x.f2):k30.K w x [.string x.f0,.string x.f1,.slice A2 x.f2.length c2]:=by
 obtain⟨n2,q2⟩:=Kd.fix_C_back mono30 g2
 have r2:=Kd.upto_C_le mono30 sz30 (show n2≤n2 by omega) q2
 exact⟨n2+1,⟨[.string x.f0],[.string x.f1,.slice A2 x.f2.length c2],rfl,rfl,⟨[.string x.f1],[.slice A2 x.f2.length c2],rfl,rfl,⟨A2,c2,rfl,l2,r2⟩⟩⟩⟩
theorem k30_mkM (w:World) (base:Nat) (ok:Nat→Prop) (x:S30) {v2:Value} (g2:k30.R 30 w base ok v2 x.f2):k30.M w base ok x [.string x.f0,.string x.f1,v2]:=by
 obtain⟨n2,q2⟩:=Kd.fix_R_back mono30 g2
 have r2:=Kd.upto_R_le mono30 sz30 (show n2≤n2 by omega) q2
 exact⟨n2+1,⟨[.string x.f0],[.string x.f1,v2],rfl,rfl,⟨[.string x.f1],[v2],rfl,rfl,⟨v2,rfl,r2⟩⟩⟩⟩
theorem k30_openF {W:World} {ok:Nat→Prop} {x:S30} {cs:List Value} (h:Kd.FK k30 W ok x cs):∃ A2 c2,cs = [.string x.f0,.string x.f1,.slice A2 x.f2.length c2]∧x.f2.length≤c2∧Kd.F k30 W ok A2 x.f2.length x.f2:=by
 obtain⟨A2,c2,rfl,l2,_⟩:=k30_open (Kd.FK_now h)
 exact⟨A2,c2,rfl,l2,(fun W' hW=>by obtain⟨A2_,c2_,he,l2_,g2_⟩:=k30_open (h W' hW);injection (Option.some.inj (show some (Value.slice A2 x.f2.length c2)=some (Value.slice A2_ x.f2.length c2_) from congrArg (fun l=>l[2]?) he)) with ha_ _ _;rw [ha_];exact g2_)⟩
theorem k30_mkF (W:World) (ok:Nat→Prop) (x:S30) {A2:Option Addr} {c2:Nat} (l2:x.f2.length≤c2) (g2:Kd.F k30 W ok A2 x.f2.length x.f2):Kd.FK k30 W ok x [.string x.f0,.string x.f1,.slice A2 x.f2.length c2]:=fun W2 hW=>k30_mk W2 x l2 (g2 W2 hW)
def rd_T30 (xs:List S30) (i:Int):S30:=xs.getD i.toNat z30
theorem at_T30 {w:World} {A:Option Addr} {n:Nat} {xs:List S30} (h:Kd.C k30 w A n xs) (i:Int) (h0:0≤i) (h1:i<n):∃ ad A2 c2,A=some ad∧w.cell? (ad.add (i.toNat*3))=some (.string (rd_T30 xs i).f0)∧w.cell? ⟨(ad.add (i.toNat*3)).block,(ad.add (i.toNat*3)).off+1,none⟩=some (.string (rd_T30 xs i).f1)∧w.cell? ⟨(ad.add (i.toNat*3)).block,(ad.add (i.toNat*3)).off+2,none⟩=some (.slice A2 (rd_T30 xs i).f2.length c2)∧(rd_T30 xs i).f2.length≤c2∧k30.C w A2 (rd_T30 xs i).f2.length (rd_T30 xs i).f2:=by
 obtain⟨ad,c,e,_,hK,hc0⟩:=Kd.C_get h z30 i h0 h1
 have hc:∀ j u,c[j]? = some u→w.cell? (ad.add (i.toNat*3+j))=some u:=hc0
 obtain⟨A2,c2,rfl,l2,g2⟩:=k30_open hK
 exact⟨ad,A2,c2,e,hc 0 _ rfl,by rw [← add_field _ _ 1 (by omega)];exact hc 1 _ rfl,by rw [← add_field _ _ 2 (by omega)];exact hc 2 _ rfl,l2,g2⟩
set_option maxHeartbeats 8000000
set_option maxRecDepth 100000
def stringslite_HasPrefix.f (a0:ByteArray) (a1:ByteArray):Option (Bool):=if(a0.size:Int) ≥ (a1.size:Int) then(if 0≤(a1.size:Int) then(if(a1.size:Int)≤(a0.size:Int) then(some ((a0.extract 0 a1.size).toList == a1.toList)) else(none)) else(none)) else(some false)
theorem stringslite_HasPrefix.calls (a0:ByteArray) (a1:ByteArray) (r:Bool) (w:World) (h:stringslite_HasPrefix.f a0 a1=some r) :
  Calls Tryd.prog 77 #[.string a0,.string a1] w fun e w'=>e = .returned (.bool r)∧Drawn0 w w':=by
 unfold stringslite_HasPrefix.f at h
 have H:=h
 clear h
 replace H:=itO H
 rcases H with⟨c3,H⟩|⟨c3,H⟩
 ·skip
  have c3b0:decide ((a1.size:Int)≤(a0.size:Int))=true:=decide_eq_true c3
  have c3b1:decide (a1.size≤a0.size)=true:=decide_eq_true (Int.ofNat_le.mp c3)
  clear c3
  replace H:=itO H
  rcases H with⟨c4,H⟩|⟨c4,H⟩
  ·skip
   have c4b0:=eq_true c4
   have c4b1:=decide_eq_true c4
   clear c4
   replace H:=itO H
   rcases H with⟨c5,H⟩|⟨c5,H⟩
   ·skip
    have c5b0:=eq_true c5
    have c5b1:=decide_eq_true c5
    clear c5
    obtain rfl:=Option.some.inj H
    go_enter Tryd.func77,Tryd.ntmps77
    go_wp2
    go_ret
    exact⟨by first|rfl|(simp;done)|(simp [*];done),by repeat (first|exact Drawn0.refl _|apply Drawn0.step)⟩
   ·exact absurd H (by simp)
  ·exact absurd H (by simp)
 ·skip
  have c3b0:decide ((a1.size:Int)≤(a0.size:Int))=false:=decide_eq_false c3
  have c3b1:decide (a1.size≤a0.size)=false:=decide_eq_false (fun h=>c3 (Int.ofNat_le.mpr h))
  clear c3
  obtain rfl:=Option.some.inj H
  go_enter Tryd.func77,Tryd.ntmps77
  go_wp2
  go_ret
  exact⟨by first|rfl|(simp;done)|(simp [*];done),by repeat (first|exact Drawn0.refl _|apply Drawn0.step)⟩
def strings_HasPrefix.f (a0:ByteArray) (a1:ByteArray):Option (Bool):=(stringslite_HasPrefix.f a0 a1).bind fun t101=>(some t101)
theorem strings_HasPrefix.calls (a0:ByteArray) (a1:ByteArray) (r:Bool) (w:World) (h:strings_HasPrefix.f a0 a1=some r) :
  Calls Tryd.prog 55 #[.string a0,.string a1] w fun e w'=>e = .returned (.bool r)∧Drawn0 w w':=by
 unfold strings_HasPrefix.f at h
 have H:=h
 clear h
 replace H:=bndO H
 obtain⟨t101,A30,H⟩:=H
 have A3:=Aside0.mk A30
 clear A30
 obtain rfl:=Option.some.inj H
 go_enter Tryd.func55,Tryd.ntmps55
 go_wp2_with (first|((with_reducible refine gate_callee (f:=77) rfl ?_);refine goesL_ (some 7) rfl rfl Tryd.func77 (by kernel_rfl) rfl #[.string a0,.string a1] rfl (by(try simp only [List.map_toArray,List.map_cons,List.map_nil]);first|done|rfl|(simp only [List.length_drop,List.length_take];rfl)) ?_;(with_reducible refine(stringslite_HasPrefix.calls a0 a1 t101 _ A3.out).mono ?_);rintro e w' ⟨rfl,⟨nd,rfl⟩⟩;refine⟨_,rfl,?_⟩))
 go_ret
 exact⟨by first|rfl|(simp;done)|(simp [*];done),by repeat (first|exact Drawn0.refl _|apply Drawn0.step)⟩
def strings_Index.f (a0 a1:ByteArray):Option Int:=if a0.size<4294967281 then some (Lib.index a0.data.toList a1.data.toList) else none
theorem strings_Index.calls (a0 a1:ByteArray) (r:Int) (w:World) (hG:GOk w) (h:strings_Index.f a0 a1=some r) :
  Calls Tryd.prog 56 #[.string a0,.string a1] w fun e w'=>e = .returned (.int .i64 r)∧Drawn0 w w':=by
 unfold strings_Index.f at h
 by_cases c:a0.size<4294967281
 ·rw [if_pos c] at h
  obtain rfl:=Option.some.inj h
  obtain⟨m,hm⟩:=gok_max hG
  exact(Tryd.strings_Index a0 a1 m w c hm).mono fun e w' ⟨he,hw⟩=>⟨he,by rw [hw];exact Drawn0.refl _⟩
 ·rw [if_neg c] at h
  exact absurd h (by simp)
def xml_white.f (a0:Int):Option (Bool):=if a0=32 then(some true) else(if a0=9 then(some true) else(if a0=10 then(some true) else(some (a0 == 13))))
theorem xml_white.calls (a0:Int) (r:Bool) (w:World) (h:xml_white.f a0=some r) :
  Calls Tryd.prog 57 #[.int .u8 a0] w fun e w'=>e = .returned (.bool r)∧Drawn0 w w':=by
 unfold xml_white.f at h
 have H:=h
 clear h
 replace H:=itO H
 rcases H with⟨c2,H⟩|⟨c2,H⟩
 ·skip
  have c2b0:(a0 == 32)=true:=beq_iff_eq.mpr c2
  have c2b1:(a0 != 32)=false:=bne_eq_false_iff_eq.mpr c2
  clear c2
  obtain rfl:=Option.some.inj H
  go_enter Tryd.func57,Tryd.ntmps57
  go_wp2
  go_ret
  exact⟨by first|rfl|(simp;done)|(simp [*];done),by repeat (first|exact Drawn0.refl _|apply Drawn0.step)⟩
 ·skip
  have c2b0:(a0 == 32)=false:=beq_eq_false_iff_ne.mpr c2
  have c2b1:(a0 != 32)=true:=bne_iff_ne.mpr c2
  replace H:=itO H
  rcases H with⟨c3,H⟩|⟨c3,H⟩
  ·skip
   have c3b0:(a0 == 9)=true:=beq_iff_eq.mpr c3
   have c3b1:(a0 != 9)=false:=bne_eq_false_iff_eq.mpr c3
   clear c3
   obtain rfl:=Option.some.inj H
   go_enter Tryd.func57,Tryd.ntmps57
   go_wp2
   go_ret
   exact⟨by first|rfl|(simp;done)|(simp [*];done),by repeat (first|exact Drawn0.refl _|apply Drawn0.step)⟩
  ·skip
   have c3b0:(a0 == 9)=false:=beq_eq_false_iff_ne.mpr c3
   have c3b1:(a0 != 9)=true:=bne_iff_ne.mpr c3
   replace H:=itO H
   rcases H with⟨c4,H⟩|⟨c4,H⟩
   ·skip
    have c4b0:(a0 == 10)=true:=beq_iff_eq.mpr c4
    have c4b1:(a0 != 10)=false:=bne_eq_false_iff_eq.mpr c4
    clear c4
    obtain rfl:=Option.some.inj H
    go_enter Tryd.func57,Tryd.ntmps57
    go_wp2
    go_ret
    exact⟨by first|rfl|(simp;done)|(simp [*];done),by repeat (first|exact Drawn0.refl _|apply Drawn0.step)⟩
   ·skip
    have c4b0:(a0 == 10)=false:=beq_eq_false_iff_ne.mpr c4
    have c4b1:(a0 != 10)=true:=bne_iff_ne.mpr c4
    obtain rfl:=Option.some.inj H
    go_enter Tryd.func57,Tryd.ntmps57
    go_wp2
    go_ret
    exact⟨by first|rfl|(simp;done)|(simp [*];done),by repeat (first|exact Drawn0.refl _|apply Drawn0.step)⟩
def IsS57 (w0 W:World) (g:Nat) (f0:ByteArray) (f1:Int):Prop:=W.heap[g]? = some (.cells #[.string f0,.int .i64 f1] 57 (0,0))∧w0.heap.size≤g
theorem IsS57.grown {w0 W:World} {g:Nat} {f0:ByteArray} {f1:Int} {W1:World} {row:Option Nat} (h:IsS57 w0 W g f0 f1) (hw:W.grownBy W1 row) (hne:some g≠row):IsS57 w0 W1 g f0 f1:=by
 obtain⟨hb,hg⟩:=h
 exact⟨blk_grown hb hw hne,hg⟩
theorem IsS57.own_neN {w0 W:World} {g:Nat} {f0:ByteArray} {f1:Int} {α:Type} {d:Kd α} {e:Nat} {base:Nat} {ok:Nat→Prop} {v:Value} {xs:List α} (h:IsS57 w0 W g f0 f1) (ho:Kd.N d e W base ok v xs) (ht:e≠57):some g≠v.ownBlock:=by
 obtain⟨hb,hg⟩:=h
 exact Kd.N_ne ho hb ht
theorem IsS57.fresh {w0 W:World} {g:Nat} {f0:ByteArray} {f1:Int} (h:IsS57 w0 W g f0 f1):∀ k,W.heap.size≤k→k≠g:=by
 obtain⟨hb,hg⟩:=h
 exact Kd.freshB hb
theorem IsS57.kept {w0 W:World} {g:Nat} {f0:ByteArray} {f1:Int} {W1:World} {S:Nat→Prop} (h:IsS57 w0 W g f0 f1) (hk:Kept W W1 S) (hne:¬ S g):IsS57 w0 W1 g f0 f1:=by
 obtain⟨hb,hg⟩:=h
 exact⟨blk_kept hb hk hne,hg⟩
theorem IsS57.below {w0 W:World} {g:Nat} {f0:ByteArray} {f1:Int} {W1:World} (h:IsS57 w0 W g f0 f1) (hw:Below W.heap.size W W1):IsS57 w0 W1 g f0 f1:=h.grown (grown_of_below hw none) (by simp)
theorem IsS57.alloc {w0 W:World} {g:Nat} {f0:ByteArray} {f1:Int} (h:IsS57 w0 W g f0 f1) (o:Obj):IsS57 w0 (W.alloc o) g f0 f1:=h.below (below_alloc (Below.refl _ _) o)
theorem IsS57.drewN {w0 W:World} {g:Nat} {f0:ByteArray} {f1:Int} (h:IsS57 w0 W g f0 f1) (m:Nat):IsS57 w0 (W.drewN m) g f0 f1:=h
theorem IsS57.drew {w0 W:World} {g:Nat} {f0:ByteArray} {f1:Int} (h:IsS57 w0 W g f0 f1):IsS57 w0 W.drew g f0 f1:=h
theorem IsS57.at_ {w0 W:World} {g:Nat} {f0:ByteArray} {f1:Int} {w':World} {m:Nat} (hq:W.drewN m=w') (h:IsS57 w0 W g f0 f1):IsS57 w0 w' g f0 f1:=by subst hq;exact IsS57.drewN h m
theorem IsS57.apart {w0 W:World} {g:Nat} {f0:ByteArray} {f1:Int} {α:Type} {d:Kd α} {e:Nat} {base:Nat} {ok:Nat→Prop} {v:Value} {xs:List α} (h:IsS57 w0 W g f0 f1) (ho:d.R e W base ok v xs) (ht:∀ q,q∈e :: d.E→q≠57):d.R e W base (fun k=>ok k∧k≠g) v xs:=by
 obtain⟨hb,hg⟩:=h
 exact Kd.R_types ho hb ht
theorem IsS57.own_ne {w0 W:World} {g:Nat} {f0:ByteArray} {f1:Int} {α:Type} {d:Kd α} {e:Nat} {base:Nat} {ok:Nat→Prop} {v:Value} {xs:List α} (h:IsS57 w0 W g f0 f1) (ho:d.R e W base ok v xs) (ht:e≠57):some g≠v.ownBlock:=by
 obtain⟨hb,hg⟩:=h
 exact Kd.R_ne ho hb ht
theorem IsS57.apartQ {w0 W:World} {g:Nat} {f0:ByteArray} {f1:Int} {α:Type} {d:Kd α} {e:Nat} {base:Nat} {ok:Nat→Prop} {v:Value} {xs:List α} (h:IsS57 w0 W g f0 f1) (ho:d.Q e W base ok v xs) (ht:∀ q,q∈e :: d.E→q≠57):d.Q e W base (fun k=>ok k∧k≠g) v xs:=by
 obtain⟨hb,hg⟩:=h
 exact Kd.Q_types ho hb ht
theorem IsS57.own_neQ {w0 W:World} {g:Nat} {f0:ByteArray} {f1:Int} {α:Type} {d:Kd α} {e:Nat} {base:Nat} {ok:Nat→Prop} {v:Value} {xs:List α} (h:IsS57 w0 W g f0 f1) (ho:d.Q e W base ok v xs) (ht:e≠57):some g≠v.ownBlock:=by
 obtain⟨hb,hg⟩:=h
 exact Kd.Q_ne ho hb ht
theorem IsS57.apartS {w0 W:World} {g:Nat} {f0:ByteArray} {f1:Int} {α:Type} {d:Kd α} {e:Nat} {base:Nat} {ok:Nat→Prop} {v:Value} {xs:List α} (h:IsS57 w0 W g f0 f1) (ho:d.S e W base ok v xs) (ht:∀ q,q∈e :: d.E→q≠57):d.S e W base (fun k=>ok k∧k≠g) v xs:=by
 obtain⟨hb,hg⟩:=h
 exact Kd.S_types ho hb ht
theorem IsS57.own_neS {w0 W:World} {g:Nat} {f0:ByteArray} {f1:Int} {α:Type} {d:Kd α} {e:Nat} {base:Nat} {ok:Nat→Prop} {v:Value} {xs:List α} (h:IsS57 w0 W g f0 f1) (ho:d.S e W base ok v xs) (ht:e≠57):some g≠v.ownBlock:=by
 obtain⟨hb,hg⟩:=h
 exact Kd.S_ne ho hb ht
theorem IsS57.lt {w0 W:World} {g:Nat} {f0:ByteArray} {f1:Int} (h:IsS57 w0 W g f0 f1):g<W.heap.size:=by
 obtain⟨hb,hg⟩:=h
 exact blk_lt hb
theorem IsS57.ge {w0 W:World} {g:Nat} {f0:ByteArray} {f1:Int} (h:IsS57 w0 W g f0 f1):w0.heap.size≤g:=by
 obtain⟨hb,hg⟩:=h
 exact hg
theorem IsS57.ne_blk {w0 W:World} {g:Nat} {f0:ByteArray} {f1:Int} {a:Nat} {cs:Array Value} {t:TypeId} {fr:Nat×Nat} (h:IsS57 w0 W g f0 f1) (hb2:W.heap[a]? = some (.cells cs t fr)) (ht:t≠57):g≠a:=by
 obtain⟨hb,hg⟩:=h
 rintro rfl
 rw [hb] at hb2
 injection hb2 with hb2
 injection hb2 with _ ht2
 exact ht ht2.symm
theorem IsS57.far {w0 W:World} {g:Nat} {f0:ByteArray} {f1:Int} {p:Addr} (h:IsS57 w0 W g f0 f1) (hne:g≠p.block) (u:Value):IsS57 w0 (W.setCell p u) g f0 f1:=by
 obtain⟨hb,hg⟩:=h
 exact⟨blk_far hb hne u,hg⟩
theorem cellS57_0 {W:World} {g:Nat} {f0:ByteArray} {f1:Int} (h:W.heap[g]? = some (.cells #[.string f0,.int .i64 f1] 57 (0,0))):W.cell? ⟨g,0,none⟩=some (.string f0):=(blk_cell h 0).trans rfl
theorem IsS57.set_0 {w0 W:World} {g:Nat} {f0:ByteArray} {f1:Int} (h:IsS57 w0 W g f0 f1) (x:ByteArray):IsS57 w0 (W.setCell ⟨g,0,none⟩ (.string x)) g x f1:=by
 obtain⟨hb,hg⟩:=h
 exact⟨by simpa using blk_set hb 0 (.string x),hg⟩
theorem cellS57_1 {W:World} {g:Nat} {f0:ByteArray} {f1:Int} (h:W.heap[g]? = some (.cells #[.string f0,.int .i64 f1] 57 (0,0))):W.cell? ⟨g,1,none⟩=some (.int .i64 f1):=(blk_cell h 1).trans rfl
theorem IsS57.set_1 {w0 W:World} {g:Nat} {f0:ByteArray} {f1:Int} (h:IsS57 w0 W g f0 f1) (x:Int):IsS57 w0 (W.setCell ⟨g,1,none⟩ (.int .i64 x)) g f0 x:=by
 obtain⟨hb,hg⟩:=h
 exact⟨by simpa using blk_set hb 1 (.int .i64 x),hg⟩
theorem IsS57.new (w0 W:World) (f0:ByteArray) (f1:Int) (hB:Below w0.heap.size w0 W):IsS57 w0 (W.alloc (.cells #[.string f0,.int .i64 f1] 57)) W.heap.size f0 f1:=⟨by simpa using heap_alloc_new W _,hB.size⟩
theorem isl57 {w0 W:World} {g:Nat} {f0:ByteArray} {f1:Int} (h:IsS57 w0 W g f0 f1:=by repeat (first|(with_reducible first|exact Aside0.out (by assumption)|apply IsS57.alloc|apply IsS57.drewN|apply IsS57.drew|apply IsS57.set_0|apply IsS57.set_1|refine IsS57.far ?_ (Aside0.out (by assumption)) _)|exact Aside0.out (by assumption))):IsS57 w0 W g f0 f1:=h
def xml_reader_begin.f (s0_0:ByteArray) (s0_1:Int):Option (Bool×ByteArray×Int):=(strings_HasPrefix.f s0_0 (⟨#[60,63,120,109,108]⟩ : ByteArray)).bind fun t106=>(if t106=true then(if 5≤(s0_0.size:Int) then((strings_Index.f (s0_0.extract 5 s0_0.size) (⟨#[63,62]⟩ : ByteArray)).bind fun t107=>(if t107<0 then(some (false,s0_0,s0_1)) else(if t107>0 then(if 5<(s0_0.size:Int) then((xml_white.f (bt s0_0 5)).bind fun t108=>(if t108=true then(some (true,s0_0,wrap64 ((wrap64 (5+t107))+2))) else(if(bt s0_0 5)=63 then(some (true,s0_0,wrap64 ((wrap64 (5+t107))+2))) else(some (false,s0_0,s0_1))))) else(none)) else(some (true,s0_0,wrap64 ((wrap64 (5+t107))+2)))))) else(none)) else(some (true,s0_0,s0_1)))
theorem xml_reader_begin.calls (g:Nat) (s0_0:ByteArray) (s0_1:Int) (r1:Bool) (r2:ByteArray) (r3:Int) (w0 w:World) (hI:IsS57 w0 w g s0_0 s0_1) (hB:Below w0.heap.size w0 w) (hG:GOk w0) (h:xml_reader_begin.f s0_0 s0_1=some (r1,r2,r3)) :
    Calls Tryd.prog 28 #[.pointer (some ⟨g,0,none⟩)] w fun e w'=>e = .returned (.bool r1)∧IsS57 w0 w' g r2 r3∧Below w0.heap.size w0 w'∧KeepBut w w' g none:=by
 have HI0:=Aside0.mk hI
 have HK:=Aside0.mk (KeepBut.refl w g none)
 have HL:=Aside0.mk hB.size
 clear hI
 have HW0:=Aside0.mk hB.size
 have HB:=Aside0.mk hB
 clear hB
 unfold xml_reader_begin.f at h
 have H:=h
 clear h
 replace H:=bndO H
 obtain⟨t106,A20,H⟩:=H
 have A2:=Aside0.mk A20
 clear A20
 by_cases c3:t106=true
 {
 subst c3
 replace H:=itT H
 replace H:=itO H
 rcases H with⟨c4,H⟩|⟨c4,H⟩
 {
 have c4b0:=eq_true c4
 have c4b1:=decide_eq_true c4
 clear c4
 replace H:=bndO H
 obtain⟨t107,A50,H⟩:=H
 have A5:=Aside0.mk A50
 clear A50
 replace H:=itO H
 rcases H with⟨c6,H⟩|⟨c6,H⟩
 {
 have c6b0:decide (t107<0)=true:=decide_eq_true c6
 clear c6
 simp only [Option.some.injEq,Prod.mk.injEq] at H
 obtain⟨rfl,rfl,rfl⟩:=H
 obtain⟨HGz7,hgz7⟩:=HI0.out
 have hcz7_0:=cellS57_0 HGz7
 have hcz7_1:=cellS57_1 HGz7
 have hfz7_0:=blk_frozen HGz7 0
 have hfz7_1:=blk_frozen HGz7 1
 clear HGz7 hgz7
 go_enter Tryd.func28,Tryd.ntmps28
 go_wp2_with (first|((with_reducible refine gate_callee (f:=55) rfl ?_);refine goesL_ (some 8) rfl rfl Tryd.func55 (by kernel_rfl) rfl #[.string s0_0,.string (⟨#[60,63,120,109,108]⟩ : ByteArray)] rfl am ?_;(with_reducible refine(strings_HasPrefix.calls s0_0 (⟨#[60,63,120,109,108]⟩ : ByteArray) true _ A2.out).mono ?_);rintro e w' ⟨rfl,⟨nd,rfl⟩⟩;refine⟨_,rfl,?_⟩)|((with_reducible refine gate_callee (f:=56) rfl ?_);refine goesL_ (some 15) rfl rfl Tryd.func56 (by kernel_rfl) rfl #[.string (s0_0.extract 5 s0_0.size),.string (⟨#[63,62]⟩ : ByteArray)] rfl am ?_;(with_reducible refine(strings_Index.calls (s0_0.extract 5 s0_0.size) (⟨#[63,62]⟩ : ByteArray) t107 _ (by first|exact hG|exact gok_below hG (by repeat (first|(with_reducible first|exact HB.out|apply below_alloc|apply pw_below_drewN|apply below_drew1|refine below_set ?_ (IsS57.ge HI0.out))|exact HB.out))|exact gok_heap hG rfl|exact gok_drewN hG _|exact gok_below hG (by repeat (first|exact HB.out|exact HBW.out|exact Below.refl _ _|apply below_alloc|apply pw_below_drewN|apply below_drew1))) A5.out).mono ?_);rintro e w' ⟨rfl,⟨nd,rfl⟩⟩;refine⟨_,rfl,?_⟩))
 go_ret
 exact⟨ew,by repeat (first|(with_reducible first|exact HI0.out|apply IsS57.alloc|apply IsS57.drewN|apply IsS57.drew|apply IsS57.set_0|apply IsS57.set_1)|exact HI0.out),by repeat (first|(with_reducible first|exact HB.out|apply below_alloc|apply pw_below_drewN|apply below_drew1|refine below_set ?_ (IsS57.ge HI0.out))|exact HB.out),kk⟩
 }
 {
 have c6b0:decide (t107<0)=false:=decide_eq_false c6
 clear c6
 replace H:=itO H
 rcases H with⟨c8,H⟩|⟨c8,H⟩
 {
 have c8b0:decide (0<t107)=true:=decide_eq_true c8
 clear c8
 replace H:=itO H
 rcases H with⟨c9,H⟩|⟨c9,H⟩
 {
 have c9b0:decide (5<(s0_0.size:Int))=true:=decide_eq_true c9
 have c9b1:decide (5<s0_0.size)=true:=decide_eq_true (by omega)
 clear c9
 replace H:=bndO H
 obtain⟨t108,A110,H⟩:=H
 have A11:=Aside0.mk A110
 clear A110
 by_cases c12:t108=true
 {
 subst c12
 replace H:=itT H
 simp only [Option.some.injEq,Prod.mk.injEq] at H
 obtain⟨rfl,rfl,rfl⟩:=H
 obtain⟨HGz13,hgz13⟩:=HI0.out
 have hcz13_0:=cellS57_0 HGz13
 have hcz13_1:=cellS57_1 HGz13
 have hfz13_0:=blk_frozen HGz13 0
 have hfz13_1:=blk_frozen HGz13 1
 clear HGz13 hgz13
 go_enter Tryd.func28,Tryd.ntmps28
 go_wp2_with (first|((with_reducible refine gate_callee (f:=55) rfl ?_);refine goesL_ (some 8) rfl rfl Tryd.func55 (by kernel_rfl) rfl #[.string s0_0,.string (⟨#[60,63,120,109,108]⟩ : ByteArray)] rfl am ?_;(with_reducible refine(strings_HasPrefix.calls s0_0 (⟨#[60,63,120,109,108]⟩ : ByteArray) true _ A2.out).mono ?_);rintro e w' ⟨rfl,⟨nd,rfl⟩⟩;refine⟨_,rfl,?_⟩)|((with_reducible refine gate_callee (f:=56) rfl ?_);refine goesL_ (some 15) rfl rfl Tryd.func56 (by kernel_rfl) rfl #[.string (s0_0.extract 5 s0_0.size),.string (⟨#[63,62]⟩ : ByteArray)] rfl am ?_;(with_reducible refine(strings_Index.calls (s0_0.extract 5 s0_0.size) (⟨#[63,62]⟩ : ByteArray) t107 _ (by first|exact hG|exact gok_below hG (by repeat (first|(with_reducible first|exact HB.out|apply below_alloc|apply pw_below_drewN|apply below_drew1|refine below_set ?_ (IsS57.ge HI0.out))|exact HB.out))|exact gok_heap hG rfl|exact gok_drewN hG _|exact gok_below hG (by repeat (first|exact HB.out|exact HBW.out|exact Below.refl _ _|apply below_alloc|apply pw_below_drewN|apply below_drew1))) A5.out).mono ?_);rintro e w' ⟨rfl,⟨nd,rfl⟩⟩;refine⟨_,rfl,?_⟩;have p10:0≤(5:Int):=(by omega);have q10:5<s0_0.size:=(by have:(5:Int)<(s0_0.size:Int):=of_decide_eq_true asm;omega);have hx10:∀ h:5<s0_0.size,((s0_0[5]'h).toNat:Int)=bt s0_0 5:=bt_at s0_0 5;clear p10;have qi10:(5<(s0_0.size:Int))=True:=eq_true (of_decide_eq_true asm);replace q10:=eq_true q10)|(go_at_call 57;(with_reducible refine(xml_white.calls (bt s0_0 5) true _ A11.out).mono ?_);rintro e w' ⟨rfl,⟨nd,rfl⟩⟩))
 go_ret
 exact⟨ew,by repeat (first|(with_reducible first|exact HI0.out|apply IsS57.alloc|apply IsS57.drewN|apply IsS57.drew|apply IsS57.set_0|apply IsS57.set_1)|exact HI0.out),by repeat (first|(with_reducible first|exact HB.out|apply below_alloc|apply pw_below_drewN|apply below_drew1|refine below_set ?_ (IsS57.ge HI0.out))|exact HB.out),kk⟩
 }
 {
 replace c12:=Bool.eq_false_iff.mpr c12
 subst c12
 replace H:=itF H
 replace H:=itO H
 rcases H with⟨c15,H⟩|⟨c15,H⟩
 {
 have c15b0:((bt s0_0 5) == 63)=true:=beq_iff_eq.mpr c15
 have c15b1:((bt s0_0 5) != 63)=false:=bne_eq_false_iff_eq.mpr c15
 clear c15
 simp only [Option.some.injEq,Prod.mk.injEq] at H
 obtain⟨rfl,rfl,rfl⟩:=H
 obtain⟨HGz16,hgz16⟩:=HI0.out
 have hcz16_0:=cellS57_0 HGz16
 have hcz16_1:=cellS57_1 HGz16
 have hfz16_0:=blk_frozen HGz16 0
 have hfz16_1:=blk_frozen HGz16 1
 clear HGz16 hgz16
 go_enter Tryd.func28,Tryd.ntmps28
 go_wp2_with (first|((with_reducible refine gate_callee (f:=55) rfl ?_);refine goesL_ (some 8) rfl rfl Tryd.func55 (by kernel_rfl) rfl #[.string s0_0,.string (⟨#[60,63,120,109,108]⟩ : ByteArray)] rfl am ?_;(with_reducible refine(strings_HasPrefix.calls s0_0 (⟨#[60,63,120,109,108]⟩ : ByteArray) true _ A2.out).mono ?_);rintro e w' ⟨rfl,⟨nd,rfl⟩⟩;refine⟨_,rfl,?_⟩)|((with_reducible refine gate_callee (f:=56) rfl ?_);refine goesL_ (some 15) rfl rfl Tryd.func56 (by kernel_rfl) rfl #[.string (s0_0.extract 5 s0_0.size),.string (⟨#[63,62]⟩ : ByteArray)] rfl am ?_;(with_reducible refine(strings_Index.calls (s0_0.extract 5 s0_0.size) (⟨#[63,62]⟩ : ByteArray) t107 _ (by first|exact hG|exact gok_below hG (by repeat (first|(with_reducible first|exact HB.out|apply below_alloc|apply pw_below_drewN|apply below_drew1|refine below_set ?_ (IsS57.ge HI0.out))|exact HB.out))|exact gok_heap hG rfl|exact gok_drewN hG _|exact gok_below hG (by repeat (first|exact HB.out|exact HBW.out|exact Below.refl _ _|apply below_alloc|apply pw_below_drewN|apply below_drew1))) A5.out).mono ?_);rintro e w' ⟨rfl,⟨nd,rfl⟩⟩;refine⟨_,rfl,?_⟩;have p10:0≤(5:Int):=(by omega);have q10:5<s0_0.size:=(by have:(5:Int)<(s0_0.size:Int):=of_decide_eq_true asm;omega);have hx10:∀ h:5<s0_0.size,((s0_0[5]'h).toNat:Int)=bt s0_0 5:=bt_at s0_0 5;clear p10;have qi10:(5<(s0_0.size:Int))=True:=eq_true (of_decide_eq_true asm);replace q10:=eq_true q10)|(go_at_call 57;(with_reducible refine(xml_white.calls (bt s0_0 5) false _ A11.out).mono ?_);rintro e w' ⟨rfl,⟨nd,rfl⟩⟩;have p14:0≤(5:Int):=(by omega);have q14:5<s0_0.size:=(by have:(5:Int)<(s0_0.size:Int):=of_decide_eq_true asm;omega);have hx14:∀ h:5<s0_0.size,((s0_0[5]'h).toNat:Int)=bt s0_0 5:=bt_at s0_0 5;clear p14;have qi14:(5<(s0_0.size:Int))=True:=eq_true (of_decide_eq_true asm);replace q14:=eq_true q14))
 go_ret
 exact⟨ew,by repeat (first|(with_reducible first|exact HI0.out|apply IsS57.alloc|apply IsS57.drewN|apply IsS57.drew|apply IsS57.set_0|apply IsS57.set_1)|exact HI0.out),by repeat (first|(with_reducible first|exact HB.out|apply below_alloc|apply pw_below_drewN|apply below_drew1|refine below_set ?_ (IsS57.ge HI0.out))|exact HB.out),kk⟩
 }
 {
 have c15b0:((bt s0_0 5) == 63)=false:=beq_eq_false_iff_ne.mpr c15
 have c15b1:((bt s0_0 5) != 63)=true:=bne_iff_ne.mpr c15
 simp only [Option.some.injEq,Prod.mk.injEq] at H
 obtain⟨rfl,rfl,rfl⟩:=H
 obtain⟨HGz17,hgz17⟩:=HI0.out
 have hcz17_0:=cellS57_0 HGz17
 have hcz17_1:=cellS57_1 HGz17
 have hfz17_0:=blk_frozen HGz17 0
 have hfz17_1:=blk_frozen HGz17 1
 clear HGz17 hgz17
 go_enter Tryd.func28,Tryd.ntmps28
 go_wp2_with (first|((with_reducible refine gate_callee (f:=55) rfl ?_);refine goesL_ (some 8) rfl rfl Tryd.func55 (by kernel_rfl) rfl #[.string s0_0,.string (⟨#[60,63,120,109,108]⟩ : ByteArray)] rfl am ?_;(with_reducible refine(strings_HasPrefix.calls s0_0 (⟨#[60,63,120,109,108]⟩ : ByteArray) true _ A2.out).mono ?_);rintro e w' ⟨rfl,⟨nd,rfl⟩⟩;refine⟨_,rfl,?_⟩)|((with_reducible refine gate_callee (f:=56) rfl ?_);refine goesL_ (some 15) rfl rfl Tryd.func56 (by kernel_rfl) rfl #[.string (s0_0.extract 5 s0_0.size),.string (⟨#[63,62]⟩ : ByteArray)] rfl am ?_;(with_reducible refine(strings_Index.calls (s0_0.extract 5 s0_0.size) (⟨#[63,62]⟩ : ByteArray) t107 _ (by first|exact hG|exact gok_below hG (by repeat (first|(with_reducible first|exact HB.out|apply below_alloc|apply pw_below_drewN|apply below_drew1|refine below_set ?_ (IsS57.ge HI0.out))|exact HB.out))|exact gok_heap hG rfl|exact gok_drewN hG _|exact gok_below hG (by repeat (first|exact HB.out|exact HBW.out|exact Below.refl _ _|apply below_alloc|apply pw_below_drewN|apply below_drew1))) A5.out).mono ?_);rintro e w' ⟨rfl,⟨nd,rfl⟩⟩;refine⟨_,rfl,?_⟩;have p10:0≤(5:Int):=(by omega);have q10:5<s0_0.size:=(by have:(5:Int)<(s0_0.size:Int):=of_decide_eq_true asm;omega);have hx10:∀ h:5<s0_0.size,((s0_0[5]'h).toNat:Int)=bt s0_0 5:=bt_at s0_0 5;clear p10;have qi10:(5<(s0_0.size:Int))=True:=eq_true (of_decide_eq_true asm);replace q10:=eq_true q10)|(go_at_call 57;(with_reducible refine(xml_white.calls (bt s0_0 5) false _ A11.out).mono ?_);rintro e w' ⟨rfl,⟨nd,rfl⟩⟩;have p14:0≤(5:Int):=(by omega);have q14:5<s0_0.size:=(by have:(5:Int)<(s0_0.size:Int):=of_decide_eq_true asm;omega);have hx14:∀ h:5<s0_0.size,((s0_0[5]'h).toNat:Int)=bt s0_0 5:=bt_at s0_0 5;clear p14;have qi14:(5<(s0_0.size:Int))=True:=eq_true (of_decide_eq_true asm);replace q14:=eq_true q14))
 go_ret
 exact⟨ew,by repeat (first|(with_reducible first|exact HI0.out|apply IsS57.alloc|apply IsS57.drewN|apply IsS57.drew|apply IsS57.set_0|apply IsS57.set_1)|exact HI0.out),by repeat (first|(with_reducible first|exact HB.out|apply below_alloc|apply pw_below_drewN|apply below_drew1|refine below_set ?_ (IsS57.ge HI0.out))|exact HB.out),kk⟩
 }
 }
 }
 ·exact absurd H (by simp)
 }
 {
 have c8b0:decide (0<t107)=false:=decide_eq_false c8
 clear c8
 simp only [Option.some.injEq,Prod.mk.injEq] at H
 obtain⟨rfl,rfl,rfl⟩:=H
 obtain⟨HGz18,hgz18⟩:=HI0.out
 have hcz18_0:=cellS57_0 HGz18
 have hcz18_1:=cellS57_1 HGz18
 have hfz18_0:=blk_frozen HGz18 0
 have hfz18_1:=blk_frozen HGz18 1
 clear HGz18 hgz18
 go_enter Tryd.func28,Tryd.ntmps28
 go_wp2_with (first|((with_reducible refine gate_callee (f:=55) rfl ?_);refine goesL_ (some 8) rfl rfl Tryd.func55 (by kernel_rfl) rfl #[.string s0_0,.string (⟨#[60,63,120,109,108]⟩ : ByteArray)] rfl am ?_;(with_reducible refine(strings_HasPrefix.calls s0_0 (⟨#[60,63,120,109,108]⟩ : ByteArray) true _ A2.out).mono ?_);rintro e w' ⟨rfl,⟨nd,rfl⟩⟩;refine⟨_,rfl,?_⟩)|((with_reducible refine gate_callee (f:=56) rfl ?_);refine goesL_ (some 15) rfl rfl Tryd.func56 (by kernel_rfl) rfl #[.string (s0_0.extract 5 s0_0.size),.string (⟨#[63,62]⟩ : ByteArray)] rfl am ?_;(with_reducible refine(strings_Index.calls (s0_0.extract 5 s0_0.size) (⟨#[63,62]⟩ : ByteArray) t107 _ (by first|exact hG|exact gok_below hG (by repeat (first|(with_reducible first|exact HB.out|apply below_alloc|apply pw_below_drewN|apply below_drew1|refine below_set ?_ (IsS57.ge HI0.out))|exact HB.out))|exact gok_heap hG rfl|exact gok_drewN hG _|exact gok_below hG (by repeat (first|exact HB.out|exact HBW.out|exact Below.refl _ _|apply below_alloc|apply pw_below_drewN|apply below_drew1))) A5.out).mono ?_);rintro e w' ⟨rfl,⟨nd,rfl⟩⟩;refine⟨_,rfl,?_⟩))
 go_ret
 exact⟨ew,by repeat (first|(with_reducible first|exact HI0.out|apply IsS57.alloc|apply IsS57.drewN|apply IsS57.drew|apply IsS57.set_0|apply IsS57.set_1)|exact HI0.out),by repeat (first|(with_reducible first|exact HB.out|apply below_alloc|apply pw_below_drewN|apply below_drew1|refine below_set ?_ (IsS57.ge HI0.out))|exact HB.out),kk⟩
 }
 }
 }
 ·exact absurd H (by simp)
 }
 {
 replace c3:=Bool.eq_false_iff.mpr c3
 subst c3
 replace H:=itF H
 simp only [Option.some.injEq,Prod.mk.injEq] at H
 obtain⟨rfl,rfl,rfl⟩:=H
 obtain⟨HGz19,hgz19⟩:=HI0.out
 have hcz19_0:=cellS57_0 HGz19
 have hcz19_1:=cellS57_1 HGz19
 have hfz19_0:=blk_frozen HGz19 0
 have hfz19_1:=blk_frozen HGz19 1
 clear HGz19 hgz19
 go_enter Tryd.func28,Tryd.ntmps28
 go_wp2_with (first|((with_reducible refine gate_callee (f:=55) rfl ?_);refine goesL_ (some 8) rfl rfl Tryd.func55 (by kernel_rfl) rfl #[.string s0_0,.string (⟨#[60,63,120,109,108]⟩ : ByteArray)] rfl am ?_;(with_reducible refine(strings_HasPrefix.calls s0_0 (⟨#[60,63,120,109,108]⟩ : ByteArray) false _ A2.out).mono ?_);rintro e w' ⟨rfl,⟨nd,rfl⟩⟩;refine⟨_,rfl,?_⟩))
 go_ret
 exact⟨ew,by repeat (first|(with_reducible first|exact HI0.out|apply IsS57.alloc|apply IsS57.drewN|apply IsS57.drew|apply IsS57.set_0|apply IsS57.set_1)|exact HI0.out),by repeat (first|(with_reducible first|exact HB.out|apply below_alloc|apply pw_below_drewN|apply below_drew1|refine below_set ?_ (IsS57.ge HI0.out))|exact HB.out),kk⟩
 }
def xml_letter.f (a0:Int):Option (Bool):=if a0 ≥ 65 then(if a0≤90 then(some true) else(if a0 ≥ 97 then(if a0≤122 then(some true) else(some (a0 == 95))) else(some (a0 == 95)))) else(if a0 ≥ 97 then(if a0≤122 then(some true) else(some (a0 == 95))) else(some (a0 == 95)))
theorem xml_letter.calls (a0:Int) (r:Bool) (w:World) (h:xml_letter.f a0=some r) :
  Calls Tryd.prog 43 #[.int .u8 a0] w fun e w'=>e = .returned (.bool r)∧Drawn0 w w':=by
 unfold xml_letter.f at h
 have H:=h
 clear h
 replace H:=itO H
 rcases H with⟨c2,H⟩|⟨c2,H⟩
 ·skip
  have c2b0:decide (65≤a0)=true:=decide_eq_true c2
  clear c2
  replace H:=itO H
  rcases H with⟨c3,H⟩|⟨c3,H⟩
  ·skip
   have c3b0:decide (a0≤90)=true:=decide_eq_true c3
   clear c3
   obtain rfl:=Option.some.inj H
   go_enter Tryd.func43,Tryd.ntmps43
   go_wp2
   go_ret
   exact⟨by first|rfl|(simp;done)|(simp [*];done),by repeat (first|exact Drawn0.refl _|apply Drawn0.step)⟩
  ·skip
   have c3b0:decide (a0≤90)=false:=decide_eq_false c3
   clear c3
   replace H:=itO H
   rcases H with⟨c4,H⟩|⟨c4,H⟩
   ·skip
    have c4b0:decide (97≤a0)=true:=decide_eq_true c4
    clear c4
    replace H:=itO H
    rcases H with⟨c5,H⟩|⟨c5,H⟩
    ·skip
     have c5b0:decide (a0≤122)=true:=decide_eq_true c5
     clear c5
     obtain rfl:=Option.some.inj H
     go_enter Tryd.func43,Tryd.ntmps43
     go_wp2
     go_ret
     exact⟨by first|rfl|(simp;done)|(simp [*];done),by repeat (first|exact Drawn0.refl _|apply Drawn0.step)⟩
    ·skip
     have c5b0:decide (a0≤122)=false:=decide_eq_false c5
     clear c5
     obtain rfl:=Option.some.inj H
     go_enter Tryd.func43,Tryd.ntmps43
     go_wp2
     go_ret
     exact⟨by first|rfl|(simp;done)|(simp [*];done),by repeat (first|exact Drawn0.refl _|apply Drawn0.step)⟩
   ·skip
    have c4b0:decide (97≤a0)=false:=decide_eq_false c4
    clear c4
    obtain rfl:=Option.some.inj H
    go_enter Tryd.func43,Tryd.ntmps43
    go_wp2
    go_ret
    exact⟨by first|rfl|(simp;done)|(simp [*];done),by repeat (first|exact Drawn0.refl _|apply Drawn0.step)⟩
 ·skip
  have c2b0:decide (65≤a0)=false:=decide_eq_false c2
  clear c2
  replace H:=itO H
  rcases H with⟨c6,H⟩|⟨c6,H⟩
  ·skip
   have c6b0:decide (97≤a0)=true:=decide_eq_true c6
   clear c6
   replace H:=itO H
   rcases H with⟨c7,H⟩|⟨c7,H⟩
   ·skip
    have c7b0:decide (a0≤122)=true:=decide_eq_true c7
    clear c7
    obtain rfl:=Option.some.inj H
    go_enter Tryd.func43,Tryd.ntmps43
    go_wp2
    go_ret
    exact⟨by first|rfl|(simp;done)|(simp [*];done),by repeat (first|exact Drawn0.refl _|apply Drawn0.step)⟩
   ·skip
    have c7b0:decide (a0≤122)=false:=decide_eq_false c7
    clear c7
    obtain rfl:=Option.some.inj H
    go_enter Tryd.func43,Tryd.ntmps43
    go_wp2
    go_ret
    exact⟨by first|rfl|(simp;done)|(simp [*];done),by repeat (first|exact Drawn0.refl _|apply Drawn0.step)⟩
  ·skip
   have c6b0:decide (97≤a0)=false:=decide_eq_false c6
   clear c6
   obtain rfl:=Option.some.inj H
   go_enter Tryd.func43,Tryd.ntmps43
   go_wp2
   go_ret
   exact⟨by first|rfl|(simp;done)|(simp [*];done),by repeat (first|exact Drawn0.refl _|apply Drawn0.step)⟩
def xml_inner.f (a0:Int):Option (Bool):=(xml_letter.f a0).bind fun t110=>(if t110=true then(some true) else(if a0 ≥ 48 then(if a0≤57 then(some true) else(if a0=45 then(some true) else(some (a0 == 46)))) else(if a0=45 then(some true) else(some (a0 == 46)))))
theorem xml_inner.calls (a0:Int) (r:Bool) (w:World) (h:xml_inner.f a0=some r) :
  Calls Tryd.prog 42 #[.int .u8 a0] w fun e w'=>e = .returned (.bool r)∧Drawn0 w w':=by
 unfold xml_inner.f at h
 have H:=h
 clear h
 replace H:=bndO H
 obtain⟨t110,A20,H⟩:=H
 have A2:=Aside0.mk A20
 clear A20
 by_cases c3:t110=true
 ·subst c3
  replace H:=itT H
  obtain rfl:=Option.some.inj H
  go_enter Tryd.func42,Tryd.ntmps42
  go_wp2_with (first|((with_reducible refine gate_callee (f:=43) rfl ?_);refine goesL_ (some 4) rfl rfl Tryd.func43 (by kernel_rfl) rfl #[.int .u8 a0] rfl (by(try simp only [List.map_toArray,List.map_cons,List.map_nil]);first|done|rfl|(simp only [List.length_drop,List.length_take];rfl)) ?_;(with_reducible refine(xml_letter.calls a0 true _ A2.out).mono ?_);rintro e w' ⟨rfl,⟨nd,rfl⟩⟩;refine⟨_,rfl,?_⟩))
  go_ret
  exact⟨by first|rfl|(simp;done)|(simp [*];done),by repeat (first|exact Drawn0.refl _|apply Drawn0.step)⟩
 ·replace c3:=Bool.eq_false_iff.mpr c3
  subst c3
  replace H:=itF H
  replace H:=itO H
  rcases H with⟨c4,H⟩|⟨c4,H⟩
  ·skip
   have c4b0:decide (48≤a0)=true:=decide_eq_true c4
   clear c4
   replace H:=itO H
   rcases H with⟨c5,H⟩|⟨c5,H⟩
   ·skip
    have c5b0:decide (a0≤57)=true:=decide_eq_true c5
    clear c5
    obtain rfl:=Option.some.inj H
    go_enter Tryd.func42,Tryd.ntmps42
    go_wp2_with (first|((with_reducible refine gate_callee (f:=43) rfl ?_);refine goesL_ (some 4) rfl rfl Tryd.func43 (by kernel_rfl) rfl #[.int .u8 a0] rfl (by(try simp only [List.map_toArray,List.map_cons,List.map_nil]);first|done|rfl|(simp only [List.length_drop,List.length_take];rfl)) ?_;(with_reducible refine(xml_letter.calls a0 false _ A2.out).mono ?_);rintro e w' ⟨rfl,⟨nd,rfl⟩⟩;refine⟨_,rfl,?_⟩))
    go_ret
    exact⟨by first|rfl|(simp;done)|(simp [*];done),by repeat (first|exact Drawn0.refl _|apply Drawn0.step)⟩
   ·skip
    have c5b0:decide (a0≤57)=false:=decide_eq_false c5
    clear c5
    replace H:=itO H
    rcases H with⟨c6,H⟩|⟨c6,H⟩
    ·skip
     have c6b0:(a0 == 45)=true:=beq_iff_eq.mpr c6
     have c6b1:(a0 != 45)=false:=bne_eq_false_iff_eq.mpr c6
     clear c6
     obtain rfl:=Option.some.inj H
     go_enter Tryd.func42,Tryd.ntmps42
     go_wp2_with (first|((with_reducible refine gate_callee (f:=43) rfl ?_);refine goesL_ (some 4) rfl rfl Tryd.func43 (by kernel_rfl) rfl #[.int .u8 a0] rfl (by(try simp only [List.map_toArray,List.map_cons,List.map_nil]);first|done|rfl|(simp only [List.length_drop,List.length_take];rfl)) ?_;(with_reducible refine(xml_letter.calls a0 false _ A2.out).mono ?_);rintro e w' ⟨rfl,⟨nd,rfl⟩⟩;refine⟨_,rfl,?_⟩))
     go_ret
     exact⟨by first|rfl|(simp;done)|(simp [*];done),by repeat (first|exact Drawn0.refl _|apply Drawn0.step)⟩
    ·skip
     have c6b0:(a0 == 45)=false:=beq_eq_false_iff_ne.mpr c6
     have c6b1:(a0 != 45)=true:=bne_iff_ne.mpr c6
     obtain rfl:=Option.some.inj H
     go_enter Tryd.func42,Tryd.ntmps42
     go_wp2_with (first|((with_reducible refine gate_callee (f:=43) rfl ?_);refine goesL_ (some 4) rfl rfl Tryd.func43 (by kernel_rfl) rfl #[.int .u8 a0] rfl (by(try simp only [List.map_toArray,List.map_cons,List.map_nil]);first|done|rfl|(simp only [List.length_drop,List.length_take];rfl)) ?_;(with_reducible refine(xml_letter.calls a0 false _ A2.out).mono ?_);rintro e w' ⟨rfl,⟨nd,rfl⟩⟩;refine⟨_,rfl,?_⟩))
     go_ret
     exact⟨by first|rfl|(simp;done)|(simp [*];done),by repeat (first|exact Drawn0.refl _|apply Drawn0.step)⟩
  ·skip
   have c4b0:decide (48≤a0)=false:=decide_eq_false c4
   clear c4
   replace H:=itO H
   rcases H with⟨c7,H⟩|⟨c7,H⟩
   ·skip
    have c7b0:(a0 == 45)=true:=beq_iff_eq.mpr c7
    have c7b1:(a0 != 45)=false:=bne_eq_false_iff_eq.mpr c7
    clear c7
    obtain rfl:=Option.some.inj H
    go_enter Tryd.func42,Tryd.ntmps42
    go_wp2_with (first|((with_reducible refine gate_callee (f:=43) rfl ?_);refine goesL_ (some 4) rfl rfl Tryd.func43 (by kernel_rfl) rfl #[.int .u8 a0] rfl (by(try simp only [List.map_toArray,List.map_cons,List.map_nil]);first|done|rfl|(simp only [List.length_drop,List.length_take];rfl)) ?_;(with_reducible refine(xml_letter.calls a0 false _ A2.out).mono ?_);rintro e w' ⟨rfl,⟨nd,rfl⟩⟩;refine⟨_,rfl,?_⟩))
    go_ret
    exact⟨by first|rfl|(simp;done)|(simp [*];done),by repeat (first|exact Drawn0.refl _|apply Drawn0.step)⟩
   ·skip
    have c7b0:(a0 == 45)=false:=beq_eq_false_iff_ne.mpr c7
    have c7b1:(a0 != 45)=true:=bne_iff_ne.mpr c7
    obtain rfl:=Option.some.inj H
    go_enter Tryd.func42,Tryd.ntmps42
    go_wp2_with (first|((with_reducible refine gate_callee (f:=43) rfl ?_);refine goesL_ (some 4) rfl rfl Tryd.func43 (by kernel_rfl) rfl #[.int .u8 a0] rfl (by(try simp only [List.map_toArray,List.map_cons,List.map_nil]);first|done|rfl|(simp only [List.length_drop,List.length_take];rfl)) ?_;(with_reducible refine(xml_letter.calls a0 false _ A2.out).mono ?_);rintro e w' ⟨rfl,⟨nd,rfl⟩⟩;refine⟨_,rfl,?_⟩))
    go_ret
    exact⟨by first|rfl|(simp;done)|(simp [*];done),by repeat (first|exact Drawn0.refl _|apply Drawn0.step)⟩
def xml_reader_name.l0:Nat→Int→ByteArray→Int→Option (ByteArray×ByteArray×Int)
  | 0,_,_,_=>none
  | k+1,x3,x1000,x1001=>if x1001<(x1000.size:Int) then(if 0≤x1001 then((xml_inner.f (bt x1000 x1001)).bind fun t114=>(if t114=true then(xml_reader_name.l0 k x3 x1000 (wrap64 (x1001+1))) else(if 0≤x3 then(if x3≤x1001 then(if x1001≤(x1000.size:Int) then(some (x1000.extract (x3:Int).toNat (x1001:Int).toNat,x1000,x1001)) else(none)) else(none)) else(none)))) else(none)) else(if 0≤x3 then(if x3≤x1001 then(if x1001≤(x1000.size:Int) then(some (x1000.extract (x3:Int).toNat (x1001:Int).toNat,x1000,x1001)) else(none)) else(none)) else(none))
def xml_reader_name.f (k:Nat) (s0_0:ByteArray) (s0_1:Int):Option (ByteArray×ByteArray×Int):=xml_reader_name.l0 k s0_1 s0_0 s0_1
theorem xml_reader_name.mono_l:∀ k,(∀ y0 y1 y2,LeO (xml_reader_name.l0 k y0 y1 y2) (xml_reader_name.l0 (k+1) y0 y1 y2))
  | 0=>fun _ _ _ r h=>by simp [xml_reader_name.l0] at h
  | k+1=>by
    have ih0:=xml_reader_name.mono_l k
    · intro y0 y1 y2
      unfold xml_reader_name.l0
      repeat' first
      | (with_reducible exact ih0 _ _ _)
      | (with_reducible exact LeO.refl _)
      | (with_reducible exact LeO.none _)
      | (with_reducible refine LeO.ite ?_ ?_)
      | (with_reducible refine LeO.bind ?_ (fun _=>?_))
      | exact ih0 _ _ _
      | exact LeO.none _
      | refine LeO.ite ?_ ?_
      | refine LeO.bind ?_ (fun _=>?_)
theorem xml_reader_name.mono:∀ a0 a1 k,LeO (xml_reader_name.f k a0 a1) (xml_reader_name.f (k+1) a0 a1):=by
 intro a0 a1 k
 have ih0:=xml_reader_name.mono_l k
 unfold xml_reader_name.f
 repeat' first
     | (with_reducible exact ih0 _ _ _)
     | (with_reducible exact LeO.refl _)
     | (with_reducible exact LeO.none _)
     | (with_reducible refine LeO.ite ?_ ?_)
     | (with_reducible refine LeO.bind ?_ (fun _=>?_))
     | exact ih0 _ _ _
     | exact LeO.none _
     | refine LeO.ite ?_ ?_
     | refine LeO.bind ?_ (fun _=>?_)
theorem xml_reader_name.calls (k:Nat) (g:Nat) (s0_0:ByteArray) (s0_1:Int) (r1:ByteArray) (r2:ByteArray) (r3:Int) (w0 w:World) (hI:IsS57 w0 w g s0_0 s0_1) (hB:Below w0.heap.size w0 w) (h:xml_reader_name.f k s0_0 s0_1=some (r1,r2,r3)) :
    Calls Tryd.prog 59 #[.pointer (some ⟨g,0,none⟩)] w fun e w'=>e = .returned (.string r1)∧IsS57 w0 w' g r2 r3∧Below w0.heap.size w0 w'∧KeepBut w w' g none:=by
 have HI0:=Aside0.mk hI
 have HK:=Aside0.mk (KeepBut.refl w g none)
 have HL:=Aside0.mk hB.size
 clear hI
 have HW0:=Aside0.mk hB.size
 have HB:=Aside0.mk hB
 clear hB
 unfold xml_reader_name.f at h
 have H:=h
 clear h
 have H':=Aside0.mk H
 clear H
 obtain⟨HGz2,hgz2⟩:=HI0.out
 have hcz2_0:=cellS57_0 HGz2
 have hcz2_1:=cellS57_1 HGz2
 have hfz2_0:=blk_frozen HGz2 0
 have hfz2_1:=blk_frozen HGz2 1
 clear HGz2 hgz2
 go_enter Tryd.func59,Tryd.ntmps59
 go_wp2
 repeat (go_quiet (fail);try go_wp2)
 go_loopg [] k (fun kq w'=>∃ (x1001_1:Int),Aside0 (xml_reader_name.l0 kq s0_1 s0_0 x1001_1=some (r1,r2,r3))∧Aside0 (kq≤k)∧Aside0 (IsS57 w0 w' g s0_0 x1001_1)∧Aside0 (KeepBut w w' g none)∧Aside0 (Below w0.heap.size w0 w'))
 case atStart=>exact⟨(s0_1),H',⟨Nat.le_refl _⟩,⟨by repeat (first|(with_reducible first|exact HI0.out|apply IsS57.alloc|apply IsS57.drewN|apply IsS57.drew|apply IsS57.set_0|apply IsS57.set_1)|exact HI0.out)⟩,⟨kk⟩,⟨by repeat (first|(with_reducible first|exact HB.out|apply below_alloc|apply pw_below_drewN|apply below_drew1|refine below_set ?_ (IsS57.ge HI0.out))|exact HB.out)⟩⟩
 case round=>
  clear H'
  obtain⟨x1001_1,HA,HK1,HI0,HK,HB⟩:=hrel
  cases gk with
  | zero=>exact absurd HA.out (by simp [xml_reader_name.l0])
  | succ k1=>
   have H:=HA.out
   clear HA
   simp only [xml_reader_name.l0] at H
   replace H:=itO H
   rcases H with⟨c3,H⟩|⟨c3,H⟩
   {
   have c3b0:decide (x1001_1<(s0_0.size:Int))=true:=decide_eq_true c3
   clear c3
   replace H:=itO H
   rcases H with⟨c4,H⟩|⟨c4,H⟩
   {
   have c4b0:decide (0≤x1001_1)=true:=decide_eq_true c4
   clear c4
   replace H:=bndO H
   obtain⟨t114,A60,H⟩:=H
   have A6:=Aside0.mk A60
   clear A60
   by_cases c7:t114=true
   {
   subst c7
   replace H:=itT H
   have H':=Aside0.mk H
   clear H
   obtain⟨HGz8,hgz8⟩:=HI0.out
   have hcz8_0:=cellS57_0 HGz8
   have hcz8_1:=cellS57_1 HGz8
   have hfz8_0:=blk_frozen HGz8 0
   have hfz8_1:=blk_frozen HGz8 1
   clear HGz8 hgz8
   have p5:0≤(x1001_1:Int):=of_decide_eq_true asm
   have q5:x1001_1<(s0_0.size:Int):=of_decide_eq_true asm
   have hx5:=bt_at s0_0 x1001_1
   replace p5:=eq_true p5
   replace q5:=eq_true q5
   go_wp2_with (first|(go_at_call 42;(with_reducible refine(xml_inner.calls (bt s0_0 x1001_1) true _ A6.out).mono ?_);rintro e w' ⟨rfl,⟨nd,rfl⟩⟩;(try exact dd)))
   repeat (go_quiet (first|(go_at_call 42;(with_reducible refine(xml_inner.calls (bt s0_0 x1001_1) true _ A6.out).mono ?_);rintro e w' ⟨rfl,⟨nd,rfl⟩⟩;(try exact dd)));try go_wp2_with (first|(go_at_call 42;(with_reducible refine(xml_inner.calls (bt s0_0 x1001_1) true _ A6.out).mono ?_);rintro e w' ⟨rfl,⟨nd,rfl⟩⟩;(try exact dd))))
   go_roundg k1
   case measure=>have:=HK1.out;omega
   case rel=>exact⟨(wrap64 (x1001_1+1)),H',⟨by have:=HK1.out;omega⟩,⟨by repeat (first|(with_reducible first|exact HI0.out|apply IsS57.alloc|apply IsS57.drewN|apply IsS57.drew|apply IsS57.set_0|apply IsS57.set_1)|exact HI0.out)⟩,⟨kk⟩,⟨by repeat (first|(with_reducible first|exact HB.out|apply below_alloc|apply pw_below_drewN|apply below_drew1|refine below_set ?_ (IsS57.ge HI0.out))|exact HB.out)⟩⟩
   }
   {
   replace c7:=Bool.eq_false_iff.mpr c7
   subst c7
   replace H:=itF H
   replace H:=itO H
   rcases H with⟨c9,H⟩|⟨c9,H⟩
   {
   have c9b0:=eq_true c9
   have c9b1:=decide_eq_true c9
   clear c9
   replace H:=itO H
   rcases H with⟨c10,H⟩|⟨c10,H⟩
   {
   have c10b0:=eq_true c10
   have c10b1:=decide_eq_true c10
   clear c10
   replace H:=itO H
   rcases H with⟨c11,H⟩|⟨c11,H⟩
   {
   have c11b0:=eq_true c11
   have c11b1:=decide_eq_true c11
   clear c11
   simp only [Option.some.injEq,Prod.mk.injEq] at H
   obtain⟨rfl,rfl,rfl⟩:=H
   obtain⟨HGz12,hgz12⟩:=HI0.out
   have hcz12_0:=cellS57_0 HGz12
   have hcz12_1:=cellS57_1 HGz12
   have hfz12_0:=blk_frozen HGz12 0
   have hfz12_1:=blk_frozen HGz12 1
   clear HGz12 hgz12
   have p5:0≤(x1001_1:Int):=of_decide_eq_true asm
   have q5:x1001_1<(s0_0.size:Int):=of_decide_eq_true asm
   have hx5:=bt_at s0_0 x1001_1
   replace p5:=eq_true p5
   replace q5:=eq_true q5
   go_wp2_with (first|(go_at_call 42;(with_reducible refine(xml_inner.calls (bt s0_0 x1001_1) false _ A6.out).mono ?_);rintro e w' ⟨rfl,⟨nd,rfl⟩⟩;(try exact dd)))
   repeat (go_quiet (first|(go_at_call 42;(with_reducible refine(xml_inner.calls (bt s0_0 x1001_1) false _ A6.out).mono ?_);rintro e w' ⟨rfl,⟨nd,rfl⟩⟩;(try exact dd)));try go_wp2_with (first|(go_at_call 42;(with_reducible refine(xml_inner.calls (bt s0_0 x1001_1) false _ A6.out).mono ?_);rintro e w' ⟨rfl,⟨nd,rfl⟩⟩;(try exact dd))))
   go_ret
   exact⟨ew,by repeat (first|(with_reducible first|exact HI0.out|apply IsS57.alloc|apply IsS57.drewN|apply IsS57.drew|apply IsS57.set_0|apply IsS57.set_1)|exact HI0.out),by repeat (first|(with_reducible first|exact HB.out|apply below_alloc|apply pw_below_drewN|apply below_drew1|refine below_set ?_ (IsS57.ge HI0.out))|exact HB.out),kk⟩
   }
   ·exact absurd H (by simp)
   }
   ·exact absurd H (by simp)
   }
   ·exact absurd H (by simp)
   }
   }
   ·exact absurd H (by simp)
   }
   {
   have c3b0:decide (x1001_1<(s0_0.size:Int))=false:=decide_eq_false c3
   clear c3
   replace H:=itO H
   rcases H with⟨c13,H⟩|⟨c13,H⟩
   {
   have c13b0:=eq_true c13
   have c13b1:=decide_eq_true c13
   clear c13
   replace H:=itO H
   rcases H with⟨c14,H⟩|⟨c14,H⟩
   {
   have c14b0:=eq_true c14
   have c14b1:=decide_eq_true c14
   clear c14
   replace H:=itO H
   rcases H with⟨c15,H⟩|⟨c15,H⟩
   {
   have c15b0:=eq_true c15
   have c15b1:=decide_eq_true c15
   clear c15
   simp only [Option.some.injEq,Prod.mk.injEq] at H
   obtain⟨rfl,rfl,rfl⟩:=H
   obtain⟨HGz16,hgz16⟩:=HI0.out
   have hcz16_0:=cellS57_0 HGz16
   have hcz16_1:=cellS57_1 HGz16
   have hfz16_0:=blk_frozen HGz16 0
   have hfz16_1:=blk_frozen HGz16 1
   clear HGz16 hgz16
   go_wp2
   repeat (go_quiet (fail);try go_wp2)
   go_ret
   exact⟨ew,by repeat (first|(with_reducible first|exact HI0.out|apply IsS57.alloc|apply IsS57.drewN|apply IsS57.drew|apply IsS57.set_0|apply IsS57.set_1)|exact HI0.out),by repeat (first|(with_reducible first|exact HB.out|apply below_alloc|apply pw_below_drewN|apply below_drew1|refine below_set ?_ (IsS57.ge HI0.out))|exact HB.out),kk⟩
   }
   ·exact absurd H (by simp)
   }
   ·exact absurd H (by simp)
   }
   ·exact absurd H (by simp)
   }
def xml_reader_space.l0:Nat→Int→ByteArray→Int→Option (Bool×ByteArray×Int)
  | 0,_,_,_=>none
  | k+1,x3,x1000,x1001=>if x1001<(x1000.size:Int) then(if 0≤x1001 then((xml_white.f (bt x1000 x1001)).bind fun t109=>(if t109=true then(xml_reader_space.l0 k x3 x1000 (wrap64 (x1001+1))) else(some (decide (x1001>x3),x1000,x1001)))) else(none)) else(some (decide (x1001>x3),x1000,x1001))
def xml_reader_space.f (k:Nat) (s0_0:ByteArray) (s0_1:Int):Option (Bool×ByteArray×Int):=xml_reader_space.l0 k s0_1 s0_0 s0_1
theorem xml_reader_space.mono_l:∀ k,(∀ y0 y1 y2,LeO (xml_reader_space.l0 k y0 y1 y2) (xml_reader_space.l0 (k+1) y0 y1 y2))
  | 0=>fun _ _ _ r h=>by simp [xml_reader_space.l0] at h
  | k+1=>by
    have ih0:=xml_reader_space.mono_l k
    · intro y0 y1 y2
      unfold xml_reader_space.l0
      repeat' first
      | (with_reducible exact ih0 _ _ _)
      | (with_reducible exact LeO.refl _)
      | (with_reducible exact LeO.none _)
      | (with_reducible refine LeO.ite ?_ ?_)
      | (with_reducible refine LeO.bind ?_ (fun _=>?_))
      | exact ih0 _ _ _
      | exact LeO.none _
      | refine LeO.ite ?_ ?_
      | refine LeO.bind ?_ (fun _=>?_)
theorem xml_reader_space.mono:∀ a0 a1 k,LeO (xml_reader_space.f k a0 a1) (xml_reader_space.f (k+1) a0 a1):=by
 intro a0 a1 k
 have ih0:=xml_reader_space.mono_l k
 unfold xml_reader_space.f
 repeat' first
     | (with_reducible exact ih0 _ _ _)
     | (with_reducible exact LeO.refl _)
     | (with_reducible exact LeO.none _)
     | (with_reducible refine LeO.ite ?_ ?_)
     | (with_reducible refine LeO.bind ?_ (fun _=>?_))
     | exact ih0 _ _ _
     | exact LeO.none _
     | refine LeO.ite ?_ ?_
     | refine LeO.bind ?_ (fun _=>?_)
theorem xml_reader_space.calls (k:Nat) (g:Nat) (s0_0:ByteArray) (s0_1:Int) (r1:Bool) (r2:ByteArray) (r3:Int) (w0 w:World) (hI:IsS57 w0 w g s0_0 s0_1) (hB:Below w0.heap.size w0 w) (h:xml_reader_space.f k s0_0 s0_1=some (r1,r2,r3)) :
    Calls Tryd.prog 29 #[.pointer (some ⟨g,0,none⟩)] w fun e w'=>e = .returned (.bool r1)∧IsS57 w0 w' g r2 r3∧Below w0.heap.size w0 w'∧KeepBut w w' g none:=by
 have HI0:=Aside0.mk hI
 have HK:=Aside0.mk (KeepBut.refl w g none)
 have HL:=Aside0.mk hB.size
 clear hI
 have HW0:=Aside0.mk hB.size
 have HB:=Aside0.mk hB
 clear hB
 unfold xml_reader_space.f at h
 have H:=h
 clear h
 have H':=Aside0.mk H
 clear H
 obtain⟨HGz2,hgz2⟩:=HI0.out
 have hcz2_0:=cellS57_0 HGz2
 have hcz2_1:=cellS57_1 HGz2
 have hfz2_0:=blk_frozen HGz2 0
 have hfz2_1:=blk_frozen HGz2 1
 clear HGz2 hgz2
 go_enter Tryd.func29,Tryd.ntmps29
 go_wp2
 repeat (go_quiet (fail);try go_wp2)
 go_loopg [] k (fun kq w'=>∃ (x1001_1:Int),Aside0 (xml_reader_space.l0 kq s0_1 s0_0 x1001_1=some (r1,r2,r3))∧Aside0 (kq≤k)∧Aside0 (IsS57 w0 w' g s0_0 x1001_1)∧Aside0 (KeepBut w w' g none)∧Aside0 (Below w0.heap.size w0 w'))
 case atStart=>exact⟨(s0_1),H',⟨Nat.le_refl _⟩,⟨by repeat (first|(with_reducible first|exact HI0.out|apply IsS57.alloc|apply IsS57.drewN|apply IsS57.drew|apply IsS57.set_0|apply IsS57.set_1)|exact HI0.out)⟩,⟨kk⟩,⟨by repeat (first|(with_reducible first|exact HB.out|apply below_alloc|apply pw_below_drewN|apply below_drew1|refine below_set ?_ (IsS57.ge HI0.out))|exact HB.out)⟩⟩
 case round=>
  clear H'
  obtain⟨x1001_1,HA,HK1,HI0,HK,HB⟩:=hrel
  cases gk with
  | zero=>exact absurd HA.out (by simp [xml_reader_space.l0])
  | succ k1=>
   have H:=HA.out
   clear HA
   simp only [xml_reader_space.l0] at H
   replace H:=itO H
   rcases H with⟨c3,H⟩|⟨c3,H⟩
   {
   have c3b0:decide (x1001_1<(s0_0.size:Int))=true:=decide_eq_true c3
   clear c3
   replace H:=itO H
   rcases H with⟨c4,H⟩|⟨c4,H⟩
   {
   have c4b0:decide (0≤x1001_1)=true:=decide_eq_true c4
   clear c4
   replace H:=bndO H
   obtain⟨t109,A60,H⟩:=H
   have A6:=Aside0.mk A60
   clear A60
   by_cases c7:t109=true
   {
   subst c7
   replace H:=itT H
   have H':=Aside0.mk H
   clear H
   obtain⟨HGz8,hgz8⟩:=HI0.out
   have hcz8_0:=cellS57_0 HGz8
   have hcz8_1:=cellS57_1 HGz8
   have hfz8_0:=blk_frozen HGz8 0
   have hfz8_1:=blk_frozen HGz8 1
   clear HGz8 hgz8
   have p5:0≤(x1001_1:Int):=of_decide_eq_true asm
   have q5:x1001_1<(s0_0.size:Int):=of_decide_eq_true asm
   have hx5:=bt_at s0_0 x1001_1
   replace p5:=eq_true p5
   replace q5:=eq_true q5
   go_wp2_with (first|(go_at_call 57;(with_reducible refine(xml_white.calls (bt s0_0 x1001_1) true _ A6.out).mono ?_);rintro e w' ⟨rfl,⟨nd,rfl⟩⟩;(try exact dd)))
   repeat (go_quiet (first|(go_at_call 57;(with_reducible refine(xml_white.calls (bt s0_0 x1001_1) true _ A6.out).mono ?_);rintro e w' ⟨rfl,⟨nd,rfl⟩⟩;(try exact dd)));try go_wp2_with (first|(go_at_call 57;(with_reducible refine(xml_white.calls (bt s0_0 x1001_1) true _ A6.out).mono ?_);rintro e w' ⟨rfl,⟨nd,rfl⟩⟩;(try exact dd))))
   go_roundg k1
   case measure=>have:=HK1.out;omega
   case rel=>exact⟨(wrap64 (x1001_1+1)),H',⟨by have:=HK1.out;omega⟩,⟨by repeat (first|(with_reducible first|exact HI0.out|apply IsS57.alloc|apply IsS57.drewN|apply IsS57.drew|apply IsS57.set_0|apply IsS57.set_1)|exact HI0.out)⟩,⟨kk⟩,⟨by repeat (first|(with_reducible first|exact HB.out|apply below_alloc|apply pw_below_drewN|apply below_drew1|refine below_set ?_ (IsS57.ge HI0.out))|exact HB.out)⟩⟩
   }
   {
   replace c7:=Bool.eq_false_iff.mpr c7
   subst c7
   replace H:=itF H
   simp only [Option.some.injEq,Prod.mk.injEq] at H
   obtain⟨rfl,rfl,rfl⟩:=H
   obtain⟨HGz9,hgz9⟩:=HI0.out
   have hcz9_0:=cellS57_0 HGz9
   have hcz9_1:=cellS57_1 HGz9
   have hfz9_0:=blk_frozen HGz9 0
   have hfz9_1:=blk_frozen HGz9 1
   clear HGz9 hgz9
   have p5:0≤(x1001_1:Int):=of_decide_eq_true asm
   have q5:x1001_1<(s0_0.size:Int):=of_decide_eq_true asm
   have hx5:=bt_at s0_0 x1001_1
   replace p5:=eq_true p5
   replace q5:=eq_true q5
   go_wp2_with (first|(go_at_call 57;(with_reducible refine(xml_white.calls (bt s0_0 x1001_1) false _ A6.out).mono ?_);rintro e w' ⟨rfl,⟨nd,rfl⟩⟩;(try exact dd)))
   repeat (go_quiet (first|(go_at_call 57;(with_reducible refine(xml_white.calls (bt s0_0 x1001_1) false _ A6.out).mono ?_);rintro e w' ⟨rfl,⟨nd,rfl⟩⟩;(try exact dd)));try go_wp2_with (first|(go_at_call 57;(with_reducible refine(xml_white.calls (bt s0_0 x1001_1) false _ A6.out).mono ?_);rintro e w' ⟨rfl,⟨nd,rfl⟩⟩;(try exact dd))))
   go_ret
   exact⟨ew,by repeat (first|(with_reducible first|exact HI0.out|apply IsS57.alloc|apply IsS57.drewN|apply IsS57.drew|apply IsS57.set_0|apply IsS57.set_1)|exact HI0.out),by repeat (first|(with_reducible first|exact HB.out|apply below_alloc|apply pw_below_drewN|apply below_drew1|refine below_set ?_ (IsS57.ge HI0.out))|exact HB.out),kk⟩
   }
   }
   ·exact absurd H (by simp)
   }
   {
   have c3b0:decide (x1001_1<(s0_0.size:Int))=false:=decide_eq_false c3
   clear c3
   simp only [Option.some.injEq,Prod.mk.injEq] at H
   obtain⟨rfl,rfl,rfl⟩:=H
   obtain⟨HGz10,hgz10⟩:=HI0.out
   have hcz10_0:=cellS57_0 HGz10
   have hcz10_1:=cellS57_1 HGz10
   have hfz10_0:=blk_frozen HGz10 0
   have hfz10_1:=blk_frozen HGz10 1
   clear HGz10 hgz10
   go_wp2
   repeat (go_quiet (fail);try go_wp2)
   go_ret
   exact⟨ew,by repeat (first|(with_reducible first|exact HI0.out|apply IsS57.alloc|apply IsS57.drewN|apply IsS57.drew|apply IsS57.set_0|apply IsS57.set_1)|exact HI0.out),by repeat (first|(with_reducible first|exact HB.out|apply below_alloc|apply pw_below_drewN|apply below_drew1|refine below_set ?_ (IsS57.ge HI0.out))|exact HB.out),kk⟩
   }
def xml_reader_eat.f (s0_0:ByteArray) (s0_1:Int) (a1:ByteArray):Option (Bool×ByteArray×Int):=if 0≤s0_1 then(if s0_1≤(s0_0.size:Int) then((strings_HasPrefix.f (s0_0.extract (s0_1:Int).toNat s0_0.size) a1).bind fun t113=>(if t113=true then(some (true,s0_0,wrap64 (s0_1+(a1.size:Int)))) else(some (false,s0_0,s0_1)))) else(none)) else(none)
theorem xml_reader_eat.calls (g:Nat) (s0_0:ByteArray) (s0_1:Int) (a1:ByteArray) (r1:Bool) (r2:ByteArray) (r3:Int) (w0 w:World) (hI:IsS57 w0 w g s0_0 s0_1) (hB:Below w0.heap.size w0 w) (h:xml_reader_eat.f s0_0 s0_1 a1=some (r1,r2,r3)) :
  Calls Tryd.prog 58 #[.pointer (some ⟨g,0,none⟩),.string a1] w fun e w'=>e = .returned (.bool r1)∧IsS57 w0 w' g r2 r3∧Below w0.heap.size w0 w'∧KeepBut w w' g none:=by
 have HI0:=Aside0.mk hI
 have HK:=Aside0.mk (KeepBut.refl w g none)
 have HL:=Aside0.mk hB.size
 clear hI
 have HW0:=Aside0.mk hB.size
 have HB:=Aside0.mk hB
 clear hB
 unfold xml_reader_eat.f at h
 have H:=h
 clear h
 replace H:=itO H
 rcases H with⟨c3,H⟩|⟨c3,H⟩
 ·skip
  have c3b0:=eq_true c3
  have c3b1:=decide_eq_true c3
  clear c3
  replace H:=itO H
  rcases H with⟨c4,H⟩|⟨c4,H⟩
  ·skip
   have c4b0:=eq_true c4
   have c4b1:=decide_eq_true c4
   clear c4
   replace H:=bndO H
   obtain⟨t113,A50,H⟩:=H
   have A5:=Aside0.mk A50
   clear A50
   by_cases c6:t113=true
   ·subst c6
    replace H:=itT H
    simp only [Option.some.injEq,Prod.mk.injEq] at H
    obtain⟨rfl,rfl,rfl⟩:=H
    obtain⟨HGz7,hgz7⟩:=HI0.out
    have hcz7_0:=cellS57_0 HGz7
    have hcz7_1:=cellS57_1 HGz7
    have hfz7_0:=blk_frozen HGz7 0
    have hfz7_1:=blk_frozen HGz7 1
    clear HGz7 hgz7
    go_enter Tryd.func58,Tryd.ntmps58
    go_wp2_with (first|(go_at_call 55;(with_reducible refine(strings_HasPrefix.calls (s0_0.extract (s0_1:Int).toNat s0_0.size) a1 true _ A5.out).mono ?_);rintro e w' ⟨rfl,⟨nd,rfl⟩⟩;(try first|exact⟨rfl,_,World.drewN_drewN _ _ _⟩|exact⟨rfl,_,Eq.trans (World.drewN_drewN _ _ _) (congrArg (World.drewN _) (Nat.add_assoc _ _ _))⟩)))
    repeat (go_quiet (first|(go_at_call 55;(with_reducible refine(strings_HasPrefix.calls (s0_0.extract (s0_1:Int).toNat s0_0.size) a1 true _ A5.out).mono ?_);rintro e w' ⟨rfl,⟨nd,rfl⟩⟩;(try first|exact⟨rfl,_,World.drewN_drewN _ _ _⟩|exact⟨rfl,_,Eq.trans (World.drewN_drewN _ _ _) (congrArg (World.drewN _) (Nat.add_assoc _ _ _))⟩)));try go_wp2_with (first|(go_at_call 55;(with_reducible refine(strings_HasPrefix.calls (s0_0.extract (s0_1:Int).toNat s0_0.size) a1 true _ A5.out).mono ?_);rintro e w' ⟨rfl,⟨nd,rfl⟩⟩;(try first|exact⟨rfl,_,World.drewN_drewN _ _ _⟩|exact⟨rfl,_,Eq.trans (World.drewN_drewN _ _ _) (congrArg (World.drewN _) (Nat.add_assoc _ _ _))⟩))))
    go_ret
    exact⟨by first|rfl|(simp [errW_none,errW_some] <;> rfl)|(simp [*,errW_none,errW_some] <;> rfl),by repeat (first|(with_reducible first|exact HI0.out|apply IsS57.alloc|apply IsS57.drewN|apply IsS57.drew|apply IsS57.set_0|apply IsS57.set_1)|exact HI0.out),by repeat (first|(with_reducible first|exact HB.out|apply below_alloc|apply pw_below_drewN|apply below_drew1|refine below_set ?_ (IsS57.ge HI0.out))|exact HB.out),kk⟩
   ·replace c6:=Bool.eq_false_iff.mpr c6
    subst c6
    replace H:=itF H
    simp only [Option.some.injEq,Prod.mk.injEq] at H
    obtain⟨rfl,rfl,rfl⟩:=H
    obtain⟨HGz8,hgz8⟩:=HI0.out
    have hcz8_0:=cellS57_0 HGz8
    have hcz8_1:=cellS57_1 HGz8
    have hfz8_0:=blk_frozen HGz8 0
    have hfz8_1:=blk_frozen HGz8 1
    clear HGz8 hgz8
    go_enter Tryd.func58,Tryd.ntmps58
    go_wp2_with (first|(go_at_call 55;(with_reducible refine(strings_HasPrefix.calls (s0_0.extract (s0_1:Int).toNat s0_0.size) a1 false _ A5.out).mono ?_);rintro e w' ⟨rfl,⟨nd,rfl⟩⟩;(try first|exact⟨rfl,_,World.drewN_drewN _ _ _⟩|exact⟨rfl,_,Eq.trans (World.drewN_drewN _ _ _) (congrArg (World.drewN _) (Nat.add_assoc _ _ _))⟩)))
    repeat (go_quiet (first|(go_at_call 55;(with_reducible refine(strings_HasPrefix.calls (s0_0.extract (s0_1:Int).toNat s0_0.size) a1 false _ A5.out).mono ?_);rintro e w' ⟨rfl,⟨nd,rfl⟩⟩;(try first|exact⟨rfl,_,World.drewN_drewN _ _ _⟩|exact⟨rfl,_,Eq.trans (World.drewN_drewN _ _ _) (congrArg (World.drewN _) (Nat.add_assoc _ _ _))⟩)));try go_wp2_with (first|(go_at_call 55;(with_reducible refine(strings_HasPrefix.calls (s0_0.extract (s0_1:Int).toNat s0_0.size) a1 false _ A5.out).mono ?_);rintro e w' ⟨rfl,⟨nd,rfl⟩⟩;(try first|exact⟨rfl,_,World.drewN_drewN _ _ _⟩|exact⟨rfl,_,Eq.trans (World.drewN_drewN _ _ _) (congrArg (World.drewN _) (Nat.add_assoc _ _ _))⟩))))
    go_ret
    exact⟨by first|rfl|(simp [errW_none,errW_some] <;> rfl)|(simp [*,errW_none,errW_some] <;> rfl),by repeat (first|(with_reducible first|exact HI0.out|apply IsS57.alloc|apply IsS57.drewN|apply IsS57.drew|apply IsS57.set_0|apply IsS57.set_1)|exact HI0.out),by repeat (first|(with_reducible first|exact HB.out|apply below_alloc|apply pw_below_drewN|apply below_drew1|refine below_set ?_ (IsS57.ge HI0.out))|exact HB.out),kk⟩
  ·exact absurd H (by simp)
 ·exact absurd H (by simp)
def xml_Name.l0:Nat→ByteArray→Int→Int→Option (Bool)
  | 0,_,_,_=>none
  | k+1,x0,x5,x6=>if x6<x5 then(if 0≤x6 then(if x6<(x0.size:Int) then((xml_inner.f (bt x0 x6)).bind fun t111=>(if t111=true then(if x6=0 then((xml_letter.f (bt x0 x6)).bind fun t112=>(if t112=true then(xml_Name.l0 k x0 x5 (wrap64 (x6+1))) else(some false))) else(xml_Name.l0 k x0 x5 (wrap64 (x6+1)))) else(some false))) else(none)) else(none)) else(some (x0.toList != ([]:List UInt8)))
def xml_Name.f (k:Nat) (a0:ByteArray):Option (Bool):=xml_Name.l0 k a0 (a0.size:Int) 0
theorem xml_Name.mono_l:∀ k,(∀ y0 y1 y2,LeO (xml_Name.l0 k y0 y1 y2) (xml_Name.l0 (k+1) y0 y1 y2))
  | 0=>fun _ _ _ r h=>by simp [xml_Name.l0] at h
  | k+1=>by
    have ih0:=xml_Name.mono_l k
    · intro y0 y1 y2
      unfold xml_Name.l0
      with_reducible repeat' first|exact ih0 _ _ _|exact LeO.refl _|exact LeO.none _|refine LeO.ite ?_ ?_|refine LeO.bind ?_ (fun _=>?_)
theorem xml_Name.mono:∀ a0 k,LeO (xml_Name.f k a0) (xml_Name.f (k+1) a0):=by
 intro a0 k
 have ih0:=xml_Name.mono_l k
 unfold xml_Name.f
 with_reducible repeat' first|exact ih0 _ _ _|exact LeO.refl _|exact LeO.none _|refine LeO.ite ?_ ?_|refine LeO.bind ?_ (fun _=>?_)
theorem xml_Name.calls (k:Nat) (a0:ByteArray) (r:Bool) (w:World) (h:xml_Name.f k a0=some r) :
    Calls Tryd.prog 17 #[.string a0] w fun e w'=>e = .returned (.bool r)∧Drawn0 w w':=by
 unfold xml_Name.f at h
 have H:=h
 clear h
 have H':=Aside0.mk H
 clear H
 go_enter Tryd.func17,Tryd.ntmps17
 go_wp2
 go_loopg [6] k (fun kq v6 w'=>∃ (x6_1:Int),v6 = .int .i64 x6_1∧Aside0 (xml_Name.l0 kq a0 (a0.size:Int) x6_1=some r)∧Aside0 (kq≤k)∧Drawn0 w w')
 case atStart=>exact⟨(0),(by first|rfl|(cases a0.toList <;> rfl)|(simp;done)|(simp [*];done)),H',⟨Nat.le_refl _⟩,by repeat (first|exact Drawn0.refl _|apply Drawn0.step)⟩
 case round=>
  clear H'
  obtain⟨x6_1,rfl,HA,HK1,⟨m1,rfl⟩⟩:=hrel
  cases gk with
  | zero=>exact absurd HA.out (by simp [xml_Name.l0])
  | succ k1=>
   have H:=HA.out
   clear HA
   simp only [xml_Name.l0] at H
   replace H:=itO H
   rcases H with⟨c2,H⟩|⟨c2,H⟩
   {
   have c2b0:decide (x6_1<(a0.size:Int))=true:=decide_eq_true c2
   clear c2
   replace H:=itO H
   rcases H with⟨c3,H⟩|⟨c3,H⟩
   {
   have c3b0:decide (0≤x6_1)=true:=decide_eq_true c3
   clear c3
   replace H:=itO H
   rcases H with⟨c4,H⟩|⟨c4,H⟩
   {
   have c4b0:decide (x6_1<(a0.size:Int))=true:=decide_eq_true c4
   clear c4
   replace H:=bndO H
   obtain⟨t111,A60,H⟩:=H
   have A6:=Aside0.mk A60
   clear A60
   by_cases c7:t111=true
   {
   subst c7
   replace H:=itT H
   replace H:=itO H
   rcases H with⟨c8,H⟩|⟨c8,H⟩
   {
   have c8b0:(x6_1 == 0)=true:=beq_iff_eq.mpr c8
   have c8b1:(x6_1 != 0)=false:=bne_eq_false_iff_eq.mpr c8
   clear c8
   replace H:=bndO H
   obtain⟨t112,A100,H⟩:=H
   have A10:=Aside0.mk A100
   clear A100
   by_cases c11:t112=true
   {
   subst c11
   replace H:=itT H
   have H':=Aside0.mk H
   clear H
   have p5:0≤(x6_1:Int):=of_decide_eq_true asm
   have q5:x6_1<(a0.size:Int):=of_decide_eq_true asm
   have hx5:=bt_at a0 x6_1
   replace p5:=eq_true p5
   replace q5:=eq_true q5
   go_wp2_with (first|((with_reducible refine gate_callee (f:=42) rfl ?_);refine goesL_ (some 12) rfl rfl Tryd.func42 kr rfl #[.int .u8 (bt a0 x6_1)] rfl am ?_;(with_reducible refine(xml_inner.calls (bt a0 x6_1) true _ A6.out).mono ?_);rintro e w' ⟨rfl,⟨nd,rfl⟩⟩;refine⟨_,rfl,?_⟩;have p9:0≤(x6_1:Int):=of_decide_eq_true asm;have q9:x6_1<(a0.size:Int):=of_decide_eq_true asm;have hx9:=bt_at a0 x6_1;replace p9:=eq_true p9;replace q9:=eq_true q9)|(go_at_call 43;(with_reducible refine(xml_letter.calls (bt a0 x6_1) true _ A10.out).mono ?_);rintro e w' ⟨rfl,⟨nd,rfl⟩⟩))
   go_roundg k1
   case measure=>have:=HK1.out;omega
   case rel=>exact⟨(wrap64 (x6_1+1)),(by first|rfl|(cases a0.toList <;> rfl)|(simp;done)|(simp [*];done)),H',⟨by have:=HK1.out;omega⟩,by repeat (first|exact Drawn0.refl _|apply Drawn0.step)⟩
   }
   {
   replace c11:=Bool.eq_false_iff.mpr c11
   subst c11
   replace H:=itF H
   obtain rfl:=Option.some.inj H
   have p5:0≤(x6_1:Int):=of_decide_eq_true asm
   have q5:x6_1<(a0.size:Int):=of_decide_eq_true asm
   have hx5:=bt_at a0 x6_1
   replace p5:=eq_true p5
   replace q5:=eq_true q5
   go_wp2_with (first|((with_reducible refine gate_callee (f:=42) rfl ?_);refine goesL_ (some 12) rfl rfl Tryd.func42 kr rfl #[.int .u8 (bt a0 x6_1)] rfl am ?_;(with_reducible refine(xml_inner.calls (bt a0 x6_1) true _ A6.out).mono ?_);rintro e w' ⟨rfl,⟨nd,rfl⟩⟩;refine⟨_,rfl,?_⟩;have p9:0≤(x6_1:Int):=of_decide_eq_true asm;have q9:x6_1<(a0.size:Int):=of_decide_eq_true asm;have hx9:=bt_at a0 x6_1;replace p9:=eq_true p9;replace q9:=eq_true q9)|(go_at_call 43;(with_reducible refine(xml_letter.calls (bt a0 x6_1) false _ A10.out).mono ?_);rintro e w' ⟨rfl,⟨nd,rfl⟩⟩))
   go_ret
   exact⟨by first|rfl|(cases a0.toList <;> rfl)|(simp;done)|(simp [*];done),by repeat (first|exact Drawn0.refl _|apply Drawn0.step)⟩
   }
   }
   {
   have c8b0:(x6_1 == 0)=false:=beq_eq_false_iff_ne.mpr c8
   have c8b1:(x6_1 != 0)=true:=bne_iff_ne.mpr c8
   have H':=Aside0.mk H
   clear H
   have p5:0≤(x6_1:Int):=of_decide_eq_true asm
   have q5:x6_1<(a0.size:Int):=of_decide_eq_true asm
   have hx5:=bt_at a0 x6_1
   replace p5:=eq_true p5
   replace q5:=eq_true q5
   go_wp2_with (first|((with_reducible refine gate_callee (f:=42) rfl ?_);refine goesL_ (some 12) rfl rfl Tryd.func42 kr rfl #[.int .u8 (bt a0 x6_1)] rfl am ?_;(with_reducible refine(xml_inner.calls (bt a0 x6_1) true _ A6.out).mono ?_);rintro e w' ⟨rfl,⟨nd,rfl⟩⟩;refine⟨_,rfl,?_⟩))
   go_roundg k1
   case measure=>have:=HK1.out;omega
   case rel=>exact⟨(wrap64 (x6_1+1)),(by first|rfl|(cases a0.toList <;> rfl)|(simp;done)|(simp [*];done)),H',⟨by have:=HK1.out;omega⟩,by repeat (first|exact Drawn0.refl _|apply Drawn0.step)⟩
   }
   }
   {
   replace c7:=Bool.eq_false_iff.mpr c7
   subst c7
   replace H:=itF H
   obtain rfl:=Option.some.inj H
   have p5:0≤(x6_1:Int):=of_decide_eq_true asm
   have q5:x6_1<(a0.size:Int):=of_decide_eq_true asm
   have hx5:=bt_at a0 x6_1
   replace p5:=eq_true p5
   replace q5:=eq_true q5
   go_wp2_with (first|((with_reducible refine gate_callee (f:=42) rfl ?_);refine goesL_ (some 12) rfl rfl Tryd.func42 kr rfl #[.int .u8 (bt a0 x6_1)] rfl am ?_;(with_reducible refine(xml_inner.calls (bt a0 x6_1) false _ A6.out).mono ?_);rintro e w' ⟨rfl,⟨nd,rfl⟩⟩;refine⟨_,rfl,?_⟩))
   go_ret
   exact⟨by first|rfl|(cases a0.toList <;> rfl)|(simp;done)|(simp [*];done),by repeat (first|exact Drawn0.refl _|apply Drawn0.step)⟩
   }
   }
   ·exact absurd H (by simp)
   }
   ·exact absurd H (by simp)
   }
   {
   have c2b0:decide (x6_1<(a0.size:Int))=false:=decide_eq_false c2
   clear c2
   obtain rfl:=Option.some.inj H
   go_wp2
   go_ret
   exact⟨by first|rfl|(cases a0.toList <;> rfl)|(simp;done)|(simp [*];done),by repeat (first|exact Drawn0.refl _|apply Drawn0.step)⟩
   }
def utf8_ValidRune.j0:Nat→Int→Bool→Option (Bool)
 | 0,_,_=>none
 | k+1,x0,x3=>if x3=true then(some true) else(if 57343<x0 then(if x0≤1114111 then(some true) else(some false)) else(some false))
def utf8_ValidRune.f (k:Nat) (a0:Int):Option (Bool):=if 0≤a0 then(utf8_ValidRune.j0 k a0 (decide (a0<55296))) else(utf8_ValidRune.j0 k a0 false)
theorem utf8_ValidRune.mono_l:∀ k,(∀ y0 y1,LeO (utf8_ValidRune.j0 k y0 y1) (utf8_ValidRune.j0 (k+1) y0 y1))
 | 0=>fun _ _ r h=>by simp [utf8_ValidRune.j0] at h
 | k+1=>by
  have ih0:=utf8_ValidRune.mono_l k
  ·intro y0 y1
   unfold utf8_ValidRune.j0
   repeat' first
   | (with_reducible exact ih0 _ _)
   | (with_reducible exact LeO.refl _)
   | (with_reducible exact LeO.none _)
   | (with_reducible refine LeO.ite ?_ ?_)
   | (with_reducible refine LeO.bind ?_ (fun _=>?_))
   | exact ih0 _ _
   | exact LeO.none _
   | refine LeO.ite ?_ ?_
   | refine LeO.bind ?_ (fun _=>?_)
theorem utf8_ValidRune.mono:∀ a0 k,LeO (utf8_ValidRune.f k a0) (utf8_ValidRune.f (k+1) a0):=by
 intro a0 k
 have ih0:=utf8_ValidRune.mono_l k
 unfold utf8_ValidRune.f
 repeat' first
   | (with_reducible exact ih0 _ _)
   | (with_reducible exact LeO.refl _)
   | (with_reducible exact LeO.none _)
   | (with_reducible refine LeO.ite ?_ ?_)
   | (with_reducible refine LeO.bind ?_ (fun _=>?_))
   | exact ih0 _ _
   | exact LeO.none _
   | refine LeO.ite ?_ ?_
   | refine LeO.bind ?_ (fun _=>?_)
theorem utf8_ValidRune.calls (k:Nat) (a0:Int) (r:Bool) (w:World) (h:utf8_ValidRune.f k a0=some r) :
  Calls Tryd.prog 101 #[.int .i32 a0] w fun e w'=>e = .returned (.bool r)∧Drawn0 w w':=by
 unfold utf8_ValidRune.f at h
 have H:=h
 clear h
 have HC2:=Aside0.mk H
 clear H
 go_enter Tryd.func101,Tryd.ntmps101
 go_upto_region 1 with(fail)
 go_cut [3] (fun v3 wc=>∃ (kq:Nat) (x3_1:Bool),v3 = .bool x3_1∧Aside0 (utf8_ValidRune.j0 kq a0 x3_1=some r)∧Aside0 (kq≤k)∧Drawn0 w wc)
 case first=>
  have H:=HC2.out
  clear HC2
  replace H:=itO H
  rcases H with⟨c3,H⟩|⟨c3,H⟩
  ·skip
   have c3b0:decide (0≤a0)=true:=decide_eq_true c3
   clear c3
   (first|rw [c3b0]|(simp only [i64_w,i32_w];rw [c3b0])|skip)
   have H':=Aside0.mk H
   clear H
   go_wp2
   go_meet
   case rel=>exact⟨_,(decide (a0<55296)),(by first|rfl|(simp;done)|(simp [*];done)),H',⟨by first|omega|exact Nat.le_refl _⟩,by repeat (first|exact Drawn0.refl _|apply Drawn0.step)⟩
  ·skip
   have c3b0:decide (0≤a0)=false:=decide_eq_false c3
   clear c3
   (first|rw [c3b0]|(simp only [i64_w,i32_w];rw [c3b0])|skip)
   have H':=Aside0.mk H
   clear H
   go_wp2
   go_meet
   case rel=>exact⟨_,(false),(by first|rfl|(simp;done)|(simp [*];done)),H',⟨by first|omega|exact Nat.le_refl _⟩,by repeat (first|exact Drawn0.refl _|apply Drawn0.step)⟩
 case rest=>
  clear HC2
  try clear c1
  try clear p2
  try clear c3
  try clear c3b0
  obtain⟨kq,x3_1,rfl,HA,HJ1,⟨mc1,rfl⟩⟩:=hcut
  cases kq with
  | zero=>exact absurd HA.out (by simp [utf8_ValidRune.j0])
  | succ kj1=>
   have H:=HA.out
   clear HA
   simp only [utf8_ValidRune.j0] at H
   by_cases c4:x3_1=true
   ·subst c4
    replace H:=itT H
    obtain rfl:=Option.some.inj H
    go_wp2
    go_ret
    exact⟨by first|rfl|(simp;done)|(simp [*];done),by repeat (first|exact Drawn0.refl _|apply Drawn0.step)⟩
   ·replace c4:=Bool.eq_false_iff.mpr c4
    subst c4
    replace H:=itF H
    replace H:=itO H
    rcases H with⟨c5,H⟩|⟨c5,H⟩
    ·skip
     have c5b0:decide (57343<a0)=true:=decide_eq_true c5
     clear c5
     replace H:=itO H
     rcases H with⟨c6,H⟩|⟨c6,H⟩
     ·skip
      have c6b0:decide (a0≤1114111)=true:=decide_eq_true c6
      clear c6
      obtain rfl:=Option.some.inj H
      go_wp2
      go_ret
      exact⟨by first|rfl|(simp;done)|(simp [*];done),by repeat (first|exact Drawn0.refl _|apply Drawn0.step)⟩
     ·skip
      have c6b0:decide (a0≤1114111)=false:=decide_eq_false c6
      clear c6
      obtain rfl:=Option.some.inj H
      go_wp2
      go_ret
      exact⟨by first|rfl|(simp;done)|(simp [*];done),by repeat (first|exact Drawn0.refl _|apply Drawn0.step)⟩
    ·skip
     have c5b0:decide (57343<a0)=false:=decide_eq_false c5
     clear c5
     obtain rfl:=Option.some.inj H
     go_wp2
     go_ret
     exact⟨by first|rfl|(simp;done)|(simp [*];done),by repeat (first|exact Drawn0.refl _|apply Drawn0.step)⟩
def stringslite_IndexByte.f (a0:ByteArray) (a1:Int):Option Int:=some (Lib.indexByte a0.data.toList a1.toNat.toUInt8)
theorem stringslite_IndexByte.calls (a0:ByteArray) (a1:Int) (r:Int) (w:World) (h:stringslite_IndexByte.f a0 a1=some r) :
  Calls Tryd.prog 85 #[.string a0,.int .u8 a1] w fun e w'=>e = .returned (.int .i64 r)∧Drawn0 w w':=by
 obtain rfl:=Option.some.inj h
 exact(Tryd.stringslite_IndexByte a0 a1 w).mono fun e w' ⟨he,hw⟩=>⟨he,by rw [hw];exact Drawn0.refl _⟩
def strings_IndexByte.f (a0:ByteArray) (a1:Int):Option (Int):=(stringslite_IndexByte.f a0 a1).bind fun t115=>(some t115)
theorem strings_IndexByte.calls (a0:ByteArray) (a1:Int) (r:Int) (w:World) (h:strings_IndexByte.f a0 a1=some r) :
  Calls Tryd.prog 79 #[.string a0,.int .u8 a1] w fun e w'=>e = .returned (.int .i64 r)∧Drawn0 w w':=by
 unfold strings_IndexByte.f at h
 have H:=h
 clear h
 replace H:=bndO H
 obtain⟨t115,A30,H⟩:=H
 have A3:=Aside0.mk A30
 clear A30
 obtain rfl:=Option.some.inj H
 go_enter Tryd.func79,Tryd.ntmps79
 go_wp2_with (first|((with_reducible refine gate_callee (f:=85) rfl ?_);refine goesL_ (some 7) rfl rfl Tryd.func85 (by kernel_rfl) rfl #[.string a0,.int .u8 a1] rfl (by(try simp only [List.map_toArray,List.map_cons,List.map_nil]);first|done|rfl|(simp only [List.length_drop,List.length_take];rfl)) ?_;(with_reducible refine(stringslite_IndexByte.calls a0 a1 t115 _ A3.out).mono ?_);rintro e w' ⟨rfl,⟨nd,rfl⟩⟩;refine⟨_,rfl,?_⟩))
 go_ret
 exact⟨by first|rfl|(simp;done)|(simp [*];done),by repeat (first|exact Drawn0.refl _|apply Drawn0.step)⟩
def strings_shouldUseASCIISet.f (a0:Int):Option (Bool):=some (decide (a0>8))
theorem strings_shouldUseASCIISet.calls (a0:Int) (r:Bool) (w:World) (h:strings_shouldUseASCIISet.f a0=some r) :
  Calls Tryd.prog 97 #[.int .i64 a0] w fun e w'=>e = .returned (.bool r)∧Drawn0 w w':=by
 unfold strings_shouldUseASCIISet.f at h
 have H:=h
 clear h
 obtain rfl:=Option.some.inj H
 go_enter Tryd.func97,Tryd.ntmps97
 go_wp2
 go_ret
 exact⟨by first|rfl|(simp;done)|(simp [*];done),by repeat (first|exact Drawn0.refl _|apply Drawn0.step)⟩
def chars_Count.own (s:ByteArray) (pos:Nat):Bool:=decide (3≤s.size-pos) && ((s.extract pos s.size).extract 0 3).toList == [239,191,189]
def chars_Count.g (s:ByteArray):Nat→Nat→Int→Int×Bool
 | 0,_,n=>(n,true)
 | k+1,pos,n=>if pos<s.size then(if(Utf8.decode s pos).1=65533∧chars_Count.own s pos=false then(0,false) else chars_Count.g s k (pos+(Utf8.decode s pos).2) (n+1)) else(n,true)
def chars_Count.f (a0:ByteArray):Option (Int×Bool):=if a0.size≤9007199254740992 then some (chars_Count.g a0 a0.size 0 0) else none
theorem chars_Count.width_pos (s:ByteArray) (pos:Nat) (h:pos<s.size):1≤(Utf8.decode s pos).2:=by
 by_cases ha:(s[pos]'h).toNat<128
 ·rw [decode_ascii s pos h ha]
  exact Nat.le_refl _
 ·exact(decode_high s pos h (by omega)).2
theorem chars_Count.own_eq (s:ByteArray) (pos:Nat) (h:s.size≤9007199254740992):strings_HasPrefix.f (s.extract pos s.size) ⟨#[239,191,189]⟩=some (chars_Count.own s pos):=by
 have hz:(s.extract pos s.size).size=s.size-pos:=by simp
 have h3:(⟨#[239,191,189]⟩ : ByteArray).size=3:=rfl
 have hl:(⟨#[239,191,189]⟩ : ByteArray).toList = [239,191,189]:=by rw [ByteArray.toList_eq]
 unfold strings_HasPrefix.f stringslite_HasPrefix.f chars_Count.own
 rw [hz,h3,hl]
 by_cases c:3≤s.size-pos
 ·rw [if_pos (by omega),if_pos (by omega),if_pos (by omega),decide_eq_true c]
  rfl
 ·rw [if_neg (by omega)]
  simp [c]
theorem chars_Count.g_bad (s:ByteArray) (k pos:Nat) (n:Int) (h:pos<s.size) (hd:(Utf8.decode s pos).1=65533) (ho:chars_Count.own s pos=false):chars_Count.g s (k+1) pos n=(0,false):=by
 rw [chars_Count.g,if_pos h,if_pos ⟨hd,ho⟩]
theorem chars_Count.g_on (s:ByteArray) (k pos:Nat) (n:Int) (h:pos<s.size) (hd:¬ ((Utf8.decode s pos).1=65533∧chars_Count.own s pos=false)):chars_Count.g s (k+1) pos n=chars_Count.g s k (pos+(Utf8.decode s pos).2) (n+1):=by
 rw [chars_Count.g,if_pos h,if_neg hd]
theorem chars_Count.g_end (s:ByteArray) (k pos:Nat) (n:Int) (h:¬ pos<s.size):chars_Count.g s k pos n=(n,true):=by
 cases k with
 | zero=>rfl
 | succ k=>rw [chars_Count.g,if_neg h]
theorem chars_Count.calls (a0:ByteArray) (r1:Int) (r2:Bool) (w:World) (h:chars_Count.f a0=some (r1,r2)) :
  Calls Tryd.prog 76 #[.string a0] w fun e w'=>e = .returned (.tuple #[.int .i64 r1,.bool r2])∧Below w.heap.size w w':=by
 unfold chars_Count.f at h
 have hs:a0.size≤9007199254740992:=by
  by_cases c:a0.size≤9007199254740992
  ·exact c
  ·simp [c] at h
 rw [if_pos hs] at h
 have hR:=Lib.hid (Option.some.inj h)
 clear h
 go_enter Tryd.func76,Tryd.ntmps76
 go_wp2
 go_loopw [4] (fun i wr=>∃ (pos fuel:Nat) (n:Nat),i = .int .i64 n∧Hid (wr.heap[w.heap.size]? = some (.stringIter a0 pos)∧Below w.heap.size w wr∧chars_Count.g a0 fuel pos n=(r1,r2)∧a0.size≤pos+fuel∧n≤pos)) (fun _ wr=>a0.size-wr.iterPos w.heap.size)
 case atStart=>
  refine⟨0,a0.size,0,rfl,Lib.hid ⟨?_,(Below.refl _ w).alloc (Nat.le_refl _) _,hR.out,by omega,Nat.le_refl _⟩⟩
  exact World.iter_heap w a0 0
 case round=>
  obtain⟨pos,fuel,n,rfl,hI⟩:=hrel
  by_cases hp:pos<a0.size
  ·have hit:=hI.out.1
   have hnx:∀ ty,(Instr.next (.pointer (some ⟨w.heap.size,0,none⟩)) true ty).run Tryd.prog wr=_:=fun ty=>Lib.run_next_any_at wr w.heap.size a0 pos ty hit hp
   have hwd:=chars_Count.width_pos a0 pos hp
   have hB2:=Lib.below_iterAt hI.out.2.1 (k:=w.heap.size) (Nat.le_refl _) a0 (pos+(Utf8.decode a0 pos).2)
   have hit2:=Lib.iterAt_heap wr w.heap.size a0 pos (pos+(Utf8.decode a0 pos).2) hit
   obtain⟨W2,hW2⟩ : ∃ W2,wr.iterAt w.heap.size a0 (pos+(Utf8.decode a0 pos).2)=W2:=⟨_,rfl⟩
   rw [hW2] at hB2 hit2
   simp only [hW2] at hnx
   obtain⟨f,rfl⟩ : ∃ f,fuel=f+1:=⟨fuel-1,by have:=hI.out.2.2.2.1;omega⟩
   have hn:n≤9007199254740992:=by have:=hI.out.2.2.2.2;omega
   have hmeas:a0.size-W2.iterPos w.heap.size<a0.size-wr.iterPos w.heap.size:=by simp only [World.iterPos,hit2,hit];omega
   have hpos:=Lib.hid (And.intro hp hwd)
   have hkeep:=Lib.hid (And.intro hB2 (And.intro hit2 hmeas))
   have hfr:Hid (a0.size≤pos+(f+1)):=Lib.hid hI.out.2.2.2.1
   have hpl:pos≤a0.size:=by omega
   clear hW2 hB2 hit2 hmeas hwd hit
   by_cases hd:(Utf8.decode a0 pos).1=65533
   ·have hdb:(((Utf8.decode a0 pos).1:Int) == 65533)=true:=by rw [hd];rfl
    obtain⟨o,ho⟩ : ∃ o,chars_Count.own a0 pos=o:=⟨_,rfl⟩
    have hown:=Lib.hid (chars_Count.own_eq a0 pos hs)
    rw [ho] at hown
    have hd':=Lib.hid hd
    have ho':=Lib.hid ho
    clear hd ho hp
    cases o
    ·go_wp2_with (go_at_call 55;refine(strings_HasPrefix.calls _ _ false _ hown.out).mono ?_;rintro e w9 ⟨rfl,⟨⟨nd,rfl⟩⟩⟩)
     go_ret2
     have hr:=(chars_Count.g_bad a0 f pos n hpos.out.1 hd'.out ho'.out).symm.trans hI.out.2.2.1
     obtain⟨rfl,rfl⟩:=Prod.mk.inj hr
     exact⟨rfl,pw_below_drewN hkeep.out.1 _⟩
    ·go_wp2_with (go_at_call 55;refine(strings_HasPrefix.calls _ _ true _ hown.out).mono ?_;rintro e w9 ⟨rfl,⟨⟨nd,rfl⟩⟩⟩)
     go_roundw
     case rel=>exact⟨pos+(Utf8.decode a0 pos).2,f,n+1,by go_num,Lib.hid ⟨hkeep.out.2.1,pw_below_drewN hkeep.out.1 _,by have h_:=(chars_Count.g_on a0 f pos n hpos.out.1 (by rw [ho'.out];simp)).symm.trans hI.out.2.2.1;simpa using h_,by have:=hfr.out;have:=hpos.out.2;omega,by have:=hpos.out.2;have:=hI.out.2.2.2.2;omega⟩⟩
     case measure=>exact hkeep.out.2.2
   ·have hdb:(((Utf8.decode a0 pos).1:Int) == 65533)=false:=by
     rw [beq_eq_false_iff_ne];intro h_;exact hd (by omega)
    have hd':=Lib.hid hd
    clear hd hp
    go_wp2
    go_roundw
    case rel=>exact⟨pos+(Utf8.decode a0 pos).2,f,n+1,by go_num,Lib.hid ⟨hkeep.out.2.1,hkeep.out.1,by have h_:=(chars_Count.g_on a0 f pos n hpos.out.1 (fun h9=>hd'.out h9.1)).symm.trans hI.out.2.2.1;simpa using h_,by have:=hfr.out;have:=hpos.out.2;omega,by have:=hpos.out.2;have:=hI.out.2.2.2.2;omega⟩⟩
    case measure=>exact hkeep.out.2.2
  ·have hnx:∀ ty,(Instr.next (.pointer (some ⟨w.heap.size,0,none⟩)) true ty).run Tryd.prog wr=_:=fun ty=>Lib.run_next_end_at wr w.heap.size a0 pos ty hI.out.1 hp
   have hr:=Lib.hid ((chars_Count.g_end a0 fuel pos n hp).symm.trans hI.out.2.2.1)
   go_wp2
   go_ret2
   obtain⟨rfl,rfl⟩:=Prod.mk.inj hr.out
   exact⟨rfl,hI.out.2.1⟩
theorem strings_ContainsAny.lit (pos:Nat) (h:pos<2):(Utf8.decode (⟨#[60,38]⟩ : ByteArray) pos).2=1∧(((Utf8.decode (⟨#[60,38]⟩ : ByteArray) pos).1:Int) == 65533)=false∧¬ ((Utf8.decode (⟨#[60,38]⟩ : ByteArray) pos).1:Int)=65533:=by
 rcases pos with _|_|n
 ·decide
 ·decide
 ·omega
theorem strings_ContainsAny.rune1 (w:World) :
  Calls Tryd.prog 96 #[.string (⟨#[60,38]⟩ : ByteArray),.int .i32 65533] w fun e w'=>e = .returned (.int .i64 (-1))∧Below w.heap.size w w':=by
 go_enter Tryd.func96,Tryd.ntmps96
 go_wp2
 go_loopw [] (fun wr=>∃ pos:Nat,Hid (wr.heap[w.heap.size]? = some (.stringIter (⟨#[60,38]⟩ : ByteArray) pos)∧Below w.heap.size w wr∧pos≤2)) (fun wr=>2-wr.iterPos w.heap.size)
 case atStart=>
  exact⟨0,Lib.hid ⟨World.iter_heap w _ 0,(Below.refl _ w).alloc (Nat.le_refl _) _,by omega⟩⟩
 case round=>
  obtain⟨pos,hI⟩:=hrel
  by_cases hp:pos<2
  ·have hit:=hI.out.1
   have hnx:∀ ty,(Instr.next (.pointer (some ⟨w.heap.size,0,none⟩)) true ty).run Tryd.prog wr=_:=fun ty=>Lib.run_next_any_at wr w.heap.size (⟨#[60,38]⟩ : ByteArray) pos ty hit hp
   obtain⟨hw1,hne,hne2⟩:=strings_ContainsAny.lit pos hp
   have hB2:=Lib.below_iterAt hI.out.2.1 (k:=w.heap.size) (Nat.le_refl _) (⟨#[60,38]⟩ : ByteArray) (pos+(Utf8.decode (⟨#[60,38]⟩ : ByteArray) pos).2)
   have hit2:=Lib.iterAt_heap wr w.heap.size (⟨#[60,38]⟩ : ByteArray) pos (pos+(Utf8.decode (⟨#[60,38]⟩ : ByteArray) pos).2) hit
   obtain⟨W2,hW2⟩ : ∃ W2,wr.iterAt w.heap.size (⟨#[60,38]⟩ : ByteArray) (pos+(Utf8.decode (⟨#[60,38]⟩ : ByteArray) pos).2)=W2:=⟨_,rfl⟩
   rw [hW2] at hB2 hit2
   simp only [hW2] at hnx
   have hmeas:2-W2.iterPos w.heap.size<2-wr.iterPos w.heap.size:=by simp only [World.iterPos,hit2,hit];omega
   rw [hw1] at hit2
   have hkeep:=Lib.hid (And.intro hB2 (And.intro hit2 (And.intro hmeas hp)))
   clear hW2 hB2 hit2 hmeas hit hp hw1
   obtain⟨c,hcc⟩ : ∃ c:Int,((Utf8.decode (⟨#[60,38]⟩ : ByteArray) pos).1:Int)=c:=⟨_,rfl⟩
   rw [hcc] at hne hne2
   simp only [hcc] at hnx
   have hne3:=eq_false hne2
   clear hne2 hcc
   go_wp2
   go_roundw
   case rel=>exact⟨pos+1,Lib.hid ⟨hkeep.out.2.1,hkeep.out.1,by have:=hkeep.out.2.2.2;omega⟩⟩
   case measure=>exact hkeep.out.2.2.1
  ·have hnx:∀ ty,(Instr.next (.pointer (some ⟨w.heap.size,0,none⟩)) true ty).run Tryd.prog wr=_:=fun ty=>Lib.run_next_end_at wr w.heap.size (⟨#[60,38]⟩ : ByteArray) pos ty hI.out.1 hp
   go_wp2
   go_ret
   exact⟨rfl,hI.out.2.1⟩
theorem strings_ContainsAny.rune2 (c:Int) (h:128≤c) (hc:¬ c=65533) (E:ByteArray) (hE:Utf8.encode c=E) (hn:E.size=2∨E.size=3∨E.size=4) (hx:128≤bt E 1) (w:World) :
  Calls Tryd.prog 96 #[.string (⟨#[60,38]⟩ : ByteArray),.int .i32 c] w fun e w'=>e = .returned (.int .i64 (-1))∧Below w.heap.size w w':=by
 have t1:(0≤c)=True:=eq_true (by omega)
 have t2:decide (0≤c)=true:=decide_eq_true (by omega)
 have t3:(c<128)=False:=eq_false (by omega)
 have t4:decide (c<128)=false:=decide_eq_false (by omega)
 have t5:(c == 65533)=false:=beq_eq_false_iff_ne.mpr hc
 have t6:=eq_false hc
 clear hc h
 obtain⟨v,hv⟩ : ∃ v,utf8_ValidRune.f 2 c=some v:=by
  unfold utf8_ValidRune.f
  (repeat' split) <;> rw [utf8_ValidRune.j0] <;> (repeat' split) <;> exact⟨_,rfl⟩
 have hv':=Lib.hid hv
 clear hv
 cases v
 ·go_enter Tryd.func96,Tryd.ntmps96
  go_wp2_with (go_at_call 101;refine(utf8_ValidRune.calls 2 c false _ hv'.out).mono ?_;rintro e1 w1 ⟨rfl,⟨⟨nd,rfl⟩⟩⟩)
  go_ret
  exact⟨rfl,pw_below_drewN (Below.refl _ _) _⟩
 ·obtain⟨x,hxx⟩ : ∃ x,bt E 1=x:=⟨_,rfl⟩
  have hat:=bt_at E 1
  rw [hxx] at hx hat
  have u1:(38 != x)=true:=bne_iff_ne.mpr (by omega)
  have u2:(38 == x)=false:=beq_eq_false_iff_ne.mpr (by omega)
  have u3:(38=x)=False:=eq_false (by omega)
  have hIB:=Lib.hid (show strings_IndexByte.f ((⟨#[60,38]⟩ : ByteArray).extract 2 2) x=some (-1) from rfl)
  have hat2:∀ h:1<E.size,((E[1]'h).toNat:Int)=x:=fun h=>hat h
  have hw2:IntKind.i64.wrap 2=2:=by decide
  have u4:((((⟨#[60,38]⟩ : ByteArray)[1]'(by decide)).toNat:Int) != x)=true:=u1
  clear hx hxx
  rcases hn with hn|hn|hn
  ·go_enter Tryd.func96,Tryd.ntmps96
   go_wp2_with (go_at_call 101;refine(utf8_ValidRune.calls 2 c true _ hv'.out).mono ?_;rintro e1 w1 ⟨rfl,⟨⟨nd,rfl⟩⟩⟩)
   go_step3
   go_wp2
   go_loopw [9] (fun v9 wr=>v9 = .int .i64 1∧Hid (Below w.heap.size w wr)) (fun _ _=>0)
   case atStart=>exact⟨rfl,Lib.hid (pw_below_drewN (Below.refl _ _) _)⟩
   case round=>
    obtain⟨rfl,hI⟩:=hrel
    go_wp2
    go_step3
    go_wp2
    go_quiet (fail)
    go_wp2
    go_quiet (first|(go_at_call 79;refine(strings_IndexByte.calls ((⟨#[60,38]⟩ : ByteArray).extract 2 2) x (-1) _ hIB.out).mono ?_;rintro e_ w_ ⟨rfl,⟨⟨nd,rfl⟩⟩⟩;(try first|exact⟨rfl,_,World.drewN_drewN _ _ _⟩|exact⟨rfl,_,Eq.trans (World.drewN_drewN _ _ _) (congrArg (World.drewN _) (Nat.add_assoc _ _ _))⟩)))
    go_wp2
    show bodyPost Tryd.prog Tryd.f96 (fun e w'=>e=Ending.returned (Value.int IntKind.i64 (-1))∧Below w.heap.size w w') Exit.ret _ _
    go_ret
    exact⟨rfl,pw_below_drewN hI.out _⟩
  ·go_enter Tryd.func96,Tryd.ntmps96
   go_wp2_with (go_at_call 101;refine(utf8_ValidRune.calls 2 c true _ hv'.out).mono ?_;rintro e1 w1 ⟨rfl,⟨⟨nd,rfl⟩⟩⟩)
   go_step3
   go_wp2
   go_loopw [9] (fun v9 wr=>v9 = .int .i64 2∧Hid (Below w.heap.size w wr)) (fun _ _=>0)
   case atStart=>exact⟨rfl,Lib.hid (pw_below_drewN (Below.refl _ _) _)⟩
   case round=>
    obtain⟨rfl,hI⟩:=hrel
    go_wp2
    try simp only [Exit.noGoto,Exit.inBlock]
    go_ret
    exact⟨rfl,hI.out⟩
  ·go_enter Tryd.func96,Tryd.ntmps96
   go_wp2_with (go_at_call 101;refine(utf8_ValidRune.calls 2 c true _ hv'.out).mono ?_;rintro e1 w1 ⟨rfl,⟨⟨nd,rfl⟩⟩⟩)
   go_step3
   go_wp2
   go_loopw [9] (fun v9 wr=>v9 = .int .i64 3∧Hid (Below w.heap.size w wr)) (fun _ _=>0)
   case atStart=>exact⟨rfl,Lib.hid (pw_below_drewN (Below.refl _ _) _)⟩
   case round=>
    obtain⟨rfl,hI⟩:=hrel
    go_wp2
    try simp only [Exit.noGoto,Exit.inBlock]
    go_ret
    exact⟨rfl,hI.out⟩
theorem strings_ContainsAny.enc (c:Int) (h:128≤c):((Utf8.encode c).size=2∨(Utf8.encode c).size=3∨(Utf8.encode c).size=4)∧128≤bt (Utf8.encode c) 1:=by
 obtain⟨m,hm,hm2⟩ : ∃ m:Nat,(if Utf8.valid c=true then c.toNat else Utf8.runeError)=m∧128≤m:=by
  refine⟨_,rfl,?_⟩
  split
  ·omega
  ·decide
 have hb:∀ (l:Array UInt8) (x:Nat) (q:1<l.size),l[1]=UInt8.ofNat (128+x % 64)→128≤bt (⟨l⟩ : ByteArray) 1:=by
  intro l x q e
  have:=bt_at (⟨l⟩ : ByteArray) 1 q
  rw [← this]
  show(128:Int)≤((l[1].toNat:Nat):Int)
  rw [e,UInt8.toNat_ofNat']
  omega
 unfold Utf8.encode
 simp only [hm]
 rw [if_neg (by omega)]
 split
 ·exact⟨.inl rfl,hb _ m (by simp) rfl⟩
 ·split
  ·exact⟨.inr (.inl rfl),hb _ (m / 64) (by simp) rfl⟩
  ·exact⟨.inr (.inr rfl),hb _ (m / 4096) (by simp) rfl⟩
def strings_ContainsAny.ix (c:Int):Int:=if c=60 then 0 else if c=38 then 1 else -1
theorem strings_ContainsAny.rune (c:Int) (h:0≤c) (w:World) :
  Calls Tryd.prog 96 #[.string (⟨#[60,38]⟩ : ByteArray),.int .i32 c] w fun e w'=>e = .returned (.int .i64 (strings_ContainsAny.ix c))∧Below w.heap.size w w':=by
 by_cases h1:c<128
 ·refine(Tryd.strings_IndexRune_ascii (⟨#[60,38]⟩ : ByteArray) c w h h1).mono fun e w' ⟨h2,h3⟩=>⟨?_,h3▸Below.refl _ _⟩
  have key:∀ n:Fin 128,Lib.indexByte [60,38] ((n.val:Int).toNat.toUInt8)=strings_ContainsAny.ix (n.val:Int):=by decide
  obtain⟨m,rfl⟩ : ∃ m:Nat,c=(m:Int):=⟨c.toNat,by omega⟩
  rw [h2,← key ⟨m,by omega⟩]
 ·have hi:strings_ContainsAny.ix c = -1:=by unfold strings_ContainsAny.ix;rw [if_neg (by omega),if_neg (by omega)]
  rw [hi]
  by_cases h2:c=65533
  ·subst h2;exact strings_ContainsAny.rune1 w
  ·obtain⟨e1,e2⟩:=strings_ContainsAny.enc c (by omega)
   exact strings_ContainsAny.rune2 c (by omega) h2 _ rfl e1 e2 w
def strings_ContainsAny.g (s:ByteArray):Nat→Nat→Int
 | 0,_=>-1
 | k+1,pos=>if pos<s.size then(if 0≤strings_ContainsAny.ix ((Utf8.decode s pos).1:Int) then(pos:Int) else strings_ContainsAny.g s k (pos+(Utf8.decode s pos).2)) else -1
theorem strings_ContainsAny.g_end (s:ByteArray) (k pos:Nat) (h:¬ pos<s.size):strings_ContainsAny.g s k pos = -1:=by
 cases k with
 | zero=>rfl
 | succ k=>rw [strings_ContainsAny.g,if_neg h]
theorem strings_ContainsAny.short (s:ByteArray) (h8:s.size≤8) (w:World) :
  Calls Tryd.prog 89 #[.string s,.string (⟨#[60,38]⟩ : ByteArray)] w fun e w'=>e = .returned (.int .i64 (strings_ContainsAny.g s s.size 0))∧Below w.heap.size w w':=by
 have hS:=Lib.hid (show strings_shouldUseASCIISet.f (s.size:Int)=some false by unfold strings_shouldUseASCIISet.f;rw [decide_eq_false (by omega)])
 go_enter Tryd.func89,Tryd.ntmps89
 go_wp2_with (go_at_call 97;refine(strings_shouldUseASCIISet.calls (s.size:Int) false _ hS.out).mono ?_;rintro e1 w1 ⟨rfl,⟨⟨nd,rfl⟩⟩⟩)
 go_wp2
 go_loopw [] (fun wr=>∃ pos fuel:Nat,Hid (wr.heap[w.heap.size]? = some (.stringIter s pos)∧Below w.heap.size w wr∧strings_ContainsAny.g s fuel pos=strings_ContainsAny.g s s.size 0∧s.size≤pos+fuel)) (fun wr=>s.size-wr.iterPos w.heap.size)
 case atStart=>exact⟨0,s.size,Lib.hid ⟨World.iter_heap _ s 0,(pw_below_drewN (Below.refl _ w) _).alloc (Nat.le_refl _) _,rfl,by omega⟩⟩
 case round=>
  obtain⟨pos,fuel,hI⟩:=hrel
  by_cases hp:pos<s.size
  ·have hit:=hI.out.1
   have hnx:∀ ty,(Instr.next (.pointer (some ⟨w.heap.size,0,none⟩)) true ty).run Tryd.prog wr=_:=fun ty=>Lib.run_next_any_at wr w.heap.size s pos ty hit hp
   have hwd:=chars_Count.width_pos s pos hp
   have hB2:=Lib.below_iterAt hI.out.2.1 (k:=w.heap.size) (Nat.le_refl _) s (pos+(Utf8.decode s pos).2)
   have hit2:=Lib.iterAt_heap wr w.heap.size s pos (pos+(Utf8.decode s pos).2) hit
   obtain⟨W2,hW2⟩ : ∃ W2,wr.iterAt w.heap.size s (pos+(Utf8.decode s pos).2)=W2:=⟨_,rfl⟩
   rw [hW2] at hB2 hit2
   simp only [hW2] at hnx
   obtain⟨f,rfl⟩ : ∃ f,fuel=f+1:=⟨fuel-1,by have:=hI.out.2.2.2;omega⟩
   have hmeas:s.size-W2.iterPos w.heap.size<s.size-wr.iterPos w.heap.size:=by simp only [World.iterPos,hit2,hit];omega
   have hpos:=Lib.hid (And.intro hp hwd)
   have hkp:=Lib.hid hB2
   have hki:=Lib.hid hit2
   have hlt:=Lib.hid (show w.heap.size<W2.heap.size from Classical.byContradiction fun q=>by rw [Array.getElem?_eq_none (Nat.le_of_not_lt q)] at hit2;cases hit2)
   have hkm:=Lib.hid hmeas
   have hfr:Hid (s.size≤pos+(f+1)):=Lib.hid hI.out.2.2.2
   clear hW2 hB2 hit2 hmeas hwd hit hp
   have hg:=Lib.hid (show strings_ContainsAny.g s (f+1) pos=(if 0≤strings_ContainsAny.ix ((Utf8.decode s pos).1:Int) then(pos:Int) else strings_ContainsAny.g s f (pos+(Utf8.decode s pos).2)) by rw [strings_ContainsAny.g,if_pos hpos.out.1])
   obtain⟨c,hcc⟩ : ∃ c:Int,((Utf8.decode s pos).1:Int)=c:=⟨_,rfl⟩
   have hc0:=Lib.hid (show 0≤c by omega)
   rw [hcc] at hg
   simp only [hcc] at hnx
   clear hcc
   obtain⟨i,hi⟩ : ∃ i,strings_ContainsAny.ix c=i:=⟨_,rfl⟩
   rw [hi] at hg
   by_cases hx:0≤i
   ·have x1:=eq_true hx
    have x2:=decide_eq_true hx
    rw [if_pos hx] at hg
    clear hx
    go_wp2_with (go_at_call 96;refine(strings_ContainsAny.rune c hc0.out _).mono ?_;rw [hi];rintro e9 w9 ⟨rfl,hb9⟩;have hb9':=Lib.hid hb9;clear hb9)
    go_ret
    exact⟨by rw [← hI.out.2.2.1,hg.out];rfl,below_step hkp.out hb9'.out⟩
   ·have x1:=eq_false hx
    have x2:=decide_eq_false hx
    rw [if_neg hx] at hg
    clear hx
    go_wp2_with (go_at_call 96;refine(strings_ContainsAny.rune c hc0.out _).mono ?_;rw [hi];rintro e9 w9 ⟨rfl,hb9⟩;have hb9':=Lib.hid hb9;clear hb9)
    go_roundw
    case rel=>exact⟨pos+(Utf8.decode s pos).2,f,Lib.hid ⟨(hb9'.out.block _ hlt.out).trans hki.out,below_step hkp.out hb9'.out,hg.out.symm.trans hI.out.2.2.1,by have:=hfr.out;have:=hpos.out.2;omega⟩⟩
    case measure=>
     have e9:w9.iterPos w.heap.size=W2.iterPos w.heap.size:=by simp only [World.iterPos,hb9'.out.block _ hlt.out]
     rw [e9]
     exact hkm.out
  ·have hnx:∀ ty,(Instr.next (.pointer (some ⟨w.heap.size,0,none⟩)) true ty).run Tryd.prog wr=_:=fun ty=>Lib.run_next_end_at wr w.heap.size s pos ty hI.out.1 hp
   go_wp2
   go_ret
   exact⟨by rw [← hI.out.2.2.1,strings_ContainsAny.g_end s fuel pos hp];rfl,hI.out.2.1⟩
def strings_ContainsAny.f (a0 a1:ByteArray):Option Bool:=if a0.size<4294967281∧a1=⟨#[60,38]⟩ then some (if 8<a0.size then decide (0≤Lib.indexAny a0.data.toList [60,38]) else decide (0≤strings_ContainsAny.g a0 a0.size 0)) else none
theorem strings_ContainsAny.calls (a0 a1:ByteArray) (r:Bool) (w:World) (h:strings_ContainsAny.f a0 a1=some r) :
  Calls Tryd.prog 80 #[.string a0,.string a1] w fun e w'=>e = .returned (.bool r)∧Below w.heap.size w w':=by
 unfold strings_ContainsAny.f at h
 by_cases c:a0.size<4294967281∧a1=⟨#[60,38]⟩
 ·rw [if_pos c] at h
  obtain⟨c1,rfl⟩:=c
  obtain⟨v,hv,hr⟩ : ∃ v,(Calls Tryd.prog 89 #[.string a0,.string (⟨#[60,38]⟩ : ByteArray)] w fun e w'=>e = .returned (.int .i64 v)∧Below w.heap.size w w')∧r=decide (0≤v):=by
   by_cases h8:8<a0.size
   ·rw [if_pos h8] at h
    refine⟨_,(Tryd.strings_IndexAny_long (zero_of_info (n:=256) (by kernel_rfl)).1 a0 (⟨#[60,38]⟩ : ByteArray) w (by decide) h8 c1 (by decide) ?_).mono fun e w' ⟨h1,h2⟩=>⟨h1,?_⟩,(Option.some.inj h).symm⟩
    ·intro j b hb
     have hm:b∈([60,38]:List UInt8):=List.mem_of_getElem? hb
     rcases List.mem_cons.mp hm with rfl|hm
     ·decide
     ·rcases List.mem_cons.mp hm with rfl|hm
      ·decide
      ·cases hm
    ·rw [h2]
     exact((Below.refl _ _).alloc (Nat.le_refl _) _).alloc (by simp) _
   ·rw [if_neg h8] at h
    exact⟨_,strings_ContainsAny.short a0 (by omega) w,(Option.some.inj h).symm⟩
  subst hr
  have hc:=Aside0.mk hv
  clear h hv c1
  go_enter Tryd.func80,Tryd.ntmps80
  go_wp2_with (go_at_call 89;refine hc.out.mono ?_;rintro e w1 ⟨rfl,hb⟩;have hb':=Aside0.mk hb;clear hb)
  go_ret
  exact⟨rfl,hb'.out⟩
 ·rw [if_neg c] at h
  exact absurd h (by simp)
end Go.Proofs.YtklcgncaclggcaaDoor.Q
