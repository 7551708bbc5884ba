/- A part of the proof of the seat's laws. No condition beyond those in the theorems. -/
import Derived.Test.YtklcgncaclggcaaDoorZSqzB
import Derived.Test.YtklcgncaclggcaaDoorZBase
import Derived.Deep.RegionWith
import Derived.Test.YtklcgncaclggcaaDoorZStepW
import Derived.Test.YtklcgncaclggcaaDoorZQ0g18
open Bool renaming true→T,false→F

namespace Go.Proofs.YtklcgncaclggcaaDoor.Q
open Go.RowKit Go.Proofs.YtklcgncaclggcaaDoorW.PrintWords Go.Proofs.YtklcgncaclggcaaDoorW.PrintLast Go.Proofs.YtklcgncaclggcaaDoorW.PrintMore
set_option linter.unusedVariables false
set_option linter.unusedSimpArgs false
set_option maxHeartbeats 8000000
set_option maxRecDepth 100000
attribute [local go_sem] max2_int min2_int max_two min_two max_three min_three max_four min_four   
def xml_reader_attribute.r2 (s:ByteArray) (p:Int):Option (Bool×ByteArray×Int):=(if 0≤p then(if p≤(s.size:Int) then(if p=(s.size:Int) then some (false,s,p) else(if bt s p=34∨bt s p=39 then(if 0≤wrap64 (p+1) then(if wrap64 (p+1)≤(s.size:Int) then((strings_IndexByte.f (s.extract (wrap64 (p+1):Int).toNat s.size) (bt s p)).bind fun i=>(if i<0 then some (false,s,p) else(if wrap64 (p+1)≤wrap64 (wrap64 (p+1)+i) then(if wrap64 (wrap64 (p+1)+i)≤(s.size:Int) then((strings_ContainsAny.f (s.extract (wrap64 (p+1):Int).toNat (wrap64 (wrap64 (p+1)+i):Int).toNat) (⟨#[60,38]⟩ : ByteArray)).bind fun c=>(if c=true then some (false,s,p) else some (true,s,wrap64 (p+wrap64 (i+2))))) else none) else none))) else none) else none) else some (false,s,p))) else none) else none)
def xml_reader_attribute.r1 (k:Nat) (s:ByteArray) (p:Int):Option (Bool×ByteArray×Int):=(xml_reader_space.f k s p).bind fun a=>(xml_reader_eat.f a.2.1 a.2.2 (⟨#[61]⟩ : ByteArray)).bind fun b=>(if b.1=true then((xml_reader_space.f k b.2.1 b.2.2).bind fun c=>xml_reader_attribute.r2 c.2.1 c.2.2) else some (false,b.2.1,b.2.2))
def xml_reader_attribute.f (k:Nat) (s:ByteArray) (p:Int):Option (Bool×ByteArray×Int):=(xml_reader_name.f k s p).bind fun n=>(xml_Name.f k n.1).bind fun v=>(if v=true then((xml_reader_eat.f n.2.1 n.2.2 (⟨#[58]⟩ : ByteArray)).bind fun e=>(if e.1=true then((xml_reader_name.f k e.2.1 e.2.2).bind fun m=>(xml_Name.f k m.1).bind fun u=>(if u=true then xml_reader_attribute.r1 k m.2.1 m.2.2 else some (false,m.2.1,m.2.2))) else xml_reader_attribute.r1 k e.2.1 e.2.2)) else some (false,n.2.1,n.2.2))
theorem xml_reader_attribute.mono:∀ s p k,LeO (xml_reader_attribute.f k s p) (xml_reader_attribute.f (k+1) s p):=by
 intro s p k
 unfold xml_reader_attribute.f xml_reader_attribute.r1
 with_reducible repeat' first|exact xml_reader_name.mono _ _ _|exact xml_reader_space.mono _ _ _|exact xml_Name.mono _ _|exact LeO.refl _|exact LeO.none _|refine LeO.ite ?_ ?_|refine LeO.bind ?_ (fun _=>?_)
theorem KeepBut.of_below {w w':World} {g:Nat} (h:Below w.heap.size w w'):KeepBut w w' g none:=⟨h.size,fun k hk _ _=>h.block k hk⟩
theorem xml_reader_attribute.c0 {w0 w:World} {g:Nat} {s:ByteArray} {p:Int} (h:IsS57 w0 w g s p):w.cell? ⟨g,0,none⟩=some (.string s):=(blk_cell h.1 0).trans rfl
theorem xml_reader_attribute.c1 {w0 w:World} {g:Nat} {s:ByteArray} {p:Int} (h:IsS57 w0 w g s p):w.cell? ⟨g,1,none⟩=some (.int .i64 p):=(blk_cell h.1 1).trans rfl
theorem xml_reader_attribute.z0 {w0 w:World} {g:Nat} {s:ByteArray} {p:Int} (h:IsS57 w0 w g s p):w.frozen? ⟨g,0,none⟩=false:=blk_frozen h.1 0
theorem xml_reader_attribute.z1 {w0 w:World} {g:Nat} {s:ByteArray} {p:Int} (h:IsS57 w0 w g s p):w.frozen? ⟨g,1,none⟩=false:=blk_frozen h.1 1
theorem xml_at.all {w0 w:World} {g:Nat} {s:ByteArray} {p:Int} (h:IsS57 w0 w g s p):w.cell? ⟨g,0,none⟩=some (.string s)∧w.cell? ⟨g,1,none⟩=some (.int .i64 p)∧w.frozen? ⟨g,0,none⟩=false∧w.frozen? ⟨g,1,none⟩=false:=⟨xml_reader_attribute.c0 h,xml_reader_attribute.c1 h,xml_reader_attribute.z0 h,xml_reader_attribute.z1 h⟩
theorem xml_at.il {P:Prop} (h:P:=by repeat (first|exact HI0.out|apply IsS57.drewN|apply IsS57.drew|apply IsS57.alloc|apply IsS57.set_0|apply IsS57.set_1)):P:=h
theorem xml_at.bl {P:Prop} (h:P:=by repeat (first|exact HB.out|apply below_alloc|apply pw_below_drewN|apply below_drew1|refine below_set ?_ (IsS57.ge HI0.out))):P:=h
theorem xml_at.kk {P:Prop} (h:P:=by repeat (first|exact HK.out|apply KeepBut.set_|apply keep_drewN|apply keep_drew|apply keep_alloc)):P:=h
theorem xml_at.ia {P:Prop} (h:P:=by first|exact HI0.out|exact IsS57.drewN HI0.out _|exact IsS57.drewN (IsS57.drewN HI0.out _) _):P:=h
theorem xml_at.id {P:Prop} (h:P:=by first|exact HI0.out|exact IsS57.drewN HI0.out _|exact IsS57.drew HI0.out|exact IsS57.drew (IsS57.drewN HI0.out _)|exact IsS57.drew (IsS57.drewN (IsS57.drewN HI0.out _) _)|exact IsS57.drewN (IsS57.drewN HI0.out _) _):P:=h
theorem xml_reader_attribute.calls (k:Nat) (g:Nat) (s:ByteArray) (p:Int) (r1:Bool) (r2:ByteArray) (r3:Int) (w0 w:World) (hI:IsS57 w0 w g s p) (hB:Below w0.heap.size w0 w) (h:xml_reader_attribute.f k s p=some (r1,r2,r3)) :
  Calls Tryd.prog 60 #[.pointer (some ⟨g,0,none⟩)] w fun e w'=>e = .returned (.bool r1)∧IsS57 w0 w' g r2 r3∧Below w0.heap.size w0 w'∧KeepBut w w' g none:=by
 have HI0:=Aside0.mk hI
 have HK:=Aside0.mk (KeepBut.refl w g none)
 have HB:=Aside0.mk hB
 clear hI hB
 unfold xml_reader_attribute.f at h
 obtain⟨q1,hq1,h⟩:=bndO h
 obtain⟨n1,n2,n3⟩:=q1
 have hN:=Aside0.mk hq1
 clear hq1
 obtain⟨v,hv0,h⟩:=bndO h
 have hV:=Aside0.mk hv0
 clear hv0
 obtain⟨hc0,hc1,hf0,hf1⟩:=xml_at.all HI0.out
 cases v with
 | false=>
  dsimp only at h
  rw [if_neg Bool.false_ne_true] at h
  simp only [Option.some.injEq,Prod.mk.injEq] at h
  obtain⟨rfl,rfl,rfl⟩:=h
  go_enter Tryd.func60,Tryd.ntmps60
  go_wp2_with (first|(go_at_call 59;with_reducible refine(xml_reader_name.calls k g s p n1 n2 n3 w0 _ ?s1 ?s2 hN.out).mono ?_;(case s1=>exact xml_at.ia);(case s2=>exact xml_at.bl);rintro e_ w_ ⟨rfl,hi,hb,hk⟩;replace HK:=Aside0.mk (KeepBut.trans xml_at.kk hk (.inl rfl));replace HI0:=Aside0.mk hi;replace HB:=Aside0.mk hb;clear hi hb hk;obtain⟨hc0,hc1,hf0,hf1⟩:=xml_at.all HI0.out)|(go_at_call 17;with_reducible refine(xml_Name.calls k n1 false _ hV.out).mono ?_;rintro e_ w_ ⟨rfl,⟨nd,rfl⟩⟩;(try first|exact⟨rfl,_,World.drewN_drewN _ _ _⟩|exact⟨rfl,_,Eq.trans (World.drewN_drewN _ _ _) (congrArg (World.drewN _) (Nat.add_assoc _ _ _))⟩)))
  go_ret
  exact⟨rfl,xml_at.il,xml_at.bl,xml_at.kk⟩
 | true=>
  rw [if_pos rfl] at h
  obtain⟨q2,hq2,h⟩:=bndO h
  obtain⟨e1,e2,e3⟩:=q2
  have hE:=Aside0.mk hq2
  clear hq2
  cases e1 with
  | false=>
   dsimp only at h
   rw [if_neg Bool.false_ne_true] at h
   unfold xml_reader_attribute.r1 at h
   obtain⟨q1,hq1,h⟩:=bndO h
   obtain⟨a1,a2,a3⟩:=q1
   have hSa:=Aside0.mk hq1
   clear hq1
   obtain⟨q2,hq2,h⟩:=bndO h
   obtain⟨b1,b2,b3⟩:=q2
   have hEb:=Aside0.mk hq2
   clear hq2
   cases b1 with
   | false=>
    dsimp only at h
    rw [if_neg Bool.false_ne_true] at h
    simp only [Option.some.injEq,Prod.mk.injEq] at h
    obtain⟨rfl,rfl,rfl⟩:=h
    go_enter Tryd.func60,Tryd.ntmps60
    go_wp2_with (first|(go_at_call 59;with_reducible refine(xml_reader_name.calls k g s p n1 n2 n3 w0 _ ?s1 ?s2 hN.out).mono ?_;(case s1=>exact xml_at.ia);(case s2=>exact xml_at.bl);rintro e_ w_ ⟨rfl,hi,hb,hk⟩;replace HK:=Aside0.mk (KeepBut.trans xml_at.kk hk (.inl rfl));replace HI0:=Aside0.mk hi;replace HB:=Aside0.mk hb;clear hi hb hk;obtain⟨hc0,hc1,hf0,hf1⟩:=xml_at.all HI0.out)|(go_at_call 17;with_reducible refine(xml_Name.calls k n1 true _ hV.out).mono ?_;rintro e_ w_ ⟨rfl,⟨nd,rfl⟩⟩;(try first|exact⟨rfl,_,World.drewN_drewN _ _ _⟩|exact⟨rfl,_,Eq.trans (World.drewN_drewN _ _ _) (congrArg (World.drewN _) (Nat.add_assoc _ _ _))⟩))|(go_at_call 58;with_reducible refine(xml_reader_eat.calls g n2 n3 (⟨#[58]⟩ : ByteArray) false e2 e3 w0 _ ?s1 ?s2 hE.out).mono ?_;(case s1=>exact xml_at.ia);(case s2=>exact xml_at.bl);rintro e_ w_ ⟨rfl,hi,hb,hk⟩;replace HK:=Aside0.mk (KeepBut.trans xml_at.kk hk (.inl rfl));replace HI0:=Aside0.mk hi;replace HB:=Aside0.mk hb;clear hi hb hk;obtain⟨hc0,hc1,hf0,hf1⟩:=xml_at.all HI0.out)|(go_at_call 29;with_reducible refine(xml_reader_space.calls k g e2 e3 a1 a2 a3 w0 _ ?s1 ?s2 hSa.out).mono ?_;(case s1=>exact xml_at.ia);(case s2=>exact xml_at.bl);rintro e_ w_ ⟨rfl,hi,hb,hk⟩;replace HK:=Aside0.mk (KeepBut.trans xml_at.kk hk (.inl rfl));replace HI0:=Aside0.mk hi;replace HB:=Aside0.mk hb;clear hi hb hk;obtain⟨hc0,hc1,hf0,hf1⟩:=xml_at.all HI0.out)|(go_at_call 58;with_reducible refine(xml_reader_eat.calls g a2 a3 (⟨#[61]⟩ : ByteArray) false b2 b3 w0 _ ?s1 ?s2 hEb.out).mono ?_;(case s1=>exact xml_at.ia);(case s2=>exact xml_at.bl);rintro e_ w_ ⟨rfl,hi,hb,hk⟩;replace HK:=Aside0.mk (KeepBut.trans xml_at.kk hk (.inl rfl));replace HI0:=Aside0.mk hi;replace HB:=Aside0.mk hb;clear hi hb hk;obtain⟨hc0,hc1,hf0,hf1⟩:=xml_at.all HI0.out))
    repeat (go_quiet (first|fail);try go_wp2_with (first|fail))
    go_ret
    exact⟨rfl,xml_at.il,xml_at.bl,xml_at.kk⟩
   | true=>
    dsimp only at h
    rw [if_pos rfl] at h
    obtain⟨q3,hq3,h⟩:=bndO h
    obtain⟨c1,c2,c3⟩:=q3
    have hSc:=Aside0.mk hq3
    clear hq3
    dsimp only at h
    unfold xml_reader_attribute.r2 at h
    rcases itO h with⟨g1,h⟩|⟨_,h⟩
    case inr=>exact absurd h (by simp)
    rcases itO h with⟨g2,h⟩|⟨_,h⟩
    case inr=>exact absurd h (by simp)
    rcases itO h with⟨g3,h⟩|⟨g3,h⟩
    ·have z1:(c3 == (c2.size:Int))=true:=beq_iff_eq.mpr g3
     clear g1 g2 g3
     simp only [Option.some.injEq,Prod.mk.injEq] at h
     obtain⟨rfl,rfl,rfl⟩:=h
     go_enter Tryd.func60,Tryd.ntmps60
     go_wp2_with (first|(go_at_call 59;with_reducible refine(xml_reader_name.calls k g s p n1 n2 n3 w0 _ ?s1 ?s2 hN.out).mono ?_;(case s1=>exact xml_at.ia);(case s2=>exact xml_at.bl);rintro e_ w_ ⟨rfl,hi,hb,hk⟩;replace HK:=Aside0.mk (KeepBut.trans xml_at.kk hk (.inl rfl));replace HI0:=Aside0.mk hi;replace HB:=Aside0.mk hb;clear hi hb hk;obtain⟨hc0,hc1,hf0,hf1⟩:=xml_at.all HI0.out)|(go_at_call 17;with_reducible refine(xml_Name.calls k n1 true _ hV.out).mono ?_;rintro e_ w_ ⟨rfl,⟨nd,rfl⟩⟩;(try first|exact⟨rfl,_,World.drewN_drewN _ _ _⟩|exact⟨rfl,_,Eq.trans (World.drewN_drewN _ _ _) (congrArg (World.drewN _) (Nat.add_assoc _ _ _))⟩))|(go_at_call 58;with_reducible refine(xml_reader_eat.calls g n2 n3 (⟨#[58]⟩ : ByteArray) false e2 e3 w0 _ ?s1 ?s2 hE.out).mono ?_;(case s1=>exact xml_at.ia);(case s2=>exact xml_at.bl);rintro e_ w_ ⟨rfl,hi,hb,hk⟩;replace HK:=Aside0.mk (KeepBut.trans xml_at.kk hk (.inl rfl));replace HI0:=Aside0.mk hi;replace HB:=Aside0.mk hb;clear hi hb hk;obtain⟨hc0,hc1,hf0,hf1⟩:=xml_at.all HI0.out)|(go_at_call 29;with_reducible refine(xml_reader_space.calls k g e2 e3 a1 a2 a3 w0 _ ?s1 ?s2 hSa.out).mono ?_;(case s1=>exact xml_at.ia);(case s2=>exact xml_at.bl);rintro e_ w_ ⟨rfl,hi,hb,hk⟩;replace HK:=Aside0.mk (KeepBut.trans xml_at.kk hk (.inl rfl));replace HI0:=Aside0.mk hi;replace HB:=Aside0.mk hb;clear hi hb hk;obtain⟨hc0,hc1,hf0,hf1⟩:=xml_at.all HI0.out)|(go_at_call 58;with_reducible refine(xml_reader_eat.calls g a2 a3 (⟨#[61]⟩ : ByteArray) true b2 b3 w0 _ ?s1 ?s2 hEb.out).mono ?_;(case s1=>exact xml_at.ia);(case s2=>exact xml_at.bl);rintro e_ w_ ⟨rfl,hi,hb,hk⟩;replace HK:=Aside0.mk (KeepBut.trans xml_at.kk hk (.inl rfl));replace HI0:=Aside0.mk hi;replace HB:=Aside0.mk hb;clear hi hb hk;obtain⟨hc0,hc1,hf0,hf1⟩:=xml_at.all HI0.out)|(go_at_call 29;with_reducible refine(xml_reader_space.calls k g b2 b3 c1 c2 c3 w0 _ ?s1 ?s2 hSc.out).mono ?_;(case s1=>exact xml_at.ia);(case s2=>exact xml_at.bl);rintro e_ w_ ⟨rfl,hi,hb,hk⟩;replace HK:=Aside0.mk (KeepBut.trans xml_at.kk hk (.inl rfl));replace HI0:=Aside0.mk hi;replace HB:=Aside0.mk hb;clear hi hb hk;obtain⟨hc0,hc1,hf0,hf1⟩:=xml_at.all HI0.out))
     repeat (go_quiet (first|fail);try go_wp2_with (first|fail))
     go_ret
     exact⟨rfl,xml_at.il,xml_at.bl,xml_at.kk⟩
    have z1:(c3 == (c2.size:Int))=false:=beq_eq_false_iff_ne.mpr g3
    have q1:c3<(c2.size:Int):=by omega
    have q2:decide (c3<(c2.size:Int))=true:=decide_eq_true q1
    have p2:decide (0≤c3)=true:=decide_eq_true g1
    have hx:=bt_at c2 c3
    have p1:=eq_true g1
    replace q1:=eq_true q1
    clear g1 g2 g3
    obtain⟨mk,hmk⟩ : ∃ m,bt c2 c3=m:=⟨_,rfl⟩
    rw [hmk] at h hx
    clear hmk
    by_cases gm:mk=34∨mk=39
    case neg=>
     rw [if_neg gm] at h
     simp only [Option.some.injEq,Prod.mk.injEq] at h
     obtain⟨rfl,rfl,rfl⟩:=h
     have y1:(mk != 34)=true:=bne_iff_ne.mpr (fun x=>gm (.inl x))
     have y2:(mk != 39)=true:=bne_iff_ne.mpr (fun x=>gm (.inr x))
     clear gm
     go_enter Tryd.func60,Tryd.ntmps60
     go_wp2_with (first|(go_at_call 59;with_reducible refine(xml_reader_name.calls k g s p n1 n2 n3 w0 _ ?s1 ?s2 hN.out).mono ?_;(case s1=>exact xml_at.ia);(case s2=>exact xml_at.bl);rintro e_ w_ ⟨rfl,hi,hb,hk⟩;replace HK:=Aside0.mk (KeepBut.trans xml_at.kk hk (.inl rfl));replace HI0:=Aside0.mk hi;replace HB:=Aside0.mk hb;clear hi hb hk;obtain⟨hc0,hc1,hf0,hf1⟩:=xml_at.all HI0.out)|(go_at_call 17;with_reducible refine(xml_Name.calls k n1 true _ hV.out).mono ?_;rintro e_ w_ ⟨rfl,⟨nd,rfl⟩⟩;(try first|exact⟨rfl,_,World.drewN_drewN _ _ _⟩|exact⟨rfl,_,Eq.trans (World.drewN_drewN _ _ _) (congrArg (World.drewN _) (Nat.add_assoc _ _ _))⟩))|(go_at_call 58;with_reducible refine(xml_reader_eat.calls g n2 n3 (⟨#[58]⟩ : ByteArray) false e2 e3 w0 _ ?s1 ?s2 hE.out).mono ?_;(case s1=>exact xml_at.ia);(case s2=>exact xml_at.bl);rintro e_ w_ ⟨rfl,hi,hb,hk⟩;replace HK:=Aside0.mk (KeepBut.trans xml_at.kk hk (.inl rfl));replace HI0:=Aside0.mk hi;replace HB:=Aside0.mk hb;clear hi hb hk;obtain⟨hc0,hc1,hf0,hf1⟩:=xml_at.all HI0.out)|(go_at_call 29;with_reducible refine(xml_reader_space.calls k g e2 e3 a1 a2 a3 w0 _ ?s1 ?s2 hSa.out).mono ?_;(case s1=>exact xml_at.ia);(case s2=>exact xml_at.bl);rintro e_ w_ ⟨rfl,hi,hb,hk⟩;replace HK:=Aside0.mk (KeepBut.trans xml_at.kk hk (.inl rfl));replace HI0:=Aside0.mk hi;replace HB:=Aside0.mk hb;clear hi hb hk;obtain⟨hc0,hc1,hf0,hf1⟩:=xml_at.all HI0.out)|(go_at_call 58;with_reducible refine(xml_reader_eat.calls g a2 a3 (⟨#[61]⟩ : ByteArray) true b2 b3 w0 _ ?s1 ?s2 hEb.out).mono ?_;(case s1=>exact xml_at.ia);(case s2=>exact xml_at.bl);rintro e_ w_ ⟨rfl,hi,hb,hk⟩;replace HK:=Aside0.mk (KeepBut.trans xml_at.kk hk (.inl rfl));replace HI0:=Aside0.mk hi;replace HB:=Aside0.mk hb;clear hi hb hk;obtain⟨hc0,hc1,hf0,hf1⟩:=xml_at.all HI0.out)|(go_at_call 29;with_reducible refine(xml_reader_space.calls k g b2 b3 c1 c2 c3 w0 _ ?s1 ?s2 hSc.out).mono ?_;(case s1=>exact xml_at.ia);(case s2=>exact xml_at.bl);rintro e_ w_ ⟨rfl,hi,hb,hk⟩;replace HK:=Aside0.mk (KeepBut.trans xml_at.kk hk (.inl rfl));replace HI0:=Aside0.mk hi;replace HB:=Aside0.mk hb;clear hi hb hk;obtain⟨hc0,hc1,hf0,hf1⟩:=xml_at.all HI0.out))
     repeat (go_quiet (first|fail);try go_wp2_with (first|fail))
     go_ret
     exact⟨rfl,xml_at.il,xml_at.bl,xml_at.kk⟩
    rw [if_pos gm] at h
    have hmm:((mk != 34) && (mk != 39))=false:=by rcases gm with rfl|rfl <;> rfl
    rcases itO h with⟨g4,h⟩|⟨_,h⟩
    case inr=>exact absurd h (by simp)
    rcases itO h with⟨g5,h⟩|⟨_,h⟩
    case inr=>exact absurd h (by simp)
    have y4:=eq_true g4
    have y5:=eq_true g5
    have y6:=decide_eq_true g4
    have y7:=decide_eq_true g5
    clear g4 g5
    obtain⟨i,hi0,h⟩:=bndO h
    have hI:=Aside0.mk hi0
    clear hi0
    rcases itO h with⟨g6,h⟩|⟨g6,h⟩
    ·have y8:decide (i<0)=true:=decide_eq_true g6
     clear g6
     simp only [Option.some.injEq,Prod.mk.injEq] at h
     obtain⟨rfl,rfl,rfl⟩:=h
     rcases gm with rfl|rfl
     all_goals
      go_enter Tryd.func60,Tryd.ntmps60
      go_wp2_with (first|(go_at_call 59;with_reducible refine(xml_reader_name.calls k g s p n1 n2 n3 w0 _ ?s1 ?s2 hN.out).mono ?_;(case s1=>exact xml_at.ia);(case s2=>exact xml_at.bl);rintro e_ w_ ⟨rfl,hi,hb,hk⟩;replace HK:=Aside0.mk (KeepBut.trans xml_at.kk hk (.inl rfl));replace HI0:=Aside0.mk hi;replace HB:=Aside0.mk hb;clear hi hb hk;obtain⟨hc0,hc1,hf0,hf1⟩:=xml_at.all HI0.out)|(go_at_call 17;with_reducible refine(xml_Name.calls k n1 true _ hV.out).mono ?_;rintro e_ w_ ⟨rfl,⟨nd,rfl⟩⟩;(try first|exact⟨rfl,_,World.drewN_drewN _ _ _⟩|exact⟨rfl,_,Eq.trans (World.drewN_drewN _ _ _) (congrArg (World.drewN _) (Nat.add_assoc _ _ _))⟩))|(go_at_call 58;with_reducible refine(xml_reader_eat.calls g n2 n3 (⟨#[58]⟩ : ByteArray) false e2 e3 w0 _ ?s1 ?s2 hE.out).mono ?_;(case s1=>exact xml_at.ia);(case s2=>exact xml_at.bl);rintro e_ w_ ⟨rfl,hi,hb,hk⟩;replace HK:=Aside0.mk (KeepBut.trans xml_at.kk hk (.inl rfl));replace HI0:=Aside0.mk hi;replace HB:=Aside0.mk hb;clear hi hb hk;obtain⟨hc0,hc1,hf0,hf1⟩:=xml_at.all HI0.out)|(go_at_call 29;with_reducible refine(xml_reader_space.calls k g e2 e3 a1 a2 a3 w0 _ ?s1 ?s2 hSa.out).mono ?_;(case s1=>exact xml_at.ia);(case s2=>exact xml_at.bl);rintro e_ w_ ⟨rfl,hi,hb,hk⟩;replace HK:=Aside0.mk (KeepBut.trans xml_at.kk hk (.inl rfl));replace HI0:=Aside0.mk hi;replace HB:=Aside0.mk hb;clear hi hb hk;obtain⟨hc0,hc1,hf0,hf1⟩:=xml_at.all HI0.out)|(go_at_call 58;with_reducible refine(xml_reader_eat.calls g a2 a3 (⟨#[61]⟩ : ByteArray) true b2 b3 w0 _ ?s1 ?s2 hEb.out).mono ?_;(case s1=>exact xml_at.ia);(case s2=>exact xml_at.bl);rintro e_ w_ ⟨rfl,hi,hb,hk⟩;replace HK:=Aside0.mk (KeepBut.trans xml_at.kk hk (.inl rfl));replace HI0:=Aside0.mk hi;replace HB:=Aside0.mk hb;clear hi hb hk;obtain⟨hc0,hc1,hf0,hf1⟩:=xml_at.all HI0.out)|(go_at_call 29;with_reducible refine(xml_reader_space.calls k g b2 b3 c1 c2 c3 w0 _ ?s1 ?s2 hSc.out).mono ?_;(case s1=>exact xml_at.ia);(case s2=>exact xml_at.bl);rintro e_ w_ ⟨rfl,hi,hb,hk⟩;replace HK:=Aside0.mk (KeepBut.trans xml_at.kk hk (.inl rfl));replace HI0:=Aside0.mk hi;replace HB:=Aside0.mk hb;clear hi hb hk;obtain⟨hc0,hc1,hf0,hf1⟩:=xml_at.all HI0.out)|(go_at_call 79;with_reducible refine(strings_IndexByte.calls (c2.extract (wrap64 (c3+1):Int).toNat c2.size) _ i _ hI.out).mono ?_;rintro e_ w_ ⟨rfl,⟨nd,rfl⟩⟩;(try first|exact⟨rfl,_,World.drewN_drewN _ _ _⟩|exact⟨rfl,_,Eq.trans (World.drewN_drewN _ _ _) (congrArg (World.drewN _) (Nat.add_assoc _ _ _))⟩)))
      repeat (go_quiet (first|(go_at_call 79;with_reducible refine(strings_IndexByte.calls (c2.extract (wrap64 (c3+1):Int).toNat c2.size) _ i _ hI.out).mono ?_;rintro e_ w_ ⟨rfl,⟨nd,rfl⟩⟩;(try first|exact⟨rfl,_,World.drewN_drewN _ _ _⟩|exact⟨rfl,_,Eq.trans (World.drewN_drewN _ _ _) (congrArg (World.drewN _) (Nat.add_assoc _ _ _))⟩)));try go_wp2_with (first|(go_at_call 79;with_reducible refine(strings_IndexByte.calls (c2.extract (wrap64 (c3+1):Int).toNat c2.size) _ i _ hI.out).mono ?_;rintro e_ w_ ⟨rfl,⟨nd,rfl⟩⟩;(try first|exact⟨rfl,_,World.drewN_drewN _ _ _⟩|exact⟨rfl,_,Eq.trans (World.drewN_drewN _ _ _) (congrArg (World.drewN _) (Nat.add_assoc _ _ _))⟩))))
      go_ret
      exact⟨rfl,xml_at.il,xml_at.bl,xml_at.kk⟩
    have y8:decide (i<0)=false:=decide_eq_false g6
    clear g6
    rcases itO h with⟨g7,h⟩|⟨_,h⟩
    case inr=>exact absurd h (by simp)
    rcases itO h with⟨g8,h⟩|⟨_,h⟩
    case inr=>exact absurd h (by simp)
    have y9:=eq_true g7
    have y10:=eq_true g8
    have y11:=decide_eq_true g7
    have y12:=decide_eq_true g8
    clear g7 g8
    obtain⟨c,hc0,h⟩:=bndO h
    have hC:=Aside0.mk hc0
    clear hc0
    cases c with
    | true=>
     rw [if_pos rfl] at h
     simp only [Option.some.injEq,Prod.mk.injEq] at h
     obtain⟨rfl,rfl,rfl⟩:=h
     rcases gm with rfl|rfl
     all_goals
      go_enter Tryd.func60,Tryd.ntmps60
      go_wp2_with (first|(go_at_call 59;with_reducible refine(xml_reader_name.calls k g s p n1 n2 n3 w0 _ ?s1 ?s2 hN.out).mono ?_;(case s1=>exact xml_at.ia);(case s2=>exact xml_at.bl);rintro e_ w_ ⟨rfl,hi,hb,hk⟩;replace HK:=Aside0.mk (KeepBut.trans xml_at.kk hk (.inl rfl));replace HI0:=Aside0.mk hi;replace HB:=Aside0.mk hb;clear hi hb hk;obtain⟨hc0,hc1,hf0,hf1⟩:=xml_at.all HI0.out)|(go_at_call 17;with_reducible refine(xml_Name.calls k n1 true _ hV.out).mono ?_;rintro e_ w_ ⟨rfl,⟨nd,rfl⟩⟩;(try first|exact⟨rfl,_,World.drewN_drewN _ _ _⟩|exact⟨rfl,_,Eq.trans (World.drewN_drewN _ _ _) (congrArg (World.drewN _) (Nat.add_assoc _ _ _))⟩))|(go_at_call 58;with_reducible refine(xml_reader_eat.calls g n2 n3 (⟨#[58]⟩ : ByteArray) false e2 e3 w0 _ ?s1 ?s2 hE.out).mono ?_;(case s1=>exact xml_at.ia);(case s2=>exact xml_at.bl);rintro e_ w_ ⟨rfl,hi,hb,hk⟩;replace HK:=Aside0.mk (KeepBut.trans xml_at.kk hk (.inl rfl));replace HI0:=Aside0.mk hi;replace HB:=Aside0.mk hb;clear hi hb hk;obtain⟨hc0,hc1,hf0,hf1⟩:=xml_at.all HI0.out)|(go_at_call 29;with_reducible refine(xml_reader_space.calls k g e2 e3 a1 a2 a3 w0 _ ?s1 ?s2 hSa.out).mono ?_;(case s1=>exact xml_at.ia);(case s2=>exact xml_at.bl);rintro e_ w_ ⟨rfl,hi,hb,hk⟩;replace HK:=Aside0.mk (KeepBut.trans xml_at.kk hk (.inl rfl));replace HI0:=Aside0.mk hi;replace HB:=Aside0.mk hb;clear hi hb hk;obtain⟨hc0,hc1,hf0,hf1⟩:=xml_at.all HI0.out)|(go_at_call 58;with_reducible refine(xml_reader_eat.calls g a2 a3 (⟨#[61]⟩ : ByteArray) true b2 b3 w0 _ ?s1 ?s2 hEb.out).mono ?_;(case s1=>exact xml_at.ia);(case s2=>exact xml_at.bl);rintro e_ w_ ⟨rfl,hi,hb,hk⟩;replace HK:=Aside0.mk (KeepBut.trans xml_at.kk hk (.inl rfl));replace HI0:=Aside0.mk hi;replace HB:=Aside0.mk hb;clear hi hb hk;obtain⟨hc0,hc1,hf0,hf1⟩:=xml_at.all HI0.out)|(go_at_call 29;with_reducible refine(xml_reader_space.calls k g b2 b3 c1 c2 c3 w0 _ ?s1 ?s2 hSc.out).mono ?_;(case s1=>exact xml_at.ia);(case s2=>exact xml_at.bl);rintro e_ w_ ⟨rfl,hi,hb,hk⟩;replace HK:=Aside0.mk (KeepBut.trans xml_at.kk hk (.inl rfl));replace HI0:=Aside0.mk hi;replace HB:=Aside0.mk hb;clear hi hb hk;obtain⟨hc0,hc1,hf0,hf1⟩:=xml_at.all HI0.out)|(go_at_call 79;with_reducible refine(strings_IndexByte.calls (c2.extract (wrap64 (c3+1):Int).toNat c2.size) _ i _ hI.out).mono ?_;rintro e_ w_ ⟨rfl,⟨nd,rfl⟩⟩;(try first|exact⟨rfl,_,World.drewN_drewN _ _ _⟩|exact⟨rfl,_,Eq.trans (World.drewN_drewN _ _ _) (congrArg (World.drewN _) (Nat.add_assoc _ _ _))⟩)))
      repeat (go_quiet (first|(go_at_call 79;with_reducible refine(strings_IndexByte.calls (c2.extract (wrap64 (c3+1):Int).toNat c2.size) _ i _ hI.out).mono ?_;rintro e_ w_ ⟨rfl,⟨nd,rfl⟩⟩;(try first|exact⟨rfl,_,World.drewN_drewN _ _ _⟩|exact⟨rfl,_,Eq.trans (World.drewN_drewN _ _ _) (congrArg (World.drewN _) (Nat.add_assoc _ _ _))⟩)));try go_wp2_with (first|(go_at_call 79;with_reducible refine(strings_IndexByte.calls (c2.extract (wrap64 (c3+1):Int).toNat c2.size) _ i _ hI.out).mono ?_;rintro e_ w_ ⟨rfl,⟨nd,rfl⟩⟩;(try first|exact⟨rfl,_,World.drewN_drewN _ _ _⟩|exact⟨rfl,_,Eq.trans (World.drewN_drewN _ _ _) (congrArg (World.drewN _) (Nat.add_assoc _ _ _))⟩))))
      refine start_ (n:=22) (S:=fun w'=>w'.cell? ⟨g,0,none⟩=some (.string c2)∧w'.cell? ⟨g,1,none⟩=some (.int .i64 c3)) (ds:=[]) #[F,F,F,F,F,F,F,F,F,F,F,F,F,F,F,F,F,F,F,F,F,F] (by kernel_rfl) rfl rfl ⟨xml_reader_attribute.c0 xml_at.id,xml_reader_attribute.c1 xml_at.id⟩ (fun hHeld=>?_)
      refine pu 0 63 #[T,F,F,F,F,F,F,F,F,F,F,F,F,F,F,F,F,F,F,F,F,F] ?_
      refine pu 1 64 #[T,T,F,F,F,F,F,F,F,F,F,F,F,F,F,F,F,F,F,F,F,F] ?_
      refine pu 2 65 #[T,T,T,F,F,F,F,F,F,F,F,F,F,F,F,F,F,F,F,F,F,F] ?_
      refine pu 3 66 #[T,T,T,T,F,F,F,F,F,F,F,F,F,F,F,F,F,F,F,F,F,F] ?_
      refine pu 4 67 #[T,T,T,T,T,F,F,F,F,F,F,F,F,F,F,F,F,F,F,F,F,F] ?_
      refine pu 5 68 #[T,T,T,T,T,T,F,F,F,F,F,F,F,F,F,F,F,F,F,F,F,F] ?_
      refine tk 6 69 #[T,T,T,T,T,T,T,F,F,F,F,F,F,F,F,F,F,F,F,F,F,F] hHeld ?_
      refine pu 7 70 #[T,T,T,T,T,T,T,T,F,F,F,F,F,F,F,F,F,F,F,F,F,F] ?_
      refine pu 8 71 #[T,T,T,T,T,T,T,T,T,F,F,F,F,F,F,F,F,F,F,F,F,F] ?_
      refine pu 9 72 #[T,T,T,T,T,T,T,T,T,T,F,F,F,F,F,F,F,F,F,F,F,F] ?_
      refine tk 10 73 #[T,T,T,T,T,T,T,T,T,T,T,F,F,F,F,F,F,F,F,F,F,F] hHeld ?_
      refine pu 11 74 #[T,T,T,T,T,T,T,T,T,T,T,T,F,F,F,F,F,F,F,F,F,F] ?_
      refine pu 12 75 #[T,T,T,T,T,T,T,T,T,T,T,T,T,F,F,F,F,F,F,F,F,F] ?_
      refine pu 13 76 #[T,T,T,T,T,T,T,T,T,T,T,T,T,T,F,F,F,F,F,F,F,F] ?_
      refine pu 14 77 #[T,T,T,T,T,T,T,T,T,T,T,T,T,T,T,F,F,F,F,F,F,F] ?_
      refine tk 15 78 #[T,T,T,T,T,T,T,T,T,T,T,T,T,T,T,T,F,F,F,F,F,F] hHeld ?_
      refine pu 16 79 #[T,T,T,T,T,T,T,T,T,T,T,T,T,T,T,T,T,F,F,F,F,F] ?_
      refine pu 17 80 #[T,T,T,T,T,T,T,T,T,T,T,T,T,T,T,T,T,T,F,F,F,F] ?_
      refine pu 18 81 #[T,T,T,T,T,T,T,T,T,T,T,T,T,T,T,T,T,T,T,F,F,F] ?_
      refine pu 19 82 #[T,T,T,T,T,T,T,T,T,T,T,T,T,T,T,T,T,T,T,T,F,F] ?_
      refine one_ (i:=20) (N:=some 83) #[T,T,T,T,T,T,T,T,T,T,T,T,T,T,T,T,T,T,T,T,T,F] rfl rfl (by kernel_rfl) (by decide) (fun K hK=>?_)
      refine goes_ Tryd.func80 (by kernel_rfl) rfl #[.string (c2.extract (wrap64 (c3+1):Int).toNat (wrap64 (wrap64 (c3+1)+i):Int).toNat),.string (⟨#[60,38]⟩ : ByteArray)] (by rfl) rfl rfl (by(try simp only [List.map_toArray,List.map_cons,List.map_nil]);first|done|rfl) ?_
      with_reducible refine(strings_ContainsAny.calls (c2.extract (wrap64 (c3+1):Int).toNat (wrap64 (wrap64 (c3+1)+i):Int).toNat) (⟨#[60,38]⟩ : ByteArray) true _ hC.out).mono ?_
      rintro e_ w9 ⟨rfl,hb⟩
      refine⟨_,rfl,?_⟩
      have hi:=Aside0.mk (IsS57.below xml_at.id hb)
      have hk:=Aside0.mk (KeepBut.trans xml_at.kk (KeepBut.of_below (g:=g) hb) (.inl rfl))
      have hbb:=Aside0.mk (below_step xml_at.bl hb)
      clear HI0 HK HB
      have HI0:=hi
      have HK:=hk
      have HB:=hbb
      clear hi hk hbb hb
      refine hK.out _ _ ⟨xml_reader_attribute.c0 HI0.out,xml_reader_attribute.c1 HI0.out⟩ (fun hHeld=>?_)
      clear hK K
      refine nw ?_
      refine pu 21 84 #[T,T,T,T,T,T,T,T,T,T,T,T,T,T,T,T,T,T,T,T,T,T] ?_
      refine done_ (by kernel_rfl) ?_
      have hc0:=xml_reader_attribute.c0 HI0.out
      have hc1:=xml_reader_attribute.c1 HI0.out
      have hf1:=xml_reader_attribute.z1 HI0.out
      go_wp2
      go_ret
      exact⟨rfl,xml_at.il,xml_at.bl,xml_at.kk⟩
    | false=>
     rw [if_neg Bool.false_ne_true] at h
     simp only [Option.some.injEq,Prod.mk.injEq] at h
     obtain⟨rfl,rfl,rfl⟩:=h
     rcases gm with rfl|rfl
     all_goals
      go_enter Tryd.func60,Tryd.ntmps60
      go_wp2_with (first|(go_at_call 59;with_reducible refine(xml_reader_name.calls k g s p n1 n2 n3 w0 _ ?s1 ?s2 hN.out).mono ?_;(case s1=>exact xml_at.ia);(case s2=>exact xml_at.bl);rintro e_ w_ ⟨rfl,hi,hb,hk⟩;replace HK:=Aside0.mk (KeepBut.trans xml_at.kk hk (.inl rfl));replace HI0:=Aside0.mk hi;replace HB:=Aside0.mk hb;clear hi hb hk;obtain⟨hc0,hc1,hf0,hf1⟩:=xml_at.all HI0.out)|(go_at_call 17;with_reducible refine(xml_Name.calls k n1 true _ hV.out).mono ?_;rintro e_ w_ ⟨rfl,⟨nd,rfl⟩⟩;(try first|exact⟨rfl,_,World.drewN_drewN _ _ _⟩|exact⟨rfl,_,Eq.trans (World.drewN_drewN _ _ _) (congrArg (World.drewN _) (Nat.add_assoc _ _ _))⟩))|(go_at_call 58;with_reducible refine(xml_reader_eat.calls g n2 n3 (⟨#[58]⟩ : ByteArray) false e2 e3 w0 _ ?s1 ?s2 hE.out).mono ?_;(case s1=>exact xml_at.ia);(case s2=>exact xml_at.bl);rintro e_ w_ ⟨rfl,hi,hb,hk⟩;replace HK:=Aside0.mk (KeepBut.trans xml_at.kk hk (.inl rfl));replace HI0:=Aside0.mk hi;replace HB:=Aside0.mk hb;clear hi hb hk;obtain⟨hc0,hc1,hf0,hf1⟩:=xml_at.all HI0.out)|(go_at_call 29;with_reducible refine(xml_reader_space.calls k g e2 e3 a1 a2 a3 w0 _ ?s1 ?s2 hSa.out).mono ?_;(case s1=>exact xml_at.ia);(case s2=>exact xml_at.bl);rintro e_ w_ ⟨rfl,hi,hb,hk⟩;replace HK:=Aside0.mk (KeepBut.trans xml_at.kk hk (.inl rfl));replace HI0:=Aside0.mk hi;replace HB:=Aside0.mk hb;clear hi hb hk;obtain⟨hc0,hc1,hf0,hf1⟩:=xml_at.all HI0.out)|(go_at_call 58;with_reducible refine(xml_reader_eat.calls g a2 a3 (⟨#[61]⟩ : ByteArray) true b2 b3 w0 _ ?s1 ?s2 hEb.out).mono ?_;(case s1=>exact xml_at.ia);(case s2=>exact xml_at.bl);rintro e_ w_ ⟨rfl,hi,hb,hk⟩;replace HK:=Aside0.mk (KeepBut.trans xml_at.kk hk (.inl rfl));replace HI0:=Aside0.mk hi;replace HB:=Aside0.mk hb;clear hi hb hk;obtain⟨hc0,hc1,hf0,hf1⟩:=xml_at.all HI0.out)|(go_at_call 29;with_reducible refine(xml_reader_space.calls k g b2 b3 c1 c2 c3 w0 _ ?s1 ?s2 hSc.out).mono ?_;(case s1=>exact xml_at.ia);(case s2=>exact xml_at.bl);rintro e_ w_ ⟨rfl,hi,hb,hk⟩;replace HK:=Aside0.mk (KeepBut.trans xml_at.kk hk (.inl rfl));replace HI0:=Aside0.mk hi;replace HB:=Aside0.mk hb;clear hi hb hk;obtain⟨hc0,hc1,hf0,hf1⟩:=xml_at.all HI0.out)|(go_at_call 79;with_reducible refine(strings_IndexByte.calls (c2.extract (wrap64 (c3+1):Int).toNat c2.size) _ i _ hI.out).mono ?_;rintro e_ w_ ⟨rfl,⟨nd,rfl⟩⟩;(try first|exact⟨rfl,_,World.drewN_drewN _ _ _⟩|exact⟨rfl,_,Eq.trans (World.drewN_drewN _ _ _) (congrArg (World.drewN _) (Nat.add_assoc _ _ _))⟩)))
      repeat (go_quiet (first|(go_at_call 79;with_reducible refine(strings_IndexByte.calls (c2.extract (wrap64 (c3+1):Int).toNat c2.size) _ i _ hI.out).mono ?_;rintro e_ w_ ⟨rfl,⟨nd,rfl⟩⟩;(try first|exact⟨rfl,_,World.drewN_drewN _ _ _⟩|exact⟨rfl,_,Eq.trans (World.drewN_drewN _ _ _) (congrArg (World.drewN _) (Nat.add_assoc _ _ _))⟩)));try go_wp2_with (first|(go_at_call 79;with_reducible refine(strings_IndexByte.calls (c2.extract (wrap64 (c3+1):Int).toNat c2.size) _ i _ hI.out).mono ?_;rintro e_ w_ ⟨rfl,⟨nd,rfl⟩⟩;(try first|exact⟨rfl,_,World.drewN_drewN _ _ _⟩|exact⟨rfl,_,Eq.trans (World.drewN_drewN _ _ _) (congrArg (World.drewN _) (Nat.add_assoc _ _ _))⟩))))
      refine start_ (n:=22) (S:=fun w'=>w'.cell? ⟨g,0,none⟩=some (.string c2)∧w'.cell? ⟨g,1,none⟩=some (.int .i64 c3)) (ds:=[]) #[F,F,F,F,F,F,F,F,F,F,F,F,F,F,F,F,F,F,F,F,F,F] (by kernel_rfl) rfl rfl ⟨xml_reader_attribute.c0 xml_at.id,xml_reader_attribute.c1 xml_at.id⟩ (fun hHeld=>?_)
      refine pu 0 63 #[T,F,F,F,F,F,F,F,F,F,F,F,F,F,F,F,F,F,F,F,F,F] ?_
      refine pu 1 64 #[T,T,F,F,F,F,F,F,F,F,F,F,F,F,F,F,F,F,F,F,F,F] ?_
      refine pu 2 65 #[T,T,T,F,F,F,F,F,F,F,F,F,F,F,F,F,F,F,F,F,F,F] ?_
      refine pu 3 66 #[T,T,T,T,F,F,F,F,F,F,F,F,F,F,F,F,F,F,F,F,F,F] ?_
      refine pu 4 67 #[T,T,T,T,T,F,F,F,F,F,F,F,F,F,F,F,F,F,F,F,F,F] ?_
      refine pu 5 68 #[T,T,T,T,T,T,F,F,F,F,F,F,F,F,F,F,F,F,F,F,F,F] ?_
      refine tk 6 69 #[T,T,T,T,T,T,T,F,F,F,F,F,F,F,F,F,F,F,F,F,F,F] hHeld ?_
      refine pu 7 70 #[T,T,T,T,T,T,T,T,F,F,F,F,F,F,F,F,F,F,F,F,F,F] ?_
      refine pu 8 71 #[T,T,T,T,T,T,T,T,T,F,F,F,F,F,F,F,F,F,F,F,F,F] ?_
      refine pu 9 72 #[T,T,T,T,T,T,T,T,T,T,F,F,F,F,F,F,F,F,F,F,F,F] ?_
      refine tk 10 73 #[T,T,T,T,T,T,T,T,T,T,T,F,F,F,F,F,F,F,F,F,F,F] hHeld ?_
      refine pu 11 74 #[T,T,T,T,T,T,T,T,T,T,T,T,F,F,F,F,F,F,F,F,F,F] ?_
      refine pu 12 75 #[T,T,T,T,T,T,T,T,T,T,T,T,T,F,F,F,F,F,F,F,F,F] ?_
      refine pu 13 76 #[T,T,T,T,T,T,T,T,T,T,T,T,T,T,F,F,F,F,F,F,F,F] ?_
      refine pu 14 77 #[T,T,T,T,T,T,T,T,T,T,T,T,T,T,T,F,F,F,F,F,F,F] ?_
      refine tk 15 78 #[T,T,T,T,T,T,T,T,T,T,T,T,T,T,T,T,F,F,F,F,F,F] hHeld ?_
      refine pu 16 79 #[T,T,T,T,T,T,T,T,T,T,T,T,T,T,T,T,T,F,F,F,F,F] ?_
      refine pu 17 80 #[T,T,T,T,T,T,T,T,T,T,T,T,T,T,T,T,T,T,F,F,F,F] ?_
      refine pu 18 81 #[T,T,T,T,T,T,T,T,T,T,T,T,T,T,T,T,T,T,T,F,F,F] ?_
      refine pu 19 82 #[T,T,T,T,T,T,T,T,T,T,T,T,T,T,T,T,T,T,T,T,F,F] ?_
      refine one_ (i:=20) (N:=some 83) #[T,T,T,T,T,T,T,T,T,T,T,T,T,T,T,T,T,T,T,T,T,F] rfl rfl (by kernel_rfl) (by decide) (fun K hK=>?_)
      refine goes_ Tryd.func80 (by kernel_rfl) rfl #[.string (c2.extract (wrap64 (c3+1):Int).toNat (wrap64 (wrap64 (c3+1)+i):Int).toNat),.string (⟨#[60,38]⟩ : ByteArray)] (by rfl) rfl rfl (by(try simp only [List.map_toArray,List.map_cons,List.map_nil]);first|done|rfl) ?_
      with_reducible refine(strings_ContainsAny.calls (c2.extract (wrap64 (c3+1):Int).toNat (wrap64 (wrap64 (c3+1)+i):Int).toNat) (⟨#[60,38]⟩ : ByteArray) false _ hC.out).mono ?_
      rintro e_ w9 ⟨rfl,hb⟩
      refine⟨_,rfl,?_⟩
      have hi:=Aside0.mk (IsS57.below xml_at.id hb)
      have hk:=Aside0.mk (KeepBut.trans xml_at.kk (KeepBut.of_below (g:=g) hb) (.inl rfl))
      have hbb:=Aside0.mk (below_step xml_at.bl hb)
      clear HI0 HK HB
      have HI0:=hi
      have HK:=hk
      have HB:=hbb
      clear hi hk hbb hb
      refine hK.out _ _ ⟨xml_reader_attribute.c0 HI0.out,xml_reader_attribute.c1 HI0.out⟩ (fun hHeld=>?_)
      clear hK K
      refine nw ?_
      refine pu 21 84 #[T,T,T,T,T,T,T,T,T,T,T,T,T,T,T,T,T,T,T,T,T,T] ?_
      refine done_ (by kernel_rfl) ?_
      have hc0:=xml_reader_attribute.c0 HI0.out
      have hc1:=xml_reader_attribute.c1 HI0.out
      have hf1:=xml_reader_attribute.z1 HI0.out
      go_wp2
      go_ret
      exact⟨rfl,xml_at.il,xml_at.bl,xml_at.kk⟩
  | true=>
   dsimp only at h
   rw [if_pos rfl] at h
   obtain⟨q3,hq3,h⟩:=bndO h
   obtain⟨m1,m2,m3⟩:=q3
   have hM:=Aside0.mk hq3
   clear hq3
   obtain⟨u,hu0,h⟩:=bndO h
   have hU:=Aside0.mk hu0
   clear hu0
   cases u with
   | false=>
    dsimp only at h
    rw [if_neg Bool.false_ne_true] at h
    simp only [Option.some.injEq,Prod.mk.injEq] at h
    obtain⟨rfl,rfl,rfl⟩:=h
    go_enter Tryd.func60,Tryd.ntmps60
    go_wp2_with (first|(go_at_call 59;with_reducible refine(xml_reader_name.calls k g s p n1 n2 n3 w0 _ ?s1 ?s2 hN.out).mono ?_;(case s1=>exact xml_at.ia);(case s2=>exact xml_at.bl);rintro e_ w_ ⟨rfl,hi,hb,hk⟩;replace HK:=Aside0.mk (KeepBut.trans xml_at.kk hk (.inl rfl));replace HI0:=Aside0.mk hi;replace HB:=Aside0.mk hb;clear hi hb hk;obtain⟨hc0,hc1,hf0,hf1⟩:=xml_at.all HI0.out)|(go_at_call 17;with_reducible refine(xml_Name.calls k n1 true _ hV.out).mono ?_;rintro e_ w_ ⟨rfl,⟨nd,rfl⟩⟩;(try first|exact⟨rfl,_,World.drewN_drewN _ _ _⟩|exact⟨rfl,_,Eq.trans (World.drewN_drewN _ _ _) (congrArg (World.drewN _) (Nat.add_assoc _ _ _))⟩))|(go_at_call 58;with_reducible refine(xml_reader_eat.calls g n2 n3 (⟨#[58]⟩ : ByteArray) true e2 e3 w0 _ ?s1 ?s2 hE.out).mono ?_;(case s1=>exact xml_at.ia);(case s2=>exact xml_at.bl);rintro e_ w_ ⟨rfl,hi,hb,hk⟩;replace HK:=Aside0.mk (KeepBut.trans xml_at.kk hk (.inl rfl));replace HI0:=Aside0.mk hi;replace HB:=Aside0.mk hb;clear hi hb hk;obtain⟨hc0,hc1,hf0,hf1⟩:=xml_at.all HI0.out)|(go_at_call 59;with_reducible refine(xml_reader_name.calls k g e2 e3 m1 m2 m3 w0 _ ?s1 ?s2 hM.out).mono ?_;(case s1=>exact xml_at.ia);(case s2=>exact xml_at.bl);rintro e_ w_ ⟨rfl,hi,hb,hk⟩;replace HK:=Aside0.mk (KeepBut.trans xml_at.kk hk (.inl rfl));replace HI0:=Aside0.mk hi;replace HB:=Aside0.mk hb;clear hi hb hk;obtain⟨hc0,hc1,hf0,hf1⟩:=xml_at.all HI0.out)|(go_at_call 17;with_reducible refine(xml_Name.calls k m1 false _ hU.out).mono ?_;rintro e_ w_ ⟨rfl,⟨nd,rfl⟩⟩;(try first|exact⟨rfl,_,World.drewN_drewN _ _ _⟩|exact⟨rfl,_,Eq.trans (World.drewN_drewN _ _ _) (congrArg (World.drewN _) (Nat.add_assoc _ _ _))⟩)))
    go_ret
    exact⟨rfl,xml_at.il,xml_at.bl,xml_at.kk⟩
   | true=>
    dsimp only at h
    rw [if_pos rfl] at h
    unfold xml_reader_attribute.r1 at h
    obtain⟨q1,hq1,h⟩:=bndO h
    obtain⟨a1,a2,a3⟩:=q1
    have hSa:=Aside0.mk hq1
    clear hq1
    obtain⟨q2,hq2,h⟩:=bndO h
    obtain⟨b1,b2,b3⟩:=q2
    have hEb:=Aside0.mk hq2
    clear hq2
    cases b1 with
    | false=>
     dsimp only at h
     rw [if_neg Bool.false_ne_true] at h
     simp only [Option.some.injEq,Prod.mk.injEq] at h
     obtain⟨rfl,rfl,rfl⟩:=h
     go_enter Tryd.func60,Tryd.ntmps60
     go_wp2_with (first|(go_at_call 59;with_reducible refine(xml_reader_name.calls k g s p n1 n2 n3 w0 _ ?s1 ?s2 hN.out).mono ?_;(case s1=>exact xml_at.ia);(case s2=>exact xml_at.bl);rintro e_ w_ ⟨rfl,hi,hb,hk⟩;replace HK:=Aside0.mk (KeepBut.trans xml_at.kk hk (.inl rfl));replace HI0:=Aside0.mk hi;replace HB:=Aside0.mk hb;clear hi hb hk;obtain⟨hc0,hc1,hf0,hf1⟩:=xml_at.all HI0.out)|(go_at_call 17;with_reducible refine(xml_Name.calls k n1 true _ hV.out).mono ?_;rintro e_ w_ ⟨rfl,⟨nd,rfl⟩⟩;(try first|exact⟨rfl,_,World.drewN_drewN _ _ _⟩|exact⟨rfl,_,Eq.trans (World.drewN_drewN _ _ _) (congrArg (World.drewN _) (Nat.add_assoc _ _ _))⟩))|(go_at_call 58;with_reducible refine(xml_reader_eat.calls g n2 n3 (⟨#[58]⟩ : ByteArray) true e2 e3 w0 _ ?s1 ?s2 hE.out).mono ?_;(case s1=>exact xml_at.ia);(case s2=>exact xml_at.bl);rintro e_ w_ ⟨rfl,hi,hb,hk⟩;replace HK:=Aside0.mk (KeepBut.trans xml_at.kk hk (.inl rfl));replace HI0:=Aside0.mk hi;replace HB:=Aside0.mk hb;clear hi hb hk;obtain⟨hc0,hc1,hf0,hf1⟩:=xml_at.all HI0.out)|(go_at_call 59;with_reducible refine(xml_reader_name.calls k g e2 e3 m1 m2 m3 w0 _ ?s1 ?s2 hM.out).mono ?_;(case s1=>exact xml_at.ia);(case s2=>exact xml_at.bl);rintro e_ w_ ⟨rfl,hi,hb,hk⟩;replace HK:=Aside0.mk (KeepBut.trans xml_at.kk hk (.inl rfl));replace HI0:=Aside0.mk hi;replace HB:=Aside0.mk hb;clear hi hb hk;obtain⟨hc0,hc1,hf0,hf1⟩:=xml_at.all HI0.out)|(go_at_call 17;with_reducible refine(xml_Name.calls k m1 true _ hU.out).mono ?_;rintro e_ w_ ⟨rfl,⟨nd,rfl⟩⟩;(try first|exact⟨rfl,_,World.drewN_drewN _ _ _⟩|exact⟨rfl,_,Eq.trans (World.drewN_drewN _ _ _) (congrArg (World.drewN _) (Nat.add_assoc _ _ _))⟩))|(go_at_call 29;with_reducible refine(xml_reader_space.calls k g m2 m3 a1 a2 a3 w0 _ ?s1 ?s2 hSa.out).mono ?_;(case s1=>exact xml_at.ia);(case s2=>exact xml_at.bl);rintro e_ w_ ⟨rfl,hi,hb,hk⟩;replace HK:=Aside0.mk (KeepBut.trans xml_at.kk hk (.inl rfl));replace HI0:=Aside0.mk hi;replace HB:=Aside0.mk hb;clear hi hb hk;obtain⟨hc0,hc1,hf0,hf1⟩:=xml_at.all HI0.out)|(go_at_call 58;with_reducible refine(xml_reader_eat.calls g a2 a3 (⟨#[61]⟩ : ByteArray) false b2 b3 w0 _ ?s1 ?s2 hEb.out).mono ?_;(case s1=>exact xml_at.ia);(case s2=>exact xml_at.bl);rintro e_ w_ ⟨rfl,hi,hb,hk⟩;replace HK:=Aside0.mk (KeepBut.trans xml_at.kk hk (.inl rfl));replace HI0:=Aside0.mk hi;replace HB:=Aside0.mk hb;clear hi hb hk;obtain⟨hc0,hc1,hf0,hf1⟩:=xml_at.all HI0.out))
     repeat (go_quiet (first|fail);try go_wp2_with (first|fail))
     go_ret
     exact⟨rfl,xml_at.il,xml_at.bl,xml_at.kk⟩
    | true=>
     dsimp only at h
     rw [if_pos rfl] at h
     obtain⟨q3,hq3,h⟩:=bndO h
     obtain⟨c1,c2,c3⟩:=q3
     have hSc:=Aside0.mk hq3
     clear hq3
     dsimp only at h
     unfold xml_reader_attribute.r2 at h
     rcases itO h with⟨g1,h⟩|⟨_,h⟩
     case inr=>exact absurd h (by simp)
     rcases itO h with⟨g2,h⟩|⟨_,h⟩
     case inr=>exact absurd h (by simp)
     rcases itO h with⟨g3,h⟩|⟨g3,h⟩
     ·have z1:(c3 == (c2.size:Int))=true:=beq_iff_eq.mpr g3
      clear g1 g2 g3
      simp only [Option.some.injEq,Prod.mk.injEq] at h
      obtain⟨rfl,rfl,rfl⟩:=h
      go_enter Tryd.func60,Tryd.ntmps60
      go_wp2_with (first|(go_at_call 59;with_reducible refine(xml_reader_name.calls k g s p n1 n2 n3 w0 _ ?s1 ?s2 hN.out).mono ?_;(case s1=>exact xml_at.ia);(case s2=>exact xml_at.bl);rintro e_ w_ ⟨rfl,hi,hb,hk⟩;replace HK:=Aside0.mk (KeepBut.trans xml_at.kk hk (.inl rfl));replace HI0:=Aside0.mk hi;replace HB:=Aside0.mk hb;clear hi hb hk;obtain⟨hc0,hc1,hf0,hf1⟩:=xml_at.all HI0.out)|(go_at_call 17;with_reducible refine(xml_Name.calls k n1 true _ hV.out).mono ?_;rintro e_ w_ ⟨rfl,⟨nd,rfl⟩⟩;(try first|exact⟨rfl,_,World.drewN_drewN _ _ _⟩|exact⟨rfl,_,Eq.trans (World.drewN_drewN _ _ _) (congrArg (World.drewN _) (Nat.add_assoc _ _ _))⟩))|(go_at_call 58;with_reducible refine(xml_reader_eat.calls g n2 n3 (⟨#[58]⟩ : ByteArray) true e2 e3 w0 _ ?s1 ?s2 hE.out).mono ?_;(case s1=>exact xml_at.ia);(case s2=>exact xml_at.bl);rintro e_ w_ ⟨rfl,hi,hb,hk⟩;replace HK:=Aside0.mk (KeepBut.trans xml_at.kk hk (.inl rfl));replace HI0:=Aside0.mk hi;replace HB:=Aside0.mk hb;clear hi hb hk;obtain⟨hc0,hc1,hf0,hf1⟩:=xml_at.all HI0.out)|(go_at_call 59;with_reducible refine(xml_reader_name.calls k g e2 e3 m1 m2 m3 w0 _ ?s1 ?s2 hM.out).mono ?_;(case s1=>exact xml_at.ia);(case s2=>exact xml_at.bl);rintro e_ w_ ⟨rfl,hi,hb,hk⟩;replace HK:=Aside0.mk (KeepBut.trans xml_at.kk hk (.inl rfl));replace HI0:=Aside0.mk hi;replace HB:=Aside0.mk hb;clear hi hb hk;obtain⟨hc0,hc1,hf0,hf1⟩:=xml_at.all HI0.out)|(go_at_call 17;with_reducible refine(xml_Name.calls k m1 true _ hU.out).mono ?_;rintro e_ w_ ⟨rfl,⟨nd,rfl⟩⟩;(try first|exact⟨rfl,_,World.drewN_drewN _ _ _⟩|exact⟨rfl,_,Eq.trans (World.drewN_drewN _ _ _) (congrArg (World.drewN _) (Nat.add_assoc _ _ _))⟩))|(go_at_call 29;with_reducible refine(xml_reader_space.calls k g m2 m3 a1 a2 a3 w0 _ ?s1 ?s2 hSa.out).mono ?_;(case s1=>exact xml_at.ia);(case s2=>exact xml_at.bl);rintro e_ w_ ⟨rfl,hi,hb,hk⟩;replace HK:=Aside0.mk (KeepBut.trans xml_at.kk hk (.inl rfl));replace HI0:=Aside0.mk hi;replace HB:=Aside0.mk hb;clear hi hb hk;obtain⟨hc0,hc1,hf0,hf1⟩:=xml_at.all HI0.out)|(go_at_call 58;with_reducible refine(xml_reader_eat.calls g a2 a3 (⟨#[61]⟩ : ByteArray) true b2 b3 w0 _ ?s1 ?s2 hEb.out).mono ?_;(case s1=>exact xml_at.ia);(case s2=>exact xml_at.bl);rintro e_ w_ ⟨rfl,hi,hb,hk⟩;replace HK:=Aside0.mk (KeepBut.trans xml_at.kk hk (.inl rfl));replace HI0:=Aside0.mk hi;replace HB:=Aside0.mk hb;clear hi hb hk;obtain⟨hc0,hc1,hf0,hf1⟩:=xml_at.all HI0.out)|(go_at_call 29;with_reducible refine(xml_reader_space.calls k g b2 b3 c1 c2 c3 w0 _ ?s1 ?s2 hSc.out).mono ?_;(case s1=>exact xml_at.ia);(case s2=>exact xml_at.bl);rintro e_ w_ ⟨rfl,hi,hb,hk⟩;replace HK:=Aside0.mk (KeepBut.trans xml_at.kk hk (.inl rfl));replace HI0:=Aside0.mk hi;replace HB:=Aside0.mk hb;clear hi hb hk;obtain⟨hc0,hc1,hf0,hf1⟩:=xml_at.all HI0.out))
      repeat (go_quiet (first|fail);try go_wp2_with (first|fail))
      go_ret
      exact⟨rfl,xml_at.il,xml_at.bl,xml_at.kk⟩
     have z1:(c3 == (c2.size:Int))=false:=beq_eq_false_iff_ne.mpr g3
     have q1:c3<(c2.size:Int):=by omega
     have q2:decide (c3<(c2.size:Int))=true:=decide_eq_true q1
     have p2:decide (0≤c3)=true:=decide_eq_true g1
     have hx:=bt_at c2 c3
     have p1:=eq_true g1
     replace q1:=eq_true q1
     clear g1 g2 g3
     obtain⟨mk,hmk⟩ : ∃ m,bt c2 c3=m:=⟨_,rfl⟩
     rw [hmk] at h hx
     clear hmk
     by_cases gm:mk=34∨mk=39
     case neg=>
      rw [if_neg gm] at h
      simp only [Option.some.injEq,Prod.mk.injEq] at h
      obtain⟨rfl,rfl,rfl⟩:=h
      have y1:(mk != 34)=true:=bne_iff_ne.mpr (fun x=>gm (.inl x))
      have y2:(mk != 39)=true:=bne_iff_ne.mpr (fun x=>gm (.inr x))
      clear gm
      go_enter Tryd.func60,Tryd.ntmps60
      go_wp2_with (first|(go_at_call 59;with_reducible refine(xml_reader_name.calls k g s p n1 n2 n3 w0 _ ?s1 ?s2 hN.out).mono ?_;(case s1=>exact xml_at.ia);(case s2=>exact xml_at.bl);rintro e_ w_ ⟨rfl,hi,hb,hk⟩;replace HK:=Aside0.mk (KeepBut.trans xml_at.kk hk (.inl rfl));replace HI0:=Aside0.mk hi;replace HB:=Aside0.mk hb;clear hi hb hk;obtain⟨hc0,hc1,hf0,hf1⟩:=xml_at.all HI0.out)|(go_at_call 17;with_reducible refine(xml_Name.calls k n1 true _ hV.out).mono ?_;rintro e_ w_ ⟨rfl,⟨nd,rfl⟩⟩;(try first|exact⟨rfl,_,World.drewN_drewN _ _ _⟩|exact⟨rfl,_,Eq.trans (World.drewN_drewN _ _ _) (congrArg (World.drewN _) (Nat.add_assoc _ _ _))⟩))|(go_at_call 58;with_reducible refine(xml_reader_eat.calls g n2 n3 (⟨#[58]⟩ : ByteArray) true e2 e3 w0 _ ?s1 ?s2 hE.out).mono ?_;(case s1=>exact xml_at.ia);(case s2=>exact xml_at.bl);rintro e_ w_ ⟨rfl,hi,hb,hk⟩;replace HK:=Aside0.mk (KeepBut.trans xml_at.kk hk (.inl rfl));replace HI0:=Aside0.mk hi;replace HB:=Aside0.mk hb;clear hi hb hk;obtain⟨hc0,hc1,hf0,hf1⟩:=xml_at.all HI0.out)|(go_at_call 59;with_reducible refine(xml_reader_name.calls k g e2 e3 m1 m2 m3 w0 _ ?s1 ?s2 hM.out).mono ?_;(case s1=>exact xml_at.ia);(case s2=>exact xml_at.bl);rintro e_ w_ ⟨rfl,hi,hb,hk⟩;replace HK:=Aside0.mk (KeepBut.trans xml_at.kk hk (.inl rfl));replace HI0:=Aside0.mk hi;replace HB:=Aside0.mk hb;clear hi hb hk;obtain⟨hc0,hc1,hf0,hf1⟩:=xml_at.all HI0.out)|(go_at_call 17;with_reducible refine(xml_Name.calls k m1 true _ hU.out).mono ?_;rintro e_ w_ ⟨rfl,⟨nd,rfl⟩⟩;(try first|exact⟨rfl,_,World.drewN_drewN _ _ _⟩|exact⟨rfl,_,Eq.trans (World.drewN_drewN _ _ _) (congrArg (World.drewN _) (Nat.add_assoc _ _ _))⟩))|(go_at_call 29;with_reducible refine(xml_reader_space.calls k g m2 m3 a1 a2 a3 w0 _ ?s1 ?s2 hSa.out).mono ?_;(case s1=>exact xml_at.ia);(case s2=>exact xml_at.bl);rintro e_ w_ ⟨rfl,hi,hb,hk⟩;replace HK:=Aside0.mk (KeepBut.trans xml_at.kk hk (.inl rfl));replace HI0:=Aside0.mk hi;replace HB:=Aside0.mk hb;clear hi hb hk;obtain⟨hc0,hc1,hf0,hf1⟩:=xml_at.all HI0.out)|(go_at_call 58;with_reducible refine(xml_reader_eat.calls g a2 a3 (⟨#[61]⟩ : ByteArray) true b2 b3 w0 _ ?s1 ?s2 hEb.out).mono ?_;(case s1=>exact xml_at.ia);(case s2=>exact xml_at.bl);rintro e_ w_ ⟨rfl,hi,hb,hk⟩;replace HK:=Aside0.mk (KeepBut.trans xml_at.kk hk (.inl rfl));replace HI0:=Aside0.mk hi;replace HB:=Aside0.mk hb;clear hi hb hk;obtain⟨hc0,hc1,hf0,hf1⟩:=xml_at.all HI0.out)|(go_at_call 29;with_reducible refine(xml_reader_space.calls k g b2 b3 c1 c2 c3 w0 _ ?s1 ?s2 hSc.out).mono ?_;(case s1=>exact xml_at.ia);(case s2=>exact xml_at.bl);rintro e_ w_ ⟨rfl,hi,hb,hk⟩;replace HK:=Aside0.mk (KeepBut.trans xml_at.kk hk (.inl rfl));replace HI0:=Aside0.mk hi;replace HB:=Aside0.mk hb;clear hi hb hk;obtain⟨hc0,hc1,hf0,hf1⟩:=xml_at.all HI0.out))
      repeat (go_quiet (first|fail);try go_wp2_with (first|fail))
      go_ret
      exact⟨rfl,xml_at.il,xml_at.bl,xml_at.kk⟩
     rw [if_pos gm] at h
     have hmm:((mk != 34) && (mk != 39))=false:=by rcases gm with rfl|rfl <;> rfl
     rcases itO h with⟨g4,h⟩|⟨_,h⟩
     case inr=>exact absurd h (by simp)
     rcases itO h with⟨g5,h⟩|⟨_,h⟩
     case inr=>exact absurd h (by simp)
     have y4:=eq_true g4
     have y5:=eq_true g5
     have y6:=decide_eq_true g4
     have y7:=decide_eq_true g5
     clear g4 g5
     obtain⟨i,hi0,h⟩:=bndO h
     have hI:=Aside0.mk hi0
     clear hi0
     rcases itO h with⟨g6,h⟩|⟨g6,h⟩
     ·have y8:decide (i<0)=true:=decide_eq_true g6
      clear g6
      simp only [Option.some.injEq,Prod.mk.injEq] at h
      obtain⟨rfl,rfl,rfl⟩:=h
      rcases gm with rfl|rfl
      all_goals
       go_enter Tryd.func60,Tryd.ntmps60
       go_wp2_with (first|(go_at_call 59;with_reducible refine(xml_reader_name.calls k g s p n1 n2 n3 w0 _ ?s1 ?s2 hN.out).mono ?_;(case s1=>exact xml_at.ia);(case s2=>exact xml_at.bl);rintro e_ w_ ⟨rfl,hi,hb,hk⟩;replace HK:=Aside0.mk (KeepBut.trans xml_at.kk hk (.inl rfl));replace HI0:=Aside0.mk hi;replace HB:=Aside0.mk hb;clear hi hb hk;obtain⟨hc0,hc1,hf0,hf1⟩:=xml_at.all HI0.out)|(go_at_call 17;with_reducible refine(xml_Name.calls k n1 true _ hV.out).mono ?_;rintro e_ w_ ⟨rfl,⟨nd,rfl⟩⟩;(try first|exact⟨rfl,_,World.drewN_drewN _ _ _⟩|exact⟨rfl,_,Eq.trans (World.drewN_drewN _ _ _) (congrArg (World.drewN _) (Nat.add_assoc _ _ _))⟩))|(go_at_call 58;with_reducible refine(xml_reader_eat.calls g n2 n3 (⟨#[58]⟩ : ByteArray) true e2 e3 w0 _ ?s1 ?s2 hE.out).mono ?_;(case s1=>exact xml_at.ia);(case s2=>exact xml_at.bl);rintro e_ w_ ⟨rfl,hi,hb,hk⟩;replace HK:=Aside0.mk (KeepBut.trans xml_at.kk hk (.inl rfl));replace HI0:=Aside0.mk hi;replace HB:=Aside0.mk hb;clear hi hb hk;obtain⟨hc0,hc1,hf0,hf1⟩:=xml_at.all HI0.out)|(go_at_call 59;with_reducible refine(xml_reader_name.calls k g e2 e3 m1 m2 m3 w0 _ ?s1 ?s2 hM.out).mono ?_;(case s1=>exact xml_at.ia);(case s2=>exact xml_at.bl);rintro e_ w_ ⟨rfl,hi,hb,hk⟩;replace HK:=Aside0.mk (KeepBut.trans xml_at.kk hk (.inl rfl));replace HI0:=Aside0.mk hi;replace HB:=Aside0.mk hb;clear hi hb hk;obtain⟨hc0,hc1,hf0,hf1⟩:=xml_at.all HI0.out)|(go_at_call 17;with_reducible refine(xml_Name.calls k m1 true _ hU.out).mono ?_;rintro e_ w_ ⟨rfl,⟨nd,rfl⟩⟩;(try first|exact⟨rfl,_,World.drewN_drewN _ _ _⟩|exact⟨rfl,_,Eq.trans (World.drewN_drewN _ _ _) (congrArg (World.drewN _) (Nat.add_assoc _ _ _))⟩))|(go_at_call 29;with_reducible refine(xml_reader_space.calls k g m2 m3 a1 a2 a3 w0 _ ?s1 ?s2 hSa.out).mono ?_;(case s1=>exact xml_at.ia);(case s2=>exact xml_at.bl);rintro e_ w_ ⟨rfl,hi,hb,hk⟩;replace HK:=Aside0.mk (KeepBut.trans xml_at.kk hk (.inl rfl));replace HI0:=Aside0.mk hi;replace HB:=Aside0.mk hb;clear hi hb hk;obtain⟨hc0,hc1,hf0,hf1⟩:=xml_at.all HI0.out)|(go_at_call 58;with_reducible refine(xml_reader_eat.calls g a2 a3 (⟨#[61]⟩ : ByteArray) true b2 b3 w0 _ ?s1 ?s2 hEb.out).mono ?_;(case s1=>exact xml_at.ia);(case s2=>exact xml_at.bl);rintro e_ w_ ⟨rfl,hi,hb,hk⟩;replace HK:=Aside0.mk (KeepBut.trans xml_at.kk hk (.inl rfl));replace HI0:=Aside0.mk hi;replace HB:=Aside0.mk hb;clear hi hb hk;obtain⟨hc0,hc1,hf0,hf1⟩:=xml_at.all HI0.out)|(go_at_call 29;with_reducible refine(xml_reader_space.calls k g b2 b3 c1 c2 c3 w0 _ ?s1 ?s2 hSc.out).mono ?_;(case s1=>exact xml_at.ia);(case s2=>exact xml_at.bl);rintro e_ w_ ⟨rfl,hi,hb,hk⟩;replace HK:=Aside0.mk (KeepBut.trans xml_at.kk hk (.inl rfl));replace HI0:=Aside0.mk hi;replace HB:=Aside0.mk hb;clear hi hb hk;obtain⟨hc0,hc1,hf0,hf1⟩:=xml_at.all HI0.out)|(go_at_call 79;with_reducible refine(strings_IndexByte.calls (c2.extract (wrap64 (c3+1):Int).toNat c2.size) _ i _ hI.out).mono ?_;rintro e_ w_ ⟨rfl,⟨nd,rfl⟩⟩;(try first|exact⟨rfl,_,World.drewN_drewN _ _ _⟩|exact⟨rfl,_,Eq.trans (World.drewN_drewN _ _ _) (congrArg (World.drewN _) (Nat.add_assoc _ _ _))⟩)))
       repeat (go_quiet (first|(go_at_call 79;with_reducible refine(strings_IndexByte.calls (c2.extract (wrap64 (c3+1):Int).toNat c2.size) _ i _ hI.out).mono ?_;rintro e_ w_ ⟨rfl,⟨nd,rfl⟩⟩;(try first|exact⟨rfl,_,World.drewN_drewN _ _ _⟩|exact⟨rfl,_,Eq.trans (World.drewN_drewN _ _ _) (congrArg (World.drewN _) (Nat.add_assoc _ _ _))⟩)));try go_wp2_with (first|(go_at_call 79;with_reducible refine(strings_IndexByte.calls (c2.extract (wrap64 (c3+1):Int).toNat c2.size) _ i _ hI.out).mono ?_;rintro e_ w_ ⟨rfl,⟨nd,rfl⟩⟩;(try first|exact⟨rfl,_,World.drewN_drewN _ _ _⟩|exact⟨rfl,_,Eq.trans (World.drewN_drewN _ _ _) (congrArg (World.drewN _) (Nat.add_assoc _ _ _))⟩))))
       go_ret
       exact⟨rfl,xml_at.il,xml_at.bl,xml_at.kk⟩
     have y8:decide (i<0)=false:=decide_eq_false g6
     clear g6
     rcases itO h with⟨g7,h⟩|⟨_,h⟩
     case inr=>exact absurd h (by simp)
     rcases itO h with⟨g8,h⟩|⟨_,h⟩
     case inr=>exact absurd h (by simp)
     have y9:=eq_true g7
     have y10:=eq_true g8
     have y11:=decide_eq_true g7
     have y12:=decide_eq_true g8
     clear g7 g8
     obtain⟨c,hc0,h⟩:=bndO h
     have hC:=Aside0.mk hc0
     clear hc0
     cases c with
     | true=>
      rw [if_pos rfl] at h
      simp only [Option.some.injEq,Prod.mk.injEq] at h
      obtain⟨rfl,rfl,rfl⟩:=h
      rcases gm with rfl|rfl
      all_goals
       go_enter Tryd.func60,Tryd.ntmps60
       go_wp2_with (first|(go_at_call 59;with_reducible refine(xml_reader_name.calls k g s p n1 n2 n3 w0 _ ?s1 ?s2 hN.out).mono ?_;(case s1=>exact xml_at.ia);(case s2=>exact xml_at.bl);rintro e_ w_ ⟨rfl,hi,hb,hk⟩;replace HK:=Aside0.mk (KeepBut.trans xml_at.kk hk (.inl rfl));replace HI0:=Aside0.mk hi;replace HB:=Aside0.mk hb;clear hi hb hk;obtain⟨hc0,hc1,hf0,hf1⟩:=xml_at.all HI0.out)|(go_at_call 17;with_reducible refine(xml_Name.calls k n1 true _ hV.out).mono ?_;rintro e_ w_ ⟨rfl,⟨nd,rfl⟩⟩;(try first|exact⟨rfl,_,World.drewN_drewN _ _ _⟩|exact⟨rfl,_,Eq.trans (World.drewN_drewN _ _ _) (congrArg (World.drewN _) (Nat.add_assoc _ _ _))⟩))|(go_at_call 58;with_reducible refine(xml_reader_eat.calls g n2 n3 (⟨#[58]⟩ : ByteArray) true e2 e3 w0 _ ?s1 ?s2 hE.out).mono ?_;(case s1=>exact xml_at.ia);(case s2=>exact xml_at.bl);rintro e_ w_ ⟨rfl,hi,hb,hk⟩;replace HK:=Aside0.mk (KeepBut.trans xml_at.kk hk (.inl rfl));replace HI0:=Aside0.mk hi;replace HB:=Aside0.mk hb;clear hi hb hk;obtain⟨hc0,hc1,hf0,hf1⟩:=xml_at.all HI0.out)|(go_at_call 59;with_reducible refine(xml_reader_name.calls k g e2 e3 m1 m2 m3 w0 _ ?s1 ?s2 hM.out).mono ?_;(case s1=>exact xml_at.ia);(case s2=>exact xml_at.bl);rintro e_ w_ ⟨rfl,hi,hb,hk⟩;replace HK:=Aside0.mk (KeepBut.trans xml_at.kk hk (.inl rfl));replace HI0:=Aside0.mk hi;replace HB:=Aside0.mk hb;clear hi hb hk;obtain⟨hc0,hc1,hf0,hf1⟩:=xml_at.all HI0.out)|(go_at_call 17;with_reducible refine(xml_Name.calls k m1 true _ hU.out).mono ?_;rintro e_ w_ ⟨rfl,⟨nd,rfl⟩⟩;(try first|exact⟨rfl,_,World.drewN_drewN _ _ _⟩|exact⟨rfl,_,Eq.trans (World.drewN_drewN _ _ _) (congrArg (World.drewN _) (Nat.add_assoc _ _ _))⟩))|(go_at_call 29;with_reducible refine(xml_reader_space.calls k g m2 m3 a1 a2 a3 w0 _ ?s1 ?s2 hSa.out).mono ?_;(case s1=>exact xml_at.ia);(case s2=>exact xml_at.bl);rintro e_ w_ ⟨rfl,hi,hb,hk⟩;replace HK:=Aside0.mk (KeepBut.trans xml_at.kk hk (.inl rfl));replace HI0:=Aside0.mk hi;replace HB:=Aside0.mk hb;clear hi hb hk;obtain⟨hc0,hc1,hf0,hf1⟩:=xml_at.all HI0.out)|(go_at_call 58;with_reducible refine(xml_reader_eat.calls g a2 a3 (⟨#[61]⟩ : ByteArray) true b2 b3 w0 _ ?s1 ?s2 hEb.out).mono ?_;(case s1=>exact xml_at.ia);(case s2=>exact xml_at.bl);rintro e_ w_ ⟨rfl,hi,hb,hk⟩;replace HK:=Aside0.mk (KeepBut.trans xml_at.kk hk (.inl rfl));replace HI0:=Aside0.mk hi;replace HB:=Aside0.mk hb;clear hi hb hk;obtain⟨hc0,hc1,hf0,hf1⟩:=xml_at.all HI0.out)|(go_at_call 29;with_reducible refine(xml_reader_space.calls k g b2 b3 c1 c2 c3 w0 _ ?s1 ?s2 hSc.out).mono ?_;(case s1=>exact xml_at.ia);(case s2=>exact xml_at.bl);rintro e_ w_ ⟨rfl,hi,hb,hk⟩;replace HK:=Aside0.mk (KeepBut.trans xml_at.kk hk (.inl rfl));replace HI0:=Aside0.mk hi;replace HB:=Aside0.mk hb;clear hi hb hk;obtain⟨hc0,hc1,hf0,hf1⟩:=xml_at.all HI0.out)|(go_at_call 79;with_reducible refine(strings_IndexByte.calls (c2.extract (wrap64 (c3+1):Int).toNat c2.size) _ i _ hI.out).mono ?_;rintro e_ w_ ⟨rfl,⟨nd,rfl⟩⟩;(try first|exact⟨rfl,_,World.drewN_drewN _ _ _⟩|exact⟨rfl,_,Eq.trans (World.drewN_drewN _ _ _) (congrArg (World.drewN _) (Nat.add_assoc _ _ _))⟩)))
       repeat (go_quiet (first|(go_at_call 79;with_reducible refine(strings_IndexByte.calls (c2.extract (wrap64 (c3+1):Int).toNat c2.size) _ i _ hI.out).mono ?_;rintro e_ w_ ⟨rfl,⟨nd,rfl⟩⟩;(try first|exact⟨rfl,_,World.drewN_drewN _ _ _⟩|exact⟨rfl,_,Eq.trans (World.drewN_drewN _ _ _) (congrArg (World.drewN _) (Nat.add_assoc _ _ _))⟩)));try go_wp2_with (first|(go_at_call 79;with_reducible refine(strings_IndexByte.calls (c2.extract (wrap64 (c3+1):Int).toNat c2.size) _ i _ hI.out).mono ?_;rintro e_ w_ ⟨rfl,⟨nd,rfl⟩⟩;(try first|exact⟨rfl,_,World.drewN_drewN _ _ _⟩|exact⟨rfl,_,Eq.trans (World.drewN_drewN _ _ _) (congrArg (World.drewN _) (Nat.add_assoc _ _ _))⟩))))
       refine start_ (n:=22) (S:=fun w'=>w'.cell? ⟨g,0,none⟩=some (.string c2)∧w'.cell? ⟨g,1,none⟩=some (.int .i64 c3)) (ds:=[]) #[F,F,F,F,F,F,F,F,F,F,F,F,F,F,F,F,F,F,F,F,F,F] (by kernel_rfl) rfl rfl ⟨xml_reader_attribute.c0 xml_at.id,xml_reader_attribute.c1 xml_at.id⟩ (fun hHeld=>?_)
       refine pu 0 63 #[T,F,F,F,F,F,F,F,F,F,F,F,F,F,F,F,F,F,F,F,F,F] ?_
       refine pu 1 64 #[T,T,F,F,F,F,F,F,F,F,F,F,F,F,F,F,F,F,F,F,F,F] ?_
       refine pu 2 65 #[T,T,T,F,F,F,F,F,F,F,F,F,F,F,F,F,F,F,F,F,F,F] ?_
       refine pu 3 66 #[T,T,T,T,F,F,F,F,F,F,F,F,F,F,F,F,F,F,F,F,F,F] ?_
       refine pu 4 67 #[T,T,T,T,T,F,F,F,F,F,F,F,F,F,F,F,F,F,F,F,F,F] ?_
       refine pu 5 68 #[T,T,T,T,T,T,F,F,F,F,F,F,F,F,F,F,F,F,F,F,F,F] ?_
       refine tk 6 69 #[T,T,T,T,T,T,T,F,F,F,F,F,F,F,F,F,F,F,F,F,F,F] hHeld ?_
       refine pu 7 70 #[T,T,T,T,T,T,T,T,F,F,F,F,F,F,F,F,F,F,F,F,F,F] ?_
       refine pu 8 71 #[T,T,T,T,T,T,T,T,T,F,F,F,F,F,F,F,F,F,F,F,F,F] ?_
       refine pu 9 72 #[T,T,T,T,T,T,T,T,T,T,F,F,F,F,F,F,F,F,F,F,F,F] ?_
       refine tk 10 73 #[T,T,T,T,T,T,T,T,T,T,T,F,F,F,F,F,F,F,F,F,F,F] hHeld ?_
       refine pu 11 74 #[T,T,T,T,T,T,T,T,T,T,T,T,F,F,F,F,F,F,F,F,F,F] ?_
       refine pu 12 75 #[T,T,T,T,T,T,T,T,T,T,T,T,T,F,F,F,F,F,F,F,F,F] ?_
       refine pu 13 76 #[T,T,T,T,T,T,T,T,T,T,T,T,T,T,F,F,F,F,F,F,F,F] ?_
       refine pu 14 77 #[T,T,T,T,T,T,T,T,T,T,T,T,T,T,T,F,F,F,F,F,F,F] ?_
       refine tk 15 78 #[T,T,T,T,T,T,T,T,T,T,T,T,T,T,T,T,F,F,F,F,F,F] hHeld ?_
       refine pu 16 79 #[T,T,T,T,T,T,T,T,T,T,T,T,T,T,T,T,T,F,F,F,F,F] ?_
       refine pu 17 80 #[T,T,T,T,T,T,T,T,T,T,T,T,T,T,T,T,T,T,F,F,F,F] ?_
       refine pu 18 81 #[T,T,T,T,T,T,T,T,T,T,T,T,T,T,T,T,T,T,T,F,F,F] ?_
       refine pu 19 82 #[T,T,T,T,T,T,T,T,T,T,T,T,T,T,T,T,T,T,T,T,F,F] ?_
       refine one_ (i:=20) (N:=some 83) #[T,T,T,T,T,T,T,T,T,T,T,T,T,T,T,T,T,T,T,T,T,F] rfl rfl (by kernel_rfl) (by decide) (fun K hK=>?_)
       refine goes_ Tryd.func80 (by kernel_rfl) rfl #[.string (c2.extract (wrap64 (c3+1):Int).toNat (wrap64 (wrap64 (c3+1)+i):Int).toNat),.string (⟨#[60,38]⟩ : ByteArray)] (by rfl) rfl rfl (by(try simp only [List.map_toArray,List.map_cons,List.map_nil]);first|done|rfl) ?_
       with_reducible refine(strings_ContainsAny.calls (c2.extract (wrap64 (c3+1):Int).toNat (wrap64 (wrap64 (c3+1)+i):Int).toNat) (⟨#[60,38]⟩ : ByteArray) true _ hC.out).mono ?_
       rintro e_ w9 ⟨rfl,hb⟩
       refine⟨_,rfl,?_⟩
       have hi:=Aside0.mk (IsS57.below xml_at.id hb)
       have hk:=Aside0.mk (KeepBut.trans xml_at.kk (KeepBut.of_below (g:=g) hb) (.inl rfl))
       have hbb:=Aside0.mk (below_step xml_at.bl hb)
       clear HI0 HK HB
       have HI0:=hi
       have HK:=hk
       have HB:=hbb
       clear hi hk hbb hb
       refine hK.out _ _ ⟨xml_reader_attribute.c0 HI0.out,xml_reader_attribute.c1 HI0.out⟩ (fun hHeld=>?_)
       clear hK K
       refine nw ?_
       refine pu 21 84 #[T,T,T,T,T,T,T,T,T,T,T,T,T,T,T,T,T,T,T,T,T,T] ?_
       refine done_ (by kernel_rfl) ?_
       have hc0:=xml_reader_attribute.c0 HI0.out
       have hc1:=xml_reader_attribute.c1 HI0.out
       have hf1:=xml_reader_attribute.z1 HI0.out
       go_wp2
       go_ret
       exact⟨rfl,xml_at.il,xml_at.bl,xml_at.kk⟩
     | false=>
      rw [if_neg Bool.false_ne_true] at h
      simp only [Option.some.injEq,Prod.mk.injEq] at h
      obtain⟨rfl,rfl,rfl⟩:=h
      rcases gm with rfl|rfl
      all_goals
       go_enter Tryd.func60,Tryd.ntmps60
       go_wp2_with (first|(go_at_call 59;with_reducible refine(xml_reader_name.calls k g s p n1 n2 n3 w0 _ ?s1 ?s2 hN.out).mono ?_;(case s1=>exact xml_at.ia);(case s2=>exact xml_at.bl);rintro e_ w_ ⟨rfl,hi,hb,hk⟩;replace HK:=Aside0.mk (KeepBut.trans xml_at.kk hk (.inl rfl));replace HI0:=Aside0.mk hi;replace HB:=Aside0.mk hb;clear hi hb hk;obtain⟨hc0,hc1,hf0,hf1⟩:=xml_at.all HI0.out)|(go_at_call 17;with_reducible refine(xml_Name.calls k n1 true _ hV.out).mono ?_;rintro e_ w_ ⟨rfl,⟨nd,rfl⟩⟩;(try first|exact⟨rfl,_,World.drewN_drewN _ _ _⟩|exact⟨rfl,_,Eq.trans (World.drewN_drewN _ _ _) (congrArg (World.drewN _) (Nat.add_assoc _ _ _))⟩))|(go_at_call 58;with_reducible refine(xml_reader_eat.calls g n2 n3 (⟨#[58]⟩ : ByteArray) true e2 e3 w0 _ ?s1 ?s2 hE.out).mono ?_;(case s1=>exact xml_at.ia);(case s2=>exact xml_at.bl);rintro e_ w_ ⟨rfl,hi,hb,hk⟩;replace HK:=Aside0.mk (KeepBut.trans xml_at.kk hk (.inl rfl));replace HI0:=Aside0.mk hi;replace HB:=Aside0.mk hb;clear hi hb hk;obtain⟨hc0,hc1,hf0,hf1⟩:=xml_at.all HI0.out)|(go_at_call 59;with_reducible refine(xml_reader_name.calls k g e2 e3 m1 m2 m3 w0 _ ?s1 ?s2 hM.out).mono ?_;(case s1=>exact xml_at.ia);(case s2=>exact xml_at.bl);rintro e_ w_ ⟨rfl,hi,hb,hk⟩;replace HK:=Aside0.mk (KeepBut.trans xml_at.kk hk (.inl rfl));replace HI0:=Aside0.mk hi;replace HB:=Aside0.mk hb;clear hi hb hk;obtain⟨hc0,hc1,hf0,hf1⟩:=xml_at.all HI0.out)|(go_at_call 17;with_reducible refine(xml_Name.calls k m1 true _ hU.out).mono ?_;rintro e_ w_ ⟨rfl,⟨nd,rfl⟩⟩;(try first|exact⟨rfl,_,World.drewN_drewN _ _ _⟩|exact⟨rfl,_,Eq.trans (World.drewN_drewN _ _ _) (congrArg (World.drewN _) (Nat.add_assoc _ _ _))⟩))|(go_at_call 29;with_reducible refine(xml_reader_space.calls k g m2 m3 a1 a2 a3 w0 _ ?s1 ?s2 hSa.out).mono ?_;(case s1=>exact xml_at.ia);(case s2=>exact xml_at.bl);rintro e_ w_ ⟨rfl,hi,hb,hk⟩;replace HK:=Aside0.mk (KeepBut.trans xml_at.kk hk (.inl rfl));replace HI0:=Aside0.mk hi;replace HB:=Aside0.mk hb;clear hi hb hk;obtain⟨hc0,hc1,hf0,hf1⟩:=xml_at.all HI0.out)|(go_at_call 58;with_reducible refine(xml_reader_eat.calls g a2 a3 (⟨#[61]⟩ : ByteArray) true b2 b3 w0 _ ?s1 ?s2 hEb.out).mono ?_;(case s1=>exact xml_at.ia);(case s2=>exact xml_at.bl);rintro e_ w_ ⟨rfl,hi,hb,hk⟩;replace HK:=Aside0.mk (KeepBut.trans xml_at.kk hk (.inl rfl));replace HI0:=Aside0.mk hi;replace HB:=Aside0.mk hb;clear hi hb hk;obtain⟨hc0,hc1,hf0,hf1⟩:=xml_at.all HI0.out)|(go_at_call 29;with_reducible refine(xml_reader_space.calls k g b2 b3 c1 c2 c3 w0 _ ?s1 ?s2 hSc.out).mono ?_;(case s1=>exact xml_at.ia);(case s2=>exact xml_at.bl);rintro e_ w_ ⟨rfl,hi,hb,hk⟩;replace HK:=Aside0.mk (KeepBut.trans xml_at.kk hk (.inl rfl));replace HI0:=Aside0.mk hi;replace HB:=Aside0.mk hb;clear hi hb hk;obtain⟨hc0,hc1,hf0,hf1⟩:=xml_at.all HI0.out)|(go_at_call 79;with_reducible refine(strings_IndexByte.calls (c2.extract (wrap64 (c3+1):Int).toNat c2.size) _ i _ hI.out).mono ?_;rintro e_ w_ ⟨rfl,⟨nd,rfl⟩⟩;(try first|exact⟨rfl,_,World.drewN_drewN _ _ _⟩|exact⟨rfl,_,Eq.trans (World.drewN_drewN _ _ _) (congrArg (World.drewN _) (Nat.add_assoc _ _ _))⟩)))
       repeat (go_quiet (first|(go_at_call 79;with_reducible refine(strings_IndexByte.calls (c2.extract (wrap64 (c3+1):Int).toNat c2.size) _ i _ hI.out).mono ?_;rintro e_ w_ ⟨rfl,⟨nd,rfl⟩⟩;(try first|exact⟨rfl,_,World.drewN_drewN _ _ _⟩|exact⟨rfl,_,Eq.trans (World.drewN_drewN _ _ _) (congrArg (World.drewN _) (Nat.add_assoc _ _ _))⟩)));try go_wp2_with (first|(go_at_call 79;with_reducible refine(strings_IndexByte.calls (c2.extract (wrap64 (c3+1):Int).toNat c2.size) _ i _ hI.out).mono ?_;rintro e_ w_ ⟨rfl,⟨nd,rfl⟩⟩;(try first|exact⟨rfl,_,World.drewN_drewN _ _ _⟩|exact⟨rfl,_,Eq.trans (World.drewN_drewN _ _ _) (congrArg (World.drewN _) (Nat.add_assoc _ _ _))⟩))))
       refine start_ (n:=22) (S:=fun w'=>w'.cell? ⟨g,0,none⟩=some (.string c2)∧w'.cell? ⟨g,1,none⟩=some (.int .i64 c3)) (ds:=[]) #[F,F,F,F,F,F,F,F,F,F,F,F,F,F,F,F,F,F,F,F,F,F] (by kernel_rfl) rfl rfl ⟨xml_reader_attribute.c0 xml_at.id,xml_reader_attribute.c1 xml_at.id⟩ (fun hHeld=>?_)
       refine pu 0 63 #[T,F,F,F,F,F,F,F,F,F,F,F,F,F,F,F,F,F,F,F,F,F] ?_
       refine pu 1 64 #[T,T,F,F,F,F,F,F,F,F,F,F,F,F,F,F,F,F,F,F,F,F] ?_
       refine pu 2 65 #[T,T,T,F,F,F,F,F,F,F,F,F,F,F,F,F,F,F,F,F,F,F] ?_
       refine pu 3 66 #[T,T,T,T,F,F,F,F,F,F,F,F,F,F,F,F,F,F,F,F,F,F] ?_
       refine pu 4 67 #[T,T,T,T,T,F,F,F,F,F,F,F,F,F,F,F,F,F,F,F,F,F] ?_
       refine pu 5 68 #[T,T,T,T,T,T,F,F,F,F,F,F,F,F,F,F,F,F,F,F,F,F] ?_
       refine tk 6 69 #[T,T,T,T,T,T,T,F,F,F,F,F,F,F,F,F,F,F,F,F,F,F] hHeld ?_
       refine pu 7 70 #[T,T,T,T,T,T,T,T,F,F,F,F,F,F,F,F,F,F,F,F,F,F] ?_
       refine pu 8 71 #[T,T,T,T,T,T,T,T,T,F,F,F,F,F,F,F,F,F,F,F,F,F] ?_
       refine pu 9 72 #[T,T,T,T,T,T,T,T,T,T,F,F,F,F,F,F,F,F,F,F,F,F] ?_
       refine tk 10 73 #[T,T,T,T,T,T,T,T,T,T,T,F,F,F,F,F,F,F,F,F,F,F] hHeld ?_
       refine pu 11 74 #[T,T,T,T,T,T,T,T,T,T,T,T,F,F,F,F,F,F,F,F,F,F] ?_
       refine pu 12 75 #[T,T,T,T,T,T,T,T,T,T,T,T,T,F,F,F,F,F,F,F,F,F] ?_
       refine pu 13 76 #[T,T,T,T,T,T,T,T,T,T,T,T,T,T,F,F,F,F,F,F,F,F] ?_
       refine pu 14 77 #[T,T,T,T,T,T,T,T,T,T,T,T,T,T,T,F,F,F,F,F,F,F] ?_
       refine tk 15 78 #[T,T,T,T,T,T,T,T,T,T,T,T,T,T,T,T,F,F,F,F,F,F] hHeld ?_
       refine pu 16 79 #[T,T,T,T,T,T,T,T,T,T,T,T,T,T,T,T,T,F,F,F,F,F] ?_
       refine pu 17 80 #[T,T,T,T,T,T,T,T,T,T,T,T,T,T,T,T,T,T,F,F,F,F] ?_
       refine pu 18 81 #[T,T,T,T,T,T,T,T,T,T,T,T,T,T,T,T,T,T,T,F,F,F] ?_
       refine pu 19 82 #[T,T,T,T,T,T,T,T,T,T,T,T,T,T,T,T,T,T,T,T,F,F] ?_
       refine one_ (i:=20) (N:=some 83) #[T,T,T,T,T,T,T,T,T,T,T,T,T,T,T,T,T,T,T,T,T,F] rfl rfl (by kernel_rfl) (by decide) (fun K hK=>?_)
       refine goes_ Tryd.func80 (by kernel_rfl) rfl #[.string (c2.extract (wrap64 (c3+1):Int).toNat (wrap64 (wrap64 (c3+1)+i):Int).toNat),.string (⟨#[60,38]⟩ : ByteArray)] (by rfl) rfl rfl (by(try simp only [List.map_toArray,List.map_cons,List.map_nil]);first|done|rfl) ?_
       with_reducible refine(strings_ContainsAny.calls (c2.extract (wrap64 (c3+1):Int).toNat (wrap64 (wrap64 (c3+1)+i):Int).toNat) (⟨#[60,38]⟩ : ByteArray) false _ hC.out).mono ?_
       rintro e_ w9 ⟨rfl,hb⟩
       refine⟨_,rfl,?_⟩
       have hi:=Aside0.mk (IsS57.below xml_at.id hb)
       have hk:=Aside0.mk (KeepBut.trans xml_at.kk (KeepBut.of_below (g:=g) hb) (.inl rfl))
       have hbb:=Aside0.mk (below_step xml_at.bl hb)
       clear HI0 HK HB
       have HI0:=hi
       have HK:=hk
       have HB:=hbb
       clear hi hk hbb hb
       refine hK.out _ _ ⟨xml_reader_attribute.c0 HI0.out,xml_reader_attribute.c1 HI0.out⟩ (fun hHeld=>?_)
       clear hK K
       refine nw ?_
       refine pu 21 84 #[T,T,T,T,T,T,T,T,T,T,T,T,T,T,T,T,T,T,T,T,T,T] ?_
       refine done_ (by kernel_rfl) ?_
       have hc0:=xml_reader_attribute.c0 HI0.out
       have hc1:=xml_reader_attribute.c1 HI0.out
       have hf1:=xml_reader_attribute.z1 HI0.out
       go_wp2
       go_ret
       exact⟨rfl,xml_at.il,xml_at.bl,xml_at.kk⟩
end Go.Proofs.YtklcgncaclggcaaDoor.Q
