/- A part of the proof of the seat's laws. No condition beyond those in the theorems. -/
import Derived.Test.YtklcgncaclggcaaDoorZBase
import Derived.Test.YtklcgncaclggcaaDoorZQ0g15
import Derived.Test.YtklcgncaclggcaaDoorZBld
import Derived.Lib.Hide
import Derived.Test.YtklcgncaclggcaaDoorZQ59g6

namespace Go.Proofs.YtklcgncaclggcaaDoor.Q
open Go.RowKit Go.Proofs.YtklcgncaclggcaaDoorW.PrintWords Go.Proofs.YtklcgncaclggcaaDoorW.PrintLast Go.Proofs.YtklcgncaclggcaaDoorW.PrintMore
set_option linter.unusedVariables false
set_option linter.unusedSimpArgs false
set_option maxHeartbeats 8000000
set_option maxRecDepth 100000
attribute [local go_sem] max2_int min2_int max_two min_two max_three min_three max_four min_four   
def strings_ReplaceAll.f (a0 a1 a2:ByteArray):Option ByteArray:=if a0.size<4294967281∧a2=⟨#[10]⟩∧((a1=⟨#[13]⟩∧Lib.countByte a0.data.toList 13=0)∨(a1=⟨#[13,10]⟩∧Lib.countB a0 ⟨#[13,10]⟩=0)) then some a0 else none
theorem strings_ReplaceAll.none13 (a0:ByteArray) (w:World) (hc:Lib.countByte a0.data.toList 13=0) :
  Calls Tryd.prog 70 #[.string a0,.string ⟨#[13]⟩,.string ⟨#[10]⟩,.int .i64 (-1)] w fun e w'=>e = .returned (.string a0)∧w'=w:=by
 have h1:=Tryd.strings_Count_one a0 13 w
 rw [hc] at h1
 have hC:=Aside0.mk h1
 clear h1 hc
 go_enter Tryd.func70,Tryd.ntmps70
 go_wp2_with (first|(go_at_call 81;refine hC.out.mono ?_;rintro e w1 ⟨rfl,rfl⟩))
 go_ret
 exact⟨rfl,rfl⟩
theorem strings_ReplaceAll.none1310 (a0:ByteArray) (m:Int) (w:World) (hs:a0.size<4294967281) (hm:w.cell? ⟨0,0,none⟩=some (.int .i64 m)) (hc:Lib.countB a0 ⟨#[13,10]⟩=0) :
  Calls Tryd.prog 70 #[.string a0,.string ⟨#[13,10]⟩,.string ⟨#[10]⟩,.int .i64 (-1)] w fun e w'=>e = .returned (.string a0)∧w'=w:=by
 have h1:=Tryd.strings_Count a0 ⟨#[13,10]⟩ m w hs hm (by decide)
 rw [hc] at h1
 have hC:=Aside0.mk h1
 clear h1 hc hm hs
 go_enter Tryd.func70,Tryd.ntmps70
 go_wp2_with (first|(go_at_call 81;refine hC.out.mono ?_;rintro e w1 ⟨rfl,rfl⟩))
 go_ret
 exact⟨rfl,rfl⟩
theorem strings_ReplaceAll.calls (a0 a1 a2:ByteArray) (r:ByteArray) (w:World) (hG:GOk w) (h:strings_ReplaceAll.f a0 a1 a2=some r) :
  Calls Tryd.prog 35 #[.string a0,.string a1,.string a2] w fun e w'=>e = .returned (.string r)∧Drawn0 w w':=by
 unfold strings_ReplaceAll.f at h
 by_cases c:a0.size<4294967281∧a2=⟨#[10]⟩∧((a1=⟨#[13]⟩∧Lib.countByte a0.data.toList 13=0)∨(a1=⟨#[13,10]⟩∧Lib.countB a0 ⟨#[13,10]⟩=0))
 ·rw [if_pos c] at h
  obtain rfl:=Option.some.inj h
  clear h
  obtain⟨c1,rfl,c2⟩:=c
  obtain⟨m,hm⟩:=gok_max hG
  rcases c2 with⟨rfl,c2⟩|⟨rfl,c2⟩
  ·have hC:=Aside0.mk (strings_ReplaceAll.none13 a0 w c2)
   clear c2 hm c1
   go_enter Tryd.func35,Tryd.ntmps35
   go_wp2_with (first|(go_at_call 70;refine hC.out.mono ?_;rintro e w1 ⟨rfl,rfl⟩))
   go_ret
   exact⟨rfl,Drawn0.refl _⟩
  ·have hC:=Aside0.mk (strings_ReplaceAll.none1310 a0 m w c1 hm c2)
   clear c2 hm c1
   go_enter Tryd.func35,Tryd.ntmps35
   go_wp2_with (first|(go_at_call 70;refine hC.out.mono ?_;rintro e w1 ⟨rfl,rfl⟩))
   go_ret
   exact⟨rfl,Drawn0.refl _⟩
 ·rw [if_neg c] at h
  exact absurd h (by simp)
def stringslite_Index.f (a0 a1:ByteArray):Option Int:=if a0.size<4294967281 then some (Lib.index a0.data.toList a1.data.toList) else none
theorem stringslite_Index.calls (a0 a1:ByteArray) (r:Int) (w:World) (hG:GOk w) (h:stringslite_Index.f a0 a1=some r) :
  Calls Tryd.prog 78 #[.string a0,.string a1] w fun e w'=>e = .returned (.int .i64 r)∧Drawn0 w w':=by
 unfold stringslite_Index.f at h
 by_cases c:a0.size<4294967281
 ·rw [if_pos c] at h
  obtain rfl:=Option.some.inj h
  obtain⟨m,hm⟩:=gok_max hG
  exact(Tryd.stringslite_Index a0 a1 m w c hm).mono fun e w' ⟨he,hw⟩=>⟨he,by rw [hw];exact Drawn0.refl _⟩
 ·rw [if_neg c] at h
  exact absurd h (by simp)
def stringslite_Cut.f (a0:ByteArray) (a1:ByteArray):Option (ByteArray×ByteArray×Bool):=(stringslite_Index.f a0 a1).bind fun t117=>(if t117 ≥ 0 then(if 0≤t117 then(if t117≤(a0.size:Int) then(if 0≤(wrap64 (t117+(a1.size:Int))) then(if(wrap64 (t117+(a1.size:Int)))≤(a0.size:Int) then(some (a0.extract 0 (t117:Int).toNat,a0.extract ((wrap64 (t117+(a1.size:Int))):Int).toNat a0.size,true)) else(none)) else(none)) else(none)) else(none)) else(some (a0,(⟨#[]⟩ : ByteArray),false)))
theorem stringslite_Cut.calls (a0:ByteArray) (a1:ByteArray) (r1:ByteArray) (r2:ByteArray) (r3:Bool) (w:World) (hG:GOk w) (h:stringslite_Cut.f a0 a1=some (r1,r2,r3)) :
  Calls Tryd.prog 71 #[.string a0,.string a1] w fun e w'=>e = .returned (.tuple #[.string r1,.string r2,.bool r3])∧Drawn0 w w':=by
 unfold stringslite_Cut.f at h
 have H:=h
 clear h
 replace H:=bndO H
 obtain⟨t117,A30,H⟩:=H
 have A3:=Aside0.mk A30
 clear A30
 replace H:=itO H
 rcases H with⟨c4,H⟩|⟨c4,H⟩
 ·skip
  have c4b0:decide (0≤t117)=true:=decide_eq_true c4
  clear c4
  replace H:=itO H
  rcases H with⟨c5,H⟩|⟨c5,H⟩
  ·skip
   have c5b0:=eq_true c5
   have c5b1:=decide_eq_true c5
   clear c5
   replace H:=itO H
   rcases H with⟨c6,H⟩|⟨c6,H⟩
   ·skip
    have c6b0:=eq_true c6
    have c6b1:=decide_eq_true c6
    clear c6
    obtain⟨ji7,hji7⟩ : ∃ j_:Int,(wrap64 (t117+(a1.size:Int)))=j_:=⟨_,rfl⟩
    first|rw [hji7] at H|simp only [hji7] at H
    (try rw [hji7] at A3)
    have hji7w:(IntKind.i64.wrap (t117+(a1.size:Int)))=ji7:=(i64_w _).trans hji7
    replace H:=itO H
    rcases H with⟨c8,H⟩|⟨c8,H⟩
    ·skip
     have c8b0:=eq_true c8
     have c8b1:=decide_eq_true c8
     clear c8
     replace H:=itO H
     rcases H with⟨c9,H⟩|⟨c9,H⟩
     ·skip
      have c9b0:=eq_true c9
      have c9b1:=decide_eq_true c9
      clear c9
      simp only [Option.some.injEq,Prod.mk.injEq] at H
      obtain⟨rfl,rfl,rfl⟩:=H
      go_enter Tryd.func71,Tryd.ntmps71
      go_wp2_with (first|(go_at_call 78;(with_reducible refine(stringslite_Index.calls a0 a1 t117 _ (by first|exact hG|exact gok_below hG (by repeat (first|(with_reducible first|exact HB.out|apply below_alloc|apply pw_below_drewN|apply below_drew1)|exact HB.out))|exact gok_heap hG rfl|exact gok_drewN hG _|exact gok_below hG (by repeat (first|exact HB.out|exact HBW.out|exact Below.refl _ _|apply below_alloc|apply pw_below_drewN|apply below_drew1))) A3.out).mono ?_);rintro e w' ⟨rfl,⟨nd,rfl⟩⟩;(try first|exact⟨rfl,_,World.drewN_drewN _ _ _⟩|exact⟨rfl,_,Eq.trans (World.drewN_drewN _ _ _) (congrArg (World.drewN _) (Nat.add_assoc _ _ _))⟩)))
      repeat (go_quiet (first|(go_at_call 78;(with_reducible refine(stringslite_Index.calls a0 a1 t117 _ (by first|exact hG|exact gok_below hG (by repeat (first|(with_reducible first|exact HB.out|apply below_alloc|apply pw_below_drewN|apply below_drew1)|exact HB.out))|exact gok_heap hG rfl|exact gok_drewN hG _|exact gok_below hG (by repeat (first|exact HB.out|exact HBW.out|exact Below.refl _ _|apply below_alloc|apply pw_below_drewN|apply below_drew1))) A3.out).mono ?_);rintro e w' ⟨rfl,⟨nd,rfl⟩⟩;(try first|exact⟨rfl,_,World.drewN_drewN _ _ _⟩|exact⟨rfl,_,Eq.trans (World.drewN_drewN _ _ _) (congrArg (World.drewN _) (Nat.add_assoc _ _ _))⟩)));try go_wp2_with (first|(go_at_call 78;(with_reducible refine(stringslite_Index.calls a0 a1 t117 _ (by first|exact hG|exact gok_below hG (by repeat (first|(with_reducible first|exact HB.out|apply below_alloc|apply pw_below_drewN|apply below_drew1)|exact HB.out))|exact gok_heap hG rfl|exact gok_drewN hG _|exact gok_below hG (by repeat (first|exact HB.out|exact HBW.out|exact Below.refl _ _|apply below_alloc|apply pw_below_drewN|apply below_drew1))) A3.out).mono ?_);rintro e w' ⟨rfl,⟨nd,rfl⟩⟩;(try first|exact⟨rfl,_,World.drewN_drewN _ _ _⟩|exact⟨rfl,_,Eq.trans (World.drewN_drewN _ _ _) (congrArg (World.drewN _) (Nat.add_assoc _ _ _))⟩))))
      go_ret3
      exact⟨by first|rfl|(simp;done)|(simp only [← hji7] <;> (first|rfl|simp))|(simp [*];done),by repeat (first|exact Drawn0.refl _|apply Drawn0.step)⟩
     ·exact absurd H (by simp)
    ·exact absurd H (by simp)
   ·exact absurd H (by simp)
  ·exact absurd H (by simp)
 ·skip
  have c4b0:decide (0≤t117)=false:=decide_eq_false c4
  clear c4
  simp only [Option.some.injEq,Prod.mk.injEq] at H
  obtain⟨rfl,rfl,rfl⟩:=H
  go_enter Tryd.func71,Tryd.ntmps71
  go_wp2_with (first|(go_at_call 78;(with_reducible refine(stringslite_Index.calls a0 a1 t117 _ (by first|exact hG|exact gok_below hG (by repeat (first|(with_reducible first|exact HB.out|apply below_alloc|apply pw_below_drewN|apply below_drew1)|exact HB.out))|exact gok_heap hG rfl|exact gok_drewN hG _|exact gok_below hG (by repeat (first|exact HB.out|exact HBW.out|exact Below.refl _ _|apply below_alloc|apply pw_below_drewN|apply below_drew1))) A3.out).mono ?_);rintro e w' ⟨rfl,⟨nd,rfl⟩⟩;(try first|exact⟨rfl,_,World.drewN_drewN _ _ _⟩|exact⟨rfl,_,Eq.trans (World.drewN_drewN _ _ _) (congrArg (World.drewN _) (Nat.add_assoc _ _ _))⟩)))
  repeat (go_quiet (first|(go_at_call 78;(with_reducible refine(stringslite_Index.calls a0 a1 t117 _ (by first|exact hG|exact gok_below hG (by repeat (first|(with_reducible first|exact HB.out|apply below_alloc|apply pw_below_drewN|apply below_drew1)|exact HB.out))|exact gok_heap hG rfl|exact gok_drewN hG _|exact gok_below hG (by repeat (first|exact HB.out|exact HBW.out|exact Below.refl _ _|apply below_alloc|apply pw_below_drewN|apply below_drew1))) A3.out).mono ?_);rintro e w' ⟨rfl,⟨nd,rfl⟩⟩;(try first|exact⟨rfl,_,World.drewN_drewN _ _ _⟩|exact⟨rfl,_,Eq.trans (World.drewN_drewN _ _ _) (congrArg (World.drewN _) (Nat.add_assoc _ _ _))⟩)));try go_wp2_with (first|(go_at_call 78;(with_reducible refine(stringslite_Index.calls a0 a1 t117 _ (by first|exact hG|exact gok_below hG (by repeat (first|(with_reducible first|exact HB.out|apply below_alloc|apply pw_below_drewN|apply below_drew1)|exact HB.out))|exact gok_heap hG rfl|exact gok_drewN hG _|exact gok_below hG (by repeat (first|exact HB.out|exact HBW.out|exact Below.refl _ _|apply below_alloc|apply pw_below_drewN|apply below_drew1))) A3.out).mono ?_);rintro e w' ⟨rfl,⟨nd,rfl⟩⟩;(try first|exact⟨rfl,_,World.drewN_drewN _ _ _⟩|exact⟨rfl,_,Eq.trans (World.drewN_drewN _ _ _) (congrArg (World.drewN _) (Nat.add_assoc _ _ _))⟩))))
  go_ret3
  exact⟨by first|rfl|(simp;done)|(simp [*];done),by repeat (first|exact Drawn0.refl _|apply Drawn0.step)⟩
def strings_Cut.f (a0:ByteArray) (a1:ByteArray):Option (ByteArray×ByteArray×Bool):=(stringslite_Cut.f a0 a1).bind fun bt118=>(some (bt118.1,bt118.2.1,bt118.2.2))
theorem strings_Cut.calls (a0:ByteArray) (a1:ByteArray) (r1:ByteArray) (r2:ByteArray) (r3:Bool) (w:World) (hG:GOk w) (h:strings_Cut.f a0 a1=some (r1,r2,r3)) :
  Calls Tryd.prog 36 #[.string a0,.string a1] w fun e w'=>e = .returned (.tuple #[.string r1,.string r2,.bool r3])∧Drawn0 w w':=by
 unfold strings_Cut.f at h
 have H:=h
 clear h
 replace H:=bndO H
 obtain⟨⟨t118,t119,t120⟩,A30,H⟩:=H
 dsimp only at H
 have A3:=Aside0.mk A30
 clear A30
 simp only [Option.some.injEq,Prod.mk.injEq] at H
 obtain⟨rfl,rfl,rfl⟩:=H
 go_enter Tryd.func36,Tryd.ntmps36
 go_wp2_with (first|((with_reducible refine gate_callee (f:=71) rfl ?_);refine goesL_ (some 9) rfl rfl Tryd.func71 (by kernel_rfl) rfl #[.string a0,.string a1] rfl (by(try simp only [List.map_toArray,List.map_cons,List.map_nil]);first|done|rfl|(simp only [List.length_drop,List.length_take];rfl)) ?_;(with_reducible refine(stringslite_Cut.calls a0 a1 t118 t119 t120 _ (by first|exact hG|exact gok_below hG (by repeat (first|(with_reducible first|exact HB.out|apply below_alloc|apply pw_below_drewN|apply below_drew1)|exact HB.out))|exact gok_heap hG rfl|exact gok_drewN hG _|exact gok_below hG (by repeat (first|exact HB.out|exact HBW.out|exact Below.refl _ _|apply below_alloc|apply pw_below_drewN|apply below_drew1))) A3.out).mono ?_);rintro e w' ⟨rfl,⟨nd,rfl⟩⟩;refine⟨_,rfl,?_⟩))
 go_ret3
 exact⟨by first|rfl|(simp;done)|(simp [*];done),by repeat (first|exact Drawn0.refl _|apply Drawn0.step)⟩
def xml_sign.f (a0:ByteArray):Option (ByteArray×Bool):=if a0.toList = [97,109,112] then some (⟨#[38]⟩,true) else if a0.toList = [108,116] then some (⟨#[60]⟩,true) else if a0.toList = [103,116] then some (⟨#[62]⟩,true) else if a0.toList = [113,117,111,116] then some (⟨#[34]⟩,true) else if a0.toList = [97,112,111,115] then some (⟨#[39]⟩,true) else(strings_HasPrefix.f a0 ⟨#[35]⟩).bind fun b=>(if b=true then none else some (⟨#[]⟩,false))
theorem xml_sign.calls (a0:ByteArray) (r1:ByteArray) (r2:Bool) (w:World) (h:xml_sign.f a0=some (r1,r2)) :
  Calls Tryd.prog 39 #[.string a0] w fun e w'=>e = .returned (.tuple #[.string r1,.bool r2])∧Drawn0 w w':=by
 unfold xml_sign.f at h
 by_cases g0:a0.toList = [97,109,112]
 ·rw [if_pos g0] at h
  simp only [Option.some.injEq,Prod.mk.injEq] at h
  obtain⟨rfl,rfl⟩:=h
  have b0:(a0.toList == ([97,109,112]:List UInt8))=true:=beq_iff_eq.mpr g0
  clear g0
  go_enter Tryd.func39,Tryd.ntmps39
  go_wp2
  go_ret2
  exact⟨rfl,Drawn0.refl _⟩
 rw [if_neg g0] at h
 have b0:(a0.toList == ([97,109,112]:List UInt8))=false:=beq_eq_false_iff_ne.mpr g0
 clear g0
 by_cases g1:a0.toList = [108,116]
 ·rw [if_pos g1] at h
  simp only [Option.some.injEq,Prod.mk.injEq] at h
  obtain⟨rfl,rfl⟩:=h
  have b1:(a0.toList == ([108,116]:List UInt8))=true:=beq_iff_eq.mpr g1
  clear g1
  go_enter Tryd.func39,Tryd.ntmps39
  go_wp2
  go_ret2
  exact⟨rfl,Drawn0.refl _⟩
 rw [if_neg g1] at h
 have b1:(a0.toList == ([108,116]:List UInt8))=false:=beq_eq_false_iff_ne.mpr g1
 clear g1
 by_cases g2:a0.toList = [103,116]
 ·rw [if_pos g2] at h
  simp only [Option.some.injEq,Prod.mk.injEq] at h
  obtain⟨rfl,rfl⟩:=h
  have b2:(a0.toList == ([103,116]:List UInt8))=true:=beq_iff_eq.mpr g2
  clear g2
  go_enter Tryd.func39,Tryd.ntmps39
  go_wp2
  go_ret2
  exact⟨rfl,Drawn0.refl _⟩
 rw [if_neg g2] at h
 have b2:(a0.toList == ([103,116]:List UInt8))=false:=beq_eq_false_iff_ne.mpr g2
 clear g2
 by_cases g3:a0.toList = [113,117,111,116]
 ·rw [if_pos g3] at h
  simp only [Option.some.injEq,Prod.mk.injEq] at h
  obtain⟨rfl,rfl⟩:=h
  have b3:(a0.toList == ([113,117,111,116]:List UInt8))=true:=beq_iff_eq.mpr g3
  clear g3
  go_enter Tryd.func39,Tryd.ntmps39
  go_wp2
  go_ret2
  exact⟨rfl,Drawn0.refl _⟩
 rw [if_neg g3] at h
 have b3:(a0.toList == ([113,117,111,116]:List UInt8))=false:=beq_eq_false_iff_ne.mpr g3
 clear g3
 by_cases g4:a0.toList = [97,112,111,115]
 ·rw [if_pos g4] at h
  simp only [Option.some.injEq,Prod.mk.injEq] at h
  obtain⟨rfl,rfl⟩:=h
  have b4:(a0.toList == ([97,112,111,115]:List UInt8))=true:=beq_iff_eq.mpr g4
  clear g4
  go_enter Tryd.func39,Tryd.ntmps39
  go_wp2
  go_ret2
  exact⟨rfl,Drawn0.refl _⟩
 rw [if_neg g4] at h
 have b4:(a0.toList == ([97,112,111,115]:List UInt8))=false:=beq_eq_false_iff_ne.mpr g4
 clear g4
 obtain⟨b,hb0,h⟩:=bndO h
 have hb:=Aside0.mk hb0
 clear hb0
 cases b with
 | true=>exact absurd h (by simp)
 | false=>
  rw [if_neg (by decide)] at h
  simp only [Option.some.injEq,Prod.mk.injEq] at h
  obtain⟨rfl,rfl⟩:=h
  go_enter Tryd.func39,Tryd.ntmps39
  go_wp2_with (go_at_call 55;refine(strings_HasPrefix.calls _ _ _ _ hb.out).mono ?_;rintro e w1 ⟨rfl,⟨⟨nd,rfl⟩⟩⟩)
  go_ret2
  exact⟨rfl,⟨⟨_,rfl⟩⟩⟩
def xml_Unescape.l0:Nat→ByteArray→ByteArray→Option (ByteArray×Bool)
 | 0,_,_=>none
 | k+1,acc,s=>(strings_Cut.f s (⟨#[38]⟩ : ByteArray)).bind fun p=>(if acc.size+p.1.size≤140737488355328 then(if p.2.2=true then((strings_Cut.f p.2.1 (⟨#[59]⟩ : ByteArray)).bind fun q=>(if q.2.2=true then((xml_sign.f q.1).bind fun t=>(if t.2=true then(if(acc++p.1).size+t.1.size≤140737488355328 then xml_Unescape.l0 k (acc++p.1++t.1) q.2.1 else none) else some ((⟨#[]⟩ : ByteArray),false))) else some ((⟨#[]⟩ : ByteArray),false))) else some (acc++p.1,true)) else none)
theorem xml_Unescape.mono_l:∀ k y0 y1,LeO (xml_Unescape.l0 k y0 y1) (xml_Unescape.l0 (k+1) y0 y1)
 | 0=>fun _ _ r h=>by simp [xml_Unescape.l0] at h
 | k+1=>by
  have ih0:=xml_Unescape.mono_l k
  intro y0 y1
  unfold xml_Unescape.l0
  with_reducible repeat' first|exact ih0 _ _|exact LeO.refl _|exact LeO.none _|refine LeO.ite ?_ ?_|refine LeO.bind ?_ (fun _=>?_)
def xml_Unescape.f (k:Nat) (a0:ByteArray):Option (ByteArray×Bool):=(strings_ReplaceAll.f a0 (⟨#[13,10]⟩ : ByteArray) (⟨#[10]⟩ : ByteArray)).bind fun a=>(strings_ReplaceAll.f a (⟨#[13]⟩ : ByteArray) (⟨#[10]⟩ : ByteArray)).bind fun b=>xml_Unescape.l0 k (⟨#[]⟩ : ByteArray) b
theorem xml_Unescape.mono:∀ a0 k,LeO (xml_Unescape.f k a0) (xml_Unescape.f (k+1) a0):=by
 intro a0 k
 have ih0:=xml_Unescape.mono_l k
 unfold xml_Unescape.f
 with_reducible repeat' first|exact ih0 _ _|exact LeO.refl _|exact LeO.none _|refine LeO.ite ?_ ?_|refine LeO.bind ?_ (fun _=>?_)
theorem xml_Unescape.calls (k:Nat) (a0:ByteArray) (r1:ByteArray) (r2:Bool) (w:World) (hG:GOk w) (h:xml_Unescape.f k a0=some (r1,r2)) :
  Calls Tryd.prog 15 #[.string a0] w fun e w'=>e = .returned (.tuple #[.string r1,.bool r2])∧Below w.heap.size w w':=by
 unfold xml_Unescape.f at h
 obtain⟨a,hA0,h⟩:=bndO h
 obtain⟨b,hB0,h⟩:=bndO h
 have hRA:=Aside0.mk hA0
 have hRB:=Aside0.mk hB0
 have hH:=Aside0.mk h
 clear hA0 hB0 h
 go_enter Tryd.func15,Tryd.ntmps15
 go_wp2_with (first
  | (go_at_call 35;with_reducible refine(strings_ReplaceAll.calls a0 (⟨#[13,10]⟩ : ByteArray) (⟨#[10]⟩ : ByteArray) a w hG hRA.out).mono ?_;rintro e1 w1 ⟨rfl,⟨⟨na,rfl⟩⟩⟩)
  | (go_at_call 35;with_reducible refine(strings_ReplaceAll.calls a (⟨#[13]⟩ : ByteArray) (⟨#[10]⟩ : ByteArray) b (w.drewN na) (gok_drewN hG na) hRB.out).mono ?_;rintro e2 w2 ⟨rfl,⟨⟨nb,rfl⟩⟩⟩))
 go_loopg [0] k (fun kq v0 w'=>∃ (acc s:ByteArray),v0 = .string s∧Aside0 (xml_Unescape.l0 kq acc s=some (r1,r2))∧Aside0 (kq≤k)∧Aside0 (Lib.IsBuilderF 68 5 w.heap.size w.heap.size (Lib.byteCells acc.data.toList) w')∧Aside0 (Below w.heap.size w w'))
 case atStart=>
  exact⟨⟨#[]⟩,b,rfl,hH,⟨Nat.le_refl _⟩,⟨xml_print.isB_made 68 5 _ (Nat.le_refl _)⟩,⟨by repeat (first|exact Below.refl _ _|apply below_alloc|apply pw_below_drewN)⟩⟩
 case round=>
  clear hH hRA hRB
  obtain⟨acc,s,rfl,HA,HK1,HIr,HWr⟩:=hrel
  cases gk with
  | zero=>exact absurd HA.out (by simp [xml_Unescape.l0])
  | succ k1=>
   have H:=HA.out
   clear HA
   simp only [xml_Unescape.l0] at H
   obtain⟨p,hA0,H⟩:=bndO H
   obtain⟨p1,p2,p3⟩:=p
   have hA:=Aside0.mk hA0
   clear hA0
   rcases itO H with⟨c1,H1⟩|⟨c1,H1⟩
   ·have C1:=Aside0.mk c1
    clear c1 H
    cases p3 with
    | false=>
     dsimp only at H1
     rw [if_neg Bool.false_ne_true] at H1
     simp only [Option.some.injEq,Prod.mk.injEq] at H1
     obtain⟨rfl,rfl⟩:=H1
     go_wp2_with (first|(go_at_call 36;with_reducible refine(strings_Cut.calls s (⟨#[38]⟩ : ByteArray) p1 p2 false wr (gok_below hG HWr.out) hA.out).mono ?_;rintro e1 w1 ⟨rfl,⟨⟨n1,rfl⟩⟩⟩;have HI1:=Aside0.mk (Bld.IsB_drewN HIr.out n1);have HW1:=Aside0.mk (pw_below_drewN HWr.out n1))|(go_at_call 37;have hcall:=Bld.WriteString w.heap.size w.heap.size _ p1 _ HI1.out (by rw [xml_print.cells_size];exact C1.out) HW1.out.size;with_reducible refine hcall.mono ?_;clear hcall;rintro e2 w2 ⟨rfl,hi2,hb2,_⟩;have HI2:=Aside0.mk ((xml_print.cells_app acc p1).symm▸hi2);have HW2:=Aside0.mk (HW1.out.trans hb2);clear hi2 hb2)|(go_at_call 38;have hcall:=Bld.String_ w.heap.size w.heap.size _ w2 HI2.out HW2.out.size;with_reducible refine hcall.mono ?_;clear hcall;rintro e3 w3 ⟨rfl,hb3⟩;have HW3:=Aside0.mk (HW2.out.trans hb3);clear hb3))
     go_ret2
     exact⟨rfl,HW3.out⟩
    | true=>
     rw [if_pos rfl] at H1
     obtain⟨q,hB0,H2⟩:=bndO H1
     obtain⟨q1,q2,q3⟩:=q
     have hB:=Aside0.mk hB0
     clear hB0 H1
     cases q3 with
     | false=>
      dsimp only at H2
      rw [if_neg Bool.false_ne_true] at H2
      simp only [Option.some.injEq,Prod.mk.injEq] at H2
      obtain⟨rfl,rfl⟩:=H2
      go_wp2_with (first|(go_at_call 36;with_reducible refine(strings_Cut.calls s (⟨#[38]⟩ : ByteArray) p1 p2 true wr (gok_below hG HWr.out) hA.out).mono ?_;rintro e1 w1 ⟨rfl,⟨⟨n1,rfl⟩⟩⟩;have HI1:=Aside0.mk (Bld.IsB_drewN HIr.out n1);have HW1:=Aside0.mk (pw_below_drewN HWr.out n1))|(go_at_call 37;have hcall:=Bld.WriteString w.heap.size w.heap.size _ p1 _ HI1.out (by rw [xml_print.cells_size];exact C1.out) HW1.out.size;with_reducible refine hcall.mono ?_;clear hcall;rintro e2 w2 ⟨rfl,hi2,hb2,_⟩;have HI2:=Aside0.mk ((xml_print.cells_app acc p1).symm▸hi2);have HW2:=Aside0.mk (HW1.out.trans hb2);clear hi2 hb2)|(go_at_call 36;with_reducible refine(strings_Cut.calls p2 (⟨#[59]⟩ : ByteArray) q1 q2 false w2 (gok_below hG HW2.out) hB.out).mono ?_;rintro e3 w3 ⟨rfl,⟨⟨n3,rfl⟩⟩⟩;have HI3:=Aside0.mk (Bld.IsB_drewN HI2.out n3);have HW3:=Aside0.mk (pw_below_drewN HW2.out n3)))
      go_ret2
      exact⟨rfl,HW3.out⟩
     | true=>
      rw [if_pos rfl] at H2
      obtain⟨t,hS0,H3⟩:=bndO H2
      obtain⟨t1,t2⟩:=t
      have hS:=Aside0.mk hS0
      clear hS0 H2
      cases t2 with
      | false=>
       dsimp only at H3
       rw [if_neg Bool.false_ne_true] at H3
       simp only [Option.some.injEq,Prod.mk.injEq] at H3
       obtain⟨rfl,rfl⟩:=H3
       go_wp2_with (first|(go_at_call 36;with_reducible refine(strings_Cut.calls s (⟨#[38]⟩ : ByteArray) p1 p2 true wr (gok_below hG HWr.out) hA.out).mono ?_;rintro e1 w1 ⟨rfl,⟨⟨n1,rfl⟩⟩⟩;have HI1:=Aside0.mk (Bld.IsB_drewN HIr.out n1);have HW1:=Aside0.mk (pw_below_drewN HWr.out n1))|(go_at_call 37;have hcall:=Bld.WriteString w.heap.size w.heap.size _ p1 _ HI1.out (by rw [xml_print.cells_size];exact C1.out) HW1.out.size;with_reducible refine hcall.mono ?_;clear hcall;rintro e2 w2 ⟨rfl,hi2,hb2,_⟩;have HI2:=Aside0.mk ((xml_print.cells_app acc p1).symm▸hi2);have HW2:=Aside0.mk (HW1.out.trans hb2);clear hi2 hb2)|(go_at_call 36;with_reducible refine(strings_Cut.calls p2 (⟨#[59]⟩ : ByteArray) q1 q2 true w2 (gok_below hG HW2.out) hB.out).mono ?_;rintro e3 w3 ⟨rfl,⟨⟨n3,rfl⟩⟩⟩;have HI3:=Aside0.mk (Bld.IsB_drewN HI2.out n3);have HW3:=Aside0.mk (pw_below_drewN HW2.out n3))|(go_at_call 39;with_reducible refine(xml_sign.calls q1 t1 false _ hS.out).mono ?_;rintro e4 w4 ⟨rfl,⟨⟨n4,rfl⟩⟩⟩;have HI4:=Aside0.mk (Bld.IsB_drewN HI2.out (n3+n4));have HW4:=Aside0.mk (pw_below_drewN HW2.out (n3+n4))))
       go_ret2
       exact⟨rfl,HW4.out⟩
      | true=>
       rw [if_pos rfl] at H3
       rcases itO H3 with⟨c2,H4⟩|⟨c2,H4⟩
       ·have C2:=Aside0.mk c2
        have H':=Aside0.mk H4
        clear c2 H3 H4
        go_wp2_with (first|(go_at_call 36;with_reducible refine(strings_Cut.calls s (⟨#[38]⟩ : ByteArray) p1 p2 true wr (gok_below hG HWr.out) hA.out).mono ?_;rintro e1 w1 ⟨rfl,⟨⟨n1,rfl⟩⟩⟩;have HI1:=Aside0.mk (Bld.IsB_drewN HIr.out n1);have HW1:=Aside0.mk (pw_below_drewN HWr.out n1))|(go_at_call 37;have hcall:=Bld.WriteString w.heap.size w.heap.size _ p1 _ HI1.out (by rw [xml_print.cells_size];exact C1.out) HW1.out.size;with_reducible refine hcall.mono ?_;clear hcall;rintro e2 w2 ⟨rfl,hi2,hb2,_⟩;have HI2:=Aside0.mk ((xml_print.cells_app acc p1).symm▸hi2);have HW2:=Aside0.mk (HW1.out.trans hb2);clear hi2 hb2)|(go_at_call 36;with_reducible refine(strings_Cut.calls p2 (⟨#[59]⟩ : ByteArray) q1 q2 true w2 (gok_below hG HW2.out) hB.out).mono ?_;rintro e3 w3 ⟨rfl,⟨⟨n3,rfl⟩⟩⟩;have HI3:=Aside0.mk (Bld.IsB_drewN HI2.out n3);have HW3:=Aside0.mk (pw_below_drewN HW2.out n3))|(go_at_call 39;with_reducible refine(xml_sign.calls q1 t1 true _ hS.out).mono ?_;rintro e4 w4 ⟨rfl,⟨⟨n4,rfl⟩⟩⟩;have HI4:=Aside0.mk (Bld.IsB_drewN HI2.out (n3+n4));have HW4:=Aside0.mk (pw_below_drewN HW2.out (n3+n4)))|(go_at_call 37;have hcall:=Bld.WriteString w.heap.size w.heap.size _ t1 _ HI4.out (by rw [xml_print.cells_size];exact C2.out) HW4.out.size;with_reducible refine hcall.mono ?_;clear hcall;rintro e5 w5 ⟨rfl,hi5,hb5,_⟩;have HI5:=Aside0.mk ((xml_print.cells_app (acc++p1) t1).symm▸hi5);have HW5:=Aside0.mk (HW4.out.trans hb5);clear hi5 hb5))
        go_roundg k1
        case measure=>have:=HK1.out;omega
        case rel=>exact⟨acc++p1++t1,q2,rfl,H',⟨by have:=HK1.out;omega⟩,HI5,HW5⟩
       ·exact absurd H4 (by simp)
   ·exact absurd H1 (by simp)
end Go.Proofs.YtklcgncaclggcaaDoor.Q
