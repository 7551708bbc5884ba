/- A part of the proof of the seat's laws. No condition beyond those in the theorems. -/
import Derived.Test.YtklcgncaclggcaaDoorZBase
import Derived.Test.YtklcgncaclggcaaDoorZRepS
import Derived.Test.YtklcgncaclggcaaDoorZQ0g18
import Derived.Test.YtklcgncaclggcaaDoorZSqzB
import Derived.Lib.Hide
import Derived.Lib.OthersKept
import Derived.Test.YtklcgncaclggcaaDoorZBld

namespace Go.Proofs.YtklcgncaclggcaaDoor.Q
open Go.RowKit Go.Proofs.YtklcgncaclggcaaDoorW.PrintWords Go.Proofs.YtklcgncaclggcaaDoorW.PrintLast Go.Proofs.YtklcgncaclggcaaDoorW.PrintMore
set_option linter.unusedVariables false
set_option linter.unusedSimpArgs false
attribute [local go_sem] max2_int min2_int max_two min_two max_three min_three max_four min_four   
def strings_ReplaceAll.f (a0 a1 a2:ByteArray):Option ByteArray:=if a0.size<4294967281∧1≤a1.size∧a0.size+Lib.countB a0 a1*a2.size≤140737488355328 then some ⟨(Lib.replaceAll a0.data.toList a1.data.toList a2.data.toList).toArray⟩ else none
theorem strings_ReplaceAll.calls (a0 a1 a2:ByteArray) (r:ByteArray) (w:World) (hG:GOk w) (h:strings_ReplaceAll.f a0 a1 a2=some r) :
  Calls Tryd.prog 35 #[.string a0,.string a1,.string a2] w fun e w'=>e = .returned (.string r)∧Below w.heap.size w w':=by
 unfold strings_ReplaceAll.f at h
 by_cases c:a0.size<4294967281∧1≤a1.size∧a0.size+Lib.countB a0 a1*a2.size≤140737488355328
 ·rw [if_pos c] at h
  obtain rfl:=Option.some.inj h
  obtain⟨m,hm⟩:=gok_max hG
  exact Tryd.strings_ReplaceAll a0 a1 a2 m w c.1 hm c.2.1 c.2.2
 ·rw [if_neg c] at h
  exact absurd h (by simp)
def stringslite_Index.f (a0 a1:ByteArray):Option Int:=if a0.size<4294967281 then some (Lib.index a0.data.toList a1.data.toList) else none
theorem stringslite_Index.calls (a0 a1:ByteArray) (r:Int) (w:World) (hG:GOk w) (h:stringslite_Index.f a0 a1=some r) :
  Calls Tryd.prog 78 #[.string a0,.string a1] w fun e w'=>e = .returned (.int .i64 r)∧Drawn0 w w':=by
 unfold stringslite_Index.f at h
 by_cases c:a0.size<4294967281
 ·rw [if_pos c] at h
  obtain rfl:=Option.some.inj h
  obtain⟨m,hm⟩:=gok_max hG
  exact(Tryd.stringslite_Index a0 a1 m w c hm).mono fun e w' ⟨he,hw⟩=>⟨he,by rw [hw];exact Drawn0.refl _⟩
 ·rw [if_neg c] at h
  exact absurd h (by simp)
set_option maxHeartbeats 8000000
set_option maxRecDepth 100000
def stringslite_Cut.f (a0:ByteArray) (a1:ByteArray):Option (ByteArray×ByteArray×Bool):=(stringslite_Index.f a0 a1).bind fun t117=>(if t117 ≥ 0 then(if 0≤t117 then(if t117≤(a0.size:Int) then(if 0≤(wrap64 (t117+(a1.size:Int))) then(if(wrap64 (t117+(a1.size:Int)))≤(a0.size:Int) then(some (a0.extract 0 (t117:Int).toNat,a0.extract ((wrap64 (t117+(a1.size:Int))):Int).toNat a0.size,true)) else(none)) else(none)) else(none)) else(none)) else(some (a0,(⟨#[]⟩ : ByteArray),false)))
theorem stringslite_Cut.calls (a0:ByteArray) (a1:ByteArray) (r1:ByteArray) (r2:ByteArray) (r3:Bool) (w:World) (hG:GOk w) (h:stringslite_Cut.f a0 a1=some (r1,r2,r3)) :
  Calls Tryd.prog 71 #[.string a0,.string a1] w fun e w'=>e = .returned (.tuple #[.string r1,.string r2,.bool r3])∧Drawn0 w w':=by
 unfold stringslite_Cut.f at h
 have H:=h
 clear h
 replace H:=bndO H
 obtain⟨t117,A30,H⟩:=H
 have A3:=Aside0.mk A30
 clear A30
 replace H:=itO H
 rcases H with⟨c4,H⟩|⟨c4,H⟩
 ·skip
  have c4b0:decide (0≤t117)=true:=decide_eq_true c4
  clear c4
  replace H:=itO H
  rcases H with⟨c5,H⟩|⟨c5,H⟩
  ·skip
   have c5b0:=eq_true c5
   have c5b1:=decide_eq_true c5
   clear c5
   replace H:=itO H
   rcases H with⟨c6,H⟩|⟨c6,H⟩
   ·skip
    have c6b0:=eq_true c6
    have c6b1:=decide_eq_true c6
    clear c6
    obtain⟨ji7,hji7⟩ : ∃ j_:Int,(wrap64 (t117+(a1.size:Int)))=j_:=⟨_,rfl⟩
    first|rw [hji7] at H|simp only [hji7] at H
    (try rw [hji7] at A3)
    have hji7w:(IntKind.i64.wrap (t117+(a1.size:Int)))=ji7:=(i64_w _).trans hji7
    replace H:=itO H
    rcases H with⟨c8,H⟩|⟨c8,H⟩
    ·skip
     have c8b0:=eq_true c8
     have c8b1:=decide_eq_true c8
     clear c8
     replace H:=itO H
     rcases H with⟨c9,H⟩|⟨c9,H⟩
     ·skip
      have c9b0:=eq_true c9
      have c9b1:=decide_eq_true c9
      clear c9
      simp only [Option.some.injEq,Prod.mk.injEq] at H
      obtain⟨rfl,rfl,rfl⟩:=H
      go_enter Tryd.func71,Tryd.ntmps71
      go_wp2_with (first|(go_at_call 78;(with_reducible refine(stringslite_Index.calls a0 a1 t117 _ (by first|exact hG|exact gok_below hG (by repeat (first|(with_reducible first|exact HB.out|apply below_alloc|apply pw_below_drewN|apply below_drew1)|exact HB.out))|exact gok_heap hG rfl|exact gok_drewN hG _|exact gok_below hG (by repeat (first|exact HB.out|exact HBW.out|exact Below.refl _ _|apply below_alloc|apply pw_below_drewN|apply below_drew1))) A3.out).mono ?_);rintro e w' ⟨rfl,⟨nd,rfl⟩⟩;(try first|exact⟨rfl,_,World.drewN_drewN _ _ _⟩|exact⟨rfl,_,Eq.trans (World.drewN_drewN _ _ _) (congrArg (World.drewN _) (Nat.add_assoc _ _ _))⟩)))
      repeat (go_quiet (first|(go_at_call 78;(with_reducible refine(stringslite_Index.calls a0 a1 t117 _ (by first|exact hG|exact gok_below hG (by repeat (first|(with_reducible first|exact HB.out|apply below_alloc|apply pw_below_drewN|apply below_drew1)|exact HB.out))|exact gok_heap hG rfl|exact gok_drewN hG _|exact gok_below hG (by repeat (first|exact HB.out|exact HBW.out|exact Below.refl _ _|apply below_alloc|apply pw_below_drewN|apply below_drew1))) A3.out).mono ?_);rintro e w' ⟨rfl,⟨nd,rfl⟩⟩;(try first|exact⟨rfl,_,World.drewN_drewN _ _ _⟩|exact⟨rfl,_,Eq.trans (World.drewN_drewN _ _ _) (congrArg (World.drewN _) (Nat.add_assoc _ _ _))⟩)));try go_wp2_with (first|(go_at_call 78;(with_reducible refine(stringslite_Index.calls a0 a1 t117 _ (by first|exact hG|exact gok_below hG (by repeat (first|(with_reducible first|exact HB.out|apply below_alloc|apply pw_below_drewN|apply below_drew1)|exact HB.out))|exact gok_heap hG rfl|exact gok_drewN hG _|exact gok_below hG (by repeat (first|exact HB.out|exact HBW.out|exact Below.refl _ _|apply below_alloc|apply pw_below_drewN|apply below_drew1))) A3.out).mono ?_);rintro e w' ⟨rfl,⟨nd,rfl⟩⟩;(try first|exact⟨rfl,_,World.drewN_drewN _ _ _⟩|exact⟨rfl,_,Eq.trans (World.drewN_drewN _ _ _) (congrArg (World.drewN _) (Nat.add_assoc _ _ _))⟩))))
      go_ret3
      exact⟨by first|rfl|(simp;done)|(simp only [← hji7] <;> (first|rfl|simp))|(simp [*];done),by repeat (first|exact Drawn0.refl _|apply Drawn0.step)⟩
     ·exact absurd H (by simp)
    ·exact absurd H (by simp)
   ·exact absurd H (by simp)
  ·exact absurd H (by simp)
 ·skip
  have c4b0:decide (0≤t117)=false:=decide_eq_false c4
  clear c4
  simp only [Option.some.injEq,Prod.mk.injEq] at H
  obtain⟨rfl,rfl,rfl⟩:=H
  go_enter Tryd.func71,Tryd.ntmps71
  go_wp2_with (first|(go_at_call 78;(with_reducible refine(stringslite_Index.calls a0 a1 t117 _ (by first|exact hG|exact gok_below hG (by repeat (first|(with_reducible first|exact HB.out|apply below_alloc|apply pw_below_drewN|apply below_drew1)|exact HB.out))|exact gok_heap hG rfl|exact gok_drewN hG _|exact gok_below hG (by repeat (first|exact HB.out|exact HBW.out|exact Below.refl _ _|apply below_alloc|apply pw_below_drewN|apply below_drew1))) A3.out).mono ?_);rintro e w' ⟨rfl,⟨nd,rfl⟩⟩;(try first|exact⟨rfl,_,World.drewN_drewN _ _ _⟩|exact⟨rfl,_,Eq.trans (World.drewN_drewN _ _ _) (congrArg (World.drewN _) (Nat.add_assoc _ _ _))⟩)))
  repeat (go_quiet (first|(go_at_call 78;(with_reducible refine(stringslite_Index.calls a0 a1 t117 _ (by first|exact hG|exact gok_below hG (by repeat (first|(with_reducible first|exact HB.out|apply below_alloc|apply pw_below_drewN|apply below_drew1)|exact HB.out))|exact gok_heap hG rfl|exact gok_drewN hG _|exact gok_below hG (by repeat (first|exact HB.out|exact HBW.out|exact Below.refl _ _|apply below_alloc|apply pw_below_drewN|apply below_drew1))) A3.out).mono ?_);rintro e w' ⟨rfl,⟨nd,rfl⟩⟩;(try first|exact⟨rfl,_,World.drewN_drewN _ _ _⟩|exact⟨rfl,_,Eq.trans (World.drewN_drewN _ _ _) (congrArg (World.drewN _) (Nat.add_assoc _ _ _))⟩)));try go_wp2_with (first|(go_at_call 78;(with_reducible refine(stringslite_Index.calls a0 a1 t117 _ (by first|exact hG|exact gok_below hG (by repeat (first|(with_reducible first|exact HB.out|apply below_alloc|apply pw_below_drewN|apply below_drew1)|exact HB.out))|exact gok_heap hG rfl|exact gok_drewN hG _|exact gok_below hG (by repeat (first|exact HB.out|exact HBW.out|exact Below.refl _ _|apply below_alloc|apply pw_below_drewN|apply below_drew1))) A3.out).mono ?_);rintro e w' ⟨rfl,⟨nd,rfl⟩⟩;(try first|exact⟨rfl,_,World.drewN_drewN _ _ _⟩|exact⟨rfl,_,Eq.trans (World.drewN_drewN _ _ _) (congrArg (World.drewN _) (Nat.add_assoc _ _ _))⟩))))
  go_ret3
  exact⟨by first|rfl|(simp;done)|(simp [*];done),by repeat (first|exact Drawn0.refl _|apply Drawn0.step)⟩
def strings_Cut.f (a0:ByteArray) (a1:ByteArray):Option (ByteArray×ByteArray×Bool):=(stringslite_Cut.f a0 a1).bind fun bt118=>(some (bt118.1,bt118.2.1,bt118.2.2))
theorem strings_Cut.calls (a0:ByteArray) (a1:ByteArray) (r1:ByteArray) (r2:ByteArray) (r3:Bool) (w:World) (hG:GOk w) (h:strings_Cut.f a0 a1=some (r1,r2,r3)) :
  Calls Tryd.prog 36 #[.string a0,.string a1] w fun e w'=>e = .returned (.tuple #[.string r1,.string r2,.bool r3])∧Drawn0 w w':=by
 unfold strings_Cut.f at h
 have H:=h
 clear h
 replace H:=bndO H
 obtain⟨⟨t118,t119,t120⟩,A30,H⟩:=H
 dsimp only at H
 have A3:=Aside0.mk A30
 clear A30
 simp only [Option.some.injEq,Prod.mk.injEq] at H
 obtain⟨rfl,rfl,rfl⟩:=H
 go_enter Tryd.func36,Tryd.ntmps36
 go_wp2_with (first|((with_reducible refine gate_callee (f:=71) rfl ?_);refine goesL_ (some 9) rfl rfl Tryd.func71 (by kernel_rfl) rfl #[.string a0,.string a1] rfl (by(try simp only [List.map_toArray,List.map_cons,List.map_nil]);first|done|rfl|(simp only [List.length_drop,List.length_take];rfl)) ?_;(with_reducible refine(stringslite_Cut.calls a0 a1 t118 t119 t120 _ (by first|exact hG|exact gok_below hG (by repeat (first|(with_reducible first|exact HB.out|apply below_alloc|apply pw_below_drewN|apply below_drew1)|exact HB.out))|exact gok_heap hG rfl|exact gok_drewN hG _|exact gok_below hG (by repeat (first|exact HB.out|exact HBW.out|exact Below.refl _ _|apply below_alloc|apply pw_below_drewN|apply below_drew1))) A3.out).mono ?_);rintro e w' ⟨rfl,⟨nd,rfl⟩⟩;refine⟨_,rfl,?_⟩))
 go_ret3
 exact⟨by first|rfl|(simp;done)|(simp [*];done),by repeat (first|exact Drawn0.refl _|apply Drawn0.step)⟩
def chars_Valid.f (a0:ByteArray):Option (Bool):=(chars_Count.f a0).bind fun bt102=>(some bt102.2)
theorem chars_Valid.calls (a0:ByteArray) (r:Bool) (w:World) (h:chars_Valid.f a0=some r) :
  Calls Tryd.prog 54 #[.string a0] w fun e w'=>e = .returned (.bool r)∧Below w.heap.size w w':=by
 have HB:=Aside0.mk (Below.refl w.heap.size w)
 unfold chars_Valid.f at h
 have H:=h
 clear h
 replace H:=bndO H
 obtain⟨⟨t102,t103⟩,A20,H⟩:=H
 dsimp only at H
 have A2:=Aside0.mk A20
 clear A20
 obtain rfl:=Option.some.inj H
 go_enter Tryd.func54,Tryd.ntmps54
 go_wp2_with (first|((with_reducible refine gate_callee (f:=76) rfl ?_);refine goesL_ (some 7) rfl rfl Tryd.func76 (by kernel_rfl) rfl #[.string a0] rfl (by(try simp only [List.map_toArray,List.map_cons,List.map_nil]);first|done|rfl|(simp only [List.length_drop,List.length_take];rfl)) ?_;(with_reducible refine(chars_Count.calls a0 t102 t103 _ A2.out).mono ?_);rintro e w3 ⟨rfl,hb⟩;refine⟨_,rfl,?_⟩;have n0_:=Aside0.mk (below_step (by repeat (first|(with_reducible first|exact HB.out|apply below_alloc|apply pw_below_drewN|apply below_drew1)|exact HB.out)) hb);clear HB;have HB:=n0_;clear n0_;(try clear hb);(try clear hb2);(try clear hk);(try clear hi)))
 go_ret
 exact⟨by first|rfl|(simp [errW_none,errW_some] <;> rfl)|(simp [*,errW_none,errW_some] <;> rfl),by repeat (first|(with_reducible first|exact HB.out|apply below_alloc|apply pw_below_drewN|apply below_drew1)|exact HB.out)⟩
mutual
def chars_legal.j0:Nat→Int→Bool→Option (Bool)
  | 0,_,_=>none
  | k+1,x0,x3=>if x3=true then(some true) else(if x0 ≥ 57344 then(chars_legal.j1 k x0 (decide (x0≤65533))) else(chars_legal.j1 k x0 false))
def chars_legal.j1:Nat→Int→Bool→Option (Bool)
  | 0,_,_=>none
  | k+1,x0,x3=>if x3=true then(some true) else(if x0 ≥ 65536 then(some true) else(some false))
end
def chars_legal.f (k:Nat) (a0:Int):Option (Bool):=if a0=9 then(some true) else(if a0=10 then(some true) else(if a0=13 then(some true) else(if a0 ≥ 32 then(chars_legal.j0 k a0 (decide (a0≤55295))) else(chars_legal.j0 k a0 false))))
theorem chars_legal.mono_l:∀ k,(∀ y0 y1,LeO (chars_legal.j0 k y0 y1) (chars_legal.j0 (k+1) y0 y1))∧(∀ y0 y1,LeO (chars_legal.j1 k y0 y1) (chars_legal.j1 (k+1) y0 y1))
  | 0=>⟨fun _ _ r h=>by simp [chars_legal.j0] at h,fun _ _ r h=>by simp [chars_legal.j1] at h⟩
  | k+1=>by
    obtain⟨ih0,ih1⟩:=chars_legal.mono_l k
    refine⟨?_,?_⟩
    · intro y0 y1
      unfold chars_legal.j0
      with_reducible repeat' first|exact ih0 _ _|exact ih1 _ _|exact LeO.refl _|exact LeO.none _|refine LeO.ite ?_ ?_|refine LeO.bind ?_ (fun _=>?_)
    · intro y0 y1
      unfold chars_legal.j1
      with_reducible repeat' first|exact ih0 _ _|exact ih1 _ _|exact LeO.refl _|exact LeO.none _|refine LeO.ite ?_ ?_|refine LeO.bind ?_ (fun _=>?_)
theorem chars_legal.mono:∀ a0 k,LeO (chars_legal.f k a0) (chars_legal.f (k+1) a0):=by
 intro a0 k
 obtain⟨ih0,ih1⟩:=chars_legal.mono_l k
 unfold chars_legal.f
 with_reducible repeat' first|exact ih0 _ _|exact ih1 _ _|exact LeO.refl _|exact LeO.none _|refine LeO.ite ?_ ?_|refine LeO.bind ?_ (fun _=>?_)
theorem chars_legal.calls (k:Nat) (a0:Int) (r:Bool) (w:World) (h:chars_legal.f k a0=some r) :
    Calls Tryd.prog 53 #[.int .i32 a0] w fun e w'=>e = .returned (.bool r)∧Drawn0 w w':=by
 unfold chars_legal.f at h
 have H:=h
 clear h
 replace H:=itO H
 rcases H with⟨c2,H⟩|⟨c2,H⟩
 {
 have c2b0:(a0 == 9)=true:=beq_iff_eq.mpr c2
 clear c2
 obtain rfl:=Option.some.inj H
 go_enter Tryd.func53,Tryd.ntmps53
 go_wp2
 go_ret
 exact⟨rs,dr⟩
 }
 {
 have c2b0:(a0 == 9)=false:=beq_eq_false_iff_ne.mpr c2
 replace H:=itO H
 rcases H with⟨c3,H⟩|⟨c3,H⟩
 {
 have c3b0:(a0 == 10)=true:=beq_iff_eq.mpr c3
 clear c3
 obtain rfl:=Option.some.inj H
 go_enter Tryd.func53,Tryd.ntmps53
 go_wp2
 go_ret
 exact⟨rs,dr⟩
 }
 {
 have c3b0:(a0 == 10)=false:=beq_eq_false_iff_ne.mpr c3
 replace H:=itO H
 rcases H with⟨c4,H⟩|⟨c4,H⟩
 {
 have c4b0:(a0 == 13)=true:=beq_iff_eq.mpr c4
 clear c4
 obtain rfl:=Option.some.inj H
 go_enter Tryd.func53,Tryd.ntmps53
 go_wp2
 go_ret
 exact⟨rs,dr⟩
 }
 {
 have c4b0:(a0 == 13)=false:=beq_eq_false_iff_ne.mpr c4
 have HC5:=Aside0.mk H
 clear H
 go_enter Tryd.func53,Tryd.ntmps53
 go_upto_region 4 with(fail)
 go_cut [3] (fun v3 wc=>∃ (kq:Nat) (x3_4:Bool),v3 = .bool x3_4∧Aside0 (chars_legal.j0 kq a0 x3_4=some r)∧Aside0 (kq≤k)∧Drawn0 w wc)
 case first=>
  have H:=HC5.out
  clear HC5
  replace H:=itO H
  rcases H with⟨c6,H⟩|⟨c6,H⟩
  {
  have c6b0:decide (32≤a0)=true:=decide_eq_true c6
  clear c6
  (first|rw [c6b0]|(simp only [i64_w,i32_w];rw [c6b0])|skip)
  have H':=Aside0.mk H
  clear H
  go_wp2
  go_meet
  case rel=>exact⟨_,(decide (a0≤55295)),rs,H',⟨by first|omega|exact Nat.le_refl _⟩,by repeat (first|exact Drawn0.refl _|apply Drawn0.step)⟩
  }
  {
  have c6b0:decide (32≤a0)=false:=decide_eq_false c6
  clear c6
  (first|rw [c6b0]|(simp only [i64_w,i32_w];rw [c6b0])|skip)
  have H':=Aside0.mk H
  clear H
  go_wp2
  go_meet
  case rel=>exact⟨_,(false),rs,H',⟨by first|omega|exact Nat.le_refl _⟩,by repeat (first|exact Drawn0.refl _|apply Drawn0.step)⟩
  }
 case rest=>
  clear HC5
  obtain⟨kq,x3_4,rfl,HA,HJ4,⟨mc4,rfl⟩⟩:=hcut
  cases kq with
  | zero=>exact absurd HA.out (by simp [chars_legal.j0])
  | succ kj4=>
   have H:=HA.out
   clear HA
   simp only [chars_legal.j0] at H
   by_cases c7:x3_4=true
   {
   subst c7
   replace H:=itT H
   obtain rfl:=Option.some.inj H
   go_wp2
   go_ret
   exact⟨rs,dr⟩
   }
   {
   replace c7:=Bool.eq_false_iff.mpr c7
   subst c7
   replace H:=itF H
   have HC8:=Aside0.mk H
   clear H
   go_upto_region 5 with(fail)
   go_cut [3] (fun v3 wc=>∃ (kq:Nat) (x3_7:Bool),v3 = .bool x3_7∧Aside0 (chars_legal.j1 kq a0 x3_7=some r)∧Aside0 (kq≤kj4)∧Drawn0 w wc)
   case first=>
    have H:=HC8.out
    clear HC8
    replace H:=itO H
    rcases H with⟨c9,H⟩|⟨c9,H⟩
    {
    have c9b0:decide (57344≤a0)=true:=decide_eq_true c9
    clear c9
    (first|rw [c9b0]|(simp only [i64_w,i32_w];rw [c9b0])|skip)
    have H':=Aside0.mk H
    clear H
    go_wp2
    go_meet
    case rel=>exact⟨_,(decide (a0≤65533)),rs,H',⟨by have:=HJ4.out;first|omega|exact Nat.le_refl _⟩,by repeat (first|exact Drawn0.refl _|apply Drawn0.step)⟩
    }
    {
    have c9b0:decide (57344≤a0)=false:=decide_eq_false c9
    clear c9
    (first|rw [c9b0]|(simp only [i64_w,i32_w];rw [c9b0])|skip)
    have H':=Aside0.mk H
    clear H
    go_wp2
    go_meet
    case rel=>exact⟨_,(false),rs,H',⟨by have:=HJ4.out;first|omega|exact Nat.le_refl _⟩,by repeat (first|exact Drawn0.refl _|apply Drawn0.step)⟩
    }
   case rest=>
    clear HC8
    obtain⟨kq,x3_7,rfl,HA,HJ7,⟨mc7,rfl⟩⟩:=hcut
    cases kq with
    | zero=>exact absurd HA.out (by simp [chars_legal.j1])
    | succ kj7=>
     have H:=HA.out
     clear HA
     simp only [chars_legal.j1] at H
     by_cases c10:x3_7=true
     {
     subst c10
     replace H:=itT H
     obtain rfl:=Option.some.inj H
     go_wp2
     go_ret
     exact⟨rs,dr⟩
     }
     {
     replace c10:=Bool.eq_false_iff.mpr c10
     subst c10
     replace H:=itF H
     replace H:=itO H
     rcases H with⟨c11,H⟩|⟨c11,H⟩
     {
     have c11b0:decide (65536≤a0)=true:=decide_eq_true c11
     clear c11
     obtain rfl:=Option.some.inj H
     go_wp2
     go_ret
     exact⟨rs,dr⟩
     }
     {
     have c11b0:decide (65536≤a0)=false:=decide_eq_false c11
     clear c11
     obtain rfl:=Option.some.inj H
     go_wp2
     go_ret
     exact⟨rs,dr⟩
     }
     }
   }
 }
 }
 }
def chars_Legal.ok (c:Int):Bool:=decide (c=9∨c=10∨c=13∨(32≤c∧c≤55295)∨(57344≤c∧c≤65533)∨65536≤c)
theorem chars_Legal.ok_eq (c:Int):chars_legal.f 3 c=some (chars_Legal.ok c):=by
 unfold chars_legal.f chars_Legal.ok
 by_cases h1:c=9
 ·rw [if_pos h1,decide_eq_true (by omega)]
 ·rw [if_neg h1]
  by_cases h2:c=10
  ·rw [if_pos h2,decide_eq_true (by omega)]
  ·rw [if_neg h2]
   by_cases h3:c=13
   ·rw [if_pos h3,decide_eq_true (by omega)]
   ·rw [if_neg h3]
    have tail:chars_legal.j0 3 c false=some (decide ((57344≤c∧c≤65533)∨65536≤c)):=by
     simp only [chars_legal.j0]
     rw [if_neg (by decide)]
     by_cases h5:c ≥ 57344
     ·rw [if_pos h5]
      by_cases h6:c≤65533
      ·rw [chars_legal.j1,if_pos (decide_eq_true h6),decide_eq_true (by omega)]
      ·rw [chars_legal.j1,if_neg (by simpa using h6)]
       by_cases h7:c ≥ 65536
       ·rw [if_pos h7,decide_eq_true (by omega)]
       ·rw [if_neg h7,decide_eq_false (by omega)]
     ·rw [if_neg h5,chars_legal.j1,if_neg (by decide),if_neg (by omega),decide_eq_false (by omega)]
    by_cases h4:c ≥ 32
    ·rw [if_pos h4]
     by_cases h5:c≤55295
     ·rw [chars_legal.j0,if_pos (decide_eq_true h5),decide_eq_true (by omega)]
     ·rw [decide_eq_false h5,tail]
      congr 1
      rw [decide_eq_decide]
      omega
    ·rw [if_neg h4,tail]
     congr 1
     rw [decide_eq_decide]
     omega
def chars_Legal.g (s:ByteArray):Nat→Nat→Bool
 | 0,_=>true
 | k+1,pos=>if pos<s.size then(if chars_Legal.ok (Utf8.decode s pos).1=false then false else chars_Legal.g s k (pos+(Utf8.decode s pos).2)) else true
def chars_Legal.f (a0:ByteArray):Option Bool:=if a0.size≤9007199254740992 then(if chars_Legal.g a0 a0.size 0=true then chars_Valid.f a0 else some false) else none
theorem chars_Legal.g_bad (s:ByteArray) (k pos:Nat) (h:pos<s.size) (hd:chars_Legal.ok (Utf8.decode s pos).1=false):chars_Legal.g s (k+1) pos=false:=by
 rw [chars_Legal.g,if_pos h,if_pos hd]
theorem chars_Legal.g_on (s:ByteArray) (k pos:Nat) (h:pos<s.size) (hd:chars_Legal.ok (Utf8.decode s pos).1=true):chars_Legal.g s (k+1) pos=chars_Legal.g s k (pos+(Utf8.decode s pos).2):=by
 rw [chars_Legal.g,if_pos h,if_neg (by rw [hd];decide)]
theorem chars_Legal.g_end (s:ByteArray) (k pos:Nat) (h:¬ pos<s.size):chars_Legal.g s k pos=true:=by
 cases k with
 | zero=>rfl
 | succ k=>rw [chars_Legal.g,if_neg h]
theorem chars_Legal.calls (a0:ByteArray) (r:Bool) (w:World) (h:chars_Legal.f a0=some r) :
  Calls Tryd.prog 27 #[.string a0] w fun e w'=>e = .returned (.bool r)∧Below w.heap.size w w':=by
 unfold chars_Legal.f at h
 have hs:a0.size≤9007199254740992:=by
  by_cases c:a0.size≤9007199254740992
  ·exact c
  ·simp [c] at h
 rw [if_pos hs] at h
 have hR:Hid (∀ v,chars_Legal.g a0 a0.size 0=v→(v=true→chars_Valid.f a0=some r)∧(v=false→r=false)):=by
  refine Lib.hid fun v hv=>?_
  rw [hv] at h
  cases v
  ·exact⟨fun h_=>by simp at h_,fun _=>(Option.some.inj h).symm⟩
  ·exact⟨fun _=>h,fun h_=>by simp at h_⟩
 clear h
 go_enter Tryd.func27,Tryd.ntmps27
 go_wp2
 go_loopw [] (fun wr=>∃ (pos fuel:Nat),Hid (wr.heap[w.heap.size]? = some (.stringIter a0 pos)∧Below w.heap.size w wr∧chars_Legal.g a0 fuel pos=chars_Legal.g a0 a0.size 0∧a0.size≤pos+fuel)) (fun wr=>a0.size-wr.iterPos w.heap.size)
 case atStart=>
  refine⟨0,a0.size,Lib.hid ⟨?_,(Below.refl _ w).alloc (Nat.le_refl _) _,rfl,by omega⟩⟩
  exact World.iter_heap w a0 0
 case round=>
  obtain⟨pos,fuel,hI⟩:=hrel
  by_cases hp:pos<a0.size
  ·have hit:=hI.out.1
   have hnx:∀ ty,(Instr.next (.pointer (some ⟨w.heap.size,0,none⟩)) true ty).run Tryd.prog wr=_:=fun ty=>Lib.run_next_any_at wr w.heap.size a0 pos ty hit hp
   have hwd:=chars_Count.width_pos a0 pos hp
   have hB2:=Lib.below_iterAt hI.out.2.1 (k:=w.heap.size) (Nat.le_refl _) a0 (pos+(Utf8.decode a0 pos).2)
   have hit2:=Lib.iterAt_heap wr w.heap.size a0 pos (pos+(Utf8.decode a0 pos).2) hit
   obtain⟨W2,hW2⟩ : ∃ W2,wr.iterAt w.heap.size a0 (pos+(Utf8.decode a0 pos).2)=W2:=⟨_,rfl⟩
   rw [hW2] at hB2 hit2
   simp only [hW2] at hnx
   obtain⟨f,rfl⟩ : ∃ f,fuel=f+1:=⟨fuel-1,by have:=hI.out.2.2.2;omega⟩
   have hmeas:a0.size-W2.iterPos w.heap.size<a0.size-wr.iterPos w.heap.size:=by simp only [World.iterPos,hit2,hit];omega
   have hpos:=Lib.hid (And.intro hp hwd)
   have hkeep:=Lib.hid (And.intro hB2 (And.intro hit2 hmeas))
   have hfr:Hid (a0.size≤pos+(f+1)):=Lib.hid hI.out.2.2.2
   clear hW2 hB2 hit2 hmeas hwd hit hp
   obtain⟨o,ho⟩ : ∃ o,chars_Legal.ok (Utf8.decode a0 pos).1=o:=⟨_,rfl⟩
   have hok:=Lib.hid (chars_Legal.ok_eq (Utf8.decode a0 pos).1)
   rw [ho] at hok
   have ho':=Lib.hid ho
   clear ho
   cases o
   ·go_wp2_with (go_at_call 53;refine(chars_legal.calls 3 _ false _ hok.out).mono ?_;rintro e w9 ⟨rfl,⟨⟨nd,rfl⟩⟩⟩)
    go_ret
    have hr:=(hR.out false (hI.out.2.2.1.symm.trans (chars_Legal.g_bad a0 f pos hpos.out.1 ho'.out))).2 rfl
    subst hr
    exact⟨rfl,pw_below_drewN hkeep.out.1 _⟩
   ·go_wp2_with (go_at_call 53;refine(chars_legal.calls 3 _ true _ hok.out).mono ?_;rintro e w9 ⟨rfl,⟨⟨nd,rfl⟩⟩⟩)
    go_roundw
    case rel=>exact⟨pos+(Utf8.decode a0 pos).2,f,Lib.hid ⟨hkeep.out.2.1,pw_below_drewN hkeep.out.1 _,(chars_Legal.g_on a0 f pos hpos.out.1 ho'.out).symm.trans hI.out.2.2.1,by have:=hfr.out;have:=hpos.out.2;omega⟩⟩
    case measure=>exact hkeep.out.2.2
  ·have hnx:∀ ty,(Instr.next (.pointer (some ⟨w.heap.size,0,none⟩)) true ty).run Tryd.prog wr=_:=fun ty=>Lib.run_next_end_at wr w.heap.size a0 pos ty hI.out.1 hp
   have hv:=Lib.hid ((hR.out true (hI.out.2.2.1.symm.trans (chars_Legal.g_end a0 fuel pos hp))).1 rfl)
   go_wp2_with (go_at_call 54;refine(chars_Valid.calls _ r _ hv.out).mono ?_;rintro e w9 ⟨rfl,hb9⟩;have hb9':=Lib.hid hb9;clear hb9)
   go_ret
   exact⟨rfl,below_step hI.out.2.1 hb9'.out⟩
def xml_number.step (b n c:Int):Option Int:=if 48≤c∧c≤57 then some (wrap32 (wrap32 (wrap32 (n*b)+c)-48)) else if b=16∧97≤c∧c≤102 then some (wrap32 (wrap32 (wrap32 (wrap32 (n*b)+c)-97)+10)) else if b=16∧65≤c∧c≤70 then some (wrap32 (wrap32 (wrap32 (wrap32 (n*b)+c)-65)+10)) else none
def xml_number.g (s:ByteArray) (b:Int):Nat→Nat→Int→Option Int
  | 0,_,n=>some n
  | k+1,pos,n=>if pos<s.size then(xml_number.step b n ((Utf8.decode s pos).1:Int)).bind fun m=>xml_number.g s b k (pos+(Utf8.decode s pos).2) m else some n
def xml_number.fin (n:Int):Option (Int×Bool):=if n≤1114111 then(chars_Legal.f (Utf8.encode n)).bind fun l=>(if l=true then(if(Utf8.encode n).toList = [239,191,189] then some (n,n == 65533) else some (n,true)) else some (n,n == 65533)) else some (n,n == 65533)
def xml_number.r (s:ByteArray) (b:Int):Option (Int×Bool):=if s.size<1 then some (0,false) else if 7<s.size then some (0,false) else match xml_number.g s b s.size 0 0 with
  | none=>some (0,false)
  | some n=>xml_number.fin n
def xml_number.f (a0:ByteArray):Option (Int×Bool):=(strings_HasPrefix.f a0 ⟨#[120]⟩).bind fun p=>(if p=true then(if 1≤a0.size then xml_number.r (a0.extract 1 a0.size) 16 else none) else xml_number.r a0 10)
theorem xml_number.g_bad {s:ByteArray} {b:Int} {k pos:Nat} {n:Int} (h:pos<s.size) (hd:xml_number.step b n ((Utf8.decode s pos).1:Int)=none):xml_number.g s b (k+1) pos n=none:=by
 rw [xml_number.g,if_pos h,hd];rfl
theorem xml_number.g_on {s:ByteArray} {b:Int} {k pos:Nat} {n m:Int} (h:pos<s.size) (hd:xml_number.step b n ((Utf8.decode s pos).1:Int)=some m):xml_number.g s b (k+1) pos n=xml_number.g s b k (pos+(Utf8.decode s pos).2) m:=by
 rw [xml_number.g,if_pos h,hd];rfl
theorem xml_number.g_end {s:ByteArray} {b:Int} {k pos:Nat} {n:Int} (h:¬ pos<s.size):xml_number.g s b k pos n=some n:=by
 cases k with
 | zero=>rfl
 | succ k=>rw [xml_number.g,if_neg h]
theorem xml_number.calls (a0:ByteArray) (r1:Int) (r2:Bool) (w:World) (h:xml_number.f a0=some (r1,r2)) :
    Calls Tryd.prog 73 #[.string a0] w fun e w'=>e = .returned (.tuple #[.int .i32 r1,.bool r2])∧Below w.heap.size w w':=by
 unfold xml_number.f at h
 obtain⟨p,hp0,h⟩:=bndO h
 have hp:=Aside0.mk hp0
 clear hp0
 cases p with
 | true=>
  rw [if_pos rfl] at h
  rcases itO h with⟨g0,h⟩|⟨_,h⟩
  case inr=>exact absurd h (by simp)
  have q0:=eq_true (show(1:Int)≤(a0.size:Int) by omega)
  have q1:=eq_true g0
  have q2:=decide_eq_true (show(1:Int)≤(a0.size:Int) by omega)
  clear g0
  have hz:(a0.extract 1 a0.size).size=a0.size-1:=by rw [ByteArray.size_extract];omega
  unfold xml_number.r at h
  rcases itO h with⟨g1,h⟩|⟨g1,h⟩
  {
  have t1:=eq_true (show((a0.size-1:Nat):Int)<1 by omega)
  have t2:=decide_eq_true (show((a0.size-1:Nat):Int)<1 by omega)
  clear g1
  simp only [Option.some.injEq,Prod.mk.injEq] at h
  obtain⟨rfl,rfl⟩:=h
  go_enter Tryd.func73,Tryd.ntmps73
  go_wp2_with (first|(go_at_call 55;with_reducible refine(strings_HasPrefix.calls a0 (⟨#[120]⟩ : ByteArray) true _ hp.out).mono ?_;rintro e1 w1 ⟨rfl,⟨⟨nd,rfl⟩⟩⟩;have HB0:=Aside0.mk (pw_below_drewN (Below.refl w.heap.size w) nd)))
  go_quiet (fail)
  replace HB0:=Aside0.mk (pw_below_drewN (Below.refl w.heap.size w) (nd+nq))
  go_wp2_with (first|(go_at_call 55;with_reducible refine(strings_HasPrefix.calls a0 (⟨#[120]⟩ : ByteArray) true _ hp.out).mono ?_;rintro e1 w1 ⟨rfl,⟨⟨nd,rfl⟩⟩⟩;have HB0:=Aside0.mk (pw_below_drewN (Below.refl w.heap.size w) nd)))
  go_ret2
  exact⟨rfl,by first|exact HB0.out|exact pw_below_drewN HB0.out _⟩
  }
  have t1:=eq_false (show ¬ ((a0.size-1:Nat):Int)<1 by omega)
  have t2:=decide_eq_false (show ¬ ((a0.size-1:Nat):Int)<1 by omega)
  rcases itO h with⟨g2,h⟩|⟨g2,h⟩
  {
  have t3:=eq_true (show(7:Int)<((a0.size-1:Nat):Int) by omega)
  have t4:=decide_eq_true (show(7:Int)<((a0.size-1:Nat):Int) by omega)
  clear g1 g2
  simp only [Option.some.injEq,Prod.mk.injEq] at h
  obtain⟨rfl,rfl⟩:=h
  go_enter Tryd.func73,Tryd.ntmps73
  go_wp2_with (first|(go_at_call 55;with_reducible refine(strings_HasPrefix.calls a0 (⟨#[120]⟩ : ByteArray) true _ hp.out).mono ?_;rintro e1 w1 ⟨rfl,⟨⟨nd,rfl⟩⟩⟩;have HB0:=Aside0.mk (pw_below_drewN (Below.refl w.heap.size w) nd)))
  go_quiet (fail)
  replace HB0:=Aside0.mk (pw_below_drewN (Below.refl w.heap.size w) (nd+nq))
  go_wp2_with (first|(go_at_call 55;with_reducible refine(strings_HasPrefix.calls a0 (⟨#[120]⟩ : ByteArray) true _ hp.out).mono ?_;rintro e1 w1 ⟨rfl,⟨⟨nd,rfl⟩⟩⟩;have HB0:=Aside0.mk (pw_below_drewN (Below.refl w.heap.size w) nd)))
  go_ret2
  exact⟨rfl,by first|exact HB0.out|exact pw_below_drewN HB0.out _⟩
  }
  have t3:=eq_false (show ¬ (7:Int)<((a0.size-1:Nat):Int) by omega)
  have t4:=decide_eq_false (show ¬ (7:Int)<((a0.size-1:Nat):Int) by omega)
  clear g1 g2
  have hR:Hid ((xml_number.g (a0.extract 1 a0.size) 16 ((a0.extract 1 a0.size).size) 0 0=none→r1=0∧r2=false) ∧ ∀ n,xml_number.g (a0.extract 1 a0.size) 16 ((a0.extract 1 a0.size).size) 0 0=some n→xml_number.fin n=some (r1,r2)):=by
    refine Lib.hid ⟨fun hv=>?_,fun n hv=>?_⟩
    · rw [hv] at h;simp only [Option.some.injEq,Prod.mk.injEq] at h;exact⟨h.1.symm,h.2.symm⟩
    · rw [hv] at h;exact h
  clear h
  go_enter Tryd.func73,Tryd.ntmps73
  go_wp2_with (first|(go_at_call 55;with_reducible refine(strings_HasPrefix.calls a0 (⟨#[120]⟩ : ByteArray) true _ hp.out).mono ?_;rintro e1 w1 ⟨rfl,⟨⟨nd,rfl⟩⟩⟩;have HB0:=Aside0.mk (pw_below_drewN (Below.refl w.heap.size w) nd)))
  go_quiet (fail)
  replace HB0:=Aside0.mk (pw_below_drewN (Below.refl w.heap.size w) (nd+nq))
  go_wp2_with (first|(go_at_call 55;with_reducible refine(strings_HasPrefix.calls a0 (⟨#[120]⟩ : ByteArray) true _ hp.out).mono ?_;rintro e1 w1 ⟨rfl,⟨⟨nd,rfl⟩⟩⟩;have HB0:=Aside0.mk (pw_below_drewN (Below.refl w.heap.size w) nd)))
  obtain⟨s,hs_⟩ : ∃ s,a0.extract 1 a0.size=s:=⟨_,rfl⟩
  simp only [hs_] at hR ⊢
  go_loopw [5] (fun v5 wr=>∃ (pos fuel:Nat) (n:Int),v5 = .int .i32 n∧Hid (wr.heap[w.heap.size]? = some (.stringIter s pos)∧Below w.heap.size w wr∧xml_number.g s 16 fuel pos n=xml_number.g s 16 s.size 0 0∧s.size≤pos+fuel)) (fun _ wr=>s.size-wr.iterPos w.heap.size)
  case atStart=>
   exact⟨0,s.size,0,rfl,Lib.hid ⟨World.iter_heap _ s 0,HB0.out.alloc (Nat.le_refl _) _,rfl,by omega⟩⟩
  case round=>
   obtain⟨pos,fuel,n,rfl,hI⟩:=hrel
   by_cases hp_:pos<s.size
   {
   have hit:=hI.out.1
   have hnx:∀ ty,(Instr.next (.pointer (some ⟨w.heap.size,0,none⟩)) true ty).run Tryd.prog wr=_:=fun ty=>Lib.run_next_any_at wr w.heap.size s pos ty hit hp_
   have hwd:=chars_Count.width_pos s pos hp_
   have hB2:=Lib.below_iterAt hI.out.2.1 (k:=w.heap.size) (Nat.le_refl _) s (pos+(Utf8.decode s pos).2)
   have hit2:=Lib.iterAt_heap wr w.heap.size s pos (pos+(Utf8.decode s pos).2) hit
   obtain⟨W2,hW2⟩ : ∃ W2,wr.iterAt w.heap.size s (pos+(Utf8.decode s pos).2)=W2:=⟨_,rfl⟩
   rw [hW2] at hB2 hit2
   simp only [hW2] at hnx
   obtain⟨f,rfl⟩ : ∃ f,fuel=f+1:=⟨fuel-1,by have:=hI.out.2.2.2;omega⟩
   have hmeas:s.size-W2.iterPos w.heap.size<s.size-wr.iterPos w.heap.size:=by simp only [World.iterPos,hit2,hit];omega
   have hpos:=Lib.hid (And.intro hp_ hwd)
   have hkeep:=Lib.hid (And.intro hB2 (And.intro hit2 hmeas))
   have hfr:Hid (s.size≤pos+(f+1)):=Lib.hid hI.out.2.2.2
   clear hW2 hB2 hit2 hmeas hwd hit hp_
   obtain⟨c,hcc⟩ : ∃ c:Int,((Utf8.decode s pos).1:Int)=c:=⟨_,rfl⟩
   simp only [hcc] at hnx
   have hcs:(c<48)∨(48≤c∧c≤57)∨(58≤c∧c≤64)∨(65≤c∧c≤70)∨(71≤c∧c≤96)∨(97≤c∧c≤102)∨(103≤c):=by omega
   rcases hcs with hcs|hcs|hcs|hcs|hcs|hcs|hcs
   {
   have hst':=Lib.hid (show xml_number.step 16 n ((Utf8.decode s pos).1:Int)=none by rw [hcc,xml_number.step,if_neg (by omega),if_neg (by omega),if_neg (by omega)])
   have:=c;first|(have t_:=eq_true (show 48≤c by omega);have u_:=decide_eq_true (show 48≤c by omega))|(have t_:=eq_false (show ¬ (48≤c) by omega);have u_:=decide_eq_false (show ¬ (48≤c) by omega))
   have:=c;first|(have t_:=eq_true (show c≤57 by omega);have u_:=decide_eq_true (show c≤57 by omega))|(have t_:=eq_false (show ¬ (c≤57) by omega);have u_:=decide_eq_false (show ¬ (c≤57) by omega))
   have:=c;first|(have t_:=eq_true (show 97≤c by omega);have u_:=decide_eq_true (show 97≤c by omega))|(have t_:=eq_false (show ¬ (97≤c) by omega);have u_:=decide_eq_false (show ¬ (97≤c) by omega))
   have:=c;first|(have t_:=eq_true (show c≤102 by omega);have u_:=decide_eq_true (show c≤102 by omega))|(have t_:=eq_false (show ¬ (c≤102) by omega);have u_:=decide_eq_false (show ¬ (c≤102) by omega))
   have:=c;first|(have t_:=eq_true (show 65≤c by omega);have u_:=decide_eq_true (show 65≤c by omega))|(have t_:=eq_false (show ¬ (65≤c) by omega);have u_:=decide_eq_false (show ¬ (65≤c) by omega))
   have:=c;first|(have t_:=eq_true (show c≤70 by omega);have u_:=decide_eq_true (show c≤70 by omega))|(have t_:=eq_false (show ¬ (c≤70) by omega);have u_:=decide_eq_false (show ¬ (c≤70) by omega))
   clear hcs
   go_wp2
   go_ret2
   obtain⟨rfl,rfl⟩:=hR.out.1 (hI.out.2.2.1.symm.trans (xml_number.g_bad hpos.out.1 hst'.out))
   exact⟨rfl,hkeep.out.1⟩
   }
   {
   have hst':=Lib.hid (show xml_number.step 16 n ((Utf8.decode s pos).1:Int)=some (wrap32 (wrap32 (wrap32 (n*16)+c)-48)) by rw [hcc,xml_number.step,if_pos (by omega)])
   have:=c;first|(have t_:=eq_true (show 48≤c by omega);have u_:=decide_eq_true (show 48≤c by omega))|(have t_:=eq_false (show ¬ (48≤c) by omega);have u_:=decide_eq_false (show ¬ (48≤c) by omega))
   have:=c;first|(have t_:=eq_true (show c≤57 by omega);have u_:=decide_eq_true (show c≤57 by omega))|(have t_:=eq_false (show ¬ (c≤57) by omega);have u_:=decide_eq_false (show ¬ (c≤57) by omega))
   have:=c;first|(have t_:=eq_true (show 97≤c by omega);have u_:=decide_eq_true (show 97≤c by omega))|(have t_:=eq_false (show ¬ (97≤c) by omega);have u_:=decide_eq_false (show ¬ (97≤c) by omega))
   have:=c;first|(have t_:=eq_true (show c≤102 by omega);have u_:=decide_eq_true (show c≤102 by omega))|(have t_:=eq_false (show ¬ (c≤102) by omega);have u_:=decide_eq_false (show ¬ (c≤102) by omega))
   have:=c;first|(have t_:=eq_true (show 65≤c by omega);have u_:=decide_eq_true (show 65≤c by omega))|(have t_:=eq_false (show ¬ (65≤c) by omega);have u_:=decide_eq_false (show ¬ (65≤c) by omega))
   have:=c;first|(have t_:=eq_true (show c≤70 by omega);have u_:=decide_eq_true (show c≤70 by omega))|(have t_:=eq_false (show ¬ (c≤70) by omega);have u_:=decide_eq_false (show ¬ (c≤70) by omega))
   clear hcs
   go_wp2
   go_roundw
   case rel=>exact⟨pos+(Utf8.decode s pos).2,f,_,rfl,Lib.hid ⟨hkeep.out.2.1,hkeep.out.1,(xml_number.g_on hpos.out.1 (by first|exact hst'.out|simpa only [i32_w] using hst'.out)).symm.trans hI.out.2.2.1,by have:=hfr.out;have:=hpos.out.2;omega⟩⟩
   case measure=>exact hkeep.out.2.2
   }
   {
   have hst':=Lib.hid (show xml_number.step 16 n ((Utf8.decode s pos).1:Int)=none by rw [hcc,xml_number.step,if_neg (by omega),if_neg (by omega),if_neg (by omega)])
   have:=c;first|(have t_:=eq_true (show 48≤c by omega);have u_:=decide_eq_true (show 48≤c by omega))|(have t_:=eq_false (show ¬ (48≤c) by omega);have u_:=decide_eq_false (show ¬ (48≤c) by omega))
   have:=c;first|(have t_:=eq_true (show c≤57 by omega);have u_:=decide_eq_true (show c≤57 by omega))|(have t_:=eq_false (show ¬ (c≤57) by omega);have u_:=decide_eq_false (show ¬ (c≤57) by omega))
   have:=c;first|(have t_:=eq_true (show 97≤c by omega);have u_:=decide_eq_true (show 97≤c by omega))|(have t_:=eq_false (show ¬ (97≤c) by omega);have u_:=decide_eq_false (show ¬ (97≤c) by omega))
   have:=c;first|(have t_:=eq_true (show c≤102 by omega);have u_:=decide_eq_true (show c≤102 by omega))|(have t_:=eq_false (show ¬ (c≤102) by omega);have u_:=decide_eq_false (show ¬ (c≤102) by omega))
   have:=c;first|(have t_:=eq_true (show 65≤c by omega);have u_:=decide_eq_true (show 65≤c by omega))|(have t_:=eq_false (show ¬ (65≤c) by omega);have u_:=decide_eq_false (show ¬ (65≤c) by omega))
   have:=c;first|(have t_:=eq_true (show c≤70 by omega);have u_:=decide_eq_true (show c≤70 by omega))|(have t_:=eq_false (show ¬ (c≤70) by omega);have u_:=decide_eq_false (show ¬ (c≤70) by omega))
   clear hcs
   go_wp2
   go_ret2
   obtain⟨rfl,rfl⟩:=hR.out.1 (hI.out.2.2.1.symm.trans (xml_number.g_bad hpos.out.1 hst'.out))
   exact⟨rfl,hkeep.out.1⟩
   }
   {
   have hst':=Lib.hid (show xml_number.step 16 n ((Utf8.decode s pos).1:Int)=some (wrap32 (wrap32 (wrap32 (wrap32 (n*16)+c)-65)+10)) by rw [hcc,xml_number.step,if_neg (by omega),if_neg (by omega),if_pos (by omega)])
   have:=c;first|(have t_:=eq_true (show 48≤c by omega);have u_:=decide_eq_true (show 48≤c by omega))|(have t_:=eq_false (show ¬ (48≤c) by omega);have u_:=decide_eq_false (show ¬ (48≤c) by omega))
   have:=c;first|(have t_:=eq_true (show c≤57 by omega);have u_:=decide_eq_true (show c≤57 by omega))|(have t_:=eq_false (show ¬ (c≤57) by omega);have u_:=decide_eq_false (show ¬ (c≤57) by omega))
   have:=c;first|(have t_:=eq_true (show 97≤c by omega);have u_:=decide_eq_true (show 97≤c by omega))|(have t_:=eq_false (show ¬ (97≤c) by omega);have u_:=decide_eq_false (show ¬ (97≤c) by omega))
   have:=c;first|(have t_:=eq_true (show c≤102 by omega);have u_:=decide_eq_true (show c≤102 by omega))|(have t_:=eq_false (show ¬ (c≤102) by omega);have u_:=decide_eq_false (show ¬ (c≤102) by omega))
   have:=c;first|(have t_:=eq_true (show 65≤c by omega);have u_:=decide_eq_true (show 65≤c by omega))|(have t_:=eq_false (show ¬ (65≤c) by omega);have u_:=decide_eq_false (show ¬ (65≤c) by omega))
   have:=c;first|(have t_:=eq_true (show c≤70 by omega);have u_:=decide_eq_true (show c≤70 by omega))|(have t_:=eq_false (show ¬ (c≤70) by omega);have u_:=decide_eq_false (show ¬ (c≤70) by omega))
   clear hcs
   go_wp2
   go_roundw
   case rel=>exact⟨pos+(Utf8.decode s pos).2,f,_,rfl,Lib.hid ⟨hkeep.out.2.1,hkeep.out.1,(xml_number.g_on hpos.out.1 (by first|exact hst'.out|simpa only [i32_w] using hst'.out)).symm.trans hI.out.2.2.1,by have:=hfr.out;have:=hpos.out.2;omega⟩⟩
   case measure=>exact hkeep.out.2.2
   }
   {
   have hst':=Lib.hid (show xml_number.step 16 n ((Utf8.decode s pos).1:Int)=none by rw [hcc,xml_number.step,if_neg (by omega),if_neg (by omega),if_neg (by omega)])
   have:=c;first|(have t_:=eq_true (show 48≤c by omega);have u_:=decide_eq_true (show 48≤c by omega))|(have t_:=eq_false (show ¬ (48≤c) by omega);have u_:=decide_eq_false (show ¬ (48≤c) by omega))
   have:=c;first|(have t_:=eq_true (show c≤57 by omega);have u_:=decide_eq_true (show c≤57 by omega))|(have t_:=eq_false (show ¬ (c≤57) by omega);have u_:=decide_eq_false (show ¬ (c≤57) by omega))
   have:=c;first|(have t_:=eq_true (show 97≤c by omega);have u_:=decide_eq_true (show 97≤c by omega))|(have t_:=eq_false (show ¬ (97≤c) by omega);have u_:=decide_eq_false (show ¬ (97≤c) by omega))
   have:=c;first|(have t_:=eq_true (show c≤102 by omega);have u_:=decide_eq_true (show c≤102 by omega))|(have t_:=eq_false (show ¬ (c≤102) by omega);have u_:=decide_eq_false (show ¬ (c≤102) by omega))
   have:=c;first|(have t_:=eq_true (show 65≤c by omega);have u_:=decide_eq_true (show 65≤c by omega))|(have t_:=eq_false (show ¬ (65≤c) by omega);have u_:=decide_eq_false (show ¬ (65≤c) by omega))
   have:=c;first|(have t_:=eq_true (show c≤70 by omega);have u_:=decide_eq_true (show c≤70 by omega))|(have t_:=eq_false (show ¬ (c≤70) by omega);have u_:=decide_eq_false (show ¬ (c≤70) by omega))
   clear hcs
   go_wp2
   go_ret2
   obtain⟨rfl,rfl⟩:=hR.out.1 (hI.out.2.2.1.symm.trans (xml_number.g_bad hpos.out.1 hst'.out))
   exact⟨rfl,hkeep.out.1⟩
   }
   {
   have hst':=Lib.hid (show xml_number.step 16 n ((Utf8.decode s pos).1:Int)=some (wrap32 (wrap32 (wrap32 (wrap32 (n*16)+c)-97)+10)) by rw [hcc,xml_number.step,if_neg (by omega),if_pos (by omega)])
   have:=c;first|(have t_:=eq_true (show 48≤c by omega);have u_:=decide_eq_true (show 48≤c by omega))|(have t_:=eq_false (show ¬ (48≤c) by omega);have u_:=decide_eq_false (show ¬ (48≤c) by omega))
   have:=c;first|(have t_:=eq_true (show c≤57 by omega);have u_:=decide_eq_true (show c≤57 by omega))|(have t_:=eq_false (show ¬ (c≤57) by omega);have u_:=decide_eq_false (show ¬ (c≤57) by omega))
   have:=c;first|(have t_:=eq_true (show 97≤c by omega);have u_:=decide_eq_true (show 97≤c by omega))|(have t_:=eq_false (show ¬ (97≤c) by omega);have u_:=decide_eq_false (show ¬ (97≤c) by omega))
   have:=c;first|(have t_:=eq_true (show c≤102 by omega);have u_:=decide_eq_true (show c≤102 by omega))|(have t_:=eq_false (show ¬ (c≤102) by omega);have u_:=decide_eq_false (show ¬ (c≤102) by omega))
   have:=c;first|(have t_:=eq_true (show 65≤c by omega);have u_:=decide_eq_true (show 65≤c by omega))|(have t_:=eq_false (show ¬ (65≤c) by omega);have u_:=decide_eq_false (show ¬ (65≤c) by omega))
   have:=c;first|(have t_:=eq_true (show c≤70 by omega);have u_:=decide_eq_true (show c≤70 by omega))|(have t_:=eq_false (show ¬ (c≤70) by omega);have u_:=decide_eq_false (show ¬ (c≤70) by omega))
   clear hcs
   go_wp2
   go_roundw
   case rel=>exact⟨pos+(Utf8.decode s pos).2,f,_,rfl,Lib.hid ⟨hkeep.out.2.1,hkeep.out.1,(xml_number.g_on hpos.out.1 (by first|exact hst'.out|simpa only [i32_w] using hst'.out)).symm.trans hI.out.2.2.1,by have:=hfr.out;have:=hpos.out.2;omega⟩⟩
   case measure=>exact hkeep.out.2.2
   }
   {
   have hst':=Lib.hid (show xml_number.step 16 n ((Utf8.decode s pos).1:Int)=none by rw [hcc,xml_number.step,if_neg (by omega),if_neg (by omega),if_neg (by omega)])
   have:=c;first|(have t_:=eq_true (show 48≤c by omega);have u_:=decide_eq_true (show 48≤c by omega))|(have t_:=eq_false (show ¬ (48≤c) by omega);have u_:=decide_eq_false (show ¬ (48≤c) by omega))
   have:=c;first|(have t_:=eq_true (show c≤57 by omega);have u_:=decide_eq_true (show c≤57 by omega))|(have t_:=eq_false (show ¬ (c≤57) by omega);have u_:=decide_eq_false (show ¬ (c≤57) by omega))
   have:=c;first|(have t_:=eq_true (show 97≤c by omega);have u_:=decide_eq_true (show 97≤c by omega))|(have t_:=eq_false (show ¬ (97≤c) by omega);have u_:=decide_eq_false (show ¬ (97≤c) by omega))
   have:=c;first|(have t_:=eq_true (show c≤102 by omega);have u_:=decide_eq_true (show c≤102 by omega))|(have t_:=eq_false (show ¬ (c≤102) by omega);have u_:=decide_eq_false (show ¬ (c≤102) by omega))
   have:=c;first|(have t_:=eq_true (show 65≤c by omega);have u_:=decide_eq_true (show 65≤c by omega))|(have t_:=eq_false (show ¬ (65≤c) by omega);have u_:=decide_eq_false (show ¬ (65≤c) by omega))
   have:=c;first|(have t_:=eq_true (show c≤70 by omega);have u_:=decide_eq_true (show c≤70 by omega))|(have t_:=eq_false (show ¬ (c≤70) by omega);have u_:=decide_eq_false (show ¬ (c≤70) by omega))
   clear hcs
   go_wp2
   go_ret2
   obtain⟨rfl,rfl⟩:=hR.out.1 (hI.out.2.2.1.symm.trans (xml_number.g_bad hpos.out.1 hst'.out))
   exact⟨rfl,hkeep.out.1⟩
   }
   }
   {
   have hnx:∀ ty,(Instr.next (.pointer (some ⟨w.heap.size,0,none⟩)) true ty).run Tryd.prog wr=_:=fun ty=>Lib.run_next_end_at wr w.heap.size s pos ty hI.out.1 hp_
   have hF:=hR.out.2 n (hI.out.2.2.1.symm.trans (xml_number.g_end hp_))
   have hB2:=Lib.hid hI.out.2.1
   clear hp_ hI hR
   unfold xml_number.fin at hF
   rcases itO hF with⟨g3,hF⟩|⟨g3,hF⟩
   {
   have t5:=eq_true g3
   have t6:=decide_eq_true g3
   clear g3
   obtain⟨l,hl0,hF⟩:=bndO hF
   have hl:=Aside0.mk hl0
   clear hl0
   cases l with
   | false=>
    rw [if_neg Bool.false_ne_true] at hF
    simp only [Option.some.injEq,Prod.mk.injEq] at hF
    obtain⟨rfl,rfl⟩:=hF
    go_wp2_with (go_at_call 27;with_reducible refine(chars_Legal.calls (Utf8.encode n) false _ hl.out).mono ?_;rintro e9 w9 ⟨rfl,hb9⟩;have HB9:=Aside0.mk (below_step hB2.out hb9);clear hb9)
    go_ret2
    exact⟨rfl,HB9.out⟩
   | true=>
    rw [if_pos rfl] at hF
    rcases itO hF with⟨g4,hF⟩|⟨g4,hF⟩
    {
    have t7:((Utf8.encode n).toList != ([239,191,189]:List UInt8))=false:=bne_eq_false_iff_eq.mpr g4
    have t8:=eq_true g4
    have t9:((Utf8.encode n).toList == ([239,191,189]:List UInt8))=true:=beq_iff_eq.mpr g4
    clear g4
    simp only [Option.some.injEq,Prod.mk.injEq] at hF
    obtain⟨rfl,rfl⟩:=hF
    go_wp2_with (go_at_call 27;with_reducible refine(chars_Legal.calls (Utf8.encode n) true _ hl.out).mono ?_;rintro e9 w9 ⟨rfl,hb9⟩;have HB9:=Aside0.mk (below_step hB2.out hb9);clear hb9)
    go_ret2
    exact⟨rfl,HB9.out⟩
    }
    {
    have t7:((Utf8.encode n).toList != ([239,191,189]:List UInt8))=true:=bne_iff_ne.mpr g4
    have t8:=eq_false g4
    clear g4
    simp only [Option.some.injEq,Prod.mk.injEq] at hF
    obtain⟨rfl,rfl⟩:=hF
    go_wp2_with (go_at_call 27;with_reducible refine(chars_Legal.calls (Utf8.encode n) true _ hl.out).mono ?_;rintro e9 w9 ⟨rfl,hb9⟩;have HB9:=Aside0.mk (below_step hB2.out hb9);clear hb9)
    go_ret2
    exact⟨rfl,HB9.out⟩
    }
   }
   {
   have t5:=eq_false g3
   have t6:=decide_eq_false g3
   clear g3
   simp only [Option.some.injEq,Prod.mk.injEq] at hF
   obtain⟨rfl,rfl⟩:=hF
   go_wp2
   go_ret2
   exact⟨rfl,hB2.out⟩
   }
   }
 | false=>
  rw [if_neg Bool.false_ne_true] at h
  unfold xml_number.r at h
  rcases itO h with⟨g1,h⟩|⟨g1,h⟩
  {
  have t1:=eq_true (show(((a0).size:Nat):Int)<1 by omega)
  have t2:=decide_eq_true (show(((a0).size:Nat):Int)<1 by omega)
  clear g1
  simp only [Option.some.injEq,Prod.mk.injEq] at h
  obtain⟨rfl,rfl⟩:=h
  go_enter Tryd.func73,Tryd.ntmps73
  go_wp2_with (first|(go_at_call 55;with_reducible refine(strings_HasPrefix.calls a0 (⟨#[120]⟩ : ByteArray) false _ hp.out).mono ?_;rintro e1 w1 ⟨rfl,⟨⟨nd,rfl⟩⟩⟩;have HB0:=Aside0.mk (pw_below_drewN (Below.refl w.heap.size w) nd)))
  go_ret2
  exact⟨rfl,by first|exact HB0.out|exact pw_below_drewN HB0.out _⟩
  }
  have t1:=eq_false (show ¬ (((a0).size:Nat):Int)<1 by omega)
  have t2:=decide_eq_false (show ¬ (((a0).size:Nat):Int)<1 by omega)
  rcases itO h with⟨g2,h⟩|⟨g2,h⟩
  {
  have t3:=eq_true (show(7:Int)<(((a0).size:Nat):Int) by omega)
  have t4:=decide_eq_true (show(7:Int)<(((a0).size:Nat):Int) by omega)
  clear g1 g2
  simp only [Option.some.injEq,Prod.mk.injEq] at h
  obtain⟨rfl,rfl⟩:=h
  go_enter Tryd.func73,Tryd.ntmps73
  go_wp2_with (first|(go_at_call 55;with_reducible refine(strings_HasPrefix.calls a0 (⟨#[120]⟩ : ByteArray) false _ hp.out).mono ?_;rintro e1 w1 ⟨rfl,⟨⟨nd,rfl⟩⟩⟩;have HB0:=Aside0.mk (pw_below_drewN (Below.refl w.heap.size w) nd)))
  go_ret2
  exact⟨rfl,by first|exact HB0.out|exact pw_below_drewN HB0.out _⟩
  }
  have t3:=eq_false (show ¬ (7:Int)<(((a0).size:Nat):Int) by omega)
  have t4:=decide_eq_false (show ¬ (7:Int)<(((a0).size:Nat):Int) by omega)
  clear g1 g2
  have hR:Hid ((xml_number.g (a0) 10 ((a0).size) 0 0=none→r1=0∧r2=false) ∧ ∀ n,xml_number.g (a0) 10 ((a0).size) 0 0=some n→xml_number.fin n=some (r1,r2)):=by
    refine Lib.hid ⟨fun hv=>?_,fun n hv=>?_⟩
    · rw [hv] at h;simp only [Option.some.injEq,Prod.mk.injEq] at h;exact⟨h.1.symm,h.2.symm⟩
    · rw [hv] at h;exact h
  clear h
  go_enter Tryd.func73,Tryd.ntmps73
  go_wp2_with (first|(go_at_call 55;with_reducible refine(strings_HasPrefix.calls a0 (⟨#[120]⟩ : ByteArray) false _ hp.out).mono ?_;rintro e1 w1 ⟨rfl,⟨⟨nd,rfl⟩⟩⟩;have HB0:=Aside0.mk (pw_below_drewN (Below.refl w.heap.size w) nd)))
  go_loopw [5] (fun v5 wr=>∃ (pos fuel:Nat) (n:Int),v5 = .int .i32 n∧Hid (wr.heap[w.heap.size]? = some (.stringIter a0 pos)∧Below w.heap.size w wr∧xml_number.g a0 10 fuel pos n=xml_number.g a0 10 a0.size 0 0∧a0.size≤pos+fuel)) (fun _ wr=>a0.size-wr.iterPos w.heap.size)
  case atStart=>
   exact⟨0,a0.size,0,rfl,Lib.hid ⟨World.iter_heap _ a0 0,HB0.out.alloc (Nat.le_refl _) _,rfl,by omega⟩⟩
  case round=>
   obtain⟨pos,fuel,n,rfl,hI⟩:=hrel
   by_cases hp_:pos<a0.size
   {
   have hit:=hI.out.1
   have hnx:∀ ty,(Instr.next (.pointer (some ⟨w.heap.size,0,none⟩)) true ty).run Tryd.prog wr=_:=fun ty=>Lib.run_next_any_at wr w.heap.size a0 pos ty hit hp_
   have hwd:=chars_Count.width_pos a0 pos hp_
   have hB2:=Lib.below_iterAt hI.out.2.1 (k:=w.heap.size) (Nat.le_refl _) a0 (pos+(Utf8.decode a0 pos).2)
   have hit2:=Lib.iterAt_heap wr w.heap.size a0 pos (pos+(Utf8.decode a0 pos).2) hit
   obtain⟨W2,hW2⟩ : ∃ W2,wr.iterAt w.heap.size a0 (pos+(Utf8.decode a0 pos).2)=W2:=⟨_,rfl⟩
   rw [hW2] at hB2 hit2
   simp only [hW2] at hnx
   obtain⟨f,rfl⟩ : ∃ f,fuel=f+1:=⟨fuel-1,by have:=hI.out.2.2.2;omega⟩
   have hmeas:a0.size-W2.iterPos w.heap.size<a0.size-wr.iterPos w.heap.size:=by simp only [World.iterPos,hit2,hit];omega
   have hpos:=Lib.hid (And.intro hp_ hwd)
   have hkeep:=Lib.hid (And.intro hB2 (And.intro hit2 hmeas))
   have hfr:Hid (a0.size≤pos+(f+1)):=Lib.hid hI.out.2.2.2
   clear hW2 hB2 hit2 hmeas hwd hit hp_
   obtain⟨c,hcc⟩ : ∃ c:Int,((Utf8.decode a0 pos).1:Int)=c:=⟨_,rfl⟩
   simp only [hcc] at hnx
   have hcs:(c<48)∨(48≤c∧c≤57)∨(58≤c∧c≤64)∨(65≤c∧c≤70)∨(71≤c∧c≤96)∨(97≤c∧c≤102)∨(103≤c):=by omega
   rcases hcs with hcs|hcs|hcs|hcs|hcs|hcs|hcs
   {
   have hst':=Lib.hid (show xml_number.step 10 n ((Utf8.decode a0 pos).1:Int)=none by rw [hcc,xml_number.step,if_neg (by omega),if_neg (by omega),if_neg (by omega)])
   have:=c;first|(have t_:=eq_true (show 48≤c by omega);have u_:=decide_eq_true (show 48≤c by omega))|(have t_:=eq_false (show ¬ (48≤c) by omega);have u_:=decide_eq_false (show ¬ (48≤c) by omega))
   have:=c;first|(have t_:=eq_true (show c≤57 by omega);have u_:=decide_eq_true (show c≤57 by omega))|(have t_:=eq_false (show ¬ (c≤57) by omega);have u_:=decide_eq_false (show ¬ (c≤57) by omega))
   have:=c;first|(have t_:=eq_true (show 97≤c by omega);have u_:=decide_eq_true (show 97≤c by omega))|(have t_:=eq_false (show ¬ (97≤c) by omega);have u_:=decide_eq_false (show ¬ (97≤c) by omega))
   have:=c;first|(have t_:=eq_true (show c≤102 by omega);have u_:=decide_eq_true (show c≤102 by omega))|(have t_:=eq_false (show ¬ (c≤102) by omega);have u_:=decide_eq_false (show ¬ (c≤102) by omega))
   have:=c;first|(have t_:=eq_true (show 65≤c by omega);have u_:=decide_eq_true (show 65≤c by omega))|(have t_:=eq_false (show ¬ (65≤c) by omega);have u_:=decide_eq_false (show ¬ (65≤c) by omega))
   have:=c;first|(have t_:=eq_true (show c≤70 by omega);have u_:=decide_eq_true (show c≤70 by omega))|(have t_:=eq_false (show ¬ (c≤70) by omega);have u_:=decide_eq_false (show ¬ (c≤70) by omega))
   clear hcs
   go_wp2
   go_ret2
   obtain⟨rfl,rfl⟩:=hR.out.1 (hI.out.2.2.1.symm.trans (xml_number.g_bad hpos.out.1 hst'.out))
   exact⟨rfl,hkeep.out.1⟩
   }
   {
   have hst':=Lib.hid (show xml_number.step 10 n ((Utf8.decode a0 pos).1:Int)=some (wrap32 (wrap32 (wrap32 (n*10)+c)-48)) by rw [hcc,xml_number.step,if_pos (by omega)])
   have:=c;first|(have t_:=eq_true (show 48≤c by omega);have u_:=decide_eq_true (show 48≤c by omega))|(have t_:=eq_false (show ¬ (48≤c) by omega);have u_:=decide_eq_false (show ¬ (48≤c) by omega))
   have:=c;first|(have t_:=eq_true (show c≤57 by omega);have u_:=decide_eq_true (show c≤57 by omega))|(have t_:=eq_false (show ¬ (c≤57) by omega);have u_:=decide_eq_false (show ¬ (c≤57) by omega))
   have:=c;first|(have t_:=eq_true (show 97≤c by omega);have u_:=decide_eq_true (show 97≤c by omega))|(have t_:=eq_false (show ¬ (97≤c) by omega);have u_:=decide_eq_false (show ¬ (97≤c) by omega))
   have:=c;first|(have t_:=eq_true (show c≤102 by omega);have u_:=decide_eq_true (show c≤102 by omega))|(have t_:=eq_false (show ¬ (c≤102) by omega);have u_:=decide_eq_false (show ¬ (c≤102) by omega))
   have:=c;first|(have t_:=eq_true (show 65≤c by omega);have u_:=decide_eq_true (show 65≤c by omega))|(have t_:=eq_false (show ¬ (65≤c) by omega);have u_:=decide_eq_false (show ¬ (65≤c) by omega))
   have:=c;first|(have t_:=eq_true (show c≤70 by omega);have u_:=decide_eq_true (show c≤70 by omega))|(have t_:=eq_false (show ¬ (c≤70) by omega);have u_:=decide_eq_false (show ¬ (c≤70) by omega))
   clear hcs
   go_wp2
   go_roundw
   case rel=>exact⟨pos+(Utf8.decode a0 pos).2,f,_,rfl,Lib.hid ⟨hkeep.out.2.1,hkeep.out.1,(xml_number.g_on hpos.out.1 (by first|exact hst'.out|simpa only [i32_w] using hst'.out)).symm.trans hI.out.2.2.1,by have:=hfr.out;have:=hpos.out.2;omega⟩⟩
   case measure=>exact hkeep.out.2.2
   }
   {
   have hst':=Lib.hid (show xml_number.step 10 n ((Utf8.decode a0 pos).1:Int)=none by rw [hcc,xml_number.step,if_neg (by omega),if_neg (by omega),if_neg (by omega)])
   have:=c;first|(have t_:=eq_true (show 48≤c by omega);have u_:=decide_eq_true (show 48≤c by omega))|(have t_:=eq_false (show ¬ (48≤c) by omega);have u_:=decide_eq_false (show ¬ (48≤c) by omega))
   have:=c;first|(have t_:=eq_true (show c≤57 by omega);have u_:=decide_eq_true (show c≤57 by omega))|(have t_:=eq_false (show ¬ (c≤57) by omega);have u_:=decide_eq_false (show ¬ (c≤57) by omega))
   have:=c;first|(have t_:=eq_true (show 97≤c by omega);have u_:=decide_eq_true (show 97≤c by omega))|(have t_:=eq_false (show ¬ (97≤c) by omega);have u_:=decide_eq_false (show ¬ (97≤c) by omega))
   have:=c;first|(have t_:=eq_true (show c≤102 by omega);have u_:=decide_eq_true (show c≤102 by omega))|(have t_:=eq_false (show ¬ (c≤102) by omega);have u_:=decide_eq_false (show ¬ (c≤102) by omega))
   have:=c;first|(have t_:=eq_true (show 65≤c by omega);have u_:=decide_eq_true (show 65≤c by omega))|(have t_:=eq_false (show ¬ (65≤c) by omega);have u_:=decide_eq_false (show ¬ (65≤c) by omega))
   have:=c;first|(have t_:=eq_true (show c≤70 by omega);have u_:=decide_eq_true (show c≤70 by omega))|(have t_:=eq_false (show ¬ (c≤70) by omega);have u_:=decide_eq_false (show ¬ (c≤70) by omega))
   clear hcs
   go_wp2
   go_ret2
   obtain⟨rfl,rfl⟩:=hR.out.1 (hI.out.2.2.1.symm.trans (xml_number.g_bad hpos.out.1 hst'.out))
   exact⟨rfl,hkeep.out.1⟩
   }
   {
   have hst':=Lib.hid (show xml_number.step 10 n ((Utf8.decode a0 pos).1:Int)=none by rw [hcc,xml_number.step,if_neg (by omega),if_neg (by omega),if_neg (by omega)])
   have:=c;first|(have t_:=eq_true (show 48≤c by omega);have u_:=decide_eq_true (show 48≤c by omega))|(have t_:=eq_false (show ¬ (48≤c) by omega);have u_:=decide_eq_false (show ¬ (48≤c) by omega))
   have:=c;first|(have t_:=eq_true (show c≤57 by omega);have u_:=decide_eq_true (show c≤57 by omega))|(have t_:=eq_false (show ¬ (c≤57) by omega);have u_:=decide_eq_false (show ¬ (c≤57) by omega))
   have:=c;first|(have t_:=eq_true (show 97≤c by omega);have u_:=decide_eq_true (show 97≤c by omega))|(have t_:=eq_false (show ¬ (97≤c) by omega);have u_:=decide_eq_false (show ¬ (97≤c) by omega))
   have:=c;first|(have t_:=eq_true (show c≤102 by omega);have u_:=decide_eq_true (show c≤102 by omega))|(have t_:=eq_false (show ¬ (c≤102) by omega);have u_:=decide_eq_false (show ¬ (c≤102) by omega))
   have:=c;first|(have t_:=eq_true (show 65≤c by omega);have u_:=decide_eq_true (show 65≤c by omega))|(have t_:=eq_false (show ¬ (65≤c) by omega);have u_:=decide_eq_false (show ¬ (65≤c) by omega))
   have:=c;first|(have t_:=eq_true (show c≤70 by omega);have u_:=decide_eq_true (show c≤70 by omega))|(have t_:=eq_false (show ¬ (c≤70) by omega);have u_:=decide_eq_false (show ¬ (c≤70) by omega))
   clear hcs
   go_wp2
   go_ret2
   obtain⟨rfl,rfl⟩:=hR.out.1 (hI.out.2.2.1.symm.trans (xml_number.g_bad hpos.out.1 hst'.out))
   exact⟨rfl,hkeep.out.1⟩
   }
   {
   have hst':=Lib.hid (show xml_number.step 10 n ((Utf8.decode a0 pos).1:Int)=none by rw [hcc,xml_number.step,if_neg (by omega),if_neg (by omega),if_neg (by omega)])
   have:=c;first|(have t_:=eq_true (show 48≤c by omega);have u_:=decide_eq_true (show 48≤c by omega))|(have t_:=eq_false (show ¬ (48≤c) by omega);have u_:=decide_eq_false (show ¬ (48≤c) by omega))
   have:=c;first|(have t_:=eq_true (show c≤57 by omega);have u_:=decide_eq_true (show c≤57 by omega))|(have t_:=eq_false (show ¬ (c≤57) by omega);have u_:=decide_eq_false (show ¬ (c≤57) by omega))
   have:=c;first|(have t_:=eq_true (show 97≤c by omega);have u_:=decide_eq_true (show 97≤c by omega))|(have t_:=eq_false (show ¬ (97≤c) by omega);have u_:=decide_eq_false (show ¬ (97≤c) by omega))
   have:=c;first|(have t_:=eq_true (show c≤102 by omega);have u_:=decide_eq_true (show c≤102 by omega))|(have t_:=eq_false (show ¬ (c≤102) by omega);have u_:=decide_eq_false (show ¬ (c≤102) by omega))
   have:=c;first|(have t_:=eq_true (show 65≤c by omega);have u_:=decide_eq_true (show 65≤c by omega))|(have t_:=eq_false (show ¬ (65≤c) by omega);have u_:=decide_eq_false (show ¬ (65≤c) by omega))
   have:=c;first|(have t_:=eq_true (show c≤70 by omega);have u_:=decide_eq_true (show c≤70 by omega))|(have t_:=eq_false (show ¬ (c≤70) by omega);have u_:=decide_eq_false (show ¬ (c≤70) by omega))
   clear hcs
   go_wp2
   go_ret2
   obtain⟨rfl,rfl⟩:=hR.out.1 (hI.out.2.2.1.symm.trans (xml_number.g_bad hpos.out.1 hst'.out))
   exact⟨rfl,hkeep.out.1⟩
   }
   {
   have hst':=Lib.hid (show xml_number.step 10 n ((Utf8.decode a0 pos).1:Int)=none by rw [hcc,xml_number.step,if_neg (by omega),if_neg (by omega),if_neg (by omega)])
   have:=c;first|(have t_:=eq_true (show 48≤c by omega);have u_:=decide_eq_true (show 48≤c by omega))|(have t_:=eq_false (show ¬ (48≤c) by omega);have u_:=decide_eq_false (show ¬ (48≤c) by omega))
   have:=c;first|(have t_:=eq_true (show c≤57 by omega);have u_:=decide_eq_true (show c≤57 by omega))|(have t_:=eq_false (show ¬ (c≤57) by omega);have u_:=decide_eq_false (show ¬ (c≤57) by omega))
   have:=c;first|(have t_:=eq_true (show 97≤c by omega);have u_:=decide_eq_true (show 97≤c by omega))|(have t_:=eq_false (show ¬ (97≤c) by omega);have u_:=decide_eq_false (show ¬ (97≤c) by omega))
   have:=c;first|(have t_:=eq_true (show c≤102 by omega);have u_:=decide_eq_true (show c≤102 by omega))|(have t_:=eq_false (show ¬ (c≤102) by omega);have u_:=decide_eq_false (show ¬ (c≤102) by omega))
   have:=c;first|(have t_:=eq_true (show 65≤c by omega);have u_:=decide_eq_true (show 65≤c by omega))|(have t_:=eq_false (show ¬ (65≤c) by omega);have u_:=decide_eq_false (show ¬ (65≤c) by omega))
   have:=c;first|(have t_:=eq_true (show c≤70 by omega);have u_:=decide_eq_true (show c≤70 by omega))|(have t_:=eq_false (show ¬ (c≤70) by omega);have u_:=decide_eq_false (show ¬ (c≤70) by omega))
   clear hcs
   go_wp2
   go_ret2
   obtain⟨rfl,rfl⟩:=hR.out.1 (hI.out.2.2.1.symm.trans (xml_number.g_bad hpos.out.1 hst'.out))
   exact⟨rfl,hkeep.out.1⟩
   }
   {
   have hst':=Lib.hid (show xml_number.step 10 n ((Utf8.decode a0 pos).1:Int)=none by rw [hcc,xml_number.step,if_neg (by omega),if_neg (by omega),if_neg (by omega)])
   have:=c;first|(have t_:=eq_true (show 48≤c by omega);have u_:=decide_eq_true (show 48≤c by omega))|(have t_:=eq_false (show ¬ (48≤c) by omega);have u_:=decide_eq_false (show ¬ (48≤c) by omega))
   have:=c;first|(have t_:=eq_true (show c≤57 by omega);have u_:=decide_eq_true (show c≤57 by omega))|(have t_:=eq_false (show ¬ (c≤57) by omega);have u_:=decide_eq_false (show ¬ (c≤57) by omega))
   have:=c;first|(have t_:=eq_true (show 97≤c by omega);have u_:=decide_eq_true (show 97≤c by omega))|(have t_:=eq_false (show ¬ (97≤c) by omega);have u_:=decide_eq_false (show ¬ (97≤c) by omega))
   have:=c;first|(have t_:=eq_true (show c≤102 by omega);have u_:=decide_eq_true (show c≤102 by omega))|(have t_:=eq_false (show ¬ (c≤102) by omega);have u_:=decide_eq_false (show ¬ (c≤102) by omega))
   have:=c;first|(have t_:=eq_true (show 65≤c by omega);have u_:=decide_eq_true (show 65≤c by omega))|(have t_:=eq_false (show ¬ (65≤c) by omega);have u_:=decide_eq_false (show ¬ (65≤c) by omega))
   have:=c;first|(have t_:=eq_true (show c≤70 by omega);have u_:=decide_eq_true (show c≤70 by omega))|(have t_:=eq_false (show ¬ (c≤70) by omega);have u_:=decide_eq_false (show ¬ (c≤70) by omega))
   clear hcs
   go_wp2
   go_ret2
   obtain⟨rfl,rfl⟩:=hR.out.1 (hI.out.2.2.1.symm.trans (xml_number.g_bad hpos.out.1 hst'.out))
   exact⟨rfl,hkeep.out.1⟩
   }
   }
   {
   have hnx:∀ ty,(Instr.next (.pointer (some ⟨w.heap.size,0,none⟩)) true ty).run Tryd.prog wr=_:=fun ty=>Lib.run_next_end_at wr w.heap.size a0 pos ty hI.out.1 hp_
   have hF:=hR.out.2 n (hI.out.2.2.1.symm.trans (xml_number.g_end hp_))
   have hB2:=Lib.hid hI.out.2.1
   clear hp_ hI hR
   unfold xml_number.fin at hF
   rcases itO hF with⟨g3,hF⟩|⟨g3,hF⟩
   {
   have t5:=eq_true g3
   have t6:=decide_eq_true g3
   clear g3
   obtain⟨l,hl0,hF⟩:=bndO hF
   have hl:=Aside0.mk hl0
   clear hl0
   cases l with
   | false=>
    rw [if_neg Bool.false_ne_true] at hF
    simp only [Option.some.injEq,Prod.mk.injEq] at hF
    obtain⟨rfl,rfl⟩:=hF
    go_wp2_with (go_at_call 27;with_reducible refine(chars_Legal.calls (Utf8.encode n) false _ hl.out).mono ?_;rintro e9 w9 ⟨rfl,hb9⟩;have HB9:=Aside0.mk (below_step hB2.out hb9);clear hb9)
    go_ret2
    exact⟨rfl,HB9.out⟩
   | true=>
    rw [if_pos rfl] at hF
    rcases itO hF with⟨g4,hF⟩|⟨g4,hF⟩
    {
    have t7:((Utf8.encode n).toList != ([239,191,189]:List UInt8))=false:=bne_eq_false_iff_eq.mpr g4
    have t8:=eq_true g4
    have t9:((Utf8.encode n).toList == ([239,191,189]:List UInt8))=true:=beq_iff_eq.mpr g4
    clear g4
    simp only [Option.some.injEq,Prod.mk.injEq] at hF
    obtain⟨rfl,rfl⟩:=hF
    go_wp2_with (go_at_call 27;with_reducible refine(chars_Legal.calls (Utf8.encode n) true _ hl.out).mono ?_;rintro e9 w9 ⟨rfl,hb9⟩;have HB9:=Aside0.mk (below_step hB2.out hb9);clear hb9)
    go_ret2
    exact⟨rfl,HB9.out⟩
    }
    {
    have t7:((Utf8.encode n).toList != ([239,191,189]:List UInt8))=true:=bne_iff_ne.mpr g4
    have t8:=eq_false g4
    clear g4
    simp only [Option.some.injEq,Prod.mk.injEq] at hF
    obtain⟨rfl,rfl⟩:=hF
    go_wp2_with (go_at_call 27;with_reducible refine(chars_Legal.calls (Utf8.encode n) true _ hl.out).mono ?_;rintro e9 w9 ⟨rfl,hb9⟩;have HB9:=Aside0.mk (below_step hB2.out hb9);clear hb9)
    go_ret2
    exact⟨rfl,HB9.out⟩
    }
   }
   {
   have t5:=eq_false g3
   have t6:=decide_eq_false g3
   clear g3
   simp only [Option.some.injEq,Prod.mk.injEq] at hF
   obtain⟨rfl,rfl⟩:=hF
   go_wp2
   go_ret2
   exact⟨rfl,hB2.out⟩
   }
   }
def xml_sign.f (a0:ByteArray):Option (ByteArray×Bool):=if a0.toList = [97,109,112] then some (⟨#[38]⟩,true) else if a0.toList = [108,116] then some (⟨#[60]⟩,true) else if a0.toList = [103,116] then some (⟨#[62]⟩,true) else if a0.toList = [113,117,111,116] then some (⟨#[34]⟩,true) else if a0.toList = [97,112,111,115] then some (⟨#[39]⟩,true) else(strings_HasPrefix.f a0 ⟨#[35]⟩).bind fun b=>(if b=true then(if 1≤a0.size then(xml_number.f (a0.extract 1 a0.size)).bind fun t=>some (Utf8.encode t.1,t.2) else none) else some (⟨#[]⟩,false))
theorem xml_sign.calls (a0:ByteArray) (r1:ByteArray) (r2:Bool) (w:World) (h:xml_sign.f a0=some (r1,r2)) :
  Calls Tryd.prog 39 #[.string a0] w fun e w'=>e = .returned (.tuple #[.string r1,.bool r2])∧Below w.heap.size w w':=by
 unfold xml_sign.f at h
 by_cases g0:a0.toList = [97,109,112]
 ·rw [if_pos g0] at h
  simp only [Option.some.injEq,Prod.mk.injEq] at h
  obtain⟨rfl,rfl⟩:=h
  have b0:(a0.toList == ([97,109,112]:List UInt8))=true:=beq_iff_eq.mpr g0
  clear g0
  go_enter Tryd.func39,Tryd.ntmps39
  go_wp2
  go_ret2
  exact⟨rfl,Below.refl _ _⟩
 rw [if_neg g0] at h
 have b0:(a0.toList == ([97,109,112]:List UInt8))=false:=beq_eq_false_iff_ne.mpr g0
 clear g0
 by_cases g1:a0.toList = [108,116]
 ·rw [if_pos g1] at h
  simp only [Option.some.injEq,Prod.mk.injEq] at h
  obtain⟨rfl,rfl⟩:=h
  have b1:(a0.toList == ([108,116]:List UInt8))=true:=beq_iff_eq.mpr g1
  clear g1
  go_enter Tryd.func39,Tryd.ntmps39
  go_wp2
  go_ret2
  exact⟨rfl,Below.refl _ _⟩
 rw [if_neg g1] at h
 have b1:(a0.toList == ([108,116]:List UInt8))=false:=beq_eq_false_iff_ne.mpr g1
 clear g1
 by_cases g2:a0.toList = [103,116]
 ·rw [if_pos g2] at h
  simp only [Option.some.injEq,Prod.mk.injEq] at h
  obtain⟨rfl,rfl⟩:=h
  have b2:(a0.toList == ([103,116]:List UInt8))=true:=beq_iff_eq.mpr g2
  clear g2
  go_enter Tryd.func39,Tryd.ntmps39
  go_wp2
  go_ret2
  exact⟨rfl,Below.refl _ _⟩
 rw [if_neg g2] at h
 have b2:(a0.toList == ([103,116]:List UInt8))=false:=beq_eq_false_iff_ne.mpr g2
 clear g2
 by_cases g3:a0.toList = [113,117,111,116]
 ·rw [if_pos g3] at h
  simp only [Option.some.injEq,Prod.mk.injEq] at h
  obtain⟨rfl,rfl⟩:=h
  have b3:(a0.toList == ([113,117,111,116]:List UInt8))=true:=beq_iff_eq.mpr g3
  clear g3
  go_enter Tryd.func39,Tryd.ntmps39
  go_wp2
  go_ret2
  exact⟨rfl,Below.refl _ _⟩
 rw [if_neg g3] at h
 have b3:(a0.toList == ([113,117,111,116]:List UInt8))=false:=beq_eq_false_iff_ne.mpr g3
 clear g3
 by_cases g4:a0.toList = [97,112,111,115]
 ·rw [if_pos g4] at h
  simp only [Option.some.injEq,Prod.mk.injEq] at h
  obtain⟨rfl,rfl⟩:=h
  have b4:(a0.toList == ([97,112,111,115]:List UInt8))=true:=beq_iff_eq.mpr g4
  clear g4
  go_enter Tryd.func39,Tryd.ntmps39
  go_wp2
  go_ret2
  exact⟨rfl,Below.refl _ _⟩
 rw [if_neg g4] at h
 have b4:(a0.toList == ([97,112,111,115]:List UInt8))=false:=beq_eq_false_iff_ne.mpr g4
 clear g4
 obtain⟨b,hb0,h⟩:=bndO h
 have hb:=Aside0.mk hb0
 clear hb0
 cases b with
 | true=>
  rw [if_pos rfl] at h
  rcases itO h with⟨g5,h⟩|⟨_,h⟩
  case inr=>exact absurd h (by simp)
  obtain⟨t,ht0,h⟩:=bndO h
  obtain⟨t1,t2⟩:=t
  have ht:=Aside0.mk ht0
  clear ht0
  simp only [Option.some.injEq,Prod.mk.injEq] at h
  obtain⟨rfl,rfl⟩:=h
  have q0:=eq_true (show(1:Int)≤(a0.size:Int) by omega)
  have q1:=eq_true g5
  have q2:=decide_eq_true (show(1:Int)≤(a0.size:Int) by omega)
  clear g5
  go_enter Tryd.func39,Tryd.ntmps39
  go_wp2_with (first|(go_at_call 55;refine(strings_HasPrefix.calls _ _ _ _ hb.out).mono ?_;rintro e w1 ⟨rfl,⟨⟨nd,rfl⟩⟩⟩;have HB0:=Aside0.mk (pw_below_drewN (Below.refl w.heap.size w) nd))|(go_at_call 73;with_reducible refine(xml_number.calls (a0.extract 1 a0.size) t1 t2 _ ht.out).mono ?_;rintro e w2 ⟨rfl,hb2⟩;have HB2:=Aside0.mk (below_step HB0.out hb2);clear hb2))
  go_ret2
  exact⟨rfl,HB2.out⟩
 | false=>
  rw [if_neg (by decide)] at h
  simp only [Option.some.injEq,Prod.mk.injEq] at h
  obtain⟨rfl,rfl⟩:=h
  go_enter Tryd.func39,Tryd.ntmps39
  go_wp2_with (go_at_call 55;refine(strings_HasPrefix.calls _ _ _ _ hb.out).mono ?_;rintro e w1 ⟨rfl,⟨⟨nd,rfl⟩⟩⟩)
  go_ret2
  exact⟨rfl,pw_below_drewN (Below.refl _ _) _⟩
mutual
def xml_may.j0:Nat→Int→Bool→ByteArray→ByteArray→List (S24)→Option (Bool)
  | 0,_,_,_,_,_=>none
  | k+1,x1,x31,x122000,x122001,x122002=>if x31=true then(some false) else(xml_may.l0 k x1 x122002 (x122002.length:Int) 0)
def xml_may.l0:Nat→Int→List (S24)→Int→Int→Option (Bool)
  | 0,_,_,_,_=>none
  | k+1,x1,x33,x34,x35=>if x35<x34 then(if 0≤x35 then(if x35<(x33.length:Int) then((xml_may.f k ((rd_T24 x33 x35).f0) ((rd_T24 x33 x35).f1) ((rd_T24 x33 x35).f2) (wrap64 (x1+1))).bind fun t126=>(if t126=true then(xml_may.l0 k x1 x33 x34 (wrap64 (x35+1))) else(some false))) else(none)) else(none)) else(some true)
def xml_may.f:Nat→ByteArray→ByteArray→List (S24)→Int→Option (Bool)
  | 0,_,_,_,_=>none
  | k+1,a0_0,a0_1,l0_2,a1=>if a1>16 then(xml_may.j0 k a1 true a0_0 a0_1 l0_2) else((xml_Name.f k a0_0).bind fun t122=>(if t122=true then((chars_Legal.f a0_1).bind fun t123=>(if t123=true then(if a0_1.toList=([]:List UInt8) then(xml_may.j0 k a1 false a0_0 a0_1 l0_2) else(xml_may.j0 k a1 (decide ((l0_2.length:Int)>0)) a0_0 a0_1 l0_2)) else(xml_may.j0 k a1 true a0_0 a0_1 l0_2))) else(xml_may.j0 k a1 true a0_0 a0_1 l0_2)))
end
theorem xml_may.mono_l:∀ k,(∀ y0 y1 y2 y3,LeO (xml_may.f k y0 y1 y2 y3) (xml_may.f (k+1) y0 y1 y2 y3))∧(∀ y0 y1 y2 y3 y4,LeO (xml_may.j0 k y0 y1 y2 y3 y4) (xml_may.j0 (k+1) y0 y1 y2 y3 y4))∧(∀ y0 y1 y2 y3,LeO (xml_may.l0 k y0 y1 y2 y3) (xml_may.l0 (k+1) y0 y1 y2 y3))
  | 0=>⟨fun _ _ _ _ r h=>by simp [xml_may.f] at h,fun _ _ _ _ _ r h=>by simp [xml_may.j0] at h,fun _ _ _ _ r h=>by simp [xml_may.l0] at h⟩
  | k+1=>by
    obtain⟨ih0,ih1,ih2⟩:=xml_may.mono_l k
    refine⟨?_,?_,?_⟩
    · intro y0 y1 y2 y3
      unfold xml_may.f
      with_reducible repeat' first|exact ih0 _ _ _ _|exact ih1 _ _ _ _ _|exact ih2 _ _ _ _|exact xml_Name.mono _ _|exact LeO.refl _|exact LeO.none _|refine LeO.ite ?_ ?_|refine LeO.bind ?_ (fun _=>?_)
    · intro y0 y1 y2 y3 y4
      unfold xml_may.j0
      with_reducible repeat' first|exact ih0 _ _ _ _|exact ih1 _ _ _ _ _|exact ih2 _ _ _ _|exact xml_Name.mono _ _|exact LeO.refl _|exact LeO.none _|refine LeO.ite ?_ ?_|refine LeO.bind ?_ (fun _=>?_)
    · intro y0 y1 y2 y3
      unfold xml_may.l0
      with_reducible repeat' first|exact ih0 _ _ _ _|exact ih1 _ _ _ _ _|exact ih2 _ _ _ _|exact xml_Name.mono _ _|exact LeO.refl _|exact LeO.none _|refine LeO.ite ?_ ?_|refine LeO.bind ?_ (fun _=>?_)
theorem xml_may.mono:∀ a0 a1 a2 a3 k,LeO (xml_may.f k a0 a1 a2 a3) (xml_may.f (k+1) a0 a1 a2 a3):=by
 intro a0 a1 a2 a3 k
 obtain⟨ih0,ih1,ih2⟩:=xml_may.mono_l k
 exact ih0 a0 a1 a2 a3
theorem xml_may.calls (k:Nat):∀ (a0_0:ByteArray) (a0_1:ByteArray) (A0_2:Option Addr) (c0_2:Nat) (l0_2:List (S24)) (a1:Int) (r:Bool) (w:World) (hr0_2:Kd.C k24 w A0_2 l0_2.length l0_2) (hc0_2:l0_2.length≤c0_2) (h:xml_may.f k a0_0 a0_1 l0_2 a1=some r),
    Calls Tryd.prog 47 #[.agg #[.string a0_0,.string a0_1,.slice A0_2 l0_2.length c0_2],.int .i64 a1] w fun e w'=>e = .returned (.bool r)∧Below w.heap.size w w':=by
 induction k using Nat.strongRecOn with
 | _ k ih=>
 intro a0_0 a0_1 A0_2 c0_2 l0_2 a1 r w hr0_2 hc0_2 h
 cases k with
 | zero=>exact absurd h (by simp [xml_may.f])
 | succ k=>
 simp only [xml_may.f] at h
 have hu24:=Tryd.underlying24
 have HR0_2:=Aside0.mk hr0_2
 have HC0_2:=Aside0.mk hc0_2
 clear hr0_2 hc0_2
 have HB:=Aside0.mk (Below.refl w.heap.size w)
 have H:(if a1>16 then(xml_may.j0 k a1 true a0_0 a0_1 l0_2) else((xml_Name.f k a0_0).bind fun t122=>(if t122=true then((chars_Legal.f a0_1).bind fun t123=>(if t123=true then(if a0_1.toList=([]:List UInt8) then(xml_may.j0 k a1 false a0_0 a0_1 l0_2) else(xml_may.j0 k a1 (decide ((l0_2.length:Int)>0)) a0_0 a0_1 l0_2)) else(xml_may.j0 k a1 true a0_0 a0_1 l0_2))) else(xml_may.j0 k a1 true a0_0 a0_1 l0_2))))=some r:=h
 clear h
 have HC3:=Aside0.mk H
 clear H
 go_enter Tryd.func47,Tryd.ntmps47
 go_upto_region 1 with(first|((with_reducible refine gate_dst (N:=2) rfl ?_);(try (refine gate_guard (by rfl) ?_;dsimp only));refine box_event ?hg (N:=2) ?hd (cs:=#[.string a0_0,.string a0_1,.slice A0_2 l0_2.length c0_2]) (t:=24) ?hr ?_;(case hd=>rfl);(case hg=>rfl);(case hr=>first|(go_simp;done)|(go_simp;rfl));intro gb121 hg w4 hbox hb;have n0_:=Aside0.mk (below_step bl hb);have n1_:=Aside0.mk (hbox);have n2_:=Aside0.mk ((by rw [hg];exact(below_size bl):w.heap.size≤gb121));have n3_:=Aside0.mk ((by rw [hg];exact(below_size bl):w.heap.size≤gb121));clear HB;have HB:=n0_;have BK121:=n1_;have GW121:=n2_;have GE121:=n3_;clear n0_ n1_ n2_ n3_;clear hb hbox hg))
 (try simp only [Act.put,l1,l2,l3])
 go_cut [31] (fun v31 wc=>∃ (kq:Nat) (x31_2:Bool),v31 = .bool x31_2∧Aside0 (xml_may.j0 kq a1 x31_2 a0_0 a0_1 l0_2=some r)∧Aside0 (kq≤k)∧Aside0 (wc.heap[gb121]? = some (.cells #[.string a0_0,.string a0_1,(.slice A0_2 l0_2.length c0_2)] 24 (0,0)))∧Aside0 (Below w.heap.size w wc))
 case first=>
  have H:=HC3.out
  clear HC3
  replace H:=itO H
  rcases H with⟨c5,H⟩|⟨c5,H⟩
  {
  have c5b0:decide (16<a1)=true:=decide_eq_true c5
  clear c5
  (first|rw [c5b0]|(simp only [i64_w,i32_w];rw [c5b0])|skip)
  have H':=Aside0.mk H
  clear H
  go_wp2
  go_meet
  case rel=>exact⟨_,(true),rs,H',⟨by first|omega|exact Nat.le_refl _⟩,⟨kl⟩,⟨bl⟩⟩
  }
  {
  have c5b0:decide (16<a1)=false:=decide_eq_false c5
  clear c5
  (first|rw [c5b0]|(simp only [i64_w,i32_w];rw [c5b0])|skip)
  replace H:=bndO H
  obtain⟨t122,A60,H⟩:=H
  have A6:=Aside0.mk A60
  clear A60
  by_cases c7:t122=true
  {
  subst c7
  replace H:=itT H
  replace H:=bndO H
  obtain⟨t123,A80,H⟩:=H
  have A8:=Aside0.mk A80
  clear A80
  by_cases c9:t123=true
  {
  subst c9
  replace H:=itT H
  replace H:=itO H
  rcases H with⟨c10,H⟩|⟨c10,H⟩
  {
  have c10b0:(a0_1.toList == ([]:List UInt8))=true:=beq_iff_eq.mpr c10
  have c10b1:(a0_1.toList != ([]:List UInt8))=false:=bne_eq_false_iff_eq.mpr c10
  clear c10
  have H':=Aside0.mk H
  clear H
  obtain⟨_,_,_,_,_,_⟩:=bc3 BK121.out
  go_wp2_with (first|(go_at_call 17;(with_reducible refine(xml_Name.calls k a0_0 true _ A6.out).mono ?_);rintro e w' ⟨rfl,⟨nd,rfl⟩⟩)|(go_at_call 27;(with_reducible refine(chars_Legal.calls a0_1 true _ A8.out).mono ?_);rintro e w12 ⟨rfl,hb⟩;have n0_:=Aside0.mk (blk_below (g:=gb121) (o:=.cells #[.string a0_0,.string a0_1,.slice A0_2 l0_2.length c0_2] 24 (0,0)) kl hb);have n1_:=Aside0.mk (below_step bl hb);clear BK121;clear HB;have BK121:=n0_;have HB:=n1_;clear n0_ n1_;obtain⟨_,_,_,_,_,_⟩:=bc3 BK121.out))
  go_meet
  case rel=>exact⟨_,(false),rs,H',⟨by first|omega|exact Nat.le_refl _⟩,⟨kl⟩,⟨bl⟩⟩
  }
  {
  have c10b0:(a0_1.toList == ([]:List UInt8))=false:=beq_eq_false_iff_ne.mpr c10
  have c10b1:(a0_1.toList != ([]:List UInt8))=true:=bne_iff_ne.mpr c10
  have H':=Aside0.mk H
  clear H
  obtain⟨_,_,_,_,_,_⟩:=bc3 BK121.out
  go_wp2_with (first|(go_at_call 17;(with_reducible refine(xml_Name.calls k a0_0 true _ A6.out).mono ?_);rintro e w' ⟨rfl,⟨nd,rfl⟩⟩)|(go_at_call 27;(with_reducible refine(chars_Legal.calls a0_1 true _ A8.out).mono ?_);rintro e w15 ⟨rfl,hb⟩;have n0_:=Aside0.mk (blk_below (g:=gb121) (o:=.cells #[.string a0_0,.string a0_1,.slice A0_2 l0_2.length c0_2] 24 (0,0)) kl hb);have n1_:=Aside0.mk (below_step bl hb);clear BK121;clear HB;have BK121:=n0_;have HB:=n1_;clear n0_ n1_;obtain⟨_,_,_,_,_,_⟩:=bc3 BK121.out))
  go_meet
  case rel=>exact⟨_,(decide ((l0_2.length:Int)>0)),rs,H',⟨by first|omega|exact Nat.le_refl _⟩,⟨kl⟩,⟨bl⟩⟩
  }
  }
  {
  replace c9:=Bool.eq_false_iff.mpr c9
  subst c9
  replace H:=itF H
  have H':=Aside0.mk H
  clear H
  obtain⟨_,_,_,_,_,_⟩:=bc3 BK121.out
  go_wp2_with (first|(go_at_call 17;(with_reducible refine(xml_Name.calls k a0_0 true _ A6.out).mono ?_);rintro e w' ⟨rfl,⟨nd,rfl⟩⟩)|(go_at_call 27;(with_reducible refine(chars_Legal.calls a0_1 false _ A8.out).mono ?_);rintro e w18 ⟨rfl,hb⟩;have n0_:=Aside0.mk (blk_below (g:=gb121) (o:=.cells #[.string a0_0,.string a0_1,.slice A0_2 l0_2.length c0_2] 24 (0,0)) kl hb);have n1_:=Aside0.mk (below_step bl hb);clear BK121;clear HB;have BK121:=n0_;have HB:=n1_;clear n0_ n1_))
  go_meet
  case rel=>exact⟨_,(true),rs,H',⟨by first|omega|exact Nat.le_refl _⟩,⟨kl⟩,⟨bl⟩⟩
  }
  }
  {
  replace c7:=Bool.eq_false_iff.mpr c7
  subst c7
  replace H:=itF H
  have H':=Aside0.mk H
  clear H
  obtain⟨_,_,_,_,_,_⟩:=bc3 BK121.out
  go_wp2_with (first|(go_at_call 17;(with_reducible refine(xml_Name.calls k a0_0 false _ A6.out).mono ?_);rintro e w' ⟨rfl,⟨nd,rfl⟩⟩))
  go_meet
  case rel=>exact⟨_,(true),rs,H',⟨by first|omega|exact Nat.le_refl _⟩,⟨kl⟩,⟨bl⟩⟩
  }
  }
 case rest=>
  clear HC3
  obtain⟨kq,x31_2,rfl,HA,HJ2,BK121,HB⟩:=hcut
  cases kq with
  | zero=>exact absurd HA.out (by simp [xml_may.j0])
  | succ kj2=>
   have H:=HA.out
   clear HA
   simp only [xml_may.j0] at H
   by_cases c20:x31_2=true
   {
   subst c20
   replace H:=itT H
   obtain rfl:=Option.some.inj H
   go_wp2
   go_ret
   exact⟨ew,bl⟩
   }
   {
   replace c20:=Bool.eq_false_iff.mpr c20
   subst c20
   replace H:=itF H
   have H':=Aside0.mk H
   clear H
   obtain⟨_,_,_,_,_,_⟩:=bc3 BK121.out
   go_wp2
   go_loopg [35] kj2 (fun kq v35 w'=>∃ (x35_2:Int),v35 = .int .i64 x35_2∧Aside0 (xml_may.l0 kq a1 l0_2 (l0_2.length:Int) x35_2=some r)∧Aside0 (kq≤kj2)∧Aside0 (w'.heap[gb121]? = some (.cells #[.string a0_0,.string a0_1,(.slice A0_2 l0_2.length c0_2)] 24 (0,0)))∧Aside0 (Below w.heap.size w w'))
   case atStart=>exact⟨(0),rs,H',⟨Nat.le_refl _⟩,⟨kl⟩,⟨bl⟩⟩
   case round=>
    clear H'
    obtain⟨x35_2,rfl,HA,HK2,BK121,HB⟩:=hrel
    cases gk with
    | zero=>exact absurd HA.out (by simp [xml_may.l0])
    | succ k2=>
     have H:=HA.out
     clear HA
     simp only [xml_may.l0] at H
     replace H:=itO H
     rcases H with⟨c22,H⟩|⟨c22,H⟩
     {
     have c22b0:decide (x35_2<(l0_2.length:Int))=true:=decide_eq_true c22
     clear c22
     replace H:=itO H
     rcases H with⟨c23,H⟩|⟨c23,H⟩
     {
     have c23b0:decide (0≤x35_2)=true:=decide_eq_true c23
     clear c23
     replace H:=itO H
     rcases H with⟨c24,H⟩|⟨c24,H⟩
     {
     have c24b0:decide (x35_2<(l0_2.length:Int))=true:=decide_eq_true c24
     clear c24
     replace H:=bndO H
     obtain⟨t126,A250,H⟩:=H
     have A25:=Aside0.mk A250
     clear A250
     by_cases c26:t126=true
     {
     subst c26
     replace H:=itT H
     have H':=Aside0.mk H
     clear H
     have p124:0≤(x35_2:Int):=of_decide_eq_true asm
     have q124:x35_2<(l0_2.length:Int):=of_decide_eq_true asm
     obtain⟨ad124,A124_2,c124_2,e124,hx124_0,hx124_1,hx124_2,hl124_2,hi124_2⟩:=at_T24 HR0_2.out x35_2 p124 q124
     cases e124
     replace hx124_0:=(HB.out.cell (World.block_lt_of_cell? w _ hx124_0)).trans hx124_0
     replace hx124_1:=(HB.out.cell (World.block_lt_of_cell? w _ hx124_1)).trans hx124_1
     replace hx124_2:=(HB.out.cell (World.block_lt_of_cell? w _ hx124_2)).trans hx124_2
     have HR124_2:=Aside0.mk hi124_2
     have HC124_2:=Aside0.mk hl124_2
     clear hi124_2 hl124_2
     replace p124:=eq_true p124
     replace q124:=eq_true q124
     go_wp2_with (first|((with_reducible refine gate_dst (N:=6) rfl ?_);(try (refine gate_guard (by rfl) ?_;dsimp only));refine box_event ?hg (N:=6) ?hd (cs:=#[.string (⟨#[]⟩ : ByteArray),.string (⟨#[]⟩ : ByteArray),.slice none 0 0]) (t:=24) ?hr ?_;(case hd=>rfl);(case hg=>rfl);(case hr=>first|(go_simp;done)|(go_simp;rfl));intro gb125 hg w27 hbox hb;have n0_:=Aside0.mk (blk_below (g:=gb121) (o:=.cells #[.string a0_0,.string a0_1,.slice (some ad124) l0_2.length c0_2] 24 (0,0)) kl hb);have n1_:=Aside0.mk (below_step bl hb);have n2_:=Aside0.mk (hbox);have n3_:=Aside0.mk ((by rw [hg];exact(below_size bl):w.heap.size≤gb125));have n4_:=Aside0.mk ((by rw [hg];exact(below_size bl):w.heap.size≤gb125));have n5_:=Aside0.mk ((by rw [hg];exact Nat.ne_of_lt (blk_lt (g:=gb121) (o:=.cells #[.string a0_0,.string a0_1,.slice (some ad124) l0_2.length c0_2] 24 (0,0)) kl):gb121≠gb125));have n6_:=Aside0.mk ((by rw [hg];exact Nat.ne_of_gt (blk_lt (g:=gb121) (o:=.cells #[.string a0_0,.string a0_1,.slice (some ad124) l0_2.length c0_2] 24 (0,0)) kl):gb125≠gb121));clear BK121;clear HB;have BK121:=n0_;have HB:=n1_;have BK125:=n2_;have GW125:=n3_;have GE125:=n4_;have NB121_125:=n5_;have NB125_121:=n6_;clear n0_ n1_ n2_ n3_ n4_ n5_ n6_;clear hb hbox hg;have hnb28:=NB125_121.out;have hnc28:=NB121_125.out;obtain⟨_,_,_,_,_,_⟩:=bc3 BK125.out)|((with_reducible refine gate_callee (f:=47) rfl ?_);refine goesL_ (some 42) rfl rfl Tryd.func47 kr rfl #[.agg #[.string ((rd_T24 l0_2 x35_2).f0),.string ((rd_T24 l0_2 x35_2).f1),.slice A124_2 ((rd_T24 l0_2 x35_2).f2).length c124_2],.int .i64 (wrap64 (a1+1))] rfl am ?_;(with_reducible refine(ih k2 (by have:=HJ2.out;have:=HK2.out;omega) ((rd_T24 l0_2 x35_2).f0) ((rd_T24 l0_2 x35_2).f1) _ _ ((rd_T24 l0_2 x35_2).f2) (wrap64 (a1+1)) true _ ?side1 ?side2 A25.out).mono ?_);(case side1=>exact Kd.C_below HR124_2.out bl);(case side2=>exact HC124_2.out);rintro e w30 ⟨rfl,hb⟩;refine⟨_,rfl,?_⟩;have n0_:=Aside0.mk (blk_below (g:=gb121) (o:=.cells #[.string a0_0,.string a0_1,.slice (some ad124) l0_2.length c0_2] 24 (0,0)) (by(with_reducible repeat (first|refine blk_drewN ?_ _|refine blk_drew ?_|refine blk_alloc ?_ _));refine blk_far ?_ NB121_125.out _;(with_reducible repeat (first|refine blk_drewN ?_ _|refine blk_drew ?_|refine blk_alloc ?_ _));refine blk_far ?_ NB121_125.out _;(with_reducible repeat (first|refine blk_drewN ?_ _|refine blk_drew ?_|refine blk_alloc ?_ _));refine blk_far ?_ NB121_125.out _;(with_reducible repeat (first|refine blk_drewN ?_ _|refine blk_drew ?_|refine blk_alloc ?_ _));exact BK121.out) hb);have n1_:=Aside0.mk (blk_below (g:=gb125) (o:=.cells #[.string ((rd_T24 l0_2 x35_2).f0),.string ((rd_T24 l0_2 x35_2).f1),.slice A124_2 ((rd_T24 l0_2 x35_2).f2).length c124_2] 24 (0,0)) (by(with_reducible repeat (first|refine blk_drewN ?_ _|refine blk_drew ?_|refine blk_alloc ?_ _));refine blk_put (cs:=#[.string ((rd_T24 l0_2 x35_2).f0),.string ((rd_T24 l0_2 x35_2).f1),.slice none 0 0]) ?_ 2 _ rfl;(with_reducible repeat (first|refine blk_drewN ?_ _|refine blk_drew ?_|refine blk_alloc ?_ _));refine blk_put (cs:=#[.string ((rd_T24 l0_2 x35_2).f0),.string (⟨#[]⟩ : ByteArray),.slice none 0 0]) ?_ 1 _ rfl;(with_reducible repeat (first|refine blk_drewN ?_ _|refine blk_drew ?_|refine blk_alloc ?_ _));refine blk_put (cs:=#[.string (⟨#[]⟩ : ByteArray),.string (⟨#[]⟩ : ByteArray),.slice none 0 0]) ?_ 0 _ rfl;(with_reducible repeat (first|refine blk_drewN ?_ _|refine blk_drew ?_|refine blk_alloc ?_ _));exact BK125.out) hb);have n2_:=Aside0.mk (below_step bl hb);clear BK121;clear BK125;clear HB;have BK121:=n0_;have BK125:=n1_;have HB:=n2_;clear n0_ n1_ n2_))
     go_roundg k2
     case measure=>have:=HJ2.out;have:=HK2.out;omega
     case rel=>exact⟨(wrap64 (x35_2+1)),rs,H',⟨by have:=HJ2.out;have:=HK2.out;omega⟩,⟨kl⟩,⟨bl⟩⟩
     }
     {
     replace c26:=Bool.eq_false_iff.mpr c26
     subst c26
     replace H:=itF H
     obtain rfl:=Option.some.inj H
     have p124:0≤(x35_2:Int):=of_decide_eq_true asm
     have q124:x35_2<(l0_2.length:Int):=of_decide_eq_true asm
     obtain⟨ad124,A124_2,c124_2,e124,hx124_0,hx124_1,hx124_2,hl124_2,hi124_2⟩:=at_T24 HR0_2.out x35_2 p124 q124
     cases e124
     replace hx124_0:=(HB.out.cell (World.block_lt_of_cell? w _ hx124_0)).trans hx124_0
     replace hx124_1:=(HB.out.cell (World.block_lt_of_cell? w _ hx124_1)).trans hx124_1
     replace hx124_2:=(HB.out.cell (World.block_lt_of_cell? w _ hx124_2)).trans hx124_2
     have HR124_2:=Aside0.mk hi124_2
     have HC124_2:=Aside0.mk hl124_2
     clear hi124_2 hl124_2
     replace p124:=eq_true p124
     replace q124:=eq_true q124
     go_wp2_with (first|((with_reducible refine gate_dst (N:=6) rfl ?_);(try (refine gate_guard (by rfl) ?_;dsimp only));refine box_event ?hg (N:=6) ?hd (cs:=#[.string (⟨#[]⟩ : ByteArray),.string (⟨#[]⟩ : ByteArray),.slice none 0 0]) (t:=24) ?hr ?_;(case hd=>rfl);(case hg=>rfl);(case hr=>first|(go_simp;done)|(go_simp;rfl));intro gb125 hg w31 hbox hb;have n0_:=Aside0.mk (blk_below (g:=gb121) (o:=.cells #[.string a0_0,.string a0_1,.slice (some ad124) l0_2.length c0_2] 24 (0,0)) kl hb);have n1_:=Aside0.mk (below_step bl hb);have n2_:=Aside0.mk (hbox);have n3_:=Aside0.mk ((by rw [hg];exact(below_size bl):w.heap.size≤gb125));have n4_:=Aside0.mk ((by rw [hg];exact(below_size bl):w.heap.size≤gb125));have n5_:=Aside0.mk ((by rw [hg];exact Nat.ne_of_lt (blk_lt (g:=gb121) (o:=.cells #[.string a0_0,.string a0_1,.slice (some ad124) l0_2.length c0_2] 24 (0,0)) kl):gb121≠gb125));have n6_:=Aside0.mk ((by rw [hg];exact Nat.ne_of_gt (blk_lt (g:=gb121) (o:=.cells #[.string a0_0,.string a0_1,.slice (some ad124) l0_2.length c0_2] 24 (0,0)) kl):gb125≠gb121));clear BK121;clear HB;have BK121:=n0_;have HB:=n1_;have BK125:=n2_;have GW125:=n3_;have GE125:=n4_;have NB121_125:=n5_;have NB125_121:=n6_;clear n0_ n1_ n2_ n3_ n4_ n5_ n6_;clear hb hbox hg;have hnb32:=NB125_121.out;have hnc32:=NB121_125.out;obtain⟨_,_,_,_,_,_⟩:=bc3 BK125.out)|((with_reducible refine gate_callee (f:=47) rfl ?_);refine goesL_ (some 42) rfl rfl Tryd.func47 kr rfl #[.agg #[.string ((rd_T24 l0_2 x35_2).f0),.string ((rd_T24 l0_2 x35_2).f1),.slice A124_2 ((rd_T24 l0_2 x35_2).f2).length c124_2],.int .i64 (wrap64 (a1+1))] rfl am ?_;(with_reducible refine(ih k2 (by have:=HJ2.out;have:=HK2.out;omega) ((rd_T24 l0_2 x35_2).f0) ((rd_T24 l0_2 x35_2).f1) _ _ ((rd_T24 l0_2 x35_2).f2) (wrap64 (a1+1)) false _ ?side1 ?side2 A25.out).mono ?_);(case side1=>exact Kd.C_below HR124_2.out bl);(case side2=>exact HC124_2.out);rintro e w34 ⟨rfl,hb⟩;refine⟨_,rfl,?_⟩;have n0_:=Aside0.mk (blk_below (g:=gb121) (o:=.cells #[.string a0_0,.string a0_1,.slice (some ad124) l0_2.length c0_2] 24 (0,0)) (by(with_reducible repeat (first|refine blk_drewN ?_ _|refine blk_drew ?_|refine blk_alloc ?_ _));refine blk_far ?_ NB121_125.out _;(with_reducible repeat (first|refine blk_drewN ?_ _|refine blk_drew ?_|refine blk_alloc ?_ _));refine blk_far ?_ NB121_125.out _;(with_reducible repeat (first|refine blk_drewN ?_ _|refine blk_drew ?_|refine blk_alloc ?_ _));refine blk_far ?_ NB121_125.out _;(with_reducible repeat (first|refine blk_drewN ?_ _|refine blk_drew ?_|refine blk_alloc ?_ _));exact BK121.out) hb);have n1_:=Aside0.mk (blk_below (g:=gb125) (o:=.cells #[.string ((rd_T24 l0_2 x35_2).f0),.string ((rd_T24 l0_2 x35_2).f1),.slice A124_2 ((rd_T24 l0_2 x35_2).f2).length c124_2] 24 (0,0)) (by(with_reducible repeat (first|refine blk_drewN ?_ _|refine blk_drew ?_|refine blk_alloc ?_ _));refine blk_put (cs:=#[.string ((rd_T24 l0_2 x35_2).f0),.string ((rd_T24 l0_2 x35_2).f1),.slice none 0 0]) ?_ 2 _ rfl;(with_reducible repeat (first|refine blk_drewN ?_ _|refine blk_drew ?_|refine blk_alloc ?_ _));refine blk_put (cs:=#[.string ((rd_T24 l0_2 x35_2).f0),.string (⟨#[]⟩ : ByteArray),.slice none 0 0]) ?_ 1 _ rfl;(with_reducible repeat (first|refine blk_drewN ?_ _|refine blk_drew ?_|refine blk_alloc ?_ _));refine blk_put (cs:=#[.string (⟨#[]⟩ : ByteArray),.string (⟨#[]⟩ : ByteArray),.slice none 0 0]) ?_ 0 _ rfl;(with_reducible repeat (first|refine blk_drewN ?_ _|refine blk_drew ?_|refine blk_alloc ?_ _));exact BK125.out) hb);have n2_:=Aside0.mk (below_step bl hb);clear BK121;clear BK125;clear HB;have BK121:=n0_;have BK125:=n1_;have HB:=n2_;clear n0_ n1_ n2_))
     go_ret
     exact⟨ew,bl⟩
     }
     }
     ·exact absurd H (by simp)
     }
     ·exact absurd H (by simp)
     }
     {
     have c22b0:decide (x35_2<(l0_2.length:Int))=false:=decide_eq_false c22
     clear c22
     obtain rfl:=Option.some.inj H
     go_wp2
     go_ret
     exact⟨ew,bl⟩
     }
   }
def xml_Escape.e (c:UInt8):List UInt8:=if c=38 then [38,97,109,112,59] else if c=60 then [38,108,116,59] else if c=62 then [38,103,116,59] else if c=34 then [38,113,117,111,116,59] else if c=13 then [38,35,49,51,59] else [c]
def xml_Escape.s (a0:ByteArray):ByteArray:=⟨(a0.data.toList.flatMap xml_Escape.e).toArray⟩
def xml_Escape.f (a0:ByteArray):Option ByteArray:=if a0.size≤23456248059220 then some (xml_Escape.s a0) else none
theorem xml_Escape.e_len (c:UInt8):(xml_Escape.e c).length≤6:=by
 unfold xml_Escape.e
 (repeat' split) <;> simp
theorem xml_Escape.flat_len (l:List UInt8):(l.flatMap xml_Escape.e).length≤6*l.length:=by
 induction l with
 | nil=>simp
 | cons a l ih=>
  rw [List.flatMap_cons,List.length_append,List.length_cons]
  have:=xml_Escape.e_len a
  omega
theorem xml_Escape.snoc (a0:ByteArray) (k:Nat) (h:k<a0.size) (c:Int) (hc:bt a0 k=c) :
  (a0.data.toList.take (k+1)).flatMap xml_Escape.e=(a0.data.toList.take k).flatMap xml_Escape.e++xml_Escape.e c.toNat.toUInt8:=by
 have hl:k<a0.data.toList.length:=by rw [data_length];exact h
 have hb:((a0.data.toList[k]'hl).toNat:Int)=c:=by
  rw [← hc]
  have:=bt_at a0 (k:Int) (by simpa using h)
  rw [← this]
  simp only [Int.toNat_natCast,Array.getElem_toList]
  rfl
 rw [List.take_succ_eq_append_getElem hl,List.flatMap_append,List.flatMap_cons,List.flatMap_nil,List.append_nil]
 congr 2
 subst hb
 simp
theorem xml_Escape.one (c:Int) (h0:0≤c) (h1:c≤255):Lib.byteCells [c.toNat.toUInt8] = [.int .u8 c]:=by
 have:(c.toNat.toUInt8.toNat:Int)=c:=by
  rw [Nat.toUInt8,UInt8.toNat_ofNat']
  omega
 rw [Lib.byteCells,List.map_cons,List.map_nil,this]
theorem xml_Escape.plain (c:Int) (h0:0≤c) (h1:c≤255) (a:c≠38) (b:c≠60) (d:c≠62) (e:c≠34) (f:c≠13):xml_Escape.e c.toNat.toUInt8 = [c.toNat.toUInt8]:=by
 have key:∀ v:UInt8,(v.toNat:Int)≠c→c.toNat.toUInt8≠v:=by
  intro v hv he
  apply hv
  rw [← he,Nat.toUInt8,UInt8.toNat_ofNat']
  omega
 unfold xml_Escape.e
 rw [if_neg (key 38 (by simpa using fun h=>a h.symm)),if_neg (key 60 (by simpa using fun h=>b h.symm)),if_neg (key 62 (by simpa using fun h=>d h.symm)),if_neg (key 34 (by simpa using fun h=>e h.symm)),if_neg (key 13 (by simpa using fun h=>f h.symm))]
theorem xml_Escape.arm (c:Int):c=38∨c=60∨c=62∨c=34∨c=13∨(c≠38∧c≠60∧c≠62∧c≠34∧c≠13):=by omega
theorem xml_Escape.calls (a0:ByteArray) (r:ByteArray) (w:World) (h:xml_Escape.f a0=some r) :
  Calls Tryd.prog 19 #[.string a0] w fun e w'=>e = .returned (.string r)∧Below w.heap.size w w':=by
 unfold xml_Escape.f at h
 have hs:a0.size≤23456248059220:=by
  by_cases c:a0.size≤23456248059220
  ·exact c
  ·simp [c] at h
 rw [if_pos hs] at h
 obtain rfl:=Option.some.inj h
 go_enter Tryd.func19,Tryd.ntmps19
 go_wp2
 go_loopw [7] (fun i wr=>∃ (k:Nat),k≤a0.size∧i = .int .i64 k∧Hid (Lib.IsBuilderF 68 5 w.heap.size w.heap.size (Lib.byteCells ((a0.data.toList.take k).flatMap xml_Escape.e)) wr∧Below w.heap.size w wr)) (fun i _=>a0.size-(intOf i).toNat)
 case atStart=>exact⟨0,Nat.zero_le _,rfl,Lib.hid ⟨Bld.fresh w,(Below.refl _ w).alloc (Nat.le_refl _) _⟩⟩
 case round=>
  obtain⟨k,hk,rfl,hI⟩:=hrel
  by_cases hlt:k<a0.size
  ·obtain⟨c,hc⟩ : ∃ c,bt a0 k=c:=⟨_,rfl⟩
   have hc0:0≤c:=by rw [← hc];exact(bt_range a0 k).1
   have hc1:c≤255:=by rw [← hc];exact(bt_range a0 k).2
   have hx:=bt_at a0 (k:Int)
   rw [hc,Int.toNat_natCast] at hx
   have hsn:=Lib.hid (xml_Escape.snoc a0 k hlt c hc)
   have hlen:(Lib.byteCells ((a0.data.toList.take k).flatMap xml_Escape.e)).length+6≤140737488355328:=by
    rw [Lib.byteCells_length]
    have h1:=xml_Escape.flat_len (a0.data.toList.take k)
    have h2:(a0.data.toList.take k).length≤k:=List.length_take_le _ _
    omega
   have hlen':=Lib.hid hlen
   have hsz':=Lib.hid (show w.heap.size≤wr.heap.size from hI.out.2.size)
   clear hlen hc
   rcases xml_Escape.arm c with rfl|rfl|rfl|rfl|rfl|⟨n1,n2,n3,n4,n5⟩
   ·go_wp2_with fail
    refine(Bld.WriteString w.heap.size w.heap.size _ ⟨#[38,97,109,112,59]⟩ _ hI.out.1 (Nat.le_trans (Nat.add_le_add_left (show(5:Nat)≤6 by decide) _) hlen'.out) hsz'.out).mono ?_
    rintro e w9 ⟨rfl,h9,b9,_⟩
    have h9':=Lib.hid h9
    have b9':=Lib.hid (hI.out.2.trans b9)
    clear h9 b9
    go_wp2
    go_roundw
    case rel=>exact⟨k+1,by omega,by go_num,Lib.hid ⟨by rw [hsn.out,Lib.byteCells_append];exact h9'.out,b9'.out⟩⟩
    case measure=>simp [intOf];omega
   ·go_wp2_with fail
    refine(Bld.WriteString w.heap.size w.heap.size _ ⟨#[38,108,116,59]⟩ _ hI.out.1 (Nat.le_trans (Nat.add_le_add_left (show(4:Nat)≤6 by decide) _) hlen'.out) hsz'.out).mono ?_
    rintro e w9 ⟨rfl,h9,b9,_⟩
    have h9':=Lib.hid h9
    have b9':=Lib.hid (hI.out.2.trans b9)
    clear h9 b9
    go_wp2
    go_roundw
    case rel=>exact⟨k+1,by omega,by go_num,Lib.hid ⟨by rw [hsn.out,Lib.byteCells_append];exact h9'.out,b9'.out⟩⟩
    case measure=>simp [intOf];omega
   ·go_wp2_with fail
    refine(Bld.WriteString w.heap.size w.heap.size _ ⟨#[38,103,116,59]⟩ _ hI.out.1 (Nat.le_trans (Nat.add_le_add_left (show(4:Nat)≤6 by decide) _) hlen'.out) hsz'.out).mono ?_
    rintro e w9 ⟨rfl,h9,b9,_⟩
    have h9':=Lib.hid h9
    have b9':=Lib.hid (hI.out.2.trans b9)
    clear h9 b9
    go_wp2
    go_roundw
    case rel=>exact⟨k+1,by omega,by go_num,Lib.hid ⟨by rw [hsn.out,Lib.byteCells_append];exact h9'.out,b9'.out⟩⟩
    case measure=>simp [intOf];omega
   ·go_wp2_with fail
    refine(Bld.WriteString w.heap.size w.heap.size _ ⟨#[38,113,117,111,116,59]⟩ _ hI.out.1 (Nat.le_trans (Nat.add_le_add_left (show(6:Nat)≤6 by decide) _) hlen'.out) hsz'.out).mono ?_
    rintro e w9 ⟨rfl,h9,b9,_⟩
    have h9':=Lib.hid h9
    have b9':=Lib.hid (hI.out.2.trans b9)
    clear h9 b9
    go_wp2
    go_roundw
    case rel=>exact⟨k+1,by omega,by go_num,Lib.hid ⟨by rw [hsn.out,Lib.byteCells_append];exact h9'.out,b9'.out⟩⟩
    case measure=>simp [intOf];omega
   ·go_wp2_with fail
    refine(Bld.WriteString w.heap.size w.heap.size _ ⟨#[38,35,49,51,59]⟩ _ hI.out.1 (Nat.le_trans (Nat.add_le_add_left (show(5:Nat)≤6 by decide) _) hlen'.out) hsz'.out).mono ?_
    rintro e w9 ⟨rfl,h9,b9,_⟩
    have h9':=Lib.hid h9
    have b9':=Lib.hid (hI.out.2.trans b9)
    clear h9 b9
    go_wp2
    go_roundw
    case rel=>exact⟨k+1,by omega,by go_num,Lib.hid ⟨by rw [hsn.out,Lib.byteCells_append];exact h9'.out,b9'.out⟩⟩
    case measure=>simp [intOf];omega
   ·have hpl:=Lib.hid (xml_Escape.plain c hc0 hc1 n1 n2 n3 n4 n5)
    have m1:(c == 38)=false:=beq_eq_false_iff_ne.mpr n1
    have m2:(c == 60)=false:=beq_eq_false_iff_ne.mpr n2
    have m3:(c == 62)=false:=beq_eq_false_iff_ne.mpr n3
    have m4:(c == 34)=false:=beq_eq_false_iff_ne.mpr n4
    have m5:(c == 13)=false:=beq_eq_false_iff_ne.mpr n5
    clear n1 n2 n3 n4 n5
    go_wp2_with fail
    refine(Bld.WriteByte w.heap.size w.heap.size _ c _ hI.out.1 (Nat.le_trans (Nat.add_le_add_left (show(1:Nat)≤6 by decide) _) hlen'.out) hsz'.out).mono ?_
    rintro e w9 ⟨rfl,h9,b9,_⟩
    have h9':=Lib.hid h9
    have b9':=Lib.hid (hI.out.2.trans b9)
    clear h9 b9
    go_wp2
    go_roundw
    case rel=>exact⟨k+1,by omega,by go_num,Lib.hid ⟨by rw [hsn.out,hpl.out,Lib.byteCells_append,xml_Escape.one c hc0 hc1];exact h9'.out,b9'.out⟩⟩
    case measure=>simp [intOf];omega
  ·go_wp2_with fail
   refine(Bld.String_ w.heap.size w.heap.size _ _ hI.out.1 hI.out.2.size).mono ?_
   rintro e w9 ⟨rfl,b9⟩
   have b9':=Lib.hid b9
   clear b9
   go_wp2
   go_ret
   have hk':k=a0.size:=by omega
   have he:a0.data.toList.take k=a0.data.toList:=List.take_of_length_le (by rw [data_length];omega)
   refine⟨by rw [he];rfl,hI.out.2.trans b9'.out⟩
end Go.Proofs.YtklcgncaclggcaaDoor.Q
