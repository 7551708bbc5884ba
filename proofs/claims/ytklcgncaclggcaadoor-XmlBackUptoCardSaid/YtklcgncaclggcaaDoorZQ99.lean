/- A part of the proof of the seat's laws. No condition beyond those in the theorems. -/
import Derived.Test.YtklcgncaclggcaaDoorZQ0g17
import Derived.Test.YtklcgncaclggcaaDoorZQ53g6
import Derived.Test.YtklcgncaclggcaaDoorZQ59g2
open Bool renaming true→T,false→F

namespace Go.Proofs.YtklcgncaclggcaaDoor.Q
open Go.RowKit Go.Proofs.YtklcgncaclggcaaDoorW.PrintWords Go.Proofs.YtklcgncaclggcaaDoorW.PrintLast Go.Proofs.YtklcgncaclggcaaDoorW.PrintMore
set_option linter.unusedVariables false
set_option linter.unusedSimpArgs false
set_option maxHeartbeats 8000000
set_option maxRecDepth 100000
attribute [local go_sem] max2_int min2_int max_two min_two max_three min_three max_four min_four   
def stowagelaw13_XmlBack.j0:Nat→Bool→ByteArray→Option (Bool)
 | 0,_,_=>none
 | k+1,x1,x2=>(xml_Parse.f k x2).bind fun bt469=>(if bt469.2.2.2=0 then((xml_Print.f k bt469.1 bt469.2.1 bt469.2.2.1 x1).bind fun bt477=>(if bt477.2=0 then((xml_Parse.f k bt477.1).bind fun bt480=>(if bt480.2.2.2=0 then((stowagelaw13_To.f k bt480.1 bt480.2.1 bt480.2.2.1).bind fun bt487=>((stowagelaw13_To.f k bt469.1 bt469.2.1 bt469.2.2.1).bind fun bt492=>((stowageref13_Same.f k bt487.1 bt487.2.1 bt487.2.2 bt492.1 bt492.2.1 bt492.2.2).bind fun t497=>(if t497=true then((stowagelaw13_awake.f k).bind fun t498=>(some t498)) else(some false))))) else(some false))) else(if bt477.2=2 then((stowagelaw13_awake.f k).bind fun t479=>(some t479)) else(some false)))) else(if bt469.1.toList=([]:List UInt8) then(if bt469.2.1.toList=([]:List UInt8) then(if(bt469.2.2.1.length:Int)=0 then((stowagelaw13_awake.f k).bind fun t476=>(some t476)) else(some false)) else(some false)) else(some false)))
def stowagelaw13_XmlBack.f (k:Nat) (a0_0:ByteArray) (a0_1:ByteArray) (l0_2:List (S24)) (a1:Bool) (a2:ByteArray):Option (Bool):=(stowagelaw13_Deep.f k a0_0 a0_1 l0_2 40).bind fun t447=>(if t447>40 then((stowagelaw13_awake.f k).bind fun t448=>(some t448)) else((xml_Print.f k a0_0 a0_1 l0_2 a1).bind fun bt449=>(if bt449.2=0 then((xml_Parse.f k bt449.1).bind fun bt451=>(if bt451.2.2.2=0 then((stowagelaw13_To.f k bt451.1 bt451.2.1 bt451.2.2.1).bind fun bt458=>((stowagelaw13_To.f k a0_0 a0_1 l0_2).bind fun bt463=>((stowageref13_Same.f k bt458.1 bt458.2.1 bt458.2.2 bt463.1 bt463.2.1 bt463.2.2).bind fun t468=>(if t468=true then(stowagelaw13_XmlBack.j0 k a1 a2) else(some false))))) else(some false))) else(stowagelaw13_XmlBack.j0 k a1 a2))))
theorem stowagelaw13_XmlBack.mono_l:∀ k,(∀ y0 y1,LeO (stowagelaw13_XmlBack.j0 k y0 y1) (stowagelaw13_XmlBack.j0 (k+1) y0 y1))
 | 0=>fun _ _ r h=>by simp [stowagelaw13_XmlBack.j0] at h
 | k+1=>by
  have ih0:=stowagelaw13_XmlBack.mono_l k
  ·intro y0 y1
   unfold stowagelaw13_XmlBack.j0
   repeat' first
   | (with_reducible exact ih0 _ _)
   | (with_reducible exact stowagelaw13_Deep.mono _ _ _ _ _)
   | (with_reducible exact stowagelaw13_To.mono _ _ _ _)
   | (with_reducible exact stowagelaw13_awake.mono _)
   | (with_reducible exact stowageref13_Same.mono _ _ _ _ _ _ _)
   | (with_reducible exact xml_Parse.mono _ _)
   | (with_reducible exact xml_Print.mono _ _ _ _ _)
   | (with_reducible exact LeO.refl _)
   | (with_reducible exact LeO.none _)
   | (with_reducible refine LeO.ite ?_ ?_)
   | (with_reducible refine LeO.bind ?_ (fun _=>?_))
   | exact ih0 _ _
   | exact stowagelaw13_Deep.mono _ _ _ _ _
   | exact stowagelaw13_To.mono _ _ _ _
   | exact stowagelaw13_awake.mono _
   | exact stowageref13_Same.mono _ _ _ _ _ _ _
   | exact xml_Parse.mono _ _
   | exact xml_Print.mono _ _ _ _ _
   | exact LeO.none _
   | refine LeO.ite ?_ ?_
   | refine LeO.bind ?_ (fun _=>?_)
theorem stowagelaw13_XmlBack.mono:∀ a0 a1 a2 a3 a4 k,LeO (stowagelaw13_XmlBack.f k a0 a1 a2 a3 a4) (stowagelaw13_XmlBack.f (k+1) a0 a1 a2 a3 a4):=by
 intro a0 a1 a2 a3 a4 k
 have ih0:=stowagelaw13_XmlBack.mono_l k
 unfold stowagelaw13_XmlBack.f
 repeat' first
   | (with_reducible exact ih0 _ _)
   | (with_reducible exact stowagelaw13_Deep.mono _ _ _ _ _)
   | (with_reducible exact stowagelaw13_To.mono _ _ _ _)
   | (with_reducible exact stowagelaw13_awake.mono _)
   | (with_reducible exact stowageref13_Same.mono _ _ _ _ _ _ _)
   | (with_reducible exact xml_Parse.mono _ _)
   | (with_reducible exact xml_Print.mono _ _ _ _ _)
   | (with_reducible exact LeO.refl _)
   | (with_reducible exact LeO.none _)
   | (with_reducible refine LeO.ite ?_ ?_)
   | (with_reducible refine LeO.bind ?_ (fun _=>?_))
   | exact ih0 _ _
   | exact stowagelaw13_Deep.mono _ _ _ _ _
   | exact stowagelaw13_To.mono _ _ _ _
   | exact stowagelaw13_awake.mono _
   | exact stowageref13_Same.mono _ _ _ _ _ _ _
   | exact xml_Parse.mono _ _
   | exact xml_Print.mono _ _ _ _ _
   | exact LeO.none _
   | refine LeO.ite ?_ ?_
   | refine LeO.bind ?_ (fun _=>?_)
def stowagelaw13_XmlBack.T6:Bool×List (List Nat×List Nat):=(true,[([],[]),([0],[0]),([1],[1]),([2],[2]),([3,2,2],[2,3]),([2],[2]),([5,4,2],[2,5]),([4,6,6,2],[2,4,6]),([7,2],[2,7]),([2,8],[2,8])])
def stowagelaw13_XmlBack.B6:List Nat:=[0,1,3,7,15,7,63,127,255,511]
theorem stowagelaw13_XmlBack.tab6:rtab .any (opsOf Tryd.f5 6)=stowagelaw13_XmlBack.T6:=by kernel_rfl
theorem stowagelaw13_XmlBack.bits6:waitsOk stowagelaw13_XmlBack.T6.2 stowagelaw13_XmlBack.B6=true:=by kernel_rfl
def stowagelaw13_XmlBack.T15:Bool×List (List Nat×List Nat):=(true,[([],[]),([0],[0]),([1],[1]),([2],[2]),([3,2,2],[2,3]),([2],[2]),([5,4,2],[2,5]),([4,6,6,2],[2,4,6]),([2,7],[2,7]),([8,7],[8]),([9,9],[9]),([9,10],[9,10]),([11,10,0,1,2,3,4,5,6,7,8,9,10,11],[11])])
def stowagelaw13_XmlBack.B15:List Nat:=[0,1,3,7,15,7,63,127,255,511,1023,2047,4095]
theorem stowagelaw13_XmlBack.tab15:rtab .any (opsOf Tryd.f5 15)=stowagelaw13_XmlBack.T15:=by kernel_rfl
theorem stowagelaw13_XmlBack.bits15:waitsOk stowagelaw13_XmlBack.T15.2 stowagelaw13_XmlBack.B15=true:=by kernel_rfl
theorem stowagelaw13_XmlBack.calls (k:Nat) (a0_0:ByteArray) (a0_1:ByteArray) (A0_2:Option Addr) (c0_2:Nat) (l0_2:List (S24)) (a1:Bool) (a2:ByteArray) (r:Bool) (w:World) (hr0_2:Kd.C k24 w A0_2 l0_2.length l0_2) (hc0_2:l0_2.length≤c0_2) (hG:GOk w) (h:stowagelaw13_XmlBack.f k a0_0 a0_1 l0_2 a1 a2=some r) (hr:r=true) :
  Calls Tryd.prog 5 #[.agg #[.string a0_0,.string a0_1,.slice A0_2 l0_2.length c0_2],.bool a1,.string a2] w fun e w'=>e = .returned (.bool r)∧Below w.heap.size w w':=by
 have hu24:=Tryd.underlying24
 have HR0_2:=Aside0.mk hr0_2
 have HC0_2:=Aside0.mk hc0_2
 clear hr0_2 hc0_2
 have HB:=Aside0.mk (Below.refl w.heap.size w)
 unfold stowagelaw13_XmlBack.f at h
 have H:=h
 clear h
 replace H:=bndO H
 obtain⟨t447,A40,H⟩:=H
 have A4:=Aside0.mk A40
 clear A40
 replace H:=itO H
 rcases H with⟨c5,H⟩|⟨c5,H⟩
 ·skip
  have c5b0:decide (40<t447)=true:=decide_eq_true c5
  clear c5
  replace H:=bndO H
  obtain⟨t448,A60,H⟩:=H
  have A6:=Aside0.mk A60
  clear A60
  clear hr
  obtain rfl:=Option.some.inj H
  go_enter Tryd.func5,Tryd.ntmps5
  go_wp2_with (first|((with_reducible refine gate_dst (N:=3) rfl ?_);(try (refine gate_guard (by rfl) ?_;dsimp only));refine box_event ?hg (N:=3) ?hd (cs:=#[.string a0_0,.string a0_1,.slice A0_2 l0_2.length c0_2]) (t:=24) ?hr ?_;(case hd=>rfl);(case hg=>rfl);(case hr=>first|(go_simp;done)|(go_simp;rfl));intro gb446 hg w7 hbox hb;have n0_:=Aside0.mk (below_step (by repeat (first|(with_reducible first|exact HB.out|apply below_alloc|apply pw_below_drewN|apply below_drew1)|exact HB.out)) hb);have n1_:=Aside0.mk (hbox);have n2_:=Aside0.mk ((by rw [hg];exact(below_size (by repeat (first|(with_reducible first|exact HB.out|apply below_alloc|apply pw_below_drewN|apply below_drew1)|exact HB.out))):w.heap.size≤gb446));have n3_:=Aside0.mk ((by rw [hg];exact(below_size (by repeat (first|(with_reducible first|exact HB.out|apply below_alloc|apply pw_below_drewN|apply below_drew1)|exact HB.out))):w.heap.size≤gb446));clear HB;have HB:=n0_;have BK446:=n1_;have GW446:=n2_;have GE446:=n3_;clear n0_ n1_ n2_ n3_;clear hb hbox hg;have hcz8_0:w7.cell? ⟨gb446,0,none⟩=some (.string a0_0):=(blk_cell BK446.out 0).trans rfl;have hcz8_1:w7.cell? ⟨gb446,1,none⟩=some (.string a0_1):=(blk_cell BK446.out 1).trans rfl;have hcz8_2:w7.cell? ⟨gb446,2,none⟩=some (.slice A0_2 l0_2.length c0_2):=(blk_cell BK446.out 2).trans rfl;have hfz8_0:=blk_frozen BK446.out 0;have hfz8_1:=blk_frozen BK446.out 1;have hfz8_2:=blk_frozen BK446.out 2)|((with_reducible refine gate_callee (f:=21) rfl ?_);refine goesL_ (some 18) rfl rfl Tryd.func21 (by kernel_rfl) rfl #[.agg #[.string a0_0,.string a0_1,.slice A0_2 l0_2.length c0_2],.int .i64 40] rfl (by(try simp only [List.map_toArray,List.map_cons,List.map_nil]);first|done|rfl|(simp only [List.length_drop,List.length_take];rfl)) ?_;(with_reducible refine(stowagelaw13_Deep.calls k a0_0 a0_1 _ _ l0_2 40 t447 _ ?side1 ?side2 A4.out).mono ?_);(case side1=>repeat (first|exact(Kd.C_below HR0_2.out HB.out)|(with_reducible refine Kd.C_alloc ?_ _)|(with_reducible refine Kd.C_drewN ?_ _)|(with_reducible refine Kd.C_drew ?_)));(case side2=>exact HC0_2.out);rintro e w9 ⟨rfl,hb⟩;refine⟨_,rfl,?_⟩;have n0_:=Aside0.mk (blk_below (g:=gb446) (o:=.cells #[.string a0_0,.string a0_1,.slice A0_2 l0_2.length c0_2] 24 (0,0)) (by(with_reducible repeat (first|refine blk_drewN ?_ _|refine blk_drew ?_|refine blk_alloc ?_ _));exact BK446.out) hb);have n1_:=Aside0.mk (below_step (by repeat (first|(with_reducible first|exact HB.out|apply below_alloc|apply pw_below_drewN|apply below_drew1|refine below_set ?_ GE446.out)|exact HB.out)) hb);clear BK446;clear HB;have BK446:=n0_;have HB:=n1_;clear n0_ n1_;(try clear hb);(try clear hb2);(try clear hk);(try clear hi))|((with_reducible refine gate_callee (f:=14) rfl ?_);refine goesL_ (some 20) rfl rfl Tryd.func14 (by kernel_rfl) rfl #[] rfl (by(try simp only [List.map_toArray,List.map_cons,List.map_nil]);first|done|rfl|(simp only [List.length_drop,List.length_take];rfl)) ?_;(with_reducible refine(stowagelaw13_awake.calls k  t448 _ (by first|exact hG|exact gok_below hG (by repeat (first|(with_reducible first|exact HB.out|apply below_alloc|apply pw_below_drewN|apply below_drew1|refine below_set ?_ GE446.out)|exact HB.out))|exact gok_heap hG rfl|exact gok_drewN hG _|exact gok_below hG (by repeat (first|exact HB.out|exact HBW.out|exact Below.refl _ _|apply below_alloc|apply pw_below_drewN|apply below_drew1))) A6.out).mono ?_);rintro e w10 ⟨rfl,hb⟩;refine⟨_,rfl,?_⟩;have n0_:=Aside0.mk (blk_below (g:=gb446) (o:=.cells #[.string a0_0,.string a0_1,.slice A0_2 l0_2.length c0_2] 24 (0,0)) (by(with_reducible repeat (first|refine blk_drewN ?_ _|refine blk_drew ?_|refine blk_alloc ?_ _));exact BK446.out) hb);have n1_:=Aside0.mk (below_step (by repeat (first|(with_reducible first|exact HB.out|apply below_alloc|apply pw_below_drewN|apply below_drew1|refine below_set ?_ GE446.out)|exact HB.out)) hb);clear BK446;clear HB;have BK446:=n0_;have HB:=n1_;clear n0_ n1_;(try clear hb);(try clear hb2);(try clear hk);(try clear hi)))
  go_ret
  exact⟨by first|rfl|(simp [errW_none,errW_some] <;> rfl)|(simp [*,errW_none,errW_some] <;> rfl),by repeat (first|(with_reducible first|exact HB.out|apply below_alloc|apply pw_below_drewN|apply below_drew1|refine below_set ?_ GE446.out)|exact HB.out)⟩
 ·skip
  have c5b0:decide (40<t447)=false:=decide_eq_false c5
  clear c5
  replace H:=bndO H
  obtain⟨⟨t449,t450⟩,A110,H⟩:=H
  dsimp only at H
  have A11:=Aside0.mk A110
  clear A110
  have HC12:=Aside0.mk H
  clear H
  go_enter Tryd.func5,Tryd.ntmps5
  go_upto_if 28 with(first|((with_reducible refine gate_dst (N:=3) rfl ?_);(try (refine gate_guard (by rfl) ?_;dsimp only));refine box_event ?hg (N:=3) ?hd (cs:=#[.string a0_0,.string a0_1,.slice A0_2 l0_2.length c0_2]) (t:=24) ?hr ?_;(case hd=>rfl);(case hg=>rfl);(case hr=>first|(go_simp;done)|(go_simp;rfl));intro gb446 hg w13 hbox hb;have n0_:=Aside0.mk (below_step (by repeat (first|(with_reducible first|exact HB.out|apply below_alloc|apply pw_below_drewN|apply below_drew1)|exact HB.out)) hb);have n1_:=Aside0.mk (hbox);have n2_:=Aside0.mk ((by rw [hg];exact(below_size (by repeat (first|(with_reducible first|exact HB.out|apply below_alloc|apply pw_below_drewN|apply below_drew1)|exact HB.out))):w.heap.size≤gb446));have n3_:=Aside0.mk ((by rw [hg];exact(below_size (by repeat (first|(with_reducible first|exact HB.out|apply below_alloc|apply pw_below_drewN|apply below_drew1)|exact HB.out))):w.heap.size≤gb446));clear HB;have HB:=n0_;have BK446:=n1_;have GW446:=n2_;have GE446:=n3_;clear n0_ n1_ n2_ n3_;clear hb hbox hg;have hcz14_0:w13.cell? ⟨gb446,0,none⟩=some (.string a0_0):=(blk_cell BK446.out 0).trans rfl;have hcz14_1:w13.cell? ⟨gb446,1,none⟩=some (.string a0_1):=(blk_cell BK446.out 1).trans rfl;have hcz14_2:w13.cell? ⟨gb446,2,none⟩=some (.slice A0_2 l0_2.length c0_2):=(blk_cell BK446.out 2).trans rfl;have hfz14_0:=blk_frozen BK446.out 0;have hfz14_1:=blk_frozen BK446.out 1;have hfz14_2:=blk_frozen BK446.out 2)|((with_reducible refine gate_callee (f:=21) rfl ?_);refine goesL_ (some 18) rfl rfl Tryd.func21 (by kernel_rfl) rfl #[.agg #[.string a0_0,.string a0_1,.slice A0_2 l0_2.length c0_2],.int .i64 40] rfl (by(try simp only [List.map_toArray,List.map_cons,List.map_nil]);first|done|rfl|(simp only [List.length_drop,List.length_take];rfl)) ?_;(with_reducible refine(stowagelaw13_Deep.calls k a0_0 a0_1 _ _ l0_2 40 t447 _ ?side1 ?side2 A4.out).mono ?_);(case side1=>repeat (first|exact(Kd.C_below HR0_2.out HB.out)|(with_reducible refine Kd.C_alloc ?_ _)|(with_reducible refine Kd.C_drewN ?_ _)|(with_reducible refine Kd.C_drew ?_)));(case side2=>exact HC0_2.out);rintro e w15 ⟨rfl,hb⟩;refine⟨_,rfl,?_⟩;have n0_:=Aside0.mk (blk_below (g:=gb446) (o:=.cells #[.string a0_0,.string a0_1,.slice A0_2 l0_2.length c0_2] 24 (0,0)) (by(with_reducible repeat (first|refine blk_drewN ?_ _|refine blk_drew ?_|refine blk_alloc ?_ _));exact BK446.out) hb);have n1_:=Aside0.mk (below_step (by repeat (first|(with_reducible first|exact HB.out|apply below_alloc|apply pw_below_drewN|apply below_drew1|refine below_set ?_ GE446.out)|exact HB.out)) hb);clear BK446;clear HB;have BK446:=n0_;have HB:=n1_;clear n0_ n1_;(try clear hb);(try clear hb2);(try clear hk);(try clear hi);have hcz16_0:w15.cell? ⟨gb446,0,none⟩=some (.string a0_0):=(blk_cell BK446.out 0).trans rfl;have hcz16_1:w15.cell? ⟨gb446,1,none⟩=some (.string a0_1):=(blk_cell BK446.out 1).trans rfl;have hcz16_2:w15.cell? ⟨gb446,2,none⟩=some (.slice A0_2 l0_2.length c0_2):=(blk_cell BK446.out 2).trans rfl;have hfz16_0:=blk_frozen BK446.out 0;have hfz16_1:=blk_frozen BK446.out 1;have hfz16_2:=blk_frozen BK446.out 2)|((with_reducible refine gate_callee (f:=22) rfl ?_);refine goesL_ (some 24) rfl rfl Tryd.func22 (by kernel_rfl) rfl #[.agg #[.string a0_0,.string a0_1,.slice A0_2 l0_2.length c0_2],.bool a1] rfl (by(try simp only [List.map_toArray,List.map_cons,List.map_nil]);first|done|rfl|(simp only [List.length_drop,List.length_take];rfl)) ?_;(with_reducible refine(xml_Print.calls k a0_0 a0_1 _ _ l0_2 a1 t449 t450 _ ?side1 ?side2 A11.out).mono ?_);(case side1=>repeat (first|exact(Kd.C_below HR0_2.out HB.out)|(with_reducible refine Kd.C_alloc ?_ _)|(with_reducible refine Kd.C_drewN ?_ _)|(with_reducible refine Kd.C_drew ?_)));(case side2=>exact HC0_2.out);rintro e w17 ⟨rfl,hb⟩;refine⟨_,rfl,?_⟩;have n0_:=Aside0.mk (blk_below (g:=gb446) (o:=.cells #[.string a0_0,.string a0_1,.slice A0_2 l0_2.length c0_2] 24 (0,0)) (by(with_reducible repeat (first|refine blk_drewN ?_ _|refine blk_drew ?_|refine blk_alloc ?_ _));exact BK446.out) hb);have n1_:=Aside0.mk (below_step (by repeat (first|(with_reducible first|exact HB.out|apply below_alloc|apply pw_below_drewN|apply below_drew1|refine below_set ?_ GE446.out)|exact HB.out)) hb);clear BK446;clear HB;have BK446:=n0_;have HB:=n1_;clear n0_ n1_;(try clear hb);(try clear hb2);(try clear hk);(try clear hi)))
  (try simp only [Act.put,List.setIfInBounds_toArray,List.set_cons_zero,List.set_cons_succ])
  go_cut [] (fun wc=>∃ (kq:Nat),Aside0 (stowagelaw13_XmlBack.j0 kq a1 a2=some r)∧Aside0 (kq≤k)∧Aside0 (wc.heap[gb446]? = some (.cells #[.string a0_0,.string a0_1,(.slice A0_2 l0_2.length c0_2)] 24 (0,0)))∧Aside0 (Below w.heap.size w wc))
  case first=>
   have H:=HC12.out
   clear HC12
   replace H:=itO H
   rcases H with⟨c18,H⟩|⟨c18,H⟩
   ·skip
    have c18b0:(t450 == 0)=true:=beq_iff_eq.mpr c18
    have c18b1:(t450 != 0)=false:=bne_eq_false_iff_eq.mpr c18
    clear c18
    (first|rw [c18b0]|(simp only [i64_w,i32_w];rw [c18b0])|skip)
    replace H:=bndO H
    obtain⟨⟨t451,t452,t453,t456⟩,A190,H⟩:=H
    dsimp only at H
    have A19:=Aside0.mk A190
    clear A190
    replace H:=itO H
    rcases H with⟨c20,H⟩|⟨c20,H⟩
    ·skip
     have c20b0:(t456 == 0)=true:=beq_iff_eq.mpr c20
     have c20b1:(t456 != 0)=false:=bne_eq_false_iff_eq.mpr c20
     clear c20
     replace H:=bndO H
     obtain⟨⟨t458,t459,t460⟩,A210,H⟩:=H
     dsimp only at H
     have A21:=Aside0.mk A210
     clear A210
     replace H:=bndO H
     obtain⟨⟨t463,t464,t465⟩,A220,H⟩:=H
     dsimp only at H
     have A22:=Aside0.mk A220
     clear A220
     replace H:=bndO H
     obtain⟨t468,A230,H⟩:=H
     have A23:=Aside0.mk A230
     clear A230
     by_cases c24:t468=true
     ·subst c24
      replace H:=itT H
      have H':=Aside0.mk H
      clear H
      try go_wp2_with (first|((with_reducible refine gate_callee (f:=10) rfl ?_);refine goesL_ (some 31) rfl rfl Tryd.func10 (by kernel_rfl) rfl #[.string t449] rfl (by(try simp only [List.map_toArray,List.map_cons,List.map_nil]);first|done|rfl|(simp only [List.length_drop,List.length_take];rfl)) ?_;(with_reducible refine(xml_Parse.calls k t449 t451 t452 t453 t456 _ (by first|exact hG|exact gok_below hG (by repeat (first|(with_reducible first|exact HB.out|apply below_alloc|apply pw_below_drewN|apply below_drew1|refine below_set ?_ GE446.out)|exact HB.out))|exact gok_heap hG rfl|exact gok_drewN hG _|exact gok_below hG (by repeat (first|exact HB.out|exact HBW.out|exact Below.refl _ _|apply below_alloc|apply pw_below_drewN|apply below_drew1))) A19.out).mono ?_);rintro e w25 ⟨v454,rfl,ho0,hb⟩;refine⟨_,rfl,?_⟩;have n0_:=Aside0.mk (Kd.V_lower (Kd.V_mono (ok':=fun k_=>k_≠gb446) ho0 (fun k_ hk_=>(Kd.freshB (g:=gb446) (o:=.cells #[.string a0_0,.string a0_1,.slice A0_2 l0_2.length c0_2] 24 (0,0)) (by(with_reducible repeat (first|refine blk_drewN ?_ _|refine blk_drew ?_|refine blk_alloc ?_ _));exact BK446.out) k_ hk_))) (below_size (by repeat (first|(with_reducible first|exact HB.out|apply below_alloc|apply pw_below_drewN|apply below_drew1|refine below_set ?_ GE446.out)|exact HB.out))));have n1_:=Aside0.mk (blk_below (g:=gb446) (o:=.cells #[.string a0_0,.string a0_1,.slice A0_2 l0_2.length c0_2] 24 (0,0)) (by(with_reducible repeat (first|refine blk_drewN ?_ _|refine blk_drew ?_|refine blk_alloc ?_ _));exact BK446.out) hb);have n2_:=Aside0.mk (below_step (by repeat (first|(with_reducible first|exact HB.out|apply below_alloc|apply pw_below_drewN|apply below_drew1|refine below_set ?_ GE446.out)|exact HB.out)) hb);clear BK446;clear HB;have HO455:=n0_;have BK446:=n1_;have HB:=n2_;clear n0_ n1_ n2_;(try clear hb);(try clear hb2);(try clear hk);(try clear hi);(try clear ho0))|((with_reducible refine gate_dst (N:=9) rfl ?_);(try (refine gate_guard (by rfl) ?_;dsimp only));refine box_event ?hg (N:=9) ?hd (cs:=#[.string (⟨#[]⟩ : ByteArray),.string (⟨#[]⟩ : ByteArray),.slice none 0 0]) (t:=24) ?hr ?_;(case hd=>rfl);(case hg=>rfl);(case hr=>first|(go_simp;done)|(go_simp;rfl));intro gb457 hg w26 hbox hb;have n0_:=Aside0.mk (Kd.V_below (Kd.V_elderB (by(with_reducible repeat (first|apply Kd.V_alloc|apply Kd.V_drewN|apply Kd.V_drew));exact HO455.out) gb457 (Nat.le_of_eq hg.symm)) hb);have n1_:=Aside0.mk (blk_below (g:=gb446) (o:=.cells #[.string a0_0,.string a0_1,.slice A0_2 l0_2.length c0_2] 24 (0,0)) (by(with_reducible repeat (first|refine blk_drewN ?_ _|refine blk_drew ?_|refine blk_alloc ?_ _));exact BK446.out) hb);have n2_:=Aside0.mk (below_step (by repeat (first|(with_reducible first|exact HB.out|apply below_alloc|apply pw_below_drewN|apply below_drew1|refine below_set ?_ GE446.out)|exact HB.out)) hb);have n3_:=Aside0.mk (hbox);have n4_:=Aside0.mk ((by rw [hg];exact(below_size (by repeat (first|(with_reducible first|exact HB.out|apply below_alloc|apply pw_below_drewN|apply below_drew1|refine below_set ?_ GE446.out)|exact HB.out))):w.heap.size≤gb457));have n5_:=Aside0.mk ((by rw [hg];exact(below_size (by repeat (first|(with_reducible first|exact HB.out|apply below_alloc|apply pw_below_drewN|apply below_drew1|refine below_set ?_ GE446.out)|exact HB.out))):w.heap.size≤gb457));have n6_:=Aside0.mk ((by rw [hg];exact Nat.ne_of_lt (blk_lt (g:=gb446) (o:=.cells #[.string a0_0,.string a0_1,.slice A0_2 l0_2.length c0_2] 24 (0,0)) (by(with_reducible repeat (first|refine blk_drewN ?_ _|refine blk_drew ?_|refine blk_alloc ?_ _));exact BK446.out)):gb446≠gb457));have n7_:=Aside0.mk ((by rw [hg];exact Nat.ne_of_gt (blk_lt (g:=gb446) (o:=.cells #[.string a0_0,.string a0_1,.slice A0_2 l0_2.length c0_2] 24 (0,0)) (by(with_reducible repeat (first|refine blk_drewN ?_ _|refine blk_drew ?_|refine blk_alloc ?_ _));exact BK446.out)):gb457≠gb446));clear HO455;clear BK446;clear HB;have HO455:=n0_;have BK446:=n1_;have HB:=n2_;have BK457:=n3_;have GW457:=n4_;have GE457:=n5_;have NB446_457:=n6_;have NB457_446:=n7_;clear n0_ n1_ n2_ n3_ n4_ n5_ n6_ n7_;clear hb hbox hg;have hnb27:=NB457_446.out;have hnc27:=NB446_457.out;have hcz28_0:w26.cell? ⟨gb457,0,none⟩=some (.string (⟨#[]⟩ : ByteArray)):=(blk_cell BK457.out 0).trans rfl;have hcz28_1:w26.cell? ⟨gb457,1,none⟩=some (.string (⟨#[]⟩ : ByteArray)):=(blk_cell BK457.out 1).trans rfl;have hcz28_2:w26.cell? ⟨gb457,2,none⟩=some (.slice none 0 0):=(blk_cell BK457.out 2).trans rfl;have hfz28_0:=blk_frozen BK457.out 0;have hfz28_1:=blk_frozen BK457.out 1;have hfz28_2:=blk_frozen BK457.out 2;obtain⟨Ao29,co29,eo29⟩:=Kd.V_slice HO455.out;subst eo29))
      have n0_:Aside0 (Kd.V k24 24 (((w26.setCell ⟨gb457,0,none⟩ (.string t451)).setCell ⟨gb457,1,none⟩ (.string t452)).setCell ⟨gb457,2,none⟩ (.slice Ao29 t453.length co29)) w.heap.size (fun k_=>k_≠gb446∧k_≠gb457) (.slice Ao29 t453.length co29) t453):=⟨by(with_reducible repeat (first|apply Kd.V_alloc|apply Kd.V_drewN|apply Kd.V_drew));exact Kd.V_mono (Kd.V_far (p:=⟨gb457,2,none⟩) (Kd.V_far (p:=⟨gb457,1,none⟩) (Kd.V_far (p:=⟨gb457,0,none⟩) (Kd.V_mono HO455.out (fun k_ hk=>(⟨hk,hk.2⟩ : _∧k_≠gb457))) (fun _ hk=>hk.2) (.string t451)) (fun _ hk=>hk.2) (.string t452)) (fun _ hk=>hk.2) (.slice Ao29 t453.length co29)) (fun _ hk=>⟨hk.1.1,hk.1.2⟩)⟩
      have n1_:Aside0 ((((w26.setCell ⟨gb457,0,none⟩ (.string t451)).setCell ⟨gb457,1,none⟩ (.string t452)).setCell ⟨gb457,2,none⟩ (.slice Ao29 t453.length co29)).heap[gb446]? = some (.cells #[.string a0_0,.string a0_1,.slice A0_2 l0_2.length c0_2] 24 (0,0))):=⟨by(with_reducible repeat (first|refine blk_drewN ?_ _|refine blk_drew ?_|refine blk_alloc ?_ _));refine blk_far ?_ NB446_457.out _;(with_reducible repeat (first|refine blk_drewN ?_ _|refine blk_drew ?_|refine blk_alloc ?_ _));refine blk_far ?_ NB446_457.out _;(with_reducible repeat (first|refine blk_drewN ?_ _|refine blk_drew ?_|refine blk_alloc ?_ _));refine blk_far ?_ NB446_457.out _;(with_reducible repeat (first|refine blk_drewN ?_ _|refine blk_drew ?_|refine blk_alloc ?_ _));exact BK446.out⟩
      have n2_:Aside0 ((((w26.setCell ⟨gb457,0,none⟩ (.string t451)).setCell ⟨gb457,1,none⟩ (.string t452)).setCell ⟨gb457,2,none⟩ (.slice Ao29 t453.length co29)).heap[gb457]? = some (.cells #[.string t451,.string t452,.slice Ao29 t453.length co29] 24 (0,0))):=⟨by(with_reducible repeat (first|refine blk_drewN ?_ _|refine blk_drew ?_|refine blk_alloc ?_ _));refine blk_put (cs:=#[.string t451,.string t452,.slice none 0 0]) ?_ 2 _ rfl;(with_reducible repeat (first|refine blk_drewN ?_ _|refine blk_drew ?_|refine blk_alloc ?_ _));refine blk_put (cs:=#[.string t451,.string (⟨#[]⟩ : ByteArray),.slice none 0 0]) ?_ 1 _ rfl;(with_reducible repeat (first|refine blk_drewN ?_ _|refine blk_drew ?_|refine blk_alloc ?_ _));refine blk_put (cs:=#[.string (⟨#[]⟩ : ByteArray),.string (⟨#[]⟩ : ByteArray),.slice none 0 0]) ?_ 0 _ rfl;(with_reducible repeat (first|refine blk_drewN ?_ _|refine blk_drew ?_|refine blk_alloc ?_ _));exact BK457.out⟩
      have n3_:Aside0 (Below w.heap.size w (((w26.setCell ⟨gb457,0,none⟩ (.string t451)).setCell ⟨gb457,1,none⟩ (.string t452)).setCell ⟨gb457,2,none⟩ (.slice Ao29 t453.length co29))):=⟨by repeat (first|(with_reducible first|exact HB.out|apply below_alloc|apply pw_below_drewN|apply below_drew1|refine below_set ?_ GE446.out|refine below_set ?_ GE457.out)|exact HB.out)⟩
      (try clear HO455)
      (try clear BK446)
      (try clear BK457)
      (try clear HB)
      generalize (((w26.setCell ⟨gb457,0,none⟩ (.string t451)).setCell ⟨gb457,1,none⟩ (.string t452)).setCell ⟨gb457,2,none⟩ (.slice Ao29 t453.length co29))=w30 at n0_ n1_ n2_ n3_ ⊢
      have HO455:=n0_
      have BK446:=n1_
      have BK457:=n2_
      have HB:=n3_
      clear n0_ n1_ n2_ n3_
      have n0_:=Aside0.mk (Kd.V_drew HO455.out)
      have n1_:=Aside0.mk (blk_drew BK446.out)
      have n2_:=Aside0.mk (blk_drew BK457.out)
      have n3_:=Aside0.mk (below_drew1 HB.out)
      clear HO455
      clear BK446
      clear BK457
      clear HB
      have HO455:=n0_
      have BK446:=n1_
      have BK457:=n2_
      have HB:=n3_
      clear n0_ n1_ n2_ n3_
      refine start_ (n:=10) (S:=fun w'=>w'.cell? ⟨gb457,0,none⟩=some (.string t451)∧w'.cell? ⟨gb457,1,none⟩=some (.string t452)∧w'.cell? ⟨gb457,2,none⟩=some (.slice Ao29 t453.length co29)∧w'.cell? ⟨gb446,0,none⟩=some (.string a0_0)∧w'.cell? ⟨gb446,1,none⟩=some (.string a0_1)∧w'.cell? ⟨gb446,2,none⟩=some (.slice A0_2 l0_2.length c0_2)) (ds:=[]) #[F,F,F,F,F,F,F,F,F,F] (by kernel_rfl) rfl rfl ⟨(blk_cell BK457.out 0).trans rfl,(blk_cell BK457.out 1).trans rfl,(blk_cell BK457.out 2).trans rfl,(blk_cell BK446.out 0).trans rfl,(blk_cell BK446.out 1).trans rfl,(blk_cell BK446.out 2).trans rfl⟩ (fun hHeld=>?_);refine with_tabW stowagelaw13_XmlBack.tab6 stowagelaw13_XmlBack.bits6 (fun HT_ HW_=>?_)
      generalize w30.drew=w31 at HO455 BK446 BK457 HB hHeld ⊢
      refine pure_ (i:=0) (N:=some 34) (v:=?_) (a':=?_) #[T,F,F,F,F,F,F,F,F,F] rfl rfl (any_of HT_.out (by kernel_rfl)) (fun _ _ _ h=>h) (Or.inl ⟨by rfl,?_⟩) ?_ ?_
      rotate_left
      ·intro w'
       go_simp
       with_reducible rfl
      rotate_left
      ·simp only [Act.put,List.setIfInBounds_toArray,List.set_cons_zero,List.set_cons_succ,i64_w,i32_w]
       rfl
      refine pure_ (i:=1) (N:=some 35) (v:=?_) (a':=?_) #[T,T,F,F,F,F,F,F,F,F] rfl rfl (any_of HT_.out (by kernel_rfl)) (fun _ _ _ h=>h) (Or.inl ⟨by rfl,?_⟩) ?_ ?_
      rotate_left
      ·intro w'
       go_simp
       with_reducible rfl
      rotate_left
      ·simp only [Act.put,List.setIfInBounds_toArray,List.set_cons_zero,List.set_cons_succ,i64_w,i32_w]
       rfl
      refine pure_ (i:=2) (N:=some 36) (v:=?_) (a':=?_) #[T,T,T,F,F,F,F,F,F,F] rfl rfl (any_of HT_.out (by kernel_rfl)) (fun _ _ _ h=>h) (Or.inl ⟨by rfl,?_⟩) ?_ ?_
      rotate_left
      ·intro w'
       go_simp
       with_reducible rfl
      rotate_left
      ·simp only [Act.put,List.setIfInBounds_toArray,List.set_cons_zero,List.set_cons_succ,i64_w,i32_w]
       rfl
      refine take_ (i:=3) (N:=some 37) (v:=?_) (a':=?_) #[T,T,T,T,F,F,F,F,F,F] rfl rfl (take_ofW HT_.out HW_.out (by kernel_rfl)) (fun _ _ _ h=>h) (Or.inl ⟨by rfl,?_⟩) hHeld ?_ ?_
      rotate_left
      ·rintro w' ⟨s0,s1,s2,s3,s4,s5⟩
       go_simp
       with_reducible rfl
      rotate_left
      ·simp only [Act.put,List.setIfInBounds_toArray,List.set_cons_zero,List.set_cons_succ,i64_w,i32_w]
       rfl
      refine take_ (i:=5) (N:=some 39) (v:=?_) (a':=?_) #[T,T,T,T,F,T,F,F,F,F] rfl rfl (take_ofW HT_.out HW_.out (by kernel_rfl)) (fun _ _ _ h=>h) (Or.inl ⟨by rfl,?_⟩) hHeld ?_ ?_
      rotate_left
      ·rintro w' ⟨s0,s1,s2,s3,s4,s5⟩
       go_simp
       with_reducible rfl
      rotate_left
      ·simp only [Act.put,List.setIfInBounds_toArray,List.set_cons_zero,List.set_cons_succ,i64_w,i32_w]
       rfl
      refine one_ (i:=4) (N:=some 38) #[T,T,T,T,T,T,F,F,F,F] rfl rfl (one_of HT_.out (by kernel_rfl)) (by decide) (fun K hK=>?_)
      refine goes_ Tryd.func13 (by kernel_rfl) rfl #[.agg #[.string t451,.string t452,.slice Ao29 t453.length co29]] (by rfl) rfl rfl (by(try simp only [List.map_toArray,List.map_cons,List.map_nil]);first|done|rfl|(simp only [List.length_drop,List.length_take];rfl)) ?_
      with_reducible refine(stowagelaw13_To.calls k t451 t452 _ _ t453 t458 t459 t460 _ ?side1 ?side2 A21.out).mono ?_
      (case side1=>repeat (first|exact(Kd.V_reads' HO455.out).2.2|(with_reducible refine Kd.C_alloc ?_ _)|(with_reducible refine Kd.C_drewN ?_ _)|(with_reducible refine Kd.C_drew ?_)))
      (case side2=>exact(Kd.V_reads' HO455.out).2.1)
      rintro e w32 ⟨v461,rfl,ho0,hb⟩
      refine⟨_,rfl,?_⟩
      have n0_:=Aside0.mk (Kd.V_elder' (by(with_reducible repeat (first|apply Kd.V_alloc|apply Kd.V_drewN|apply Kd.V_drew));exact HO455.out) (by first|exact Kd.R_base ho0|exact Kd.R_base ho0) hb)
      have n1_:=Aside0.mk (Kd.R_lower ho0 (below_size (by repeat (first|(with_reducible first|exact HB.out|apply below_alloc|apply pw_below_drewN|apply below_drew1|refine below_set ?_ GE446.out|refine below_set ?_ GE457.out)|exact HB.out))))
      have n2_:=Aside0.mk (blk_below (g:=gb446) (o:=.cells #[.string a0_0,.string a0_1,.slice A0_2 l0_2.length c0_2] 24 (0,0)) (by(with_reducible repeat (first|refine blk_drewN ?_ _|refine blk_drew ?_|refine blk_alloc ?_ _));exact BK446.out) hb)
      have n3_:=Aside0.mk (blk_below (g:=gb457) (o:=.cells #[.string t451,.string t452,.slice Ao29 t453.length co29] 24 (0,0)) (by(with_reducible repeat (first|refine blk_drewN ?_ _|refine blk_drew ?_|refine blk_alloc ?_ _));exact BK457.out) hb)
      have n4_:=Aside0.mk (below_step (by repeat (first|(with_reducible first|exact HB.out|apply below_alloc|apply pw_below_drewN|apply below_drew1|refine below_set ?_ GE446.out|refine below_set ?_ GE457.out)|exact HB.out)) hb)
      clear HO455
      clear BK446
      clear BK457
      clear HB
      have HO455:=n0_
      have HO462:=n1_
      have BK446:=n2_
      have BK457:=n3_
      have HB:=n4_
      clear n0_ n1_ n2_ n3_ n4_
      (try clear hb)
      (try clear hb2)
      (try clear hk)
      (try clear hi)
      (try clear ho0)
      refine hK.out _ _ ⟨(blk_cell BK457.out 0).trans rfl,(blk_cell BK457.out 1).trans rfl,(blk_cell BK457.out 2).trans rfl,(blk_cell BK446.out 0).trans rfl,(blk_cell BK446.out 1).trans rfl,(blk_cell BK446.out 2).trans rfl⟩ (fun hHeld=>?_)
      clear hK K
      refine norm_ (a':=?_) ?_ ?_
      rotate_left
      ·show Act.put _ (some 38) _=_
       simp only [Act.put,List.setIfInBounds_toArray,List.set_cons_zero,List.set_cons_succ,i64_w,i32_w]
       rfl
      refine one_ (i:=6) (N:=some 40) #[T,T,T,T,T,T,T,F,F,F] rfl rfl (one_of HT_.out (by kernel_rfl)) (by decide) (fun K hK=>?_)
      refine goes_ Tryd.func13 (by kernel_rfl) rfl #[.agg #[.string a0_0,.string a0_1,.slice A0_2 l0_2.length c0_2]] (by rfl) rfl rfl (by(try simp only [List.map_toArray,List.map_cons,List.map_nil]);first|done|rfl|(simp only [List.length_drop,List.length_take];rfl)) ?_
      with_reducible refine(stowagelaw13_To.calls k a0_0 a0_1 _ _ l0_2 t463 t464 t465 _ ?side1 ?side2 A22.out).mono ?_
      (case side1=>repeat (first|exact(Kd.C_below HR0_2.out HB.out)|(with_reducible refine Kd.C_alloc ?_ _)|(with_reducible refine Kd.C_drewN ?_ _)|(with_reducible refine Kd.C_drew ?_)))
      (case side2=>exact HC0_2.out)
      rintro e w33 ⟨v466,rfl,ho0,hb⟩
      refine⟨_,rfl,?_⟩
      have n0_:=Aside0.mk (Kd.V_elder' (by(with_reducible repeat (first|apply Kd.V_alloc|apply Kd.V_drewN|apply Kd.V_drew));exact HO455.out) (by first|exact Kd.R_base ho0|exact Kd.R_base ho0) hb)
      have n1_:=Aside0.mk (Kd.R_elder' (by(with_reducible repeat (first|apply Kd.R_alloc|apply Kd.R_drewN|apply Kd.R_drew));exact HO462.out) (by first|exact Kd.R_base ho0|exact Kd.R_base ho0) hb)
      have n2_:=Aside0.mk (Kd.R_lower (Kd.R_new' ho0 (Kd.R_lt (by(with_reducible repeat (first|apply Kd.R_alloc|apply Kd.R_drewN|apply Kd.R_drew));exact HO462.out))) (below_size (by repeat (first|(with_reducible first|exact HB.out|apply below_alloc|apply pw_below_drewN|apply below_drew1|refine below_set ?_ GE446.out|refine below_set ?_ GE457.out)|exact HB.out))))
      have n3_:=Aside0.mk (blk_below (g:=gb446) (o:=.cells #[.string a0_0,.string a0_1,.slice A0_2 l0_2.length c0_2] 24 (0,0)) (by(with_reducible repeat (first|refine blk_drewN ?_ _|refine blk_drew ?_|refine blk_alloc ?_ _));exact BK446.out) hb)
      have n4_:=Aside0.mk (blk_below (g:=gb457) (o:=.cells #[.string t451,.string t452,.slice Ao29 t453.length co29] 24 (0,0)) (by(with_reducible repeat (first|refine blk_drewN ?_ _|refine blk_drew ?_|refine blk_alloc ?_ _));exact BK457.out) hb)
      have n5_:=Aside0.mk (below_step (by repeat (first|(with_reducible first|exact HB.out|apply below_alloc|apply pw_below_drewN|apply below_drew1|refine below_set ?_ GE446.out|refine below_set ?_ GE457.out)|exact HB.out)) hb)
      clear HO455
      clear HO462
      clear BK446
      clear BK457
      clear HB
      have HO455:=n0_
      have HO462:=n1_
      have HO467:=n2_
      have BK446:=n3_
      have BK457:=n4_
      have HB:=n5_
      clear n0_ n1_ n2_ n3_ n4_ n5_
      (try clear hb)
      (try clear hb2)
      (try clear hk)
      (try clear hi)
      (try clear ho0)
      obtain⟨Ao34,co34,eo34⟩:=Kd.R_slice HO462.out
      (first|subst eo34|(injection eo34 with f1_ f2_ f3_;have f4_:=f1_.symm;have f5_:=f3_.symm;clear f1_ f2_ f3_;subst f4_;subst f5_))
      obtain⟨Ao35,co35,eo35⟩:=Kd.R_slice HO467.out
      (first|subst eo35|(injection eo35 with f1_ f2_ f3_;have f4_:=f1_.symm;have f5_:=f3_.symm;clear f1_ f2_ f3_;subst f4_;subst f5_))
      refine hK.out _ _ ⟨(blk_cell BK457.out 0).trans rfl,(blk_cell BK457.out 1).trans rfl,(blk_cell BK457.out 2).trans rfl,(blk_cell BK446.out 0).trans rfl,(blk_cell BK446.out 1).trans rfl,(blk_cell BK446.out 2).trans rfl⟩ (fun hHeld=>?_)
      clear hK K
      refine norm_ (a':=?_) ?_ ?_
      rotate_left
      ·show Act.put _ (some 40) _=_
       simp only [Act.put,List.setIfInBounds_toArray,List.set_cons_zero,List.set_cons_succ,i64_w,i32_w]
       rfl
      refine one_ (i:=7) (N:=some 41) #[T,T,T,T,T,T,T,T,F,F] rfl rfl (one_of HT_.out (by kernel_rfl)) (by decide) (fun K hK=>?_)
      refine goes_ Tryd.func12 (by kernel_rfl) rfl #[.agg #[.string t458,.string t459,.slice Ao34 t460.length co34],.agg #[.string t463,.string t464,.slice Ao35 t465.length co35]] (by rfl) rfl rfl (by(try simp only [List.map_toArray,List.map_cons,List.map_nil]);first|done|rfl|(simp only [List.length_drop,List.length_take];rfl)) ?_
      with_reducible refine(stowageref13_Same.calls k t458 t459 _ _ t460 t463 t464 _ _ t465 true _ ?side1 ?side2 ?side3 ?side4 A23.out).mono ?_
      (case side1=>repeat (first|exact(Kd.R_reads' HO462.out).2.2|(with_reducible refine Kd.C_alloc ?_ _)|(with_reducible refine Kd.C_drewN ?_ _)|(with_reducible refine Kd.C_drew ?_)))
      (case side2=>exact(Kd.R_reads' HO462.out).2.1)
      (case side3=>repeat (first|exact(Kd.R_reads' HO467.out).2.2|(with_reducible refine Kd.C_alloc ?_ _)|(with_reducible refine Kd.C_drewN ?_ _)|(with_reducible refine Kd.C_drew ?_)))
      (case side4=>exact(Kd.R_reads' HO467.out).2.1)
      rintro e w36 ⟨rfl,hb⟩
      refine⟨_,rfl,?_⟩
      have n0_:=Aside0.mk (Kd.V_below (by(with_reducible repeat (first|apply Kd.V_alloc|apply Kd.V_drewN|apply Kd.V_drew));exact HO455.out) hb)
      have n1_:=Aside0.mk (Kd.R_below (by(with_reducible repeat (first|apply Kd.R_alloc|apply Kd.R_drewN|apply Kd.R_drew));exact HO462.out) hb)
      have n2_:=Aside0.mk (Kd.R_below (by(with_reducible repeat (first|apply Kd.R_alloc|apply Kd.R_drewN|apply Kd.R_drew));exact HO467.out) hb)
      have n3_:=Aside0.mk (blk_below (g:=gb446) (o:=.cells #[.string a0_0,.string a0_1,.slice A0_2 l0_2.length c0_2] 24 (0,0)) (by(with_reducible repeat (first|refine blk_drewN ?_ _|refine blk_drew ?_|refine blk_alloc ?_ _));exact BK446.out) hb)
      have n4_:=Aside0.mk (blk_below (g:=gb457) (o:=.cells #[.string t451,.string t452,.slice Ao29 t453.length co29] 24 (0,0)) (by(with_reducible repeat (first|refine blk_drewN ?_ _|refine blk_drew ?_|refine blk_alloc ?_ _));exact BK457.out) hb)
      have n5_:=Aside0.mk (below_step (by repeat (first|(with_reducible first|exact HB.out|apply below_alloc|apply pw_below_drewN|apply below_drew1|refine below_set ?_ GE446.out|refine below_set ?_ GE457.out)|exact HB.out)) hb)
      clear HO455
      clear HO462
      clear HO467
      clear BK446
      clear BK457
      clear HB
      have HO455:=n0_
      have HO462:=n1_
      have HO467:=n2_
      have BK446:=n3_
      have BK457:=n4_
      have HB:=n5_
      clear n0_ n1_ n2_ n3_ n4_ n5_
      (try clear hb)
      (try clear hb2)
      (try clear hk)
      (try clear hi)
      refine hK.out _ _ ⟨(blk_cell BK457.out 0).trans rfl,(blk_cell BK457.out 1).trans rfl,(blk_cell BK457.out 2).trans rfl,(blk_cell BK446.out 0).trans rfl,(blk_cell BK446.out 1).trans rfl,(blk_cell BK446.out 2).trans rfl⟩ (fun hHeld=>?_)
      clear hK K
      refine norm_ (a':=?_) ?_ ?_
      rotate_left
      ·show Act.put _ (some 41) _=_
       simp only [Act.put,List.setIfInBounds_toArray,List.set_cons_zero,List.set_cons_succ,i64_w,i32_w]
       rfl
      refine pure_ (i:=8) (N:=some 42) (v:=?_) (a':=?_) #[T,T,T,T,T,T,T,T,T,F] rfl rfl (any_of HT_.out (by kernel_rfl)) (fun _ _ _ h=>h) (Or.inl ⟨by rfl,?_⟩) ?_ ?_
      rotate_left
      ·intro w'
       go_simp
       with_reducible rfl
      rotate_left
      ·simp only [Act.put,List.setIfInBounds_toArray,List.set_cons_zero,List.set_cons_succ,i64_w,i32_w]
       rfl
      refine pure_ (i:=9) (N:=some 43) (v:=?_) (a':=?_) #[T,T,T,T,T,T,T,T,T,T] rfl rfl (any_of HT_.out (by kernel_rfl)) (fun _ _ _ h=>h) (Or.inl ⟨by rfl,?_⟩) ?_ ?_
      rotate_left
      ·intro w'
       go_simp
       with_reducible rfl
      rotate_left
      ·simp only [Act.put,List.setIfInBounds_toArray,List.set_cons_zero,List.set_cons_succ,i64_w,i32_w]
       rfl
      refine done_ (done_of HT_.out (by kernel_rfl)) ?_
      try go_wp2
      go_meet
      case rel=>exact⟨_,H',⟨by first|omega|exact Nat.le_refl _⟩,⟨by(with_reducible repeat (first|refine blk_drewN ?_ _|refine blk_drew ?_|refine blk_alloc ?_ _));exact BK446.out⟩,⟨by repeat (first|(with_reducible first|exact HB.out|apply below_alloc|apply pw_below_drewN|apply below_drew1|refine below_set ?_ GE446.out|refine below_set ?_ GE457.out)|exact HB.out)⟩⟩
     ·replace c24:=Bool.eq_false_iff.mpr c24
      subst c24
      replace H:=itF H
      rw [hr] at H
      exact absurd H (by simp)
    ·skip
     have c20b0:(t456 == 0)=false:=beq_eq_false_iff_ne.mpr c20
     have c20b1:(t456 != 0)=true:=bne_iff_ne.mpr c20
     rw [hr] at H
     exact absurd H (by simp)
   ·skip
    have c18b0:(t450 == 0)=false:=beq_eq_false_iff_ne.mpr c18
    have c18b1:(t450 != 0)=true:=bne_iff_ne.mpr c18
    (first|rw [c18b0]|(simp only [i64_w,i32_w];rw [c18b0])|skip)
    have H':=Aside0.mk H
    clear H
    go_wp2
    go_meet
    case rel=>exact⟨_,H',⟨by first|omega|exact Nat.le_refl _⟩,⟨by(with_reducible repeat (first|refine blk_drewN ?_ _|refine blk_drew ?_|refine blk_alloc ?_ _));exact BK446.out⟩,⟨by repeat (first|(with_reducible first|exact HB.out|apply below_alloc|apply pw_below_drewN|apply below_drew1|refine below_set ?_ GE446.out)|exact HB.out)⟩⟩
  case rest=>
   clear HC12
   try clear c1
   try clear c2
   try clear p2
   try clear c5
   try clear c5b0
   try clear c10
   try clear c12
   try clear c13
   try clear c14
   try clear c18
   try clear c18b0
   try clear c18b1
   try clear c20
   try clear c20b0
   try clear c20b1
   try clear c21
   try clear c22
   try clear c24
   try clear c27
   try clear hcz14_0
   try clear hcz14_1
   try clear hcz14_2
   try clear hcz16_0
   try clear hcz16_1
   try clear hcz16_2
   try clear hcz28_0
   try clear hcz28_1
   try clear hcz28_2
   try clear hcz8_0
   try clear hcz8_1
   try clear hcz8_2
   try clear hfz14_0
   try clear hfz14_1
   try clear hfz14_2
   try clear hfz16_0
   try clear hfz16_1
   try clear hfz16_2
   try clear hfz28_0
   try clear hfz28_1
   try clear hfz28_2
   try clear hfz8_0
   try clear hfz8_1
   try clear hfz8_2
   obtain⟨kq,HA,HJ11,BK446,HB⟩:=hcut
   cases kq with
   | zero=>exact absurd HA.out (by simp [stowagelaw13_XmlBack.j0])
   | succ kj11=>
    have H:=HA.out
    clear HA
    simp only [stowagelaw13_XmlBack.j0] at H
    replace H:=bndO H
    obtain⟨⟨t469,t470,t471,t474⟩,A370,H⟩:=H
    dsimp only at H
    have A37:=Aside0.mk A370
    clear A370
    replace H:=itO H
    rcases H with⟨c38,H⟩|⟨c38,H⟩
    ·skip
     have c38b0:(t474 == 0)=true:=beq_iff_eq.mpr c38
     have c38b1:(t474 != 0)=false:=bne_eq_false_iff_eq.mpr c38
     clear c38
     replace H:=bndO H
     obtain⟨⟨t477,t478⟩,A390,H⟩:=H
     dsimp only at H
     have A39:=Aside0.mk A390
     clear A390
     replace H:=itO H
     rcases H with⟨c40,H⟩|⟨c40,H⟩
     ·skip
      have c40b0:(t478 == 0)=true:=beq_iff_eq.mpr c40
      have c40b1:(t478 != 0)=false:=bne_eq_false_iff_eq.mpr c40
      clear c40
      replace H:=bndO H
      obtain⟨⟨t480,t481,t482,t485⟩,A410,H⟩:=H
      dsimp only at H
      have A41:=Aside0.mk A410
      clear A410
      replace H:=itO H
      rcases H with⟨c42,H⟩|⟨c42,H⟩
      ·skip
       have c42b0:(t485 == 0)=true:=beq_iff_eq.mpr c42
       have c42b1:(t485 != 0)=false:=bne_eq_false_iff_eq.mpr c42
       clear c42
       replace H:=bndO H
       obtain⟨⟨t487,t488,t489⟩,A430,H⟩:=H
       dsimp only at H
       have A43:=Aside0.mk A430
       clear A430
       replace H:=bndO H
       obtain⟨⟨t492,t493,t494⟩,A440,H⟩:=H
       dsimp only at H
       have A44:=Aside0.mk A440
       clear A440
       replace H:=bndO H
       obtain⟨t497,A450,H⟩:=H
       have A45:=Aside0.mk A450
       clear A450
       by_cases c46:t497=true
       ·subst c46
        replace H:=itT H
        replace H:=bndO H
        obtain⟨t498,A470,H⟩:=H
        have A47:=Aside0.mk A470
        clear A470
        clear hr
        obtain rfl:=Option.some.inj H
        try go_wp2_with (first|((with_reducible refine gate_callee (f:=10) rfl ?_);refine goesL_ (some 46) rfl rfl Tryd.func10 (by kernel_rfl) rfl #[.string a2] rfl (by(try simp only [List.map_toArray,List.map_cons,List.map_nil]);first|done|rfl|(simp only [List.length_drop,List.length_take];rfl)) ?_;(with_reducible refine(xml_Parse.calls kj11 a2 t469 t470 t471 t474 _ (by first|exact hG|exact gok_below hG (by repeat (first|(with_reducible first|exact HB.out|apply below_alloc|apply pw_below_drewN|apply below_drew1|refine below_set ?_ GE446.out)|exact HB.out))|exact gok_heap hG rfl|exact gok_drewN hG _|exact gok_below hG (by repeat (first|exact HB.out|exact HBW.out|exact Below.refl _ _|apply below_alloc|apply pw_below_drewN|apply below_drew1))) A37.out).mono ?_);rintro e w48 ⟨v472,rfl,ho0,hb⟩;refine⟨_,rfl,?_⟩;have n0_:=Aside0.mk (Kd.V_lower (Kd.V_mono (ok':=fun k_=>k_≠gb446) ho0 (fun k_ hk_=>(Kd.freshB (g:=gb446) (o:=.cells #[.string a0_0,.string a0_1,.slice A0_2 l0_2.length c0_2] 24 (0,0)) (by(with_reducible repeat (first|refine blk_drewN ?_ _|refine blk_drew ?_|refine blk_alloc ?_ _));exact BK446.out) k_ hk_))) (below_size (by repeat (first|(with_reducible first|exact HB.out|apply below_alloc|apply pw_below_drewN|apply below_drew1|refine below_set ?_ GE446.out)|exact HB.out))));have n1_:=Aside0.mk (blk_below (g:=gb446) (o:=.cells #[.string a0_0,.string a0_1,.slice A0_2 l0_2.length c0_2] 24 (0,0)) (by(with_reducible repeat (first|refine blk_drewN ?_ _|refine blk_drew ?_|refine blk_alloc ?_ _));exact BK446.out) hb);have n2_:=Aside0.mk (below_step (by repeat (first|(with_reducible first|exact HB.out|apply below_alloc|apply pw_below_drewN|apply below_drew1|refine below_set ?_ GE446.out)|exact HB.out)) hb);clear BK446;clear HB;have HO473:=n0_;have BK446:=n1_;have HB:=n2_;clear n0_ n1_ n2_;(try clear hb);(try clear hb2);(try clear hk);(try clear hi);(try clear ho0))|((with_reducible refine gate_dst (N:=11) rfl ?_);(try (refine gate_guard (by rfl) ?_;dsimp only));refine box_event ?hg (N:=11) ?hd (cs:=#[.string (⟨#[]⟩ : ByteArray),.string (⟨#[]⟩ : ByteArray),.slice none 0 0]) (t:=24) ?hr ?_;(case hd=>rfl);(case hg=>rfl);(case hr=>first|(go_simp;done)|(go_simp;rfl));intro gb475 hg w49 hbox hb;have n0_:=Aside0.mk (Kd.V_below (Kd.V_elderB (by(with_reducible repeat (first|apply Kd.V_alloc|apply Kd.V_drewN|apply Kd.V_drew));exact HO473.out) gb475 (Nat.le_of_eq hg.symm)) hb);have n1_:=Aside0.mk (blk_below (g:=gb446) (o:=.cells #[.string a0_0,.string a0_1,.slice A0_2 l0_2.length c0_2] 24 (0,0)) (by(with_reducible repeat (first|refine blk_drewN ?_ _|refine blk_drew ?_|refine blk_alloc ?_ _));exact BK446.out) hb);have n2_:=Aside0.mk (below_step (by repeat (first|(with_reducible first|exact HB.out|apply below_alloc|apply pw_below_drewN|apply below_drew1|refine below_set ?_ GE446.out)|exact HB.out)) hb);have n3_:=Aside0.mk (hbox);have n4_:=Aside0.mk ((by rw [hg];exact(below_size (by repeat (first|(with_reducible first|exact HB.out|apply below_alloc|apply pw_below_drewN|apply below_drew1|refine below_set ?_ GE446.out)|exact HB.out))):w.heap.size≤gb475));have n5_:=Aside0.mk ((by rw [hg];exact(below_size (by repeat (first|(with_reducible first|exact HB.out|apply below_alloc|apply pw_below_drewN|apply below_drew1|refine below_set ?_ GE446.out)|exact HB.out))):w.heap.size≤gb475));have n6_:=Aside0.mk ((by rw [hg];exact Nat.ne_of_lt (blk_lt (g:=gb446) (o:=.cells #[.string a0_0,.string a0_1,.slice A0_2 l0_2.length c0_2] 24 (0,0)) (by(with_reducible repeat (first|refine blk_drewN ?_ _|refine blk_drew ?_|refine blk_alloc ?_ _));exact BK446.out)):gb446≠gb475));have n7_:=Aside0.mk ((by rw [hg];exact Nat.ne_of_gt (blk_lt (g:=gb446) (o:=.cells #[.string a0_0,.string a0_1,.slice A0_2 l0_2.length c0_2] 24 (0,0)) (by(with_reducible repeat (first|refine blk_drewN ?_ _|refine blk_drew ?_|refine blk_alloc ?_ _));exact BK446.out)):gb475≠gb446));clear HO473;clear BK446;clear HB;have HO473:=n0_;have BK446:=n1_;have HB:=n2_;have BK475:=n3_;have GW475:=n4_;have GE475:=n5_;have NB446_475:=n6_;have NB475_446:=n7_;clear n0_ n1_ n2_ n3_ n4_ n5_ n6_ n7_;clear hb hbox hg;have hnb50:=NB475_446.out;have hnc50:=NB446_475.out;have hcz51_0:w49.cell? ⟨gb475,0,none⟩=some (.string (⟨#[]⟩ : ByteArray)):=(blk_cell BK475.out 0).trans rfl;have hcz51_1:w49.cell? ⟨gb475,1,none⟩=some (.string (⟨#[]⟩ : ByteArray)):=(blk_cell BK475.out 1).trans rfl;have hcz51_2:w49.cell? ⟨gb475,2,none⟩=some (.slice none 0 0):=(blk_cell BK475.out 2).trans rfl;have hfz51_0:=blk_frozen BK475.out 0;have hfz51_1:=blk_frozen BK475.out 1;have hfz51_2:=blk_frozen BK475.out 2;obtain⟨Ao52,co52,eo52⟩:=Kd.V_slice HO473.out;subst eo52)|((with_reducible refine gate_callee (f:=22) rfl ?_);refine goesL_ (some 71) rfl rfl Tryd.func22 (by kernel_rfl) rfl #[.agg #[.string t469,.string t470,.slice Ao52 t471.length co52],.bool a1] rfl (by(try simp only [List.map_toArray,List.map_cons,List.map_nil]);first|done|rfl|(simp only [List.length_drop,List.length_take];rfl)) ?_;(with_reducible refine(xml_Print.calls kj11 t469 t470 _ _ t471 a1 t477 t478 _ ?side1 ?side2 A39.out).mono ?_);(case side1=>refine(Kd.V_reads' (e:=24) (base:=w.heap.size) (ok:=fun k_=>(k_≠gb446∧k_≠gb475)) (n:=t471.length) (c:=co52) ?_).2.2;exact(by(with_reducible repeat (first|apply Kd.V_alloc|apply Kd.V_drewN|apply Kd.V_drew));exact(Kd.V_mono (Kd.V_far (p:=⟨gb475,2,none⟩) (Kd.V_far (p:=⟨gb475,1,none⟩) (Kd.V_far (p:=⟨gb475,0,none⟩) (Kd.V_mono HO473.out (fun k_ hk=>(⟨hk,hk.2⟩ : _∧k_≠gb475))) (fun _ hk=>hk.2) (.string t469)) (fun _ hk=>hk.2) (.string t470)) (fun _ hk=>hk.2) (.slice Ao52 t471.length co52)) (fun _ h_=>h_.1))));(case side2=>exact(Kd.V_reads' HO473.out).2.1);rintro e w53 ⟨rfl,hb⟩;refine⟨_,rfl,?_⟩;have n0_:=Aside0.mk (Kd.V_below (by(with_reducible repeat (first|apply Kd.V_alloc|apply Kd.V_drewN|apply Kd.V_drew));exact(Kd.V_mono (Kd.V_far (p:=⟨gb475,2,none⟩) (Kd.V_far (p:=⟨gb475,1,none⟩) (Kd.V_far (p:=⟨gb475,0,none⟩) (Kd.V_mono HO473.out (fun k_ hk=>(⟨hk,hk.2⟩ : _∧k_≠gb475))) (fun _ hk=>hk.2) (.string t469)) (fun _ hk=>hk.2) (.string t470)) (fun _ hk=>hk.2) (.slice Ao52 t471.length co52)) (fun _ h_=>h_.1))) hb);have n1_:=Aside0.mk (blk_below (g:=gb446) (o:=.cells #[.string a0_0,.string a0_1,.slice A0_2 l0_2.length c0_2] 24 (0,0)) (by(with_reducible repeat (first|refine blk_drewN ?_ _|refine blk_drew ?_|refine blk_alloc ?_ _));refine blk_far ?_ NB446_475.out _;(with_reducible repeat (first|refine blk_drewN ?_ _|refine blk_drew ?_|refine blk_alloc ?_ _));refine blk_far ?_ NB446_475.out _;(with_reducible repeat (first|refine blk_drewN ?_ _|refine blk_drew ?_|refine blk_alloc ?_ _));refine blk_far ?_ NB446_475.out _;(with_reducible repeat (first|refine blk_drewN ?_ _|refine blk_drew ?_|refine blk_alloc ?_ _));exact BK446.out) hb);have n2_:=Aside0.mk (blk_below (g:=gb475) (o:=.cells #[.string t469,.string t470,.slice Ao52 t471.length co52] 24 (0,0)) (by(with_reducible repeat (first|refine blk_drewN ?_ _|refine blk_drew ?_|refine blk_alloc ?_ _));refine blk_put (cs:=#[.string t469,.string t470,.slice none 0 0]) ?_ 2 _ rfl;(with_reducible repeat (first|refine blk_drewN ?_ _|refine blk_drew ?_|refine blk_alloc ?_ _));refine blk_put (cs:=#[.string t469,.string (⟨#[]⟩ : ByteArray),.slice none 0 0]) ?_ 1 _ rfl;(with_reducible repeat (first|refine blk_drewN ?_ _|refine blk_drew ?_|refine blk_alloc ?_ _));refine blk_put (cs:=#[.string (⟨#[]⟩ : ByteArray),.string (⟨#[]⟩ : ByteArray),.slice none 0 0]) ?_ 0 _ rfl;(with_reducible repeat (first|refine blk_drewN ?_ _|refine blk_drew ?_|refine blk_alloc ?_ _));exact BK475.out) hb);have n3_:=Aside0.mk (below_step (by repeat (first|(with_reducible first|exact HB.out|apply below_alloc|apply pw_below_drewN|apply below_drew1|refine below_set ?_ GE446.out|refine below_set ?_ GE475.out)|exact HB.out)) hb);clear HO473;clear BK446;clear BK475;clear HB;have HO473:=n0_;have BK446:=n1_;have BK475:=n2_;have HB:=n3_;clear n0_ n1_ n2_ n3_;(try clear hb);(try clear hb2);(try clear hk);(try clear hi))|((with_reducible refine gate_callee (f:=10) rfl ?_);refine goesL_ (some 83) rfl rfl Tryd.func10 (by kernel_rfl) rfl #[.string t477] rfl (by(try simp only [List.map_toArray,List.map_cons,List.map_nil]);first|done|rfl|(simp only [List.length_drop,List.length_take];rfl)) ?_;(with_reducible refine(xml_Parse.calls kj11 t477 t480 t481 t482 t485 _ (by first|exact hG|exact gok_below hG (by repeat (first|(with_reducible first|exact HB.out|apply below_alloc|apply pw_below_drewN|apply below_drew1|refine below_set ?_ GE446.out|refine below_set ?_ GE475.out)|exact HB.out))|exact gok_heap hG rfl|exact gok_drewN hG _|exact gok_below hG (by repeat (first|exact HB.out|exact HBW.out|exact Below.refl _ _|apply below_alloc|apply pw_below_drewN|apply below_drew1))) A41.out).mono ?_);rintro e w54 ⟨v483,rfl,ho0,hb⟩;refine⟨_,rfl,?_⟩;have n0_:=Aside0.mk (Kd.V_below (by(with_reducible repeat (first|apply Kd.V_alloc|apply Kd.V_drewN|apply Kd.V_drew));exact HO473.out) hb);have n1_:=Aside0.mk (Kd.V_lower (Kd.V_mono (ok':=fun k_=>k_≠gb446∧k_≠gb475) ho0 (fun k_ hk_=>⟨(Kd.freshB (g:=gb446) (o:=.cells #[.string a0_0,.string a0_1,.slice A0_2 l0_2.length c0_2] 24 (0,0)) (by(with_reducible repeat (first|refine blk_drewN ?_ _|refine blk_drew ?_|refine blk_alloc ?_ _));exact BK446.out) k_ hk_),(Kd.freshB (g:=gb475) (o:=.cells #[.string t469,.string t470,.slice Ao52 t471.length co52] 24 (0,0)) (by(with_reducible repeat (first|refine blk_drewN ?_ _|refine blk_drew ?_|refine blk_alloc ?_ _));exact BK475.out) k_ hk_)⟩)) (below_size (by repeat (first|(with_reducible first|exact HB.out|apply below_alloc|apply pw_below_drewN|apply below_drew1|refine below_set ?_ GE446.out|refine below_set ?_ GE475.out)|exact HB.out))));have n2_:=Aside0.mk (blk_below (g:=gb446) (o:=.cells #[.string a0_0,.string a0_1,.slice A0_2 l0_2.length c0_2] 24 (0,0)) (by(with_reducible repeat (first|refine blk_drewN ?_ _|refine blk_drew ?_|refine blk_alloc ?_ _));exact BK446.out) hb);have n3_:=Aside0.mk (blk_below (g:=gb475) (o:=.cells #[.string t469,.string t470,.slice Ao52 t471.length co52] 24 (0,0)) (by(with_reducible repeat (first|refine blk_drewN ?_ _|refine blk_drew ?_|refine blk_alloc ?_ _));exact BK475.out) hb);have n4_:=Aside0.mk (below_step (by repeat (first|(with_reducible first|exact HB.out|apply below_alloc|apply pw_below_drewN|apply below_drew1|refine below_set ?_ GE446.out|refine below_set ?_ GE475.out)|exact HB.out)) hb);clear HO473;clear BK446;clear BK475;clear HB;have HO473:=n0_;have HO484:=n1_;have BK446:=n2_;have BK475:=n3_;have HB:=n4_;clear n0_ n1_ n2_ n3_ n4_;(try clear hb);(try clear hb2);(try clear hk);(try clear hi);(try clear ho0))|((with_reducible refine gate_dst (N:=15) rfl ?_);(try (refine gate_guard (by rfl) ?_;dsimp only));refine box_event ?hg (N:=15) ?hd (cs:=#[.string (⟨#[]⟩ : ByteArray),.string (⟨#[]⟩ : ByteArray),.slice none 0 0]) (t:=24) ?hr ?_;(case hd=>rfl);(case hg=>rfl);(case hr=>first|(go_simp;done)|(go_simp;rfl));intro gb486 hg w55 hbox hb;have n0_:=Aside0.mk (Kd.V_below (Kd.V_elderB (by(with_reducible repeat (first|apply Kd.V_alloc|apply Kd.V_drewN|apply Kd.V_drew));exact HO473.out) gb486 (Nat.le_of_eq hg.symm)) hb);have n1_:=Aside0.mk (Kd.V_below (Kd.V_elderB (by(with_reducible repeat (first|apply Kd.V_alloc|apply Kd.V_drewN|apply Kd.V_drew));exact HO484.out) gb486 (Nat.le_of_eq hg.symm)) hb);have n2_:=Aside0.mk (blk_below (g:=gb446) (o:=.cells #[.string a0_0,.string a0_1,.slice A0_2 l0_2.length c0_2] 24 (0,0)) (by(with_reducible repeat (first|refine blk_drewN ?_ _|refine blk_drew ?_|refine blk_alloc ?_ _));exact BK446.out) hb);have n3_:=Aside0.mk (blk_below (g:=gb475) (o:=.cells #[.string t469,.string t470,.slice Ao52 t471.length co52] 24 (0,0)) (by(with_reducible repeat (first|refine blk_drewN ?_ _|refine blk_drew ?_|refine blk_alloc ?_ _));exact BK475.out) hb);have n4_:=Aside0.mk (below_step (by repeat (first|(with_reducible first|exact HB.out|apply below_alloc|apply pw_below_drewN|apply below_drew1|refine below_set ?_ GE446.out|refine below_set ?_ GE475.out)|exact HB.out)) hb);have n5_:=Aside0.mk (hbox);have n6_:=Aside0.mk ((by rw [hg];exact(below_size (by repeat (first|(with_reducible first|exact HB.out|apply below_alloc|apply pw_below_drewN|apply below_drew1|refine below_set ?_ GE446.out|refine below_set ?_ GE475.out)|exact HB.out))):w.heap.size≤gb486));have n7_:=Aside0.mk ((by rw [hg];exact(below_size (by repeat (first|(with_reducible first|exact HB.out|apply below_alloc|apply pw_below_drewN|apply below_drew1|refine below_set ?_ GE446.out|refine below_set ?_ GE475.out)|exact HB.out))):w.heap.size≤gb486));have n8_:=Aside0.mk ((by rw [hg];exact Nat.ne_of_lt (blk_lt (g:=gb446) (o:=.cells #[.string a0_0,.string a0_1,.slice A0_2 l0_2.length c0_2] 24 (0,0)) (by(with_reducible repeat (first|refine blk_drewN ?_ _|refine blk_drew ?_|refine blk_alloc ?_ _));exact BK446.out)):gb446≠gb486));have n9_:=Aside0.mk ((by rw [hg];exact Nat.ne_of_gt (blk_lt (g:=gb446) (o:=.cells #[.string a0_0,.string a0_1,.slice A0_2 l0_2.length c0_2] 24 (0,0)) (by(with_reducible repeat (first|refine blk_drewN ?_ _|refine blk_drew ?_|refine blk_alloc ?_ _));exact BK446.out)):gb486≠gb446));have n10_:=Aside0.mk ((by rw [hg];exact Nat.ne_of_lt (blk_lt (g:=gb475) (o:=.cells #[.string t469,.string t470,.slice Ao52 t471.length co52] 24 (0,0)) (by(with_reducible repeat (first|refine blk_drewN ?_ _|refine blk_drew ?_|refine blk_alloc ?_ _));exact BK475.out)):gb475≠gb486));have n11_:=Aside0.mk ((by rw [hg];exact Nat.ne_of_gt (blk_lt (g:=gb475) (o:=.cells #[.string t469,.string t470,.slice Ao52 t471.length co52] 24 (0,0)) (by(with_reducible repeat (first|refine blk_drewN ?_ _|refine blk_drew ?_|refine blk_alloc ?_ _));exact BK475.out)):gb486≠gb475));clear HO473;clear HO484;clear BK446;clear BK475;clear HB;have HO473:=n0_;have HO484:=n1_;have BK446:=n2_;have BK475:=n3_;have HB:=n4_;have BK486:=n5_;have GW486:=n6_;have GE486:=n7_;have NB446_486:=n8_;have NB486_446:=n9_;have NB475_486:=n10_;have NB486_475:=n11_;clear n0_ n1_ n2_ n3_ n4_ n5_ n6_ n7_ n8_ n9_ n10_ n11_;clear hb hbox hg;have hnb56:=NB486_446.out;have hnc56:=NB446_486.out;have hnb57:=NB486_475.out;have hnc57:=NB475_486.out;have hcz58_0:w55.cell? ⟨gb486,0,none⟩=some (.string (⟨#[]⟩ : ByteArray)):=(blk_cell BK486.out 0).trans rfl;have hcz58_1:w55.cell? ⟨gb486,1,none⟩=some (.string (⟨#[]⟩ : ByteArray)):=(blk_cell BK486.out 1).trans rfl;have hcz58_2:w55.cell? ⟨gb486,2,none⟩=some (.slice none 0 0):=(blk_cell BK486.out 2).trans rfl;have hfz58_0:=blk_frozen BK486.out 0;have hfz58_1:=blk_frozen BK486.out 1;have hfz58_2:=blk_frozen BK486.out 2;obtain⟨Ao59,co59,eo59⟩:=Kd.V_slice HO484.out;subst eo59))
        have n0_:Aside0 (Kd.V k24 24 (((w55.setCell ⟨gb486,0,none⟩ (.string t480)).setCell ⟨gb486,1,none⟩ (.string t481)).setCell ⟨gb486,2,none⟩ (.slice Ao59 t482.length co59)) w.heap.size (fun k_=>k_≠gb446∧k_≠gb475∧k_≠gb486) (.slice Ao52 t471.length co52) t471):=⟨by(with_reducible repeat (first|apply Kd.V_alloc|apply Kd.V_drewN|apply Kd.V_drew));exact Kd.V_mono (Kd.V_far (p:=⟨gb486,2,none⟩) (Kd.V_far (p:=⟨gb486,1,none⟩) (Kd.V_far (p:=⟨gb486,0,none⟩) (Kd.V_mono HO473.out (fun k_ hk=>(⟨hk,hk.2⟩ : _∧k_≠gb486))) (fun _ hk=>hk.2) (.string t480)) (fun _ hk=>hk.2) (.string t481)) (fun _ hk=>hk.2) (.slice Ao59 t482.length co59)) (fun _ hk=>⟨hk.1.1.1,⟨hk.1.1.2,hk.1.2⟩⟩)⟩
        have n1_:Aside0 (Kd.V k24 24 (((w55.setCell ⟨gb486,0,none⟩ (.string t480)).setCell ⟨gb486,1,none⟩ (.string t481)).setCell ⟨gb486,2,none⟩ (.slice Ao59 t482.length co59)) w.heap.size (fun k_=>k_≠gb446∧k_≠gb475∧k_≠gb486) (.slice Ao59 t482.length co59) t482):=⟨by(with_reducible repeat (first|apply Kd.V_alloc|apply Kd.V_drewN|apply Kd.V_drew));exact Kd.V_mono (Kd.V_far (p:=⟨gb486,2,none⟩) (Kd.V_far (p:=⟨gb486,1,none⟩) (Kd.V_far (p:=⟨gb486,0,none⟩) (Kd.V_mono HO484.out (fun k_ hk=>(⟨hk,hk.2⟩ : _∧k_≠gb486))) (fun _ hk=>hk.2) (.string t480)) (fun _ hk=>hk.2) (.string t481)) (fun _ hk=>hk.2) (.slice Ao59 t482.length co59)) (fun _ hk=>⟨hk.1.1.1,⟨hk.1.1.2,hk.1.2⟩⟩)⟩
        have n2_:Aside0 ((((w55.setCell ⟨gb486,0,none⟩ (.string t480)).setCell ⟨gb486,1,none⟩ (.string t481)).setCell ⟨gb486,2,none⟩ (.slice Ao59 t482.length co59)).heap[gb446]? = some (.cells #[.string a0_0,.string a0_1,.slice A0_2 l0_2.length c0_2] 24 (0,0))):=⟨by(with_reducible repeat (first|refine blk_drewN ?_ _|refine blk_drew ?_|refine blk_alloc ?_ _));refine blk_far ?_ NB446_486.out _;(with_reducible repeat (first|refine blk_drewN ?_ _|refine blk_drew ?_|refine blk_alloc ?_ _));refine blk_far ?_ NB446_486.out _;(with_reducible repeat (first|refine blk_drewN ?_ _|refine blk_drew ?_|refine blk_alloc ?_ _));refine blk_far ?_ NB446_486.out _;(with_reducible repeat (first|refine blk_drewN ?_ _|refine blk_drew ?_|refine blk_alloc ?_ _));exact BK446.out⟩
        have n3_:Aside0 ((((w55.setCell ⟨gb486,0,none⟩ (.string t480)).setCell ⟨gb486,1,none⟩ (.string t481)).setCell ⟨gb486,2,none⟩ (.slice Ao59 t482.length co59)).heap[gb475]? = some (.cells #[.string t469,.string t470,.slice Ao52 t471.length co52] 24 (0,0))):=⟨by(with_reducible repeat (first|refine blk_drewN ?_ _|refine blk_drew ?_|refine blk_alloc ?_ _));refine blk_far ?_ NB475_486.out _;(with_reducible repeat (first|refine blk_drewN ?_ _|refine blk_drew ?_|refine blk_alloc ?_ _));refine blk_far ?_ NB475_486.out _;(with_reducible repeat (first|refine blk_drewN ?_ _|refine blk_drew ?_|refine blk_alloc ?_ _));refine blk_far ?_ NB475_486.out _;(with_reducible repeat (first|refine blk_drewN ?_ _|refine blk_drew ?_|refine blk_alloc ?_ _));exact BK475.out⟩
        have n4_:Aside0 ((((w55.setCell ⟨gb486,0,none⟩ (.string t480)).setCell ⟨gb486,1,none⟩ (.string t481)).setCell ⟨gb486,2,none⟩ (.slice Ao59 t482.length co59)).heap[gb486]? = some (.cells #[.string t480,.string t481,.slice Ao59 t482.length co59] 24 (0,0))):=⟨by(with_reducible repeat (first|refine blk_drewN ?_ _|refine blk_drew ?_|refine blk_alloc ?_ _));refine blk_put (cs:=#[.string t480,.string t481,.slice none 0 0]) ?_ 2 _ rfl;(with_reducible repeat (first|refine blk_drewN ?_ _|refine blk_drew ?_|refine blk_alloc ?_ _));refine blk_put (cs:=#[.string t480,.string (⟨#[]⟩ : ByteArray),.slice none 0 0]) ?_ 1 _ rfl;(with_reducible repeat (first|refine blk_drewN ?_ _|refine blk_drew ?_|refine blk_alloc ?_ _));refine blk_put (cs:=#[.string (⟨#[]⟩ : ByteArray),.string (⟨#[]⟩ : ByteArray),.slice none 0 0]) ?_ 0 _ rfl;(with_reducible repeat (first|refine blk_drewN ?_ _|refine blk_drew ?_|refine blk_alloc ?_ _));exact BK486.out⟩
        have n5_:Aside0 (Below w.heap.size w (((w55.setCell ⟨gb486,0,none⟩ (.string t480)).setCell ⟨gb486,1,none⟩ (.string t481)).setCell ⟨gb486,2,none⟩ (.slice Ao59 t482.length co59))):=⟨by repeat (first|(with_reducible first|exact HB.out|apply below_alloc|apply pw_below_drewN|apply below_drew1|refine below_set ?_ GE446.out|refine below_set ?_ GE475.out|refine below_set ?_ GE486.out)|exact HB.out)⟩
        (try clear HO473)
        (try clear HO484)
        (try clear BK446)
        (try clear BK475)
        (try clear BK486)
        (try clear HB)
        generalize (((w55.setCell ⟨gb486,0,none⟩ (.string t480)).setCell ⟨gb486,1,none⟩ (.string t481)).setCell ⟨gb486,2,none⟩ (.slice Ao59 t482.length co59))=w60 at n0_ n1_ n2_ n3_ n4_ n5_ ⊢
        have HO473:=n0_
        have HO484:=n1_
        have BK446:=n2_
        have BK475:=n3_
        have BK486:=n4_
        have HB:=n5_
        clear n0_ n1_ n2_ n3_ n4_ n5_
        have n0_:=Aside0.mk (Kd.V_drew HO473.out)
        have n1_:=Aside0.mk (Kd.V_drew HO484.out)
        have n2_:=Aside0.mk (blk_drew BK446.out)
        have n3_:=Aside0.mk (blk_drew BK475.out)
        have n4_:=Aside0.mk (blk_drew BK486.out)
        have n5_:=Aside0.mk (below_drew1 HB.out)
        clear HO473
        clear HO484
        clear BK446
        clear BK475
        clear BK486
        clear HB
        have HO473:=n0_
        have HO484:=n1_
        have BK446:=n2_
        have BK475:=n3_
        have BK486:=n4_
        have HB:=n5_
        clear n0_ n1_ n2_ n3_ n4_ n5_
        refine start_ (n:=13) (S:=fun w'=>w'.cell? ⟨gb486,0,none⟩=some (.string t480)∧w'.cell? ⟨gb486,1,none⟩=some (.string t481)∧w'.cell? ⟨gb486,2,none⟩=some (.slice Ao59 t482.length co59)∧w'.cell? ⟨gb475,0,none⟩=some (.string t469)∧w'.cell? ⟨gb475,1,none⟩=some (.string t470)∧w'.cell? ⟨gb475,2,none⟩=some (.slice Ao52 t471.length co52)) (ds:=[]) #[F,F,F,F,F,F,F,F,F,F,F,F,F] (by kernel_rfl) rfl rfl ⟨(blk_cell BK486.out 0).trans rfl,(blk_cell BK486.out 1).trans rfl,(blk_cell BK486.out 2).trans rfl,(blk_cell BK475.out 0).trans rfl,(blk_cell BK475.out 1).trans rfl,(blk_cell BK475.out 2).trans rfl⟩ (fun hHeld=>?_);refine with_tabW stowagelaw13_XmlBack.tab15 stowagelaw13_XmlBack.bits15 (fun HT_ HW_=>?_)
        generalize w60.drew=w61 at HO473 HO484 BK446 BK475 BK486 HB hHeld ⊢
        refine pure_ (i:=0) (N:=some 86) (v:=?_) (a':=?_) #[T,F,F,F,F,F,F,F,F,F,F,F,F] rfl rfl (any_of HT_.out (by kernel_rfl)) (fun _ _ _ h=>h) (Or.inl ⟨by rfl,?_⟩) ?_ ?_
        rotate_left
        ·intro w'
         go_simp
         with_reducible rfl
        rotate_left
        ·simp only [Act.put,List.setIfInBounds_toArray,List.set_cons_zero,List.set_cons_succ,i64_w,i32_w]
         rfl
        refine pure_ (i:=1) (N:=some 87) (v:=?_) (a':=?_) #[T,T,F,F,F,F,F,F,F,F,F,F,F] rfl rfl (any_of HT_.out (by kernel_rfl)) (fun _ _ _ h=>h) (Or.inl ⟨by rfl,?_⟩) ?_ ?_
        rotate_left
        ·intro w'
         go_simp
         with_reducible rfl
        rotate_left
        ·simp only [Act.put,List.setIfInBounds_toArray,List.set_cons_zero,List.set_cons_succ,i64_w,i32_w]
         rfl
        refine pure_ (i:=2) (N:=some 88) (v:=?_) (a':=?_) #[T,T,T,F,F,F,F,F,F,F,F,F,F] rfl rfl (any_of HT_.out (by kernel_rfl)) (fun _ _ _ h=>h) (Or.inl ⟨by rfl,?_⟩) ?_ ?_
        rotate_left
        ·intro w'
         go_simp
         with_reducible rfl
        rotate_left
        ·simp only [Act.put,List.setIfInBounds_toArray,List.set_cons_zero,List.set_cons_succ,i64_w,i32_w]
         rfl
        refine take_ (i:=3) (N:=some 89) (v:=?_) (a':=?_) #[T,T,T,T,F,F,F,F,F,F,F,F,F] rfl rfl (take_ofW HT_.out HW_.out (by kernel_rfl)) (fun _ _ _ h=>h) (Or.inl ⟨by rfl,?_⟩) hHeld ?_ ?_
        rotate_left
        ·rintro w' ⟨s0,s1,s2,s3,s4,s5⟩
         go_simp
         with_reducible rfl
        rotate_left
        ·simp only [Act.put,List.setIfInBounds_toArray,List.set_cons_zero,List.set_cons_succ,i64_w,i32_w]
         rfl
        refine take_ (i:=5) (N:=some 91) (v:=?_) (a':=?_) #[T,T,T,T,F,T,F,F,F,F,F,F,F] rfl rfl (take_ofW HT_.out HW_.out (by kernel_rfl)) (fun _ _ _ h=>h) (Or.inl ⟨by rfl,?_⟩) hHeld ?_ ?_
        rotate_left
        ·rintro w' ⟨s0,s1,s2,s3,s4,s5⟩
         go_simp
         with_reducible rfl
        rotate_left
        ·simp only [Act.put,List.setIfInBounds_toArray,List.set_cons_zero,List.set_cons_succ,i64_w,i32_w]
         rfl
        refine one_ (i:=4) (N:=some 90) #[T,T,T,T,T,T,F,F,F,F,F,F,F] rfl rfl (one_of HT_.out (by kernel_rfl)) (by decide) (fun K hK=>?_)
        refine goes_ Tryd.func13 (by kernel_rfl) rfl #[.agg #[.string t480,.string t481,.slice Ao59 t482.length co59]] (by rfl) rfl rfl (by(try simp only [List.map_toArray,List.map_cons,List.map_nil]);first|done|rfl|(simp only [List.length_drop,List.length_take];rfl)) ?_
        with_reducible refine(stowagelaw13_To.calls kj11 t480 t481 _ _ t482 t487 t488 t489 _ ?side1 ?side2 A43.out).mono ?_
        (case side1=>repeat (first|exact(Kd.V_reads' HO484.out).2.2|(with_reducible refine Kd.C_alloc ?_ _)|(with_reducible refine Kd.C_drewN ?_ _)|(with_reducible refine Kd.C_drew ?_)))
        (case side2=>exact(Kd.V_reads' HO484.out).2.1)
        rintro e w62 ⟨v490,rfl,ho0,hb⟩
        refine⟨_,rfl,?_⟩
        have n0_:=Aside0.mk (Kd.V_elder' (by(with_reducible repeat (first|apply Kd.V_alloc|apply Kd.V_drewN|apply Kd.V_drew));exact HO473.out) (by first|exact Kd.R_base ho0|exact Kd.R_base ho0) hb)
        have n1_:=Aside0.mk (Kd.V_elder' (by(with_reducible repeat (first|apply Kd.V_alloc|apply Kd.V_drewN|apply Kd.V_drew));exact HO484.out) (by first|exact Kd.R_base ho0|exact Kd.R_base ho0) hb)
        have n2_:=Aside0.mk (Kd.R_lower ho0 (below_size (by repeat (first|(with_reducible first|exact HB.out|apply below_alloc|apply pw_below_drewN|apply below_drew1|refine below_set ?_ GE446.out|refine below_set ?_ GE475.out|refine below_set ?_ GE486.out)|exact HB.out))))
        have n3_:=Aside0.mk (blk_below (g:=gb446) (o:=.cells #[.string a0_0,.string a0_1,.slice A0_2 l0_2.length c0_2] 24 (0,0)) (by(with_reducible repeat (first|refine blk_drewN ?_ _|refine blk_drew ?_|refine blk_alloc ?_ _));exact BK446.out) hb)
        have n4_:=Aside0.mk (blk_below (g:=gb475) (o:=.cells #[.string t469,.string t470,.slice Ao52 t471.length co52] 24 (0,0)) (by(with_reducible repeat (first|refine blk_drewN ?_ _|refine blk_drew ?_|refine blk_alloc ?_ _));exact BK475.out) hb)
        have n5_:=Aside0.mk (blk_below (g:=gb486) (o:=.cells #[.string t480,.string t481,.slice Ao59 t482.length co59] 24 (0,0)) (by(with_reducible repeat (first|refine blk_drewN ?_ _|refine blk_drew ?_|refine blk_alloc ?_ _));exact BK486.out) hb)
        have n6_:=Aside0.mk (below_step (by repeat (first|(with_reducible first|exact HB.out|apply below_alloc|apply pw_below_drewN|apply below_drew1|refine below_set ?_ GE446.out|refine below_set ?_ GE475.out|refine below_set ?_ GE486.out)|exact HB.out)) hb)
        clear HO473
        clear HO484
        clear BK446
        clear BK475
        clear BK486
        clear HB
        have HO473:=n0_
        have HO484:=n1_
        have HO491:=n2_
        have BK446:=n3_
        have BK475:=n4_
        have BK486:=n5_
        have HB:=n6_
        clear n0_ n1_ n2_ n3_ n4_ n5_ n6_
        (try clear hb)
        (try clear hb2)
        (try clear hk)
        (try clear hi)
        (try clear ho0)
        refine hK.out _ _ ⟨(blk_cell BK486.out 0).trans rfl,(blk_cell BK486.out 1).trans rfl,(blk_cell BK486.out 2).trans rfl,(blk_cell BK475.out 0).trans rfl,(blk_cell BK475.out 1).trans rfl,(blk_cell BK475.out 2).trans rfl⟩ (fun hHeld=>?_)
        clear hK K
        refine norm_ (a':=?_) ?_ ?_
        rotate_left
        ·show Act.put _ (some 90) _=_
         simp only [Act.put,List.setIfInBounds_toArray,List.set_cons_zero,List.set_cons_succ,i64_w,i32_w]
         rfl
        refine one_ (i:=6) (N:=some 92) #[T,T,T,T,T,T,T,F,F,F,F,F,F] rfl rfl (one_of HT_.out (by kernel_rfl)) (by decide) (fun K hK=>?_)
        refine goes_ Tryd.func13 (by kernel_rfl) rfl #[.agg #[.string t469,.string t470,.slice Ao52 t471.length co52]] (by rfl) rfl rfl (by(try simp only [List.map_toArray,List.map_cons,List.map_nil]);first|done|rfl|(simp only [List.length_drop,List.length_take];rfl)) ?_
        with_reducible refine(stowagelaw13_To.calls kj11 t469 t470 _ _ t471 t492 t493 t494 _ ?side1 ?side2 A44.out).mono ?_
        (case side1=>repeat (first|exact(Kd.V_reads' HO473.out).2.2|(with_reducible refine Kd.C_alloc ?_ _)|(with_reducible refine Kd.C_drewN ?_ _)|(with_reducible refine Kd.C_drew ?_)))
        (case side2=>exact(Kd.V_reads' HO473.out).2.1)
        rintro e w63 ⟨v495,rfl,ho0,hb⟩
        refine⟨_,rfl,?_⟩
        have n0_:=Aside0.mk (Kd.V_elder' (by(with_reducible repeat (first|apply Kd.V_alloc|apply Kd.V_drewN|apply Kd.V_drew));exact HO473.out) (by first|exact Kd.R_base ho0|exact Kd.R_base ho0) hb)
        have n1_:=Aside0.mk (Kd.V_elder' (by(with_reducible repeat (first|apply Kd.V_alloc|apply Kd.V_drewN|apply Kd.V_drew));exact HO484.out) (by first|exact Kd.R_base ho0|exact Kd.R_base ho0) hb)
        have n2_:=Aside0.mk (Kd.R_elder' (by(with_reducible repeat (first|apply Kd.R_alloc|apply Kd.R_drewN|apply Kd.R_drew));exact HO491.out) (by first|exact Kd.R_base ho0|exact Kd.R_base ho0) hb)
        have n3_:=Aside0.mk (Kd.R_lower (Kd.R_new' ho0 (Kd.R_lt (by(with_reducible repeat (first|apply Kd.R_alloc|apply Kd.R_drewN|apply Kd.R_drew));exact HO491.out))) (below_size (by repeat (first|(with_reducible first|exact HB.out|apply below_alloc|apply pw_below_drewN|apply below_drew1|refine below_set ?_ GE446.out|refine below_set ?_ GE475.out|refine below_set ?_ GE486.out)|exact HB.out))))
        have n4_:=Aside0.mk (blk_below (g:=gb446) (o:=.cells #[.string a0_0,.string a0_1,.slice A0_2 l0_2.length c0_2] 24 (0,0)) (by(with_reducible repeat (first|refine blk_drewN ?_ _|refine blk_drew ?_|refine blk_alloc ?_ _));exact BK446.out) hb)
        have n5_:=Aside0.mk (blk_below (g:=gb475) (o:=.cells #[.string t469,.string t470,.slice Ao52 t471.length co52] 24 (0,0)) (by(with_reducible repeat (first|refine blk_drewN ?_ _|refine blk_drew ?_|refine blk_alloc ?_ _));exact BK475.out) hb)
        have n6_:=Aside0.mk (blk_below (g:=gb486) (o:=.cells #[.string t480,.string t481,.slice Ao59 t482.length co59] 24 (0,0)) (by(with_reducible repeat (first|refine blk_drewN ?_ _|refine blk_drew ?_|refine blk_alloc ?_ _));exact BK486.out) hb)
        have n7_:=Aside0.mk (below_step (by repeat (first|(with_reducible first|exact HB.out|apply below_alloc|apply pw_below_drewN|apply below_drew1|refine below_set ?_ GE446.out|refine below_set ?_ GE475.out|refine below_set ?_ GE486.out)|exact HB.out)) hb)
        clear HO473
        clear HO484
        clear HO491
        clear BK446
        clear BK475
        clear BK486
        clear HB
        have HO473:=n0_
        have HO484:=n1_
        have HO491:=n2_
        have HO496:=n3_
        have BK446:=n4_
        have BK475:=n5_
        have BK486:=n6_
        have HB:=n7_
        clear n0_ n1_ n2_ n3_ n4_ n5_ n6_ n7_
        (try clear hb)
        (try clear hb2)
        (try clear hk)
        (try clear hi)
        (try clear ho0)
        obtain⟨Ao64,co64,eo64⟩:=Kd.R_slice HO491.out
        (first|subst eo64|(injection eo64 with f1_ f2_ f3_;have f4_:=f1_.symm;have f5_:=f3_.symm;clear f1_ f2_ f3_;subst f4_;subst f5_))
        obtain⟨Ao65,co65,eo65⟩:=Kd.R_slice HO496.out
        (first|subst eo65|(injection eo65 with f1_ f2_ f3_;have f4_:=f1_.symm;have f5_:=f3_.symm;clear f1_ f2_ f3_;subst f4_;subst f5_))
        refine hK.out _ _ ⟨(blk_cell BK486.out 0).trans rfl,(blk_cell BK486.out 1).trans rfl,(blk_cell BK486.out 2).trans rfl,(blk_cell BK475.out 0).trans rfl,(blk_cell BK475.out 1).trans rfl,(blk_cell BK475.out 2).trans rfl⟩ (fun hHeld=>?_)
        clear hK K
        refine norm_ (a':=?_) ?_ ?_
        rotate_left
        ·show Act.put _ (some 92) _=_
         simp only [Act.put,List.setIfInBounds_toArray,List.set_cons_zero,List.set_cons_succ,i64_w,i32_w]
         rfl
        refine one_ (i:=7) (N:=some 93) #[T,T,T,T,T,T,T,T,F,F,F,F,F] rfl rfl (one_of HT_.out (by kernel_rfl)) (by decide) (fun K hK=>?_)
        refine goes_ Tryd.func12 (by kernel_rfl) rfl #[.agg #[.string t487,.string t488,.slice Ao64 t489.length co64],.agg #[.string t492,.string t493,.slice Ao65 t494.length co65]] (by rfl) rfl rfl (by(try simp only [List.map_toArray,List.map_cons,List.map_nil]);first|done|rfl|(simp only [List.length_drop,List.length_take];rfl)) ?_
        with_reducible refine(stowageref13_Same.calls kj11 t487 t488 _ _ t489 t492 t493 _ _ t494 true _ ?side1 ?side2 ?side3 ?side4 A45.out).mono ?_
        (case side1=>repeat (first|exact(Kd.R_reads' HO491.out).2.2|(with_reducible refine Kd.C_alloc ?_ _)|(with_reducible refine Kd.C_drewN ?_ _)|(with_reducible refine Kd.C_drew ?_)))
        (case side2=>exact(Kd.R_reads' HO491.out).2.1)
        (case side3=>repeat (first|exact(Kd.R_reads' HO496.out).2.2|(with_reducible refine Kd.C_alloc ?_ _)|(with_reducible refine Kd.C_drewN ?_ _)|(with_reducible refine Kd.C_drew ?_)))
        (case side4=>exact(Kd.R_reads' HO496.out).2.1)
        rintro e w66 ⟨rfl,hb⟩
        refine⟨_,rfl,?_⟩
        have n0_:=Aside0.mk (Kd.V_below (by(with_reducible repeat (first|apply Kd.V_alloc|apply Kd.V_drewN|apply Kd.V_drew));exact HO473.out) hb)
        have n1_:=Aside0.mk (Kd.V_below (by(with_reducible repeat (first|apply Kd.V_alloc|apply Kd.V_drewN|apply Kd.V_drew));exact HO484.out) hb)
        have n2_:=Aside0.mk (Kd.R_below (by(with_reducible repeat (first|apply Kd.R_alloc|apply Kd.R_drewN|apply Kd.R_drew));exact HO491.out) hb)
        have n3_:=Aside0.mk (Kd.R_below (by(with_reducible repeat (first|apply Kd.R_alloc|apply Kd.R_drewN|apply Kd.R_drew));exact HO496.out) hb)
        have n4_:=Aside0.mk (blk_below (g:=gb446) (o:=.cells #[.string a0_0,.string a0_1,.slice A0_2 l0_2.length c0_2] 24 (0,0)) (by(with_reducible repeat (first|refine blk_drewN ?_ _|refine blk_drew ?_|refine blk_alloc ?_ _));exact BK446.out) hb)
        have n5_:=Aside0.mk (blk_below (g:=gb475) (o:=.cells #[.string t469,.string t470,.slice Ao52 t471.length co52] 24 (0,0)) (by(with_reducible repeat (first|refine blk_drewN ?_ _|refine blk_drew ?_|refine blk_alloc ?_ _));exact BK475.out) hb)
        have n6_:=Aside0.mk (blk_below (g:=gb486) (o:=.cells #[.string t480,.string t481,.slice Ao59 t482.length co59] 24 (0,0)) (by(with_reducible repeat (first|refine blk_drewN ?_ _|refine blk_drew ?_|refine blk_alloc ?_ _));exact BK486.out) hb)
        have n7_:=Aside0.mk (below_step (by repeat (first|(with_reducible first|exact HB.out|apply below_alloc|apply pw_below_drewN|apply below_drew1|refine below_set ?_ GE446.out|refine below_set ?_ GE475.out|refine below_set ?_ GE486.out)|exact HB.out)) hb)
        clear HO473
        clear HO484
        clear HO491
        clear HO496
        clear BK446
        clear BK475
        clear BK486
        clear HB
        have HO473:=n0_
        have HO484:=n1_
        have HO491:=n2_
        have HO496:=n3_
        have BK446:=n4_
        have BK475:=n5_
        have BK486:=n6_
        have HB:=n7_
        clear n0_ n1_ n2_ n3_ n4_ n5_ n6_ n7_
        (try clear hb)
        (try clear hb2)
        (try clear hk)
        (try clear hi)
        refine hK.out _ _ ⟨(blk_cell BK486.out 0).trans rfl,(blk_cell BK486.out 1).trans rfl,(blk_cell BK486.out 2).trans rfl,(blk_cell BK475.out 0).trans rfl,(blk_cell BK475.out 1).trans rfl,(blk_cell BK475.out 2).trans rfl⟩ (fun hHeld=>?_)
        clear hK K
        refine norm_ (a':=?_) ?_ ?_
        rotate_left
        ·show Act.put _ (some 93) _=_
         simp only [Act.put,List.setIfInBounds_toArray,List.set_cons_zero,List.set_cons_succ,i64_w,i32_w]
         rfl
        refine pure_ (i:=8) (N:=some 94) (v:=?_) (a':=?_) #[T,T,T,T,T,T,T,T,T,F,F,F,F] rfl rfl (any_of HT_.out (by kernel_rfl)) (fun _ _ _ h=>h) (Or.inl ⟨by rfl,?_⟩) ?_ ?_
        rotate_left
        ·intro w'
         go_simp
         with_reducible rfl
        rotate_left
        ·simp only [Act.put,List.setIfInBounds_toArray,List.set_cons_zero,List.set_cons_succ,i64_w,i32_w]
         rfl
        refine pure_ (i:=9) (N:=some 95) (v:=?_) (a':=?_) #[T,T,T,T,T,T,T,T,T,T,F,F,F] rfl rfl (any_of HT_.out (by kernel_rfl)) (fun _ _ _ h=>h) (Or.inl ⟨by rfl,?_⟩) ?_ ?_
        rotate_left
        ·intro w'
         go_simp
         with_reducible rfl
        rotate_left
        ·simp only [Act.put,List.setIfInBounds_toArray,List.set_cons_zero,List.set_cons_succ,i64_w,i32_w]
         rfl
        refine one_ (i:=10) (N:=some 96) #[T,T,T,T,T,T,T,T,T,T,T,F,F] rfl rfl (one_of HT_.out (by kernel_rfl)) (by decide) (fun K hK=>?_)
        refine goes_ Tryd.func14 (by kernel_rfl) rfl #[] (by rfl) rfl rfl (by(try simp only [List.map_toArray,List.map_cons,List.map_nil]);first|done|rfl|(simp only [List.length_drop,List.length_take];rfl)) ?_
        with_reducible refine(stowagelaw13_awake.calls kj11  t498 _ (by first|exact hG|exact gok_below hG (by repeat (first|(with_reducible first|exact HB.out|apply below_alloc|apply pw_below_drewN|apply below_drew1|refine below_set ?_ GE446.out|refine below_set ?_ GE475.out|refine below_set ?_ GE486.out)|exact HB.out))|exact gok_heap hG rfl|exact gok_drewN hG _|exact gok_below hG (by repeat (first|exact HB.out|exact HBW.out|exact Below.refl _ _|apply below_alloc|apply pw_below_drewN|apply below_drew1))) A47.out).mono ?_
        rintro e w67 ⟨rfl,hb⟩
        refine⟨_,rfl,?_⟩
        have n0_:=Aside0.mk (Kd.V_below (by(with_reducible repeat (first|apply Kd.V_alloc|apply Kd.V_drewN|apply Kd.V_drew));exact HO473.out) hb)
        have n1_:=Aside0.mk (Kd.V_below (by(with_reducible repeat (first|apply Kd.V_alloc|apply Kd.V_drewN|apply Kd.V_drew));exact HO484.out) hb)
        have n2_:=Aside0.mk (Kd.R_below (by(with_reducible repeat (first|apply Kd.R_alloc|apply Kd.R_drewN|apply Kd.R_drew));exact HO491.out) hb)
        have n3_:=Aside0.mk (Kd.R_below (by(with_reducible repeat (first|apply Kd.R_alloc|apply Kd.R_drewN|apply Kd.R_drew));exact HO496.out) hb)
        have n4_:=Aside0.mk (blk_below (g:=gb446) (o:=.cells #[.string a0_0,.string a0_1,.slice A0_2 l0_2.length c0_2] 24 (0,0)) (by(with_reducible repeat (first|refine blk_drewN ?_ _|refine blk_drew ?_|refine blk_alloc ?_ _));exact BK446.out) hb)
        have n5_:=Aside0.mk (blk_below (g:=gb475) (o:=.cells #[.string t469,.string t470,.slice Ao52 t471.length co52] 24 (0,0)) (by(with_reducible repeat (first|refine blk_drewN ?_ _|refine blk_drew ?_|refine blk_alloc ?_ _));exact BK475.out) hb)
        have n6_:=Aside0.mk (blk_below (g:=gb486) (o:=.cells #[.string t480,.string t481,.slice Ao59 t482.length co59] 24 (0,0)) (by(with_reducible repeat (first|refine blk_drewN ?_ _|refine blk_drew ?_|refine blk_alloc ?_ _));exact BK486.out) hb)
        have n7_:=Aside0.mk (below_step (by repeat (first|(with_reducible first|exact HB.out|apply below_alloc|apply pw_below_drewN|apply below_drew1|refine below_set ?_ GE446.out|refine below_set ?_ GE475.out|refine below_set ?_ GE486.out)|exact HB.out)) hb)
        clear HO473
        clear HO484
        clear HO491
        clear HO496
        clear BK446
        clear BK475
        clear BK486
        clear HB
        have HO473:=n0_
        have HO484:=n1_
        have HO491:=n2_
        have HO496:=n3_
        have BK446:=n4_
        have BK475:=n5_
        have BK486:=n6_
        have HB:=n7_
        clear n0_ n1_ n2_ n3_ n4_ n5_ n6_ n7_
        (try clear hb)
        (try clear hb2)
        (try clear hk)
        (try clear hi)
        refine hK.out _ _ ⟨(blk_cell BK486.out 0).trans rfl,(blk_cell BK486.out 1).trans rfl,(blk_cell BK486.out 2).trans rfl,(blk_cell BK475.out 0).trans rfl,(blk_cell BK475.out 1).trans rfl,(blk_cell BK475.out 2).trans rfl⟩ (fun hHeld=>?_)
        clear hK K
        refine norm_ (a':=?_) ?_ ?_
        rotate_left
        ·show Act.put _ (some 96) _=_
         simp only [Act.put,List.setIfInBounds_toArray,List.set_cons_zero,List.set_cons_succ,i64_w,i32_w]
         rfl
        refine pure_ (i:=11) (N:=some 97) (v:=?_) (a':=?_) #[T,T,T,T,T,T,T,T,T,T,T,T,F] rfl rfl (any_of HT_.out (by kernel_rfl)) (fun _ _ _ h=>h) (Or.inl ⟨by rfl,?_⟩) ?_ ?_
        rotate_left
        ·intro w'
         go_simp
         with_reducible rfl
        rotate_left
        ·simp only [Act.put,List.setIfInBounds_toArray,List.set_cons_zero,List.set_cons_succ,i64_w,i32_w]
         rfl
        refine pure_ (i:=12) (N:=some 6) (v:=?_) (a':=?_) #[T,T,T,T,T,T,T,T,T,T,T,T,T] rfl rfl (any_of HT_.out (by kernel_rfl)) (fun _ _ _ h=>h) (Or.inl ⟨by rfl,?_⟩) ?_ ?_
        rotate_left
        ·intro w'
         go_simp
         with_reducible rfl
        rotate_left
        ·simp only [Act.put,List.setIfInBounds_toArray,List.set_cons_zero,List.set_cons_succ,i64_w,i32_w]
         rfl
        refine done_ (done_of HT_.out (by kernel_rfl)) ?_
        try go_wp2
        go_ret
        exact⟨by first|rfl|(simp [errW_none,errW_some] <;> rfl)|(simp [*,errW_none,errW_some] <;> rfl),by repeat (first|(with_reducible first|exact HB.out|apply below_alloc|apply pw_below_drewN|apply below_drew1|refine below_set ?_ GE446.out|refine below_set ?_ GE475.out|refine below_set ?_ GE486.out)|exact HB.out)⟩
       ·replace c46:=Bool.eq_false_iff.mpr c46
        subst c46
        replace H:=itF H
        rw [hr] at H
        exact absurd H (by simp)
      ·skip
       have c42b0:(t485 == 0)=false:=beq_eq_false_iff_ne.mpr c42
       have c42b1:(t485 != 0)=true:=bne_iff_ne.mpr c42
       rw [hr] at H
       exact absurd H (by simp)
     ·skip
      have c40b0:(t478 == 0)=false:=beq_eq_false_iff_ne.mpr c40
      have c40b1:(t478 != 0)=true:=bne_iff_ne.mpr c40
      replace H:=itO H
      rcases H with⟨c68,H⟩|⟨c68,H⟩
      ·skip
       have c68b0:(t478 == 2)=true:=beq_iff_eq.mpr c68
       have c68b1:(t478 != 2)=false:=bne_eq_false_iff_eq.mpr c68
       clear c68
       replace H:=bndO H
       obtain⟨t479,A690,H⟩:=H
       have A69:=Aside0.mk A690
       clear A690
       clear hr
       obtain rfl:=Option.some.inj H
       go_wp2_with (first|((with_reducible refine gate_callee (f:=10) rfl ?_);refine goesL_ (some 46) rfl rfl Tryd.func10 (by kernel_rfl) rfl #[.string a2] rfl (by(try simp only [List.map_toArray,List.map_cons,List.map_nil]);first|done|rfl|(simp only [List.length_drop,List.length_take];rfl)) ?_;(with_reducible refine(xml_Parse.calls kj11 a2 t469 t470 t471 t474 _ (by first|exact hG|exact gok_below hG (by repeat (first|(with_reducible first|exact HB.out|apply below_alloc|apply pw_below_drewN|apply below_drew1|refine below_set ?_ GE446.out)|exact HB.out))|exact gok_heap hG rfl|exact gok_drewN hG _|exact gok_below hG (by repeat (first|exact HB.out|exact HBW.out|exact Below.refl _ _|apply below_alloc|apply pw_below_drewN|apply below_drew1))) A37.out).mono ?_);rintro e w70 ⟨v472,rfl,ho0,hb⟩;refine⟨_,rfl,?_⟩;have n0_:=Aside0.mk (Kd.V_lower (Kd.V_mono (ok':=fun k_=>k_≠gb446) ho0 (fun k_ hk_=>(Kd.freshB (g:=gb446) (o:=.cells #[.string a0_0,.string a0_1,.slice A0_2 l0_2.length c0_2] 24 (0,0)) (by(with_reducible repeat (first|refine blk_drewN ?_ _|refine blk_drew ?_|refine blk_alloc ?_ _));exact BK446.out) k_ hk_))) (below_size (by repeat (first|(with_reducible first|exact HB.out|apply below_alloc|apply pw_below_drewN|apply below_drew1|refine below_set ?_ GE446.out)|exact HB.out))));have n1_:=Aside0.mk (blk_below (g:=gb446) (o:=.cells #[.string a0_0,.string a0_1,.slice A0_2 l0_2.length c0_2] 24 (0,0)) (by(with_reducible repeat (first|refine blk_drewN ?_ _|refine blk_drew ?_|refine blk_alloc ?_ _));exact BK446.out) hb);have n2_:=Aside0.mk (below_step (by repeat (first|(with_reducible first|exact HB.out|apply below_alloc|apply pw_below_drewN|apply below_drew1|refine below_set ?_ GE446.out)|exact HB.out)) hb);clear BK446;clear HB;have HO473:=n0_;have BK446:=n1_;have HB:=n2_;clear n0_ n1_ n2_;(try clear hb);(try clear hb2);(try clear hk);(try clear hi);(try clear ho0))|((with_reducible refine gate_dst (N:=11) rfl ?_);(try (refine gate_guard (by rfl) ?_;dsimp only));refine box_event ?hg (N:=11) ?hd (cs:=#[.string (⟨#[]⟩ : ByteArray),.string (⟨#[]⟩ : ByteArray),.slice none 0 0]) (t:=24) ?hr ?_;(case hd=>rfl);(case hg=>rfl);(case hr=>first|(go_simp;done)|(go_simp;rfl));intro gb475 hg w71 hbox hb;have n0_:=Aside0.mk (Kd.V_below (Kd.V_elderB (by(with_reducible repeat (first|apply Kd.V_alloc|apply Kd.V_drewN|apply Kd.V_drew));exact HO473.out) gb475 (Nat.le_of_eq hg.symm)) hb);have n1_:=Aside0.mk (blk_below (g:=gb446) (o:=.cells #[.string a0_0,.string a0_1,.slice A0_2 l0_2.length c0_2] 24 (0,0)) (by(with_reducible repeat (first|refine blk_drewN ?_ _|refine blk_drew ?_|refine blk_alloc ?_ _));exact BK446.out) hb);have n2_:=Aside0.mk (below_step (by repeat (first|(with_reducible first|exact HB.out|apply below_alloc|apply pw_below_drewN|apply below_drew1|refine below_set ?_ GE446.out)|exact HB.out)) hb);have n3_:=Aside0.mk (hbox);have n4_:=Aside0.mk ((by rw [hg];exact(below_size (by repeat (first|(with_reducible first|exact HB.out|apply below_alloc|apply pw_below_drewN|apply below_drew1|refine below_set ?_ GE446.out)|exact HB.out))):w.heap.size≤gb475));have n5_:=Aside0.mk ((by rw [hg];exact(below_size (by repeat (first|(with_reducible first|exact HB.out|apply below_alloc|apply pw_below_drewN|apply below_drew1|refine below_set ?_ GE446.out)|exact HB.out))):w.heap.size≤gb475));have n6_:=Aside0.mk ((by rw [hg];exact Nat.ne_of_lt (blk_lt (g:=gb446) (o:=.cells #[.string a0_0,.string a0_1,.slice A0_2 l0_2.length c0_2] 24 (0,0)) (by(with_reducible repeat (first|refine blk_drewN ?_ _|refine blk_drew ?_|refine blk_alloc ?_ _));exact BK446.out)):gb446≠gb475));have n7_:=Aside0.mk ((by rw [hg];exact Nat.ne_of_gt (blk_lt (g:=gb446) (o:=.cells #[.string a0_0,.string a0_1,.slice A0_2 l0_2.length c0_2] 24 (0,0)) (by(with_reducible repeat (first|refine blk_drewN ?_ _|refine blk_drew ?_|refine blk_alloc ?_ _));exact BK446.out)):gb475≠gb446));clear HO473;clear BK446;clear HB;have HO473:=n0_;have BK446:=n1_;have HB:=n2_;have BK475:=n3_;have GW475:=n4_;have GE475:=n5_;have NB446_475:=n6_;have NB475_446:=n7_;clear n0_ n1_ n2_ n3_ n4_ n5_ n6_ n7_;clear hb hbox hg;have hnb72:=NB475_446.out;have hnc72:=NB446_475.out;have hcz73_0:w71.cell? ⟨gb475,0,none⟩=some (.string (⟨#[]⟩ : ByteArray)):=(blk_cell BK475.out 0).trans rfl;have hcz73_1:w71.cell? ⟨gb475,1,none⟩=some (.string (⟨#[]⟩ : ByteArray)):=(blk_cell BK475.out 1).trans rfl;have hcz73_2:w71.cell? ⟨gb475,2,none⟩=some (.slice none 0 0):=(blk_cell BK475.out 2).trans rfl;have hfz73_0:=blk_frozen BK475.out 0;have hfz73_1:=blk_frozen BK475.out 1;have hfz73_2:=blk_frozen BK475.out 2;obtain⟨Ao74,co74,eo74⟩:=Kd.V_slice HO473.out;subst eo74)|((with_reducible refine gate_callee (f:=22) rfl ?_);refine goesL_ (some 71) rfl rfl Tryd.func22 (by kernel_rfl) rfl #[.agg #[.string t469,.string t470,.slice Ao74 t471.length co74],.bool a1] rfl (by(try simp only [List.map_toArray,List.map_cons,List.map_nil]);first|done|rfl|(simp only [List.length_drop,List.length_take];rfl)) ?_;(with_reducible refine(xml_Print.calls kj11 t469 t470 _ _ t471 a1 t477 t478 _ ?side1 ?side2 A39.out).mono ?_);(case side1=>refine(Kd.V_reads' (e:=24) (base:=w.heap.size) (ok:=fun k_=>(k_≠gb446∧k_≠gb475)) (n:=t471.length) (c:=co74) ?_).2.2;exact(by(with_reducible repeat (first|apply Kd.V_alloc|apply Kd.V_drewN|apply Kd.V_drew));exact(Kd.V_mono (Kd.V_far (p:=⟨gb475,2,none⟩) (Kd.V_far (p:=⟨gb475,1,none⟩) (Kd.V_far (p:=⟨gb475,0,none⟩) (Kd.V_mono HO473.out (fun k_ hk=>(⟨hk,hk.2⟩ : _∧k_≠gb475))) (fun _ hk=>hk.2) (.string t469)) (fun _ hk=>hk.2) (.string t470)) (fun _ hk=>hk.2) (.slice Ao74 t471.length co74)) (fun _ h_=>h_.1))));(case side2=>exact(Kd.V_reads' HO473.out).2.1);rintro e w75 ⟨rfl,hb⟩;refine⟨_,rfl,?_⟩;have n0_:=Aside0.mk (Kd.V_below (by(with_reducible repeat (first|apply Kd.V_alloc|apply Kd.V_drewN|apply Kd.V_drew));exact(Kd.V_mono (Kd.V_far (p:=⟨gb475,2,none⟩) (Kd.V_far (p:=⟨gb475,1,none⟩) (Kd.V_far (p:=⟨gb475,0,none⟩) (Kd.V_mono HO473.out (fun k_ hk=>(⟨hk,hk.2⟩ : _∧k_≠gb475))) (fun _ hk=>hk.2) (.string t469)) (fun _ hk=>hk.2) (.string t470)) (fun _ hk=>hk.2) (.slice Ao74 t471.length co74)) (fun _ h_=>h_.1))) hb);have n1_:=Aside0.mk (blk_below (g:=gb446) (o:=.cells #[.string a0_0,.string a0_1,.slice A0_2 l0_2.length c0_2] 24 (0,0)) (by(with_reducible repeat (first|refine blk_drewN ?_ _|refine blk_drew ?_|refine blk_alloc ?_ _));refine blk_far ?_ NB446_475.out _;(with_reducible repeat (first|refine blk_drewN ?_ _|refine blk_drew ?_|refine blk_alloc ?_ _));refine blk_far ?_ NB446_475.out _;(with_reducible repeat (first|refine blk_drewN ?_ _|refine blk_drew ?_|refine blk_alloc ?_ _));refine blk_far ?_ NB446_475.out _;(with_reducible repeat (first|refine blk_drewN ?_ _|refine blk_drew ?_|refine blk_alloc ?_ _));exact BK446.out) hb);have n2_:=Aside0.mk (blk_below (g:=gb475) (o:=.cells #[.string t469,.string t470,.slice Ao74 t471.length co74] 24 (0,0)) (by(with_reducible repeat (first|refine blk_drewN ?_ _|refine blk_drew ?_|refine blk_alloc ?_ _));refine blk_put (cs:=#[.string t469,.string t470,.slice none 0 0]) ?_ 2 _ rfl;(with_reducible repeat (first|refine blk_drewN ?_ _|refine blk_drew ?_|refine blk_alloc ?_ _));refine blk_put (cs:=#[.string t469,.string (⟨#[]⟩ : ByteArray),.slice none 0 0]) ?_ 1 _ rfl;(with_reducible repeat (first|refine blk_drewN ?_ _|refine blk_drew ?_|refine blk_alloc ?_ _));refine blk_put (cs:=#[.string (⟨#[]⟩ : ByteArray),.string (⟨#[]⟩ : ByteArray),.slice none 0 0]) ?_ 0 _ rfl;(with_reducible repeat (first|refine blk_drewN ?_ _|refine blk_drew ?_|refine blk_alloc ?_ _));exact BK475.out) hb);have n3_:=Aside0.mk (below_step (by repeat (first|(with_reducible first|exact HB.out|apply below_alloc|apply pw_below_drewN|apply below_drew1|refine below_set ?_ GE446.out|refine below_set ?_ GE475.out)|exact HB.out)) hb);clear HO473;clear BK446;clear BK475;clear HB;have HO473:=n0_;have BK446:=n1_;have BK475:=n2_;have HB:=n3_;clear n0_ n1_ n2_ n3_;(try clear hb);(try clear hb2);(try clear hk);(try clear hi))|(go_at_call 14;(with_reducible refine(stowagelaw13_awake.calls kj11  t479 _ (by first|exact hG|exact gok_below hG (by repeat (first|(with_reducible first|exact HB.out|apply below_alloc|apply pw_below_drewN|apply below_drew1|refine below_set ?_ GE446.out|refine below_set ?_ GE475.out)|exact HB.out))|exact gok_heap hG rfl|exact gok_drewN hG _|exact gok_below hG (by repeat (first|exact HB.out|exact HBW.out|exact Below.refl _ _|apply below_alloc|apply pw_below_drewN|apply below_drew1))) A69.out).mono ?_);rintro e w76 ⟨rfl,hb⟩;have n0_:=Aside0.mk (Kd.V_below (by(with_reducible repeat (first|apply Kd.V_alloc|apply Kd.V_drewN|apply Kd.V_drew));exact HO473.out) hb);have n1_:=Aside0.mk (blk_below (g:=gb446) (o:=.cells #[.string a0_0,.string a0_1,.slice A0_2 l0_2.length c0_2] 24 (0,0)) (by(with_reducible repeat (first|refine blk_drewN ?_ _|refine blk_drew ?_|refine blk_alloc ?_ _));exact BK446.out) hb);have n2_:=Aside0.mk (blk_below (g:=gb475) (o:=.cells #[.string t469,.string t470,.slice Ao74 t471.length co74] 24 (0,0)) (by(with_reducible repeat (first|refine blk_drewN ?_ _|refine blk_drew ?_|refine blk_alloc ?_ _));exact BK475.out) hb);have n3_:=Aside0.mk (below_step (by repeat (first|(with_reducible first|exact HB.out|apply below_alloc|apply pw_below_drewN|apply below_drew1|refine below_set ?_ GE446.out|refine below_set ?_ GE475.out)|exact HB.out)) hb);clear HO473;clear BK446;clear BK475;clear HB;have HO473:=n0_;have BK446:=n1_;have BK475:=n2_;have HB:=n3_;clear n0_ n1_ n2_ n3_;(try clear hb);(try clear hb2);(try clear hk);(try clear hi)))
       go_ret
       exact⟨by first|rfl|(simp [errW_none,errW_some] <;> rfl)|(simp [*,errW_none,errW_some] <;> rfl),by repeat (first|(with_reducible first|exact HB.out|apply below_alloc|apply pw_below_drewN|apply below_drew1|refine below_set ?_ GE446.out|refine below_set ?_ GE475.out)|exact HB.out)⟩
      ·skip
       have c68b0:(t478 == 2)=false:=beq_eq_false_iff_ne.mpr c68
       have c68b1:(t478 != 2)=true:=bne_iff_ne.mpr c68
       rw [hr] at H
       exact absurd H (by simp)
    ·skip
     have c38b0:(t474 == 0)=false:=beq_eq_false_iff_ne.mpr c38
     have c38b1:(t474 != 0)=true:=bne_iff_ne.mpr c38
     replace H:=itO H
     rcases H with⟨c77,H⟩|⟨c77,H⟩
     ·skip
      have c77b0:(t469.toList == ([]:List UInt8))=true:=beq_iff_eq.mpr c77
      have c77b1:(t469.toList != ([]:List UInt8))=false:=bne_eq_false_iff_eq.mpr c77
      clear c77
      replace H:=itO H
      rcases H with⟨c78,H⟩|⟨c78,H⟩
      ·skip
       have c78b0:(t470.toList == ([]:List UInt8))=true:=beq_iff_eq.mpr c78
       have c78b1:(t470.toList != ([]:List UInt8))=false:=bne_eq_false_iff_eq.mpr c78
       clear c78
       replace H:=itO H
       rcases H with⟨c79,H⟩|⟨c79,H⟩
       ·skip
        have c79b0:((t471.length:Int) == 0)=true:=beq_iff_eq.mpr c79
        have c79b1:((t471.length:Int) != 0)=false:=bne_eq_false_iff_eq.mpr c79
        clear c79
        replace H:=bndO H
        obtain⟨t476,A800,H⟩:=H
        have A80:=Aside0.mk A800
        clear A800
        clear hr
        obtain rfl:=Option.some.inj H
        go_wp2_with (first|((with_reducible refine gate_callee (f:=10) rfl ?_);refine goesL_ (some 46) rfl rfl Tryd.func10 (by kernel_rfl) rfl #[.string a2] rfl (by(try simp only [List.map_toArray,List.map_cons,List.map_nil]);first|done|rfl|(simp only [List.length_drop,List.length_take];rfl)) ?_;(with_reducible refine(xml_Parse.calls kj11 a2 t469 t470 t471 t474 _ (by first|exact hG|exact gok_below hG (by repeat (first|(with_reducible first|exact HB.out|apply below_alloc|apply pw_below_drewN|apply below_drew1|refine below_set ?_ GE446.out)|exact HB.out))|exact gok_heap hG rfl|exact gok_drewN hG _|exact gok_below hG (by repeat (first|exact HB.out|exact HBW.out|exact Below.refl _ _|apply below_alloc|apply pw_below_drewN|apply below_drew1))) A37.out).mono ?_);rintro e w81 ⟨v472,rfl,ho0,hb⟩;refine⟨_,rfl,?_⟩;have n0_:=Aside0.mk (Kd.V_lower (Kd.V_mono (ok':=fun k_=>k_≠gb446) ho0 (fun k_ hk_=>(Kd.freshB (g:=gb446) (o:=.cells #[.string a0_0,.string a0_1,.slice A0_2 l0_2.length c0_2] 24 (0,0)) (by(with_reducible repeat (first|refine blk_drewN ?_ _|refine blk_drew ?_|refine blk_alloc ?_ _));exact BK446.out) k_ hk_))) (below_size (by repeat (first|(with_reducible first|exact HB.out|apply below_alloc|apply pw_below_drewN|apply below_drew1|refine below_set ?_ GE446.out)|exact HB.out))));have n1_:=Aside0.mk (blk_below (g:=gb446) (o:=.cells #[.string a0_0,.string a0_1,.slice A0_2 l0_2.length c0_2] 24 (0,0)) (by(with_reducible repeat (first|refine blk_drewN ?_ _|refine blk_drew ?_|refine blk_alloc ?_ _));exact BK446.out) hb);have n2_:=Aside0.mk (below_step (by repeat (first|(with_reducible first|exact HB.out|apply below_alloc|apply pw_below_drewN|apply below_drew1|refine below_set ?_ GE446.out)|exact HB.out)) hb);clear BK446;clear HB;have HO473:=n0_;have BK446:=n1_;have HB:=n2_;clear n0_ n1_ n2_;(try clear hb);(try clear hb2);(try clear hk);(try clear hi);(try clear ho0))|((with_reducible refine gate_dst (N:=11) rfl ?_);(try (refine gate_guard (by rfl) ?_;dsimp only));refine box_event ?hg (N:=11) ?hd (cs:=#[.string (⟨#[]⟩ : ByteArray),.string (⟨#[]⟩ : ByteArray),.slice none 0 0]) (t:=24) ?hr ?_;(case hd=>rfl);(case hg=>rfl);(case hr=>first|(go_simp;done)|(go_simp;rfl));intro gb475 hg w82 hbox hb;have n0_:=Aside0.mk (Kd.V_below (Kd.V_elderB (by(with_reducible repeat (first|apply Kd.V_alloc|apply Kd.V_drewN|apply Kd.V_drew));exact HO473.out) gb475 (Nat.le_of_eq hg.symm)) hb);have n1_:=Aside0.mk (blk_below (g:=gb446) (o:=.cells #[.string a0_0,.string a0_1,.slice A0_2 l0_2.length c0_2] 24 (0,0)) (by(with_reducible repeat (first|refine blk_drewN ?_ _|refine blk_drew ?_|refine blk_alloc ?_ _));exact BK446.out) hb);have n2_:=Aside0.mk (below_step (by repeat (first|(with_reducible first|exact HB.out|apply below_alloc|apply pw_below_drewN|apply below_drew1|refine below_set ?_ GE446.out)|exact HB.out)) hb);have n3_:=Aside0.mk (hbox);have n4_:=Aside0.mk ((by rw [hg];exact(below_size (by repeat (first|(with_reducible first|exact HB.out|apply below_alloc|apply pw_below_drewN|apply below_drew1|refine below_set ?_ GE446.out)|exact HB.out))):w.heap.size≤gb475));have n5_:=Aside0.mk ((by rw [hg];exact(below_size (by repeat (first|(with_reducible first|exact HB.out|apply below_alloc|apply pw_below_drewN|apply below_drew1|refine below_set ?_ GE446.out)|exact HB.out))):w.heap.size≤gb475));have n6_:=Aside0.mk ((by rw [hg];exact Nat.ne_of_lt (blk_lt (g:=gb446) (o:=.cells #[.string a0_0,.string a0_1,.slice A0_2 l0_2.length c0_2] 24 (0,0)) (by(with_reducible repeat (first|refine blk_drewN ?_ _|refine blk_drew ?_|refine blk_alloc ?_ _));exact BK446.out)):gb446≠gb475));have n7_:=Aside0.mk ((by rw [hg];exact Nat.ne_of_gt (blk_lt (g:=gb446) (o:=.cells #[.string a0_0,.string a0_1,.slice A0_2 l0_2.length c0_2] 24 (0,0)) (by(with_reducible repeat (first|refine blk_drewN ?_ _|refine blk_drew ?_|refine blk_alloc ?_ _));exact BK446.out)):gb475≠gb446));clear HO473;clear BK446;clear HB;have HO473:=n0_;have BK446:=n1_;have HB:=n2_;have BK475:=n3_;have GW475:=n4_;have GE475:=n5_;have NB446_475:=n6_;have NB475_446:=n7_;clear n0_ n1_ n2_ n3_ n4_ n5_ n6_ n7_;clear hb hbox hg;have hnb83:=NB475_446.out;have hnc83:=NB446_475.out;have hcz84_0:w82.cell? ⟨gb475,0,none⟩=some (.string (⟨#[]⟩ : ByteArray)):=(blk_cell BK475.out 0).trans rfl;have hcz84_1:w82.cell? ⟨gb475,1,none⟩=some (.string (⟨#[]⟩ : ByteArray)):=(blk_cell BK475.out 1).trans rfl;have hcz84_2:w82.cell? ⟨gb475,2,none⟩=some (.slice none 0 0):=(blk_cell BK475.out 2).trans rfl;have hfz84_0:=blk_frozen BK475.out 0;have hfz84_1:=blk_frozen BK475.out 1;have hfz84_2:=blk_frozen BK475.out 2;obtain⟨Ao85,co85,eo85⟩:=Kd.V_slice HO473.out;subst eo85)|(go_at_call 14;(with_reducible refine(stowagelaw13_awake.calls kj11  t476 _ (by first|exact hG|exact gok_below hG (by repeat (first|(with_reducible first|exact HB.out|apply below_alloc|apply pw_below_drewN|apply below_drew1|refine below_set ?_ GE446.out|refine below_set ?_ GE475.out)|exact HB.out))|exact gok_heap hG rfl|exact gok_drewN hG _|exact gok_below hG (by repeat (first|exact HB.out|exact HBW.out|exact Below.refl _ _|apply below_alloc|apply pw_below_drewN|apply below_drew1))) A80.out).mono ?_);rintro e w86 ⟨rfl,hb⟩;have n0_:=Aside0.mk (Kd.V_below (by(with_reducible repeat (first|apply Kd.V_alloc|apply Kd.V_drewN|apply Kd.V_drew));exact(Kd.V_mono (Kd.V_far (p:=⟨gb475,2,none⟩) (Kd.V_far (p:=⟨gb475,1,none⟩) (Kd.V_far (p:=⟨gb475,0,none⟩) (Kd.V_mono HO473.out (fun k_ hk=>(⟨hk,hk.2⟩ : _∧k_≠gb475))) (fun _ hk=>hk.2) (.string t469)) (fun _ hk=>hk.2) (.string t470)) (fun _ hk=>hk.2) (.slice Ao85 t471.length co85)) (fun _ h_=>h_.1))) hb);have n1_:=Aside0.mk (blk_below (g:=gb446) (o:=.cells #[.string a0_0,.string a0_1,.slice A0_2 l0_2.length c0_2] 24 (0,0)) (by(with_reducible repeat (first|refine blk_drewN ?_ _|refine blk_drew ?_|refine blk_alloc ?_ _));refine blk_far ?_ NB446_475.out _;(with_reducible repeat (first|refine blk_drewN ?_ _|refine blk_drew ?_|refine blk_alloc ?_ _));refine blk_far ?_ NB446_475.out _;(with_reducible repeat (first|refine blk_drewN ?_ _|refine blk_drew ?_|refine blk_alloc ?_ _));refine blk_far ?_ NB446_475.out _;(with_reducible repeat (first|refine blk_drewN ?_ _|refine blk_drew ?_|refine blk_alloc ?_ _));exact BK446.out) hb);have n2_:=Aside0.mk (blk_below (g:=gb475) (o:=.cells #[.string t469,.string t470,.slice Ao85 t471.length co85] 24 (0,0)) (by(with_reducible repeat (first|refine blk_drewN ?_ _|refine blk_drew ?_|refine blk_alloc ?_ _));refine blk_put (cs:=#[.string t469,.string t470,.slice none 0 0]) ?_ 2 _ rfl;(with_reducible repeat (first|refine blk_drewN ?_ _|refine blk_drew ?_|refine blk_alloc ?_ _));refine blk_put (cs:=#[.string t469,.string (⟨#[]⟩ : ByteArray),.slice none 0 0]) ?_ 1 _ rfl;(with_reducible repeat (first|refine blk_drewN ?_ _|refine blk_drew ?_|refine blk_alloc ?_ _));refine blk_put (cs:=#[.string (⟨#[]⟩ : ByteArray),.string (⟨#[]⟩ : ByteArray),.slice none 0 0]) ?_ 0 _ rfl;(with_reducible repeat (first|refine blk_drewN ?_ _|refine blk_drew ?_|refine blk_alloc ?_ _));exact BK475.out) hb);have n3_:=Aside0.mk (below_step (by repeat (first|(with_reducible first|exact HB.out|apply below_alloc|apply pw_below_drewN|apply below_drew1|refine below_set ?_ GE446.out|refine below_set ?_ GE475.out)|exact HB.out)) hb);clear HO473;clear BK446;clear BK475;clear HB;have HO473:=n0_;have BK446:=n1_;have BK475:=n2_;have HB:=n3_;clear n0_ n1_ n2_ n3_;(try clear hb);(try clear hb2);(try clear hk);(try clear hi)))
        go_ret
        exact⟨by first|rfl|(simp [errW_none,errW_some] <;> rfl)|(simp [*,errW_none,errW_some] <;> rfl),by repeat (first|(with_reducible first|exact HB.out|apply below_alloc|apply pw_below_drewN|apply below_drew1|refine below_set ?_ GE446.out|refine below_set ?_ GE475.out)|exact HB.out)⟩
       ·skip
        have c79b0:((t471.length:Int) == 0)=false:=beq_eq_false_iff_ne.mpr c79
        have c79b1:((t471.length:Int) != 0)=true:=bne_iff_ne.mpr c79
        have c79b2:¬ (t471 = []):=fun h_=>c79 (by rw [h_];rfl)
        rw [hr] at H
        exact absurd H (by simp)
      ·skip
       have c78b0:(t470.toList == ([]:List UInt8))=false:=beq_eq_false_iff_ne.mpr c78
       have c78b1:(t470.toList != ([]:List UInt8))=true:=bne_iff_ne.mpr c78
       rw [hr] at H
       exact absurd H (by simp)
     ·skip
      have c77b0:(t469.toList == ([]:List UInt8))=false:=beq_eq_false_iff_ne.mpr c77
      have c77b1:(t469.toList != ([]:List UInt8))=true:=bne_iff_ne.mpr c77
      rw [hr] at H
      exact absurd H (by simp)
end Go.Proofs.YtklcgncaclggcaaDoor.Q
