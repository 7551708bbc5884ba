/- A part of the proof of the seat's laws. No condition beyond those in the theorems. -/
import Derived.Lib.Hide
import Derived.Test.YtfjidcmegacibaaDoorZQ31
import Derived.Test.YtfjidcmegacibaaDoorZQ63
import Derived.Test.YtfjidcmegacibaaDoorZQ0g11
import Derived.Test.YtfjidcmegacibaaDoorZQ33g16
import Derived.Lib.OthersKept
import Derived.Test.YtfjidcmegacibaaDoorZBld

namespace Go.Proofs.YtfjidcmegacibaaDoor.Q
open Go.RowKit Go.Proofs.YtfjidcmegacibaaDoorW.PrintWords Go.Proofs.YtfjidcmegacibaaDoorW.PrintLast Go.Proofs.YtfjidcmegacibaaDoorW.PrintMore
set_option linter.unusedVariables false
set_option linter.unusedSimpArgs false
set_option maxHeartbeats 8000000
set_option maxRecDepth 100000
attribute [local go_sem] max2_int min2_int max_two min_two max_three min_three max_four min_four   
def stowagelaw17_awake.f (k:Nat):Option Bool:=(reply_Print.f k 204 ([]:List S52) ([]:List Int) false 0 (⟨#[48]⟩ : ByteArray) false).bind fun b=>(reply_Parse.f k b false).bind fun r=>if((strOfNums b).toList == ([72,84,84,80,47,49,46,49,32,50,48,52,32,78,111,32,67,111,110,116,101,110,116,13,10,83,101,114,118,101,114,58,32,115,116,111,119,97,103,101,13,10,68,97,116,101,58,32,84,104,117,44,32,48,49,32,74,97,110,32,49,57,55,48,32,48,48,58,48,48,58,48,48,32,71,77,84,13,10,120,45,97,109,122,45,114,101,113,117,101,115,116,45,105,100,58,32,48,13,10,13,10]:List UInt8))=true then(if r.2.2.2.2=true∧r.1=204∧r.2.2.2.1=(b.length:Int) then some true else none) else none
theorem stowagelaw17_awake.mono:∀ k,LeO (stowagelaw17_awake.f k) (stowagelaw17_awake.f (k+1)):=by
 intro k
 unfold stowagelaw17_awake.f
 exact LeO.bind (reply_Print.mono _ _ _ _ _ _ _ _) fun _=>LeO.bind (reply_Parse.mono _ _ _) fun _=>LeO.refl _
theorem stowagelaw17_awake.calls (k:Nat) (r:Bool) (w:World) (hG:GOk w) (h:stowagelaw17_awake.f k=some r) :
  Calls Tryd.prog 12 #[] w fun e w'=>e = .returned (.bool r)∧Below w.heap.size w w':=by
 have hu27:=Tryd.underlying27
 unfold stowagelaw17_awake.f at h
 obtain⟨b,hb,h⟩:=bndO h
 obtain⟨⟨r1,r2,r3,r4,r5⟩,hp,h⟩:=bndO h
 dsimp only at h
 replace h:=itO h
 rcases h with⟨c3b0,h⟩|⟨_,h⟩
 rotate_left
 ·exact absurd h (by simp)
 replace h:=itO h
 rcases h with⟨⟨rfl,rfl,rfl⟩,h⟩|⟨_,h⟩
 rotate_left
 ·exact absurd h (by simp)
 obtain rfl:=Option.some.inj h
 have hb':=Lib.hid hb
 have hp':=Lib.hid hp
 have hG':=Lib.hid hG
 have hph:reply_Phrase.f 503=some (⟨#[83,101,114,118,105,99,101,32,85,110,97,118,97,105,108,97,98,108,101]⟩ : ByteArray):=by rfl
 have hph':=Lib.hid hph
 clear hb hp hG h hph
 go_enter Tryd.func12,Tryd.ntmps12
 go_wp2_with fail
 refine(reply_Print.calls k 204 none 0 ([]:List S52) none 0 ([]:List Int) false 0 (⟨#[48]⟩ : ByteArray) false b w (Kd.C_nil _ _) (Nat.le_refl _) (Kd.C_nil _ _) (Nat.le_refl _) hG'.out hb'.out).mono ?_
 rintro e w1 ⟨v0,rfl,hV,hB⟩
 obtain⟨Ab,cb,rfl⟩:=Kd.V_slice hV
 have hC:=Lib.hid (Kd.V_reads' hV).2
 have hB':=Lib.hid hB
 clear hV hB
 go_wp2_with fail
 refine(reply_Parse.calls k Ab cb b false 204 r2 r3 b.length true w1 hC.out.2 hC.out.1 (gok_below hG'.out hB'.out) hp'.out).mono ?_
 rintro e w2 ⟨v1,v2,rfl,hV1,hV2,hB2⟩
 obtain⟨A1,c1,rfl⟩:=Kd.V_slice hV1
 obtain⟨A2,c2,rfl⟩:=Kd.V_slice hV2
 have hW:=Lib.hid (And.intro (hB'.out.trans (hB2.mono hB'.out.size)) hB'.out.size)
 have hstr:=Kd.C_string (P:=Tryd.prog) (c:=cb) Tryd.underlying23 Tryd.underlying5 Tryd.underlying9 (Kd.C_alloc (Kd.C_below hC.out.2 hB2) (.cells #[.int .i64 204,.slice A1 r2.length c1,.slice A2 r3.length c2] 27))
 have hx0:=(blk_cell (blk_new w2 (.cells #[.int .i64 204,.slice A1 r2.length c1,.slice A2 r3.length c2] 27)) 0).trans rfl
 clear hV1 hV2 hB2
 go_wp2_with fail
 refine(reply_Phrase.calls 503 _ _ hph'.out).mono ?_
 rintro e w9 ⟨rfl,⟨nd,rfl⟩⟩
 go_wp2
 go_ret
 refine⟨rfl,?_⟩
 exact pw_below_drewN (below_alloc hW.out.1 _) nd
mutual
def stowagelaw13_Deep.l0:Nat→Int→Int→Int→ByteArray→ByteArray→List (S42)→Option (Int)
 | 0,_,_,_,_,_,_=>none
 | k+1,x1,x5,x6,x250000,x250001,x250002=>if x6<(x250002.length:Int) then(if x1>0 then(if 0≤x6 then((stowagelaw13_Deep.f k ((rd_T42 x250002 x6).f0) ((rd_T42 x250002 x6).f1) ((rd_T42 x250002 x6).f2) (wrap64 (x1-1))).bind fun t251=>(stowagelaw13_Deep.l0 k x1 (mx x5 t251) (wrap64 (x6+1)) x250000 x250001 x250002)) else(none)) else(some (wrap64 (x5+1)))) else(some (wrap64 (x5+1)))
def stowagelaw13_Deep.f:Nat→ByteArray→ByteArray→List (S42)→Int→Option (Int)
 | 0,_,_,_,_=>none
 | k+1,a0_0,a0_1,l0_2,a1=>stowagelaw13_Deep.l0 k a1 0 0 a0_0 a0_1 l0_2
end
theorem stowagelaw13_Deep.mono_l:∀ k,(∀ y0 y1 y2 y3,LeO (stowagelaw13_Deep.f k y0 y1 y2 y3) (stowagelaw13_Deep.f (k+1) y0 y1 y2 y3))∧(∀ y0 y1 y2 y3 y4 y5,LeO (stowagelaw13_Deep.l0 k y0 y1 y2 y3 y4 y5) (stowagelaw13_Deep.l0 (k+1) y0 y1 y2 y3 y4 y5))
 | 0=>⟨fun _ _ _ _ r h=>by simp [stowagelaw13_Deep.f] at h,fun _ _ _ _ _ _ r h=>by simp [stowagelaw13_Deep.l0] at h⟩
 | k+1=>by
  obtain⟨ih0,ih1⟩:=stowagelaw13_Deep.mono_l k
  refine⟨?_,?_⟩
  ·intro y0 y1 y2 y3
   unfold stowagelaw13_Deep.f
   repeat' first
   | (with_reducible exact ih0 _ _ _ _)
   | (with_reducible exact ih1 _ _ _ _ _ _)
   | (with_reducible exact LeO.refl _)
   | (with_reducible exact LeO.none _)
   | (with_reducible refine LeO.ite ?_ ?_)
   | (with_reducible refine LeO.bind ?_ (fun _=>?_))
   | exact ih0 _ _ _ _
   | exact ih1 _ _ _ _ _ _
   | exact LeO.none _
   | refine LeO.ite ?_ ?_
   | refine LeO.bind ?_ (fun _=>?_)
  ·intro y0 y1 y2 y3 y4 y5
   unfold stowagelaw13_Deep.l0
   repeat' first
   | (with_reducible exact ih0 _ _ _ _)
   | (with_reducible exact ih1 _ _ _ _ _ _)
   | (with_reducible exact LeO.refl _)
   | (with_reducible exact LeO.none _)
   | (with_reducible refine LeO.ite ?_ ?_)
   | (with_reducible refine LeO.bind ?_ (fun _=>?_))
   | exact ih0 _ _ _ _
   | exact ih1 _ _ _ _ _ _
   | exact LeO.none _
   | refine LeO.ite ?_ ?_
   | refine LeO.bind ?_ (fun _=>?_)
theorem stowagelaw13_Deep.mono:∀ a0 a1 a2 a3 k,LeO (stowagelaw13_Deep.f k a0 a1 a2 a3) (stowagelaw13_Deep.f (k+1) a0 a1 a2 a3):=by
 intro a0 a1 a2 a3 k
 obtain⟨ih0,ih1⟩:=stowagelaw13_Deep.mono_l k
 exact ih0 a0 a1 a2 a3
theorem stowagelaw13_Deep.calls (k:Nat):∀ (a0_0:ByteArray) (a0_1:ByteArray) (A0_2:Option Addr) (c0_2:Nat) (l0_2:List (S42)) (a1:Int) (r:Int) (w:World) (hr0_2:Kd.C k42 w A0_2 l0_2.length l0_2) (hc0_2:l0_2.length≤c0_2) (h:stowagelaw13_Deep.f k a0_0 a0_1 l0_2 a1=some r),
  Calls Tryd.prog 17 #[.agg #[.string a0_0,.string a0_1,.slice A0_2 l0_2.length c0_2],.int .i64 a1] w fun e w'=>e = .returned (.int .i64 r)∧Below w.heap.size w w':=by
 induction k using Nat.strongRecOn with
 | _ k ih=>
 intro a0_0 a0_1 A0_2 c0_2 l0_2 a1 r w hr0_2 hc0_2 h
 cases k with
 | zero=>exact absurd h (by simp [stowagelaw13_Deep.f])
 | succ k=>
 simp only [stowagelaw13_Deep.f] at h
 have hu42:=Tryd.underlying42
 have HR0_2:=Aside0.mk hr0_2
 have HC0_2:=Aside0.mk hc0_2
 clear hr0_2 hc0_2
 have HB:=Aside0.mk (Below.refl w.heap.size w)
 have H:(stowagelaw13_Deep.l0 k a1 0 0 a0_0 a0_1 l0_2)=some r:=h
 clear h
 have H':=Aside0.mk H
 clear H
 go_enter Tryd.func17,Tryd.ntmps17
 go_wp2_with (first|((with_reducible refine gate_dst (N:=2) rfl ?_);refine box_event ?hg (N:=2) ?hd (cs:=#[.string a0_0,.string a0_1,.slice A0_2 l0_2.length c0_2]) (t:=42) ?hr ?_;(case hd=>rfl);(case hg=>rfl);(case hr=>first|(go_simp;done)|(go_simp;rfl));intro gb249 hg w3 hbox hb;have n0_:=Aside0.mk (below_step (by repeat (first|(with_reducible first|exact HB.out|apply below_alloc|apply pw_below_drewN|apply below_drew1)|exact HB.out)) hb);have n1_:=Aside0.mk (hbox);have n2_:=Aside0.mk ((by rw [hg];exact(below_size (by repeat (first|(with_reducible first|exact HB.out|apply below_alloc|apply pw_below_drewN|apply below_drew1)|exact HB.out))):w.heap.size≤gb249));have n3_:=Aside0.mk ((by rw [hg];exact(below_size (by repeat (first|(with_reducible first|exact HB.out|apply below_alloc|apply pw_below_drewN|apply below_drew1)|exact HB.out))):w.heap.size≤gb249));clear HB;have HB:=n0_;have BK249:=n1_;have GW249:=n2_;have GE249:=n3_;clear n0_ n1_ n2_ n3_;clear hb hbox hg))
 go_loopg [5,6] k (fun kq v5 v6 w'=>∃ (x5_1:Int) (x6_1:Int),v5 = .int .i64 x5_1∧v6 = .int .i64 x6_1∧Aside0 (stowagelaw13_Deep.l0 kq a1 x5_1 x6_1 a0_0 a0_1 l0_2=some r)∧Aside0 (kq≤k)∧Aside0 (w'.heap[gb249]? = some (.cells #[.string a0_0,.string a0_1,(.slice A0_2 l0_2.length c0_2)] 42 (0,0)))∧Aside0 (Below w.heap.size w w'))
 case atStart=>exact⟨(0),(0),(by first|rfl|(simp;done)|(simp [*];done)),(by first|rfl|(simp;done)|(simp [*];done)),H',⟨Nat.le_refl _⟩,⟨by(with_reducible repeat (first|refine blk_drewN ?_ _|refine blk_drew ?_|refine blk_alloc ?_ _));exact BK249.out⟩,⟨by repeat (first|(with_reducible first|exact HB.out|apply below_alloc|apply pw_below_drewN|apply below_drew1|refine below_set ?_ GE249.out)|exact HB.out)⟩⟩
 case round=>
  clear H'
  try clear c1
  try clear p2
  obtain⟨x5_1,x6_1,rfl,rfl,HA,HK1,BK249,HB⟩:=hrel
  cases gk with
  | zero=>exact absurd HA.out (by simp [stowagelaw13_Deep.l0])
  | succ k1=>
   have H:=HA.out
   clear HA
   simp only [stowagelaw13_Deep.l0] at H
   replace H:=itO H
   rcases H with⟨c4,H⟩|⟨c4,H⟩
   ·skip
    have c4b0:decide (x6_1<(l0_2.length:Int))=true:=decide_eq_true c4
    clear c4
    replace H:=itO H
    rcases H with⟨c5,H⟩|⟨c5,H⟩
    ·skip
     have c5b0:decide (0<a1)=true:=decide_eq_true c5
     clear c5
     replace H:=itO H
     rcases H with⟨c6,H⟩|⟨c6,H⟩
     ·skip
      have c6b0:decide (0≤x6_1)=true:=decide_eq_true c6
      clear c6
      replace H:=bndO H
      obtain⟨t251,A70,H⟩:=H
      have A7:=Aside0.mk A70
      clear A70
      obtain⟨ji8,hji8⟩ : ∃ j_:Int,(mx x5_1 t251)=j_:=⟨_,rfl⟩
      first|rw [hji8] at H|simp only [hji8] at H
      (try rw [hji8] at A7)
      have hji8_:(if x5_1<t251 then t251 else x5_1)=ji8:=hji8
      have H':=Aside0.mk H
      clear H
      have hcz9_0:wr.cell? ⟨gb249,0,none⟩=some (.string a0_0):=(blk_cell BK249.out 0).trans rfl
      have hcz9_1:wr.cell? ⟨gb249,1,none⟩=some (.string a0_1):=(blk_cell BK249.out 1).trans rfl
      have hcz9_2:wr.cell? ⟨gb249,2,none⟩=some (.slice A0_2 l0_2.length c0_2):=(blk_cell BK249.out 2).trans rfl
      have hfz9_0:=blk_frozen BK249.out 0
      have hfz9_1:=blk_frozen BK249.out 1
      have hfz9_2:=blk_frozen BK249.out 2
      have p250:0≤(x6_1:Int):=of_decide_eq_true (by first|(with_reducible assumption)|assumption)
      have q250:x6_1<(l0_2.length:Int):=of_decide_eq_true (by first|(with_reducible assumption)|assumption)
      obtain⟨ad250,A250_2,c250_2,e250,hx250_0,hx250_1,hx250_2,hl250_2,hi250_2⟩:=at_T42 HR0_2.out x6_1 p250 q250
      cases e250
      replace hx250_0:=(HB.out.cell (World.block_lt_of_cell? w _ hx250_0)).trans hx250_0
      replace hx250_1:=(HB.out.cell (World.block_lt_of_cell? w _ hx250_1)).trans hx250_1
      replace hx250_2:=(HB.out.cell (World.block_lt_of_cell? w _ hx250_2)).trans hx250_2
      have HR250_2:=Aside0.mk hi250_2
      have HC250_2:=Aside0.mk hl250_2
      clear hi250_2 hl250_2
      replace p250:=eq_true p250
      replace q250:=eq_true q250
      go_wp2_with (first|((with_reducible refine gate_callee (f:=17) rfl ?_);refine goesL_ (some 26) rfl rfl Tryd.func17 (by kernel_rfl) rfl #[.agg #[.string ((rd_T42 l0_2 x6_1).f0),.string ((rd_T42 l0_2 x6_1).f1),.slice A250_2 ((rd_T42 l0_2 x6_1).f2).length c250_2],.int .i64 (wrap64 (a1-1))] rfl (by(try simp only [List.map_toArray,List.map_cons,List.map_nil]);first|done|rfl|(simp only [List.length_drop,List.length_take];rfl)) ?_;(with_reducible refine(ih k1 (by have:=HK1.out;omega) ((rd_T42 l0_2 x6_1).f0) ((rd_T42 l0_2 x6_1).f1) _ _ ((rd_T42 l0_2 x6_1).f2) (wrap64 (a1-1)) t251 _ ?side1 ?side2 A7.out).mono ?_);(case side1=>repeat (first|exact(Kd.C_below HR250_2.out HB.out)|(with_reducible refine Kd.C_alloc ?_ _)|(with_reducible refine Kd.C_drewN ?_ _)|(with_reducible refine Kd.C_drew ?_)));(case side2=>exact HC250_2.out);rintro e w10 ⟨rfl,hb⟩;refine⟨_,rfl,?_⟩;have n0_:=Aside0.mk (blk_below (g:=gb249) (o:=.cells #[.string a0_0,.string a0_1,.slice (some ad250) l0_2.length c0_2] 42 (0,0)) (by(with_reducible repeat (first|refine blk_drewN ?_ _|refine blk_drew ?_|refine blk_alloc ?_ _));exact BK249.out) hb);have n1_:=Aside0.mk (below_step (by repeat (first|(with_reducible first|exact HB.out|apply below_alloc|apply pw_below_drewN|apply below_drew1|refine below_set ?_ GE249.out)|exact HB.out)) hb);clear BK249;clear HB;have BK249:=n0_;have HB:=n1_;clear n0_ n1_;(try clear hb);(try clear hb2);(try clear hk);(try clear hi)))
      go_roundg k1
      case measure=>have:=HK1.out;omega
      case rel=>exact⟨(ji8),(wrap64 (x6_1+1)),(by first|rfl|(simp;done)|(simp only [← hji8] <;> (first|rfl|simp))|(simp [*];done)),(by first|rfl|(simp;done)|(simp [*];done)),H',⟨by have:=HK1.out;omega⟩,⟨by(with_reducible repeat (first|refine blk_drewN ?_ _|refine blk_drew ?_|refine blk_alloc ?_ _));exact BK249.out⟩,⟨by repeat (first|(with_reducible first|exact HB.out|apply below_alloc|apply pw_below_drewN|apply below_drew1|refine below_set ?_ GE249.out)|exact HB.out)⟩⟩
     ·exact absurd H (by simp)
    ·skip
     have c5b0:decide (0<a1)=false:=decide_eq_false c5
     clear c5
     obtain rfl:=Option.some.inj H
     have hcz11_0:wr.cell? ⟨gb249,0,none⟩=some (.string a0_0):=(blk_cell BK249.out 0).trans rfl
     have hcz11_1:wr.cell? ⟨gb249,1,none⟩=some (.string a0_1):=(blk_cell BK249.out 1).trans rfl
     have hcz11_2:wr.cell? ⟨gb249,2,none⟩=some (.slice A0_2 l0_2.length c0_2):=(blk_cell BK249.out 2).trans rfl
     have hfz11_0:=blk_frozen BK249.out 0
     have hfz11_1:=blk_frozen BK249.out 1
     have hfz11_2:=blk_frozen BK249.out 2
     go_wp2
     go_ret
     exact⟨by first|rfl|(simp [errW_none,errW_some] <;> rfl)|(simp [*,errW_none,errW_some] <;> rfl),by repeat (first|(with_reducible first|exact HB.out|apply below_alloc|apply pw_below_drewN|apply below_drew1|refine below_set ?_ GE249.out)|exact HB.out)⟩
   ·skip
    have c4b0:decide (x6_1<(l0_2.length:Int))=false:=decide_eq_false c4
    clear c4
    obtain rfl:=Option.some.inj H
    have hcz12_0:wr.cell? ⟨gb249,0,none⟩=some (.string a0_0):=(blk_cell BK249.out 0).trans rfl
    have hcz12_1:wr.cell? ⟨gb249,1,none⟩=some (.string a0_1):=(blk_cell BK249.out 1).trans rfl
    have hcz12_2:wr.cell? ⟨gb249,2,none⟩=some (.slice A0_2 l0_2.length c0_2):=(blk_cell BK249.out 2).trans rfl
    have hfz12_0:=blk_frozen BK249.out 0
    have hfz12_1:=blk_frozen BK249.out 1
    have hfz12_2:=blk_frozen BK249.out 2
    go_wp2
    go_ret
    exact⟨by first|rfl|(simp [errW_none,errW_some] <;> rfl)|(simp [*,errW_none,errW_some] <;> rfl),by repeat (first|(with_reducible first|exact HB.out|apply below_alloc|apply pw_below_drewN|apply below_drew1|refine below_set ?_ GE249.out)|exact HB.out)⟩
def xml_letter.f (a0:Int):Option (Bool):=if a0 ≥ 65 then(if a0≤90 then(some true) else(if a0 ≥ 97 then(if a0≤122 then(some true) else(some (a0 == 95))) else(some (a0 == 95)))) else(if a0 ≥ 97 then(if a0≤122 then(some true) else(some (a0 == 95))) else(some (a0 == 95)))
theorem xml_letter.calls (a0:Int) (r:Bool) (w:World) (h:xml_letter.f a0=some r) :
  Calls Tryd.prog 100 #[.int .u8 a0] w fun e w'=>e = .returned (.bool r)∧Drawn0 w w':=by
 unfold xml_letter.f at h
 have H:=h
 clear h
 replace H:=itO H
 rcases H with⟨c2,H⟩|⟨c2,H⟩
 ·skip
  have c2b0:decide (65≤a0)=true:=decide_eq_true c2
  clear c2
  replace H:=itO H
  rcases H with⟨c3,H⟩|⟨c3,H⟩
  ·skip
   have c3b0:decide (a0≤90)=true:=decide_eq_true c3
   clear c3
   obtain rfl:=Option.some.inj H
   go_enter Tryd.func100,Tryd.ntmps100
   go_wp2
   go_ret
   exact⟨by first|rfl|(simp;done)|(simp [*];done),by repeat (first|exact Drawn0.refl _|apply Drawn0.step)⟩
  ·skip
   have c3b0:decide (a0≤90)=false:=decide_eq_false c3
   clear c3
   replace H:=itO H
   rcases H with⟨c4,H⟩|⟨c4,H⟩
   ·skip
    have c4b0:decide (97≤a0)=true:=decide_eq_true c4
    clear c4
    replace H:=itO H
    rcases H with⟨c5,H⟩|⟨c5,H⟩
    ·skip
     have c5b0:decide (a0≤122)=true:=decide_eq_true c5
     clear c5
     obtain rfl:=Option.some.inj H
     go_enter Tryd.func100,Tryd.ntmps100
     go_wp2
     go_ret
     exact⟨by first|rfl|(simp;done)|(simp [*];done),by repeat (first|exact Drawn0.refl _|apply Drawn0.step)⟩
    ·skip
     have c5b0:decide (a0≤122)=false:=decide_eq_false c5
     clear c5
     obtain rfl:=Option.some.inj H
     go_enter Tryd.func100,Tryd.ntmps100
     go_wp2
     go_ret
     exact⟨by first|rfl|(simp;done)|(simp [*];done),by repeat (first|exact Drawn0.refl _|apply Drawn0.step)⟩
   ·skip
    have c4b0:decide (97≤a0)=false:=decide_eq_false c4
    clear c4
    obtain rfl:=Option.some.inj H
    go_enter Tryd.func100,Tryd.ntmps100
    go_wp2
    go_ret
    exact⟨by first|rfl|(simp;done)|(simp [*];done),by repeat (first|exact Drawn0.refl _|apply Drawn0.step)⟩
 ·skip
  have c2b0:decide (65≤a0)=false:=decide_eq_false c2
  clear c2
  replace H:=itO H
  rcases H with⟨c6,H⟩|⟨c6,H⟩
  ·skip
   have c6b0:decide (97≤a0)=true:=decide_eq_true c6
   clear c6
   replace H:=itO H
   rcases H with⟨c7,H⟩|⟨c7,H⟩
   ·skip
    have c7b0:decide (a0≤122)=true:=decide_eq_true c7
    clear c7
    obtain rfl:=Option.some.inj H
    go_enter Tryd.func100,Tryd.ntmps100
    go_wp2
    go_ret
    exact⟨by first|rfl|(simp;done)|(simp [*];done),by repeat (first|exact Drawn0.refl _|apply Drawn0.step)⟩
   ·skip
    have c7b0:decide (a0≤122)=false:=decide_eq_false c7
    clear c7
    obtain rfl:=Option.some.inj H
    go_enter Tryd.func100,Tryd.ntmps100
    go_wp2
    go_ret
    exact⟨by first|rfl|(simp;done)|(simp [*];done),by repeat (first|exact Drawn0.refl _|apply Drawn0.step)⟩
  ·skip
   have c6b0:decide (97≤a0)=false:=decide_eq_false c6
   clear c6
   obtain rfl:=Option.some.inj H
   go_enter Tryd.func100,Tryd.ntmps100
   go_wp2
   go_ret
   exact⟨by first|rfl|(simp;done)|(simp [*];done),by repeat (first|exact Drawn0.refl _|apply Drawn0.step)⟩
def xml_inner.f (a0:Int):Option (Bool):=(xml_letter.f a0).bind fun t252=>(if t252=true then(some true) else(if a0 ≥ 48 then(if a0≤57 then(some true) else(if a0=45 then(some true) else(some (a0 == 46)))) else(if a0=45 then(some true) else(some (a0 == 46)))))
theorem xml_inner.calls (a0:Int) (r:Bool) (w:World) (h:xml_inner.f a0=some r) :
  Calls Tryd.prog 99 #[.int .u8 a0] w fun e w'=>e = .returned (.bool r)∧Drawn0 w w':=by
 unfold xml_inner.f at h
 have H:=h
 clear h
 replace H:=bndO H
 obtain⟨t252,A20,H⟩:=H
 have A2:=Aside0.mk A20
 clear A20
 by_cases c3:t252=true
 ·subst c3
  replace H:=itT H
  obtain rfl:=Option.some.inj H
  go_enter Tryd.func99,Tryd.ntmps99
  go_wp2_with (first|((with_reducible refine gate_callee (f:=100) rfl ?_);refine goesL_ (some 4) rfl rfl Tryd.func100 (by kernel_rfl) rfl #[.int .u8 a0] rfl (by(try simp only [List.map_toArray,List.map_cons,List.map_nil]);first|done|rfl|(simp only [List.length_drop,List.length_take];rfl)) ?_;(with_reducible refine(xml_letter.calls a0 true _ A2.out).mono ?_);rintro e w' ⟨rfl,⟨nd,rfl⟩⟩;refine⟨_,rfl,?_⟩))
  go_ret
  exact⟨by first|rfl|(simp;done)|(simp [*];done),by repeat (first|exact Drawn0.refl _|apply Drawn0.step)⟩
 ·replace c3:=Bool.eq_false_iff.mpr c3
  subst c3
  replace H:=itF H
  replace H:=itO H
  rcases H with⟨c4,H⟩|⟨c4,H⟩
  ·skip
   have c4b0:decide (48≤a0)=true:=decide_eq_true c4
   clear c4
   replace H:=itO H
   rcases H with⟨c5,H⟩|⟨c5,H⟩
   ·skip
    have c5b0:decide (a0≤57)=true:=decide_eq_true c5
    clear c5
    obtain rfl:=Option.some.inj H
    go_enter Tryd.func99,Tryd.ntmps99
    go_wp2_with (first|((with_reducible refine gate_callee (f:=100) rfl ?_);refine goesL_ (some 4) rfl rfl Tryd.func100 (by kernel_rfl) rfl #[.int .u8 a0] rfl (by(try simp only [List.map_toArray,List.map_cons,List.map_nil]);first|done|rfl|(simp only [List.length_drop,List.length_take];rfl)) ?_;(with_reducible refine(xml_letter.calls a0 false _ A2.out).mono ?_);rintro e w' ⟨rfl,⟨nd,rfl⟩⟩;refine⟨_,rfl,?_⟩))
    go_ret
    exact⟨by first|rfl|(simp;done)|(simp [*];done),by repeat (first|exact Drawn0.refl _|apply Drawn0.step)⟩
   ·skip
    have c5b0:decide (a0≤57)=false:=decide_eq_false c5
    clear c5
    replace H:=itO H
    rcases H with⟨c6,H⟩|⟨c6,H⟩
    ·skip
     have c6b0:(a0 == 45)=true:=beq_iff_eq.mpr c6
     have c6b1:(a0 != 45)=false:=bne_eq_false_iff_eq.mpr c6
     clear c6
     obtain rfl:=Option.some.inj H
     go_enter Tryd.func99,Tryd.ntmps99
     go_wp2_with (first|((with_reducible refine gate_callee (f:=100) rfl ?_);refine goesL_ (some 4) rfl rfl Tryd.func100 (by kernel_rfl) rfl #[.int .u8 a0] rfl (by(try simp only [List.map_toArray,List.map_cons,List.map_nil]);first|done|rfl|(simp only [List.length_drop,List.length_take];rfl)) ?_;(with_reducible refine(xml_letter.calls a0 false _ A2.out).mono ?_);rintro e w' ⟨rfl,⟨nd,rfl⟩⟩;refine⟨_,rfl,?_⟩))
     go_ret
     exact⟨by first|rfl|(simp;done)|(simp [*];done),by repeat (first|exact Drawn0.refl _|apply Drawn0.step)⟩
    ·skip
     have c6b0:(a0 == 45)=false:=beq_eq_false_iff_ne.mpr c6
     have c6b1:(a0 != 45)=true:=bne_iff_ne.mpr c6
     obtain rfl:=Option.some.inj H
     go_enter Tryd.func99,Tryd.ntmps99
     go_wp2_with (first|((with_reducible refine gate_callee (f:=100) rfl ?_);refine goesL_ (some 4) rfl rfl Tryd.func100 (by kernel_rfl) rfl #[.int .u8 a0] rfl (by(try simp only [List.map_toArray,List.map_cons,List.map_nil]);first|done|rfl|(simp only [List.length_drop,List.length_take];rfl)) ?_;(with_reducible refine(xml_letter.calls a0 false _ A2.out).mono ?_);rintro e w' ⟨rfl,⟨nd,rfl⟩⟩;refine⟨_,rfl,?_⟩))
     go_ret
     exact⟨by first|rfl|(simp;done)|(simp [*];done),by repeat (first|exact Drawn0.refl _|apply Drawn0.step)⟩
  ·skip
   have c4b0:decide (48≤a0)=false:=decide_eq_false c4
   clear c4
   replace H:=itO H
   rcases H with⟨c7,H⟩|⟨c7,H⟩
   ·skip
    have c7b0:(a0 == 45)=true:=beq_iff_eq.mpr c7
    have c7b1:(a0 != 45)=false:=bne_eq_false_iff_eq.mpr c7
    clear c7
    obtain rfl:=Option.some.inj H
    go_enter Tryd.func99,Tryd.ntmps99
    go_wp2_with (first|((with_reducible refine gate_callee (f:=100) rfl ?_);refine goesL_ (some 4) rfl rfl Tryd.func100 (by kernel_rfl) rfl #[.int .u8 a0] rfl (by(try simp only [List.map_toArray,List.map_cons,List.map_nil]);first|done|rfl|(simp only [List.length_drop,List.length_take];rfl)) ?_;(with_reducible refine(xml_letter.calls a0 false _ A2.out).mono ?_);rintro e w' ⟨rfl,⟨nd,rfl⟩⟩;refine⟨_,rfl,?_⟩))
    go_ret
    exact⟨by first|rfl|(simp;done)|(simp [*];done),by repeat (first|exact Drawn0.refl _|apply Drawn0.step)⟩
   ·skip
    have c7b0:(a0 == 45)=false:=beq_eq_false_iff_ne.mpr c7
    have c7b1:(a0 != 45)=true:=bne_iff_ne.mpr c7
    obtain rfl:=Option.some.inj H
    go_enter Tryd.func99,Tryd.ntmps99
    go_wp2_with (first|((with_reducible refine gate_callee (f:=100) rfl ?_);refine goesL_ (some 4) rfl rfl Tryd.func100 (by kernel_rfl) rfl #[.int .u8 a0] rfl (by(try simp only [List.map_toArray,List.map_cons,List.map_nil]);first|done|rfl|(simp only [List.length_drop,List.length_take];rfl)) ?_;(with_reducible refine(xml_letter.calls a0 false _ A2.out).mono ?_);rintro e w' ⟨rfl,⟨nd,rfl⟩⟩;refine⟨_,rfl,?_⟩))
    go_ret
    exact⟨by first|rfl|(simp;done)|(simp [*];done),by repeat (first|exact Drawn0.refl _|apply Drawn0.step)⟩
def xml_Name.l0:Nat→ByteArray→Int→Int→Option (Bool)
 | 0,_,_,_=>none
 | k+1,x0,x5,x6=>if x6<x5 then(if 0≤x6 then(if x6<(x0.size:Int) then((xml_inner.f (bt x0 x6)).bind fun t253=>(if t253=true then(if x6=0 then((xml_letter.f (bt x0 x6)).bind fun t254=>(if t254=true then(xml_Name.l0 k x0 x5 (wrap64 (x6+1))) else(some false))) else(xml_Name.l0 k x0 x5 (wrap64 (x6+1)))) else(some false))) else(none)) else(none)) else(some (x0.toList != ([]:List UInt8)))
def xml_Name.f (k:Nat) (a0:ByteArray):Option (Bool):=xml_Name.l0 k a0 (a0.size:Int) 0
theorem xml_Name.mono_l:∀ k,(∀ y0 y1 y2,LeO (xml_Name.l0 k y0 y1 y2) (xml_Name.l0 (k+1) y0 y1 y2))
 | 0=>fun _ _ _ r h=>by simp [xml_Name.l0] at h
 | k+1=>by
  have ih0:=xml_Name.mono_l k
  ·intro y0 y1 y2
   unfold xml_Name.l0
   repeat' first
   | (with_reducible exact ih0 _ _ _)
   | (with_reducible exact LeO.refl _)
   | (with_reducible exact LeO.none _)
   | (with_reducible refine LeO.ite ?_ ?_)
   | (with_reducible refine LeO.bind ?_ (fun _=>?_))
   | exact ih0 _ _ _
   | exact LeO.none _
   | refine LeO.ite ?_ ?_
   | refine LeO.bind ?_ (fun _=>?_)
theorem xml_Name.mono:∀ a0 k,LeO (xml_Name.f k a0) (xml_Name.f (k+1) a0):=by
 intro a0 k
 have ih0:=xml_Name.mono_l k
 unfold xml_Name.f
 repeat' first
   | (with_reducible exact ih0 _ _ _)
   | (with_reducible exact LeO.refl _)
   | (with_reducible exact LeO.none _)
   | (with_reducible refine LeO.ite ?_ ?_)
   | (with_reducible refine LeO.bind ?_ (fun _=>?_))
   | exact ih0 _ _ _
   | exact LeO.none _
   | refine LeO.ite ?_ ?_
   | refine LeO.bind ?_ (fun _=>?_)
theorem xml_Name.calls (k:Nat) (a0:ByteArray) (r:Bool) (w:World) (h:xml_Name.f k a0=some r) :
  Calls Tryd.prog 85 #[.string a0] w fun e w'=>e = .returned (.bool r)∧Drawn0 w w':=by
 unfold xml_Name.f at h
 have H:=h
 clear h
 have H':=Aside0.mk H
 clear H
 go_enter Tryd.func85,Tryd.ntmps85
 go_wp2
 go_loopg [6] k (fun kq v6 w'=>∃ (x6_1:Int),v6 = .int .i64 x6_1∧Aside0 (xml_Name.l0 kq a0 (a0.size:Int) x6_1=some r)∧Aside0 (kq≤k)∧Drawn0 w w')
 case atStart=>exact⟨(0),(by first|rfl|(cases a0.toList <;> rfl)|(simp;done)|(simp [*];done)),H',⟨Nat.le_refl _⟩,by repeat (first|exact Drawn0.refl _|apply Drawn0.step)⟩
 case round=>
  clear H'
  obtain⟨x6_1,rfl,HA,HK1,⟨m1,rfl⟩⟩:=hrel
  cases gk with
  | zero=>exact absurd HA.out (by simp [xml_Name.l0])
  | succ k1=>
   have H:=HA.out
   clear HA
   simp only [xml_Name.l0] at H
   replace H:=itO H
   rcases H with⟨c2,H⟩|⟨c2,H⟩
   ·skip
    have c2b0:decide (x6_1<(a0.size:Int))=true:=decide_eq_true c2
    clear c2
    replace H:=itO H
    rcases H with⟨c3,H⟩|⟨c3,H⟩
    ·skip
     have c3b0:decide (0≤x6_1)=true:=decide_eq_true c3
     clear c3
     replace H:=itO H
     rcases H with⟨c4,H⟩|⟨c4,H⟩
     ·skip
      have c4b0:decide (x6_1<(a0.size:Int))=true:=decide_eq_true c4
      clear c4
      replace H:=bndO H
      obtain⟨t253,A60,H⟩:=H
      have A6:=Aside0.mk A60
      clear A60
      by_cases c7:t253=true
      ·subst c7
       replace H:=itT H
       replace H:=itO H
       rcases H with⟨c8,H⟩|⟨c8,H⟩
       ·skip
        have c8b0:(x6_1 == 0)=true:=beq_iff_eq.mpr c8
        have c8b1:(x6_1 != 0)=false:=bne_eq_false_iff_eq.mpr c8
        clear c8
        replace H:=bndO H
        obtain⟨t254,A100,H⟩:=H
        have A10:=Aside0.mk A100
        clear A100
        by_cases c11:t254=true
        ·subst c11
         replace H:=itT H
         have H':=Aside0.mk H
         clear H
         have p5:0≤(x6_1:Int):=of_decide_eq_true (by first|(with_reducible assumption)|assumption)
         have q5:x6_1<(a0.size:Int):=of_decide_eq_true (by first|(with_reducible assumption)|assumption)
         have hx5:=bt_at a0 x6_1
         replace p5:=eq_true p5
         replace q5:=eq_true q5
         go_wp2_with (first|((with_reducible refine gate_callee (f:=99) rfl ?_);refine goesL_ (some 12) rfl rfl Tryd.func99 (by kernel_rfl) rfl #[.int .u8 (bt a0 x6_1)] rfl (by(try simp only [List.map_toArray,List.map_cons,List.map_nil]);first|done|rfl|(simp only [List.length_drop,List.length_take];rfl)) ?_;(with_reducible refine(xml_inner.calls (bt a0 x6_1) true _ A6.out).mono ?_);rintro e w' ⟨rfl,⟨nd,rfl⟩⟩;refine⟨_,rfl,?_⟩;have p9:0≤(x6_1:Int):=of_decide_eq_true (by first|(with_reducible assumption)|assumption);have q9:x6_1<(a0.size:Int):=of_decide_eq_true (by first|(with_reducible assumption)|assumption);have hx9:=bt_at a0 x6_1;replace p9:=eq_true p9;replace q9:=eq_true q9)|(go_at_call 100;(with_reducible refine(xml_letter.calls (bt a0 x6_1) true _ A10.out).mono ?_);rintro e w' ⟨rfl,⟨nd,rfl⟩⟩))
         go_roundg k1
         case measure=>have:=HK1.out;omega
         case rel=>exact⟨(wrap64 (x6_1+1)),(by first|rfl|(cases a0.toList <;> rfl)|(simp;done)|(simp [*];done)),H',⟨by have:=HK1.out;omega⟩,by repeat (first|exact Drawn0.refl _|apply Drawn0.step)⟩
        ·replace c11:=Bool.eq_false_iff.mpr c11
         subst c11
         replace H:=itF H
         obtain rfl:=Option.some.inj H
         have p5:0≤(x6_1:Int):=of_decide_eq_true (by first|(with_reducible assumption)|assumption)
         have q5:x6_1<(a0.size:Int):=of_decide_eq_true (by first|(with_reducible assumption)|assumption)
         have hx5:=bt_at a0 x6_1
         replace p5:=eq_true p5
         replace q5:=eq_true q5
         go_wp2_with (first|((with_reducible refine gate_callee (f:=99) rfl ?_);refine goesL_ (some 12) rfl rfl Tryd.func99 (by kernel_rfl) rfl #[.int .u8 (bt a0 x6_1)] rfl (by(try simp only [List.map_toArray,List.map_cons,List.map_nil]);first|done|rfl|(simp only [List.length_drop,List.length_take];rfl)) ?_;(with_reducible refine(xml_inner.calls (bt a0 x6_1) true _ A6.out).mono ?_);rintro e w' ⟨rfl,⟨nd,rfl⟩⟩;refine⟨_,rfl,?_⟩;have p9:0≤(x6_1:Int):=of_decide_eq_true (by first|(with_reducible assumption)|assumption);have q9:x6_1<(a0.size:Int):=of_decide_eq_true (by first|(with_reducible assumption)|assumption);have hx9:=bt_at a0 x6_1;replace p9:=eq_true p9;replace q9:=eq_true q9)|(go_at_call 100;(with_reducible refine(xml_letter.calls (bt a0 x6_1) false _ A10.out).mono ?_);rintro e w' ⟨rfl,⟨nd,rfl⟩⟩))
         go_ret
         exact⟨by first|rfl|(cases a0.toList <;> rfl)|(simp;done)|(simp [*];done),by repeat (first|exact Drawn0.refl _|apply Drawn0.step)⟩
       ·skip
        have c8b0:(x6_1 == 0)=false:=beq_eq_false_iff_ne.mpr c8
        have c8b1:(x6_1 != 0)=true:=bne_iff_ne.mpr c8
        have H':=Aside0.mk H
        clear H
        have p5:0≤(x6_1:Int):=of_decide_eq_true (by first|(with_reducible assumption)|assumption)
        have q5:x6_1<(a0.size:Int):=of_decide_eq_true (by first|(with_reducible assumption)|assumption)
        have hx5:=bt_at a0 x6_1
        replace p5:=eq_true p5
        replace q5:=eq_true q5
        go_wp2_with (first|((with_reducible refine gate_callee (f:=99) rfl ?_);refine goesL_ (some 12) rfl rfl Tryd.func99 (by kernel_rfl) rfl #[.int .u8 (bt a0 x6_1)] rfl (by(try simp only [List.map_toArray,List.map_cons,List.map_nil]);first|done|rfl|(simp only [List.length_drop,List.length_take];rfl)) ?_;(with_reducible refine(xml_inner.calls (bt a0 x6_1) true _ A6.out).mono ?_);rintro e w' ⟨rfl,⟨nd,rfl⟩⟩;refine⟨_,rfl,?_⟩))
        go_roundg k1
        case measure=>have:=HK1.out;omega
        case rel=>exact⟨(wrap64 (x6_1+1)),(by first|rfl|(cases a0.toList <;> rfl)|(simp;done)|(simp [*];done)),H',⟨by have:=HK1.out;omega⟩,by repeat (first|exact Drawn0.refl _|apply Drawn0.step)⟩
      ·replace c7:=Bool.eq_false_iff.mpr c7
       subst c7
       replace H:=itF H
       obtain rfl:=Option.some.inj H
       have p5:0≤(x6_1:Int):=of_decide_eq_true (by first|(with_reducible assumption)|assumption)
       have q5:x6_1<(a0.size:Int):=of_decide_eq_true (by first|(with_reducible assumption)|assumption)
       have hx5:=bt_at a0 x6_1
       replace p5:=eq_true p5
       replace q5:=eq_true q5
       go_wp2_with (first|((with_reducible refine gate_callee (f:=99) rfl ?_);refine goesL_ (some 12) rfl rfl Tryd.func99 (by kernel_rfl) rfl #[.int .u8 (bt a0 x6_1)] rfl (by(try simp only [List.map_toArray,List.map_cons,List.map_nil]);first|done|rfl|(simp only [List.length_drop,List.length_take];rfl)) ?_;(with_reducible refine(xml_inner.calls (bt a0 x6_1) false _ A6.out).mono ?_);rintro e w' ⟨rfl,⟨nd,rfl⟩⟩;refine⟨_,rfl,?_⟩))
       go_ret
       exact⟨by first|rfl|(cases a0.toList <;> rfl)|(simp;done)|(simp [*];done),by repeat (first|exact Drawn0.refl _|apply Drawn0.step)⟩
     ·exact absurd H (by simp)
    ·exact absurd H (by simp)
   ·skip
    have c2b0:decide (x6_1<(a0.size:Int))=false:=decide_eq_false c2
    clear c2
    obtain rfl:=Option.some.inj H
    go_wp2
    go_ret
    exact⟨by first|rfl|(cases a0.toList <;> rfl)|(simp;done)|(simp [*];done),by repeat (first|exact Drawn0.refl _|apply Drawn0.step)⟩
mutual
def chars_legal.j0:Nat→Int→Bool→Option (Bool)
 | 0,_,_=>none
 | k+1,x0,x3=>if x3=true then(some true) else(if x0 ≥ 57344 then(chars_legal.j1 k x0 (decide (x0≤65533))) else(chars_legal.j1 k x0 false))
def chars_legal.j1:Nat→Int→Bool→Option (Bool)
 | 0,_,_=>none
 | k+1,x0,x3=>if x3=true then(some true) else(if x0 ≥ 65536 then(some true) else(some false))
end
def chars_legal.f (k:Nat) (a0:Int):Option (Bool):=if a0=9 then(some true) else(if a0=10 then(some true) else(if a0=13 then(some true) else(if a0 ≥ 32 then(chars_legal.j0 k a0 (decide (a0≤55295))) else(chars_legal.j0 k a0 false))))
theorem chars_legal.mono_l:∀ k,(∀ y0 y1,LeO (chars_legal.j0 k y0 y1) (chars_legal.j0 (k+1) y0 y1))∧(∀ y0 y1,LeO (chars_legal.j1 k y0 y1) (chars_legal.j1 (k+1) y0 y1))
 | 0=>⟨fun _ _ r h=>by simp [chars_legal.j0] at h,fun _ _ r h=>by simp [chars_legal.j1] at h⟩
 | k+1=>by
  obtain⟨ih0,ih1⟩:=chars_legal.mono_l k
  refine⟨?_,?_⟩
  ·intro y0 y1
   unfold chars_legal.j0
   repeat' first
   | (with_reducible exact ih0 _ _)
   | (with_reducible exact ih1 _ _)
   | (with_reducible exact LeO.refl _)
   | (with_reducible exact LeO.none _)
   | (with_reducible refine LeO.ite ?_ ?_)
   | (with_reducible refine LeO.bind ?_ (fun _=>?_))
   | exact ih0 _ _
   | exact ih1 _ _
   | exact LeO.none _
   | refine LeO.ite ?_ ?_
   | refine LeO.bind ?_ (fun _=>?_)
  ·intro y0 y1
   unfold chars_legal.j1
   repeat' first
   | (with_reducible exact ih0 _ _)
   | (with_reducible exact ih1 _ _)
   | (with_reducible exact LeO.refl _)
   | (with_reducible exact LeO.none _)
   | (with_reducible refine LeO.ite ?_ ?_)
   | (with_reducible refine LeO.bind ?_ (fun _=>?_))
   | exact ih0 _ _
   | exact ih1 _ _
   | exact LeO.none _
   | refine LeO.ite ?_ ?_
   | refine LeO.bind ?_ (fun _=>?_)
theorem chars_legal.mono:∀ a0 k,LeO (chars_legal.f k a0) (chars_legal.f (k+1) a0):=by
 intro a0 k
 obtain⟨ih0,ih1⟩:=chars_legal.mono_l k
 unfold chars_legal.f
 repeat' first
   | (with_reducible exact ih0 _ _)
   | (with_reducible exact ih1 _ _)
   | (with_reducible exact LeO.refl _)
   | (with_reducible exact LeO.none _)
   | (with_reducible refine LeO.ite ?_ ?_)
   | (with_reducible refine LeO.bind ?_ (fun _=>?_))
   | exact ih0 _ _
   | exact ih1 _ _
   | exact LeO.none _
   | refine LeO.ite ?_ ?_
   | refine LeO.bind ?_ (fun _=>?_)
theorem chars_legal.calls (k:Nat) (a0:Int) (r:Bool) (w:World) (h:chars_legal.f k a0=some r) :
  Calls Tryd.prog 101 #[.int .i32 a0] w fun e w'=>e = .returned (.bool r)∧Drawn0 w w':=by
 unfold chars_legal.f at h
 have H:=h
 clear h
 replace H:=itO H
 rcases H with⟨c2,H⟩|⟨c2,H⟩
 ·skip
  have c2b0:(a0 == 9)=true:=beq_iff_eq.mpr c2
  have c2b1:(a0 != 9)=false:=bne_eq_false_iff_eq.mpr c2
  clear c2
  obtain rfl:=Option.some.inj H
  go_enter Tryd.func101,Tryd.ntmps101
  go_wp2
  go_ret
  exact⟨by first|rfl|(simp;done)|(simp [*];done),by repeat (first|exact Drawn0.refl _|apply Drawn0.step)⟩
 ·skip
  have c2b0:(a0 == 9)=false:=beq_eq_false_iff_ne.mpr c2
  have c2b1:(a0 != 9)=true:=bne_iff_ne.mpr c2
  replace H:=itO H
  rcases H with⟨c3,H⟩|⟨c3,H⟩
  ·skip
   have c3b0:(a0 == 10)=true:=beq_iff_eq.mpr c3
   have c3b1:(a0 != 10)=false:=bne_eq_false_iff_eq.mpr c3
   clear c3
   obtain rfl:=Option.some.inj H
   go_enter Tryd.func101,Tryd.ntmps101
   go_wp2
   go_ret
   exact⟨by first|rfl|(simp;done)|(simp [*];done),by repeat (first|exact Drawn0.refl _|apply Drawn0.step)⟩
  ·skip
   have c3b0:(a0 == 10)=false:=beq_eq_false_iff_ne.mpr c3
   have c3b1:(a0 != 10)=true:=bne_iff_ne.mpr c3
   replace H:=itO H
   rcases H with⟨c4,H⟩|⟨c4,H⟩
   ·skip
    have c4b0:(a0 == 13)=true:=beq_iff_eq.mpr c4
    have c4b1:(a0 != 13)=false:=bne_eq_false_iff_eq.mpr c4
    clear c4
    obtain rfl:=Option.some.inj H
    go_enter Tryd.func101,Tryd.ntmps101
    go_wp2
    go_ret
    exact⟨by first|rfl|(simp;done)|(simp [*];done),by repeat (first|exact Drawn0.refl _|apply Drawn0.step)⟩
   ·skip
    have c4b0:(a0 == 13)=false:=beq_eq_false_iff_ne.mpr c4
    have c4b1:(a0 != 13)=true:=bne_iff_ne.mpr c4
    have HC5:=Aside0.mk H
    clear H
    go_enter Tryd.func101,Tryd.ntmps101
    go_upto_region 4 with(fail)
    go_cut [3] (fun v3 wc=>∃ (kq:Nat) (x3_4:Bool),v3 = .bool x3_4∧Aside0 (chars_legal.j0 kq a0 x3_4=some r)∧Aside0 (kq≤k)∧Drawn0 w wc)
    case first=>
     have H:=HC5.out
     clear HC5
     replace H:=itO H
     rcases H with⟨c6,H⟩|⟨c6,H⟩
     ·skip
      have c6b0:decide (32≤a0)=true:=decide_eq_true c6
      clear c6
      (first|rw [c6b0]|(simp only [i64_w,i32_w];rw [c6b0])|skip)
      have H':=Aside0.mk H
      clear H
      go_wp2
      go_meet
      case rel=>exact⟨_,(decide (a0≤55295)),(by first|rfl|(simp;done)|(simp [*];done)),H',⟨by first|omega|exact Nat.le_refl _⟩,by repeat (first|exact Drawn0.refl _|apply Drawn0.step)⟩
     ·skip
      have c6b0:decide (32≤a0)=false:=decide_eq_false c6
      clear c6
      (first|rw [c6b0]|(simp only [i64_w,i32_w];rw [c6b0])|skip)
      have H':=Aside0.mk H
      clear H
      go_wp2
      go_meet
      case rel=>exact⟨_,(false),(by first|rfl|(simp;done)|(simp [*];done)),H',⟨by first|omega|exact Nat.le_refl _⟩,by repeat (first|exact Drawn0.refl _|apply Drawn0.step)⟩
    case rest=>
     clear HC5
     try clear c1
     try clear c2
     try clear c2b0
     try clear c2b1
     try clear p2
     try clear c3
     try clear c3b0
     try clear c3b1
     try clear c4
     try clear c4b0
     try clear c4b1
     try clear c6
     try clear c6b0
     obtain⟨kq,x3_4,rfl,HA,HJ4,⟨mc4,rfl⟩⟩:=hcut
     cases kq with
     | zero=>exact absurd HA.out (by simp [chars_legal.j0])
     | succ kj4=>
      have H:=HA.out
      clear HA
      simp only [chars_legal.j0] at H
      by_cases c7:x3_4=true
      ·subst c7
       replace H:=itT H
       obtain rfl:=Option.some.inj H
       go_wp2
       go_ret
       exact⟨by first|rfl|(simp;done)|(simp [*];done),by repeat (first|exact Drawn0.refl _|apply Drawn0.step)⟩
      ·replace c7:=Bool.eq_false_iff.mpr c7
       subst c7
       replace H:=itF H
       have HC8:=Aside0.mk H
       clear H
       go_upto_region 5 with(fail)
       go_cut [3] (fun v3 wc=>∃ (kq:Nat) (x3_7:Bool),v3 = .bool x3_7∧Aside0 (chars_legal.j1 kq a0 x3_7=some r)∧Aside0 (kq≤kj4)∧Drawn0 w wc)
       case first=>
        have H:=HC8.out
        clear HC8
        replace H:=itO H
        rcases H with⟨c9,H⟩|⟨c9,H⟩
        ·skip
         have c9b0:decide (57344≤a0)=true:=decide_eq_true c9
         clear c9
         (first|rw [c9b0]|(simp only [i64_w,i32_w];rw [c9b0])|skip)
         have H':=Aside0.mk H
         clear H
         go_wp2
         go_meet
         case rel=>exact⟨_,(decide (a0≤65533)),(by first|rfl|(simp;done)|(simp [*];done)),H',⟨by have:=HJ4.out;first|omega|exact Nat.le_refl _⟩,by repeat (first|exact Drawn0.refl _|apply Drawn0.step)⟩
        ·skip
         have c9b0:decide (57344≤a0)=false:=decide_eq_false c9
         clear c9
         (first|rw [c9b0]|(simp only [i64_w,i32_w];rw [c9b0])|skip)
         have H':=Aside0.mk H
         clear H
         go_wp2
         go_meet
         case rel=>exact⟨_,(false),(by first|rfl|(simp;done)|(simp [*];done)),H',⟨by have:=HJ4.out;first|omega|exact Nat.le_refl _⟩,by repeat (first|exact Drawn0.refl _|apply Drawn0.step)⟩
       case rest=>
        clear HC8
        try clear c1
        try clear c2
        try clear c2b0
        try clear c2b1
        try clear p2
        try clear c3
        try clear c3b0
        try clear c3b1
        try clear c4
        try clear c4b0
        try clear c4b1
        try clear c6
        try clear c6b0
        try clear c7
        try clear c9
        try clear c9b0
        try clear p2
        obtain⟨kq,x3_7,rfl,HA,HJ7,⟨mc7,rfl⟩⟩:=hcut
        cases kq with
        | zero=>exact absurd HA.out (by simp [chars_legal.j1])
        | succ kj7=>
         have H:=HA.out
         clear HA
         simp only [chars_legal.j1] at H
         by_cases c10:x3_7=true
         ·subst c10
          replace H:=itT H
          obtain rfl:=Option.some.inj H
          go_wp2
          go_ret
          exact⟨by first|rfl|(simp;done)|(simp [*];done),by repeat (first|exact Drawn0.refl _|apply Drawn0.step)⟩
         ·replace c10:=Bool.eq_false_iff.mpr c10
          subst c10
          replace H:=itF H
          replace H:=itO H
          rcases H with⟨c11,H⟩|⟨c11,H⟩
          ·skip
           have c11b0:decide (65536≤a0)=true:=decide_eq_true c11
           clear c11
           obtain rfl:=Option.some.inj H
           go_wp2
           go_ret
           exact⟨by first|rfl|(simp;done)|(simp [*];done),by repeat (first|exact Drawn0.refl _|apply Drawn0.step)⟩
          ·skip
           have c11b0:decide (65536≤a0)=false:=decide_eq_false c11
           clear c11
           obtain rfl:=Option.some.inj H
           go_wp2
           go_ret
           exact⟨by first|rfl|(simp;done)|(simp [*];done),by repeat (first|exact Drawn0.refl _|apply Drawn0.step)⟩
def strings_HasPrefix.f (a0:ByteArray) (a1:ByteArray):Option (Bool):=(stringslite_HasPrefix.f a0 a1).bind fun t255=>(some t255)
theorem strings_HasPrefix.calls (a0:ByteArray) (a1:ByteArray) (r:Bool) (w:World) (h:strings_HasPrefix.f a0 a1=some r) :
  Calls Tryd.prog 124 #[.string a0,.string a1] w fun e w'=>e = .returned (.bool r)∧Drawn0 w w':=by
 unfold strings_HasPrefix.f at h
 have H:=h
 clear h
 replace H:=bndO H
 obtain⟨t255,A30,H⟩:=H
 have A3:=Aside0.mk A30
 clear A30
 obtain rfl:=Option.some.inj H
 go_enter Tryd.func124,Tryd.ntmps124
 go_wp2_with (first|((with_reducible refine gate_callee (f:=115) rfl ?_);refine goesL_ (some 7) rfl rfl Tryd.func115 (by kernel_rfl) rfl #[.string a0,.string a1] rfl (by(try simp only [List.map_toArray,List.map_cons,List.map_nil]);first|done|rfl|(simp only [List.length_drop,List.length_take];rfl)) ?_;(with_reducible refine(stringslite_HasPrefix.calls a0 a1 t255 _ A3.out).mono ?_);rintro e w' ⟨rfl,⟨nd,rfl⟩⟩;refine⟨_,rfl,?_⟩))
 go_ret
 exact⟨by first|rfl|(simp;done)|(simp [*];done),by repeat (first|exact Drawn0.refl _|apply Drawn0.step)⟩
def chars_Count.own (s:ByteArray) (pos:Nat):Bool:=decide (3≤s.size-pos) && ((s.extract pos s.size).extract 0 3).toList == [239,191,189]
def chars_Count.g (s:ByteArray):Nat→Nat→Int→Int×Bool
 | 0,_,n=>(n,true)
 | k+1,pos,n=>if pos<s.size then(if(Utf8.decode s pos).1=65533∧chars_Count.own s pos=false then(0,false) else chars_Count.g s k (pos+(Utf8.decode s pos).2) (n+1)) else(n,true)
def chars_Count.f (a0:ByteArray):Option (Int×Bool):=if a0.size≤9007199254740992 then some (chars_Count.g a0 a0.size 0 0) else none
theorem chars_Count.width_pos (s:ByteArray) (pos:Nat) (h:pos<s.size):1≤(Utf8.decode s pos).2:=by
 by_cases ha:(s[pos]'h).toNat<128
 ·rw [decode_ascii s pos h ha]
  exact Nat.le_refl _
 ·exact(decode_high s pos h (by omega)).2
theorem chars_Count.own_eq (s:ByteArray) (pos:Nat) (h:s.size≤9007199254740992):strings_HasPrefix.f (s.extract pos s.size) ⟨#[239,191,189]⟩=some (chars_Count.own s pos):=by
 have hz:(s.extract pos s.size).size=s.size-pos:=by simp
 have h3:(⟨#[239,191,189]⟩ : ByteArray).size=3:=rfl
 have hl:(⟨#[239,191,189]⟩ : ByteArray).toList = [239,191,189]:=by rw [ByteArray.toList_eq]
 unfold strings_HasPrefix.f stringslite_HasPrefix.f chars_Count.own
 rw [hz,h3,hl]
 by_cases c:3≤s.size-pos
 ·rw [if_pos (by omega),if_pos (by omega),if_pos (by omega),decide_eq_true c]
  rfl
 ·rw [if_neg (by omega)]
  simp [c]
theorem chars_Count.g_bad (s:ByteArray) (k pos:Nat) (n:Int) (h:pos<s.size) (hd:(Utf8.decode s pos).1=65533) (ho:chars_Count.own s pos=false):chars_Count.g s (k+1) pos n=(0,false):=by
 rw [chars_Count.g,if_pos h,if_pos ⟨hd,ho⟩]
theorem chars_Count.g_on (s:ByteArray) (k pos:Nat) (n:Int) (h:pos<s.size) (hd:¬ ((Utf8.decode s pos).1=65533∧chars_Count.own s pos=false)):chars_Count.g s (k+1) pos n=chars_Count.g s k (pos+(Utf8.decode s pos).2) (n+1):=by
 rw [chars_Count.g,if_pos h,if_neg hd]
theorem chars_Count.g_end (s:ByteArray) (k pos:Nat) (n:Int) (h:¬ pos<s.size):chars_Count.g s k pos n=(n,true):=by
 cases k with
 | zero=>rfl
 | succ k=>rw [chars_Count.g,if_neg h]
theorem chars_Count.calls (a0:ByteArray) (r1:Int) (r2:Bool) (w:World) (h:chars_Count.f a0=some (r1,r2)) :
  Calls Tryd.prog 117 #[.string a0] w fun e w'=>e = .returned (.tuple #[.int .i64 r1,.bool r2])∧Below w.heap.size w w':=by
 unfold chars_Count.f at h
 have hs:a0.size≤9007199254740992:=by
  by_cases c:a0.size≤9007199254740992
  ·exact c
  ·simp [c] at h
 rw [if_pos hs] at h
 have hR:=Lib.hid (Option.some.inj h)
 clear h
 go_enter Tryd.func117,Tryd.ntmps117
 go_wp2
 go_loopw [4] (fun i wr=>∃ (pos fuel:Nat) (n:Nat),i = .int .i64 n∧Hid (wr.heap[w.heap.size]? = some (.stringIter a0 pos)∧Below w.heap.size w wr∧chars_Count.g a0 fuel pos n=(r1,r2)∧a0.size≤pos+fuel∧n≤pos)) (fun _ wr=>a0.size-wr.iterPos w.heap.size)
 case atStart=>
  refine⟨0,a0.size,0,rfl,Lib.hid ⟨?_,(Below.refl _ w).alloc (Nat.le_refl _) _,hR.out,by omega,Nat.le_refl _⟩⟩
  exact World.iter_heap w a0 0
 case round=>
  obtain⟨pos,fuel,n,rfl,hI⟩:=hrel
  by_cases hp:pos<a0.size
  ·have hit:=hI.out.1
   have hnx:∀ ty,(Instr.next (.pointer (some ⟨w.heap.size,0,none⟩)) true ty).run Tryd.prog wr=_:=fun ty=>Lib.run_next_any_at wr w.heap.size a0 pos ty hit hp
   have hwd:=chars_Count.width_pos a0 pos hp
   have hB2:=Lib.below_iterAt hI.out.2.1 (k:=w.heap.size) (Nat.le_refl _) a0 (pos+(Utf8.decode a0 pos).2)
   have hit2:=Lib.iterAt_heap wr w.heap.size a0 pos (pos+(Utf8.decode a0 pos).2) hit
   obtain⟨W2,hW2⟩ : ∃ W2,wr.iterAt w.heap.size a0 (pos+(Utf8.decode a0 pos).2)=W2:=⟨_,rfl⟩
   rw [hW2] at hB2 hit2
   simp only [hW2] at hnx
   obtain⟨f,rfl⟩ : ∃ f,fuel=f+1:=⟨fuel-1,by have:=hI.out.2.2.2.1;omega⟩
   have hn:n≤9007199254740992:=by have:=hI.out.2.2.2.2;omega
   have hmeas:a0.size-W2.iterPos w.heap.size<a0.size-wr.iterPos w.heap.size:=by simp only [World.iterPos,hit2,hit];omega
   have hpos:=Lib.hid (And.intro hp hwd)
   have hkeep:=Lib.hid (And.intro hB2 (And.intro hit2 hmeas))
   have hfr:Hid (a0.size≤pos+(f+1)):=Lib.hid hI.out.2.2.2.1
   have hpl:pos≤a0.size:=by omega
   clear hW2 hB2 hit2 hmeas hwd hit
   by_cases hd:(Utf8.decode a0 pos).1=65533
   ·have hdb:(((Utf8.decode a0 pos).1:Int) == 65533)=true:=by rw [hd];rfl
    obtain⟨o,ho⟩ : ∃ o,chars_Count.own a0 pos=o:=⟨_,rfl⟩
    have hown:=Lib.hid (chars_Count.own_eq a0 pos hs)
    rw [ho] at hown
    have hd':=Lib.hid hd
    have ho':=Lib.hid ho
    clear hd ho hp
    cases o
    ·go_wp2_with (go_at_call 124;refine(strings_HasPrefix.calls _ _ false _ hown.out).mono ?_;rintro e w9 ⟨rfl,⟨⟨nd,rfl⟩⟩⟩)
     go_ret2
     have hr:=(chars_Count.g_bad a0 f pos n hpos.out.1 hd'.out ho'.out).symm.trans hI.out.2.2.1
     obtain⟨rfl,rfl⟩:=Prod.mk.inj hr
     exact⟨rfl,pw_below_drewN hkeep.out.1 _⟩
    ·go_wp2_with (go_at_call 124;refine(strings_HasPrefix.calls _ _ true _ hown.out).mono ?_;rintro e w9 ⟨rfl,⟨⟨nd,rfl⟩⟩⟩)
     go_roundw
     case rel=>exact⟨pos+(Utf8.decode a0 pos).2,f,n+1,by go_num,Lib.hid ⟨hkeep.out.2.1,pw_below_drewN hkeep.out.1 _,by have h_:=(chars_Count.g_on a0 f pos n hpos.out.1 (by rw [ho'.out];simp)).symm.trans hI.out.2.2.1;simpa using h_,by have:=hfr.out;have:=hpos.out.2;omega,by have:=hpos.out.2;have:=hI.out.2.2.2.2;omega⟩⟩
     case measure=>exact hkeep.out.2.2
   ·have hdb:(((Utf8.decode a0 pos).1:Int) == 65533)=false:=by
     rw [beq_eq_false_iff_ne];intro h_;exact hd (by omega)
    have hd':=Lib.hid hd
    clear hd hp
    go_wp2
    go_roundw
    case rel=>exact⟨pos+(Utf8.decode a0 pos).2,f,n+1,by go_num,Lib.hid ⟨hkeep.out.2.1,hkeep.out.1,by have h_:=(chars_Count.g_on a0 f pos n hpos.out.1 (fun h9=>hd'.out h9.1)).symm.trans hI.out.2.2.1;simpa using h_,by have:=hfr.out;have:=hpos.out.2;omega,by have:=hpos.out.2;have:=hI.out.2.2.2.2;omega⟩⟩
    case measure=>exact hkeep.out.2.2
  ·have hnx:∀ ty,(Instr.next (.pointer (some ⟨w.heap.size,0,none⟩)) true ty).run Tryd.prog wr=_:=fun ty=>Lib.run_next_end_at wr w.heap.size a0 pos ty hI.out.1 hp
   have hr:=Lib.hid ((chars_Count.g_end a0 fuel pos n hp).symm.trans hI.out.2.2.1)
   go_wp2
   go_ret2
   obtain⟨rfl,rfl⟩:=Prod.mk.inj hr.out
   exact⟨rfl,hI.out.2.1⟩
def chars_Valid.f (a0:ByteArray):Option (Bool):=(chars_Count.f a0).bind fun bt256=>(some bt256.2)
theorem chars_Valid.calls (a0:ByteArray) (r:Bool) (w:World) (h:chars_Valid.f a0=some r) :
  Calls Tryd.prog 102 #[.string a0] w fun e w'=>e = .returned (.bool r)∧Below w.heap.size w w':=by
 have HB:=Aside0.mk (Below.refl w.heap.size w)
 unfold chars_Valid.f at h
 have H:=h
 clear h
 replace H:=bndO H
 obtain⟨⟨t256,t257⟩,A20,H⟩:=H
 dsimp only at H
 have A2:=Aside0.mk A20
 clear A20
 obtain rfl:=Option.some.inj H
 go_enter Tryd.func102,Tryd.ntmps102
 go_wp2_with (first|((with_reducible refine gate_callee (f:=117) rfl ?_);refine goesL_ (some 7) rfl rfl Tryd.func117 (by kernel_rfl) rfl #[.string a0] rfl (by(try simp only [List.map_toArray,List.map_cons,List.map_nil]);first|done|rfl|(simp only [List.length_drop,List.length_take];rfl)) ?_;(with_reducible refine(chars_Count.calls a0 t256 t257 _ A2.out).mono ?_);rintro e w3 ⟨rfl,hb⟩;refine⟨_,rfl,?_⟩;have n0_:=Aside0.mk (below_step (by repeat (first|(with_reducible first|exact HB.out|apply below_alloc|apply pw_below_drewN|apply below_drew1)|exact HB.out)) hb);clear HB;have HB:=n0_;clear n0_;(try clear hb);(try clear hb2);(try clear hk);(try clear hi)))
 go_ret
 exact⟨by first|rfl|(simp [errW_none,errW_some] <;> rfl)|(simp [*,errW_none,errW_some] <;> rfl),by repeat (first|(with_reducible first|exact HB.out|apply below_alloc|apply pw_below_drewN|apply below_drew1)|exact HB.out)⟩
def chars_Legal.ok (c:Int):Bool:=decide (c=9∨c=10∨c=13∨(32≤c∧c≤55295)∨(57344≤c∧c≤65533)∨65536≤c)
theorem chars_Legal.ok_eq (c:Int):chars_legal.f 3 c=some (chars_Legal.ok c):=by
 unfold chars_legal.f chars_Legal.ok
 by_cases h1:c=9
 ·rw [if_pos h1,decide_eq_true (by omega)]
 ·rw [if_neg h1]
  by_cases h2:c=10
  ·rw [if_pos h2,decide_eq_true (by omega)]
  ·rw [if_neg h2]
   by_cases h3:c=13
   ·rw [if_pos h3,decide_eq_true (by omega)]
   ·rw [if_neg h3]
    have tail:chars_legal.j0 3 c false=some (decide ((57344≤c∧c≤65533)∨65536≤c)):=by
     simp only [chars_legal.j0]
     rw [if_neg (by decide)]
     by_cases h5:c ≥ 57344
     ·rw [if_pos h5]
      by_cases h6:c≤65533
      ·rw [chars_legal.j1,if_pos (decide_eq_true h6),decide_eq_true (by omega)]
      ·rw [chars_legal.j1,if_neg (by simpa using h6)]
       by_cases h7:c ≥ 65536
       ·rw [if_pos h7,decide_eq_true (by omega)]
       ·rw [if_neg h7,decide_eq_false (by omega)]
     ·rw [if_neg h5,chars_legal.j1,if_neg (by decide),if_neg (by omega),decide_eq_false (by omega)]
    by_cases h4:c ≥ 32
    ·rw [if_pos h4]
     by_cases h5:c≤55295
     ·rw [chars_legal.j0,if_pos (decide_eq_true h5),decide_eq_true (by omega)]
     ·rw [decide_eq_false h5,tail]
      congr 1
      rw [decide_eq_decide]
      omega
    ·rw [if_neg h4,tail]
     congr 1
     rw [decide_eq_decide]
     omega
def chars_Legal.g (s:ByteArray):Nat→Nat→Bool
 | 0,_=>true
 | k+1,pos=>if pos<s.size then(if chars_Legal.ok (Utf8.decode s pos).1=false then false else chars_Legal.g s k (pos+(Utf8.decode s pos).2)) else true
def chars_Legal.f (a0:ByteArray):Option Bool:=if a0.size≤9007199254740992 then(if chars_Legal.g a0 a0.size 0=true then chars_Valid.f a0 else some false) else none
theorem chars_Legal.g_bad (s:ByteArray) (k pos:Nat) (h:pos<s.size) (hd:chars_Legal.ok (Utf8.decode s pos).1=false):chars_Legal.g s (k+1) pos=false:=by
 rw [chars_Legal.g,if_pos h,if_pos hd]
theorem chars_Legal.g_on (s:ByteArray) (k pos:Nat) (h:pos<s.size) (hd:chars_Legal.ok (Utf8.decode s pos).1=true):chars_Legal.g s (k+1) pos=chars_Legal.g s k (pos+(Utf8.decode s pos).2):=by
 rw [chars_Legal.g,if_pos h,if_neg (by rw [hd];decide)]
theorem chars_Legal.g_end (s:ByteArray) (k pos:Nat) (h:¬ pos<s.size):chars_Legal.g s k pos=true:=by
 cases k with
 | zero=>rfl
 | succ k=>rw [chars_Legal.g,if_neg h]
theorem chars_Legal.calls (a0:ByteArray) (r:Bool) (w:World) (h:chars_Legal.f a0=some r) :
  Calls Tryd.prog 86 #[.string a0] w fun e w'=>e = .returned (.bool r)∧Below w.heap.size w w':=by
 unfold chars_Legal.f at h
 have hs:a0.size≤9007199254740992:=by
  by_cases c:a0.size≤9007199254740992
  ·exact c
  ·simp [c] at h
 rw [if_pos hs] at h
 have hR:Hid (∀ v,chars_Legal.g a0 a0.size 0=v→(v=true→chars_Valid.f a0=some r)∧(v=false→r=false)):=by
  refine Lib.hid fun v hv=>?_
  rw [hv] at h
  cases v
  ·exact⟨fun h_=>by simp at h_,fun _=>(Option.some.inj h).symm⟩
  ·exact⟨fun _=>h,fun h_=>by simp at h_⟩
 clear h
 go_enter Tryd.func86,Tryd.ntmps86
 go_wp2
 go_loopw [] (fun wr=>∃ (pos fuel:Nat),Hid (wr.heap[w.heap.size]? = some (.stringIter a0 pos)∧Below w.heap.size w wr∧chars_Legal.g a0 fuel pos=chars_Legal.g a0 a0.size 0∧a0.size≤pos+fuel)) (fun wr=>a0.size-wr.iterPos w.heap.size)
 case atStart=>
  refine⟨0,a0.size,Lib.hid ⟨?_,(Below.refl _ w).alloc (Nat.le_refl _) _,rfl,by omega⟩⟩
  exact World.iter_heap w a0 0
 case round=>
  obtain⟨pos,fuel,hI⟩:=hrel
  by_cases hp:pos<a0.size
  ·have hit:=hI.out.1
   have hnx:∀ ty,(Instr.next (.pointer (some ⟨w.heap.size,0,none⟩)) true ty).run Tryd.prog wr=_:=fun ty=>Lib.run_next_any_at wr w.heap.size a0 pos ty hit hp
   have hwd:=chars_Count.width_pos a0 pos hp
   have hB2:=Lib.below_iterAt hI.out.2.1 (k:=w.heap.size) (Nat.le_refl _) a0 (pos+(Utf8.decode a0 pos).2)
   have hit2:=Lib.iterAt_heap wr w.heap.size a0 pos (pos+(Utf8.decode a0 pos).2) hit
   obtain⟨W2,hW2⟩ : ∃ W2,wr.iterAt w.heap.size a0 (pos+(Utf8.decode a0 pos).2)=W2:=⟨_,rfl⟩
   rw [hW2] at hB2 hit2
   simp only [hW2] at hnx
   obtain⟨f,rfl⟩ : ∃ f,fuel=f+1:=⟨fuel-1,by have:=hI.out.2.2.2;omega⟩
   have hmeas:a0.size-W2.iterPos w.heap.size<a0.size-wr.iterPos w.heap.size:=by simp only [World.iterPos,hit2,hit];omega
   have hpos:=Lib.hid (And.intro hp hwd)
   have hkeep:=Lib.hid (And.intro hB2 (And.intro hit2 hmeas))
   have hfr:Hid (a0.size≤pos+(f+1)):=Lib.hid hI.out.2.2.2
   clear hW2 hB2 hit2 hmeas hwd hit hp
   obtain⟨o,ho⟩ : ∃ o,chars_Legal.ok (Utf8.decode a0 pos).1=o:=⟨_,rfl⟩
   have hok:=Lib.hid (chars_Legal.ok_eq (Utf8.decode a0 pos).1)
   rw [ho] at hok
   have ho':=Lib.hid ho
   clear ho
   cases o
   ·go_wp2_with (go_at_call 101;refine(chars_legal.calls 3 _ false _ hok.out).mono ?_;rintro e w9 ⟨rfl,⟨⟨nd,rfl⟩⟩⟩)
    go_ret
    have hr:=(hR.out false (hI.out.2.2.1.symm.trans (chars_Legal.g_bad a0 f pos hpos.out.1 ho'.out))).2 rfl
    subst hr
    exact⟨rfl,pw_below_drewN hkeep.out.1 _⟩
   ·go_wp2_with (go_at_call 101;refine(chars_legal.calls 3 _ true _ hok.out).mono ?_;rintro e w9 ⟨rfl,⟨⟨nd,rfl⟩⟩⟩)
    go_roundw
    case rel=>exact⟨pos+(Utf8.decode a0 pos).2,f,Lib.hid ⟨hkeep.out.2.1,pw_below_drewN hkeep.out.1 _,(chars_Legal.g_on a0 f pos hpos.out.1 ho'.out).symm.trans hI.out.2.2.1,by have:=hfr.out;have:=hpos.out.2;omega⟩⟩
    case measure=>exact hkeep.out.2.2
  ·have hnx:∀ ty,(Instr.next (.pointer (some ⟨w.heap.size,0,none⟩)) true ty).run Tryd.prog wr=_:=fun ty=>Lib.run_next_end_at wr w.heap.size a0 pos ty hI.out.1 hp
   have hv:=Lib.hid ((hR.out true (hI.out.2.2.1.symm.trans (chars_Legal.g_end a0 fuel pos hp))).1 rfl)
   go_wp2_with (go_at_call 102;refine(chars_Valid.calls _ r _ hv.out).mono ?_;rintro e w9 ⟨rfl,hb9⟩;have hb9':=Lib.hid hb9;clear hb9)
   go_ret
   exact⟨rfl,below_step hI.out.2.1 hb9'.out⟩
mutual
def xml_may.j0:Nat→Int→Bool→ByteArray→ByteArray→List (S42)→Option (Bool)
 | 0,_,_,_,_,_=>none
 | k+1,x1,x31,x259000,x259001,x259002=>if x31=true then(some false) else(xml_may.l0 k x1 x259002 (x259002.length:Int) 0)
def xml_may.l0:Nat→Int→List (S42)→Int→Int→Option (Bool)
 | 0,_,_,_,_=>none
 | k+1,x1,x33,x34,x35=>if x35<x34 then(if 0≤x35 then(if x35<(x33.length:Int) then((xml_may.f k ((rd_T42 x33 x35).f0) ((rd_T42 x33 x35).f1) ((rd_T42 x33 x35).f2) (wrap64 (x1+1))).bind fun t263=>(if t263=true then(xml_may.l0 k x1 x33 x34 (wrap64 (x35+1))) else(some false))) else(none)) else(none)) else(some true)
def xml_may.f:Nat→ByteArray→ByteArray→List (S42)→Int→Option (Bool)
 | 0,_,_,_,_=>none
 | k+1,a0_0,a0_1,l0_2,a1=>if a1>16 then(xml_may.j0 k a1 true a0_0 a0_1 l0_2) else((xml_Name.f k a0_0).bind fun t259=>(if t259=true then((chars_Legal.f a0_1).bind fun t260=>(if t260=true then(if a0_1.toList=([]:List UInt8) then(xml_may.j0 k a1 false a0_0 a0_1 l0_2) else(xml_may.j0 k a1 (decide ((l0_2.length:Int)>0)) a0_0 a0_1 l0_2)) else(xml_may.j0 k a1 true a0_0 a0_1 l0_2))) else(xml_may.j0 k a1 true a0_0 a0_1 l0_2)))
end
theorem xml_may.mono_l:∀ k,(∀ y0 y1 y2 y3,LeO (xml_may.f k y0 y1 y2 y3) (xml_may.f (k+1) y0 y1 y2 y3))∧(∀ y0 y1 y2 y3 y4,LeO (xml_may.j0 k y0 y1 y2 y3 y4) (xml_may.j0 (k+1) y0 y1 y2 y3 y4))∧(∀ y0 y1 y2 y3,LeO (xml_may.l0 k y0 y1 y2 y3) (xml_may.l0 (k+1) y0 y1 y2 y3))
 | 0=>⟨fun _ _ _ _ r h=>by simp [xml_may.f] at h,fun _ _ _ _ _ r h=>by simp [xml_may.j0] at h,fun _ _ _ _ r h=>by simp [xml_may.l0] at h⟩
 | k+1=>by
  obtain⟨ih0,ih1,ih2⟩:=xml_may.mono_l k
  refine⟨?_,?_,?_⟩
  ·intro y0 y1 y2 y3
   unfold xml_may.f
   repeat' first
   | (with_reducible exact ih0 _ _ _ _)
   | (with_reducible exact ih1 _ _ _ _ _)
   | (with_reducible exact ih2 _ _ _ _)
   | (with_reducible exact xml_Name.mono _ _)
   | (with_reducible exact LeO.refl _)
   | (with_reducible exact LeO.none _)
   | (with_reducible refine LeO.ite ?_ ?_)
   | (with_reducible refine LeO.bind ?_ (fun _=>?_))
   | exact ih0 _ _ _ _
   | exact ih1 _ _ _ _ _
   | exact ih2 _ _ _ _
   | exact xml_Name.mono _ _
   | exact LeO.none _
   | refine LeO.ite ?_ ?_
   | refine LeO.bind ?_ (fun _=>?_)
  ·intro y0 y1 y2 y3 y4
   unfold xml_may.j0
   repeat' first
   | (with_reducible exact ih0 _ _ _ _)
   | (with_reducible exact ih1 _ _ _ _ _)
   | (with_reducible exact ih2 _ _ _ _)
   | (with_reducible exact xml_Name.mono _ _)
   | (with_reducible exact LeO.refl _)
   | (with_reducible exact LeO.none _)
   | (with_reducible refine LeO.ite ?_ ?_)
   | (with_reducible refine LeO.bind ?_ (fun _=>?_))
   | exact ih0 _ _ _ _
   | exact ih1 _ _ _ _ _
   | exact ih2 _ _ _ _
   | exact xml_Name.mono _ _
   | exact LeO.none _
   | refine LeO.ite ?_ ?_
   | refine LeO.bind ?_ (fun _=>?_)
  ·intro y0 y1 y2 y3
   unfold xml_may.l0
   repeat' first
   | (with_reducible exact ih0 _ _ _ _)
   | (with_reducible exact ih1 _ _ _ _ _)
   | (with_reducible exact ih2 _ _ _ _)
   | (with_reducible exact xml_Name.mono _ _)
   | (with_reducible exact LeO.refl _)
   | (with_reducible exact LeO.none _)
   | (with_reducible refine LeO.ite ?_ ?_)
   | (with_reducible refine LeO.bind ?_ (fun _=>?_))
   | exact ih0 _ _ _ _
   | exact ih1 _ _ _ _ _
   | exact ih2 _ _ _ _
   | exact xml_Name.mono _ _
   | exact LeO.none _
   | refine LeO.ite ?_ ?_
   | refine LeO.bind ?_ (fun _=>?_)
theorem xml_may.mono:∀ a0 a1 a2 a3 k,LeO (xml_may.f k a0 a1 a2 a3) (xml_may.f (k+1) a0 a1 a2 a3):=by
 intro a0 a1 a2 a3 k
 obtain⟨ih0,ih1,ih2⟩:=xml_may.mono_l k
 exact ih0 a0 a1 a2 a3
theorem xml_may.calls (k:Nat):∀ (a0_0:ByteArray) (a0_1:ByteArray) (A0_2:Option Addr) (c0_2:Nat) (l0_2:List (S42)) (a1:Int) (r:Bool) (w:World) (hr0_2:Kd.C k42 w A0_2 l0_2.length l0_2) (hc0_2:l0_2.length≤c0_2) (h:xml_may.f k a0_0 a0_1 l0_2 a1=some r),
  Calls Tryd.prog 58 #[.agg #[.string a0_0,.string a0_1,.slice A0_2 l0_2.length c0_2],.int .i64 a1] w fun e w'=>e = .returned (.bool r)∧Below w.heap.size w w':=by
 induction k using Nat.strongRecOn with
 | _ k ih=>
 intro a0_0 a0_1 A0_2 c0_2 l0_2 a1 r w hr0_2 hc0_2 h
 cases k with
 | zero=>exact absurd h (by simp [xml_may.f])
 | succ k=>
 simp only [xml_may.f] at h
 have hu42:=Tryd.underlying42
 have HR0_2:=Aside0.mk hr0_2
 have HC0_2:=Aside0.mk hc0_2
 clear hr0_2 hc0_2
 have HB:=Aside0.mk (Below.refl w.heap.size w)
 have H:(if a1>16 then(xml_may.j0 k a1 true a0_0 a0_1 l0_2) else((xml_Name.f k a0_0).bind fun t259=>(if t259=true then((chars_Legal.f a0_1).bind fun t260=>(if t260=true then(if a0_1.toList=([]:List UInt8) then(xml_may.j0 k a1 false a0_0 a0_1 l0_2) else(xml_may.j0 k a1 (decide ((l0_2.length:Int)>0)) a0_0 a0_1 l0_2)) else(xml_may.j0 k a1 true a0_0 a0_1 l0_2))) else(xml_may.j0 k a1 true a0_0 a0_1 l0_2))))=some r:=h
 clear h
 have HC3:=Aside0.mk H
 clear H
 go_enter Tryd.func58,Tryd.ntmps58
 go_upto_region 1 with(first|((with_reducible refine gate_dst (N:=2) rfl ?_);(try (refine gate_guard (by rfl) ?_;dsimp only));refine box_event ?hg (N:=2) ?hd (cs:=#[.string a0_0,.string a0_1,.slice A0_2 l0_2.length c0_2]) (t:=42) ?hr ?_;(case hd=>rfl);(case hg=>rfl);(case hr=>first|(go_simp;done)|(go_simp;rfl));intro gb258 hg w4 hbox hb;have n0_:=Aside0.mk (below_step (by repeat (first|(with_reducible first|exact HB.out|apply below_alloc|apply pw_below_drewN|apply below_drew1)|exact HB.out)) hb);have n1_:=Aside0.mk (hbox);have n2_:=Aside0.mk ((by rw [hg];exact(below_size (by repeat (first|(with_reducible first|exact HB.out|apply below_alloc|apply pw_below_drewN|apply below_drew1)|exact HB.out))):w.heap.size≤gb258));have n3_:=Aside0.mk ((by rw [hg];exact(below_size (by repeat (first|(with_reducible first|exact HB.out|apply below_alloc|apply pw_below_drewN|apply below_drew1)|exact HB.out))):w.heap.size≤gb258));clear HB;have HB:=n0_;have BK258:=n1_;have GW258:=n2_;have GE258:=n3_;clear n0_ n1_ n2_ n3_;clear hb hbox hg))
 (try simp only [Act.put,List.setIfInBounds_toArray,List.set_cons_zero,List.set_cons_succ])
 go_cut [31] (fun v31 wc=>∃ (kq:Nat) (x31_2:Bool),v31 = .bool x31_2∧Aside0 (xml_may.j0 kq a1 x31_2 a0_0 a0_1 l0_2=some r)∧Aside0 (kq≤k)∧Aside0 (wc.heap[gb258]? = some (.cells #[.string a0_0,.string a0_1,(.slice A0_2 l0_2.length c0_2)] 42 (0,0)))∧Aside0 (Below w.heap.size w wc))
 case first=>
  have H:=HC3.out
  clear HC3
  replace H:=itO H
  rcases H with⟨c5,H⟩|⟨c5,H⟩
  ·skip
   have c5b0:decide (16<a1)=true:=decide_eq_true c5
   clear c5
   (first|rw [c5b0]|(simp only [i64_w,i32_w];rw [c5b0])|skip)
   have H':=Aside0.mk H
   clear H
   go_wp2
   go_meet
   case rel=>exact⟨_,(true),(by first|rfl|(simp;done)|(simp [*];done)),H',⟨by first|omega|exact Nat.le_refl _⟩,⟨by(with_reducible repeat (first|refine blk_drewN ?_ _|refine blk_drew ?_|refine blk_alloc ?_ _));exact BK258.out⟩,⟨by repeat (first|(with_reducible first|exact HB.out|apply below_alloc|apply pw_below_drewN|apply below_drew1|refine below_set ?_ GE258.out)|exact HB.out)⟩⟩
  ·skip
   have c5b0:decide (16<a1)=false:=decide_eq_false c5
   clear c5
   (first|rw [c5b0]|(simp only [i64_w,i32_w];rw [c5b0])|skip)
   replace H:=bndO H
   obtain⟨t259,A60,H⟩:=H
   have A6:=Aside0.mk A60
   clear A60
   by_cases c7:t259=true
   ·subst c7
    replace H:=itT H
    replace H:=bndO H
    obtain⟨t260,A80,H⟩:=H
    have A8:=Aside0.mk A80
    clear A80
    by_cases c9:t260=true
    ·subst c9
     replace H:=itT H
     replace H:=itO H
     rcases H with⟨c10,H⟩|⟨c10,H⟩
     ·skip
      have c10b0:(a0_1.toList == ([]:List UInt8))=true:=beq_iff_eq.mpr c10
      have c10b1:(a0_1.toList != ([]:List UInt8))=false:=bne_eq_false_iff_eq.mpr c10
      clear c10
      have H':=Aside0.mk H
      clear H
      have hcz11_0:w4.cell? ⟨gb258,0,none⟩=some (.string a0_0):=(blk_cell BK258.out 0).trans rfl
      have hcz11_1:w4.cell? ⟨gb258,1,none⟩=some (.string a0_1):=(blk_cell BK258.out 1).trans rfl
      have hcz11_2:w4.cell? ⟨gb258,2,none⟩=some (.slice A0_2 l0_2.length c0_2):=(blk_cell BK258.out 2).trans rfl
      have hfz11_0:=blk_frozen BK258.out 0
      have hfz11_1:=blk_frozen BK258.out 1
      have hfz11_2:=blk_frozen BK258.out 2
      go_wp2_with (first|(go_at_call 85;(with_reducible refine(xml_Name.calls k a0_0 true _ A6.out).mono ?_);rintro e w' ⟨rfl,⟨nd,rfl⟩⟩)|(go_at_call 86;(with_reducible refine(chars_Legal.calls a0_1 true _ A8.out).mono ?_);rintro e w12 ⟨rfl,hb⟩;have n0_:=Aside0.mk (blk_below (g:=gb258) (o:=.cells #[.string a0_0,.string a0_1,.slice A0_2 l0_2.length c0_2] 42 (0,0)) (by(with_reducible repeat (first|refine blk_drewN ?_ _|refine blk_drew ?_|refine blk_alloc ?_ _));exact BK258.out) hb);have n1_:=Aside0.mk (below_step (by repeat (first|(with_reducible first|exact HB.out|apply below_alloc|apply pw_below_drewN|apply below_drew1|refine below_set ?_ GE258.out)|exact HB.out)) hb);clear BK258;clear HB;have BK258:=n0_;have HB:=n1_;clear n0_ n1_;(try clear hb);(try clear hb2);(try clear hk);(try clear hi);have hcz13_0:w12.cell? ⟨gb258,0,none⟩=some (.string a0_0):=(blk_cell BK258.out 0).trans rfl;have hcz13_1:w12.cell? ⟨gb258,1,none⟩=some (.string a0_1):=(blk_cell BK258.out 1).trans rfl;have hcz13_2:w12.cell? ⟨gb258,2,none⟩=some (.slice A0_2 l0_2.length c0_2):=(blk_cell BK258.out 2).trans rfl;have hfz13_0:=blk_frozen BK258.out 0;have hfz13_1:=blk_frozen BK258.out 1;have hfz13_2:=blk_frozen BK258.out 2))
      go_meet
      case rel=>exact⟨_,(false),(by first|rfl|(simp;done)|(simp [*];done)),H',⟨by first|omega|exact Nat.le_refl _⟩,⟨by(with_reducible repeat (first|refine blk_drewN ?_ _|refine blk_drew ?_|refine blk_alloc ?_ _));exact BK258.out⟩,⟨by repeat (first|(with_reducible first|exact HB.out|apply below_alloc|apply pw_below_drewN|apply below_drew1|refine below_set ?_ GE258.out)|exact HB.out)⟩⟩
     ·skip
      have c10b0:(a0_1.toList == ([]:List UInt8))=false:=beq_eq_false_iff_ne.mpr c10
      have c10b1:(a0_1.toList != ([]:List UInt8))=true:=bne_iff_ne.mpr c10
      have H':=Aside0.mk H
      clear H
      have hcz14_0:w4.cell? ⟨gb258,0,none⟩=some (.string a0_0):=(blk_cell BK258.out 0).trans rfl
      have hcz14_1:w4.cell? ⟨gb258,1,none⟩=some (.string a0_1):=(blk_cell BK258.out 1).trans rfl
      have hcz14_2:w4.cell? ⟨gb258,2,none⟩=some (.slice A0_2 l0_2.length c0_2):=(blk_cell BK258.out 2).trans rfl
      have hfz14_0:=blk_frozen BK258.out 0
      have hfz14_1:=blk_frozen BK258.out 1
      have hfz14_2:=blk_frozen BK258.out 2
      go_wp2_with (first|(go_at_call 85;(with_reducible refine(xml_Name.calls k a0_0 true _ A6.out).mono ?_);rintro e w' ⟨rfl,⟨nd,rfl⟩⟩)|(go_at_call 86;(with_reducible refine(chars_Legal.calls a0_1 true _ A8.out).mono ?_);rintro e w15 ⟨rfl,hb⟩;have n0_:=Aside0.mk (blk_below (g:=gb258) (o:=.cells #[.string a0_0,.string a0_1,.slice A0_2 l0_2.length c0_2] 42 (0,0)) (by(with_reducible repeat (first|refine blk_drewN ?_ _|refine blk_drew ?_|refine blk_alloc ?_ _));exact BK258.out) hb);have n1_:=Aside0.mk (below_step (by repeat (first|(with_reducible first|exact HB.out|apply below_alloc|apply pw_below_drewN|apply below_drew1|refine below_set ?_ GE258.out)|exact HB.out)) hb);clear BK258;clear HB;have BK258:=n0_;have HB:=n1_;clear n0_ n1_;(try clear hb);(try clear hb2);(try clear hk);(try clear hi);have hcz16_0:w15.cell? ⟨gb258,0,none⟩=some (.string a0_0):=(blk_cell BK258.out 0).trans rfl;have hcz16_1:w15.cell? ⟨gb258,1,none⟩=some (.string a0_1):=(blk_cell BK258.out 1).trans rfl;have hcz16_2:w15.cell? ⟨gb258,2,none⟩=some (.slice A0_2 l0_2.length c0_2):=(blk_cell BK258.out 2).trans rfl;have hfz16_0:=blk_frozen BK258.out 0;have hfz16_1:=blk_frozen BK258.out 1;have hfz16_2:=blk_frozen BK258.out 2))
      go_meet
      case rel=>exact⟨_,(decide ((l0_2.length:Int)>0)),(by first|rfl|(simp;done)|(simp [*];done)),H',⟨by first|omega|exact Nat.le_refl _⟩,⟨by(with_reducible repeat (first|refine blk_drewN ?_ _|refine blk_drew ?_|refine blk_alloc ?_ _));exact BK258.out⟩,⟨by repeat (first|(with_reducible first|exact HB.out|apply below_alloc|apply pw_below_drewN|apply below_drew1|refine below_set ?_ GE258.out)|exact HB.out)⟩⟩
    ·replace c9:=Bool.eq_false_iff.mpr c9
     subst c9
     replace H:=itF H
     have H':=Aside0.mk H
     clear H
     have hcz17_0:w4.cell? ⟨gb258,0,none⟩=some (.string a0_0):=(blk_cell BK258.out 0).trans rfl
     have hcz17_1:w4.cell? ⟨gb258,1,none⟩=some (.string a0_1):=(blk_cell BK258.out 1).trans rfl
     have hcz17_2:w4.cell? ⟨gb258,2,none⟩=some (.slice A0_2 l0_2.length c0_2):=(blk_cell BK258.out 2).trans rfl
     have hfz17_0:=blk_frozen BK258.out 0
     have hfz17_1:=blk_frozen BK258.out 1
     have hfz17_2:=blk_frozen BK258.out 2
     go_wp2_with (first|(go_at_call 85;(with_reducible refine(xml_Name.calls k a0_0 true _ A6.out).mono ?_);rintro e w' ⟨rfl,⟨nd,rfl⟩⟩)|(go_at_call 86;(with_reducible refine(chars_Legal.calls a0_1 false _ A8.out).mono ?_);rintro e w18 ⟨rfl,hb⟩;have n0_:=Aside0.mk (blk_below (g:=gb258) (o:=.cells #[.string a0_0,.string a0_1,.slice A0_2 l0_2.length c0_2] 42 (0,0)) (by(with_reducible repeat (first|refine blk_drewN ?_ _|refine blk_drew ?_|refine blk_alloc ?_ _));exact BK258.out) hb);have n1_:=Aside0.mk (below_step (by repeat (first|(with_reducible first|exact HB.out|apply below_alloc|apply pw_below_drewN|apply below_drew1|refine below_set ?_ GE258.out)|exact HB.out)) hb);clear BK258;clear HB;have BK258:=n0_;have HB:=n1_;clear n0_ n1_;(try clear hb);(try clear hb2);(try clear hk);(try clear hi)))
     go_meet
     case rel=>exact⟨_,(true),(by first|rfl|(simp;done)|(simp [*];done)),H',⟨by first|omega|exact Nat.le_refl _⟩,⟨by(with_reducible repeat (first|refine blk_drewN ?_ _|refine blk_drew ?_|refine blk_alloc ?_ _));exact BK258.out⟩,⟨by repeat (first|(with_reducible first|exact HB.out|apply below_alloc|apply pw_below_drewN|apply below_drew1|refine below_set ?_ GE258.out)|exact HB.out)⟩⟩
   ·replace c7:=Bool.eq_false_iff.mpr c7
    subst c7
    replace H:=itF H
    have H':=Aside0.mk H
    clear H
    have hcz19_0:w4.cell? ⟨gb258,0,none⟩=some (.string a0_0):=(blk_cell BK258.out 0).trans rfl
    have hcz19_1:w4.cell? ⟨gb258,1,none⟩=some (.string a0_1):=(blk_cell BK258.out 1).trans rfl
    have hcz19_2:w4.cell? ⟨gb258,2,none⟩=some (.slice A0_2 l0_2.length c0_2):=(blk_cell BK258.out 2).trans rfl
    have hfz19_0:=blk_frozen BK258.out 0
    have hfz19_1:=blk_frozen BK258.out 1
    have hfz19_2:=blk_frozen BK258.out 2
    go_wp2_with (first|(go_at_call 85;(with_reducible refine(xml_Name.calls k a0_0 false _ A6.out).mono ?_);rintro e w' ⟨rfl,⟨nd,rfl⟩⟩))
    go_meet
    case rel=>exact⟨_,(true),(by first|rfl|(simp;done)|(simp [*];done)),H',⟨by first|omega|exact Nat.le_refl _⟩,⟨by(with_reducible repeat (first|refine blk_drewN ?_ _|refine blk_drew ?_|refine blk_alloc ?_ _));exact BK258.out⟩,⟨by repeat (first|(with_reducible first|exact HB.out|apply below_alloc|apply pw_below_drewN|apply below_drew1|refine below_set ?_ GE258.out)|exact HB.out)⟩⟩
 case rest=>
  clear HC3
  try clear c1
  try clear p2
  try clear c5
  try clear c5b0
  try clear c7
  try clear c9
  try clear c10
  try clear c10b0
  try clear c10b1
  try clear hcz11_0
  try clear hcz11_1
  try clear hcz11_2
  try clear hcz13_0
  try clear hcz13_1
  try clear hcz13_2
  try clear hcz14_0
  try clear hcz14_1
  try clear hcz14_2
  try clear hcz16_0
  try clear hcz16_1
  try clear hcz16_2
  try clear hcz17_0
  try clear hcz17_1
  try clear hcz17_2
  try clear hcz19_0
  try clear hcz19_1
  try clear hcz19_2
  try clear hfz11_0
  try clear hfz11_1
  try clear hfz11_2
  try clear hfz13_0
  try clear hfz13_1
  try clear hfz13_2
  try clear hfz14_0
  try clear hfz14_1
  try clear hfz14_2
  try clear hfz16_0
  try clear hfz16_1
  try clear hfz16_2
  try clear hfz17_0
  try clear hfz17_1
  try clear hfz17_2
  try clear hfz19_0
  try clear hfz19_1
  try clear hfz19_2
  obtain⟨kq,x31_2,rfl,HA,HJ2,BK258,HB⟩:=hcut
  cases kq with
  | zero=>exact absurd HA.out (by simp [xml_may.j0])
  | succ kj2=>
   have H:=HA.out
   clear HA
   simp only [xml_may.j0] at H
   by_cases c20:x31_2=true
   ·subst c20
    replace H:=itT H
    obtain rfl:=Option.some.inj H
    go_wp2
    go_ret
    exact⟨by first|rfl|(simp [errW_none,errW_some] <;> rfl)|(simp [*,errW_none,errW_some] <;> rfl),by repeat (first|(with_reducible first|exact HB.out|apply below_alloc|apply pw_below_drewN|apply below_drew1|refine below_set ?_ GE258.out)|exact HB.out)⟩
   ·replace c20:=Bool.eq_false_iff.mpr c20
    subst c20
    replace H:=itF H
    have H':=Aside0.mk H
    clear H
    have hcz21_0:wc.cell? ⟨gb258,0,none⟩=some (.string a0_0):=(blk_cell BK258.out 0).trans rfl
    have hcz21_1:wc.cell? ⟨gb258,1,none⟩=some (.string a0_1):=(blk_cell BK258.out 1).trans rfl
    have hcz21_2:wc.cell? ⟨gb258,2,none⟩=some (.slice A0_2 l0_2.length c0_2):=(blk_cell BK258.out 2).trans rfl
    have hfz21_0:=blk_frozen BK258.out 0
    have hfz21_1:=blk_frozen BK258.out 1
    have hfz21_2:=blk_frozen BK258.out 2
    go_wp2
    go_loopg [35] kj2 (fun kq v35 w'=>∃ (x35_2:Int),v35 = .int .i64 x35_2∧Aside0 (xml_may.l0 kq a1 l0_2 (l0_2.length:Int) x35_2=some r)∧Aside0 (kq≤kj2)∧Aside0 (w'.heap[gb258]? = some (.cells #[.string a0_0,.string a0_1,(.slice A0_2 l0_2.length c0_2)] 42 (0,0)))∧Aside0 (Below w.heap.size w w'))
    case atStart=>exact⟨(0),(by first|rfl|(simp;done)|(simp [*];done)),H',⟨Nat.le_refl _⟩,⟨by(with_reducible repeat (first|refine blk_drewN ?_ _|refine blk_drew ?_|refine blk_alloc ?_ _));exact BK258.out⟩,⟨by repeat (first|(with_reducible first|exact HB.out|apply below_alloc|apply pw_below_drewN|apply below_drew1|refine below_set ?_ GE258.out)|exact HB.out)⟩⟩
    case round=>
     clear H'
     try clear c1
     try clear c2
     try clear p2
     try clear c5
     try clear c5b0
     try clear c7
     try clear c9
     try clear c10
     try clear c10b0
     try clear c10b1
     try clear c20
     try clear hcz11_0
     try clear hcz11_1
     try clear hcz11_2
     try clear hcz13_0
     try clear hcz13_1
     try clear hcz13_2
     try clear hcz14_0
     try clear hcz14_1
     try clear hcz14_2
     try clear hcz16_0
     try clear hcz16_1
     try clear hcz16_2
     try clear hcz17_0
     try clear hcz17_1
     try clear hcz17_2
     try clear hcz19_0
     try clear hcz19_1
     try clear hcz19_2
     try clear hcz21_0
     try clear hcz21_1
     try clear hcz21_2
     try clear hfz11_0
     try clear hfz11_1
     try clear hfz11_2
     try clear hfz13_0
     try clear hfz13_1
     try clear hfz13_2
     try clear hfz14_0
     try clear hfz14_1
     try clear hfz14_2
     try clear hfz16_0
     try clear hfz16_1
     try clear hfz16_2
     try clear hfz17_0
     try clear hfz17_1
     try clear hfz17_2
     try clear hfz19_0
     try clear hfz19_1
     try clear hfz19_2
     try clear hfz21_0
     try clear hfz21_1
     try clear hfz21_2
     try clear p2
     obtain⟨x35_2,rfl,HA,HK2,BK258,HB⟩:=hrel
     cases gk with
     | zero=>exact absurd HA.out (by simp [xml_may.l0])
     | succ k2=>
      have H:=HA.out
      clear HA
      simp only [xml_may.l0] at H
      replace H:=itO H
      rcases H with⟨c22,H⟩|⟨c22,H⟩
      ·skip
       have c22b0:decide (x35_2<(l0_2.length:Int))=true:=decide_eq_true c22
       clear c22
       replace H:=itO H
       rcases H with⟨c23,H⟩|⟨c23,H⟩
       ·skip
        have c23b0:decide (0≤x35_2)=true:=decide_eq_true c23
        clear c23
        replace H:=itO H
        rcases H with⟨c24,H⟩|⟨c24,H⟩
        ·skip
         have c24b0:decide (x35_2<(l0_2.length:Int))=true:=decide_eq_true c24
         clear c24
         replace H:=bndO H
         obtain⟨t263,A250,H⟩:=H
         have A25:=Aside0.mk A250
         clear A250
         by_cases c26:t263=true
         ·subst c26
          replace H:=itT H
          have H':=Aside0.mk H
          clear H
          have p261:0≤(x35_2:Int):=of_decide_eq_true (by first|(with_reducible assumption)|assumption)
          have q261:x35_2<(l0_2.length:Int):=of_decide_eq_true (by first|(with_reducible assumption)|assumption)
          obtain⟨ad261,A261_2,c261_2,e261,hx261_0,hx261_1,hx261_2,hl261_2,hi261_2⟩:=at_T42 HR0_2.out x35_2 p261 q261
          cases e261
          replace hx261_0:=(HB.out.cell (World.block_lt_of_cell? w _ hx261_0)).trans hx261_0
          replace hx261_1:=(HB.out.cell (World.block_lt_of_cell? w _ hx261_1)).trans hx261_1
          replace hx261_2:=(HB.out.cell (World.block_lt_of_cell? w _ hx261_2)).trans hx261_2
          have HR261_2:=Aside0.mk hi261_2
          have HC261_2:=Aside0.mk hl261_2
          clear hi261_2 hl261_2
          replace p261:=eq_true p261
          replace q261:=eq_true q261
          go_wp2_with (first|((with_reducible refine gate_dst (N:=6) rfl ?_);(try (refine gate_guard (by rfl) ?_;dsimp only));refine box_event ?hg (N:=6) ?hd (cs:=#[.string (⟨#[]⟩ : ByteArray),.string (⟨#[]⟩ : ByteArray),.slice none 0 0]) (t:=42) ?hr ?_;(case hd=>rfl);(case hg=>rfl);(case hr=>first|(go_simp;done)|(go_simp;rfl));intro gb262 hg w27 hbox hb;have n0_:=Aside0.mk (blk_below (g:=gb258) (o:=.cells #[.string a0_0,.string a0_1,.slice (some ad261) l0_2.length c0_2] 42 (0,0)) (by(with_reducible repeat (first|refine blk_drewN ?_ _|refine blk_drew ?_|refine blk_alloc ?_ _));exact BK258.out) hb);have n1_:=Aside0.mk (below_step (by repeat (first|(with_reducible first|exact HB.out|apply below_alloc|apply pw_below_drewN|apply below_drew1|refine below_set ?_ GE258.out)|exact HB.out)) hb);have n2_:=Aside0.mk (hbox);have n3_:=Aside0.mk ((by rw [hg];exact(below_size (by repeat (first|(with_reducible first|exact HB.out|apply below_alloc|apply pw_below_drewN|apply below_drew1|refine below_set ?_ GE258.out)|exact HB.out))):w.heap.size≤gb262));have n4_:=Aside0.mk ((by rw [hg];exact(below_size (by repeat (first|(with_reducible first|exact HB.out|apply below_alloc|apply pw_below_drewN|apply below_drew1|refine below_set ?_ GE258.out)|exact HB.out))):w.heap.size≤gb262));have n5_:=Aside0.mk ((by rw [hg];exact Nat.ne_of_lt (blk_lt (g:=gb258) (o:=.cells #[.string a0_0,.string a0_1,.slice (some ad261) l0_2.length c0_2] 42 (0,0)) (by(with_reducible repeat (first|refine blk_drewN ?_ _|refine blk_drew ?_|refine blk_alloc ?_ _));exact BK258.out)):gb258≠gb262));have n6_:=Aside0.mk ((by rw [hg];exact Nat.ne_of_gt (blk_lt (g:=gb258) (o:=.cells #[.string a0_0,.string a0_1,.slice (some ad261) l0_2.length c0_2] 42 (0,0)) (by(with_reducible repeat (first|refine blk_drewN ?_ _|refine blk_drew ?_|refine blk_alloc ?_ _));exact BK258.out)):gb262≠gb258));clear BK258;clear HB;have BK258:=n0_;have HB:=n1_;have BK262:=n2_;have GW262:=n3_;have GE262:=n4_;have NB258_262:=n5_;have NB262_258:=n6_;clear n0_ n1_ n2_ n3_ n4_ n5_ n6_;clear hb hbox hg;have hnb28:=NB262_258.out;have hnc28:=NB258_262.out;have hcz29_0:w27.cell? ⟨gb262,0,none⟩=some (.string (⟨#[]⟩ : ByteArray)):=(blk_cell BK262.out 0).trans rfl;have hcz29_1:w27.cell? ⟨gb262,1,none⟩=some (.string (⟨#[]⟩ : ByteArray)):=(blk_cell BK262.out 1).trans rfl;have hcz29_2:w27.cell? ⟨gb262,2,none⟩=some (.slice none 0 0):=(blk_cell BK262.out 2).trans rfl;have hfz29_0:=blk_frozen BK262.out 0;have hfz29_1:=blk_frozen BK262.out 1;have hfz29_2:=blk_frozen BK262.out 2)|((with_reducible refine gate_callee (f:=58) rfl ?_);refine goesL_ (some 42) rfl rfl Tryd.func58 (by kernel_rfl) rfl #[.agg #[.string ((rd_T42 l0_2 x35_2).f0),.string ((rd_T42 l0_2 x35_2).f1),.slice A261_2 ((rd_T42 l0_2 x35_2).f2).length c261_2],.int .i64 (wrap64 (a1+1))] rfl (by(try simp only [List.map_toArray,List.map_cons,List.map_nil]);first|done|rfl|(simp only [List.length_drop,List.length_take];rfl)) ?_;(with_reducible refine(ih k2 (by have:=HJ2.out;have:=HK2.out;omega) ((rd_T42 l0_2 x35_2).f0) ((rd_T42 l0_2 x35_2).f1) _ _ ((rd_T42 l0_2 x35_2).f2) (wrap64 (a1+1)) true _ ?side1 ?side2 A25.out).mono ?_);(case side1=>exact Kd.C_below HR261_2.out (by repeat (first|(with_reducible first|exact HB.out|apply below_alloc|apply pw_below_drewN|apply below_drew1|refine below_set ?_ GE258.out|refine below_set ?_ GE262.out)|exact HB.out)));(case side2=>exact HC261_2.out);rintro e w30 ⟨rfl,hb⟩;refine⟨_,rfl,?_⟩;have n0_:=Aside0.mk (blk_below (g:=gb258) (o:=.cells #[.string a0_0,.string a0_1,.slice (some ad261) l0_2.length c0_2] 42 (0,0)) (by(with_reducible repeat (first|refine blk_drewN ?_ _|refine blk_drew ?_|refine blk_alloc ?_ _));refine blk_far ?_ NB258_262.out _;(with_reducible repeat (first|refine blk_drewN ?_ _|refine blk_drew ?_|refine blk_alloc ?_ _));refine blk_far ?_ NB258_262.out _;(with_reducible repeat (first|refine blk_drewN ?_ _|refine blk_drew ?_|refine blk_alloc ?_ _));refine blk_far ?_ NB258_262.out _;(with_reducible repeat (first|refine blk_drewN ?_ _|refine blk_drew ?_|refine blk_alloc ?_ _));exact BK258.out) hb);have n1_:=Aside0.mk (blk_below (g:=gb262) (o:=.cells #[.string ((rd_T42 l0_2 x35_2).f0),.string ((rd_T42 l0_2 x35_2).f1),.slice A261_2 ((rd_T42 l0_2 x35_2).f2).length c261_2] 42 (0,0)) (by(with_reducible repeat (first|refine blk_drewN ?_ _|refine blk_drew ?_|refine blk_alloc ?_ _));refine blk_put (cs:=#[.string ((rd_T42 l0_2 x35_2).f0),.string ((rd_T42 l0_2 x35_2).f1),.slice none 0 0]) ?_ 2 _ rfl;(with_reducible repeat (first|refine blk_drewN ?_ _|refine blk_drew ?_|refine blk_alloc ?_ _));refine blk_put (cs:=#[.string ((rd_T42 l0_2 x35_2).f0),.string (⟨#[]⟩ : ByteArray),.slice none 0 0]) ?_ 1 _ rfl;(with_reducible repeat (first|refine blk_drewN ?_ _|refine blk_drew ?_|refine blk_alloc ?_ _));refine blk_put (cs:=#[.string (⟨#[]⟩ : ByteArray),.string (⟨#[]⟩ : ByteArray),.slice none 0 0]) ?_ 0 _ rfl;(with_reducible repeat (first|refine blk_drewN ?_ _|refine blk_drew ?_|refine blk_alloc ?_ _));exact BK262.out) hb);have n2_:=Aside0.mk (below_step (by repeat (first|(with_reducible first|exact HB.out|apply below_alloc|apply pw_below_drewN|apply below_drew1|refine below_set ?_ GE258.out|refine below_set ?_ GE262.out)|exact HB.out)) hb);clear BK258;clear BK262;clear HB;have BK258:=n0_;have BK262:=n1_;have HB:=n2_;clear n0_ n1_ n2_;(try clear hb);(try clear hb2);(try clear hk);(try clear hi)))
          go_roundg k2
          case measure=>have:=HJ2.out;have:=HK2.out;omega
          case rel=>exact⟨(wrap64 (x35_2+1)),(by first|rfl|(simp;done)|(simp [*];done)),H',⟨by have:=HJ2.out;have:=HK2.out;omega⟩,⟨by(with_reducible repeat (first|refine blk_drewN ?_ _|refine blk_drew ?_|refine blk_alloc ?_ _));exact BK258.out⟩,⟨by repeat (first|(with_reducible first|exact HB.out|apply below_alloc|apply pw_below_drewN|apply below_drew1|refine below_set ?_ GE258.out|refine below_set ?_ GE262.out)|exact HB.out)⟩⟩
         ·replace c26:=Bool.eq_false_iff.mpr c26
          subst c26
          replace H:=itF H
          obtain rfl:=Option.some.inj H
          have p261:0≤(x35_2:Int):=of_decide_eq_true (by first|(with_reducible assumption)|assumption)
          have q261:x35_2<(l0_2.length:Int):=of_decide_eq_true (by first|(with_reducible assumption)|assumption)
          obtain⟨ad261,A261_2,c261_2,e261,hx261_0,hx261_1,hx261_2,hl261_2,hi261_2⟩:=at_T42 HR0_2.out x35_2 p261 q261
          cases e261
          replace hx261_0:=(HB.out.cell (World.block_lt_of_cell? w _ hx261_0)).trans hx261_0
          replace hx261_1:=(HB.out.cell (World.block_lt_of_cell? w _ hx261_1)).trans hx261_1
          replace hx261_2:=(HB.out.cell (World.block_lt_of_cell? w _ hx261_2)).trans hx261_2
          have HR261_2:=Aside0.mk hi261_2
          have HC261_2:=Aside0.mk hl261_2
          clear hi261_2 hl261_2
          replace p261:=eq_true p261
          replace q261:=eq_true q261
          go_wp2_with (first|((with_reducible refine gate_dst (N:=6) rfl ?_);(try (refine gate_guard (by rfl) ?_;dsimp only));refine box_event ?hg (N:=6) ?hd (cs:=#[.string (⟨#[]⟩ : ByteArray),.string (⟨#[]⟩ : ByteArray),.slice none 0 0]) (t:=42) ?hr ?_;(case hd=>rfl);(case hg=>rfl);(case hr=>first|(go_simp;done)|(go_simp;rfl));intro gb262 hg w31 hbox hb;have n0_:=Aside0.mk (blk_below (g:=gb258) (o:=.cells #[.string a0_0,.string a0_1,.slice (some ad261) l0_2.length c0_2] 42 (0,0)) (by(with_reducible repeat (first|refine blk_drewN ?_ _|refine blk_drew ?_|refine blk_alloc ?_ _));exact BK258.out) hb);have n1_:=Aside0.mk (below_step (by repeat (first|(with_reducible first|exact HB.out|apply below_alloc|apply pw_below_drewN|apply below_drew1|refine below_set ?_ GE258.out)|exact HB.out)) hb);have n2_:=Aside0.mk (hbox);have n3_:=Aside0.mk ((by rw [hg];exact(below_size (by repeat (first|(with_reducible first|exact HB.out|apply below_alloc|apply pw_below_drewN|apply below_drew1|refine below_set ?_ GE258.out)|exact HB.out))):w.heap.size≤gb262));have n4_:=Aside0.mk ((by rw [hg];exact(below_size (by repeat (first|(with_reducible first|exact HB.out|apply below_alloc|apply pw_below_drewN|apply below_drew1|refine below_set ?_ GE258.out)|exact HB.out))):w.heap.size≤gb262));have n5_:=Aside0.mk ((by rw [hg];exact Nat.ne_of_lt (blk_lt (g:=gb258) (o:=.cells #[.string a0_0,.string a0_1,.slice (some ad261) l0_2.length c0_2] 42 (0,0)) (by(with_reducible repeat (first|refine blk_drewN ?_ _|refine blk_drew ?_|refine blk_alloc ?_ _));exact BK258.out)):gb258≠gb262));have n6_:=Aside0.mk ((by rw [hg];exact Nat.ne_of_gt (blk_lt (g:=gb258) (o:=.cells #[.string a0_0,.string a0_1,.slice (some ad261) l0_2.length c0_2] 42 (0,0)) (by(with_reducible repeat (first|refine blk_drewN ?_ _|refine blk_drew ?_|refine blk_alloc ?_ _));exact BK258.out)):gb262≠gb258));clear BK258;clear HB;have BK258:=n0_;have HB:=n1_;have BK262:=n2_;have GW262:=n3_;have GE262:=n4_;have NB258_262:=n5_;have NB262_258:=n6_;clear n0_ n1_ n2_ n3_ n4_ n5_ n6_;clear hb hbox hg;have hnb32:=NB262_258.out;have hnc32:=NB258_262.out;have hcz33_0:w31.cell? ⟨gb262,0,none⟩=some (.string (⟨#[]⟩ : ByteArray)):=(blk_cell BK262.out 0).trans rfl;have hcz33_1:w31.cell? ⟨gb262,1,none⟩=some (.string (⟨#[]⟩ : ByteArray)):=(blk_cell BK262.out 1).trans rfl;have hcz33_2:w31.cell? ⟨gb262,2,none⟩=some (.slice none 0 0):=(blk_cell BK262.out 2).trans rfl;have hfz33_0:=blk_frozen BK262.out 0;have hfz33_1:=blk_frozen BK262.out 1;have hfz33_2:=blk_frozen BK262.out 2)|((with_reducible refine gate_callee (f:=58) rfl ?_);refine goesL_ (some 42) rfl rfl Tryd.func58 (by kernel_rfl) rfl #[.agg #[.string ((rd_T42 l0_2 x35_2).f0),.string ((rd_T42 l0_2 x35_2).f1),.slice A261_2 ((rd_T42 l0_2 x35_2).f2).length c261_2],.int .i64 (wrap64 (a1+1))] rfl (by(try simp only [List.map_toArray,List.map_cons,List.map_nil]);first|done|rfl|(simp only [List.length_drop,List.length_take];rfl)) ?_;(with_reducible refine(ih k2 (by have:=HJ2.out;have:=HK2.out;omega) ((rd_T42 l0_2 x35_2).f0) ((rd_T42 l0_2 x35_2).f1) _ _ ((rd_T42 l0_2 x35_2).f2) (wrap64 (a1+1)) false _ ?side1 ?side2 A25.out).mono ?_);(case side1=>exact Kd.C_below HR261_2.out (by repeat (first|(with_reducible first|exact HB.out|apply below_alloc|apply pw_below_drewN|apply below_drew1|refine below_set ?_ GE258.out|refine below_set ?_ GE262.out)|exact HB.out)));(case side2=>exact HC261_2.out);rintro e w34 ⟨rfl,hb⟩;refine⟨_,rfl,?_⟩;have n0_:=Aside0.mk (blk_below (g:=gb258) (o:=.cells #[.string a0_0,.string a0_1,.slice (some ad261) l0_2.length c0_2] 42 (0,0)) (by(with_reducible repeat (first|refine blk_drewN ?_ _|refine blk_drew ?_|refine blk_alloc ?_ _));refine blk_far ?_ NB258_262.out _;(with_reducible repeat (first|refine blk_drewN ?_ _|refine blk_drew ?_|refine blk_alloc ?_ _));refine blk_far ?_ NB258_262.out _;(with_reducible repeat (first|refine blk_drewN ?_ _|refine blk_drew ?_|refine blk_alloc ?_ _));refine blk_far ?_ NB258_262.out _;(with_reducible repeat (first|refine blk_drewN ?_ _|refine blk_drew ?_|refine blk_alloc ?_ _));exact BK258.out) hb);have n1_:=Aside0.mk (blk_below (g:=gb262) (o:=.cells #[.string ((rd_T42 l0_2 x35_2).f0),.string ((rd_T42 l0_2 x35_2).f1),.slice A261_2 ((rd_T42 l0_2 x35_2).f2).length c261_2] 42 (0,0)) (by(with_reducible repeat (first|refine blk_drewN ?_ _|refine blk_drew ?_|refine blk_alloc ?_ _));refine blk_put (cs:=#[.string ((rd_T42 l0_2 x35_2).f0),.string ((rd_T42 l0_2 x35_2).f1),.slice none 0 0]) ?_ 2 _ rfl;(with_reducible repeat (first|refine blk_drewN ?_ _|refine blk_drew ?_|refine blk_alloc ?_ _));refine blk_put (cs:=#[.string ((rd_T42 l0_2 x35_2).f0),.string (⟨#[]⟩ : ByteArray),.slice none 0 0]) ?_ 1 _ rfl;(with_reducible repeat (first|refine blk_drewN ?_ _|refine blk_drew ?_|refine blk_alloc ?_ _));refine blk_put (cs:=#[.string (⟨#[]⟩ : ByteArray),.string (⟨#[]⟩ : ByteArray),.slice none 0 0]) ?_ 0 _ rfl;(with_reducible repeat (first|refine blk_drewN ?_ _|refine blk_drew ?_|refine blk_alloc ?_ _));exact BK262.out) hb);have n2_:=Aside0.mk (below_step (by repeat (first|(with_reducible first|exact HB.out|apply below_alloc|apply pw_below_drewN|apply below_drew1|refine below_set ?_ GE258.out|refine below_set ?_ GE262.out)|exact HB.out)) hb);clear BK258;clear BK262;clear HB;have BK258:=n0_;have BK262:=n1_;have HB:=n2_;clear n0_ n1_ n2_;(try clear hb);(try clear hb2);(try clear hk);(try clear hi)))
          go_ret
          exact⟨by first|rfl|(simp [errW_none,errW_some] <;> rfl)|(simp [*,errW_none,errW_some] <;> rfl),by repeat (first|(with_reducible first|exact HB.out|apply below_alloc|apply pw_below_drewN|apply below_drew1|refine below_set ?_ GE258.out|refine below_set ?_ GE262.out)|exact HB.out)⟩
        ·exact absurd H (by simp)
       ·exact absurd H (by simp)
      ·skip
       have c22b0:decide (x35_2<(l0_2.length:Int))=false:=decide_eq_false c22
       clear c22
       obtain rfl:=Option.some.inj H
       go_wp2
       go_ret
       exact⟨by first|rfl|(simp [errW_none,errW_some] <;> rfl)|(simp [*,errW_none,errW_some] <;> rfl),by repeat (first|(with_reducible first|exact HB.out|apply below_alloc|apply pw_below_drewN|apply below_drew1|refine below_set ?_ GE258.out)|exact HB.out)⟩
def xml_Escape.e (c:UInt8):List UInt8:=if c=38 then [38,97,109,112,59] else if c=60 then [38,108,116,59] else if c=62 then [38,103,116,59] else if c=34 then [38,113,117,111,116,59] else if c=13 then [38,35,49,51,59] else [c]
def xml_Escape.s (a0:ByteArray):ByteArray:=⟨(a0.data.toList.flatMap xml_Escape.e).toArray⟩
def xml_Escape.f (a0:ByteArray):Option ByteArray:=if a0.size≤23456248059220 then some (xml_Escape.s a0) else none
theorem xml_Escape.e_len (c:UInt8):(xml_Escape.e c).length≤6:=by
 unfold xml_Escape.e
 (repeat' split) <;> simp
theorem xml_Escape.flat_len (l:List UInt8):(l.flatMap xml_Escape.e).length≤6*l.length:=by
 induction l with
 | nil=>simp
 | cons a l ih=>
  rw [List.flatMap_cons,List.length_append,List.length_cons]
  have:=xml_Escape.e_len a
  omega
theorem xml_Escape.snoc (a0:ByteArray) (k:Nat) (h:k<a0.size) (c:Int) (hc:bt a0 k=c) :
  (a0.data.toList.take (k+1)).flatMap xml_Escape.e=(a0.data.toList.take k).flatMap xml_Escape.e++xml_Escape.e c.toNat.toUInt8:=by
 have hl:k<a0.data.toList.length:=by rw [data_length];exact h
 have hb:((a0.data.toList[k]'hl).toNat:Int)=c:=by
  rw [← hc]
  have:=bt_at a0 (k:Int) (by simpa using h)
  rw [← this]
  simp only [Int.toNat_natCast,Array.getElem_toList]
  rfl
 rw [List.take_succ_eq_append_getElem hl,List.flatMap_append,List.flatMap_cons,List.flatMap_nil,List.append_nil]
 congr 2
 subst hb
 simp
theorem xml_Escape.one (c:Int) (h0:0≤c) (h1:c≤255):Lib.byteCells [c.toNat.toUInt8] = [.int .u8 c]:=by
 have:(c.toNat.toUInt8.toNat:Int)=c:=by
  rw [Nat.toUInt8,UInt8.toNat_ofNat']
  omega
 rw [Lib.byteCells,List.map_cons,List.map_nil,this]
theorem xml_Escape.plain (c:Int) (h0:0≤c) (h1:c≤255) (a:c≠38) (b:c≠60) (d:c≠62) (e:c≠34) (f:c≠13):xml_Escape.e c.toNat.toUInt8 = [c.toNat.toUInt8]:=by
 have key:∀ v:UInt8,(v.toNat:Int)≠c→c.toNat.toUInt8≠v:=by
  intro v hv he
  apply hv
  rw [← he,Nat.toUInt8,UInt8.toNat_ofNat']
  omega
 unfold xml_Escape.e
 rw [if_neg (key 38 (by simpa using fun h=>a h.symm)),if_neg (key 60 (by simpa using fun h=>b h.symm)),if_neg (key 62 (by simpa using fun h=>d h.symm)),if_neg (key 34 (by simpa using fun h=>e h.symm)),if_neg (key 13 (by simpa using fun h=>f h.symm))]
theorem xml_Escape.arm (c:Int):c=38∨c=60∨c=62∨c=34∨c=13∨(c≠38∧c≠60∧c≠62∧c≠34∧c≠13):=by omega
theorem xml_Escape.calls (a0:ByteArray) (r:ByteArray) (w:World) (h:xml_Escape.f a0=some r) :
  Calls Tryd.prog 87 #[.string a0] w fun e w'=>e = .returned (.string r)∧Below w.heap.size w w':=by
 unfold xml_Escape.f at h
 have hs:a0.size≤23456248059220:=by
  by_cases c:a0.size≤23456248059220
  ·exact c
  ·simp [c] at h
 rw [if_pos hs] at h
 obtain rfl:=Option.some.inj h
 go_enter Tryd.func87,Tryd.ntmps87
 go_wp2
 go_loopw [7] (fun i wr=>∃ (k:Nat),k≤a0.size∧i = .int .i64 k∧Hid (Lib.IsBuilderF 65 5 w.heap.size w.heap.size (Lib.byteCells ((a0.data.toList.take k).flatMap xml_Escape.e)) wr∧Below w.heap.size w wr)) (fun i _=>a0.size-(intOf i).toNat)
 case atStart=>exact⟨0,Nat.zero_le _,rfl,Lib.hid ⟨Bld.fresh w,(Below.refl _ w).alloc (Nat.le_refl _) _⟩⟩
 case round=>
  obtain⟨k,hk,rfl,hI⟩:=hrel
  by_cases hlt:k<a0.size
  ·obtain⟨c,hc⟩ : ∃ c,bt a0 k=c:=⟨_,rfl⟩
   have hc0:0≤c:=by rw [← hc];exact(bt_range a0 k).1
   have hc1:c≤255:=by rw [← hc];exact(bt_range a0 k).2
   have hx:=bt_at a0 (k:Int)
   rw [hc,Int.toNat_natCast] at hx
   have hsn:=Lib.hid (xml_Escape.snoc a0 k hlt c hc)
   have hlen:(Lib.byteCells ((a0.data.toList.take k).flatMap xml_Escape.e)).length+6≤140737488355328:=by
    rw [Lib.byteCells_length]
    have h1:=xml_Escape.flat_len (a0.data.toList.take k)
    have h2:(a0.data.toList.take k).length≤k:=List.length_take_le _ _
    omega
   have hlen':=Lib.hid hlen
   have hsz':=Lib.hid (show w.heap.size≤wr.heap.size from hI.out.2.size)
   clear hlen hc
   rcases xml_Escape.arm c with rfl|rfl|rfl|rfl|rfl|⟨n1,n2,n3,n4,n5⟩
   ·go_wp2_with fail
    refine(Bld.WriteString w.heap.size w.heap.size _ ⟨#[38,97,109,112,59]⟩ _ hI.out.1 (Nat.le_trans (Nat.add_le_add_left (show(5:Nat)≤6 by decide) _) hlen'.out) hsz'.out).mono ?_
    rintro e w9 ⟨rfl,h9,b9,_⟩
    have h9':=Lib.hid h9
    have b9':=Lib.hid (hI.out.2.trans b9)
    clear h9 b9
    go_wp2
    go_roundw
    case rel=>exact⟨k+1,by omega,by go_num,Lib.hid ⟨by rw [hsn.out,Lib.byteCells_append];exact h9'.out,b9'.out⟩⟩
    case measure=>simp [intOf];omega
   ·go_wp2_with fail
    refine(Bld.WriteString w.heap.size w.heap.size _ ⟨#[38,108,116,59]⟩ _ hI.out.1 (Nat.le_trans (Nat.add_le_add_left (show(4:Nat)≤6 by decide) _) hlen'.out) hsz'.out).mono ?_
    rintro e w9 ⟨rfl,h9,b9,_⟩
    have h9':=Lib.hid h9
    have b9':=Lib.hid (hI.out.2.trans b9)
    clear h9 b9
    go_wp2
    go_roundw
    case rel=>exact⟨k+1,by omega,by go_num,Lib.hid ⟨by rw [hsn.out,Lib.byteCells_append];exact h9'.out,b9'.out⟩⟩
    case measure=>simp [intOf];omega
   ·go_wp2_with fail
    refine(Bld.WriteString w.heap.size w.heap.size _ ⟨#[38,103,116,59]⟩ _ hI.out.1 (Nat.le_trans (Nat.add_le_add_left (show(4:Nat)≤6 by decide) _) hlen'.out) hsz'.out).mono ?_
    rintro e w9 ⟨rfl,h9,b9,_⟩
    have h9':=Lib.hid h9
    have b9':=Lib.hid (hI.out.2.trans b9)
    clear h9 b9
    go_wp2
    go_roundw
    case rel=>exact⟨k+1,by omega,by go_num,Lib.hid ⟨by rw [hsn.out,Lib.byteCells_append];exact h9'.out,b9'.out⟩⟩
    case measure=>simp [intOf];omega
   ·go_wp2_with fail
    refine(Bld.WriteString w.heap.size w.heap.size _ ⟨#[38,113,117,111,116,59]⟩ _ hI.out.1 (Nat.le_trans (Nat.add_le_add_left (show(6:Nat)≤6 by decide) _) hlen'.out) hsz'.out).mono ?_
    rintro e w9 ⟨rfl,h9,b9,_⟩
    have h9':=Lib.hid h9
    have b9':=Lib.hid (hI.out.2.trans b9)
    clear h9 b9
    go_wp2
    go_roundw
    case rel=>exact⟨k+1,by omega,by go_num,Lib.hid ⟨by rw [hsn.out,Lib.byteCells_append];exact h9'.out,b9'.out⟩⟩
    case measure=>simp [intOf];omega
   ·go_wp2_with fail
    refine(Bld.WriteString w.heap.size w.heap.size _ ⟨#[38,35,49,51,59]⟩ _ hI.out.1 (Nat.le_trans (Nat.add_le_add_left (show(5:Nat)≤6 by decide) _) hlen'.out) hsz'.out).mono ?_
    rintro e w9 ⟨rfl,h9,b9,_⟩
    have h9':=Lib.hid h9
    have b9':=Lib.hid (hI.out.2.trans b9)
    clear h9 b9
    go_wp2
    go_roundw
    case rel=>exact⟨k+1,by omega,by go_num,Lib.hid ⟨by rw [hsn.out,Lib.byteCells_append];exact h9'.out,b9'.out⟩⟩
    case measure=>simp [intOf];omega
   ·have hpl:=Lib.hid (xml_Escape.plain c hc0 hc1 n1 n2 n3 n4 n5)
    have m1:(c == 38)=false:=beq_eq_false_iff_ne.mpr n1
    have m2:(c == 60)=false:=beq_eq_false_iff_ne.mpr n2
    have m3:(c == 62)=false:=beq_eq_false_iff_ne.mpr n3
    have m4:(c == 34)=false:=beq_eq_false_iff_ne.mpr n4
    have m5:(c == 13)=false:=beq_eq_false_iff_ne.mpr n5
    clear n1 n2 n3 n4 n5
    go_wp2_with fail
    refine(Bld.WriteByte w.heap.size w.heap.size _ c _ hI.out.1 (Nat.le_trans (Nat.add_le_add_left (show(1:Nat)≤6 by decide) _) hlen'.out) hsz'.out).mono ?_
    rintro e w9 ⟨rfl,h9,b9,_⟩
    have h9':=Lib.hid h9
    have b9':=Lib.hid (hI.out.2.trans b9)
    clear h9 b9
    go_wp2
    go_roundw
    case rel=>exact⟨k+1,by omega,by go_num,Lib.hid ⟨by rw [hsn.out,hpl.out,Lib.byteCells_append,xml_Escape.one c hc0 hc1];exact h9'.out,b9'.out⟩⟩
    case measure=>simp [intOf];omega
  ·go_wp2_with fail
   refine(Bld.String_ w.heap.size w.heap.size _ _ hI.out.1 hI.out.2.size).mono ?_
   rintro e w9 ⟨rfl,b9⟩
   have b9':=Lib.hid b9
   clear b9
   go_wp2
   go_ret
   have hk':k=a0.size:=by omega
   have he:a0.data.toList.take k=a0.data.toList:=List.take_of_length_le (by rw [data_length];omega)
   refine⟨by rw [he];rfl,hI.out.2.trans b9'.out⟩
end Go.Proofs.YtfjidcmegacibaaDoor.Q
