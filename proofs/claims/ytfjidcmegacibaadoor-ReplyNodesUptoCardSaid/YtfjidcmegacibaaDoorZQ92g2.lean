/- A part of the proof of the seat's laws. No condition beyond those in the theorems. -/
import Derived.Test.YtfjidcmegacibaaDoorZQ0g11
import Derived.Test.YtfjidcmegacibaaDoorZQ64g12
import Derived.Test.YtfjidcmegacibaaDoorZQ79g5
import Derived.Test.YtfjidcmegacibaaDoorZQ84g8
open Bool renaming true→T,false→F

namespace Go.Proofs.YtfjidcmegacibaaDoor.Q
open Go.RowKit Go.Proofs.YtfjidcmegacibaaDoorW.PrintWords Go.Proofs.YtfjidcmegacibaaDoorW.PrintLast Go.Proofs.YtfjidcmegacibaaDoorW.PrintMore
set_option linter.unusedVariables false
set_option linter.unusedSimpArgs false
set_option maxHeartbeats 8000000
set_option maxRecDepth 100000
attribute [local go_sem] max2_int min2_int max_two min_two max_three min_three max_four min_four   
mutual
def stowagelaw13_To.l0:Nat→Int→ByteArray→ByteArray→List (S42)→ByteArray→ByteArray→List (S48)→Option (ByteArray×ByteArray×(List (S48)))
 | 0,_,_,_,_,_,_,_=>none
 | k+1,x4,x304000,x304001,x304002,x306000,x306001,x306002=>if x4<(x304002.length:Int) then(if 0≤x4 then((stowagelaw13_To.f k ((rd_T42 x304002 x4).f0) ((rd_T42 x304002 x4).f1) ((rd_T42 x304002 x4).f2)).bind fun bt307=>(if x306002.length<2513169434916 then(stowagelaw13_To.l0 k (wrap64 (x4+1)) x304000 x304001 x304002 x306000 x306001 (x306002 ++ [(⟨bt307.1,bt307.2.1,bt307.2.2⟩ : S48)])) else(none))) else(none)) else(some (x306000,x306001,x306002))
def stowagelaw13_To.f:Nat→ByteArray→ByteArray→List (S42)→Option (ByteArray×ByteArray×(List (S48)))
 | 0,_,_,_=>none
 | k+1,a0_0,a0_1,l0_2=>stowagelaw13_To.l0 k 0 a0_0 a0_1 l0_2 a0_0 a0_1 ([]:List (S48))
end
theorem stowagelaw13_To.mono_l:∀ k,(∀ y0 y1 y2,LeO (stowagelaw13_To.f k y0 y1 y2) (stowagelaw13_To.f (k+1) y0 y1 y2))∧(∀ y0 y1 y2 y3 y4 y5 y6,LeO (stowagelaw13_To.l0 k y0 y1 y2 y3 y4 y5 y6) (stowagelaw13_To.l0 (k+1) y0 y1 y2 y3 y4 y5 y6))
 | 0=>⟨fun _ _ _ r h=>by simp [stowagelaw13_To.f] at h,fun _ _ _ _ _ _ _ r h=>by simp [stowagelaw13_To.l0] at h⟩
 | k+1=>by
  obtain⟨ih0,ih1⟩:=stowagelaw13_To.mono_l k
  refine⟨?_,?_⟩
  ·intro y0 y1 y2
   unfold stowagelaw13_To.f
   repeat' first
   | (with_reducible exact ih0 _ _ _)
   | (with_reducible exact ih1 _ _ _ _ _ _ _)
   | (with_reducible exact LeO.refl _)
   | (with_reducible exact LeO.none _)
   | (with_reducible refine LeO.ite ?_ ?_)
   | (with_reducible refine LeO.bind ?_ (fun _=>?_))
   | exact ih0 _ _ _
   | exact ih1 _ _ _ _ _ _ _
   | exact LeO.none _
   | refine LeO.ite ?_ ?_
   | refine LeO.bind ?_ (fun _=>?_)
  ·intro y0 y1 y2 y3 y4 y5 y6
   unfold stowagelaw13_To.l0
   repeat' first
   | (with_reducible exact ih0 _ _ _)
   | (with_reducible exact ih1 _ _ _ _ _ _ _)
   | (with_reducible exact LeO.refl _)
   | (with_reducible exact LeO.none _)
   | (with_reducible refine LeO.ite ?_ ?_)
   | (with_reducible refine LeO.bind ?_ (fun _=>?_))
   | exact ih0 _ _ _
   | exact ih1 _ _ _ _ _ _ _
   | exact LeO.none _
   | refine LeO.ite ?_ ?_
   | refine LeO.bind ?_ (fun _=>?_)
theorem stowagelaw13_To.mono:∀ a0 a1 a2 k,LeO (stowagelaw13_To.f k a0 a1 a2) (stowagelaw13_To.f (k+1) a0 a1 a2):=by
 intro a0 a1 a2 k
 obtain⟨ih0,ih1⟩:=stowagelaw13_To.mono_l k
 exact ih0 a0 a1 a2
def stowagelaw13_To.T5:Bool×List (List Nat×List Nat):=(true,[([],[]),([0],[0]),([],[]),([2],[2]),([],[]),([3,4],[3,4]),([5],[5]),([6],[6]),([7],[7]),([1,8,7],[1,8]),([0,1,2,3,4,5,6,7,8,9],[]),([10,9,9,0,1,2,3,4,5,6,7,8,9],[9,10])])
def stowagelaw13_To.B5:List Nat:=[0,1,0,4,0,28,60,124,252,511,1023,2047]
theorem stowagelaw13_To.tab5:rtab .any (opsOf Tryd.f20 5)=stowagelaw13_To.T5:=by kernel_rfl
theorem stowagelaw13_To.bits5:waitsOk stowagelaw13_To.T5.2 stowagelaw13_To.B5=true:=by kernel_rfl
theorem stowagelaw13_To.calls (k:Nat):∀ (a0_0:ByteArray) (a0_1:ByteArray) (A0_2:Option Addr) (c0_2:Nat) (l0_2:List (S42)) (r1:ByteArray) (r2:ByteArray) (r3:List (S48)) (w:World) (hr0_2:Kd.C k42 w A0_2 l0_2.length l0_2) (hc0_2:l0_2.length≤c0_2) (h:stowagelaw13_To.f k a0_0 a0_1 l0_2=some (r1,r2,r3)),
  Calls Tryd.prog 20 #[.agg #[.string a0_0,.string a0_1,.slice A0_2 l0_2.length c0_2]] w fun e w'=>∃ v2_:Value,e = .returned (.agg #[.string r1,.string r2,v2_])∧Kd.R k48 48 w' w.heap.size (fun _=>True) v2_ r3∧Below w.heap.size w w':=by
 induction k using Nat.strongRecOn with
 | _ k ih=>
 intro a0_0 a0_1 A0_2 c0_2 l0_2 r1 r2 r3 w hr0_2 hc0_2 h
 cases k with
 | zero=>exact absurd h (by simp [stowagelaw13_To.f])
 | succ k=>
 simp only [stowagelaw13_To.f] at h
 have hu42:=Tryd.underlying42
 have hu48:=Tryd.underlying48
 have HR0_2:=Aside0.mk hr0_2
 have HC0_2:=Aside0.mk hc0_2
 clear hr0_2 hc0_2
 have HB:=Aside0.mk (Below.refl w.heap.size w)
 have H:(stowagelaw13_To.l0 k 0 a0_0 a0_1 l0_2 a0_0 a0_1 ([]:List (S48)))=some (r1,r2,r3):=h
 clear h
 have H':=Aside0.mk H
 clear H
 go_enter Tryd.func20,Tryd.ntmps20
 go_wp2_with (first|((with_reducible refine gate_dst (N:=1) rfl ?_);refine box_event ?hg (N:=1) ?hd (cs:=#[.string a0_0,.string a0_1,.slice A0_2 l0_2.length c0_2]) (t:=42) ?hr ?_;(case hd=>rfl);(case hg=>rfl);(case hr=>first|(go_simp;done)|(go_simp;rfl));intro gb303 hg w2 hbox hb;have n0_:=Aside0.mk (below_step (by repeat (first|(with_reducible first|exact HB.out|apply below_alloc|apply pw_below_drewN|apply below_drew1)|exact HB.out)) hb);have n1_:=Aside0.mk (hbox);have n2_:=Aside0.mk ((by rw [hg];exact(below_size (by repeat (first|(with_reducible first|exact HB.out|apply below_alloc|apply pw_below_drewN|apply below_drew1)|exact HB.out))):w.heap.size≤gb303));have n3_:=Aside0.mk ((by rw [hg];exact(below_size (by repeat (first|(with_reducible first|exact HB.out|apply below_alloc|apply pw_below_drewN|apply below_drew1)|exact HB.out))):w.heap.size≤gb303));clear HB;have HB:=n0_;have BK303:=n1_;have GW303:=n2_;have GE303:=n3_;clear n0_ n1_ n2_ n3_;clear hb hbox hg)|((with_reducible refine gate_dst (N:=2) rfl ?_);refine box_event ?hg (N:=2) ?hd (cs:=#[.string (⟨#[]⟩ : ByteArray),.string (⟨#[]⟩ : ByteArray),.slice none 0 0]) (t:=48) ?hr ?_;(case hd=>rfl);(case hg=>rfl);(case hr=>first|(go_simp;done)|(go_simp;rfl));intro gb304 hg w3 hbox hb;have n0_:=Aside0.mk (blk_below (g:=gb303) (o:=.cells #[.string a0_0,.string a0_1,.slice A0_2 l0_2.length c0_2] 42 (0,0)) (by(with_reducible repeat (first|refine blk_drewN ?_ _|refine blk_drew ?_|refine blk_alloc ?_ _));exact BK303.out) hb);have n1_:=Aside0.mk (below_step (by repeat (first|(with_reducible first|exact HB.out|apply below_alloc|apply pw_below_drewN|apply below_drew1|refine below_set ?_ GE303.out)|exact HB.out)) hb);have n2_:=Aside0.mk (hbox);have n3_:=Aside0.mk ((by rw [hg];exact(below_size (by repeat (first|(with_reducible first|exact HB.out|apply below_alloc|apply pw_below_drewN|apply below_drew1|refine below_set ?_ GE303.out)|exact HB.out))):w.heap.size≤gb304));have n4_:=Aside0.mk ((by rw [hg];exact(below_size (by repeat (first|(with_reducible first|exact HB.out|apply below_alloc|apply pw_below_drewN|apply below_drew1|refine below_set ?_ GE303.out)|exact HB.out))):w.heap.size≤gb304));have n5_:=Aside0.mk ((by rw [hg];exact Nat.ne_of_lt (blk_lt (g:=gb303) (o:=.cells #[.string a0_0,.string a0_1,.slice A0_2 l0_2.length c0_2] 42 (0,0)) (by(with_reducible repeat (first|refine blk_drewN ?_ _|refine blk_drew ?_|refine blk_alloc ?_ _));exact BK303.out)):gb303≠gb304));have n6_:=Aside0.mk ((by rw [hg];exact Nat.ne_of_gt (blk_lt (g:=gb303) (o:=.cells #[.string a0_0,.string a0_1,.slice A0_2 l0_2.length c0_2] 42 (0,0)) (by(with_reducible repeat (first|refine blk_drewN ?_ _|refine blk_drew ?_|refine blk_alloc ?_ _));exact BK303.out)):gb304≠gb303));clear BK303;clear HB;have BK303:=n0_;have HB:=n1_;have BK304:=n2_;have GW304:=n3_;have GE304:=n4_;have NB303_304:=n5_;have NB304_303:=n6_;clear n0_ n1_ n2_ n3_ n4_ n5_ n6_;clear hb hbox hg;have hnb4:=NB303_304.out;have hnc4:=NB304_303.out;have hcz5_0:w3.cell? ⟨gb303,0,none⟩=some (.string a0_0):=(blk_cell BK303.out 0).trans rfl;have hcz5_1:w3.cell? ⟨gb303,1,none⟩=some (.string a0_1):=(blk_cell BK303.out 1).trans rfl;have hcz5_2:w3.cell? ⟨gb303,2,none⟩=some (.slice A0_2 l0_2.length c0_2):=(blk_cell BK303.out 2).trans rfl;have hfz5_0:=blk_frozen BK303.out 0;have hfz5_1:=blk_frozen BK303.out 1;have hfz5_2:=blk_frozen BK303.out 2)|((with_reducible refine gate_dst (N:=3) rfl ?_);refine box_event ?hg (N:=3) ?hd (cs:=#[.string (⟨#[]⟩ : ByteArray),.string (⟨#[]⟩ : ByteArray),.slice none 0 0]) (t:=48) ?hr ?_;(case hd=>rfl);(case hg=>rfl);(case hr=>first|(go_simp;done)|(go_simp;rfl));intro gb305 hg w6 hbox hb;have n0_:=Aside0.mk (blk_below (g:=gb303) (o:=.cells #[.string a0_0,.string a0_1,.slice A0_2 l0_2.length c0_2] 42 (0,0)) (by(with_reducible repeat (first|refine blk_drewN ?_ _|refine blk_drew ?_|refine blk_alloc ?_ _));exact BK303.out) hb);have n1_:=Aside0.mk (blk_below (g:=gb304) (o:=.cells #[.string (⟨#[]⟩ : ByteArray),.string (⟨#[]⟩ : ByteArray),.slice none 0 0] 48 (0,0)) (by(with_reducible repeat (first|refine blk_drewN ?_ _|refine blk_drew ?_|refine blk_alloc ?_ _));exact BK304.out) hb);have n2_:=Aside0.mk (below_step (by repeat (first|(with_reducible first|exact HB.out|apply below_alloc|apply pw_below_drewN|apply below_drew1|refine below_set ?_ GE303.out|refine below_set ?_ GE304.out)|exact HB.out)) hb);have n3_:=Aside0.mk (hbox);have n4_:=Aside0.mk ((by rw [hg];exact(below_size (by repeat (first|(with_reducible first|exact HB.out|apply below_alloc|apply pw_below_drewN|apply below_drew1|refine below_set ?_ GE303.out|refine below_set ?_ GE304.out)|exact HB.out))):w.heap.size≤gb305));have n5_:=Aside0.mk ((by rw [hg];exact(below_size (by repeat (first|(with_reducible first|exact HB.out|apply below_alloc|apply pw_below_drewN|apply below_drew1|refine below_set ?_ GE303.out|refine below_set ?_ GE304.out)|exact HB.out))):w.heap.size≤gb305));have n6_:=Aside0.mk ((by rw [hg];exact Nat.ne_of_lt (blk_lt (g:=gb303) (o:=.cells #[.string a0_0,.string a0_1,.slice A0_2 l0_2.length c0_2] 42 (0,0)) (by(with_reducible repeat (first|refine blk_drewN ?_ _|refine blk_drew ?_|refine blk_alloc ?_ _));exact BK303.out)):gb303≠gb305));have n7_:=Aside0.mk ((by rw [hg];exact Nat.ne_of_gt (blk_lt (g:=gb303) (o:=.cells #[.string a0_0,.string a0_1,.slice A0_2 l0_2.length c0_2] 42 (0,0)) (by(with_reducible repeat (first|refine blk_drewN ?_ _|refine blk_drew ?_|refine blk_alloc ?_ _));exact BK303.out)):gb305≠gb303));have n8_:=Aside0.mk ((by rw [hg];exact Nat.ne_of_lt (blk_lt (g:=gb304) (o:=.cells #[.string (⟨#[]⟩ : ByteArray),.string (⟨#[]⟩ : ByteArray),.slice none 0 0] 48 (0,0)) (by(with_reducible repeat (first|refine blk_drewN ?_ _|refine blk_drew ?_|refine blk_alloc ?_ _));exact BK304.out)):gb304≠gb305));have n9_:=Aside0.mk ((by rw [hg];exact Nat.ne_of_gt (blk_lt (g:=gb304) (o:=.cells #[.string (⟨#[]⟩ : ByteArray),.string (⟨#[]⟩ : ByteArray),.slice none 0 0] 48 (0,0)) (by(with_reducible repeat (first|refine blk_drewN ?_ _|refine blk_drew ?_|refine blk_alloc ?_ _));exact BK304.out)):gb305≠gb304));clear BK303;clear BK304;clear HB;have BK303:=n0_;have BK304:=n1_;have HB:=n2_;have BK305:=n3_;have GW305:=n4_;have GE305:=n5_;have NB303_305:=n6_;have NB305_303:=n7_;have NB304_305:=n8_;have NB305_304:=n9_;clear n0_ n1_ n2_ n3_ n4_ n5_ n6_ n7_ n8_ n9_;clear hb hbox hg;have hnb7:=NB305_303.out;have hnc7:=NB303_305.out;have hnb8:=NB305_304.out;have hnc8:=NB304_305.out;have hcz9_0:w6.cell? ⟨gb305,0,none⟩=some (.string (⟨#[]⟩ : ByteArray)):=(blk_cell BK305.out 0).trans rfl;have hcz9_1:w6.cell? ⟨gb305,1,none⟩=some (.string (⟨#[]⟩ : ByteArray)):=(blk_cell BK305.out 1).trans rfl;have hcz9_2:w6.cell? ⟨gb305,2,none⟩=some (.slice none 0 0):=(blk_cell BK305.out 2).trans rfl;have hfz9_0:=blk_frozen BK305.out 0;have hfz9_1:=blk_frozen BK305.out 1;have hfz9_2:=blk_frozen BK305.out 2))
 go_loopg [4] k (fun kq v4 w'=>∃ (x4_1:Int) (x306002_1:List (S48)) (u306002:Value),v4 = .int .i64 x4_1∧Aside0 (stowagelaw13_To.l0 kq x4_1 a0_0 a0_1 l0_2 a0_0 a0_1 x306002_1=some (r1,r2,r3))∧Aside0 (kq≤k)∧Aside0 (Kd.R k48 48 w' w.heap.size (fun k_=>k_≠gb304∧k_≠gb305) u306002 x306002_1)∧Aside0 (w'.heap[gb303]? = some (.cells #[.string a0_0,.string a0_1,(.slice A0_2 l0_2.length c0_2)] 42 (0,0)))∧Aside0 (w'.heap[gb304]? = some (.cells #[.string (⟨#[]⟩ : ByteArray),.string (⟨#[]⟩ : ByteArray),(.slice none 0 0)] 48 (0,0)))∧Aside0 (w'.heap[gb305]? = some (.cells #[.string a0_0,.string a0_1,u306002] 48 (0,0)))∧Aside0 (Below w.heap.size w w'))
 case atStart=>exact⟨(0),(([]:List (S48))),(.slice none 0 0),(by first|rfl|(simp;done)|(simp [*];done)),H',⟨Nat.le_refl _⟩,⟨by first|exact Kd.R_nil _ _ _ _ _|exact Kd.N_nil _ _ _ _ _|exact Kd.V_nil _ _ _ _ _|exact Kd.Q_nil _ _ _ _ _|exact Kd.S_nil _ _ _ _ _⟩,⟨by(with_reducible repeat (first|refine blk_drewN ?_ _|refine blk_drew ?_|refine blk_alloc ?_ _));refine blk_far ?_ NB303_305.out _;(with_reducible repeat (first|refine blk_drewN ?_ _|refine blk_drew ?_|refine blk_alloc ?_ _));refine blk_far ?_ NB303_305.out _;(with_reducible repeat (first|refine blk_drewN ?_ _|refine blk_drew ?_|refine blk_alloc ?_ _));refine blk_far ?_ NB303_305.out _;(with_reducible repeat (first|refine blk_drewN ?_ _|refine blk_drew ?_|refine blk_alloc ?_ _));exact BK303.out⟩,⟨by(with_reducible repeat (first|refine blk_drewN ?_ _|refine blk_drew ?_|refine blk_alloc ?_ _));refine blk_far ?_ NB304_305.out _;(with_reducible repeat (first|refine blk_drewN ?_ _|refine blk_drew ?_|refine blk_alloc ?_ _));refine blk_far ?_ NB304_305.out _;(with_reducible repeat (first|refine blk_drewN ?_ _|refine blk_drew ?_|refine blk_alloc ?_ _));refine blk_far ?_ NB304_305.out _;(with_reducible repeat (first|refine blk_drewN ?_ _|refine blk_drew ?_|refine blk_alloc ?_ _));exact BK304.out⟩,⟨by(with_reducible repeat (first|refine blk_drewN ?_ _|refine blk_drew ?_|refine blk_alloc ?_ _));refine blk_put (cs:=#[.string a0_0,.string a0_1,.slice none 0 0]) ?_ 2 _ rfl;(with_reducible repeat (first|refine blk_drewN ?_ _|refine blk_drew ?_|refine blk_alloc ?_ _));refine blk_put (cs:=#[.string a0_0,.string (⟨#[]⟩ : ByteArray),.slice none 0 0]) ?_ 1 _ rfl;(with_reducible repeat (first|refine blk_drewN ?_ _|refine blk_drew ?_|refine blk_alloc ?_ _));refine blk_put (cs:=#[.string (⟨#[]⟩ : ByteArray),.string (⟨#[]⟩ : ByteArray),.slice none 0 0]) ?_ 0 _ rfl;(with_reducible repeat (first|refine blk_drewN ?_ _|refine blk_drew ?_|refine blk_alloc ?_ _));exact BK305.out⟩,⟨by repeat (first|(with_reducible first|exact HB.out|apply below_alloc|apply pw_below_drewN|apply below_drew1|refine below_set ?_ GE303.out|refine below_set ?_ GE304.out|refine below_set ?_ GE305.out)|exact HB.out)⟩⟩
 case round=>
  clear H'
  try clear c2
  try clear p2
  try clear c4
  try clear c7
  try clear c8
  try clear hcz5_0
  try clear hcz5_1
  try clear hcz5_2
  try clear hcz9_0
  try clear hcz9_1
  try clear hcz9_2
  try clear hfz5_0
  try clear hfz5_1
  try clear hfz5_2
  try clear hfz9_0
  try clear hfz9_1
  try clear hfz9_2
  obtain⟨x4_1,x306002_1,u306002,rfl,HA,HK1,HO_306002,BK303,BK304,BK305,HB⟩:=hrel
  cases gk with
  | zero=>exact absurd HA.out (by simp [stowagelaw13_To.l0])
  | succ k1=>
   have H:=HA.out
   clear HA
   simp only [stowagelaw13_To.l0] at H
   replace H:=itO H
   rcases H with⟨c10,H⟩|⟨c10,H⟩
   ·skip
    have c10b0:decide (x4_1<(l0_2.length:Int))=true:=decide_eq_true c10
    clear c10
    replace H:=itO H
    rcases H with⟨c11,H⟩|⟨c11,H⟩
    ·skip
     have c11b0:decide (0≤x4_1)=true:=decide_eq_true c11
     clear c11
     replace H:=bndO H
     obtain⟨⟨t307,t308,t309⟩,A120,H⟩:=H
     dsimp only at H
     have A12:=Aside0.mk A120
     clear A120
     replace H:=itO H
     rcases H with⟨c13,H⟩|⟨c13,H⟩
     ·skip
      have LMc13:=Aside0.mk c13
      clear c13
      obtain⟨y312,hy312⟩ : ∃ y_:List (S48),y_=(x306002_1 ++ [(⟨t307,t308,t309⟩ : S48)]):=⟨_,rfl⟩
      replace H:(stowagelaw13_To.l0 k1 (wrap64 (x4_1+1)) a0_0 a0_1 l0_2 a0_0 a0_1 y312)=some (r1,r2,r3):=by first|(rw [hy312];with_reducible exact H)|(have H2_:=(Option.bind_some _ _).symm.trans H;rw [hy312];with_reducible exact H2_)|(have H2_:=(Option.bind_some _ _).symm.trans H;with_reducible exact H2_)|with_reducible exact H|(rw [hy312];exact H)|exact H
      have Ny312:=Aside0.mk hy312
      clear hy312
      have H':=Aside0.mk H
      clear H
      have hnb14:=NB303_304.out
      have hnc14:=NB304_303.out
      have hnb15:=NB303_305.out
      have hnc15:=NB305_303.out
      have hcz16_0:wr.cell? ⟨gb303,0,none⟩=some (.string a0_0):=(blk_cell BK303.out 0).trans rfl
      have hcz16_1:wr.cell? ⟨gb303,1,none⟩=some (.string a0_1):=(blk_cell BK303.out 1).trans rfl
      have hcz16_2:wr.cell? ⟨gb303,2,none⟩=some (.slice A0_2 l0_2.length c0_2):=(blk_cell BK303.out 2).trans rfl
      have hfz16_0:=blk_frozen BK303.out 0
      have hfz16_1:=blk_frozen BK303.out 1
      have hfz16_2:=blk_frozen BK303.out 2
      try go_wp2
      have n0_:=Aside0.mk (Kd.R_drew HO_306002.out)
      have n1_:=Aside0.mk (blk_drew BK303.out)
      have n2_:=Aside0.mk (blk_drew BK304.out)
      have n3_:=Aside0.mk (blk_drew BK305.out)
      have n4_:=Aside0.mk (below_drew1 HB.out)
      clear HO_306002
      clear BK303
      clear BK304
      clear BK305
      clear HB
      have HO_306002:=n0_
      have BK303:=n1_
      have BK304:=n2_
      have BK305:=n3_
      have HB:=n4_
      clear n0_ n1_ n2_ n3_ n4_
      have p306:0≤(x4_1:Int):=of_decide_eq_true (by first|(with_reducible assumption)|assumption)
      have q306:x4_1<(l0_2.length:Int):=of_decide_eq_true (by first|(with_reducible assumption)|assumption)
      obtain⟨ad306,A306_2,c306_2,e306,hx306_0,hx306_1,hx306_2,hl306_2,hi306_2⟩:=at_T42 HR0_2.out x4_1 p306 q306
      have hw306_2:=hx306_2
      have hw306_1:=hx306_1
      have hw306_0:=hx306_0
      cases e306
      replace hx306_0:=(HB.out.cell (World.block_lt_of_cell? w _ hx306_0)).trans hx306_0
      replace hx306_1:=(HB.out.cell (World.block_lt_of_cell? w _ hx306_1)).trans hx306_1
      replace hx306_2:=(HB.out.cell (World.block_lt_of_cell? w _ hx306_2)).trans hx306_2
      have HR306_2:=Aside0.mk hi306_2
      have HC306_2:=Aside0.mk hl306_2
      clear hi306_2 hl306_2
      replace p306:=eq_true p306
      replace q306:=eq_true q306
      refine start_ (n:=12) (S:=fun w'=>w'.cell? ⟨gb305,0,none⟩=some (.string a0_0)∧w'.cell? ⟨gb305,1,none⟩=some (.string a0_1)∧w'.cell? ⟨gb305,2,none⟩=some (u306002)∧w'.cell? ⟨gb303,0,none⟩=some (.string a0_0)∧w'.cell? ⟨gb303,1,none⟩=some (.string a0_1)∧w'.cell? ⟨gb303,2,none⟩=some (.slice (some ad306) l0_2.length c0_2)∧w'.cell? (ad306.add ((x4_1).toNat*3))=some (.string ((rd_T42 l0_2 x4_1).f0))∧w'.cell? ⟨(ad306.add ((x4_1).toNat*3)).block,(ad306.add ((x4_1).toNat*3)).off+1,none⟩=some (.string ((rd_T42 l0_2 x4_1).f1))∧w'.cell? ⟨(ad306.add ((x4_1).toNat*3)).block,(ad306.add ((x4_1).toNat*3)).off+2,none⟩=some (.slice A306_2 ((rd_T42 l0_2 x4_1).f2).length c306_2)) (ds:=[11]) #[F,F,F,F,F,F,F,F,F,F,F,F] (by kernel_rfl) rfl rfl ⟨(blk_cell BK305.out 0).trans rfl,(blk_cell BK305.out 1).trans rfl,(blk_cell BK305.out 2).trans rfl,(blk_cell BK303.out 0).trans rfl,(blk_cell BK303.out 1).trans rfl,(blk_cell BK303.out 2).trans rfl,((HB.out.cell (World.block_lt_of_cell? w _ hw306_0)).trans hw306_0),((HB.out.cell (World.block_lt_of_cell? w _ hw306_1)).trans hw306_1),((HB.out.cell (World.block_lt_of_cell? w _ hw306_2)).trans hw306_2)⟩ (fun hHeld=>?_);refine with_tabW stowagelaw13_To.tab5 stowagelaw13_To.bits5 (fun HT_ HW_=>?_)
      generalize wr.drew=w17 at HO_306002 BK303 BK304 BK305 HB HR306_2 hx306_0 hx306_1 hx306_2 hHeld ⊢
      refine pure_ (i:=0) (N:=some 17) (v:=?_) (a':=?_) #[T,F,F,F,F,F,F,F,F,F,F,F] rfl rfl (any_of HT_.out (by kernel_rfl)) (fun _ _ _ h=>h) (Or.inl ⟨by rfl,?_⟩) ?_ ?_
      rotate_left
      ·intro w'
       go_simp
       with_reducible rfl
      rotate_left
      ·simp only [Act.put,List.setIfInBounds_toArray,List.set_cons_zero,List.set_cons_succ,i64_w,i32_w]
       rfl
      refine pure_ (i:=2) (N:=some 19) (v:=?_) (a':=?_) #[T,F,T,F,F,F,F,F,F,F,F,F] rfl rfl (any_of HT_.out (by kernel_rfl)) (fun _ _ _ h=>h) (Or.inl ⟨by rfl,?_⟩) ?_ ?_
      rotate_left
      ·intro w'
       go_simp
       with_reducible rfl
      rotate_left
      ·simp only [Act.put,List.setIfInBounds_toArray,List.set_cons_zero,List.set_cons_succ,i64_w,i32_w]
       rfl
      refine pure_ (i:=4) (N:=some 21) (v:=?_) (a':=?_) #[T,F,T,F,T,F,F,F,F,F,F,F] rfl rfl (any_of HT_.out (by kernel_rfl)) (fun _ _ _ h=>h) (Or.inl ⟨by rfl,?_⟩) ?_ ?_
      rotate_left
      ·intro w'
       go_simp
       with_reducible rfl
      rotate_left
      ·simp only [Act.put,List.setIfInBounds_toArray,List.set_cons_zero,List.set_cons_succ,i64_w,i32_w]
       rfl
      refine take_ (i:=1) (N:=some 18) (v:=?_) (a':=?_) #[T,T,T,F,T,F,F,F,F,F,F,F] rfl rfl (take_ofW HT_.out HW_.out (by kernel_rfl)) (fun _ _ _ h=>h) (Or.inl ⟨by rfl,?_⟩) hHeld ?_ ?_
      rotate_left
      ·rintro w' ⟨s0,s1,s2,s3,s4,s5,s6,s7,s8⟩
       go_simp
       with_reducible rfl
      rotate_left
      ·simp only [Act.put,List.setIfInBounds_toArray,List.set_cons_zero,List.set_cons_succ,i64_w,i32_w]
       rfl
      refine take_ (i:=3) (N:=some 20) (v:=?_) (a':=?_) #[T,T,T,T,T,F,F,F,F,F,F,F] rfl rfl (take_ofW HT_.out HW_.out (by kernel_rfl)) (fun _ _ _ h=>h) (Or.inl ⟨by rfl,?_⟩) hHeld ?_ ?_
      rotate_left
      ·rintro w' ⟨s0,s1,s2,s3,s4,s5,s6,s7,s8⟩
       go_simp
       with_reducible rfl
      rotate_left
      ·simp only [Act.put,List.setIfInBounds_toArray,List.set_cons_zero,List.set_cons_succ,i64_w,i32_w]
       rfl
      refine pure_ (i:=5) (N:=some 22) (v:=?_) (a':=?_) #[T,T,T,T,T,T,F,F,F,F,F,F] rfl rfl (any_of HT_.out (by kernel_rfl)) (fun _ _ _ h=>h) (Or.inl ⟨by rfl,?_⟩) ?_ ?_
      rotate_left
      ·intro w'
       go_simp
       with_reducible rfl
      rotate_left
      ·simp only [Act.put,List.setIfInBounds_toArray,List.set_cons_zero,List.set_cons_succ,i64_w,i32_w]
       rfl
      refine take_ (i:=6) (N:=some 23) (v:=?_) (a':=?_) #[T,T,T,T,T,T,T,F,F,F,F,F] rfl rfl (take_ofW HT_.out HW_.out (by kernel_rfl)) (fun _ _ _ h=>h) (Or.inl ⟨by rfl,?_⟩) hHeld ?_ ?_
      rotate_left
      ·rintro w' ⟨s0,s1,s2,s3,s4,s5,s6,s7,s8⟩
       go_simp
       with_reducible rfl
      rotate_left
      ·simp only [Act.put,List.setIfInBounds_toArray,List.set_cons_zero,List.set_cons_succ,i64_w,i32_w]
       rfl
      refine one_ (i:=7) (N:=some 24) #[T,T,T,T,T,T,T,T,F,F,F,F] rfl rfl (one_of HT_.out (by kernel_rfl)) (by decide) (fun K hK=>?_)
      refine goes_ Tryd.func20 (by kernel_rfl) rfl #[.agg #[.string ((rd_T42 l0_2 x4_1).f0),.string ((rd_T42 l0_2 x4_1).f1),.slice A306_2 ((rd_T42 l0_2 x4_1).f2).length c306_2]] (by rfl) rfl rfl (by(try simp only [List.map_toArray,List.map_cons,List.map_nil]);first|done|rfl|(simp only [List.length_drop,List.length_take];rfl)) ?_
      with_reducible refine(ih k1 (by have:=HK1.out;omega) ((rd_T42 l0_2 x4_1).f0) ((rd_T42 l0_2 x4_1).f1) _ _ ((rd_T42 l0_2 x4_1).f2) t307 t308 t309 _ ?side1 ?side2 A12.out).mono ?_
      (case side1=>repeat (first|exact(Kd.C_below HR306_2.out HB.out)|(with_reducible refine Kd.C_alloc ?_ _)|(with_reducible refine Kd.C_drewN ?_ _)|(with_reducible refine Kd.C_drew ?_)))
      (case side2=>exact HC306_2.out)
      rintro e w18 ⟨v310,rfl,ho0,hb⟩
      refine⟨_,rfl,?_⟩
      have n0_:=Aside0.mk (Kd.R_elder' (by(with_reducible repeat (first|apply Kd.R_alloc|apply Kd.R_drewN|apply Kd.R_drew));exact HO_306002.out) (by first|exact Kd.R_base ho0|exact Kd.R_base ho0) hb)
      have n1_:=Aside0.mk (Kd.R_lower (Kd.R_newB (Kd.R_newB (Kd.R_new' ho0 (Kd.R_lt (by(with_reducible repeat (first|apply Kd.R_alloc|apply Kd.R_drewN|apply Kd.R_drew));exact HO_306002.out))) (g:=gb304) (o:=.cells #[.string (⟨#[]⟩ : ByteArray),.string (⟨#[]⟩ : ByteArray),.slice none 0 0] 48 (0,0)) (by(with_reducible repeat (first|refine blk_drewN ?_ _|refine blk_drew ?_|refine blk_alloc ?_ _));exact BK304.out)) (g:=gb305) (o:=.cells #[.string a0_0,.string a0_1,u306002] 48 (0,0)) (by(with_reducible repeat (first|refine blk_drewN ?_ _|refine blk_drew ?_|refine blk_alloc ?_ _));exact BK305.out)) (below_size (by repeat (first|(with_reducible first|exact HB.out|apply below_alloc|apply pw_below_drewN|apply below_drew1|refine below_set ?_ GE303.out|refine below_set ?_ GE304.out|refine below_set ?_ GE305.out)|exact HB.out))))
      have n2_:=Aside0.mk (blk_below (g:=gb303) (o:=.cells #[.string a0_0,.string a0_1,.slice (some ad306) l0_2.length c0_2] 42 (0,0)) (by(with_reducible repeat (first|refine blk_drewN ?_ _|refine blk_drew ?_|refine blk_alloc ?_ _));exact BK303.out) hb)
      have n3_:=Aside0.mk (blk_below (g:=gb304) (o:=.cells #[.string (⟨#[]⟩ : ByteArray),.string (⟨#[]⟩ : ByteArray),.slice none 0 0] 48 (0,0)) (by(with_reducible repeat (first|refine blk_drewN ?_ _|refine blk_drew ?_|refine blk_alloc ?_ _));exact BK304.out) hb)
      have n4_:=Aside0.mk (blk_below (g:=gb305) (o:=.cells #[.string a0_0,.string a0_1,u306002] 48 (0,0)) (by(with_reducible repeat (first|refine blk_drewN ?_ _|refine blk_drew ?_|refine blk_alloc ?_ _));exact BK305.out) hb)
      have n5_:=Aside0.mk (below_step (by repeat (first|(with_reducible first|exact HB.out|apply below_alloc|apply pw_below_drewN|apply below_drew1|refine below_set ?_ GE303.out|refine below_set ?_ GE304.out|refine below_set ?_ GE305.out)|exact HB.out)) hb)
      clear HO_306002
      clear BK303
      clear BK304
      clear BK305
      clear HB
      have HO_306002:=n0_
      have HO311:=n1_
      have BK303:=n2_
      have BK304:=n3_
      have BK305:=n4_
      have HB:=n5_
      clear n0_ n1_ n2_ n3_ n4_ n5_
      (try clear hb)
      (try clear hb2)
      (try clear hk)
      (try clear hi)
      (try clear ho0)
      obtain⟨Ao20,co20,eo20⟩:=Kd.R_slice HO311.out
      (first|subst eo20|(injection eo20 with f1_ f2_ f3_;have f4_:=f1_.symm;have f5_:=f3_.symm;clear f1_ f2_ f3_;subst f4_;subst f5_))
      refine hK.out _ _ ⟨(blk_cell BK305.out 0).trans rfl,(blk_cell BK305.out 1).trans rfl,(blk_cell BK305.out 2).trans rfl,(blk_cell BK303.out 0).trans rfl,(blk_cell BK303.out 1).trans rfl,(blk_cell BK303.out 2).trans rfl,((HB.out.cell (World.block_lt_of_cell? w _ hw306_0)).trans hw306_0),((HB.out.cell (World.block_lt_of_cell? w _ hw306_1)).trans hw306_1),((HB.out.cell (World.block_lt_of_cell? w _ hw306_2)).trans hw306_2)⟩ (fun hHeld=>?_)
      clear hK K
      refine norm_ (a':=?_) ?_ ?_
      rotate_left
      ·show Act.put _ (some 24) _=_
       simp only [Act.put,List.setIfInBounds_toArray,List.set_cons_zero,List.set_cons_succ,i64_w,i32_w]
       rfl
      refine one_ (i:=8) (N:=some 25) #[T,T,T,T,T,T,T,T,T,F,F,F] rfl rfl (one_of HT_.out (by kernel_rfl)) (by decide) (fun K hK=>?_)
      refine value_ (w1:=?_) (v:=?_) (by rfl) rfl ?_ ?_
      rotate_left 2
      ·go_simp
       constructor
       ·rfl
       ·rfl
      refine hK.out _ _ ⟨(blk_cell (blk_alloc BK305.out _) 0).trans rfl,(blk_cell (blk_alloc BK305.out _) 1).trans rfl,(blk_cell (blk_alloc BK305.out _) 2).trans rfl,(blk_cell (blk_alloc BK303.out _) 0).trans rfl,(blk_cell (blk_alloc BK303.out _) 1).trans rfl,(blk_cell (blk_alloc BK303.out _) 2).trans rfl,(World.cell?_alloc_lt _ _ _ (World.block_lt_of_cell? _ _ (((HB.out.cell (World.block_lt_of_cell? w _ hw306_0)).trans hw306_0)))).trans (((HB.out.cell (World.block_lt_of_cell? w _ hw306_0)).trans hw306_0)),(World.cell?_alloc_lt _ _ _ (World.block_lt_of_cell? _ _ (((HB.out.cell (World.block_lt_of_cell? w _ hw306_1)).trans hw306_1)))).trans (((HB.out.cell (World.block_lt_of_cell? w _ hw306_1)).trans hw306_1)),(World.cell?_alloc_lt _ _ _ (World.block_lt_of_cell? _ _ (((HB.out.cell (World.block_lt_of_cell? w _ hw306_2)).trans hw306_2)))).trans (((HB.out.cell (World.block_lt_of_cell? w _ hw306_2)).trans hw306_2))⟩ (fun hHeld=>?_)
      clear hK K
      refine norm_ (a':=?_) ?_ ?_
      rotate_left
      ·show Act.put _ (some 25) _=_
       simp only [Act.put,List.setIfInBounds_toArray,List.set_cons_zero,List.set_cons_succ,i64_w,i32_w]
       rfl
      refine one_ (i:=9) (N:=some 26) #[T,T,T,T,T,T,T,T,T,T,F,F] rfl rfl (one_of HT_.out (by kernel_rfl)) (by decide) (fun K hK=>?_)
      refine Kd.R_append_step k48 (w0:=w) w.heap.size (by rfl) (.tmp 18) (.tmp 25) 46 48 (.agg #[(.string ⟨#[]⟩),(.string ⟨#[]⟩),(.slice none 0 0)]) 56 rfl Tryd.underlying46 info48 rfl (by decide) (by omega) u306002 x306002_1 (⟨t307,t308,t309⟩ : S48) [.string t307,.string t308,.slice Ao20 t309.length co20] (fun k_=>k_≠gb304∧k_≠gb305) (fun k_=>((fun k_=>k_≠gb304∧k_≠gb305)) k_∧some k_≠(u306002:Value).ownBlock) rfl rfl ?aP (fun _ hk=>hk) ?aF ?aO ?aB ?aS ?aL ?_
      (case aP=>exact k48_mkM _ _ _ (⟨t307,t308,t309⟩ : S48) (Kd.R_mono (HO311.out) (fun k_ hk=>⟨⟨hk.1.2,hk.2⟩,hk.1.1.2⟩)))
      (case aB=>exact(by repeat (first|(with_reducible first|exact HB.out|apply below_alloc|apply pw_below_drewN|apply below_drew1|refine below_set ?_ GE303.out|refine below_set ?_ GE304.out|refine below_set ?_ GE305.out)|exact HB.out)))
      (case aF=>exact(fun k_ hk=>⟨Kd.freshB (g:=gb304) (o:=.cells #[.string (⟨#[]⟩ : ByteArray),.string (⟨#[]⟩ : ByteArray),.slice none 0 0] 48 (0,0)) (by(with_reducible repeat (first|refine blk_drewN ?_ _|refine blk_drew ?_|refine blk_alloc ?_ _));exact BK304.out) k_ hk,Kd.freshB (g:=gb305) (o:=.cells #[.string a0_0,.string a0_1,u306002] 48 (0,0)) (by(with_reducible repeat (first|refine blk_drewN ?_ _|refine blk_drew ?_|refine blk_alloc ?_ _));exact BK305.out) k_ hk⟩))
      (case aO=>exact(by(with_reducible repeat (first|apply Kd.R_alloc|apply Kd.R_drewN|apply Kd.R_drew));exact Kd.R_mono HO_306002.out (fun _ hk=>⟨hk.1.1,hk.1.2⟩)))
      (case aS=>exact(below_size (by repeat (first|(with_reducible first|exact HB.out|apply below_alloc|apply pw_below_drewN|apply below_drew1|refine below_set ?_ GE303.out|refine below_set ?_ GE304.out|refine below_set ?_ GE305.out)|exact HB.out))))
      (case aL=>have:=LMc13.out;omega)
      intro v313 w19 ho hb hg hat
      rw [← Ny312.out] at ho
      have n0_:=Aside0.mk (blk_grown (g:=gb303) (o:=.cells #[.string a0_0,.string a0_1,.slice (some ad306) l0_2.length c0_2] 42 (0,0)) (by(with_reducible repeat (first|refine blk_drewN ?_ _|refine blk_drew ?_|refine blk_alloc ?_ _));exact BK303.out) hg (Kd.R_ne HO_306002.out BK303.out (by decide)))
      have n1_:=Aside0.mk (blk_grown (g:=gb304) (o:=.cells #[.string (⟨#[]⟩ : ByteArray),.string (⟨#[]⟩ : ByteArray),.slice none 0 0] 48 (0,0)) (by(with_reducible repeat (first|refine blk_drewN ?_ _|refine blk_drew ?_|refine blk_alloc ?_ _));exact BK304.out) hg (Kd.R_away HO_306002.out (fun _ hk=>hk.1.1)))
      have n2_:=Aside0.mk (blk_grown (g:=gb305) (o:=.cells #[.string a0_0,.string a0_1,u306002] 48 (0,0)) (by(with_reducible repeat (first|refine blk_drewN ?_ _|refine blk_drew ?_|refine blk_alloc ?_ _));exact BK305.out) hg (Kd.R_away HO_306002.out (fun _ hk=>hk.1.2)))
      have n3_:=Aside0.mk (hb)
      have n4_:=Aside0.mk (ho)
      clear BK303
      clear BK304
      clear BK305
      clear HB
      clear HO_306002
      clear HO311
      have BK303:=n0_
      have BK304:=n1_
      have BK305:=n2_
      have HB:=n3_
      have HO314:=n4_
      clear n0_ n1_ n2_ n3_ n4_
      clear ho hb hg hat
      obtain⟨Ao21,co21,eo21⟩:=Kd.R_slice HO314.out
      (first|subst eo21|(injection eo21 with f1_ f2_ f3_;have f4_:=f1_.symm;have f5_:=f3_.symm;clear f1_ f2_ f3_;subst f4_;subst f5_))
      refine hK.out _ _ ⟨(blk_cell BK305.out 0).trans rfl,(blk_cell BK305.out 1).trans rfl,(blk_cell BK305.out 2).trans rfl,(blk_cell BK303.out 0).trans rfl,(blk_cell BK303.out 1).trans rfl,(blk_cell BK303.out 2).trans rfl,((HB.out.cell (World.block_lt_of_cell? w _ hw306_0)).trans hw306_0),((HB.out.cell (World.block_lt_of_cell? w _ hw306_1)).trans hw306_1),((HB.out.cell (World.block_lt_of_cell? w _ hw306_2)).trans hw306_2)⟩ (fun hHeld=>?_)
      clear hK K
      refine norm_ (a':=?_) ?_ ?_
      rotate_left
      ·show Act.put _ (some 26) _=_
       simp only [Act.put,List.setIfInBounds_toArray,List.set_cons_zero,List.set_cons_succ,i64_w,i32_w]
       rfl
      refine pure_ (i:=10) (N:=some 27) (v:=?_) (a':=?_) #[T,T,T,T,T,T,T,T,T,T,T,F] rfl rfl (any_of HT_.out (by kernel_rfl)) (fun _ _ _ h=>h) (Or.inl ⟨by rfl,?_⟩) ?_ ?_
      rotate_left
      ·intro w'
       go_simp
       with_reducible rfl
      rotate_left
      ·simp only [Act.put,List.setIfInBounds_toArray,List.set_cons_zero,List.set_cons_succ,i64_w,i32_w]
       rfl
      refine last_ (i:=11) (N:=none) #[T,T,T,T,T,T,T,T,T,T,T,T] rfl rfl (one_of HT_.out (by kernel_rfl)) (by decide) (fun K hK=>?_)
      have hs22:w19.cell? ⟨gb305,2,none⟩=some (u306002):=(blk_cell BK305.out 2).trans rfl
      have hfs22:=blk_frozen BK305.out 2
      have hns22_0:=NB303_305.out
      have hns22_1:=NB304_305.out
      have hms22_0:=NB305_303.out
      have hms22_1:=NB305_304.out
      refine skip_ (w1:=?_) (by rfl) rfl ?_ ?_
      rotate_left
      ·go_simp
       rfl
      refine hK.out _ _ ?_
      clear hK K
      refine done_ (done_of HT_.out (by kernel_rfl)) ?_
      try go_wp2
      go_roundg k1
      case measure=>have:=HK1.out;omega
      case rel=>exact⟨(wrap64 (x4_1+1)),(y312),(.slice Ao21 y312.length co21),(by first|rfl|(simp;done)|(simp [*];done)),H',⟨by have:=HK1.out;omega⟩,⟨by(with_reducible repeat (first|apply Kd.R_alloc|apply Kd.R_drewN|apply Kd.R_drew));exact Kd.R_mono (Kd.R_far (p:=⟨gb305,2,none⟩) (Kd.R_mono HO314.out (fun k_ hk=>(⟨hk,hk.2⟩ : _∧k_≠gb305))) (fun _ hk=>hk.2) (.slice Ao21 y312.length co21)) (fun _ hk=>⟨hk.1.1,hk.1.2⟩)⟩,⟨by(with_reducible repeat (first|refine blk_drewN ?_ _|refine blk_drew ?_|refine blk_alloc ?_ _));refine blk_far ?_ NB303_305.out _;(with_reducible repeat (first|refine blk_drewN ?_ _|refine blk_drew ?_|refine blk_alloc ?_ _));exact BK303.out⟩,⟨by(with_reducible repeat (first|refine blk_drewN ?_ _|refine blk_drew ?_|refine blk_alloc ?_ _));refine blk_far ?_ NB304_305.out _;(with_reducible repeat (first|refine blk_drewN ?_ _|refine blk_drew ?_|refine blk_alloc ?_ _));exact BK304.out⟩,⟨by(with_reducible repeat (first|refine blk_drewN ?_ _|refine blk_drew ?_|refine blk_alloc ?_ _));refine blk_put (cs:=#[.string a0_0,.string a0_1,u306002]) ?_ 2 _ rfl;(with_reducible repeat (first|refine blk_drewN ?_ _|refine blk_drew ?_|refine blk_alloc ?_ _));exact BK305.out⟩,⟨by repeat (first|(with_reducible first|exact HB.out|apply below_alloc|apply pw_below_drewN|apply below_drew1|refine below_set ?_ GE303.out|refine below_set ?_ GE304.out|refine below_set ?_ GE305.out)|exact HB.out)⟩⟩
     ·exact absurd H (by simp)
    ·exact absurd H (by simp)
   ·skip
    have c10b0:decide (x4_1<(l0_2.length:Int))=false:=decide_eq_false c10
    clear c10
    simp only [Option.some.injEq,Prod.mk.injEq] at H
    obtain⟨rfl,rfl,rfl⟩:=H
    have hnb23:=NB303_304.out
    have hnc23:=NB304_303.out
    have hnb24:=NB303_305.out
    have hnc24:=NB305_303.out
    have hcz25_0:wr.cell? ⟨gb303,0,none⟩=some (.string a0_0):=(blk_cell BK303.out 0).trans rfl
    have hcz25_1:wr.cell? ⟨gb303,1,none⟩=some (.string a0_1):=(blk_cell BK303.out 1).trans rfl
    have hcz25_2:wr.cell? ⟨gb303,2,none⟩=some (.slice A0_2 l0_2.length c0_2):=(blk_cell BK303.out 2).trans rfl
    have hfz25_0:=blk_frozen BK303.out 0
    have hfz25_1:=blk_frozen BK303.out 1
    have hfz25_2:=blk_frozen BK303.out 2
    have hnb26:=NB305_304.out
    have hnc26:=NB304_305.out
    have hcz27_0:wr.cell? ⟨gb305,0,none⟩=some (.string a0_0):=(blk_cell BK305.out 0).trans rfl
    have hcz27_1:wr.cell? ⟨gb305,1,none⟩=some (.string a0_1):=(blk_cell BK305.out 1).trans rfl
    have hcz27_2:wr.cell? ⟨gb305,2,none⟩=some (u306002):=(blk_cell BK305.out 2).trans rfl
    have hfz27_0:=blk_frozen BK305.out 0
    have hfz27_1:=blk_frozen BK305.out 1
    have hfz27_2:=blk_frozen BK305.out 2
    have hcz28_0:wr.cell? ⟨gb304,0,none⟩=some (.string (⟨#[]⟩ : ByteArray)):=(blk_cell BK304.out 0).trans rfl
    have hcz28_1:wr.cell? ⟨gb304,1,none⟩=some (.string (⟨#[]⟩ : ByteArray)):=(blk_cell BK304.out 1).trans rfl
    have hcz28_2:wr.cell? ⟨gb304,2,none⟩=some (.slice none 0 0):=(blk_cell BK304.out 2).trans rfl
    have hfz28_0:=blk_frozen BK304.out 0
    have hfz28_1:=blk_frozen BK304.out 1
    have hfz28_2:=blk_frozen BK304.out 2
    obtain⟨Ao29,co29,eo29⟩:=Kd.R_slice HO_306002.out
    subst eo29
    go_wp2
    refine bodyPost_ret (results_cell_row rfl _ _ gb304 48 #[.string a0_0,.string a0_1,.slice Ao29 x306002_1.length co29] (0,0) _ rfl (by(with_reducible repeat (first|refine blk_drewN ?_ _|refine blk_drew ?_|refine blk_alloc ?_ _));refine blk_put (cs:=#[.string a0_0,.string a0_1,.slice none 0 0]) ?_ 2 _ rfl;(with_reducible repeat (first|refine blk_drewN ?_ _|refine blk_drew ?_|refine blk_alloc ?_ _));refine blk_put (cs:=#[.string a0_0,.string (⟨#[]⟩ : ByteArray),.slice none 0 0]) ?_ 1 _ rfl;(with_reducible repeat (first|refine blk_drewN ?_ _|refine blk_drew ?_|refine blk_alloc ?_ _));refine blk_put (cs:=#[.string (⟨#[]⟩ : ByteArray),.string (⟨#[]⟩ : ByteArray),.slice none 0 0]) ?_ 0 _ rfl;(with_reducible repeat (first|refine blk_drewN ?_ _|refine blk_drew ?_|refine blk_alloc ?_ _));exact BK304.out) Tryd.underlying48 rfl (by kernel_rfl)) rfl ?_
    exact⟨_,by first|rfl|(simp [errW_none,errW_some] <;> rfl)|(simp [*,errW_none,errW_some] <;> rfl),by(with_reducible repeat (first|apply Kd.R_alloc|apply Kd.R_drewN|apply Kd.R_drew));exact Kd.R_mono (Kd.R_far (p:=⟨gb304,2,none⟩) (Kd.R_far (p:=⟨gb304,1,none⟩) (Kd.R_far (p:=⟨gb304,0,none⟩) (Kd.R_mono HO_306002.out (fun k_ hk=>(⟨hk,hk.1⟩ : _∧k_≠gb304))) (fun _ hk=>hk.2) (.string a0_0)) (fun _ hk=>hk.2) (.string a0_1)) (fun _ hk=>hk.2) (.slice Ao29 x306002_1.length co29)) (fun _ hk=>trivial),by repeat (first|(with_reducible first|exact HB.out|apply below_alloc|apply pw_below_drewN|apply below_drew1|refine below_set ?_ GE303.out|refine below_set ?_ GE304.out|refine below_set ?_ GE305.out)|exact HB.out)⟩
def stowagelaw17_ReplyNodes.f (k:Nat) (a0:Int) (a1_0:ByteArray) (a1_1:ByteArray) (l1_2:List (S42)):Option (Bool):=(stowagelaw13_Deep.f k a1_0 a1_1 l1_2 40).bind fun t316=>(if t316>40 then((stowagelaw17_awake.f k).bind fun t317=>(some t317)) else((reply_Node.f k a0 a1_0 a1_1 l1_2).bind fun bt318=>((stowagelaw13_To.f k a1_0 a1_1 l1_2).bind fun bt325=>((stowageref17_Node.f k a0 bt325.1 bt325.2.1 bt325.2.2).bind fun bt330=>((stowageref26_Same.f k bt318.1 bt318.2.1 bt318.2.2 bt330.1 bt330.2.1 bt330.2.2).bind fun t337=>(if t337=true then((stowagelaw17_awake.f k).bind fun t338=>(some t338)) else(some false)))))))
theorem stowagelaw17_ReplyNodes.mono:∀ a0 a1 a2 a3 k,LeO (stowagelaw17_ReplyNodes.f k a0 a1 a2 a3) (stowagelaw17_ReplyNodes.f (k+1) a0 a1 a2 a3):=by
 intro a0 a1 a2 a3 k
 unfold stowagelaw17_ReplyNodes.f
 repeat' first
   | (with_reducible exact reply_Node.mono _ _ _ _ _)
   | (with_reducible exact stowagelaw13_Deep.mono _ _ _ _ _)
   | (with_reducible exact stowagelaw13_To.mono _ _ _ _)
   | (with_reducible exact stowagelaw17_awake.mono _)
   | (with_reducible exact stowageref17_Node.mono _ _ _ _ _)
   | (with_reducible exact stowageref26_Same.mono _ _ _ _ _ _ _)
   | (with_reducible exact LeO.refl _)
   | (with_reducible exact LeO.none _)
   | (with_reducible refine LeO.ite ?_ ?_)
   | (with_reducible refine LeO.bind ?_ (fun _=>?_))
   | exact reply_Node.mono _ _ _ _ _
   | exact stowagelaw13_Deep.mono _ _ _ _ _
   | exact stowagelaw13_To.mono _ _ _ _
   | exact stowagelaw17_awake.mono _
   | exact stowageref17_Node.mono _ _ _ _ _
   | exact stowageref26_Same.mono _ _ _ _ _ _ _
   | exact LeO.none _
   | refine LeO.ite ?_ ?_
   | refine LeO.bind ?_ (fun _=>?_)
def stowagelaw17_ReplyNodes.T3:Bool×List (List Nat×List Nat):=(true,[([],[]),([],[]),([0,1],[0,1]),([],[]),([],[]),([4,2],[4]),([3,5,5],[3,5]),([2,6,6],[2,6]),([7,7],[7]),([8,8],[8]),([8,9],[8,9]),([10,9,0,1,2,3,4,5,6,7,8,9,10],[10])])
def stowagelaw17_ReplyNodes.B3:List Nat:=[0,0,3,0,0,23,63,127,255,511,1023,2047]
theorem stowagelaw17_ReplyNodes.tab3:rtab .any (opsOf Tryd.f6 3)=stowagelaw17_ReplyNodes.T3:=by kernel_rfl
theorem stowagelaw17_ReplyNodes.bits3:waitsOk stowagelaw17_ReplyNodes.T3.2 stowagelaw17_ReplyNodes.B3=true:=by kernel_rfl
theorem stowagelaw17_ReplyNodes.calls (k:Nat) (a0:Int) (a1_0:ByteArray) (a1_1:ByteArray) (A1_2:Option Addr) (c1_2:Nat) (l1_2:List (S42)) (r:Bool) (w:World) (hr1_2:Kd.C k42 w A1_2 l1_2.length l1_2) (hc1_2:l1_2.length≤c1_2) (hG:GOk w) (h:stowagelaw17_ReplyNodes.f k a0 a1_0 a1_1 l1_2=some r) (hr:r=true) :
  Calls Tryd.prog 6 #[.int .i64 a0,.agg #[.string a1_0,.string a1_1,.slice A1_2 l1_2.length c1_2]] w fun e w'=>e = .returned (.bool r)∧Below w.heap.size w w':=by
 have hu42:=Tryd.underlying42
 have HR1_2:=Aside0.mk hr1_2
 have HC1_2:=Aside0.mk hc1_2
 clear hr1_2 hc1_2
 have HB:=Aside0.mk (Below.refl w.heap.size w)
 unfold stowagelaw17_ReplyNodes.f at h
 have H:=h
 clear h
 replace H:=bndO H
 obtain⟨t316,A30,H⟩:=H
 have A3:=Aside0.mk A30
 clear A30
 replace H:=itO H
 rcases H with⟨c4,H⟩|⟨c4,H⟩
 ·skip
  have c4b0:decide (40<t316)=true:=decide_eq_true c4
  clear c4
  replace H:=bndO H
  obtain⟨t317,A50,H⟩:=H
  have A5:=Aside0.mk A50
  clear A50
  clear hr
  obtain rfl:=Option.some.inj H
  go_enter Tryd.func6,Tryd.ntmps6
  go_wp2_with (first|((with_reducible refine gate_dst (N:=3) rfl ?_);refine box_event ?hg (N:=3) ?hd (cs:=#[.string a1_0,.string a1_1,.slice A1_2 l1_2.length c1_2]) (t:=42) ?hr ?_;(case hd=>rfl);(case hg=>rfl);(case hr=>first|(go_simp;done)|(go_simp;rfl));intro gb315 hg w6 hbox hb;have n0_:=Aside0.mk (below_step (by repeat (first|(with_reducible first|exact HB.out|apply below_alloc|apply pw_below_drewN|apply below_drew1)|exact HB.out)) hb);have n1_:=Aside0.mk (hbox);have n2_:=Aside0.mk ((by rw [hg];exact(below_size (by repeat (first|(with_reducible first|exact HB.out|apply below_alloc|apply pw_below_drewN|apply below_drew1)|exact HB.out))):w.heap.size≤gb315));have n3_:=Aside0.mk ((by rw [hg];exact(below_size (by repeat (first|(with_reducible first|exact HB.out|apply below_alloc|apply pw_below_drewN|apply below_drew1)|exact HB.out))):w.heap.size≤gb315));clear HB;have HB:=n0_;have BK315:=n1_;have GW315:=n2_;have GE315:=n3_;clear n0_ n1_ n2_ n3_;clear hb hbox hg;have hcz7_0:w6.cell? ⟨gb315,0,none⟩=some (.string a1_0):=(blk_cell BK315.out 0).trans rfl;have hcz7_1:w6.cell? ⟨gb315,1,none⟩=some (.string a1_1):=(blk_cell BK315.out 1).trans rfl;have hcz7_2:w6.cell? ⟨gb315,2,none⟩=some (.slice A1_2 l1_2.length c1_2):=(blk_cell BK315.out 2).trans rfl;have hfz7_0:=blk_frozen BK315.out 0;have hfz7_1:=blk_frozen BK315.out 1;have hfz7_2:=blk_frozen BK315.out 2)|((with_reducible refine gate_callee (f:=17) rfl ?_);refine goesL_ (some 6) rfl rfl Tryd.func17 (by kernel_rfl) rfl #[.agg #[.string a1_0,.string a1_1,.slice A1_2 l1_2.length c1_2],.int .i64 40] rfl (by(try simp only [List.map_toArray,List.map_cons,List.map_nil]);first|done|rfl|(simp only [List.length_drop,List.length_take];rfl)) ?_;(with_reducible refine(stowagelaw13_Deep.calls k a1_0 a1_1 _ _ l1_2 40 t316 _ ?side1 ?side2 A3.out).mono ?_);(case side1=>repeat (first|exact(Kd.C_below HR1_2.out HB.out)|(with_reducible refine Kd.C_alloc ?_ _)|(with_reducible refine Kd.C_drewN ?_ _)|(with_reducible refine Kd.C_drew ?_)));(case side2=>exact HC1_2.out);rintro e w8 ⟨rfl,hb⟩;refine⟨_,rfl,?_⟩;have n0_:=Aside0.mk (blk_below (g:=gb315) (o:=.cells #[.string a1_0,.string a1_1,.slice A1_2 l1_2.length c1_2] 42 (0,0)) (by(with_reducible repeat (first|refine blk_drewN ?_ _|refine blk_drew ?_|refine blk_alloc ?_ _));exact BK315.out) hb);have n1_:=Aside0.mk (below_step (by repeat (first|(with_reducible first|exact HB.out|apply below_alloc|apply pw_below_drewN|apply below_drew1|refine below_set ?_ GE315.out)|exact HB.out)) hb);clear BK315;clear HB;have BK315:=n0_;have HB:=n1_;clear n0_ n1_;(try clear hb);(try clear hb2);(try clear hk);(try clear hi))|((with_reducible refine gate_callee (f:=12) rfl ?_);refine goesL_ (some 8) rfl rfl Tryd.func12 (by kernel_rfl) rfl #[] rfl (by(try simp only [List.map_toArray,List.map_cons,List.map_nil]);first|done|rfl|(simp only [List.length_drop,List.length_take];rfl)) ?_;(with_reducible refine(stowagelaw17_awake.calls k  t317 _ (by first|exact hG|exact gok_below hG (by repeat (first|(with_reducible first|exact HB.out|apply below_alloc|apply pw_below_drewN|apply below_drew1|refine below_set ?_ GE315.out)|exact HB.out))|exact gok_heap hG rfl|exact gok_drewN hG _|exact gok_below hG (by repeat (first|exact HB.out|exact HBW.out|exact Below.refl _ _|apply below_alloc|apply pw_below_drewN|apply below_drew1))) A5.out).mono ?_);rintro e w9 ⟨rfl,hb⟩;refine⟨_,rfl,?_⟩;have n0_:=Aside0.mk (blk_below (g:=gb315) (o:=.cells #[.string a1_0,.string a1_1,.slice A1_2 l1_2.length c1_2] 42 (0,0)) (by(with_reducible repeat (first|refine blk_drewN ?_ _|refine blk_drew ?_|refine blk_alloc ?_ _));exact BK315.out) hb);have n1_:=Aside0.mk (below_step (by repeat (first|(with_reducible first|exact HB.out|apply below_alloc|apply pw_below_drewN|apply below_drew1|refine below_set ?_ GE315.out)|exact HB.out)) hb);clear BK315;clear HB;have BK315:=n0_;have HB:=n1_;clear n0_ n1_;(try clear hb);(try clear hb2);(try clear hk);(try clear hi)))
  go_ret
  exact⟨by first|rfl|(simp [errW_none,errW_some] <;> rfl)|(simp [*,errW_none,errW_some] <;> rfl),by repeat (first|(with_reducible first|exact HB.out|apply below_alloc|apply pw_below_drewN|apply below_drew1|refine below_set ?_ GE315.out)|exact HB.out)⟩
 ·skip
  have c4b0:decide (40<t316)=false:=decide_eq_false c4
  clear c4
  replace H:=bndO H
  obtain⟨⟨t318,t319,t322⟩,A100,H⟩:=H
  dsimp only at H
  have A10:=Aside0.mk A100
  clear A100
  replace H:=bndO H
  obtain⟨⟨t325,t326,t327⟩,A110,H⟩:=H
  dsimp only at H
  have A11:=Aside0.mk A110
  clear A110
  replace H:=bndO H
  obtain⟨⟨t330,t331,t334⟩,A120,H⟩:=H
  dsimp only at H
  have A12:=Aside0.mk A120
  clear A120
  replace H:=bndO H
  obtain⟨t337,A130,H⟩:=H
  have A13:=Aside0.mk A130
  clear A130
  by_cases c14:t337=true
  ·subst c14
   replace H:=itT H
   replace H:=bndO H
   obtain⟨t338,A150,H⟩:=H
   have A15:=Aside0.mk A150
   clear A150
   clear hr
   obtain rfl:=Option.some.inj H
   go_enter Tryd.func6,Tryd.ntmps6
   try go_wp2_with (first|((with_reducible refine gate_dst (N:=3) rfl ?_);refine box_event ?hg (N:=3) ?hd (cs:=#[.string a1_0,.string a1_1,.slice A1_2 l1_2.length c1_2]) (t:=42) ?hr ?_;(case hd=>rfl);(case hg=>rfl);(case hr=>first|(go_simp;done)|(go_simp;rfl));intro gb315 hg w16 hbox hb;have n0_:=Aside0.mk (below_step (by repeat (first|(with_reducible first|exact HB.out|apply below_alloc|apply pw_below_drewN|apply below_drew1)|exact HB.out)) hb);have n1_:=Aside0.mk (hbox);have n2_:=Aside0.mk ((by rw [hg];exact(below_size (by repeat (first|(with_reducible first|exact HB.out|apply below_alloc|apply pw_below_drewN|apply below_drew1)|exact HB.out))):w.heap.size≤gb315));have n3_:=Aside0.mk ((by rw [hg];exact(below_size (by repeat (first|(with_reducible first|exact HB.out|apply below_alloc|apply pw_below_drewN|apply below_drew1)|exact HB.out))):w.heap.size≤gb315));clear HB;have HB:=n0_;have BK315:=n1_;have GW315:=n2_;have GE315:=n3_;clear n0_ n1_ n2_ n3_;clear hb hbox hg;have hcz17_0:w16.cell? ⟨gb315,0,none⟩=some (.string a1_0):=(blk_cell BK315.out 0).trans rfl;have hcz17_1:w16.cell? ⟨gb315,1,none⟩=some (.string a1_1):=(blk_cell BK315.out 1).trans rfl;have hcz17_2:w16.cell? ⟨gb315,2,none⟩=some (.slice A1_2 l1_2.length c1_2):=(blk_cell BK315.out 2).trans rfl;have hfz17_0:=blk_frozen BK315.out 0;have hfz17_1:=blk_frozen BK315.out 1;have hfz17_2:=blk_frozen BK315.out 2)|((with_reducible refine gate_callee (f:=17) rfl ?_);refine goesL_ (some 6) rfl rfl Tryd.func17 (by kernel_rfl) rfl #[.agg #[.string a1_0,.string a1_1,.slice A1_2 l1_2.length c1_2],.int .i64 40] rfl (by(try simp only [List.map_toArray,List.map_cons,List.map_nil]);first|done|rfl|(simp only [List.length_drop,List.length_take];rfl)) ?_;(with_reducible refine(stowagelaw13_Deep.calls k a1_0 a1_1 _ _ l1_2 40 t316 _ ?side1 ?side2 A3.out).mono ?_);(case side1=>repeat (first|exact(Kd.C_below HR1_2.out HB.out)|(with_reducible refine Kd.C_alloc ?_ _)|(with_reducible refine Kd.C_drewN ?_ _)|(with_reducible refine Kd.C_drew ?_)));(case side2=>exact HC1_2.out);rintro e w18 ⟨rfl,hb⟩;refine⟨_,rfl,?_⟩;have n0_:=Aside0.mk (blk_below (g:=gb315) (o:=.cells #[.string a1_0,.string a1_1,.slice A1_2 l1_2.length c1_2] 42 (0,0)) (by(with_reducible repeat (first|refine blk_drewN ?_ _|refine blk_drew ?_|refine blk_alloc ?_ _));exact BK315.out) hb);have n1_:=Aside0.mk (below_step (by repeat (first|(with_reducible first|exact HB.out|apply below_alloc|apply pw_below_drewN|apply below_drew1|refine below_set ?_ GE315.out)|exact HB.out)) hb);clear BK315;clear HB;have BK315:=n0_;have HB:=n1_;clear n0_ n1_;(try clear hb);(try clear hb2);(try clear hk);(try clear hi)))
   have n0_:=Aside0.mk (blk_drew BK315.out)
   have n1_:=Aside0.mk (below_drew1 HB.out)
   clear BK315
   clear HB
   have BK315:=n0_
   have HB:=n1_
   clear n0_ n1_
   refine start_ (n:=12) (S:=fun w'=>w'.cell? ⟨gb315,0,none⟩=some (.string a1_0)∧w'.cell? ⟨gb315,1,none⟩=some (.string a1_1)∧w'.cell? ⟨gb315,2,none⟩=some (.slice A1_2 l1_2.length c1_2)) (ds:=[]) #[F,F,F,F,F,F,F,F,F,F,F,F] (by kernel_rfl) rfl rfl ⟨(blk_cell BK315.out 0).trans rfl,(blk_cell BK315.out 1).trans rfl,(blk_cell BK315.out 2).trans rfl⟩ (fun hHeld=>?_);refine with_tabW stowagelaw17_ReplyNodes.tab3 stowagelaw17_ReplyNodes.bits3 (fun HT_ HW_=>?_)
   generalize w18.drew=w19 at BK315 HB hHeld ⊢
   refine pure_ (i:=0) (N:=some 9) (v:=?_) (a':=?_) #[T,F,F,F,F,F,F,F,F,F,F,F] rfl rfl (any_of HT_.out (by kernel_rfl)) (fun _ _ _ h=>h) (Or.inl ⟨by rfl,?_⟩) ?_ ?_
   rotate_left
   ·intro w'
    go_simp
    with_reducible rfl
   rotate_left
   ·simp only [Act.put,List.setIfInBounds_toArray,List.set_cons_zero,List.set_cons_succ,i64_w,i32_w]
    rfl
   refine pure_ (i:=3) (N:=some 12) (v:=?_) (a':=?_) #[T,F,F,T,F,F,F,F,F,F,F,F] rfl rfl (any_of HT_.out (by kernel_rfl)) (fun _ _ _ h=>h) (Or.inl ⟨by rfl,?_⟩) ?_ ?_
   rotate_left
   ·intro w'
    go_simp
    with_reducible rfl
   rotate_left
   ·simp only [Act.put,List.setIfInBounds_toArray,List.set_cons_zero,List.set_cons_succ,i64_w,i32_w]
    rfl
   refine take_ (i:=1) (N:=some 10) (v:=?_) (a':=?_) #[T,T,F,T,F,F,F,F,F,F,F,F] rfl rfl (take_ofW HT_.out HW_.out (by kernel_rfl)) (fun _ _ _ h=>h) (Or.inl ⟨by rfl,?_⟩) hHeld ?_ ?_
   rotate_left
   ·rintro w' ⟨s0,s1,s2⟩
    go_simp
    with_reducible rfl
   rotate_left
   ·simp only [Act.put,List.setIfInBounds_toArray,List.set_cons_zero,List.set_cons_succ,i64_w,i32_w]
    rfl
   refine take_ (i:=4) (N:=some 13) (v:=?_) (a':=?_) #[T,T,F,T,T,F,F,F,F,F,F,F] rfl rfl (take_ofW HT_.out HW_.out (by kernel_rfl)) (fun _ _ _ h=>h) (Or.inl ⟨by rfl,?_⟩) hHeld ?_ ?_
   rotate_left
   ·rintro w' ⟨s0,s1,s2⟩
    go_simp
    with_reducible rfl
   rotate_left
   ·simp only [Act.put,List.setIfInBounds_toArray,List.set_cons_zero,List.set_cons_succ,i64_w,i32_w]
    rfl
   refine one_ (i:=2) (N:=some 11) #[T,T,T,T,T,F,F,F,F,F,F,F] rfl rfl (one_of HT_.out (by kernel_rfl)) (by decide) (fun K hK=>?_)
   refine goes_ Tryd.func18 (by kernel_rfl) rfl #[.int .i64 a0,.agg #[.string a1_0,.string a1_1,.slice A1_2 l1_2.length c1_2]] (by rfl) rfl rfl (by(try simp only [List.map_toArray,List.map_cons,List.map_nil]);first|done|rfl|(simp only [List.length_drop,List.length_take];rfl)) ?_
   with_reducible refine(reply_Node.calls k a0 a1_0 a1_1 _ _ l1_2 t318 t319 t322 _ ?side1 ?side2 A10.out).mono ?_
   (case side1=>repeat (first|exact(Kd.C_below HR1_2.out HB.out)|(with_reducible refine Kd.C_alloc ?_ _)|(with_reducible refine Kd.C_drewN ?_ _)|(with_reducible refine Kd.C_drew ?_)))
   (case side2=>exact HC1_2.out)
   rintro e w20 ⟨v320,v323,rfl,ho0,ho1,hb⟩
   refine⟨_,rfl,?_⟩
   have n0_:=Aside0.mk (Kd.R_lower (Kd.R_mono (ok':=fun k_=>True) ho0 (fun _ hk_=>trivial)) (below_size (by repeat (first|(with_reducible first|exact HB.out|apply below_alloc|apply pw_below_drewN|apply below_drew1|refine below_set ?_ GE315.out)|exact HB.out))))
   have n1_:=Aside0.mk (Kd.V_lower (Kd.V_mono (ok':=fun k_=>some k_≠(v320:Value).ownBlock∧k_≠gb315) ho1 (fun k_ hk_=>⟨hk_.2,(Kd.freshB (g:=gb315) (o:=.cells #[.string a1_0,.string a1_1,.slice A1_2 l1_2.length c1_2] 42 (0,0)) (by(with_reducible repeat (first|refine blk_drewN ?_ _|refine blk_drew ?_|refine blk_alloc ?_ _));exact BK315.out) k_ hk_.1)⟩)) (below_size (by repeat (first|(with_reducible first|exact HB.out|apply below_alloc|apply pw_below_drewN|apply below_drew1|refine below_set ?_ GE315.out)|exact HB.out))))
   have n2_:=Aside0.mk (blk_below (g:=gb315) (o:=.cells #[.string a1_0,.string a1_1,.slice A1_2 l1_2.length c1_2] 42 (0,0)) (by(with_reducible repeat (first|refine blk_drewN ?_ _|refine blk_drew ?_|refine blk_alloc ?_ _));exact BK315.out) hb)
   have n3_:=Aside0.mk (below_step (by repeat (first|(with_reducible first|exact HB.out|apply below_alloc|apply pw_below_drewN|apply below_drew1|refine below_set ?_ GE315.out)|exact HB.out)) hb)
   clear BK315
   clear HB
   have HO321:=n0_
   have HO324:=n1_
   have BK315:=n2_
   have HB:=n3_
   clear n0_ n1_ n2_ n3_
   (try clear hb)
   (try clear hb2)
   (try clear hk)
   (try clear hi)
   (try clear ho0)
   (try clear ho1)
   refine hK.out _ _ ⟨(blk_cell BK315.out 0).trans rfl,(blk_cell BK315.out 1).trans rfl,(blk_cell BK315.out 2).trans rfl⟩ (fun hHeld=>?_)
   clear hK K
   refine norm_ (a':=?_) ?_ ?_
   rotate_left
   ·show Act.put _ (some 11) _=_
    simp only [Act.put,List.setIfInBounds_toArray,List.set_cons_zero,List.set_cons_succ,i64_w,i32_w]
    rfl
   refine one_ (i:=5) (N:=some 14) #[T,T,T,T,T,T,F,F,F,F,F,F] rfl rfl (one_of HT_.out (by kernel_rfl)) (by decide) (fun K hK=>?_)
   refine goes_ Tryd.func20 (by kernel_rfl) rfl #[.agg #[.string a1_0,.string a1_1,.slice A1_2 l1_2.length c1_2]] (by rfl) rfl rfl (by(try simp only [List.map_toArray,List.map_cons,List.map_nil]);first|done|rfl|(simp only [List.length_drop,List.length_take];rfl)) ?_
   with_reducible refine(stowagelaw13_To.calls k a1_0 a1_1 _ _ l1_2 t325 t326 t327 _ ?side1 ?side2 A11.out).mono ?_
   (case side1=>repeat (first|exact(Kd.C_below HR1_2.out HB.out)|(with_reducible refine Kd.C_alloc ?_ _)|(with_reducible refine Kd.C_drewN ?_ _)|(with_reducible refine Kd.C_drew ?_)))
   (case side2=>exact HC1_2.out)
   rintro e w21 ⟨v328,rfl,ho0,hb⟩
   refine⟨_,rfl,?_⟩
   have n0_:=Aside0.mk (Kd.R_below (by(with_reducible repeat (first|apply Kd.R_alloc|apply Kd.R_drewN|apply Kd.R_drew));exact HO321.out) hb)
   have n1_:=Aside0.mk (Kd.V_elder' (by(with_reducible repeat (first|apply Kd.V_alloc|apply Kd.V_drewN|apply Kd.V_drew));exact HO324.out) (by first|exact Kd.R_base ho0|exact Kd.R_base ho0) hb)
   have n2_:=Aside0.mk (Kd.R_lower ho0 (below_size (by repeat (first|(with_reducible first|exact HB.out|apply below_alloc|apply pw_below_drewN|apply below_drew1|refine below_set ?_ GE315.out)|exact HB.out))))
   have n3_:=Aside0.mk (blk_below (g:=gb315) (o:=.cells #[.string a1_0,.string a1_1,.slice A1_2 l1_2.length c1_2] 42 (0,0)) (by(with_reducible repeat (first|refine blk_drewN ?_ _|refine blk_drew ?_|refine blk_alloc ?_ _));exact BK315.out) hb)
   have n4_:=Aside0.mk (below_step (by repeat (first|(with_reducible first|exact HB.out|apply below_alloc|apply pw_below_drewN|apply below_drew1|refine below_set ?_ GE315.out)|exact HB.out)) hb)
   clear HO321
   clear HO324
   clear BK315
   clear HB
   have HO321:=n0_
   have HO324:=n1_
   have HO329:=n2_
   have BK315:=n3_
   have HB:=n4_
   clear n0_ n1_ n2_ n3_ n4_
   (try clear hb)
   (try clear hb2)
   (try clear hk)
   (try clear hi)
   (try clear ho0)
   obtain⟨Ao22,co22,eo22⟩:=Kd.R_slice HO329.out
   (first|subst eo22|(injection eo22 with f1_ f2_ f3_;have f4_:=f1_.symm;have f5_:=f3_.symm;clear f1_ f2_ f3_;subst f4_;subst f5_))
   refine hK.out _ _ ⟨(blk_cell BK315.out 0).trans rfl,(blk_cell BK315.out 1).trans rfl,(blk_cell BK315.out 2).trans rfl⟩ (fun hHeld=>?_)
   clear hK K
   refine norm_ (a':=?_) ?_ ?_
   rotate_left
   ·show Act.put _ (some 14) _=_
    simp only [Act.put,List.setIfInBounds_toArray,List.set_cons_zero,List.set_cons_succ,i64_w,i32_w]
    rfl
   refine one_ (i:=6) (N:=some 15) #[T,T,T,T,T,T,T,F,F,F,F,F] rfl rfl (one_of HT_.out (by kernel_rfl)) (by decide) (fun K hK=>?_)
   refine goes_ Tryd.func19 (by kernel_rfl) rfl #[.int .i64 a0,.agg #[.string t325,.string t326,.slice Ao22 t327.length co22]] (by rfl) rfl rfl (by(try simp only [List.map_toArray,List.map_cons,List.map_nil]);first|done|rfl|(simp only [List.length_drop,List.length_take];rfl)) ?_
   with_reducible refine(stowageref17_Node.calls k a0 t325 t326 _ _ t327 t330 t331 t334 _ ?side1 ?side2 A12.out).mono ?_
   (case side1=>repeat (first|exact(Kd.R_reads' HO329.out).2.2|(with_reducible refine Kd.C_alloc ?_ _)|(with_reducible refine Kd.C_drewN ?_ _)|(with_reducible refine Kd.C_drew ?_)))
   (case side2=>exact(Kd.R_reads' HO329.out).2.1)
   rintro e w23 ⟨v332,v335,rfl,ho0,ho1,hb⟩
   refine⟨_,rfl,?_⟩
   have n0_:=Aside0.mk (Kd.R_elder' (by(with_reducible repeat (first|apply Kd.R_alloc|apply Kd.R_drewN|apply Kd.R_drew));exact HO321.out) (by first|exact Kd.R_base ho0|exact Kd.R_base ho0) hb)
   have n1_:=Aside0.mk (Kd.V_elder' (by(with_reducible repeat (first|apply Kd.V_alloc|apply Kd.V_drewN|apply Kd.V_drew));exact HO324.out) (by first|exact Kd.R_base ho0|exact Kd.R_base ho0) hb)
   have n2_:=Aside0.mk (Kd.R_below (by(with_reducible repeat (first|apply Kd.R_alloc|apply Kd.R_drewN|apply Kd.R_drew));exact HO329.out) hb)
   have n3_:=Aside0.mk (Kd.R_lower (Kd.R_new' (Kd.R_mono (ok':=fun k_=>True) ho0 (fun _ hk_=>trivial)) (Kd.R_lt (by(with_reducible repeat (first|apply Kd.R_alloc|apply Kd.R_drewN|apply Kd.R_drew));exact HO321.out))) (below_size (by repeat (first|(with_reducible first|exact HB.out|apply below_alloc|apply pw_below_drewN|apply below_drew1|refine below_set ?_ GE315.out)|exact HB.out))))
   have n4_:=Aside0.mk (Kd.V_lower (Kd.V_mono (ok':=fun k_=>some k_≠(v332:Value).ownBlock∧some k_≠(v320:Value).ownBlock∧some k_≠(.slice Ao22 t327.length co22:Value).ownBlock∧k_≠gb315) ho1 (fun k_ hk_=>⟨hk_.2,(Kd.fresh' (Kd.R_lt (by(with_reducible repeat (first|apply Kd.R_alloc|apply Kd.R_drewN|apply Kd.R_drew));exact HO321.out)) k_ hk_.1),(Kd.fresh' (Kd.R_lt (by(with_reducible repeat (first|apply Kd.R_alloc|apply Kd.R_drewN|apply Kd.R_drew));exact HO329.out)) k_ hk_.1),(Kd.freshB (g:=gb315) (o:=.cells #[.string a1_0,.string a1_1,.slice A1_2 l1_2.length c1_2] 42 (0,0)) (by(with_reducible repeat (first|refine blk_drewN ?_ _|refine blk_drew ?_|refine blk_alloc ?_ _));exact BK315.out) k_ hk_.1)⟩)) (below_size (by repeat (first|(with_reducible first|exact HB.out|apply below_alloc|apply pw_below_drewN|apply below_drew1|refine below_set ?_ GE315.out)|exact HB.out))))
   have n5_:=Aside0.mk (blk_below (g:=gb315) (o:=.cells #[.string a1_0,.string a1_1,.slice A1_2 l1_2.length c1_2] 42 (0,0)) (by(with_reducible repeat (first|refine blk_drewN ?_ _|refine blk_drew ?_|refine blk_alloc ?_ _));exact BK315.out) hb)
   have n6_:=Aside0.mk (below_step (by repeat (first|(with_reducible first|exact HB.out|apply below_alloc|apply pw_below_drewN|apply below_drew1|refine below_set ?_ GE315.out)|exact HB.out)) hb)
   clear HO321
   clear HO324
   clear HO329
   clear BK315
   clear HB
   have HO321:=n0_
   have HO324:=n1_
   have HO329:=n2_
   have HO333:=n3_
   have HO336:=n4_
   have BK315:=n5_
   have HB:=n6_
   clear n0_ n1_ n2_ n3_ n4_ n5_ n6_
   (try clear hb)
   (try clear hb2)
   (try clear hk)
   (try clear hi)
   (try clear ho0)
   (try clear ho1)
   obtain⟨Ao24,co24,eo24⟩:=Kd.R_slice HO321.out
   (first|subst eo24|(injection eo24 with f1_ f2_ f3_;have f4_:=f1_.symm;have f5_:=f3_.symm;clear f1_ f2_ f3_;subst f4_;subst f5_))
   obtain⟨Ao25,co25,eo25⟩:=Kd.V_slice HO324.out
   (first|subst eo25|(injection eo25 with f1_ f2_ f3_;have f4_:=f1_.symm;have f5_:=f3_.symm;clear f1_ f2_ f3_;subst f4_;subst f5_))
   obtain⟨Ao26,co26,eo26⟩:=Kd.R_slice HO333.out
   (first|subst eo26|(injection eo26 with f1_ f2_ f3_;have f4_:=f1_.symm;have f5_:=f3_.symm;clear f1_ f2_ f3_;subst f4_;subst f5_))
   obtain⟨Ao27,co27,eo27⟩:=Kd.V_slice HO336.out
   (first|subst eo27|(injection eo27 with f1_ f2_ f3_;have f4_:=f1_.symm;have f5_:=f3_.symm;clear f1_ f2_ f3_;subst f4_;subst f5_))
   refine hK.out _ _ ⟨(blk_cell BK315.out 0).trans rfl,(blk_cell BK315.out 1).trans rfl,(blk_cell BK315.out 2).trans rfl⟩ (fun hHeld=>?_)
   clear hK K
   refine norm_ (a':=?_) ?_ ?_
   rotate_left
   ·show Act.put _ (some 15) _=_
    simp only [Act.put,List.setIfInBounds_toArray,List.set_cons_zero,List.set_cons_succ,i64_w,i32_w]
    rfl
   refine one_ (i:=7) (N:=some 16) #[T,T,T,T,T,T,T,T,F,F,F,F] rfl rfl (one_of HT_.out (by kernel_rfl)) (by decide) (fun K hK=>?_)
   refine goes_ Tryd.func11 (by kernel_rfl) rfl #[.agg #[.int .i64 t318,.slice Ao24 t319.length co24,.slice Ao25 t322.length co25],.agg #[.int .i64 t330,.slice Ao26 t331.length co26,.slice Ao27 t334.length co27]] (by rfl) rfl rfl (by(try simp only [List.map_toArray,List.map_cons,List.map_nil]);first|done|rfl|(simp only [List.length_drop,List.length_take];rfl)) ?_
   with_reducible refine(stowageref26_Same.calls k t318 _ _ t319 _ _ t322 t330 _ _ t331 _ _ t334 true _ ?side1 ?side2 ?side3 ?side4 ?side5 ?side6 ?side7 ?side8 A13.out).mono ?_
   (case side1=>repeat (first|exact(Kd.R_reads' HO321.out).2.2|(with_reducible refine Kd.C_alloc ?_ _)|(with_reducible refine Kd.C_drewN ?_ _)|(with_reducible refine Kd.C_drew ?_)))
   (case side2=>exact(Kd.R_reads' HO321.out).2.1)
   (case side3=>repeat (first|exact(Kd.V_reads' HO324.out).2.2|(with_reducible refine Kd.C_alloc ?_ _)|(with_reducible refine Kd.C_drewN ?_ _)|(with_reducible refine Kd.C_drew ?_)))
   (case side4=>exact(Kd.V_reads' HO324.out).2.1)
   (case side5=>repeat (first|exact(Kd.R_reads' HO333.out).2.2|(with_reducible refine Kd.C_alloc ?_ _)|(with_reducible refine Kd.C_drewN ?_ _)|(with_reducible refine Kd.C_drew ?_)))
   (case side6=>exact(Kd.R_reads' HO333.out).2.1)
   (case side7=>repeat (first|exact(Kd.V_reads' HO336.out).2.2|(with_reducible refine Kd.C_alloc ?_ _)|(with_reducible refine Kd.C_drewN ?_ _)|(with_reducible refine Kd.C_drew ?_)))
   (case side8=>exact(Kd.V_reads' HO336.out).2.1)
   rintro e w28 ⟨rfl,hb⟩
   refine⟨_,rfl,?_⟩
   have n0_:=Aside0.mk (Kd.R_below (by(with_reducible repeat (first|apply Kd.R_alloc|apply Kd.R_drewN|apply Kd.R_drew));exact HO321.out) hb)
   have n1_:=Aside0.mk (Kd.V_below (by(with_reducible repeat (first|apply Kd.V_alloc|apply Kd.V_drewN|apply Kd.V_drew));exact HO324.out) hb)
   have n2_:=Aside0.mk (Kd.R_below (by(with_reducible repeat (first|apply Kd.R_alloc|apply Kd.R_drewN|apply Kd.R_drew));exact HO329.out) hb)
   have n3_:=Aside0.mk (Kd.R_below (by(with_reducible repeat (first|apply Kd.R_alloc|apply Kd.R_drewN|apply Kd.R_drew));exact HO333.out) hb)
   have n4_:=Aside0.mk (Kd.V_below (by(with_reducible repeat (first|apply Kd.V_alloc|apply Kd.V_drewN|apply Kd.V_drew));exact HO336.out) hb)
   have n5_:=Aside0.mk (blk_below (g:=gb315) (o:=.cells #[.string a1_0,.string a1_1,.slice A1_2 l1_2.length c1_2] 42 (0,0)) (by(with_reducible repeat (first|refine blk_drewN ?_ _|refine blk_drew ?_|refine blk_alloc ?_ _));exact BK315.out) hb)
   have n6_:=Aside0.mk (below_step (by repeat (first|(with_reducible first|exact HB.out|apply below_alloc|apply pw_below_drewN|apply below_drew1|refine below_set ?_ GE315.out)|exact HB.out)) hb)
   clear HO321
   clear HO324
   clear HO329
   clear HO333
   clear HO336
   clear BK315
   clear HB
   have HO321:=n0_
   have HO324:=n1_
   have HO329:=n2_
   have HO333:=n3_
   have HO336:=n4_
   have BK315:=n5_
   have HB:=n6_
   clear n0_ n1_ n2_ n3_ n4_ n5_ n6_
   (try clear hb)
   (try clear hb2)
   (try clear hk)
   (try clear hi)
   refine hK.out _ _ ⟨(blk_cell BK315.out 0).trans rfl,(blk_cell BK315.out 1).trans rfl,(blk_cell BK315.out 2).trans rfl⟩ (fun hHeld=>?_)
   clear hK K
   refine norm_ (a':=?_) ?_ ?_
   rotate_left
   ·show Act.put _ (some 16) _=_
    simp only [Act.put,List.setIfInBounds_toArray,List.set_cons_zero,List.set_cons_succ,i64_w,i32_w]
    rfl
   refine pure_ (i:=8) (N:=some 17) (v:=?_) (a':=?_) #[T,T,T,T,T,T,T,T,T,F,F,F] rfl rfl (any_of HT_.out (by kernel_rfl)) (fun _ _ _ h=>h) (Or.inl ⟨by rfl,?_⟩) ?_ ?_
   rotate_left
   ·intro w'
    go_simp
    with_reducible rfl
   rotate_left
   ·simp only [Act.put,List.setIfInBounds_toArray,List.set_cons_zero,List.set_cons_succ,i64_w,i32_w]
    rfl
   refine one_ (i:=9) (N:=some 18) #[T,T,T,T,T,T,T,T,T,T,F,F] rfl rfl (one_of HT_.out (by kernel_rfl)) (by decide) (fun K hK=>?_)
   refine goes_ Tryd.func12 (by kernel_rfl) rfl #[] (by rfl) rfl rfl (by(try simp only [List.map_toArray,List.map_cons,List.map_nil]);first|done|rfl|(simp only [List.length_drop,List.length_take];rfl)) ?_
   with_reducible refine(stowagelaw17_awake.calls k  t338 _ (by first|exact hG|exact gok_below hG (by repeat (first|(with_reducible first|exact HB.out|apply below_alloc|apply pw_below_drewN|apply below_drew1|refine below_set ?_ GE315.out)|exact HB.out))|exact gok_heap hG rfl|exact gok_drewN hG _|exact gok_below hG (by repeat (first|exact HB.out|exact HBW.out|exact Below.refl _ _|apply below_alloc|apply pw_below_drewN|apply below_drew1))) A15.out).mono ?_
   rintro e w29 ⟨rfl,hb⟩
   refine⟨_,rfl,?_⟩
   have n0_:=Aside0.mk (Kd.R_below (by(with_reducible repeat (first|apply Kd.R_alloc|apply Kd.R_drewN|apply Kd.R_drew));exact HO321.out) hb)
   have n1_:=Aside0.mk (Kd.V_below (by(with_reducible repeat (first|apply Kd.V_alloc|apply Kd.V_drewN|apply Kd.V_drew));exact HO324.out) hb)
   have n2_:=Aside0.mk (Kd.R_below (by(with_reducible repeat (first|apply Kd.R_alloc|apply Kd.R_drewN|apply Kd.R_drew));exact HO329.out) hb)
   have n3_:=Aside0.mk (Kd.R_below (by(with_reducible repeat (first|apply Kd.R_alloc|apply Kd.R_drewN|apply Kd.R_drew));exact HO333.out) hb)
   have n4_:=Aside0.mk (Kd.V_below (by(with_reducible repeat (first|apply Kd.V_alloc|apply Kd.V_drewN|apply Kd.V_drew));exact HO336.out) hb)
   have n5_:=Aside0.mk (blk_below (g:=gb315) (o:=.cells #[.string a1_0,.string a1_1,.slice A1_2 l1_2.length c1_2] 42 (0,0)) (by(with_reducible repeat (first|refine blk_drewN ?_ _|refine blk_drew ?_|refine blk_alloc ?_ _));exact BK315.out) hb)
   have n6_:=Aside0.mk (below_step (by repeat (first|(with_reducible first|exact HB.out|apply below_alloc|apply pw_below_drewN|apply below_drew1|refine below_set ?_ GE315.out)|exact HB.out)) hb)
   clear HO321
   clear HO324
   clear HO329
   clear HO333
   clear HO336
   clear BK315
   clear HB
   have HO321:=n0_
   have HO324:=n1_
   have HO329:=n2_
   have HO333:=n3_
   have HO336:=n4_
   have BK315:=n5_
   have HB:=n6_
   clear n0_ n1_ n2_ n3_ n4_ n5_ n6_
   (try clear hb)
   (try clear hb2)
   (try clear hk)
   (try clear hi)
   refine hK.out _ _ ⟨(blk_cell BK315.out 0).trans rfl,(blk_cell BK315.out 1).trans rfl,(blk_cell BK315.out 2).trans rfl⟩ (fun hHeld=>?_)
   clear hK K
   refine norm_ (a':=?_) ?_ ?_
   rotate_left
   ·show Act.put _ (some 18) _=_
    simp only [Act.put,List.setIfInBounds_toArray,List.set_cons_zero,List.set_cons_succ,i64_w,i32_w]
    rfl
   refine pure_ (i:=10) (N:=some 19) (v:=?_) (a':=?_) #[T,T,T,T,T,T,T,T,T,T,T,F] rfl rfl (any_of HT_.out (by kernel_rfl)) (fun _ _ _ h=>h) (Or.inl ⟨by rfl,?_⟩) ?_ ?_
   rotate_left
   ·intro w'
    go_simp
    with_reducible rfl
   rotate_left
   ·simp only [Act.put,List.setIfInBounds_toArray,List.set_cons_zero,List.set_cons_succ,i64_w,i32_w]
    rfl
   refine pure_ (i:=11) (N:=some 4) (v:=?_) (a':=?_) #[T,T,T,T,T,T,T,T,T,T,T,T] rfl rfl (any_of HT_.out (by kernel_rfl)) (fun _ _ _ h=>h) (Or.inl ⟨by rfl,?_⟩) ?_ ?_
   rotate_left
   ·intro w'
    go_simp
    with_reducible rfl
   rotate_left
   ·simp only [Act.put,List.setIfInBounds_toArray,List.set_cons_zero,List.set_cons_succ,i64_w,i32_w]
    rfl
   refine done_ (done_of HT_.out (by kernel_rfl)) ?_
   try go_wp2
   go_ret
   exact⟨by first|rfl|(simp [errW_none,errW_some] <;> rfl)|(simp [*,errW_none,errW_some] <;> rfl),by repeat (first|(with_reducible first|exact HB.out|apply below_alloc|apply pw_below_drewN|apply below_drew1|refine below_set ?_ GE315.out)|exact HB.out)⟩
  ·replace c14:=Bool.eq_false_iff.mpr c14
   subst c14
   replace H:=itF H
   rw [hr] at H
   exact absurd H (by simp)
end Go.Proofs.YtfjidcmegacibaaDoor.Q
