/- A part of the proof of the seat's laws. No condition beyond those in the theorems. -/
import Derived.Test.YtfjidcmegacibaaDoorZSqzB
import Derived.Test.YtfjidcmegacibaaDoorZQ0g11
import Derived.Lib.Hide
import Derived.Test.YtfjidcmegacibaaDoorZQ59
import Derived.Test.YtfjidcmegacibaaDoorZQ91
import Derived.Test.YtfjidcmegacibaaDoorZQ31g8
import Derived.Test.YtfjidcmegacibaaDoorZQueB
import Derived.Test.YtfjidcmegacibaaDoorZQ12g5
import Derived.Test.YtfjidcmegacibaaDoorZQ30
open Bool renaming true→T,false→F

namespace Go.Proofs.YtfjidcmegacibaaDoor.Q
open Go.RowKit Go.Proofs.YtfjidcmegacibaaDoorW.PrintWords Go.Proofs.YtfjidcmegacibaaDoorW.PrintLast Go.Proofs.YtfjidcmegacibaaDoorW.PrintMore
set_option linter.unusedVariables false
set_option linter.unusedSimpArgs false
set_option maxHeartbeats 8000000
set_option maxRecDepth 100000
attribute [local go_sem] max2_int min2_int max_two min_two max_three min_three max_four min_four   
attribute [local go_sem high] eqA52
mutual
def stowageref26_Same.j0:Nat→Bool→Int→List (S52)→List Int→Int→List (S52)→List Int→Option (Bool)
  | 0,_,_,_,_,_,_,_=>none
  | k+1,x28,x389000,x389001,x389002,x390000,x390001,x390002=>if x28=true then(some false) else(stowageref26_Same.l0 k 0 x389000 x389001 x389002 x390000 x390001 x390002)
def stowageref26_Same.l0:Nat→Int→Int→List (S52)→List Int→Int→List (S52)→List Int→Option (Bool)
  | 0,_,_,_,_,_,_,_=>none
  | k+1,x5,x389000,x389001,x389002,x390000,x390001,x390002=>if x5<(x389001.length:Int) then(if 0≤x5 then(if x5<(x390001.length:Int) then(if(!((((rd_T52 x389001 x5).f0).toList) == (((rd_T52 x390001 x5).f0).toList)) || (!((((rd_T52 x389001 x5).f1).toList) == (((rd_T52 x390001 x5).f1).toList))))=true then(some false) else(stowageref26_Same.l0 k (wrap64 (x5+1)) x389000 x389001 x389002 x390000 x390001 x390002)) else(none)) else(none)) else(some true)
end
def stowageref26_Same.f (k:Nat) (a0_0:Int) (l0_1:List (S52)) (l0_2:List Int) (a1_0:Int) (l1_1:List (S52)) (l1_2:List Int):Option (Bool):=if a0_0=a1_0 then(if(l0_1.length:Int)=(l1_1.length:Int) then(stowageref26_Same.j0 k ((strOfNums l0_2).toList != (strOfNums l1_2).toList) a0_0 l0_1 l0_2 a1_0 l1_1 l1_2) else(stowageref26_Same.j0 k true a0_0 l0_1 l0_2 a1_0 l1_1 l1_2)) else(stowageref26_Same.j0 k true a0_0 l0_1 l0_2 a1_0 l1_1 l1_2)
theorem stowageref26_Same.mono_l:∀ k,(∀ y0 y1 y2 y3 y4 y5 y6,LeO (stowageref26_Same.j0 k y0 y1 y2 y3 y4 y5 y6) (stowageref26_Same.j0 (k+1) y0 y1 y2 y3 y4 y5 y6))∧(∀ y0 y1 y2 y3 y4 y5 y6,LeO (stowageref26_Same.l0 k y0 y1 y2 y3 y4 y5 y6) (stowageref26_Same.l0 (k+1) y0 y1 y2 y3 y4 y5 y6))
  | 0=>⟨fun _ _ _ _ _ _ _ r h=>by simp [stowageref26_Same.j0] at h,fun _ _ _ _ _ _ _ r h=>by simp [stowageref26_Same.l0] at h⟩
  | k+1=>by
    obtain⟨ih0,ih1⟩:=stowageref26_Same.mono_l k
    refine⟨?_,?_⟩
    · intro y0 y1 y2 y3 y4 y5 y6
      unfold stowageref26_Same.j0
      with_reducible repeat' first|exact ih0 _ _ _ _ _ _ _|exact ih1 _ _ _ _ _ _ _|exact LeO.refl _|exact LeO.none _|refine LeO.ite ?_ ?_|refine LeO.bind ?_ (fun _=>?_)
    · intro y0 y1 y2 y3 y4 y5 y6
      unfold stowageref26_Same.l0
      with_reducible repeat' first|exact ih0 _ _ _ _ _ _ _|exact ih1 _ _ _ _ _ _ _|exact LeO.refl _|exact LeO.none _|refine LeO.ite ?_ ?_|refine LeO.bind ?_ (fun _=>?_)
theorem stowageref26_Same.mono:∀ a0 a1 a2 a3 a4 a5 k,LeO (stowageref26_Same.f k a0 a1 a2 a3 a4 a5) (stowageref26_Same.f (k+1) a0 a1 a2 a3 a4 a5):=by
 intro a0 a1 a2 a3 a4 a5 k
 obtain⟨ih0,ih1⟩:=stowageref26_Same.mono_l k
 unfold stowageref26_Same.f
 with_reducible repeat' first|exact ih0 _ _ _ _ _ _ _|exact ih1 _ _ _ _ _ _ _|exact LeO.refl _|exact LeO.none _|refine LeO.ite ?_ ?_|refine LeO.bind ?_ (fun _=>?_)
theorem stowageref26_Same.calls (k:Nat) (a0_0:Int) (A0_1:Option Addr) (c0_1:Nat) (l0_1:List (S52)) (A0_2:Option Addr) (c0_2:Nat) (l0_2:List Int) (a1_0:Int) (A1_1:Option Addr) (c1_1:Nat) (l1_1:List (S52)) (A1_2:Option Addr) (c1_2:Nat) (l1_2:List Int) (r:Bool) (w:World) (hr0_1:Kd.C k52 w A0_1 l0_1.length l0_1) (hc0_1:l0_1.length≤c0_1) (hr0_2:Kd.C (Kd.int .u8) w A0_2 l0_2.length l0_2) (hc0_2:l0_2.length≤c0_2) (hr1_1:Kd.C k52 w A1_1 l1_1.length l1_1) (hc1_1:l1_1.length≤c1_1) (hr1_2:Kd.C (Kd.int .u8) w A1_2 l1_2.length l1_2) (hc1_2:l1_2.length≤c1_2) (h:stowageref26_Same.f k a0_0 l0_1 l0_2 a1_0 l1_1 l1_2=some r) :
    Calls Tryd.prog 11 #[.agg #[.int .i64 a0_0,.slice A0_1 l0_1.length c0_1,.slice A0_2 l0_2.length c0_2],.agg #[.int .i64 a1_0,.slice A1_1 l1_1.length c1_1,.slice A1_2 l1_2.length c1_2]] w fun e w'=>e = .returned (.bool r)∧Below w.heap.size w w':=by
 have hu27:=Tryd.underlying27
 have hu52:=Tryd.underlying52
 have HR0_1:=Aside0.mk hr0_1
 have HC0_1:=Aside0.mk hc0_1
 clear hr0_1 hc0_1
 have HR0_2:=Aside0.mk hr0_2
 have HC0_2:=Aside0.mk hc0_2
 clear hr0_2 hc0_2
 have HR1_1:=Aside0.mk hr1_1
 have HC1_1:=Aside0.mk hc1_1
 clear hr1_1 hc1_1
 have HR1_2:=Aside0.mk hr1_2
 have HC1_2:=Aside0.mk hc1_2
 clear hr1_2 hc1_2
 have HB:=Aside0.mk (Below.refl w.heap.size w)
 unfold stowageref26_Same.f at h
 have H:=h
 clear h
 have HC3:=Aside0.mk H
 clear H
 go_enter Tryd.func11,Tryd.ntmps11
 go_upto_region 1 with(first|((with_reducible refine gate_dst (N:=2) rfl ?_);(try (refine gate_guard (by rfl) ?_;dsimp only));refine box_event ?hg (N:=2) ?hd (cs:=#[.int .i64 a0_0,.slice A0_1 l0_1.length c0_1,.slice A0_2 l0_2.length c0_2]) (t:=27) ?hr ?_;(case hd=>rfl);(case hg=>rfl);(case hr=>first|(go_simp;done)|(go_simp;rfl));intro gb388 hg w4 hbox hb;have n0_:=Aside0.mk (below_step bl hb);have n1_:=Aside0.mk (hbox);have n2_:=Aside0.mk ((by rw [hg];exact(below_size bl):w.heap.size≤gb388));have n3_:=Aside0.mk ((by rw [hg];exact(below_size bl):w.heap.size≤gb388));clear HB;have HB:=n0_;have BK388:=n1_;have GW388:=n2_;have GE388:=n3_;clear n0_ n1_ n2_ n3_;clear hb hbox hg)|((with_reducible refine gate_dst (N:=3) rfl ?_);(try (refine gate_guard (by rfl) ?_;dsimp only));refine box_event ?hg (N:=3) ?hd (cs:=#[.int .i64 a1_0,.slice A1_1 l1_1.length c1_1,.slice A1_2 l1_2.length c1_2]) (t:=27) ?hr ?_;(case hd=>rfl);(case hg=>rfl);(case hr=>first|(go_simp;done)|(go_simp;rfl));intro gb389 hg w5 hbox hb;have n0_:=Aside0.mk (blk_below (g:=gb388) (o:=.cells #[.int .i64 a0_0,.slice A0_1 l0_1.length c0_1,.slice A0_2 l0_2.length c0_2] 27 (0,0)) kl hb);have n1_:=Aside0.mk (below_step bl hb);have n2_:=Aside0.mk (hbox);have n3_:=Aside0.mk ((by rw [hg];exact(below_size bl):w.heap.size≤gb389));have n4_:=Aside0.mk ((by rw [hg];exact(below_size bl):w.heap.size≤gb389));have n5_:=Aside0.mk ((by rw [hg];exact Nat.ne_of_lt (blk_lt (g:=gb388) (o:=.cells #[.int .i64 a0_0,.slice A0_1 l0_1.length c0_1,.slice A0_2 l0_2.length c0_2] 27 (0,0)) kl):gb388≠gb389));have n6_:=Aside0.mk ((by rw [hg];exact Nat.ne_of_gt (blk_lt (g:=gb388) (o:=.cells #[.int .i64 a0_0,.slice A0_1 l0_1.length c0_1,.slice A0_2 l0_2.length c0_2] 27 (0,0)) kl):gb389≠gb388));clear BK388;clear HB;have BK388:=n0_;have HB:=n1_;have BK389:=n2_;have GW389:=n3_;have GE389:=n4_;have NB388_389:=n5_;have NB389_388:=n6_;clear n0_ n1_ n2_ n3_ n4_ n5_ n6_;clear hb hbox hg))
 repeat (go_quiet (fail);go_upto_region 1 with(first|((with_reducible refine gate_dst (N:=2) rfl ?_);(try (refine gate_guard (by rfl) ?_;dsimp only));refine box_event ?hg (N:=2) ?hd (cs:=#[.int .i64 a0_0,.slice A0_1 l0_1.length c0_1,.slice A0_2 l0_2.length c0_2]) (t:=27) ?hr ?_;(case hd=>rfl);(case hg=>rfl);(case hr=>first|(go_simp;done)|(go_simp;rfl));intro gb388 hg w4 hbox hb;have n0_:=Aside0.mk (below_step bl hb);have n1_:=Aside0.mk (hbox);have n2_:=Aside0.mk ((by rw [hg];exact(below_size bl):w.heap.size≤gb388));have n3_:=Aside0.mk ((by rw [hg];exact(below_size bl):w.heap.size≤gb388));clear HB;have HB:=n0_;have BK388:=n1_;have GW388:=n2_;have GE388:=n3_;clear n0_ n1_ n2_ n3_;clear hb hbox hg)|((with_reducible refine gate_dst (N:=3) rfl ?_);(try (refine gate_guard (by rfl) ?_;dsimp only));refine box_event ?hg (N:=3) ?hd (cs:=#[.int .i64 a1_0,.slice A1_1 l1_1.length c1_1,.slice A1_2 l1_2.length c1_2]) (t:=27) ?hr ?_;(case hd=>rfl);(case hg=>rfl);(case hr=>first|(go_simp;done)|(go_simp;rfl));intro gb389 hg w5 hbox hb;have n0_:=Aside0.mk (blk_below (g:=gb388) (o:=.cells #[.int .i64 a0_0,.slice A0_1 l0_1.length c0_1,.slice A0_2 l0_2.length c0_2] 27 (0,0)) kl hb);have n1_:=Aside0.mk (below_step bl hb);have n2_:=Aside0.mk (hbox);have n3_:=Aside0.mk ((by rw [hg];exact(below_size bl):w.heap.size≤gb389));have n4_:=Aside0.mk ((by rw [hg];exact(below_size bl):w.heap.size≤gb389));have n5_:=Aside0.mk ((by rw [hg];exact Nat.ne_of_lt (blk_lt (g:=gb388) (o:=.cells #[.int .i64 a0_0,.slice A0_1 l0_1.length c0_1,.slice A0_2 l0_2.length c0_2] 27 (0,0)) kl):gb388≠gb389));have n6_:=Aside0.mk ((by rw [hg];exact Nat.ne_of_gt (blk_lt (g:=gb388) (o:=.cells #[.int .i64 a0_0,.slice A0_1 l0_1.length c0_1,.slice A0_2 l0_2.length c0_2] 27 (0,0)) kl):gb389≠gb388));clear BK388;clear HB;have BK388:=n0_;have HB:=n1_;have BK389:=n2_;have GW389:=n3_;have GE389:=n4_;have NB388_389:=n5_;have NB389_388:=n6_;clear n0_ n1_ n2_ n3_ n4_ n5_ n6_;clear hb hbox hg)))
 (try simp only [Act.put,l1,l2,l3])
 go_cut [28] (fun v28 wc=>∃ (kq:Nat) (x28_2:Bool),v28 = .bool x28_2∧Aside0 (stowageref26_Same.j0 kq x28_2 a0_0 l0_1 l0_2 a1_0 l1_1 l1_2=some r)∧Aside0 (kq≤k)∧Aside0 (wc.heap[gb388]? = some (.cells #[.int .i64 a0_0,(.slice A0_1 l0_1.length c0_1),(.slice A0_2 l0_2.length c0_2)] 27 (0,0)))∧Aside0 (wc.heap[gb389]? = some (.cells #[.int .i64 a1_0,(.slice A1_1 l1_1.length c1_1),(.slice A1_2 l1_2.length c1_2)] 27 (0,0)))∧Aside0 (Below w.heap.size w wc))
 case first=>
  have H:=HC3.out
  clear HC3
  replace H:=itO H
  rcases H with⟨c6,H⟩|⟨c6,H⟩
  {
  have c6b0:(a0_0 == a1_0)=true:=beq_iff_eq.mpr c6
  have c6b1:(a0_0 != a1_0)=false:=bne_eq_false_iff_eq.mpr c6
  clear c6
  (first|rw [c6b0]|(simp only [i64_w,i32_w];rw [c6b0])|skip)
  replace H:=itO H
  rcases H with⟨c7,H⟩|⟨c7,H⟩
  {
  have c7b0:((l0_1.length:Int) == (l1_1.length:Int))=true:=beq_iff_eq.mpr c7
  have c7b1:((l0_1.length:Int) != (l1_1.length:Int))=false:=bne_eq_false_iff_eq.mpr c7
  have c7b2:(l0_1.length == l1_1.length)=true:=by first|simpa using c7|(simp at c7 ⊢;omega)
  clear c7
  have H':=Aside0.mk H
  clear H
  have hnb8:=NB388_389.out
  have hnc8:=NB389_388.out
  obtain⟨_,_,_,_,_,_⟩:=bc3 BK388.out
  obtain⟨_,_,_,_,_,_⟩:=bc3 BK389.out
  have hcv11:=Kd.C_string (P:=Tryd.prog) (A:=A0_2) (c:=c0_2) Tryd.underlying23 Tryd.underlying5 Tryd.underlying9 (Kd.C_below HR0_2.out HB.out)
  have hcv12:=Kd.C_string (P:=Tryd.prog) (A:=A1_2) (c:=c1_2) Tryd.underlying23 Tryd.underlying5 Tryd.underlying9 (Kd.C_below HR1_2.out HB.out)
  go_wp2
  repeat (go_quiet (fail);try go_wp2)
  go_meet
  case rel=>exact⟨_,(((strOfNums l0_2).toList != (strOfNums l1_2).toList)),rs,H',⟨by first|omega|exact Nat.le_refl _⟩,⟨kl⟩,⟨kl⟩,⟨bl⟩⟩
  }
  {
  have c7b0:((l0_1.length:Int) == (l1_1.length:Int))=false:=beq_eq_false_iff_ne.mpr c7
  have c7b1:((l0_1.length:Int) != (l1_1.length:Int))=true:=bne_iff_ne.mpr c7
  have c7b2:(l0_1.length == l1_1.length)=false:=by first|simpa using c7|(simp at c7 ⊢;omega)
  have H':=Aside0.mk H
  clear H
  have hnb13:=NB388_389.out
  have hnc13:=NB389_388.out
  obtain⟨_,_,_,_,_,_⟩:=bc3 BK388.out
  obtain⟨_,_,_,_,_,_⟩:=bc3 BK389.out
  go_wp2
  repeat (go_quiet (fail);try go_wp2)
  go_meet
  case rel=>exact⟨_,(true),rs,H',⟨by first|omega|exact Nat.le_refl _⟩,⟨kl⟩,⟨kl⟩,⟨bl⟩⟩
  }
  }
  {
  have c6b0:(a0_0 == a1_0)=false:=beq_eq_false_iff_ne.mpr c6
  have c6b1:(a0_0 != a1_0)=true:=bne_iff_ne.mpr c6
  (first|rw [c6b0]|(simp only [i64_w,i32_w];rw [c6b0])|skip)
  have H':=Aside0.mk H
  clear H
  have hnb16:=NB388_389.out
  have hnc16:=NB389_388.out
  obtain⟨_,_,_,_,_,_⟩:=bc3 BK388.out
  obtain⟨_,_,_,_,_,_⟩:=bc3 BK389.out
  go_wp2
  repeat (go_quiet (fail);try go_wp2)
  go_meet
  case rel=>exact⟨_,(true),rs,H',⟨by first|omega|exact Nat.le_refl _⟩,⟨kl⟩,⟨kl⟩,⟨bl⟩⟩
  }
 case rest=>
  clear HC3
  obtain⟨kq,x28_2,rfl,HA,HJ2,BK388,BK389,HB⟩:=hcut
  cases kq with
  | zero=>exact absurd HA.out (by simp [stowageref26_Same.j0])
  | succ kj2=>
   have H:=HA.out
   clear HA
   simp only [stowageref26_Same.j0] at H
   by_cases c19:x28_2=true
   {
   subst c19
   replace H:=itT H
   obtain rfl:=Option.some.inj H
   go_wp2
   repeat (go_quiet (fail);try go_wp2)
   go_ret
   exact⟨ew,bl⟩
   }
   {
   replace c19:=Bool.eq_false_iff.mpr c19
   subst c19
   replace H:=itF H
   have H':=Aside0.mk H
   clear H
   go_wp2
   repeat (go_quiet (fail);try go_wp2)
   go_loopg [5] kj2 (fun kq v5 w'=>∃ (x5_2:Int),v5 = .int .i64 x5_2∧Aside0 (stowageref26_Same.l0 kq x5_2 a0_0 l0_1 l0_2 a1_0 l1_1 l1_2=some r)∧Aside0 (kq≤kj2)∧Aside0 (w'.heap[gb388]? = some (.cells #[.int .i64 a0_0,(.slice A0_1 l0_1.length c0_1),(.slice A0_2 l0_2.length c0_2)] 27 (0,0)))∧Aside0 (w'.heap[gb389]? = some (.cells #[.int .i64 a1_0,(.slice A1_1 l1_1.length c1_1),(.slice A1_2 l1_2.length c1_2)] 27 (0,0)))∧Aside0 (Below w.heap.size w w'))
   case atStart=>exact⟨(0),rs,H',⟨Nat.le_refl _⟩,⟨kl⟩,⟨kl⟩,⟨bl⟩⟩
   case round=>
    clear H'
    obtain⟨x5_2,rfl,HA,HK2,BK388,BK389,HB⟩:=hrel
    cases gk with
    | zero=>exact absurd HA.out (by simp [stowageref26_Same.l0])
    | succ k2=>
     have H:=HA.out
     clear HA
     simp only [stowageref26_Same.l0] at H
     replace H:=itO H
     rcases H with⟨c20,H⟩|⟨c20,H⟩
     {
     have c20b0:decide (x5_2<(l0_1.length:Int))=true:=decide_eq_true c20
     clear c20
     replace H:=itO H
     rcases H with⟨c21,H⟩|⟨c21,H⟩
     {
     have c21b0:decide (0≤x5_2)=true:=decide_eq_true c21
     clear c21
     replace H:=itO H
     rcases H with⟨c22,H⟩|⟨c22,H⟩
     {
     have c22b0:decide (x5_2<(l1_1.length:Int))=true:=decide_eq_true c22
     clear c22
     replace H:=itO H
     rcases H with⟨c23,H⟩|⟨c23,H⟩
     {
     have c23b0:(!((((rd_T52 l0_1 x5_2).f0).toList) == (((rd_T52 l1_1 x5_2).f0).toList)) || (!((((rd_T52 l0_1 x5_2).f1).toList) == (((rd_T52 l1_1 x5_2).f1).toList))))=true:=c23
     clear c23
     obtain rfl:=Option.some.inj H
     have hnb24:=NB388_389.out
     have hnc24:=NB389_388.out
     obtain⟨_,_,_,_,_,_⟩:=bc3 BK388.out
     have p390:0≤(x5_2:Int):=of_decide_eq_true asm
     have q390:x5_2<(l0_1.length:Int):=of_decide_eq_true asm
     obtain⟨ad390,e390,hx390_0,hx390_1⟩:=at_T52 HR0_1.out x5_2 p390 q390
     cases e390
     replace hx390_0:=(HB.out.cell (World.block_lt_of_cell? w _ hx390_0)).trans hx390_0
     replace hx390_1:=(HB.out.cell (World.block_lt_of_cell? w _ hx390_1)).trans hx390_1
     replace p390:=eq_true p390
     replace q390:=eq_true q390
     obtain⟨_,_,_,_,_,_⟩:=bc3 BK389.out
     have p391:0≤(x5_2:Int):=of_decide_eq_true asm
     have q391:x5_2<(l1_1.length:Int):=of_decide_eq_true asm
     obtain⟨ad391,e391,hx391_0,hx391_1⟩:=at_T52 HR1_1.out x5_2 p391 q391
     cases e391
     replace hx391_0:=(HB.out.cell (World.block_lt_of_cell? w _ hx391_0)).trans hx391_0
     replace hx391_1:=(HB.out.cell (World.block_lt_of_cell? w _ hx391_1)).trans hx391_1
     replace p391:=eq_true p391
     replace q391:=eq_true q391
     go_wp2
     repeat (go_quiet (fail);try go_wp2)
     go_ret
     exact⟨ew,bl⟩
     }
     {
     have c23b0:(!((((rd_T52 l0_1 x5_2).f0).toList) == (((rd_T52 l1_1 x5_2).f0).toList)) || (!((((rd_T52 l0_1 x5_2).f1).toList) == (((rd_T52 l1_1 x5_2).f1).toList))))=false:=by simpa using c23
     clear c23
     have H':=Aside0.mk H
     clear H
     have hnb27:=NB388_389.out
     have hnc27:=NB389_388.out
     obtain⟨_,_,_,_,_,_⟩:=bc3 BK388.out
     have p390:0≤(x5_2:Int):=of_decide_eq_true asm
     have q390:x5_2<(l0_1.length:Int):=of_decide_eq_true asm
     obtain⟨ad390,e390,hx390_0,hx390_1⟩:=at_T52 HR0_1.out x5_2 p390 q390
     cases e390
     replace hx390_0:=(HB.out.cell (World.block_lt_of_cell? w _ hx390_0)).trans hx390_0
     replace hx390_1:=(HB.out.cell (World.block_lt_of_cell? w _ hx390_1)).trans hx390_1
     replace p390:=eq_true p390
     replace q390:=eq_true q390
     obtain⟨_,_,_,_,_,_⟩:=bc3 BK389.out
     have p391:0≤(x5_2:Int):=of_decide_eq_true asm
     have q391:x5_2<(l1_1.length:Int):=of_decide_eq_true asm
     obtain⟨ad391,e391,hx391_0,hx391_1⟩:=at_T52 HR1_1.out x5_2 p391 q391
     cases e391
     replace hx391_0:=(HB.out.cell (World.block_lt_of_cell? w _ hx391_0)).trans hx391_0
     replace hx391_1:=(HB.out.cell (World.block_lt_of_cell? w _ hx391_1)).trans hx391_1
     replace p391:=eq_true p391
     replace q391:=eq_true q391
     go_wp2
     repeat (go_quiet (fail);try go_wp2)
     go_roundg k2
     case measure=>have:=HJ2.out;have:=HK2.out;omega
     case rel=>exact⟨(wrap64 (x5_2+1)),rs,H',⟨by have:=HJ2.out;have:=HK2.out;omega⟩,⟨kl⟩,⟨kl⟩,⟨bl⟩⟩
     }
     }
     ·exact absurd H (by simp)
     }
     ·exact absurd H (by simp)
     }
     {
     have c20b0:decide (x5_2<(l0_1.length:Int))=false:=decide_eq_false c20
     clear c20
     obtain rfl:=Option.some.inj H
     have hnb30:=NB388_389.out
     have hnc30:=NB389_388.out
     obtain⟨_,_,_,_,_,_⟩:=bc3 BK388.out
     go_wp2
     repeat (go_quiet (fail);try go_wp2)
     go_ret
     exact⟨ew,bl⟩
     }
   }
def stowagelaw17_awake.f (k:Nat):Option Bool:=(reply_Print.f k 204 ([]:List S52) ([]:List Int) false 0 (⟨#[48]⟩ : ByteArray) false).bind fun b=>(reply_Parse.f k b false).bind fun r=>if((strOfNums b).toList == ([72,84,84,80,47,49,46,49,32,50,48,52,32,78,111,32,67,111,110,116,101,110,116,13,10,83,101,114,118,101,114,58,32,115,116,111,119,97,103,101,13,10,68,97,116,101,58,32,84,104,117,44,32,48,49,32,74,97,110,32,49,57,55,48,32,48,48,58,48,48,58,48,48,32,71,77,84,13,10,120,45,97,109,122,45,114,101,113,117,101,115,116,45,105,100,58,32,48,13,10,13,10]:List UInt8))=true then(if r.2.2.2.2=true∧r.1=204∧r.2.2.2.1=(b.length:Int) then some true else none) else none
theorem stowagelaw17_awake.mono:∀ k,LeO (stowagelaw17_awake.f k) (stowagelaw17_awake.f (k+1)):=by
 intro k
 unfold stowagelaw17_awake.f
 exact LeO.bind (reply_Print.mono _ _ _ _ _ _ _ _) fun _=>LeO.bind (reply_Parse.mono _ _ _) fun _=>LeO.refl _
theorem stowagelaw17_awake.calls (k:Nat) (r:Bool) (w:World) (hG:GOk w) (h:stowagelaw17_awake.f k=some r) :
    Calls Tryd.prog 12 #[] w fun e w'=>e = .returned (.bool r)∧Below w.heap.size w w':=by
 have hu27:=Tryd.underlying27
 unfold stowagelaw17_awake.f at h
 obtain⟨b,hb,h⟩:=bndO h
 obtain⟨⟨r1,r2,r3,r4,r5⟩,hp,h⟩:=bndO h
 dsimp only at h
 replace h:=itO h
 rcases h with⟨c3b0,h⟩|⟨_,h⟩
 rotate_left
 ·exact absurd h (by simp)
 replace h:=itO h
 rcases h with⟨⟨rfl,rfl,rfl⟩,h⟩|⟨_,h⟩
 rotate_left
 ·exact absurd h (by simp)
 obtain rfl:=Option.some.inj h
 have hb':=Lib.hid hb
 have hp':=Lib.hid hp
 have hG':=Lib.hid hG
 have hph:reply_Phrase.f 503=some (⟨#[83,101,114,118,105,99,101,32,85,110,97,118,97,105,108,97,98,108,101]⟩ : ByteArray):=by rfl
 have hph':=Lib.hid hph
 clear hb hp hG h hph
 go_enter Tryd.func12,Tryd.ntmps12
 go_wp2_with fail
 refine(reply_Print.calls k 204 none 0 ([]:List S52) none 0 ([]:List Int) false 0 (⟨#[48]⟩ : ByteArray) false b w (Kd.C_nil _ _) (Nat.le_refl _) (Kd.C_nil _ _) (Nat.le_refl _) hG'.out hb'.out).mono ?_
 rintro e w1 ⟨v0,rfl,hV,hB⟩
 obtain⟨Ab,cb,rfl⟩:=Kd.V_slice hV
 have hC:=Lib.hid (Kd.V_reads' hV).2
 have hB':=Lib.hid hB
 clear hV hB
 go_wp2_with fail
 refine(reply_Parse.calls k Ab cb b false 204 r2 r3 b.length true w1 hC.out.2 hC.out.1 (gok_below hG'.out hB'.out) hp'.out).mono ?_
 rintro e w2 ⟨v1,v2,rfl,hV1,hV2,hB2⟩
 obtain⟨A1,c1,rfl⟩:=Kd.V_slice hV1
 obtain⟨A2,c2,rfl⟩:=Kd.V_slice hV2
 have hW:=Lib.hid (And.intro (hB'.out.trans (hB2.mono hB'.out.size)) hB'.out.size)
 have hstr:=Kd.C_string (P:=Tryd.prog) (c:=cb) Tryd.underlying23 Tryd.underlying5 Tryd.underlying9 (Kd.C_alloc (Kd.C_below hC.out.2 hB2) (.cells #[.int .i64 204,.slice A1 r2.length c1,.slice A2 r3.length c2] 27))
 have hx0:=(blk_cell (blk_new w2 (.cells #[.int .i64 204,.slice A1 r2.length c1,.slice A2 r3.length c2] 27)) 0).trans rfl
 clear hV1 hV2 hB2
 go_wp2_with fail
 refine(reply_Phrase.calls 503 _ _ hph'.out).mono ?_
 rintro e w9 ⟨rfl,⟨nd,rfl⟩⟩
 go_wp2
 go_ret
 refine⟨rfl,?_⟩
 exact pw_below_drewN (below_alloc hW.out.1 _) nd
mutual
def stowagelaw17_ReplyPipes.l0:Nat→List (S27)→Int→ByteArray→List Int→List (S27)→Int→Option (Bool)
  | 0,_,_,_,_,_,_=>none
  | k+1,x0,x1,x2,x7,x8,x9=>if x9<(x0.length:Int) then(stowagelaw17_ReplyPipes.j1 k x0 x1 x2 x7 x8 x9 (decide (x9<8))) else(stowagelaw17_ReplyPipes.j1 k x0 x1 x2 x7 x8 x9 false)
def stowagelaw17_ReplyPipes.j1:Nat→List (S27)→Int→ByteArray→List Int→List (S27)→Int→Bool→Option (Bool)
  | 0,_,_,_,_,_,_,_=>none
  | k+1,x0,x1,x2,x7,x8,x9,x23=>if x23=true then(if 0≤x9 then(if x9<(x0.length:Int) then((stowageref17_Print.f k ((rd_T27 x0 x9).f0) ((rd_T27 x0 x9).f1) ((rd_T27 x0 x9).f2) false x1 x2 false).bind fun t393=>((stowageref17_Parse.f k t393 false).bind fun bt396=>(if bt396.2.2.2.2=true then(if bt396.2.2.2.1=(t393.length:Int) then((reply_Print.f k ((rd_T27 x0 x9).f0) ((rd_T27 x0 x9).f1) ((rd_T27 x0 x9).f2) false x1 x2 false).bind fun t407=>(if x7.length+t407.length<140737488355328 then(if x8.length<2513169434916 then(stowagelaw17_ReplyPipes.l0 k x0 x1 x2 (x7++t407) (x8 ++ [(⟨bt396.1,bt396.2.1,bt396.2.2.1⟩ : S27)]) (wrap64 (x9+1))) else(none)) else(none))) else(stowagelaw17_ReplyPipes.l0 k x0 x1 x2 x7 x8 (wrap64 (x9+1)))) else(stowagelaw17_ReplyPipes.l0 k x0 x1 x2 x7 x8 (wrap64 (x9+1)))))) else(none)) else(none)) else(stowagelaw17_ReplyPipes.l1 k x7 x8 0)
def stowagelaw17_ReplyPipes.l1:Nat→List Int→List (S27)→Int→Option (Bool)
  | 0,_,_,_=>none
  | k+1,x7,x8,x12=>if x12<(x8.length:Int) then((reply_Parse.f k x7 false).bind fun bt417=>(if bt417.2.2.2.2=true then(if bt417.2.2.2.1<1 then(some false) else(if bt417.2.2.2.1>(x7.length:Int) then(some false) else(if 0≤x12 then((stowageref26_Same.f k bt417.1 bt417.2.1 bt417.2.2.1 ((rd_T27 x8 x12).f0) ((rd_T27 x8 x12).f1) ((rd_T27 x8 x12).f2)).bind fun t428=>(if t428=true then(if 0≤bt417.2.2.2.1 then(if bt417.2.2.2.1≤(x7.length:Int) then(stowagelaw17_ReplyPipes.l1 k (x7.drop (bt417.2.2.2.1:Int).toNat) x8 (wrap64 (x12+1))) else(none)) else(none)) else(some false))) else(none)))) else(some false))) else(if(x7.length:Int)=0 then((stowagelaw17_awake.f k).bind fun t416=>(some t416)) else(some false))
end
def stowagelaw17_ReplyPipes.f (k:Nat) (l0:List (S27)) (a1:Int) (a2:ByteArray):Option (Bool):=stowagelaw17_ReplyPipes.l0 k l0 a1 a2 ([]:List Int) ([]:List (S27)) 0
theorem stowagelaw17_ReplyPipes.mono_l:∀ k,(∀ y0 y1 y2 y3 y4 y5,LeO (stowagelaw17_ReplyPipes.l0 k y0 y1 y2 y3 y4 y5) (stowagelaw17_ReplyPipes.l0 (k+1) y0 y1 y2 y3 y4 y5))∧(∀ y0 y1 y2 y3 y4 y5 y6,LeO (stowagelaw17_ReplyPipes.j1 k y0 y1 y2 y3 y4 y5 y6) (stowagelaw17_ReplyPipes.j1 (k+1) y0 y1 y2 y3 y4 y5 y6))∧(∀ y0 y1 y2,LeO (stowagelaw17_ReplyPipes.l1 k y0 y1 y2) (stowagelaw17_ReplyPipes.l1 (k+1) y0 y1 y2))
  | 0=>⟨fun _ _ _ _ _ _ r h=>by simp [stowagelaw17_ReplyPipes.l0] at h,fun _ _ _ _ _ _ _ r h=>by simp [stowagelaw17_ReplyPipes.j1] at h,fun _ _ _ r h=>by simp [stowagelaw17_ReplyPipes.l1] at h⟩
  | k+1=>by
    obtain⟨ih0,ih1,ih2⟩:=stowagelaw17_ReplyPipes.mono_l k
    refine⟨?_,?_,?_⟩
    · intro y0 y1 y2 y3 y4 y5
      unfold stowagelaw17_ReplyPipes.l0
      with_reducible repeat' first|exact ih0 _ _ _ _ _ _|exact ih1 _ _ _ _ _ _ _|exact ih2 _ _ _|exact reply_Parse.mono _ _ _|exact reply_Print.mono _ _ _ _ _ _ _ _|exact stowagelaw17_awake.mono _|exact stowageref17_Parse.mono _ _ _|exact stowageref17_Print.mono _ _ _ _ _ _ _ _|exact stowageref26_Same.mono _ _ _ _ _ _ _|exact LeO.refl _|exact LeO.none _|refine LeO.ite ?_ ?_|refine LeO.bind ?_ (fun _=>?_)
    · intro y0 y1 y2 y3 y4 y5 y6
      unfold stowagelaw17_ReplyPipes.j1
      with_reducible repeat' first|exact ih0 _ _ _ _ _ _|exact ih1 _ _ _ _ _ _ _|exact ih2 _ _ _|exact reply_Parse.mono _ _ _|exact reply_Print.mono _ _ _ _ _ _ _ _|exact stowagelaw17_awake.mono _|exact stowageref17_Parse.mono _ _ _|exact stowageref17_Print.mono _ _ _ _ _ _ _ _|exact stowageref26_Same.mono _ _ _ _ _ _ _|exact LeO.refl _|exact LeO.none _|refine LeO.ite ?_ ?_|refine LeO.bind ?_ (fun _=>?_)
    · intro y0 y1 y2
      unfold stowagelaw17_ReplyPipes.l1
      with_reducible repeat' first|exact ih0 _ _ _ _ _ _|exact ih1 _ _ _ _ _ _ _|exact ih2 _ _ _|exact reply_Parse.mono _ _ _|exact reply_Print.mono _ _ _ _ _ _ _ _|exact stowagelaw17_awake.mono _|exact stowageref17_Parse.mono _ _ _|exact stowageref17_Print.mono _ _ _ _ _ _ _ _|exact stowageref26_Same.mono _ _ _ _ _ _ _|exact LeO.refl _|exact LeO.none _|refine LeO.ite ?_ ?_|refine LeO.bind ?_ (fun _=>?_)
theorem stowagelaw17_ReplyPipes.mono:∀ a0 a1 a2 k,LeO (stowagelaw17_ReplyPipes.f k a0 a1 a2) (stowagelaw17_ReplyPipes.f (k+1) a0 a1 a2):=by
 intro a0 a1 a2 k
 obtain⟨ih0,ih1,ih2⟩:=stowagelaw17_ReplyPipes.mono_l k
 unfold stowagelaw17_ReplyPipes.f
 with_reducible repeat' first|exact ih0 _ _ _ _ _ _|exact ih1 _ _ _ _ _ _ _|exact ih2 _ _ _|exact reply_Parse.mono _ _ _|exact reply_Print.mono _ _ _ _ _ _ _ _|exact stowagelaw17_awake.mono _|exact stowageref17_Parse.mono _ _ _|exact stowageref17_Print.mono _ _ _ _ _ _ _ _|exact stowageref26_Same.mono _ _ _ _ _ _ _|exact LeO.refl _|exact LeO.none _|refine LeO.ite ?_ ?_|refine LeO.bind ?_ (fun _=>?_)
def stowagelaw17_ReplyPipes.T15:Bool×List (List Nat×List Nat):=(true,[([],[]),([0],[0]),([1],[1]),([2],[2]),([3,2],[2,3]),([2,4],[2,4]),([5,2],[5]),([6],[6]),([6],[6]),([8,6],[6,8]),([7,9,6],[6,7,9]),([6,10],[6,10]),([11,6],[11]),([12],[12]),([12],[12]),([12],[12]),([14,15,12],[12,14,15]),([16,12],[12,16]),([13,17,12,12],[12,13,17]),([18,12],[12,18]),([12,19],[12,19])])
def stowagelaw17_ReplyPipes.B15:List Nat:=[0,1,3,7,15,31,63,127,127,383,1023,2047,4095,8191,8191,8191,57343,122879,262143,524287,1048575]
theorem stowagelaw17_ReplyPipes.tab15:rtab .any (opsOf Tryd.f3 15)=stowagelaw17_ReplyPipes.T15:=by kernel_rfl
theorem stowagelaw17_ReplyPipes.bits15:waitsOk stowagelaw17_ReplyPipes.T15.2 stowagelaw17_ReplyPipes.B15=true:=by kernel_rfl
theorem stowagelaw17_ReplyPipes.calls (k:Nat) (A0:Option Addr) (c0:Nat) (l0:List (S27)) (a1:Int) (a2:ByteArray) (r:Bool) (w:World) (hr0:Kd.C k27 w A0 l0.length l0) (hc0:l0.length≤c0) (hG:GOk w) (h:stowagelaw17_ReplyPipes.f k l0 a1 a2=some r) (hr:r=true) :
    Calls Tryd.prog 3 #[.slice A0 l0.length c0,.int .i64 a1,.string a2] w fun e w'=>e = .returned (.bool r)∧Below w.heap.size w w':=by
 have hu27:=Tryd.underlying27
 have hu29:=Tryd.underlying29
 have HR0:=Aside0.mk hr0
 have HC0:=Aside0.mk hc0
 clear hr0 hc0
 have HB:=Aside0.mk (Below.refl w.heap.size w)
 unfold stowagelaw17_ReplyPipes.f at h
 have H:=h
 clear h
 have H':=Aside0.mk H
 clear H
 go_enter Tryd.func3,Tryd.ntmps3
 go_wp2
 go_loopg [7,8,9] k (fun kq v7 v8 v9 w'=>∃ (x7_1:List Int) (x8_1:List (S27)) (x9_1:Int),v9 = .int .i64 x9_1∧Aside0 (stowagelaw17_ReplyPipes.l0 kq l0 a1 a2 x7_1 x8_1 x9_1=some r)∧Aside0 (kq≤k)∧Aside0 (Kd.Q (Kd.int .u8) 5 w' w.heap.size (fun _=>True) v7 x7_1)∧Aside0 (Kd.N k27 27 w' w.heap.size (fun k_=>some k_≠(v7:Value).ownBlock) v8 x8_1)∧Aside0 (Below w.heap.size w w'))
 case atStart=>exact⟨(([]:List Int)),(([]:List (S27))),(0),rs,H',⟨Nat.le_refl _⟩,⟨Kd.Q_of_R (nl)⟩,⟨nl⟩,⟨bl⟩⟩
 case round=>
  clear H'
  obtain⟨x7_1,x8_1,x9_1,rfl,HA,HK1,HO_7,HO_8,HB⟩:=hrel
  cases gk with
  | zero=>exact absurd HA.out (by simp [stowagelaw17_ReplyPipes.l0])
  | succ k1=>
   have H:=HA.out
   clear HA
   simp only [stowagelaw17_ReplyPipes.l0] at H
   have HC4:=Aside0.mk H
   clear H
   go_upto_region 4 with(fail)
   go_cut [23] (fun v23 wc=>∃ (kq:Nat) (x23_3:Bool),v23 = .bool x23_3∧Aside0 (stowagelaw17_ReplyPipes.j1 kq l0 a1 a2 x7_1 x8_1 x9_1 x23_3=some r)∧Aside0 (kq≤k1)∧Aside0 (Kd.Q (Kd.int .u8) 5 wc w.heap.size (fun _=>True) u7 x7_1)∧Aside0 (Kd.N k27 27 wc w.heap.size (fun k_=>some k_≠(u7:Value).ownBlock) u8 x8_1)∧Aside0 (Below w.heap.size w wc))
   case first=>
    have H:=HC4.out
    clear HC4
    replace H:=itO H
    rcases H with⟨c5,H⟩|⟨c5,H⟩
    {
    have c5b0:decide (x9_1<(l0.length:Int))=true:=decide_eq_true c5
    clear c5
    (first|rw [c5b0]|(simp only [i64_w,i32_w];rw [c5b0])|skip)
    have H':=Aside0.mk H
    clear H
    go_wp2
    go_meet
    case rel=>exact⟨_,(decide (x9_1<8)),rs,H',⟨by have:=HK1.out;first|omega|exact Nat.le_refl _⟩,⟨by(with_reducible repeat (first|apply Kd.Q_alloc|apply Kd.Q_drewN|apply Kd.Q_drew));exact HO_7.out⟩,⟨by(with_reducible repeat (first|apply Kd.N_alloc|apply Kd.N_drewN|apply Kd.N_drew));exact HO_8.out⟩,⟨bl⟩⟩
    }
    {
    have c5b0:decide (x9_1<(l0.length:Int))=false:=decide_eq_false c5
    clear c5
    (first|rw [c5b0]|(simp only [i64_w,i32_w];rw [c5b0])|skip)
    have H':=Aside0.mk H
    clear H
    go_wp2
    go_meet
    case rel=>exact⟨_,(false),rs,H',⟨by have:=HK1.out;first|omega|exact Nat.le_refl _⟩,⟨by(with_reducible repeat (first|apply Kd.Q_alloc|apply Kd.Q_drewN|apply Kd.Q_drew));exact HO_7.out⟩,⟨by(with_reducible repeat (first|apply Kd.N_alloc|apply Kd.N_drewN|apply Kd.N_drew));exact HO_8.out⟩,⟨bl⟩⟩
    }
   case rest=>
    clear HC4
    obtain⟨kq,x23_3,rfl,HA,HJ3,HO_7,HO_8,HB⟩:=hcut
    cases kq with
    | zero=>exact absurd HA.out (by simp [stowagelaw17_ReplyPipes.j1])
    | succ kj3=>
     have H:=HA.out
     clear HA
     simp only [stowagelaw17_ReplyPipes.j1] at H
     by_cases c6:x23_3=true
     {
     subst c6
     replace H:=itT H
     replace H:=itO H
     rcases H with⟨c7,H⟩|⟨c7,H⟩
     {
     have c7b0:decide (0≤x9_1)=true:=decide_eq_true c7
     clear c7
     replace H:=itO H
     rcases H with⟨c8,H⟩|⟨c8,H⟩
     {
     have c8b0:decide (x9_1<(l0.length:Int))=true:=decide_eq_true c8
     clear c8
     replace H:=bndO H
     obtain⟨t393,A90,H⟩:=H
     have A9:=Aside0.mk A90
     clear A90
     replace H:=bndO H
     obtain⟨⟨t396,t397,t400,t403,t404⟩,A100,H⟩:=H
     dsimp only at H
     have A10:=Aside0.mk A100
     clear A100
     by_cases c11:t404=true
     {
     subst c11
     replace H:=itT H
     replace H:=itO H
     rcases H with⟨c12,H⟩|⟨c12,H⟩
     {
     have c12b0:(t403 == (t393.length:Int))=true:=beq_iff_eq.mpr c12
     have c12b1:(t403 != (t393.length:Int))=false:=bne_eq_false_iff_eq.mpr c12
     clear c12
     replace H:=bndO H
     obtain⟨t407,A130,H⟩:=H
     have A13:=Aside0.mk A130
     clear A130
     replace H:=itO H
     rcases H with⟨c14,H⟩|⟨c14,H⟩
     {
     have LMc14:=Aside0.mk c14
     clear c14
     obtain⟨y410,hy410⟩ : ∃ y_:List Int,y_=(x7_1++t407):=⟨_,rfl⟩
     replace H:(if x8_1.length<2513169434916 then(stowagelaw17_ReplyPipes.l0 kj3 l0 a1 a2 y410 (x8_1 ++ [(⟨t396,t397,t400⟩ : S27)]) (wrap64 (x9_1+1))) else(none))=some r:=by first|(rw [hy410];with_reducible exact H)|(have H2_:=(Option.bind_some _ _).symm.trans H;rw [hy410];with_reducible exact H2_)|(have H2_:=(Option.bind_some _ _).symm.trans H;with_reducible exact H2_)|with_reducible exact H|(rw [hy410];exact H)|exact H
     have Ny410:=Aside0.mk hy410
     clear hy410
     replace H:=itO H
     rcases H with⟨c15,H⟩|⟨c15,H⟩
     {
     have LMc15:=Aside0.mk c15
     clear c15
     obtain⟨y413,hy413⟩ : ∃ y_:List (S27),y_=(x8_1 ++ [(⟨t396,t397,t400⟩ : S27)]):=⟨_,rfl⟩
     replace H:(stowagelaw17_ReplyPipes.l0 kj3 l0 a1 a2 y410 y413 (wrap64 (x9_1+1)))=some r:=by first|(rw [hy413];with_reducible exact H)|(have H2_:=(Option.bind_some _ _).symm.trans H;rw [hy413];with_reducible exact H2_)|(have H2_:=(Option.bind_some _ _).symm.trans H;with_reducible exact H2_)|with_reducible exact H|(rw [hy413];exact H)|exact H
     have Ny413:=Aside0.mk hy413
     clear hy413
     have H':=Aside0.mk H
     clear H
     have p392:0≤(x9_1:Int):=of_decide_eq_true asm
     have q392:x9_1<(l0.length:Int):=of_decide_eq_true asm
     obtain⟨ad392,A392_1,c392_1,A392_2,c392_2,e392,hx392_0,hx392_1,hx392_2,hl392_1,hi392_1,hl392_2,hi392_2⟩:=at_T27 HR0.out x9_1 p392 q392
     cases e392
     replace hx392_0:=(HB.out.cell (World.block_lt_of_cell? w _ hx392_0)).trans hx392_0
     replace hx392_1:=(HB.out.cell (World.block_lt_of_cell? w _ hx392_1)).trans hx392_1
     replace hx392_2:=(HB.out.cell (World.block_lt_of_cell? w _ hx392_2)).trans hx392_2
     have HR392_1:=Aside0.mk hi392_1
     have HC392_1:=Aside0.mk hl392_1
     clear hi392_1 hl392_1
     have HR392_2:=Aside0.mk hi392_2
     have HC392_2:=Aside0.mk hl392_2
     clear hi392_2 hl392_2
     replace p392:=eq_true p392
     replace q392:=eq_true q392
     go_wp2_with (first|((with_reducible refine gate_callee (f:=7) rfl ?_);refine goesL_ (some 32) rfl rfl Tryd.func7 kr rfl #[.agg #[.int .i64 ((rd_T27 l0 x9_1).f0),.slice A392_1 ((rd_T27 l0 x9_1).f1).length c392_1,.slice A392_2 ((rd_T27 l0 x9_1).f2).length c392_2],.bool false,.int .i64 a1,.string a2,.bool false] rfl am ?_;(with_reducible refine(stowageref17_Print.calls kj3 ((rd_T27 l0 x9_1).f0) _ _ ((rd_T27 l0 x9_1).f1) _ _ ((rd_T27 l0 x9_1).f2) false a1 a2 false t393 _ ?side1 ?side2 ?side3 ?side4 A9.out).mono ?_);(case side1=>repeat (first|exact(Kd.C_below HR392_1.out HB.out)|(with_reducible refine Kd.C_alloc ?_ _)|(with_reducible refine Kd.C_drewN ?_ _)|(with_reducible refine Kd.C_drew ?_)));(case side2=>exact HC392_1.out);(case side3=>repeat (first|exact(Kd.C_below HR392_2.out HB.out)|(with_reducible refine Kd.C_alloc ?_ _)|(with_reducible refine Kd.C_drewN ?_ _)|(with_reducible refine Kd.C_drew ?_)));(case side4=>exact HC392_2.out);rintro e w16 ⟨v394,rfl,ho0,hb⟩;refine⟨_,rfl,?_⟩;have n0_:=Aside0.mk (Kd.Q_below (by(with_reducible repeat (first|apply Kd.Q_alloc|apply Kd.Q_drewN|apply Kd.Q_drew));exact HO_7.out) hb);have n1_:=Aside0.mk (Kd.N_below (by(with_reducible repeat (first|apply Kd.N_alloc|apply Kd.N_drewN|apply Kd.N_drew));exact HO_8.out) hb);have n2_:=Aside0.mk (Kd.V_lower (Kd.V_mono (ok':=fun k_=>some k_≠(u7:Value).ownBlock∧some k_≠(u8:Value).ownBlock) ho0 (fun k_ hk_=>⟨(Kd.fresh' (Kd.Q_lt (by(with_reducible repeat (first|apply Kd.Q_alloc|apply Kd.Q_drewN|apply Kd.Q_drew));exact HO_7.out)) k_ hk_),(Kd.fresh' (Kd.N_lt (by(with_reducible repeat (first|apply Kd.N_alloc|apply Kd.N_drewN|apply Kd.N_drew));exact HO_8.out)) k_ hk_)⟩)) (below_size bl));have n3_:=Aside0.mk (below_step bl hb);clear HO_7;clear HO_8;clear HB;have HO_7:=n0_;have HO_8:=n1_;have HO395:=n2_;have HB:=n3_;clear n0_ n1_ n2_ n3_;obtain⟨Ao17,co17,eo17⟩:=Kd.V_slice HO395.out;subst eo17)|((with_reducible refine gate_callee (f:=8) rfl ?_);refine goesL_ (some 34) rfl rfl Tryd.func8 kr rfl #[.slice Ao17 t393.length co17,.bool false] rfl am ?_;(with_reducible refine(stowageref17_Parse.calls kj3 _ _ t393 false t396 t397 t400 t403 true _ ?side1 ?side2 A10.out).mono ?_);(case side1=>repeat (first|exact(Kd.V_reads' HO395.out).2.2|(with_reducible refine Kd.C_alloc ?_ _)|(with_reducible refine Kd.C_drewN ?_ _)|(with_reducible refine Kd.C_drew ?_)));(case side2=>exact(Kd.V_reads' HO395.out).2.1);rintro e w18 ⟨v398,v401,rfl,ho0,ho1,hb⟩;refine⟨_,rfl,?_⟩;have n0_:=Aside0.mk (Kd.Q_below (by(with_reducible repeat (first|apply Kd.Q_alloc|apply Kd.Q_drewN|apply Kd.Q_drew));exact HO_7.out) hb);have n1_:=Aside0.mk (Kd.N_elder' (by(with_reducible repeat (first|apply Kd.N_alloc|apply Kd.N_drewN|apply Kd.N_drew));exact HO_8.out) (by first|exact Kd.R_base ho0|exact Kd.R_base ho0) hb);have n2_:=Aside0.mk (Kd.V_elder' (by(with_reducible repeat (first|apply Kd.V_alloc|apply Kd.V_drewN|apply Kd.V_drew));exact HO395.out) (by first|exact Kd.R_base ho0|exact Kd.R_base ho0) hb);have n3_:=Aside0.mk (Kd.R_lower (Kd.R_mono (ok':=fun k_=>True) ho0 (fun _ hk_=>trivial)) (below_size bl));have n4_:=Aside0.mk (Kd.V_lower (Kd.V_mono (ok':=fun k_=>some k_≠(v398:Value).ownBlock∧some k_≠(u7:Value).ownBlock∧some k_≠(u8:Value).ownBlock) ho1 (fun k_ hk_=>⟨hk_.2,(Kd.fresh' (Kd.Q_lt (by(with_reducible repeat (first|apply Kd.Q_alloc|apply Kd.Q_drewN|apply Kd.Q_drew));exact HO_7.out)) k_ hk_.1),(Kd.fresh' (Kd.N_lt (by(with_reducible repeat (first|apply Kd.N_alloc|apply Kd.N_drewN|apply Kd.N_drew));exact HO_8.out)) k_ hk_.1)⟩)) (below_size bl));have n5_:=Aside0.mk (below_step bl hb);clear HO_7;clear HO_8;clear HO395;clear HB;have HO_7:=n0_;have HO_8:=n1_;have HO395:=n2_;have HO399:=n3_;have HO402:=n4_;have HB:=n5_;clear n0_ n1_ n2_ n3_ n4_ n5_)|((with_reducible refine gate_dst (N:=11) rfl ?_);(try (refine gate_guard (by rfl) ?_;dsimp only));refine box_event ?hg (N:=11) ?hd (cs:=#[.int .i64 0,.slice none 0 0,.slice none 0 0,.int .i64 0,.bool false]) (t:=29) ?hr ?_;(case hd=>rfl);(case hg=>rfl);(case hr=>first|(go_simp;done)|(go_simp;rfl));intro gb405 hg w19 hbox hb;have n0_:=Aside0.mk (Kd.Q_below (by(with_reducible repeat (first|apply Kd.Q_alloc|apply Kd.Q_drewN|apply Kd.Q_drew));exact HO_7.out) hb);have n1_:=Aside0.mk (Kd.N_below (Kd.N_elderB (by(with_reducible repeat (first|apply Kd.N_alloc|apply Kd.N_drewN|apply Kd.N_drew));exact HO_8.out) gb405 (Nat.le_of_eq hg.symm)) hb);have n2_:=Aside0.mk (Kd.V_below (Kd.V_elderB (by(with_reducible repeat (first|apply Kd.V_alloc|apply Kd.V_drewN|apply Kd.V_drew));exact HO395.out) gb405 (Nat.le_of_eq hg.symm)) hb);have n3_:=Aside0.mk (Kd.R_below rl hb);have n4_:=Aside0.mk (Kd.V_below (Kd.V_elderB (by(with_reducible repeat (first|apply Kd.V_alloc|apply Kd.V_drewN|apply Kd.V_drew));exact HO402.out) gb405 (Nat.le_of_eq hg.symm)) hb);have n5_:=Aside0.mk (below_step bl hb);have n6_:=Aside0.mk (hbox);have n7_:=Aside0.mk ((by rw [hg];exact(below_size bl):w.heap.size≤gb405));have n8_:=Aside0.mk ((by rw [hg];exact(below_size bl):w.heap.size≤gb405));clear HO_7;clear HO_8;clear HO395;clear HO399;clear HO402;clear HB;have HO_7:=n0_;have HO_8:=n1_;have HO395:=n2_;have HO399:=n3_;have HO402:=n4_;have HB:=n5_;have BK405:=n6_;have GW405:=n7_;have GE405:=n8_;clear n0_ n1_ n2_ n3_ n4_ n5_ n6_ n7_ n8_;clear hb hbox hg;obtain⟨_,_,_,_,_,_,_,_,_,_⟩:=bc5 BK405.out;obtain⟨Ao21,co21,eo21⟩:=Kd.R_slice HO399.out;subst eo21;obtain⟨Ao22,co22,eo22⟩:=Kd.V_slice HO402.out;subst eo22;have p406:0≤(x9_1:Int):=of_decide_eq_true asm;have q406:x9_1<(l0.length:Int):=of_decide_eq_true asm;obtain⟨ad406,A406_1,c406_1,A406_2,c406_2,e406,hx406_0,hx406_1,hx406_2,hl406_1,hi406_1,hl406_2,hi406_2⟩:=at_T27 HR0.out x9_1 p406 q406;obtain rfl:ad392=ad406:=(by injection e406);have hn406_0:ad392.block≠gb405:=Nat.ne_of_lt (Nat.lt_of_lt_of_le (by have:=World.block_lt_of_cell? _ _ hx406_0;first|rwa [add_block] at this|exact this) GW405.out);have hn406_1:ad392.block≠gb405:=Nat.ne_of_lt (Nat.lt_of_lt_of_le (by have:=World.block_lt_of_cell? _ _ hx406_0;first|rwa [add_block] at this|exact this) GW405.out);have hn406_2:ad392.block≠gb405:=Nat.ne_of_lt (Nat.lt_of_lt_of_le (by have:=World.block_lt_of_cell? _ _ hx406_0;first|rwa [add_block] at this|exact this) GW405.out);have hn406_3:ad392.block≠gb405:=Nat.ne_of_lt (Nat.lt_of_lt_of_le (by have:=World.block_lt_of_cell? _ _ hx406_0;first|rwa [add_block] at this|exact this) GW405.out);have hn406_4:ad392.block≠gb405:=Nat.ne_of_lt (Nat.lt_of_lt_of_le (by have:=World.block_lt_of_cell? _ _ hx406_0;first|rwa [add_block] at this|exact this) GW405.out);replace hx406_0:=(HB.out.cell (World.block_lt_of_cell? w _ hx406_0)).trans hx406_0;replace hx406_1:=(HB.out.cell (World.block_lt_of_cell? w _ hx406_1)).trans hx406_1;replace hx406_2:=(HB.out.cell (World.block_lt_of_cell? w _ hx406_2)).trans hx406_2;have HR406_1:=Aside0.mk hi406_1;have HC406_1:=Aside0.mk hl406_1;clear hi406_1 hl406_1;have HR406_2:=Aside0.mk hi406_2;have HC406_2:=Aside0.mk hl406_2;clear hi406_2 hl406_2;replace hx406_0:=(cell_far (p:=⟨gb405,0,none⟩) (by first|(rw [add_block];exact hn406_0)|(show(Addr.add _ _).block≠_;rw [add_block];exact hn406_0)|exact hn406_0) (.int .i64 t396)).trans hx406_0;replace hx406_1:=(cell_far (p:=⟨gb405,0,none⟩) (by first|(rw [add_block];exact hn406_0)|(show(Addr.add _ _).block≠_;rw [add_block];exact hn406_0)|exact hn406_0) (.int .i64 t396)).trans hx406_1;replace hx406_2:=(cell_far (p:=⟨gb405,0,none⟩) (by first|(rw [add_block];exact hn406_0)|(show(Addr.add _ _).block≠_;rw [add_block];exact hn406_0)|exact hn406_0) (.int .i64 t396)).trans hx406_2;replace hx406_0:=(cell_far (p:=⟨gb405,1,none⟩) (by first|(rw [add_block];exact hn406_1)|(show(Addr.add _ _).block≠_;rw [add_block];exact hn406_1)|exact hn406_1) (.slice Ao21 t397.length co21)).trans hx406_0;replace hx406_1:=(cell_far (p:=⟨gb405,1,none⟩) (by first|(rw [add_block];exact hn406_1)|(show(Addr.add _ _).block≠_;rw [add_block];exact hn406_1)|exact hn406_1) (.slice Ao21 t397.length co21)).trans hx406_1;replace hx406_2:=(cell_far (p:=⟨gb405,1,none⟩) (by first|(rw [add_block];exact hn406_1)|(show(Addr.add _ _).block≠_;rw [add_block];exact hn406_1)|exact hn406_1) (.slice Ao21 t397.length co21)).trans hx406_2;replace hx406_0:=(cell_far (p:=⟨gb405,2,none⟩) (by first|(rw [add_block];exact hn406_2)|(show(Addr.add _ _).block≠_;rw [add_block];exact hn406_2)|exact hn406_2) (.slice Ao22 t400.length co22)).trans hx406_0;replace hx406_1:=(cell_far (p:=⟨gb405,2,none⟩) (by first|(rw [add_block];exact hn406_2)|(show(Addr.add _ _).block≠_;rw [add_block];exact hn406_2)|exact hn406_2) (.slice Ao22 t400.length co22)).trans hx406_1;replace hx406_2:=(cell_far (p:=⟨gb405,2,none⟩) (by first|(rw [add_block];exact hn406_2)|(show(Addr.add _ _).block≠_;rw [add_block];exact hn406_2)|exact hn406_2) (.slice Ao22 t400.length co22)).trans hx406_2;replace hx406_0:=(cell_far (p:=⟨gb405,3,none⟩) (by first|(rw [add_block];exact hn406_3)|(show(Addr.add _ _).block≠_;rw [add_block];exact hn406_3)|exact hn406_3) (.int .i64 t403)).trans hx406_0;replace hx406_1:=(cell_far (p:=⟨gb405,3,none⟩) (by first|(rw [add_block];exact hn406_3)|(show(Addr.add _ _).block≠_;rw [add_block];exact hn406_3)|exact hn406_3) (.int .i64 t403)).trans hx406_1;replace hx406_2:=(cell_far (p:=⟨gb405,3,none⟩) (by first|(rw [add_block];exact hn406_3)|(show(Addr.add _ _).block≠_;rw [add_block];exact hn406_3)|exact hn406_3) (.int .i64 t403)).trans hx406_2;replace hx406_0:=(cell_far (p:=⟨gb405,4,none⟩) (by first|(rw [add_block];exact hn406_4)|(show(Addr.add _ _).block≠_;rw [add_block];exact hn406_4)|exact hn406_4) (.bool true)).trans hx406_0;replace hx406_1:=(cell_far (p:=⟨gb405,4,none⟩) (by first|(rw [add_block];exact hn406_4)|(show(Addr.add _ _).block≠_;rw [add_block];exact hn406_4)|exact hn406_4) (.bool true)).trans hx406_1;replace hx406_2:=(cell_far (p:=⟨gb405,4,none⟩) (by first|(rw [add_block];exact hn406_4)|(show(Addr.add _ _).block≠_;rw [add_block];exact hn406_4)|exact hn406_4) (.bool true)).trans hx406_2;clear hn406_0;clear hn406_1;clear hn406_2;clear hn406_3;clear hn406_4;replace p406:=eq_true p406;replace q406:=eq_true q406)|((with_reducible refine gate_callee (f:=9) rfl ?_);refine goesL_ (some 51) rfl rfl Tryd.func9 kr rfl #[.agg #[.int .i64 ((rd_T27 l0 x9_1).f0),.slice A406_1 ((rd_T27 l0 x9_1).f1).length c406_1,.slice A406_2 ((rd_T27 l0 x9_1).f2).length c406_2],.bool false,.int .i64 a1,.string a2,.bool false] rfl am ?_;(with_reducible refine(reply_Print.calls kj3 ((rd_T27 l0 x9_1).f0) _ _ ((rd_T27 l0 x9_1).f1) _ _ ((rd_T27 l0 x9_1).f2) false a1 a2 false t407 _ ?side1 ?side2 ?side3 ?side4 gk A13.out).mono ?_);(case side1=>exact Kd.C_below HR406_1.out bl);(case side2=>exact HC406_1.out);(case side3=>exact Kd.C_below HR406_2.out bl);(case side4=>exact HC406_2.out);rintro e w23 ⟨v408,rfl,ho0,hb⟩;refine⟨_,rfl,?_⟩;have n0_:=Aside0.mk (Kd.Q_below (by(with_reducible repeat (first|apply Kd.Q_alloc|apply Kd.Q_drewN|apply Kd.Q_drew));exact(Kd.Q_mono (Kd.Q_far (p:=⟨gb405,4,none⟩) (Kd.Q_far (p:=⟨gb405,3,none⟩) (Kd.Q_far (p:=⟨gb405,2,none⟩) (Kd.Q_far (p:=⟨gb405,1,none⟩) (Kd.Q_far (p:=⟨gb405,0,none⟩) (Kd.Q_types HO_7.out BK405.out (by decide)) (fun _ hk=>hk.2) (.int .i64 t396)) (fun _ hk=>hk.2) (.slice Ao21 t397.length co21)) (fun _ hk=>hk.2) (.slice Ao22 t400.length co22)) (fun _ hk=>hk.2) (.int .i64 t403)) (fun _ hk=>hk.2) (.bool true)) (fun _ h_=>h_.1))) hb);have n1_:=Aside0.mk (Kd.N_below (by(with_reducible repeat (first|apply Kd.N_alloc|apply Kd.N_drewN|apply Kd.N_drew));exact(Kd.N_mono (Kd.N_far (p:=⟨gb405,4,none⟩) (Kd.N_far (p:=⟨gb405,3,none⟩) (Kd.N_far (p:=⟨gb405,2,none⟩) (Kd.N_far (p:=⟨gb405,1,none⟩) (Kd.N_far (p:=⟨gb405,0,none⟩) (Kd.N_mono HO_8.out (fun k_ hk=>(⟨hk,hk.2⟩ : _∧k_≠gb405))) (fun _ hk=>hk.2) (.int .i64 t396)) (fun _ hk=>hk.2) (.slice Ao21 t397.length co21)) (fun _ hk=>hk.2) (.slice Ao22 t400.length co22)) (fun _ hk=>hk.2) (.int .i64 t403)) (fun _ hk=>hk.2) (.bool true)) (fun _ h_=>h_.1))) hb);have n2_:=Aside0.mk (Kd.V_below (by(with_reducible repeat (first|apply Kd.V_alloc|apply Kd.V_drewN|apply Kd.V_drew));exact(Kd.V_mono (Kd.V_far (p:=⟨gb405,4,none⟩) (Kd.V_far (p:=⟨gb405,3,none⟩) (Kd.V_far (p:=⟨gb405,2,none⟩) (Kd.V_far (p:=⟨gb405,1,none⟩) (Kd.V_far (p:=⟨gb405,0,none⟩) (Kd.V_mono HO395.out (fun k_ hk=>(⟨hk,hk.2⟩ : _∧k_≠gb405))) (fun _ hk=>hk.2) (.int .i64 t396)) (fun _ hk=>hk.2) (.slice Ao21 t397.length co21)) (fun _ hk=>hk.2) (.slice Ao22 t400.length co22)) (fun _ hk=>hk.2) (.int .i64 t403)) (fun _ hk=>hk.2) (.bool true)) (fun _ h_=>h_.1))) hb);have n3_:=Aside0.mk (Kd.R_below (by(with_reducible repeat (first|apply Kd.R_alloc|apply Kd.R_drewN|apply Kd.R_drew));exact(Kd.R_mono (Kd.R_far (p:=⟨gb405,4,none⟩) (Kd.R_far (p:=⟨gb405,3,none⟩) (Kd.R_far (p:=⟨gb405,2,none⟩) (Kd.R_far (p:=⟨gb405,1,none⟩) (Kd.R_far (p:=⟨gb405,0,none⟩) (Kd.R_types HO399.out BK405.out (by decide)) (fun _ hk=>hk.2) (.int .i64 t396)) (fun _ hk=>hk.2) (.slice Ao21 t397.length co21)) (fun _ hk=>hk.2) (.slice Ao22 t400.length co22)) (fun _ hk=>hk.2) (.int .i64 t403)) (fun _ hk=>hk.2) (.bool true)) (fun _ h_=>h_.1))) hb);have n4_:=Aside0.mk (Kd.V_below (by(with_reducible repeat (first|apply Kd.V_alloc|apply Kd.V_drewN|apply Kd.V_drew));exact(Kd.V_mono (Kd.V_far (p:=⟨gb405,4,none⟩) (Kd.V_far (p:=⟨gb405,3,none⟩) (Kd.V_far (p:=⟨gb405,2,none⟩) (Kd.V_far (p:=⟨gb405,1,none⟩) (Kd.V_far (p:=⟨gb405,0,none⟩) (Kd.V_mono HO402.out (fun k_ hk=>(⟨hk,hk.2⟩ : _∧k_≠gb405))) (fun _ hk=>hk.2) (.int .i64 t396)) (fun _ hk=>hk.2) (.slice Ao21 t397.length co21)) (fun _ hk=>hk.2) (.slice Ao22 t400.length co22)) (fun _ hk=>hk.2) (.int .i64 t403)) (fun _ hk=>hk.2) (.bool true)) (fun _ h_=>h_.1))) hb);have n5_:=Aside0.mk (Kd.V_lower (Kd.V_mono (ok':=fun k_=>some k_≠(u7:Value).ownBlock∧some k_≠(u8:Value).ownBlock∧some k_≠(.slice Ao21 t397.length co21:Value).ownBlock∧k_≠gb405) ho0 (fun k_ hk_=>⟨(Kd.fresh' (Kd.Q_lt (by(with_reducible repeat (first|apply Kd.Q_alloc|apply Kd.Q_drewN|apply Kd.Q_drew));exact(Kd.Q_mono (Kd.Q_far (p:=⟨gb405,4,none⟩) (Kd.Q_far (p:=⟨gb405,3,none⟩) (Kd.Q_far (p:=⟨gb405,2,none⟩) (Kd.Q_far (p:=⟨gb405,1,none⟩) (Kd.Q_far (p:=⟨gb405,0,none⟩) (Kd.Q_types HO_7.out BK405.out (by decide)) (fun _ hk=>hk.2) (.int .i64 t396)) (fun _ hk=>hk.2) (.slice Ao21 t397.length co21)) (fun _ hk=>hk.2) (.slice Ao22 t400.length co22)) (fun _ hk=>hk.2) (.int .i64 t403)) (fun _ hk=>hk.2) (.bool true)) (fun _ h_=>h_.1)))) k_ hk_),(Kd.fresh' (Kd.N_lt (by(with_reducible repeat (first|apply Kd.N_alloc|apply Kd.N_drewN|apply Kd.N_drew));exact(Kd.N_mono (Kd.N_far (p:=⟨gb405,4,none⟩) (Kd.N_far (p:=⟨gb405,3,none⟩) (Kd.N_far (p:=⟨gb405,2,none⟩) (Kd.N_far (p:=⟨gb405,1,none⟩) (Kd.N_far (p:=⟨gb405,0,none⟩) (Kd.N_mono HO_8.out (fun k_ hk=>(⟨hk,hk.2⟩ : _∧k_≠gb405))) (fun _ hk=>hk.2) (.int .i64 t396)) (fun _ hk=>hk.2) (.slice Ao21 t397.length co21)) (fun _ hk=>hk.2) (.slice Ao22 t400.length co22)) (fun _ hk=>hk.2) (.int .i64 t403)) (fun _ hk=>hk.2) (.bool true)) (fun _ h_=>h_.1)))) k_ hk_),(Kd.fresh' (Kd.R_lt (by(with_reducible repeat (first|apply Kd.R_alloc|apply Kd.R_drewN|apply Kd.R_drew));exact(Kd.R_mono (Kd.R_far (p:=⟨gb405,4,none⟩) (Kd.R_far (p:=⟨gb405,3,none⟩) (Kd.R_far (p:=⟨gb405,2,none⟩) (Kd.R_far (p:=⟨gb405,1,none⟩) (Kd.R_far (p:=⟨gb405,0,none⟩) (Kd.R_types HO399.out BK405.out (by decide)) (fun _ hk=>hk.2) (.int .i64 t396)) (fun _ hk=>hk.2) (.slice Ao21 t397.length co21)) (fun _ hk=>hk.2) (.slice Ao22 t400.length co22)) (fun _ hk=>hk.2) (.int .i64 t403)) (fun _ hk=>hk.2) (.bool true)) (fun _ h_=>h_.1)))) k_ hk_),(Kd.freshB (g:=gb405) (o:=.cells #[.int .i64 t396,.slice Ao21 t397.length co21,.slice Ao22 t400.length co22,.int .i64 t403,.bool true] 29 (0,0)) (by(with_reducible repeat (first|refine blk_drewN ?_ _|refine blk_drew ?_|refine blk_alloc ?_ _));refine blk_put (cs:=#[.int .i64 t396,.slice Ao21 t397.length co21,.slice Ao22 t400.length co22,.int .i64 t403,.bool false]) ?_ 4 _ rfl;(with_reducible repeat (first|refine blk_drewN ?_ _|refine blk_drew ?_|refine blk_alloc ?_ _));refine blk_put (cs:=#[.int .i64 t396,.slice Ao21 t397.length co21,.slice Ao22 t400.length co22,.int .i64 0,.bool false]) ?_ 3 _ rfl;(with_reducible repeat (first|refine blk_drewN ?_ _|refine blk_drew ?_|refine blk_alloc ?_ _));refine blk_put (cs:=#[.int .i64 t396,.slice Ao21 t397.length co21,.slice none 0 0,.int .i64 0,.bool false]) ?_ 2 _ rfl;(with_reducible repeat (first|refine blk_drewN ?_ _|refine blk_drew ?_|refine blk_alloc ?_ _));refine blk_put (cs:=#[.int .i64 t396,.slice none 0 0,.slice none 0 0,.int .i64 0,.bool false]) ?_ 1 _ rfl;(with_reducible repeat (first|refine blk_drewN ?_ _|refine blk_drew ?_|refine blk_alloc ?_ _));refine blk_put (cs:=#[.int .i64 0,.slice none 0 0,.slice none 0 0,.int .i64 0,.bool false]) ?_ 0 _ rfl;(with_reducible repeat (first|refine blk_drewN ?_ _|refine blk_drew ?_|refine blk_alloc ?_ _));exact BK405.out) k_ hk_)⟩)) (below_size bl));have n6_:=Aside0.mk (blk_below (g:=gb405) (o:=.cells #[.int .i64 t396,.slice Ao21 t397.length co21,.slice Ao22 t400.length co22,.int .i64 t403,.bool true] 29 (0,0)) (by(with_reducible repeat (first|refine blk_drewN ?_ _|refine blk_drew ?_|refine blk_alloc ?_ _));refine blk_put (cs:=#[.int .i64 t396,.slice Ao21 t397.length co21,.slice Ao22 t400.length co22,.int .i64 t403,.bool false]) ?_ 4 _ rfl;(with_reducible repeat (first|refine blk_drewN ?_ _|refine blk_drew ?_|refine blk_alloc ?_ _));refine blk_put (cs:=#[.int .i64 t396,.slice Ao21 t397.length co21,.slice Ao22 t400.length co22,.int .i64 0,.bool false]) ?_ 3 _ rfl;(with_reducible repeat (first|refine blk_drewN ?_ _|refine blk_drew ?_|refine blk_alloc ?_ _));refine blk_put (cs:=#[.int .i64 t396,.slice Ao21 t397.length co21,.slice none 0 0,.int .i64 0,.bool false]) ?_ 2 _ rfl;(with_reducible repeat (first|refine blk_drewN ?_ _|refine blk_drew ?_|refine blk_alloc ?_ _));refine blk_put (cs:=#[.int .i64 t396,.slice none 0 0,.slice none 0 0,.int .i64 0,.bool false]) ?_ 1 _ rfl;(with_reducible repeat (first|refine blk_drewN ?_ _|refine blk_drew ?_|refine blk_alloc ?_ _));refine blk_put (cs:=#[.int .i64 0,.slice none 0 0,.slice none 0 0,.int .i64 0,.bool false]) ?_ 0 _ rfl;(with_reducible repeat (first|refine blk_drewN ?_ _|refine blk_drew ?_|refine blk_alloc ?_ _));exact BK405.out) hb);have n7_:=Aside0.mk (below_step bl hb);clear HO_7;clear HO_8;clear HO395;clear HO399;clear HO402;clear BK405;clear HB;have HO_7:=n0_;have HO_8:=n1_;have HO395:=n2_;have HO399:=n3_;have HO402:=n4_;have HO409:=n5_;have BK405:=n6_;have HB:=n7_;clear n0_ n1_ n2_ n3_ n4_ n5_ n6_ n7_;obtain⟨Ao25,co25,eo25⟩:=Kd.V_slice HO409.out;subst eo25)|((with_reducible refine gate_builtin (b:=.append) (xs:=#[.tmp 44,.tmp 51]) rfl ?_);(try (refine gate_guard (by rfl) ?_;dsimp only));at_builtin;refine Kd.Q_append_rows (Kd.int .u8) (w0:=w) w.heap.size rfl (.tmp 44) (.tmp 51) 23 5 (.int .u8 0) 1 rfl Tryd.underlying23 info5 rfl (by decide) (by omega) u7 x7_1 t407 _ _ _ (fun _=>True) (fun _=>False) rfl rfl ?aO ?aR (fun _ _ h=>h) (fun _ h=>h.elim) ?aF ?aB ?aS ?aL ?_;(case aR=>repeat (first|exact(Kd.V_reads' HO409.out).2.2|(with_reducible refine Kd.C_alloc ?_ _)|(with_reducible refine Kd.C_drewN ?_ _)|(with_reducible refine Kd.C_drew ?_)));(case aB=>exact bl);(case aF=>exact(fun _ _=>trivial));(case aO=>exact(by(with_reducible repeat (first|apply Kd.Q_alloc|apply Kd.Q_drewN|apply Kd.Q_drew));exact HO_7.out));(case aS=>exact(below_size bl));(case aL=>have:=LMc14.out;omega);intro v411 w24 ho hb hg hat;rw [← Ny410.out] at ho;have n0_:=Aside0.mk (Kd.N_afterv (ok:=(fun k_=>some k_≠(.slice Ao21 t397.length co21:Value).ownBlock∧k_≠gb405)) (by(with_reducible repeat (first|apply Kd.N_alloc|apply Kd.N_drewN|apply Kd.N_drew));exact Kd.N_mono HO_8.out (fun _ hk=>⟨⟨hk.1.2,hk.2⟩,hk.1.1⟩)) hg hat);have n1_:=Aside0.mk (Kd.V_afterv (ok:=(fun k_=>some k_≠(u8:Value).ownBlock∧some k_≠(.slice Ao21 t397.length co21:Value).ownBlock∧k_≠gb405)) (by(with_reducible repeat (first|apply Kd.V_alloc|apply Kd.V_drewN|apply Kd.V_drew));exact Kd.V_mono HO395.out (fun _ hk=>⟨⟨hk.1.1.2,⟨hk.1.2,hk.2⟩⟩,hk.1.1.1⟩)) hg hat);have n2_:=Aside0.mk (Kd.R_over' rl (Kd.Q_typed (by(with_reducible repeat (first|apply Kd.Q_alloc|apply Kd.Q_drewN|apply Kd.Q_drew));exact HO_7.out)) (by decide) hg);have n3_:=Aside0.mk (Kd.V_afterv (ok:=(fun k_=>some k_≠(u8:Value).ownBlock∧some k_≠(.slice Ao21 t397.length co21:Value).ownBlock∧k_≠gb405)) (by(with_reducible repeat (first|apply Kd.V_alloc|apply Kd.V_drewN|apply Kd.V_drew));exact Kd.V_mono HO402.out (fun _ hk=>⟨⟨hk.1.2.2,⟨hk.1.1,hk.2⟩⟩,hk.1.2.1⟩)) hg hat);have n4_:=Aside0.mk (blk_grown (g:=gb405) (o:=.cells #[.int .i64 t396,.slice Ao21 t397.length co21,.slice Ao22 t400.length co22,.int .i64 t403,.bool true] 29 (0,0)) kl hg (Kd.Q_ne HO_7.out BK405.out (by decide)));have n5_:=Aside0.mk (Kd.V_afterv (ok:=(fun k_=>some k_≠(u8:Value).ownBlock∧some k_≠(.slice Ao21 t397.length co21:Value).ownBlock∧k_≠gb405)) (by(with_reducible repeat (first|apply Kd.V_alloc|apply Kd.V_drewN|apply Kd.V_drew));exact Kd.V_mono HO409.out (fun _ hk=>⟨⟨hk.2.1,⟨hk.2.2.1,hk.2.2.2⟩⟩,hk.1⟩)) hg hat);have n6_:=Aside0.mk (hb);have n7_:=Aside0.mk (ho);clear HO_8;clear HO395;clear HO399;clear HO402;clear BK405;clear HO409;clear HB;clear HO_7;have HO_8:=n0_;have HO395:=n1_;have HO399:=n2_;have HO402:=n3_;have BK405:=n4_;have HO409:=n5_;have HB:=n6_;have HO412:=n7_;clear n0_ n1_ n2_ n3_ n4_ n5_ n6_ n7_;clear ho hb hg hat;obtain⟨_,_,_,_,_,_,_,_,_,_⟩:=bc5 BK405.out)|((with_reducible refine gate_builtin (b:=.append) (xs:=#[.tmp 53,.tmp 56]) rfl ?_);(try (refine gate_guard (by rfl) ?_;dsimp only));at_builtin;refine Kd.N_append k27 (w0:=w) w.heap.size rfl (.tmp 53) (.tmp 56) 22 27 (.agg #[(.int .i64 0),(.slice none 0 0),(.slice none 0 0)]) 56 rfl Tryd.underlying22 info27 rfl (by decide) (by omega) u8 x8_1 (⟨t396,t397,t400⟩ : S27) [.int .i64 t396,.slice Ao21 t397.length co21,.slice Ao22 t400.length co22] (fun k_=>some k_≠(v411:Value).ownBlock∧k_≠gb405) (fun k_=>((fun k_=>some k_≠(v411:Value).ownBlock∧k_≠gb405)) k_∧some k_≠(u8:Value).ownBlock) rfl rfl ?aP (fun _ hk=>hk) ?aF ?aO ?aB ?aS ?aL ?_;(case aP=>exact(k27_mkF _ _ (⟨t396,t397,t400⟩ : S27) (Kd.R_reads' (Kd.R_mono (ok':=(fun k_=>((fun k_=>some k_≠(v411:Value).ownBlock∧k_≠gb405)) k_∧some k_≠(u8:Value).ownBlock)) (Kd.R_types (Kd.R_apart' (Kd.R_apart' (HO399.out) (Kd.Q_typed HO412.out) (by decide)) (Kd.N_typed HO_8.out) (by decide)) BK405.out (by decide)) (fun k_ hk=>⟨⟨hk.1.1.2,hk.2⟩,hk.1.2⟩))).2.1 (Kd.R_F (Kd.R_mono (ok':=(fun k_=>((fun k_=>some k_≠(v411:Value).ownBlock∧k_≠gb405)) k_∧some k_≠(u8:Value).ownBlock)) (Kd.R_types (Kd.R_apart' (Kd.R_apart' (HO399.out) (Kd.Q_typed HO412.out) (by decide)) (Kd.N_typed HO_8.out) (by decide)) BK405.out (by decide)) (fun k_ hk=>⟨⟨hk.1.1.2,hk.2⟩,hk.1.2⟩))) (Kd.V_reads' (Kd.V_mono (ok':=(fun k_=>((fun k_=>some k_≠(v411:Value).ownBlock∧k_≠gb405)) k_∧some k_≠(u8:Value).ownBlock)) (HO402.out) (fun k_ hk=>⟨⟨hk.2,hk.1.2.2⟩,hk.1.1⟩))).2.1 (Kd.V_F (Kd.V_mono (ok':=(fun k_=>((fun k_=>some k_≠(v411:Value).ownBlock∧k_≠gb405)) k_∧some k_≠(u8:Value).ownBlock)) (HO402.out) (fun k_ hk=>⟨⟨hk.2,hk.1.2.2⟩,hk.1.1⟩)))));(case aB=>exact bl);(case aF=>exact(fun k_ hk=>⟨Kd.fresh' (Kd.Q_lt (by(with_reducible repeat (first|apply Kd.Q_alloc|apply Kd.Q_drewN|apply Kd.Q_drew));exact HO412.out)) k_ hk,Kd.freshB (g:=gb405) (o:=.cells #[.int .i64 t396,.slice Ao21 t397.length co21,.slice Ao22 t400.length co22,.int .i64 t403,.bool true] 29 (0,0)) kl k_ hk⟩));(case aO=>exact(by(with_reducible repeat (first|apply Kd.N_alloc|apply Kd.N_drewN|apply Kd.N_drew));exact Kd.N_mono HO_8.out (fun _ hk=>⟨hk.2,hk.1.2⟩)));(case aS=>exact(below_size bl));(case aL=>have:=LMc15.out;omega);intro v414 w27 ho hb hg hat;rw [← Ny413.out] at ho;have n0_:=Aside0.mk (Kd.V_afterv (ok:=(fun k_=>some k_≠(.slice Ao21 t397.length co21:Value).ownBlock∧some k_≠(v411:Value).ownBlock∧k_≠gb405)) (by(with_reducible repeat (first|apply Kd.V_alloc|apply Kd.V_drewN|apply Kd.V_drew));exact Kd.V_mono HO395.out (fun _ hk=>⟨⟨hk.1.2.1,⟨hk.2,hk.1.2.2⟩⟩,hk.1.1⟩)) hg hat);have n1_:=Aside0.mk (Kd.V_afterv (ok:=(fun k_=>some k_≠(.slice Ao21 t397.length co21:Value).ownBlock∧some k_≠(v411:Value).ownBlock∧k_≠gb405)) (by(with_reducible repeat (first|apply Kd.V_alloc|apply Kd.V_drewN|apply Kd.V_drew));exact Kd.V_mono HO402.out (fun _ hk=>⟨⟨hk.1.2.1,⟨hk.2,hk.1.2.2⟩⟩,hk.1.1⟩)) hg hat);have n2_:=Aside0.mk (blk_grown (g:=gb405) (o:=.cells #[.int .i64 t396,.slice Ao21 t397.length co21,.slice Ao22 t400.length co22,.int .i64 t403,.bool true] 29 (0,0)) kl hg (Kd.N_ne HO_8.out BK405.out (by decide)));have n3_:=Aside0.mk (Kd.V_afterv (ok:=(fun k_=>some k_≠(.slice Ao21 t397.length co21:Value).ownBlock∧some k_≠(v411:Value).ownBlock∧k_≠gb405)) (by(with_reducible repeat (first|apply Kd.V_alloc|apply Kd.V_drewN|apply Kd.V_drew));exact Kd.V_mono HO409.out (fun _ hk=>⟨⟨hk.1.2.1,⟨hk.2,hk.1.2.2⟩⟩,hk.1.1⟩)) hg hat);have n4_:=Aside0.mk (Kd.Q_over' (by(with_reducible repeat (first|apply Kd.Q_alloc|apply Kd.Q_drewN|apply Kd.Q_drew));exact HO412.out) (Kd.N_typed (by(with_reducible repeat (first|apply Kd.N_alloc|apply Kd.N_drewN|apply Kd.N_drew));exact HO_8.out)) (by decide) hg);have n5_:=Aside0.mk (hb);have n6_:=Aside0.mk (ho);clear HO395;clear HO402;clear BK405;clear HO409;clear HO412;clear HB;clear HO_8;clear HO399;have HO395:=n0_;have HO402:=n1_;have BK405:=n2_;have HO409:=n3_;have HO412:=n4_;have HB:=n5_;have HO415:=n6_;clear n0_ n1_ n2_ n3_ n4_ n5_ n6_;clear ho hb hg hat))
     go_roundg kj3
     case measure=>have:=HK1.out;have:=HJ3.out;omega
     case rel=>exact⟨(y410),(y413),(wrap64 (x9_1+1)),rs,H',⟨by have:=HK1.out;have:=HJ3.out;omega⟩,⟨by(with_reducible repeat (first|apply Kd.Q_alloc|apply Kd.Q_drewN|apply Kd.Q_drew));exact HO412.out⟩,⟨by(with_reducible repeat (first|apply Kd.N_alloc|apply Kd.N_drewN|apply Kd.N_drew));exact Kd.N_mono HO415.out (fun _ hk=>hk.1)⟩,⟨bl⟩⟩
     }
     ·exact absurd H (by simp)
     }
     ·exact absurd H (by simp)
     }
     {
     have c12b0:(t403 == (t393.length:Int))=false:=beq_eq_false_iff_ne.mpr c12
     have c12b1:(t403 != (t393.length:Int))=true:=bne_iff_ne.mpr c12
     have H':=Aside0.mk H
     clear H
     have p392:0≤(x9_1:Int):=of_decide_eq_true asm
     have q392:x9_1<(l0.length:Int):=of_decide_eq_true asm
     obtain⟨ad392,A392_1,c392_1,A392_2,c392_2,e392,hx392_0,hx392_1,hx392_2,hl392_1,hi392_1,hl392_2,hi392_2⟩:=at_T27 HR0.out x9_1 p392 q392
     cases e392
     replace hx392_0:=(HB.out.cell (World.block_lt_of_cell? w _ hx392_0)).trans hx392_0
     replace hx392_1:=(HB.out.cell (World.block_lt_of_cell? w _ hx392_1)).trans hx392_1
     replace hx392_2:=(HB.out.cell (World.block_lt_of_cell? w _ hx392_2)).trans hx392_2
     have HR392_1:=Aside0.mk hi392_1
     have HC392_1:=Aside0.mk hl392_1
     clear hi392_1 hl392_1
     have HR392_2:=Aside0.mk hi392_2
     have HC392_2:=Aside0.mk hl392_2
     clear hi392_2 hl392_2
     replace p392:=eq_true p392
     replace q392:=eq_true q392
     go_wp2_with (first|((with_reducible refine gate_callee (f:=7) rfl ?_);refine goesL_ (some 32) rfl rfl Tryd.func7 kr rfl #[.agg #[.int .i64 ((rd_T27 l0 x9_1).f0),.slice A392_1 ((rd_T27 l0 x9_1).f1).length c392_1,.slice A392_2 ((rd_T27 l0 x9_1).f2).length c392_2],.bool false,.int .i64 a1,.string a2,.bool false] rfl am ?_;(with_reducible refine(stowageref17_Print.calls kj3 ((rd_T27 l0 x9_1).f0) _ _ ((rd_T27 l0 x9_1).f1) _ _ ((rd_T27 l0 x9_1).f2) false a1 a2 false t393 _ ?side1 ?side2 ?side3 ?side4 A9.out).mono ?_);(case side1=>repeat (first|exact(Kd.C_below HR392_1.out HB.out)|(with_reducible refine Kd.C_alloc ?_ _)|(with_reducible refine Kd.C_drewN ?_ _)|(with_reducible refine Kd.C_drew ?_)));(case side2=>exact HC392_1.out);(case side3=>repeat (first|exact(Kd.C_below HR392_2.out HB.out)|(with_reducible refine Kd.C_alloc ?_ _)|(with_reducible refine Kd.C_drewN ?_ _)|(with_reducible refine Kd.C_drew ?_)));(case side4=>exact HC392_2.out);rintro e w28 ⟨v394,rfl,ho0,hb⟩;refine⟨_,rfl,?_⟩;have n0_:=Aside0.mk (Kd.Q_below (by(with_reducible repeat (first|apply Kd.Q_alloc|apply Kd.Q_drewN|apply Kd.Q_drew));exact HO_7.out) hb);have n1_:=Aside0.mk (Kd.N_below (by(with_reducible repeat (first|apply Kd.N_alloc|apply Kd.N_drewN|apply Kd.N_drew));exact HO_8.out) hb);have n2_:=Aside0.mk (Kd.V_lower (Kd.V_mono (ok':=fun k_=>some k_≠(u7:Value).ownBlock∧some k_≠(u8:Value).ownBlock) ho0 (fun k_ hk_=>⟨(Kd.fresh' (Kd.Q_lt (by(with_reducible repeat (first|apply Kd.Q_alloc|apply Kd.Q_drewN|apply Kd.Q_drew));exact HO_7.out)) k_ hk_),(Kd.fresh' (Kd.N_lt (by(with_reducible repeat (first|apply Kd.N_alloc|apply Kd.N_drewN|apply Kd.N_drew));exact HO_8.out)) k_ hk_)⟩)) (below_size bl));have n3_:=Aside0.mk (below_step bl hb);clear HO_7;clear HO_8;clear HB;have HO_7:=n0_;have HO_8:=n1_;have HO395:=n2_;have HB:=n3_;clear n0_ n1_ n2_ n3_;obtain⟨Ao29,co29,eo29⟩:=Kd.V_slice HO395.out;subst eo29)|((with_reducible refine gate_callee (f:=8) rfl ?_);refine goesL_ (some 34) rfl rfl Tryd.func8 kr rfl #[.slice Ao29 t393.length co29,.bool false] rfl am ?_;(with_reducible refine(stowageref17_Parse.calls kj3 _ _ t393 false t396 t397 t400 t403 true _ ?side1 ?side2 A10.out).mono ?_);(case side1=>repeat (first|exact(Kd.V_reads' HO395.out).2.2|(with_reducible refine Kd.C_alloc ?_ _)|(with_reducible refine Kd.C_drewN ?_ _)|(with_reducible refine Kd.C_drew ?_)));(case side2=>exact(Kd.V_reads' HO395.out).2.1);rintro e w30 ⟨v398,v401,rfl,ho0,ho1,hb⟩;refine⟨_,rfl,?_⟩;have n0_:=Aside0.mk (Kd.Q_below (by(with_reducible repeat (first|apply Kd.Q_alloc|apply Kd.Q_drewN|apply Kd.Q_drew));exact HO_7.out) hb);have n1_:=Aside0.mk (Kd.N_elder' (by(with_reducible repeat (first|apply Kd.N_alloc|apply Kd.N_drewN|apply Kd.N_drew));exact HO_8.out) (by first|exact Kd.R_base ho0|exact Kd.R_base ho0) hb);have n2_:=Aside0.mk (Kd.V_elder' (by(with_reducible repeat (first|apply Kd.V_alloc|apply Kd.V_drewN|apply Kd.V_drew));exact HO395.out) (by first|exact Kd.R_base ho0|exact Kd.R_base ho0) hb);have n3_:=Aside0.mk (Kd.R_lower (Kd.R_mono (ok':=fun k_=>True) ho0 (fun _ hk_=>trivial)) (below_size bl));have n4_:=Aside0.mk (Kd.V_lower (Kd.V_mono (ok':=fun k_=>some k_≠(v398:Value).ownBlock∧some k_≠(u7:Value).ownBlock∧some k_≠(u8:Value).ownBlock) ho1 (fun k_ hk_=>⟨hk_.2,(Kd.fresh' (Kd.Q_lt (by(with_reducible repeat (first|apply Kd.Q_alloc|apply Kd.Q_drewN|apply Kd.Q_drew));exact HO_7.out)) k_ hk_.1),(Kd.fresh' (Kd.N_lt (by(with_reducible repeat (first|apply Kd.N_alloc|apply Kd.N_drewN|apply Kd.N_drew));exact HO_8.out)) k_ hk_.1)⟩)) (below_size bl));have n5_:=Aside0.mk (below_step bl hb);clear HO_7;clear HO_8;clear HO395;clear HB;have HO_7:=n0_;have HO_8:=n1_;have HO395:=n2_;have HO399:=n3_;have HO402:=n4_;have HB:=n5_;clear n0_ n1_ n2_ n3_ n4_ n5_)|((with_reducible refine gate_dst (N:=11) rfl ?_);(try (refine gate_guard (by rfl) ?_;dsimp only));refine box_event ?hg (N:=11) ?hd (cs:=#[.int .i64 0,.slice none 0 0,.slice none 0 0,.int .i64 0,.bool false]) (t:=29) ?hr ?_;(case hd=>rfl);(case hg=>rfl);(case hr=>first|(go_simp;done)|(go_simp;rfl));intro gb405 hg w31 hbox hb;have n0_:=Aside0.mk (Kd.Q_below (by(with_reducible repeat (first|apply Kd.Q_alloc|apply Kd.Q_drewN|apply Kd.Q_drew));exact HO_7.out) hb);have n1_:=Aside0.mk (Kd.N_below (Kd.N_elderB (by(with_reducible repeat (first|apply Kd.N_alloc|apply Kd.N_drewN|apply Kd.N_drew));exact HO_8.out) gb405 (Nat.le_of_eq hg.symm)) hb);have n2_:=Aside0.mk (Kd.V_below (Kd.V_elderB (by(with_reducible repeat (first|apply Kd.V_alloc|apply Kd.V_drewN|apply Kd.V_drew));exact HO395.out) gb405 (Nat.le_of_eq hg.symm)) hb);have n3_:=Aside0.mk (Kd.R_below rl hb);have n4_:=Aside0.mk (Kd.V_below (Kd.V_elderB (by(with_reducible repeat (first|apply Kd.V_alloc|apply Kd.V_drewN|apply Kd.V_drew));exact HO402.out) gb405 (Nat.le_of_eq hg.symm)) hb);have n5_:=Aside0.mk (below_step bl hb);have n6_:=Aside0.mk (hbox);have n7_:=Aside0.mk ((by rw [hg];exact(below_size bl):w.heap.size≤gb405));have n8_:=Aside0.mk ((by rw [hg];exact(below_size bl):w.heap.size≤gb405));clear HO_7;clear HO_8;clear HO395;clear HO399;clear HO402;clear HB;have HO_7:=n0_;have HO_8:=n1_;have HO395:=n2_;have HO399:=n3_;have HO402:=n4_;have HB:=n5_;have BK405:=n6_;have GW405:=n7_;have GE405:=n8_;clear n0_ n1_ n2_ n3_ n4_ n5_ n6_ n7_ n8_;clear hb hbox hg;obtain⟨_,_,_,_,_,_,_,_,_,_⟩:=bc5 BK405.out;obtain⟨Ao33,co33,eo33⟩:=Kd.R_slice HO399.out;subst eo33;obtain⟨Ao34,co34,eo34⟩:=Kd.V_slice HO402.out;subst eo34))
     go_roundg kj3
     case measure=>have:=HK1.out;have:=HJ3.out;omega
     case rel=>exact⟨(x7_1),(x8_1),(wrap64 (x9_1+1)),rs,H',⟨by have:=HK1.out;have:=HJ3.out;omega⟩,⟨by(with_reducible repeat (first|apply Kd.Q_alloc|apply Kd.Q_drewN|apply Kd.Q_drew));exact Kd.Q_mono (Kd.Q_far (p:=⟨gb405,4,none⟩) (Kd.Q_far (p:=⟨gb405,3,none⟩) (Kd.Q_far (p:=⟨gb405,2,none⟩) (Kd.Q_far (p:=⟨gb405,1,none⟩) (Kd.Q_far (p:=⟨gb405,0,none⟩) (Kd.Q_types HO_7.out BK405.out (by decide)) (fun _ hk=>hk.2) (.int .i64 t396)) (fun _ hk=>hk.2) (.slice Ao33 t397.length co33)) (fun _ hk=>hk.2) (.slice Ao34 t400.length co34)) (fun _ hk=>hk.2) (.int .i64 t403)) (fun _ hk=>hk.2) (.bool true)) (fun _ hk=>trivial)⟩,⟨by(with_reducible repeat (first|apply Kd.N_alloc|apply Kd.N_drewN|apply Kd.N_drew));exact Kd.N_mono (Kd.N_far (p:=⟨gb405,4,none⟩) (Kd.N_far (p:=⟨gb405,3,none⟩) (Kd.N_far (p:=⟨gb405,2,none⟩) (Kd.N_far (p:=⟨gb405,1,none⟩) (Kd.N_far (p:=⟨gb405,0,none⟩) (Kd.N_mono HO_8.out (fun k_ hk=>(⟨hk,hk.2⟩ : _∧k_≠gb405))) (fun _ hk=>hk.2) (.int .i64 t396)) (fun _ hk=>hk.2) (.slice Ao33 t397.length co33)) (fun _ hk=>hk.2) (.slice Ao34 t400.length co34)) (fun _ hk=>hk.2) (.int .i64 t403)) (fun _ hk=>hk.2) (.bool true)) (fun _ hk=>hk.1.1.1)⟩,⟨bl⟩⟩
     }
     }
     {
     replace c11:=Bool.eq_false_iff.mpr c11
     subst c11
     replace H:=itF H
     have H':=Aside0.mk H
     clear H
     have p392:0≤(x9_1:Int):=of_decide_eq_true asm
     have q392:x9_1<(l0.length:Int):=of_decide_eq_true asm
     obtain⟨ad392,A392_1,c392_1,A392_2,c392_2,e392,hx392_0,hx392_1,hx392_2,hl392_1,hi392_1,hl392_2,hi392_2⟩:=at_T27 HR0.out x9_1 p392 q392
     cases e392
     replace hx392_0:=(HB.out.cell (World.block_lt_of_cell? w _ hx392_0)).trans hx392_0
     replace hx392_1:=(HB.out.cell (World.block_lt_of_cell? w _ hx392_1)).trans hx392_1
     replace hx392_2:=(HB.out.cell (World.block_lt_of_cell? w _ hx392_2)).trans hx392_2
     have HR392_1:=Aside0.mk hi392_1
     have HC392_1:=Aside0.mk hl392_1
     clear hi392_1 hl392_1
     have HR392_2:=Aside0.mk hi392_2
     have HC392_2:=Aside0.mk hl392_2
     clear hi392_2 hl392_2
     replace p392:=eq_true p392
     replace q392:=eq_true q392
     go_wp2_with (first|((with_reducible refine gate_callee (f:=7) rfl ?_);refine goesL_ (some 32) rfl rfl Tryd.func7 kr rfl #[.agg #[.int .i64 ((rd_T27 l0 x9_1).f0),.slice A392_1 ((rd_T27 l0 x9_1).f1).length c392_1,.slice A392_2 ((rd_T27 l0 x9_1).f2).length c392_2],.bool false,.int .i64 a1,.string a2,.bool false] rfl am ?_;(with_reducible refine(stowageref17_Print.calls kj3 ((rd_T27 l0 x9_1).f0) _ _ ((rd_T27 l0 x9_1).f1) _ _ ((rd_T27 l0 x9_1).f2) false a1 a2 false t393 _ ?side1 ?side2 ?side3 ?side4 A9.out).mono ?_);(case side1=>repeat (first|exact(Kd.C_below HR392_1.out HB.out)|(with_reducible refine Kd.C_alloc ?_ _)|(with_reducible refine Kd.C_drewN ?_ _)|(with_reducible refine Kd.C_drew ?_)));(case side2=>exact HC392_1.out);(case side3=>repeat (first|exact(Kd.C_below HR392_2.out HB.out)|(with_reducible refine Kd.C_alloc ?_ _)|(with_reducible refine Kd.C_drewN ?_ _)|(with_reducible refine Kd.C_drew ?_)));(case side4=>exact HC392_2.out);rintro e w35 ⟨v394,rfl,ho0,hb⟩;refine⟨_,rfl,?_⟩;have n0_:=Aside0.mk (Kd.Q_below (by(with_reducible repeat (first|apply Kd.Q_alloc|apply Kd.Q_drewN|apply Kd.Q_drew));exact HO_7.out) hb);have n1_:=Aside0.mk (Kd.N_below (by(with_reducible repeat (first|apply Kd.N_alloc|apply Kd.N_drewN|apply Kd.N_drew));exact HO_8.out) hb);have n2_:=Aside0.mk (Kd.V_lower (Kd.V_mono (ok':=fun k_=>some k_≠(u7:Value).ownBlock∧some k_≠(u8:Value).ownBlock) ho0 (fun k_ hk_=>⟨(Kd.fresh' (Kd.Q_lt (by(with_reducible repeat (first|apply Kd.Q_alloc|apply Kd.Q_drewN|apply Kd.Q_drew));exact HO_7.out)) k_ hk_),(Kd.fresh' (Kd.N_lt (by(with_reducible repeat (first|apply Kd.N_alloc|apply Kd.N_drewN|apply Kd.N_drew));exact HO_8.out)) k_ hk_)⟩)) (below_size bl));have n3_:=Aside0.mk (below_step bl hb);clear HO_7;clear HO_8;clear HB;have HO_7:=n0_;have HO_8:=n1_;have HO395:=n2_;have HB:=n3_;clear n0_ n1_ n2_ n3_;obtain⟨Ao36,co36,eo36⟩:=Kd.V_slice HO395.out;subst eo36)|((with_reducible refine gate_callee (f:=8) rfl ?_);refine goesL_ (some 34) rfl rfl Tryd.func8 kr rfl #[.slice Ao36 t393.length co36,.bool false] rfl am ?_;(with_reducible refine(stowageref17_Parse.calls kj3 _ _ t393 false t396 t397 t400 t403 false _ ?side1 ?side2 A10.out).mono ?_);(case side1=>repeat (first|exact(Kd.V_reads' HO395.out).2.2|(with_reducible refine Kd.C_alloc ?_ _)|(with_reducible refine Kd.C_drewN ?_ _)|(with_reducible refine Kd.C_drew ?_)));(case side2=>exact(Kd.V_reads' HO395.out).2.1);rintro e w37 ⟨v398,v401,rfl,ho0,ho1,hb⟩;refine⟨_,rfl,?_⟩;have n0_:=Aside0.mk (Kd.Q_below (by(with_reducible repeat (first|apply Kd.Q_alloc|apply Kd.Q_drewN|apply Kd.Q_drew));exact HO_7.out) hb);have n1_:=Aside0.mk (Kd.N_elder' (by(with_reducible repeat (first|apply Kd.N_alloc|apply Kd.N_drewN|apply Kd.N_drew));exact HO_8.out) (by first|exact Kd.R_base ho0|exact Kd.R_base ho0) hb);have n2_:=Aside0.mk (Kd.V_elder' (by(with_reducible repeat (first|apply Kd.V_alloc|apply Kd.V_drewN|apply Kd.V_drew));exact HO395.out) (by first|exact Kd.R_base ho0|exact Kd.R_base ho0) hb);have n3_:=Aside0.mk (Kd.R_lower (Kd.R_mono (ok':=fun k_=>True) ho0 (fun _ hk_=>trivial)) (below_size bl));have n4_:=Aside0.mk (Kd.V_lower (Kd.V_mono (ok':=fun k_=>some k_≠(v398:Value).ownBlock∧some k_≠(u7:Value).ownBlock∧some k_≠(u8:Value).ownBlock) ho1 (fun k_ hk_=>⟨hk_.2,(Kd.fresh' (Kd.Q_lt (by(with_reducible repeat (first|apply Kd.Q_alloc|apply Kd.Q_drewN|apply Kd.Q_drew));exact HO_7.out)) k_ hk_.1),(Kd.fresh' (Kd.N_lt (by(with_reducible repeat (first|apply Kd.N_alloc|apply Kd.N_drewN|apply Kd.N_drew));exact HO_8.out)) k_ hk_.1)⟩)) (below_size bl));have n5_:=Aside0.mk (below_step bl hb);clear HO_7;clear HO_8;clear HO395;clear HB;have HO_7:=n0_;have HO_8:=n1_;have HO395:=n2_;have HO399:=n3_;have HO402:=n4_;have HB:=n5_;clear n0_ n1_ n2_ n3_ n4_ n5_)|((with_reducible refine gate_dst (N:=11) rfl ?_);(try (refine gate_guard (by rfl) ?_;dsimp only));refine box_event ?hg (N:=11) ?hd (cs:=#[.int .i64 0,.slice none 0 0,.slice none 0 0,.int .i64 0,.bool false]) (t:=29) ?hr ?_;(case hd=>rfl);(case hg=>rfl);(case hr=>first|(go_simp;done)|(go_simp;rfl));intro gb405 hg w38 hbox hb;have n0_:=Aside0.mk (Kd.Q_below (by(with_reducible repeat (first|apply Kd.Q_alloc|apply Kd.Q_drewN|apply Kd.Q_drew));exact HO_7.out) hb);have n1_:=Aside0.mk (Kd.N_below (Kd.N_elderB (by(with_reducible repeat (first|apply Kd.N_alloc|apply Kd.N_drewN|apply Kd.N_drew));exact HO_8.out) gb405 (Nat.le_of_eq hg.symm)) hb);have n2_:=Aside0.mk (Kd.V_below (Kd.V_elderB (by(with_reducible repeat (first|apply Kd.V_alloc|apply Kd.V_drewN|apply Kd.V_drew));exact HO395.out) gb405 (Nat.le_of_eq hg.symm)) hb);have n3_:=Aside0.mk (Kd.R_below rl hb);have n4_:=Aside0.mk (Kd.V_below (Kd.V_elderB (by(with_reducible repeat (first|apply Kd.V_alloc|apply Kd.V_drewN|apply Kd.V_drew));exact HO402.out) gb405 (Nat.le_of_eq hg.symm)) hb);have n5_:=Aside0.mk (below_step bl hb);have n6_:=Aside0.mk (hbox);have n7_:=Aside0.mk ((by rw [hg];exact(below_size bl):w.heap.size≤gb405));have n8_:=Aside0.mk ((by rw [hg];exact(below_size bl):w.heap.size≤gb405));clear HO_7;clear HO_8;clear HO395;clear HO399;clear HO402;clear HB;have HO_7:=n0_;have HO_8:=n1_;have HO395:=n2_;have HO399:=n3_;have HO402:=n4_;have HB:=n5_;have BK405:=n6_;have GW405:=n7_;have GE405:=n8_;clear n0_ n1_ n2_ n3_ n4_ n5_ n6_ n7_ n8_;clear hb hbox hg;obtain⟨_,_,_,_,_,_,_,_,_,_⟩:=bc5 BK405.out;obtain⟨Ao40,co40,eo40⟩:=Kd.R_slice HO399.out;subst eo40;obtain⟨Ao41,co41,eo41⟩:=Kd.V_slice HO402.out;subst eo41))
     go_roundg kj3
     case measure=>have:=HK1.out;have:=HJ3.out;omega
     case rel=>exact⟨(x7_1),(x8_1),(wrap64 (x9_1+1)),rs,H',⟨by have:=HK1.out;have:=HJ3.out;omega⟩,⟨by(with_reducible repeat (first|apply Kd.Q_alloc|apply Kd.Q_drewN|apply Kd.Q_drew));exact Kd.Q_mono (Kd.Q_far (p:=⟨gb405,4,none⟩) (Kd.Q_far (p:=⟨gb405,3,none⟩) (Kd.Q_far (p:=⟨gb405,2,none⟩) (Kd.Q_far (p:=⟨gb405,1,none⟩) (Kd.Q_far (p:=⟨gb405,0,none⟩) (Kd.Q_types HO_7.out BK405.out (by decide)) (fun _ hk=>hk.2) (.int .i64 t396)) (fun _ hk=>hk.2) (.slice Ao40 t397.length co40)) (fun _ hk=>hk.2) (.slice Ao41 t400.length co41)) (fun _ hk=>hk.2) (.int .i64 t403)) (fun _ hk=>hk.2) (.bool false)) (fun _ hk=>trivial)⟩,⟨by(with_reducible repeat (first|apply Kd.N_alloc|apply Kd.N_drewN|apply Kd.N_drew));exact Kd.N_mono (Kd.N_far (p:=⟨gb405,4,none⟩) (Kd.N_far (p:=⟨gb405,3,none⟩) (Kd.N_far (p:=⟨gb405,2,none⟩) (Kd.N_far (p:=⟨gb405,1,none⟩) (Kd.N_far (p:=⟨gb405,0,none⟩) (Kd.N_mono HO_8.out (fun k_ hk=>(⟨hk,hk.2⟩ : _∧k_≠gb405))) (fun _ hk=>hk.2) (.int .i64 t396)) (fun _ hk=>hk.2) (.slice Ao40 t397.length co40)) (fun _ hk=>hk.2) (.slice Ao41 t400.length co41)) (fun _ hk=>hk.2) (.int .i64 t403)) (fun _ hk=>hk.2) (.bool false)) (fun _ hk=>hk.1.1.1)⟩,⟨bl⟩⟩
     }
     }
     ·exact absurd H (by simp)
     }
     ·exact absurd H (by simp)
     }
     {
     replace c6:=Bool.eq_false_iff.mpr c6
     subst c6
     replace H:=itF H
     have H':=Aside0.mk H
     clear H
     go_wp2
     go_loopg [7,12] kj3 (fun kq v7 v12 w'=>∃ (x7_3:List Int) (x12_3:Int),v12 = .int .i64 x12_3∧Aside0 (stowagelaw17_ReplyPipes.l1 kq x7_3 x8_1 x12_3=some r)∧Aside0 (kq≤kj3)∧Aside0 (Kd.Q (Kd.int .u8) 5 w' w.heap.size (fun _=>True) v7 x7_3)∧Aside0 (Kd.N k27 27 w' w.heap.size (fun k_=>some k_≠(v7:Value).ownBlock) u8 x8_1)∧Aside0 (Below w.heap.size w w'))
     case atStart=>exact⟨(x7_1),(0),rs,H',⟨Nat.le_refl _⟩,⟨by(with_reducible repeat (first|apply Kd.Q_alloc|apply Kd.Q_drewN|apply Kd.Q_drew));exact HO_7.out⟩,⟨by(with_reducible repeat (first|apply Kd.N_alloc|apply Kd.N_drewN|apply Kd.N_drew));exact HO_8.out⟩,⟨bl⟩⟩
     case round=>
      clear H'
      obtain⟨x7_3,x12_3,rfl,HA,HK3,HO_7,HO_8,HB⟩:=hrel
      cases gk with
      | zero=>exact absurd HA.out (by simp [stowagelaw17_ReplyPipes.l1])
      | succ k3=>
       have H:=HA.out
       clear HA
       simp only [stowagelaw17_ReplyPipes.l1] at H
       replace H:=itO H
       rcases H with⟨c42,H⟩|⟨c42,H⟩
       {
       have c42b0:decide (x12_3<(x8_1.length:Int))=true:=decide_eq_true c42
       clear c42
       replace H:=bndO H
       obtain⟨⟨t417,t418,t421,t424,t425⟩,A430,H⟩:=H
       dsimp only at H
       have A43:=Aside0.mk A430
       clear A430
       by_cases c44:t425=true
       {
       subst c44
       replace H:=itT H
       replace H:=itO H
       rcases H with⟨c45,H⟩|⟨c45,H⟩
       {
       have c45b0:decide (t424<1)=true:=decide_eq_true c45
       clear c45
       rw [hr] at H
       exact absurd H (by simp)
       }
       {
       have c45b0:decide (t424<1)=false:=decide_eq_false c45
       clear c45
       replace H:=itO H
       rcases H with⟨c46,H⟩|⟨c46,H⟩
       {
       have c46b0:decide ((x7_3.length:Int)<t424)=true:=decide_eq_true c46
       clear c46
       rw [hr] at H
       exact absurd H (by simp)
       }
       {
       have c46b0:decide ((x7_3.length:Int)<t424)=false:=decide_eq_false c46
       clear c46
       replace H:=itO H
       rcases H with⟨c47,H⟩|⟨c47,H⟩
       {
       have c47b0:decide (0≤x12_3)=true:=decide_eq_true c47
       clear c47
       replace H:=bndO H
       obtain⟨t428,A480,H⟩:=H
       have A48:=Aside0.mk A480
       clear A480
       by_cases c49:t428=true
       {
       subst c49
       replace H:=itT H
       replace H:=itO H
       rcases H with⟨c50,H⟩|⟨c50,H⟩
       {
       have c50b0:=eq_true c50
       have c50b1:=decide_eq_true c50
       clear c50
       replace H:=itO H
       rcases H with⟨c51,H⟩|⟨c51,H⟩
       {
       have c51b0:=eq_true c51
       have c51b1:=decide_eq_true c51
       clear c51
       obtain⟨y429,hy429⟩ : ∃ y_:List Int,y_=(x7_3.drop (t424:Int).toNat):=⟨_,rfl⟩
       replace H:(stowagelaw17_ReplyPipes.l1 k3 y429 x8_1 (wrap64 (x12_3+1)))=some r:=by first|(rw [hy429];with_reducible exact H)|(have H2_:=(Option.bind_some _ _).symm.trans H;rw [hy429];with_reducible exact H2_)|(have H2_:=(Option.bind_some _ _).symm.trans H;with_reducible exact H2_)|with_reducible exact H|(rw [hy429];exact H)|exact H
       have Ny429:=Aside0.mk hy429
       clear hy429
       have H':=Aside0.mk H
       clear H
       obtain⟨Ao52,co52,eo52⟩:=Kd.N_slice HO_8.out
       subst eo52
       obtain⟨Ao53,co53,eo53,_⟩:=Kd.Q_slice HO_7.out
       subst eo53
       try go_wp2_with (first|((with_reducible refine gate_callee (f:=10) rfl ?_);refine goesL_ (some 66) rfl rfl Tryd.func10 kr rfl #[.slice Ao53 x7_3.length co53,.bool false] rfl am ?_;(with_reducible refine(reply_Parse.calls k3 _ _ x7_3 false t417 t418 t421 t424 true _ ?side1 ?side2 gk A43.out).mono ?_);(case side1=>repeat (first|exact(Kd.Q_reads' HO_7.out).2.2|(with_reducible refine Kd.C_alloc ?_ _)|(with_reducible refine Kd.C_drewN ?_ _)|(with_reducible refine Kd.C_drew ?_)));(case side2=>exact(Kd.Q_reads' HO_7.out).2.1);rintro e w54 ⟨v419,v422,rfl,ho0,ho1,hb⟩;refine⟨_,rfl,?_⟩;have n0_:=Aside0.mk (Kd.Q_below (by(with_reducible repeat (first|apply Kd.Q_alloc|apply Kd.Q_drewN|apply Kd.Q_drew));exact HO_7.out) hb);have n1_:=Aside0.mk (Kd.N_below (by(with_reducible repeat (first|apply Kd.N_alloc|apply Kd.N_drewN|apply Kd.N_drew));exact HO_8.out) hb);have n2_:=Aside0.mk (Kd.V_lower (Kd.V_mono (ok':=fun k_=>some k_≠(.slice Ao53 x7_3.length co53:Value).ownBlock∧some k_≠(.slice Ao52 x8_1.length co52:Value).ownBlock) ho0 (fun k_ hk_=>⟨(Kd.fresh' (Kd.Q_lt (by(with_reducible repeat (first|apply Kd.Q_alloc|apply Kd.Q_drewN|apply Kd.Q_drew));exact HO_7.out)) k_ hk_),(Kd.fresh' (Kd.N_lt (by(with_reducible repeat (first|apply Kd.N_alloc|apply Kd.N_drewN|apply Kd.N_drew));exact HO_8.out)) k_ hk_)⟩)) (below_size bl));have n3_:=Aside0.mk (Kd.V_lower (Kd.V_mono (ok':=fun k_=>some k_≠(.slice Ao53 x7_3.length co53:Value).ownBlock∧some k_≠(.slice Ao52 x8_1.length co52:Value).ownBlock) ho1 (fun k_ hk_=>⟨(Kd.fresh' (Kd.Q_lt (by(with_reducible repeat (first|apply Kd.Q_alloc|apply Kd.Q_drewN|apply Kd.Q_drew));exact HO_7.out)) k_ hk_),(Kd.fresh' (Kd.N_lt (by(with_reducible repeat (first|apply Kd.N_alloc|apply Kd.N_drewN|apply Kd.N_drew));exact HO_8.out)) k_ hk_)⟩)) (below_size bl));have n4_:=Aside0.mk (below_step bl hb);clear HO_7;clear HO_8;clear HB;have HO_7:=n0_;have HO_8:=n1_;have HO420:=n2_;have HO423:=n3_;have HB:=n4_;clear n0_ n1_ n2_ n3_ n4_)|((with_reducible refine gate_dst (N:=13) rfl ?_);(try (refine gate_guard (by rfl) ?_;dsimp only));refine box_event ?hg (N:=13) ?hd (cs:=#[.int .i64 0,.slice none 0 0,.slice none 0 0]) (t:=27) ?hr ?_;(case hd=>rfl);(case hg=>rfl);(case hr=>first|(go_simp;done)|(go_simp;rfl));intro gb426 hg w55 hbox hb;have n0_:=Aside0.mk (Kd.Q_below (by(with_reducible repeat (first|apply Kd.Q_alloc|apply Kd.Q_drewN|apply Kd.Q_drew));exact HO_7.out) hb);have n1_:=Aside0.mk (Kd.N_below (Kd.N_elderB (by(with_reducible repeat (first|apply Kd.N_alloc|apply Kd.N_drewN|apply Kd.N_drew));exact HO_8.out) gb426 (Nat.le_of_eq hg.symm)) hb);have n2_:=Aside0.mk (Kd.V_below (Kd.V_elderB (by(with_reducible repeat (first|apply Kd.V_alloc|apply Kd.V_drewN|apply Kd.V_drew));exact HO420.out) gb426 (Nat.le_of_eq hg.symm)) hb);have n3_:=Aside0.mk (Kd.V_below (Kd.V_elderB (by(with_reducible repeat (first|apply Kd.V_alloc|apply Kd.V_drewN|apply Kd.V_drew));exact HO423.out) gb426 (Nat.le_of_eq hg.symm)) hb);have n4_:=Aside0.mk (below_step bl hb);have n5_:=Aside0.mk (hbox);have n6_:=Aside0.mk ((by rw [hg];exact(below_size bl):w.heap.size≤gb426));have n7_:=Aside0.mk ((by rw [hg];exact(below_size bl):w.heap.size≤gb426));clear HO_7;clear HO_8;clear HO420;clear HO423;clear HB;have HO_7:=n0_;have HO_8:=n1_;have HO420:=n2_;have HO423:=n3_;have HB:=n4_;have BK426:=n5_;have GW426:=n6_;have GE426:=n7_;clear n0_ n1_ n2_ n3_ n4_ n5_ n6_ n7_;clear hb hbox hg;obtain⟨_,_,_,_,_,_⟩:=bc3 BK426.out;obtain⟨Ao57,co57,eo57⟩:=Kd.V_slice HO420.out;subst eo57;obtain⟨Ao58,co58,eo58⟩:=Kd.V_slice HO423.out;subst eo58))
       have n0_:Aside0 (Kd.Q (Kd.int .u8) 5 (((w55.setCell ⟨gb426,0,none⟩ (.int .i64 t417)).setCell ⟨gb426,1,none⟩ (.slice Ao57 t418.length co57)).setCell ⟨gb426,2,none⟩ (.slice Ao58 t421.length co58)) w.heap.size (fun _=>True) (.slice Ao53 x7_3.length co53) x7_3):=⟨by(with_reducible repeat (first|apply Kd.Q_alloc|apply Kd.Q_drewN|apply Kd.Q_drew));exact Kd.Q_mono (Kd.Q_far (p:=⟨gb426,2,none⟩) (Kd.Q_far (p:=⟨gb426,1,none⟩) (Kd.Q_far (p:=⟨gb426,0,none⟩) (Kd.Q_types HO_7.out BK426.out (by decide)) (fun _ hk=>hk.2) (.int .i64 t417)) (fun _ hk=>hk.2) (.slice Ao57 t418.length co57)) (fun _ hk=>hk.2) (.slice Ao58 t421.length co58)) (fun _ hk=>trivial)⟩
       have n1_:Aside0 (Kd.N k27 27 (((w55.setCell ⟨gb426,0,none⟩ (.int .i64 t417)).setCell ⟨gb426,1,none⟩ (.slice Ao57 t418.length co57)).setCell ⟨gb426,2,none⟩ (.slice Ao58 t421.length co58)) w.heap.size (fun k_=>some k_≠(.slice Ao53 x7_3.length co53:Value).ownBlock∧k_≠gb426) (.slice Ao52 x8_1.length co52) x8_1):=⟨by(with_reducible repeat (first|apply Kd.N_alloc|apply Kd.N_drewN|apply Kd.N_drew));exact Kd.N_mono (Kd.N_far (p:=⟨gb426,2,none⟩) (Kd.N_far (p:=⟨gb426,1,none⟩) (Kd.N_far (p:=⟨gb426,0,none⟩) (Kd.N_mono HO_8.out (fun k_ hk=>(⟨hk,hk.2⟩ : _∧k_≠gb426))) (fun _ hk=>hk.2) (.int .i64 t417)) (fun _ hk=>hk.2) (.slice Ao57 t418.length co57)) (fun _ hk=>hk.2) (.slice Ao58 t421.length co58)) (fun _ hk=>⟨hk.1.1,hk.1.2⟩)⟩
       have n2_:Aside0 (Kd.V k52 52 (((w55.setCell ⟨gb426,0,none⟩ (.int .i64 t417)).setCell ⟨gb426,1,none⟩ (.slice Ao57 t418.length co57)).setCell ⟨gb426,2,none⟩ (.slice Ao58 t421.length co58)) w.heap.size (fun k_=>some k_≠(.slice Ao53 x7_3.length co53:Value).ownBlock∧some k_≠(.slice Ao52 x8_1.length co52:Value).ownBlock∧k_≠gb426) (.slice Ao57 t418.length co57) t418):=⟨by(with_reducible repeat (first|apply Kd.V_alloc|apply Kd.V_drewN|apply Kd.V_drew));exact Kd.V_mono (Kd.V_far (p:=⟨gb426,2,none⟩) (Kd.V_far (p:=⟨gb426,1,none⟩) (Kd.V_far (p:=⟨gb426,0,none⟩) (Kd.V_mono HO420.out (fun k_ hk=>(⟨hk,hk.2⟩ : _∧k_≠gb426))) (fun _ hk=>hk.2) (.int .i64 t417)) (fun _ hk=>hk.2) (.slice Ao57 t418.length co57)) (fun _ hk=>hk.2) (.slice Ao58 t421.length co58)) (fun _ hk=>⟨hk.1.1.1,⟨hk.1.1.2,hk.1.2⟩⟩)⟩
       have n3_:Aside0 (Kd.V (Kd.int .u8) 5 (((w55.setCell ⟨gb426,0,none⟩ (.int .i64 t417)).setCell ⟨gb426,1,none⟩ (.slice Ao57 t418.length co57)).setCell ⟨gb426,2,none⟩ (.slice Ao58 t421.length co58)) w.heap.size (fun k_=>some k_≠(.slice Ao53 x7_3.length co53:Value).ownBlock∧some k_≠(.slice Ao52 x8_1.length co52:Value).ownBlock∧k_≠gb426) (.slice Ao58 t421.length co58) t421):=⟨by(with_reducible repeat (first|apply Kd.V_alloc|apply Kd.V_drewN|apply Kd.V_drew));exact Kd.V_mono (Kd.V_far (p:=⟨gb426,2,none⟩) (Kd.V_far (p:=⟨gb426,1,none⟩) (Kd.V_far (p:=⟨gb426,0,none⟩) (Kd.V_mono HO423.out (fun k_ hk=>(⟨hk,hk.2⟩ : _∧k_≠gb426))) (fun _ hk=>hk.2) (.int .i64 t417)) (fun _ hk=>hk.2) (.slice Ao57 t418.length co57)) (fun _ hk=>hk.2) (.slice Ao58 t421.length co58)) (fun _ hk=>⟨hk.1.1.1,⟨hk.1.1.2,hk.1.2⟩⟩)⟩
       have n4_:Aside0 ((((w55.setCell ⟨gb426,0,none⟩ (.int .i64 t417)).setCell ⟨gb426,1,none⟩ (.slice Ao57 t418.length co57)).setCell ⟨gb426,2,none⟩ (.slice Ao58 t421.length co58)).heap[gb426]? = some (.cells #[.int .i64 t417,.slice Ao57 t418.length co57,.slice Ao58 t421.length co58] 27 (0,0))):=⟨by(with_reducible repeat (first|refine blk_drewN ?_ _|refine blk_drew ?_|refine blk_alloc ?_ _));refine blk_put (cs:=#[.int .i64 t417,.slice Ao57 t418.length co57,.slice none 0 0]) ?_ 2 _ rfl;(with_reducible repeat (first|refine blk_drewN ?_ _|refine blk_drew ?_|refine blk_alloc ?_ _));refine blk_put (cs:=#[.int .i64 t417,.slice none 0 0,.slice none 0 0]) ?_ 1 _ rfl;(with_reducible repeat (first|refine blk_drewN ?_ _|refine blk_drew ?_|refine blk_alloc ?_ _));refine blk_put (cs:=#[.int .i64 0,.slice none 0 0,.slice none 0 0]) ?_ 0 _ rfl;(with_reducible repeat (first|refine blk_drewN ?_ _|refine blk_drew ?_|refine blk_alloc ?_ _));exact BK426.out⟩
       have n5_:Aside0 (Below w.heap.size w (((w55.setCell ⟨gb426,0,none⟩ (.int .i64 t417)).setCell ⟨gb426,1,none⟩ (.slice Ao57 t418.length co57)).setCell ⟨gb426,2,none⟩ (.slice Ao58 t421.length co58))):=⟨bl⟩
       (try clear HO_7)
       (try clear HO_8)
       (try clear HO420)
       (try clear HO423)
       (try clear BK426)
       (try clear HB)
       generalize (((w55.setCell ⟨gb426,0,none⟩ (.int .i64 t417)).setCell ⟨gb426,1,none⟩ (.slice Ao57 t418.length co57)).setCell ⟨gb426,2,none⟩ (.slice Ao58 t421.length co58))=w59 at n0_ n1_ n2_ n3_ n4_ n5_ ⊢
       have HO_7:=n0_
       have HO_8:=n1_
       have HO420:=n2_
       have HO423:=n3_
       have BK426:=n4_
       have HB:=n5_
       clear n0_ n1_ n2_ n3_ n4_ n5_
       have n0_:=Aside0.mk (Kd.Q_drew HO_7.out)
       have n1_:=Aside0.mk (Kd.N_drew HO_8.out)
       have n2_:=Aside0.mk (Kd.V_drew HO420.out)
       have n3_:=Aside0.mk (Kd.V_drew HO423.out)
       have n4_:=Aside0.mk (blk_drew BK426.out)
       have n5_:=Aside0.mk (below_drew1 HB.out)
       clear HO_7
       clear HO_8
       clear HO420
       clear HO423
       clear BK426
       clear HB
       have HO_7:=n0_
       have HO_8:=n1_
       have HO420:=n2_
       have HO423:=n3_
       have BK426:=n4_
       have HB:=n5_
       clear n0_ n1_ n2_ n3_ n4_ n5_
       have p427:0≤(x12_3:Int):=of_decide_eq_true asm
       have q427:x12_3<(x8_1.length:Int):=of_decide_eq_true asm
       obtain⟨ad427,A427_1,c427_1,A427_2,c427_2,e427,hx427_0,hx427_1,hx427_2,hl427_1,hi427_1,hl427_2,hi427_2⟩:=at_T27 (Kd.N_reads' HO_8.out).2.2 x12_3 p427 q427
       cases e427
       obtain⟨ce427,hce427,hMe427,hcc427⟩:=Kd.N_get HO_8.out z27 x12_3 p427 (by first|exact q427|exact of_decide_eq_true asm|(have e_:=(Kd.N_reads' HO_8.out).1;omega))
       obtain⟨ua427_1,uc427_1,ua427_2,uc427_2,rfl,ul427_1,ge427_1,ul427_2,ge427_2⟩:=k27_openF hMe427
       have hv427_1:=hcc427 1 _ rfl
       rw [add_field _ _ 1 (by omega)] at hv427_1
       replace hv427_1:=Option.some.inj (hv427_1.symm.trans hx427_1)
       injection hv427_1 with hva_ hvn_ hvc_
       rw [hva_] at ge427_1
       rw [hvc_] at ul427_1
       have HL427_1:=Aside0.mk (show Kd.V k52 52 _ w.heap.size _ _ ((rd_T27 x8_1 x12_3).f1) from Kd.V_mk ul427_1 ge427_1)
       clear hva_ hvn_ hvc_ ge427_1 ul427_1
       have hv427_2:=hcc427 2 _ rfl
       rw [add_field _ _ 2 (by omega)] at hv427_2
       replace hv427_2:=Option.some.inj (hv427_2.symm.trans hx427_2)
       injection hv427_2 with hva_ hvn_ hvc_
       rw [hva_] at ge427_2
       rw [hvc_] at ul427_2
       have HL427_2:=Aside0.mk (show Kd.V (Kd.int .u8) 5 _ w.heap.size _ _ ((rd_T27 x8_1 x12_3).f2) from Kd.V_mk ul427_2 ge427_2)
       clear hva_ hvn_ hvc_ ge427_2 ul427_2
       clear hcc427 hce427
       have HR427_1:=Aside0.mk hi427_1
       have HC427_1:=Aside0.mk hl427_1
       clear hi427_1 hl427_1
       have HR427_2:=Aside0.mk hi427_2
       have HC427_2:=Aside0.mk hl427_2
       clear hi427_2 hl427_2
       replace p427:=eq_true p427
       replace q427:=eq_true q427
       refine start_ (n:=21) (S:=fun w'=>w'.cell? ⟨gb426,0,none⟩=some (.int .i64 t417)∧w'.cell? ⟨gb426,1,none⟩=some (.slice Ao57 t418.length co57)∧w'.cell? ⟨gb426,2,none⟩=some (.slice Ao58 t421.length co58)∧w'.cell? (ad427.add ((x12_3).toNat*3))=some (.int .i64 ((rd_T27 x8_1 x12_3).f0))∧w'.cell? ⟨(ad427.add ((x12_3).toNat*3)).block,(ad427.add ((x12_3).toNat*3)).off+1,none⟩=some (.slice A427_1 ((rd_T27 x8_1 x12_3).f1).length c427_1)∧w'.cell? ⟨(ad427.add ((x12_3).toNat*3)).block,(ad427.add ((x12_3).toNat*3)).off+2,none⟩=some (.slice A427_2 ((rd_T27 x8_1 x12_3).f2).length c427_2)) (ds:=[]) #[F,F,F,F,F,F,F,F,F,F,F,F,F,F,F,F,F,F,F,F,F] kr rfl rfl ⟨(blk_cell BK426.out 0).trans rfl,(blk_cell BK426.out 1).trans rfl,(blk_cell BK426.out 2).trans rfl,hx427_0,hx427_1,hx427_2⟩ (fun hHeld=>?_);refine with_tabW stowagelaw17_ReplyPipes.tab15 stowagelaw17_ReplyPipes.bits15 (fun HT_ HW_=>?_)
       generalize w59.drew=w60 at HO_7 HO_8 HO420 HO423 BK426 HB HL427_1 HL427_2 HR427_1 HR427_2 hx427_0 hx427_1 hx427_2 hHeld ⊢
       refine pure_ (i:=0) (N:=some 70) (v:=?_) (a':=?_) #[T,F,F,F,F,F,F,F,F,F,F,F,F,F,F,F,F,F,F,F,F] rfl rfl (any_of HT_.out kr) (fun _ _ _ h=>h) (Or.inl ⟨by rfl,?_⟩) ?_ ?_
       rotate_left
       {
       intro w'
       go_simp
       with_reducible rfl
       }
       rotate_left
       {
       simp only [Act.put,List.setIfInBounds_toArray,List.set_cons_zero,List.set_cons_succ,i64_w,i32_w]
       rfl
       }
       refine pure_ (i:=1) (N:=some 71) (v:=?_) (a':=?_) #[T,T,F,F,F,F,F,F,F,F,F,F,F,F,F,F,F,F,F,F,F] rfl rfl (any_of HT_.out kr) (fun _ _ _ h=>h) (Or.inl ⟨by rfl,?_⟩) ?_ ?_
       rotate_left
       {
       intro w'
       go_simp
       with_reducible rfl
       }
       rotate_left
       {
       simp only [Act.put,List.setIfInBounds_toArray,List.set_cons_zero,List.set_cons_succ,i64_w,i32_w]
       rfl
       }
       refine pure_ (i:=2) (N:=some 72) (v:=?_) (a':=?_) #[T,T,T,F,F,F,F,F,F,F,F,F,F,F,F,F,F,F,F,F,F] rfl rfl (any_of HT_.out kr) (fun _ _ _ h=>h) (Or.inl ⟨by rfl,?_⟩) ?_ ?_
       rotate_left
       {
       intro w'
       go_simp
       with_reducible rfl
       }
       rotate_left
       {
       simp only [Act.put,List.setIfInBounds_toArray,List.set_cons_zero,List.set_cons_succ,i64_w,i32_w]
       rfl
       }
       refine pure_ (i:=3) (N:=some 73) (v:=?_) (a':=?_) #[T,T,T,T,F,F,F,F,F,F,F,F,F,F,F,F,F,F,F,F,F] rfl rfl (any_of HT_.out kr) (fun _ _ _ h=>h) (Or.inl ⟨by rfl,?_⟩) ?_ ?_
       rotate_left
       {
       intro w'
       go_simp
       with_reducible rfl
       }
       rotate_left
       {
       simp only [Act.put,List.setIfInBounds_toArray,List.set_cons_zero,List.set_cons_succ,i64_w,i32_w]
       rfl
       }
       refine pure_ (i:=4) (N:=some 74) (v:=?_) (a':=?_) #[T,T,T,T,T,F,F,F,F,F,F,F,F,F,F,F,F,F,F,F,F] rfl rfl (any_of HT_.out kr) (fun _ _ _ h=>h) (Or.inl ⟨by rfl,?_⟩) ?_ ?_
       rotate_left
       {
       intro w'
       go_simp
       with_reducible rfl
       }
       rotate_left
       {
       simp only [Act.put,List.setIfInBounds_toArray,List.set_cons_zero,List.set_cons_succ,i64_w,i32_w]
       rfl
       }
       refine pure_ (i:=5) (N:=some 75) (v:=?_) (a':=?_) #[T,T,T,T,T,T,F,F,F,F,F,F,F,F,F,F,F,F,F,F,F] rfl rfl (any_of HT_.out kr) (fun _ _ _ h=>h) (Or.inl ⟨by rfl,?_⟩) ?_ ?_
       rotate_left
       {
       intro w'
       go_simp
       with_reducible rfl
       }
       rotate_left
       {
       simp only [Act.put,List.setIfInBounds_toArray,List.set_cons_zero,List.set_cons_succ,i64_w,i32_w]
       rfl
       }
       refine pure_ (i:=6) (N:=some 76) (v:=?_) (a':=?_) #[T,T,T,T,T,T,T,F,F,F,F,F,F,F,F,F,F,F,F,F,F] rfl rfl (any_of HT_.out kr) (fun _ _ _ h=>h) (Or.inl ⟨by rfl,?_⟩) ?_ ?_
       rotate_left
       {
       intro w'
       go_simp
       with_reducible rfl
       }
       rotate_left
       {
       simp only [Act.put,List.setIfInBounds_toArray,List.set_cons_zero,List.set_cons_succ,i64_w,i32_w]
       rfl
       }
       refine pure_ (i:=7) (N:=some 77) (v:=?_) (a':=?_) #[T,T,T,T,T,T,T,T,F,F,F,F,F,F,F,F,F,F,F,F,F] rfl rfl (any_of HT_.out kr) (fun _ _ _ h=>h) (Or.inl ⟨by rfl,?_⟩) ?_ ?_
       rotate_left
       {
       intro w'
       go_simp
       with_reducible rfl
       }
       rotate_left
       {
       simp only [Act.put,List.setIfInBounds_toArray,List.set_cons_zero,List.set_cons_succ,i64_w,i32_w]
       rfl
       }
       refine pure_ (i:=8) (N:=some 78) (v:=?_) (a':=?_) #[T,T,T,T,T,T,T,T,T,F,F,F,F,F,F,F,F,F,F,F,F] rfl rfl (any_of HT_.out kr) (fun _ _ _ h=>h) (Or.inl ⟨by rfl,?_⟩) ?_ ?_
       rotate_left
       {
       intro w'
       go_simp
       with_reducible rfl
       }
       rotate_left
       {
       simp only [Act.put,List.setIfInBounds_toArray,List.set_cons_zero,List.set_cons_succ,i64_w,i32_w]
       rfl
       }
       refine pure_ (i:=9) (N:=some 79) (v:=?_) (a':=?_) #[T,T,T,T,T,T,T,T,T,T,F,F,F,F,F,F,F,F,F,F,F] rfl rfl (any_of HT_.out kr) (fun _ _ _ h=>h) (Or.inl ⟨by rfl,?_⟩) ?_ ?_
       rotate_left
       {
       intro w'
       go_simp
       with_reducible rfl
       }
       rotate_left
       {
       simp only [Act.put,List.setIfInBounds_toArray,List.set_cons_zero,List.set_cons_succ,i64_w,i32_w]
       rfl
       }
       refine pure_ (i:=10) (N:=some 80) (v:=?_) (a':=?_) #[T,T,T,T,T,T,T,T,T,T,T,F,F,F,F,F,F,F,F,F,F] rfl rfl (any_of HT_.out kr) (fun _ _ _ h=>h) (Or.inl ⟨by rfl,?_⟩) ?_ ?_
       rotate_left
       {
       intro w'
       go_simp
       with_reducible rfl
       }
       rotate_left
       {
       simp only [Act.put,List.setIfInBounds_toArray,List.set_cons_zero,List.set_cons_succ,i64_w,i32_w]
       rfl
       }
       refine pure_ (i:=11) (N:=some 81) (v:=?_) (a':=?_) #[T,T,T,T,T,T,T,T,T,T,T,T,F,F,F,F,F,F,F,F,F] rfl rfl (any_of HT_.out kr) (fun _ _ _ h=>h) (Or.inl ⟨by rfl,?_⟩) ?_ ?_
       rotate_left
       {
       intro w'
       go_simp
       with_reducible rfl
       }
       rotate_left
       {
       simp only [Act.put,List.setIfInBounds_toArray,List.set_cons_zero,List.set_cons_succ,i64_w,i32_w]
       rfl
       }
       refine pure_ (i:=12) (N:=some 82) (v:=?_) (a':=?_) #[T,T,T,T,T,T,T,T,T,T,T,T,T,F,F,F,F,F,F,F,F] rfl rfl (any_of HT_.out kr) (fun _ _ _ h=>h) (Or.inl ⟨by rfl,?_⟩) ?_ ?_
       rotate_left
       {
       intro w'
       go_simp
       with_reducible rfl
       }
       rotate_left
       {
       simp only [Act.put,List.setIfInBounds_toArray,List.set_cons_zero,List.set_cons_succ,i64_w,i32_w]
       rfl
       }
       refine pure_ (i:=14) (N:=some 84) (v:=?_) (a':=?_) #[T,T,T,T,T,T,T,T,T,T,T,T,T,F,T,F,F,F,F,F,F] rfl rfl (any_of HT_.out kr) (fun _ _ _ h=>h) (Or.inl ⟨by rfl,?_⟩) ?_ ?_
       rotate_left
       {
       intro w'
       go_simp
       with_reducible rfl
       }
       rotate_left
       {
       simp only [Act.put,List.setIfInBounds_toArray,List.set_cons_zero,List.set_cons_succ,i64_w,i32_w]
       rfl
       }
       refine pure_ (i:=15) (N:=some 85) (v:=?_) (a':=?_) #[T,T,T,T,T,T,T,T,T,T,T,T,T,F,T,T,F,F,F,F,F] rfl rfl (any_of HT_.out kr) (fun _ _ _ h=>h) (Or.inl ⟨by rfl,?_⟩) ?_ ?_
       rotate_left
       {
       intro w'
       go_simp
       with_reducible rfl
       }
       rotate_left
       {
       simp only [Act.put,List.setIfInBounds_toArray,List.set_cons_zero,List.set_cons_succ,i64_w,i32_w]
       rfl
       }
       refine pure_ (i:=16) (N:=some 86) (v:=?_) (a':=?_) #[T,T,T,T,T,T,T,T,T,T,T,T,T,F,T,T,T,F,F,F,F] rfl rfl (any_of HT_.out kr) (fun _ _ _ h=>h) (Or.inl ⟨by rfl,?_⟩) ?_ ?_
       rotate_left
       {
       intro w'
       go_simp
       with_reducible rfl
       }
       rotate_left
       {
       simp only [Act.put,List.setIfInBounds_toArray,List.set_cons_zero,List.set_cons_succ,i64_w,i32_w]
       rfl
       }
       refine take_ (i:=13) (N:=some 83) (v:=?_) (a':=?_) #[T,T,T,T,T,T,T,T,T,T,T,T,T,T,T,T,T,F,F,F,F] rfl rfl (take_ofW HT_.out HW_.out kr) (fun _ _ _ h=>h) (Or.inl ⟨by rfl,?_⟩) hHeld ?_ ?_
       rotate_left
       {
       rintro w' ⟨s0,s1,s2,s3,s4,s5⟩
       go_simp
       with_reducible rfl
       }
       rotate_left
       {
       simp only [Act.put,List.setIfInBounds_toArray,List.set_cons_zero,List.set_cons_succ,i64_w,i32_w]
       rfl
       }
       refine take_ (i:=17) (N:=some 87) (v:=?_) (a':=?_) #[T,T,T,T,T,T,T,T,T,T,T,T,T,T,T,T,T,T,F,F,F] rfl rfl (take_ofW HT_.out HW_.out kr) (fun _ _ _ h=>h) (Or.inl ⟨by rfl,?_⟩) hHeld ?_ ?_
       rotate_left
       {
       rintro w' ⟨s0,s1,s2,s3,s4,s5⟩
       go_simp
       with_reducible rfl
       }
       rotate_left
       {
       simp only [Act.put,List.setIfInBounds_toArray,List.set_cons_zero,List.set_cons_succ,i64_w,i32_w]
       rfl
       }
       refine one_ (i:=18) (N:=some 88) #[T,T,T,T,T,T,T,T,T,T,T,T,T,T,T,T,T,T,T,F,F] rfl rfl (one_of HT_.out kr) (by decide) (fun K hK=>?_)
       refine goes_ Tryd.func11 kr rfl #[.agg #[.int .i64 t417,.slice Ao57 t418.length co57,.slice Ao58 t421.length co58],.agg #[.int .i64 ((rd_T27 x8_1 x12_3).f0),.slice A427_1 ((rd_T27 x8_1 x12_3).f1).length c427_1,.slice A427_2 ((rd_T27 x8_1 x12_3).f2).length c427_2]] (by rfl) rfl rfl am ?_
       with_reducible refine(stowageref26_Same.calls k3 t417 _ _ t418 _ _ t421 ((rd_T27 x8_1 x12_3).f0) _ _ ((rd_T27 x8_1 x12_3).f1) _ _ ((rd_T27 x8_1 x12_3).f2) true _ ?side1 ?side2 ?side3 ?side4 ?side5 ?side6 ?side7 ?side8 A48.out).mono ?_
       (case side1=>repeat (first|exact(Kd.V_reads' HO420.out).2.2|(with_reducible refine Kd.C_alloc ?_ _)|(with_reducible refine Kd.C_drewN ?_ _)|(with_reducible refine Kd.C_drew ?_)))
       (case side2=>exact(Kd.V_reads' HO420.out).2.1)
       (case side3=>repeat (first|exact(Kd.V_reads' HO423.out).2.2|(with_reducible refine Kd.C_alloc ?_ _)|(with_reducible refine Kd.C_drewN ?_ _)|(with_reducible refine Kd.C_drew ?_)))
       (case side4=>exact(Kd.V_reads' HO423.out).2.1)
       (case side5=>repeat (first|exact(by repeat (first|(with_reducible exact HR427_1.out)|(with_reducible refine Kd.C_alloc ?_ _)|(with_reducible refine Kd.C_drewN ?_ _)|(with_reducible refine Kd.C_drew ?_)|exact HR427_1.out))|(with_reducible refine Kd.C_alloc ?_ _)|(with_reducible refine Kd.C_drewN ?_ _)|(with_reducible refine Kd.C_drew ?_)))
       (case side6=>exact HC427_1.out)
       (case side7=>repeat (first|exact(by repeat (first|(with_reducible exact HR427_2.out)|(with_reducible refine Kd.C_alloc ?_ _)|(with_reducible refine Kd.C_drewN ?_ _)|(with_reducible refine Kd.C_drew ?_)|exact HR427_2.out))|(with_reducible refine Kd.C_alloc ?_ _)|(with_reducible refine Kd.C_drewN ?_ _)|(with_reducible refine Kd.C_drew ?_)))
       (case side8=>exact HC427_2.out)
       rintro e w61 ⟨rfl,hb⟩
       have HS3_:=(hb.cell (World.block_lt_of_cell? _ _ (hHeld.2.2.2.1))).trans (hHeld.2.2.2.1)
       have HS4_:=(hb.cell (World.block_lt_of_cell? _ _ (hHeld.2.2.2.2.1))).trans (hHeld.2.2.2.2.1)
       have HS5_:=(hb.cell (World.block_lt_of_cell? _ _ (hHeld.2.2.2.2.2))).trans (hHeld.2.2.2.2.2)
       refine⟨_,rfl,?_⟩
       have n0_:=Aside0.mk (Kd.Q_below (by(with_reducible repeat (first|apply Kd.Q_alloc|apply Kd.Q_drewN|apply Kd.Q_drew));exact HO_7.out) hb)
       have n1_:=Aside0.mk (Kd.N_below (by(with_reducible repeat (first|apply Kd.N_alloc|apply Kd.N_drewN|apply Kd.N_drew));exact HO_8.out) hb)
       have n2_:=Aside0.mk (Kd.V_below (by(with_reducible repeat (first|apply Kd.V_alloc|apply Kd.V_drewN|apply Kd.V_drew));exact HO420.out) hb)
       have n3_:=Aside0.mk (Kd.V_below (by(with_reducible repeat (first|apply Kd.V_alloc|apply Kd.V_drewN|apply Kd.V_drew));exact HO423.out) hb)
       have n4_:=Aside0.mk (Kd.V_below (by(with_reducible repeat (first|apply Kd.V_alloc|apply Kd.V_drewN|apply Kd.V_drew));exact HL427_1.out) hb)
       have n5_:=Aside0.mk (Kd.V_below (by(with_reducible repeat (first|apply Kd.V_alloc|apply Kd.V_drewN|apply Kd.V_drew));exact HL427_2.out) hb)
       have n6_:=Aside0.mk (blk_below (g:=gb426) (o:=.cells #[.int .i64 t417,.slice Ao57 t418.length co57,.slice Ao58 t421.length co58] 27 (0,0)) kl hb)
       have n7_:=Aside0.mk (Kd.C_below (by repeat (first|(with_reducible exact HR427_1.out)|(with_reducible refine Kd.C_alloc ?_ _)|(with_reducible refine Kd.C_drewN ?_ _)|(with_reducible refine Kd.C_drew ?_)|exact HR427_1.out)) hb)
       have n8_:=Aside0.mk (Kd.C_below (by repeat (first|(with_reducible exact HR427_2.out)|(with_reducible refine Kd.C_alloc ?_ _)|(with_reducible refine Kd.C_drewN ?_ _)|(with_reducible refine Kd.C_drew ?_)|exact HR427_2.out)) hb)
       have n9_:=Aside0.mk (below_step bl hb)
       clear HO_7
       clear HO_8
       clear HO420
       clear HO423
       clear HL427_1
       clear HL427_2
       clear BK426
       clear HR427_1
       clear HR427_2
       clear HB
       have HO_7:=n0_
       have HO_8:=n1_
       have HO420:=n2_
       have HO423:=n3_
       have HL427_1:=n4_
       have HL427_2:=n5_
       have BK426:=n6_
       have HR427_1:=n7_
       have HR427_2:=n8_
       have HB:=n9_
       clear n0_ n1_ n2_ n3_ n4_ n5_ n6_ n7_ n8_ n9_
       (try clear hb)
       (try clear hb2)
       (try clear hk)
       (try clear hi)
       refine hK.out _ _ ⟨(blk_cell BK426.out 0).trans rfl,(blk_cell BK426.out 1).trans rfl,(blk_cell BK426.out 2).trans rfl,HS3_,HS4_,HS5_⟩ (fun hHeld=>?_)
       clear hK K
       refine norm_ (a':=?_) ?_ ?_
       rotate_left
       {
       show Act.put _ (some 88) _=_
       simp only [Act.put,List.setIfInBounds_toArray,List.set_cons_zero,List.set_cons_succ,i64_w,i32_w]
       rfl
       }
       refine pure_ (i:=19) (N:=some 89) (v:=?_) (a':=?_) #[T,T,T,T,T,T,T,T,T,T,T,T,T,T,T,T,T,T,T,T,F] rfl rfl (any_of HT_.out kr) (fun _ _ _ h=>h) (Or.inl ⟨by rfl,?_⟩) ?_ ?_
       rotate_left
       {
       intro w'
       go_simp
       with_reducible rfl
       }
       rotate_left
       {
       simp only [Act.put,List.setIfInBounds_toArray,List.set_cons_zero,List.set_cons_succ,i64_w,i32_w]
       rfl
       }
       refine pure_ (i:=20) (N:=some 90) (v:=?_) (a':=?_) #[T,T,T,T,T,T,T,T,T,T,T,T,T,T,T,T,T,T,T,T,T] rfl rfl (any_of HT_.out kr) (fun _ _ _ h=>h) (Or.inl ⟨by rfl,?_⟩) ?_ ?_
       rotate_left
       {
       intro w'
       go_simp
       with_reducible rfl
       }
       rotate_left
       {
       simp only [Act.put,List.setIfInBounds_toArray,List.set_cons_zero,List.set_cons_succ,i64_w,i32_w]
       rfl
       }
       refine done_ (done_of HT_.out kr) ?_
       have q62:(t424:Int)≤((x7_3.length:Int):Int):=of_decide_eq_true asm
       obtain⟨i062,hi062,_,hsz62,_⟩:=info_parts info5
       have hcut62:=cut_from (P:=Tryd.prog) 23 5 .i64 Tryd.underlying23 hi062 1 hsz62 Ao53 x7_3.length co53 t424 (of_decide_eq_true asm) q62
       have hr62:=Kd.Q_drop (k:=(t424:Int).toNat) HO_7.out (by omega)
       obtain⟨A62,hA62⟩ : ∃ A1,A1=(if co53=(t424:Int).toNat then Ao53 else(Ao53:Option Addr).map (·.add ((t424:Int).toNat*1))):=⟨_,rfl⟩
       obtain⟨c62,hc62⟩ : ∃ c1,c1=co53-(t424:Int).toNat:=⟨_,rfl⟩
       have hy62:y429.length=x7_3.length-(t424:Int).toNat:=(by rw [Ny429.out,List.length_drop])
       rw [← Ny429.out] at hr62
       rw [← hy62,← hA62,← hc62] at hcut62
       replace hr62:Kd.Q (Kd.int .u8) 5 w61 w.heap.size (fun _=>True) (.slice A62 y429.length c62) y429:=(by rw [hA62,hc62,hy62];exact hr62)
       have HE62:Aside0 ((Value.slice A62 y429.length c62).ownBlock=(.slice Ao53 x7_3.length co53:Value).ownBlock):=⟨by rw [hA62];split <;> (cases (Ao53:Option Addr) <;> first|rfl|(simp [Value.ownBlock,Addr.add];split <;> rfl))⟩
       clear hy62 hi062 hsz62 HO_7 hA62 hc62
       have HO431:=Aside0.mk hr62
       clear hr62
       replace q62:=eq_true q62
       have n_:=Aside0.mk (Kd.N_mono (ok':=fun k_=>(some k_≠(.slice A62 y429.length c62:Value).ownBlock∧k_≠gb426)) HO_8.out (fun k_ hk=>⟨(by rw [HE62.out];exact hk.1),hk.2⟩))
       clear HO_8
       have HO_8:=n_
       clear n_
       have n_:=Aside0.mk (Kd.V_mono (ok':=fun k_=>(some k_≠(.slice A62 y429.length c62:Value).ownBlock∧(some k_≠(.slice (some ad427) x8_1.length co52:Value).ownBlock∧k_≠gb426))) HO420.out (fun k_ hk=>⟨(by rw [HE62.out];exact hk.1),⟨hk.2.1,hk.2.2⟩⟩))
       clear HO420
       have HO420:=n_
       clear n_
       have n_:=Aside0.mk (Kd.V_mono (ok':=fun k_=>(some k_≠(.slice A62 y429.length c62:Value).ownBlock∧(some k_≠(.slice (some ad427) x8_1.length co52:Value).ownBlock∧k_≠gb426))) HO423.out (fun k_ hk=>⟨(by rw [HE62.out];exact hk.1),⟨hk.2.1,hk.2.2⟩⟩))
       clear HO423
       have HO423:=n_
       clear n_
       have n_:=Aside0.mk (Kd.V_mono (ok':=fun k_=>((some k_≠(.slice A62 y429.length c62:Value).ownBlock∧k_≠gb426)∧some k_≠(.slice (some ad427) x8_1.length co52:Value).ownBlock)) HL427_1.out (fun k_ hk=>⟨⟨(by rw [HE62.out];exact hk.1.1),hk.1.2⟩,hk.2⟩))
       clear HL427_1
       have HL427_1:=n_
       clear n_
       have n_:=Aside0.mk (Kd.V_mono (ok':=fun k_=>((some k_≠(.slice A62 y429.length c62:Value).ownBlock∧k_≠gb426)∧some k_≠(.slice (some ad427) x8_1.length co52:Value).ownBlock)) HL427_2.out (fun k_ hk=>⟨⟨(by rw [HE62.out];exact hk.1.1),hk.1.2⟩,hk.2⟩))
       clear HL427_2
       have HL427_2:=n_
       clear n_
       try go_wp2
       go_roundg k3
       case measure=>have:=HK1.out;have:=HJ3.out;have:=HK3.out;omega
       case rel=>exact⟨(y429),(wrap64 (x12_3+1)),rs,H',⟨by have:=HK1.out;have:=HJ3.out;have:=HK3.out;omega⟩,⟨by(with_reducible repeat (first|apply Kd.Q_alloc|apply Kd.Q_drewN|apply Kd.Q_drew));exact HO431.out⟩,⟨by(with_reducible repeat (first|apply Kd.N_alloc|apply Kd.N_drewN|apply Kd.N_drew));exact Kd.N_mono HO_8.out (fun _ hk=>hk.1)⟩,⟨bl⟩⟩
       }
       ·exact absurd H (by simp)
       }
       ·exact absurd H (by simp)
       }
       {
       replace c49:=Bool.eq_false_iff.mpr c49
       subst c49
       replace H:=itF H
       rw [hr] at H
       exact absurd H (by simp)
       }
       }
       ·exact absurd H (by simp)
       }
       }
       }
       {
       replace c44:=Bool.eq_false_iff.mpr c44
       subst c44
       replace H:=itF H
       rw [hr] at H
       exact absurd H (by simp)
       }
       }
       {
       have c42b0:decide (x12_3<(x8_1.length:Int))=false:=decide_eq_false c42
       clear c42
       replace H:=itO H
       rcases H with⟨c63,H⟩|⟨c63,H⟩
       {
       have c63b0:((x7_3.length:Int) == 0)=true:=beq_iff_eq.mpr c63
       have c63b1:((x7_3.length:Int) != 0)=false:=bne_eq_false_iff_eq.mpr c63
       clear c63
       replace H:=bndO H
       obtain⟨t416,A640,H⟩:=H
       have A64:=Aside0.mk A640
       clear A640
       clear hr
       obtain rfl:=Option.some.inj H
       obtain⟨Ao65,co65,eo65⟩:=Kd.N_slice HO_8.out
       subst eo65
       obtain⟨Ao66,co66,eo66,_⟩:=Kd.Q_slice HO_7.out
       subst eo66
       go_wp2_with (first|(go_at_call 12;(with_reducible refine(stowagelaw17_awake.calls k3  t416 _ gk A64.out).mono ?_);rintro e w67 ⟨rfl,hb⟩;have n0_:=Aside0.mk (Kd.Q_below (by(with_reducible repeat (first|apply Kd.Q_alloc|apply Kd.Q_drewN|apply Kd.Q_drew));exact HO_7.out) hb);have n1_:=Aside0.mk (Kd.N_below (by(with_reducible repeat (first|apply Kd.N_alloc|apply Kd.N_drewN|apply Kd.N_drew));exact HO_8.out) hb);have n2_:=Aside0.mk (below_step bl hb);clear HO_7;clear HO_8;clear HB;have HO_7:=n0_;have HO_8:=n1_;have HB:=n2_;clear n0_ n1_ n2_))
       go_ret
       exact⟨ew,bl⟩
       }
       {
       have c63b0:((x7_3.length:Int) == 0)=false:=beq_eq_false_iff_ne.mpr c63
       have c63b1:((x7_3.length:Int) != 0)=true:=bne_iff_ne.mpr c63
       have c63b2:¬ (x7_3 = []):=fun h_=>c63 (by rw [h_];rfl)
       rw [hr] at H
       exact absurd H (by simp)
       }
       }
     }
end Go.Proofs.YtfjidcmegacibaaDoor.Q
