/- A part of the proof of the seat's laws. No condition beyond those in the theorems. -/
import Derived.Test.YtfjidcmegacibaaDoorZSqzB
import Derived.Test.YtfjidcmegacibaaDoorZQ0g11

namespace Go.Proofs.YtfjidcmegacibaaDoor.Q
open Go.RowKit Go.Proofs.YtfjidcmegacibaaDoorW.PrintWords Go.Proofs.YtfjidcmegacibaaDoorW.PrintLast Go.Proofs.YtfjidcmegacibaaDoorW.PrintMore
set_option linter.unusedVariables false
set_option linter.unusedSimpArgs false
set_option maxHeartbeats 8000000
set_option maxRecDepth 100000
attribute [local go_sem] max2_int min2_int max_two min_two max_three min_three max_four min_four   
mutual
def stowageref4_Of.j0:Nat→Bool→Int→Int→Int→Int→Int→Int→Option (Int×Bool)
  | 0,_,_,_,_,_,_,_=>none
  | k+1,x69,x160000,x160001,x160002,x160003,x160004,x160005=>if x69=true then(some (0,false)) else(stowageref4_Of.l0 k (wrap64 (x160002-1)) 1970 x160000 x160001 x160002 x160003 x160004 x160005)
def stowageref4_Of.l0:Nat→Int→Int→Int→Int→Int→Int→Int→Int→Option (Int×Bool)
  | 0,_,_,_,_,_,_,_,_=>none
  | k+1,x4,x5,x160000,x160001,x160002,x160003,x160004,x160005=>if x5<x160000 then((stowageref4_year.f x5).bind fun t161=>(stowageref4_Of.l0 k (wrap64 (x4+t161)) (wrap64 (x5+1)) x160000 x160001 x160002 x160003 x160004 x160005)) else(stowageref4_Of.l1 k x4 1 x160000 x160001 x160002 x160003 x160004 x160005)
def stowageref4_Of.l1:Nat→Int→Int→Int→Int→Int→Int→Int→Int→Option (Int×Bool)
  | 0,_,_,_,_,_,_,_,_=>none
  | k+1,x4,x6,x160000,x160001,x160002,x160003,x160004,x160005=>if x6<x160001 then((stowageref4_size.f k x160000 x6).bind fun t162=>(stowageref4_Of.l1 k (wrap64 (x4+t162)) (wrap64 (x6+1)) x160000 x160001 x160002 x160003 x160004 x160005)) else(some (wrap64 ((wrap64 ((wrap64 ((wrap64 (x4*86400))+(wrap64 (x160003*3600))))+(wrap64 (x160004*60))))+x160005),true))
end
def stowageref4_Of.f (k:Nat) (a0_0:Int) (a0_1:Int) (a0_2:Int) (a0_3:Int) (a0_4:Int) (a0_5:Int):Option (Int×Bool):=if a0_0<1970 then(stowageref4_Of.j0 k true a0_0 a0_1 a0_2 a0_3 a0_4 a0_5) else(if a0_0>9999 then(stowageref4_Of.j0 k true a0_0 a0_1 a0_2 a0_3 a0_4 a0_5) else(if a0_1<1 then(stowageref4_Of.j0 k true a0_0 a0_1 a0_2 a0_3 a0_4 a0_5) else(if a0_1>12 then(stowageref4_Of.j0 k true a0_0 a0_1 a0_2 a0_3 a0_4 a0_5) else(if a0_2<1 then(stowageref4_Of.j0 k true a0_0 a0_1 a0_2 a0_3 a0_4 a0_5) else((stowageref4_size.f k a0_0 a0_1).bind fun t160=>(if a0_2>t160 then(stowageref4_Of.j0 k true a0_0 a0_1 a0_2 a0_3 a0_4 a0_5) else(if a0_3<0 then(stowageref4_Of.j0 k true a0_0 a0_1 a0_2 a0_3 a0_4 a0_5) else(if a0_3>23 then(stowageref4_Of.j0 k true a0_0 a0_1 a0_2 a0_3 a0_4 a0_5) else(if a0_4<0 then(stowageref4_Of.j0 k true a0_0 a0_1 a0_2 a0_3 a0_4 a0_5) else(if a0_4>59 then(stowageref4_Of.j0 k true a0_0 a0_1 a0_2 a0_3 a0_4 a0_5) else(if a0_5<0 then(stowageref4_Of.j0 k true a0_0 a0_1 a0_2 a0_3 a0_4 a0_5) else(stowageref4_Of.j0 k (decide (a0_5>59)) a0_0 a0_1 a0_2 a0_3 a0_4 a0_5))))))))))))
theorem stowageref4_Of.mono_l:∀ k,(∀ y0 y1 y2 y3 y4 y5 y6,LeO (stowageref4_Of.j0 k y0 y1 y2 y3 y4 y5 y6) (stowageref4_Of.j0 (k+1) y0 y1 y2 y3 y4 y5 y6))∧(∀ y0 y1 y2 y3 y4 y5 y6 y7,LeO (stowageref4_Of.l0 k y0 y1 y2 y3 y4 y5 y6 y7) (stowageref4_Of.l0 (k+1) y0 y1 y2 y3 y4 y5 y6 y7))∧(∀ y0 y1 y2 y3 y4 y5 y6 y7,LeO (stowageref4_Of.l1 k y0 y1 y2 y3 y4 y5 y6 y7) (stowageref4_Of.l1 (k+1) y0 y1 y2 y3 y4 y5 y6 y7))
  | 0=>⟨fun _ _ _ _ _ _ _ r h=>by simp [stowageref4_Of.j0] at h,fun _ _ _ _ _ _ _ _ r h=>by simp [stowageref4_Of.l0] at h,fun _ _ _ _ _ _ _ _ r h=>by simp [stowageref4_Of.l1] at h⟩
  | k+1=>by
    obtain⟨ih0,ih1,ih2⟩:=stowageref4_Of.mono_l k
    refine⟨?_,?_,?_⟩
    · intro y0 y1 y2 y3 y4 y5 y6
      unfold stowageref4_Of.j0
      with_reducible repeat' first|exact ih0 _ _ _ _ _ _ _|exact ih1 _ _ _ _ _ _ _ _|exact ih2 _ _ _ _ _ _ _ _|exact stowageref4_size.mono _ _ _|exact LeO.refl _|exact LeO.none _|refine LeO.ite ?_ ?_|refine LeO.bind ?_ (fun _=>?_)
    · intro y0 y1 y2 y3 y4 y5 y6 y7
      unfold stowageref4_Of.l0
      with_reducible repeat' first|exact ih0 _ _ _ _ _ _ _|exact ih1 _ _ _ _ _ _ _ _|exact ih2 _ _ _ _ _ _ _ _|exact stowageref4_size.mono _ _ _|exact LeO.refl _|exact LeO.none _|refine LeO.ite ?_ ?_|refine LeO.bind ?_ (fun _=>?_)
    · intro y0 y1 y2 y3 y4 y5 y6 y7
      unfold stowageref4_Of.l1
      with_reducible repeat' first|exact ih0 _ _ _ _ _ _ _|exact ih1 _ _ _ _ _ _ _ _|exact ih2 _ _ _ _ _ _ _ _|exact stowageref4_size.mono _ _ _|exact LeO.refl _|exact LeO.none _|refine LeO.ite ?_ ?_|refine LeO.bind ?_ (fun _=>?_)
theorem stowageref4_Of.mono:∀ a0 a1 a2 a3 a4 a5 k,LeO (stowageref4_Of.f k a0 a1 a2 a3 a4 a5) (stowageref4_Of.f (k+1) a0 a1 a2 a3 a4 a5):=by
 intro a0 a1 a2 a3 a4 a5 k
 obtain⟨ih0,ih1,ih2⟩:=stowageref4_Of.mono_l k
 unfold stowageref4_Of.f
 with_reducible repeat' first|exact ih0 _ _ _ _ _ _ _|exact ih1 _ _ _ _ _ _ _ _|exact ih2 _ _ _ _ _ _ _ _|exact stowageref4_size.mono _ _ _|exact LeO.refl _|exact LeO.none _|refine LeO.ite ?_ ?_|refine LeO.bind ?_ (fun _=>?_)
theorem stowageref4_Of.calls (k:Nat) (a0_0:Int) (a0_1:Int) (a0_2:Int) (a0_3:Int) (a0_4:Int) (a0_5:Int) (r1:Int) (r2:Bool) (w:World) (h:stowageref4_Of.f k a0_0 a0_1 a0_2 a0_3 a0_4 a0_5=some (r1,r2)) :
    Calls Tryd.prog 65 #[.agg #[.int .i64 a0_0,.int .i64 a0_1,.int .i64 a0_2,.int .i64 a0_3,.int .i64 a0_4,.int .i64 a0_5]] w fun e w'=>e = .returned (.tuple #[.int .i64 r1,.bool r2])∧Below w.heap.size w w':=by
 have hu85:=Tryd.underlying85
 have HB:=Aside0.mk (Below.refl w.heap.size w)
 unfold stowageref4_Of.f at h
 have H:=h
 clear h
 have HC2:=Aside0.mk H
 clear H
 go_enter Tryd.func65,Tryd.ntmps65
 go_upto_region 1 with(first|((with_reducible refine gate_dst (N:=1) rfl ?_);refine box_event ?hg (N:=1) ?hd (cs:=#[.int .i64 a0_0,.int .i64 a0_1,.int .i64 a0_2,.int .i64 a0_3,.int .i64 a0_4,.int .i64 a0_5]) (t:=85) ?hr ?_;(case hd=>rfl);(case hg=>rfl);(case hr=>first|(go_simp;done)|(go_simp;rfl));intro gb159 hg w3 hbox hb;have BK159:=Aside0.mk (hbox);have GW159:=Aside0.mk ((by rw [hg];exact(below_size bl):w.heap.size≤gb159));have GE159:=Aside0.mk ((by rw [hg];exact(below_size bl):w.heap.size≤gb159));replace HB:=Aside0.mk (below_step bl hb);clear hb hbox hg))
 repeat (go_quiet (first|((with_reducible refine gate_dst (N:=1) rfl ?_);refine box_event ?hg (N:=1) ?hd (cs:=#[.int .i64 a0_0,.int .i64 a0_1,.int .i64 a0_2,.int .i64 a0_3,.int .i64 a0_4,.int .i64 a0_5]) (t:=85) ?hr ?_;(case hd=>rfl);(case hg=>rfl);(case hr=>first|(go_simp;done)|(go_simp;rfl));intro gb159 hg w3 hbox hb;have BK159:=Aside0.mk (hbox);have GW159:=Aside0.mk ((by rw [hg];exact(below_size bl):w.heap.size≤gb159));have GE159:=Aside0.mk ((by rw [hg];exact(below_size bl):w.heap.size≤gb159));replace HB:=Aside0.mk (below_step bl hb);clear hb hbox hg));go_upto_region 1 with(first|((with_reducible refine gate_dst (N:=1) rfl ?_);refine box_event ?hg (N:=1) ?hd (cs:=#[.int .i64 a0_0,.int .i64 a0_1,.int .i64 a0_2,.int .i64 a0_3,.int .i64 a0_4,.int .i64 a0_5]) (t:=85) ?hr ?_;(case hd=>rfl);(case hg=>rfl);(case hr=>first|(go_simp;done)|(go_simp;rfl));intro gb159 hg w3 hbox hb;have BK159:=Aside0.mk (hbox);have GW159:=Aside0.mk ((by rw [hg];exact(below_size bl):w.heap.size≤gb159));have GE159:=Aside0.mk ((by rw [hg];exact(below_size bl):w.heap.size≤gb159));replace HB:=Aside0.mk (below_step bl hb);clear hb hbox hg)))
 (try simp only [Act.put,l1,l2,l3])
 go_cut [69] (fun v69 wc=>∃ (kq:Nat) (x69_1:Bool),v69 = .bool x69_1∧Aside0 (stowageref4_Of.j0 kq x69_1 a0_0 a0_1 a0_2 a0_3 a0_4 a0_5=some (r1,r2))∧Aside0 (kq≤k)∧Aside0 (wc.heap[gb159]? = some (.cells #[.int .i64 a0_0,.int .i64 a0_1,.int .i64 a0_2,.int .i64 a0_3,.int .i64 a0_4,.int .i64 a0_5] 85 (0,0)))∧Aside0 (Below w.heap.size w wc))
 case first=>
  have H:=HC2.out
  clear HC2
  replace H:=itO H
  rcases H with⟨c4,H⟩|⟨c4,H⟩
  {
  have c4b0:decide (a0_0<1970)=true:=decide_eq_true c4
  clear c4
  (first|rw [c4b0]|(simp only [i64_w,i32_w];rw [c4b0])|skip)
  have H':=Aside0.mk H
  clear H
  obtain⟨_,_,_,_,_,_,_,_,_,_,_,_⟩:=bc6 BK159.out
  go_wp2
  repeat (go_quiet (fail);try go_wp2)
  go_meet
  case rel=>exact⟨_,(true),rs,H',⟨by first|omega|exact Nat.le_refl _⟩,⟨kl⟩,⟨bl⟩⟩
  }
  {
  have c4b0:decide (a0_0<1970)=false:=decide_eq_false c4
  clear c4
  (first|rw [c4b0]|(simp only [i64_w,i32_w];rw [c4b0])|skip)
  replace H:=itO H
  rcases H with⟨c6,H⟩|⟨c6,H⟩
  {
  have c6b0:decide (9999<a0_0)=true:=decide_eq_true c6
  clear c6
  have H':=Aside0.mk H
  clear H
  obtain⟨_,_,_,_,_,_,_,_,_,_,_,_⟩:=bc6 BK159.out
  go_wp2
  repeat (go_quiet (fail);try go_wp2)
  go_meet
  case rel=>exact⟨_,(true),rs,H',⟨by first|omega|exact Nat.le_refl _⟩,⟨kl⟩,⟨bl⟩⟩
  }
  {
  have c6b0:decide (9999<a0_0)=false:=decide_eq_false c6
  clear c6
  replace H:=itO H
  rcases H with⟨c8,H⟩|⟨c8,H⟩
  {
  have c8b0:decide (a0_1<1)=true:=decide_eq_true c8
  clear c8
  have H':=Aside0.mk H
  clear H
  obtain⟨_,_,_,_,_,_,_,_,_,_,_,_⟩:=bc6 BK159.out
  go_wp2
  repeat (go_quiet (fail);try go_wp2)
  go_meet
  case rel=>exact⟨_,(true),rs,H',⟨by first|omega|exact Nat.le_refl _⟩,⟨kl⟩,⟨bl⟩⟩
  }
  {
  have c8b0:decide (a0_1<1)=false:=decide_eq_false c8
  clear c8
  replace H:=itO H
  rcases H with⟨c10,H⟩|⟨c10,H⟩
  {
  have c10b0:decide (12<a0_1)=true:=decide_eq_true c10
  clear c10
  have H':=Aside0.mk H
  clear H
  obtain⟨_,_,_,_,_,_,_,_,_,_,_,_⟩:=bc6 BK159.out
  go_wp2
  repeat (go_quiet (fail);try go_wp2)
  go_meet
  case rel=>exact⟨_,(true),rs,H',⟨by first|omega|exact Nat.le_refl _⟩,⟨kl⟩,⟨bl⟩⟩
  }
  {
  have c10b0:decide (12<a0_1)=false:=decide_eq_false c10
  clear c10
  replace H:=itO H
  rcases H with⟨c12,H⟩|⟨c12,H⟩
  {
  have c12b0:decide (a0_2<1)=true:=decide_eq_true c12
  clear c12
  have H':=Aside0.mk H
  clear H
  obtain⟨_,_,_,_,_,_,_,_,_,_,_,_⟩:=bc6 BK159.out
  go_wp2
  repeat (go_quiet (fail);try go_wp2)
  go_meet
  case rel=>exact⟨_,(true),rs,H',⟨by first|omega|exact Nat.le_refl _⟩,⟨kl⟩,⟨bl⟩⟩
  }
  {
  have c12b0:decide (a0_2<1)=false:=decide_eq_false c12
  clear c12
  replace H:=bndO H
  obtain⟨t160,A140,H⟩:=H
  have A14:=Aside0.mk A140
  clear A140
  replace H:=itO H
  rcases H with⟨c15,H⟩|⟨c15,H⟩
  {
  have c15b0:decide (t160<a0_2)=true:=decide_eq_true c15
  clear c15
  have H':=Aside0.mk H
  clear H
  obtain⟨_,_,_,_,_,_,_,_,_,_,_,_⟩:=bc6 BK159.out
  go_wp2_with (first|(go_at_call 64;(with_reducible refine(stowageref4_size.calls k a0_0 a0_1 t160 _ A14.out).mono ?_);rintro e w' ⟨rfl,⟨nd,rfl⟩⟩;(try exact dd)))
  repeat (go_quiet (first|(go_at_call 64;(with_reducible refine(stowageref4_size.calls k a0_0 a0_1 t160 _ A14.out).mono ?_);rintro e w' ⟨rfl,⟨nd,rfl⟩⟩;(try exact dd)));try go_wp2_with (first|(go_at_call 64;(with_reducible refine(stowageref4_size.calls k a0_0 a0_1 t160 _ A14.out).mono ?_);rintro e w' ⟨rfl,⟨nd,rfl⟩⟩;(try exact dd))))
  go_meet
  case rel=>exact⟨_,(true),rs,H',⟨by first|omega|exact Nat.le_refl _⟩,⟨kl⟩,⟨bl⟩⟩
  }
  {
  have c15b0:decide (t160<a0_2)=false:=decide_eq_false c15
  clear c15
  replace H:=itO H
  rcases H with⟨c17,H⟩|⟨c17,H⟩
  {
  have c17b0:decide (a0_3<0)=true:=decide_eq_true c17
  clear c17
  have H':=Aside0.mk H
  clear H
  obtain⟨_,_,_,_,_,_,_,_,_,_,_,_⟩:=bc6 BK159.out
  go_wp2_with (first|(go_at_call 64;(with_reducible refine(stowageref4_size.calls k a0_0 a0_1 t160 _ A14.out).mono ?_);rintro e w' ⟨rfl,⟨nd,rfl⟩⟩;(try exact dd)))
  repeat (go_quiet (first|(go_at_call 64;(with_reducible refine(stowageref4_size.calls k a0_0 a0_1 t160 _ A14.out).mono ?_);rintro e w' ⟨rfl,⟨nd,rfl⟩⟩;(try exact dd)));try go_wp2_with (first|(go_at_call 64;(with_reducible refine(stowageref4_size.calls k a0_0 a0_1 t160 _ A14.out).mono ?_);rintro e w' ⟨rfl,⟨nd,rfl⟩⟩;(try exact dd))))
  go_meet
  case rel=>exact⟨_,(true),rs,H',⟨by first|omega|exact Nat.le_refl _⟩,⟨kl⟩,⟨bl⟩⟩
  }
  {
  have c17b0:decide (a0_3<0)=false:=decide_eq_false c17
  clear c17
  replace H:=itO H
  rcases H with⟨c19,H⟩|⟨c19,H⟩
  {
  have c19b0:decide (23<a0_3)=true:=decide_eq_true c19
  clear c19
  have H':=Aside0.mk H
  clear H
  obtain⟨_,_,_,_,_,_,_,_,_,_,_,_⟩:=bc6 BK159.out
  go_wp2_with (first|(go_at_call 64;(with_reducible refine(stowageref4_size.calls k a0_0 a0_1 t160 _ A14.out).mono ?_);rintro e w' ⟨rfl,⟨nd,rfl⟩⟩;(try exact dd)))
  repeat (go_quiet (first|(go_at_call 64;(with_reducible refine(stowageref4_size.calls k a0_0 a0_1 t160 _ A14.out).mono ?_);rintro e w' ⟨rfl,⟨nd,rfl⟩⟩;(try exact dd)));try go_wp2_with (first|(go_at_call 64;(with_reducible refine(stowageref4_size.calls k a0_0 a0_1 t160 _ A14.out).mono ?_);rintro e w' ⟨rfl,⟨nd,rfl⟩⟩;(try exact dd))))
  go_meet
  case rel=>exact⟨_,(true),rs,H',⟨by first|omega|exact Nat.le_refl _⟩,⟨kl⟩,⟨bl⟩⟩
  }
  {
  have c19b0:decide (23<a0_3)=false:=decide_eq_false c19
  clear c19
  replace H:=itO H
  rcases H with⟨c21,H⟩|⟨c21,H⟩
  {
  have c21b0:decide (a0_4<0)=true:=decide_eq_true c21
  clear c21
  have H':=Aside0.mk H
  clear H
  obtain⟨_,_,_,_,_,_,_,_,_,_,_,_⟩:=bc6 BK159.out
  go_wp2_with (first|(go_at_call 64;(with_reducible refine(stowageref4_size.calls k a0_0 a0_1 t160 _ A14.out).mono ?_);rintro e w' ⟨rfl,⟨nd,rfl⟩⟩;(try exact dd)))
  repeat (go_quiet (first|(go_at_call 64;(with_reducible refine(stowageref4_size.calls k a0_0 a0_1 t160 _ A14.out).mono ?_);rintro e w' ⟨rfl,⟨nd,rfl⟩⟩;(try exact dd)));try go_wp2_with (first|(go_at_call 64;(with_reducible refine(stowageref4_size.calls k a0_0 a0_1 t160 _ A14.out).mono ?_);rintro e w' ⟨rfl,⟨nd,rfl⟩⟩;(try exact dd))))
  go_meet
  case rel=>exact⟨_,(true),rs,H',⟨by first|omega|exact Nat.le_refl _⟩,⟨kl⟩,⟨bl⟩⟩
  }
  {
  have c21b0:decide (a0_4<0)=false:=decide_eq_false c21
  clear c21
  replace H:=itO H
  rcases H with⟨c23,H⟩|⟨c23,H⟩
  {
  have c23b0:decide (59<a0_4)=true:=decide_eq_true c23
  clear c23
  have H':=Aside0.mk H
  clear H
  obtain⟨_,_,_,_,_,_,_,_,_,_,_,_⟩:=bc6 BK159.out
  go_wp2_with (first|(go_at_call 64;(with_reducible refine(stowageref4_size.calls k a0_0 a0_1 t160 _ A14.out).mono ?_);rintro e w' ⟨rfl,⟨nd,rfl⟩⟩;(try exact dd)))
  repeat (go_quiet (first|(go_at_call 64;(with_reducible refine(stowageref4_size.calls k a0_0 a0_1 t160 _ A14.out).mono ?_);rintro e w' ⟨rfl,⟨nd,rfl⟩⟩;(try exact dd)));try go_wp2_with (first|(go_at_call 64;(with_reducible refine(stowageref4_size.calls k a0_0 a0_1 t160 _ A14.out).mono ?_);rintro e w' ⟨rfl,⟨nd,rfl⟩⟩;(try exact dd))))
  go_meet
  case rel=>exact⟨_,(true),rs,H',⟨by first|omega|exact Nat.le_refl _⟩,⟨kl⟩,⟨bl⟩⟩
  }
  {
  have c23b0:decide (59<a0_4)=false:=decide_eq_false c23
  clear c23
  replace H:=itO H
  rcases H with⟨c25,H⟩|⟨c25,H⟩
  {
  have c25b0:decide (a0_5<0)=true:=decide_eq_true c25
  clear c25
  have H':=Aside0.mk H
  clear H
  obtain⟨_,_,_,_,_,_,_,_,_,_,_,_⟩:=bc6 BK159.out
  go_wp2_with (first|(go_at_call 64;(with_reducible refine(stowageref4_size.calls k a0_0 a0_1 t160 _ A14.out).mono ?_);rintro e w' ⟨rfl,⟨nd,rfl⟩⟩;(try exact dd)))
  repeat (go_quiet (first|(go_at_call 64;(with_reducible refine(stowageref4_size.calls k a0_0 a0_1 t160 _ A14.out).mono ?_);rintro e w' ⟨rfl,⟨nd,rfl⟩⟩;(try exact dd)));try go_wp2_with (first|(go_at_call 64;(with_reducible refine(stowageref4_size.calls k a0_0 a0_1 t160 _ A14.out).mono ?_);rintro e w' ⟨rfl,⟨nd,rfl⟩⟩;(try exact dd))))
  go_meet
  case rel=>exact⟨_,(true),rs,H',⟨by first|omega|exact Nat.le_refl _⟩,⟨kl⟩,⟨bl⟩⟩
  }
  {
  have c25b0:decide (a0_5<0)=false:=decide_eq_false c25
  clear c25
  have H':=Aside0.mk H
  clear H
  obtain⟨_,_,_,_,_,_,_,_,_,_,_,_⟩:=bc6 BK159.out
  go_wp2_with (first|(go_at_call 64;(with_reducible refine(stowageref4_size.calls k a0_0 a0_1 t160 _ A14.out).mono ?_);rintro e w' ⟨rfl,⟨nd,rfl⟩⟩;(try exact dd)))
  repeat (go_quiet (first|(go_at_call 64;(with_reducible refine(stowageref4_size.calls k a0_0 a0_1 t160 _ A14.out).mono ?_);rintro e w' ⟨rfl,⟨nd,rfl⟩⟩;(try exact dd)));try go_wp2_with (first|(go_at_call 64;(with_reducible refine(stowageref4_size.calls k a0_0 a0_1 t160 _ A14.out).mono ?_);rintro e w' ⟨rfl,⟨nd,rfl⟩⟩;(try exact dd))))
  go_meet
  case rel=>exact⟨_,(decide (a0_5>59)),rs,H',⟨by first|omega|exact Nat.le_refl _⟩,⟨kl⟩,⟨bl⟩⟩
  }
  }
  }
  }
  }
  }
  }
  }
  }
  }
  }
 case rest=>
  clear HC2
  obtain⟨kq,x69_1,rfl,HA,HJ1,BK159,HB⟩:=hcut
  cases kq with
  | zero=>exact absurd HA.out (by simp [stowageref4_Of.j0])
  | succ kj1=>
   have H:=HA.out
   clear HA
   simp only [stowageref4_Of.j0] at H
   by_cases c28:x69_1=true
   {
   subst c28
   replace H:=itT H
   simp only [Option.some.injEq,Prod.mk.injEq] at H
   obtain⟨rfl,rfl⟩:=H
   go_wp2
   repeat (go_quiet (fail);try go_wp2)
   go_ret2
   exact⟨ew,bl⟩
   }
   {
   replace c28:=Bool.eq_false_iff.mpr c28
   subst c28
   replace H:=itF H
   have H':=Aside0.mk H
   clear H
   obtain⟨_,_,_,_,_,_,_,_,_,_,_,_⟩:=bc6 BK159.out
   go_wp2
   repeat (go_quiet (fail);try go_wp2)
   go_loopg [4,5] kj1 (fun kq v4 v5 w'=>∃ (x4_2:Int) (x5_2:Int),v4 = .int .i64 x4_2∧v5 = .int .i64 x5_2∧Aside0 (stowageref4_Of.l0 kq x4_2 x5_2 a0_0 a0_1 a0_2 a0_3 a0_4 a0_5=some (r1,r2))∧Aside0 (kq≤kj1)∧Aside0 (w'.heap[gb159]? = some (.cells #[.int .i64 a0_0,.int .i64 a0_1,.int .i64 a0_2,.int .i64 a0_3,.int .i64 a0_4,.int .i64 a0_5] 85 (0,0)))∧Aside0 (Below w.heap.size w w'))
   case atStart=>exact⟨(wrap64 (a0_2-1)),(1970),rs,rs,H',⟨Nat.le_refl _⟩,⟨kl⟩,⟨bl⟩⟩
   case round=>
    clear H'
    obtain⟨x4_2,x5_2,rfl,rfl,HA,HK2,BK159,HB⟩:=hrel
    cases gk with
    | zero=>exact absurd HA.out (by simp [stowageref4_Of.l0])
    | succ k2=>
     have H:=HA.out
     clear HA
     simp only [stowageref4_Of.l0] at H
     replace H:=itO H
     rcases H with⟨c30,H⟩|⟨c30,H⟩
     {
     have c30b0:decide (x5_2<a0_0)=true:=decide_eq_true c30
     clear c30
     replace H:=bndO H
     obtain⟨t161,A310,H⟩:=H
     have A31:=Aside0.mk A310
     clear A310
     have H':=Aside0.mk H
     clear H
     obtain⟨_,_,_,_,_,_,_,_,_,_,_,_⟩:=bc6 BK159.out
     go_wp2_with (first|(go_at_call 63;(with_reducible refine(stowageref4_year.calls x5_2 t161 _ A31.out).mono ?_);rintro e w' ⟨rfl,⟨nd,rfl⟩⟩;(try exact dd)))
     repeat (go_quiet (first|(go_at_call 63;(with_reducible refine(stowageref4_year.calls x5_2 t161 _ A31.out).mono ?_);rintro e w' ⟨rfl,⟨nd,rfl⟩⟩;(try exact dd)));try go_wp2_with (first|(go_at_call 63;(with_reducible refine(stowageref4_year.calls x5_2 t161 _ A31.out).mono ?_);rintro e w' ⟨rfl,⟨nd,rfl⟩⟩;(try exact dd))))
     go_roundg k2
     case measure=>have:=HJ1.out;have:=HK2.out;omega
     case rel=>exact⟨(wrap64 (x4_2+t161)),(wrap64 (x5_2+1)),rs,rs,H',⟨by have:=HJ1.out;have:=HK2.out;omega⟩,⟨kl⟩,⟨bl⟩⟩
     }
     {
     have c30b0:decide (x5_2<a0_0)=false:=decide_eq_false c30
     clear c30
     have H':=Aside0.mk H
     clear H
     obtain⟨_,_,_,_,_,_,_,_,_,_,_,_⟩:=bc6 BK159.out
     go_wp2
     repeat (go_quiet (fail);try go_wp2)
     go_loopg [4,6] k2 (fun kq v4 v6 w'=>∃ (x4_3:Int) (x6_3:Int),v4 = .int .i64 x4_3∧v6 = .int .i64 x6_3∧Aside0 (stowageref4_Of.l1 kq x4_3 x6_3 a0_0 a0_1 a0_2 a0_3 a0_4 a0_5=some (r1,r2))∧Aside0 (kq≤k2)∧Aside0 (w'.heap[gb159]? = some (.cells #[.int .i64 a0_0,.int .i64 a0_1,.int .i64 a0_2,.int .i64 a0_3,.int .i64 a0_4,.int .i64 a0_5] 85 (0,0)))∧Aside0 (Below w.heap.size w w'))
     case atStart=>exact⟨(x4_2),(1),rs,rs,H',⟨Nat.le_refl _⟩,⟨kl⟩,⟨bl⟩⟩
     case round=>
      clear H'
      obtain⟨x4_3,x6_3,rfl,rfl,HA,HK3,BK159,HB⟩:=hrel
      cases gk with
      | zero=>exact absurd HA.out (by simp [stowageref4_Of.l1])
      | succ k3=>
       have H:=HA.out
       clear HA
       simp only [stowageref4_Of.l1] at H
       replace H:=itO H
       rcases H with⟨c34,H⟩|⟨c34,H⟩
       {
       have c34b0:decide (x6_3<a0_1)=true:=decide_eq_true c34
       clear c34
       replace H:=bndO H
       obtain⟨t162,A350,H⟩:=H
       have A35:=Aside0.mk A350
       clear A350
       have H':=Aside0.mk H
       clear H
       obtain⟨_,_,_,_,_,_,_,_,_,_,_,_⟩:=bc6 BK159.out
       go_wp2_with (first|(go_at_call 64;(with_reducible refine(stowageref4_size.calls k3 a0_0 x6_3 t162 _ A35.out).mono ?_);rintro e w' ⟨rfl,⟨nd,rfl⟩⟩;(try exact dd)))
       repeat (go_quiet (first|(go_at_call 64;(with_reducible refine(stowageref4_size.calls k3 a0_0 x6_3 t162 _ A35.out).mono ?_);rintro e w' ⟨rfl,⟨nd,rfl⟩⟩;(try exact dd)));try go_wp2_with (first|(go_at_call 64;(with_reducible refine(stowageref4_size.calls k3 a0_0 x6_3 t162 _ A35.out).mono ?_);rintro e w' ⟨rfl,⟨nd,rfl⟩⟩;(try exact dd))))
       go_roundg k3
       case measure=>have:=HJ1.out;have:=HK2.out;have:=HK3.out;omega
       case rel=>exact⟨(wrap64 (x4_3+t162)),(wrap64 (x6_3+1)),rs,rs,H',⟨by have:=HJ1.out;have:=HK2.out;have:=HK3.out;omega⟩,⟨kl⟩,⟨bl⟩⟩
       }
       {
       have c34b0:decide (x6_3<a0_1)=false:=decide_eq_false c34
       clear c34
       simp only [Option.some.injEq,Prod.mk.injEq] at H
       obtain⟨rfl,rfl⟩:=H
       obtain⟨_,_,_,_,_,_,_,_,_,_,_,_⟩:=bc6 BK159.out
       go_wp2
       repeat (go_quiet (fail);try go_wp2)
       go_ret2
       exact⟨ew,bl⟩
       }
     }
   }
end Go.Proofs.YtfjidcmegacibaaDoor.Q
