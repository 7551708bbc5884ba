/- A part of the proof of the seat's laws. No condition beyond those in the theorems. -/
import Derived.Test.YtfjidcmegacibaaDoorZQ0g11
import Derived.Test.YtfjidcmegacibaaDoorZQ29
import Derived.Test.YtfjidcmegacibaaDoorZQ33g16
import Derived.Test.YtfjidcmegacibaaDoorZQ53
import Derived.Test.YtfjidcmegacibaaDoorZSqzB

namespace Go.Proofs.YtfjidcmegacibaaDoor.Q
open Go.RowKit Go.Proofs.YtfjidcmegacibaaDoorW.PrintWords Go.Proofs.YtfjidcmegacibaaDoorW.PrintLast Go.Proofs.YtfjidcmegacibaaDoorW.PrintMore
set_option linter.unusedVariables false
set_option linter.unusedSimpArgs false
set_option maxHeartbeats 8000000
set_option maxRecDepth 100000
attribute [local go_sem] max2_int min2_int max_two min_two max_three min_three max_four min_four   
mutual
def when_ParseHttp.j0:Nat→ByteArray→List Int→Bool→Option (Int×Bool)
 | 0,_,_,_=>none
 | k+1,x0,x4,x25=>if x25=true then(some (0,false)) else(if 8≤11 then(if 11≤(x0.size:Int) then((strings_Index.f (⟨#[74,97,110,70,101,98,77,97,114,65,112,114,77,97,121,74,117,110,74,117,108,65,117,103,83,101,112,79,99,116,78,111,118,68,101,99]⟩ : ByteArray) (x0.extract 8 11)).bind fun t185=>(if t185<0 then(when_ParseHttp.j1 k x0 x4 t185 true) else(when_ParseHttp.j1 k x0 x4 t185 ((Int.tmod t185 3) != 0)))) else(none)) else(none))
def when_ParseHttp.j1:Nat→ByteArray→List Int→Int→Bool→Option (Int×Bool)
 | 0,_,_,_,_=>none
 | k+1,x0,x4,x6,x35=>if x35=true then(some (0,false)) else(if 0<(x4.length:Int) then(if 1<(x4.length:Int) then(if 2<(x4.length:Int) then(if 3<(x4.length:Int) then(if 4<(x4.length:Int) then((when_Of.f k (rd x4 0) (wrap64 ((wrap64 (Int.tdiv x6 3))+1)) (rd x4 1) (rd x4 2) (rd x4 3) (rd x4 4)).bind fun bt191=>(if bt191.2=true then((when_Http.f k bt191.1).bind fun t193=>(if t193.toList=x0.toList then(some (bt191.1,true)) else(some (0,false)))) else(some (0,false)))) else(none)) else(none)) else(none)) else(none)) else(none))
end
def when_ParseHttp.f (k:Nat) (a0:ByteArray):Option (Int×Bool):=(when_all.f k a0 (([(⟨12,4⟩ : S116),(⟨5,2⟩ : S116),(⟨17,2⟩ : S116),(⟨20,2⟩ : S116),(⟨23,2⟩ : S116)]:List (S116)))).bind fun bt181=>(if bt181.2=true then(when_ParseHttp.j0 k a0 bt181.1 ((a0.size:Int) != 29)) else(when_ParseHttp.j0 k a0 bt181.1 true))
theorem when_ParseHttp.mono_l:∀ k,(∀ y0 y1 y2,LeO (when_ParseHttp.j0 k y0 y1 y2) (when_ParseHttp.j0 (k+1) y0 y1 y2))∧(∀ y0 y1 y2 y3,LeO (when_ParseHttp.j1 k y0 y1 y2 y3) (when_ParseHttp.j1 (k+1) y0 y1 y2 y3))
 | 0=>⟨fun _ _ _ r h=>by simp [when_ParseHttp.j0] at h,fun _ _ _ _ r h=>by simp [when_ParseHttp.j1] at h⟩
 | k+1=>by
  obtain⟨ih0,ih1⟩:=when_ParseHttp.mono_l k
  refine⟨?_,?_⟩
  ·intro y0 y1 y2
   unfold when_ParseHttp.j0
   repeat' first
   | (with_reducible exact ih0 _ _ _)
   | (with_reducible exact ih1 _ _ _ _)
   | (with_reducible exact when_Http.mono _ _)
   | (with_reducible exact when_Of.mono _ _ _ _ _ _ _)
   | (with_reducible exact when_all.mono _ _ _)
   | (with_reducible exact LeO.refl _)
   | (with_reducible exact LeO.none _)
   | (with_reducible refine LeO.ite ?_ ?_)
   | (with_reducible refine LeO.bind ?_ (fun _=>?_))
   | exact ih0 _ _ _
   | exact ih1 _ _ _ _
   | exact when_Http.mono _ _
   | exact when_Of.mono _ _ _ _ _ _ _
   | exact when_all.mono _ _ _
   | exact LeO.none _
   | refine LeO.ite ?_ ?_
   | refine LeO.bind ?_ (fun _=>?_)
  ·intro y0 y1 y2 y3
   unfold when_ParseHttp.j1
   repeat' first
   | (with_reducible exact ih0 _ _ _)
   | (with_reducible exact ih1 _ _ _ _)
   | (with_reducible exact when_Http.mono _ _)
   | (with_reducible exact when_Of.mono _ _ _ _ _ _ _)
   | (with_reducible exact when_all.mono _ _ _)
   | (with_reducible exact LeO.refl _)
   | (with_reducible exact LeO.none _)
   | (with_reducible refine LeO.ite ?_ ?_)
   | (with_reducible refine LeO.bind ?_ (fun _=>?_))
   | exact ih0 _ _ _
   | exact ih1 _ _ _ _
   | exact when_Http.mono _ _
   | exact when_Of.mono _ _ _ _ _ _ _
   | exact when_all.mono _ _ _
   | exact LeO.none _
   | refine LeO.ite ?_ ?_
   | refine LeO.bind ?_ (fun _=>?_)
theorem when_ParseHttp.mono:∀ a0 k,LeO (when_ParseHttp.f k a0) (when_ParseHttp.f (k+1) a0):=by
 intro a0 k
 obtain⟨ih0,ih1⟩:=when_ParseHttp.mono_l k
 unfold when_ParseHttp.f
 repeat' first
   | (with_reducible exact ih0 _ _ _)
   | (with_reducible exact ih1 _ _ _ _)
   | (with_reducible exact when_Http.mono _ _)
   | (with_reducible exact when_Of.mono _ _ _ _ _ _ _)
   | (with_reducible exact when_all.mono _ _ _)
   | (with_reducible exact LeO.refl _)
   | (with_reducible exact LeO.none _)
   | (with_reducible refine LeO.ite ?_ ?_)
   | (with_reducible refine LeO.bind ?_ (fun _=>?_))
   | exact ih0 _ _ _
   | exact ih1 _ _ _ _
   | exact when_Http.mono _ _
   | exact when_Of.mono _ _ _ _ _ _ _
   | exact when_all.mono _ _ _
   | exact LeO.none _
   | refine LeO.ite ?_ ?_
   | refine LeO.bind ?_ (fun _=>?_)
theorem when_ParseHttp.calls (k:Nat) (a0:ByteArray) (r1:Int) (r2:Bool) (w:World) (hG:GOk w) (h:when_ParseHttp.f k a0=some (r1,r2)) :
  Calls Tryd.prog 53 #[.string a0] w fun e w'=>e = .returned (.tuple #[.int .i64 r1,.bool r2])∧Below w.heap.size w w':=by
 have hu116:=Tryd.underlying116
 have HB:=Aside0.mk (Below.refl w.heap.size w)
 unfold when_ParseHttp.f at h
 have H:=h
 clear h
 obtain⟨y178,hy178⟩ : ∃ y_:List (S116),y_=(([(⟨12,4⟩ : S116),(⟨5,2⟩ : S116),(⟨17,2⟩ : S116),(⟨20,2⟩ : S116),(⟨23,2⟩ : S116)]:List (S116))):=⟨_,rfl⟩
 replace H:((when_all.f k a0 y178).bind fun bt181=>(if bt181.2=true then(when_ParseHttp.j0 k a0 bt181.1 ((a0.size:Int) != 29)) else(when_ParseHttp.j0 k a0 bt181.1 true)))=some (r1,r2):=by first|(rw [hy178];with_reducible exact H)|(have H2_:=(Option.bind_some _ _).symm.trans H;rw [hy178];with_reducible exact H2_)|(have H2_:=(Option.bind_some _ _).symm.trans H;with_reducible exact H2_)|with_reducible exact H|(rw [hy178];exact H)|exact H
 have Ny178:=Aside0.mk hy178
 clear hy178
 replace H:=bndO H
 obtain⟨⟨t181,t182⟩,A20,H⟩:=H
 dsimp only at H
 have A2:=Aside0.mk A20
 clear A20
 have HC3:=Aside0.mk H
 clear H
 go_enter Tryd.func53,Tryd.ntmps53
 go_upto_region 2 with(first|((with_reducible refine gate_dst (N:=15) rfl ?_);(try (refine gate_guard (by rfl) ?_;dsimp only));refine Kd.R_lit k116 _ 116 ?hg (N:=15) ?hd (xs:=([(⟨12,4⟩ : S116),(⟨5,2⟩ : S116),(⟨17,2⟩ : S116),(⟨20,2⟩ : S116),(⟨23,2⟩ : S116)]:List (S116))) (inner:=[.int .i64 12,.int .i64 4,.int .i64 5,.int .i64 2,.int .i64 17,.int .i64 2,.int .i64 20,.int .i64 2,.int .i64 23,.int .i64 2]) (ok:=fun _=>True) (okp:=fun _=>True) ?hr ?hp (fun _ hk=>hk) trivial (Below.refl _ _) (Nat.le_refl _) (by simp) ?_;(case hd=>rfl);(case hg=>rfl);(case hr=>first|(go_simp;done)|(go_simp;rfl));(case hp=>exact(Reps.c2 (show Kd.M k116 _ _ _ (⟨12,4⟩ : S116) [.int .i64 12,.int .i64 4] from(k116_mkM _ _ _ (⟨12,4⟩ : S116))) (Reps.c2 (show Kd.M k116 _ _ _ (⟨5,2⟩ : S116) [.int .i64 5,.int .i64 2] from(k116_mkM _ _ _ (⟨5,2⟩ : S116))) (Reps.c2 (show Kd.M k116 _ _ _ (⟨17,2⟩ : S116) [.int .i64 17,.int .i64 2] from(k116_mkM _ _ _ (⟨17,2⟩ : S116))) (Reps.c2 (show Kd.M k116 _ _ _ (⟨20,2⟩ : S116) [.int .i64 20,.int .i64 2] from(k116_mkM _ _ _ (⟨20,2⟩ : S116))) (Reps.c2 (show Kd.M k116 _ _ _ (⟨23,2⟩ : S116) [.int .i64 23,.int .i64 2] from(k116_mkM _ _ _ (⟨23,2⟩ : S116))) (Reps.none _ _)))))));intro v179 w4 ho5 hb hg_ hnew_;clear hg_ hnew_;(first|rw [← Ny178.out] at ho5|(simp only [Int.reduceToNat] at ho5;rw [← Ny178.out] at ho5));have n0_:=Aside0.mk (Kd.R_lower ho5 (below_size (by repeat (first|(with_reducible first|exact HB.out|apply below_alloc|apply pw_below_drewN|apply below_drew1)|exact HB.out))));have n1_:=Aside0.mk (below_step (by repeat (first|(with_reducible first|exact HB.out|apply below_alloc|apply pw_below_drewN|apply below_drew1)|exact HB.out)) hb);clear HB;have HO180:=n0_;have HB:=n1_;clear n0_ n1_;clear hb ho5;obtain⟨Ao6,co6,eo6⟩:=Kd.R_slice HO180.out;subst eo6)|(go_at_call 78;(with_reducible refine(when_all.calls k a0 _ _ y178 t181 t182 _ ?side1 ?side2 A2.out).mono ?_);(case side1=>repeat (first|exact(Kd.R_reads' HO180.out).2.2|(with_reducible refine Kd.C_alloc ?_ _)|(with_reducible refine Kd.C_drewN ?_ _)|(with_reducible refine Kd.C_drew ?_)));(case side2=>exact(Kd.R_reads' HO180.out).2.1);rintro e w7 ⟨v183,rfl,ho0,hb⟩;have n0_:=Aside0.mk (Kd.R_below (by(with_reducible repeat (first|apply Kd.R_alloc|apply Kd.R_drewN|apply Kd.R_drew));exact HO180.out) hb);have n1_:=Aside0.mk (Kd.R_lower ho0 (below_size (by repeat (first|(with_reducible first|exact HB.out|apply below_alloc|apply pw_below_drewN|apply below_drew1)|exact HB.out))));have n2_:=Aside0.mk (below_step (by repeat (first|(with_reducible first|exact HB.out|apply below_alloc|apply pw_below_drewN|apply below_drew1)|exact HB.out)) hb);clear HO180;clear HB;have HO180:=n0_;have HO184:=n1_;have HB:=n2_;clear n0_ n1_ n2_;(try clear hb);(try clear hb2);(try clear hk);(try clear hi);(try clear ho0)))
 repeat (go_quiet (first|((with_reducible refine gate_dst (N:=15) rfl ?_);(try (refine gate_guard (by rfl) ?_;dsimp only));refine Kd.R_lit k116 _ 116 ?hg (N:=15) ?hd (xs:=([(⟨12,4⟩ : S116),(⟨5,2⟩ : S116),(⟨17,2⟩ : S116),(⟨20,2⟩ : S116),(⟨23,2⟩ : S116)]:List (S116))) (inner:=[.int .i64 12,.int .i64 4,.int .i64 5,.int .i64 2,.int .i64 17,.int .i64 2,.int .i64 20,.int .i64 2,.int .i64 23,.int .i64 2]) (ok:=fun _=>True) (okp:=fun _=>True) ?hr ?hp (fun _ hk=>hk) trivial (Below.refl _ _) (Nat.le_refl _) (by simp) ?_;(case hd=>rfl);(case hg=>rfl);(case hr=>first|(go_simp;done)|(go_simp;rfl));(case hp=>exact(Reps.c2 (show Kd.M k116 _ _ _ (⟨12,4⟩ : S116) [.int .i64 12,.int .i64 4] from(k116_mkM _ _ _ (⟨12,4⟩ : S116))) (Reps.c2 (show Kd.M k116 _ _ _ (⟨5,2⟩ : S116) [.int .i64 5,.int .i64 2] from(k116_mkM _ _ _ (⟨5,2⟩ : S116))) (Reps.c2 (show Kd.M k116 _ _ _ (⟨17,2⟩ : S116) [.int .i64 17,.int .i64 2] from(k116_mkM _ _ _ (⟨17,2⟩ : S116))) (Reps.c2 (show Kd.M k116 _ _ _ (⟨20,2⟩ : S116) [.int .i64 20,.int .i64 2] from(k116_mkM _ _ _ (⟨20,2⟩ : S116))) (Reps.c2 (show Kd.M k116 _ _ _ (⟨23,2⟩ : S116) [.int .i64 23,.int .i64 2] from(k116_mkM _ _ _ (⟨23,2⟩ : S116))) (Reps.none _ _)))))));intro v179 w4 ho5 hb hg_ hnew_;clear hg_ hnew_;(first|rw [← Ny178.out] at ho5|(simp only [Int.reduceToNat] at ho5;rw [← Ny178.out] at ho5));have n0_:=Aside0.mk (Kd.R_lower ho5 (below_size (by repeat (first|(with_reducible first|exact HB.out|apply below_alloc|apply pw_below_drewN|apply below_drew1)|exact HB.out))));have n1_:=Aside0.mk (below_step (by repeat (first|(with_reducible first|exact HB.out|apply below_alloc|apply pw_below_drewN|apply below_drew1)|exact HB.out)) hb);clear HB;have HO180:=n0_;have HB:=n1_;clear n0_ n1_;clear hb ho5;obtain⟨Ao6,co6,eo6⟩:=Kd.R_slice HO180.out;subst eo6)|(go_at_call 78;(with_reducible refine(when_all.calls k a0 _ _ y178 t181 t182 _ ?side1 ?side2 A2.out).mono ?_);(case side1=>repeat (first|exact(Kd.R_reads' HO180.out).2.2|(with_reducible refine Kd.C_alloc ?_ _)|(with_reducible refine Kd.C_drewN ?_ _)|(with_reducible refine Kd.C_drew ?_)));(case side2=>exact(Kd.R_reads' HO180.out).2.1);rintro e w7 ⟨v183,rfl,ho0,hb⟩;have n0_:=Aside0.mk (Kd.R_below (by(with_reducible repeat (first|apply Kd.R_alloc|apply Kd.R_drewN|apply Kd.R_drew));exact HO180.out) hb);have n1_:=Aside0.mk (Kd.R_lower ho0 (below_size (by repeat (first|(with_reducible first|exact HB.out|apply below_alloc|apply pw_below_drewN|apply below_drew1)|exact HB.out))));have n2_:=Aside0.mk (below_step (by repeat (first|(with_reducible first|exact HB.out|apply below_alloc|apply pw_below_drewN|apply below_drew1)|exact HB.out)) hb);clear HO180;clear HB;have HO180:=n0_;have HO184:=n1_;have HB:=n2_;clear n0_ n1_ n2_;(try clear hb);(try clear hb2);(try clear hk);(try clear hi);(try clear ho0)));go_upto_region 2 with(first|((with_reducible refine gate_dst (N:=15) rfl ?_);(try (refine gate_guard (by rfl) ?_;dsimp only));refine Kd.R_lit k116 _ 116 ?hg (N:=15) ?hd (xs:=([(⟨12,4⟩ : S116),(⟨5,2⟩ : S116),(⟨17,2⟩ : S116),(⟨20,2⟩ : S116),(⟨23,2⟩ : S116)]:List (S116))) (inner:=[.int .i64 12,.int .i64 4,.int .i64 5,.int .i64 2,.int .i64 17,.int .i64 2,.int .i64 20,.int .i64 2,.int .i64 23,.int .i64 2]) (ok:=fun _=>True) (okp:=fun _=>True) ?hr ?hp (fun _ hk=>hk) trivial (Below.refl _ _) (Nat.le_refl _) (by simp) ?_;(case hd=>rfl);(case hg=>rfl);(case hr=>first|(go_simp;done)|(go_simp;rfl));(case hp=>exact(Reps.c2 (show Kd.M k116 _ _ _ (⟨12,4⟩ : S116) [.int .i64 12,.int .i64 4] from(k116_mkM _ _ _ (⟨12,4⟩ : S116))) (Reps.c2 (show Kd.M k116 _ _ _ (⟨5,2⟩ : S116) [.int .i64 5,.int .i64 2] from(k116_mkM _ _ _ (⟨5,2⟩ : S116))) (Reps.c2 (show Kd.M k116 _ _ _ (⟨17,2⟩ : S116) [.int .i64 17,.int .i64 2] from(k116_mkM _ _ _ (⟨17,2⟩ : S116))) (Reps.c2 (show Kd.M k116 _ _ _ (⟨20,2⟩ : S116) [.int .i64 20,.int .i64 2] from(k116_mkM _ _ _ (⟨20,2⟩ : S116))) (Reps.c2 (show Kd.M k116 _ _ _ (⟨23,2⟩ : S116) [.int .i64 23,.int .i64 2] from(k116_mkM _ _ _ (⟨23,2⟩ : S116))) (Reps.none _ _)))))));intro v179 w4 ho5 hb hg_ hnew_;clear hg_ hnew_;(first|rw [← Ny178.out] at ho5|(simp only [Int.reduceToNat] at ho5;rw [← Ny178.out] at ho5));have n0_:=Aside0.mk (Kd.R_lower ho5 (below_size (by repeat (first|(with_reducible first|exact HB.out|apply below_alloc|apply pw_below_drewN|apply below_drew1)|exact HB.out))));have n1_:=Aside0.mk (below_step (by repeat (first|(with_reducible first|exact HB.out|apply below_alloc|apply pw_below_drewN|apply below_drew1)|exact HB.out)) hb);clear HB;have HO180:=n0_;have HB:=n1_;clear n0_ n1_;clear hb ho5;obtain⟨Ao6,co6,eo6⟩:=Kd.R_slice HO180.out;subst eo6)|(go_at_call 78;(with_reducible refine(when_all.calls k a0 _ _ y178 t181 t182 _ ?side1 ?side2 A2.out).mono ?_);(case side1=>repeat (first|exact(Kd.R_reads' HO180.out).2.2|(with_reducible refine Kd.C_alloc ?_ _)|(with_reducible refine Kd.C_drewN ?_ _)|(with_reducible refine Kd.C_drew ?_)));(case side2=>exact(Kd.R_reads' HO180.out).2.1);rintro e w7 ⟨v183,rfl,ho0,hb⟩;have n0_:=Aside0.mk (Kd.R_below (by(with_reducible repeat (first|apply Kd.R_alloc|apply Kd.R_drewN|apply Kd.R_drew));exact HO180.out) hb);have n1_:=Aside0.mk (Kd.R_lower ho0 (below_size (by repeat (first|(with_reducible first|exact HB.out|apply below_alloc|apply pw_below_drewN|apply below_drew1)|exact HB.out))));have n2_:=Aside0.mk (below_step (by repeat (first|(with_reducible first|exact HB.out|apply below_alloc|apply pw_below_drewN|apply below_drew1)|exact HB.out)) hb);clear HO180;clear HB;have HO180:=n0_;have HO184:=n1_;have HB:=n2_;clear n0_ n1_ n2_;(try clear hb);(try clear hb2);(try clear hk);(try clear hi);(try clear ho0))))
 (try simp only [Act.put,List.setIfInBounds_toArray,List.set_cons_zero,List.set_cons_succ])
 go_cut [25] (fun v25 wc=>∃ (kq:Nat) (x25_2:Bool),v25 = .bool x25_2∧Aside0 (when_ParseHttp.j0 kq a0 t181 x25_2=some (r1,r2))∧Aside0 (kq≤k)∧Aside0 (Kd.R (Kd.int .i64) 3 wc w.heap.size (fun _=>True) v183 t181)∧Aside0 (Below w.heap.size w wc))
 case first=>
  have H:=HC3.out
  clear HC3
  by_cases c8:t182=true
  ·subst c8
   replace H:=itT H
   have H':=Aside0.mk H
   clear H
   go_wp2
   repeat (go_quiet (fail);try go_wp2)
   go_meet
   case rel=>exact⟨_,(((a0.size:Int) != 29)),(by first|rfl|(simp;done)|(simp [*];done)),H',⟨by first|omega|exact Nat.le_refl _⟩,⟨by(with_reducible repeat (first|apply Kd.R_alloc|apply Kd.R_drewN|apply Kd.R_drew));exact HO184.out⟩,⟨by repeat (first|(with_reducible first|exact HB.out|apply below_alloc|apply pw_below_drewN|apply below_drew1)|exact HB.out)⟩⟩
  ·replace c8:=Bool.eq_false_iff.mpr c8
   subst c8
   replace H:=itF H
   have H':=Aside0.mk H
   clear H
   go_wp2
   repeat (go_quiet (fail);try go_wp2)
   go_meet
   case rel=>exact⟨_,(true),(by first|rfl|(simp;done)|(simp [*];done)),H',⟨by first|omega|exact Nat.le_refl _⟩,⟨by(with_reducible repeat (first|apply Kd.R_alloc|apply Kd.R_drewN|apply Kd.R_drew));exact HO184.out⟩,⟨by repeat (first|(with_reducible first|exact HB.out|apply below_alloc|apply pw_below_drewN|apply below_drew1)|exact HB.out)⟩⟩
 case rest=>
  clear HC3
  try clear c2
  try clear p2
  try clear c5
  try clear c8
  obtain⟨kq,x25_2,rfl,HA,HJ2,HO_4,HB⟩:=hcut
  cases kq with
  | zero=>exact absurd HA.out (by simp [when_ParseHttp.j0])
  | succ kj2=>
   have H:=HA.out
   clear HA
   simp only [when_ParseHttp.j0] at H
   by_cases c9:x25_2=true
   ·subst c9
    replace H:=itT H
    simp only [Option.some.injEq,Prod.mk.injEq] at H
    obtain⟨rfl,rfl⟩:=H
    go_wp2
    repeat (go_quiet (fail);try go_wp2)
    go_ret2
    exact⟨by first|rfl|(simp [errW_none,errW_some] <;> rfl)|(simp [*,errW_none,errW_some] <;> rfl),by repeat (first|(with_reducible first|exact HB.out|apply below_alloc|apply pw_below_drewN|apply below_drew1)|exact HB.out)⟩
   ·replace c9:=Bool.eq_false_iff.mpr c9
    subst c9
    replace H:=itF H
    replace H:=itO H
    rcases H with⟨c10,H⟩|⟨c10,H⟩
    ·skip
     have c10b0:=eq_true c10
     have c10b1:=decide_eq_true c10
     clear c10
     replace H:=itO H
     rcases H with⟨c11,H⟩|⟨c11,H⟩
     ·skip
      have c11b0:=eq_true c11
      have c11b1:=decide_eq_true c11
      clear c11
      replace H:=bndO H
      obtain⟨t185,A120,H⟩:=H
      have A12:=Aside0.mk A120
      clear A120
      have HC13:=Aside0.mk H
      clear H
      go_upto_region 5 with(first|(go_at_call 76;(with_reducible refine(strings_Index.calls (⟨#[74,97,110,70,101,98,77,97,114,65,112,114,77,97,121,74,117,110,74,117,108,65,117,103,83,101,112,79,99,116,78,111,118,68,101,99]⟩ : ByteArray) (a0.extract 8 11) t185 _ (by first|exact hG|exact gok_below hG (by repeat (first|(with_reducible first|exact HB.out|apply below_alloc|apply pw_below_drewN|apply below_drew1)|exact HB.out))|exact gok_heap hG rfl|exact gok_drewN hG _|exact gok_below hG (by repeat (first|exact HB.out|exact HBW.out|exact Below.refl _ _|apply below_alloc|apply pw_below_drewN|apply below_drew1))) A12.out).mono ?_);rintro e w' ⟨rfl,⟨nd,rfl⟩⟩;(try first|exact⟨rfl,_,World.drewN_drewN _ _ _⟩|exact⟨rfl,_,Eq.trans (World.drewN_drewN _ _ _) (congrArg (World.drewN _) (Nat.add_assoc _ _ _))⟩)))
      repeat (go_quiet (first|(go_at_call 76;(with_reducible refine(strings_Index.calls (⟨#[74,97,110,70,101,98,77,97,114,65,112,114,77,97,121,74,117,110,74,117,108,65,117,103,83,101,112,79,99,116,78,111,118,68,101,99]⟩ : ByteArray) (a0.extract 8 11) t185 _ (by first|exact hG|exact gok_below hG (by repeat (first|(with_reducible first|exact HB.out|apply below_alloc|apply pw_below_drewN|apply below_drew1)|exact HB.out))|exact gok_heap hG rfl|exact gok_drewN hG _|exact gok_below hG (by repeat (first|exact HB.out|exact HBW.out|exact Below.refl _ _|apply below_alloc|apply pw_below_drewN|apply below_drew1))) A12.out).mono ?_);rintro e w' ⟨rfl,⟨nd,rfl⟩⟩;(try first|exact⟨rfl,_,World.drewN_drewN _ _ _⟩|exact⟨rfl,_,Eq.trans (World.drewN_drewN _ _ _) (congrArg (World.drewN _) (Nat.add_assoc _ _ _))⟩)));go_upto_region 5 with(first|(go_at_call 76;(with_reducible refine(strings_Index.calls (⟨#[74,97,110,70,101,98,77,97,114,65,112,114,77,97,121,74,117,110,74,117,108,65,117,103,83,101,112,79,99,116,78,111,118,68,101,99]⟩ : ByteArray) (a0.extract 8 11) t185 _ (by first|exact hG|exact gok_below hG (by repeat (first|(with_reducible first|exact HB.out|apply below_alloc|apply pw_below_drewN|apply below_drew1)|exact HB.out))|exact gok_heap hG rfl|exact gok_drewN hG _|exact gok_below hG (by repeat (first|exact HB.out|exact HBW.out|exact Below.refl _ _|apply below_alloc|apply pw_below_drewN|apply below_drew1))) A12.out).mono ?_);rintro e w' ⟨rfl,⟨nd,rfl⟩⟩;(try first|exact⟨rfl,_,World.drewN_drewN _ _ _⟩|exact⟨rfl,_,Eq.trans (World.drewN_drewN _ _ _) (congrArg (World.drewN _) (Nat.add_assoc _ _ _))⟩))))
      (try simp only [Act.put,List.setIfInBounds_toArray,List.set_cons_zero,List.set_cons_succ])
      go_cut [35] (fun v35 wc=>∃ (kq:Nat) (x35_12:Bool),v35 = .bool x35_12∧Aside0 (when_ParseHttp.j1 kq a0 t181 t185 x35_12=some (r1,r2))∧Aside0 (kq≤kj2)∧Aside0 (Kd.R (Kd.int .i64) 3 wc w.heap.size (fun _=>True) v183 t181)∧Aside0 (Below w.heap.size w wc))
      case first=>
       have H:=HC13.out
       clear HC13
       replace H:=itO H
       rcases H with⟨c14,H⟩|⟨c14,H⟩
       ·skip
        have c14b0:decide (t185<0)=true:=decide_eq_true c14
        clear c14
        (first|rw [c14b0]|(simp only [i64_w,i32_w];rw [c14b0])|skip)
        have H':=Aside0.mk H
        clear H
        go_wp2
        repeat (go_quiet (fail);try go_wp2)
        go_meet
        case rel=>exact⟨_,(true),(by first|rfl|(simp;done)|(simp [*];done)),H',⟨by have:=HJ2.out;first|omega|exact Nat.le_refl _⟩,⟨by(with_reducible repeat (first|apply Kd.R_alloc|apply Kd.R_drewN|apply Kd.R_drew));exact HO_4.out⟩,⟨by repeat (first|(with_reducible first|exact HB.out|apply below_alloc|apply pw_below_drewN|apply below_drew1)|exact HB.out)⟩⟩
       ·skip
        have c14b0:decide (t185<0)=false:=decide_eq_false c14
        clear c14
        (first|rw [c14b0]|(simp only [i64_w,i32_w];rw [c14b0])|skip)
        have H':=Aside0.mk H
        clear H
        go_wp2
        repeat (go_quiet (fail);try go_wp2)
        go_meet
        case rel=>exact⟨_,(((Int.tmod t185 3) != 0)),(by first|rfl|(simp;done)|(simp [*];done)),H',⟨by have:=HJ2.out;first|omega|exact Nat.le_refl _⟩,⟨by(with_reducible repeat (first|apply Kd.R_alloc|apply Kd.R_drewN|apply Kd.R_drew));exact HO_4.out⟩,⟨by repeat (first|(with_reducible first|exact HB.out|apply below_alloc|apply pw_below_drewN|apply below_drew1)|exact HB.out)⟩⟩
      case rest=>
       clear HC13
       try clear c1
       try clear c2
       try clear p2
       try clear c5
       try clear c8
       try clear c9
       try clear c10
       try clear c10b0
       try clear c10b1
       try clear c11
       try clear c11b0
       try clear c11b1
       try clear c14
       try clear c14b0
       try clear p2
       obtain⟨kq,x35_12,rfl,HA,HJ12,HO_4,HB⟩:=hcut
       cases kq with
       | zero=>exact absurd HA.out (by simp [when_ParseHttp.j1])
       | succ kj12=>
        have H:=HA.out
        clear HA
        simp only [when_ParseHttp.j1] at H
        by_cases c15:x35_12=true
        ·subst c15
         replace H:=itT H
         simp only [Option.some.injEq,Prod.mk.injEq] at H
         obtain⟨rfl,rfl⟩:=H
         go_wp2
         repeat (go_quiet (fail);try go_wp2)
         go_ret2
         exact⟨by first|rfl|(simp [errW_none,errW_some] <;> rfl)|(simp [*,errW_none,errW_some] <;> rfl),by repeat (first|(with_reducible first|exact HB.out|apply below_alloc|apply pw_below_drewN|apply below_drew1)|exact HB.out)⟩
        ·replace c15:=Bool.eq_false_iff.mpr c15
         subst c15
         replace H:=itF H
         replace H:=itO H
         rcases H with⟨c16,H⟩|⟨c16,H⟩
         ·skip
          have c16b0:decide (0<(t181.length:Int))=true:=decide_eq_true c16
          have c16b1:decide (0<t181.length)=true:=decide_eq_true (by omega)
          clear c16
          replace H:=itO H
          rcases H with⟨c17,H⟩|⟨c17,H⟩
          ·skip
           have c17b0:decide (1<(t181.length:Int))=true:=decide_eq_true c17
           have c17b1:decide (1<t181.length)=true:=decide_eq_true (by omega)
           clear c17
           replace H:=itO H
           rcases H with⟨c18,H⟩|⟨c18,H⟩
           ·skip
            have c18b0:decide (2<(t181.length:Int))=true:=decide_eq_true c18
            have c18b1:decide (2<t181.length)=true:=decide_eq_true (by omega)
            clear c18
            replace H:=itO H
            rcases H with⟨c19,H⟩|⟨c19,H⟩
            ·skip
             have c19b0:decide (3<(t181.length:Int))=true:=decide_eq_true c19
             have c19b1:decide (3<t181.length)=true:=decide_eq_true (by omega)
             clear c19
             replace H:=itO H
             rcases H with⟨c20,H⟩|⟨c20,H⟩
             ·skip
              have c20b0:decide (4<(t181.length:Int))=true:=decide_eq_true c20
              have c20b1:decide (4<t181.length)=true:=decide_eq_true (by omega)
              clear c20
              replace H:=bndO H
              obtain⟨⟨t191,t192⟩,A210,H⟩:=H
              dsimp only at H
              have A21:=Aside0.mk A210
              clear A210
              by_cases c22:t192=true
              ·subst c22
               replace H:=itT H
               replace H:=bndO H
               obtain⟨t193,A230,H⟩:=H
               have A23:=Aside0.mk A230
               clear A230
               replace H:=itO H
               rcases H with⟨c24,H⟩|⟨c24,H⟩
               ·skip
                have c24b0:(t193.toList == a0.toList)=true:=beq_iff_eq.mpr c24
                have c24b1:(t193.toList != a0.toList)=false:=bne_eq_false_iff_eq.mpr c24
                clear c24
                simp only [Option.some.injEq,Prod.mk.injEq] at H
                obtain⟨rfl,rfl⟩:=H
                obtain⟨Ao25,co25,eo25⟩:=Kd.R_slice HO_4.out
                subst eo25
                have p186:0≤(0:Int):=(by omega)
                have q186:0<(t181.length:Int):=of_decide_eq_true (by first|(with_reducible assumption)|assumption)
                obtain⟨ad186,e186,hx186_0⟩:=Kd.at_int (Kd.R_reads' HO_4.out).2.2 0 p186 q186
                cases e186
                have qi186:(0<t181.length)=True:=eq_true (by omega)
                (try rw [show((0:Int)).toNat=0 from rfl] at hx186_0)
                (try rw [Addr.add_zero'] at hx186_0)
                replace p186:=eq_true p186
                replace q186:=eq_true q186
                have p187:0≤(1:Int):=(by omega)
                have q187:1<(t181.length:Int):=of_decide_eq_true (by first|(with_reducible assumption)|assumption)
                obtain⟨ad187,e187,hx187_0⟩:=Kd.at_int (Kd.R_reads' HO_4.out).2.2 1 p187 q187
                obtain rfl:ad186=ad187:=(by injection e187)
                (try simp only [show(1:Int).toNat=1 from rfl,Nat.reduceMul,Nat.reduceEqDiff,Go.Addr.add,↓reduceIte] at hx187_0)
                have qi187:(1<t181.length)=True:=eq_true (by omega)
                (try rw [show((1:Int)).toNat=1 from rfl] at hx187_0)
                replace p187:=eq_true p187
                replace q187:=eq_true q187
                have p188:0≤(2:Int):=(by omega)
                have q188:2<(t181.length:Int):=of_decide_eq_true (by first|(with_reducible assumption)|assumption)
                obtain⟨ad188,e188,hx188_0⟩:=Kd.at_int (Kd.R_reads' HO_4.out).2.2 2 p188 q188
                obtain rfl:ad186=ad188:=(by injection e188)
                (try simp only [show(2:Int).toNat=2 from rfl,Nat.reduceMul,Nat.reduceEqDiff,Go.Addr.add,↓reduceIte] at hx188_0)
                have qi188:(2<t181.length)=True:=eq_true (by omega)
                (try rw [show((2:Int)).toNat=2 from rfl] at hx188_0)
                replace p188:=eq_true p188
                replace q188:=eq_true q188
                have p189:0≤(3:Int):=(by omega)
                have q189:3<(t181.length:Int):=of_decide_eq_true (by first|(with_reducible assumption)|assumption)
                obtain⟨ad189,e189,hx189_0⟩:=Kd.at_int (Kd.R_reads' HO_4.out).2.2 3 p189 q189
                obtain rfl:ad186=ad189:=(by injection e189)
                (try simp only [show(3:Int).toNat=3 from rfl,Nat.reduceMul,Nat.reduceEqDiff,Go.Addr.add,↓reduceIte] at hx189_0)
                have qi189:(3<t181.length)=True:=eq_true (by omega)
                (try rw [show((3:Int)).toNat=3 from rfl] at hx189_0)
                replace p189:=eq_true p189
                replace q189:=eq_true q189
                have p190:0≤(4:Int):=(by omega)
                have q190:4<(t181.length:Int):=of_decide_eq_true (by first|(with_reducible assumption)|assumption)
                obtain⟨ad190,e190,hx190_0⟩:=Kd.at_int (Kd.R_reads' HO_4.out).2.2 4 p190 q190
                obtain rfl:ad186=ad190:=(by injection e190)
                (try simp only [show(4:Int).toNat=4 from rfl,Nat.reduceMul,Nat.reduceEqDiff,Go.Addr.add,↓reduceIte] at hx190_0)
                have qi190:(4<t181.length)=True:=eq_true (by omega)
                (try rw [show((4:Int)).toNat=4 from rfl] at hx190_0)
                replace p190:=eq_true p190
                replace q190:=eq_true q190
                go_wp2_with (first|(go_at_call 79;(with_reducible refine(when_Of.calls kj12 (rd t181 0) (wrap64 ((wrap64 (Int.tdiv t185 3))+1)) (rd t181 1) (rd t181 2) (rd t181 3) (rd t181 4) t191 true _ A21.out).mono ?_);rintro e w' ⟨rfl,⟨nd,rfl⟩⟩;(try first|exact⟨rfl,_,World.drewN_drewN _ _ _⟩|exact⟨rfl,_,Eq.trans (World.drewN_drewN _ _ _) (congrArg (World.drewN _) (Nat.add_assoc _ _ _))⟩))|(go_at_call 31;(with_reducible refine(when_Http.calls kj12 t191 t193 _ A23.out).mono ?_);rintro e w26 ⟨rfl,hb⟩;have n0_:=Aside0.mk (Kd.R_below (by(with_reducible repeat (first|apply Kd.R_alloc|apply Kd.R_drewN|apply Kd.R_drew));exact HO_4.out) hb);have n1_:=Aside0.mk (below_step (by repeat (first|(with_reducible first|exact HB.out|apply below_alloc|apply pw_below_drewN|apply below_drew1)|exact HB.out)) hb);clear HO_4;clear HB;have HO_4:=n0_;have HB:=n1_;clear n0_ n1_;(try clear hb);(try clear hb2);(try clear hk);(try clear hi)))
                repeat (go_quiet (first|(go_at_call 79;(with_reducible refine(when_Of.calls kj12 (rd t181 0) (wrap64 ((wrap64 (Int.tdiv t185 3))+1)) (rd t181 1) (rd t181 2) (rd t181 3) (rd t181 4) t191 true _ A21.out).mono ?_);rintro e w' ⟨rfl,⟨nd,rfl⟩⟩;(try first|exact⟨rfl,_,World.drewN_drewN _ _ _⟩|exact⟨rfl,_,Eq.trans (World.drewN_drewN _ _ _) (congrArg (World.drewN _) (Nat.add_assoc _ _ _))⟩))|(go_at_call 31;(with_reducible refine(when_Http.calls kj12 t191 t193 _ A23.out).mono ?_);rintro e w26 ⟨rfl,hb⟩;have n0_:=Aside0.mk (Kd.R_below (by(with_reducible repeat (first|apply Kd.R_alloc|apply Kd.R_drewN|apply Kd.R_drew));exact HO_4.out) hb);have n1_:=Aside0.mk (below_step (by repeat (first|(with_reducible first|exact HB.out|apply below_alloc|apply pw_below_drewN|apply below_drew1)|exact HB.out)) hb);clear HO_4;clear HB;have HO_4:=n0_;have HB:=n1_;clear n0_ n1_;(try clear hb);(try clear hb2);(try clear hk);(try clear hi)));try go_wp2_with (first|(go_at_call 79;(with_reducible refine(when_Of.calls kj12 (rd t181 0) (wrap64 ((wrap64 (Int.tdiv t185 3))+1)) (rd t181 1) (rd t181 2) (rd t181 3) (rd t181 4) t191 true _ A21.out).mono ?_);rintro e w' ⟨rfl,⟨nd,rfl⟩⟩;(try first|exact⟨rfl,_,World.drewN_drewN _ _ _⟩|exact⟨rfl,_,Eq.trans (World.drewN_drewN _ _ _) (congrArg (World.drewN _) (Nat.add_assoc _ _ _))⟩))|(go_at_call 31;(with_reducible refine(when_Http.calls kj12 t191 t193 _ A23.out).mono ?_);rintro e w26 ⟨rfl,hb⟩;have n0_:=Aside0.mk (Kd.R_below (by(with_reducible repeat (first|apply Kd.R_alloc|apply Kd.R_drewN|apply Kd.R_drew));exact HO_4.out) hb);have n1_:=Aside0.mk (below_step (by repeat (first|(with_reducible first|exact HB.out|apply below_alloc|apply pw_below_drewN|apply below_drew1)|exact HB.out)) hb);clear HO_4;clear HB;have HO_4:=n0_;have HB:=n1_;clear n0_ n1_;(try clear hb);(try clear hb2);(try clear hk);(try clear hi))))
                go_ret2
                exact⟨by first|rfl|(simp [errW_none,errW_some] <;> rfl)|(simp [*,errW_none,errW_some] <;> rfl),by repeat (first|(with_reducible first|exact HB.out|apply below_alloc|apply pw_below_drewN|apply below_drew1)|exact HB.out)⟩
               ·skip
                have c24b0:(t193.toList == a0.toList)=false:=beq_eq_false_iff_ne.mpr c24
                have c24b1:(t193.toList != a0.toList)=true:=bne_iff_ne.mpr c24
                simp only [Option.some.injEq,Prod.mk.injEq] at H
                obtain⟨rfl,rfl⟩:=H
                obtain⟨Ao27,co27,eo27⟩:=Kd.R_slice HO_4.out
                subst eo27
                have p186:0≤(0:Int):=(by omega)
                have q186:0<(t181.length:Int):=of_decide_eq_true (by first|(with_reducible assumption)|assumption)
                obtain⟨ad186,e186,hx186_0⟩:=Kd.at_int (Kd.R_reads' HO_4.out).2.2 0 p186 q186
                cases e186
                have qi186:(0<t181.length)=True:=eq_true (by omega)
                (try rw [show((0:Int)).toNat=0 from rfl] at hx186_0)
                (try rw [Addr.add_zero'] at hx186_0)
                replace p186:=eq_true p186
                replace q186:=eq_true q186
                have p187:0≤(1:Int):=(by omega)
                have q187:1<(t181.length:Int):=of_decide_eq_true (by first|(with_reducible assumption)|assumption)
                obtain⟨ad187,e187,hx187_0⟩:=Kd.at_int (Kd.R_reads' HO_4.out).2.2 1 p187 q187
                obtain rfl:ad186=ad187:=(by injection e187)
                (try simp only [show(1:Int).toNat=1 from rfl,Nat.reduceMul,Nat.reduceEqDiff,Go.Addr.add,↓reduceIte] at hx187_0)
                have qi187:(1<t181.length)=True:=eq_true (by omega)
                (try rw [show((1:Int)).toNat=1 from rfl] at hx187_0)
                replace p187:=eq_true p187
                replace q187:=eq_true q187
                have p188:0≤(2:Int):=(by omega)
                have q188:2<(t181.length:Int):=of_decide_eq_true (by first|(with_reducible assumption)|assumption)
                obtain⟨ad188,e188,hx188_0⟩:=Kd.at_int (Kd.R_reads' HO_4.out).2.2 2 p188 q188
                obtain rfl:ad186=ad188:=(by injection e188)
                (try simp only [show(2:Int).toNat=2 from rfl,Nat.reduceMul,Nat.reduceEqDiff,Go.Addr.add,↓reduceIte] at hx188_0)
                have qi188:(2<t181.length)=True:=eq_true (by omega)
                (try rw [show((2:Int)).toNat=2 from rfl] at hx188_0)
                replace p188:=eq_true p188
                replace q188:=eq_true q188
                have p189:0≤(3:Int):=(by omega)
                have q189:3<(t181.length:Int):=of_decide_eq_true (by first|(with_reducible assumption)|assumption)
                obtain⟨ad189,e189,hx189_0⟩:=Kd.at_int (Kd.R_reads' HO_4.out).2.2 3 p189 q189
                obtain rfl:ad186=ad189:=(by injection e189)
                (try simp only [show(3:Int).toNat=3 from rfl,Nat.reduceMul,Nat.reduceEqDiff,Go.Addr.add,↓reduceIte] at hx189_0)
                have qi189:(3<t181.length)=True:=eq_true (by omega)
                (try rw [show((3:Int)).toNat=3 from rfl] at hx189_0)
                replace p189:=eq_true p189
                replace q189:=eq_true q189
                have p190:0≤(4:Int):=(by omega)
                have q190:4<(t181.length:Int):=of_decide_eq_true (by first|(with_reducible assumption)|assumption)
                obtain⟨ad190,e190,hx190_0⟩:=Kd.at_int (Kd.R_reads' HO_4.out).2.2 4 p190 q190
                obtain rfl:ad186=ad190:=(by injection e190)
                (try simp only [show(4:Int).toNat=4 from rfl,Nat.reduceMul,Nat.reduceEqDiff,Go.Addr.add,↓reduceIte] at hx190_0)
                have qi190:(4<t181.length)=True:=eq_true (by omega)
                (try rw [show((4:Int)).toNat=4 from rfl] at hx190_0)
                replace p190:=eq_true p190
                replace q190:=eq_true q190
                go_wp2_with (first|(go_at_call 79;(with_reducible refine(when_Of.calls kj12 (rd t181 0) (wrap64 ((wrap64 (Int.tdiv t185 3))+1)) (rd t181 1) (rd t181 2) (rd t181 3) (rd t181 4) t191 true _ A21.out).mono ?_);rintro e w' ⟨rfl,⟨nd,rfl⟩⟩;(try first|exact⟨rfl,_,World.drewN_drewN _ _ _⟩|exact⟨rfl,_,Eq.trans (World.drewN_drewN _ _ _) (congrArg (World.drewN _) (Nat.add_assoc _ _ _))⟩))|(go_at_call 31;(with_reducible refine(when_Http.calls kj12 t191 t193 _ A23.out).mono ?_);rintro e w28 ⟨rfl,hb⟩;have n0_:=Aside0.mk (Kd.R_below (by(with_reducible repeat (first|apply Kd.R_alloc|apply Kd.R_drewN|apply Kd.R_drew));exact HO_4.out) hb);have n1_:=Aside0.mk (below_step (by repeat (first|(with_reducible first|exact HB.out|apply below_alloc|apply pw_below_drewN|apply below_drew1)|exact HB.out)) hb);clear HO_4;clear HB;have HO_4:=n0_;have HB:=n1_;clear n0_ n1_;(try clear hb);(try clear hb2);(try clear hk);(try clear hi)))
                repeat (go_quiet (first|(go_at_call 79;(with_reducible refine(when_Of.calls kj12 (rd t181 0) (wrap64 ((wrap64 (Int.tdiv t185 3))+1)) (rd t181 1) (rd t181 2) (rd t181 3) (rd t181 4) t191 true _ A21.out).mono ?_);rintro e w' ⟨rfl,⟨nd,rfl⟩⟩;(try first|exact⟨rfl,_,World.drewN_drewN _ _ _⟩|exact⟨rfl,_,Eq.trans (World.drewN_drewN _ _ _) (congrArg (World.drewN _) (Nat.add_assoc _ _ _))⟩))|(go_at_call 31;(with_reducible refine(when_Http.calls kj12 t191 t193 _ A23.out).mono ?_);rintro e w28 ⟨rfl,hb⟩;have n0_:=Aside0.mk (Kd.R_below (by(with_reducible repeat (first|apply Kd.R_alloc|apply Kd.R_drewN|apply Kd.R_drew));exact HO_4.out) hb);have n1_:=Aside0.mk (below_step (by repeat (first|(with_reducible first|exact HB.out|apply below_alloc|apply pw_below_drewN|apply below_drew1)|exact HB.out)) hb);clear HO_4;clear HB;have HO_4:=n0_;have HB:=n1_;clear n0_ n1_;(try clear hb);(try clear hb2);(try clear hk);(try clear hi)));try go_wp2_with (first|(go_at_call 79;(with_reducible refine(when_Of.calls kj12 (rd t181 0) (wrap64 ((wrap64 (Int.tdiv t185 3))+1)) (rd t181 1) (rd t181 2) (rd t181 3) (rd t181 4) t191 true _ A21.out).mono ?_);rintro e w' ⟨rfl,⟨nd,rfl⟩⟩;(try first|exact⟨rfl,_,World.drewN_drewN _ _ _⟩|exact⟨rfl,_,Eq.trans (World.drewN_drewN _ _ _) (congrArg (World.drewN _) (Nat.add_assoc _ _ _))⟩))|(go_at_call 31;(with_reducible refine(when_Http.calls kj12 t191 t193 _ A23.out).mono ?_);rintro e w28 ⟨rfl,hb⟩;have n0_:=Aside0.mk (Kd.R_below (by(with_reducible repeat (first|apply Kd.R_alloc|apply Kd.R_drewN|apply Kd.R_drew));exact HO_4.out) hb);have n1_:=Aside0.mk (below_step (by repeat (first|(with_reducible first|exact HB.out|apply below_alloc|apply pw_below_drewN|apply below_drew1)|exact HB.out)) hb);clear HO_4;clear HB;have HO_4:=n0_;have HB:=n1_;clear n0_ n1_;(try clear hb);(try clear hb2);(try clear hk);(try clear hi))))
                go_ret2
                exact⟨by first|rfl|(simp [errW_none,errW_some] <;> rfl)|(simp [*,errW_none,errW_some] <;> rfl),by repeat (first|(with_reducible first|exact HB.out|apply below_alloc|apply pw_below_drewN|apply below_drew1)|exact HB.out)⟩
              ·replace c22:=Bool.eq_false_iff.mpr c22
               subst c22
               replace H:=itF H
               simp only [Option.some.injEq,Prod.mk.injEq] at H
               obtain⟨rfl,rfl⟩:=H
               obtain⟨Ao29,co29,eo29⟩:=Kd.R_slice HO_4.out
               subst eo29
               have p186:0≤(0:Int):=(by omega)
               have q186:0<(t181.length:Int):=of_decide_eq_true (by first|(with_reducible assumption)|assumption)
               obtain⟨ad186,e186,hx186_0⟩:=Kd.at_int (Kd.R_reads' HO_4.out).2.2 0 p186 q186
               cases e186
               have qi186:(0<t181.length)=True:=eq_true (by omega)
               (try rw [show((0:Int)).toNat=0 from rfl] at hx186_0)
               (try rw [Addr.add_zero'] at hx186_0)
               replace p186:=eq_true p186
               replace q186:=eq_true q186
               have p187:0≤(1:Int):=(by omega)
               have q187:1<(t181.length:Int):=of_decide_eq_true (by first|(with_reducible assumption)|assumption)
               obtain⟨ad187,e187,hx187_0⟩:=Kd.at_int (Kd.R_reads' HO_4.out).2.2 1 p187 q187
               obtain rfl:ad186=ad187:=(by injection e187)
               (try simp only [show(1:Int).toNat=1 from rfl,Nat.reduceMul,Nat.reduceEqDiff,Go.Addr.add,↓reduceIte] at hx187_0)
               have qi187:(1<t181.length)=True:=eq_true (by omega)
               (try rw [show((1:Int)).toNat=1 from rfl] at hx187_0)
               replace p187:=eq_true p187
               replace q187:=eq_true q187
               have p188:0≤(2:Int):=(by omega)
               have q188:2<(t181.length:Int):=of_decide_eq_true (by first|(with_reducible assumption)|assumption)
               obtain⟨ad188,e188,hx188_0⟩:=Kd.at_int (Kd.R_reads' HO_4.out).2.2 2 p188 q188
               obtain rfl:ad186=ad188:=(by injection e188)
               (try simp only [show(2:Int).toNat=2 from rfl,Nat.reduceMul,Nat.reduceEqDiff,Go.Addr.add,↓reduceIte] at hx188_0)
               have qi188:(2<t181.length)=True:=eq_true (by omega)
               (try rw [show((2:Int)).toNat=2 from rfl] at hx188_0)
               replace p188:=eq_true p188
               replace q188:=eq_true q188
               have p189:0≤(3:Int):=(by omega)
               have q189:3<(t181.length:Int):=of_decide_eq_true (by first|(with_reducible assumption)|assumption)
               obtain⟨ad189,e189,hx189_0⟩:=Kd.at_int (Kd.R_reads' HO_4.out).2.2 3 p189 q189
               obtain rfl:ad186=ad189:=(by injection e189)
               (try simp only [show(3:Int).toNat=3 from rfl,Nat.reduceMul,Nat.reduceEqDiff,Go.Addr.add,↓reduceIte] at hx189_0)
               have qi189:(3<t181.length)=True:=eq_true (by omega)
               (try rw [show((3:Int)).toNat=3 from rfl] at hx189_0)
               replace p189:=eq_true p189
               replace q189:=eq_true q189
               have p190:0≤(4:Int):=(by omega)
               have q190:4<(t181.length:Int):=of_decide_eq_true (by first|(with_reducible assumption)|assumption)
               obtain⟨ad190,e190,hx190_0⟩:=Kd.at_int (Kd.R_reads' HO_4.out).2.2 4 p190 q190
               obtain rfl:ad186=ad190:=(by injection e190)
               (try simp only [show(4:Int).toNat=4 from rfl,Nat.reduceMul,Nat.reduceEqDiff,Go.Addr.add,↓reduceIte] at hx190_0)
               have qi190:(4<t181.length)=True:=eq_true (by omega)
               (try rw [show((4:Int)).toNat=4 from rfl] at hx190_0)
               replace p190:=eq_true p190
               replace q190:=eq_true q190
               go_wp2_with (first|(go_at_call 79;(with_reducible refine(when_Of.calls kj12 (rd t181 0) (wrap64 ((wrap64 (Int.tdiv t185 3))+1)) (rd t181 1) (rd t181 2) (rd t181 3) (rd t181 4) t191 false _ A21.out).mono ?_);rintro e w' ⟨rfl,⟨nd,rfl⟩⟩;(try first|exact⟨rfl,_,World.drewN_drewN _ _ _⟩|exact⟨rfl,_,Eq.trans (World.drewN_drewN _ _ _) (congrArg (World.drewN _) (Nat.add_assoc _ _ _))⟩)))
               repeat (go_quiet (first|(go_at_call 79;(with_reducible refine(when_Of.calls kj12 (rd t181 0) (wrap64 ((wrap64 (Int.tdiv t185 3))+1)) (rd t181 1) (rd t181 2) (rd t181 3) (rd t181 4) t191 false _ A21.out).mono ?_);rintro e w' ⟨rfl,⟨nd,rfl⟩⟩;(try first|exact⟨rfl,_,World.drewN_drewN _ _ _⟩|exact⟨rfl,_,Eq.trans (World.drewN_drewN _ _ _) (congrArg (World.drewN _) (Nat.add_assoc _ _ _))⟩)));try go_wp2_with (first|(go_at_call 79;(with_reducible refine(when_Of.calls kj12 (rd t181 0) (wrap64 ((wrap64 (Int.tdiv t185 3))+1)) (rd t181 1) (rd t181 2) (rd t181 3) (rd t181 4) t191 false _ A21.out).mono ?_);rintro e w' ⟨rfl,⟨nd,rfl⟩⟩;(try first|exact⟨rfl,_,World.drewN_drewN _ _ _⟩|exact⟨rfl,_,Eq.trans (World.drewN_drewN _ _ _) (congrArg (World.drewN _) (Nat.add_assoc _ _ _))⟩))))
               go_ret2
               exact⟨by first|rfl|(simp [errW_none,errW_some] <;> rfl)|(simp [*,errW_none,errW_some] <;> rfl),by repeat (first|(with_reducible first|exact HB.out|apply below_alloc|apply pw_below_drewN|apply below_drew1)|exact HB.out)⟩
             ·exact absurd H (by simp)
            ·exact absurd H (by simp)
           ·exact absurd H (by simp)
          ·exact absurd H (by simp)
         ·exact absurd H (by simp)
     ·exact absurd H (by simp)
    ·exact absurd H (by simp)
mutual
def reply_reader_begin.j0:Nat→ByteArray→Bool→ByteArray→Int→Option (Int×Bool×ByteArray×Int)
 | 0,_,_,_,_=>none
 | k+1,x4,x35,x1000,x1001=>if x35=true then(some (0,false,x1000,x1001)) else(if 9≤12 then(if 12≤(x4.size:Int) then((enc_Int.f k (x4.extract 9 12)).bind fun bt198=>(if bt198.2=true then((reply_Phrase.f bt198.1).bind fun t200=>(if 1+t200.size≤9223372036854775807 then(reply_reader_begin.j1 k bt198.1 ((x4.extract 12 x4.size).toList != ((⟨#[32]⟩ : ByteArray)++t200).toList) x1000 x1001) else(none))) else(reply_reader_begin.j1 k bt198.1 true x1000 x1001))) else(none)) else(none))
def reply_reader_begin.j1:Nat→Int→Bool→ByteArray→Int→Option (Int×Bool×ByteArray×Int)
 | 0,_,_,_,_=>none
 | k+1,x6,x51,x1000,x1001=>if x51=true then(some (0,false,x1000,x1001)) else((reply_reader_value.f k x1000 x1001 (⟨#[83,101,114,118,101,114,58,32]⟩ : ByteArray)).bind fun bt201=>((reply_reader_value.f k bt201.2.2.1 bt201.2.2.2 (⟨#[68,97,116,101,58,32]⟩ : ByteArray)).bind fun bt205=>((reply_reader_value.f k bt205.2.2.1 bt205.2.2.2 (⟨#[120,45,97,109,122,45,114,101,113,117,101,115,116,45,105,100,58,32]⟩ : ByteArray)).bind fun bt209=>((when_ParseHttp.f k bt205.1).bind fun bt213=>(if bt201.2.1=true then(if bt205.2.1=true then(if bt209.2.1=true then(if bt213.2=true then(some (x6,(bt201.1.toList == ([115,116,111,119,97,103,101]:List UInt8)),bt209.2.2.1,bt209.2.2.2)) else(some (x6,false,bt209.2.2.1,bt209.2.2.2))) else(some (x6,false,bt209.2.2.1,bt209.2.2.2))) else(some (x6,false,bt209.2.2.1,bt209.2.2.2))) else(some (x6,false,bt209.2.2.1,bt209.2.2.2)))))))
end
def reply_reader_begin.f (k:Nat) (s0_0:ByteArray) (s0_1:Int):Option (Int×Bool×ByteArray×Int):=(reply_reader_line.f s0_0 s0_1).bind fun bt194=>(if bt194.2.1=true then(if(bt194.1.size:Int)<12 then(reply_reader_begin.j0 k bt194.1 true bt194.2.2.1 bt194.2.2.2) else(if 0≤9 then(if 9≤(bt194.1.size:Int) then(if(bt194.1.extract 0 9).toList=([72,84,84,80,47,49,46,49,32]:List UInt8) then(if 9<(bt194.1.size:Int) then(reply_reader_begin.j0 k bt194.1 ((bt bt194.1 9) == 48) bt194.2.2.1 bt194.2.2.2) else(none)) else(reply_reader_begin.j0 k bt194.1 true bt194.2.2.1 bt194.2.2.2)) else(none)) else(none))) else(reply_reader_begin.j0 k bt194.1 true bt194.2.2.1 bt194.2.2.2))
theorem reply_reader_begin.mono_l:∀ k,(∀ y0 y1 y2 y3,LeO (reply_reader_begin.j0 k y0 y1 y2 y3) (reply_reader_begin.j0 (k+1) y0 y1 y2 y3))∧(∀ y0 y1 y2 y3,LeO (reply_reader_begin.j1 k y0 y1 y2 y3) (reply_reader_begin.j1 (k+1) y0 y1 y2 y3))
 | 0=>⟨fun _ _ _ _ r h=>by simp [reply_reader_begin.j0] at h,fun _ _ _ _ r h=>by simp [reply_reader_begin.j1] at h⟩
 | k+1=>by
  obtain⟨ih0,ih1⟩:=reply_reader_begin.mono_l k
  refine⟨?_,?_⟩
  ·intro y0 y1 y2 y3
   unfold reply_reader_begin.j0
   repeat' first
   | (with_reducible exact ih0 _ _ _ _)
   | (with_reducible exact ih1 _ _ _ _)
   | (with_reducible exact enc_Int.mono _ _)
   | (with_reducible exact reply_reader_value.mono _ _ _ _)
   | (with_reducible exact when_ParseHttp.mono _ _)
   | (with_reducible exact LeO.refl _)
   | (with_reducible exact LeO.none _)
   | (with_reducible refine LeO.ite ?_ ?_)
   | (with_reducible refine LeO.bind ?_ (fun _=>?_))
   | exact ih0 _ _ _ _
   | exact ih1 _ _ _ _
   | exact enc_Int.mono _ _
   | exact reply_reader_value.mono _ _ _ _
   | exact when_ParseHttp.mono _ _
   | exact LeO.none _
   | refine LeO.ite ?_ ?_
   | refine LeO.bind ?_ (fun _=>?_)
  ·intro y0 y1 y2 y3
   unfold reply_reader_begin.j1
   repeat' first
   | (with_reducible exact ih0 _ _ _ _)
   | (with_reducible exact ih1 _ _ _ _)
   | (with_reducible exact enc_Int.mono _ _)
   | (with_reducible exact reply_reader_value.mono _ _ _ _)
   | (with_reducible exact when_ParseHttp.mono _ _)
   | (with_reducible exact LeO.refl _)
   | (with_reducible exact LeO.none _)
   | (with_reducible refine LeO.ite ?_ ?_)
   | (with_reducible refine LeO.bind ?_ (fun _=>?_))
   | exact ih0 _ _ _ _
   | exact ih1 _ _ _ _
   | exact enc_Int.mono _ _
   | exact reply_reader_value.mono _ _ _ _
   | exact when_ParseHttp.mono _ _
   | exact LeO.none _
   | refine LeO.ite ?_ ?_
   | refine LeO.bind ?_ (fun _=>?_)
theorem reply_reader_begin.mono:∀ a0 a1 k,LeO (reply_reader_begin.f k a0 a1) (reply_reader_begin.f (k+1) a0 a1):=by
 intro a0 a1 k
 obtain⟨ih0,ih1⟩:=reply_reader_begin.mono_l k
 unfold reply_reader_begin.f
 repeat' first
   | (with_reducible exact ih0 _ _ _ _)
   | (with_reducible exact ih1 _ _ _ _)
   | (with_reducible exact enc_Int.mono _ _)
   | (with_reducible exact reply_reader_value.mono _ _ _ _)
   | (with_reducible exact when_ParseHttp.mono _ _)
   | (with_reducible exact LeO.refl _)
   | (with_reducible exact LeO.none _)
   | (with_reducible refine LeO.ite ?_ ?_)
   | (with_reducible refine LeO.bind ?_ (fun _=>?_))
   | exact ih0 _ _ _ _
   | exact ih1 _ _ _ _
   | exact enc_Int.mono _ _
   | exact reply_reader_value.mono _ _ _ _
   | exact when_ParseHttp.mono _ _
   | exact LeO.none _
   | refine LeO.ite ?_ ?_
   | refine LeO.bind ?_ (fun _=>?_)
theorem reply_reader_begin.calls (k:Nat) (g:Nat) (s0_0:ByteArray) (s0_1:Int) (r1:Int) (r2:Bool) (r3:ByteArray) (r4:Int) (w0 w:World) (hI:IsS73 w0 w g s0_0 s0_1) (hB:Below w0.heap.size w0 w) (hG:GOk w0) (h:reply_reader_begin.f k s0_0 s0_1=some (r1,r2,r3,r4)) :
  Calls Tryd.prog 33 #[.pointer (some ⟨g,0,none⟩)] w fun e w'=>e = .returned (.tuple #[.int .i64 r1,.bool r2])∧IsS73 w0 w' g r3 r4∧Below w0.heap.size w0 w'∧KeepBut w w' g none:=by
 have HI0:=Aside0.mk hI
 have HK:=Aside0.mk (KeepBut.refl w g none)
 have HL:=Aside0.mk hB.size
 clear hI
 have HW0:=Aside0.mk hB.size
 have HB:=Aside0.mk hB
 clear hB
 unfold reply_reader_begin.f at h
 have H:=h
 clear h
 replace H:=bndO H
 obtain⟨⟨t194,t195,t196,t197⟩,A20,H⟩:=H
 dsimp only at H
 have A2:=Aside0.mk A20
 clear A20
 have HC3:=Aside0.mk H
 clear H
 go_enter Tryd.func33,Tryd.ntmps33
 go_upto_region 2 with(first|(go_at_call 50;(with_reducible refine(reply_reader_line.calls g s0_0 s0_1 t194 t195 t196 t197 w0 _ ?side1 ?side2 (by first|exact hG|exact gok_below hG (by repeat (first|(with_reducible first|exact HB.out|apply below_alloc|apply pw_below_drewN|apply below_drew1|refine below_set ?_ (IsS73.ge HI0.out))|exact HB.out))|exact gok_heap hG rfl|exact gok_drewN hG _|exact gok_below hG (by repeat (first|exact HB.out|exact HBW.out|exact Below.refl _ _|apply below_alloc|apply pw_below_drewN|apply below_drew1))) A2.out).mono ?_);(case side1=>repeat (first|(with_reducible first|exact HI0.out|apply IsS73.alloc|apply IsS73.drewN|apply IsS73.drew|apply IsS73.set_0|apply IsS73.set_1)|exact HI0.out));(case side2=>repeat (first|(with_reducible first|exact HB.out|apply below_alloc|apply pw_below_drewN|apply below_drew1|refine below_set ?_ (IsS73.ge HI0.out))|exact HB.out));rintro e w4 ⟨rfl,hi,hb,hk⟩;have n0_:=Aside0.mk (KeepBut.trans kk hk (.inl rfl));have n1_:=Aside0.mk (hb);have n2_:=Aside0.mk (hi);clear HK;clear HB;clear HI0;have HK:=n0_;have HB:=n1_;have HI0:=n2_;clear n0_ n1_ n2_;(try clear hb);(try clear hb2);(try clear hk);(try clear hi)))
 repeat (go_quiet (first|(go_at_call 50;(with_reducible refine(reply_reader_line.calls g s0_0 s0_1 t194 t195 t196 t197 w0 _ ?side1 ?side2 (by first|exact hG|exact gok_below hG (by repeat (first|(with_reducible first|exact HB.out|apply below_alloc|apply pw_below_drewN|apply below_drew1|refine below_set ?_ (IsS73.ge HI0.out))|exact HB.out))|exact gok_heap hG rfl|exact gok_drewN hG _|exact gok_below hG (by repeat (first|exact HB.out|exact HBW.out|exact Below.refl _ _|apply below_alloc|apply pw_below_drewN|apply below_drew1))) A2.out).mono ?_);(case side1=>repeat (first|(with_reducible first|exact HI0.out|apply IsS73.alloc|apply IsS73.drewN|apply IsS73.drew|apply IsS73.set_0|apply IsS73.set_1)|exact HI0.out));(case side2=>repeat (first|(with_reducible first|exact HB.out|apply below_alloc|apply pw_below_drewN|apply below_drew1|refine below_set ?_ (IsS73.ge HI0.out))|exact HB.out));rintro e w4 ⟨rfl,hi,hb,hk⟩;have n0_:=Aside0.mk (KeepBut.trans kk hk (.inl rfl));have n1_:=Aside0.mk (hb);have n2_:=Aside0.mk (hi);clear HK;clear HB;clear HI0;have HK:=n0_;have HB:=n1_;have HI0:=n2_;clear n0_ n1_ n2_;(try clear hb);(try clear hb2);(try clear hk);(try clear hi)));go_upto_region 2 with(first|(go_at_call 50;(with_reducible refine(reply_reader_line.calls g s0_0 s0_1 t194 t195 t196 t197 w0 _ ?side1 ?side2 (by first|exact hG|exact gok_below hG (by repeat (first|(with_reducible first|exact HB.out|apply below_alloc|apply pw_below_drewN|apply below_drew1|refine below_set ?_ (IsS73.ge HI0.out))|exact HB.out))|exact gok_heap hG rfl|exact gok_drewN hG _|exact gok_below hG (by repeat (first|exact HB.out|exact HBW.out|exact Below.refl _ _|apply below_alloc|apply pw_below_drewN|apply below_drew1))) A2.out).mono ?_);(case side1=>repeat (first|(with_reducible first|exact HI0.out|apply IsS73.alloc|apply IsS73.drewN|apply IsS73.drew|apply IsS73.set_0|apply IsS73.set_1)|exact HI0.out));(case side2=>repeat (first|(with_reducible first|exact HB.out|apply below_alloc|apply pw_below_drewN|apply below_drew1|refine below_set ?_ (IsS73.ge HI0.out))|exact HB.out));rintro e w4 ⟨rfl,hi,hb,hk⟩;have n0_:=Aside0.mk (KeepBut.trans kk hk (.inl rfl));have n1_:=Aside0.mk (hb);have n2_:=Aside0.mk (hi);clear HK;clear HB;clear HI0;have HK:=n0_;have HB:=n1_;have HI0:=n2_;clear n0_ n1_ n2_;(try clear hb);(try clear hb2);(try clear hk);(try clear hi))))
 (try simp only [Act.put,List.setIfInBounds_toArray,List.set_cons_zero,List.set_cons_succ])
 go_cut [35] (fun v35 wc=>∃ (kq:Nat) (x35_2:Bool),v35 = .bool x35_2∧Aside0 (reply_reader_begin.j0 kq t194 x35_2 t196 t197=some (r1,r2,r3,r4))∧Aside0 (kq≤k)∧Aside0 (IsS73 w0 wc g t196 t197)∧Aside0 (KeepBut w wc g none)∧Aside0 (Below w0.heap.size w0 wc))
 case first=>
  have H:=HC3.out
  clear HC3
  by_cases c5:t195=true
  ·subst c5
   replace H:=itT H
   replace H:=itO H
   rcases H with⟨c6,H⟩|⟨c6,H⟩
   ·skip
    have c6b0:decide ((t194.size:Int)<12)=true:=decide_eq_true c6
    have c6b1:decide (t194.size<12)=true:=decide_eq_true (by omega)
    clear c6
    (first|rw [c6b0]|(simp only [i64_w,i32_w];rw [c6b0])|skip)
    have H':=Aside0.mk H
    clear H
    go_wp2
    repeat (go_quiet (fail);try go_wp2)
    go_meet
    case rel=>exact⟨_,(true),(by first|rfl|(simp;done)|(simp [*];done)),H',⟨by first|omega|exact Nat.le_refl _⟩,⟨by repeat (first|(with_reducible first|exact HI0.out|apply IsS73.alloc|apply IsS73.drewN|apply IsS73.drew|apply IsS73.set_0|apply IsS73.set_1)|exact HI0.out)⟩,⟨kk⟩,⟨by repeat (first|(with_reducible first|exact HB.out|apply below_alloc|apply pw_below_drewN|apply below_drew1|refine below_set ?_ (IsS73.ge HI0.out))|exact HB.out)⟩⟩
   ·skip
    have c6b0:decide ((t194.size:Int)<12)=false:=decide_eq_false c6
    have c6b1:decide (t194.size<12)=false:=decide_eq_false (by omega)
    clear c6
    (first|rw [c6b0]|(simp only [i64_w,i32_w];rw [c6b0])|skip)
    replace H:=itO H
    rcases H with⟨c7,H⟩|⟨c7,H⟩
    ·skip
     have c7b0:=eq_true c7
     have c7b1:=decide_eq_true c7
     clear c7
     replace H:=itO H
     rcases H with⟨c8,H⟩|⟨c8,H⟩
     ·skip
      have c8b0:=eq_true c8
      have c8b1:=decide_eq_true c8
      clear c8
      replace H:=itO H
      rcases H with⟨c9,H⟩|⟨c9,H⟩
      ·skip
       have c9b0:((t194.extract 0 9).toList == ([72,84,84,80,47,49,46,49,32]:List UInt8))=true:=beq_iff_eq.mpr c9
       have c9b1:((t194.extract 0 9).toList != ([72,84,84,80,47,49,46,49,32]:List UInt8))=false:=bne_eq_false_iff_eq.mpr c9
       clear c9
       replace H:=itO H
       rcases H with⟨c10,H⟩|⟨c10,H⟩
       ·skip
        have c10b0:decide (9<(t194.size:Int))=true:=decide_eq_true c10
        have c10b1:decide (9<t194.size)=true:=decide_eq_true (by omega)
        clear c10
        have H':=Aside0.mk H
        clear H
        have p11:0≤(9:Int):=(by omega)
        have q11:9<t194.size:=(by have:(9:Int)<(t194.size:Int):=of_decide_eq_true (by first|(with_reducible assumption)|assumption);omega)
        have hx11:∀ h:9<t194.size,((t194[9]'h).toNat:Int)=bt t194 9:=bt_at t194 9
        clear p11
        have qi11:(9<(t194.size:Int))=True:=eq_true (of_decide_eq_true (by first|(with_reducible assumption)|assumption))
        replace q11:=eq_true q11
        go_wp2
        repeat (go_quiet (fail);try go_wp2)
        go_meet
        case rel=>exact⟨_,(((bt t194 9) == 48)),(by first|rfl|(simp;done)|(simp [*];done)),H',⟨by first|omega|exact Nat.le_refl _⟩,⟨by repeat (first|(with_reducible first|exact HI0.out|apply IsS73.alloc|apply IsS73.drewN|apply IsS73.drew|apply IsS73.set_0|apply IsS73.set_1)|exact HI0.out)⟩,⟨kk⟩,⟨by repeat (first|(with_reducible first|exact HB.out|apply below_alloc|apply pw_below_drewN|apply below_drew1|refine below_set ?_ (IsS73.ge HI0.out))|exact HB.out)⟩⟩
       ·exact absurd H (by simp)
      ·skip
       have c9b0:((t194.extract 0 9).toList == ([72,84,84,80,47,49,46,49,32]:List UInt8))=false:=beq_eq_false_iff_ne.mpr c9
       have c9b1:((t194.extract 0 9).toList != ([72,84,84,80,47,49,46,49,32]:List UInt8))=true:=bne_iff_ne.mpr c9
       have H':=Aside0.mk H
       clear H
       go_wp2
       repeat (go_quiet (fail);try go_wp2)
       go_meet
       case rel=>exact⟨_,(true),(by first|rfl|(simp;done)|(simp [*];done)),H',⟨by first|omega|exact Nat.le_refl _⟩,⟨by repeat (first|(with_reducible first|exact HI0.out|apply IsS73.alloc|apply IsS73.drewN|apply IsS73.drew|apply IsS73.set_0|apply IsS73.set_1)|exact HI0.out)⟩,⟨kk⟩,⟨by repeat (first|(with_reducible first|exact HB.out|apply below_alloc|apply pw_below_drewN|apply below_drew1|refine below_set ?_ (IsS73.ge HI0.out))|exact HB.out)⟩⟩
     ·exact absurd H (by simp)
    ·exact absurd H (by simp)
  ·replace c5:=Bool.eq_false_iff.mpr c5
   subst c5
   replace H:=itF H
   have H':=Aside0.mk H
   clear H
   go_wp2
   repeat (go_quiet (fail);try go_wp2)
   go_meet
   case rel=>exact⟨_,(true),(by first|rfl|(simp;done)|(simp [*];done)),H',⟨by first|omega|exact Nat.le_refl _⟩,⟨by repeat (first|(with_reducible first|exact HI0.out|apply IsS73.alloc|apply IsS73.drewN|apply IsS73.drew|apply IsS73.set_0|apply IsS73.set_1)|exact HI0.out)⟩,⟨kk⟩,⟨by repeat (first|(with_reducible first|exact HB.out|apply below_alloc|apply pw_below_drewN|apply below_drew1|refine below_set ?_ (IsS73.ge HI0.out))|exact HB.out)⟩⟩
 case rest=>
  clear HC3
  try clear c1
  try clear p1
  try clear q1
  try clear hx1
  try clear qi1
  try clear p2
  try clear c3
  try clear c5
  try clear c6
  try clear c6b0
  try clear c6b1
  try clear c7
  try clear c7b0
  try clear c7b1
  try clear c8
  try clear c8b0
  try clear c8b1
  try clear c9
  try clear c9b0
  try clear c9b1
  try clear c10
  try clear c10b0
  try clear c10b1
  try clear p11
  try clear q11
  try clear hx11
  try clear qi11
  try clear p11
  try clear q11
  obtain⟨kq,x35_2,rfl,HA,HJ2,HI0,HK,HB⟩:=hcut
  cases kq with
  | zero=>exact absurd HA.out (by simp [reply_reader_begin.j0])
  | succ kj2=>
   have H:=HA.out
   clear HA
   simp only [reply_reader_begin.j0] at H
   by_cases c12:x35_2=true
   ·subst c12
    replace H:=itT H
    simp only [Option.some.injEq,Prod.mk.injEq] at H
    obtain⟨rfl,rfl,rfl,rfl⟩:=H
    go_wp2
    repeat (go_quiet (fail);try go_wp2)
    go_ret2
    exact⟨by first|rfl|(simp [errW_none,errW_some] <;> rfl)|(simp [*,errW_none,errW_some] <;> rfl),by repeat (first|(with_reducible first|exact HI0.out|apply IsS73.alloc|apply IsS73.drewN|apply IsS73.drew|apply IsS73.set_0|apply IsS73.set_1)|exact HI0.out),by repeat (first|(with_reducible first|exact HB.out|apply below_alloc|apply pw_below_drewN|apply below_drew1|refine below_set ?_ (IsS73.ge HI0.out))|exact HB.out),kk⟩
   ·replace c12:=Bool.eq_false_iff.mpr c12
    subst c12
    replace H:=itF H
    replace H:=itO H
    rcases H with⟨c13,H⟩|⟨c13,H⟩
    ·skip
     have c13b0:=eq_true c13
     have c13b1:=decide_eq_true c13
     clear c13
     replace H:=itO H
     rcases H with⟨c14,H⟩|⟨c14,H⟩
     ·skip
      have c14b0:=eq_true c14
      have c14b1:=decide_eq_true c14
      clear c14
      replace H:=bndO H
      obtain⟨⟨t198,t199⟩,A150,H⟩:=H
      dsimp only at H
      have A15:=Aside0.mk A150
      clear A150
      have HC16:=Aside0.mk H
      clear H
      go_upto_region 5 with(first|(go_at_call 51;(with_reducible refine(enc_Int.calls kj2 (t194.extract 9 12) t198 t199 _ A15.out).mono ?_);rintro e w' ⟨rfl,⟨nd,rfl⟩⟩;(try first|exact⟨rfl,_,World.drewN_drewN _ _ _⟩|exact⟨rfl,_,Eq.trans (World.drewN_drewN _ _ _) (congrArg (World.drewN _) (Nat.add_assoc _ _ _))⟩)))
      repeat (go_quiet (first|(go_at_call 51;(with_reducible refine(enc_Int.calls kj2 (t194.extract 9 12) t198 t199 _ A15.out).mono ?_);rintro e w' ⟨rfl,⟨nd,rfl⟩⟩;(try first|exact⟨rfl,_,World.drewN_drewN _ _ _⟩|exact⟨rfl,_,Eq.trans (World.drewN_drewN _ _ _) (congrArg (World.drewN _) (Nat.add_assoc _ _ _))⟩)));go_upto_region 5 with(first|(go_at_call 51;(with_reducible refine(enc_Int.calls kj2 (t194.extract 9 12) t198 t199 _ A15.out).mono ?_);rintro e w' ⟨rfl,⟨nd,rfl⟩⟩;(try first|exact⟨rfl,_,World.drewN_drewN _ _ _⟩|exact⟨rfl,_,Eq.trans (World.drewN_drewN _ _ _) (congrArg (World.drewN _) (Nat.add_assoc _ _ _))⟩))))
      (try simp only [Act.put,List.setIfInBounds_toArray,List.set_cons_zero,List.set_cons_succ])
      go_cut [51] (fun v51 wc=>∃ (kq:Nat) (x51_15:Bool),v51 = .bool x51_15∧Aside0 (reply_reader_begin.j1 kq t198 x51_15 t196 t197=some (r1,r2,r3,r4))∧Aside0 (kq≤kj2)∧Aside0 (IsS73 w0 wc g t196 t197)∧Aside0 (KeepBut w wc g none)∧Aside0 (Below w0.heap.size w0 wc))
      case first=>
       have H:=HC16.out
       clear HC16
       by_cases c17:t199=true
       ·subst c17
        replace H:=itT H
        have c18b0:=eq_true (of_decide_eq_true (by first|(with_reducible assumption)|assumption):12≤(t194.size:Int))
        replace H:=bndO H
        obtain⟨t200,A190,H⟩:=H
        have A19:=Aside0.mk A190
        clear A190
        replace H:=itO H
        rcases H with⟨c20,H⟩|⟨c20,H⟩
        ·skip
         have c20b0:=eq_true c20
         have c20b1:=decide_eq_true c20
         try have c20b2:=eq_false (Nat.not_lt.2 c20)
         try (have c20n:1+t200.size≤9223372036854775807:=by have h_:=c20;simp only [ByteArray.size_append,ByteArray.size_extract] at h_;exact h_)
         try have c20f:(9223372036854775807<1+t200.size)=False:=eq_false (by first|omega|(simp only [eq_iff_iff,iff_true] at *;omega))
         have H':=Aside0.mk H
         clear H
         go_wp2_with (first|(go_at_call 13;(with_reducible refine(reply_Phrase.calls t198 t200 _ A19.out).mono ?_);rintro e w' ⟨rfl,⟨nd,rfl⟩⟩;(try first|exact⟨rfl,_,World.drewN_drewN _ _ _⟩|exact⟨rfl,_,Eq.trans (World.drewN_drewN _ _ _) (congrArg (World.drewN _) (Nat.add_assoc _ _ _))⟩)))
         repeat (go_quiet (first|(go_at_call 13;(with_reducible refine(reply_Phrase.calls t198 t200 _ A19.out).mono ?_);rintro e w' ⟨rfl,⟨nd,rfl⟩⟩;(try first|exact⟨rfl,_,World.drewN_drewN _ _ _⟩|exact⟨rfl,_,Eq.trans (World.drewN_drewN _ _ _) (congrArg (World.drewN _) (Nat.add_assoc _ _ _))⟩)));try go_wp2_with (first|(go_at_call 13;(with_reducible refine(reply_Phrase.calls t198 t200 _ A19.out).mono ?_);rintro e w' ⟨rfl,⟨nd,rfl⟩⟩;(try first|exact⟨rfl,_,World.drewN_drewN _ _ _⟩|exact⟨rfl,_,Eq.trans (World.drewN_drewN _ _ _) (congrArg (World.drewN _) (Nat.add_assoc _ _ _))⟩))))
         go_meet
         case rel=>exact⟨_,(((t194.extract 12 t194.size).toList != ((⟨#[32]⟩ : ByteArray)++t200).toList)),(by first|rfl|(simp;done)|(simp [*];done)),H',⟨by have:=HJ2.out;first|omega|exact Nat.le_refl _⟩,⟨by repeat (first|(with_reducible first|exact HI0.out|apply IsS73.alloc|apply IsS73.drewN|apply IsS73.drew|apply IsS73.set_0|apply IsS73.set_1)|exact HI0.out)⟩,⟨kk⟩,⟨by repeat (first|(with_reducible first|exact HB.out|apply below_alloc|apply pw_below_drewN|apply below_drew1|refine below_set ?_ (IsS73.ge HI0.out))|exact HB.out)⟩⟩
        ·exact absurd H (by simp)
       ·replace c17:=Bool.eq_false_iff.mpr c17
        subst c17
        replace H:=itF H
        have H':=Aside0.mk H
        clear H
        go_wp2
        repeat (go_quiet (fail);try go_wp2)
        go_meet
        case rel=>exact⟨_,(true),(by first|rfl|(simp;done)|(simp [*];done)),H',⟨by have:=HJ2.out;first|omega|exact Nat.le_refl _⟩,⟨by repeat (first|(with_reducible first|exact HI0.out|apply IsS73.alloc|apply IsS73.drewN|apply IsS73.drew|apply IsS73.set_0|apply IsS73.set_1)|exact HI0.out)⟩,⟨kk⟩,⟨by repeat (first|(with_reducible first|exact HB.out|apply below_alloc|apply pw_below_drewN|apply below_drew1|refine below_set ?_ (IsS73.ge HI0.out))|exact HB.out)⟩⟩
      case rest=>
       clear HC16
       try clear c1
       try clear p1
       try clear q1
       try clear hx1
       try clear qi1
       try clear c2
       try clear p2
       try clear c3
       try clear c5
       try clear c6
       try clear c6b0
       try clear c6b1
       try clear c7
       try clear c7b0
       try clear c7b1
       try clear c8
       try clear c8b0
       try clear c8b1
       try clear c9
       try clear c9b0
       try clear c9b1
       try clear c10
       try clear c10b0
       try clear c10b1
       try clear p11
       try clear q11
       try clear hx11
       try clear qi11
       try clear c12
       try clear c13
       try clear c13b0
       try clear c13b1
       try clear c14
       try clear c14b0
       try clear c14b1
       try clear c17
       try clear c18
       try clear c18b0
       try clear c20
       try clear c20b0
       try clear c20b1
       try clear c20b2
       try clear p1
       try clear p11
       try clear p2
       try clear q1
       try clear q11
       obtain⟨kq,x51_15,rfl,HA,HJ15,HI0,HK,HB⟩:=hcut
       cases kq with
       | zero=>exact absurd HA.out (by simp [reply_reader_begin.j1])
       | succ kj15=>
        have H:=HA.out
        clear HA
        simp only [reply_reader_begin.j1] at H
        by_cases c21:x51_15=true
        ·subst c21
         replace H:=itT H
         simp only [Option.some.injEq,Prod.mk.injEq] at H
         obtain⟨rfl,rfl,rfl,rfl⟩:=H
         go_wp2
         repeat (go_quiet (fail);try go_wp2)
         go_ret2
         exact⟨by first|rfl|(simp [errW_none,errW_some] <;> rfl)|(simp [*,errW_none,errW_some] <;> rfl),by repeat (first|(with_reducible first|exact HI0.out|apply IsS73.alloc|apply IsS73.drewN|apply IsS73.drew|apply IsS73.set_0|apply IsS73.set_1)|exact HI0.out),by repeat (first|(with_reducible first|exact HB.out|apply below_alloc|apply pw_below_drewN|apply below_drew1|refine below_set ?_ (IsS73.ge HI0.out))|exact HB.out),kk⟩
        ·replace c21:=Bool.eq_false_iff.mpr c21
         subst c21
         replace H:=itF H
         replace H:=bndO H
         obtain⟨⟨t201,t202,t203,t204⟩,A220,H⟩:=H
         dsimp only at H
         have A22:=Aside0.mk A220
         clear A220
         replace H:=bndO H
         obtain⟨⟨t205,t206,t207,t208⟩,A230,H⟩:=H
         dsimp only at H
         have A23:=Aside0.mk A230
         clear A230
         replace H:=bndO H
         obtain⟨⟨t209,t210,t211,t212⟩,A240,H⟩:=H
         dsimp only at H
         have A24:=Aside0.mk A240
         clear A240
         replace H:=bndO H
         obtain⟨⟨t213,t214⟩,A250,H⟩:=H
         dsimp only at H
         have A25:=Aside0.mk A250
         clear A250
         by_cases c26:t202=true
         ·subst c26
          replace H:=itT H
          by_cases c27:t206=true
          ·subst c27
           replace H:=itT H
           by_cases c28:t210=true
           ·subst c28
            replace H:=itT H
            by_cases c29:t214=true
            ·subst c29
             replace H:=itT H
             simp only [Option.some.injEq,Prod.mk.injEq] at H
             obtain⟨rfl,rfl,rfl,rfl⟩:=H
             go_wp2_with (first|(go_at_call 52;(with_reducible refine(reply_reader_value.calls kj15 g t196 t197 (⟨#[83,101,114,118,101,114,58,32]⟩ : ByteArray) t201 true t203 t204 w0 _ ?side1 ?side2 (by first|exact hG|exact gok_below hG (by repeat (first|(with_reducible first|exact HB.out|apply below_alloc|apply pw_below_drewN|apply below_drew1|refine below_set ?_ (IsS73.ge HI0.out))|exact HB.out))|exact gok_heap hG rfl|exact gok_drewN hG _|exact gok_below hG (by repeat (first|exact HB.out|exact HBW.out|exact Below.refl _ _|apply below_alloc|apply pw_below_drewN|apply below_drew1))) A22.out).mono ?_);(case side1=>repeat (first|(with_reducible first|exact HI0.out|apply IsS73.alloc|apply IsS73.drewN|apply IsS73.drew|apply IsS73.set_0|apply IsS73.set_1)|exact HI0.out));(case side2=>repeat (first|(with_reducible first|exact HB.out|apply below_alloc|apply pw_below_drewN|apply below_drew1|refine below_set ?_ (IsS73.ge HI0.out))|exact HB.out));rintro e w30 ⟨rfl,hi,hb,hk⟩;have n0_:=Aside0.mk (KeepBut.trans kk hk (.inl rfl));have n1_:=Aside0.mk (hb);have n2_:=Aside0.mk (hi);clear HK;clear HB;clear HI0;have HK:=n0_;have HB:=n1_;have HI0:=n2_;clear n0_ n1_ n2_;(try clear hb);(try clear hb2);(try clear hk);(try clear hi))|(go_at_call 52;(with_reducible refine(reply_reader_value.calls kj15 g t203 t204 (⟨#[68,97,116,101,58,32]⟩ : ByteArray) t205 true t207 t208 w0 _ ?side1 ?side2 (by first|exact hG|exact gok_below hG (by repeat (first|(with_reducible first|exact HB.out|apply below_alloc|apply pw_below_drewN|apply below_drew1|refine below_set ?_ (IsS73.ge HI0.out))|exact HB.out))|exact gok_heap hG rfl|exact gok_drewN hG _|exact gok_below hG (by repeat (first|exact HB.out|exact HBW.out|exact Below.refl _ _|apply below_alloc|apply pw_below_drewN|apply below_drew1))) A23.out).mono ?_);(case side1=>repeat (first|(with_reducible first|exact HI0.out|apply IsS73.alloc|apply IsS73.drewN|apply IsS73.drew|apply IsS73.set_0|apply IsS73.set_1)|exact HI0.out));(case side2=>repeat (first|(with_reducible first|exact HB.out|apply below_alloc|apply pw_below_drewN|apply below_drew1|refine below_set ?_ (IsS73.ge HI0.out))|exact HB.out));rintro e w31 ⟨rfl,hi,hb,hk⟩;have n0_:=Aside0.mk (KeepBut.trans kk hk (.inl rfl));have n1_:=Aside0.mk (hb);have n2_:=Aside0.mk (hi);clear HK;clear HB;clear HI0;have HK:=n0_;have HB:=n1_;have HI0:=n2_;clear n0_ n1_ n2_;(try clear hb);(try clear hb2);(try clear hk);(try clear hi))|(go_at_call 52;(with_reducible refine(reply_reader_value.calls kj15 g t207 t208 (⟨#[120,45,97,109,122,45,114,101,113,117,101,115,116,45,105,100,58,32]⟩ : ByteArray) t209 true t211 t212 w0 _ ?side1 ?side2 (by first|exact hG|exact gok_below hG (by repeat (first|(with_reducible first|exact HB.out|apply below_alloc|apply pw_below_drewN|apply below_drew1|refine below_set ?_ (IsS73.ge HI0.out))|exact HB.out))|exact gok_heap hG rfl|exact gok_drewN hG _|exact gok_below hG (by repeat (first|exact HB.out|exact HBW.out|exact Below.refl _ _|apply below_alloc|apply pw_below_drewN|apply below_drew1))) A24.out).mono ?_);(case side1=>repeat (first|(with_reducible first|exact HI0.out|apply IsS73.alloc|apply IsS73.drewN|apply IsS73.drew|apply IsS73.set_0|apply IsS73.set_1)|exact HI0.out));(case side2=>repeat (first|(with_reducible first|exact HB.out|apply below_alloc|apply pw_below_drewN|apply below_drew1|refine below_set ?_ (IsS73.ge HI0.out))|exact HB.out));rintro e w32 ⟨rfl,hi,hb,hk⟩;have n0_:=Aside0.mk (KeepBut.trans kk hk (.inl rfl));have n1_:=Aside0.mk (hb);have n2_:=Aside0.mk (hi);clear HK;clear HB;clear HI0;have HK:=n0_;have HB:=n1_;have HI0:=n2_;clear n0_ n1_ n2_;(try clear hb);(try clear hb2);(try clear hk);(try clear hi))|(go_at_call 53;(with_reducible refine(when_ParseHttp.calls kj15 t205 t213 true _ (by first|exact hG|exact gok_below hG (by repeat (first|(with_reducible first|exact HB.out|apply below_alloc|apply pw_below_drewN|apply below_drew1|refine below_set ?_ (IsS73.ge HI0.out))|exact HB.out))|exact gok_heap hG rfl|exact gok_drewN hG _|exact gok_below hG (by repeat (first|exact HB.out|exact HBW.out|exact Below.refl _ _|apply below_alloc|apply pw_below_drewN|apply below_drew1))) A25.out).mono ?_);rintro e w33 ⟨rfl,hb⟩;have n0_:=Aside0.mk (IsS73.below (by repeat (first|(with_reducible first|exact HI0.out|apply IsS73.alloc|apply IsS73.drewN|apply IsS73.drew|apply IsS73.set_0|apply IsS73.set_1)|exact HI0.out)) hb);have n1_:=Aside0.mk (KeepBut.trans kk (KeepBut.of_below hb g none) (.inl rfl));have n2_:=Aside0.mk (below_step (by repeat (first|(with_reducible first|exact HB.out|apply below_alloc|apply pw_below_drewN|apply below_drew1|refine below_set ?_ (IsS73.ge HI0.out))|exact HB.out)) hb);clear HI0;clear HK;clear HB;have HI0:=n0_;have HK:=n1_;have HB:=n2_;clear n0_ n1_ n2_;(try clear hb);(try clear hb2);(try clear hk);(try clear hi)))
             repeat (go_quiet (first|(go_at_call 52;(with_reducible refine(reply_reader_value.calls kj15 g t196 t197 (⟨#[83,101,114,118,101,114,58,32]⟩ : ByteArray) t201 true t203 t204 w0 _ ?side1 ?side2 (by first|exact hG|exact gok_below hG (by repeat (first|(with_reducible first|exact HB.out|apply below_alloc|apply pw_below_drewN|apply below_drew1|refine below_set ?_ (IsS73.ge HI0.out))|exact HB.out))|exact gok_heap hG rfl|exact gok_drewN hG _|exact gok_below hG (by repeat (first|exact HB.out|exact HBW.out|exact Below.refl _ _|apply below_alloc|apply pw_below_drewN|apply below_drew1))) A22.out).mono ?_);(case side1=>repeat (first|(with_reducible first|exact HI0.out|apply IsS73.alloc|apply IsS73.drewN|apply IsS73.drew|apply IsS73.set_0|apply IsS73.set_1)|exact HI0.out));(case side2=>repeat (first|(with_reducible first|exact HB.out|apply below_alloc|apply pw_below_drewN|apply below_drew1|refine below_set ?_ (IsS73.ge HI0.out))|exact HB.out));rintro e w30 ⟨rfl,hi,hb,hk⟩;have n0_:=Aside0.mk (KeepBut.trans kk hk (.inl rfl));have n1_:=Aside0.mk (hb);have n2_:=Aside0.mk (hi);clear HK;clear HB;clear HI0;have HK:=n0_;have HB:=n1_;have HI0:=n2_;clear n0_ n1_ n2_;(try clear hb);(try clear hb2);(try clear hk);(try clear hi))|(go_at_call 52;(with_reducible refine(reply_reader_value.calls kj15 g t203 t204 (⟨#[68,97,116,101,58,32]⟩ : ByteArray) t205 true t207 t208 w0 _ ?side1 ?side2 (by first|exact hG|exact gok_below hG (by repeat (first|(with_reducible first|exact HB.out|apply below_alloc|apply pw_below_drewN|apply below_drew1|refine below_set ?_ (IsS73.ge HI0.out))|exact HB.out))|exact gok_heap hG rfl|exact gok_drewN hG _|exact gok_below hG (by repeat (first|exact HB.out|exact HBW.out|exact Below.refl _ _|apply below_alloc|apply pw_below_drewN|apply below_drew1))) A23.out).mono ?_);(case side1=>repeat (first|(with_reducible first|exact HI0.out|apply IsS73.alloc|apply IsS73.drewN|apply IsS73.drew|apply IsS73.set_0|apply IsS73.set_1)|exact HI0.out));(case side2=>repeat (first|(with_reducible first|exact HB.out|apply below_alloc|apply pw_below_drewN|apply below_drew1|refine below_set ?_ (IsS73.ge HI0.out))|exact HB.out));rintro e w31 ⟨rfl,hi,hb,hk⟩;have n0_:=Aside0.mk (KeepBut.trans kk hk (.inl rfl));have n1_:=Aside0.mk (hb);have n2_:=Aside0.mk (hi);clear HK;clear HB;clear HI0;have HK:=n0_;have HB:=n1_;have HI0:=n2_;clear n0_ n1_ n2_;(try clear hb);(try clear hb2);(try clear hk);(try clear hi))|(go_at_call 52;(with_reducible refine(reply_reader_value.calls kj15 g t207 t208 (⟨#[120,45,97,109,122,45,114,101,113,117,101,115,116,45,105,100,58,32]⟩ : ByteArray) t209 true t211 t212 w0 _ ?side1 ?side2 (by first|exact hG|exact gok_below hG (by repeat (first|(with_reducible first|exact HB.out|apply below_alloc|apply pw_below_drewN|apply below_drew1|refine below_set ?_ (IsS73.ge HI0.out))|exact HB.out))|exact gok_heap hG rfl|exact gok_drewN hG _|exact gok_below hG (by repeat (first|exact HB.out|exact HBW.out|exact Below.refl _ _|apply below_alloc|apply pw_below_drewN|apply below_drew1))) A24.out).mono ?_);(case side1=>repeat (first|(with_reducible first|exact HI0.out|apply IsS73.alloc|apply IsS73.drewN|apply IsS73.drew|apply IsS73.set_0|apply IsS73.set_1)|exact HI0.out));(case side2=>repeat (first|(with_reducible first|exact HB.out|apply below_alloc|apply pw_below_drewN|apply below_drew1|refine below_set ?_ (IsS73.ge HI0.out))|exact HB.out));rintro e w32 ⟨rfl,hi,hb,hk⟩;have n0_:=Aside0.mk (KeepBut.trans kk hk (.inl rfl));have n1_:=Aside0.mk (hb);have n2_:=Aside0.mk (hi);clear HK;clear HB;clear HI0;have HK:=n0_;have HB:=n1_;have HI0:=n2_;clear n0_ n1_ n2_;(try clear hb);(try clear hb2);(try clear hk);(try clear hi))|(go_at_call 53;(with_reducible refine(when_ParseHttp.calls kj15 t205 t213 true _ (by first|exact hG|exact gok_below hG (by repeat (first|(with_reducible first|exact HB.out|apply below_alloc|apply pw_below_drewN|apply below_drew1|refine below_set ?_ (IsS73.ge HI0.out))|exact HB.out))|exact gok_heap hG rfl|exact gok_drewN hG _|exact gok_below hG (by repeat (first|exact HB.out|exact HBW.out|exact Below.refl _ _|apply below_alloc|apply pw_below_drewN|apply below_drew1))) A25.out).mono ?_);rintro e w33 ⟨rfl,hb⟩;have n0_:=Aside0.mk (IsS73.below (by repeat (first|(with_reducible first|exact HI0.out|apply IsS73.alloc|apply IsS73.drewN|apply IsS73.drew|apply IsS73.set_0|apply IsS73.set_1)|exact HI0.out)) hb);have n1_:=Aside0.mk (KeepBut.trans kk (KeepBut.of_below hb g none) (.inl rfl));have n2_:=Aside0.mk (below_step (by repeat (first|(with_reducible first|exact HB.out|apply below_alloc|apply pw_below_drewN|apply below_drew1|refine below_set ?_ (IsS73.ge HI0.out))|exact HB.out)) hb);clear HI0;clear HK;clear HB;have HI0:=n0_;have HK:=n1_;have HB:=n2_;clear n0_ n1_ n2_;(try clear hb);(try clear hb2);(try clear hk);(try clear hi)));try go_wp2_with (first|(go_at_call 52;(with_reducible refine(reply_reader_value.calls kj15 g t196 t197 (⟨#[83,101,114,118,101,114,58,32]⟩ : ByteArray) t201 true t203 t204 w0 _ ?side1 ?side2 (by first|exact hG|exact gok_below hG (by repeat (first|(with_reducible first|exact HB.out|apply below_alloc|apply pw_below_drewN|apply below_drew1|refine below_set ?_ (IsS73.ge HI0.out))|exact HB.out))|exact gok_heap hG rfl|exact gok_drewN hG _|exact gok_below hG (by repeat (first|exact HB.out|exact HBW.out|exact Below.refl _ _|apply below_alloc|apply pw_below_drewN|apply below_drew1))) A22.out).mono ?_);(case side1=>repeat (first|(with_reducible first|exact HI0.out|apply IsS73.alloc|apply IsS73.drewN|apply IsS73.drew|apply IsS73.set_0|apply IsS73.set_1)|exact HI0.out));(case side2=>repeat (first|(with_reducible first|exact HB.out|apply below_alloc|apply pw_below_drewN|apply below_drew1|refine below_set ?_ (IsS73.ge HI0.out))|exact HB.out));rintro e w30 ⟨rfl,hi,hb,hk⟩;have n0_:=Aside0.mk (KeepBut.trans kk hk (.inl rfl));have n1_:=Aside0.mk (hb);have n2_:=Aside0.mk (hi);clear HK;clear HB;clear HI0;have HK:=n0_;have HB:=n1_;have HI0:=n2_;clear n0_ n1_ n2_;(try clear hb);(try clear hb2);(try clear hk);(try clear hi))|(go_at_call 52;(with_reducible refine(reply_reader_value.calls kj15 g t203 t204 (⟨#[68,97,116,101,58,32]⟩ : ByteArray) t205 true t207 t208 w0 _ ?side1 ?side2 (by first|exact hG|exact gok_below hG (by repeat (first|(with_reducible first|exact HB.out|apply below_alloc|apply pw_below_drewN|apply below_drew1|refine below_set ?_ (IsS73.ge HI0.out))|exact HB.out))|exact gok_heap hG rfl|exact gok_drewN hG _|exact gok_below hG (by repeat (first|exact HB.out|exact HBW.out|exact Below.refl _ _|apply below_alloc|apply pw_below_drewN|apply below_drew1))) A23.out).mono ?_);(case side1=>repeat (first|(with_reducible first|exact HI0.out|apply IsS73.alloc|apply IsS73.drewN|apply IsS73.drew|apply IsS73.set_0|apply IsS73.set_1)|exact HI0.out));(case side2=>repeat (first|(with_reducible first|exact HB.out|apply below_alloc|apply pw_below_drewN|apply below_drew1|refine below_set ?_ (IsS73.ge HI0.out))|exact HB.out));rintro e w31 ⟨rfl,hi,hb,hk⟩;have n0_:=Aside0.mk (KeepBut.trans kk hk (.inl rfl));have n1_:=Aside0.mk (hb);have n2_:=Aside0.mk (hi);clear HK;clear HB;clear HI0;have HK:=n0_;have HB:=n1_;have HI0:=n2_;clear n0_ n1_ n2_;(try clear hb);(try clear hb2);(try clear hk);(try clear hi))|(go_at_call 52;(with_reducible refine(reply_reader_value.calls kj15 g t207 t208 (⟨#[120,45,97,109,122,45,114,101,113,117,101,115,116,45,105,100,58,32]⟩ : ByteArray) t209 true t211 t212 w0 _ ?side1 ?side2 (by first|exact hG|exact gok_below hG (by repeat (first|(with_reducible first|exact HB.out|apply below_alloc|apply pw_below_drewN|apply below_drew1|refine below_set ?_ (IsS73.ge HI0.out))|exact HB.out))|exact gok_heap hG rfl|exact gok_drewN hG _|exact gok_below hG (by repeat (first|exact HB.out|exact HBW.out|exact Below.refl _ _|apply below_alloc|apply pw_below_drewN|apply below_drew1))) A24.out).mono ?_);(case side1=>repeat (first|(with_reducible first|exact HI0.out|apply IsS73.alloc|apply IsS73.drewN|apply IsS73.drew|apply IsS73.set_0|apply IsS73.set_1)|exact HI0.out));(case side2=>repeat (first|(with_reducible first|exact HB.out|apply below_alloc|apply pw_below_drewN|apply below_drew1|refine below_set ?_ (IsS73.ge HI0.out))|exact HB.out));rintro e w32 ⟨rfl,hi,hb,hk⟩;have n0_:=Aside0.mk (KeepBut.trans kk hk (.inl rfl));have n1_:=Aside0.mk (hb);have n2_:=Aside0.mk (hi);clear HK;clear HB;clear HI0;have HK:=n0_;have HB:=n1_;have HI0:=n2_;clear n0_ n1_ n2_;(try clear hb);(try clear hb2);(try clear hk);(try clear hi))|(go_at_call 53;(with_reducible refine(when_ParseHttp.calls kj15 t205 t213 true _ (by first|exact hG|exact gok_below hG (by repeat (first|(with_reducible first|exact HB.out|apply below_alloc|apply pw_below_drewN|apply below_drew1|refine below_set ?_ (IsS73.ge HI0.out))|exact HB.out))|exact gok_heap hG rfl|exact gok_drewN hG _|exact gok_below hG (by repeat (first|exact HB.out|exact HBW.out|exact Below.refl _ _|apply below_alloc|apply pw_below_drewN|apply below_drew1))) A25.out).mono ?_);rintro e w33 ⟨rfl,hb⟩;have n0_:=Aside0.mk (IsS73.below (by repeat (first|(with_reducible first|exact HI0.out|apply IsS73.alloc|apply IsS73.drewN|apply IsS73.drew|apply IsS73.set_0|apply IsS73.set_1)|exact HI0.out)) hb);have n1_:=Aside0.mk (KeepBut.trans kk (KeepBut.of_below hb g none) (.inl rfl));have n2_:=Aside0.mk (below_step (by repeat (first|(with_reducible first|exact HB.out|apply below_alloc|apply pw_below_drewN|apply below_drew1|refine below_set ?_ (IsS73.ge HI0.out))|exact HB.out)) hb);clear HI0;clear HK;clear HB;have HI0:=n0_;have HK:=n1_;have HB:=n2_;clear n0_ n1_ n2_;(try clear hb);(try clear hb2);(try clear hk);(try clear hi))))
             go_ret2
             exact⟨by first|rfl|(simp [errW_none,errW_some] <;> rfl)|(simp [*,errW_none,errW_some] <;> rfl),by repeat (first|(with_reducible first|exact HI0.out|apply IsS73.alloc|apply IsS73.drewN|apply IsS73.drew|apply IsS73.set_0|apply IsS73.set_1)|exact HI0.out),by repeat (first|(with_reducible first|exact HB.out|apply below_alloc|apply pw_below_drewN|apply below_drew1|refine below_set ?_ (IsS73.ge HI0.out))|exact HB.out),kk⟩
            ·replace c29:=Bool.eq_false_iff.mpr c29
             subst c29
             replace H:=itF H
             simp only [Option.some.injEq,Prod.mk.injEq] at H
             obtain⟨rfl,rfl,rfl,rfl⟩:=H
             go_wp2_with (first|(go_at_call 52;(with_reducible refine(reply_reader_value.calls kj15 g t196 t197 (⟨#[83,101,114,118,101,114,58,32]⟩ : ByteArray) t201 true t203 t204 w0 _ ?side1 ?side2 (by first|exact hG|exact gok_below hG (by repeat (first|(with_reducible first|exact HB.out|apply below_alloc|apply pw_below_drewN|apply below_drew1|refine below_set ?_ (IsS73.ge HI0.out))|exact HB.out))|exact gok_heap hG rfl|exact gok_drewN hG _|exact gok_below hG (by repeat (first|exact HB.out|exact HBW.out|exact Below.refl _ _|apply below_alloc|apply pw_below_drewN|apply below_drew1))) A22.out).mono ?_);(case side1=>repeat (first|(with_reducible first|exact HI0.out|apply IsS73.alloc|apply IsS73.drewN|apply IsS73.drew|apply IsS73.set_0|apply IsS73.set_1)|exact HI0.out));(case side2=>repeat (first|(with_reducible first|exact HB.out|apply below_alloc|apply pw_below_drewN|apply below_drew1|refine below_set ?_ (IsS73.ge HI0.out))|exact HB.out));rintro e w34 ⟨rfl,hi,hb,hk⟩;have n0_:=Aside0.mk (KeepBut.trans kk hk (.inl rfl));have n1_:=Aside0.mk (hb);have n2_:=Aside0.mk (hi);clear HK;clear HB;clear HI0;have HK:=n0_;have HB:=n1_;have HI0:=n2_;clear n0_ n1_ n2_;(try clear hb);(try clear hb2);(try clear hk);(try clear hi))|(go_at_call 52;(with_reducible refine(reply_reader_value.calls kj15 g t203 t204 (⟨#[68,97,116,101,58,32]⟩ : ByteArray) t205 true t207 t208 w0 _ ?side1 ?side2 (by first|exact hG|exact gok_below hG (by repeat (first|(with_reducible first|exact HB.out|apply below_alloc|apply pw_below_drewN|apply below_drew1|refine below_set ?_ (IsS73.ge HI0.out))|exact HB.out))|exact gok_heap hG rfl|exact gok_drewN hG _|exact gok_below hG (by repeat (first|exact HB.out|exact HBW.out|exact Below.refl _ _|apply below_alloc|apply pw_below_drewN|apply below_drew1))) A23.out).mono ?_);(case side1=>repeat (first|(with_reducible first|exact HI0.out|apply IsS73.alloc|apply IsS73.drewN|apply IsS73.drew|apply IsS73.set_0|apply IsS73.set_1)|exact HI0.out));(case side2=>repeat (first|(with_reducible first|exact HB.out|apply below_alloc|apply pw_below_drewN|apply below_drew1|refine below_set ?_ (IsS73.ge HI0.out))|exact HB.out));rintro e w35 ⟨rfl,hi,hb,hk⟩;have n0_:=Aside0.mk (KeepBut.trans kk hk (.inl rfl));have n1_:=Aside0.mk (hb);have n2_:=Aside0.mk (hi);clear HK;clear HB;clear HI0;have HK:=n0_;have HB:=n1_;have HI0:=n2_;clear n0_ n1_ n2_;(try clear hb);(try clear hb2);(try clear hk);(try clear hi))|(go_at_call 52;(with_reducible refine(reply_reader_value.calls kj15 g t207 t208 (⟨#[120,45,97,109,122,45,114,101,113,117,101,115,116,45,105,100,58,32]⟩ : ByteArray) t209 true t211 t212 w0 _ ?side1 ?side2 (by first|exact hG|exact gok_below hG (by repeat (first|(with_reducible first|exact HB.out|apply below_alloc|apply pw_below_drewN|apply below_drew1|refine below_set ?_ (IsS73.ge HI0.out))|exact HB.out))|exact gok_heap hG rfl|exact gok_drewN hG _|exact gok_below hG (by repeat (first|exact HB.out|exact HBW.out|exact Below.refl _ _|apply below_alloc|apply pw_below_drewN|apply below_drew1))) A24.out).mono ?_);(case side1=>repeat (first|(with_reducible first|exact HI0.out|apply IsS73.alloc|apply IsS73.drewN|apply IsS73.drew|apply IsS73.set_0|apply IsS73.set_1)|exact HI0.out));(case side2=>repeat (first|(with_reducible first|exact HB.out|apply below_alloc|apply pw_below_drewN|apply below_drew1|refine below_set ?_ (IsS73.ge HI0.out))|exact HB.out));rintro e w36 ⟨rfl,hi,hb,hk⟩;have n0_:=Aside0.mk (KeepBut.trans kk hk (.inl rfl));have n1_:=Aside0.mk (hb);have n2_:=Aside0.mk (hi);clear HK;clear HB;clear HI0;have HK:=n0_;have HB:=n1_;have HI0:=n2_;clear n0_ n1_ n2_;(try clear hb);(try clear hb2);(try clear hk);(try clear hi))|(go_at_call 53;(with_reducible refine(when_ParseHttp.calls kj15 t205 t213 false _ (by first|exact hG|exact gok_below hG (by repeat (first|(with_reducible first|exact HB.out|apply below_alloc|apply pw_below_drewN|apply below_drew1|refine below_set ?_ (IsS73.ge HI0.out))|exact HB.out))|exact gok_heap hG rfl|exact gok_drewN hG _|exact gok_below hG (by repeat (first|exact HB.out|exact HBW.out|exact Below.refl _ _|apply below_alloc|apply pw_below_drewN|apply below_drew1))) A25.out).mono ?_);rintro e w37 ⟨rfl,hb⟩;have n0_:=Aside0.mk (IsS73.below (by repeat (first|(with_reducible first|exact HI0.out|apply IsS73.alloc|apply IsS73.drewN|apply IsS73.drew|apply IsS73.set_0|apply IsS73.set_1)|exact HI0.out)) hb);have n1_:=Aside0.mk (KeepBut.trans kk (KeepBut.of_below hb g none) (.inl rfl));have n2_:=Aside0.mk (below_step (by repeat (first|(with_reducible first|exact HB.out|apply below_alloc|apply pw_below_drewN|apply below_drew1|refine below_set ?_ (IsS73.ge HI0.out))|exact HB.out)) hb);clear HI0;clear HK;clear HB;have HI0:=n0_;have HK:=n1_;have HB:=n2_;clear n0_ n1_ n2_;(try clear hb);(try clear hb2);(try clear hk);(try clear hi)))
             repeat (go_quiet (first|(go_at_call 52;(with_reducible refine(reply_reader_value.calls kj15 g t196 t197 (⟨#[83,101,114,118,101,114,58,32]⟩ : ByteArray) t201 true t203 t204 w0 _ ?side1 ?side2 (by first|exact hG|exact gok_below hG (by repeat (first|(with_reducible first|exact HB.out|apply below_alloc|apply pw_below_drewN|apply below_drew1|refine below_set ?_ (IsS73.ge HI0.out))|exact HB.out))|exact gok_heap hG rfl|exact gok_drewN hG _|exact gok_below hG (by repeat (first|exact HB.out|exact HBW.out|exact Below.refl _ _|apply below_alloc|apply pw_below_drewN|apply below_drew1))) A22.out).mono ?_);(case side1=>repeat (first|(with_reducible first|exact HI0.out|apply IsS73.alloc|apply IsS73.drewN|apply IsS73.drew|apply IsS73.set_0|apply IsS73.set_1)|exact HI0.out));(case side2=>repeat (first|(with_reducible first|exact HB.out|apply below_alloc|apply pw_below_drewN|apply below_drew1|refine below_set ?_ (IsS73.ge HI0.out))|exact HB.out));rintro e w34 ⟨rfl,hi,hb,hk⟩;have n0_:=Aside0.mk (KeepBut.trans kk hk (.inl rfl));have n1_:=Aside0.mk (hb);have n2_:=Aside0.mk (hi);clear HK;clear HB;clear HI0;have HK:=n0_;have HB:=n1_;have HI0:=n2_;clear n0_ n1_ n2_;(try clear hb);(try clear hb2);(try clear hk);(try clear hi))|(go_at_call 52;(with_reducible refine(reply_reader_value.calls kj15 g t203 t204 (⟨#[68,97,116,101,58,32]⟩ : ByteArray) t205 true t207 t208 w0 _ ?side1 ?side2 (by first|exact hG|exact gok_below hG (by repeat (first|(with_reducible first|exact HB.out|apply below_alloc|apply pw_below_drewN|apply below_drew1|refine below_set ?_ (IsS73.ge HI0.out))|exact HB.out))|exact gok_heap hG rfl|exact gok_drewN hG _|exact gok_below hG (by repeat (first|exact HB.out|exact HBW.out|exact Below.refl _ _|apply below_alloc|apply pw_below_drewN|apply below_drew1))) A23.out).mono ?_);(case side1=>repeat (first|(with_reducible first|exact HI0.out|apply IsS73.alloc|apply IsS73.drewN|apply IsS73.drew|apply IsS73.set_0|apply IsS73.set_1)|exact HI0.out));(case side2=>repeat (first|(with_reducible first|exact HB.out|apply below_alloc|apply pw_below_drewN|apply below_drew1|refine below_set ?_ (IsS73.ge HI0.out))|exact HB.out));rintro e w35 ⟨rfl,hi,hb,hk⟩;have n0_:=Aside0.mk (KeepBut.trans kk hk (.inl rfl));have n1_:=Aside0.mk (hb);have n2_:=Aside0.mk (hi);clear HK;clear HB;clear HI0;have HK:=n0_;have HB:=n1_;have HI0:=n2_;clear n0_ n1_ n2_;(try clear hb);(try clear hb2);(try clear hk);(try clear hi))|(go_at_call 52;(with_reducible refine(reply_reader_value.calls kj15 g t207 t208 (⟨#[120,45,97,109,122,45,114,101,113,117,101,115,116,45,105,100,58,32]⟩ : ByteArray) t209 true t211 t212 w0 _ ?side1 ?side2 (by first|exact hG|exact gok_below hG (by repeat (first|(with_reducible first|exact HB.out|apply below_alloc|apply pw_below_drewN|apply below_drew1|refine below_set ?_ (IsS73.ge HI0.out))|exact HB.out))|exact gok_heap hG rfl|exact gok_drewN hG _|exact gok_below hG (by repeat (first|exact HB.out|exact HBW.out|exact Below.refl _ _|apply below_alloc|apply pw_below_drewN|apply below_drew1))) A24.out).mono ?_);(case side1=>repeat (first|(with_reducible first|exact HI0.out|apply IsS73.alloc|apply IsS73.drewN|apply IsS73.drew|apply IsS73.set_0|apply IsS73.set_1)|exact HI0.out));(case side2=>repeat (first|(with_reducible first|exact HB.out|apply below_alloc|apply pw_below_drewN|apply below_drew1|refine below_set ?_ (IsS73.ge HI0.out))|exact HB.out));rintro e w36 ⟨rfl,hi,hb,hk⟩;have n0_:=Aside0.mk (KeepBut.trans kk hk (.inl rfl));have n1_:=Aside0.mk (hb);have n2_:=Aside0.mk (hi);clear HK;clear HB;clear HI0;have HK:=n0_;have HB:=n1_;have HI0:=n2_;clear n0_ n1_ n2_;(try clear hb);(try clear hb2);(try clear hk);(try clear hi))|(go_at_call 53;(with_reducible refine(when_ParseHttp.calls kj15 t205 t213 false _ (by first|exact hG|exact gok_below hG (by repeat (first|(with_reducible first|exact HB.out|apply below_alloc|apply pw_below_drewN|apply below_drew1|refine below_set ?_ (IsS73.ge HI0.out))|exact HB.out))|exact gok_heap hG rfl|exact gok_drewN hG _|exact gok_below hG (by repeat (first|exact HB.out|exact HBW.out|exact Below.refl _ _|apply below_alloc|apply pw_below_drewN|apply below_drew1))) A25.out).mono ?_);rintro e w37 ⟨rfl,hb⟩;have n0_:=Aside0.mk (IsS73.below (by repeat (first|(with_reducible first|exact HI0.out|apply IsS73.alloc|apply IsS73.drewN|apply IsS73.drew|apply IsS73.set_0|apply IsS73.set_1)|exact HI0.out)) hb);have n1_:=Aside0.mk (KeepBut.trans kk (KeepBut.of_below hb g none) (.inl rfl));have n2_:=Aside0.mk (below_step (by repeat (first|(with_reducible first|exact HB.out|apply below_alloc|apply pw_below_drewN|apply below_drew1|refine below_set ?_ (IsS73.ge HI0.out))|exact HB.out)) hb);clear HI0;clear HK;clear HB;have HI0:=n0_;have HK:=n1_;have HB:=n2_;clear n0_ n1_ n2_;(try clear hb);(try clear hb2);(try clear hk);(try clear hi)));try go_wp2_with (first|(go_at_call 52;(with_reducible refine(reply_reader_value.calls kj15 g t196 t197 (⟨#[83,101,114,118,101,114,58,32]⟩ : ByteArray) t201 true t203 t204 w0 _ ?side1 ?side2 (by first|exact hG|exact gok_below hG (by repeat (first|(with_reducible first|exact HB.out|apply below_alloc|apply pw_below_drewN|apply below_drew1|refine below_set ?_ (IsS73.ge HI0.out))|exact HB.out))|exact gok_heap hG rfl|exact gok_drewN hG _|exact gok_below hG (by repeat (first|exact HB.out|exact HBW.out|exact Below.refl _ _|apply below_alloc|apply pw_below_drewN|apply below_drew1))) A22.out).mono ?_);(case side1=>repeat (first|(with_reducible first|exact HI0.out|apply IsS73.alloc|apply IsS73.drewN|apply IsS73.drew|apply IsS73.set_0|apply IsS73.set_1)|exact HI0.out));(case side2=>repeat (first|(with_reducible first|exact HB.out|apply below_alloc|apply pw_below_drewN|apply below_drew1|refine below_set ?_ (IsS73.ge HI0.out))|exact HB.out));rintro e w34 ⟨rfl,hi,hb,hk⟩;have n0_:=Aside0.mk (KeepBut.trans kk hk (.inl rfl));have n1_:=Aside0.mk (hb);have n2_:=Aside0.mk (hi);clear HK;clear HB;clear HI0;have HK:=n0_;have HB:=n1_;have HI0:=n2_;clear n0_ n1_ n2_;(try clear hb);(try clear hb2);(try clear hk);(try clear hi))|(go_at_call 52;(with_reducible refine(reply_reader_value.calls kj15 g t203 t204 (⟨#[68,97,116,101,58,32]⟩ : ByteArray) t205 true t207 t208 w0 _ ?side1 ?side2 (by first|exact hG|exact gok_below hG (by repeat (first|(with_reducible first|exact HB.out|apply below_alloc|apply pw_below_drewN|apply below_drew1|refine below_set ?_ (IsS73.ge HI0.out))|exact HB.out))|exact gok_heap hG rfl|exact gok_drewN hG _|exact gok_below hG (by repeat (first|exact HB.out|exact HBW.out|exact Below.refl _ _|apply below_alloc|apply pw_below_drewN|apply below_drew1))) A23.out).mono ?_);(case side1=>repeat (first|(with_reducible first|exact HI0.out|apply IsS73.alloc|apply IsS73.drewN|apply IsS73.drew|apply IsS73.set_0|apply IsS73.set_1)|exact HI0.out));(case side2=>repeat (first|(with_reducible first|exact HB.out|apply below_alloc|apply pw_below_drewN|apply below_drew1|refine below_set ?_ (IsS73.ge HI0.out))|exact HB.out));rintro e w35 ⟨rfl,hi,hb,hk⟩;have n0_:=Aside0.mk (KeepBut.trans kk hk (.inl rfl));have n1_:=Aside0.mk (hb);have n2_:=Aside0.mk (hi);clear HK;clear HB;clear HI0;have HK:=n0_;have HB:=n1_;have HI0:=n2_;clear n0_ n1_ n2_;(try clear hb);(try clear hb2);(try clear hk);(try clear hi))|(go_at_call 52;(with_reducible refine(reply_reader_value.calls kj15 g t207 t208 (⟨#[120,45,97,109,122,45,114,101,113,117,101,115,116,45,105,100,58,32]⟩ : ByteArray) t209 true t211 t212 w0 _ ?side1 ?side2 (by first|exact hG|exact gok_below hG (by repeat (first|(with_reducible first|exact HB.out|apply below_alloc|apply pw_below_drewN|apply below_drew1|refine below_set ?_ (IsS73.ge HI0.out))|exact HB.out))|exact gok_heap hG rfl|exact gok_drewN hG _|exact gok_below hG (by repeat (first|exact HB.out|exact HBW.out|exact Below.refl _ _|apply below_alloc|apply pw_below_drewN|apply below_drew1))) A24.out).mono ?_);(case side1=>repeat (first|(with_reducible first|exact HI0.out|apply IsS73.alloc|apply IsS73.drewN|apply IsS73.drew|apply IsS73.set_0|apply IsS73.set_1)|exact HI0.out));(case side2=>repeat (first|(with_reducible first|exact HB.out|apply below_alloc|apply pw_below_drewN|apply below_drew1|refine below_set ?_ (IsS73.ge HI0.out))|exact HB.out));rintro e w36 ⟨rfl,hi,hb,hk⟩;have n0_:=Aside0.mk (KeepBut.trans kk hk (.inl rfl));have n1_:=Aside0.mk (hb);have n2_:=Aside0.mk (hi);clear HK;clear HB;clear HI0;have HK:=n0_;have HB:=n1_;have HI0:=n2_;clear n0_ n1_ n2_;(try clear hb);(try clear hb2);(try clear hk);(try clear hi))|(go_at_call 53;(with_reducible refine(when_ParseHttp.calls kj15 t205 t213 false _ (by first|exact hG|exact gok_below hG (by repeat (first|(with_reducible first|exact HB.out|apply below_alloc|apply pw_below_drewN|apply below_drew1|refine below_set ?_ (IsS73.ge HI0.out))|exact HB.out))|exact gok_heap hG rfl|exact gok_drewN hG _|exact gok_below hG (by repeat (first|exact HB.out|exact HBW.out|exact Below.refl _ _|apply below_alloc|apply pw_below_drewN|apply below_drew1))) A25.out).mono ?_);rintro e w37 ⟨rfl,hb⟩;have n0_:=Aside0.mk (IsS73.below (by repeat (first|(with_reducible first|exact HI0.out|apply IsS73.alloc|apply IsS73.drewN|apply IsS73.drew|apply IsS73.set_0|apply IsS73.set_1)|exact HI0.out)) hb);have n1_:=Aside0.mk (KeepBut.trans kk (KeepBut.of_below hb g none) (.inl rfl));have n2_:=Aside0.mk (below_step (by repeat (first|(with_reducible first|exact HB.out|apply below_alloc|apply pw_below_drewN|apply below_drew1|refine below_set ?_ (IsS73.ge HI0.out))|exact HB.out)) hb);clear HI0;clear HK;clear HB;have HI0:=n0_;have HK:=n1_;have HB:=n2_;clear n0_ n1_ n2_;(try clear hb);(try clear hb2);(try clear hk);(try clear hi))))
             go_ret2
             exact⟨by first|rfl|(simp [errW_none,errW_some] <;> rfl)|(simp [*,errW_none,errW_some] <;> rfl),by repeat (first|(with_reducible first|exact HI0.out|apply IsS73.alloc|apply IsS73.drewN|apply IsS73.drew|apply IsS73.set_0|apply IsS73.set_1)|exact HI0.out),by repeat (first|(with_reducible first|exact HB.out|apply below_alloc|apply pw_below_drewN|apply below_drew1|refine below_set ?_ (IsS73.ge HI0.out))|exact HB.out),kk⟩
           ·replace c28:=Bool.eq_false_iff.mpr c28
            subst c28
            replace H:=itF H
            simp only [Option.some.injEq,Prod.mk.injEq] at H
            obtain⟨rfl,rfl,rfl,rfl⟩:=H
            go_wp2_with (first|(go_at_call 52;(with_reducible refine(reply_reader_value.calls kj15 g t196 t197 (⟨#[83,101,114,118,101,114,58,32]⟩ : ByteArray) t201 true t203 t204 w0 _ ?side1 ?side2 (by first|exact hG|exact gok_below hG (by repeat (first|(with_reducible first|exact HB.out|apply below_alloc|apply pw_below_drewN|apply below_drew1|refine below_set ?_ (IsS73.ge HI0.out))|exact HB.out))|exact gok_heap hG rfl|exact gok_drewN hG _|exact gok_below hG (by repeat (first|exact HB.out|exact HBW.out|exact Below.refl _ _|apply below_alloc|apply pw_below_drewN|apply below_drew1))) A22.out).mono ?_);(case side1=>repeat (first|(with_reducible first|exact HI0.out|apply IsS73.alloc|apply IsS73.drewN|apply IsS73.drew|apply IsS73.set_0|apply IsS73.set_1)|exact HI0.out));(case side2=>repeat (first|(with_reducible first|exact HB.out|apply below_alloc|apply pw_below_drewN|apply below_drew1|refine below_set ?_ (IsS73.ge HI0.out))|exact HB.out));rintro e w38 ⟨rfl,hi,hb,hk⟩;have n0_:=Aside0.mk (KeepBut.trans kk hk (.inl rfl));have n1_:=Aside0.mk (hb);have n2_:=Aside0.mk (hi);clear HK;clear HB;clear HI0;have HK:=n0_;have HB:=n1_;have HI0:=n2_;clear n0_ n1_ n2_;(try clear hb);(try clear hb2);(try clear hk);(try clear hi))|(go_at_call 52;(with_reducible refine(reply_reader_value.calls kj15 g t203 t204 (⟨#[68,97,116,101,58,32]⟩ : ByteArray) t205 true t207 t208 w0 _ ?side1 ?side2 (by first|exact hG|exact gok_below hG (by repeat (first|(with_reducible first|exact HB.out|apply below_alloc|apply pw_below_drewN|apply below_drew1|refine below_set ?_ (IsS73.ge HI0.out))|exact HB.out))|exact gok_heap hG rfl|exact gok_drewN hG _|exact gok_below hG (by repeat (first|exact HB.out|exact HBW.out|exact Below.refl _ _|apply below_alloc|apply pw_below_drewN|apply below_drew1))) A23.out).mono ?_);(case side1=>repeat (first|(with_reducible first|exact HI0.out|apply IsS73.alloc|apply IsS73.drewN|apply IsS73.drew|apply IsS73.set_0|apply IsS73.set_1)|exact HI0.out));(case side2=>repeat (first|(with_reducible first|exact HB.out|apply below_alloc|apply pw_below_drewN|apply below_drew1|refine below_set ?_ (IsS73.ge HI0.out))|exact HB.out));rintro e w39 ⟨rfl,hi,hb,hk⟩;have n0_:=Aside0.mk (KeepBut.trans kk hk (.inl rfl));have n1_:=Aside0.mk (hb);have n2_:=Aside0.mk (hi);clear HK;clear HB;clear HI0;have HK:=n0_;have HB:=n1_;have HI0:=n2_;clear n0_ n1_ n2_;(try clear hb);(try clear hb2);(try clear hk);(try clear hi))|(go_at_call 52;(with_reducible refine(reply_reader_value.calls kj15 g t207 t208 (⟨#[120,45,97,109,122,45,114,101,113,117,101,115,116,45,105,100,58,32]⟩ : ByteArray) t209 false t211 t212 w0 _ ?side1 ?side2 (by first|exact hG|exact gok_below hG (by repeat (first|(with_reducible first|exact HB.out|apply below_alloc|apply pw_below_drewN|apply below_drew1|refine below_set ?_ (IsS73.ge HI0.out))|exact HB.out))|exact gok_heap hG rfl|exact gok_drewN hG _|exact gok_below hG (by repeat (first|exact HB.out|exact HBW.out|exact Below.refl _ _|apply below_alloc|apply pw_below_drewN|apply below_drew1))) A24.out).mono ?_);(case side1=>repeat (first|(with_reducible first|exact HI0.out|apply IsS73.alloc|apply IsS73.drewN|apply IsS73.drew|apply IsS73.set_0|apply IsS73.set_1)|exact HI0.out));(case side2=>repeat (first|(with_reducible first|exact HB.out|apply below_alloc|apply pw_below_drewN|apply below_drew1|refine below_set ?_ (IsS73.ge HI0.out))|exact HB.out));rintro e w40 ⟨rfl,hi,hb,hk⟩;have n0_:=Aside0.mk (KeepBut.trans kk hk (.inl rfl));have n1_:=Aside0.mk (hb);have n2_:=Aside0.mk (hi);clear HK;clear HB;clear HI0;have HK:=n0_;have HB:=n1_;have HI0:=n2_;clear n0_ n1_ n2_;(try clear hb);(try clear hb2);(try clear hk);(try clear hi))|(go_at_call 53;(with_reducible refine(when_ParseHttp.calls kj15 t205 t213 t214 _ (by first|exact hG|exact gok_below hG (by repeat (first|(with_reducible first|exact HB.out|apply below_alloc|apply pw_below_drewN|apply below_drew1|refine below_set ?_ (IsS73.ge HI0.out))|exact HB.out))|exact gok_heap hG rfl|exact gok_drewN hG _|exact gok_below hG (by repeat (first|exact HB.out|exact HBW.out|exact Below.refl _ _|apply below_alloc|apply pw_below_drewN|apply below_drew1))) A25.out).mono ?_);rintro e w41 ⟨rfl,hb⟩;have n0_:=Aside0.mk (IsS73.below (by repeat (first|(with_reducible first|exact HI0.out|apply IsS73.alloc|apply IsS73.drewN|apply IsS73.drew|apply IsS73.set_0|apply IsS73.set_1)|exact HI0.out)) hb);have n1_:=Aside0.mk (KeepBut.trans kk (KeepBut.of_below hb g none) (.inl rfl));have n2_:=Aside0.mk (below_step (by repeat (first|(with_reducible first|exact HB.out|apply below_alloc|apply pw_below_drewN|apply below_drew1|refine below_set ?_ (IsS73.ge HI0.out))|exact HB.out)) hb);clear HI0;clear HK;clear HB;have HI0:=n0_;have HK:=n1_;have HB:=n2_;clear n0_ n1_ n2_;(try clear hb);(try clear hb2);(try clear hk);(try clear hi)))
            repeat (go_quiet (first|(go_at_call 52;(with_reducible refine(reply_reader_value.calls kj15 g t196 t197 (⟨#[83,101,114,118,101,114,58,32]⟩ : ByteArray) t201 true t203 t204 w0 _ ?side1 ?side2 (by first|exact hG|exact gok_below hG (by repeat (first|(with_reducible first|exact HB.out|apply below_alloc|apply pw_below_drewN|apply below_drew1|refine below_set ?_ (IsS73.ge HI0.out))|exact HB.out))|exact gok_heap hG rfl|exact gok_drewN hG _|exact gok_below hG (by repeat (first|exact HB.out|exact HBW.out|exact Below.refl _ _|apply below_alloc|apply pw_below_drewN|apply below_drew1))) A22.out).mono ?_);(case side1=>repeat (first|(with_reducible first|exact HI0.out|apply IsS73.alloc|apply IsS73.drewN|apply IsS73.drew|apply IsS73.set_0|apply IsS73.set_1)|exact HI0.out));(case side2=>repeat (first|(with_reducible first|exact HB.out|apply below_alloc|apply pw_below_drewN|apply below_drew1|refine below_set ?_ (IsS73.ge HI0.out))|exact HB.out));rintro e w38 ⟨rfl,hi,hb,hk⟩;have n0_:=Aside0.mk (KeepBut.trans kk hk (.inl rfl));have n1_:=Aside0.mk (hb);have n2_:=Aside0.mk (hi);clear HK;clear HB;clear HI0;have HK:=n0_;have HB:=n1_;have HI0:=n2_;clear n0_ n1_ n2_;(try clear hb);(try clear hb2);(try clear hk);(try clear hi))|(go_at_call 52;(with_reducible refine(reply_reader_value.calls kj15 g t203 t204 (⟨#[68,97,116,101,58,32]⟩ : ByteArray) t205 true t207 t208 w0 _ ?side1 ?side2 (by first|exact hG|exact gok_below hG (by repeat (first|(with_reducible first|exact HB.out|apply below_alloc|apply pw_below_drewN|apply below_drew1|refine below_set ?_ (IsS73.ge HI0.out))|exact HB.out))|exact gok_heap hG rfl|exact gok_drewN hG _|exact gok_below hG (by repeat (first|exact HB.out|exact HBW.out|exact Below.refl _ _|apply below_alloc|apply pw_below_drewN|apply below_drew1))) A23.out).mono ?_);(case side1=>repeat (first|(with_reducible first|exact HI0.out|apply IsS73.alloc|apply IsS73.drewN|apply IsS73.drew|apply IsS73.set_0|apply IsS73.set_1)|exact HI0.out));(case side2=>repeat (first|(with_reducible first|exact HB.out|apply below_alloc|apply pw_below_drewN|apply below_drew1|refine below_set ?_ (IsS73.ge HI0.out))|exact HB.out));rintro e w39 ⟨rfl,hi,hb,hk⟩;have n0_:=Aside0.mk (KeepBut.trans kk hk (.inl rfl));have n1_:=Aside0.mk (hb);have n2_:=Aside0.mk (hi);clear HK;clear HB;clear HI0;have HK:=n0_;have HB:=n1_;have HI0:=n2_;clear n0_ n1_ n2_;(try clear hb);(try clear hb2);(try clear hk);(try clear hi))|(go_at_call 52;(with_reducible refine(reply_reader_value.calls kj15 g t207 t208 (⟨#[120,45,97,109,122,45,114,101,113,117,101,115,116,45,105,100,58,32]⟩ : ByteArray) t209 false t211 t212 w0 _ ?side1 ?side2 (by first|exact hG|exact gok_below hG (by repeat (first|(with_reducible first|exact HB.out|apply below_alloc|apply pw_below_drewN|apply below_drew1|refine below_set ?_ (IsS73.ge HI0.out))|exact HB.out))|exact gok_heap hG rfl|exact gok_drewN hG _|exact gok_below hG (by repeat (first|exact HB.out|exact HBW.out|exact Below.refl _ _|apply below_alloc|apply pw_below_drewN|apply below_drew1))) A24.out).mono ?_);(case side1=>repeat (first|(with_reducible first|exact HI0.out|apply IsS73.alloc|apply IsS73.drewN|apply IsS73.drew|apply IsS73.set_0|apply IsS73.set_1)|exact HI0.out));(case side2=>repeat (first|(with_reducible first|exact HB.out|apply below_alloc|apply pw_below_drewN|apply below_drew1|refine below_set ?_ (IsS73.ge HI0.out))|exact HB.out));rintro e w40 ⟨rfl,hi,hb,hk⟩;have n0_:=Aside0.mk (KeepBut.trans kk hk (.inl rfl));have n1_:=Aside0.mk (hb);have n2_:=Aside0.mk (hi);clear HK;clear HB;clear HI0;have HK:=n0_;have HB:=n1_;have HI0:=n2_;clear n0_ n1_ n2_;(try clear hb);(try clear hb2);(try clear hk);(try clear hi))|(go_at_call 53;(with_reducible refine(when_ParseHttp.calls kj15 t205 t213 t214 _ (by first|exact hG|exact gok_below hG (by repeat (first|(with_reducible first|exact HB.out|apply below_alloc|apply pw_below_drewN|apply below_drew1|refine below_set ?_ (IsS73.ge HI0.out))|exact HB.out))|exact gok_heap hG rfl|exact gok_drewN hG _|exact gok_below hG (by repeat (first|exact HB.out|exact HBW.out|exact Below.refl _ _|apply below_alloc|apply pw_below_drewN|apply below_drew1))) A25.out).mono ?_);rintro e w41 ⟨rfl,hb⟩;have n0_:=Aside0.mk (IsS73.below (by repeat (first|(with_reducible first|exact HI0.out|apply IsS73.alloc|apply IsS73.drewN|apply IsS73.drew|apply IsS73.set_0|apply IsS73.set_1)|exact HI0.out)) hb);have n1_:=Aside0.mk (KeepBut.trans kk (KeepBut.of_below hb g none) (.inl rfl));have n2_:=Aside0.mk (below_step (by repeat (first|(with_reducible first|exact HB.out|apply below_alloc|apply pw_below_drewN|apply below_drew1|refine below_set ?_ (IsS73.ge HI0.out))|exact HB.out)) hb);clear HI0;clear HK;clear HB;have HI0:=n0_;have HK:=n1_;have HB:=n2_;clear n0_ n1_ n2_;(try clear hb);(try clear hb2);(try clear hk);(try clear hi)));try go_wp2_with (first|(go_at_call 52;(with_reducible refine(reply_reader_value.calls kj15 g t196 t197 (⟨#[83,101,114,118,101,114,58,32]⟩ : ByteArray) t201 true t203 t204 w0 _ ?side1 ?side2 (by first|exact hG|exact gok_below hG (by repeat (first|(with_reducible first|exact HB.out|apply below_alloc|apply pw_below_drewN|apply below_drew1|refine below_set ?_ (IsS73.ge HI0.out))|exact HB.out))|exact gok_heap hG rfl|exact gok_drewN hG _|exact gok_below hG (by repeat (first|exact HB.out|exact HBW.out|exact Below.refl _ _|apply below_alloc|apply pw_below_drewN|apply below_drew1))) A22.out).mono ?_);(case side1=>repeat (first|(with_reducible first|exact HI0.out|apply IsS73.alloc|apply IsS73.drewN|apply IsS73.drew|apply IsS73.set_0|apply IsS73.set_1)|exact HI0.out));(case side2=>repeat (first|(with_reducible first|exact HB.out|apply below_alloc|apply pw_below_drewN|apply below_drew1|refine below_set ?_ (IsS73.ge HI0.out))|exact HB.out));rintro e w38 ⟨rfl,hi,hb,hk⟩;have n0_:=Aside0.mk (KeepBut.trans kk hk (.inl rfl));have n1_:=Aside0.mk (hb);have n2_:=Aside0.mk (hi);clear HK;clear HB;clear HI0;have HK:=n0_;have HB:=n1_;have HI0:=n2_;clear n0_ n1_ n2_;(try clear hb);(try clear hb2);(try clear hk);(try clear hi))|(go_at_call 52;(with_reducible refine(reply_reader_value.calls kj15 g t203 t204 (⟨#[68,97,116,101,58,32]⟩ : ByteArray) t205 true t207 t208 w0 _ ?side1 ?side2 (by first|exact hG|exact gok_below hG (by repeat (first|(with_reducible first|exact HB.out|apply below_alloc|apply pw_below_drewN|apply below_drew1|refine below_set ?_ (IsS73.ge HI0.out))|exact HB.out))|exact gok_heap hG rfl|exact gok_drewN hG _|exact gok_below hG (by repeat (first|exact HB.out|exact HBW.out|exact Below.refl _ _|apply below_alloc|apply pw_below_drewN|apply below_drew1))) A23.out).mono ?_);(case side1=>repeat (first|(with_reducible first|exact HI0.out|apply IsS73.alloc|apply IsS73.drewN|apply IsS73.drew|apply IsS73.set_0|apply IsS73.set_1)|exact HI0.out));(case side2=>repeat (first|(with_reducible first|exact HB.out|apply below_alloc|apply pw_below_drewN|apply below_drew1|refine below_set ?_ (IsS73.ge HI0.out))|exact HB.out));rintro e w39 ⟨rfl,hi,hb,hk⟩;have n0_:=Aside0.mk (KeepBut.trans kk hk (.inl rfl));have n1_:=Aside0.mk (hb);have n2_:=Aside0.mk (hi);clear HK;clear HB;clear HI0;have HK:=n0_;have HB:=n1_;have HI0:=n2_;clear n0_ n1_ n2_;(try clear hb);(try clear hb2);(try clear hk);(try clear hi))|(go_at_call 52;(with_reducible refine(reply_reader_value.calls kj15 g t207 t208 (⟨#[120,45,97,109,122,45,114,101,113,117,101,115,116,45,105,100,58,32]⟩ : ByteArray) t209 false t211 t212 w0 _ ?side1 ?side2 (by first|exact hG|exact gok_below hG (by repeat (first|(with_reducible first|exact HB.out|apply below_alloc|apply pw_below_drewN|apply below_drew1|refine below_set ?_ (IsS73.ge HI0.out))|exact HB.out))|exact gok_heap hG rfl|exact gok_drewN hG _|exact gok_below hG (by repeat (first|exact HB.out|exact HBW.out|exact Below.refl _ _|apply below_alloc|apply pw_below_drewN|apply below_drew1))) A24.out).mono ?_);(case side1=>repeat (first|(with_reducible first|exact HI0.out|apply IsS73.alloc|apply IsS73.drewN|apply IsS73.drew|apply IsS73.set_0|apply IsS73.set_1)|exact HI0.out));(case side2=>repeat (first|(with_reducible first|exact HB.out|apply below_alloc|apply pw_below_drewN|apply below_drew1|refine below_set ?_ (IsS73.ge HI0.out))|exact HB.out));rintro e w40 ⟨rfl,hi,hb,hk⟩;have n0_:=Aside0.mk (KeepBut.trans kk hk (.inl rfl));have n1_:=Aside0.mk (hb);have n2_:=Aside0.mk (hi);clear HK;clear HB;clear HI0;have HK:=n0_;have HB:=n1_;have HI0:=n2_;clear n0_ n1_ n2_;(try clear hb);(try clear hb2);(try clear hk);(try clear hi))|(go_at_call 53;(with_reducible refine(when_ParseHttp.calls kj15 t205 t213 t214 _ (by first|exact hG|exact gok_below hG (by repeat (first|(with_reducible first|exact HB.out|apply below_alloc|apply pw_below_drewN|apply below_drew1|refine below_set ?_ (IsS73.ge HI0.out))|exact HB.out))|exact gok_heap hG rfl|exact gok_drewN hG _|exact gok_below hG (by repeat (first|exact HB.out|exact HBW.out|exact Below.refl _ _|apply below_alloc|apply pw_below_drewN|apply below_drew1))) A25.out).mono ?_);rintro e w41 ⟨rfl,hb⟩;have n0_:=Aside0.mk (IsS73.below (by repeat (first|(with_reducible first|exact HI0.out|apply IsS73.alloc|apply IsS73.drewN|apply IsS73.drew|apply IsS73.set_0|apply IsS73.set_1)|exact HI0.out)) hb);have n1_:=Aside0.mk (KeepBut.trans kk (KeepBut.of_below hb g none) (.inl rfl));have n2_:=Aside0.mk (below_step (by repeat (first|(with_reducible first|exact HB.out|apply below_alloc|apply pw_below_drewN|apply below_drew1|refine below_set ?_ (IsS73.ge HI0.out))|exact HB.out)) hb);clear HI0;clear HK;clear HB;have HI0:=n0_;have HK:=n1_;have HB:=n2_;clear n0_ n1_ n2_;(try clear hb);(try clear hb2);(try clear hk);(try clear hi))))
            go_ret2
            exact⟨by first|rfl|(simp [errW_none,errW_some] <;> rfl)|(simp [*,errW_none,errW_some] <;> rfl),by repeat (first|(with_reducible first|exact HI0.out|apply IsS73.alloc|apply IsS73.drewN|apply IsS73.drew|apply IsS73.set_0|apply IsS73.set_1)|exact HI0.out),by repeat (first|(with_reducible first|exact HB.out|apply below_alloc|apply pw_below_drewN|apply below_drew1|refine below_set ?_ (IsS73.ge HI0.out))|exact HB.out),kk⟩
          ·replace c27:=Bool.eq_false_iff.mpr c27
           subst c27
           replace H:=itF H
           simp only [Option.some.injEq,Prod.mk.injEq] at H
           obtain⟨rfl,rfl,rfl,rfl⟩:=H
           go_wp2_with (first|(go_at_call 52;(with_reducible refine(reply_reader_value.calls kj15 g t196 t197 (⟨#[83,101,114,118,101,114,58,32]⟩ : ByteArray) t201 true t203 t204 w0 _ ?side1 ?side2 (by first|exact hG|exact gok_below hG (by repeat (first|(with_reducible first|exact HB.out|apply below_alloc|apply pw_below_drewN|apply below_drew1|refine below_set ?_ (IsS73.ge HI0.out))|exact HB.out))|exact gok_heap hG rfl|exact gok_drewN hG _|exact gok_below hG (by repeat (first|exact HB.out|exact HBW.out|exact Below.refl _ _|apply below_alloc|apply pw_below_drewN|apply below_drew1))) A22.out).mono ?_);(case side1=>repeat (first|(with_reducible first|exact HI0.out|apply IsS73.alloc|apply IsS73.drewN|apply IsS73.drew|apply IsS73.set_0|apply IsS73.set_1)|exact HI0.out));(case side2=>repeat (first|(with_reducible first|exact HB.out|apply below_alloc|apply pw_below_drewN|apply below_drew1|refine below_set ?_ (IsS73.ge HI0.out))|exact HB.out));rintro e w42 ⟨rfl,hi,hb,hk⟩;have n0_:=Aside0.mk (KeepBut.trans kk hk (.inl rfl));have n1_:=Aside0.mk (hb);have n2_:=Aside0.mk (hi);clear HK;clear HB;clear HI0;have HK:=n0_;have HB:=n1_;have HI0:=n2_;clear n0_ n1_ n2_;(try clear hb);(try clear hb2);(try clear hk);(try clear hi))|(go_at_call 52;(with_reducible refine(reply_reader_value.calls kj15 g t203 t204 (⟨#[68,97,116,101,58,32]⟩ : ByteArray) t205 false t207 t208 w0 _ ?side1 ?side2 (by first|exact hG|exact gok_below hG (by repeat (first|(with_reducible first|exact HB.out|apply below_alloc|apply pw_below_drewN|apply below_drew1|refine below_set ?_ (IsS73.ge HI0.out))|exact HB.out))|exact gok_heap hG rfl|exact gok_drewN hG _|exact gok_below hG (by repeat (first|exact HB.out|exact HBW.out|exact Below.refl _ _|apply below_alloc|apply pw_below_drewN|apply below_drew1))) A23.out).mono ?_);(case side1=>repeat (first|(with_reducible first|exact HI0.out|apply IsS73.alloc|apply IsS73.drewN|apply IsS73.drew|apply IsS73.set_0|apply IsS73.set_1)|exact HI0.out));(case side2=>repeat (first|(with_reducible first|exact HB.out|apply below_alloc|apply pw_below_drewN|apply below_drew1|refine below_set ?_ (IsS73.ge HI0.out))|exact HB.out));rintro e w43 ⟨rfl,hi,hb,hk⟩;have n0_:=Aside0.mk (KeepBut.trans kk hk (.inl rfl));have n1_:=Aside0.mk (hb);have n2_:=Aside0.mk (hi);clear HK;clear HB;clear HI0;have HK:=n0_;have HB:=n1_;have HI0:=n2_;clear n0_ n1_ n2_;(try clear hb);(try clear hb2);(try clear hk);(try clear hi))|(go_at_call 52;(with_reducible refine(reply_reader_value.calls kj15 g t207 t208 (⟨#[120,45,97,109,122,45,114,101,113,117,101,115,116,45,105,100,58,32]⟩ : ByteArray) t209 t210 t211 t212 w0 _ ?side1 ?side2 (by first|exact hG|exact gok_below hG (by repeat (first|(with_reducible first|exact HB.out|apply below_alloc|apply pw_below_drewN|apply below_drew1|refine below_set ?_ (IsS73.ge HI0.out))|exact HB.out))|exact gok_heap hG rfl|exact gok_drewN hG _|exact gok_below hG (by repeat (first|exact HB.out|exact HBW.out|exact Below.refl _ _|apply below_alloc|apply pw_below_drewN|apply below_drew1))) A24.out).mono ?_);(case side1=>repeat (first|(with_reducible first|exact HI0.out|apply IsS73.alloc|apply IsS73.drewN|apply IsS73.drew|apply IsS73.set_0|apply IsS73.set_1)|exact HI0.out));(case side2=>repeat (first|(with_reducible first|exact HB.out|apply below_alloc|apply pw_below_drewN|apply below_drew1|refine below_set ?_ (IsS73.ge HI0.out))|exact HB.out));rintro e w44 ⟨rfl,hi,hb,hk⟩;have n0_:=Aside0.mk (KeepBut.trans kk hk (.inl rfl));have n1_:=Aside0.mk (hb);have n2_:=Aside0.mk (hi);clear HK;clear HB;clear HI0;have HK:=n0_;have HB:=n1_;have HI0:=n2_;clear n0_ n1_ n2_;(try clear hb);(try clear hb2);(try clear hk);(try clear hi))|(go_at_call 53;(with_reducible refine(when_ParseHttp.calls kj15 t205 t213 t214 _ (by first|exact hG|exact gok_below hG (by repeat (first|(with_reducible first|exact HB.out|apply below_alloc|apply pw_below_drewN|apply below_drew1|refine below_set ?_ (IsS73.ge HI0.out))|exact HB.out))|exact gok_heap hG rfl|exact gok_drewN hG _|exact gok_below hG (by repeat (first|exact HB.out|exact HBW.out|exact Below.refl _ _|apply below_alloc|apply pw_below_drewN|apply below_drew1))) A25.out).mono ?_);rintro e w45 ⟨rfl,hb⟩;have n0_:=Aside0.mk (IsS73.below (by repeat (first|(with_reducible first|exact HI0.out|apply IsS73.alloc|apply IsS73.drewN|apply IsS73.drew|apply IsS73.set_0|apply IsS73.set_1)|exact HI0.out)) hb);have n1_:=Aside0.mk (KeepBut.trans kk (KeepBut.of_below hb g none) (.inl rfl));have n2_:=Aside0.mk (below_step (by repeat (first|(with_reducible first|exact HB.out|apply below_alloc|apply pw_below_drewN|apply below_drew1|refine below_set ?_ (IsS73.ge HI0.out))|exact HB.out)) hb);clear HI0;clear HK;clear HB;have HI0:=n0_;have HK:=n1_;have HB:=n2_;clear n0_ n1_ n2_;(try clear hb);(try clear hb2);(try clear hk);(try clear hi)))
           repeat (go_quiet (first|(go_at_call 52;(with_reducible refine(reply_reader_value.calls kj15 g t196 t197 (⟨#[83,101,114,118,101,114,58,32]⟩ : ByteArray) t201 true t203 t204 w0 _ ?side1 ?side2 (by first|exact hG|exact gok_below hG (by repeat (first|(with_reducible first|exact HB.out|apply below_alloc|apply pw_below_drewN|apply below_drew1|refine below_set ?_ (IsS73.ge HI0.out))|exact HB.out))|exact gok_heap hG rfl|exact gok_drewN hG _|exact gok_below hG (by repeat (first|exact HB.out|exact HBW.out|exact Below.refl _ _|apply below_alloc|apply pw_below_drewN|apply below_drew1))) A22.out).mono ?_);(case side1=>repeat (first|(with_reducible first|exact HI0.out|apply IsS73.alloc|apply IsS73.drewN|apply IsS73.drew|apply IsS73.set_0|apply IsS73.set_1)|exact HI0.out));(case side2=>repeat (first|(with_reducible first|exact HB.out|apply below_alloc|apply pw_below_drewN|apply below_drew1|refine below_set ?_ (IsS73.ge HI0.out))|exact HB.out));rintro e w42 ⟨rfl,hi,hb,hk⟩;have n0_:=Aside0.mk (KeepBut.trans kk hk (.inl rfl));have n1_:=Aside0.mk (hb);have n2_:=Aside0.mk (hi);clear HK;clear HB;clear HI0;have HK:=n0_;have HB:=n1_;have HI0:=n2_;clear n0_ n1_ n2_;(try clear hb);(try clear hb2);(try clear hk);(try clear hi))|(go_at_call 52;(with_reducible refine(reply_reader_value.calls kj15 g t203 t204 (⟨#[68,97,116,101,58,32]⟩ : ByteArray) t205 false t207 t208 w0 _ ?side1 ?side2 (by first|exact hG|exact gok_below hG (by repeat (first|(with_reducible first|exact HB.out|apply below_alloc|apply pw_below_drewN|apply below_drew1|refine below_set ?_ (IsS73.ge HI0.out))|exact HB.out))|exact gok_heap hG rfl|exact gok_drewN hG _|exact gok_below hG (by repeat (first|exact HB.out|exact HBW.out|exact Below.refl _ _|apply below_alloc|apply pw_below_drewN|apply below_drew1))) A23.out).mono ?_);(case side1=>repeat (first|(with_reducible first|exact HI0.out|apply IsS73.alloc|apply IsS73.drewN|apply IsS73.drew|apply IsS73.set_0|apply IsS73.set_1)|exact HI0.out));(case side2=>repeat (first|(with_reducible first|exact HB.out|apply below_alloc|apply pw_below_drewN|apply below_drew1|refine below_set ?_ (IsS73.ge HI0.out))|exact HB.out));rintro e w43 ⟨rfl,hi,hb,hk⟩;have n0_:=Aside0.mk (KeepBut.trans kk hk (.inl rfl));have n1_:=Aside0.mk (hb);have n2_:=Aside0.mk (hi);clear HK;clear HB;clear HI0;have HK:=n0_;have HB:=n1_;have HI0:=n2_;clear n0_ n1_ n2_;(try clear hb);(try clear hb2);(try clear hk);(try clear hi))|(go_at_call 52;(with_reducible refine(reply_reader_value.calls kj15 g t207 t208 (⟨#[120,45,97,109,122,45,114,101,113,117,101,115,116,45,105,100,58,32]⟩ : ByteArray) t209 t210 t211 t212 w0 _ ?side1 ?side2 (by first|exact hG|exact gok_below hG (by repeat (first|(with_reducible first|exact HB.out|apply below_alloc|apply pw_below_drewN|apply below_drew1|refine below_set ?_ (IsS73.ge HI0.out))|exact HB.out))|exact gok_heap hG rfl|exact gok_drewN hG _|exact gok_below hG (by repeat (first|exact HB.out|exact HBW.out|exact Below.refl _ _|apply below_alloc|apply pw_below_drewN|apply below_drew1))) A24.out).mono ?_);(case side1=>repeat (first|(with_reducible first|exact HI0.out|apply IsS73.alloc|apply IsS73.drewN|apply IsS73.drew|apply IsS73.set_0|apply IsS73.set_1)|exact HI0.out));(case side2=>repeat (first|(with_reducible first|exact HB.out|apply below_alloc|apply pw_below_drewN|apply below_drew1|refine below_set ?_ (IsS73.ge HI0.out))|exact HB.out));rintro e w44 ⟨rfl,hi,hb,hk⟩;have n0_:=Aside0.mk (KeepBut.trans kk hk (.inl rfl));have n1_:=Aside0.mk (hb);have n2_:=Aside0.mk (hi);clear HK;clear HB;clear HI0;have HK:=n0_;have HB:=n1_;have HI0:=n2_;clear n0_ n1_ n2_;(try clear hb);(try clear hb2);(try clear hk);(try clear hi))|(go_at_call 53;(with_reducible refine(when_ParseHttp.calls kj15 t205 t213 t214 _ (by first|exact hG|exact gok_below hG (by repeat (first|(with_reducible first|exact HB.out|apply below_alloc|apply pw_below_drewN|apply below_drew1|refine below_set ?_ (IsS73.ge HI0.out))|exact HB.out))|exact gok_heap hG rfl|exact gok_drewN hG _|exact gok_below hG (by repeat (first|exact HB.out|exact HBW.out|exact Below.refl _ _|apply below_alloc|apply pw_below_drewN|apply below_drew1))) A25.out).mono ?_);rintro e w45 ⟨rfl,hb⟩;have n0_:=Aside0.mk (IsS73.below (by repeat (first|(with_reducible first|exact HI0.out|apply IsS73.alloc|apply IsS73.drewN|apply IsS73.drew|apply IsS73.set_0|apply IsS73.set_1)|exact HI0.out)) hb);have n1_:=Aside0.mk (KeepBut.trans kk (KeepBut.of_below hb g none) (.inl rfl));have n2_:=Aside0.mk (below_step (by repeat (first|(with_reducible first|exact HB.out|apply below_alloc|apply pw_below_drewN|apply below_drew1|refine below_set ?_ (IsS73.ge HI0.out))|exact HB.out)) hb);clear HI0;clear HK;clear HB;have HI0:=n0_;have HK:=n1_;have HB:=n2_;clear n0_ n1_ n2_;(try clear hb);(try clear hb2);(try clear hk);(try clear hi)));try go_wp2_with (first|(go_at_call 52;(with_reducible refine(reply_reader_value.calls kj15 g t196 t197 (⟨#[83,101,114,118,101,114,58,32]⟩ : ByteArray) t201 true t203 t204 w0 _ ?side1 ?side2 (by first|exact hG|exact gok_below hG (by repeat (first|(with_reducible first|exact HB.out|apply below_alloc|apply pw_below_drewN|apply below_drew1|refine below_set ?_ (IsS73.ge HI0.out))|exact HB.out))|exact gok_heap hG rfl|exact gok_drewN hG _|exact gok_below hG (by repeat (first|exact HB.out|exact HBW.out|exact Below.refl _ _|apply below_alloc|apply pw_below_drewN|apply below_drew1))) A22.out).mono ?_);(case side1=>repeat (first|(with_reducible first|exact HI0.out|apply IsS73.alloc|apply IsS73.drewN|apply IsS73.drew|apply IsS73.set_0|apply IsS73.set_1)|exact HI0.out));(case side2=>repeat (first|(with_reducible first|exact HB.out|apply below_alloc|apply pw_below_drewN|apply below_drew1|refine below_set ?_ (IsS73.ge HI0.out))|exact HB.out));rintro e w42 ⟨rfl,hi,hb,hk⟩;have n0_:=Aside0.mk (KeepBut.trans kk hk (.inl rfl));have n1_:=Aside0.mk (hb);have n2_:=Aside0.mk (hi);clear HK;clear HB;clear HI0;have HK:=n0_;have HB:=n1_;have HI0:=n2_;clear n0_ n1_ n2_;(try clear hb);(try clear hb2);(try clear hk);(try clear hi))|(go_at_call 52;(with_reducible refine(reply_reader_value.calls kj15 g t203 t204 (⟨#[68,97,116,101,58,32]⟩ : ByteArray) t205 false t207 t208 w0 _ ?side1 ?side2 (by first|exact hG|exact gok_below hG (by repeat (first|(with_reducible first|exact HB.out|apply below_alloc|apply pw_below_drewN|apply below_drew1|refine below_set ?_ (IsS73.ge HI0.out))|exact HB.out))|exact gok_heap hG rfl|exact gok_drewN hG _|exact gok_below hG (by repeat (first|exact HB.out|exact HBW.out|exact Below.refl _ _|apply below_alloc|apply pw_below_drewN|apply below_drew1))) A23.out).mono ?_);(case side1=>repeat (first|(with_reducible first|exact HI0.out|apply IsS73.alloc|apply IsS73.drewN|apply IsS73.drew|apply IsS73.set_0|apply IsS73.set_1)|exact HI0.out));(case side2=>repeat (first|(with_reducible first|exact HB.out|apply below_alloc|apply pw_below_drewN|apply below_drew1|refine below_set ?_ (IsS73.ge HI0.out))|exact HB.out));rintro e w43 ⟨rfl,hi,hb,hk⟩;have n0_:=Aside0.mk (KeepBut.trans kk hk (.inl rfl));have n1_:=Aside0.mk (hb);have n2_:=Aside0.mk (hi);clear HK;clear HB;clear HI0;have HK:=n0_;have HB:=n1_;have HI0:=n2_;clear n0_ n1_ n2_;(try clear hb);(try clear hb2);(try clear hk);(try clear hi))|(go_at_call 52;(with_reducible refine(reply_reader_value.calls kj15 g t207 t208 (⟨#[120,45,97,109,122,45,114,101,113,117,101,115,116,45,105,100,58,32]⟩ : ByteArray) t209 t210 t211 t212 w0 _ ?side1 ?side2 (by first|exact hG|exact gok_below hG (by repeat (first|(with_reducible first|exact HB.out|apply below_alloc|apply pw_below_drewN|apply below_drew1|refine below_set ?_ (IsS73.ge HI0.out))|exact HB.out))|exact gok_heap hG rfl|exact gok_drewN hG _|exact gok_below hG (by repeat (first|exact HB.out|exact HBW.out|exact Below.refl _ _|apply below_alloc|apply pw_below_drewN|apply below_drew1))) A24.out).mono ?_);(case side1=>repeat (first|(with_reducible first|exact HI0.out|apply IsS73.alloc|apply IsS73.drewN|apply IsS73.drew|apply IsS73.set_0|apply IsS73.set_1)|exact HI0.out));(case side2=>repeat (first|(with_reducible first|exact HB.out|apply below_alloc|apply pw_below_drewN|apply below_drew1|refine below_set ?_ (IsS73.ge HI0.out))|exact HB.out));rintro e w44 ⟨rfl,hi,hb,hk⟩;have n0_:=Aside0.mk (KeepBut.trans kk hk (.inl rfl));have n1_:=Aside0.mk (hb);have n2_:=Aside0.mk (hi);clear HK;clear HB;clear HI0;have HK:=n0_;have HB:=n1_;have HI0:=n2_;clear n0_ n1_ n2_;(try clear hb);(try clear hb2);(try clear hk);(try clear hi))|(go_at_call 53;(with_reducible refine(when_ParseHttp.calls kj15 t205 t213 t214 _ (by first|exact hG|exact gok_below hG (by repeat (first|(with_reducible first|exact HB.out|apply below_alloc|apply pw_below_drewN|apply below_drew1|refine below_set ?_ (IsS73.ge HI0.out))|exact HB.out))|exact gok_heap hG rfl|exact gok_drewN hG _|exact gok_below hG (by repeat (first|exact HB.out|exact HBW.out|exact Below.refl _ _|apply below_alloc|apply pw_below_drewN|apply below_drew1))) A25.out).mono ?_);rintro e w45 ⟨rfl,hb⟩;have n0_:=Aside0.mk (IsS73.below (by repeat (first|(with_reducible first|exact HI0.out|apply IsS73.alloc|apply IsS73.drewN|apply IsS73.drew|apply IsS73.set_0|apply IsS73.set_1)|exact HI0.out)) hb);have n1_:=Aside0.mk (KeepBut.trans kk (KeepBut.of_below hb g none) (.inl rfl));have n2_:=Aside0.mk (below_step (by repeat (first|(with_reducible first|exact HB.out|apply below_alloc|apply pw_below_drewN|apply below_drew1|refine below_set ?_ (IsS73.ge HI0.out))|exact HB.out)) hb);clear HI0;clear HK;clear HB;have HI0:=n0_;have HK:=n1_;have HB:=n2_;clear n0_ n1_ n2_;(try clear hb);(try clear hb2);(try clear hk);(try clear hi))))
           go_ret2
           exact⟨by first|rfl|(simp [errW_none,errW_some] <;> rfl)|(simp [*,errW_none,errW_some] <;> rfl),by repeat (first|(with_reducible first|exact HI0.out|apply IsS73.alloc|apply IsS73.drewN|apply IsS73.drew|apply IsS73.set_0|apply IsS73.set_1)|exact HI0.out),by repeat (first|(with_reducible first|exact HB.out|apply below_alloc|apply pw_below_drewN|apply below_drew1|refine below_set ?_ (IsS73.ge HI0.out))|exact HB.out),kk⟩
         ·replace c26:=Bool.eq_false_iff.mpr c26
          subst c26
          replace H:=itF H
          simp only [Option.some.injEq,Prod.mk.injEq] at H
          obtain⟨rfl,rfl,rfl,rfl⟩:=H
          go_wp2_with (first|(go_at_call 52;(with_reducible refine(reply_reader_value.calls kj15 g t196 t197 (⟨#[83,101,114,118,101,114,58,32]⟩ : ByteArray) t201 false t203 t204 w0 _ ?side1 ?side2 (by first|exact hG|exact gok_below hG (by repeat (first|(with_reducible first|exact HB.out|apply below_alloc|apply pw_below_drewN|apply below_drew1|refine below_set ?_ (IsS73.ge HI0.out))|exact HB.out))|exact gok_heap hG rfl|exact gok_drewN hG _|exact gok_below hG (by repeat (first|exact HB.out|exact HBW.out|exact Below.refl _ _|apply below_alloc|apply pw_below_drewN|apply below_drew1))) A22.out).mono ?_);(case side1=>repeat (first|(with_reducible first|exact HI0.out|apply IsS73.alloc|apply IsS73.drewN|apply IsS73.drew|apply IsS73.set_0|apply IsS73.set_1)|exact HI0.out));(case side2=>repeat (first|(with_reducible first|exact HB.out|apply below_alloc|apply pw_below_drewN|apply below_drew1|refine below_set ?_ (IsS73.ge HI0.out))|exact HB.out));rintro e w46 ⟨rfl,hi,hb,hk⟩;have n0_:=Aside0.mk (KeepBut.trans kk hk (.inl rfl));have n1_:=Aside0.mk (hb);have n2_:=Aside0.mk (hi);clear HK;clear HB;clear HI0;have HK:=n0_;have HB:=n1_;have HI0:=n2_;clear n0_ n1_ n2_;(try clear hb);(try clear hb2);(try clear hk);(try clear hi))|(go_at_call 52;(with_reducible refine(reply_reader_value.calls kj15 g t203 t204 (⟨#[68,97,116,101,58,32]⟩ : ByteArray) t205 t206 t207 t208 w0 _ ?side1 ?side2 (by first|exact hG|exact gok_below hG (by repeat (first|(with_reducible first|exact HB.out|apply below_alloc|apply pw_below_drewN|apply below_drew1|refine below_set ?_ (IsS73.ge HI0.out))|exact HB.out))|exact gok_heap hG rfl|exact gok_drewN hG _|exact gok_below hG (by repeat (first|exact HB.out|exact HBW.out|exact Below.refl _ _|apply below_alloc|apply pw_below_drewN|apply below_drew1))) A23.out).mono ?_);(case side1=>repeat (first|(with_reducible first|exact HI0.out|apply IsS73.alloc|apply IsS73.drewN|apply IsS73.drew|apply IsS73.set_0|apply IsS73.set_1)|exact HI0.out));(case side2=>repeat (first|(with_reducible first|exact HB.out|apply below_alloc|apply pw_below_drewN|apply below_drew1|refine below_set ?_ (IsS73.ge HI0.out))|exact HB.out));rintro e w47 ⟨rfl,hi,hb,hk⟩;have n0_:=Aside0.mk (KeepBut.trans kk hk (.inl rfl));have n1_:=Aside0.mk (hb);have n2_:=Aside0.mk (hi);clear HK;clear HB;clear HI0;have HK:=n0_;have HB:=n1_;have HI0:=n2_;clear n0_ n1_ n2_;(try clear hb);(try clear hb2);(try clear hk);(try clear hi))|(go_at_call 52;(with_reducible refine(reply_reader_value.calls kj15 g t207 t208 (⟨#[120,45,97,109,122,45,114,101,113,117,101,115,116,45,105,100,58,32]⟩ : ByteArray) t209 t210 t211 t212 w0 _ ?side1 ?side2 (by first|exact hG|exact gok_below hG (by repeat (first|(with_reducible first|exact HB.out|apply below_alloc|apply pw_below_drewN|apply below_drew1|refine below_set ?_ (IsS73.ge HI0.out))|exact HB.out))|exact gok_heap hG rfl|exact gok_drewN hG _|exact gok_below hG (by repeat (first|exact HB.out|exact HBW.out|exact Below.refl _ _|apply below_alloc|apply pw_below_drewN|apply below_drew1))) A24.out).mono ?_);(case side1=>repeat (first|(with_reducible first|exact HI0.out|apply IsS73.alloc|apply IsS73.drewN|apply IsS73.drew|apply IsS73.set_0|apply IsS73.set_1)|exact HI0.out));(case side2=>repeat (first|(with_reducible first|exact HB.out|apply below_alloc|apply pw_below_drewN|apply below_drew1|refine below_set ?_ (IsS73.ge HI0.out))|exact HB.out));rintro e w48 ⟨rfl,hi,hb,hk⟩;have n0_:=Aside0.mk (KeepBut.trans kk hk (.inl rfl));have n1_:=Aside0.mk (hb);have n2_:=Aside0.mk (hi);clear HK;clear HB;clear HI0;have HK:=n0_;have HB:=n1_;have HI0:=n2_;clear n0_ n1_ n2_;(try clear hb);(try clear hb2);(try clear hk);(try clear hi))|(go_at_call 53;(with_reducible refine(when_ParseHttp.calls kj15 t205 t213 t214 _ (by first|exact hG|exact gok_below hG (by repeat (first|(with_reducible first|exact HB.out|apply below_alloc|apply pw_below_drewN|apply below_drew1|refine below_set ?_ (IsS73.ge HI0.out))|exact HB.out))|exact gok_heap hG rfl|exact gok_drewN hG _|exact gok_below hG (by repeat (first|exact HB.out|exact HBW.out|exact Below.refl _ _|apply below_alloc|apply pw_below_drewN|apply below_drew1))) A25.out).mono ?_);rintro e w49 ⟨rfl,hb⟩;have n0_:=Aside0.mk (IsS73.below (by repeat (first|(with_reducible first|exact HI0.out|apply IsS73.alloc|apply IsS73.drewN|apply IsS73.drew|apply IsS73.set_0|apply IsS73.set_1)|exact HI0.out)) hb);have n1_:=Aside0.mk (KeepBut.trans kk (KeepBut.of_below hb g none) (.inl rfl));have n2_:=Aside0.mk (below_step (by repeat (first|(with_reducible first|exact HB.out|apply below_alloc|apply pw_below_drewN|apply below_drew1|refine below_set ?_ (IsS73.ge HI0.out))|exact HB.out)) hb);clear HI0;clear HK;clear HB;have HI0:=n0_;have HK:=n1_;have HB:=n2_;clear n0_ n1_ n2_;(try clear hb);(try clear hb2);(try clear hk);(try clear hi)))
          repeat (go_quiet (first|(go_at_call 52;(with_reducible refine(reply_reader_value.calls kj15 g t196 t197 (⟨#[83,101,114,118,101,114,58,32]⟩ : ByteArray) t201 false t203 t204 w0 _ ?side1 ?side2 (by first|exact hG|exact gok_below hG (by repeat (first|(with_reducible first|exact HB.out|apply below_alloc|apply pw_below_drewN|apply below_drew1|refine below_set ?_ (IsS73.ge HI0.out))|exact HB.out))|exact gok_heap hG rfl|exact gok_drewN hG _|exact gok_below hG (by repeat (first|exact HB.out|exact HBW.out|exact Below.refl _ _|apply below_alloc|apply pw_below_drewN|apply below_drew1))) A22.out).mono ?_);(case side1=>repeat (first|(with_reducible first|exact HI0.out|apply IsS73.alloc|apply IsS73.drewN|apply IsS73.drew|apply IsS73.set_0|apply IsS73.set_1)|exact HI0.out));(case side2=>repeat (first|(with_reducible first|exact HB.out|apply below_alloc|apply pw_below_drewN|apply below_drew1|refine below_set ?_ (IsS73.ge HI0.out))|exact HB.out));rintro e w46 ⟨rfl,hi,hb,hk⟩;have n0_:=Aside0.mk (KeepBut.trans kk hk (.inl rfl));have n1_:=Aside0.mk (hb);have n2_:=Aside0.mk (hi);clear HK;clear HB;clear HI0;have HK:=n0_;have HB:=n1_;have HI0:=n2_;clear n0_ n1_ n2_;(try clear hb);(try clear hb2);(try clear hk);(try clear hi))|(go_at_call 52;(with_reducible refine(reply_reader_value.calls kj15 g t203 t204 (⟨#[68,97,116,101,58,32]⟩ : ByteArray) t205 t206 t207 t208 w0 _ ?side1 ?side2 (by first|exact hG|exact gok_below hG (by repeat (first|(with_reducible first|exact HB.out|apply below_alloc|apply pw_below_drewN|apply below_drew1|refine below_set ?_ (IsS73.ge HI0.out))|exact HB.out))|exact gok_heap hG rfl|exact gok_drewN hG _|exact gok_below hG (by repeat (first|exact HB.out|exact HBW.out|exact Below.refl _ _|apply below_alloc|apply pw_below_drewN|apply below_drew1))) A23.out).mono ?_);(case side1=>repeat (first|(with_reducible first|exact HI0.out|apply IsS73.alloc|apply IsS73.drewN|apply IsS73.drew|apply IsS73.set_0|apply IsS73.set_1)|exact HI0.out));(case side2=>repeat (first|(with_reducible first|exact HB.out|apply below_alloc|apply pw_below_drewN|apply below_drew1|refine below_set ?_ (IsS73.ge HI0.out))|exact HB.out));rintro e w47 ⟨rfl,hi,hb,hk⟩;have n0_:=Aside0.mk (KeepBut.trans kk hk (.inl rfl));have n1_:=Aside0.mk (hb);have n2_:=Aside0.mk (hi);clear HK;clear HB;clear HI0;have HK:=n0_;have HB:=n1_;have HI0:=n2_;clear n0_ n1_ n2_;(try clear hb);(try clear hb2);(try clear hk);(try clear hi))|(go_at_call 52;(with_reducible refine(reply_reader_value.calls kj15 g t207 t208 (⟨#[120,45,97,109,122,45,114,101,113,117,101,115,116,45,105,100,58,32]⟩ : ByteArray) t209 t210 t211 t212 w0 _ ?side1 ?side2 (by first|exact hG|exact gok_below hG (by repeat (first|(with_reducible first|exact HB.out|apply below_alloc|apply pw_below_drewN|apply below_drew1|refine below_set ?_ (IsS73.ge HI0.out))|exact HB.out))|exact gok_heap hG rfl|exact gok_drewN hG _|exact gok_below hG (by repeat (first|exact HB.out|exact HBW.out|exact Below.refl _ _|apply below_alloc|apply pw_below_drewN|apply below_drew1))) A24.out).mono ?_);(case side1=>repeat (first|(with_reducible first|exact HI0.out|apply IsS73.alloc|apply IsS73.drewN|apply IsS73.drew|apply IsS73.set_0|apply IsS73.set_1)|exact HI0.out));(case side2=>repeat (first|(with_reducible first|exact HB.out|apply below_alloc|apply pw_below_drewN|apply below_drew1|refine below_set ?_ (IsS73.ge HI0.out))|exact HB.out));rintro e w48 ⟨rfl,hi,hb,hk⟩;have n0_:=Aside0.mk (KeepBut.trans kk hk (.inl rfl));have n1_:=Aside0.mk (hb);have n2_:=Aside0.mk (hi);clear HK;clear HB;clear HI0;have HK:=n0_;have HB:=n1_;have HI0:=n2_;clear n0_ n1_ n2_;(try clear hb);(try clear hb2);(try clear hk);(try clear hi))|(go_at_call 53;(with_reducible refine(when_ParseHttp.calls kj15 t205 t213 t214 _ (by first|exact hG|exact gok_below hG (by repeat (first|(with_reducible first|exact HB.out|apply below_alloc|apply pw_below_drewN|apply below_drew1|refine below_set ?_ (IsS73.ge HI0.out))|exact HB.out))|exact gok_heap hG rfl|exact gok_drewN hG _|exact gok_below hG (by repeat (first|exact HB.out|exact HBW.out|exact Below.refl _ _|apply below_alloc|apply pw_below_drewN|apply below_drew1))) A25.out).mono ?_);rintro e w49 ⟨rfl,hb⟩;have n0_:=Aside0.mk (IsS73.below (by repeat (first|(with_reducible first|exact HI0.out|apply IsS73.alloc|apply IsS73.drewN|apply IsS73.drew|apply IsS73.set_0|apply IsS73.set_1)|exact HI0.out)) hb);have n1_:=Aside0.mk (KeepBut.trans kk (KeepBut.of_below hb g none) (.inl rfl));have n2_:=Aside0.mk (below_step (by repeat (first|(with_reducible first|exact HB.out|apply below_alloc|apply pw_below_drewN|apply below_drew1|refine below_set ?_ (IsS73.ge HI0.out))|exact HB.out)) hb);clear HI0;clear HK;clear HB;have HI0:=n0_;have HK:=n1_;have HB:=n2_;clear n0_ n1_ n2_;(try clear hb);(try clear hb2);(try clear hk);(try clear hi)));try go_wp2_with (first|(go_at_call 52;(with_reducible refine(reply_reader_value.calls kj15 g t196 t197 (⟨#[83,101,114,118,101,114,58,32]⟩ : ByteArray) t201 false t203 t204 w0 _ ?side1 ?side2 (by first|exact hG|exact gok_below hG (by repeat (first|(with_reducible first|exact HB.out|apply below_alloc|apply pw_below_drewN|apply below_drew1|refine below_set ?_ (IsS73.ge HI0.out))|exact HB.out))|exact gok_heap hG rfl|exact gok_drewN hG _|exact gok_below hG (by repeat (first|exact HB.out|exact HBW.out|exact Below.refl _ _|apply below_alloc|apply pw_below_drewN|apply below_drew1))) A22.out).mono ?_);(case side1=>repeat (first|(with_reducible first|exact HI0.out|apply IsS73.alloc|apply IsS73.drewN|apply IsS73.drew|apply IsS73.set_0|apply IsS73.set_1)|exact HI0.out));(case side2=>repeat (first|(with_reducible first|exact HB.out|apply below_alloc|apply pw_below_drewN|apply below_drew1|refine below_set ?_ (IsS73.ge HI0.out))|exact HB.out));rintro e w46 ⟨rfl,hi,hb,hk⟩;have n0_:=Aside0.mk (KeepBut.trans kk hk (.inl rfl));have n1_:=Aside0.mk (hb);have n2_:=Aside0.mk (hi);clear HK;clear HB;clear HI0;have HK:=n0_;have HB:=n1_;have HI0:=n2_;clear n0_ n1_ n2_;(try clear hb);(try clear hb2);(try clear hk);(try clear hi))|(go_at_call 52;(with_reducible refine(reply_reader_value.calls kj15 g t203 t204 (⟨#[68,97,116,101,58,32]⟩ : ByteArray) t205 t206 t207 t208 w0 _ ?side1 ?side2 (by first|exact hG|exact gok_below hG (by repeat (first|(with_reducible first|exact HB.out|apply below_alloc|apply pw_below_drewN|apply below_drew1|refine below_set ?_ (IsS73.ge HI0.out))|exact HB.out))|exact gok_heap hG rfl|exact gok_drewN hG _|exact gok_below hG (by repeat (first|exact HB.out|exact HBW.out|exact Below.refl _ _|apply below_alloc|apply pw_below_drewN|apply below_drew1))) A23.out).mono ?_);(case side1=>repeat (first|(with_reducible first|exact HI0.out|apply IsS73.alloc|apply IsS73.drewN|apply IsS73.drew|apply IsS73.set_0|apply IsS73.set_1)|exact HI0.out));(case side2=>repeat (first|(with_reducible first|exact HB.out|apply below_alloc|apply pw_below_drewN|apply below_drew1|refine below_set ?_ (IsS73.ge HI0.out))|exact HB.out));rintro e w47 ⟨rfl,hi,hb,hk⟩;have n0_:=Aside0.mk (KeepBut.trans kk hk (.inl rfl));have n1_:=Aside0.mk (hb);have n2_:=Aside0.mk (hi);clear HK;clear HB;clear HI0;have HK:=n0_;have HB:=n1_;have HI0:=n2_;clear n0_ n1_ n2_;(try clear hb);(try clear hb2);(try clear hk);(try clear hi))|(go_at_call 52;(with_reducible refine(reply_reader_value.calls kj15 g t207 t208 (⟨#[120,45,97,109,122,45,114,101,113,117,101,115,116,45,105,100,58,32]⟩ : ByteArray) t209 t210 t211 t212 w0 _ ?side1 ?side2 (by first|exact hG|exact gok_below hG (by repeat (first|(with_reducible first|exact HB.out|apply below_alloc|apply pw_below_drewN|apply below_drew1|refine below_set ?_ (IsS73.ge HI0.out))|exact HB.out))|exact gok_heap hG rfl|exact gok_drewN hG _|exact gok_below hG (by repeat (first|exact HB.out|exact HBW.out|exact Below.refl _ _|apply below_alloc|apply pw_below_drewN|apply below_drew1))) A24.out).mono ?_);(case side1=>repeat (first|(with_reducible first|exact HI0.out|apply IsS73.alloc|apply IsS73.drewN|apply IsS73.drew|apply IsS73.set_0|apply IsS73.set_1)|exact HI0.out));(case side2=>repeat (first|(with_reducible first|exact HB.out|apply below_alloc|apply pw_below_drewN|apply below_drew1|refine below_set ?_ (IsS73.ge HI0.out))|exact HB.out));rintro e w48 ⟨rfl,hi,hb,hk⟩;have n0_:=Aside0.mk (KeepBut.trans kk hk (.inl rfl));have n1_:=Aside0.mk (hb);have n2_:=Aside0.mk (hi);clear HK;clear HB;clear HI0;have HK:=n0_;have HB:=n1_;have HI0:=n2_;clear n0_ n1_ n2_;(try clear hb);(try clear hb2);(try clear hk);(try clear hi))|(go_at_call 53;(with_reducible refine(when_ParseHttp.calls kj15 t205 t213 t214 _ (by first|exact hG|exact gok_below hG (by repeat (first|(with_reducible first|exact HB.out|apply below_alloc|apply pw_below_drewN|apply below_drew1|refine below_set ?_ (IsS73.ge HI0.out))|exact HB.out))|exact gok_heap hG rfl|exact gok_drewN hG _|exact gok_below hG (by repeat (first|exact HB.out|exact HBW.out|exact Below.refl _ _|apply below_alloc|apply pw_below_drewN|apply below_drew1))) A25.out).mono ?_);rintro e w49 ⟨rfl,hb⟩;have n0_:=Aside0.mk (IsS73.below (by repeat (first|(with_reducible first|exact HI0.out|apply IsS73.alloc|apply IsS73.drewN|apply IsS73.drew|apply IsS73.set_0|apply IsS73.set_1)|exact HI0.out)) hb);have n1_:=Aside0.mk (KeepBut.trans kk (KeepBut.of_below hb g none) (.inl rfl));have n2_:=Aside0.mk (below_step (by repeat (first|(with_reducible first|exact HB.out|apply below_alloc|apply pw_below_drewN|apply below_drew1|refine below_set ?_ (IsS73.ge HI0.out))|exact HB.out)) hb);clear HI0;clear HK;clear HB;have HI0:=n0_;have HK:=n1_;have HB:=n2_;clear n0_ n1_ n2_;(try clear hb);(try clear hb2);(try clear hk);(try clear hi))))
          go_ret2
          exact⟨by first|rfl|(simp [errW_none,errW_some] <;> rfl)|(simp [*,errW_none,errW_some] <;> rfl),by repeat (first|(with_reducible first|exact HI0.out|apply IsS73.alloc|apply IsS73.drewN|apply IsS73.drew|apply IsS73.set_0|apply IsS73.set_1)|exact HI0.out),by repeat (first|(with_reducible first|exact HB.out|apply below_alloc|apply pw_below_drewN|apply below_drew1|refine below_set ?_ (IsS73.ge HI0.out))|exact HB.out),kk⟩
     ·exact absurd H (by simp)
    ·exact absurd H (by simp)
def stringslite_Cut.f (a0:ByteArray) (a1:ByteArray):Option (ByteArray×ByteArray×Bool):=(stringslite_Index.f a0 a1).bind fun t215=>(if t215 ≥ 0 then(if 0≤t215 then(if t215≤(a0.size:Int) then(if 0≤(wrap64 (t215+(a1.size:Int))) then(if(wrap64 (t215+(a1.size:Int)))≤(a0.size:Int) then(some (a0.extract 0 (t215:Int).toNat,a0.extract ((wrap64 (t215+(a1.size:Int))):Int).toNat a0.size,true)) else(none)) else(none)) else(none)) else(none)) else(some (a0,(⟨#[]⟩ : ByteArray),false)))
theorem stringslite_Cut.calls (a0:ByteArray) (a1:ByteArray) (r1:ByteArray) (r2:ByteArray) (r3:Bool) (w:World) (hG:GOk w) (h:stringslite_Cut.f a0 a1=some (r1,r2,r3)) :
  Calls Tryd.prog 80 #[.string a0,.string a1] w fun e w'=>e = .returned (.tuple #[.string r1,.string r2,.bool r3])∧Drawn0 w w':=by
 unfold stringslite_Cut.f at h
 have H:=h
 clear h
 replace H:=bndO H
 obtain⟨t215,A30,H⟩:=H
 have A3:=Aside0.mk A30
 clear A30
 replace H:=itO H
 rcases H with⟨c4,H⟩|⟨c4,H⟩
 ·skip
  have c4b0:decide (0≤t215)=true:=decide_eq_true c4
  clear c4
  replace H:=itO H
  rcases H with⟨c5,H⟩|⟨c5,H⟩
  ·skip
   have c5b0:=eq_true c5
   have c5b1:=decide_eq_true c5
   clear c5
   replace H:=itO H
   rcases H with⟨c6,H⟩|⟨c6,H⟩
   ·skip
    have c6b0:=eq_true c6
    have c6b1:=decide_eq_true c6
    clear c6
    obtain⟨ji7,hji7⟩ : ∃ j_:Int,(wrap64 (t215+(a1.size:Int)))=j_:=⟨_,rfl⟩
    first|rw [hji7] at H|simp only [hji7] at H
    (try rw [hji7] at A3)
    have hji7w:(IntKind.i64.wrap (t215+(a1.size:Int)))=ji7:=(i64_w _).trans hji7
    replace H:=itO H
    rcases H with⟨c8,H⟩|⟨c8,H⟩
    ·skip
     have c8b0:=eq_true c8
     have c8b1:=decide_eq_true c8
     clear c8
     replace H:=itO H
     rcases H with⟨c9,H⟩|⟨c9,H⟩
     ·skip
      have c9b0:=eq_true c9
      have c9b1:=decide_eq_true c9
      clear c9
      simp only [Option.some.injEq,Prod.mk.injEq] at H
      obtain⟨rfl,rfl,rfl⟩:=H
      go_enter Tryd.func80,Tryd.ntmps80
      go_wp2_with (first|(go_at_call 93;(with_reducible refine(stringslite_Index.calls a0 a1 t215 _ (by first|exact hG|exact gok_below hG (by repeat (first|(with_reducible first|exact HB.out|apply below_alloc|apply pw_below_drewN|apply below_drew1)|exact HB.out))|exact gok_heap hG rfl|exact gok_drewN hG _|exact gok_below hG (by repeat (first|exact HB.out|exact HBW.out|exact Below.refl _ _|apply below_alloc|apply pw_below_drewN|apply below_drew1))) A3.out).mono ?_);rintro e w' ⟨rfl,⟨nd,rfl⟩⟩;(try first|exact⟨rfl,_,World.drewN_drewN _ _ _⟩|exact⟨rfl,_,Eq.trans (World.drewN_drewN _ _ _) (congrArg (World.drewN _) (Nat.add_assoc _ _ _))⟩)))
      repeat (go_quiet (first|(go_at_call 93;(with_reducible refine(stringslite_Index.calls a0 a1 t215 _ (by first|exact hG|exact gok_below hG (by repeat (first|(with_reducible first|exact HB.out|apply below_alloc|apply pw_below_drewN|apply below_drew1)|exact HB.out))|exact gok_heap hG rfl|exact gok_drewN hG _|exact gok_below hG (by repeat (first|exact HB.out|exact HBW.out|exact Below.refl _ _|apply below_alloc|apply pw_below_drewN|apply below_drew1))) A3.out).mono ?_);rintro e w' ⟨rfl,⟨nd,rfl⟩⟩;(try first|exact⟨rfl,_,World.drewN_drewN _ _ _⟩|exact⟨rfl,_,Eq.trans (World.drewN_drewN _ _ _) (congrArg (World.drewN _) (Nat.add_assoc _ _ _))⟩)));try go_wp2_with (first|(go_at_call 93;(with_reducible refine(stringslite_Index.calls a0 a1 t215 _ (by first|exact hG|exact gok_below hG (by repeat (first|(with_reducible first|exact HB.out|apply below_alloc|apply pw_below_drewN|apply below_drew1)|exact HB.out))|exact gok_heap hG rfl|exact gok_drewN hG _|exact gok_below hG (by repeat (first|exact HB.out|exact HBW.out|exact Below.refl _ _|apply below_alloc|apply pw_below_drewN|apply below_drew1))) A3.out).mono ?_);rintro e w' ⟨rfl,⟨nd,rfl⟩⟩;(try first|exact⟨rfl,_,World.drewN_drewN _ _ _⟩|exact⟨rfl,_,Eq.trans (World.drewN_drewN _ _ _) (congrArg (World.drewN _) (Nat.add_assoc _ _ _))⟩))))
      go_ret3
      exact⟨by first|rfl|(simp;done)|(simp only [← hji7] <;> (first|rfl|simp))|(simp [*];done),by repeat (first|exact Drawn0.refl _|apply Drawn0.step)⟩
     ·exact absurd H (by simp)
    ·exact absurd H (by simp)
   ·exact absurd H (by simp)
  ·exact absurd H (by simp)
 ·skip
  have c4b0:decide (0≤t215)=false:=decide_eq_false c4
  clear c4
  simp only [Option.some.injEq,Prod.mk.injEq] at H
  obtain⟨rfl,rfl,rfl⟩:=H
  go_enter Tryd.func80,Tryd.ntmps80
  go_wp2_with (first|(go_at_call 93;(with_reducible refine(stringslite_Index.calls a0 a1 t215 _ (by first|exact hG|exact gok_below hG (by repeat (first|(with_reducible first|exact HB.out|apply below_alloc|apply pw_below_drewN|apply below_drew1)|exact HB.out))|exact gok_heap hG rfl|exact gok_drewN hG _|exact gok_below hG (by repeat (first|exact HB.out|exact HBW.out|exact Below.refl _ _|apply below_alloc|apply pw_below_drewN|apply below_drew1))) A3.out).mono ?_);rintro e w' ⟨rfl,⟨nd,rfl⟩⟩;(try first|exact⟨rfl,_,World.drewN_drewN _ _ _⟩|exact⟨rfl,_,Eq.trans (World.drewN_drewN _ _ _) (congrArg (World.drewN _) (Nat.add_assoc _ _ _))⟩)))
  repeat (go_quiet (first|(go_at_call 93;(with_reducible refine(stringslite_Index.calls a0 a1 t215 _ (by first|exact hG|exact gok_below hG (by repeat (first|(with_reducible first|exact HB.out|apply below_alloc|apply pw_below_drewN|apply below_drew1)|exact HB.out))|exact gok_heap hG rfl|exact gok_drewN hG _|exact gok_below hG (by repeat (first|exact HB.out|exact HBW.out|exact Below.refl _ _|apply below_alloc|apply pw_below_drewN|apply below_drew1))) A3.out).mono ?_);rintro e w' ⟨rfl,⟨nd,rfl⟩⟩;(try first|exact⟨rfl,_,World.drewN_drewN _ _ _⟩|exact⟨rfl,_,Eq.trans (World.drewN_drewN _ _ _) (congrArg (World.drewN _) (Nat.add_assoc _ _ _))⟩)));try go_wp2_with (first|(go_at_call 93;(with_reducible refine(stringslite_Index.calls a0 a1 t215 _ (by first|exact hG|exact gok_below hG (by repeat (first|(with_reducible first|exact HB.out|apply below_alloc|apply pw_below_drewN|apply below_drew1)|exact HB.out))|exact gok_heap hG rfl|exact gok_drewN hG _|exact gok_below hG (by repeat (first|exact HB.out|exact HBW.out|exact Below.refl _ _|apply below_alloc|apply pw_below_drewN|apply below_drew1))) A3.out).mono ?_);rintro e w' ⟨rfl,⟨nd,rfl⟩⟩;(try first|exact⟨rfl,_,World.drewN_drewN _ _ _⟩|exact⟨rfl,_,Eq.trans (World.drewN_drewN _ _ _) (congrArg (World.drewN _) (Nat.add_assoc _ _ _))⟩))))
  go_ret3
  exact⟨by first|rfl|(simp;done)|(simp [*];done),by repeat (first|exact Drawn0.refl _|apply Drawn0.step)⟩
def strings_Cut.f (a0:ByteArray) (a1:ByteArray):Option (ByteArray×ByteArray×Bool):=(stringslite_Cut.f a0 a1).bind fun bt216=>(some (bt216.1,bt216.2.1,bt216.2.2))
theorem strings_Cut.calls (a0:ByteArray) (a1:ByteArray) (r1:ByteArray) (r2:ByteArray) (r3:Bool) (w:World) (hG:GOk w) (h:strings_Cut.f a0 a1=some (r1,r2,r3)) :
  Calls Tryd.prog 54 #[.string a0,.string a1] w fun e w'=>e = .returned (.tuple #[.string r1,.string r2,.bool r3])∧Drawn0 w w':=by
 unfold strings_Cut.f at h
 have H:=h
 clear h
 replace H:=bndO H
 obtain⟨⟨t216,t217,t218⟩,A30,H⟩:=H
 dsimp only at H
 have A3:=Aside0.mk A30
 clear A30
 simp only [Option.some.injEq,Prod.mk.injEq] at H
 obtain⟨rfl,rfl,rfl⟩:=H
 go_enter Tryd.func54,Tryd.ntmps54
 go_wp2_with (first|((with_reducible refine gate_callee (f:=80) rfl ?_);refine goesL_ (some 9) rfl rfl Tryd.func80 (by kernel_rfl) rfl #[.string a0,.string a1] rfl (by(try simp only [List.map_toArray,List.map_cons,List.map_nil]);first|done|rfl|(simp only [List.length_drop,List.length_take];rfl)) ?_;(with_reducible refine(stringslite_Cut.calls a0 a1 t216 t217 t218 _ (by first|exact hG|exact gok_below hG (by repeat (first|(with_reducible first|exact HB.out|apply below_alloc|apply pw_below_drewN|apply below_drew1)|exact HB.out))|exact gok_heap hG rfl|exact gok_drewN hG _|exact gok_below hG (by repeat (first|exact HB.out|exact HBW.out|exact Below.refl _ _|apply below_alloc|apply pw_below_drewN|apply below_drew1))) A3.out).mono ?_);rintro e w' ⟨rfl,⟨nd,rfl⟩⟩;refine⟨_,rfl,?_⟩))
 go_ret3
 exact⟨by first|rfl|(simp;done)|(simp [*];done),by repeat (first|exact Drawn0.refl _|apply Drawn0.step)⟩
def chars_letter.f (a0:Int):Option (Bool):=if a0 ≥ 65 then(if a0≤90 then(some true) else(if a0 ≥ 97 then(if a0≤122 then(some true) else(if a0 ≥ 48 then(some (decide (a0≤57))) else(some false))) else(if a0 ≥ 48 then(some (decide (a0≤57))) else(some false)))) else(if a0 ≥ 97 then(if a0≤122 then(some true) else(if a0 ≥ 48 then(some (decide (a0≤57))) else(some false))) else(if a0 ≥ 48 then(some (decide (a0≤57))) else(some false)))
theorem chars_letter.calls (a0:Int) (r:Bool) (w:World) (h:chars_letter.f a0=some r) :
  Calls Tryd.prog 81 #[.int .u8 a0] w fun e w'=>e = .returned (.bool r)∧Drawn0 w w':=by
 unfold chars_letter.f at h
 have H:=h
 clear h
 replace H:=itO H
 rcases H with⟨c2,H⟩|⟨c2,H⟩
 ·skip
  have c2b0:decide (65≤a0)=true:=decide_eq_true c2
  clear c2
  replace H:=itO H
  rcases H with⟨c3,H⟩|⟨c3,H⟩
  ·skip
   have c3b0:decide (a0≤90)=true:=decide_eq_true c3
   clear c3
   obtain rfl:=Option.some.inj H
   go_enter Tryd.func81,Tryd.ntmps81
   go_wp2
   go_ret
   exact⟨by first|rfl|(simp;done)|(simp [*];done),by repeat (first|exact Drawn0.refl _|apply Drawn0.step)⟩
  ·skip
   have c3b0:decide (a0≤90)=false:=decide_eq_false c3
   clear c3
   replace H:=itO H
   rcases H with⟨c4,H⟩|⟨c4,H⟩
   ·skip
    have c4b0:decide (97≤a0)=true:=decide_eq_true c4
    clear c4
    replace H:=itO H
    rcases H with⟨c5,H⟩|⟨c5,H⟩
    ·skip
     have c5b0:decide (a0≤122)=true:=decide_eq_true c5
     clear c5
     obtain rfl:=Option.some.inj H
     go_enter Tryd.func81,Tryd.ntmps81
     go_wp2
     go_ret
     exact⟨by first|rfl|(simp;done)|(simp [*];done),by repeat (first|exact Drawn0.refl _|apply Drawn0.step)⟩
    ·skip
     have c5b0:decide (a0≤122)=false:=decide_eq_false c5
     clear c5
     replace H:=itO H
     rcases H with⟨c6,H⟩|⟨c6,H⟩
     ·skip
      have c6b0:decide (48≤a0)=true:=decide_eq_true c6
      clear c6
      obtain rfl:=Option.some.inj H
      go_enter Tryd.func81,Tryd.ntmps81
      go_wp2
      go_ret
      exact⟨by first|rfl|(simp;done)|(simp [*];done),by repeat (first|exact Drawn0.refl _|apply Drawn0.step)⟩
     ·skip
      have c6b0:decide (48≤a0)=false:=decide_eq_false c6
      clear c6
      obtain rfl:=Option.some.inj H
      go_enter Tryd.func81,Tryd.ntmps81
      go_wp2
      go_ret
      exact⟨by first|rfl|(simp;done)|(simp [*];done),by repeat (first|exact Drawn0.refl _|apply Drawn0.step)⟩
   ·skip
    have c4b0:decide (97≤a0)=false:=decide_eq_false c4
    clear c4
    replace H:=itO H
    rcases H with⟨c7,H⟩|⟨c7,H⟩
    ·skip
     have c7b0:decide (48≤a0)=true:=decide_eq_true c7
     clear c7
     obtain rfl:=Option.some.inj H
     go_enter Tryd.func81,Tryd.ntmps81
     go_wp2
     go_ret
     exact⟨by first|rfl|(simp;done)|(simp [*];done),by repeat (first|exact Drawn0.refl _|apply Drawn0.step)⟩
    ·skip
     have c7b0:decide (48≤a0)=false:=decide_eq_false c7
     clear c7
     obtain rfl:=Option.some.inj H
     go_enter Tryd.func81,Tryd.ntmps81
     go_wp2
     go_ret
     exact⟨by first|rfl|(simp;done)|(simp [*];done),by repeat (first|exact Drawn0.refl _|apply Drawn0.step)⟩
 ·skip
  have c2b0:decide (65≤a0)=false:=decide_eq_false c2
  clear c2
  replace H:=itO H
  rcases H with⟨c8,H⟩|⟨c8,H⟩
  ·skip
   have c8b0:decide (97≤a0)=true:=decide_eq_true c8
   clear c8
   replace H:=itO H
   rcases H with⟨c9,H⟩|⟨c9,H⟩
   ·skip
    have c9b0:decide (a0≤122)=true:=decide_eq_true c9
    clear c9
    obtain rfl:=Option.some.inj H
    go_enter Tryd.func81,Tryd.ntmps81
    go_wp2
    go_ret
    exact⟨by first|rfl|(simp;done)|(simp [*];done),by repeat (first|exact Drawn0.refl _|apply Drawn0.step)⟩
   ·skip
    have c9b0:decide (a0≤122)=false:=decide_eq_false c9
    clear c9
    replace H:=itO H
    rcases H with⟨c10,H⟩|⟨c10,H⟩
    ·skip
     have c10b0:decide (48≤a0)=true:=decide_eq_true c10
     clear c10
     obtain rfl:=Option.some.inj H
     go_enter Tryd.func81,Tryd.ntmps81
     go_wp2
     go_ret
     exact⟨by first|rfl|(simp;done)|(simp [*];done),by repeat (first|exact Drawn0.refl _|apply Drawn0.step)⟩
    ·skip
     have c10b0:decide (48≤a0)=false:=decide_eq_false c10
     clear c10
     obtain rfl:=Option.some.inj H
     go_enter Tryd.func81,Tryd.ntmps81
     go_wp2
     go_ret
     exact⟨by first|rfl|(simp;done)|(simp [*];done),by repeat (first|exact Drawn0.refl _|apply Drawn0.step)⟩
  ·skip
   have c8b0:decide (97≤a0)=false:=decide_eq_false c8
   clear c8
   replace H:=itO H
   rcases H with⟨c11,H⟩|⟨c11,H⟩
   ·skip
    have c11b0:decide (48≤a0)=true:=decide_eq_true c11
    clear c11
    obtain rfl:=Option.some.inj H
    go_enter Tryd.func81,Tryd.ntmps81
    go_wp2
    go_ret
    exact⟨by first|rfl|(simp;done)|(simp [*];done),by repeat (first|exact Drawn0.refl _|apply Drawn0.step)⟩
   ·skip
    have c11b0:decide (48≤a0)=false:=decide_eq_false c11
    clear c11
    obtain rfl:=Option.some.inj H
    go_enter Tryd.func81,Tryd.ntmps81
    go_wp2
    go_ret
    exact⟨by first|rfl|(simp;done)|(simp [*];done),by repeat (first|exact Drawn0.refl _|apply Drawn0.step)⟩
def strings_IndexByte.f (a0:ByteArray) (a1:Int):Option (Int):=(stringslite_IndexByte.f a0 a1).bind fun t219=>(some t219)
theorem strings_IndexByte.calls (a0:ByteArray) (a1:Int) (r:Int) (w:World) (h:strings_IndexByte.f a0 a1=some r) :
  Calls Tryd.prog 82 #[.string a0,.int .u8 a1] w fun e w'=>e = .returned (.int .i64 r)∧Drawn0 w w':=by
 unfold strings_IndexByte.f at h
 have H:=h
 clear h
 replace H:=bndO H
 obtain⟨t219,A30,H⟩:=H
 have A3:=Aside0.mk A30
 clear A30
 obtain rfl:=Option.some.inj H
 go_enter Tryd.func82,Tryd.ntmps82
 go_wp2_with (first|((with_reducible refine gate_callee (f:=97) rfl ?_);refine goesL_ (some 7) rfl rfl Tryd.func97 (by kernel_rfl) rfl #[.string a0,.int .u8 a1] rfl (by(try simp only [List.map_toArray,List.map_cons,List.map_nil]);first|done|rfl|(simp only [List.length_drop,List.length_take];rfl)) ?_;(with_reducible refine(stringslite_IndexByte.calls a0 a1 t219 _ A3.out).mono ?_);rintro e w' ⟨rfl,⟨nd,rfl⟩⟩;refine⟨_,rfl,?_⟩))
 go_ret
 exact⟨by first|rfl|(simp;done)|(simp [*];done),by repeat (first|exact Drawn0.refl _|apply Drawn0.step)⟩
def chars_Token.l0:Nat→ByteArray→Int→Int→Option (Bool)
 | 0,_,_,_=>none
 | k+1,x0,x5,x6=>if x6<x5 then(if 0≤x6 then(if x6<(x0.size:Int) then((chars_letter.f (bt x0 x6)).bind fun t220=>(if t220=true then(chars_Token.l0 k x0 x5 (wrap64 (x6+1))) else((strings_IndexByte.f (⟨#[33,35,36,37,38,39,42,43,45,46,94,95,96,124,126]⟩ : ByteArray) (bt x0 x6)).bind fun t221=>(if t221<0 then(some false) else(chars_Token.l0 k x0 x5 (wrap64 (x6+1))))))) else(none)) else(none)) else(some (x0.toList != ([]:List UInt8)))
def chars_Token.f (k:Nat) (a0:ByteArray):Option (Bool):=chars_Token.l0 k a0 (a0.size:Int) 0
theorem chars_Token.mono_l:∀ k,(∀ y0 y1 y2,LeO (chars_Token.l0 k y0 y1 y2) (chars_Token.l0 (k+1) y0 y1 y2))
 | 0=>fun _ _ _ r h=>by simp [chars_Token.l0] at h
 | k+1=>by
  have ih0:=chars_Token.mono_l k
  ·intro y0 y1 y2
   unfold chars_Token.l0
   repeat' first
   | (with_reducible exact ih0 _ _ _)
   | (with_reducible exact LeO.refl _)
   | (with_reducible exact LeO.none _)
   | (with_reducible refine LeO.ite ?_ ?_)
   | (with_reducible refine LeO.bind ?_ (fun _=>?_))
   | exact ih0 _ _ _
   | exact LeO.none _
   | refine LeO.ite ?_ ?_
   | refine LeO.bind ?_ (fun _=>?_)
theorem chars_Token.mono:∀ a0 k,LeO (chars_Token.f k a0) (chars_Token.f (k+1) a0):=by
 intro a0 k
 have ih0:=chars_Token.mono_l k
 unfold chars_Token.f
 repeat' first
   | (with_reducible exact ih0 _ _ _)
   | (with_reducible exact LeO.refl _)
   | (with_reducible exact LeO.none _)
   | (with_reducible refine LeO.ite ?_ ?_)
   | (with_reducible refine LeO.bind ?_ (fun _=>?_))
   | exact ih0 _ _ _
   | exact LeO.none _
   | refine LeO.ite ?_ ?_
   | refine LeO.bind ?_ (fun _=>?_)
theorem chars_Token.calls (k:Nat) (a0:ByteArray) (r:Bool) (w:World) (h:chars_Token.f k a0=some r) :
  Calls Tryd.prog 55 #[.string a0] w fun e w'=>e = .returned (.bool r)∧Drawn0 w w':=by
 unfold chars_Token.f at h
 have H:=h
 clear h
 have H':=Aside0.mk H
 clear H
 go_enter Tryd.func55,Tryd.ntmps55
 go_wp2
 go_loopg [6] k (fun kq v6 w'=>∃ (x6_1:Int),v6 = .int .i64 x6_1∧Aside0 (chars_Token.l0 kq a0 (a0.size:Int) x6_1=some r)∧Aside0 (kq≤k)∧Drawn0 w w')
 case atStart=>exact⟨(0),(by first|rfl|(cases a0.toList <;> rfl)|(simp;done)|(simp [*];done)),H',⟨Nat.le_refl _⟩,by repeat (first|exact Drawn0.refl _|apply Drawn0.step)⟩
 case round=>
  clear H'
  obtain⟨x6_1,rfl,HA,HK1,⟨m1,rfl⟩⟩:=hrel
  cases gk with
  | zero=>exact absurd HA.out (by simp [chars_Token.l0])
  | succ k1=>
   have H:=HA.out
   clear HA
   simp only [chars_Token.l0] at H
   replace H:=itO H
   rcases H with⟨c2,H⟩|⟨c2,H⟩
   ·skip
    have c2b0:decide (x6_1<(a0.size:Int))=true:=decide_eq_true c2
    clear c2
    replace H:=itO H
    rcases H with⟨c3,H⟩|⟨c3,H⟩
    ·skip
     have c3b0:decide (0≤x6_1)=true:=decide_eq_true c3
     clear c3
     replace H:=itO H
     rcases H with⟨c4,H⟩|⟨c4,H⟩
     ·skip
      have c4b0:decide (x6_1<(a0.size:Int))=true:=decide_eq_true c4
      clear c4
      replace H:=bndO H
      obtain⟨t220,A60,H⟩:=H
      have A6:=Aside0.mk A60
      clear A60
      by_cases c7:t220=true
      ·subst c7
       replace H:=itT H
       have H':=Aside0.mk H
       clear H
       have p5:0≤(x6_1:Int):=of_decide_eq_true (by first|(with_reducible assumption)|assumption)
       have q5:x6_1<(a0.size:Int):=of_decide_eq_true (by first|(with_reducible assumption)|assumption)
       have hx5:=bt_at a0 x6_1
       replace p5:=eq_true p5
       replace q5:=eq_true q5
       go_wp2_with (first|((with_reducible refine gate_callee (f:=81) rfl ?_);refine goesL_ (some 12) rfl rfl Tryd.func81 (by kernel_rfl) rfl #[.int .u8 (bt a0 x6_1)] rfl (by(try simp only [List.map_toArray,List.map_cons,List.map_nil]);first|done|rfl|(simp only [List.length_drop,List.length_take];rfl)) ?_;(with_reducible refine(chars_letter.calls (bt a0 x6_1) true _ A6.out).mono ?_);rintro e w' ⟨rfl,⟨nd,rfl⟩⟩;refine⟨_,rfl,?_⟩))
       go_roundg k1
       case measure=>have:=HK1.out;omega
       case rel=>exact⟨(wrap64 (x6_1+1)),(by first|rfl|(cases a0.toList <;> rfl)|(simp;done)|(simp [*];done)),H',⟨by have:=HK1.out;omega⟩,by repeat (first|exact Drawn0.refl _|apply Drawn0.step)⟩
      ·replace c7:=Bool.eq_false_iff.mpr c7
       subst c7
       replace H:=itF H
       replace H:=bndO H
       obtain⟨t221,A90,H⟩:=H
       have A9:=Aside0.mk A90
       clear A90
       replace H:=itO H
       rcases H with⟨c10,H⟩|⟨c10,H⟩
       ·skip
        have c10b0:decide (t221<0)=true:=decide_eq_true c10
        clear c10
        obtain rfl:=Option.some.inj H
        have p5:0≤(x6_1:Int):=of_decide_eq_true (by first|(with_reducible assumption)|assumption)
        have q5:x6_1<(a0.size:Int):=of_decide_eq_true (by first|(with_reducible assumption)|assumption)
        have hx5:=bt_at a0 x6_1
        replace p5:=eq_true p5
        replace q5:=eq_true q5
        go_wp2_with (first|((with_reducible refine gate_callee (f:=81) rfl ?_);refine goesL_ (some 12) rfl rfl Tryd.func81 (by kernel_rfl) rfl #[.int .u8 (bt a0 x6_1)] rfl (by(try simp only [List.map_toArray,List.map_cons,List.map_nil]);first|done|rfl|(simp only [List.length_drop,List.length_take];rfl)) ?_;(with_reducible refine(chars_letter.calls (bt a0 x6_1) false _ A6.out).mono ?_);rintro e w' ⟨rfl,⟨nd,rfl⟩⟩;refine⟨_,rfl,?_⟩;have p8:0≤(x6_1:Int):=of_decide_eq_true (by first|(with_reducible assumption)|assumption);have q8:x6_1<(a0.size:Int):=of_decide_eq_true (by first|(with_reducible assumption)|assumption);have hx8:=bt_at a0 x6_1;replace p8:=eq_true p8;replace q8:=eq_true q8)|(go_at_call 82;(with_reducible refine(strings_IndexByte.calls (⟨#[33,35,36,37,38,39,42,43,45,46,94,95,96,124,126]⟩ : ByteArray) (bt a0 x6_1) t221 _ A9.out).mono ?_);rintro e w' ⟨rfl,⟨nd,rfl⟩⟩))
        go_ret
        exact⟨by first|rfl|(cases a0.toList <;> rfl)|(simp;done)|(simp [*];done),by repeat (first|exact Drawn0.refl _|apply Drawn0.step)⟩
       ·skip
        have c10b0:decide (t221<0)=false:=decide_eq_false c10
        clear c10
        have H':=Aside0.mk H
        clear H
        have p5:0≤(x6_1:Int):=of_decide_eq_true (by first|(with_reducible assumption)|assumption)
        have q5:x6_1<(a0.size:Int):=of_decide_eq_true (by first|(with_reducible assumption)|assumption)
        have hx5:=bt_at a0 x6_1
        replace p5:=eq_true p5
        replace q5:=eq_true q5
        go_wp2_with (first|((with_reducible refine gate_callee (f:=81) rfl ?_);refine goesL_ (some 12) rfl rfl Tryd.func81 (by kernel_rfl) rfl #[.int .u8 (bt a0 x6_1)] rfl (by(try simp only [List.map_toArray,List.map_cons,List.map_nil]);first|done|rfl|(simp only [List.length_drop,List.length_take];rfl)) ?_;(with_reducible refine(chars_letter.calls (bt a0 x6_1) false _ A6.out).mono ?_);rintro e w' ⟨rfl,⟨nd,rfl⟩⟩;refine⟨_,rfl,?_⟩;have p8:0≤(x6_1:Int):=of_decide_eq_true (by first|(with_reducible assumption)|assumption);have q8:x6_1<(a0.size:Int):=of_decide_eq_true (by first|(with_reducible assumption)|assumption);have hx8:=bt_at a0 x6_1;replace p8:=eq_true p8;replace q8:=eq_true q8)|(go_at_call 82;(with_reducible refine(strings_IndexByte.calls (⟨#[33,35,36,37,38,39,42,43,45,46,94,95,96,124,126]⟩ : ByteArray) (bt a0 x6_1) t221 _ A9.out).mono ?_);rintro e w' ⟨rfl,⟨nd,rfl⟩⟩))
        go_roundg k1
        case measure=>have:=HK1.out;omega
        case rel=>exact⟨(wrap64 (x6_1+1)),(by first|rfl|(cases a0.toList <;> rfl)|(simp;done)|(simp [*];done)),H',⟨by have:=HK1.out;omega⟩,by repeat (first|exact Drawn0.refl _|apply Drawn0.step)⟩
     ·exact absurd H (by simp)
    ·exact absurd H (by simp)
   ·skip
    have c2b0:decide (x6_1<(a0.size:Int))=false:=decide_eq_false c2
    clear c2
    obtain rfl:=Option.some.inj H
    go_wp2
    go_ret
    exact⟨by first|rfl|(cases a0.toList <;> rfl)|(simp;done)|(simp [*];done),by repeat (first|exact Drawn0.refl _|apply Drawn0.step)⟩
def reply_own.f (a0:ByteArray):Option (Bool):=if a0.toList=([83,101,114,118,101,114]:List UInt8) then(some true) else(if a0.toList=([68,97,116,101]:List UInt8) then(some true) else(if a0.toList=([120,45,97,109,122,45,114,101,113,117,101,115,116,45,105,100]:List UInt8) then(some true) else(if a0.toList=([67,111,110,116,101,110,116,45,76,101,110,103,116,104]:List UInt8) then(some true) else(if a0.toList=([67,111,110,110,101,99,116,105,111,110]:List UInt8) then(some true) else(some false)))))
theorem reply_own.calls (a0:ByteArray) (r:Bool) (w:World) (h:reply_own.f a0=some r) :
  Calls Tryd.prog 57 #[.string a0] w fun e w'=>e = .returned (.bool r)∧Drawn0 w w':=by
 unfold reply_own.f at h
 have H:=h
 clear h
 replace H:=itO H
 rcases H with⟨c2,H⟩|⟨c2,H⟩
 ·skip
  have c2b0:(a0.toList == ([83,101,114,118,101,114]:List UInt8))=true:=beq_iff_eq.mpr c2
  have c2b1:(a0.toList != ([83,101,114,118,101,114]:List UInt8))=false:=bne_eq_false_iff_eq.mpr c2
  clear c2
  obtain rfl:=Option.some.inj H
  go_enter Tryd.func57,Tryd.ntmps57
  go_wp2
  go_ret
  exact⟨by first|rfl|(simp;done)|(simp [*];done),by repeat (first|exact Drawn0.refl _|apply Drawn0.step)⟩
 ·skip
  have c2b0:(a0.toList == ([83,101,114,118,101,114]:List UInt8))=false:=beq_eq_false_iff_ne.mpr c2
  have c2b1:(a0.toList != ([83,101,114,118,101,114]:List UInt8))=true:=bne_iff_ne.mpr c2
  replace H:=itO H
  rcases H with⟨c3,H⟩|⟨c3,H⟩
  ·skip
   have c3b0:(a0.toList == ([68,97,116,101]:List UInt8))=true:=beq_iff_eq.mpr c3
   have c3b1:(a0.toList != ([68,97,116,101]:List UInt8))=false:=bne_eq_false_iff_eq.mpr c3
   clear c3
   obtain rfl:=Option.some.inj H
   go_enter Tryd.func57,Tryd.ntmps57
   go_wp2
   go_ret
   exact⟨by first|rfl|(simp;done)|(simp [*];done),by repeat (first|exact Drawn0.refl _|apply Drawn0.step)⟩
  ·skip
   have c3b0:(a0.toList == ([68,97,116,101]:List UInt8))=false:=beq_eq_false_iff_ne.mpr c3
   have c3b1:(a0.toList != ([68,97,116,101]:List UInt8))=true:=bne_iff_ne.mpr c3
   replace H:=itO H
   rcases H with⟨c4,H⟩|⟨c4,H⟩
   ·skip
    have c4b0:(a0.toList == ([120,45,97,109,122,45,114,101,113,117,101,115,116,45,105,100]:List UInt8))=true:=beq_iff_eq.mpr c4
    have c4b1:(a0.toList != ([120,45,97,109,122,45,114,101,113,117,101,115,116,45,105,100]:List UInt8))=false:=bne_eq_false_iff_eq.mpr c4
    clear c4
    obtain rfl:=Option.some.inj H
    go_enter Tryd.func57,Tryd.ntmps57
    go_wp2
    go_ret
    exact⟨by first|rfl|(simp;done)|(simp [*];done),by repeat (first|exact Drawn0.refl _|apply Drawn0.step)⟩
   ·skip
    have c4b0:(a0.toList == ([120,45,97,109,122,45,114,101,113,117,101,115,116,45,105,100]:List UInt8))=false:=beq_eq_false_iff_ne.mpr c4
    have c4b1:(a0.toList != ([120,45,97,109,122,45,114,101,113,117,101,115,116,45,105,100]:List UInt8))=true:=bne_iff_ne.mpr c4
    replace H:=itO H
    rcases H with⟨c5,H⟩|⟨c5,H⟩
    ·skip
     have c5b0:(a0.toList == ([67,111,110,116,101,110,116,45,76,101,110,103,116,104]:List UInt8))=true:=beq_iff_eq.mpr c5
     have c5b1:(a0.toList != ([67,111,110,116,101,110,116,45,76,101,110,103,116,104]:List UInt8))=false:=bne_eq_false_iff_eq.mpr c5
     clear c5
     obtain rfl:=Option.some.inj H
     go_enter Tryd.func57,Tryd.ntmps57
     go_wp2
     go_ret
     exact⟨by first|rfl|(simp;done)|(simp [*];done),by repeat (first|exact Drawn0.refl _|apply Drawn0.step)⟩
    ·skip
     have c5b0:(a0.toList == ([67,111,110,116,101,110,116,45,76,101,110,103,116,104]:List UInt8))=false:=beq_eq_false_iff_ne.mpr c5
     have c5b1:(a0.toList != ([67,111,110,116,101,110,116,45,76,101,110,103,116,104]:List UInt8))=true:=bne_iff_ne.mpr c5
     replace H:=itO H
     rcases H with⟨c6,H⟩|⟨c6,H⟩
     ·skip
      have c6b0:(a0.toList == ([67,111,110,110,101,99,116,105,111,110]:List UInt8))=true:=beq_iff_eq.mpr c6
      have c6b1:(a0.toList != ([67,111,110,110,101,99,116,105,111,110]:List UInt8))=false:=bne_eq_false_iff_eq.mpr c6
      clear c6
      obtain rfl:=Option.some.inj H
      go_enter Tryd.func57,Tryd.ntmps57
      go_wp2
      go_ret
      exact⟨by first|rfl|(simp;done)|(simp [*];done),by repeat (first|exact Drawn0.refl _|apply Drawn0.step)⟩
     ·skip
      have c6b0:(a0.toList == ([67,111,110,110,101,99,116,105,111,110]:List UInt8))=false:=beq_eq_false_iff_ne.mpr c6
      have c6b1:(a0.toList != ([67,111,110,110,101,99,116,105,111,110]:List UInt8))=true:=bne_iff_ne.mpr c6
      obtain rfl:=Option.some.inj H
      go_enter Tryd.func57,Tryd.ntmps57
      go_wp2
      go_ret
      exact⟨by first|rfl|(simp;done)|(simp [*];done),by repeat (first|exact Drawn0.refl _|apply Drawn0.step)⟩
end Go.Proofs.YtfjidcmegacibaaDoor.Q
