/- A part of the proof of the seat's laws. No condition beyond those in the theorems. -/
import Derived.Test.YtfjidcmegacibaaDoorZSqzB
import Derived.Test.YtfjidcmegacibaaDoorZQ0g11
import Derived.Test.YtfjidcmegacibaaDoorZQ57
import Derived.Test.YtfjidcmegacibaaDoorZQ61g16
import Derived.Test.YtfjidcmegacibaaDoorZQ81
import Derived.Test.YtfjidcmegacibaaDoorZQ31g8

namespace Go.Proofs.YtfjidcmegacibaaDoor.Q
open Go.RowKit Go.Proofs.YtfjidcmegacibaaDoorW.PrintWords Go.Proofs.YtfjidcmegacibaaDoorW.PrintLast Go.Proofs.YtfjidcmegacibaaDoorW.PrintMore
set_option linter.unusedVariables false
set_option linter.unusedSimpArgs false
set_option maxHeartbeats 8000000
set_option maxRecDepth 100000
attribute [local go_sem] max2_int min2_int max_two min_two max_three min_three max_four min_four   
mutual
def when_ParseHttp.j0:Nat→ByteArray→List Int→Bool→Option (Int×Bool)
  | 0,_,_,_=>none
  | k+1,x0,x4,x25=>if x25=true then(some (0,false)) else(if 8≤11 then(if 11≤(x0.size:Int) then((strings_Index.f (⟨#[74,97,110,70,101,98,77,97,114,65,112,114,77,97,121,74,117,110,74,117,108,65,117,103,83,101,112,79,99,116,78,111,118,68,101,99]⟩ : ByteArray) (x0.extract 8 11)).bind fun t324=>(if t324<0 then(when_ParseHttp.j1 k x0 x4 t324 true) else(when_ParseHttp.j1 k x0 x4 t324 ((Int.tmod t324 3) != 0)))) else(none)) else(none))
def when_ParseHttp.j1:Nat→ByteArray→List Int→Int→Bool→Option (Int×Bool)
  | 0,_,_,_,_=>none
  | k+1,x0,x4,x6,x35=>if x35=true then(some (0,false)) else(if 0<(x4.length:Int) then(if 1<(x4.length:Int) then(if 2<(x4.length:Int) then(if 3<(x4.length:Int) then(if 4<(x4.length:Int) then((when_Of.f k (rd x4 0) (wrap64 ((wrap64 (Int.tdiv x6 3))+1)) (rd x4 1) (rd x4 2) (rd x4 3) (rd x4 4)).bind fun bt330=>(if bt330.2=true then((when_Http.f k bt330.1).bind fun t332=>(if t332.toList=x0.toList then(some (bt330.1,true)) else(some (0,false)))) else(some (0,false)))) else(none)) else(none)) else(none)) else(none)) else(none))
end
def when_ParseHttp.f (k:Nat) (a0:ByteArray):Option (Int×Bool):=(when_all.f k a0 (([(⟨12,4⟩ : S116),(⟨5,2⟩ : S116),(⟨17,2⟩ : S116),(⟨20,2⟩ : S116),(⟨23,2⟩ : S116)]:List (S116)))).bind fun bt320=>(if bt320.2=true then(when_ParseHttp.j0 k a0 bt320.1 ((a0.size:Int) != 29)) else(when_ParseHttp.j0 k a0 bt320.1 true))
theorem when_ParseHttp.mono_l:∀ k,(∀ y0 y1 y2,LeO (when_ParseHttp.j0 k y0 y1 y2) (when_ParseHttp.j0 (k+1) y0 y1 y2))∧(∀ y0 y1 y2 y3,LeO (when_ParseHttp.j1 k y0 y1 y2 y3) (when_ParseHttp.j1 (k+1) y0 y1 y2 y3))
  | 0=>⟨fun _ _ _ r h=>by simp [when_ParseHttp.j0] at h,fun _ _ _ _ r h=>by simp [when_ParseHttp.j1] at h⟩
  | k+1=>by
    obtain⟨ih0,ih1⟩:=when_ParseHttp.mono_l k
    refine⟨?_,?_⟩
    · intro y0 y1 y2
      unfold when_ParseHttp.j0
      with_reducible repeat' first|exact ih0 _ _ _|exact ih1 _ _ _ _|exact when_Http.mono _ _|exact when_Of.mono _ _ _ _ _ _ _|exact when_all.mono _ _ _|exact LeO.refl _|exact LeO.none _|refine LeO.ite ?_ ?_|refine LeO.bind ?_ (fun _=>?_)
    · intro y0 y1 y2 y3
      unfold when_ParseHttp.j1
      with_reducible repeat' first|exact ih0 _ _ _|exact ih1 _ _ _ _|exact when_Http.mono _ _|exact when_Of.mono _ _ _ _ _ _ _|exact when_all.mono _ _ _|exact LeO.refl _|exact LeO.none _|refine LeO.ite ?_ ?_|refine LeO.bind ?_ (fun _=>?_)
theorem when_ParseHttp.mono:∀ a0 k,LeO (when_ParseHttp.f k a0) (when_ParseHttp.f (k+1) a0):=by
 intro a0 k
 obtain⟨ih0,ih1⟩:=when_ParseHttp.mono_l k
 unfold when_ParseHttp.f
 with_reducible repeat' first|exact ih0 _ _ _|exact ih1 _ _ _ _|exact when_Http.mono _ _|exact when_Of.mono _ _ _ _ _ _ _|exact when_all.mono _ _ _|exact LeO.refl _|exact LeO.none _|refine LeO.ite ?_ ?_|refine LeO.bind ?_ (fun _=>?_)
theorem when_ParseHttp.calls (k:Nat) (a0:ByteArray) (r1:Int) (r2:Bool) (w:World) (hG:GOk w) (h:when_ParseHttp.f k a0=some (r1,r2)) :
    Calls Tryd.prog 53 #[.string a0] w fun e w'=>e = .returned (.tuple #[.int .i64 r1,.bool r2])∧Below w.heap.size w w':=by
 have hu116:=Tryd.underlying116
 have HB:=Aside0.mk (Below.refl w.heap.size w)
 unfold when_ParseHttp.f at h
 have H:=h
 clear h
 obtain⟨y317,hy317⟩ : ∃ y_:List (S116),y_=(([(⟨12,4⟩ : S116),(⟨5,2⟩ : S116),(⟨17,2⟩ : S116),(⟨20,2⟩ : S116),(⟨23,2⟩ : S116)]:List (S116))):=⟨_,rfl⟩
 replace H:((when_all.f k a0 y317).bind fun bt320=>(if bt320.2=true then(when_ParseHttp.j0 k a0 bt320.1 ((a0.size:Int) != 29)) else(when_ParseHttp.j0 k a0 bt320.1 true)))=some (r1,r2):=by first|(rw [hy317];with_reducible exact H)|(have H2_:=(Option.bind_some _ _).symm.trans H;rw [hy317];with_reducible exact H2_)|(have H2_:=(Option.bind_some _ _).symm.trans H;with_reducible exact H2_)|with_reducible exact H|(rw [hy317];exact H)|exact H
 have Ny317:=Aside0.mk hy317
 clear hy317
 replace H:=bndO H
 obtain⟨⟨t320,t321⟩,A20,H⟩:=H
 dsimp only at H
 have A2:=Aside0.mk A20
 clear A20
 have HC3:=Aside0.mk H
 clear H
 go_enter Tryd.func53,Tryd.ntmps53
 go_upto_region 2 with(first|((with_reducible refine gate_dst (N:=15) rfl ?_);(try (refine gate_guard (by rfl) ?_;dsimp only));refine Kd.R_lit k116 _ 116 ?hg (N:=15) ?hd (xs:=([(⟨12,4⟩ : S116),(⟨5,2⟩ : S116),(⟨17,2⟩ : S116),(⟨20,2⟩ : S116),(⟨23,2⟩ : S116)]:List (S116))) (inner:=[.int .i64 12,.int .i64 4,.int .i64 5,.int .i64 2,.int .i64 17,.int .i64 2,.int .i64 20,.int .i64 2,.int .i64 23,.int .i64 2]) (ok:=fun _=>True) (okp:=fun _=>True) ?hr ?hp (fun _ hk=>hk) trivial (Below.refl _ _) (Nat.le_refl _) (by simp) ?_;(case hd=>rfl);(case hg=>rfl);(case hr=>first|(go_simp;done)|(go_simp;rfl));(case hp=>exact(Reps.c2 (show Kd.M k116 _ _ _ (⟨12,4⟩ : S116) [.int .i64 12,.int .i64 4] from(k116_mkM _ _ _ (⟨12,4⟩ : S116))) (Reps.c2 (show Kd.M k116 _ _ _ (⟨5,2⟩ : S116) [.int .i64 5,.int .i64 2] from(k116_mkM _ _ _ (⟨5,2⟩ : S116))) (Reps.c2 (show Kd.M k116 _ _ _ (⟨17,2⟩ : S116) [.int .i64 17,.int .i64 2] from(k116_mkM _ _ _ (⟨17,2⟩ : S116))) (Reps.c2 (show Kd.M k116 _ _ _ (⟨20,2⟩ : S116) [.int .i64 20,.int .i64 2] from(k116_mkM _ _ _ (⟨20,2⟩ : S116))) (Reps.c2 (show Kd.M k116 _ _ _ (⟨23,2⟩ : S116) [.int .i64 23,.int .i64 2] from(k116_mkM _ _ _ (⟨23,2⟩ : S116))) (Reps.none _ _)))))));intro v318 w4 ho5 hb hg_ hnew_;clear hg_ hnew_;(first|rw [← Ny317.out] at ho5|(simp only [Int.reduceToNat] at ho5;rw [← Ny317.out] at ho5));have HO319:=Aside0.mk (Kd.R_lower ho5 (below_size bl));replace HB:=Aside0.mk (below_step bl hb);clear hb ho5;obtain⟨Ao6,co6,eo6⟩:=Kd.R_slice HO319.out;subst eo6)|(go_at_call 78;(with_reducible refine(when_all.calls k a0 _ _ y317 t320 t321 _ ?side1 ?side2 A2.out).mono ?_);(case side1=>repeat (first|exact(Kd.R_reads' HO319.out).2.2|(with_reducible refine Kd.C_alloc ?_ _)|(with_reducible refine Kd.C_drewN ?_ _)|(with_reducible refine Kd.C_drew ?_)));(case side2=>exact(Kd.R_reads' HO319.out).2.1);rintro e w7 ⟨v322,rfl,ho0,hb⟩;replace HO319:=Aside0.mk (Kd.R_below rl hb);have HO323:=Aside0.mk (Kd.R_lower ho0 (below_size bl));replace HB:=Aside0.mk (below_step bl hb)))
 repeat (go_quiet (first|((with_reducible refine gate_dst (N:=15) rfl ?_);(try (refine gate_guard (by rfl) ?_;dsimp only));refine Kd.R_lit k116 _ 116 ?hg (N:=15) ?hd (xs:=([(⟨12,4⟩ : S116),(⟨5,2⟩ : S116),(⟨17,2⟩ : S116),(⟨20,2⟩ : S116),(⟨23,2⟩ : S116)]:List (S116))) (inner:=[.int .i64 12,.int .i64 4,.int .i64 5,.int .i64 2,.int .i64 17,.int .i64 2,.int .i64 20,.int .i64 2,.int .i64 23,.int .i64 2]) (ok:=fun _=>True) (okp:=fun _=>True) ?hr ?hp (fun _ hk=>hk) trivial (Below.refl _ _) (Nat.le_refl _) (by simp) ?_;(case hd=>rfl);(case hg=>rfl);(case hr=>first|(go_simp;done)|(go_simp;rfl));(case hp=>exact(Reps.c2 (show Kd.M k116 _ _ _ (⟨12,4⟩ : S116) [.int .i64 12,.int .i64 4] from(k116_mkM _ _ _ (⟨12,4⟩ : S116))) (Reps.c2 (show Kd.M k116 _ _ _ (⟨5,2⟩ : S116) [.int .i64 5,.int .i64 2] from(k116_mkM _ _ _ (⟨5,2⟩ : S116))) (Reps.c2 (show Kd.M k116 _ _ _ (⟨17,2⟩ : S116) [.int .i64 17,.int .i64 2] from(k116_mkM _ _ _ (⟨17,2⟩ : S116))) (Reps.c2 (show Kd.M k116 _ _ _ (⟨20,2⟩ : S116) [.int .i64 20,.int .i64 2] from(k116_mkM _ _ _ (⟨20,2⟩ : S116))) (Reps.c2 (show Kd.M k116 _ _ _ (⟨23,2⟩ : S116) [.int .i64 23,.int .i64 2] from(k116_mkM _ _ _ (⟨23,2⟩ : S116))) (Reps.none _ _)))))));intro v318 w4 ho5 hb hg_ hnew_;clear hg_ hnew_;(first|rw [← Ny317.out] at ho5|(simp only [Int.reduceToNat] at ho5;rw [← Ny317.out] at ho5));have HO319:=Aside0.mk (Kd.R_lower ho5 (below_size bl));replace HB:=Aside0.mk (below_step bl hb);clear hb ho5;obtain⟨Ao6,co6,eo6⟩:=Kd.R_slice HO319.out;subst eo6)|(go_at_call 78;(with_reducible refine(when_all.calls k a0 _ _ y317 t320 t321 _ ?side1 ?side2 A2.out).mono ?_);(case side1=>repeat (first|exact(Kd.R_reads' HO319.out).2.2|(with_reducible refine Kd.C_alloc ?_ _)|(with_reducible refine Kd.C_drewN ?_ _)|(with_reducible refine Kd.C_drew ?_)));(case side2=>exact(Kd.R_reads' HO319.out).2.1);rintro e w7 ⟨v322,rfl,ho0,hb⟩;replace HO319:=Aside0.mk (Kd.R_below rl hb);have HO323:=Aside0.mk (Kd.R_lower ho0 (below_size bl));replace HB:=Aside0.mk (below_step bl hb)));go_upto_region 2 with(first|((with_reducible refine gate_dst (N:=15) rfl ?_);(try (refine gate_guard (by rfl) ?_;dsimp only));refine Kd.R_lit k116 _ 116 ?hg (N:=15) ?hd (xs:=([(⟨12,4⟩ : S116),(⟨5,2⟩ : S116),(⟨17,2⟩ : S116),(⟨20,2⟩ : S116),(⟨23,2⟩ : S116)]:List (S116))) (inner:=[.int .i64 12,.int .i64 4,.int .i64 5,.int .i64 2,.int .i64 17,.int .i64 2,.int .i64 20,.int .i64 2,.int .i64 23,.int .i64 2]) (ok:=fun _=>True) (okp:=fun _=>True) ?hr ?hp (fun _ hk=>hk) trivial (Below.refl _ _) (Nat.le_refl _) (by simp) ?_;(case hd=>rfl);(case hg=>rfl);(case hr=>first|(go_simp;done)|(go_simp;rfl));(case hp=>exact(Reps.c2 (show Kd.M k116 _ _ _ (⟨12,4⟩ : S116) [.int .i64 12,.int .i64 4] from(k116_mkM _ _ _ (⟨12,4⟩ : S116))) (Reps.c2 (show Kd.M k116 _ _ _ (⟨5,2⟩ : S116) [.int .i64 5,.int .i64 2] from(k116_mkM _ _ _ (⟨5,2⟩ : S116))) (Reps.c2 (show Kd.M k116 _ _ _ (⟨17,2⟩ : S116) [.int .i64 17,.int .i64 2] from(k116_mkM _ _ _ (⟨17,2⟩ : S116))) (Reps.c2 (show Kd.M k116 _ _ _ (⟨20,2⟩ : S116) [.int .i64 20,.int .i64 2] from(k116_mkM _ _ _ (⟨20,2⟩ : S116))) (Reps.c2 (show Kd.M k116 _ _ _ (⟨23,2⟩ : S116) [.int .i64 23,.int .i64 2] from(k116_mkM _ _ _ (⟨23,2⟩ : S116))) (Reps.none _ _)))))));intro v318 w4 ho5 hb hg_ hnew_;clear hg_ hnew_;(first|rw [← Ny317.out] at ho5|(simp only [Int.reduceToNat] at ho5;rw [← Ny317.out] at ho5));have HO319:=Aside0.mk (Kd.R_lower ho5 (below_size bl));replace HB:=Aside0.mk (below_step bl hb);clear hb ho5;obtain⟨Ao6,co6,eo6⟩:=Kd.R_slice HO319.out;subst eo6)|(go_at_call 78;(with_reducible refine(when_all.calls k a0 _ _ y317 t320 t321 _ ?side1 ?side2 A2.out).mono ?_);(case side1=>repeat (first|exact(Kd.R_reads' HO319.out).2.2|(with_reducible refine Kd.C_alloc ?_ _)|(with_reducible refine Kd.C_drewN ?_ _)|(with_reducible refine Kd.C_drew ?_)));(case side2=>exact(Kd.R_reads' HO319.out).2.1);rintro e w7 ⟨v322,rfl,ho0,hb⟩;replace HO319:=Aside0.mk (Kd.R_below rl hb);have HO323:=Aside0.mk (Kd.R_lower ho0 (below_size bl));replace HB:=Aside0.mk (below_step bl hb))))
 (try simp only [Act.put,l1,l2,l3])
 go_cut [25] (fun v25 wc=>∃ (kq:Nat) (x25_2:Bool),v25 = .bool x25_2∧Aside0 (when_ParseHttp.j0 kq a0 t320 x25_2=some (r1,r2))∧Aside0 (kq≤k)∧Aside0 (Kd.R (Kd.int .i64) 3 wc w.heap.size (fun _=>True) v322 t320)∧Aside0 (Below w.heap.size w wc))
 case first=>
  have H:=HC3.out
  clear HC3
  by_cases c8:t321=true
  {
  subst c8
  replace H:=itT H
  have H':=Aside0.mk H
  clear H
  go_wp2
  repeat (go_quiet (fail);try go_wp2)
  go_meet
  case rel=>exact⟨_,(((a0.size:Int) != 29)),rs,H',⟨by first|omega|exact Nat.le_refl _⟩,⟨rl⟩,⟨bl⟩⟩
  }
  {
  replace c8:=Bool.eq_false_iff.mpr c8
  subst c8
  replace H:=itF H
  have H':=Aside0.mk H
  clear H
  go_wp2
  repeat (go_quiet (fail);try go_wp2)
  go_meet
  case rel=>exact⟨_,(true),rs,H',⟨by first|omega|exact Nat.le_refl _⟩,⟨rl⟩,⟨bl⟩⟩
  }
 case rest=>
  clear HC3
  obtain⟨kq,x25_2,rfl,HA,HJ2,HO_4,HB⟩:=hcut
  cases kq with
  | zero=>exact absurd HA.out (by simp [when_ParseHttp.j0])
  | succ kj2=>
   have H:=HA.out
   clear HA
   simp only [when_ParseHttp.j0] at H
   by_cases c9:x25_2=true
   {
   subst c9
   replace H:=itT H
   simp only [Option.some.injEq,Prod.mk.injEq] at H
   obtain⟨rfl,rfl⟩:=H
   go_wp2
   repeat (go_quiet (fail);try go_wp2)
   go_ret2
   exact⟨ew,bl⟩
   }
   {
   replace c9:=Bool.eq_false_iff.mpr c9
   subst c9
   replace H:=itF H
   replace H:=itO H
   rcases H with⟨c10,H⟩|⟨c10,H⟩
   {
   have c10b0:=eq_true c10
   clear c10
   replace H:=itO H
   rcases H with⟨c11,H⟩|⟨c11,H⟩
   {
   have c11b0:=eq_true c11
   clear c11
   replace H:=bndO H
   obtain⟨t324,A120,H⟩:=H
   have A12:=Aside0.mk A120
   clear A120
   have HC13:=Aside0.mk H
   clear H
   go_upto_region 5 with(first|(go_at_call 76;(with_reducible refine(strings_Index.calls (⟨#[74,97,110,70,101,98,77,97,114,65,112,114,77,97,121,74,117,110,74,117,108,65,117,103,83,101,112,79,99,116,78,111,118,68,101,99]⟩ : ByteArray) (a0.extract 8 11) t324 _ gk A12.out).mono ?_);rintro e w' ⟨rfl,⟨nd,rfl⟩⟩;(try exact dd)))
   repeat (go_quiet (first|(go_at_call 76;(with_reducible refine(strings_Index.calls (⟨#[74,97,110,70,101,98,77,97,114,65,112,114,77,97,121,74,117,110,74,117,108,65,117,103,83,101,112,79,99,116,78,111,118,68,101,99]⟩ : ByteArray) (a0.extract 8 11) t324 _ gk A12.out).mono ?_);rintro e w' ⟨rfl,⟨nd,rfl⟩⟩;(try exact dd)));go_upto_region 5 with(first|(go_at_call 76;(with_reducible refine(strings_Index.calls (⟨#[74,97,110,70,101,98,77,97,114,65,112,114,77,97,121,74,117,110,74,117,108,65,117,103,83,101,112,79,99,116,78,111,118,68,101,99]⟩ : ByteArray) (a0.extract 8 11) t324 _ gk A12.out).mono ?_);rintro e w' ⟨rfl,⟨nd,rfl⟩⟩;(try exact dd))))
   (try simp only [Act.put,l1,l2,l3])
   go_cut [35] (fun v35 wc=>∃ (kq:Nat) (x35_12:Bool),v35 = .bool x35_12∧Aside0 (when_ParseHttp.j1 kq a0 t320 t324 x35_12=some (r1,r2))∧Aside0 (kq≤kj2)∧Aside0 (Kd.R (Kd.int .i64) 3 wc w.heap.size (fun _=>True) v322 t320)∧Aside0 (Below w.heap.size w wc))
   case first=>
    have H:=HC13.out
    clear HC13
    replace H:=itO H
    rcases H with⟨c14,H⟩|⟨c14,H⟩
    {
    have c14b0:decide (t324<0)=true:=decide_eq_true c14
    clear c14
    (first|rw [c14b0]|(simp only [i64_w,i32_w];rw [c14b0])|skip)
    have H':=Aside0.mk H
    clear H
    go_wp2
    repeat (go_quiet (fail);try go_wp2)
    go_meet
    case rel=>exact⟨_,(true),rs,H',⟨by have:=HJ2.out;first|omega|exact Nat.le_refl _⟩,⟨rl⟩,⟨bl⟩⟩
    }
    {
    have c14b0:decide (t324<0)=false:=decide_eq_false c14
    clear c14
    (first|rw [c14b0]|(simp only [i64_w,i32_w];rw [c14b0])|skip)
    have H':=Aside0.mk H
    clear H
    go_wp2
    repeat (go_quiet (fail);try go_wp2)
    go_meet
    case rel=>exact⟨_,(((Int.tmod t324 3) != 0)),rs,H',⟨by have:=HJ2.out;first|omega|exact Nat.le_refl _⟩,⟨rl⟩,⟨bl⟩⟩
    }
   case rest=>
    clear HC13
    obtain⟨kq,x35_12,rfl,HA,HJ12,HO_4,HB⟩:=hcut
    cases kq with
    | zero=>exact absurd HA.out (by simp [when_ParseHttp.j1])
    | succ kj12=>
     have H:=HA.out
     clear HA
     simp only [when_ParseHttp.j1] at H
     by_cases c15:x35_12=true
     {
     subst c15
     replace H:=itT H
     simp only [Option.some.injEq,Prod.mk.injEq] at H
     obtain⟨rfl,rfl⟩:=H
     go_wp2
     repeat (go_quiet (fail);try go_wp2)
     go_ret2
     exact⟨ew,bl⟩
     }
     {
     replace c15:=Bool.eq_false_iff.mpr c15
     subst c15
     replace H:=itF H
     replace H:=itO H
     rcases H with⟨c16,H⟩|⟨c16,H⟩
     {
     have c16b0:decide (0<(t320.length:Int))=true:=decide_eq_true c16
     clear c16
     replace H:=itO H
     rcases H with⟨c17,H⟩|⟨c17,H⟩
     {
     have c17b0:decide (1<(t320.length:Int))=true:=decide_eq_true c17
     clear c17
     replace H:=itO H
     rcases H with⟨c18,H⟩|⟨c18,H⟩
     {
     have c18b0:decide (2<(t320.length:Int))=true:=decide_eq_true c18
     clear c18
     replace H:=itO H
     rcases H with⟨c19,H⟩|⟨c19,H⟩
     {
     have c19b0:decide (3<(t320.length:Int))=true:=decide_eq_true c19
     clear c19
     replace H:=itO H
     rcases H with⟨c20,H⟩|⟨c20,H⟩
     {
     have c20b0:decide (4<(t320.length:Int))=true:=decide_eq_true c20
     clear c20
     replace H:=bndO H
     obtain⟨⟨t330,t331⟩,A210,H⟩:=H
     dsimp only at H
     have A21:=Aside0.mk A210
     clear A210
     by_cases c22:t331=true
     {
     subst c22
     replace H:=itT H
     replace H:=bndO H
     obtain⟨t332,A230,H⟩:=H
     have A23:=Aside0.mk A230
     clear A230
     replace H:=itO H
     rcases H with⟨c24,H⟩|⟨c24,H⟩
     {
     have c24b0:(t332.toList == a0.toList)=true:=beq_iff_eq.mpr c24
     clear c24
     simp only [Option.some.injEq,Prod.mk.injEq] at H
     obtain⟨rfl,rfl⟩:=H
     obtain⟨Ao25,co25,eo25⟩:=Kd.R_slice HO_4.out
     subst eo25
     have p325:0≤(0:Int):=(by omega)
     have q325:0<(t320.length:Int):=of_decide_eq_true asm
     obtain⟨ad325,e325,hx325_0⟩:=Kd.at_int (Kd.R_reads' HO_4.out).2.2 0 p325 q325
     cases e325
     have qi325:(0<t320.length)=True:=eq_true (by omega)
     (try rw [show((0:Int)).toNat=0 from rfl] at hx325_0)
     (try rw [Addr.add_zero'] at hx325_0)
     replace p325:=eq_true p325
     replace q325:=eq_true q325
     have p326:0≤(1:Int):=(by omega)
     have q326:1<(t320.length:Int):=of_decide_eq_true asm
     obtain⟨ad326,e326,hx326_0⟩:=Kd.at_int (Kd.R_reads' HO_4.out).2.2 1 p326 q326
     obtain rfl:ad325=ad326:=(by injection e326)
     (try simp only [show(1:Int).toNat=1 from rfl,Nat.reduceMul,Nat.reduceEqDiff,Go.Addr.add,↓reduceIte] at hx326_0)
     have qi326:(1<t320.length)=True:=eq_true (by omega)
     (try rw [show((1:Int)).toNat=1 from rfl] at hx326_0)
     replace p326:=eq_true p326
     replace q326:=eq_true q326
     have p327:0≤(2:Int):=(by omega)
     have q327:2<(t320.length:Int):=of_decide_eq_true asm
     obtain⟨ad327,e327,hx327_0⟩:=Kd.at_int (Kd.R_reads' HO_4.out).2.2 2 p327 q327
     obtain rfl:ad325=ad327:=(by injection e327)
     (try simp only [show(2:Int).toNat=2 from rfl,Nat.reduceMul,Nat.reduceEqDiff,Go.Addr.add,↓reduceIte] at hx327_0)
     have qi327:(2<t320.length)=True:=eq_true (by omega)
     (try rw [show((2:Int)).toNat=2 from rfl] at hx327_0)
     replace p327:=eq_true p327
     replace q327:=eq_true q327
     have p328:0≤(3:Int):=(by omega)
     have q328:3<(t320.length:Int):=of_decide_eq_true asm
     obtain⟨ad328,e328,hx328_0⟩:=Kd.at_int (Kd.R_reads' HO_4.out).2.2 3 p328 q328
     obtain rfl:ad325=ad328:=(by injection e328)
     (try simp only [show(3:Int).toNat=3 from rfl,Nat.reduceMul,Nat.reduceEqDiff,Go.Addr.add,↓reduceIte] at hx328_0)
     have qi328:(3<t320.length)=True:=eq_true (by omega)
     (try rw [show((3:Int)).toNat=3 from rfl] at hx328_0)
     replace p328:=eq_true p328
     replace q328:=eq_true q328
     have p329:0≤(4:Int):=(by omega)
     have q329:4<(t320.length:Int):=of_decide_eq_true asm
     obtain⟨ad329,e329,hx329_0⟩:=Kd.at_int (Kd.R_reads' HO_4.out).2.2 4 p329 q329
     obtain rfl:ad325=ad329:=(by injection e329)
     (try simp only [show(4:Int).toNat=4 from rfl,Nat.reduceMul,Nat.reduceEqDiff,Go.Addr.add,↓reduceIte] at hx329_0)
     have qi329:(4<t320.length)=True:=eq_true (by omega)
     (try rw [show((4:Int)).toNat=4 from rfl] at hx329_0)
     replace p329:=eq_true p329
     replace q329:=eq_true q329
     go_wp2_with (first|(go_at_call 79;(with_reducible refine(when_Of.calls kj12 (rd t320 0) (wrap64 ((wrap64 (Int.tdiv t324 3))+1)) (rd t320 1) (rd t320 2) (rd t320 3) (rd t320 4) t330 true _ A21.out).mono ?_);rintro e w' ⟨rfl,⟨nd,rfl⟩⟩;(try exact dd))|(go_at_call 31;(with_reducible refine(when_Http.calls kj12 t330 t332 _ A23.out).mono ?_);rintro e w26 ⟨rfl,hb⟩;replace HO_4:=Aside0.mk (Kd.R_below rl hb);replace HB:=Aside0.mk (below_step bl hb)))
     repeat (go_quiet (first|(go_at_call 79;(with_reducible refine(when_Of.calls kj12 (rd t320 0) (wrap64 ((wrap64 (Int.tdiv t324 3))+1)) (rd t320 1) (rd t320 2) (rd t320 3) (rd t320 4) t330 true _ A21.out).mono ?_);rintro e w' ⟨rfl,⟨nd,rfl⟩⟩;(try exact dd))|(go_at_call 31;(with_reducible refine(when_Http.calls kj12 t330 t332 _ A23.out).mono ?_);rintro e w26 ⟨rfl,hb⟩;replace HO_4:=Aside0.mk (Kd.R_below rl hb);replace HB:=Aside0.mk (below_step bl hb)));try go_wp2_with (first|(go_at_call 79;(with_reducible refine(when_Of.calls kj12 (rd t320 0) (wrap64 ((wrap64 (Int.tdiv t324 3))+1)) (rd t320 1) (rd t320 2) (rd t320 3) (rd t320 4) t330 true _ A21.out).mono ?_);rintro e w' ⟨rfl,⟨nd,rfl⟩⟩;(try exact dd))|(go_at_call 31;(with_reducible refine(when_Http.calls kj12 t330 t332 _ A23.out).mono ?_);rintro e w26 ⟨rfl,hb⟩;replace HO_4:=Aside0.mk (Kd.R_below rl hb);replace HB:=Aside0.mk (below_step bl hb))))
     go_ret2
     exact⟨ew,bl⟩
     }
     {
     have c24b0:(t332.toList == a0.toList)=false:=beq_eq_false_iff_ne.mpr c24
     simp only [Option.some.injEq,Prod.mk.injEq] at H
     obtain⟨rfl,rfl⟩:=H
     obtain⟨Ao27,co27,eo27⟩:=Kd.R_slice HO_4.out
     subst eo27
     have p325:0≤(0:Int):=(by omega)
     have q325:0<(t320.length:Int):=of_decide_eq_true asm
     obtain⟨ad325,e325,hx325_0⟩:=Kd.at_int (Kd.R_reads' HO_4.out).2.2 0 p325 q325
     cases e325
     have qi325:(0<t320.length)=True:=eq_true (by omega)
     (try rw [show((0:Int)).toNat=0 from rfl] at hx325_0)
     (try rw [Addr.add_zero'] at hx325_0)
     replace p325:=eq_true p325
     replace q325:=eq_true q325
     have p326:0≤(1:Int):=(by omega)
     have q326:1<(t320.length:Int):=of_decide_eq_true asm
     obtain⟨ad326,e326,hx326_0⟩:=Kd.at_int (Kd.R_reads' HO_4.out).2.2 1 p326 q326
     obtain rfl:ad325=ad326:=(by injection e326)
     (try simp only [show(1:Int).toNat=1 from rfl,Nat.reduceMul,Nat.reduceEqDiff,Go.Addr.add,↓reduceIte] at hx326_0)
     have qi326:(1<t320.length)=True:=eq_true (by omega)
     (try rw [show((1:Int)).toNat=1 from rfl] at hx326_0)
     replace p326:=eq_true p326
     replace q326:=eq_true q326
     have p327:0≤(2:Int):=(by omega)
     have q327:2<(t320.length:Int):=of_decide_eq_true asm
     obtain⟨ad327,e327,hx327_0⟩:=Kd.at_int (Kd.R_reads' HO_4.out).2.2 2 p327 q327
     obtain rfl:ad325=ad327:=(by injection e327)
     (try simp only [show(2:Int).toNat=2 from rfl,Nat.reduceMul,Nat.reduceEqDiff,Go.Addr.add,↓reduceIte] at hx327_0)
     have qi327:(2<t320.length)=True:=eq_true (by omega)
     (try rw [show((2:Int)).toNat=2 from rfl] at hx327_0)
     replace p327:=eq_true p327
     replace q327:=eq_true q327
     have p328:0≤(3:Int):=(by omega)
     have q328:3<(t320.length:Int):=of_decide_eq_true asm
     obtain⟨ad328,e328,hx328_0⟩:=Kd.at_int (Kd.R_reads' HO_4.out).2.2 3 p328 q328
     obtain rfl:ad325=ad328:=(by injection e328)
     (try simp only [show(3:Int).toNat=3 from rfl,Nat.reduceMul,Nat.reduceEqDiff,Go.Addr.add,↓reduceIte] at hx328_0)
     have qi328:(3<t320.length)=True:=eq_true (by omega)
     (try rw [show((3:Int)).toNat=3 from rfl] at hx328_0)
     replace p328:=eq_true p328
     replace q328:=eq_true q328
     have p329:0≤(4:Int):=(by omega)
     have q329:4<(t320.length:Int):=of_decide_eq_true asm
     obtain⟨ad329,e329,hx329_0⟩:=Kd.at_int (Kd.R_reads' HO_4.out).2.2 4 p329 q329
     obtain rfl:ad325=ad329:=(by injection e329)
     (try simp only [show(4:Int).toNat=4 from rfl,Nat.reduceMul,Nat.reduceEqDiff,Go.Addr.add,↓reduceIte] at hx329_0)
     have qi329:(4<t320.length)=True:=eq_true (by omega)
     (try rw [show((4:Int)).toNat=4 from rfl] at hx329_0)
     replace p329:=eq_true p329
     replace q329:=eq_true q329
     go_wp2_with (first|(go_at_call 79;(with_reducible refine(when_Of.calls kj12 (rd t320 0) (wrap64 ((wrap64 (Int.tdiv t324 3))+1)) (rd t320 1) (rd t320 2) (rd t320 3) (rd t320 4) t330 true _ A21.out).mono ?_);rintro e w' ⟨rfl,⟨nd,rfl⟩⟩;(try exact dd))|(go_at_call 31;(with_reducible refine(when_Http.calls kj12 t330 t332 _ A23.out).mono ?_);rintro e w28 ⟨rfl,hb⟩;replace HO_4:=Aside0.mk (Kd.R_below rl hb);replace HB:=Aside0.mk (below_step bl hb)))
     repeat (go_quiet (first|(go_at_call 79;(with_reducible refine(when_Of.calls kj12 (rd t320 0) (wrap64 ((wrap64 (Int.tdiv t324 3))+1)) (rd t320 1) (rd t320 2) (rd t320 3) (rd t320 4) t330 true _ A21.out).mono ?_);rintro e w' ⟨rfl,⟨nd,rfl⟩⟩;(try exact dd))|(go_at_call 31;(with_reducible refine(when_Http.calls kj12 t330 t332 _ A23.out).mono ?_);rintro e w28 ⟨rfl,hb⟩;replace HO_4:=Aside0.mk (Kd.R_below rl hb);replace HB:=Aside0.mk (below_step bl hb)));try go_wp2_with (first|(go_at_call 79;(with_reducible refine(when_Of.calls kj12 (rd t320 0) (wrap64 ((wrap64 (Int.tdiv t324 3))+1)) (rd t320 1) (rd t320 2) (rd t320 3) (rd t320 4) t330 true _ A21.out).mono ?_);rintro e w' ⟨rfl,⟨nd,rfl⟩⟩;(try exact dd))|(go_at_call 31;(with_reducible refine(when_Http.calls kj12 t330 t332 _ A23.out).mono ?_);rintro e w28 ⟨rfl,hb⟩;replace HO_4:=Aside0.mk (Kd.R_below rl hb);replace HB:=Aside0.mk (below_step bl hb))))
     go_ret2
     exact⟨ew,bl⟩
     }
     }
     {
     replace c22:=Bool.eq_false_iff.mpr c22
     subst c22
     replace H:=itF H
     simp only [Option.some.injEq,Prod.mk.injEq] at H
     obtain⟨rfl,rfl⟩:=H
     obtain⟨Ao29,co29,eo29⟩:=Kd.R_slice HO_4.out
     subst eo29
     have p325:0≤(0:Int):=(by omega)
     have q325:0<(t320.length:Int):=of_decide_eq_true asm
     obtain⟨ad325,e325,hx325_0⟩:=Kd.at_int (Kd.R_reads' HO_4.out).2.2 0 p325 q325
     cases e325
     have qi325:(0<t320.length)=True:=eq_true (by omega)
     (try rw [show((0:Int)).toNat=0 from rfl] at hx325_0)
     (try rw [Addr.add_zero'] at hx325_0)
     replace p325:=eq_true p325
     replace q325:=eq_true q325
     have p326:0≤(1:Int):=(by omega)
     have q326:1<(t320.length:Int):=of_decide_eq_true asm
     obtain⟨ad326,e326,hx326_0⟩:=Kd.at_int (Kd.R_reads' HO_4.out).2.2 1 p326 q326
     obtain rfl:ad325=ad326:=(by injection e326)
     (try simp only [show(1:Int).toNat=1 from rfl,Nat.reduceMul,Nat.reduceEqDiff,Go.Addr.add,↓reduceIte] at hx326_0)
     have qi326:(1<t320.length)=True:=eq_true (by omega)
     (try rw [show((1:Int)).toNat=1 from rfl] at hx326_0)
     replace p326:=eq_true p326
     replace q326:=eq_true q326
     have p327:0≤(2:Int):=(by omega)
     have q327:2<(t320.length:Int):=of_decide_eq_true asm
     obtain⟨ad327,e327,hx327_0⟩:=Kd.at_int (Kd.R_reads' HO_4.out).2.2 2 p327 q327
     obtain rfl:ad325=ad327:=(by injection e327)
     (try simp only [show(2:Int).toNat=2 from rfl,Nat.reduceMul,Nat.reduceEqDiff,Go.Addr.add,↓reduceIte] at hx327_0)
     have qi327:(2<t320.length)=True:=eq_true (by omega)
     (try rw [show((2:Int)).toNat=2 from rfl] at hx327_0)
     replace p327:=eq_true p327
     replace q327:=eq_true q327
     have p328:0≤(3:Int):=(by omega)
     have q328:3<(t320.length:Int):=of_decide_eq_true asm
     obtain⟨ad328,e328,hx328_0⟩:=Kd.at_int (Kd.R_reads' HO_4.out).2.2 3 p328 q328
     obtain rfl:ad325=ad328:=(by injection e328)
     (try simp only [show(3:Int).toNat=3 from rfl,Nat.reduceMul,Nat.reduceEqDiff,Go.Addr.add,↓reduceIte] at hx328_0)
     have qi328:(3<t320.length)=True:=eq_true (by omega)
     (try rw [show((3:Int)).toNat=3 from rfl] at hx328_0)
     replace p328:=eq_true p328
     replace q328:=eq_true q328
     have p329:0≤(4:Int):=(by omega)
     have q329:4<(t320.length:Int):=of_decide_eq_true asm
     obtain⟨ad329,e329,hx329_0⟩:=Kd.at_int (Kd.R_reads' HO_4.out).2.2 4 p329 q329
     obtain rfl:ad325=ad329:=(by injection e329)
     (try simp only [show(4:Int).toNat=4 from rfl,Nat.reduceMul,Nat.reduceEqDiff,Go.Addr.add,↓reduceIte] at hx329_0)
     have qi329:(4<t320.length)=True:=eq_true (by omega)
     (try rw [show((4:Int)).toNat=4 from rfl] at hx329_0)
     replace p329:=eq_true p329
     replace q329:=eq_true q329
     go_wp2_with (first|(go_at_call 79;(with_reducible refine(when_Of.calls kj12 (rd t320 0) (wrap64 ((wrap64 (Int.tdiv t324 3))+1)) (rd t320 1) (rd t320 2) (rd t320 3) (rd t320 4) t330 false _ A21.out).mono ?_);rintro e w' ⟨rfl,⟨nd,rfl⟩⟩;(try exact dd)))
     repeat (go_quiet (first|(go_at_call 79;(with_reducible refine(when_Of.calls kj12 (rd t320 0) (wrap64 ((wrap64 (Int.tdiv t324 3))+1)) (rd t320 1) (rd t320 2) (rd t320 3) (rd t320 4) t330 false _ A21.out).mono ?_);rintro e w' ⟨rfl,⟨nd,rfl⟩⟩;(try exact dd)));try go_wp2_with (first|(go_at_call 79;(with_reducible refine(when_Of.calls kj12 (rd t320 0) (wrap64 ((wrap64 (Int.tdiv t324 3))+1)) (rd t320 1) (rd t320 2) (rd t320 3) (rd t320 4) t330 false _ A21.out).mono ?_);rintro e w' ⟨rfl,⟨nd,rfl⟩⟩;(try exact dd))))
     go_ret2
     exact⟨ew,bl⟩
     }
     }
     ·exact absurd H (by simp)
     }
     ·exact absurd H (by simp)
     }
     ·exact absurd H (by simp)
     }
     ·exact absurd H (by simp)
     }
     ·exact absurd H (by simp)
     }
   }
   ·exact absurd H (by simp)
   }
   ·exact absurd H (by simp)
   }
mutual
def reply_reader_begin.j0:Nat→ByteArray→Bool→ByteArray→Int→Option (Int×Bool×ByteArray×Int)
  | 0,_,_,_,_=>none
  | k+1,x4,x35,x1000,x1001=>if x35=true then(some (0,false,x1000,x1001)) else(if 9≤12 then(if 12≤(x4.size:Int) then((enc_Int.f k (x4.extract 9 12)).bind fun bt337=>(if bt337.2=true then((reply_Phrase.f bt337.1).bind fun t339=>(if 1+t339.size≤9223372036854775807 then(reply_reader_begin.j1 k bt337.1 ((x4.extract 12 x4.size).toList != ((⟨#[32]⟩ : ByteArray)++t339).toList) x1000 x1001) else(none))) else(reply_reader_begin.j1 k bt337.1 true x1000 x1001))) else(none)) else(none))
def reply_reader_begin.j1:Nat→Int→Bool→ByteArray→Int→Option (Int×Bool×ByteArray×Int)
  | 0,_,_,_,_=>none
  | k+1,x6,x51,x1000,x1001=>if x51=true then(some (0,false,x1000,x1001)) else((reply_reader_value.f k x1000 x1001 (⟨#[83,101,114,118,101,114,58,32]⟩ : ByteArray)).bind fun bt340=>((reply_reader_value.f k bt340.2.2.1 bt340.2.2.2 (⟨#[68,97,116,101,58,32]⟩ : ByteArray)).bind fun bt344=>((reply_reader_value.f k bt344.2.2.1 bt344.2.2.2 (⟨#[120,45,97,109,122,45,114,101,113,117,101,115,116,45,105,100,58,32]⟩ : ByteArray)).bind fun bt348=>((when_ParseHttp.f k bt344.1).bind fun bt352=>(if bt340.2.1=true then(if bt344.2.1=true then(if bt348.2.1=true then(if bt352.2=true then(some (x6,(bt340.1.toList == ([115,116,111,119,97,103,101]:List UInt8)),bt348.2.2.1,bt348.2.2.2)) else(some (x6,false,bt348.2.2.1,bt348.2.2.2))) else(some (x6,false,bt348.2.2.1,bt348.2.2.2))) else(some (x6,false,bt348.2.2.1,bt348.2.2.2))) else(some (x6,false,bt348.2.2.1,bt348.2.2.2)))))))
end
def reply_reader_begin.f (k:Nat) (s0_0:ByteArray) (s0_1:Int):Option (Int×Bool×ByteArray×Int):=(reply_reader_line.f s0_0 s0_1).bind fun bt333=>(if bt333.2.1=true then(if(bt333.1.size:Int)<12 then(reply_reader_begin.j0 k bt333.1 true bt333.2.2.1 bt333.2.2.2) else(if 0≤9 then(if 9≤(bt333.1.size:Int) then(if(bt333.1.extract 0 9).toList=([72,84,84,80,47,49,46,49,32]:List UInt8) then(if 9<(bt333.1.size:Int) then(reply_reader_begin.j0 k bt333.1 ((bt bt333.1 9) == 48) bt333.2.2.1 bt333.2.2.2) else(none)) else(reply_reader_begin.j0 k bt333.1 true bt333.2.2.1 bt333.2.2.2)) else(none)) else(none))) else(reply_reader_begin.j0 k bt333.1 true bt333.2.2.1 bt333.2.2.2))
theorem reply_reader_begin.mono_l:∀ k,(∀ y0 y1 y2 y3,LeO (reply_reader_begin.j0 k y0 y1 y2 y3) (reply_reader_begin.j0 (k+1) y0 y1 y2 y3))∧(∀ y0 y1 y2 y3,LeO (reply_reader_begin.j1 k y0 y1 y2 y3) (reply_reader_begin.j1 (k+1) y0 y1 y2 y3))
  | 0=>⟨fun _ _ _ _ r h=>by simp [reply_reader_begin.j0] at h,fun _ _ _ _ r h=>by simp [reply_reader_begin.j1] at h⟩
  | k+1=>by
    obtain⟨ih0,ih1⟩:=reply_reader_begin.mono_l k
    refine⟨?_,?_⟩
    · intro y0 y1 y2 y3
      unfold reply_reader_begin.j0
      with_reducible repeat' first|exact ih0 _ _ _ _|exact ih1 _ _ _ _|exact enc_Int.mono _ _|exact reply_reader_value.mono _ _ _ _|exact when_ParseHttp.mono _ _|exact LeO.refl _|exact LeO.none _|refine LeO.ite ?_ ?_|refine LeO.bind ?_ (fun _=>?_)
    · intro y0 y1 y2 y3
      unfold reply_reader_begin.j1
      with_reducible repeat' first|exact ih0 _ _ _ _|exact ih1 _ _ _ _|exact enc_Int.mono _ _|exact reply_reader_value.mono _ _ _ _|exact when_ParseHttp.mono _ _|exact LeO.refl _|exact LeO.none _|refine LeO.ite ?_ ?_|refine LeO.bind ?_ (fun _=>?_)
theorem reply_reader_begin.mono:∀ a0 a1 k,LeO (reply_reader_begin.f k a0 a1) (reply_reader_begin.f (k+1) a0 a1):=by
 intro a0 a1 k
 obtain⟨ih0,ih1⟩:=reply_reader_begin.mono_l k
 unfold reply_reader_begin.f
 with_reducible repeat' first|exact ih0 _ _ _ _|exact ih1 _ _ _ _|exact enc_Int.mono _ _|exact reply_reader_value.mono _ _ _ _|exact when_ParseHttp.mono _ _|exact LeO.refl _|exact LeO.none _|refine LeO.ite ?_ ?_|refine LeO.bind ?_ (fun _=>?_)
theorem reply_reader_begin.calls (k:Nat) (g:Nat) (s0_0:ByteArray) (s0_1:Int) (r1:Int) (r2:Bool) (r3:ByteArray) (r4:Int) (w0 w:World) (hI:IsS73 w0 w g s0_0 s0_1) (hB:Below w0.heap.size w0 w) (hG:GOk w0) (h:reply_reader_begin.f k s0_0 s0_1=some (r1,r2,r3,r4)) :
    Calls Tryd.prog 33 #[.pointer (some ⟨g,0,none⟩)] w fun e w'=>e = .returned (.tuple #[.int .i64 r1,.bool r2])∧IsS73 w0 w' g r3 r4∧Below w0.heap.size w0 w'∧KeepBut w w' g none:=by
 have HI0:=Aside0.mk hI
 have HK:=Aside0.mk (KeepBut.refl w g none)
 have HL:=Aside0.mk hB.size
 clear hI
 have HW0:=Aside0.mk hB.size
 have HB:=Aside0.mk hB
 clear hB
 unfold reply_reader_begin.f at h
 have H:=h
 clear h
 replace H:=bndO H
 obtain⟨⟨t333,t334,t335,t336⟩,A20,H⟩:=H
 dsimp only at H
 have A2:=Aside0.mk A20
 clear A20
 have HC3:=Aside0.mk H
 clear H
 go_enter Tryd.func33,Tryd.ntmps33
 go_upto_region 2 with(first|(go_at_call 50;(with_reducible refine(reply_reader_line.calls g s0_0 s0_1 t333 t334 t335 t336 w0 _ ?side1 ?side2 gk A2.out).mono ?_);(case side1=>repeat (first|(with_reducible first|exact HI0.out|apply IsS73.alloc|apply IsS73.drewN|apply IsS73.drew|apply IsS73.set_0|apply IsS73.set_1)|exact HI0.out));(case side2=>repeat (first|(with_reducible first|exact HB.out|apply below_alloc|apply pw_below_drewN|apply below_drew1|refine below_set ?_ (IsS73.ge HI0.out))|exact HB.out));rintro e w4 ⟨rfl,hi,hb,hk⟩;replace HK:=Aside0.mk (KeepBut.trans kk hk (.inl rfl));replace HI0:=Aside0.mk (hi);replace HB:=Aside0.mk (hb)))
 repeat (go_quiet (fail);go_upto_region 2 with(first|(go_at_call 50;(with_reducible refine(reply_reader_line.calls g s0_0 s0_1 t333 t334 t335 t336 w0 _ ?side1 ?side2 gk A2.out).mono ?_);(case side1=>repeat (first|(with_reducible first|exact HI0.out|apply IsS73.alloc|apply IsS73.drewN|apply IsS73.drew|apply IsS73.set_0|apply IsS73.set_1)|exact HI0.out));(case side2=>repeat (first|(with_reducible first|exact HB.out|apply below_alloc|apply pw_below_drewN|apply below_drew1|refine below_set ?_ (IsS73.ge HI0.out))|exact HB.out));rintro e w4 ⟨rfl,hi,hb,hk⟩;replace HK:=Aside0.mk (KeepBut.trans kk hk (.inl rfl));replace HI0:=Aside0.mk (hi);replace HB:=Aside0.mk (hb))))
 (try simp only [Act.put,l1,l2,l3])
 go_cut [35] (fun v35 wc=>∃ (kq:Nat) (x35_2:Bool),v35 = .bool x35_2∧Aside0 (reply_reader_begin.j0 kq t333 x35_2 t335 t336=some (r1,r2,r3,r4))∧Aside0 (kq≤k)∧Aside0 (IsS73 w0 wc g t335 t336)∧Aside0 (KeepBut w wc g none)∧Aside0 (Below w0.heap.size w0 wc))
 case first=>
  have H:=HC3.out
  clear HC3
  by_cases c5:t334=true
  {
  subst c5
  replace H:=itT H
  replace H:=itO H
  rcases H with⟨c6,H⟩|⟨c6,H⟩
  {
  have c6b0:decide ((t333.size:Int)<12)=true:=decide_eq_true c6
  have c6b1:decide (t333.size<12)=true:=decide_eq_true (by omega)
  clear c6
  (first|rw [c6b0]|(simp only [i64_w,i32_w];rw [c6b0])|skip)
  have H':=Aside0.mk H
  clear H
  go_wp2
  repeat (go_quiet (fail);try go_wp2)
  go_meet
  case rel=>exact⟨_,(true),rs,H',⟨by first|omega|exact Nat.le_refl _⟩,⟨isl73⟩,⟨kk⟩,⟨bl⟩⟩
  }
  {
  have c6b0:decide ((t333.size:Int)<12)=false:=decide_eq_false c6
  have c6b1:decide (t333.size<12)=false:=decide_eq_false (by omega)
  clear c6
  (first|rw [c6b0]|(simp only [i64_w,i32_w];rw [c6b0])|skip)
  replace H:=itO H
  rcases H with⟨c7,H⟩|⟨c7,H⟩
  {
  have c7b0:=eq_true c7
  have c7b1:=decide_eq_true c7
  clear c7
  replace H:=itO H
  rcases H with⟨c8,H⟩|⟨c8,H⟩
  {
  have c8b0:=eq_true c8
  have c8b1:=decide_eq_true c8
  clear c8
  replace H:=itO H
  rcases H with⟨c9,H⟩|⟨c9,H⟩
  {
  have c9b0:((t333.extract 0 9).toList == ([72,84,84,80,47,49,46,49,32]:List UInt8))=true:=beq_iff_eq.mpr c9
  have c9b1:((t333.extract 0 9).toList != ([72,84,84,80,47,49,46,49,32]:List UInt8))=false:=bne_eq_false_iff_eq.mpr c9
  clear c9
  replace H:=itO H
  rcases H with⟨c10,H⟩|⟨c10,H⟩
  {
  have c10b0:decide (9<(t333.size:Int))=true:=decide_eq_true c10
  have c10b1:decide (9<t333.size)=true:=decide_eq_true (by omega)
  clear c10
  have H':=Aside0.mk H
  clear H
  have p11:0≤(9:Int):=(by omega)
  have q11:9<t333.size:=(by have:(9:Int)<(t333.size:Int):=of_decide_eq_true asm;omega)
  have hx11:∀ h:9<t333.size,((t333[9]'h).toNat:Int)=bt t333 9:=bt_at t333 9
  clear p11
  have qi11:(9<(t333.size:Int))=True:=eq_true (of_decide_eq_true asm)
  replace q11:=eq_true q11
  go_wp2
  repeat (go_quiet (fail);try go_wp2)
  go_meet
  case rel=>exact⟨_,(((bt t333 9) == 48)),rs,H',⟨by first|omega|exact Nat.le_refl _⟩,⟨isl73⟩,⟨kk⟩,⟨bl⟩⟩
  }
  ·exact absurd H (by simp)
  }
  {
  have c9b0:((t333.extract 0 9).toList == ([72,84,84,80,47,49,46,49,32]:List UInt8))=false:=beq_eq_false_iff_ne.mpr c9
  have c9b1:((t333.extract 0 9).toList != ([72,84,84,80,47,49,46,49,32]:List UInt8))=true:=bne_iff_ne.mpr c9
  have H':=Aside0.mk H
  clear H
  go_wp2
  repeat (go_quiet (fail);try go_wp2)
  go_meet
  case rel=>exact⟨_,(true),rs,H',⟨by first|omega|exact Nat.le_refl _⟩,⟨isl73⟩,⟨kk⟩,⟨bl⟩⟩
  }
  }
  ·exact absurd H (by simp)
  }
  ·exact absurd H (by simp)
  }
  }
  {
  replace c5:=Bool.eq_false_iff.mpr c5
  subst c5
  replace H:=itF H
  have H':=Aside0.mk H
  clear H
  go_wp2
  repeat (go_quiet (fail);try go_wp2)
  go_meet
  case rel=>exact⟨_,(true),rs,H',⟨by first|omega|exact Nat.le_refl _⟩,⟨isl73⟩,⟨kk⟩,⟨bl⟩⟩
  }
 case rest=>
  clear HC3
  obtain⟨kq,x35_2,rfl,HA,HJ2,HI0,HK,HB⟩:=hcut
  cases kq with
  | zero=>exact absurd HA.out (by simp [reply_reader_begin.j0])
  | succ kj2=>
   have H:=HA.out
   clear HA
   simp only [reply_reader_begin.j0] at H
   by_cases c12:x35_2=true
   {
   subst c12
   replace H:=itT H
   simp only [Option.some.injEq,Prod.mk.injEq] at H
   obtain⟨rfl,rfl,rfl,rfl⟩:=H
   go_wp2
   repeat (go_quiet (fail);try go_wp2)
   go_ret2
   exact⟨ew,isl73,bl,kk⟩
   }
   {
   replace c12:=Bool.eq_false_iff.mpr c12
   subst c12
   replace H:=itF H
   replace H:=itO H
   rcases H with⟨c13,H⟩|⟨c13,H⟩
   {
   have c13b0:=eq_true c13
   have c13b1:=decide_eq_true c13
   clear c13
   replace H:=itO H
   rcases H with⟨c14,H⟩|⟨c14,H⟩
   {
   have c14b0:=eq_true c14
   have c14b1:=decide_eq_true c14
   clear c14
   replace H:=bndO H
   obtain⟨⟨t337,t338⟩,A150,H⟩:=H
   dsimp only at H
   have A15:=Aside0.mk A150
   clear A150
   have HC16:=Aside0.mk H
   clear H
   go_upto_region 5 with(first|(go_at_call 51;(with_reducible refine(enc_Int.calls kj2 (t333.extract 9 12) t337 t338 _ A15.out).mono ?_);rintro e w' ⟨rfl,⟨nd,rfl⟩⟩;(try exact dd)))
   repeat (go_quiet (fail);go_upto_region 5 with(first|(go_at_call 51;(with_reducible refine(enc_Int.calls kj2 (t333.extract 9 12) t337 t338 _ A15.out).mono ?_);rintro e w' ⟨rfl,⟨nd,rfl⟩⟩;(try exact dd))))
   (try simp only [Act.put,l1,l2,l3])
   go_cut [51] (fun v51 wc=>∃ (kq:Nat) (x51_15:Bool),v51 = .bool x51_15∧Aside0 (reply_reader_begin.j1 kq t337 x51_15 t335 t336=some (r1,r2,r3,r4))∧Aside0 (kq≤kj2)∧Aside0 (IsS73 w0 wc g t335 t336)∧Aside0 (KeepBut w wc g none)∧Aside0 (Below w0.heap.size w0 wc))
   case first=>
    have H:=HC16.out
    clear HC16
    by_cases c17:t338=true
    {
    subst c17
    replace H:=itT H
    have c18b0:=eq_true (of_decide_eq_true asm:12≤(t333.size:Int))
    replace H:=bndO H
    obtain⟨t339,A190,H⟩:=H
    have A19:=Aside0.mk A190
    clear A190
    replace H:=itO H
    rcases H with⟨c20,H⟩|⟨c20,H⟩
    {
    have c20b0:=eq_true c20
    have c20b1:=decide_eq_true c20
    try have c20b2:=eq_false (Nat.not_lt.2 c20)
    try (have c20n:1+t339.size≤9223372036854775807:=by have h_:=c20;simp only [ByteArray.size_append,ByteArray.size_extract] at h_;exact h_)
    try have c20f:(9223372036854775807<1+t339.size)=False:=eq_false (by first|omega|(simp only [eq_iff_iff,iff_true] at *;omega))
    have H':=Aside0.mk H
    clear H
    go_wp2_with (first|(go_at_call 13;(with_reducible refine(reply_Phrase.calls t337 t339 _ A19.out).mono ?_);rintro e w' ⟨rfl,⟨nd,rfl⟩⟩;(try exact dd)))
    repeat (go_quiet (first|(go_at_call 13;(with_reducible refine(reply_Phrase.calls t337 t339 _ A19.out).mono ?_);rintro e w' ⟨rfl,⟨nd,rfl⟩⟩;(try exact dd)));try go_wp2_with (first|(go_at_call 13;(with_reducible refine(reply_Phrase.calls t337 t339 _ A19.out).mono ?_);rintro e w' ⟨rfl,⟨nd,rfl⟩⟩;(try exact dd))))
    go_meet
    case rel=>exact⟨_,(((t333.extract 12 t333.size).toList != ((⟨#[32]⟩ : ByteArray)++t339).toList)),rs,H',⟨by have:=HJ2.out;first|omega|exact Nat.le_refl _⟩,⟨isl73⟩,⟨kk⟩,⟨bl⟩⟩
    }
    ·exact absurd H (by simp)
    }
    {
    replace c17:=Bool.eq_false_iff.mpr c17
    subst c17
    replace H:=itF H
    have H':=Aside0.mk H
    clear H
    go_wp2
    repeat (go_quiet (fail);try go_wp2)
    go_meet
    case rel=>exact⟨_,(true),rs,H',⟨by have:=HJ2.out;first|omega|exact Nat.le_refl _⟩,⟨isl73⟩,⟨kk⟩,⟨bl⟩⟩
    }
   case rest=>
    clear HC16
    obtain⟨kq,x51_15,rfl,HA,HJ15,HI0,HK,HB⟩:=hcut
    cases kq with
    | zero=>exact absurd HA.out (by simp [reply_reader_begin.j1])
    | succ kj15=>
     have H:=HA.out
     clear HA
     simp only [reply_reader_begin.j1] at H
     by_cases c21:x51_15=true
     {
     subst c21
     replace H:=itT H
     simp only [Option.some.injEq,Prod.mk.injEq] at H
     obtain⟨rfl,rfl,rfl,rfl⟩:=H
     go_wp2
     repeat (go_quiet (fail);try go_wp2)
     go_ret2
     exact⟨ew,isl73,bl,kk⟩
     }
     {
     replace c21:=Bool.eq_false_iff.mpr c21
     subst c21
     replace H:=itF H
     replace H:=bndO H
     obtain⟨⟨t340,t341,t342,t343⟩,A220,H⟩:=H
     dsimp only at H
     have A22:=Aside0.mk A220
     clear A220
     replace H:=bndO H
     obtain⟨⟨t344,t345,t346,t347⟩,A230,H⟩:=H
     dsimp only at H
     have A23:=Aside0.mk A230
     clear A230
     replace H:=bndO H
     obtain⟨⟨t348,t349,t350,t351⟩,A240,H⟩:=H
     dsimp only at H
     have A24:=Aside0.mk A240
     clear A240
     replace H:=bndO H
     obtain⟨⟨t352,t353⟩,A250,H⟩:=H
     dsimp only at H
     have A25:=Aside0.mk A250
     clear A250
     by_cases c26:t341=true
     {
     subst c26
     replace H:=itT H
     by_cases c27:t345=true
     {
     subst c27
     replace H:=itT H
     by_cases c28:t349=true
     {
     subst c28
     replace H:=itT H
     by_cases c29:t353=true
     {
     subst c29
     replace H:=itT H
     simp only [Option.some.injEq,Prod.mk.injEq] at H
     obtain⟨rfl,rfl,rfl,rfl⟩:=H
     go_wp2_with (first|(go_at_call 52;(with_reducible refine(reply_reader_value.calls kj15 g t335 t336 (⟨#[83,101,114,118,101,114,58,32]⟩ : ByteArray) t340 true t342 t343 w0 _ ?side1 ?side2 gk A22.out).mono ?_);(case side1=>repeat (first|(with_reducible first|exact HI0.out|apply IsS73.alloc|apply IsS73.drewN|apply IsS73.drew|apply IsS73.set_0|apply IsS73.set_1)|exact HI0.out));(case side2=>repeat (first|(with_reducible first|exact HB.out|apply below_alloc|apply pw_below_drewN|apply below_drew1|refine below_set ?_ (IsS73.ge HI0.out))|exact HB.out));rintro e w30 ⟨rfl,hi,hb,hk⟩;replace HK:=Aside0.mk (KeepBut.trans kk hk (.inl rfl));replace HI0:=Aside0.mk (hi);replace HB:=Aside0.mk (hb))|(go_at_call 52;(with_reducible refine(reply_reader_value.calls kj15 g t342 t343 (⟨#[68,97,116,101,58,32]⟩ : ByteArray) t344 true t346 t347 w0 _ ?side1 ?side2 gk A23.out).mono ?_);(case side1=>repeat (first|(with_reducible first|exact HI0.out|apply IsS73.alloc|apply IsS73.drewN|apply IsS73.drew|apply IsS73.set_0|apply IsS73.set_1)|exact HI0.out));(case side2=>repeat (first|(with_reducible first|exact HB.out|apply below_alloc|apply pw_below_drewN|apply below_drew1|refine below_set ?_ (IsS73.ge HI0.out))|exact HB.out));rintro e w31 ⟨rfl,hi,hb,hk⟩;replace HK:=Aside0.mk (KeepBut.trans kk hk (.inl rfl));replace HI0:=Aside0.mk (hi);replace HB:=Aside0.mk (hb))|(go_at_call 52;(with_reducible refine(reply_reader_value.calls kj15 g t346 t347 (⟨#[120,45,97,109,122,45,114,101,113,117,101,115,116,45,105,100,58,32]⟩ : ByteArray) t348 true t350 t351 w0 _ ?side1 ?side2 gk A24.out).mono ?_);(case side1=>repeat (first|(with_reducible first|exact HI0.out|apply IsS73.alloc|apply IsS73.drewN|apply IsS73.drew|apply IsS73.set_0|apply IsS73.set_1)|exact HI0.out));(case side2=>repeat (first|(with_reducible first|exact HB.out|apply below_alloc|apply pw_below_drewN|apply below_drew1|refine below_set ?_ (IsS73.ge HI0.out))|exact HB.out));rintro e w32 ⟨rfl,hi,hb,hk⟩;replace HK:=Aside0.mk (KeepBut.trans kk hk (.inl rfl));replace HI0:=Aside0.mk (hi);replace HB:=Aside0.mk (hb))|(go_at_call 53;(with_reducible refine(when_ParseHttp.calls kj15 t344 t352 true _ gk A25.out).mono ?_);rintro e w33 ⟨rfl,hb⟩;replace HI0:=Aside0.mk (IsS73.below isl73 hb);replace HK:=Aside0.mk (KeepBut.trans kk (KeepBut.of_below hb g none) (.inl rfl));replace HB:=Aside0.mk (below_step bl hb)))
     repeat (go_quiet (fail);try go_wp2_with (first|(go_at_call 52;(with_reducible refine(reply_reader_value.calls kj15 g t335 t336 (⟨#[83,101,114,118,101,114,58,32]⟩ : ByteArray) t340 true t342 t343 w0 _ ?side1 ?side2 gk A22.out).mono ?_);(case side1=>repeat (first|(with_reducible first|exact HI0.out|apply IsS73.alloc|apply IsS73.drewN|apply IsS73.drew|apply IsS73.set_0|apply IsS73.set_1)|exact HI0.out));(case side2=>repeat (first|(with_reducible first|exact HB.out|apply below_alloc|apply pw_below_drewN|apply below_drew1|refine below_set ?_ (IsS73.ge HI0.out))|exact HB.out));rintro e w30 ⟨rfl,hi,hb,hk⟩;replace HK:=Aside0.mk (KeepBut.trans kk hk (.inl rfl));replace HI0:=Aside0.mk (hi);replace HB:=Aside0.mk (hb))|(go_at_call 52;(with_reducible refine(reply_reader_value.calls kj15 g t342 t343 (⟨#[68,97,116,101,58,32]⟩ : ByteArray) t344 true t346 t347 w0 _ ?side1 ?side2 gk A23.out).mono ?_);(case side1=>repeat (first|(with_reducible first|exact HI0.out|apply IsS73.alloc|apply IsS73.drewN|apply IsS73.drew|apply IsS73.set_0|apply IsS73.set_1)|exact HI0.out));(case side2=>repeat (first|(with_reducible first|exact HB.out|apply below_alloc|apply pw_below_drewN|apply below_drew1|refine below_set ?_ (IsS73.ge HI0.out))|exact HB.out));rintro e w31 ⟨rfl,hi,hb,hk⟩;replace HK:=Aside0.mk (KeepBut.trans kk hk (.inl rfl));replace HI0:=Aside0.mk (hi);replace HB:=Aside0.mk (hb))|(go_at_call 52;(with_reducible refine(reply_reader_value.calls kj15 g t346 t347 (⟨#[120,45,97,109,122,45,114,101,113,117,101,115,116,45,105,100,58,32]⟩ : ByteArray) t348 true t350 t351 w0 _ ?side1 ?side2 gk A24.out).mono ?_);(case side1=>repeat (first|(with_reducible first|exact HI0.out|apply IsS73.alloc|apply IsS73.drewN|apply IsS73.drew|apply IsS73.set_0|apply IsS73.set_1)|exact HI0.out));(case side2=>repeat (first|(with_reducible first|exact HB.out|apply below_alloc|apply pw_below_drewN|apply below_drew1|refine below_set ?_ (IsS73.ge HI0.out))|exact HB.out));rintro e w32 ⟨rfl,hi,hb,hk⟩;replace HK:=Aside0.mk (KeepBut.trans kk hk (.inl rfl));replace HI0:=Aside0.mk (hi);replace HB:=Aside0.mk (hb))|(go_at_call 53;(with_reducible refine(when_ParseHttp.calls kj15 t344 t352 true _ gk A25.out).mono ?_);rintro e w33 ⟨rfl,hb⟩;replace HI0:=Aside0.mk (IsS73.below isl73 hb);replace HK:=Aside0.mk (KeepBut.trans kk (KeepBut.of_below hb g none) (.inl rfl));replace HB:=Aside0.mk (below_step bl hb))))
     go_ret2
     exact⟨ew,isl73,bl,kk⟩
     }
     {
     replace c29:=Bool.eq_false_iff.mpr c29
     subst c29
     replace H:=itF H
     simp only [Option.some.injEq,Prod.mk.injEq] at H
     obtain⟨rfl,rfl,rfl,rfl⟩:=H
     go_wp2_with (first|(go_at_call 52;(with_reducible refine(reply_reader_value.calls kj15 g t335 t336 (⟨#[83,101,114,118,101,114,58,32]⟩ : ByteArray) t340 true t342 t343 w0 _ ?side1 ?side2 gk A22.out).mono ?_);(case side1=>repeat (first|(with_reducible first|exact HI0.out|apply IsS73.alloc|apply IsS73.drewN|apply IsS73.drew|apply IsS73.set_0|apply IsS73.set_1)|exact HI0.out));(case side2=>repeat (first|(with_reducible first|exact HB.out|apply below_alloc|apply pw_below_drewN|apply below_drew1|refine below_set ?_ (IsS73.ge HI0.out))|exact HB.out));rintro e w34 ⟨rfl,hi,hb,hk⟩;replace HK:=Aside0.mk (KeepBut.trans kk hk (.inl rfl));replace HI0:=Aside0.mk (hi);replace HB:=Aside0.mk (hb))|(go_at_call 52;(with_reducible refine(reply_reader_value.calls kj15 g t342 t343 (⟨#[68,97,116,101,58,32]⟩ : ByteArray) t344 true t346 t347 w0 _ ?side1 ?side2 gk A23.out).mono ?_);(case side1=>repeat (first|(with_reducible first|exact HI0.out|apply IsS73.alloc|apply IsS73.drewN|apply IsS73.drew|apply IsS73.set_0|apply IsS73.set_1)|exact HI0.out));(case side2=>repeat (first|(with_reducible first|exact HB.out|apply below_alloc|apply pw_below_drewN|apply below_drew1|refine below_set ?_ (IsS73.ge HI0.out))|exact HB.out));rintro e w35 ⟨rfl,hi,hb,hk⟩;replace HK:=Aside0.mk (KeepBut.trans kk hk (.inl rfl));replace HI0:=Aside0.mk (hi);replace HB:=Aside0.mk (hb))|(go_at_call 52;(with_reducible refine(reply_reader_value.calls kj15 g t346 t347 (⟨#[120,45,97,109,122,45,114,101,113,117,101,115,116,45,105,100,58,32]⟩ : ByteArray) t348 true t350 t351 w0 _ ?side1 ?side2 gk A24.out).mono ?_);(case side1=>repeat (first|(with_reducible first|exact HI0.out|apply IsS73.alloc|apply IsS73.drewN|apply IsS73.drew|apply IsS73.set_0|apply IsS73.set_1)|exact HI0.out));(case side2=>repeat (first|(with_reducible first|exact HB.out|apply below_alloc|apply pw_below_drewN|apply below_drew1|refine below_set ?_ (IsS73.ge HI0.out))|exact HB.out));rintro e w36 ⟨rfl,hi,hb,hk⟩;replace HK:=Aside0.mk (KeepBut.trans kk hk (.inl rfl));replace HI0:=Aside0.mk (hi);replace HB:=Aside0.mk (hb))|(go_at_call 53;(with_reducible refine(when_ParseHttp.calls kj15 t344 t352 false _ gk A25.out).mono ?_);rintro e w37 ⟨rfl,hb⟩;replace HI0:=Aside0.mk (IsS73.below isl73 hb);replace HK:=Aside0.mk (KeepBut.trans kk (KeepBut.of_below hb g none) (.inl rfl));replace HB:=Aside0.mk (below_step bl hb)))
     repeat (go_quiet (fail);try go_wp2_with (first|(go_at_call 52;(with_reducible refine(reply_reader_value.calls kj15 g t335 t336 (⟨#[83,101,114,118,101,114,58,32]⟩ : ByteArray) t340 true t342 t343 w0 _ ?side1 ?side2 gk A22.out).mono ?_);(case side1=>repeat (first|(with_reducible first|exact HI0.out|apply IsS73.alloc|apply IsS73.drewN|apply IsS73.drew|apply IsS73.set_0|apply IsS73.set_1)|exact HI0.out));(case side2=>repeat (first|(with_reducible first|exact HB.out|apply below_alloc|apply pw_below_drewN|apply below_drew1|refine below_set ?_ (IsS73.ge HI0.out))|exact HB.out));rintro e w34 ⟨rfl,hi,hb,hk⟩;replace HK:=Aside0.mk (KeepBut.trans kk hk (.inl rfl));replace HI0:=Aside0.mk (hi);replace HB:=Aside0.mk (hb))|(go_at_call 52;(with_reducible refine(reply_reader_value.calls kj15 g t342 t343 (⟨#[68,97,116,101,58,32]⟩ : ByteArray) t344 true t346 t347 w0 _ ?side1 ?side2 gk A23.out).mono ?_);(case side1=>repeat (first|(with_reducible first|exact HI0.out|apply IsS73.alloc|apply IsS73.drewN|apply IsS73.drew|apply IsS73.set_0|apply IsS73.set_1)|exact HI0.out));(case side2=>repeat (first|(with_reducible first|exact HB.out|apply below_alloc|apply pw_below_drewN|apply below_drew1|refine below_set ?_ (IsS73.ge HI0.out))|exact HB.out));rintro e w35 ⟨rfl,hi,hb,hk⟩;replace HK:=Aside0.mk (KeepBut.trans kk hk (.inl rfl));replace HI0:=Aside0.mk (hi);replace HB:=Aside0.mk (hb))|(go_at_call 52;(with_reducible refine(reply_reader_value.calls kj15 g t346 t347 (⟨#[120,45,97,109,122,45,114,101,113,117,101,115,116,45,105,100,58,32]⟩ : ByteArray) t348 true t350 t351 w0 _ ?side1 ?side2 gk A24.out).mono ?_);(case side1=>repeat (first|(with_reducible first|exact HI0.out|apply IsS73.alloc|apply IsS73.drewN|apply IsS73.drew|apply IsS73.set_0|apply IsS73.set_1)|exact HI0.out));(case side2=>repeat (first|(with_reducible first|exact HB.out|apply below_alloc|apply pw_below_drewN|apply below_drew1|refine below_set ?_ (IsS73.ge HI0.out))|exact HB.out));rintro e w36 ⟨rfl,hi,hb,hk⟩;replace HK:=Aside0.mk (KeepBut.trans kk hk (.inl rfl));replace HI0:=Aside0.mk (hi);replace HB:=Aside0.mk (hb))|(go_at_call 53;(with_reducible refine(when_ParseHttp.calls kj15 t344 t352 false _ gk A25.out).mono ?_);rintro e w37 ⟨rfl,hb⟩;replace HI0:=Aside0.mk (IsS73.below isl73 hb);replace HK:=Aside0.mk (KeepBut.trans kk (KeepBut.of_below hb g none) (.inl rfl));replace HB:=Aside0.mk (below_step bl hb))))
     go_ret2
     exact⟨ew,isl73,bl,kk⟩
     }
     }
     {
     replace c28:=Bool.eq_false_iff.mpr c28
     subst c28
     replace H:=itF H
     simp only [Option.some.injEq,Prod.mk.injEq] at H
     obtain⟨rfl,rfl,rfl,rfl⟩:=H
     go_wp2_with (first|(go_at_call 52;(with_reducible refine(reply_reader_value.calls kj15 g t335 t336 (⟨#[83,101,114,118,101,114,58,32]⟩ : ByteArray) t340 true t342 t343 w0 _ ?side1 ?side2 gk A22.out).mono ?_);(case side1=>repeat (first|(with_reducible first|exact HI0.out|apply IsS73.alloc|apply IsS73.drewN|apply IsS73.drew|apply IsS73.set_0|apply IsS73.set_1)|exact HI0.out));(case side2=>repeat (first|(with_reducible first|exact HB.out|apply below_alloc|apply pw_below_drewN|apply below_drew1|refine below_set ?_ (IsS73.ge HI0.out))|exact HB.out));rintro e w38 ⟨rfl,hi,hb,hk⟩;replace HK:=Aside0.mk (KeepBut.trans kk hk (.inl rfl));replace HI0:=Aside0.mk (hi);replace HB:=Aside0.mk (hb))|(go_at_call 52;(with_reducible refine(reply_reader_value.calls kj15 g t342 t343 (⟨#[68,97,116,101,58,32]⟩ : ByteArray) t344 true t346 t347 w0 _ ?side1 ?side2 gk A23.out).mono ?_);(case side1=>repeat (first|(with_reducible first|exact HI0.out|apply IsS73.alloc|apply IsS73.drewN|apply IsS73.drew|apply IsS73.set_0|apply IsS73.set_1)|exact HI0.out));(case side2=>repeat (first|(with_reducible first|exact HB.out|apply below_alloc|apply pw_below_drewN|apply below_drew1|refine below_set ?_ (IsS73.ge HI0.out))|exact HB.out));rintro e w39 ⟨rfl,hi,hb,hk⟩;replace HK:=Aside0.mk (KeepBut.trans kk hk (.inl rfl));replace HI0:=Aside0.mk (hi);replace HB:=Aside0.mk (hb))|(go_at_call 52;(with_reducible refine(reply_reader_value.calls kj15 g t346 t347 (⟨#[120,45,97,109,122,45,114,101,113,117,101,115,116,45,105,100,58,32]⟩ : ByteArray) t348 false t350 t351 w0 _ ?side1 ?side2 gk A24.out).mono ?_);(case side1=>repeat (first|(with_reducible first|exact HI0.out|apply IsS73.alloc|apply IsS73.drewN|apply IsS73.drew|apply IsS73.set_0|apply IsS73.set_1)|exact HI0.out));(case side2=>repeat (first|(with_reducible first|exact HB.out|apply below_alloc|apply pw_below_drewN|apply below_drew1|refine below_set ?_ (IsS73.ge HI0.out))|exact HB.out));rintro e w40 ⟨rfl,hi,hb,hk⟩;replace HK:=Aside0.mk (KeepBut.trans kk hk (.inl rfl));replace HI0:=Aside0.mk (hi);replace HB:=Aside0.mk (hb))|(go_at_call 53;(with_reducible refine(when_ParseHttp.calls kj15 t344 t352 t353 _ gk A25.out).mono ?_);rintro e w41 ⟨rfl,hb⟩;replace HI0:=Aside0.mk (IsS73.below isl73 hb);replace HK:=Aside0.mk (KeepBut.trans kk (KeepBut.of_below hb g none) (.inl rfl));replace HB:=Aside0.mk (below_step bl hb)))
     repeat (go_quiet (fail);try go_wp2_with (first|(go_at_call 52;(with_reducible refine(reply_reader_value.calls kj15 g t335 t336 (⟨#[83,101,114,118,101,114,58,32]⟩ : ByteArray) t340 true t342 t343 w0 _ ?side1 ?side2 gk A22.out).mono ?_);(case side1=>repeat (first|(with_reducible first|exact HI0.out|apply IsS73.alloc|apply IsS73.drewN|apply IsS73.drew|apply IsS73.set_0|apply IsS73.set_1)|exact HI0.out));(case side2=>repeat (first|(with_reducible first|exact HB.out|apply below_alloc|apply pw_below_drewN|apply below_drew1|refine below_set ?_ (IsS73.ge HI0.out))|exact HB.out));rintro e w38 ⟨rfl,hi,hb,hk⟩;replace HK:=Aside0.mk (KeepBut.trans kk hk (.inl rfl));replace HI0:=Aside0.mk (hi);replace HB:=Aside0.mk (hb))|(go_at_call 52;(with_reducible refine(reply_reader_value.calls kj15 g t342 t343 (⟨#[68,97,116,101,58,32]⟩ : ByteArray) t344 true t346 t347 w0 _ ?side1 ?side2 gk A23.out).mono ?_);(case side1=>repeat (first|(with_reducible first|exact HI0.out|apply IsS73.alloc|apply IsS73.drewN|apply IsS73.drew|apply IsS73.set_0|apply IsS73.set_1)|exact HI0.out));(case side2=>repeat (first|(with_reducible first|exact HB.out|apply below_alloc|apply pw_below_drewN|apply below_drew1|refine below_set ?_ (IsS73.ge HI0.out))|exact HB.out));rintro e w39 ⟨rfl,hi,hb,hk⟩;replace HK:=Aside0.mk (KeepBut.trans kk hk (.inl rfl));replace HI0:=Aside0.mk (hi);replace HB:=Aside0.mk (hb))|(go_at_call 52;(with_reducible refine(reply_reader_value.calls kj15 g t346 t347 (⟨#[120,45,97,109,122,45,114,101,113,117,101,115,116,45,105,100,58,32]⟩ : ByteArray) t348 false t350 t351 w0 _ ?side1 ?side2 gk A24.out).mono ?_);(case side1=>repeat (first|(with_reducible first|exact HI0.out|apply IsS73.alloc|apply IsS73.drewN|apply IsS73.drew|apply IsS73.set_0|apply IsS73.set_1)|exact HI0.out));(case side2=>repeat (first|(with_reducible first|exact HB.out|apply below_alloc|apply pw_below_drewN|apply below_drew1|refine below_set ?_ (IsS73.ge HI0.out))|exact HB.out));rintro e w40 ⟨rfl,hi,hb,hk⟩;replace HK:=Aside0.mk (KeepBut.trans kk hk (.inl rfl));replace HI0:=Aside0.mk (hi);replace HB:=Aside0.mk (hb))|(go_at_call 53;(with_reducible refine(when_ParseHttp.calls kj15 t344 t352 t353 _ gk A25.out).mono ?_);rintro e w41 ⟨rfl,hb⟩;replace HI0:=Aside0.mk (IsS73.below isl73 hb);replace HK:=Aside0.mk (KeepBut.trans kk (KeepBut.of_below hb g none) (.inl rfl));replace HB:=Aside0.mk (below_step bl hb))))
     go_ret2
     exact⟨ew,isl73,bl,kk⟩
     }
     }
     {
     replace c27:=Bool.eq_false_iff.mpr c27
     subst c27
     replace H:=itF H
     simp only [Option.some.injEq,Prod.mk.injEq] at H
     obtain⟨rfl,rfl,rfl,rfl⟩:=H
     go_wp2_with (first|(go_at_call 52;(with_reducible refine(reply_reader_value.calls kj15 g t335 t336 (⟨#[83,101,114,118,101,114,58,32]⟩ : ByteArray) t340 true t342 t343 w0 _ ?side1 ?side2 gk A22.out).mono ?_);(case side1=>repeat (first|(with_reducible first|exact HI0.out|apply IsS73.alloc|apply IsS73.drewN|apply IsS73.drew|apply IsS73.set_0|apply IsS73.set_1)|exact HI0.out));(case side2=>repeat (first|(with_reducible first|exact HB.out|apply below_alloc|apply pw_below_drewN|apply below_drew1|refine below_set ?_ (IsS73.ge HI0.out))|exact HB.out));rintro e w42 ⟨rfl,hi,hb,hk⟩;replace HK:=Aside0.mk (KeepBut.trans kk hk (.inl rfl));replace HI0:=Aside0.mk (hi);replace HB:=Aside0.mk (hb))|(go_at_call 52;(with_reducible refine(reply_reader_value.calls kj15 g t342 t343 (⟨#[68,97,116,101,58,32]⟩ : ByteArray) t344 false t346 t347 w0 _ ?side1 ?side2 gk A23.out).mono ?_);(case side1=>repeat (first|(with_reducible first|exact HI0.out|apply IsS73.alloc|apply IsS73.drewN|apply IsS73.drew|apply IsS73.set_0|apply IsS73.set_1)|exact HI0.out));(case side2=>repeat (first|(with_reducible first|exact HB.out|apply below_alloc|apply pw_below_drewN|apply below_drew1|refine below_set ?_ (IsS73.ge HI0.out))|exact HB.out));rintro e w43 ⟨rfl,hi,hb,hk⟩;replace HK:=Aside0.mk (KeepBut.trans kk hk (.inl rfl));replace HI0:=Aside0.mk (hi);replace HB:=Aside0.mk (hb))|(go_at_call 52;(with_reducible refine(reply_reader_value.calls kj15 g t346 t347 (⟨#[120,45,97,109,122,45,114,101,113,117,101,115,116,45,105,100,58,32]⟩ : ByteArray) t348 t349 t350 t351 w0 _ ?side1 ?side2 gk A24.out).mono ?_);(case side1=>repeat (first|(with_reducible first|exact HI0.out|apply IsS73.alloc|apply IsS73.drewN|apply IsS73.drew|apply IsS73.set_0|apply IsS73.set_1)|exact HI0.out));(case side2=>repeat (first|(with_reducible first|exact HB.out|apply below_alloc|apply pw_below_drewN|apply below_drew1|refine below_set ?_ (IsS73.ge HI0.out))|exact HB.out));rintro e w44 ⟨rfl,hi,hb,hk⟩;replace HK:=Aside0.mk (KeepBut.trans kk hk (.inl rfl));replace HI0:=Aside0.mk (hi);replace HB:=Aside0.mk (hb))|(go_at_call 53;(with_reducible refine(when_ParseHttp.calls kj15 t344 t352 t353 _ gk A25.out).mono ?_);rintro e w45 ⟨rfl,hb⟩;replace HI0:=Aside0.mk (IsS73.below isl73 hb);replace HK:=Aside0.mk (KeepBut.trans kk (KeepBut.of_below hb g none) (.inl rfl));replace HB:=Aside0.mk (below_step bl hb)))
     repeat (go_quiet (fail);try go_wp2_with (first|(go_at_call 52;(with_reducible refine(reply_reader_value.calls kj15 g t335 t336 (⟨#[83,101,114,118,101,114,58,32]⟩ : ByteArray) t340 true t342 t343 w0 _ ?side1 ?side2 gk A22.out).mono ?_);(case side1=>repeat (first|(with_reducible first|exact HI0.out|apply IsS73.alloc|apply IsS73.drewN|apply IsS73.drew|apply IsS73.set_0|apply IsS73.set_1)|exact HI0.out));(case side2=>repeat (first|(with_reducible first|exact HB.out|apply below_alloc|apply pw_below_drewN|apply below_drew1|refine below_set ?_ (IsS73.ge HI0.out))|exact HB.out));rintro e w42 ⟨rfl,hi,hb,hk⟩;replace HK:=Aside0.mk (KeepBut.trans kk hk (.inl rfl));replace HI0:=Aside0.mk (hi);replace HB:=Aside0.mk (hb))|(go_at_call 52;(with_reducible refine(reply_reader_value.calls kj15 g t342 t343 (⟨#[68,97,116,101,58,32]⟩ : ByteArray) t344 false t346 t347 w0 _ ?side1 ?side2 gk A23.out).mono ?_);(case side1=>repeat (first|(with_reducible first|exact HI0.out|apply IsS73.alloc|apply IsS73.drewN|apply IsS73.drew|apply IsS73.set_0|apply IsS73.set_1)|exact HI0.out));(case side2=>repeat (first|(with_reducible first|exact HB.out|apply below_alloc|apply pw_below_drewN|apply below_drew1|refine below_set ?_ (IsS73.ge HI0.out))|exact HB.out));rintro e w43 ⟨rfl,hi,hb,hk⟩;replace HK:=Aside0.mk (KeepBut.trans kk hk (.inl rfl));replace HI0:=Aside0.mk (hi);replace HB:=Aside0.mk (hb))|(go_at_call 52;(with_reducible refine(reply_reader_value.calls kj15 g t346 t347 (⟨#[120,45,97,109,122,45,114,101,113,117,101,115,116,45,105,100,58,32]⟩ : ByteArray) t348 t349 t350 t351 w0 _ ?side1 ?side2 gk A24.out).mono ?_);(case side1=>repeat (first|(with_reducible first|exact HI0.out|apply IsS73.alloc|apply IsS73.drewN|apply IsS73.drew|apply IsS73.set_0|apply IsS73.set_1)|exact HI0.out));(case side2=>repeat (first|(with_reducible first|exact HB.out|apply below_alloc|apply pw_below_drewN|apply below_drew1|refine below_set ?_ (IsS73.ge HI0.out))|exact HB.out));rintro e w44 ⟨rfl,hi,hb,hk⟩;replace HK:=Aside0.mk (KeepBut.trans kk hk (.inl rfl));replace HI0:=Aside0.mk (hi);replace HB:=Aside0.mk (hb))|(go_at_call 53;(with_reducible refine(when_ParseHttp.calls kj15 t344 t352 t353 _ gk A25.out).mono ?_);rintro e w45 ⟨rfl,hb⟩;replace HI0:=Aside0.mk (IsS73.below isl73 hb);replace HK:=Aside0.mk (KeepBut.trans kk (KeepBut.of_below hb g none) (.inl rfl));replace HB:=Aside0.mk (below_step bl hb))))
     go_ret2
     exact⟨ew,isl73,bl,kk⟩
     }
     }
     {
     replace c26:=Bool.eq_false_iff.mpr c26
     subst c26
     replace H:=itF H
     simp only [Option.some.injEq,Prod.mk.injEq] at H
     obtain⟨rfl,rfl,rfl,rfl⟩:=H
     go_wp2_with (first|(go_at_call 52;(with_reducible refine(reply_reader_value.calls kj15 g t335 t336 (⟨#[83,101,114,118,101,114,58,32]⟩ : ByteArray) t340 false t342 t343 w0 _ ?side1 ?side2 gk A22.out).mono ?_);(case side1=>repeat (first|(with_reducible first|exact HI0.out|apply IsS73.alloc|apply IsS73.drewN|apply IsS73.drew|apply IsS73.set_0|apply IsS73.set_1)|exact HI0.out));(case side2=>repeat (first|(with_reducible first|exact HB.out|apply below_alloc|apply pw_below_drewN|apply below_drew1|refine below_set ?_ (IsS73.ge HI0.out))|exact HB.out));rintro e w46 ⟨rfl,hi,hb,hk⟩;replace HK:=Aside0.mk (KeepBut.trans kk hk (.inl rfl));replace HI0:=Aside0.mk (hi);replace HB:=Aside0.mk (hb))|(go_at_call 52;(with_reducible refine(reply_reader_value.calls kj15 g t342 t343 (⟨#[68,97,116,101,58,32]⟩ : ByteArray) t344 t345 t346 t347 w0 _ ?side1 ?side2 gk A23.out).mono ?_);(case side1=>repeat (first|(with_reducible first|exact HI0.out|apply IsS73.alloc|apply IsS73.drewN|apply IsS73.drew|apply IsS73.set_0|apply IsS73.set_1)|exact HI0.out));(case side2=>repeat (first|(with_reducible first|exact HB.out|apply below_alloc|apply pw_below_drewN|apply below_drew1|refine below_set ?_ (IsS73.ge HI0.out))|exact HB.out));rintro e w47 ⟨rfl,hi,hb,hk⟩;replace HK:=Aside0.mk (KeepBut.trans kk hk (.inl rfl));replace HI0:=Aside0.mk (hi);replace HB:=Aside0.mk (hb))|(go_at_call 52;(with_reducible refine(reply_reader_value.calls kj15 g t346 t347 (⟨#[120,45,97,109,122,45,114,101,113,117,101,115,116,45,105,100,58,32]⟩ : ByteArray) t348 t349 t350 t351 w0 _ ?side1 ?side2 gk A24.out).mono ?_);(case side1=>repeat (first|(with_reducible first|exact HI0.out|apply IsS73.alloc|apply IsS73.drewN|apply IsS73.drew|apply IsS73.set_0|apply IsS73.set_1)|exact HI0.out));(case side2=>repeat (first|(with_reducible first|exact HB.out|apply below_alloc|apply pw_below_drewN|apply below_drew1|refine below_set ?_ (IsS73.ge HI0.out))|exact HB.out));rintro e w48 ⟨rfl,hi,hb,hk⟩;replace HK:=Aside0.mk (KeepBut.trans kk hk (.inl rfl));replace HI0:=Aside0.mk (hi);replace HB:=Aside0.mk (hb))|(go_at_call 53;(with_reducible refine(when_ParseHttp.calls kj15 t344 t352 t353 _ gk A25.out).mono ?_);rintro e w49 ⟨rfl,hb⟩;replace HI0:=Aside0.mk (IsS73.below isl73 hb);replace HK:=Aside0.mk (KeepBut.trans kk (KeepBut.of_below hb g none) (.inl rfl));replace HB:=Aside0.mk (below_step bl hb)))
     repeat (go_quiet (fail);try go_wp2_with (first|(go_at_call 52;(with_reducible refine(reply_reader_value.calls kj15 g t335 t336 (⟨#[83,101,114,118,101,114,58,32]⟩ : ByteArray) t340 false t342 t343 w0 _ ?side1 ?side2 gk A22.out).mono ?_);(case side1=>repeat (first|(with_reducible first|exact HI0.out|apply IsS73.alloc|apply IsS73.drewN|apply IsS73.drew|apply IsS73.set_0|apply IsS73.set_1)|exact HI0.out));(case side2=>repeat (first|(with_reducible first|exact HB.out|apply below_alloc|apply pw_below_drewN|apply below_drew1|refine below_set ?_ (IsS73.ge HI0.out))|exact HB.out));rintro e w46 ⟨rfl,hi,hb,hk⟩;replace HK:=Aside0.mk (KeepBut.trans kk hk (.inl rfl));replace HI0:=Aside0.mk (hi);replace HB:=Aside0.mk (hb))|(go_at_call 52;(with_reducible refine(reply_reader_value.calls kj15 g t342 t343 (⟨#[68,97,116,101,58,32]⟩ : ByteArray) t344 t345 t346 t347 w0 _ ?side1 ?side2 gk A23.out).mono ?_);(case side1=>repeat (first|(with_reducible first|exact HI0.out|apply IsS73.alloc|apply IsS73.drewN|apply IsS73.drew|apply IsS73.set_0|apply IsS73.set_1)|exact HI0.out));(case side2=>repeat (first|(with_reducible first|exact HB.out|apply below_alloc|apply pw_below_drewN|apply below_drew1|refine below_set ?_ (IsS73.ge HI0.out))|exact HB.out));rintro e w47 ⟨rfl,hi,hb,hk⟩;replace HK:=Aside0.mk (KeepBut.trans kk hk (.inl rfl));replace HI0:=Aside0.mk (hi);replace HB:=Aside0.mk (hb))|(go_at_call 52;(with_reducible refine(reply_reader_value.calls kj15 g t346 t347 (⟨#[120,45,97,109,122,45,114,101,113,117,101,115,116,45,105,100,58,32]⟩ : ByteArray) t348 t349 t350 t351 w0 _ ?side1 ?side2 gk A24.out).mono ?_);(case side1=>repeat (first|(with_reducible first|exact HI0.out|apply IsS73.alloc|apply IsS73.drewN|apply IsS73.drew|apply IsS73.set_0|apply IsS73.set_1)|exact HI0.out));(case side2=>repeat (first|(with_reducible first|exact HB.out|apply below_alloc|apply pw_below_drewN|apply below_drew1|refine below_set ?_ (IsS73.ge HI0.out))|exact HB.out));rintro e w48 ⟨rfl,hi,hb,hk⟩;replace HK:=Aside0.mk (KeepBut.trans kk hk (.inl rfl));replace HI0:=Aside0.mk (hi);replace HB:=Aside0.mk (hb))|(go_at_call 53;(with_reducible refine(when_ParseHttp.calls kj15 t344 t352 t353 _ gk A25.out).mono ?_);rintro e w49 ⟨rfl,hb⟩;replace HI0:=Aside0.mk (IsS73.below isl73 hb);replace HK:=Aside0.mk (KeepBut.trans kk (KeepBut.of_below hb g none) (.inl rfl));replace HB:=Aside0.mk (below_step bl hb))))
     go_ret2
     exact⟨ew,isl73,bl,kk⟩
     }
     }
   }
   ·exact absurd H (by simp)
   }
   ·exact absurd H (by simp)
   }
def stringslite_Cut.f (a0:ByteArray) (a1:ByteArray):Option (ByteArray×ByteArray×Bool):=(stringslite_Index.f a0 a1).bind fun t354=>(if t354 ≥ 0 then(if 0≤t354 then(if t354≤(a0.size:Int) then(if 0≤(wrap64 (t354+(a1.size:Int))) then(if(wrap64 (t354+(a1.size:Int)))≤(a0.size:Int) then(some (a0.extract 0 (t354:Int).toNat,a0.extract ((wrap64 (t354+(a1.size:Int))):Int).toNat a0.size,true)) else(none)) else(none)) else(none)) else(none)) else(some (a0,(⟨#[]⟩ : ByteArray),false)))
theorem stringslite_Cut.calls (a0:ByteArray) (a1:ByteArray) (r1:ByteArray) (r2:ByteArray) (r3:Bool) (w:World) (hG:GOk w) (h:stringslite_Cut.f a0 a1=some (r1,r2,r3)) :
    Calls Tryd.prog 80 #[.string a0,.string a1] w fun e w'=>e = .returned (.tuple #[.string r1,.string r2,.bool r3])∧Drawn0 w w':=by
 unfold stringslite_Cut.f at h
 have H:=h
 clear h
 replace H:=bndO H
 obtain⟨t354,A30,H⟩:=H
 have A3:=Aside0.mk A30
 clear A30
 replace H:=itO H
 rcases H with⟨c4,H⟩|⟨c4,H⟩
 {
 have c4b0:decide (0≤t354)=true:=decide_eq_true c4
 clear c4
 replace H:=itO H
 rcases H with⟨c5,H⟩|⟨c5,H⟩
 {
 have c5b0:=eq_true c5
 have c5b1:=decide_eq_true c5
 clear c5
 replace H:=itO H
 rcases H with⟨c6,H⟩|⟨c6,H⟩
 {
 have c6b0:=eq_true c6
 have c6b1:=decide_eq_true c6
 clear c6
 obtain⟨ji7,hji7⟩ : ∃ j_:Int,(wrap64 (t354+(a1.size:Int)))=j_:=⟨_,rfl⟩
 first|rw [hji7] at H|simp only [hji7] at H
 (try rw [hji7] at A3)
 have hji7w:(IntKind.i64.wrap (t354+(a1.size:Int)))=ji7:=(i64_w _).trans hji7
 replace H:=itO H
 rcases H with⟨c8,H⟩|⟨c8,H⟩
 {
 have c8b0:=eq_true c8
 have c8b1:=decide_eq_true c8
 clear c8
 replace H:=itO H
 rcases H with⟨c9,H⟩|⟨c9,H⟩
 {
 have c9b0:=eq_true c9
 have c9b1:=decide_eq_true c9
 clear c9
 simp only [Option.some.injEq,Prod.mk.injEq] at H
 obtain⟨rfl,rfl,rfl⟩:=H
 go_enter Tryd.func80,Tryd.ntmps80
 go_wp2_with (first|(go_at_call 93;(with_reducible refine(stringslite_Index.calls a0 a1 t354 _ gk A3.out).mono ?_);rintro e w' ⟨rfl,⟨nd,rfl⟩⟩;(try exact dd)))
 repeat (go_quiet (fail);try go_wp2_with (first|(go_at_call 93;(with_reducible refine(stringslite_Index.calls a0 a1 t354 _ gk A3.out).mono ?_);rintro e w' ⟨rfl,⟨nd,rfl⟩⟩;(try exact dd))))
 go_ret3
 exact⟨by first|rfl|(simp;done)|(simp only [← hji7] <;> (first|rfl|simp))|(simp [*];done),by repeat (first|exact Drawn0.refl _|apply Drawn0.step)⟩
 }
 ·exact absurd H (by simp)
 }
 ·exact absurd H (by simp)
 }
 ·exact absurd H (by simp)
 }
 ·exact absurd H (by simp)
 }
 {
 have c4b0:decide (0≤t354)=false:=decide_eq_false c4
 clear c4
 simp only [Option.some.injEq,Prod.mk.injEq] at H
 obtain⟨rfl,rfl,rfl⟩:=H
 go_enter Tryd.func80,Tryd.ntmps80
 go_wp2_with (first|(go_at_call 93;(with_reducible refine(stringslite_Index.calls a0 a1 t354 _ gk A3.out).mono ?_);rintro e w' ⟨rfl,⟨nd,rfl⟩⟩;(try exact dd)))
 repeat (go_quiet (fail);try go_wp2_with (first|(go_at_call 93;(with_reducible refine(stringslite_Index.calls a0 a1 t354 _ gk A3.out).mono ?_);rintro e w' ⟨rfl,⟨nd,rfl⟩⟩;(try exact dd))))
 go_ret3
 exact⟨rs,dr⟩
 }
def strings_Cut.f (a0:ByteArray) (a1:ByteArray):Option (ByteArray×ByteArray×Bool):=(stringslite_Cut.f a0 a1).bind fun bt355=>(some (bt355.1,bt355.2.1,bt355.2.2))
theorem strings_Cut.calls (a0:ByteArray) (a1:ByteArray) (r1:ByteArray) (r2:ByteArray) (r3:Bool) (w:World) (hG:GOk w) (h:strings_Cut.f a0 a1=some (r1,r2,r3)) :
    Calls Tryd.prog 54 #[.string a0,.string a1] w fun e w'=>e = .returned (.tuple #[.string r1,.string r2,.bool r3])∧Drawn0 w w':=by
 unfold strings_Cut.f at h
 have H:=h
 clear h
 replace H:=bndO H
 obtain⟨⟨t355,t356,t357⟩,A30,H⟩:=H
 dsimp only at H
 have A3:=Aside0.mk A30
 clear A30
 simp only [Option.some.injEq,Prod.mk.injEq] at H
 obtain⟨rfl,rfl,rfl⟩:=H
 go_enter Tryd.func54,Tryd.ntmps54
 go_wp2_with (first|((with_reducible refine gate_callee (f:=80) rfl ?_);refine goesL_ (some 9) rfl rfl Tryd.func80 kr rfl #[.string a0,.string a1] rfl am ?_;(with_reducible refine(stringslite_Cut.calls a0 a1 t355 t356 t357 _ gk A3.out).mono ?_);rintro e w' ⟨rfl,⟨nd,rfl⟩⟩;refine⟨_,rfl,?_⟩))
 go_ret3
 exact⟨rs,dr⟩
def chars_letter.f (a0:Int):Option (Bool):=if a0 ≥ 65 then(if a0≤90 then(some true) else(if a0 ≥ 97 then(if a0≤122 then(some true) else(if a0 ≥ 48 then(some (decide (a0≤57))) else(some false))) else(if a0 ≥ 48 then(some (decide (a0≤57))) else(some false)))) else(if a0 ≥ 97 then(if a0≤122 then(some true) else(if a0 ≥ 48 then(some (decide (a0≤57))) else(some false))) else(if a0 ≥ 48 then(some (decide (a0≤57))) else(some false)))
theorem chars_letter.calls (a0:Int) (r:Bool) (w:World) (h:chars_letter.f a0=some r) :
    Calls Tryd.prog 81 #[.int .u8 a0] w fun e w'=>e = .returned (.bool r)∧Drawn0 w w':=by
 unfold chars_letter.f at h
 have H:=h
 clear h
 replace H:=itO H
 rcases H with⟨c2,H⟩|⟨c2,H⟩
 {
 have c2b0:decide (65≤a0)=true:=decide_eq_true c2
 clear c2
 replace H:=itO H
 rcases H with⟨c3,H⟩|⟨c3,H⟩
 {
 have c3b0:decide (a0≤90)=true:=decide_eq_true c3
 clear c3
 obtain rfl:=Option.some.inj H
 go_enter Tryd.func81,Tryd.ntmps81
 go_wp2
 go_ret
 exact⟨rs,dr⟩
 }
 {
 have c3b0:decide (a0≤90)=false:=decide_eq_false c3
 clear c3
 replace H:=itO H
 rcases H with⟨c4,H⟩|⟨c4,H⟩
 {
 have c4b0:decide (97≤a0)=true:=decide_eq_true c4
 clear c4
 replace H:=itO H
 rcases H with⟨c5,H⟩|⟨c5,H⟩
 {
 have c5b0:decide (a0≤122)=true:=decide_eq_true c5
 clear c5
 obtain rfl:=Option.some.inj H
 go_enter Tryd.func81,Tryd.ntmps81
 go_wp2
 go_ret
 exact⟨rs,dr⟩
 }
 {
 have c5b0:decide (a0≤122)=false:=decide_eq_false c5
 clear c5
 replace H:=itO H
 rcases H with⟨c6,H⟩|⟨c6,H⟩
 {
 have c6b0:decide (48≤a0)=true:=decide_eq_true c6
 clear c6
 obtain rfl:=Option.some.inj H
 go_enter Tryd.func81,Tryd.ntmps81
 go_wp2
 go_ret
 exact⟨rs,dr⟩
 }
 {
 have c6b0:decide (48≤a0)=false:=decide_eq_false c6
 clear c6
 obtain rfl:=Option.some.inj H
 go_enter Tryd.func81,Tryd.ntmps81
 go_wp2
 go_ret
 exact⟨rs,dr⟩
 }
 }
 }
 {
 have c4b0:decide (97≤a0)=false:=decide_eq_false c4
 clear c4
 replace H:=itO H
 rcases H with⟨c7,H⟩|⟨c7,H⟩
 {
 have c7b0:decide (48≤a0)=true:=decide_eq_true c7
 clear c7
 obtain rfl:=Option.some.inj H
 go_enter Tryd.func81,Tryd.ntmps81
 go_wp2
 go_ret
 exact⟨rs,dr⟩
 }
 {
 have c7b0:decide (48≤a0)=false:=decide_eq_false c7
 clear c7
 obtain rfl:=Option.some.inj H
 go_enter Tryd.func81,Tryd.ntmps81
 go_wp2
 go_ret
 exact⟨rs,dr⟩
 }
 }
 }
 }
 {
 have c2b0:decide (65≤a0)=false:=decide_eq_false c2
 clear c2
 replace H:=itO H
 rcases H with⟨c8,H⟩|⟨c8,H⟩
 {
 have c8b0:decide (97≤a0)=true:=decide_eq_true c8
 clear c8
 replace H:=itO H
 rcases H with⟨c9,H⟩|⟨c9,H⟩
 {
 have c9b0:decide (a0≤122)=true:=decide_eq_true c9
 clear c9
 obtain rfl:=Option.some.inj H
 go_enter Tryd.func81,Tryd.ntmps81
 go_wp2
 go_ret
 exact⟨rs,dr⟩
 }
 {
 have c9b0:decide (a0≤122)=false:=decide_eq_false c9
 clear c9
 replace H:=itO H
 rcases H with⟨c10,H⟩|⟨c10,H⟩
 {
 have c10b0:decide (48≤a0)=true:=decide_eq_true c10
 clear c10
 obtain rfl:=Option.some.inj H
 go_enter Tryd.func81,Tryd.ntmps81
 go_wp2
 go_ret
 exact⟨rs,dr⟩
 }
 {
 have c10b0:decide (48≤a0)=false:=decide_eq_false c10
 clear c10
 obtain rfl:=Option.some.inj H
 go_enter Tryd.func81,Tryd.ntmps81
 go_wp2
 go_ret
 exact⟨rs,dr⟩
 }
 }
 }
 {
 have c8b0:decide (97≤a0)=false:=decide_eq_false c8
 clear c8
 replace H:=itO H
 rcases H with⟨c11,H⟩|⟨c11,H⟩
 {
 have c11b0:decide (48≤a0)=true:=decide_eq_true c11
 clear c11
 obtain rfl:=Option.some.inj H
 go_enter Tryd.func81,Tryd.ntmps81
 go_wp2
 go_ret
 exact⟨rs,dr⟩
 }
 {
 have c11b0:decide (48≤a0)=false:=decide_eq_false c11
 clear c11
 obtain rfl:=Option.some.inj H
 go_enter Tryd.func81,Tryd.ntmps81
 go_wp2
 go_ret
 exact⟨rs,dr⟩
 }
 }
 }
def strings_IndexByte.f (a0:ByteArray) (a1:Int):Option (Int):=(stringslite_IndexByte.f a0 a1).bind fun t358=>(some t358)
theorem strings_IndexByte.calls (a0:ByteArray) (a1:Int) (r:Int) (w:World) (h:strings_IndexByte.f a0 a1=some r) :
    Calls Tryd.prog 82 #[.string a0,.int .u8 a1] w fun e w'=>e = .returned (.int .i64 r)∧Drawn0 w w':=by
 unfold strings_IndexByte.f at h
 have H:=h
 clear h
 replace H:=bndO H
 obtain⟨t358,A30,H⟩:=H
 have A3:=Aside0.mk A30
 clear A30
 obtain rfl:=Option.some.inj H
 go_enter Tryd.func82,Tryd.ntmps82
 go_wp2_with (first|((with_reducible refine gate_callee (f:=97) rfl ?_);refine goesL_ (some 7) rfl rfl Tryd.func97 kr rfl #[.string a0,.int .u8 a1] rfl am ?_;(with_reducible refine(stringslite_IndexByte.calls a0 a1 t358 _ A3.out).mono ?_);rintro e w' ⟨rfl,⟨nd,rfl⟩⟩;refine⟨_,rfl,?_⟩))
 go_ret
 exact⟨rs,dr⟩
def chars_Token.l0:Nat→ByteArray→Int→Int→Option (Bool)
  | 0,_,_,_=>none
  | k+1,x0,x5,x6=>if x6<x5 then(if 0≤x6 then(if x6<(x0.size:Int) then((chars_letter.f (bt x0 x6)).bind fun t359=>(if t359=true then(chars_Token.l0 k x0 x5 (wrap64 (x6+1))) else((strings_IndexByte.f (⟨#[33,35,36,37,38,39,42,43,45,46,94,95,96,124,126]⟩ : ByteArray) (bt x0 x6)).bind fun t360=>(if t360<0 then(some false) else(chars_Token.l0 k x0 x5 (wrap64 (x6+1))))))) else(none)) else(none)) else(some (x0.toList != ([]:List UInt8)))
def chars_Token.f (k:Nat) (a0:ByteArray):Option (Bool):=chars_Token.l0 k a0 (a0.size:Int) 0
theorem chars_Token.mono_l:∀ k,(∀ y0 y1 y2,LeO (chars_Token.l0 k y0 y1 y2) (chars_Token.l0 (k+1) y0 y1 y2))
  | 0=>fun _ _ _ r h=>by simp [chars_Token.l0] at h
  | k+1=>by
    have ih0:=chars_Token.mono_l k
    · intro y0 y1 y2
      unfold chars_Token.l0
      with_reducible repeat' first|exact ih0 _ _ _|exact LeO.refl _|exact LeO.none _|refine LeO.ite ?_ ?_|refine LeO.bind ?_ (fun _=>?_)
theorem chars_Token.mono:∀ a0 k,LeO (chars_Token.f k a0) (chars_Token.f (k+1) a0):=by
 intro a0 k
 have ih0:=chars_Token.mono_l k
 unfold chars_Token.f
 with_reducible repeat' first|exact ih0 _ _ _|exact LeO.refl _|exact LeO.none _|refine LeO.ite ?_ ?_|refine LeO.bind ?_ (fun _=>?_)
theorem chars_Token.calls (k:Nat) (a0:ByteArray) (r:Bool) (w:World) (h:chars_Token.f k a0=some r) :
    Calls Tryd.prog 55 #[.string a0] w fun e w'=>e = .returned (.bool r)∧Drawn0 w w':=by
 unfold chars_Token.f at h
 have H:=h
 clear h
 have H':=Aside0.mk H
 clear H
 go_enter Tryd.func55,Tryd.ntmps55
 go_wp2
 go_loopg [6] k (fun kq v6 w'=>∃ (x6_1:Int),v6 = .int .i64 x6_1∧Aside0 (chars_Token.l0 kq a0 (a0.size:Int) x6_1=some r)∧Aside0 (kq≤k)∧Drawn0 w w')
 case atStart=>exact⟨(0),(by first|rfl|(cases a0.toList <;> rfl)|(simp;done)|(simp [*];done)),H',⟨Nat.le_refl _⟩,by repeat (first|exact Drawn0.refl _|apply Drawn0.step)⟩
 case round=>
  clear H'
  obtain⟨x6_1,rfl,HA,HK1,⟨m1,rfl⟩⟩:=hrel
  cases gk with
  | zero=>exact absurd HA.out (by simp [chars_Token.l0])
  | succ k1=>
   have H:=HA.out
   clear HA
   simp only [chars_Token.l0] at H
   replace H:=itO H
   rcases H with⟨c2,H⟩|⟨c2,H⟩
   {
   have c2b0:decide (x6_1<(a0.size:Int))=true:=decide_eq_true c2
   clear c2
   replace H:=itO H
   rcases H with⟨c3,H⟩|⟨c3,H⟩
   {
   have c3b0:decide (0≤x6_1)=true:=decide_eq_true c3
   clear c3
   replace H:=itO H
   rcases H with⟨c4,H⟩|⟨c4,H⟩
   {
   have c4b0:decide (x6_1<(a0.size:Int))=true:=decide_eq_true c4
   clear c4
   replace H:=bndO H
   obtain⟨t359,A60,H⟩:=H
   have A6:=Aside0.mk A60
   clear A60
   by_cases c7:t359=true
   {
   subst c7
   replace H:=itT H
   have H':=Aside0.mk H
   clear H
   have p5:0≤(x6_1:Int):=of_decide_eq_true asm
   have q5:x6_1<(a0.size:Int):=of_decide_eq_true asm
   have hx5:=bt_at a0 x6_1
   replace p5:=eq_true p5
   replace q5:=eq_true q5
   go_wp2_with (first|((with_reducible refine gate_callee (f:=81) rfl ?_);refine goesL_ (some 12) rfl rfl Tryd.func81 kr rfl #[.int .u8 (bt a0 x6_1)] rfl am ?_;(with_reducible refine(chars_letter.calls (bt a0 x6_1) true _ A6.out).mono ?_);rintro e w' ⟨rfl,⟨nd,rfl⟩⟩;refine⟨_,rfl,?_⟩))
   go_roundg k1
   case measure=>have:=HK1.out;omega
   case rel=>exact⟨(wrap64 (x6_1+1)),(by first|rfl|(cases a0.toList <;> rfl)|(simp;done)|(simp [*];done)),H',⟨by have:=HK1.out;omega⟩,by repeat (first|exact Drawn0.refl _|apply Drawn0.step)⟩
   }
   {
   replace c7:=Bool.eq_false_iff.mpr c7
   subst c7
   replace H:=itF H
   replace H:=bndO H
   obtain⟨t360,A90,H⟩:=H
   have A9:=Aside0.mk A90
   clear A90
   replace H:=itO H
   rcases H with⟨c10,H⟩|⟨c10,H⟩
   {
   have c10b0:decide (t360<0)=true:=decide_eq_true c10
   clear c10
   obtain rfl:=Option.some.inj H
   have p5:0≤(x6_1:Int):=of_decide_eq_true asm
   have q5:x6_1<(a0.size:Int):=of_decide_eq_true asm
   have hx5:=bt_at a0 x6_1
   replace p5:=eq_true p5
   replace q5:=eq_true q5
   go_wp2_with (first|((with_reducible refine gate_callee (f:=81) rfl ?_);refine goesL_ (some 12) rfl rfl Tryd.func81 kr rfl #[.int .u8 (bt a0 x6_1)] rfl am ?_;(with_reducible refine(chars_letter.calls (bt a0 x6_1) false _ A6.out).mono ?_);rintro e w' ⟨rfl,⟨nd,rfl⟩⟩;refine⟨_,rfl,?_⟩;have p8:0≤(x6_1:Int):=of_decide_eq_true asm;have q8:x6_1<(a0.size:Int):=of_decide_eq_true asm;have hx8:=bt_at a0 x6_1;replace p8:=eq_true p8;replace q8:=eq_true q8)|(go_at_call 82;(with_reducible refine(strings_IndexByte.calls (⟨#[33,35,36,37,38,39,42,43,45,46,94,95,96,124,126]⟩ : ByteArray) (bt a0 x6_1) t360 _ A9.out).mono ?_);rintro e w' ⟨rfl,⟨nd,rfl⟩⟩))
   go_ret
   exact⟨by first|rfl|(cases a0.toList <;> rfl)|(simp;done)|(simp [*];done),by repeat (first|exact Drawn0.refl _|apply Drawn0.step)⟩
   }
   {
   have c10b0:decide (t360<0)=false:=decide_eq_false c10
   clear c10
   have H':=Aside0.mk H
   clear H
   have p5:0≤(x6_1:Int):=of_decide_eq_true asm
   have q5:x6_1<(a0.size:Int):=of_decide_eq_true asm
   have hx5:=bt_at a0 x6_1
   replace p5:=eq_true p5
   replace q5:=eq_true q5
   go_wp2_with (first|((with_reducible refine gate_callee (f:=81) rfl ?_);refine goesL_ (some 12) rfl rfl Tryd.func81 kr rfl #[.int .u8 (bt a0 x6_1)] rfl am ?_;(with_reducible refine(chars_letter.calls (bt a0 x6_1) false _ A6.out).mono ?_);rintro e w' ⟨rfl,⟨nd,rfl⟩⟩;refine⟨_,rfl,?_⟩;have p8:0≤(x6_1:Int):=of_decide_eq_true asm;have q8:x6_1<(a0.size:Int):=of_decide_eq_true asm;have hx8:=bt_at a0 x6_1;replace p8:=eq_true p8;replace q8:=eq_true q8)|(go_at_call 82;(with_reducible refine(strings_IndexByte.calls (⟨#[33,35,36,37,38,39,42,43,45,46,94,95,96,124,126]⟩ : ByteArray) (bt a0 x6_1) t360 _ A9.out).mono ?_);rintro e w' ⟨rfl,⟨nd,rfl⟩⟩))
   go_roundg k1
   case measure=>have:=HK1.out;omega
   case rel=>exact⟨(wrap64 (x6_1+1)),(by first|rfl|(cases a0.toList <;> rfl)|(simp;done)|(simp [*];done)),H',⟨by have:=HK1.out;omega⟩,by repeat (first|exact Drawn0.refl _|apply Drawn0.step)⟩
   }
   }
   }
   ·exact absurd H (by simp)
   }
   ·exact absurd H (by simp)
   }
   {
   have c2b0:decide (x6_1<(a0.size:Int))=false:=decide_eq_false c2
   clear c2
   obtain rfl:=Option.some.inj H
   go_wp2
   go_ret
   exact⟨by first|rfl|(cases a0.toList <;> rfl)|(simp;done)|(simp [*];done),by repeat (first|exact Drawn0.refl _|apply Drawn0.step)⟩
   }
def reply_own.f (a0:ByteArray):Option (Bool):=if a0.toList=([83,101,114,118,101,114]:List UInt8) then(some true) else(if a0.toList=([68,97,116,101]:List UInt8) then(some true) else(if a0.toList=([120,45,97,109,122,45,114,101,113,117,101,115,116,45,105,100]:List UInt8) then(some true) else(if a0.toList=([67,111,110,116,101,110,116,45,76,101,110,103,116,104]:List UInt8) then(some true) else(if a0.toList=([67,111,110,110,101,99,116,105,111,110]:List UInt8) then(some true) else(some false)))))
theorem reply_own.calls (a0:ByteArray) (r:Bool) (w:World) (h:reply_own.f a0=some r) :
    Calls Tryd.prog 57 #[.string a0] w fun e w'=>e = .returned (.bool r)∧Drawn0 w w':=by
 unfold reply_own.f at h
 have H:=h
 clear h
 replace H:=itO H
 rcases H with⟨c2,H⟩|⟨c2,H⟩
 {
 have c2b0:(a0.toList == ([83,101,114,118,101,114]:List UInt8))=true:=beq_iff_eq.mpr c2
 clear c2
 obtain rfl:=Option.some.inj H
 go_enter Tryd.func57,Tryd.ntmps57
 go_wp2
 go_ret
 exact⟨rs,dr⟩
 }
 {
 have c2b0:(a0.toList == ([83,101,114,118,101,114]:List UInt8))=false:=beq_eq_false_iff_ne.mpr c2
 replace H:=itO H
 rcases H with⟨c3,H⟩|⟨c3,H⟩
 {
 have c3b0:(a0.toList == ([68,97,116,101]:List UInt8))=true:=beq_iff_eq.mpr c3
 clear c3
 obtain rfl:=Option.some.inj H
 go_enter Tryd.func57,Tryd.ntmps57
 go_wp2
 go_ret
 exact⟨rs,dr⟩
 }
 {
 have c3b0:(a0.toList == ([68,97,116,101]:List UInt8))=false:=beq_eq_false_iff_ne.mpr c3
 replace H:=itO H
 rcases H with⟨c4,H⟩|⟨c4,H⟩
 {
 have c4b0:(a0.toList == ([120,45,97,109,122,45,114,101,113,117,101,115,116,45,105,100]:List UInt8))=true:=beq_iff_eq.mpr c4
 clear c4
 obtain rfl:=Option.some.inj H
 go_enter Tryd.func57,Tryd.ntmps57
 go_wp2
 go_ret
 exact⟨rs,dr⟩
 }
 {
 have c4b0:(a0.toList == ([120,45,97,109,122,45,114,101,113,117,101,115,116,45,105,100]:List UInt8))=false:=beq_eq_false_iff_ne.mpr c4
 replace H:=itO H
 rcases H with⟨c5,H⟩|⟨c5,H⟩
 {
 have c5b0:(a0.toList == ([67,111,110,116,101,110,116,45,76,101,110,103,116,104]:List UInt8))=true:=beq_iff_eq.mpr c5
 clear c5
 obtain rfl:=Option.some.inj H
 go_enter Tryd.func57,Tryd.ntmps57
 go_wp2
 go_ret
 exact⟨rs,dr⟩
 }
 {
 have c5b0:(a0.toList == ([67,111,110,116,101,110,116,45,76,101,110,103,116,104]:List UInt8))=false:=beq_eq_false_iff_ne.mpr c5
 replace H:=itO H
 rcases H with⟨c6,H⟩|⟨c6,H⟩
 {
 have c6b0:(a0.toList == ([67,111,110,110,101,99,116,105,111,110]:List UInt8))=true:=beq_iff_eq.mpr c6
 clear c6
 obtain rfl:=Option.some.inj H
 go_enter Tryd.func57,Tryd.ntmps57
 go_wp2
 go_ret
 exact⟨rs,dr⟩
 }
 {
 have c6b0:(a0.toList == ([67,111,110,110,101,99,116,105,111,110]:List UInt8))=false:=beq_eq_false_iff_ne.mpr c6
 obtain rfl:=Option.some.inj H
 go_enter Tryd.func57,Tryd.ntmps57
 go_wp2
 go_ret
 exact⟨rs,dr⟩
 }
 }
 }
 }
 }
end Go.Proofs.YtfjidcmegacibaaDoor.Q
