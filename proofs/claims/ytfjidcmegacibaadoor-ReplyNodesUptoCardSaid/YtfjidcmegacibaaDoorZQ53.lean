/- A part of the proof of the seat's laws. No condition beyond those in the theorems. -/
import Derived.Test.YtfjidcmegacibaaDoorZQ0g11
import Derived.Test.YtfjidcmegacibaaDoorZQ33g16

namespace Go.Proofs.YtfjidcmegacibaaDoor.Q
open Go.RowKit Go.Proofs.YtfjidcmegacibaaDoorW.PrintWords Go.Proofs.YtfjidcmegacibaaDoorW.PrintLast Go.Proofs.YtfjidcmegacibaaDoorW.PrintMore
set_option linter.unusedVariables false
set_option linter.unusedSimpArgs false
set_option maxHeartbeats 8000000
set_option maxRecDepth 100000
attribute [local go_sem] max2_int min2_int max_two min_two max_three min_three max_four min_four   
mutual
def when_Of.j0:Nat→Int→Int→Int→Int→Int→Int→Bool→Option (Int×Bool)
 | 0,_,_,_,_,_,_,_=>none
 | k+1,x0,x1,x2,x3,x4,x5,x53=>if x53=true then(some (0,false)) else((when_before.f x0).bind fun t176=>(when_Of.l0 k x0 x1 x3 x4 x5 (wrap64 ((wrap64 (t176+x2))-1)) 1))
def when_Of.l0:Nat→Int→Int→Int→Int→Int→Int→Int→Option (Int×Bool)
 | 0,_,_,_,_,_,_,_=>none
 | k+1,x0,x1,x3,x4,x5,x15,x16=>if x16<x1 then((when_size.f k x0 x16).bind fun t177=>(when_Of.l0 k x0 x1 x3 x4 x5 (wrap64 (x15+t177)) (wrap64 (x16+1)))) else(some (wrap64 ((wrap64 ((wrap64 ((wrap64 ((wrap64 ((wrap64 (x15*24))+x3))*60))+x4))*60))+x5),true))
end
def when_Of.f (k:Nat) (a0:Int) (a1:Int) (a2:Int) (a3:Int) (a4:Int) (a5:Int):Option (Int×Bool):=(when_Of_1.f a0 1970 9999).bind fun t169=>(if t169=true then((when_Of_1.f a1 1 12).bind fun t170=>(if t170=true then((when_size.f k a0 a1).bind fun t171=>((when_Of_1.f a2 1 t171).bind fun t172=>(if t172=true then((when_Of_1.f a3 0 23).bind fun t173=>(if t173=true then((when_Of_1.f a4 0 59).bind fun t174=>(if t174=true then((when_Of_1.f a5 0 59).bind fun t175=>(when_Of.j0 k a0 a1 a2 a3 a4 a5 (!t175))) else(when_Of.j0 k a0 a1 a2 a3 a4 a5 true))) else(when_Of.j0 k a0 a1 a2 a3 a4 a5 true))) else(when_Of.j0 k a0 a1 a2 a3 a4 a5 true)))) else(when_Of.j0 k a0 a1 a2 a3 a4 a5 true))) else(when_Of.j0 k a0 a1 a2 a3 a4 a5 true))
theorem when_Of.mono_l:∀ k,(∀ y0 y1 y2 y3 y4 y5 y6,LeO (when_Of.j0 k y0 y1 y2 y3 y4 y5 y6) (when_Of.j0 (k+1) y0 y1 y2 y3 y4 y5 y6))∧(∀ y0 y1 y2 y3 y4 y5 y6,LeO (when_Of.l0 k y0 y1 y2 y3 y4 y5 y6) (when_Of.l0 (k+1) y0 y1 y2 y3 y4 y5 y6))
 | 0=>⟨fun _ _ _ _ _ _ _ r h=>by simp [when_Of.j0] at h,fun _ _ _ _ _ _ _ r h=>by simp [when_Of.l0] at h⟩
 | k+1=>by
  obtain⟨ih0,ih1⟩:=when_Of.mono_l k
  refine⟨?_,?_⟩
  ·intro y0 y1 y2 y3 y4 y5 y6
   unfold when_Of.j0
   repeat' first
   | (with_reducible exact ih0 _ _ _ _ _ _ _)
   | (with_reducible exact ih1 _ _ _ _ _ _ _)
   | (with_reducible exact when_size.mono _ _ _)
   | (with_reducible exact LeO.refl _)
   | (with_reducible exact LeO.none _)
   | (with_reducible refine LeO.ite ?_ ?_)
   | (with_reducible refine LeO.bind ?_ (fun _=>?_))
   | exact ih0 _ _ _ _ _ _ _
   | exact ih1 _ _ _ _ _ _ _
   | exact when_size.mono _ _ _
   | exact LeO.none _
   | refine LeO.ite ?_ ?_
   | refine LeO.bind ?_ (fun _=>?_)
  ·intro y0 y1 y2 y3 y4 y5 y6
   unfold when_Of.l0
   repeat' first
   | (with_reducible exact ih0 _ _ _ _ _ _ _)
   | (with_reducible exact ih1 _ _ _ _ _ _ _)
   | (with_reducible exact when_size.mono _ _ _)
   | (with_reducible exact LeO.refl _)
   | (with_reducible exact LeO.none _)
   | (with_reducible refine LeO.ite ?_ ?_)
   | (with_reducible refine LeO.bind ?_ (fun _=>?_))
   | exact ih0 _ _ _ _ _ _ _
   | exact ih1 _ _ _ _ _ _ _
   | exact when_size.mono _ _ _
   | exact LeO.none _
   | refine LeO.ite ?_ ?_
   | refine LeO.bind ?_ (fun _=>?_)
theorem when_Of.mono:∀ a0 a1 a2 a3 a4 a5 k,LeO (when_Of.f k a0 a1 a2 a3 a4 a5) (when_Of.f (k+1) a0 a1 a2 a3 a4 a5):=by
 intro a0 a1 a2 a3 a4 a5 k
 obtain⟨ih0,ih1⟩:=when_Of.mono_l k
 unfold when_Of.f
 repeat' first
   | (with_reducible exact ih0 _ _ _ _ _ _ _)
   | (with_reducible exact ih1 _ _ _ _ _ _ _)
   | (with_reducible exact when_size.mono _ _ _)
   | (with_reducible exact LeO.refl _)
   | (with_reducible exact LeO.none _)
   | (with_reducible refine LeO.ite ?_ ?_)
   | (with_reducible refine LeO.bind ?_ (fun _=>?_))
   | exact ih0 _ _ _ _ _ _ _
   | exact ih1 _ _ _ _ _ _ _
   | exact when_size.mono _ _ _
   | exact LeO.none _
   | refine LeO.ite ?_ ?_
   | refine LeO.bind ?_ (fun _=>?_)
theorem when_Of.calls (k:Nat) (a0:Int) (a1:Int) (a2:Int) (a3:Int) (a4:Int) (a5:Int) (r1:Int) (r2:Bool) (w:World) (h:when_Of.f k a0 a1 a2 a3 a4 a5=some (r1,r2)) :
  Calls Tryd.prog 79 #[.int .i64 a0,.int .i64 a1,.int .i64 a2,.int .i64 a3,.int .i64 a4,.int .i64 a5] w fun e w'=>e = .returned (.tuple #[.int .i64 r1,.bool r2])∧Drawn0 w w':=by
 unfold when_Of.f at h
 have H:=h
 clear h
 have HC7:=Aside0.mk H
 clear H
 go_enter Tryd.func79,Tryd.ntmps79
 go_upto_region 2 with(fail)
 go_cut [53] (fun v53 wc=>∃ (kq:Nat) (x53_6:Bool),v53 = .bool x53_6∧Aside0 (when_Of.j0 kq a0 a1 a2 a3 a4 a5 x53_6=some (r1,r2))∧Aside0 (kq≤k)∧Drawn0 w wc)
 case first=>
  have H:=HC7.out
  clear HC7
  replace H:=bndO H
  obtain⟨t169,A80,H⟩:=H
  have A8:=Aside0.mk A80
  clear A80
  by_cases c9:t169=true
  ·subst c9
   replace H:=itT H
   replace H:=bndO H
   obtain⟨t170,A100,H⟩:=H
   have A10:=Aside0.mk A100
   clear A100
   by_cases c11:t170=true
   ·subst c11
    replace H:=itT H
    replace H:=bndO H
    obtain⟨t171,A120,H⟩:=H
    have A12:=Aside0.mk A120
    clear A120
    replace H:=bndO H
    obtain⟨t172,A130,H⟩:=H
    have A13:=Aside0.mk A130
    clear A130
    by_cases c14:t172=true
    ·subst c14
     replace H:=itT H
     replace H:=bndO H
     obtain⟨t173,A150,H⟩:=H
     have A15:=Aside0.mk A150
     clear A150
     by_cases c16:t173=true
     ·subst c16
      replace H:=itT H
      replace H:=bndO H
      obtain⟨t174,A170,H⟩:=H
      have A17:=Aside0.mk A170
      clear A170
      by_cases c18:t174=true
      ·subst c18
       replace H:=itT H
       replace H:=bndO H
       obtain⟨t175,A190,H⟩:=H
       have A19:=Aside0.mk A190
       clear A190
       have H':=Aside0.mk H
       clear H
       go_wp2_with (first|(go_at_call 96;(with_reducible refine(when_Of_1.calls a0 1970 9999 true _ A8.out).mono ?_);rintro e w' ⟨rfl,⟨nd,rfl⟩⟩)|(go_at_call 96;(with_reducible refine(when_Of_1.calls a1 1 12 true _ A10.out).mono ?_);rintro e w' ⟨rfl,⟨nd,rfl⟩⟩)|(go_at_call 75;(with_reducible refine(when_size.calls k a0 a1 t171 _ A12.out).mono ?_);rintro e w' ⟨rfl,⟨nd,rfl⟩⟩)|(go_at_call 96;(with_reducible refine(when_Of_1.calls a2 1 t171 true _ A13.out).mono ?_);rintro e w' ⟨rfl,⟨nd,rfl⟩⟩)|(go_at_call 96;(with_reducible refine(when_Of_1.calls a3 0 23 true _ A15.out).mono ?_);rintro e w' ⟨rfl,⟨nd,rfl⟩⟩)|(go_at_call 96;(with_reducible refine(when_Of_1.calls a4 0 59 true _ A17.out).mono ?_);rintro e w' ⟨rfl,⟨nd,rfl⟩⟩)|(go_at_call 96;(with_reducible refine(when_Of_1.calls a5 0 59 t175 _ A19.out).mono ?_);rintro e w' ⟨rfl,⟨nd,rfl⟩⟩))
       go_meet
       case rel=>exact⟨_,(!t175),(by first|rfl|(simp;done)|(simp [*];done)),H',⟨by first|omega|exact Nat.le_refl _⟩,by repeat (first|exact Drawn0.refl _|apply Drawn0.step)⟩
      ·replace c18:=Bool.eq_false_iff.mpr c18
       subst c18
       replace H:=itF H
       have H':=Aside0.mk H
       clear H
       go_wp2_with (first|(go_at_call 96;(with_reducible refine(when_Of_1.calls a0 1970 9999 true _ A8.out).mono ?_);rintro e w' ⟨rfl,⟨nd,rfl⟩⟩)|(go_at_call 96;(with_reducible refine(when_Of_1.calls a1 1 12 true _ A10.out).mono ?_);rintro e w' ⟨rfl,⟨nd,rfl⟩⟩)|(go_at_call 75;(with_reducible refine(when_size.calls k a0 a1 t171 _ A12.out).mono ?_);rintro e w' ⟨rfl,⟨nd,rfl⟩⟩)|(go_at_call 96;(with_reducible refine(when_Of_1.calls a2 1 t171 true _ A13.out).mono ?_);rintro e w' ⟨rfl,⟨nd,rfl⟩⟩)|(go_at_call 96;(with_reducible refine(when_Of_1.calls a3 0 23 true _ A15.out).mono ?_);rintro e w' ⟨rfl,⟨nd,rfl⟩⟩)|(go_at_call 96;(with_reducible refine(when_Of_1.calls a4 0 59 false _ A17.out).mono ?_);rintro e w' ⟨rfl,⟨nd,rfl⟩⟩))
       go_meet
       case rel=>exact⟨_,(true),(by first|rfl|(simp;done)|(simp [*];done)),H',⟨by first|omega|exact Nat.le_refl _⟩,by repeat (first|exact Drawn0.refl _|apply Drawn0.step)⟩
     ·replace c16:=Bool.eq_false_iff.mpr c16
      subst c16
      replace H:=itF H
      have H':=Aside0.mk H
      clear H
      go_wp2_with (first|(go_at_call 96;(with_reducible refine(when_Of_1.calls a0 1970 9999 true _ A8.out).mono ?_);rintro e w' ⟨rfl,⟨nd,rfl⟩⟩)|(go_at_call 96;(with_reducible refine(when_Of_1.calls a1 1 12 true _ A10.out).mono ?_);rintro e w' ⟨rfl,⟨nd,rfl⟩⟩)|(go_at_call 75;(with_reducible refine(when_size.calls k a0 a1 t171 _ A12.out).mono ?_);rintro e w' ⟨rfl,⟨nd,rfl⟩⟩)|(go_at_call 96;(with_reducible refine(when_Of_1.calls a2 1 t171 true _ A13.out).mono ?_);rintro e w' ⟨rfl,⟨nd,rfl⟩⟩)|(go_at_call 96;(with_reducible refine(when_Of_1.calls a3 0 23 false _ A15.out).mono ?_);rintro e w' ⟨rfl,⟨nd,rfl⟩⟩))
      go_meet
      case rel=>exact⟨_,(true),(by first|rfl|(simp;done)|(simp [*];done)),H',⟨by first|omega|exact Nat.le_refl _⟩,by repeat (first|exact Drawn0.refl _|apply Drawn0.step)⟩
    ·replace c14:=Bool.eq_false_iff.mpr c14
     subst c14
     replace H:=itF H
     have H':=Aside0.mk H
     clear H
     go_wp2_with (first|(go_at_call 96;(with_reducible refine(when_Of_1.calls a0 1970 9999 true _ A8.out).mono ?_);rintro e w' ⟨rfl,⟨nd,rfl⟩⟩)|(go_at_call 96;(with_reducible refine(when_Of_1.calls a1 1 12 true _ A10.out).mono ?_);rintro e w' ⟨rfl,⟨nd,rfl⟩⟩)|(go_at_call 75;(with_reducible refine(when_size.calls k a0 a1 t171 _ A12.out).mono ?_);rintro e w' ⟨rfl,⟨nd,rfl⟩⟩)|(go_at_call 96;(with_reducible refine(when_Of_1.calls a2 1 t171 false _ A13.out).mono ?_);rintro e w' ⟨rfl,⟨nd,rfl⟩⟩))
     go_meet
     case rel=>exact⟨_,(true),(by first|rfl|(simp;done)|(simp [*];done)),H',⟨by first|omega|exact Nat.le_refl _⟩,by repeat (first|exact Drawn0.refl _|apply Drawn0.step)⟩
   ·replace c11:=Bool.eq_false_iff.mpr c11
    subst c11
    replace H:=itF H
    have H':=Aside0.mk H
    clear H
    go_wp2_with (first|(go_at_call 96;(with_reducible refine(when_Of_1.calls a0 1970 9999 true _ A8.out).mono ?_);rintro e w' ⟨rfl,⟨nd,rfl⟩⟩)|(go_at_call 96;(with_reducible refine(when_Of_1.calls a1 1 12 false _ A10.out).mono ?_);rintro e w' ⟨rfl,⟨nd,rfl⟩⟩))
    go_meet
    case rel=>exact⟨_,(true),(by first|rfl|(simp;done)|(simp [*];done)),H',⟨by first|omega|exact Nat.le_refl _⟩,by repeat (first|exact Drawn0.refl _|apply Drawn0.step)⟩
  ·replace c9:=Bool.eq_false_iff.mpr c9
   subst c9
   replace H:=itF H
   have H':=Aside0.mk H
   clear H
   go_wp2_with (first|(go_at_call 96;(with_reducible refine(when_Of_1.calls a0 1970 9999 false _ A8.out).mono ?_);rintro e w' ⟨rfl,⟨nd,rfl⟩⟩))
   go_meet
   case rel=>exact⟨_,(true),(by first|rfl|(simp;done)|(simp [*];done)),H',⟨by first|omega|exact Nat.le_refl _⟩,by repeat (first|exact Drawn0.refl _|apply Drawn0.step)⟩
 case rest=>
  clear HC7
  try clear c1
  try clear p2
  try clear c7
  try clear c9
  try clear c11
  try clear c14
  try clear c16
  try clear c18
  obtain⟨kq,x53_6,rfl,HA,HJ6,⟨mc6,rfl⟩⟩:=hcut
  cases kq with
  | zero=>exact absurd HA.out (by simp [when_Of.j0])
  | succ kj6=>
   have H:=HA.out
   clear HA
   simp only [when_Of.j0] at H
   by_cases c20:x53_6=true
   ·subst c20
    replace H:=itT H
    simp only [Option.some.injEq,Prod.mk.injEq] at H
    obtain⟨rfl,rfl⟩:=H
    go_wp2
    go_ret2
    exact⟨by first|rfl|(simp;done)|(simp [*];done),by repeat (first|exact Drawn0.refl _|apply Drawn0.step)⟩
   ·replace c20:=Bool.eq_false_iff.mpr c20
    subst c20
    replace H:=itF H
    replace H:=bndO H
    obtain⟨t176,A210,H⟩:=H
    have A21:=Aside0.mk A210
    clear A210
    have H':=Aside0.mk H
    clear H
    go_wp2_with (first|((with_reducible refine gate_callee (f:=74) rfl ?_);refine goesL_ (some 55) rfl rfl Tryd.func74 (by kernel_rfl) rfl #[.int .i64 a0] rfl (by(try simp only [List.map_toArray,List.map_cons,List.map_nil]);first|done|rfl|(simp only [List.length_drop,List.length_take];rfl)) ?_;(with_reducible refine(when_before.calls a0 t176 _ A21.out).mono ?_);rintro e w' ⟨rfl,⟨nd,rfl⟩⟩;refine⟨_,rfl,?_⟩))
    go_loopg [15,16] kj6 (fun kq v15 v16 w'=>∃ (x15_2:Int) (x16_2:Int),v15 = .int .i64 x15_2∧v16 = .int .i64 x16_2∧Aside0 (when_Of.l0 kq a0 a1 a3 a4 a5 x15_2 x16_2=some (r1,r2))∧Aside0 (kq≤kj6)∧Drawn0 w w')
    case atStart=>exact⟨(wrap64 ((wrap64 (t176+a2))-1)),(1),(by first|rfl|(simp;done)|(simp [*];done)),(by first|rfl|(simp;done)|(simp [*];done)),H',⟨Nat.le_refl _⟩,by repeat (first|exact Drawn0.refl _|apply Drawn0.step)⟩
    case round=>
     clear H'
     try clear c1
     try clear c2
     try clear p2
     try clear c6
     try clear p6
     try clear c7
     try clear c9
     try clear c11
     try clear c14
     try clear c16
     try clear c18
     try clear c20
     try clear p2
     obtain⟨x15_2,x16_2,rfl,rfl,HA,HK2,⟨m2,rfl⟩⟩:=hrel
     cases gk with
     | zero=>exact absurd HA.out (by simp [when_Of.l0])
     | succ k2=>
      have H:=HA.out
      clear HA
      simp only [when_Of.l0] at H
      replace H:=itO H
      rcases H with⟨c22,H⟩|⟨c22,H⟩
      ·skip
       have c22b0:decide (x16_2<a1)=true:=decide_eq_true c22
       clear c22
       replace H:=bndO H
       obtain⟨t177,A230,H⟩:=H
       have A23:=Aside0.mk A230
       clear A230
       have H':=Aside0.mk H
       clear H
       go_wp2_with (first|((with_reducible refine gate_callee (f:=75) rfl ?_);refine goesL_ (some 67) rfl rfl Tryd.func75 (by kernel_rfl) rfl #[.int .i64 a0,.int .i64 x16_2] rfl (by(try simp only [List.map_toArray,List.map_cons,List.map_nil]);first|done|rfl|(simp only [List.length_drop,List.length_take];rfl)) ?_;(with_reducible refine(when_size.calls k2 a0 x16_2 t177 _ A23.out).mono ?_);rintro e w' ⟨rfl,⟨nd,rfl⟩⟩;refine⟨_,rfl,?_⟩))
       go_roundg k2
       case measure=>have:=HJ6.out;have:=HK2.out;omega
       case rel=>exact⟨(wrap64 (x15_2+t177)),(wrap64 (x16_2+1)),(by first|rfl|(simp;done)|(simp [*];done)),(by first|rfl|(simp;done)|(simp [*];done)),H',⟨by have:=HJ6.out;have:=HK2.out;omega⟩,by repeat (first|exact Drawn0.refl _|apply Drawn0.step)⟩
      ·skip
       have c22b0:decide (x16_2<a1)=false:=decide_eq_false c22
       clear c22
       simp only [Option.some.injEq,Prod.mk.injEq] at H
       obtain⟨rfl,rfl⟩:=H
       go_wp2
       go_ret2
       exact⟨by first|rfl|(simp;done)|(simp [*];done),by repeat (first|exact Drawn0.refl _|apply Drawn0.step)⟩
end Go.Proofs.YtfjidcmegacibaaDoor.Q
