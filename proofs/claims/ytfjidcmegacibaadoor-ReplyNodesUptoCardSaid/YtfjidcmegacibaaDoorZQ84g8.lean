/- A part of the proof of the seat's laws. No condition beyond those in the theorems. -/
import Derived.Test.YtfjidcmegacibaaDoorZQ0g11
import Derived.Test.YtfjidcmegacibaaDoorZQ79g5
import Derived.Test.YtfjidcmegacibaaDoorZMarkB

namespace Go.Proofs.YtfjidcmegacibaaDoor.Q
open Go.RowKit Go.Proofs.YtfjidcmegacibaaDoorW.PrintWords Go.Proofs.YtfjidcmegacibaaDoorW.PrintLast Go.Proofs.YtfjidcmegacibaaDoorW.PrintMore
set_option linter.unusedVariables false
set_option linter.unusedSimpArgs false
set_option maxHeartbeats 8000000
set_option maxRecDepth 100000
attribute [local go_sem] max2_int min2_int max_two min_two max_three min_three max_four min_four   
mutual
def stowageref3_Step.j2:Nat→ByteArray→Int→Int→Int→Option (Int×Int)
 | 0,_,_,_,_=>none
 | k+1,x0,x5,x6,x7=>if(x0.size:Int)<x5 then(some (0,0)) else(stowageref3_Step.l0 k x0 x5 x6 x7 1)
def stowageref3_Step.l0:Nat→ByteArray→Int→Int→Int→Int→Option (Int×Int)
 | 0,_,_,_,_,_=>none
 | k+1,x0,x5,x6,x7,x8=>if x8<x5 then(if 0≤x8 then(if x8<(x0.size:Int) then(if(bt x0 x8)<128 then(some (0,0)) else(if(bt x0 x8) ≥ 192 then(some (0,0)) else(stowageref3_Step.l0 k x0 x5 (wrap64 ((wrap64 ((wrap64 (64*x6))+(wrap64 (bt x0 x8))))-128)) x7 (wrap64 (x8+1))))) else(none)) else(none)) else(if x6<x7 then(some (0,0)) else(if x6>1114111 then(some (0,0)) else(if x6 ≥ 55296 then(if x6<57344 then(some (0,0)) else(some (x6,x5))) else(some (x6,x5)))))
def stowageref3_Step.j0:Nat→ByteArray→Int→Bool→Option (Int×Int)
 | 0,_,_,_=>none
 | k+1,x0,x4,x16=>if x16=true then(stowageref3_Step.j2 k x0 2 (wrap64 (x4-192)) 128) else(if x4 ≥ 224 then(stowageref3_Step.j1 k x0 x4 (decide (x4<240))) else(stowageref3_Step.j1 k x0 x4 false))
def stowageref3_Step.j1:Nat→ByteArray→Int→Bool→Option (Int×Int)
 | 0,_,_,_=>none
 | k+1,x0,x4,x25=>if x25=true then(stowageref3_Step.j2 k x0 3 (wrap64 (x4-224)) 2048) else(if x4 ≥ 240 then(if x4<248 then(stowageref3_Step.j2 k x0 4 (wrap64 (x4-240)) 65536) else(some (0,0))) else(some (0,0)))
end
def stowageref3_Step.f (k:Nat) (a0:ByteArray):Option (Int×Int):=if 0<(a0.size:Int) then(if(wrap64 (bt a0 0))<128 then(some (wrap64 (bt a0 0),1)) else(if(wrap64 (bt a0 0)) ≥ 192 then(stowageref3_Step.j0 k a0 (wrap64 (bt a0 0)) (decide ((wrap64 (bt a0 0))<224))) else(stowageref3_Step.j0 k a0 (wrap64 (bt a0 0)) false))) else(none)
theorem stowageref3_Step.mono_l:∀ k,(∀ y0 y1 y2 y3,LeO (stowageref3_Step.j2 k y0 y1 y2 y3) (stowageref3_Step.j2 (k+1) y0 y1 y2 y3))∧(∀ y0 y1 y2 y3 y4,LeO (stowageref3_Step.l0 k y0 y1 y2 y3 y4) (stowageref3_Step.l0 (k+1) y0 y1 y2 y3 y4))∧(∀ y0 y1 y2,LeO (stowageref3_Step.j0 k y0 y1 y2) (stowageref3_Step.j0 (k+1) y0 y1 y2))∧(∀ y0 y1 y2,LeO (stowageref3_Step.j1 k y0 y1 y2) (stowageref3_Step.j1 (k+1) y0 y1 y2))
 | 0=>⟨fun _ _ _ _ r h=>by simp [stowageref3_Step.j2] at h,fun _ _ _ _ _ r h=>by simp [stowageref3_Step.l0] at h,fun _ _ _ r h=>by simp [stowageref3_Step.j0] at h,fun _ _ _ r h=>by simp [stowageref3_Step.j1] at h⟩
 | k+1=>by
  obtain⟨ih0,ih1,ih2,ih3⟩:=stowageref3_Step.mono_l k
  refine⟨?_,?_,?_,?_⟩
  ·intro y0 y1 y2 y3
   unfold stowageref3_Step.j2
   repeat' first
   | (with_reducible exact ih0 _ _ _ _)
   | (with_reducible exact ih1 _ _ _ _ _)
   | (with_reducible exact ih2 _ _ _)
   | (with_reducible exact ih3 _ _ _)
   | (with_reducible exact LeO.refl _)
   | (with_reducible exact LeO.none _)
   | (with_reducible refine LeO.ite ?_ ?_)
   | (with_reducible refine LeO.bind ?_ (fun _=>?_))
   | exact ih0 _ _ _ _
   | exact ih1 _ _ _ _ _
   | exact ih2 _ _ _
   | exact ih3 _ _ _
   | exact LeO.none _
   | refine LeO.ite ?_ ?_
   | refine LeO.bind ?_ (fun _=>?_)
  ·intro y0 y1 y2 y3 y4
   unfold stowageref3_Step.l0
   repeat' first
   | (with_reducible exact ih0 _ _ _ _)
   | (with_reducible exact ih1 _ _ _ _ _)
   | (with_reducible exact ih2 _ _ _)
   | (with_reducible exact ih3 _ _ _)
   | (with_reducible exact LeO.refl _)
   | (with_reducible exact LeO.none _)
   | (with_reducible refine LeO.ite ?_ ?_)
   | (with_reducible refine LeO.bind ?_ (fun _=>?_))
   | exact ih0 _ _ _ _
   | exact ih1 _ _ _ _ _
   | exact ih2 _ _ _
   | exact ih3 _ _ _
   | exact LeO.none _
   | refine LeO.ite ?_ ?_
   | refine LeO.bind ?_ (fun _=>?_)
  ·intro y0 y1 y2
   unfold stowageref3_Step.j0
   repeat' first
   | (with_reducible exact ih0 _ _ _ _)
   | (with_reducible exact ih1 _ _ _ _ _)
   | (with_reducible exact ih2 _ _ _)
   | (with_reducible exact ih3 _ _ _)
   | (with_reducible exact LeO.refl _)
   | (with_reducible exact LeO.none _)
   | (with_reducible refine LeO.ite ?_ ?_)
   | (with_reducible refine LeO.bind ?_ (fun _=>?_))
   | exact ih0 _ _ _ _
   | exact ih1 _ _ _ _ _
   | exact ih2 _ _ _
   | exact ih3 _ _ _
   | exact LeO.none _
   | refine LeO.ite ?_ ?_
   | refine LeO.bind ?_ (fun _=>?_)
  ·intro y0 y1 y2
   unfold stowageref3_Step.j1
   repeat' first
   | (with_reducible exact ih0 _ _ _ _)
   | (with_reducible exact ih1 _ _ _ _ _)
   | (with_reducible exact ih2 _ _ _)
   | (with_reducible exact ih3 _ _ _)
   | (with_reducible exact LeO.refl _)
   | (with_reducible exact LeO.none _)
   | (with_reducible refine LeO.ite ?_ ?_)
   | (with_reducible refine LeO.bind ?_ (fun _=>?_))
   | exact ih0 _ _ _ _
   | exact ih1 _ _ _ _ _
   | exact ih2 _ _ _
   | exact ih3 _ _ _
   | exact LeO.none _
   | refine LeO.ite ?_ ?_
   | refine LeO.bind ?_ (fun _=>?_)
theorem stowageref3_Step.mono:∀ a0 k,LeO (stowageref3_Step.f k a0) (stowageref3_Step.f (k+1) a0):=by
 intro a0 k
 obtain⟨ih0,ih1,ih2,ih3⟩:=stowageref3_Step.mono_l k
 unfold stowageref3_Step.f
 repeat' first
   | (with_reducible exact ih0 _ _ _ _)
   | (with_reducible exact ih1 _ _ _ _ _)
   | (with_reducible exact ih2 _ _ _)
   | (with_reducible exact ih3 _ _ _)
   | (with_reducible exact LeO.refl _)
   | (with_reducible exact LeO.none _)
   | (with_reducible refine LeO.ite ?_ ?_)
   | (with_reducible refine LeO.bind ?_ (fun _=>?_))
   | exact ih0 _ _ _ _
   | exact ih1 _ _ _ _ _
   | exact ih2 _ _ _
   | exact ih3 _ _ _
   | exact LeO.none _
   | refine LeO.ite ?_ ?_
   | refine LeO.bind ?_ (fun _=>?_)
theorem stowageref3_Step.calls (k:Nat) (a0:ByteArray) (r1:Int) (r2:Int) (w:World) (h:stowageref3_Step.f k a0=some (r1,r2)) :
  Calls Tryd.prog 106 #[.string a0] w fun e w'=>e = .returned (.tuple #[.int .i64 r1,.int .i64 r2])∧Drawn0 w w':=by
 unfold stowageref3_Step.f at h
 have H:=h
 clear h
 replace H:=itO H
 rcases H with⟨c2,H⟩|⟨c2,H⟩
 ·skip
  have c2b0:decide (0<(a0.size:Int))=true:=decide_eq_true c2
  have c2b1:decide (0<a0.size)=true:=decide_eq_true (by omega)
  clear c2
  have HC4:=Aside0.mk H
  clear H
  have p3:0≤(0:Int):=(by omega)
  have q3:0<a0.size:=(by have:(0:Int)<(a0.size:Int):=of_decide_eq_true (by first|(with_reducible assumption)|assumption);omega)
  have hx3:∀ h:0<a0.size,((a0[0]'h).toNat:Int)=bt a0 0:=bt_at a0 0
  clear p3
  have qi3:(0<(a0.size:Int))=True:=eq_true (of_decide_eq_true (by first|(with_reducible assumption)|assumption))
  replace q3:=eq_true q3
  go_enter Tryd.func106,Tryd.ntmps106
  go_upto_block 0 with(fail)
  go_cut [5,6,7] (fun v5 v6 v7 wc=>∃ (kq:Nat) (x5_3:Int) (x6_3:Int) (x7_3:Int),v5 = .int .i64 x5_3∧v6 = .int .i64 x6_3∧v7 = .int .i64 x7_3∧Aside0 (stowageref3_Step.j2 kq a0 x5_3 x6_3 x7_3=some (r1,r2))∧Aside0 (kq≤k)∧Drawn0 w wc)
  case first=>
   have H:=HC4.out
   clear HC4
   replace H:=itO H
   rcases H with⟨c5,H⟩|⟨c5,H⟩
   ·skip
    have c5b0:decide ((wrap64 (bt a0 0))<128)=true:=decide_eq_true c5
    clear c5
    (first|rw [c5b0]|(simp only [i64_w,i32_w];rw [c5b0])|skip)
    simp only [Option.some.injEq,Prod.mk.injEq] at H
    obtain⟨rfl,rfl⟩:=H
    go_wp2
    go_ret2
    exact⟨by first|rfl|(simp;done)|(simp [*];done),by repeat (first|exact Drawn0.refl _|apply Drawn0.step)⟩
   ·skip
    have c5b0:decide ((wrap64 (bt a0 0))<128)=false:=decide_eq_false c5
    clear c5
    (first|rw [c5b0]|(simp only [i64_w,i32_w];rw [c5b0])|skip)
    have HC6:=Aside0.mk H
    clear H
    go_upto_region 8 with(fail)
    go_cut [16] (fun v16 wc=>∃ (kq:Nat) (x16_5:Bool),v16 = .bool x16_5∧Aside0 (stowageref3_Step.j0 kq a0 (wrap64 (bt a0 0)) x16_5=some (r1,r2))∧Aside0 (kq≤k)∧Drawn0 w wc)
    case first=>
     have H:=HC6.out
     clear HC6
     replace H:=itO H
     rcases H with⟨c7,H⟩|⟨c7,H⟩
     ·skip
      have c7b0:decide (192≤(wrap64 (bt a0 0)))=true:=decide_eq_true c7
      clear c7
      (first|rw [c7b0]|(simp only [i64_w,i32_w];rw [c7b0])|skip)
      have H':=Aside0.mk H
      clear H
      go_wp2
      go_meet
      case rel=>exact⟨_,(decide ((wrap64 (bt a0 0))<224)),(by first|rfl|(simp;done)|(simp [*];done)),H',⟨by first|omega|exact Nat.le_refl _⟩,by repeat (first|exact Drawn0.refl _|apply Drawn0.step)⟩
     ·skip
      have c7b0:decide (192≤(wrap64 (bt a0 0)))=false:=decide_eq_false c7
      clear c7
      (first|rw [c7b0]|(simp only [i64_w,i32_w];rw [c7b0])|skip)
      have H':=Aside0.mk H
      clear H
      go_wp2
      go_meet
      case rel=>exact⟨_,(false),(by first|rfl|(simp;done)|(simp [*];done)),H',⟨by first|omega|exact Nat.le_refl _⟩,by repeat (first|exact Drawn0.refl _|apply Drawn0.step)⟩
    case rest=>
     clear HC6
     try clear c1
     try clear c2
     try clear c2b0
     try clear c2b1
     try clear p2
     try clear p3
     try clear q3
     try clear hx3
     try clear qi3
     try clear c5
     try clear c5b0
     try clear p6
     try clear c7
     try clear c7b0
     try clear p3
     try clear q3
     obtain⟨kq,x16_5,rfl,HA,HJ5,⟨mc5,rfl⟩⟩:=hcut
     cases kq with
     | zero=>exact absurd HA.out (by simp [stowageref3_Step.j0])
     | succ kj5=>
      have H:=HA.out
      clear HA
      simp only [stowageref3_Step.j0] at H
      by_cases c8:x16_5=true
      ·subst c8
       replace H:=itT H
       have H':=Aside0.mk H
       clear H
       go_wp2
       go_meet
       case rel=>exact⟨_,(2),(wrap64 ((wrap64 (bt a0 0))-192)),(128),(by first|rfl|(simp;done)|(simp [*];done)),(by first|rfl|(simp;done)|(simp [*];done)),(by first|rfl|(simp;done)|(simp [*];done)),H',⟨by have:=HJ5.out;first|omega|exact Nat.le_refl _⟩,by repeat (first|exact Drawn0.refl _|apply Drawn0.step)⟩
      ·replace c8:=Bool.eq_false_iff.mpr c8
       subst c8
       replace H:=itF H
       have HC9:=Aside0.mk H
       clear H
       go_upto_region 12 with(fail)
       go_cut [25] (fun v25 wc=>∃ (kq:Nat) (x25_8:Bool),v25 = .bool x25_8∧Aside0 (stowageref3_Step.j1 kq a0 (wrap64 (bt a0 0)) x25_8=some (r1,r2))∧Aside0 (kq≤kj5)∧Drawn0 w wc)
       case first=>
        have H:=HC9.out
        clear HC9
        replace H:=itO H
        rcases H with⟨c10,H⟩|⟨c10,H⟩
        ·skip
         have c10b0:decide (224≤(wrap64 (bt a0 0)))=true:=decide_eq_true c10
         clear c10
         (first|rw [c10b0]|(simp only [i64_w,i32_w];rw [c10b0])|skip)
         have H':=Aside0.mk H
         clear H
         go_wp2
         go_meet
         case rel=>exact⟨_,(decide ((wrap64 (bt a0 0))<240)),(by first|rfl|(simp;done)|(simp [*];done)),H',⟨by have:=HJ5.out;first|omega|exact Nat.le_refl _⟩,by repeat (first|exact Drawn0.refl _|apply Drawn0.step)⟩
        ·skip
         have c10b0:decide (224≤(wrap64 (bt a0 0)))=false:=decide_eq_false c10
         clear c10
         (first|rw [c10b0]|(simp only [i64_w,i32_w];rw [c10b0])|skip)
         have H':=Aside0.mk H
         clear H
         go_wp2
         go_meet
         case rel=>exact⟨_,(false),(by first|rfl|(simp;done)|(simp [*];done)),H',⟨by have:=HJ5.out;first|omega|exact Nat.le_refl _⟩,by repeat (first|exact Drawn0.refl _|apply Drawn0.step)⟩
       case rest=>
        clear HC9
        try clear c1
        try clear c2
        try clear c2b0
        try clear c2b1
        try clear p2
        try clear p3
        try clear q3
        try clear hx3
        try clear qi3
        try clear c5
        try clear c5b0
        try clear p6
        try clear c7
        try clear c7b0
        try clear c8
        try clear c10
        try clear c10b0
        try clear p2
        try clear p3
        try clear p6
        try clear q3
        obtain⟨kq,x25_8,rfl,HA,HJ8,⟨mc8,rfl⟩⟩:=hcut
        cases kq with
        | zero=>exact absurd HA.out (by simp [stowageref3_Step.j1])
        | succ kj8=>
         have H:=HA.out
         clear HA
         simp only [stowageref3_Step.j1] at H
         by_cases c11:x25_8=true
         ·subst c11
          replace H:=itT H
          have H':=Aside0.mk H
          clear H
          go_wp2
          go_meet
          case rel=>exact⟨_,(3),(wrap64 ((wrap64 (bt a0 0))-224)),(2048),(by first|rfl|(simp;done)|(simp [*];done)),(by first|rfl|(simp;done)|(simp [*];done)),(by first|rfl|(simp;done)|(simp [*];done)),H',⟨by have:=HJ5.out;have:=HJ8.out;first|omega|exact Nat.le_refl _⟩,by repeat (first|exact Drawn0.refl _|apply Drawn0.step)⟩
         ·replace c11:=Bool.eq_false_iff.mpr c11
          subst c11
          replace H:=itF H
          replace H:=itO H
          rcases H with⟨c12,H⟩|⟨c12,H⟩
          ·skip
           have c12b0:decide (240≤(wrap64 (bt a0 0)))=true:=decide_eq_true c12
           clear c12
           replace H:=itO H
           rcases H with⟨c13,H⟩|⟨c13,H⟩
           ·skip
            have c13b0:decide ((wrap64 (bt a0 0))<248)=true:=decide_eq_true c13
            clear c13
            have H':=Aside0.mk H
            clear H
            go_wp2
            go_meet
            case rel=>exact⟨_,(4),(wrap64 ((wrap64 (bt a0 0))-240)),(65536),(by first|rfl|(simp;done)|(simp [*];done)),(by first|rfl|(simp;done)|(simp [*];done)),(by first|rfl|(simp;done)|(simp [*];done)),H',⟨by have:=HJ5.out;have:=HJ8.out;first|omega|exact Nat.le_refl _⟩,by repeat (first|exact Drawn0.refl _|apply Drawn0.step)⟩
           ·skip
            have c13b0:decide ((wrap64 (bt a0 0))<248)=false:=decide_eq_false c13
            clear c13
            simp only [Option.some.injEq,Prod.mk.injEq] at H
            obtain⟨rfl,rfl⟩:=H
            go_wp2
            go_ret2
            exact⟨by first|rfl|(simp;done)|(simp [*];done),by repeat (first|exact Drawn0.refl _|apply Drawn0.step)⟩
          ·skip
           have c12b0:decide (240≤(wrap64 (bt a0 0)))=false:=decide_eq_false c12
           clear c12
           simp only [Option.some.injEq,Prod.mk.injEq] at H
           obtain⟨rfl,rfl⟩:=H
           go_wp2
           go_ret2
           exact⟨by first|rfl|(simp;done)|(simp [*];done),by repeat (first|exact Drawn0.refl _|apply Drawn0.step)⟩
  case rest=>
   clear HC4
   try clear c1
   try clear c2
   try clear c2b0
   try clear c2b1
   try clear p2
   try clear p3
   try clear q3
   try clear hx3
   try clear qi3
   try clear c5
   try clear c5b0
   try clear p6
   try clear c7
   try clear c7b0
   try clear c8
   try clear c10
   try clear c10b0
   try clear c11
   try clear c12
   try clear c12b0
   try clear c13
   try clear c13b0
   try clear p2
   try clear p3
   try clear p6
   try clear q3
   obtain⟨kq,x5_3,x6_3,x7_3,rfl,rfl,rfl,HA,HJ3,⟨mc3,rfl⟩⟩:=hcut
   cases kq with
   | zero=>exact absurd HA.out (by simp [stowageref3_Step.j2])
   | succ kj3=>
    have H:=HA.out
    clear HA
    simp only [stowageref3_Step.j2] at H
    replace H:=itO H
    rcases H with⟨c14,H⟩|⟨c14,H⟩
    ·skip
     have c14b0:decide ((a0.size:Int)<x5_3)=true:=decide_eq_true c14
     clear c14
     simp only [Option.some.injEq,Prod.mk.injEq] at H
     obtain⟨rfl,rfl⟩:=H
     go_wp2
     go_ret2
     exact⟨by first|rfl|(simp;done)|(simp [*];done),by repeat (first|exact Drawn0.refl _|apply Drawn0.step)⟩
    ·skip
     have c14b0:decide ((a0.size:Int)<x5_3)=false:=decide_eq_false c14
     clear c14
     have H':=Aside0.mk H
     clear H
     go_wp2
     go_loopg [6,8] kj3 (fun kq v6 v8 w'=>∃ (x6_2:Int) (x8_2:Int),v6 = .int .i64 x6_2∧v8 = .int .i64 x8_2∧Aside0 (stowageref3_Step.l0 kq a0 x5_3 x6_2 x7_3 x8_2=some (r1,r2))∧Aside0 (kq≤kj3)∧Drawn0 w w')
     case atStart=>exact⟨(x6_3),(1),(by first|rfl|(simp;done)|(simp [*];done)),(by first|rfl|(simp;done)|(simp [*];done)),H',⟨Nat.le_refl _⟩,by repeat (first|exact Drawn0.refl _|apply Drawn0.step)⟩
     case round=>
      clear H'
      try clear c1
      try clear c2
      try clear c2b0
      try clear c2b1
      try clear p2
      try clear c3
      try clear p3
      try clear q3
      try clear hx3
      try clear qi3
      try clear c5
      try clear c5b0
      try clear p6
      try clear c7
      try clear c7b0
      try clear c8
      try clear c10
      try clear c10b0
      try clear c11
      try clear c12
      try clear c12b0
      try clear c13
      try clear c13b0
      try clear c14
      try clear c14b0
      try clear p2
      try clear p3
      try clear p6
      try clear q3
      obtain⟨x6_2,x8_2,rfl,rfl,HA,HK2,⟨m2,rfl⟩⟩:=hrel
      cases gk with
      | zero=>exact absurd HA.out (by simp [stowageref3_Step.l0])
      | succ k2=>
       have H:=HA.out
       clear HA
       simp only [stowageref3_Step.l0] at H
       replace H:=itO H
       rcases H with⟨c15,H⟩|⟨c15,H⟩
       ·skip
        have c15b0:decide (x8_2<x5_3)=true:=decide_eq_true c15
        clear c15
        replace H:=itO H
        rcases H with⟨c16,H⟩|⟨c16,H⟩
        ·skip
         have c16b0:decide (0≤x8_2)=true:=decide_eq_true c16
         clear c16
         replace H:=itO H
         rcases H with⟨c17,H⟩|⟨c17,H⟩
         ·skip
          have c17b0:decide (x8_2<(a0.size:Int))=true:=decide_eq_true c17
          clear c17
          replace H:=itO H
          rcases H with⟨c19,H⟩|⟨c19,H⟩
          ·skip
           have c19b0:decide ((bt a0 x8_2)<128)=true:=decide_eq_true c19
           clear c19
           simp only [Option.some.injEq,Prod.mk.injEq] at H
           obtain⟨rfl,rfl⟩:=H
           have p18:0≤(x8_2:Int):=of_decide_eq_true (by first|(with_reducible assumption)|assumption)
           have q18:x8_2<(a0.size:Int):=of_decide_eq_true (by first|(with_reducible assumption)|assumption)
           have hx18:=bt_at a0 x8_2
           replace p18:=eq_true p18
           replace q18:=eq_true q18
           go_wp2
           go_ret2
           exact⟨by first|rfl|(simp;done)|(simp [*];done),by repeat (first|exact Drawn0.refl _|apply Drawn0.step)⟩
          ·skip
           have c19b0:decide ((bt a0 x8_2)<128)=false:=decide_eq_false c19
           clear c19
           replace H:=itO H
           rcases H with⟨c21,H⟩|⟨c21,H⟩
           ·skip
            have c21b0:decide (192≤(bt a0 x8_2))=true:=decide_eq_true c21
            clear c21
            simp only [Option.some.injEq,Prod.mk.injEq] at H
            obtain⟨rfl,rfl⟩:=H
            have p18:0≤(x8_2:Int):=of_decide_eq_true (by first|(with_reducible assumption)|assumption)
            have q18:x8_2<(a0.size:Int):=of_decide_eq_true (by first|(with_reducible assumption)|assumption)
            have hx18:=bt_at a0 x8_2
            replace p18:=eq_true p18
            replace q18:=eq_true q18
            have p20:0≤(x8_2:Int):=of_decide_eq_true (by first|(with_reducible assumption)|assumption)
            have q20:x8_2<(a0.size:Int):=of_decide_eq_true (by first|(with_reducible assumption)|assumption)
            have hx20:=bt_at a0 x8_2
            replace p20:=eq_true p20
            replace q20:=eq_true q20
            go_wp2
            go_ret2
            exact⟨by first|rfl|(simp;done)|(simp [*];done),by repeat (first|exact Drawn0.refl _|apply Drawn0.step)⟩
           ·skip
            have c21b0:decide (192≤(bt a0 x8_2))=false:=decide_eq_false c21
            clear c21
            have H':=Aside0.mk H
            clear H
            have p18:0≤(x8_2:Int):=of_decide_eq_true (by first|(with_reducible assumption)|assumption)
            have q18:x8_2<(a0.size:Int):=of_decide_eq_true (by first|(with_reducible assumption)|assumption)
            have hx18:=bt_at a0 x8_2
            replace p18:=eq_true p18
            replace q18:=eq_true q18
            have p20:0≤(x8_2:Int):=of_decide_eq_true (by first|(with_reducible assumption)|assumption)
            have q20:x8_2<(a0.size:Int):=of_decide_eq_true (by first|(with_reducible assumption)|assumption)
            have hx20:=bt_at a0 x8_2
            replace p20:=eq_true p20
            replace q20:=eq_true q20
            have p22:0≤(x8_2:Int):=of_decide_eq_true (by first|(with_reducible assumption)|assumption)
            have q22:x8_2<(a0.size:Int):=of_decide_eq_true (by first|(with_reducible assumption)|assumption)
            have hx22:=bt_at a0 x8_2
            replace p22:=eq_true p22
            replace q22:=eq_true q22
            go_wp2
            go_roundg k2
            case measure=>have:=HJ3.out;have:=HK2.out;omega
            case rel=>exact⟨(wrap64 ((wrap64 ((wrap64 (64*x6_2))+(wrap64 (bt a0 x8_2))))-128)),(wrap64 (x8_2+1)),(by first|rfl|(simp;done)|(simp [*];done)),(by first|rfl|(simp;done)|(simp [*];done)),H',⟨by have:=HJ3.out;have:=HK2.out;omega⟩,by repeat (first|exact Drawn0.refl _|apply Drawn0.step)⟩
         ·exact absurd H (by simp)
        ·exact absurd H (by simp)
       ·skip
        have c15b0:decide (x8_2<x5_3)=false:=decide_eq_false c15
        clear c15
        replace H:=itO H
        rcases H with⟨c23,H⟩|⟨c23,H⟩
        ·skip
         have c23b0:decide (x6_2<x7_3)=true:=decide_eq_true c23
         clear c23
         simp only [Option.some.injEq,Prod.mk.injEq] at H
         obtain⟨rfl,rfl⟩:=H
         go_wp2
         go_ret2
         exact⟨by first|rfl|(simp;done)|(simp [*];done),by repeat (first|exact Drawn0.refl _|apply Drawn0.step)⟩
        ·skip
         have c23b0:decide (x6_2<x7_3)=false:=decide_eq_false c23
         clear c23
         replace H:=itO H
         rcases H with⟨c24,H⟩|⟨c24,H⟩
         ·skip
          have c24b0:decide (1114111<x6_2)=true:=decide_eq_true c24
          clear c24
          simp only [Option.some.injEq,Prod.mk.injEq] at H
          obtain⟨rfl,rfl⟩:=H
          go_wp2
          go_ret2
          exact⟨by first|rfl|(simp;done)|(simp [*];done),by repeat (first|exact Drawn0.refl _|apply Drawn0.step)⟩
         ·skip
          have c24b0:decide (1114111<x6_2)=false:=decide_eq_false c24
          clear c24
          replace H:=itO H
          rcases H with⟨c25,H⟩|⟨c25,H⟩
          ·skip
           have c25b0:decide (55296≤x6_2)=true:=decide_eq_true c25
           clear c25
           replace H:=itO H
           rcases H with⟨c26,H⟩|⟨c26,H⟩
           ·skip
            have c26b0:decide (x6_2<57344)=true:=decide_eq_true c26
            clear c26
            simp only [Option.some.injEq,Prod.mk.injEq] at H
            obtain⟨rfl,rfl⟩:=H
            go_wp2
            go_ret2
            exact⟨by first|rfl|(simp;done)|(simp [*];done),by repeat (first|exact Drawn0.refl _|apply Drawn0.step)⟩
           ·skip
            have c26b0:decide (x6_2<57344)=false:=decide_eq_false c26
            clear c26
            simp only [Option.some.injEq,Prod.mk.injEq] at H
            obtain⟨rfl,rfl⟩:=H
            go_wp2
            go_ret2
            exact⟨by first|rfl|(simp;done)|(simp [*];done),by repeat (first|exact Drawn0.refl _|apply Drawn0.step)⟩
          ·skip
           have c25b0:decide (55296≤x6_2)=false:=decide_eq_false c25
           clear c25
           simp only [Option.some.injEq,Prod.mk.injEq] at H
           obtain⟨rfl,rfl⟩:=H
           go_wp2
           go_ret2
           exact⟨by first|rfl|(simp;done)|(simp [*];done),by repeat (first|exact Drawn0.refl _|apply Drawn0.step)⟩
 ·exact absurd H (by simp)
def stowageref3_Char.f (a0:Int):Option (Bool):=if a0=9 then(some true) else(if a0=10 then(some true) else(if a0=13 then(some true) else(if a0 ≥ 32 then(if a0≤55295 then(some true) else(if a0 ≥ 57344 then(if a0≤65533 then(some true) else(if a0 ≥ 65536 then(some (decide (a0≤1114111))) else(some false))) else(if a0 ≥ 65536 then(some (decide (a0≤1114111))) else(some false)))) else(if a0 ≥ 57344 then(if a0≤65533 then(some true) else(if a0 ≥ 65536 then(some (decide (a0≤1114111))) else(some false))) else(if a0 ≥ 65536 then(some (decide (a0≤1114111))) else(some false))))))
theorem stowageref3_Char.calls (a0:Int) (r:Bool) (w:World) (h:stowageref3_Char.f a0=some r) :
  Calls Tryd.prog 107 #[.int .i64 a0] w fun e w'=>e = .returned (.bool r)∧Drawn0 w w':=by
 unfold stowageref3_Char.f at h
 have H:=h
 clear h
 replace H:=itO H
 rcases H with⟨c2,H⟩|⟨c2,H⟩
 ·skip
  have c2b0:(a0 == 9)=true:=beq_iff_eq.mpr c2
  have c2b1:(a0 != 9)=false:=bne_eq_false_iff_eq.mpr c2
  clear c2
  obtain rfl:=Option.some.inj H
  go_enter Tryd.func107,Tryd.ntmps107
  go_wp2
  go_ret
  exact⟨by first|rfl|(simp;done)|(simp [*];done),by repeat (first|exact Drawn0.refl _|apply Drawn0.step)⟩
 ·skip
  have c2b0:(a0 == 9)=false:=beq_eq_false_iff_ne.mpr c2
  have c2b1:(a0 != 9)=true:=bne_iff_ne.mpr c2
  replace H:=itO H
  rcases H with⟨c3,H⟩|⟨c3,H⟩
  ·skip
   have c3b0:(a0 == 10)=true:=beq_iff_eq.mpr c3
   have c3b1:(a0 != 10)=false:=bne_eq_false_iff_eq.mpr c3
   clear c3
   obtain rfl:=Option.some.inj H
   go_enter Tryd.func107,Tryd.ntmps107
   go_wp2
   go_ret
   exact⟨by first|rfl|(simp;done)|(simp [*];done),by repeat (first|exact Drawn0.refl _|apply Drawn0.step)⟩
  ·skip
   have c3b0:(a0 == 10)=false:=beq_eq_false_iff_ne.mpr c3
   have c3b1:(a0 != 10)=true:=bne_iff_ne.mpr c3
   replace H:=itO H
   rcases H with⟨c4,H⟩|⟨c4,H⟩
   ·skip
    have c4b0:(a0 == 13)=true:=beq_iff_eq.mpr c4
    have c4b1:(a0 != 13)=false:=bne_eq_false_iff_eq.mpr c4
    clear c4
    obtain rfl:=Option.some.inj H
    go_enter Tryd.func107,Tryd.ntmps107
    go_wp2
    go_ret
    exact⟨by first|rfl|(simp;done)|(simp [*];done),by repeat (first|exact Drawn0.refl _|apply Drawn0.step)⟩
   ·skip
    have c4b0:(a0 == 13)=false:=beq_eq_false_iff_ne.mpr c4
    have c4b1:(a0 != 13)=true:=bne_iff_ne.mpr c4
    replace H:=itO H
    rcases H with⟨c5,H⟩|⟨c5,H⟩
    ·skip
     have c5b0:decide (32≤a0)=true:=decide_eq_true c5
     clear c5
     replace H:=itO H
     rcases H with⟨c6,H⟩|⟨c6,H⟩
     ·skip
      have c6b0:decide (a0≤55295)=true:=decide_eq_true c6
      clear c6
      obtain rfl:=Option.some.inj H
      go_enter Tryd.func107,Tryd.ntmps107
      go_wp2
      go_ret
      exact⟨by first|rfl|(simp;done)|(simp [*];done),by repeat (first|exact Drawn0.refl _|apply Drawn0.step)⟩
     ·skip
      have c6b0:decide (a0≤55295)=false:=decide_eq_false c6
      clear c6
      replace H:=itO H
      rcases H with⟨c7,H⟩|⟨c7,H⟩
      ·skip
       have c7b0:decide (57344≤a0)=true:=decide_eq_true c7
       clear c7
       replace H:=itO H
       rcases H with⟨c8,H⟩|⟨c8,H⟩
       ·skip
        have c8b0:decide (a0≤65533)=true:=decide_eq_true c8
        clear c8
        obtain rfl:=Option.some.inj H
        go_enter Tryd.func107,Tryd.ntmps107
        go_wp2
        go_ret
        exact⟨by first|rfl|(simp;done)|(simp [*];done),by repeat (first|exact Drawn0.refl _|apply Drawn0.step)⟩
       ·skip
        have c8b0:decide (a0≤65533)=false:=decide_eq_false c8
        clear c8
        replace H:=itO H
        rcases H with⟨c9,H⟩|⟨c9,H⟩
        ·skip
         have c9b0:decide (65536≤a0)=true:=decide_eq_true c9
         clear c9
         obtain rfl:=Option.some.inj H
         go_enter Tryd.func107,Tryd.ntmps107
         go_wp2
         go_ret
         exact⟨by first|rfl|(simp;done)|(simp [*];done),by repeat (first|exact Drawn0.refl _|apply Drawn0.step)⟩
        ·skip
         have c9b0:decide (65536≤a0)=false:=decide_eq_false c9
         clear c9
         obtain rfl:=Option.some.inj H
         go_enter Tryd.func107,Tryd.ntmps107
         go_wp2
         go_ret
         exact⟨by first|rfl|(simp;done)|(simp [*];done),by repeat (first|exact Drawn0.refl _|apply Drawn0.step)⟩
      ·skip
       have c7b0:decide (57344≤a0)=false:=decide_eq_false c7
       clear c7
       replace H:=itO H
       rcases H with⟨c10,H⟩|⟨c10,H⟩
       ·skip
        have c10b0:decide (65536≤a0)=true:=decide_eq_true c10
        clear c10
        obtain rfl:=Option.some.inj H
        go_enter Tryd.func107,Tryd.ntmps107
        go_wp2
        go_ret
        exact⟨by first|rfl|(simp;done)|(simp [*];done),by repeat (first|exact Drawn0.refl _|apply Drawn0.step)⟩
       ·skip
        have c10b0:decide (65536≤a0)=false:=decide_eq_false c10
        clear c10
        obtain rfl:=Option.some.inj H
        go_enter Tryd.func107,Tryd.ntmps107
        go_wp2
        go_ret
        exact⟨by first|rfl|(simp;done)|(simp [*];done),by repeat (first|exact Drawn0.refl _|apply Drawn0.step)⟩
    ·skip
     have c5b0:decide (32≤a0)=false:=decide_eq_false c5
     clear c5
     replace H:=itO H
     rcases H with⟨c11,H⟩|⟨c11,H⟩
     ·skip
      have c11b0:decide (57344≤a0)=true:=decide_eq_true c11
      clear c11
      replace H:=itO H
      rcases H with⟨c12,H⟩|⟨c12,H⟩
      ·skip
       have c12b0:decide (a0≤65533)=true:=decide_eq_true c12
       clear c12
       obtain rfl:=Option.some.inj H
       go_enter Tryd.func107,Tryd.ntmps107
       go_wp2
       go_ret
       exact⟨by first|rfl|(simp;done)|(simp [*];done),by repeat (first|exact Drawn0.refl _|apply Drawn0.step)⟩
      ·skip
       have c12b0:decide (a0≤65533)=false:=decide_eq_false c12
       clear c12
       replace H:=itO H
       rcases H with⟨c13,H⟩|⟨c13,H⟩
       ·skip
        have c13b0:decide (65536≤a0)=true:=decide_eq_true c13
        clear c13
        obtain rfl:=Option.some.inj H
        go_enter Tryd.func107,Tryd.ntmps107
        go_wp2
        go_ret
        exact⟨by first|rfl|(simp;done)|(simp [*];done),by repeat (first|exact Drawn0.refl _|apply Drawn0.step)⟩
       ·skip
        have c13b0:decide (65536≤a0)=false:=decide_eq_false c13
        clear c13
        obtain rfl:=Option.some.inj H
        go_enter Tryd.func107,Tryd.ntmps107
        go_wp2
        go_ret
        exact⟨by first|rfl|(simp;done)|(simp [*];done),by repeat (first|exact Drawn0.refl _|apply Drawn0.step)⟩
     ·skip
      have c11b0:decide (57344≤a0)=false:=decide_eq_false c11
      clear c11
      replace H:=itO H
      rcases H with⟨c14,H⟩|⟨c14,H⟩
      ·skip
       have c14b0:decide (65536≤a0)=true:=decide_eq_true c14
       clear c14
       obtain rfl:=Option.some.inj H
       go_enter Tryd.func107,Tryd.ntmps107
       go_wp2
       go_ret
       exact⟨by first|rfl|(simp;done)|(simp [*];done),by repeat (first|exact Drawn0.refl _|apply Drawn0.step)⟩
      ·skip
       have c14b0:decide (65536≤a0)=false:=decide_eq_false c14
       clear c14
       obtain rfl:=Option.some.inj H
       go_enter Tryd.func107,Tryd.ntmps107
       go_wp2
       go_ret
       exact⟨by first|rfl|(simp;done)|(simp [*];done),by repeat (first|exact Drawn0.refl _|apply Drawn0.step)⟩
def stowageref3_Legal.l0:Nat→ByteArray→Option (Bool)
 | 0,_=>none
 | k+1,x0=>if(x0.size:Int)>0 then((stowageref3_Step.f k x0).bind fun bt277=>(if bt277.2=0 then(some false) else((stowageref3_Char.f bt277.1).bind fun t279=>(if t279=true then(if 0≤bt277.2 then(if bt277.2≤(x0.size:Int) then(stowageref3_Legal.l0 k (x0.extract (bt277.2:Int).toNat x0.size)) else(none)) else(none)) else(some false))))) else(some true)
def stowageref3_Legal.f (k:Nat) (a0:ByteArray):Option (Bool):=stowageref3_Legal.l0 k a0
theorem stowageref3_Legal.mono_l:∀ k,(∀ y0,LeO (stowageref3_Legal.l0 k y0) (stowageref3_Legal.l0 (k+1) y0))
 | 0=>fun _ r h=>by simp [stowageref3_Legal.l0] at h
 | k+1=>by
  have ih0:=stowageref3_Legal.mono_l k
  ·intro y0
   unfold stowageref3_Legal.l0
   repeat' first
   | (with_reducible exact ih0 _)
   | (with_reducible exact stowageref3_Step.mono _ _)
   | (with_reducible exact LeO.refl _)
   | (with_reducible exact LeO.none _)
   | (with_reducible refine LeO.ite ?_ ?_)
   | (with_reducible refine LeO.bind ?_ (fun _=>?_))
   | exact ih0 _
   | exact stowageref3_Step.mono _ _
   | exact LeO.none _
   | refine LeO.ite ?_ ?_
   | refine LeO.bind ?_ (fun _=>?_)
theorem stowageref3_Legal.mono:∀ a0 k,LeO (stowageref3_Legal.f k a0) (stowageref3_Legal.f (k+1) a0):=by
 intro a0 k
 have ih0:=stowageref3_Legal.mono_l k
 unfold stowageref3_Legal.f
 repeat' first
   | (with_reducible exact ih0 _)
   | (with_reducible exact stowageref3_Step.mono _ _)
   | (with_reducible exact LeO.refl _)
   | (with_reducible exact LeO.none _)
   | (with_reducible refine LeO.ite ?_ ?_)
   | (with_reducible refine LeO.bind ?_ (fun _=>?_))
   | exact ih0 _
   | exact stowageref3_Step.mono _ _
   | exact LeO.none _
   | refine LeO.ite ?_ ?_
   | refine LeO.bind ?_ (fun _=>?_)
theorem stowageref3_Legal.calls (k:Nat) (a0:ByteArray) (r:Bool) (w:World) (h:stowageref3_Legal.f k a0=some r) :
  Calls Tryd.prog 89 #[.string a0] w fun e w'=>e = .returned (.bool r)∧Drawn0 w w':=by
 unfold stowageref3_Legal.f at h
 have H:=h
 clear h
 have H':=Aside0.mk H
 clear H
 go_enter Tryd.func89,Tryd.ntmps89
 go_wp2
 go_loopg [0] k (fun kq v0 w'=>∃ (x0_1:ByteArray),v0 = .string x0_1∧Aside0 (stowageref3_Legal.l0 kq x0_1=some r)∧Aside0 (kq≤k)∧Drawn0 w w')
 case atStart=>exact⟨(a0),(by first|rfl|(simp;done)|(simp [*];done)),H',⟨Nat.le_refl _⟩,by repeat (first|exact Drawn0.refl _|apply Drawn0.step)⟩
 case round=>
  clear H'
  obtain⟨x0_1,rfl,HA,HK1,⟨m1,rfl⟩⟩:=hrel
  cases gk with
  | zero=>exact absurd HA.out (by simp [stowageref3_Legal.l0])
  | succ k1=>
   have H:=HA.out
   clear HA
   simp only [stowageref3_Legal.l0] at H
   replace H:=itO H
   rcases H with⟨c2,H⟩|⟨c2,H⟩
   ·skip
    have c2b0:decide (0<(x0_1.size:Int))=true:=decide_eq_true c2
    have c2b1:decide (0<x0_1.size)=true:=decide_eq_true (by omega)
    clear c2
    replace H:=bndO H
    obtain⟨⟨t277,t278⟩,A30,H⟩:=H
    dsimp only at H
    have A3:=Aside0.mk A30
    clear A30
    replace H:=itO H
    rcases H with⟨c4,H⟩|⟨c4,H⟩
    ·skip
     have c4b0:(t278 == 0)=true:=beq_iff_eq.mpr c4
     have c4b1:(t278 != 0)=false:=bne_eq_false_iff_eq.mpr c4
     clear c4
     obtain rfl:=Option.some.inj H
     go_wp2_with (first|((with_reducible refine gate_callee (f:=106) rfl ?_);refine goesL_ (some 10) rfl rfl Tryd.func106 (by kernel_rfl) rfl #[.string x0_1] rfl (by(try simp only [List.map_toArray,List.map_cons,List.map_nil]);first|done|rfl|(simp only [List.length_drop,List.length_take];rfl)) ?_;(with_reducible refine(stowageref3_Step.calls k1 x0_1 t277 t278 _ A3.out).mono ?_);rintro e w' ⟨rfl,⟨nd,rfl⟩⟩;refine⟨_,rfl,?_⟩))
     go_ret
     exact⟨by first|rfl|(simp;done)|(simp [*];done),by repeat (first|exact Drawn0.refl _|apply Drawn0.step)⟩
    ·skip
     have c4b0:(t278 == 0)=false:=beq_eq_false_iff_ne.mpr c4
     have c4b1:(t278 != 0)=true:=bne_iff_ne.mpr c4
     replace H:=bndO H
     obtain⟨t279,A50,H⟩:=H
     have A5:=Aside0.mk A50
     clear A50
     by_cases c6:t279=true
     ·subst c6
      replace H:=itT H
      replace H:=itO H
      rcases H with⟨c7,H⟩|⟨c7,H⟩
      ·skip
       have c7b0:=eq_true c7
       have c7b1:=decide_eq_true c7
       clear c7
       replace H:=itO H
       rcases H with⟨c8,H⟩|⟨c8,H⟩
       ·skip
        have c8b0:=eq_true c8
        have c8b1:=decide_eq_true c8
        clear c8
        have H':=Aside0.mk H
        clear H
        go_wp2_with (first|((with_reducible refine gate_callee (f:=106) rfl ?_);refine goesL_ (some 10) rfl rfl Tryd.func106 (by kernel_rfl) rfl #[.string x0_1] rfl (by(try simp only [List.map_toArray,List.map_cons,List.map_nil]);first|done|rfl|(simp only [List.length_drop,List.length_take];rfl)) ?_;(with_reducible refine(stowageref3_Step.calls k1 x0_1 t277 t278 _ A3.out).mono ?_);rintro e w' ⟨rfl,⟨nd,rfl⟩⟩;refine⟨_,rfl,?_⟩)|(go_at_call 107;(with_reducible refine(stowageref3_Char.calls t277 true _ A5.out).mono ?_);rintro e w' ⟨rfl,⟨nd,rfl⟩⟩))
        go_roundg k1
        case measure=>have:=HK1.out;omega
        case rel=>exact⟨(x0_1.extract (t278:Int).toNat x0_1.size),(by first|rfl|(simp;done)|(simp [*];done)),H',⟨by have:=HK1.out;omega⟩,by repeat (first|exact Drawn0.refl _|apply Drawn0.step)⟩
       ·exact absurd H (by simp)
      ·exact absurd H (by simp)
     ·replace c6:=Bool.eq_false_iff.mpr c6
      subst c6
      replace H:=itF H
      obtain rfl:=Option.some.inj H
      go_wp2_with (first|((with_reducible refine gate_callee (f:=106) rfl ?_);refine goesL_ (some 10) rfl rfl Tryd.func106 (by kernel_rfl) rfl #[.string x0_1] rfl (by(try simp only [List.map_toArray,List.map_cons,List.map_nil]);first|done|rfl|(simp only [List.length_drop,List.length_take];rfl)) ?_;(with_reducible refine(stowageref3_Step.calls k1 x0_1 t277 t278 _ A3.out).mono ?_);rintro e w' ⟨rfl,⟨nd,rfl⟩⟩;refine⟨_,rfl,?_⟩)|(go_at_call 107;(with_reducible refine(stowageref3_Char.calls t277 false _ A5.out).mono ?_);rintro e w' ⟨rfl,⟨nd,rfl⟩⟩))
      go_ret
      exact⟨by first|rfl|(simp;done)|(simp [*];done),by repeat (first|exact Drawn0.refl _|apply Drawn0.step)⟩
   ·skip
    have c2b0:decide (0<(x0_1.size:Int))=false:=decide_eq_false c2
    have c2b1:decide (0<x0_1.size)=false:=decide_eq_false (by omega)
    clear c2
    obtain rfl:=Option.some.inj H
    go_wp2
    go_ret
    exact⟨by first|rfl|(simp;done)|(simp [*];done),by repeat (first|exact Drawn0.refl _|apply Drawn0.step)⟩
mutual
def stowageref13_fit.j0:Nat→Int→Bool→ByteArray→ByteArray→List (S48)→Option (Bool)
 | 0,_,_,_,_,_=>none
 | k+1,x1,x30,x281000,x281001,x281002=>if x30=true then(some false) else(stowageref13_fit.l0 k x1 0 x281000 x281001 x281002)
def stowageref13_fit.l0:Nat→Int→Int→ByteArray→ByteArray→List (S48)→Option (Bool)
 | 0,_,_,_,_,_=>none
 | k+1,x1,x5,x281000,x281001,x281002=>if x5<(x281002.length:Int) then(if 0≤x5 then((stowageref13_fit.f k ((rd_T48 x281002 x5).f0) ((rd_T48 x281002 x5).f1) ((rd_T48 x281002 x5).f2) (wrap64 (x1+1))).bind fun t284=>(if t284=true then(stowageref13_fit.l0 k x1 (wrap64 (x5+1)) x281000 x281001 x281002) else(some false))) else(none)) else(some true)
def stowageref13_fit.f:Nat→ByteArray→ByteArray→List (S48)→Int→Option (Bool)
 | 0,_,_,_,_=>none
 | k+1,a0_0,a0_1,l0_2,a1=>if a1>16 then(stowageref13_fit.j0 k a1 true a0_0 a0_1 l0_2) else((stowageref13_Name.f k a0_0).bind fun t281=>(if t281=true then((stowageref3_Legal.f k a0_1).bind fun t282=>(if t282=true then(if a0_1.toList=([]:List UInt8) then(stowageref13_fit.j0 k a1 false a0_0 a0_1 l0_2) else(stowageref13_fit.j0 k a1 (decide ((l0_2.length:Int)>0)) a0_0 a0_1 l0_2)) else(stowageref13_fit.j0 k a1 true a0_0 a0_1 l0_2))) else(stowageref13_fit.j0 k a1 true a0_0 a0_1 l0_2)))
end
theorem stowageref13_fit.mono_l:∀ k,(∀ y0 y1 y2 y3,LeO (stowageref13_fit.f k y0 y1 y2 y3) (stowageref13_fit.f (k+1) y0 y1 y2 y3))∧(∀ y0 y1 y2 y3 y4,LeO (stowageref13_fit.j0 k y0 y1 y2 y3 y4) (stowageref13_fit.j0 (k+1) y0 y1 y2 y3 y4))∧(∀ y0 y1 y2 y3 y4,LeO (stowageref13_fit.l0 k y0 y1 y2 y3 y4) (stowageref13_fit.l0 (k+1) y0 y1 y2 y3 y4))
 | 0=>⟨fun _ _ _ _ r h=>by simp [stowageref13_fit.f] at h,fun _ _ _ _ _ r h=>by simp [stowageref13_fit.j0] at h,fun _ _ _ _ _ r h=>by simp [stowageref13_fit.l0] at h⟩
 | k+1=>by
  obtain⟨ih0,ih1,ih2⟩:=stowageref13_fit.mono_l k
  refine⟨?_,?_,?_⟩
  ·intro y0 y1 y2 y3
   unfold stowageref13_fit.f
   repeat' first
   | (with_reducible exact ih0 _ _ _ _)
   | (with_reducible exact ih1 _ _ _ _ _)
   | (with_reducible exact ih2 _ _ _ _ _)
   | (with_reducible exact stowageref13_Name.mono _ _)
   | (with_reducible exact stowageref3_Legal.mono _ _)
   | (with_reducible exact LeO.refl _)
   | (with_reducible exact LeO.none _)
   | (with_reducible refine LeO.ite ?_ ?_)
   | (with_reducible refine LeO.bind ?_ (fun _=>?_))
   | exact ih0 _ _ _ _
   | exact ih1 _ _ _ _ _
   | exact ih2 _ _ _ _ _
   | exact stowageref13_Name.mono _ _
   | exact stowageref3_Legal.mono _ _
   | exact LeO.none _
   | refine LeO.ite ?_ ?_
   | refine LeO.bind ?_ (fun _=>?_)
  ·intro y0 y1 y2 y3 y4
   unfold stowageref13_fit.j0
   repeat' first
   | (with_reducible exact ih0 _ _ _ _)
   | (with_reducible exact ih1 _ _ _ _ _)
   | (with_reducible exact ih2 _ _ _ _ _)
   | (with_reducible exact stowageref13_Name.mono _ _)
   | (with_reducible exact stowageref3_Legal.mono _ _)
   | (with_reducible exact LeO.refl _)
   | (with_reducible exact LeO.none _)
   | (with_reducible refine LeO.ite ?_ ?_)
   | (with_reducible refine LeO.bind ?_ (fun _=>?_))
   | exact ih0 _ _ _ _
   | exact ih1 _ _ _ _ _
   | exact ih2 _ _ _ _ _
   | exact stowageref13_Name.mono _ _
   | exact stowageref3_Legal.mono _ _
   | exact LeO.none _
   | refine LeO.ite ?_ ?_
   | refine LeO.bind ?_ (fun _=>?_)
  ·intro y0 y1 y2 y3 y4
   unfold stowageref13_fit.l0
   repeat' first
   | (with_reducible exact ih0 _ _ _ _)
   | (with_reducible exact ih1 _ _ _ _ _)
   | (with_reducible exact ih2 _ _ _ _ _)
   | (with_reducible exact stowageref13_Name.mono _ _)
   | (with_reducible exact stowageref3_Legal.mono _ _)
   | (with_reducible exact LeO.refl _)
   | (with_reducible exact LeO.none _)
   | (with_reducible refine LeO.ite ?_ ?_)
   | (with_reducible refine LeO.bind ?_ (fun _=>?_))
   | exact ih0 _ _ _ _
   | exact ih1 _ _ _ _ _
   | exact ih2 _ _ _ _ _
   | exact stowageref13_Name.mono _ _
   | exact stowageref3_Legal.mono _ _
   | exact LeO.none _
   | refine LeO.ite ?_ ?_
   | refine LeO.bind ?_ (fun _=>?_)
theorem stowageref13_fit.mono:∀ a0 a1 a2 a3 k,LeO (stowageref13_fit.f k a0 a1 a2 a3) (stowageref13_fit.f (k+1) a0 a1 a2 a3):=by
 intro a0 a1 a2 a3 k
 obtain⟨ih0,ih1,ih2⟩:=stowageref13_fit.mono_l k
 exact ih0 a0 a1 a2 a3
theorem stowageref13_fit.calls (k:Nat):∀ (a0_0:ByteArray) (a0_1:ByteArray) (A0_2:Option Addr) (c0_2:Nat) (l0_2:List (S48)) (a1:Int) (r:Bool) (w:World) (hr0_2:Kd.C k48 w A0_2 l0_2.length l0_2) (hc0_2:l0_2.length≤c0_2) (h:stowageref13_fit.f k a0_0 a0_1 l0_2 a1=some r),
  Calls Tryd.prog 61 #[.agg #[.string a0_0,.string a0_1,.slice A0_2 l0_2.length c0_2],.int .i64 a1] w fun e w'=>e = .returned (.bool r)∧Below w.heap.size w w':=by
 induction k using Nat.strongRecOn with
 | _ k ih=>
 intro a0_0 a0_1 A0_2 c0_2 l0_2 a1 r w hr0_2 hc0_2 h
 cases k with
 | zero=>exact absurd h (by simp [stowageref13_fit.f])
 | succ k=>
 simp only [stowageref13_fit.f] at h
 have hu48:=Tryd.underlying48
 have HR0_2:=Aside0.mk hr0_2
 have HC0_2:=Aside0.mk hc0_2
 clear hr0_2 hc0_2
 have HB:=Aside0.mk (Below.refl w.heap.size w)
 have H:(if a1>16 then(stowageref13_fit.j0 k a1 true a0_0 a0_1 l0_2) else((stowageref13_Name.f k a0_0).bind fun t281=>(if t281=true then((stowageref3_Legal.f k a0_1).bind fun t282=>(if t282=true then(if a0_1.toList=([]:List UInt8) then(stowageref13_fit.j0 k a1 false a0_0 a0_1 l0_2) else(stowageref13_fit.j0 k a1 (decide ((l0_2.length:Int)>0)) a0_0 a0_1 l0_2)) else(stowageref13_fit.j0 k a1 true a0_0 a0_1 l0_2))) else(stowageref13_fit.j0 k a1 true a0_0 a0_1 l0_2))))=some r:=h
 clear h
 have HC3:=Aside0.mk H
 clear H
 go_enter Tryd.func61,Tryd.ntmps61
 go_upto_region 1 with(first|((with_reducible refine gate_dst (N:=2) rfl ?_);(try (refine gate_guard (by rfl) ?_;dsimp only));refine box_event ?hg (N:=2) ?hd (cs:=#[.string a0_0,.string a0_1,.slice A0_2 l0_2.length c0_2]) (t:=48) ?hr ?_;(case hd=>rfl);(case hg=>rfl);(case hr=>first|(go_simp;done)|(go_simp;rfl));intro gb280 hg w4 hbox hb;have n0_:=Aside0.mk (below_step (by repeat (first|(with_reducible first|exact HB.out|apply below_alloc|apply pw_below_drewN|apply below_drew1)|exact HB.out)) hb);have n1_:=Aside0.mk (hbox);have n2_:=Aside0.mk ((by rw [hg];exact(below_size (by repeat (first|(with_reducible first|exact HB.out|apply below_alloc|apply pw_below_drewN|apply below_drew1)|exact HB.out))):w.heap.size≤gb280));have n3_:=Aside0.mk ((by rw [hg];exact(below_size (by repeat (first|(with_reducible first|exact HB.out|apply below_alloc|apply pw_below_drewN|apply below_drew1)|exact HB.out))):w.heap.size≤gb280));clear HB;have HB:=n0_;have BK280:=n1_;have GW280:=n2_;have GE280:=n3_;clear n0_ n1_ n2_ n3_;clear hb hbox hg))
 (try simp only [Act.put,List.setIfInBounds_toArray,List.set_cons_zero,List.set_cons_succ])
 go_cut [30] (fun v30 wc=>∃ (kq:Nat) (x30_2:Bool),v30 = .bool x30_2∧Aside0 (stowageref13_fit.j0 kq a1 x30_2 a0_0 a0_1 l0_2=some r)∧Aside0 (kq≤k)∧Aside0 (wc.heap[gb280]? = some (.cells #[.string a0_0,.string a0_1,(.slice A0_2 l0_2.length c0_2)] 48 (0,0)))∧Aside0 (Below w.heap.size w wc))
 case first=>
  have H:=HC3.out
  clear HC3
  replace H:=itO H
  rcases H with⟨c5,H⟩|⟨c5,H⟩
  ·skip
   have c5b0:decide (16<a1)=true:=decide_eq_true c5
   clear c5
   (first|rw [c5b0]|(simp only [i64_w,i32_w];rw [c5b0])|skip)
   have H':=Aside0.mk H
   clear H
   go_wp2
   go_meet
   case rel=>exact⟨_,(true),(by first|rfl|(simp;done)|(simp [*];done)),H',⟨by first|omega|exact Nat.le_refl _⟩,⟨by(with_reducible repeat (first|refine blk_drewN ?_ _|refine blk_drew ?_|refine blk_alloc ?_ _));exact BK280.out⟩,⟨by repeat (first|(with_reducible first|exact HB.out|apply below_alloc|apply pw_below_drewN|apply below_drew1|refine below_set ?_ GE280.out)|exact HB.out)⟩⟩
  ·skip
   have c5b0:decide (16<a1)=false:=decide_eq_false c5
   clear c5
   (first|rw [c5b0]|(simp only [i64_w,i32_w];rw [c5b0])|skip)
   replace H:=bndO H
   obtain⟨t281,A60,H⟩:=H
   have A6:=Aside0.mk A60
   clear A60
   by_cases c7:t281=true
   ·subst c7
    replace H:=itT H
    replace H:=bndO H
    obtain⟨t282,A80,H⟩:=H
    have A8:=Aside0.mk A80
    clear A80
    by_cases c9:t282=true
    ·subst c9
     replace H:=itT H
     replace H:=itO H
     rcases H with⟨c10,H⟩|⟨c10,H⟩
     ·skip
      have c10b0:(a0_1.toList == ([]:List UInt8))=true:=beq_iff_eq.mpr c10
      have c10b1:(a0_1.toList != ([]:List UInt8))=false:=bne_eq_false_iff_eq.mpr c10
      clear c10
      have H':=Aside0.mk H
      clear H
      have hcz11_0:w4.cell? ⟨gb280,0,none⟩=some (.string a0_0):=(blk_cell BK280.out 0).trans rfl
      have hcz11_1:w4.cell? ⟨gb280,1,none⟩=some (.string a0_1):=(blk_cell BK280.out 1).trans rfl
      have hcz11_2:w4.cell? ⟨gb280,2,none⟩=some (.slice A0_2 l0_2.length c0_2):=(blk_cell BK280.out 2).trans rfl
      have hfz11_0:=blk_frozen BK280.out 0
      have hfz11_1:=blk_frozen BK280.out 1
      have hfz11_2:=blk_frozen BK280.out 2
      go_wp2_with (first|(go_at_call 88;(with_reducible refine(stowageref13_Name.calls k a0_0 true _ A6.out).mono ?_);rintro e w' ⟨rfl,⟨nd,rfl⟩⟩)|(go_at_call 89;(with_reducible refine(stowageref3_Legal.calls k a0_1 true _ A8.out).mono ?_);rintro e w' ⟨rfl,⟨nd,rfl⟩⟩))
      go_meet
      case rel=>exact⟨_,(false),(by first|rfl|(simp;done)|(simp [*];done)),H',⟨by first|omega|exact Nat.le_refl _⟩,⟨by(with_reducible repeat (first|refine blk_drewN ?_ _|refine blk_drew ?_|refine blk_alloc ?_ _));exact BK280.out⟩,⟨by repeat (first|(with_reducible first|exact HB.out|apply below_alloc|apply pw_below_drewN|apply below_drew1|refine below_set ?_ GE280.out)|exact HB.out)⟩⟩
     ·skip
      have c10b0:(a0_1.toList == ([]:List UInt8))=false:=beq_eq_false_iff_ne.mpr c10
      have c10b1:(a0_1.toList != ([]:List UInt8))=true:=bne_iff_ne.mpr c10
      have H':=Aside0.mk H
      clear H
      have hcz12_0:w4.cell? ⟨gb280,0,none⟩=some (.string a0_0):=(blk_cell BK280.out 0).trans rfl
      have hcz12_1:w4.cell? ⟨gb280,1,none⟩=some (.string a0_1):=(blk_cell BK280.out 1).trans rfl
      have hcz12_2:w4.cell? ⟨gb280,2,none⟩=some (.slice A0_2 l0_2.length c0_2):=(blk_cell BK280.out 2).trans rfl
      have hfz12_0:=blk_frozen BK280.out 0
      have hfz12_1:=blk_frozen BK280.out 1
      have hfz12_2:=blk_frozen BK280.out 2
      go_wp2_with (first|(go_at_call 88;(with_reducible refine(stowageref13_Name.calls k a0_0 true _ A6.out).mono ?_);rintro e w' ⟨rfl,⟨nd,rfl⟩⟩)|(go_at_call 89;(with_reducible refine(stowageref3_Legal.calls k a0_1 true _ A8.out).mono ?_);rintro e w' ⟨rfl,⟨nd,rfl⟩⟩))
      go_meet
      case rel=>exact⟨_,(decide ((l0_2.length:Int)>0)),(by first|rfl|(simp;done)|(simp [*];done)),H',⟨by first|omega|exact Nat.le_refl _⟩,⟨by(with_reducible repeat (first|refine blk_drewN ?_ _|refine blk_drew ?_|refine blk_alloc ?_ _));exact BK280.out⟩,⟨by repeat (first|(with_reducible first|exact HB.out|apply below_alloc|apply pw_below_drewN|apply below_drew1|refine below_set ?_ GE280.out)|exact HB.out)⟩⟩
    ·replace c9:=Bool.eq_false_iff.mpr c9
     subst c9
     replace H:=itF H
     have H':=Aside0.mk H
     clear H
     have hcz13_0:w4.cell? ⟨gb280,0,none⟩=some (.string a0_0):=(blk_cell BK280.out 0).trans rfl
     have hcz13_1:w4.cell? ⟨gb280,1,none⟩=some (.string a0_1):=(blk_cell BK280.out 1).trans rfl
     have hcz13_2:w4.cell? ⟨gb280,2,none⟩=some (.slice A0_2 l0_2.length c0_2):=(blk_cell BK280.out 2).trans rfl
     have hfz13_0:=blk_frozen BK280.out 0
     have hfz13_1:=blk_frozen BK280.out 1
     have hfz13_2:=blk_frozen BK280.out 2
     go_wp2_with (first|(go_at_call 88;(with_reducible refine(stowageref13_Name.calls k a0_0 true _ A6.out).mono ?_);rintro e w' ⟨rfl,⟨nd,rfl⟩⟩)|(go_at_call 89;(with_reducible refine(stowageref3_Legal.calls k a0_1 false _ A8.out).mono ?_);rintro e w' ⟨rfl,⟨nd,rfl⟩⟩))
     go_meet
     case rel=>exact⟨_,(true),(by first|rfl|(simp;done)|(simp [*];done)),H',⟨by first|omega|exact Nat.le_refl _⟩,⟨by(with_reducible repeat (first|refine blk_drewN ?_ _|refine blk_drew ?_|refine blk_alloc ?_ _));exact BK280.out⟩,⟨by repeat (first|(with_reducible first|exact HB.out|apply below_alloc|apply pw_below_drewN|apply below_drew1|refine below_set ?_ GE280.out)|exact HB.out)⟩⟩
   ·replace c7:=Bool.eq_false_iff.mpr c7
    subst c7
    replace H:=itF H
    have H':=Aside0.mk H
    clear H
    have hcz14_0:w4.cell? ⟨gb280,0,none⟩=some (.string a0_0):=(blk_cell BK280.out 0).trans rfl
    have hcz14_1:w4.cell? ⟨gb280,1,none⟩=some (.string a0_1):=(blk_cell BK280.out 1).trans rfl
    have hcz14_2:w4.cell? ⟨gb280,2,none⟩=some (.slice A0_2 l0_2.length c0_2):=(blk_cell BK280.out 2).trans rfl
    have hfz14_0:=blk_frozen BK280.out 0
    have hfz14_1:=blk_frozen BK280.out 1
    have hfz14_2:=blk_frozen BK280.out 2
    go_wp2_with (first|(go_at_call 88;(with_reducible refine(stowageref13_Name.calls k a0_0 false _ A6.out).mono ?_);rintro e w' ⟨rfl,⟨nd,rfl⟩⟩))
    go_meet
    case rel=>exact⟨_,(true),(by first|rfl|(simp;done)|(simp [*];done)),H',⟨by first|omega|exact Nat.le_refl _⟩,⟨by(with_reducible repeat (first|refine blk_drewN ?_ _|refine blk_drew ?_|refine blk_alloc ?_ _));exact BK280.out⟩,⟨by repeat (first|(with_reducible first|exact HB.out|apply below_alloc|apply pw_below_drewN|apply below_drew1|refine below_set ?_ GE280.out)|exact HB.out)⟩⟩
 case rest=>
  clear HC3
  try clear c1
  try clear p2
  try clear c5
  try clear c5b0
  try clear c6
  try clear c7
  try clear c9
  try clear c10
  try clear c10b0
  try clear c10b1
  try clear hcz11_0
  try clear hcz11_1
  try clear hcz11_2
  try clear hcz12_0
  try clear hcz12_1
  try clear hcz12_2
  try clear hcz13_0
  try clear hcz13_1
  try clear hcz13_2
  try clear hcz14_0
  try clear hcz14_1
  try clear hcz14_2
  try clear hfz11_0
  try clear hfz11_1
  try clear hfz11_2
  try clear hfz12_0
  try clear hfz12_1
  try clear hfz12_2
  try clear hfz13_0
  try clear hfz13_1
  try clear hfz13_2
  try clear hfz14_0
  try clear hfz14_1
  try clear hfz14_2
  obtain⟨kq,x30_2,rfl,HA,HJ2,BK280,HB⟩:=hcut
  cases kq with
  | zero=>exact absurd HA.out (by simp [stowageref13_fit.j0])
  | succ kj2=>
   have H:=HA.out
   clear HA
   simp only [stowageref13_fit.j0] at H
   by_cases c15:x30_2=true
   ·subst c15
    replace H:=itT H
    obtain rfl:=Option.some.inj H
    go_wp2
    go_ret
    exact⟨by first|rfl|(simp [errW_none,errW_some] <;> rfl)|(simp [*,errW_none,errW_some] <;> rfl),by repeat (first|(with_reducible first|exact HB.out|apply below_alloc|apply pw_below_drewN|apply below_drew1|refine below_set ?_ GE280.out)|exact HB.out)⟩
   ·replace c15:=Bool.eq_false_iff.mpr c15
    subst c15
    replace H:=itF H
    have H':=Aside0.mk H
    clear H
    go_wp2
    go_loopg [5] kj2 (fun kq v5 w'=>∃ (x5_2:Int),v5 = .int .i64 x5_2∧Aside0 (stowageref13_fit.l0 kq a1 x5_2 a0_0 a0_1 l0_2=some r)∧Aside0 (kq≤kj2)∧Aside0 (w'.heap[gb280]? = some (.cells #[.string a0_0,.string a0_1,(.slice A0_2 l0_2.length c0_2)] 48 (0,0)))∧Aside0 (Below w.heap.size w w'))
    case atStart=>exact⟨(0),(by first|rfl|(simp;done)|(simp [*];done)),H',⟨Nat.le_refl _⟩,⟨by(with_reducible repeat (first|refine blk_drewN ?_ _|refine blk_drew ?_|refine blk_alloc ?_ _));exact BK280.out⟩,⟨by repeat (first|(with_reducible first|exact HB.out|apply below_alloc|apply pw_below_drewN|apply below_drew1|refine below_set ?_ GE280.out)|exact HB.out)⟩⟩
    case round=>
     clear H'
     try clear c1
     try clear p2
     try clear c5
     try clear c5b0
     try clear c6
     try clear c7
     try clear c9
     try clear c10
     try clear c10b0
     try clear c10b1
     try clear c15
     try clear hcz11_0
     try clear hcz11_1
     try clear hcz11_2
     try clear hcz12_0
     try clear hcz12_1
     try clear hcz12_2
     try clear hcz13_0
     try clear hcz13_1
     try clear hcz13_2
     try clear hcz14_0
     try clear hcz14_1
     try clear hcz14_2
     try clear hfz11_0
     try clear hfz11_1
     try clear hfz11_2
     try clear hfz12_0
     try clear hfz12_1
     try clear hfz12_2
     try clear hfz13_0
     try clear hfz13_1
     try clear hfz13_2
     try clear hfz14_0
     try clear hfz14_1
     try clear hfz14_2
     try clear p2
     obtain⟨x5_2,rfl,HA,HK2,BK280,HB⟩:=hrel
     cases gk with
     | zero=>exact absurd HA.out (by simp [stowageref13_fit.l0])
     | succ k2=>
      have H:=HA.out
      clear HA
      simp only [stowageref13_fit.l0] at H
      replace H:=itO H
      rcases H with⟨c16,H⟩|⟨c16,H⟩
      ·skip
       have c16b0:decide (x5_2<(l0_2.length:Int))=true:=decide_eq_true c16
       clear c16
       replace H:=itO H
       rcases H with⟨c17,H⟩|⟨c17,H⟩
       ·skip
        have c17b0:decide (0≤x5_2)=true:=decide_eq_true c17
        clear c17
        replace H:=bndO H
        obtain⟨t284,A180,H⟩:=H
        have A18:=Aside0.mk A180
        clear A180
        by_cases c19:t284=true
        ·subst c19
         replace H:=itT H
         have H':=Aside0.mk H
         clear H
         have hcz20_0:wr.cell? ⟨gb280,0,none⟩=some (.string a0_0):=(blk_cell BK280.out 0).trans rfl
         have hcz20_1:wr.cell? ⟨gb280,1,none⟩=some (.string a0_1):=(blk_cell BK280.out 1).trans rfl
         have hcz20_2:wr.cell? ⟨gb280,2,none⟩=some (.slice A0_2 l0_2.length c0_2):=(blk_cell BK280.out 2).trans rfl
         have hfz20_0:=blk_frozen BK280.out 0
         have hfz20_1:=blk_frozen BK280.out 1
         have hfz20_2:=blk_frozen BK280.out 2
         have p283:0≤(x5_2:Int):=of_decide_eq_true (by first|(with_reducible assumption)|assumption)
         have q283:x5_2<(l0_2.length:Int):=of_decide_eq_true (by first|(with_reducible assumption)|assumption)
         obtain⟨ad283,A283_2,c283_2,e283,hx283_0,hx283_1,hx283_2,hl283_2,hi283_2⟩:=at_T48 HR0_2.out x5_2 p283 q283
         cases e283
         replace hx283_0:=(HB.out.cell (World.block_lt_of_cell? w _ hx283_0)).trans hx283_0
         replace hx283_1:=(HB.out.cell (World.block_lt_of_cell? w _ hx283_1)).trans hx283_1
         replace hx283_2:=(HB.out.cell (World.block_lt_of_cell? w _ hx283_2)).trans hx283_2
         have HR283_2:=Aside0.mk hi283_2
         have HC283_2:=Aside0.mk hl283_2
         clear hi283_2 hl283_2
         replace p283:=eq_true p283
         replace q283:=eq_true q283
         go_wp2_with (first|((with_reducible refine gate_callee (f:=61) rfl ?_);refine goesL_ (some 45) rfl rfl Tryd.func61 (by kernel_rfl) rfl #[.agg #[.string ((rd_T48 l0_2 x5_2).f0),.string ((rd_T48 l0_2 x5_2).f1),.slice A283_2 ((rd_T48 l0_2 x5_2).f2).length c283_2],.int .i64 (wrap64 (a1+1))] rfl (by(try simp only [List.map_toArray,List.map_cons,List.map_nil]);first|done|rfl|(simp only [List.length_drop,List.length_take];rfl)) ?_;(with_reducible refine(ih k2 (by have:=HJ2.out;have:=HK2.out;omega) ((rd_T48 l0_2 x5_2).f0) ((rd_T48 l0_2 x5_2).f1) _ _ ((rd_T48 l0_2 x5_2).f2) (wrap64 (a1+1)) true _ ?side1 ?side2 A18.out).mono ?_);(case side1=>repeat (first|exact(Kd.C_below HR283_2.out HB.out)|(with_reducible refine Kd.C_alloc ?_ _)|(with_reducible refine Kd.C_drewN ?_ _)|(with_reducible refine Kd.C_drew ?_)));(case side2=>exact HC283_2.out);rintro e w21 ⟨rfl,hb⟩;refine⟨_,rfl,?_⟩;have n0_:=Aside0.mk (blk_below (g:=gb280) (o:=.cells #[.string a0_0,.string a0_1,.slice (some ad283) l0_2.length c0_2] 48 (0,0)) (by(with_reducible repeat (first|refine blk_drewN ?_ _|refine blk_drew ?_|refine blk_alloc ?_ _));exact BK280.out) hb);have n1_:=Aside0.mk (below_step (by repeat (first|(with_reducible first|exact HB.out|apply below_alloc|apply pw_below_drewN|apply below_drew1|refine below_set ?_ GE280.out)|exact HB.out)) hb);clear BK280;clear HB;have BK280:=n0_;have HB:=n1_;clear n0_ n1_;(try clear hb);(try clear hb2);(try clear hk);(try clear hi)))
         go_roundg k2
         case measure=>have:=HJ2.out;have:=HK2.out;omega
         case rel=>exact⟨(wrap64 (x5_2+1)),(by first|rfl|(simp;done)|(simp [*];done)),H',⟨by have:=HJ2.out;have:=HK2.out;omega⟩,⟨by(with_reducible repeat (first|refine blk_drewN ?_ _|refine blk_drew ?_|refine blk_alloc ?_ _));exact BK280.out⟩,⟨by repeat (first|(with_reducible first|exact HB.out|apply below_alloc|apply pw_below_drewN|apply below_drew1|refine below_set ?_ GE280.out)|exact HB.out)⟩⟩
        ·replace c19:=Bool.eq_false_iff.mpr c19
         subst c19
         replace H:=itF H
         obtain rfl:=Option.some.inj H
         have hcz22_0:wr.cell? ⟨gb280,0,none⟩=some (.string a0_0):=(blk_cell BK280.out 0).trans rfl
         have hcz22_1:wr.cell? ⟨gb280,1,none⟩=some (.string a0_1):=(blk_cell BK280.out 1).trans rfl
         have hcz22_2:wr.cell? ⟨gb280,2,none⟩=some (.slice A0_2 l0_2.length c0_2):=(blk_cell BK280.out 2).trans rfl
         have hfz22_0:=blk_frozen BK280.out 0
         have hfz22_1:=blk_frozen BK280.out 1
         have hfz22_2:=blk_frozen BK280.out 2
         have p283:0≤(x5_2:Int):=of_decide_eq_true (by first|(with_reducible assumption)|assumption)
         have q283:x5_2<(l0_2.length:Int):=of_decide_eq_true (by first|(with_reducible assumption)|assumption)
         obtain⟨ad283,A283_2,c283_2,e283,hx283_0,hx283_1,hx283_2,hl283_2,hi283_2⟩:=at_T48 HR0_2.out x5_2 p283 q283
         cases e283
         replace hx283_0:=(HB.out.cell (World.block_lt_of_cell? w _ hx283_0)).trans hx283_0
         replace hx283_1:=(HB.out.cell (World.block_lt_of_cell? w _ hx283_1)).trans hx283_1
         replace hx283_2:=(HB.out.cell (World.block_lt_of_cell? w _ hx283_2)).trans hx283_2
         have HR283_2:=Aside0.mk hi283_2
         have HC283_2:=Aside0.mk hl283_2
         clear hi283_2 hl283_2
         replace p283:=eq_true p283
         replace q283:=eq_true q283
         go_wp2_with (first|((with_reducible refine gate_callee (f:=61) rfl ?_);refine goesL_ (some 45) rfl rfl Tryd.func61 (by kernel_rfl) rfl #[.agg #[.string ((rd_T48 l0_2 x5_2).f0),.string ((rd_T48 l0_2 x5_2).f1),.slice A283_2 ((rd_T48 l0_2 x5_2).f2).length c283_2],.int .i64 (wrap64 (a1+1))] rfl (by(try simp only [List.map_toArray,List.map_cons,List.map_nil]);first|done|rfl|(simp only [List.length_drop,List.length_take];rfl)) ?_;(with_reducible refine(ih k2 (by have:=HJ2.out;have:=HK2.out;omega) ((rd_T48 l0_2 x5_2).f0) ((rd_T48 l0_2 x5_2).f1) _ _ ((rd_T48 l0_2 x5_2).f2) (wrap64 (a1+1)) false _ ?side1 ?side2 A18.out).mono ?_);(case side1=>repeat (first|exact(Kd.C_below HR283_2.out HB.out)|(with_reducible refine Kd.C_alloc ?_ _)|(with_reducible refine Kd.C_drewN ?_ _)|(with_reducible refine Kd.C_drew ?_)));(case side2=>exact HC283_2.out);rintro e w23 ⟨rfl,hb⟩;refine⟨_,rfl,?_⟩;have n0_:=Aside0.mk (blk_below (g:=gb280) (o:=.cells #[.string a0_0,.string a0_1,.slice (some ad283) l0_2.length c0_2] 48 (0,0)) (by(with_reducible repeat (first|refine blk_drewN ?_ _|refine blk_drew ?_|refine blk_alloc ?_ _));exact BK280.out) hb);have n1_:=Aside0.mk (below_step (by repeat (first|(with_reducible first|exact HB.out|apply below_alloc|apply pw_below_drewN|apply below_drew1|refine below_set ?_ GE280.out)|exact HB.out)) hb);clear BK280;clear HB;have BK280:=n0_;have HB:=n1_;clear n0_ n1_;(try clear hb);(try clear hb2);(try clear hk);(try clear hi)))
         go_ret
         exact⟨by first|rfl|(simp [errW_none,errW_some] <;> rfl)|(simp [*,errW_none,errW_some] <;> rfl),by repeat (first|(with_reducible first|exact HB.out|apply below_alloc|apply pw_below_drewN|apply below_drew1|refine below_set ?_ GE280.out)|exact HB.out)⟩
       ·exact absurd H (by simp)
      ·skip
       have c16b0:decide (x5_2<(l0_2.length:Int))=false:=decide_eq_false c16
       clear c16
       obtain rfl:=Option.some.inj H
       have hcz24_0:wr.cell? ⟨gb280,0,none⟩=some (.string a0_0):=(blk_cell BK280.out 0).trans rfl
       have hcz24_1:wr.cell? ⟨gb280,1,none⟩=some (.string a0_1):=(blk_cell BK280.out 1).trans rfl
       have hcz24_2:wr.cell? ⟨gb280,2,none⟩=some (.slice A0_2 l0_2.length c0_2):=(blk_cell BK280.out 2).trans rfl
       have hfz24_0:=blk_frozen BK280.out 0
       have hfz24_1:=blk_frozen BK280.out 1
       have hfz24_2:=blk_frozen BK280.out 2
       go_wp2
       go_ret
       exact⟨by first|rfl|(simp [errW_none,errW_some] <;> rfl)|(simp [*,errW_none,errW_some] <;> rfl),by repeat (first|(with_reducible first|exact HB.out|apply below_alloc|apply pw_below_drewN|apply below_drew1|refine below_set ?_ GE280.out)|exact HB.out)⟩
def stowageref13_Escape.l0:Nat→ByteArray→ByteArray→Int→Option (ByteArray)
 | 0,_,_,_=>none
 | k+1,x0,x3,x4=>if x4<(x0.size:Int) then(if 0≤x4 then(if(bt x0 x4)=38 then(if x3.size+5≤9223372036854775807 then(stowageref13_Escape.l0 k x0 (x3++(⟨#[38,97,109,112,59]⟩ : ByteArray)) (wrap64 (x4+1))) else(none)) else(if(bt x0 x4)=60 then(if x3.size+4≤9223372036854775807 then(stowageref13_Escape.l0 k x0 (x3++(⟨#[38,108,116,59]⟩ : ByteArray)) (wrap64 (x4+1))) else(none)) else(if(bt x0 x4)=62 then(if x3.size+4≤9223372036854775807 then(stowageref13_Escape.l0 k x0 (x3++(⟨#[38,103,116,59]⟩ : ByteArray)) (wrap64 (x4+1))) else(none)) else(if(bt x0 x4)=34 then(if x3.size+6≤9223372036854775807 then(stowageref13_Escape.l0 k x0 (x3++(⟨#[38,113,117,111,116,59]⟩ : ByteArray)) (wrap64 (x4+1))) else(none)) else(if(bt x0 x4)=13 then(if x3.size+5≤9223372036854775807 then(stowageref13_Escape.l0 k x0 (x3++(⟨#[38,35,49,51,59]⟩ : ByteArray)) (wrap64 (x4+1))) else(none)) else(if x4≤(wrap64 (x4+1)) then(if(wrap64 (x4+1))≤(x0.size:Int) then(if x3.size+(x0.extract (x4:Int).toNat ((wrap64 (x4+1)):Int).toNat).size≤9223372036854775807 then(stowageref13_Escape.l0 k x0 (x3++(x0.extract (x4:Int).toNat ((wrap64 (x4+1)):Int).toNat)) (wrap64 (x4+1))) else(none)) else(none)) else(none))))))) else(none)) else(some x3)
def stowageref13_Escape.f (k:Nat) (a0:ByteArray):Option (ByteArray):=stowageref13_Escape.l0 k a0 (⟨#[]⟩ : ByteArray) 0
theorem stowageref13_Escape.mono_l:∀ k,(∀ y0 y1 y2,LeO (stowageref13_Escape.l0 k y0 y1 y2) (stowageref13_Escape.l0 (k+1) y0 y1 y2))
 | 0=>fun _ _ _ r h=>by simp [stowageref13_Escape.l0] at h
 | k+1=>by
  have ih0:=stowageref13_Escape.mono_l k
  ·intro y0 y1 y2
   unfold stowageref13_Escape.l0
   repeat' first
   | (with_reducible exact ih0 _ _ _)
   | (with_reducible exact LeO.refl _)
   | (with_reducible exact LeO.none _)
   | (with_reducible refine LeO.ite ?_ ?_)
   | (with_reducible refine LeO.bind ?_ (fun _=>?_))
   | exact ih0 _ _ _
   | exact LeO.none _
   | refine LeO.ite ?_ ?_
   | refine LeO.bind ?_ (fun _=>?_)
theorem stowageref13_Escape.mono:∀ a0 k,LeO (stowageref13_Escape.f k a0) (stowageref13_Escape.f (k+1) a0):=by
 intro a0 k
 have ih0:=stowageref13_Escape.mono_l k
 unfold stowageref13_Escape.f
 repeat' first
   | (with_reducible exact ih0 _ _ _)
   | (with_reducible exact LeO.refl _)
   | (with_reducible exact LeO.none _)
   | (with_reducible refine LeO.ite ?_ ?_)
   | (with_reducible refine LeO.bind ?_ (fun _=>?_))
   | exact ih0 _ _ _
   | exact LeO.none _
   | refine LeO.ite ?_ ?_
   | refine LeO.bind ?_ (fun _=>?_)
theorem stowageref13_Escape.calls (k:Nat) (a0:ByteArray) (r:ByteArray) (w:World) (h:stowageref13_Escape.f k a0=some r) :
  Calls Tryd.prog 90 #[.string a0] w fun e w'=>e = .returned (.string r)∧Drawn0 w w':=by
 unfold stowageref13_Escape.f at h
 have H:=h
 clear h
 have H':=Aside0.mk H
 clear H
 go_enter Tryd.func90,Tryd.ntmps90
 go_wp2
 go_loopg [3,4] k (fun kq v3 v4 w'=>∃ (x3_1:ByteArray) (x4_1:Int),v3 = .string x3_1∧v4 = .int .i64 x4_1∧Aside0 (stowageref13_Escape.l0 kq a0 x3_1 x4_1=some r)∧Aside0 (kq≤k)∧Drawn0 w w')
 case atStart=>exact⟨((⟨#[]⟩ : ByteArray)),(0),(by first|rfl|(simp;done)|(simp [*];done)),(by first|rfl|(simp;done)|(simp [*];done)),H',⟨Nat.le_refl _⟩,by repeat (first|exact Drawn0.refl _|apply Drawn0.step)⟩
 case round=>
  clear H'
  obtain⟨x3_1,x4_1,rfl,rfl,HA,HK1,⟨m1,rfl⟩⟩:=hrel
  cases gk with
  | zero=>exact absurd HA.out (by simp [stowageref13_Escape.l0])
  | succ k1=>
   have H:=HA.out
   clear HA
   simp only [stowageref13_Escape.l0] at H
   replace H:=itO H
   rcases H with⟨c2,H⟩|⟨c2,H⟩
   ·skip
    have c2b0:decide (x4_1<(a0.size:Int))=true:=decide_eq_true c2
    clear c2
    replace H:=itO H
    rcases H with⟨c3,H⟩|⟨c3,H⟩
    ·skip
     have c3b0:decide (0≤x4_1)=true:=decide_eq_true c3
     clear c3
     replace H:=itO H
     rcases H with⟨c5,H⟩|⟨c5,H⟩
     ·skip
      have c5b0:((bt a0 x4_1) == 38)=true:=beq_iff_eq.mpr c5
      have c5b1:((bt a0 x4_1) != 38)=false:=bne_eq_false_iff_eq.mpr c5
      clear c5
      replace H:=itO H
      rcases H with⟨c6,H⟩|⟨c6,H⟩
      ·skip
       have c6b0:=eq_true c6
       have c6b1:=decide_eq_true c6
       try have c6b2:=eq_false (Nat.not_lt.2 c6)
       try (have c6n:x3_1.size+5≤9223372036854775807:=by have h_:=c6;simp only [ByteArray.size_append,ByteArray.size_extract] at h_;exact h_)
       try have c6f:(9223372036854775807<x3_1.size+5)=False:=eq_false (by first|omega|(simp only [eq_iff_iff,iff_true] at *;omega))
       have H':=Aside0.mk H
       clear H
       have p4:0≤(x4_1:Int):=of_decide_eq_true (by first|(with_reducible assumption)|assumption)
       have q4:x4_1<(a0.size:Int):=of_decide_eq_true (by first|(with_reducible assumption)|assumption)
       have hx4:=bt_at a0 x4_1
       replace p4:=eq_true p4
       replace q4:=eq_true q4
       go_wp2
       go_roundg k1
       case measure=>have:=HK1.out;omega
       case rel=>exact⟨(x3_1++(⟨#[38,97,109,112,59]⟩ : ByteArray)),(wrap64 (x4_1+1)),(by first|rfl|(simp;done)|(simp [*];done)),(by first|rfl|(simp;done)|(simp [*];done)),H',⟨by have:=HK1.out;omega⟩,by repeat (first|exact Drawn0.refl _|apply Drawn0.step)⟩
      ·exact absurd H (by simp)
     ·skip
      have c5b0:((bt a0 x4_1) == 38)=false:=beq_eq_false_iff_ne.mpr c5
      have c5b1:((bt a0 x4_1) != 38)=true:=bne_iff_ne.mpr c5
      replace H:=itO H
      rcases H with⟨c7,H⟩|⟨c7,H⟩
      ·skip
       have c7b0:((bt a0 x4_1) == 60)=true:=beq_iff_eq.mpr c7
       have c7b1:((bt a0 x4_1) != 60)=false:=bne_eq_false_iff_eq.mpr c7
       clear c7
       replace H:=itO H
       rcases H with⟨c8,H⟩|⟨c8,H⟩
       ·skip
        have c8b0:=eq_true c8
        have c8b1:=decide_eq_true c8
        try have c8b2:=eq_false (Nat.not_lt.2 c8)
        try (have c8n:x3_1.size+4≤9223372036854775807:=by have h_:=c8;simp only [ByteArray.size_append,ByteArray.size_extract] at h_;exact h_)
        try have c8f:(9223372036854775807<x3_1.size+4)=False:=eq_false (by first|omega|(simp only [eq_iff_iff,iff_true] at *;omega))
        have H':=Aside0.mk H
        clear H
        have p4:0≤(x4_1:Int):=of_decide_eq_true (by first|(with_reducible assumption)|assumption)
        have q4:x4_1<(a0.size:Int):=of_decide_eq_true (by first|(with_reducible assumption)|assumption)
        have hx4:=bt_at a0 x4_1
        replace p4:=eq_true p4
        replace q4:=eq_true q4
        go_wp2
        go_roundg k1
        case measure=>have:=HK1.out;omega
        case rel=>exact⟨(x3_1++(⟨#[38,108,116,59]⟩ : ByteArray)),(wrap64 (x4_1+1)),(by first|rfl|(simp;done)|(simp [*];done)),(by first|rfl|(simp;done)|(simp [*];done)),H',⟨by have:=HK1.out;omega⟩,by repeat (first|exact Drawn0.refl _|apply Drawn0.step)⟩
       ·exact absurd H (by simp)
      ·skip
       have c7b0:((bt a0 x4_1) == 60)=false:=beq_eq_false_iff_ne.mpr c7
       have c7b1:((bt a0 x4_1) != 60)=true:=bne_iff_ne.mpr c7
       replace H:=itO H
       rcases H with⟨c9,H⟩|⟨c9,H⟩
       ·skip
        have c9b0:((bt a0 x4_1) == 62)=true:=beq_iff_eq.mpr c9
        have c9b1:((bt a0 x4_1) != 62)=false:=bne_eq_false_iff_eq.mpr c9
        clear c9
        replace H:=itO H
        rcases H with⟨c10,H⟩|⟨c10,H⟩
        ·skip
         have c10b0:=eq_true c10
         have c10b1:=decide_eq_true c10
         try have c10b2:=eq_false (Nat.not_lt.2 c10)
         try (have c10n:x3_1.size+4≤9223372036854775807:=by have h_:=c10;simp only [ByteArray.size_append,ByteArray.size_extract] at h_;exact h_)
         try have c10f:(9223372036854775807<x3_1.size+4)=False:=eq_false (by first|omega|(simp only [eq_iff_iff,iff_true] at *;omega))
         have H':=Aside0.mk H
         clear H
         have p4:0≤(x4_1:Int):=of_decide_eq_true (by first|(with_reducible assumption)|assumption)
         have q4:x4_1<(a0.size:Int):=of_decide_eq_true (by first|(with_reducible assumption)|assumption)
         have hx4:=bt_at a0 x4_1
         replace p4:=eq_true p4
         replace q4:=eq_true q4
         go_wp2
         go_roundg k1
         case measure=>have:=HK1.out;omega
         case rel=>exact⟨(x3_1++(⟨#[38,103,116,59]⟩ : ByteArray)),(wrap64 (x4_1+1)),(by first|rfl|(simp;done)|(simp [*];done)),(by first|rfl|(simp;done)|(simp [*];done)),H',⟨by have:=HK1.out;omega⟩,by repeat (first|exact Drawn0.refl _|apply Drawn0.step)⟩
        ·exact absurd H (by simp)
       ·skip
        have c9b0:((bt a0 x4_1) == 62)=false:=beq_eq_false_iff_ne.mpr c9
        have c9b1:((bt a0 x4_1) != 62)=true:=bne_iff_ne.mpr c9
        replace H:=itO H
        rcases H with⟨c11,H⟩|⟨c11,H⟩
        ·skip
         have c11b0:((bt a0 x4_1) == 34)=true:=beq_iff_eq.mpr c11
         have c11b1:((bt a0 x4_1) != 34)=false:=bne_eq_false_iff_eq.mpr c11
         clear c11
         replace H:=itO H
         rcases H with⟨c12,H⟩|⟨c12,H⟩
         ·skip
          have c12b0:=eq_true c12
          have c12b1:=decide_eq_true c12
          try have c12b2:=eq_false (Nat.not_lt.2 c12)
          try (have c12n:x3_1.size+6≤9223372036854775807:=by have h_:=c12;simp only [ByteArray.size_append,ByteArray.size_extract] at h_;exact h_)
          try have c12f:(9223372036854775807<x3_1.size+6)=False:=eq_false (by first|omega|(simp only [eq_iff_iff,iff_true] at *;omega))
          have H':=Aside0.mk H
          clear H
          have p4:0≤(x4_1:Int):=of_decide_eq_true (by first|(with_reducible assumption)|assumption)
          have q4:x4_1<(a0.size:Int):=of_decide_eq_true (by first|(with_reducible assumption)|assumption)
          have hx4:=bt_at a0 x4_1
          replace p4:=eq_true p4
          replace q4:=eq_true q4
          go_wp2
          go_roundg k1
          case measure=>have:=HK1.out;omega
          case rel=>exact⟨(x3_1++(⟨#[38,113,117,111,116,59]⟩ : ByteArray)),(wrap64 (x4_1+1)),(by first|rfl|(simp;done)|(simp [*];done)),(by first|rfl|(simp;done)|(simp [*];done)),H',⟨by have:=HK1.out;omega⟩,by repeat (first|exact Drawn0.refl _|apply Drawn0.step)⟩
         ·exact absurd H (by simp)
        ·skip
         have c11b0:((bt a0 x4_1) == 34)=false:=beq_eq_false_iff_ne.mpr c11
         have c11b1:((bt a0 x4_1) != 34)=true:=bne_iff_ne.mpr c11
         replace H:=itO H
         rcases H with⟨c13,H⟩|⟨c13,H⟩
         ·skip
          have c13b0:((bt a0 x4_1) == 13)=true:=beq_iff_eq.mpr c13
          have c13b1:((bt a0 x4_1) != 13)=false:=bne_eq_false_iff_eq.mpr c13
          clear c13
          replace H:=itO H
          rcases H with⟨c14,H⟩|⟨c14,H⟩
          ·skip
           have c14b0:=eq_true c14
           have c14b1:=decide_eq_true c14
           try have c14b2:=eq_false (Nat.not_lt.2 c14)
           try (have c14n:x3_1.size+5≤9223372036854775807:=by have h_:=c14;simp only [ByteArray.size_append,ByteArray.size_extract] at h_;exact h_)
           try have c14f:(9223372036854775807<x3_1.size+5)=False:=eq_false (by first|omega|(simp only [eq_iff_iff,iff_true] at *;omega))
           have H':=Aside0.mk H
           clear H
           have p4:0≤(x4_1:Int):=of_decide_eq_true (by first|(with_reducible assumption)|assumption)
           have q4:x4_1<(a0.size:Int):=of_decide_eq_true (by first|(with_reducible assumption)|assumption)
           have hx4:=bt_at a0 x4_1
           replace p4:=eq_true p4
           replace q4:=eq_true q4
           go_wp2
           go_roundg k1
           case measure=>have:=HK1.out;omega
           case rel=>exact⟨(x3_1++(⟨#[38,35,49,51,59]⟩ : ByteArray)),(wrap64 (x4_1+1)),(by first|rfl|(simp;done)|(simp [*];done)),(by first|rfl|(simp;done)|(simp [*];done)),H',⟨by have:=HK1.out;omega⟩,by repeat (first|exact Drawn0.refl _|apply Drawn0.step)⟩
          ·exact absurd H (by simp)
         ·skip
          have c13b0:((bt a0 x4_1) == 13)=false:=beq_eq_false_iff_ne.mpr c13
          have c13b1:((bt a0 x4_1) != 13)=true:=bne_iff_ne.mpr c13
          have c15b0:=eq_true (of_decide_eq_true (by first|(with_reducible assumption)|assumption):0≤x4_1)
          replace H:=itO H
          rcases H with⟨c16,H⟩|⟨c16,H⟩
          ·skip
           have c16b0:=eq_true c16
           have c16b1:=decide_eq_true c16
           replace H:=itO H
           rcases H with⟨c17,H⟩|⟨c17,H⟩
           ·skip
            have c17b0:=eq_true c17
            have c17b1:=decide_eq_true c17
            replace H:=itO H
            rcases H with⟨c18,H⟩|⟨c18,H⟩
            ·skip
             have c18b0:=eq_true c18
             have c18b1:=decide_eq_true c18
             try have c18b2:=eq_false (Nat.not_lt.2 c18)
             try (have c18n:x3_1.size+(min (((wrap64 (x4_1+1)):Int).toNat) a0.size-((x4_1:Int).toNat))≤9223372036854775807:=by have h_:=c18;simp only [ByteArray.size_append,ByteArray.size_extract] at h_;exact h_)
             try have c18f:(9223372036854775807<x3_1.size+(((wrap64 (x4_1+1)):Int).toNat-(x4_1:Int).toNat))=False:=eq_false (by first|omega|(simp only [eq_iff_iff,iff_true] at *;omega))
             have H':=Aside0.mk H
             clear H
             have p4:0≤(x4_1:Int):=of_decide_eq_true (by first|(with_reducible assumption)|assumption)
             have q4:x4_1<(a0.size:Int):=of_decide_eq_true (by first|(with_reducible assumption)|assumption)
             have hx4:=bt_at a0 x4_1
             replace p4:=eq_true p4
             replace q4:=eq_true q4
             go_wp2
             go_roundg k1
             case measure=>have:=HK1.out;omega
             case rel=>exact⟨(x3_1++(a0.extract (x4_1:Int).toNat ((wrap64 (x4_1+1)):Int).toNat)),(wrap64 (x4_1+1)),(by first|rfl|(simp;done)|(simp [*];done)),(by first|rfl|(simp;done)|(simp [*];done)),H',⟨by have:=HK1.out;omega⟩,by repeat (first|exact Drawn0.refl _|apply Drawn0.step)⟩
            ·exact absurd H (by simp)
           ·exact absurd H (by simp)
          ·exact absurd H (by simp)
    ·exact absurd H (by simp)
   ·skip
    have c2b0:decide (x4_1<(a0.size:Int))=false:=decide_eq_false c2
    clear c2
    obtain rfl:=Option.some.inj H
    go_wp2
    go_ret
    exact⟨by first|rfl|(simp;done)|(simp [*];done),by repeat (first|exact Drawn0.refl _|apply Drawn0.step)⟩
mutual
def stowageref13_text.l0:Nat→ByteArray→Int→ByteArray→ByteArray→List (S48)→Option (ByteArray)
 | 0,_,_,_,_,_=>none
 | k+1,x5,x6,x286000,x286001,x286002=>if x6<(x286002.length:Int) then(if 0≤x6 then((stowageref13_text.f k ((rd_T48 x286002 x6).f0) ((rd_T48 x286002 x6).f1) ((rd_T48 x286002 x6).f2) (⟨#[]⟩ : ByteArray)).bind fun t288=>(if x5.size+t288.size≤9223372036854775807 then(stowageref13_text.l0 k (x5++t288) (wrap64 (x6+1)) x286000 x286001 x286002) else(none))) else(none)) else(if x5.size+2≤9223372036854775807 then(if(x5++(⟨#[60,47]⟩ : ByteArray)).size+x286000.size≤9223372036854775807 then(if((x5++(⟨#[60,47]⟩ : ByteArray))++x286000).size+1≤9223372036854775807 then(some (((x5++(⟨#[60,47]⟩ : ByteArray))++x286000)++(⟨#[62]⟩ : ByteArray))) else(none)) else(none)) else(none))
def stowageref13_text.f:Nat→ByteArray→ByteArray→List (S48)→ByteArray→Option (ByteArray)
 | 0,_,_,_,_=>none
 | k+1,a0_0,a0_1,l0_2,a1=>if 1+a0_0.size≤9223372036854775807 then(if((⟨#[60]⟩ : ByteArray)++a0_0).size+a1.size≤9223372036854775807 then(if(((⟨#[60]⟩ : ByteArray)++a0_0)++a1).size+1≤9223372036854775807 then((stowageref13_Escape.f k a0_1).bind fun t286=>(if((((⟨#[60]⟩ : ByteArray)++a0_0)++a1)++(⟨#[62]⟩ : ByteArray)).size+t286.size≤9223372036854775807 then(stowageref13_text.l0 k (((((⟨#[60]⟩ : ByteArray)++a0_0)++a1)++(⟨#[62]⟩ : ByteArray))++t286) 0 a0_0 a0_1 l0_2) else(none))) else(none)) else(none)) else(none)
end
theorem stowageref13_text.mono_l:∀ k,(∀ y0 y1 y2 y3,LeO (stowageref13_text.f k y0 y1 y2 y3) (stowageref13_text.f (k+1) y0 y1 y2 y3))∧(∀ y0 y1 y2 y3 y4,LeO (stowageref13_text.l0 k y0 y1 y2 y3 y4) (stowageref13_text.l0 (k+1) y0 y1 y2 y3 y4))
 | 0=>⟨fun _ _ _ _ r h=>by simp [stowageref13_text.f] at h,fun _ _ _ _ _ r h=>by simp [stowageref13_text.l0] at h⟩
 | k+1=>by
  obtain⟨ih0,ih1⟩:=stowageref13_text.mono_l k
  refine⟨?_,?_⟩
  ·intro y0 y1 y2 y3
   unfold stowageref13_text.f
   repeat' first
   | (with_reducible exact ih0 _ _ _ _)
   | (with_reducible exact ih1 _ _ _ _ _)
   | (with_reducible exact stowageref13_Escape.mono _ _)
   | (with_reducible exact LeO.refl _)
   | (with_reducible exact LeO.none _)
   | (with_reducible refine LeO.ite ?_ ?_)
   | (with_reducible refine LeO.bind ?_ (fun _=>?_))
   | exact ih0 _ _ _ _
   | exact ih1 _ _ _ _ _
   | exact stowageref13_Escape.mono _ _
   | exact LeO.none _
   | refine LeO.ite ?_ ?_
   | refine LeO.bind ?_ (fun _=>?_)
  ·intro y0 y1 y2 y3 y4
   unfold stowageref13_text.l0
   repeat' first
   | (with_reducible exact ih0 _ _ _ _)
   | (with_reducible exact ih1 _ _ _ _ _)
   | (with_reducible exact stowageref13_Escape.mono _ _)
   | (with_reducible exact LeO.refl _)
   | (with_reducible exact LeO.none _)
   | (with_reducible refine LeO.ite ?_ ?_)
   | (with_reducible refine LeO.bind ?_ (fun _=>?_))
   | exact ih0 _ _ _ _
   | exact ih1 _ _ _ _ _
   | exact stowageref13_Escape.mono _ _
   | exact LeO.none _
   | refine LeO.ite ?_ ?_
   | refine LeO.bind ?_ (fun _=>?_)
theorem stowageref13_text.mono:∀ a0 a1 a2 a3 k,LeO (stowageref13_text.f k a0 a1 a2 a3) (stowageref13_text.f (k+1) a0 a1 a2 a3):=by
 intro a0 a1 a2 a3 k
 obtain⟨ih0,ih1⟩:=stowageref13_text.mono_l k
 exact ih0 a0 a1 a2 a3
theorem stowageref13_text.calls (k:Nat):∀ (a0_0:ByteArray) (a0_1:ByteArray) (A0_2:Option Addr) (c0_2:Nat) (l0_2:List (S48)) (a1:ByteArray) (r:ByteArray) (w:World) (hr0_2:Kd.C k48 w A0_2 l0_2.length l0_2) (hc0_2:l0_2.length≤c0_2) (h:stowageref13_text.f k a0_0 a0_1 l0_2 a1=some r),
  Calls Tryd.prog 62 #[.agg #[.string a0_0,.string a0_1,.slice A0_2 l0_2.length c0_2],.string a1] w fun e w'=>e = .returned (.string r)∧Below w.heap.size w w':=by
 induction k using Nat.strongRecOn with
 | _ k ih=>
 intro a0_0 a0_1 A0_2 c0_2 l0_2 a1 r w hr0_2 hc0_2 h
 cases k with
 | zero=>exact absurd h (by simp [stowageref13_text.f])
 | succ k=>
 simp only [stowageref13_text.f] at h
 have hu48:=Tryd.underlying48
 have HR0_2:=Aside0.mk hr0_2
 have HC0_2:=Aside0.mk hc0_2
 clear hr0_2 hc0_2
 have HB:=Aside0.mk (Below.refl w.heap.size w)
 have H:(if 1+a0_0.size≤9223372036854775807 then(if((⟨#[60]⟩ : ByteArray)++a0_0).size+a1.size≤9223372036854775807 then(if(((⟨#[60]⟩ : ByteArray)++a0_0)++a1).size+1≤9223372036854775807 then((stowageref13_Escape.f k a0_1).bind fun t286=>(if((((⟨#[60]⟩ : ByteArray)++a0_0)++a1)++(⟨#[62]⟩ : ByteArray)).size+t286.size≤9223372036854775807 then(stowageref13_text.l0 k (((((⟨#[60]⟩ : ByteArray)++a0_0)++a1)++(⟨#[62]⟩ : ByteArray))++t286) 0 a0_0 a0_1 l0_2) else(none))) else(none)) else(none)) else(none))=some r:=h
 clear h
 replace H:=itO H
 rcases H with⟨c3,H⟩|⟨c3,H⟩
 ·skip
  have c3b0:=eq_true c3
  have c3b1:=decide_eq_true c3
  try have c3b2:=eq_false (Nat.not_lt.2 c3)
  try (have c3n:1+a0_0.size≤9223372036854775807:=by have h_:=c3;simp only [ByteArray.size_append,ByteArray.size_extract] at h_;exact h_)
  try have c3f:(9223372036854775807<1+a0_0.size)=False:=eq_false (by first|omega|(simp only [eq_iff_iff,iff_true] at *;omega))
  replace H:=itO H
  rcases H with⟨c4,H⟩|⟨c4,H⟩
  ·skip
   have c4b0:=eq_true c4
   have c4b1:=decide_eq_true c4
   try have c4b2:=eq_false (Nat.not_lt.2 c4)
   try (have c4n:1+a0_0.size+a1.size≤9223372036854775807:=by have h_:=c4;simp only [ByteArray.size_append,ByteArray.size_extract] at h_;exact h_)
   try have c4f:(9223372036854775807<1+a0_0.size+a1.size)=False:=eq_false (by first|omega|(simp only [eq_iff_iff,iff_true] at *;omega))
   replace H:=itO H
   rcases H with⟨c5,H⟩|⟨c5,H⟩
   ·skip
    have c5b0:=eq_true c5
    have c5b1:=decide_eq_true c5
    try have c5b2:=eq_false (Nat.not_lt.2 c5)
    try (have c5n:1+a0_0.size+a1.size+1≤9223372036854775807:=by have h_:=c5;simp only [ByteArray.size_append,ByteArray.size_extract] at h_;exact h_)
    try have c5f:(9223372036854775807<1+a0_0.size+a1.size+1)=False:=eq_false (by first|omega|(simp only [eq_iff_iff,iff_true] at *;omega))
    replace H:=bndO H
    obtain⟨t286,A60,H⟩:=H
    have A6:=Aside0.mk A60
    clear A60
    replace H:=itO H
    rcases H with⟨c7,H⟩|⟨c7,H⟩
    ·skip
     have c7b0:=eq_true c7
     have c7b1:=decide_eq_true c7
     try have c7b2:=eq_false (Nat.not_lt.2 c7)
     try (have c7n:1+a0_0.size+a1.size+1+t286.size≤9223372036854775807:=by have h_:=c7;simp only [ByteArray.size_append,ByteArray.size_extract] at h_;exact h_)
     try have c7f:(9223372036854775807<1+a0_0.size+a1.size+1+t286.size)=False:=eq_false (by first|omega|(simp only [eq_iff_iff,iff_true] at *;omega))
     have H':=Aside0.mk H
     clear H
     go_enter Tryd.func62,Tryd.ntmps62
     go_wp2_with (first|((with_reducible refine gate_dst (N:=2) rfl ?_);refine box_event ?hg (N:=2) ?hd (cs:=#[.string a0_0,.string a0_1,.slice A0_2 l0_2.length c0_2]) (t:=48) ?hr ?_;(case hd=>rfl);(case hg=>rfl);(case hr=>first|(go_simp;done)|(go_simp;rfl));intro gb285 hg w8 hbox hb;have n0_:=Aside0.mk (below_step (by repeat (first|(with_reducible first|exact HB.out|apply below_alloc|apply pw_below_drewN|apply below_drew1)|exact HB.out)) hb);have n1_:=Aside0.mk (hbox);have n2_:=Aside0.mk ((by rw [hg];exact(below_size (by repeat (first|(with_reducible first|exact HB.out|apply below_alloc|apply pw_below_drewN|apply below_drew1)|exact HB.out))):w.heap.size≤gb285));have n3_:=Aside0.mk ((by rw [hg];exact(below_size (by repeat (first|(with_reducible first|exact HB.out|apply below_alloc|apply pw_below_drewN|apply below_drew1)|exact HB.out))):w.heap.size≤gb285));clear HB;have HB:=n0_;have BK285:=n1_;have GW285:=n2_;have GE285:=n3_;clear n0_ n1_ n2_ n3_;clear hb hbox hg;have hcz9_0:w8.cell? ⟨gb285,0,none⟩=some (.string a0_0):=(blk_cell BK285.out 0).trans rfl;have hcz9_1:w8.cell? ⟨gb285,1,none⟩=some (.string a0_1):=(blk_cell BK285.out 1).trans rfl;have hcz9_2:w8.cell? ⟨gb285,2,none⟩=some (.slice A0_2 l0_2.length c0_2):=(blk_cell BK285.out 2).trans rfl;have hfz9_0:=blk_frozen BK285.out 0;have hfz9_1:=blk_frozen BK285.out 1;have hfz9_2:=blk_frozen BK285.out 2)|(go_at_call 90;(with_reducible refine(stowageref13_Escape.calls k a0_1 t286 _ A6.out).mono ?_);rintro e w' ⟨rfl,⟨nd,rfl⟩⟩;(try first|exact⟨rfl,_,World.drewN_drewN _ _ _⟩|exact⟨rfl,_,Eq.trans (World.drewN_drewN _ _ _) (congrArg (World.drewN _) (Nat.add_assoc _ _ _))⟩)))
     repeat (go_quiet (first|((with_reducible refine gate_dst (N:=2) rfl ?_);refine box_event ?hg (N:=2) ?hd (cs:=#[.string a0_0,.string a0_1,.slice A0_2 l0_2.length c0_2]) (t:=48) ?hr ?_;(case hd=>rfl);(case hg=>rfl);(case hr=>first|(go_simp;done)|(go_simp;rfl));intro gb285 hg w8 hbox hb;have n0_:=Aside0.mk (below_step (by repeat (first|(with_reducible first|exact HB.out|apply below_alloc|apply pw_below_drewN|apply below_drew1)|exact HB.out)) hb);have n1_:=Aside0.mk (hbox);have n2_:=Aside0.mk ((by rw [hg];exact(below_size (by repeat (first|(with_reducible first|exact HB.out|apply below_alloc|apply pw_below_drewN|apply below_drew1)|exact HB.out))):w.heap.size≤gb285));have n3_:=Aside0.mk ((by rw [hg];exact(below_size (by repeat (first|(with_reducible first|exact HB.out|apply below_alloc|apply pw_below_drewN|apply below_drew1)|exact HB.out))):w.heap.size≤gb285));clear HB;have HB:=n0_;have BK285:=n1_;have GW285:=n2_;have GE285:=n3_;clear n0_ n1_ n2_ n3_;clear hb hbox hg;have hcz9_0:w8.cell? ⟨gb285,0,none⟩=some (.string a0_0):=(blk_cell BK285.out 0).trans rfl;have hcz9_1:w8.cell? ⟨gb285,1,none⟩=some (.string a0_1):=(blk_cell BK285.out 1).trans rfl;have hcz9_2:w8.cell? ⟨gb285,2,none⟩=some (.slice A0_2 l0_2.length c0_2):=(blk_cell BK285.out 2).trans rfl;have hfz9_0:=blk_frozen BK285.out 0;have hfz9_1:=blk_frozen BK285.out 1;have hfz9_2:=blk_frozen BK285.out 2)|(go_at_call 90;(with_reducible refine(stowageref13_Escape.calls k a0_1 t286 _ A6.out).mono ?_);rintro e w' ⟨rfl,⟨nd,rfl⟩⟩;(try first|exact⟨rfl,_,World.drewN_drewN _ _ _⟩|exact⟨rfl,_,Eq.trans (World.drewN_drewN _ _ _) (congrArg (World.drewN _) (Nat.add_assoc _ _ _))⟩)));try go_wp2_with (first|((with_reducible refine gate_dst (N:=2) rfl ?_);refine box_event ?hg (N:=2) ?hd (cs:=#[.string a0_0,.string a0_1,.slice A0_2 l0_2.length c0_2]) (t:=48) ?hr ?_;(case hd=>rfl);(case hg=>rfl);(case hr=>first|(go_simp;done)|(go_simp;rfl));intro gb285 hg w8 hbox hb;have n0_:=Aside0.mk (below_step (by repeat (first|(with_reducible first|exact HB.out|apply below_alloc|apply pw_below_drewN|apply below_drew1)|exact HB.out)) hb);have n1_:=Aside0.mk (hbox);have n2_:=Aside0.mk ((by rw [hg];exact(below_size (by repeat (first|(with_reducible first|exact HB.out|apply below_alloc|apply pw_below_drewN|apply below_drew1)|exact HB.out))):w.heap.size≤gb285));have n3_:=Aside0.mk ((by rw [hg];exact(below_size (by repeat (first|(with_reducible first|exact HB.out|apply below_alloc|apply pw_below_drewN|apply below_drew1)|exact HB.out))):w.heap.size≤gb285));clear HB;have HB:=n0_;have BK285:=n1_;have GW285:=n2_;have GE285:=n3_;clear n0_ n1_ n2_ n3_;clear hb hbox hg;have hcz9_0:w8.cell? ⟨gb285,0,none⟩=some (.string a0_0):=(blk_cell BK285.out 0).trans rfl;have hcz9_1:w8.cell? ⟨gb285,1,none⟩=some (.string a0_1):=(blk_cell BK285.out 1).trans rfl;have hcz9_2:w8.cell? ⟨gb285,2,none⟩=some (.slice A0_2 l0_2.length c0_2):=(blk_cell BK285.out 2).trans rfl;have hfz9_0:=blk_frozen BK285.out 0;have hfz9_1:=blk_frozen BK285.out 1;have hfz9_2:=blk_frozen BK285.out 2)|(go_at_call 90;(with_reducible refine(stowageref13_Escape.calls k a0_1 t286 _ A6.out).mono ?_);rintro e w' ⟨rfl,⟨nd,rfl⟩⟩;(try first|exact⟨rfl,_,World.drewN_drewN _ _ _⟩|exact⟨rfl,_,Eq.trans (World.drewN_drewN _ _ _) (congrArg (World.drewN _) (Nat.add_assoc _ _ _))⟩))))
     go_loopg [5,6] k (fun kq v5 v6 w'=>∃ (x5_1:ByteArray) (x6_1:Int),v5 = .string x5_1∧v6 = .int .i64 x6_1∧Aside0 (stowageref13_text.l0 kq x5_1 x6_1 a0_0 a0_1 l0_2=some r)∧Aside0 (kq≤k)∧Aside0 (w'.heap[gb285]? = some (.cells #[.string a0_0,.string a0_1,(.slice A0_2 l0_2.length c0_2)] 48 (0,0)))∧Aside0 (Below w.heap.size w w'))
     case atStart=>exact⟨(((((⟨#[60]⟩ : ByteArray)++a0_0)++a1)++(⟨#[62]⟩ : ByteArray))++t286),(0),(by first|rfl|(simp;done)|(simp [*];done)),(by first|rfl|(simp;done)|(simp [*];done)),H',⟨Nat.le_refl _⟩,⟨by(with_reducible repeat (first|refine blk_drewN ?_ _|refine blk_drew ?_|refine blk_alloc ?_ _));exact BK285.out⟩,⟨by repeat (first|(with_reducible first|exact HB.out|apply below_alloc|apply pw_below_drewN|apply below_drew1|refine below_set ?_ GE285.out)|exact HB.out)⟩⟩
     case round=>
      clear H'
      try clear p2
      try clear c3
      try clear c3b0
      try clear c3b1
      try clear c3b2
      try clear c4
      try clear c4b0
      try clear c4b1
      try clear c4b2
      try clear c5
      try clear c5b0
      try clear c5b1
      try clear c5b2
      try clear c6
      try clear c7
      try clear c7b0
      try clear c7b1
      try clear c7b2
      try clear hcz9_0
      try clear hcz9_1
      try clear hcz9_2
      try clear hfz9_0
      try clear hfz9_1
      try clear hfz9_2
      obtain⟨x5_1,x6_1,rfl,rfl,HA,HK1,BK285,HB⟩:=hrel
      cases gk with
      | zero=>exact absurd HA.out (by simp [stowageref13_text.l0])
      | succ k1=>
       have H:=HA.out
       clear HA
       simp only [stowageref13_text.l0] at H
       replace H:=itO H
       rcases H with⟨c10,H⟩|⟨c10,H⟩
       ·skip
        have c10b0:decide (x6_1<(l0_2.length:Int))=true:=decide_eq_true c10
        clear c10
        replace H:=itO H
        rcases H with⟨c11,H⟩|⟨c11,H⟩
        ·skip
         have c11b0:decide (0≤x6_1)=true:=decide_eq_true c11
         clear c11
         replace H:=bndO H
         obtain⟨t288,A120,H⟩:=H
         have A12:=Aside0.mk A120
         clear A120
         replace H:=itO H
         rcases H with⟨c13,H⟩|⟨c13,H⟩
         ·skip
          have c13b0:=eq_true c13
          have c13b1:=decide_eq_true c13
          try have c13b2:=eq_false (Nat.not_lt.2 c13)
          try (have c13n:x5_1.size+t288.size≤9223372036854775807:=by have h_:=c13;simp only [ByteArray.size_append,ByteArray.size_extract] at h_;exact h_)
          try have c13f:(9223372036854775807<x5_1.size+t288.size)=False:=eq_false (by first|omega|(simp only [eq_iff_iff,iff_true] at *;omega))
          have H':=Aside0.mk H
          clear H
          have hcz14_0:wr.cell? ⟨gb285,0,none⟩=some (.string a0_0):=(blk_cell BK285.out 0).trans rfl
          have hcz14_1:wr.cell? ⟨gb285,1,none⟩=some (.string a0_1):=(blk_cell BK285.out 1).trans rfl
          have hcz14_2:wr.cell? ⟨gb285,2,none⟩=some (.slice A0_2 l0_2.length c0_2):=(blk_cell BK285.out 2).trans rfl
          have hfz14_0:=blk_frozen BK285.out 0
          have hfz14_1:=blk_frozen BK285.out 1
          have hfz14_2:=blk_frozen BK285.out 2
          have p287:0≤(x6_1:Int):=of_decide_eq_true (by first|(with_reducible assumption)|assumption)
          have q287:x6_1<(l0_2.length:Int):=of_decide_eq_true (by first|(with_reducible assumption)|assumption)
          obtain⟨ad287,A287_2,c287_2,e287,hx287_0,hx287_1,hx287_2,hl287_2,hi287_2⟩:=at_T48 HR0_2.out x6_1 p287 q287
          cases e287
          replace hx287_0:=(HB.out.cell (World.block_lt_of_cell? w _ hx287_0)).trans hx287_0
          replace hx287_1:=(HB.out.cell (World.block_lt_of_cell? w _ hx287_1)).trans hx287_1
          replace hx287_2:=(HB.out.cell (World.block_lt_of_cell? w _ hx287_2)).trans hx287_2
          have HR287_2:=Aside0.mk hi287_2
          have HC287_2:=Aside0.mk hl287_2
          clear hi287_2 hl287_2
          replace p287:=eq_true p287
          replace q287:=eq_true q287
          go_wp2_with (first|(go_at_call 62;(with_reducible refine(ih k1 (by have:=HK1.out;omega) ((rd_T48 l0_2 x6_1).f0) ((rd_T48 l0_2 x6_1).f1) _ _ ((rd_T48 l0_2 x6_1).f2) (⟨#[]⟩ : ByteArray) t288 _ ?side1 ?side2 A12.out).mono ?_);(case side1=>repeat (first|exact(Kd.C_below HR287_2.out HB.out)|(with_reducible refine Kd.C_alloc ?_ _)|(with_reducible refine Kd.C_drewN ?_ _)|(with_reducible refine Kd.C_drew ?_)));(case side2=>exact HC287_2.out);rintro e w15 ⟨rfl,hb⟩;have n0_:=Aside0.mk (blk_below (g:=gb285) (o:=.cells #[.string a0_0,.string a0_1,.slice (some ad287) l0_2.length c0_2] 48 (0,0)) (by(with_reducible repeat (first|refine blk_drewN ?_ _|refine blk_drew ?_|refine blk_alloc ?_ _));exact BK285.out) hb);have n1_:=Aside0.mk (below_step (by repeat (first|(with_reducible first|exact HB.out|apply below_alloc|apply pw_below_drewN|apply below_drew1|refine below_set ?_ GE285.out)|exact HB.out)) hb);clear BK285;clear HB;have BK285:=n0_;have HB:=n1_;clear n0_ n1_;(try clear hb);(try clear hb2);(try clear hk);(try clear hi)))
          repeat (go_quiet (first|(go_at_call 62;(with_reducible refine(ih k1 (by have:=HK1.out;omega) ((rd_T48 l0_2 x6_1).f0) ((rd_T48 l0_2 x6_1).f1) _ _ ((rd_T48 l0_2 x6_1).f2) (⟨#[]⟩ : ByteArray) t288 _ ?side1 ?side2 A12.out).mono ?_);(case side1=>repeat (first|exact(Kd.C_below HR287_2.out HB.out)|(with_reducible refine Kd.C_alloc ?_ _)|(with_reducible refine Kd.C_drewN ?_ _)|(with_reducible refine Kd.C_drew ?_)));(case side2=>exact HC287_2.out);rintro e w15 ⟨rfl,hb⟩;have n0_:=Aside0.mk (blk_below (g:=gb285) (o:=.cells #[.string a0_0,.string a0_1,.slice (some ad287) l0_2.length c0_2] 48 (0,0)) (by(with_reducible repeat (first|refine blk_drewN ?_ _|refine blk_drew ?_|refine blk_alloc ?_ _));exact BK285.out) hb);have n1_:=Aside0.mk (below_step (by repeat (first|(with_reducible first|exact HB.out|apply below_alloc|apply pw_below_drewN|apply below_drew1|refine below_set ?_ GE285.out)|exact HB.out)) hb);clear BK285;clear HB;have BK285:=n0_;have HB:=n1_;clear n0_ n1_;(try clear hb);(try clear hb2);(try clear hk);(try clear hi)));try go_wp2_with (first|(go_at_call 62;(with_reducible refine(ih k1 (by have:=HK1.out;omega) ((rd_T48 l0_2 x6_1).f0) ((rd_T48 l0_2 x6_1).f1) _ _ ((rd_T48 l0_2 x6_1).f2) (⟨#[]⟩ : ByteArray) t288 _ ?side1 ?side2 A12.out).mono ?_);(case side1=>repeat (first|exact(Kd.C_below HR287_2.out HB.out)|(with_reducible refine Kd.C_alloc ?_ _)|(with_reducible refine Kd.C_drewN ?_ _)|(with_reducible refine Kd.C_drew ?_)));(case side2=>exact HC287_2.out);rintro e w15 ⟨rfl,hb⟩;have n0_:=Aside0.mk (blk_below (g:=gb285) (o:=.cells #[.string a0_0,.string a0_1,.slice (some ad287) l0_2.length c0_2] 48 (0,0)) (by(with_reducible repeat (first|refine blk_drewN ?_ _|refine blk_drew ?_|refine blk_alloc ?_ _));exact BK285.out) hb);have n1_:=Aside0.mk (below_step (by repeat (first|(with_reducible first|exact HB.out|apply below_alloc|apply pw_below_drewN|apply below_drew1|refine below_set ?_ GE285.out)|exact HB.out)) hb);clear BK285;clear HB;have BK285:=n0_;have HB:=n1_;clear n0_ n1_;(try clear hb);(try clear hb2);(try clear hk);(try clear hi))))
          go_roundg k1
          case measure=>have:=HK1.out;omega
          case rel=>exact⟨(x5_1++t288),(wrap64 (x6_1+1)),(by first|rfl|(simp;done)|(simp [*];done)),(by first|rfl|(simp;done)|(simp [*];done)),H',⟨by have:=HK1.out;omega⟩,⟨by(with_reducible repeat (first|refine blk_drewN ?_ _|refine blk_drew ?_|refine blk_alloc ?_ _));exact BK285.out⟩,⟨by repeat (first|(with_reducible first|exact HB.out|apply below_alloc|apply pw_below_drewN|apply below_drew1|refine below_set ?_ GE285.out)|exact HB.out)⟩⟩
         ·exact absurd H (by simp)
        ·exact absurd H (by simp)
       ·skip
        have c10b0:decide (x6_1<(l0_2.length:Int))=false:=decide_eq_false c10
        clear c10
        replace H:=itO H
        rcases H with⟨c16,H⟩|⟨c16,H⟩
        ·skip
         have c16b0:=eq_true c16
         have c16b1:=decide_eq_true c16
         try have c16b2:=eq_false (Nat.not_lt.2 c16)
         try (have c16n:x5_1.size+2≤9223372036854775807:=by have h_:=c16;simp only [ByteArray.size_append,ByteArray.size_extract] at h_;exact h_)
         try have c16f:(9223372036854775807<x5_1.size+2)=False:=eq_false (by first|omega|(simp only [eq_iff_iff,iff_true] at *;omega))
         replace H:=itO H
         rcases H with⟨c17,H⟩|⟨c17,H⟩
         ·skip
          have c17b0:=eq_true c17
          have c17b1:=decide_eq_true c17
          try have c17b2:=eq_false (Nat.not_lt.2 c17)
          try (have c17n:x5_1.size+2+a0_0.size≤9223372036854775807:=by have h_:=c17;simp only [ByteArray.size_append,ByteArray.size_extract] at h_;exact h_)
          try have c17f:(9223372036854775807<x5_1.size+2+a0_0.size)=False:=eq_false (by first|omega|(simp only [eq_iff_iff,iff_true] at *;omega))
          replace H:=itO H
          rcases H with⟨c18,H⟩|⟨c18,H⟩
          ·skip
           have c18b0:=eq_true c18
           have c18b1:=decide_eq_true c18
           try have c18b2:=eq_false (Nat.not_lt.2 c18)
           try (have c18n:x5_1.size+2+a0_0.size+1≤9223372036854775807:=by have h_:=c18;simp only [ByteArray.size_append,ByteArray.size_extract] at h_;exact h_)
           try have c18f:(9223372036854775807<x5_1.size+2+a0_0.size+1)=False:=eq_false (by first|omega|(simp only [eq_iff_iff,iff_true] at *;omega))
           obtain rfl:=Option.some.inj H
           have hcz19_0:wr.cell? ⟨gb285,0,none⟩=some (.string a0_0):=(blk_cell BK285.out 0).trans rfl
           have hcz19_1:wr.cell? ⟨gb285,1,none⟩=some (.string a0_1):=(blk_cell BK285.out 1).trans rfl
           have hcz19_2:wr.cell? ⟨gb285,2,none⟩=some (.slice A0_2 l0_2.length c0_2):=(blk_cell BK285.out 2).trans rfl
           have hfz19_0:=blk_frozen BK285.out 0
           have hfz19_1:=blk_frozen BK285.out 1
           have hfz19_2:=blk_frozen BK285.out 2
           go_wp2
           repeat (go_quiet (fail);try go_wp2)
           go_ret
           exact⟨by first|rfl|(simp [errW_none,errW_some] <;> rfl)|(simp [*,errW_none,errW_some] <;> rfl),by repeat (first|(with_reducible first|exact HB.out|apply below_alloc|apply pw_below_drewN|apply below_drew1|refine below_set ?_ GE285.out)|exact HB.out)⟩
          ·exact absurd H (by simp)
         ·exact absurd H (by simp)
        ·exact absurd H (by simp)
    ·exact absurd H (by simp)
   ·exact absurd H (by simp)
  ·exact absurd H (by simp)
 ·exact absurd H (by simp)
def stowageref13_Print.f (k:Nat) (a0_0:ByteArray) (a0_1:ByteArray) (l0_2:List (S48)) (a1:Bool):Option (ByteArray×Int):=(stowageref13_fit.f k a0_0 a0_1 l0_2 1).bind fun t290=>(if t290=true then(if a1=true then((stowageref13_text.f k a0_0 a0_1 l0_2 (⟨#[32,120,109,108,110,115,61,34,104,116,116,112,58,47,47,115,51,46,97,109,97,122,111,110,97,119,115,46,99,111,109,47,100,111,99,47,50,48,48,54,45,48,51,45,48,49,47,34]⟩ : ByteArray)).bind fun t291=>(if 39+t291.size≤9223372036854775807 then(if(((⟨#[60,63,120,109,108,32,118,101,114,115,105,111,110,61,34,49,46,48,34,32,101,110,99,111,100,105,110,103,61,34,85,84,70,45,56,34,63,62,10]⟩ : ByteArray)++t291).size:Int)>65536 then(some ((⟨#[]⟩ : ByteArray),2)) else(some ((⟨#[60,63,120,109,108,32,118,101,114,115,105,111,110,61,34,49,46,48,34,32,101,110,99,111,100,105,110,103,61,34,85,84,70,45,56,34,63,62,10]⟩ : ByteArray)++t291,0))) else(none))) else((stowageref13_text.f k a0_0 a0_1 l0_2 (⟨#[]⟩ : ByteArray)).bind fun t292=>(if 39+t292.size≤9223372036854775807 then(if(((⟨#[60,63,120,109,108,32,118,101,114,115,105,111,110,61,34,49,46,48,34,32,101,110,99,111,100,105,110,103,61,34,85,84,70,45,56,34,63,62,10]⟩ : ByteArray)++t292).size:Int)>65536 then(some ((⟨#[]⟩ : ByteArray),2)) else(some ((⟨#[60,63,120,109,108,32,118,101,114,115,105,111,110,61,34,49,46,48,34,32,101,110,99,111,100,105,110,103,61,34,85,84,70,45,56,34,63,62,10]⟩ : ByteArray)++t292,0))) else(none)))) else(some ((⟨#[]⟩ : ByteArray),130)))
theorem stowageref13_Print.mono:∀ a0 a1 a2 a3 k,LeO (stowageref13_Print.f k a0 a1 a2 a3) (stowageref13_Print.f (k+1) a0 a1 a2 a3):=by
 intro a0 a1 a2 a3 k
 unfold stowageref13_Print.f
 repeat' first
   | (with_reducible exact stowageref13_fit.mono _ _ _ _ _)
   | (with_reducible exact stowageref13_text.mono _ _ _ _ _)
   | (with_reducible exact LeO.refl _)
   | (with_reducible exact LeO.none _)
   | (with_reducible refine LeO.ite ?_ ?_)
   | (with_reducible refine LeO.bind ?_ (fun _=>?_))
   | exact stowageref13_fit.mono _ _ _ _ _
   | exact stowageref13_text.mono _ _ _ _ _
   | exact LeO.none _
   | refine LeO.ite ?_ ?_
   | refine LeO.bind ?_ (fun _=>?_)
theorem stowageref13_Print.calls (k:Nat) (a0_0:ByteArray) (a0_1:ByteArray) (A0_2:Option Addr) (c0_2:Nat) (l0_2:List (S48)) (a1:Bool) (r1:ByteArray) (r2:Int) (w:World) (hr0_2:Kd.C k48 w A0_2 l0_2.length l0_2) (hc0_2:l0_2.length≤c0_2) (h:stowageref13_Print.f k a0_0 a0_1 l0_2 a1=some (r1,r2)) :
  Calls Tryd.prog 36 #[.agg #[.string a0_0,.string a0_1,.slice A0_2 l0_2.length c0_2],.bool a1] w fun e w'=>e = .returned (.tuple #[.string r1,.int .i64 r2])∧Below w.heap.size w w':=by
 have hu48:=Tryd.underlying48
 have HR0_2:=Aside0.mk hr0_2
 have HC0_2:=Aside0.mk hc0_2
 clear hr0_2 hc0_2
 have HB:=Aside0.mk (Below.refl w.heap.size w)
 unfold stowageref13_Print.f at h
 have H:=h
 clear h
 replace H:=bndO H
 obtain⟨t290,A30,H⟩:=H
 have A3:=Aside0.mk A30
 clear A30
 by_cases c4:t290=true
 ·subst c4
  replace H:=itT H
  by_cases c5:a1=true
  ·subst c5
   replace H:=itT H
   replace H:=bndO H
   obtain⟨t291,A60,H⟩:=H
   have A6:=Aside0.mk A60
   clear A60
   replace H:=itO H
   rcases H with⟨c7,H⟩|⟨c7,H⟩
   ·skip
    have c7b0:=eq_true c7
    have c7b1:=decide_eq_true c7
    try have c7b2:=eq_false (Nat.not_lt.2 c7)
    try (have c7n:39+t291.size≤9223372036854775807:=by have h_:=c7;simp only [ByteArray.size_append,ByteArray.size_extract] at h_;exact h_)
    try have c7f:(9223372036854775807<39+t291.size)=False:=eq_false (by first|omega|(simp only [eq_iff_iff,iff_true] at *;omega))
    replace H:=itO H
    rcases H with⟨c8,H⟩|⟨c8,H⟩
    ·skip
     have c8b0:decide (65536<(((⟨#[60,63,120,109,108,32,118,101,114,115,105,111,110,61,34,49,46,48,34,32,101,110,99,111,100,105,110,103,61,34,85,84,70,45,56,34,63,62,10]⟩ : ByteArray)++t291).size:Int))=true:=decide_eq_true c8
     have c8w:decide ((65536:Int)<39+(t291.size:Int))=true:=by
      have h_:=of_decide_eq_true c8b0
      rw [ByteArray.size_append] at h_
      have e_:((⟨#[60,63,120,109,108,32,118,101,114,115,105,111,110,61,34,49,46,48,34,32,101,110,99,111,100,105,110,103,61,34,85,84,70,45,56,34,63,62,10]⟩ : ByteArray)).size=39:=rfl
      exact decide_eq_true (by omega)
     have c8b1:decide (65536<((⟨#[60,63,120,109,108,32,118,101,114,115,105,111,110,61,34,49,46,48,34,32,101,110,99,111,100,105,110,103,61,34,85,84,70,45,56,34,63,62,10]⟩ : ByteArray)++t291).size)=true:=decide_eq_true (by omega)
     try (have c8m:=c8;simp only [ByteArray.size_append,Int.natCast_add,Int.not_lt] at c8m)
     clear c8
     simp only [Option.some.injEq,Prod.mk.injEq] at H
     obtain⟨rfl,rfl⟩:=H
     go_enter Tryd.func36,Tryd.ntmps36
     go_wp2_with (first|((with_reducible refine gate_dst (N:=2) rfl ?_);refine box_event ?hg (N:=2) ?hd (cs:=#[.string a0_0,.string a0_1,.slice A0_2 l0_2.length c0_2]) (t:=48) ?hr ?_;(case hd=>rfl);(case hg=>rfl);(case hr=>first|(go_simp;done)|(go_simp;rfl));intro gb289 hg w9 hbox hb;have n0_:=Aside0.mk (below_step (by repeat (first|(with_reducible first|exact HB.out|apply below_alloc|apply pw_below_drewN|apply below_drew1)|exact HB.out)) hb);have n1_:=Aside0.mk (hbox);have n2_:=Aside0.mk ((by rw [hg];exact(below_size (by repeat (first|(with_reducible first|exact HB.out|apply below_alloc|apply pw_below_drewN|apply below_drew1)|exact HB.out))):w.heap.size≤gb289));have n3_:=Aside0.mk ((by rw [hg];exact(below_size (by repeat (first|(with_reducible first|exact HB.out|apply below_alloc|apply pw_below_drewN|apply below_drew1)|exact HB.out))):w.heap.size≤gb289));clear HB;have HB:=n0_;have BK289:=n1_;have GW289:=n2_;have GE289:=n3_;clear n0_ n1_ n2_ n3_;clear hb hbox hg;have hcz10_0:w9.cell? ⟨gb289,0,none⟩=some (.string a0_0):=(blk_cell BK289.out 0).trans rfl;have hcz10_1:w9.cell? ⟨gb289,1,none⟩=some (.string a0_1):=(blk_cell BK289.out 1).trans rfl;have hcz10_2:w9.cell? ⟨gb289,2,none⟩=some (.slice A0_2 l0_2.length c0_2):=(blk_cell BK289.out 2).trans rfl;have hfz10_0:=blk_frozen BK289.out 0;have hfz10_1:=blk_frozen BK289.out 1;have hfz10_2:=blk_frozen BK289.out 2)|((with_reducible refine gate_callee (f:=61) rfl ?_);refine goesL_ (some 9) rfl rfl Tryd.func61 (by kernel_rfl) rfl #[.agg #[.string a0_0,.string a0_1,.slice A0_2 l0_2.length c0_2],.int .i64 1] rfl (by(try simp only [List.map_toArray,List.map_cons,List.map_nil]);first|done|rfl|(simp only [List.length_drop,List.length_take];rfl)) ?_;(with_reducible refine(stowageref13_fit.calls k a0_0 a0_1 _ _ l0_2 1 true _ ?side1 ?side2 A3.out).mono ?_);(case side1=>repeat (first|exact(Kd.C_below HR0_2.out HB.out)|(with_reducible refine Kd.C_alloc ?_ _)|(with_reducible refine Kd.C_drewN ?_ _)|(with_reducible refine Kd.C_drew ?_)));(case side2=>exact HC0_2.out);rintro e w11 ⟨rfl,hb⟩;refine⟨_,rfl,?_⟩;have n0_:=Aside0.mk (blk_below (g:=gb289) (o:=.cells #[.string a0_0,.string a0_1,.slice A0_2 l0_2.length c0_2] 48 (0,0)) (by(with_reducible repeat (first|refine blk_drewN ?_ _|refine blk_drew ?_|refine blk_alloc ?_ _));exact BK289.out) hb);have n1_:=Aside0.mk (below_step (by repeat (first|(with_reducible first|exact HB.out|apply below_alloc|apply pw_below_drewN|apply below_drew1|refine below_set ?_ GE289.out)|exact HB.out)) hb);clear BK289;clear HB;have BK289:=n0_;have HB:=n1_;clear n0_ n1_;(try clear hb);(try clear hb2);(try clear hk);(try clear hi);have hcz12_0:w11.cell? ⟨gb289,0,none⟩=some (.string a0_0):=(blk_cell BK289.out 0).trans rfl;have hcz12_1:w11.cell? ⟨gb289,1,none⟩=some (.string a0_1):=(blk_cell BK289.out 1).trans rfl;have hcz12_2:w11.cell? ⟨gb289,2,none⟩=some (.slice A0_2 l0_2.length c0_2):=(blk_cell BK289.out 2).trans rfl;have hfz12_0:=blk_frozen BK289.out 0;have hfz12_1:=blk_frozen BK289.out 1;have hfz12_2:=blk_frozen BK289.out 2)|((with_reducible refine gate_callee (f:=62) rfl ?_);refine goesL_ (some 14) rfl rfl Tryd.func62 (by kernel_rfl) rfl #[.agg #[.string a0_0,.string a0_1,.slice A0_2 l0_2.length c0_2],.string (⟨#[32,120,109,108,110,115,61,34,104,116,116,112,58,47,47,115,51,46,97,109,97,122,111,110,97,119,115,46,99,111,109,47,100,111,99,47,50,48,48,54,45,48,51,45,48,49,47,34]⟩ : ByteArray)] rfl (by(try simp only [List.map_toArray,List.map_cons,List.map_nil]);first|done|rfl|(simp only [List.length_drop,List.length_take];rfl)) ?_;(with_reducible refine(stowageref13_text.calls k a0_0 a0_1 _ _ l0_2 (⟨#[32,120,109,108,110,115,61,34,104,116,116,112,58,47,47,115,51,46,97,109,97,122,111,110,97,119,115,46,99,111,109,47,100,111,99,47,50,48,48,54,45,48,51,45,48,49,47,34]⟩ : ByteArray) t291 _ ?side1 ?side2 A6.out).mono ?_);(case side1=>repeat (first|exact(Kd.C_below HR0_2.out HB.out)|(with_reducible refine Kd.C_alloc ?_ _)|(with_reducible refine Kd.C_drewN ?_ _)|(with_reducible refine Kd.C_drew ?_)));(case side2=>exact HC0_2.out);rintro e w13 ⟨rfl,hb⟩;refine⟨_,rfl,?_⟩;have n0_:=Aside0.mk (blk_below (g:=gb289) (o:=.cells #[.string a0_0,.string a0_1,.slice A0_2 l0_2.length c0_2] 48 (0,0)) (by(with_reducible repeat (first|refine blk_drewN ?_ _|refine blk_drew ?_|refine blk_alloc ?_ _));exact BK289.out) hb);have n1_:=Aside0.mk (below_step (by repeat (first|(with_reducible first|exact HB.out|apply below_alloc|apply pw_below_drewN|apply below_drew1|refine below_set ?_ GE289.out)|exact HB.out)) hb);clear BK289;clear HB;have BK289:=n0_;have HB:=n1_;clear n0_ n1_;(try clear hb);(try clear hb2);(try clear hk);(try clear hi)))
     go_ret2
     exact⟨by first|rfl|(simp [errW_none,errW_some] <;> rfl)|(simp [*,errW_none,errW_some] <;> rfl),by repeat (first|(with_reducible first|exact HB.out|apply below_alloc|apply pw_below_drewN|apply below_drew1|refine below_set ?_ GE289.out)|exact HB.out)⟩
    ·skip
     have c8b0:decide (65536<(((⟨#[60,63,120,109,108,32,118,101,114,115,105,111,110,61,34,49,46,48,34,32,101,110,99,111,100,105,110,103,61,34,85,84,70,45,56,34,63,62,10]⟩ : ByteArray)++t291).size:Int))=false:=decide_eq_false c8
     have c8w:decide ((65536:Int)<39+(t291.size:Int))=false:=by
      have h_:=of_decide_eq_false c8b0
      rw [ByteArray.size_append] at h_
      have e_:((⟨#[60,63,120,109,108,32,118,101,114,115,105,111,110,61,34,49,46,48,34,32,101,110,99,111,100,105,110,103,61,34,85,84,70,45,56,34,63,62,10]⟩ : ByteArray)).size=39:=rfl
      exact decide_eq_false (by omega)
     have c8b1:decide (65536<((⟨#[60,63,120,109,108,32,118,101,114,115,105,111,110,61,34,49,46,48,34,32,101,110,99,111,100,105,110,103,61,34,85,84,70,45,56,34,63,62,10]⟩ : ByteArray)++t291).size)=false:=decide_eq_false (by omega)
     try (have c8m:=c8;simp only [ByteArray.size_append,Int.natCast_add,Int.not_lt] at c8m)
     clear c8
     simp only [Option.some.injEq,Prod.mk.injEq] at H
     obtain⟨rfl,rfl⟩:=H
     go_enter Tryd.func36,Tryd.ntmps36
     go_wp2_with (first|((with_reducible refine gate_dst (N:=2) rfl ?_);refine box_event ?hg (N:=2) ?hd (cs:=#[.string a0_0,.string a0_1,.slice A0_2 l0_2.length c0_2]) (t:=48) ?hr ?_;(case hd=>rfl);(case hg=>rfl);(case hr=>first|(go_simp;done)|(go_simp;rfl));intro gb289 hg w14 hbox hb;have n0_:=Aside0.mk (below_step (by repeat (first|(with_reducible first|exact HB.out|apply below_alloc|apply pw_below_drewN|apply below_drew1)|exact HB.out)) hb);have n1_:=Aside0.mk (hbox);have n2_:=Aside0.mk ((by rw [hg];exact(below_size (by repeat (first|(with_reducible first|exact HB.out|apply below_alloc|apply pw_below_drewN|apply below_drew1)|exact HB.out))):w.heap.size≤gb289));have n3_:=Aside0.mk ((by rw [hg];exact(below_size (by repeat (first|(with_reducible first|exact HB.out|apply below_alloc|apply pw_below_drewN|apply below_drew1)|exact HB.out))):w.heap.size≤gb289));clear HB;have HB:=n0_;have BK289:=n1_;have GW289:=n2_;have GE289:=n3_;clear n0_ n1_ n2_ n3_;clear hb hbox hg;have hcz15_0:w14.cell? ⟨gb289,0,none⟩=some (.string a0_0):=(blk_cell BK289.out 0).trans rfl;have hcz15_1:w14.cell? ⟨gb289,1,none⟩=some (.string a0_1):=(blk_cell BK289.out 1).trans rfl;have hcz15_2:w14.cell? ⟨gb289,2,none⟩=some (.slice A0_2 l0_2.length c0_2):=(blk_cell BK289.out 2).trans rfl;have hfz15_0:=blk_frozen BK289.out 0;have hfz15_1:=blk_frozen BK289.out 1;have hfz15_2:=blk_frozen BK289.out 2)|((with_reducible refine gate_callee (f:=61) rfl ?_);refine goesL_ (some 9) rfl rfl Tryd.func61 (by kernel_rfl) rfl #[.agg #[.string a0_0,.string a0_1,.slice A0_2 l0_2.length c0_2],.int .i64 1] rfl (by(try simp only [List.map_toArray,List.map_cons,List.map_nil]);first|done|rfl|(simp only [List.length_drop,List.length_take];rfl)) ?_;(with_reducible refine(stowageref13_fit.calls k a0_0 a0_1 _ _ l0_2 1 true _ ?side1 ?side2 A3.out).mono ?_);(case side1=>repeat (first|exact(Kd.C_below HR0_2.out HB.out)|(with_reducible refine Kd.C_alloc ?_ _)|(with_reducible refine Kd.C_drewN ?_ _)|(with_reducible refine Kd.C_drew ?_)));(case side2=>exact HC0_2.out);rintro e w16 ⟨rfl,hb⟩;refine⟨_,rfl,?_⟩;have n0_:=Aside0.mk (blk_below (g:=gb289) (o:=.cells #[.string a0_0,.string a0_1,.slice A0_2 l0_2.length c0_2] 48 (0,0)) (by(with_reducible repeat (first|refine blk_drewN ?_ _|refine blk_drew ?_|refine blk_alloc ?_ _));exact BK289.out) hb);have n1_:=Aside0.mk (below_step (by repeat (first|(with_reducible first|exact HB.out|apply below_alloc|apply pw_below_drewN|apply below_drew1|refine below_set ?_ GE289.out)|exact HB.out)) hb);clear BK289;clear HB;have BK289:=n0_;have HB:=n1_;clear n0_ n1_;(try clear hb);(try clear hb2);(try clear hk);(try clear hi);have hcz17_0:w16.cell? ⟨gb289,0,none⟩=some (.string a0_0):=(blk_cell BK289.out 0).trans rfl;have hcz17_1:w16.cell? ⟨gb289,1,none⟩=some (.string a0_1):=(blk_cell BK289.out 1).trans rfl;have hcz17_2:w16.cell? ⟨gb289,2,none⟩=some (.slice A0_2 l0_2.length c0_2):=(blk_cell BK289.out 2).trans rfl;have hfz17_0:=blk_frozen BK289.out 0;have hfz17_1:=blk_frozen BK289.out 1;have hfz17_2:=blk_frozen BK289.out 2)|((with_reducible refine gate_callee (f:=62) rfl ?_);refine goesL_ (some 14) rfl rfl Tryd.func62 (by kernel_rfl) rfl #[.agg #[.string a0_0,.string a0_1,.slice A0_2 l0_2.length c0_2],.string (⟨#[32,120,109,108,110,115,61,34,104,116,116,112,58,47,47,115,51,46,97,109,97,122,111,110,97,119,115,46,99,111,109,47,100,111,99,47,50,48,48,54,45,48,51,45,48,49,47,34]⟩ : ByteArray)] rfl (by(try simp only [List.map_toArray,List.map_cons,List.map_nil]);first|done|rfl|(simp only [List.length_drop,List.length_take];rfl)) ?_;(with_reducible refine(stowageref13_text.calls k a0_0 a0_1 _ _ l0_2 (⟨#[32,120,109,108,110,115,61,34,104,116,116,112,58,47,47,115,51,46,97,109,97,122,111,110,97,119,115,46,99,111,109,47,100,111,99,47,50,48,48,54,45,48,51,45,48,49,47,34]⟩ : ByteArray) t291 _ ?side1 ?side2 A6.out).mono ?_);(case side1=>repeat (first|exact(Kd.C_below HR0_2.out HB.out)|(with_reducible refine Kd.C_alloc ?_ _)|(with_reducible refine Kd.C_drewN ?_ _)|(with_reducible refine Kd.C_drew ?_)));(case side2=>exact HC0_2.out);rintro e w18 ⟨rfl,hb⟩;refine⟨_,rfl,?_⟩;have n0_:=Aside0.mk (blk_below (g:=gb289) (o:=.cells #[.string a0_0,.string a0_1,.slice A0_2 l0_2.length c0_2] 48 (0,0)) (by(with_reducible repeat (first|refine blk_drewN ?_ _|refine blk_drew ?_|refine blk_alloc ?_ _));exact BK289.out) hb);have n1_:=Aside0.mk (below_step (by repeat (first|(with_reducible first|exact HB.out|apply below_alloc|apply pw_below_drewN|apply below_drew1|refine below_set ?_ GE289.out)|exact HB.out)) hb);clear BK289;clear HB;have BK289:=n0_;have HB:=n1_;clear n0_ n1_;(try clear hb);(try clear hb2);(try clear hk);(try clear hi)))
     go_ret2
     exact⟨by first|rfl|(simp [errW_none,errW_some] <;> rfl)|(simp [*,errW_none,errW_some] <;> rfl),by repeat (first|(with_reducible first|exact HB.out|apply below_alloc|apply pw_below_drewN|apply below_drew1|refine below_set ?_ GE289.out)|exact HB.out)⟩
   ·exact absurd H (by simp)
  ·replace c5:=Bool.eq_false_iff.mpr c5
   subst c5
   replace H:=itF H
   replace H:=bndO H
   obtain⟨t292,A190,H⟩:=H
   have A19:=Aside0.mk A190
   clear A190
   replace H:=itO H
   rcases H with⟨c20,H⟩|⟨c20,H⟩
   ·skip
    have c20b0:=eq_true c20
    have c20b1:=decide_eq_true c20
    try have c20b2:=eq_false (Nat.not_lt.2 c20)
    try (have c20n:39+t292.size≤9223372036854775807:=by have h_:=c20;simp only [ByteArray.size_append,ByteArray.size_extract] at h_;exact h_)
    try have c20f:(9223372036854775807<39+t292.size)=False:=eq_false (by first|omega|(simp only [eq_iff_iff,iff_true] at *;omega))
    replace H:=itO H
    rcases H with⟨c21,H⟩|⟨c21,H⟩
    ·skip
     have c21b0:decide (65536<(((⟨#[60,63,120,109,108,32,118,101,114,115,105,111,110,61,34,49,46,48,34,32,101,110,99,111,100,105,110,103,61,34,85,84,70,45,56,34,63,62,10]⟩ : ByteArray)++t292).size:Int))=true:=decide_eq_true c21
     have c21w:decide ((65536:Int)<39+(t292.size:Int))=true:=by
      have h_:=of_decide_eq_true c21b0
      rw [ByteArray.size_append] at h_
      have e_:((⟨#[60,63,120,109,108,32,118,101,114,115,105,111,110,61,34,49,46,48,34,32,101,110,99,111,100,105,110,103,61,34,85,84,70,45,56,34,63,62,10]⟩ : ByteArray)).size=39:=rfl
      exact decide_eq_true (by omega)
     have c21b1:decide (65536<((⟨#[60,63,120,109,108,32,118,101,114,115,105,111,110,61,34,49,46,48,34,32,101,110,99,111,100,105,110,103,61,34,85,84,70,45,56,34,63,62,10]⟩ : ByteArray)++t292).size)=true:=decide_eq_true (by omega)
     try (have c21m:=c21;simp only [ByteArray.size_append,Int.natCast_add,Int.not_lt] at c21m)
     clear c21
     simp only [Option.some.injEq,Prod.mk.injEq] at H
     obtain⟨rfl,rfl⟩:=H
     go_enter Tryd.func36,Tryd.ntmps36
     go_wp2_with (first|((with_reducible refine gate_dst (N:=2) rfl ?_);refine box_event ?hg (N:=2) ?hd (cs:=#[.string a0_0,.string a0_1,.slice A0_2 l0_2.length c0_2]) (t:=48) ?hr ?_;(case hd=>rfl);(case hg=>rfl);(case hr=>first|(go_simp;done)|(go_simp;rfl));intro gb289 hg w22 hbox hb;have n0_:=Aside0.mk (below_step (by repeat (first|(with_reducible first|exact HB.out|apply below_alloc|apply pw_below_drewN|apply below_drew1)|exact HB.out)) hb);have n1_:=Aside0.mk (hbox);have n2_:=Aside0.mk ((by rw [hg];exact(below_size (by repeat (first|(with_reducible first|exact HB.out|apply below_alloc|apply pw_below_drewN|apply below_drew1)|exact HB.out))):w.heap.size≤gb289));have n3_:=Aside0.mk ((by rw [hg];exact(below_size (by repeat (first|(with_reducible first|exact HB.out|apply below_alloc|apply pw_below_drewN|apply below_drew1)|exact HB.out))):w.heap.size≤gb289));clear HB;have HB:=n0_;have BK289:=n1_;have GW289:=n2_;have GE289:=n3_;clear n0_ n1_ n2_ n3_;clear hb hbox hg;have hcz23_0:w22.cell? ⟨gb289,0,none⟩=some (.string a0_0):=(blk_cell BK289.out 0).trans rfl;have hcz23_1:w22.cell? ⟨gb289,1,none⟩=some (.string a0_1):=(blk_cell BK289.out 1).trans rfl;have hcz23_2:w22.cell? ⟨gb289,2,none⟩=some (.slice A0_2 l0_2.length c0_2):=(blk_cell BK289.out 2).trans rfl;have hfz23_0:=blk_frozen BK289.out 0;have hfz23_1:=blk_frozen BK289.out 1;have hfz23_2:=blk_frozen BK289.out 2)|((with_reducible refine gate_callee (f:=61) rfl ?_);refine goesL_ (some 9) rfl rfl Tryd.func61 (by kernel_rfl) rfl #[.agg #[.string a0_0,.string a0_1,.slice A0_2 l0_2.length c0_2],.int .i64 1] rfl (by(try simp only [List.map_toArray,List.map_cons,List.map_nil]);first|done|rfl|(simp only [List.length_drop,List.length_take];rfl)) ?_;(with_reducible refine(stowageref13_fit.calls k a0_0 a0_1 _ _ l0_2 1 true _ ?side1 ?side2 A3.out).mono ?_);(case side1=>repeat (first|exact(Kd.C_below HR0_2.out HB.out)|(with_reducible refine Kd.C_alloc ?_ _)|(with_reducible refine Kd.C_drewN ?_ _)|(with_reducible refine Kd.C_drew ?_)));(case side2=>exact HC0_2.out);rintro e w24 ⟨rfl,hb⟩;refine⟨_,rfl,?_⟩;have n0_:=Aside0.mk (blk_below (g:=gb289) (o:=.cells #[.string a0_0,.string a0_1,.slice A0_2 l0_2.length c0_2] 48 (0,0)) (by(with_reducible repeat (first|refine blk_drewN ?_ _|refine blk_drew ?_|refine blk_alloc ?_ _));exact BK289.out) hb);have n1_:=Aside0.mk (below_step (by repeat (first|(with_reducible first|exact HB.out|apply below_alloc|apply pw_below_drewN|apply below_drew1|refine below_set ?_ GE289.out)|exact HB.out)) hb);clear BK289;clear HB;have BK289:=n0_;have HB:=n1_;clear n0_ n1_;(try clear hb);(try clear hb2);(try clear hk);(try clear hi);have hcz25_0:w24.cell? ⟨gb289,0,none⟩=some (.string a0_0):=(blk_cell BK289.out 0).trans rfl;have hcz25_1:w24.cell? ⟨gb289,1,none⟩=some (.string a0_1):=(blk_cell BK289.out 1).trans rfl;have hcz25_2:w24.cell? ⟨gb289,2,none⟩=some (.slice A0_2 l0_2.length c0_2):=(blk_cell BK289.out 2).trans rfl;have hfz25_0:=blk_frozen BK289.out 0;have hfz25_1:=blk_frozen BK289.out 1;have hfz25_2:=blk_frozen BK289.out 2)|((with_reducible refine gate_callee (f:=62) rfl ?_);refine goesL_ (some 14) rfl rfl Tryd.func62 (by kernel_rfl) rfl #[.agg #[.string a0_0,.string a0_1,.slice A0_2 l0_2.length c0_2],.string (⟨#[]⟩ : ByteArray)] rfl (by(try simp only [List.map_toArray,List.map_cons,List.map_nil]);first|done|rfl|(simp only [List.length_drop,List.length_take];rfl)) ?_;(with_reducible refine(stowageref13_text.calls k a0_0 a0_1 _ _ l0_2 (⟨#[]⟩ : ByteArray) t292 _ ?side1 ?side2 A19.out).mono ?_);(case side1=>repeat (first|exact(Kd.C_below HR0_2.out HB.out)|(with_reducible refine Kd.C_alloc ?_ _)|(with_reducible refine Kd.C_drewN ?_ _)|(with_reducible refine Kd.C_drew ?_)));(case side2=>exact HC0_2.out);rintro e w26 ⟨rfl,hb⟩;refine⟨_,rfl,?_⟩;have n0_:=Aside0.mk (blk_below (g:=gb289) (o:=.cells #[.string a0_0,.string a0_1,.slice A0_2 l0_2.length c0_2] 48 (0,0)) (by(with_reducible repeat (first|refine blk_drewN ?_ _|refine blk_drew ?_|refine blk_alloc ?_ _));exact BK289.out) hb);have n1_:=Aside0.mk (below_step (by repeat (first|(with_reducible first|exact HB.out|apply below_alloc|apply pw_below_drewN|apply below_drew1|refine below_set ?_ GE289.out)|exact HB.out)) hb);clear BK289;clear HB;have BK289:=n0_;have HB:=n1_;clear n0_ n1_;(try clear hb);(try clear hb2);(try clear hk);(try clear hi)))
     go_ret2
     exact⟨by first|rfl|(simp [errW_none,errW_some] <;> rfl)|(simp [*,errW_none,errW_some] <;> rfl),by repeat (first|(with_reducible first|exact HB.out|apply below_alloc|apply pw_below_drewN|apply below_drew1|refine below_set ?_ GE289.out)|exact HB.out)⟩
    ·skip
     have c21b0:decide (65536<(((⟨#[60,63,120,109,108,32,118,101,114,115,105,111,110,61,34,49,46,48,34,32,101,110,99,111,100,105,110,103,61,34,85,84,70,45,56,34,63,62,10]⟩ : ByteArray)++t292).size:Int))=false:=decide_eq_false c21
     have c21w:decide ((65536:Int)<39+(t292.size:Int))=false:=by
      have h_:=of_decide_eq_false c21b0
      rw [ByteArray.size_append] at h_
      have e_:((⟨#[60,63,120,109,108,32,118,101,114,115,105,111,110,61,34,49,46,48,34,32,101,110,99,111,100,105,110,103,61,34,85,84,70,45,56,34,63,62,10]⟩ : ByteArray)).size=39:=rfl
      exact decide_eq_false (by omega)
     have c21b1:decide (65536<((⟨#[60,63,120,109,108,32,118,101,114,115,105,111,110,61,34,49,46,48,34,32,101,110,99,111,100,105,110,103,61,34,85,84,70,45,56,34,63,62,10]⟩ : ByteArray)++t292).size)=false:=decide_eq_false (by omega)
     try (have c21m:=c21;simp only [ByteArray.size_append,Int.natCast_add,Int.not_lt] at c21m)
     clear c21
     simp only [Option.some.injEq,Prod.mk.injEq] at H
     obtain⟨rfl,rfl⟩:=H
     go_enter Tryd.func36,Tryd.ntmps36
     go_wp2_with (first|((with_reducible refine gate_dst (N:=2) rfl ?_);refine box_event ?hg (N:=2) ?hd (cs:=#[.string a0_0,.string a0_1,.slice A0_2 l0_2.length c0_2]) (t:=48) ?hr ?_;(case hd=>rfl);(case hg=>rfl);(case hr=>first|(go_simp;done)|(go_simp;rfl));intro gb289 hg w27 hbox hb;have n0_:=Aside0.mk (below_step (by repeat (first|(with_reducible first|exact HB.out|apply below_alloc|apply pw_below_drewN|apply below_drew1)|exact HB.out)) hb);have n1_:=Aside0.mk (hbox);have n2_:=Aside0.mk ((by rw [hg];exact(below_size (by repeat (first|(with_reducible first|exact HB.out|apply below_alloc|apply pw_below_drewN|apply below_drew1)|exact HB.out))):w.heap.size≤gb289));have n3_:=Aside0.mk ((by rw [hg];exact(below_size (by repeat (first|(with_reducible first|exact HB.out|apply below_alloc|apply pw_below_drewN|apply below_drew1)|exact HB.out))):w.heap.size≤gb289));clear HB;have HB:=n0_;have BK289:=n1_;have GW289:=n2_;have GE289:=n3_;clear n0_ n1_ n2_ n3_;clear hb hbox hg;have hcz28_0:w27.cell? ⟨gb289,0,none⟩=some (.string a0_0):=(blk_cell BK289.out 0).trans rfl;have hcz28_1:w27.cell? ⟨gb289,1,none⟩=some (.string a0_1):=(blk_cell BK289.out 1).trans rfl;have hcz28_2:w27.cell? ⟨gb289,2,none⟩=some (.slice A0_2 l0_2.length c0_2):=(blk_cell BK289.out 2).trans rfl;have hfz28_0:=blk_frozen BK289.out 0;have hfz28_1:=blk_frozen BK289.out 1;have hfz28_2:=blk_frozen BK289.out 2)|((with_reducible refine gate_callee (f:=61) rfl ?_);refine goesL_ (some 9) rfl rfl Tryd.func61 (by kernel_rfl) rfl #[.agg #[.string a0_0,.string a0_1,.slice A0_2 l0_2.length c0_2],.int .i64 1] rfl (by(try simp only [List.map_toArray,List.map_cons,List.map_nil]);first|done|rfl|(simp only [List.length_drop,List.length_take];rfl)) ?_;(with_reducible refine(stowageref13_fit.calls k a0_0 a0_1 _ _ l0_2 1 true _ ?side1 ?side2 A3.out).mono ?_);(case side1=>repeat (first|exact(Kd.C_below HR0_2.out HB.out)|(with_reducible refine Kd.C_alloc ?_ _)|(with_reducible refine Kd.C_drewN ?_ _)|(with_reducible refine Kd.C_drew ?_)));(case side2=>exact HC0_2.out);rintro e w29 ⟨rfl,hb⟩;refine⟨_,rfl,?_⟩;have n0_:=Aside0.mk (blk_below (g:=gb289) (o:=.cells #[.string a0_0,.string a0_1,.slice A0_2 l0_2.length c0_2] 48 (0,0)) (by(with_reducible repeat (first|refine blk_drewN ?_ _|refine blk_drew ?_|refine blk_alloc ?_ _));exact BK289.out) hb);have n1_:=Aside0.mk (below_step (by repeat (first|(with_reducible first|exact HB.out|apply below_alloc|apply pw_below_drewN|apply below_drew1|refine below_set ?_ GE289.out)|exact HB.out)) hb);clear BK289;clear HB;have BK289:=n0_;have HB:=n1_;clear n0_ n1_;(try clear hb);(try clear hb2);(try clear hk);(try clear hi);have hcz30_0:w29.cell? ⟨gb289,0,none⟩=some (.string a0_0):=(blk_cell BK289.out 0).trans rfl;have hcz30_1:w29.cell? ⟨gb289,1,none⟩=some (.string a0_1):=(blk_cell BK289.out 1).trans rfl;have hcz30_2:w29.cell? ⟨gb289,2,none⟩=some (.slice A0_2 l0_2.length c0_2):=(blk_cell BK289.out 2).trans rfl;have hfz30_0:=blk_frozen BK289.out 0;have hfz30_1:=blk_frozen BK289.out 1;have hfz30_2:=blk_frozen BK289.out 2)|((with_reducible refine gate_callee (f:=62) rfl ?_);refine goesL_ (some 14) rfl rfl Tryd.func62 (by kernel_rfl) rfl #[.agg #[.string a0_0,.string a0_1,.slice A0_2 l0_2.length c0_2],.string (⟨#[]⟩ : ByteArray)] rfl (by(try simp only [List.map_toArray,List.map_cons,List.map_nil]);first|done|rfl|(simp only [List.length_drop,List.length_take];rfl)) ?_;(with_reducible refine(stowageref13_text.calls k a0_0 a0_1 _ _ l0_2 (⟨#[]⟩ : ByteArray) t292 _ ?side1 ?side2 A19.out).mono ?_);(case side1=>repeat (first|exact(Kd.C_below HR0_2.out HB.out)|(with_reducible refine Kd.C_alloc ?_ _)|(with_reducible refine Kd.C_drewN ?_ _)|(with_reducible refine Kd.C_drew ?_)));(case side2=>exact HC0_2.out);rintro e w31 ⟨rfl,hb⟩;refine⟨_,rfl,?_⟩;have n0_:=Aside0.mk (blk_below (g:=gb289) (o:=.cells #[.string a0_0,.string a0_1,.slice A0_2 l0_2.length c0_2] 48 (0,0)) (by(with_reducible repeat (first|refine blk_drewN ?_ _|refine blk_drew ?_|refine blk_alloc ?_ _));exact BK289.out) hb);have n1_:=Aside0.mk (below_step (by repeat (first|(with_reducible first|exact HB.out|apply below_alloc|apply pw_below_drewN|apply below_drew1|refine below_set ?_ GE289.out)|exact HB.out)) hb);clear BK289;clear HB;have BK289:=n0_;have HB:=n1_;clear n0_ n1_;(try clear hb);(try clear hb2);(try clear hk);(try clear hi)))
     go_ret2
     exact⟨by first|rfl|(simp [errW_none,errW_some] <;> rfl)|(simp [*,errW_none,errW_some] <;> rfl),by repeat (first|(with_reducible first|exact HB.out|apply below_alloc|apply pw_below_drewN|apply below_drew1|refine below_set ?_ GE289.out)|exact HB.out)⟩
   ·exact absurd H (by simp)
 ·replace c4:=Bool.eq_false_iff.mpr c4
  subst c4
  replace H:=itF H
  simp only [Option.some.injEq,Prod.mk.injEq] at H
  obtain⟨rfl,rfl⟩:=H
  go_enter Tryd.func36,Tryd.ntmps36
  go_wp2_with (first|((with_reducible refine gate_dst (N:=2) rfl ?_);refine box_event ?hg (N:=2) ?hd (cs:=#[.string a0_0,.string a0_1,.slice A0_2 l0_2.length c0_2]) (t:=48) ?hr ?_;(case hd=>rfl);(case hg=>rfl);(case hr=>first|(go_simp;done)|(go_simp;rfl));intro gb289 hg w32 hbox hb;have n0_:=Aside0.mk (below_step (by repeat (first|(with_reducible first|exact HB.out|apply below_alloc|apply pw_below_drewN|apply below_drew1)|exact HB.out)) hb);have n1_:=Aside0.mk (hbox);have n2_:=Aside0.mk ((by rw [hg];exact(below_size (by repeat (first|(with_reducible first|exact HB.out|apply below_alloc|apply pw_below_drewN|apply below_drew1)|exact HB.out))):w.heap.size≤gb289));have n3_:=Aside0.mk ((by rw [hg];exact(below_size (by repeat (first|(with_reducible first|exact HB.out|apply below_alloc|apply pw_below_drewN|apply below_drew1)|exact HB.out))):w.heap.size≤gb289));clear HB;have HB:=n0_;have BK289:=n1_;have GW289:=n2_;have GE289:=n3_;clear n0_ n1_ n2_ n3_;clear hb hbox hg;have hcz33_0:w32.cell? ⟨gb289,0,none⟩=some (.string a0_0):=(blk_cell BK289.out 0).trans rfl;have hcz33_1:w32.cell? ⟨gb289,1,none⟩=some (.string a0_1):=(blk_cell BK289.out 1).trans rfl;have hcz33_2:w32.cell? ⟨gb289,2,none⟩=some (.slice A0_2 l0_2.length c0_2):=(blk_cell BK289.out 2).trans rfl;have hfz33_0:=blk_frozen BK289.out 0;have hfz33_1:=blk_frozen BK289.out 1;have hfz33_2:=blk_frozen BK289.out 2)|((with_reducible refine gate_callee (f:=61) rfl ?_);refine goesL_ (some 9) rfl rfl Tryd.func61 (by kernel_rfl) rfl #[.agg #[.string a0_0,.string a0_1,.slice A0_2 l0_2.length c0_2],.int .i64 1] rfl (by(try simp only [List.map_toArray,List.map_cons,List.map_nil]);first|done|rfl|(simp only [List.length_drop,List.length_take];rfl)) ?_;(with_reducible refine(stowageref13_fit.calls k a0_0 a0_1 _ _ l0_2 1 false _ ?side1 ?side2 A3.out).mono ?_);(case side1=>repeat (first|exact(Kd.C_below HR0_2.out HB.out)|(with_reducible refine Kd.C_alloc ?_ _)|(with_reducible refine Kd.C_drewN ?_ _)|(with_reducible refine Kd.C_drew ?_)));(case side2=>exact HC0_2.out);rintro e w34 ⟨rfl,hb⟩;refine⟨_,rfl,?_⟩;have n0_:=Aside0.mk (blk_below (g:=gb289) (o:=.cells #[.string a0_0,.string a0_1,.slice A0_2 l0_2.length c0_2] 48 (0,0)) (by(with_reducible repeat (first|refine blk_drewN ?_ _|refine blk_drew ?_|refine blk_alloc ?_ _));exact BK289.out) hb);have n1_:=Aside0.mk (below_step (by repeat (first|(with_reducible first|exact HB.out|apply below_alloc|apply pw_below_drewN|apply below_drew1|refine below_set ?_ GE289.out)|exact HB.out)) hb);clear BK289;clear HB;have BK289:=n0_;have HB:=n1_;clear n0_ n1_;(try clear hb);(try clear hb2);(try clear hk);(try clear hi)))
  go_ret2
  exact⟨by first|rfl|(simp [errW_none,errW_some] <;> rfl)|(simp [*,errW_none,errW_some] <;> rfl),by repeat (first|(with_reducible first|exact HB.out|apply below_alloc|apply pw_below_drewN|apply below_drew1|refine below_set ?_ GE289.out)|exact HB.out)⟩
def stowageref17_Node.f (k:Nat) (a0:Int) (a1_0:ByteArray) (a1_1:ByteArray) (l1_2:List (S48)):Option (Int×(List (S52))×List Int):=(stowageref13_Print.f k a1_0 a1_1 l1_2 true).bind fun bt295=>(if bt295.2=0 then(if bt295.1.size≤140737488355328 then(some (a0,(([(⟨(⟨#[67,111,110,116,101,110,116,45,84,121,112,101]⟩ : ByteArray),(⟨#[97,112,112,108,105,99,97,116,105,111,110,47,120,109,108]⟩ : ByteArray)⟩ : S52)]:List (S52))),(bytesOf bt295.1))) else(none)) else(some (500,([]:List (S52)),([]:List Int))))
theorem stowageref17_Node.mono:∀ a0 a1 a2 a3 k,LeO (stowageref17_Node.f k a0 a1 a2 a3) (stowageref17_Node.f (k+1) a0 a1 a2 a3):=by
 intro a0 a1 a2 a3 k
 unfold stowageref17_Node.f
 repeat' first
   | (with_reducible exact stowageref13_Print.mono _ _ _ _ _)
   | (with_reducible exact LeO.refl _)
   | (with_reducible exact LeO.none _)
   | (with_reducible refine LeO.ite ?_ ?_)
   | (with_reducible refine LeO.bind ?_ (fun _=>?_))
   | exact stowageref13_Print.mono _ _ _ _ _
   | exact LeO.none _
   | refine LeO.ite ?_ ?_
   | refine LeO.bind ?_ (fun _=>?_)
theorem stowageref17_Node.calls (k:Nat) (a0:Int) (a1_0:ByteArray) (a1_1:ByteArray) (A1_2:Option Addr) (c1_2:Nat) (l1_2:List (S48)) (r1:Int) (r2:List (S52)) (r3:List Int) (w:World) (hr1_2:Kd.C k48 w A1_2 l1_2.length l1_2) (hc1_2:l1_2.length≤c1_2) (h:stowageref17_Node.f k a0 a1_0 a1_1 l1_2=some (r1,r2,r3)) :
  Calls Tryd.prog 19 #[.int .i64 a0,.agg #[.string a1_0,.string a1_1,.slice A1_2 l1_2.length c1_2]] w fun e w'=>∃ v1_ v2_:Value,e = .returned (.agg #[.int .i64 r1,v1_,v2_])∧Kd.R k52 52 w' w.heap.size (fun k_=>(w.heap.size≤k_)) v1_ r2∧Kd.V (Kd.int .u8) 5 w' w.heap.size (fun k_=>(w.heap.size≤k_)∧some k_≠(v1_:Value).ownBlock) v2_ r3∧Below w.heap.size w w':=by
 have hu48:=Tryd.underlying48
 have hu27:=Tryd.underlying27
 have hu52:=Tryd.underlying52
 have HR1_2:=Aside0.mk hr1_2
 have HC1_2:=Aside0.mk hc1_2
 clear hr1_2 hc1_2
 have HB:=Aside0.mk (Below.refl w.heap.size w)
 unfold stowageref17_Node.f at h
 have H:=h
 clear h
 replace H:=bndO H
 obtain⟨⟨t295,t296⟩,A30,H⟩:=H
 dsimp only at H
 have A3:=Aside0.mk A30
 clear A30
 replace H:=itO H
 rcases H with⟨c4,H⟩|⟨c4,H⟩
 ·skip
  have c4b0:(t296 == 0)=true:=beq_iff_eq.mpr c4
  have c4b1:(t296 != 0)=false:=bne_eq_false_iff_eq.mpr c4
  clear c4
  obtain⟨y297,hy297⟩ : ∃ y_:List (S52),y_=(([(⟨(⟨#[67,111,110,116,101,110,116,45,84,121,112,101]⟩ : ByteArray),(⟨#[97,112,112,108,105,99,97,116,105,111,110,47,120,109,108]⟩ : ByteArray)⟩ : S52)]:List (S52))):=⟨_,rfl⟩
  replace H:(if t295.size≤140737488355328 then(some (a0,y297,(bytesOf t295))) else(none))=some (r1,r2,r3):=by first|(rw [hy297];with_reducible exact H)|(have H2_:=(Option.bind_some _ _).symm.trans H;rw [hy297];with_reducible exact H2_)|(have H2_:=(Option.bind_some _ _).symm.trans H;with_reducible exact H2_)|with_reducible exact H|(rw [hy297];exact H)|exact H
  have Ny297:=Aside0.mk hy297
  clear hy297
  replace H:=itO H
  rcases H with⟨c5,H⟩|⟨c5,H⟩
  ·skip
   have c5b0:=eq_true c5
   have c5b1:=decide_eq_true c5
   clear c5
   obtain⟨y300,hy300⟩ : ∃ y_:List Int,y_=(bytesOf t295):=⟨_,rfl⟩
   replace H:(some (a0,y297,y300))=some (r1,r2,r3):=by first|(rw [hy300];with_reducible exact H)|(have H2_:=(Option.bind_some _ _).symm.trans H;rw [hy300];with_reducible exact H2_)|(have H2_:=(Option.bind_some _ _).symm.trans H;with_reducible exact H2_)|with_reducible exact H|(rw [hy300];exact H)|exact H
   have Ny300:=Aside0.mk hy300
   clear hy300
   simp only [Option.some.injEq,Prod.mk.injEq] at H
   obtain⟨rfl,rfl,rfl⟩:=H
   go_enter Tryd.func19,Tryd.ntmps19
   go_wp2_with (first|((with_reducible refine gate_dst (N:=3) rfl ?_);refine box_event ?hg (N:=3) ?hd (cs:=#[.string a1_0,.string a1_1,.slice A1_2 l1_2.length c1_2]) (t:=48) ?hr ?_;(case hd=>rfl);(case hg=>rfl);(case hr=>first|(go_simp;done)|(go_simp;rfl));intro gb293 hg w6 hbox hb;have n0_:=Aside0.mk (below_step (by repeat (first|(with_reducible first|exact HB.out|apply below_alloc|apply pw_below_drewN|apply below_drew1)|exact HB.out)) hb);have n1_:=Aside0.mk (hbox);have n2_:=Aside0.mk ((by rw [hg];exact(below_size (by repeat (first|(with_reducible first|exact HB.out|apply below_alloc|apply pw_below_drewN|apply below_drew1)|exact HB.out))):w.heap.size≤gb293));have n3_:=Aside0.mk ((by rw [hg];exact(below_size (by repeat (first|(with_reducible first|exact HB.out|apply below_alloc|apply pw_below_drewN|apply below_drew1)|exact HB.out))):w.heap.size≤gb293));clear HB;have HB:=n0_;have BK293:=n1_;have GW293:=n2_;have GE293:=n3_;clear n0_ n1_ n2_ n3_;clear hb hbox hg)|((with_reducible refine gate_dst (N:=4) rfl ?_);refine box_event ?hg (N:=4) ?hd (cs:=#[.int .i64 0,.slice none 0 0,.slice none 0 0]) (t:=27) ?hr ?_;(case hd=>rfl);(case hg=>rfl);(case hr=>first|(go_simp;done)|(go_simp;rfl));intro gb294 hg w7 hbox hb;have n0_:=Aside0.mk (blk_below (g:=gb293) (o:=.cells #[.string a1_0,.string a1_1,.slice A1_2 l1_2.length c1_2] 48 (0,0)) (by(with_reducible repeat (first|refine blk_drewN ?_ _|refine blk_drew ?_|refine blk_alloc ?_ _));exact BK293.out) hb);have n1_:=Aside0.mk (below_step (by repeat (first|(with_reducible first|exact HB.out|apply below_alloc|apply pw_below_drewN|apply below_drew1|refine below_set ?_ GE293.out)|exact HB.out)) hb);have n2_:=Aside0.mk (hbox);have n3_:=Aside0.mk ((by rw [hg];exact(below_size (by repeat (first|(with_reducible first|exact HB.out|apply below_alloc|apply pw_below_drewN|apply below_drew1|refine below_set ?_ GE293.out)|exact HB.out))):w.heap.size≤gb294));have n4_:=Aside0.mk ((by rw [hg];exact(below_size (by repeat (first|(with_reducible first|exact HB.out|apply below_alloc|apply pw_below_drewN|apply below_drew1|refine below_set ?_ GE293.out)|exact HB.out))):w.heap.size≤gb294));have n5_:=Aside0.mk ((by rw [hg];exact Nat.ne_of_lt (blk_lt (g:=gb293) (o:=.cells #[.string a1_0,.string a1_1,.slice A1_2 l1_2.length c1_2] 48 (0,0)) (by(with_reducible repeat (first|refine blk_drewN ?_ _|refine blk_drew ?_|refine blk_alloc ?_ _));exact BK293.out)):gb293≠gb294));have n6_:=Aside0.mk ((by rw [hg];exact Nat.ne_of_gt (blk_lt (g:=gb293) (o:=.cells #[.string a1_0,.string a1_1,.slice A1_2 l1_2.length c1_2] 48 (0,0)) (by(with_reducible repeat (first|refine blk_drewN ?_ _|refine blk_drew ?_|refine blk_alloc ?_ _));exact BK293.out)):gb294≠gb293));clear BK293;clear HB;have BK293:=n0_;have HB:=n1_;have BK294:=n2_;have GW294:=n3_;have GE294:=n4_;have NB293_294:=n5_;have NB294_293:=n6_;clear n0_ n1_ n2_ n3_ n4_ n5_ n6_;clear hb hbox hg;have hnb8:=NB293_294.out;have hnc8:=NB294_293.out;have hcz9_0:w7.cell? ⟨gb293,0,none⟩=some (.string a1_0):=(blk_cell BK293.out 0).trans rfl;have hcz9_1:w7.cell? ⟨gb293,1,none⟩=some (.string a1_1):=(blk_cell BK293.out 1).trans rfl;have hcz9_2:w7.cell? ⟨gb293,2,none⟩=some (.slice A1_2 l1_2.length c1_2):=(blk_cell BK293.out 2).trans rfl;have hfz9_0:=blk_frozen BK293.out 0;have hfz9_1:=blk_frozen BK293.out 1;have hfz9_2:=blk_frozen BK293.out 2)|((with_reducible refine gate_callee (f:=36) rfl ?_);refine goesL_ (some 9) rfl rfl Tryd.func36 (by kernel_rfl) rfl #[.agg #[.string a1_0,.string a1_1,.slice A1_2 l1_2.length c1_2],.bool true] rfl (by(try simp only [List.map_toArray,List.map_cons,List.map_nil]);first|done|rfl|(simp only [List.length_drop,List.length_take];rfl)) ?_;(with_reducible refine(stowageref13_Print.calls k a1_0 a1_1 _ _ l1_2 true t295 t296 _ ?side1 ?side2 A3.out).mono ?_);(case side1=>repeat (first|exact(Kd.C_below HR1_2.out HB.out)|(with_reducible refine Kd.C_alloc ?_ _)|(with_reducible refine Kd.C_drewN ?_ _)|(with_reducible refine Kd.C_drew ?_)));(case side2=>exact HC1_2.out);rintro e w10 ⟨rfl,hb⟩;refine⟨_,rfl,?_⟩;have n0_:=Aside0.mk (blk_below (g:=gb293) (o:=.cells #[.string a1_0,.string a1_1,.slice A1_2 l1_2.length c1_2] 48 (0,0)) (by(with_reducible repeat (first|refine blk_drewN ?_ _|refine blk_drew ?_|refine blk_alloc ?_ _));exact BK293.out) hb);have n1_:=Aside0.mk (blk_below (g:=gb294) (o:=.cells #[.int .i64 0,.slice none 0 0,.slice none 0 0] 27 (0,0)) (by(with_reducible repeat (first|refine blk_drewN ?_ _|refine blk_drew ?_|refine blk_alloc ?_ _));exact BK294.out) hb);have n2_:=Aside0.mk (below_step (by repeat (first|(with_reducible first|exact HB.out|apply below_alloc|apply pw_below_drewN|apply below_drew1|refine below_set ?_ GE293.out|refine below_set ?_ GE294.out)|exact HB.out)) hb);clear BK293;clear BK294;clear HB;have BK293:=n0_;have BK294:=n1_;have HB:=n2_;clear n0_ n1_ n2_;(try clear hb);(try clear hb2);(try clear hk);(try clear hi))|((with_reducible refine gate_dst (N:=17) rfl ?_);refine Kd.R_lit k52 _ 52 ?hg (N:=17) ?hd (xs:=([(⟨(⟨#[67,111,110,116,101,110,116,45,84,121,112,101]⟩ : ByteArray),(⟨#[97,112,112,108,105,99,97,116,105,111,110,47,120,109,108]⟩ : ByteArray)⟩ : S52)]:List (S52))) (inner:=[.string (⟨#[67,111,110,116,101,110,116,45,84,121,112,101]⟩ : ByteArray),.string (⟨#[97,112,112,108,105,99,97,116,105,111,110,47,120,109,108]⟩ : ByteArray)]) (ok:=fun _=>True) (okp:=fun _=>True) ?hr ?hp (fun _ hk=>hk) trivial (Below.refl _ _) (Nat.le_refl _) (by simp) ?_;(case hd=>rfl);(case hg=>rfl);(case hr=>first|(go_simp;done)|(go_simp;rfl));(case hp=>exact(Reps.c2 (show Kd.M k52 _ _ _ (⟨(⟨#[67,111,110,116,101,110,116,45,84,121,112,101]⟩ : ByteArray),(⟨#[97,112,112,108,105,99,97,116,105,111,110,47,120,109,108]⟩ : ByteArray)⟩ : S52) [.string (⟨#[67,111,110,116,101,110,116,45,84,121,112,101]⟩ : ByteArray),.string (⟨#[97,112,112,108,105,99,97,116,105,111,110,47,120,109,108]⟩ : ByteArray)] from(k52_mkM _ _ _ (⟨(⟨#[67,111,110,116,101,110,116,45,84,121,112,101]⟩ : ByteArray),(⟨#[97,112,112,108,105,99,97,116,105,111,110,47,120,109,108]⟩ : ByteArray)⟩ : S52))) (Reps.none _ _)));intro v298 w11 ho12 hb hg_ hnew_;clear hg_ hnew_;(first|rw [← Ny297.out] at ho12|(simp only [Int.reduceToNat] at ho12;rw [← Ny297.out] at ho12));have n0_:=Aside0.mk (Kd.R_lower (Kd.R_newM (M:=fun k_=>(w.heap.size≤k_)) ho12 (below_size (by repeat (first|(with_reducible first|exact HB.out|apply below_alloc|apply pw_below_drewN|apply below_drew1|refine below_set ?_ GE293.out|refine below_set ?_ GE294.out)|exact HB.out))) (fun k_ h_=>h_)) (below_size (by repeat (first|(with_reducible first|exact HB.out|apply below_alloc|apply pw_below_drewN|apply below_drew1|refine below_set ?_ GE293.out|refine below_set ?_ GE294.out)|exact HB.out))));have n1_:=Aside0.mk (blk_below (g:=gb293) (o:=.cells #[.string a1_0,.string a1_1,.slice A1_2 l1_2.length c1_2] 48 (0,0)) (by(with_reducible repeat (first|refine blk_drewN ?_ _|refine blk_drew ?_|refine blk_alloc ?_ _));exact BK293.out) hb);have n2_:=Aside0.mk (blk_below (g:=gb294) (o:=.cells #[.int .i64 0,.slice none 0 0,.slice none 0 0] 27 (0,0)) (by(with_reducible repeat (first|refine blk_drewN ?_ _|refine blk_drew ?_|refine blk_alloc ?_ _));exact BK294.out) hb);have n3_:=Aside0.mk (below_step (by repeat (first|(with_reducible first|exact HB.out|apply below_alloc|apply pw_below_drewN|apply below_drew1|refine below_set ?_ GE293.out|refine below_set ?_ GE294.out)|exact HB.out)) hb);clear BK293;clear BK294;clear HB;have HO299:=n0_;have BK293:=n1_;have BK294:=n2_;have HB:=n3_;clear n0_ n1_ n2_ n3_;clear hb ho12)|((with_reducible refine gate_dst (N:=19) rfl ?_);refine Kd.V_bytesM _ 5 rfl (N:=19) rfl 9 23 _ rfl t295 rfl Tryd.underlying9 Tryd.underlying23 Tryd.underlying5 (ok:=fun k_=>w11.heap.size≤k_) (Nat.le_refl _) (by first|assumption|omega|exact of_eq_true (by assumption)) (Below.refl _ _) (Nat.le_refl _) ?_;intro v301 w13 ho14 hb hg_ hnew_;rw [← Ny300.out] at hnew_;have MKHO302:=Aside0.mk (ByRow.lower hnew_ ((below_size (by repeat (first|(with_reducible first|exact HB.out|apply below_alloc|apply pw_below_drewN|apply below_drew1|refine below_set ?_ GE293.out|refine below_set ?_ GE294.out)|exact HB.out)))));clear hg_ hnew_;(first|rw [← Ny300.out] at ho14|(simp only [Int.reduceToNat] at ho14;rw [← Ny300.out] at ho14));have n0_:=Aside0.mk (Kd.R_below (by(with_reducible repeat (first|apply Kd.R_alloc|apply Kd.R_drewN|apply Kd.R_drew));exact HO299.out) hb);have n1_:=Aside0.mk (Kd.V_lower (Kd.V_mono (ok':=fun k_=>(w.heap.size≤k_)∧some k_≠(v298:Value).ownBlock∧k_≠gb293∧k_≠gb294) ho14 (fun k_ hk_=>⟨(Nat.le_trans (below_size (by repeat (first|(with_reducible first|exact HB.out|apply below_alloc|apply pw_below_drewN|apply below_drew1|refine below_set ?_ GE293.out|refine below_set ?_ GE294.out)|exact HB.out))) hk_),(Kd.fresh' (Kd.R_lt (by(with_reducible repeat (first|apply Kd.R_alloc|apply Kd.R_drewN|apply Kd.R_drew));exact HO299.out)) k_ hk_),(Kd.freshB (g:=gb293) (o:=.cells #[.string a1_0,.string a1_1,.slice A1_2 l1_2.length c1_2] 48 (0,0)) (by(with_reducible repeat (first|refine blk_drewN ?_ _|refine blk_drew ?_|refine blk_alloc ?_ _));exact BK293.out) k_ hk_),(Kd.freshB (g:=gb294) (o:=.cells #[.int .i64 0,.slice none 0 0,.slice none 0 0] 27 (0,0)) (by(with_reducible repeat (first|refine blk_drewN ?_ _|refine blk_drew ?_|refine blk_alloc ?_ _));exact BK294.out) k_ hk_)⟩)) (below_size (by repeat (first|(with_reducible first|exact HB.out|apply below_alloc|apply pw_below_drewN|apply below_drew1|refine below_set ?_ GE293.out|refine below_set ?_ GE294.out)|exact HB.out))));have n2_:=Aside0.mk (blk_below (g:=gb293) (o:=.cells #[.string a1_0,.string a1_1,.slice A1_2 l1_2.length c1_2] 48 (0,0)) (by(with_reducible repeat (first|refine blk_drewN ?_ _|refine blk_drew ?_|refine blk_alloc ?_ _));exact BK293.out) hb);have n3_:=Aside0.mk (blk_below (g:=gb294) (o:=.cells #[.int .i64 0,.slice none 0 0,.slice none 0 0] 27 (0,0)) (by(with_reducible repeat (first|refine blk_drewN ?_ _|refine blk_drew ?_|refine blk_alloc ?_ _));exact BK294.out) hb);have n4_:=Aside0.mk (below_step (by repeat (first|(with_reducible first|exact HB.out|apply below_alloc|apply pw_below_drewN|apply below_drew1|refine below_set ?_ GE293.out|refine below_set ?_ GE294.out)|exact HB.out)) hb);clear HO299;clear BK293;clear BK294;clear HB;have HO299:=n0_;have HO302:=n1_;have BK293:=n2_;have BK294:=n3_;have HB:=n4_;clear n0_ n1_ n2_ n3_ n4_;clear hb ho14;obtain⟨Ao15,co15,eo15⟩:=Kd.V_slice HO302.out;subst eo15;obtain⟨Ao16,co16,eo16⟩:=Kd.R_slice HO299.out;subst eo16;have hcz17_0:w13.cell? ⟨gb294,0,none⟩=some (.int .i64 0):=(blk_cell BK294.out 0).trans rfl;have hcz17_1:w13.cell? ⟨gb294,1,none⟩=some (.slice none 0 0):=(blk_cell BK294.out 1).trans rfl;have hcz17_2:w13.cell? ⟨gb294,2,none⟩=some (.slice none 0 0):=(blk_cell BK294.out 2).trans rfl;have hfz17_0:=blk_frozen BK294.out 0;have hfz17_1:=blk_frozen BK294.out 1;have hfz17_2:=blk_frozen BK294.out 2))
   refine bodyPost_ret (results_cell_row rfl _ _ gb294 27 #[.int .i64 a0,.slice Ao16 y297.length co16,.slice Ao15 y300.length co15] (0,0) _ rfl (by(with_reducible repeat (first|refine blk_drewN ?_ _|refine blk_drew ?_|refine blk_alloc ?_ _));refine blk_put (cs:=#[.int .i64 a0,.slice Ao16 y297.length co16,.slice none 0 0]) ?_ 2 _ rfl;(with_reducible repeat (first|refine blk_drewN ?_ _|refine blk_drew ?_|refine blk_alloc ?_ _));refine blk_put (cs:=#[.int .i64 a0,.slice none 0 0,.slice none 0 0]) ?_ 1 _ rfl;(with_reducible repeat (first|refine blk_drewN ?_ _|refine blk_drew ?_|refine blk_alloc ?_ _));refine blk_put (cs:=#[.int .i64 0,.slice none 0 0,.slice none 0 0]) ?_ 0 _ rfl;(with_reducible repeat (first|refine blk_drewN ?_ _|refine blk_drew ?_|refine blk_alloc ?_ _));exact BK294.out) Tryd.underlying27 rfl (by kernel_rfl)) rfl ?_
   exact⟨_,_,by first|rfl|(simp [errW_none,errW_some] <;> rfl)|(simp [*,errW_none,errW_some] <;> rfl),by(with_reducible repeat (first|apply Kd.R_alloc|apply Kd.R_drewN|apply Kd.R_drew));exact Kd.R_mono (Kd.R_far (p:=⟨gb294,2,none⟩) (Kd.R_far (p:=⟨gb294,1,none⟩) (Kd.R_far (p:=⟨gb294,0,none⟩) (Kd.R_types HO299.out BK294.out (by decide)) (fun _ hk=>hk.2) (.int .i64 a0)) (fun _ hk=>hk.2) (.slice Ao16 y297.length co16)) (fun _ hk=>hk.2) (.slice Ao15 y300.length co15)) (fun _ hk=>hk.1.1),by(with_reducible repeat (first|apply Kd.V_alloc|apply Kd.V_drewN|apply Kd.V_drew));exact Kd.V_mono (Kd.V_far (p:=⟨gb294,2,none⟩) (Kd.V_far (p:=⟨gb294,1,none⟩) (Kd.V_far (p:=⟨gb294,0,none⟩) (Kd.V_mono HO302.out (fun k_ hk=>(⟨hk,hk.2.2.2⟩ : _∧k_≠gb294))) (fun _ hk=>hk.2) (.int .i64 a0)) (fun _ hk=>hk.2) (.slice Ao16 y297.length co16)) (fun _ hk=>hk.2) (.slice Ao15 y300.length co15)) (fun _ hk=>⟨hk.1.1,hk.1.2.1⟩),by repeat (first|(with_reducible first|exact HB.out|apply below_alloc|apply pw_below_drewN|apply below_drew1|refine below_set ?_ GE293.out|refine below_set ?_ GE294.out)|exact HB.out)⟩
  ·exact absurd H (by simp)
 ·skip
  have c4b0:(t296 == 0)=false:=beq_eq_false_iff_ne.mpr c4
  have c4b1:(t296 != 0)=true:=bne_iff_ne.mpr c4
  simp only [Option.some.injEq,Prod.mk.injEq] at H
  obtain⟨rfl,rfl,rfl⟩:=H
  go_enter Tryd.func19,Tryd.ntmps19
  go_wp2_with (first|((with_reducible refine gate_dst (N:=3) rfl ?_);refine box_event ?hg (N:=3) ?hd (cs:=#[.string a1_0,.string a1_1,.slice A1_2 l1_2.length c1_2]) (t:=48) ?hr ?_;(case hd=>rfl);(case hg=>rfl);(case hr=>first|(go_simp;done)|(go_simp;rfl));intro gb293 hg w18 hbox hb;have n0_:=Aside0.mk (below_step (by repeat (first|(with_reducible first|exact HB.out|apply below_alloc|apply pw_below_drewN|apply below_drew1)|exact HB.out)) hb);have n1_:=Aside0.mk (hbox);have n2_:=Aside0.mk ((by rw [hg];exact(below_size (by repeat (first|(with_reducible first|exact HB.out|apply below_alloc|apply pw_below_drewN|apply below_drew1)|exact HB.out))):w.heap.size≤gb293));have n3_:=Aside0.mk ((by rw [hg];exact(below_size (by repeat (first|(with_reducible first|exact HB.out|apply below_alloc|apply pw_below_drewN|apply below_drew1)|exact HB.out))):w.heap.size≤gb293));clear HB;have HB:=n0_;have BK293:=n1_;have GW293:=n2_;have GE293:=n3_;clear n0_ n1_ n2_ n3_;clear hb hbox hg)|((with_reducible refine gate_dst (N:=4) rfl ?_);refine box_event ?hg (N:=4) ?hd (cs:=#[.int .i64 0,.slice none 0 0,.slice none 0 0]) (t:=27) ?hr ?_;(case hd=>rfl);(case hg=>rfl);(case hr=>first|(go_simp;done)|(go_simp;rfl));intro gb294 hg w19 hbox hb;have n0_:=Aside0.mk (blk_below (g:=gb293) (o:=.cells #[.string a1_0,.string a1_1,.slice A1_2 l1_2.length c1_2] 48 (0,0)) (by(with_reducible repeat (first|refine blk_drewN ?_ _|refine blk_drew ?_|refine blk_alloc ?_ _));exact BK293.out) hb);have n1_:=Aside0.mk (below_step (by repeat (first|(with_reducible first|exact HB.out|apply below_alloc|apply pw_below_drewN|apply below_drew1|refine below_set ?_ GE293.out)|exact HB.out)) hb);have n2_:=Aside0.mk (hbox);have n3_:=Aside0.mk ((by rw [hg];exact(below_size (by repeat (first|(with_reducible first|exact HB.out|apply below_alloc|apply pw_below_drewN|apply below_drew1|refine below_set ?_ GE293.out)|exact HB.out))):w.heap.size≤gb294));have n4_:=Aside0.mk ((by rw [hg];exact(below_size (by repeat (first|(with_reducible first|exact HB.out|apply below_alloc|apply pw_below_drewN|apply below_drew1|refine below_set ?_ GE293.out)|exact HB.out))):w.heap.size≤gb294));have n5_:=Aside0.mk ((by rw [hg];exact Nat.ne_of_lt (blk_lt (g:=gb293) (o:=.cells #[.string a1_0,.string a1_1,.slice A1_2 l1_2.length c1_2] 48 (0,0)) (by(with_reducible repeat (first|refine blk_drewN ?_ _|refine blk_drew ?_|refine blk_alloc ?_ _));exact BK293.out)):gb293≠gb294));have n6_:=Aside0.mk ((by rw [hg];exact Nat.ne_of_gt (blk_lt (g:=gb293) (o:=.cells #[.string a1_0,.string a1_1,.slice A1_2 l1_2.length c1_2] 48 (0,0)) (by(with_reducible repeat (first|refine blk_drewN ?_ _|refine blk_drew ?_|refine blk_alloc ?_ _));exact BK293.out)):gb294≠gb293));clear BK293;clear HB;have BK293:=n0_;have HB:=n1_;have BK294:=n2_;have GW294:=n3_;have GE294:=n4_;have NB293_294:=n5_;have NB294_293:=n6_;clear n0_ n1_ n2_ n3_ n4_ n5_ n6_;clear hb hbox hg;have hnb20:=NB293_294.out;have hnc20:=NB294_293.out;have hcz21_0:w19.cell? ⟨gb293,0,none⟩=some (.string a1_0):=(blk_cell BK293.out 0).trans rfl;have hcz21_1:w19.cell? ⟨gb293,1,none⟩=some (.string a1_1):=(blk_cell BK293.out 1).trans rfl;have hcz21_2:w19.cell? ⟨gb293,2,none⟩=some (.slice A1_2 l1_2.length c1_2):=(blk_cell BK293.out 2).trans rfl;have hfz21_0:=blk_frozen BK293.out 0;have hfz21_1:=blk_frozen BK293.out 1;have hfz21_2:=blk_frozen BK293.out 2)|((with_reducible refine gate_callee (f:=36) rfl ?_);refine goesL_ (some 9) rfl rfl Tryd.func36 (by kernel_rfl) rfl #[.agg #[.string a1_0,.string a1_1,.slice A1_2 l1_2.length c1_2],.bool true] rfl (by(try simp only [List.map_toArray,List.map_cons,List.map_nil]);first|done|rfl|(simp only [List.length_drop,List.length_take];rfl)) ?_;(with_reducible refine(stowageref13_Print.calls k a1_0 a1_1 _ _ l1_2 true t295 t296 _ ?side1 ?side2 A3.out).mono ?_);(case side1=>repeat (first|exact(Kd.C_below HR1_2.out HB.out)|(with_reducible refine Kd.C_alloc ?_ _)|(with_reducible refine Kd.C_drewN ?_ _)|(with_reducible refine Kd.C_drew ?_)));(case side2=>exact HC1_2.out);rintro e w22 ⟨rfl,hb⟩;refine⟨_,rfl,?_⟩;have n0_:=Aside0.mk (blk_below (g:=gb293) (o:=.cells #[.string a1_0,.string a1_1,.slice A1_2 l1_2.length c1_2] 48 (0,0)) (by(with_reducible repeat (first|refine blk_drewN ?_ _|refine blk_drew ?_|refine blk_alloc ?_ _));exact BK293.out) hb);have n1_:=Aside0.mk (blk_below (g:=gb294) (o:=.cells #[.int .i64 0,.slice none 0 0,.slice none 0 0] 27 (0,0)) (by(with_reducible repeat (first|refine blk_drewN ?_ _|refine blk_drew ?_|refine blk_alloc ?_ _));exact BK294.out) hb);have n2_:=Aside0.mk (below_step (by repeat (first|(with_reducible first|exact HB.out|apply below_alloc|apply pw_below_drewN|apply below_drew1|refine below_set ?_ GE293.out|refine below_set ?_ GE294.out)|exact HB.out)) hb);clear BK293;clear BK294;clear HB;have BK293:=n0_;have BK294:=n1_;have HB:=n2_;clear n0_ n1_ n2_;(try clear hb);(try clear hb2);(try clear hk);(try clear hi);have hcz23_0:w22.cell? ⟨gb294,0,none⟩=some (.int .i64 0):=(blk_cell BK294.out 0).trans rfl;have hcz23_1:w22.cell? ⟨gb294,1,none⟩=some (.slice none 0 0):=(blk_cell BK294.out 1).trans rfl;have hcz23_2:w22.cell? ⟨gb294,2,none⟩=some (.slice none 0 0):=(blk_cell BK294.out 2).trans rfl;have hfz23_0:=blk_frozen BK294.out 0;have hfz23_1:=blk_frozen BK294.out 1;have hfz23_2:=blk_frozen BK294.out 2))
  refine bodyPost_ret (results_cell_row rfl _ _ gb294 27 #[.int .i64 500,.slice none 0 0,.slice none 0 0] (0,0) _ rfl (by(with_reducible repeat (first|refine blk_drewN ?_ _|refine blk_drew ?_|refine blk_alloc ?_ _));refine blk_put (cs:=#[.int .i64 500,.slice none 0 0,.slice none 0 0]) ?_ 2 _ rfl;(with_reducible repeat (first|refine blk_drewN ?_ _|refine blk_drew ?_|refine blk_alloc ?_ _));refine blk_put (cs:=#[.int .i64 500,.slice none 0 0,.slice none 0 0]) ?_ 1 _ rfl;(with_reducible repeat (first|refine blk_drewN ?_ _|refine blk_drew ?_|refine blk_alloc ?_ _));refine blk_put (cs:=#[.int .i64 0,.slice none 0 0,.slice none 0 0]) ?_ 0 _ rfl;(with_reducible repeat (first|refine blk_drewN ?_ _|refine blk_drew ?_|refine blk_alloc ?_ _));exact BK294.out) Tryd.underlying27 rfl (by kernel_rfl)) rfl ?_
  exact⟨_,_,by first|rfl|(simp [errW_none,errW_some] <;> rfl)|(simp [*,errW_none,errW_some] <;> rfl),by first|exact Kd.R_nil _ _ _ _ _|exact Kd.N_nil _ _ _ _ _|exact Kd.V_nil _ _ _ _ _|exact Kd.Q_nil _ _ _ _ _|exact Kd.S_nil _ _ _ _ _,by first|exact Kd.V_nil _ _ _ _ _|exact Kd.R_nil _ _ _ _ _|exact Kd.N_nil _ _ _ _ _|exact Kd.V_nil _ _ _ _ _|exact Kd.Q_nil _ _ _ _ _|exact Kd.S_nil _ _ _ _ _,by repeat (first|(with_reducible first|exact HB.out|apply below_alloc|apply pw_below_drewN|apply below_drew1|refine below_set ?_ GE293.out|refine below_set ?_ GE294.out)|exact HB.out)⟩
end Go.Proofs.YtfjidcmegacibaaDoor.Q
