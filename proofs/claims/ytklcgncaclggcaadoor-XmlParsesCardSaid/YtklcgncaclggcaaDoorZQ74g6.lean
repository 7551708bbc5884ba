/- A part of the proof of the seat's laws. No condition beyond those in the theorems. -/
import Derived.Test.YtklcgncaclggcaaDoorZSqzB
import Derived.Test.YtklcgncaclggcaaDoorZQ0g18
import Derived.Test.YtklcgncaclggcaaDoorZQ80g5
import Derived.WalkMore
import Derived.Test.YtklcgncaclggcaaDoorZQ82
import Derived.Test.YtklcgncaclggcaaDoorZQ53g10
import Derived.Test.YtklcgncaclggcaaDoorZQ66g4
open Bool renaming true→T,false→F

namespace Go.Proofs.YtklcgncaclggcaaDoor.Q
open Go.RowKit Go.Proofs.YtklcgncaclggcaaDoorW.PrintWords Go.Proofs.YtklcgncaclggcaaDoorW.PrintLast Go.Proofs.YtklcgncaclggcaaDoorW.PrintMore
set_option linter.unusedVariables false
set_option linter.unusedSimpArgs false
set_option maxHeartbeats 8000000
set_option maxRecDepth 100000
attribute [local go_sem] max2_int min2_int max_two min_two max_three min_three max_four min_four   
mutual
def stowageref3_Step.j2:Nat→ByteArray→Int→Int→Int→Option (Int×Int)
  | 0,_,_,_,_=>none
  | k+1,x0,x5,x6,x7=>if(x0.size:Int)<x5 then(some (0,0)) else(stowageref3_Step.l0 k x0 x5 x6 x7 1)
def stowageref3_Step.l0:Nat→ByteArray→Int→Int→Int→Int→Option (Int×Int)
  | 0,_,_,_,_,_=>none
  | k+1,x0,x5,x6,x7,x8=>if x8<x5 then(if 0≤x8 then(if x8<(x0.size:Int) then(if(bt x0 x8)<128 then(some (0,0)) else(if(bt x0 x8) ≥ 192 then(some (0,0)) else(stowageref3_Step.l0 k x0 x5 (wrap64 ((wrap64 ((wrap64 (64*x6))+(wrap64 (bt x0 x8))))-128)) x7 (wrap64 (x8+1))))) else(none)) else(none)) else(if x6<x7 then(some (0,0)) else(if x6>1114111 then(some (0,0)) else(if x6 ≥ 55296 then(if x6<57344 then(some (0,0)) else(some (x6,x5))) else(some (x6,x5)))))
def stowageref3_Step.j0:Nat→ByteArray→Int→Bool→Option (Int×Int)
  | 0,_,_,_=>none
  | k+1,x0,x4,x16=>if x16=true then(stowageref3_Step.j2 k x0 2 (wrap64 (x4-192)) 128) else(if x4 ≥ 224 then(stowageref3_Step.j1 k x0 x4 (decide (x4<240))) else(stowageref3_Step.j1 k x0 x4 false))
def stowageref3_Step.j1:Nat→ByteArray→Int→Bool→Option (Int×Int)
  | 0,_,_,_=>none
  | k+1,x0,x4,x25=>if x25=true then(stowageref3_Step.j2 k x0 3 (wrap64 (x4-224)) 2048) else(if x4 ≥ 240 then(if x4<248 then(stowageref3_Step.j2 k x0 4 (wrap64 (x4-240)) 65536) else(some (0,0))) else(some (0,0)))
end
def stowageref3_Step.f (k:Nat) (a0:ByteArray):Option (Int×Int):=if 0<(a0.size:Int) then(if(wrap64 (bt a0 0))<128 then(some (wrap64 (bt a0 0),1)) else(if(wrap64 (bt a0 0)) ≥ 192 then(stowageref3_Step.j0 k a0 (wrap64 (bt a0 0)) (decide ((wrap64 (bt a0 0))<224))) else(stowageref3_Step.j0 k a0 (wrap64 (bt a0 0)) false))) else(none)
theorem stowageref3_Step.mono_l:∀ k,(∀ y0 y1 y2 y3,LeO (stowageref3_Step.j2 k y0 y1 y2 y3) (stowageref3_Step.j2 (k+1) y0 y1 y2 y3))∧(∀ y0 y1 y2 y3 y4,LeO (stowageref3_Step.l0 k y0 y1 y2 y3 y4) (stowageref3_Step.l0 (k+1) y0 y1 y2 y3 y4))∧(∀ y0 y1 y2,LeO (stowageref3_Step.j0 k y0 y1 y2) (stowageref3_Step.j0 (k+1) y0 y1 y2))∧(∀ y0 y1 y2,LeO (stowageref3_Step.j1 k y0 y1 y2) (stowageref3_Step.j1 (k+1) y0 y1 y2))
  | 0=>⟨fun _ _ _ _ r h=>by simp [stowageref3_Step.j2] at h,fun _ _ _ _ _ r h=>by simp [stowageref3_Step.l0] at h,fun _ _ _ r h=>by simp [stowageref3_Step.j0] at h,fun _ _ _ r h=>by simp [stowageref3_Step.j1] at h⟩
  | k+1=>by
    obtain⟨ih0,ih1,ih2,ih3⟩:=stowageref3_Step.mono_l k
    refine⟨?_,?_,?_,?_⟩
    · intro y0 y1 y2 y3
      unfold stowageref3_Step.j2
      with_reducible repeat' first|exact ih0 _ _ _ _|exact ih1 _ _ _ _ _|exact ih2 _ _ _|exact ih3 _ _ _|exact LeO.refl _|exact LeO.none _|refine LeO.ite ?_ ?_|refine LeO.bind ?_ (fun _=>?_)
    · intro y0 y1 y2 y3 y4
      unfold stowageref3_Step.l0
      with_reducible repeat' first|exact ih0 _ _ _ _|exact ih1 _ _ _ _ _|exact ih2 _ _ _|exact ih3 _ _ _|exact LeO.refl _|exact LeO.none _|refine LeO.ite ?_ ?_|refine LeO.bind ?_ (fun _=>?_)
    · intro y0 y1 y2
      unfold stowageref3_Step.j0
      with_reducible repeat' first|exact ih0 _ _ _ _|exact ih1 _ _ _ _ _|exact ih2 _ _ _|exact ih3 _ _ _|exact LeO.refl _|exact LeO.none _|refine LeO.ite ?_ ?_|refine LeO.bind ?_ (fun _=>?_)
    · intro y0 y1 y2
      unfold stowageref3_Step.j1
      with_reducible repeat' first|exact ih0 _ _ _ _|exact ih1 _ _ _ _ _|exact ih2 _ _ _|exact ih3 _ _ _|exact LeO.refl _|exact LeO.none _|refine LeO.ite ?_ ?_|refine LeO.bind ?_ (fun _=>?_)
theorem stowageref3_Step.mono:∀ a0 k,LeO (stowageref3_Step.f k a0) (stowageref3_Step.f (k+1) a0):=by
 intro a0 k
 obtain⟨ih0,ih1,ih2,ih3⟩:=stowageref3_Step.mono_l k
 unfold stowageref3_Step.f
 with_reducible repeat' first|exact ih0 _ _ _ _|exact ih1 _ _ _ _ _|exact ih2 _ _ _|exact ih3 _ _ _|exact LeO.refl _|exact LeO.none _|refine LeO.ite ?_ ?_|refine LeO.bind ?_ (fun _=>?_)
theorem stowageref3_Step.calls (k:Nat) (a0:ByteArray) (r1:Int) (r2:Int) (w:World) (h:stowageref3_Step.f k a0=some (r1,r2)) :
    Calls Tryd.prog 62 #[.string a0] w fun e w'=>e = .returned (.tuple #[.int .i64 r1,.int .i64 r2])∧Drawn0 w w':=by
 unfold stowageref3_Step.f at h
 have H:=h
 clear h
 replace H:=itO H
 rcases H with⟨c2,H⟩|⟨c2,H⟩
 {
 have c2b0:decide (0<(a0.size:Int))=true:=decide_eq_true c2
 have c2b1:decide (0<a0.size)=true:=decide_eq_true (by omega)
 clear c2
 have HC4:=Aside0.mk H
 clear H
 have p3:0≤(0:Int):=(by omega)
 have q3:0<a0.size:=(by have:(0:Int)<(a0.size:Int):=of_decide_eq_true asm;omega)
 have hx3:∀ h:0<a0.size,((a0[0]'h).toNat:Int)=bt a0 0:=bt_at a0 0
 clear p3
 have qi3:(0<(a0.size:Int))=True:=eq_true (of_decide_eq_true asm)
 replace q3:=eq_true q3
 go_enter Tryd.func62,Tryd.ntmps62
 go_upto_block 0 with(fail)
 go_cut [5,6,7] (fun v5 v6 v7 wc=>∃ (kq:Nat) (x5_3:Int) (x6_3:Int) (x7_3:Int),v5 = .int .i64 x5_3∧v6 = .int .i64 x6_3∧v7 = .int .i64 x7_3∧Aside0 (stowageref3_Step.j2 kq a0 x5_3 x6_3 x7_3=some (r1,r2))∧Aside0 (kq≤k)∧Drawn0 w wc)
 case first=>
  have H:=HC4.out
  clear HC4
  replace H:=itO H
  rcases H with⟨c5,H⟩|⟨c5,H⟩
  {
  have c5b0:decide ((wrap64 (bt a0 0))<128)=true:=decide_eq_true c5
  clear c5
  (first|rw [c5b0]|(simp only [i64_w,i32_w];rw [c5b0])|skip)
  simp only [Option.some.injEq,Prod.mk.injEq] at H
  obtain⟨rfl,rfl⟩:=H
  go_wp2
  go_ret2
  exact⟨rs,dr⟩
  }
  {
  have c5b0:decide ((wrap64 (bt a0 0))<128)=false:=decide_eq_false c5
  clear c5
  (first|rw [c5b0]|(simp only [i64_w,i32_w];rw [c5b0])|skip)
  have HC6:=Aside0.mk H
  clear H
  go_upto_region 8 with(fail)
  go_cut [16] (fun v16 wc=>∃ (kq:Nat) (x16_5:Bool),v16 = .bool x16_5∧Aside0 (stowageref3_Step.j0 kq a0 (wrap64 (bt a0 0)) x16_5=some (r1,r2))∧Aside0 (kq≤k)∧Drawn0 w wc)
  case first=>
   have H:=HC6.out
   clear HC6
   replace H:=itO H
   rcases H with⟨c7,H⟩|⟨c7,H⟩
   {
   have c7b0:decide (192≤(wrap64 (bt a0 0)))=true:=decide_eq_true c7
   clear c7
   (first|rw [c7b0]|(simp only [i64_w,i32_w];rw [c7b0])|skip)
   have H':=Aside0.mk H
   clear H
   go_wp2
   go_meet
   case rel=>exact⟨_,(decide ((wrap64 (bt a0 0))<224)),rs,H',⟨by first|omega|exact Nat.le_refl _⟩,by repeat (first|exact Drawn0.refl _|apply Drawn0.step)⟩
   }
   {
   have c7b0:decide (192≤(wrap64 (bt a0 0)))=false:=decide_eq_false c7
   clear c7
   (first|rw [c7b0]|(simp only [i64_w,i32_w];rw [c7b0])|skip)
   have H':=Aside0.mk H
   clear H
   go_wp2
   go_meet
   case rel=>exact⟨_,(false),rs,H',⟨by first|omega|exact Nat.le_refl _⟩,by repeat (first|exact Drawn0.refl _|apply Drawn0.step)⟩
   }
  case rest=>
   clear HC6
   obtain⟨kq,x16_5,rfl,HA,HJ5,⟨mc5,rfl⟩⟩:=hcut
   cases kq with
   | zero=>exact absurd HA.out (by simp [stowageref3_Step.j0])
   | succ kj5=>
    have H:=HA.out
    clear HA
    simp only [stowageref3_Step.j0] at H
    by_cases c8:x16_5=true
    {
    subst c8
    replace H:=itT H
    have H':=Aside0.mk H
    clear H
    go_wp2
    go_meet
    case rel=>exact⟨_,(2),(wrap64 ((wrap64 (bt a0 0))-192)),(128),rs,rs,rs,H',⟨by have:=HJ5.out;first|omega|exact Nat.le_refl _⟩,by repeat (first|exact Drawn0.refl _|apply Drawn0.step)⟩
    }
    {
    replace c8:=Bool.eq_false_iff.mpr c8
    subst c8
    replace H:=itF H
    have HC9:=Aside0.mk H
    clear H
    go_upto_region 12 with(fail)
    go_cut [25] (fun v25 wc=>∃ (kq:Nat) (x25_8:Bool),v25 = .bool x25_8∧Aside0 (stowageref3_Step.j1 kq a0 (wrap64 (bt a0 0)) x25_8=some (r1,r2))∧Aside0 (kq≤kj5)∧Drawn0 w wc)
    case first=>
     have H:=HC9.out
     clear HC9
     replace H:=itO H
     rcases H with⟨c10,H⟩|⟨c10,H⟩
     {
     have c10b0:decide (224≤(wrap64 (bt a0 0)))=true:=decide_eq_true c10
     clear c10
     (first|rw [c10b0]|(simp only [i64_w,i32_w];rw [c10b0])|skip)
     have H':=Aside0.mk H
     clear H
     go_wp2
     go_meet
     case rel=>exact⟨_,(decide ((wrap64 (bt a0 0))<240)),rs,H',⟨by have:=HJ5.out;first|omega|exact Nat.le_refl _⟩,by repeat (first|exact Drawn0.refl _|apply Drawn0.step)⟩
     }
     {
     have c10b0:decide (224≤(wrap64 (bt a0 0)))=false:=decide_eq_false c10
     clear c10
     (first|rw [c10b0]|(simp only [i64_w,i32_w];rw [c10b0])|skip)
     have H':=Aside0.mk H
     clear H
     go_wp2
     go_meet
     case rel=>exact⟨_,(false),rs,H',⟨by have:=HJ5.out;first|omega|exact Nat.le_refl _⟩,by repeat (first|exact Drawn0.refl _|apply Drawn0.step)⟩
     }
    case rest=>
     clear HC9
     obtain⟨kq,x25_8,rfl,HA,HJ8,⟨mc8,rfl⟩⟩:=hcut
     cases kq with
     | zero=>exact absurd HA.out (by simp [stowageref3_Step.j1])
     | succ kj8=>
      have H:=HA.out
      clear HA
      simp only [stowageref3_Step.j1] at H
      by_cases c11:x25_8=true
      {
      subst c11
      replace H:=itT H
      have H':=Aside0.mk H
      clear H
      go_wp2
      go_meet
      case rel=>exact⟨_,(3),(wrap64 ((wrap64 (bt a0 0))-224)),(2048),rs,rs,rs,H',⟨by have:=HJ5.out;have:=HJ8.out;first|omega|exact Nat.le_refl _⟩,by repeat (first|exact Drawn0.refl _|apply Drawn0.step)⟩
      }
      {
      replace c11:=Bool.eq_false_iff.mpr c11
      subst c11
      replace H:=itF H
      replace H:=itO H
      rcases H with⟨c12,H⟩|⟨c12,H⟩
      {
      have c12b0:decide (240≤(wrap64 (bt a0 0)))=true:=decide_eq_true c12
      clear c12
      replace H:=itO H
      rcases H with⟨c13,H⟩|⟨c13,H⟩
      {
      have c13b0:decide ((wrap64 (bt a0 0))<248)=true:=decide_eq_true c13
      clear c13
      have H':=Aside0.mk H
      clear H
      go_wp2
      go_meet
      case rel=>exact⟨_,(4),(wrap64 ((wrap64 (bt a0 0))-240)),(65536),rs,rs,rs,H',⟨by have:=HJ5.out;have:=HJ8.out;first|omega|exact Nat.le_refl _⟩,by repeat (first|exact Drawn0.refl _|apply Drawn0.step)⟩
      }
      {
      have c13b0:decide ((wrap64 (bt a0 0))<248)=false:=decide_eq_false c13
      clear c13
      simp only [Option.some.injEq,Prod.mk.injEq] at H
      obtain⟨rfl,rfl⟩:=H
      go_wp2
      go_ret2
      exact⟨rs,dr⟩
      }
      }
      {
      have c12b0:decide (240≤(wrap64 (bt a0 0)))=false:=decide_eq_false c12
      clear c12
      simp only [Option.some.injEq,Prod.mk.injEq] at H
      obtain⟨rfl,rfl⟩:=H
      go_wp2
      go_ret2
      exact⟨rs,dr⟩
      }
      }
    }
  }
 case rest=>
  clear HC4
  obtain⟨kq,x5_3,x6_3,x7_3,rfl,rfl,rfl,HA,HJ3,⟨mc3,rfl⟩⟩:=hcut
  cases kq with
  | zero=>exact absurd HA.out (by simp [stowageref3_Step.j2])
  | succ kj3=>
   have H:=HA.out
   clear HA
   simp only [stowageref3_Step.j2] at H
   replace H:=itO H
   rcases H with⟨c14,H⟩|⟨c14,H⟩
   {
   have c14b0:decide ((a0.size:Int)<x5_3)=true:=decide_eq_true c14
   clear c14
   simp only [Option.some.injEq,Prod.mk.injEq] at H
   obtain⟨rfl,rfl⟩:=H
   go_wp2
   go_ret2
   exact⟨rs,dr⟩
   }
   {
   have c14b0:decide ((a0.size:Int)<x5_3)=false:=decide_eq_false c14
   clear c14
   have H':=Aside0.mk H
   clear H
   go_wp2
   go_loopg [6,8] kj3 (fun kq v6 v8 w'=>∃ (x6_2:Int) (x8_2:Int),v6 = .int .i64 x6_2∧v8 = .int .i64 x8_2∧Aside0 (stowageref3_Step.l0 kq a0 x5_3 x6_2 x7_3 x8_2=some (r1,r2))∧Aside0 (kq≤kj3)∧Drawn0 w w')
   case atStart=>exact⟨(x6_3),(1),rs,rs,H',⟨Nat.le_refl _⟩,by repeat (first|exact Drawn0.refl _|apply Drawn0.step)⟩
   case round=>
    clear H'
    obtain⟨x6_2,x8_2,rfl,rfl,HA,HK2,⟨m2,rfl⟩⟩:=hrel
    cases gk with
    | zero=>exact absurd HA.out (by simp [stowageref3_Step.l0])
    | succ k2=>
     have H:=HA.out
     clear HA
     simp only [stowageref3_Step.l0] at H
     replace H:=itO H
     rcases H with⟨c15,H⟩|⟨c15,H⟩
     {
     have c15b0:decide (x8_2<x5_3)=true:=decide_eq_true c15
     clear c15
     replace H:=itO H
     rcases H with⟨c16,H⟩|⟨c16,H⟩
     {
     have c16b0:decide (0≤x8_2)=true:=decide_eq_true c16
     clear c16
     replace H:=itO H
     rcases H with⟨c17,H⟩|⟨c17,H⟩
     {
     have c17b0:decide (x8_2<(a0.size:Int))=true:=decide_eq_true c17
     clear c17
     replace H:=itO H
     rcases H with⟨c19,H⟩|⟨c19,H⟩
     {
     have c19b0:decide ((bt a0 x8_2)<128)=true:=decide_eq_true c19
     clear c19
     simp only [Option.some.injEq,Prod.mk.injEq] at H
     obtain⟨rfl,rfl⟩:=H
     have p18:0≤(x8_2:Int):=of_decide_eq_true asm
     have q18:x8_2<(a0.size:Int):=of_decide_eq_true asm
     have hx18:=bt_at a0 x8_2
     replace p18:=eq_true p18
     replace q18:=eq_true q18
     go_wp2
     go_ret2
     exact⟨rs,dr⟩
     }
     {
     have c19b0:decide ((bt a0 x8_2)<128)=false:=decide_eq_false c19
     clear c19
     replace H:=itO H
     rcases H with⟨c21,H⟩|⟨c21,H⟩
     {
     have c21b0:decide (192≤(bt a0 x8_2))=true:=decide_eq_true c21
     clear c21
     simp only [Option.some.injEq,Prod.mk.injEq] at H
     obtain⟨rfl,rfl⟩:=H
     have p18:0≤(x8_2:Int):=of_decide_eq_true asm
     have q18:x8_2<(a0.size:Int):=of_decide_eq_true asm
     have hx18:=bt_at a0 x8_2
     replace p18:=eq_true p18
     replace q18:=eq_true q18
     have p20:0≤(x8_2:Int):=of_decide_eq_true asm
     have q20:x8_2<(a0.size:Int):=of_decide_eq_true asm
     have hx20:=bt_at a0 x8_2
     replace p20:=eq_true p20
     replace q20:=eq_true q20
     go_wp2
     go_ret2
     exact⟨rs,dr⟩
     }
     {
     have c21b0:decide (192≤(bt a0 x8_2))=false:=decide_eq_false c21
     clear c21
     have H':=Aside0.mk H
     clear H
     have p18:0≤(x8_2:Int):=of_decide_eq_true asm
     have q18:x8_2<(a0.size:Int):=of_decide_eq_true asm
     have hx18:=bt_at a0 x8_2
     replace p18:=eq_true p18
     replace q18:=eq_true q18
     have p20:0≤(x8_2:Int):=of_decide_eq_true asm
     have q20:x8_2<(a0.size:Int):=of_decide_eq_true asm
     have hx20:=bt_at a0 x8_2
     replace p20:=eq_true p20
     replace q20:=eq_true q20
     have p22:0≤(x8_2:Int):=of_decide_eq_true asm
     have q22:x8_2<(a0.size:Int):=of_decide_eq_true asm
     have hx22:=bt_at a0 x8_2
     replace p22:=eq_true p22
     replace q22:=eq_true q22
     go_wp2
     go_roundg k2
     case measure=>have:=HJ3.out;have:=HK2.out;omega
     case rel=>exact⟨(wrap64 ((wrap64 ((wrap64 (64*x6_2))+(wrap64 (bt a0 x8_2))))-128)),(wrap64 (x8_2+1)),rs,rs,H',⟨by have:=HJ3.out;have:=HK2.out;omega⟩,by repeat (first|exact Drawn0.refl _|apply Drawn0.step)⟩
     }
     }
     }
     ·exact absurd H (by simp)
     }
     ·exact absurd H (by simp)
     }
     {
     have c15b0:decide (x8_2<x5_3)=false:=decide_eq_false c15
     clear c15
     replace H:=itO H
     rcases H with⟨c23,H⟩|⟨c23,H⟩
     {
     have c23b0:decide (x6_2<x7_3)=true:=decide_eq_true c23
     clear c23
     simp only [Option.some.injEq,Prod.mk.injEq] at H
     obtain⟨rfl,rfl⟩:=H
     go_wp2
     go_ret2
     exact⟨rs,dr⟩
     }
     {
     have c23b0:decide (x6_2<x7_3)=false:=decide_eq_false c23
     clear c23
     replace H:=itO H
     rcases H with⟨c24,H⟩|⟨c24,H⟩
     {
     have c24b0:decide (1114111<x6_2)=true:=decide_eq_true c24
     clear c24
     simp only [Option.some.injEq,Prod.mk.injEq] at H
     obtain⟨rfl,rfl⟩:=H
     go_wp2
     go_ret2
     exact⟨rs,dr⟩
     }
     {
     have c24b0:decide (1114111<x6_2)=false:=decide_eq_false c24
     clear c24
     replace H:=itO H
     rcases H with⟨c25,H⟩|⟨c25,H⟩
     {
     have c25b0:decide (55296≤x6_2)=true:=decide_eq_true c25
     clear c25
     replace H:=itO H
     rcases H with⟨c26,H⟩|⟨c26,H⟩
     {
     have c26b0:decide (x6_2<57344)=true:=decide_eq_true c26
     clear c26
     simp only [Option.some.injEq,Prod.mk.injEq] at H
     obtain⟨rfl,rfl⟩:=H
     go_wp2
     go_ret2
     exact⟨rs,dr⟩
     }
     {
     have c26b0:decide (x6_2<57344)=false:=decide_eq_false c26
     clear c26
     simp only [Option.some.injEq,Prod.mk.injEq] at H
     obtain⟨rfl,rfl⟩:=H
     go_wp2
     go_ret2
     exact⟨rs,dr⟩
     }
     }
     {
     have c25b0:decide (55296≤x6_2)=false:=decide_eq_false c25
     clear c25
     simp only [Option.some.injEq,Prod.mk.injEq] at H
     obtain⟨rfl,rfl⟩:=H
     go_wp2
     go_ret2
     exact⟨rs,dr⟩
     }
     }
     }
     }
   }
 }
 ·exact absurd H (by simp)
def stowageref3_Legal.l0:Nat→ByteArray→Option (Bool)
 | 0,_=>none
 | k+1,x0=>if(x0.size:Int)>0 then((stowageref3_Step.f k x0).bind fun bt177=>(if bt177.2=0 then(some false) else((stowageref3_Char.f bt177.1).bind fun t179=>(if t179=true then(if 0≤bt177.2 then(if bt177.2≤(x0.size:Int) then(stowageref3_Legal.l0 k (x0.extract (bt177.2:Int).toNat x0.size)) else(none)) else(none)) else(some false))))) else(some true)
def stowageref3_Legal.f (k:Nat) (a0:ByteArray):Option (Bool):=stowageref3_Legal.l0 k a0
theorem stowageref3_Legal.mono_l:∀ k,(∀ y0,LeO (stowageref3_Legal.l0 k y0) (stowageref3_Legal.l0 (k+1) y0))
 | 0=>fun _ r h=>by simp [stowageref3_Legal.l0] at h
 | k+1=>by
  have ih0:=stowageref3_Legal.mono_l k
  ·intro y0
   unfold stowageref3_Legal.l0
   repeat' first
   | (with_reducible exact ih0 _)
   | (with_reducible exact stowageref3_Step.mono _ _)
   | (with_reducible exact LeO.refl _)
   | (with_reducible exact LeO.none _)
   | (with_reducible refine LeO.ite ?_ ?_)
   | (with_reducible refine LeO.bind ?_ (fun _=>?_))
   | exact ih0 _
   | exact stowageref3_Step.mono _ _
   | exact LeO.none _
   | refine LeO.ite ?_ ?_
   | refine LeO.bind ?_ (fun _=>?_)
theorem stowageref3_Legal.mono:∀ a0 k,LeO (stowageref3_Legal.f k a0) (stowageref3_Legal.f (k+1) a0):=by
 intro a0 k
 have ih0:=stowageref3_Legal.mono_l k
 unfold stowageref3_Legal.f
 repeat' first
   | (with_reducible exact ih0 _)
   | (with_reducible exact stowageref3_Step.mono _ _)
   | (with_reducible exact LeO.refl _)
   | (with_reducible exact LeO.none _)
   | (with_reducible refine LeO.ite ?_ ?_)
   | (with_reducible refine LeO.bind ?_ (fun _=>?_))
   | exact ih0 _
   | exact stowageref3_Step.mono _ _
   | exact LeO.none _
   | refine LeO.ite ?_ ?_
   | refine LeO.bind ?_ (fun _=>?_)
theorem stowageref3_Legal.calls (k:Nat) (a0:ByteArray) (r:Bool) (w:World) (h:stowageref3_Legal.f k a0=some r) :
  Calls Tryd.prog 31 #[.string a0] w fun e w'=>e = .returned (.bool r)∧Drawn0 w w':=by
 unfold stowageref3_Legal.f at h
 have H:=h
 clear h
 have H':=Aside0.mk H
 clear H
 go_enter Tryd.func31,Tryd.ntmps31
 go_wp2
 go_loopg [0] k (fun kq v0 w'=>∃ (x0_1:ByteArray),v0 = .string x0_1∧Aside0 (stowageref3_Legal.l0 kq x0_1=some r)∧Aside0 (kq≤k)∧Drawn0 w w')
 case atStart=>exact⟨(a0),(by first|rfl|(simp;done)|(simp [*];done)),H',⟨Nat.le_refl _⟩,by repeat (first|exact Drawn0.refl _|apply Drawn0.step)⟩
 case round=>
  clear H'
  obtain⟨x0_1,rfl,HA,HK1,⟨m1,rfl⟩⟩:=hrel
  cases gk with
  | zero=>exact absurd HA.out (by simp [stowageref3_Legal.l0])
  | succ k1=>
   have H:=HA.out
   clear HA
   simp only [stowageref3_Legal.l0] at H
   replace H:=itO H
   rcases H with⟨c2,H⟩|⟨c2,H⟩
   ·skip
    have c2b0:decide (0<(x0_1.size:Int))=true:=decide_eq_true c2
    have c2b1:decide (0<x0_1.size)=true:=decide_eq_true (by omega)
    clear c2
    replace H:=bndO H
    obtain⟨⟨t177,t178⟩,A30,H⟩:=H
    dsimp only at H
    have A3:=Aside0.mk A30
    clear A30
    replace H:=itO H
    rcases H with⟨c4,H⟩|⟨c4,H⟩
    ·skip
     have c4b0:(t178 == 0)=true:=beq_iff_eq.mpr c4
     have c4b1:(t178 != 0)=false:=bne_eq_false_iff_eq.mpr c4
     clear c4
     obtain rfl:=Option.some.inj H
     go_wp2_with (first|((with_reducible refine gate_callee (f:=62) rfl ?_);refine goesL_ (some 10) rfl rfl Tryd.func62 (by kernel_rfl) rfl #[.string x0_1] rfl (by(try simp only [List.map_toArray,List.map_cons,List.map_nil]);first|done|rfl|(simp only [List.length_drop,List.length_take];rfl)) ?_;(with_reducible refine(stowageref3_Step.calls k1 x0_1 t177 t178 _ A3.out).mono ?_);rintro e w' ⟨rfl,⟨nd,rfl⟩⟩;refine⟨_,rfl,?_⟩))
     go_ret
     exact⟨by first|rfl|(simp;done)|(simp [*];done),by repeat (first|exact Drawn0.refl _|apply Drawn0.step)⟩
    ·skip
     have c4b0:(t178 == 0)=false:=beq_eq_false_iff_ne.mpr c4
     have c4b1:(t178 != 0)=true:=bne_iff_ne.mpr c4
     replace H:=bndO H
     obtain⟨t179,A50,H⟩:=H
     have A5:=Aside0.mk A50
     clear A50
     by_cases c6:t179=true
     ·subst c6
      replace H:=itT H
      replace H:=itO H
      rcases H with⟨c7,H⟩|⟨c7,H⟩
      ·skip
       have c7b0:=eq_true c7
       have c7b1:=decide_eq_true c7
       clear c7
       replace H:=itO H
       rcases H with⟨c8,H⟩|⟨c8,H⟩
       ·skip
        have c8b0:=eq_true c8
        have c8b1:=decide_eq_true c8
        clear c8
        have H':=Aside0.mk H
        clear H
        go_wp2_with (first|((with_reducible refine gate_callee (f:=62) rfl ?_);refine goesL_ (some 10) rfl rfl Tryd.func62 (by kernel_rfl) rfl #[.string x0_1] rfl (by(try simp only [List.map_toArray,List.map_cons,List.map_nil]);first|done|rfl|(simp only [List.length_drop,List.length_take];rfl)) ?_;(with_reducible refine(stowageref3_Step.calls k1 x0_1 t177 t178 _ A3.out).mono ?_);rintro e w' ⟨rfl,⟨nd,rfl⟩⟩;refine⟨_,rfl,?_⟩)|(go_at_call 63;(with_reducible refine(stowageref3_Char.calls t177 true _ A5.out).mono ?_);rintro e w' ⟨rfl,⟨nd,rfl⟩⟩))
        go_roundg k1
        case measure=>have:=HK1.out;omega
        case rel=>exact⟨(x0_1.extract (t178:Int).toNat x0_1.size),(by first|rfl|(simp;done)|(simp [*];done)),H',⟨by have:=HK1.out;omega⟩,by repeat (first|exact Drawn0.refl _|apply Drawn0.step)⟩
       ·exact absurd H (by simp)
      ·exact absurd H (by simp)
     ·replace c6:=Bool.eq_false_iff.mpr c6
      subst c6
      replace H:=itF H
      obtain rfl:=Option.some.inj H
      go_wp2_with (first|((with_reducible refine gate_callee (f:=62) rfl ?_);refine goesL_ (some 10) rfl rfl Tryd.func62 (by kernel_rfl) rfl #[.string x0_1] rfl (by(try simp only [List.map_toArray,List.map_cons,List.map_nil]);first|done|rfl|(simp only [List.length_drop,List.length_take];rfl)) ?_;(with_reducible refine(stowageref3_Step.calls k1 x0_1 t177 t178 _ A3.out).mono ?_);rintro e w' ⟨rfl,⟨nd,rfl⟩⟩;refine⟨_,rfl,?_⟩)|(go_at_call 63;(with_reducible refine(stowageref3_Char.calls t177 false _ A5.out).mono ?_);rintro e w' ⟨rfl,⟨nd,rfl⟩⟩))
      go_ret
      exact⟨by first|rfl|(simp;done)|(simp [*];done),by repeat (first|exact Drawn0.refl _|apply Drawn0.step)⟩
   ·skip
    have c2b0:decide (0<(x0_1.size:Int))=false:=decide_eq_false c2
    have c2b1:decide (0<x0_1.size)=false:=decide_eq_false (by omega)
    clear c2
    obtain rfl:=Option.some.inj H
    go_wp2
    go_ret
    exact⟨by first|rfl|(simp;done)|(simp [*];done),by repeat (first|exact Drawn0.refl _|apply Drawn0.step)⟩
def stowageref13_Parse.f (k:Nat) (s:ByteArray):Option (ByteArray×ByteArray×List S30×Int):=(if(65536:Int)<(s.size:Int) then some (⟨#[]⟩,⟨#[]⟩,[],2) else((stowageref3_Legal.f k s).bind fun lg=>(if lg=true then((stowageref13_Reader_prolog.f k s 0 false).bind fun b=>(if b.1=true then((stowageref13_Reader_skip.f k b.2.1 b.2.2.1 b.2.2.2).bind fun a=>(rel.f k a.2.1 a.2.2.1 a.2.2.2 1).bind fun e=>(stowageref13_Reader_skip.f k e.2.1 e.2.2.1 e.2.2.2).bind fun z=>(if z.2.2.2=true then some (⟨#[]⟩,⟨#[]⟩,[],130) else(if z.2.2.1=(s.size:Int) then some (e.1.f0,e.1.f1,e.1.f2,0) else some (⟨#[]⟩,⟨#[]⟩,[],130)))) else some (⟨#[]⟩,⟨#[]⟩,[],130))) else some (⟨#[]⟩,⟨#[]⟩,[],130))))
theorem rel.at_mono:∀ k s p b,LeO (rel.at_ k s p b) (rel.at_ (k+1) s p b)
 | 0=>fun _ _ _ r h=>by simp [rel.at_] at h
 | k+1=>by
  have ih:=rel.at_mono k
  intro s p b
  unfold rel.at_
  with_reducible repeat' first|exact ih _ _ _|exact stowageref13_Reader_skip.mono _ _ _ _|exact stowageref13_Reader_attribute.mono _ _ _ _|exact LeO.refl _|exact LeO.none _|refine LeO.ite ?_ ?_|refine LeO.bind ?_ (fun _=>?_)
theorem rco.to_mono:∀ k s p b,LeO (rco.to k s p b) (rco.to (k+1) s p b)
 | 0=>fun _ _ _ r h=>by simp [rco.to] at h
 | k+1=>by
  have ih:=rco.to_mono k
  intro s p b
  unfold rco.to
  with_reducible repeat' first|exact ih _ _ _|exact LeO.refl _|exact LeO.none _|refine LeO.ite ?_ ?_
theorem rco.out_mono:∀ nm tx kids s p b k,LeO (rco.out k nm tx kids s p b) (rco.out (k+1) nm tx kids s p b):=by
 intro nm tx kids s p b k
 unfold rco.out
 with_reducible repeat' first|exact stowageref13_Reader_skip.mono _ _ _ _|exact stowageref13_Reader_name.mono _ _ _ _|exact LeO.refl _|exact LeO.none _|refine LeO.ite ?_ ?_|refine LeO.bind ?_ (fun _=>?_)
theorem rel.mono_l:∀ k,(∀ s p b d,LeO (rel.f k s p b d) (rel.f (k+1) s p b d))∧(∀ s p b d kids,LeO (rco.lp k s p b d kids) (rco.lp (k+1) s p b d kids))∧(∀ nm s p b d,LeO (rco.f k nm s p b d) (rco.f (k+1) nm s p b d))
 | 0=>⟨fun _ _ _ _ r h=>by simp [rel.f] at h,fun _ _ _ _ _ r h=>by simp [rco.lp] at h,fun _ _ _ _ _ r h=>by simp [rco.f] at h⟩
 | k+1=>by
  obtain⟨ih0,ih1,ih2⟩:=rel.mono_l k
  refine⟨?_,?_,?_⟩
  ·intro s p b d
   unfold rel.f
   with_reducible repeat' first|exact ih2 _ _ _ _ _|exact rel.at_mono _ _ _ _|exact stowageref13_Reader_name.mono _ _ _ _|exact LeO.refl _|exact LeO.none _|refine LeO.ite ?_ ?_|refine LeO.bind ?_ (fun _=>?_)
  ·intro s p b d kids
   unfold rco.lp
   with_reducible repeat' first|exact ih0 _ _ _ _|exact ih1 _ _ _ _ _|exact stowageref13_Reader_skip.mono _ _ _ _|exact LeO.refl _|exact LeO.none _|refine LeO.ite ?_ ?_|refine LeO.bind ?_ (fun _=>?_)
  ·intro nm s p b d
   unfold rco.f
   with_reducible repeat' first|exact ih1 _ _ _ _ _|exact rco.to_mono _ _ _ _|exact rco.out_mono _ _ _ _ _ _ _|exact stowageref13_Reader_skip.mono _ _ _ _|exact stowageref13_Unescape.mono _ _|exact LeO.refl _|exact LeO.none _|refine LeO.ite ?_ ?_|refine LeO.bind ?_ (fun _=>?_)
theorem stowageref13_Parse.mono:∀ a0 k,LeO (stowageref13_Parse.f k a0) (stowageref13_Parse.f (k+1) a0):=by
 intro a0 k
 unfold stowageref13_Parse.f
 with_reducible repeat' first|exact(rel.mono_l k).1 _ _ _ _|exact stowageref13_Reader_skip.mono _ _ _ _|exact stowageref3_Legal.mono _ _|exact stowageref13_Reader_prolog.mono _ _ _ _|exact LeO.refl _|exact LeO.none _|refine LeO.ite ?_ ?_|refine LeO.bind ?_ (fun _=>?_)
structure rpa.Inv (w W:World) (g b:Nat) (s:ByteArray) (p:Int) (bd:Bool):Prop where
 i:IsS61 w W g s p bd
 bel:Below w.heap.size w W
 blk:W.heap[b]? = some (.cells #[.string (⟨#[]⟩ : ByteArray),.string (⟨#[]⟩ : ByteArray),.slice none 0 0] 30 (0,0))
 ne:b≠g
 ge:w.heap.size≤b
section
variable {w W W1:World} {g b:Nat} {s s1:ByteArray} {p p1:Int} {bd bd1:Bool}
theorem rpa.Inv.drewN (h:rpa.Inv w W g b s p bd) (n:Nat):rpa.Inv w (W.drewN n) g b s p bd:=⟨h.i.drewN n,pw_below_drewN h.bel n,blk_drewN h.blk n,h.ne,h.ge⟩
theorem rpa.Inv.drew (h:rpa.Inv w W g b s p bd):rpa.Inv w W.drew g b s p bd:=⟨h.i.drew,below_drew h.bel,blk_drew h.blk,h.ne,h.ge⟩
theorem rpa.Inv.call (h:rpa.Inv w W g b s p bd) (hi:IsS61 w W1 g s1 p1 bd1) (hb:Below w.heap.size w W1) (hk:KeepBut W W1 g none):rpa.Inv w W1 g b s1 p1 bd1:=⟨hi,hb,hk.blk h.blk h.ne (by simp),h.ne,h.ge⟩
theorem rpa.Inv.below (h:rpa.Inv w W g b s p bd) (hb:Below W.heap.size W W1):rpa.Inv w W1 g b s p bd:=⟨h.i.below hb,below_step h.bel hb,blk_below h.blk hb,h.ne,h.ge⟩
theorem rpa.Inv.far (h:rpa.Inv w W g b s p bd) {q:Nat} (hq:w.heap.size≤q) (hg:q≠g) (hb:q≠b) (j:Nat) (u:Value):rpa.Inv w (W.setCell ⟨q,j,none⟩ u) g b s p bd:=
 ⟨h.i.far (p:=⟨q,j,none⟩) (fun e=>hg e.symm) u,below_set h.bel hq,blk_far h.blk (p:=⟨q,j,none⟩) (fun e=>hb e.symm) u,h.ne,h.ge⟩
theorem rpa.Inv.c0 (h:rpa.Inv w W g b s p bd):W.cell? ⟨g,0,none⟩=some (.string s):=(blk_cell h.i.1 0).trans rfl
theorem rpa.Inv.c1 (h:rpa.Inv w W g b s p bd):W.cell? ⟨g,1,none⟩=some (.int .i64 p):=(blk_cell h.i.1 1).trans rfl
theorem rpa.Inv.c2 (h:rpa.Inv w W g b s p bd):W.cell? ⟨g,2,none⟩=some (.bool bd):=(blk_cell h.i.1 2).trans rfl
theorem rpa.start {w4 w5:World} (h1:Below w.heap.size w w4) (h2:w4.heap[b]? = some (.cells #[.string (⟨#[]⟩ : ByteArray),.string (⟨#[]⟩ : ByteArray),.slice none 0 0] 30 (0,0))) (h3:b=w.heap.size) (h4:Below w4.heap.size w4 w5) (h5:w5.heap[g]? = some (.cells #[.string s,.int .i64 0,.bool false] 61 (0,0))) (h6:g=w4.heap.size):rpa.Inv w w5 g b s 0 false:=
 ⟨⟨h5,by rw [h6];exact h1.size⟩,below_step h1 h4,blk_below h2 h4,by have:=blk_lt h2;omega,Nat.le_of_eq h3.symm⟩
theorem rpa.el {u:Value} {xs:List S30} (h:rpa.Inv w W g b s p bd) (hV:Kd.R k30 30 W1 W.heap.size (fun _=>True) u xs):Kd.R k30 30 W1 w.heap.size (fun k_=>k_≠g∧k_≠b) u xs:=
 Kd.R_lower (Kd.R_mono (Kd.R_bound hV) (fun k_ hk=>⟨by have:=hk.2.1;have:=h.i.lt;omega,by have:=hk.2.1;have:=blk_lt h.blk;omega⟩)) h.bel.size
theorem rpa.vkeep {u:Value} {xs:List S30} (h:Kd.R k30 30 W w.heap.size (fun k_=>k_≠g∧k_≠b) u xs) (hk:KeepBut W W1 g none):Kd.R k30 30 W1 w.heap.size (fun k_=>k_≠g∧k_≠b) u xs:=Kd.R_keep h hk (fun k_ h_=>h_.1)
theorem rpa.vput {u:Value} {xs:List S30} (h:Kd.R k30 30 W w.heap.size (fun k_=>k_≠g∧k_≠b) u xs) (x y z:Value):Kd.R k30 30 (((W.setCell ⟨b,0,none⟩ x).setCell ⟨b,1,none⟩ y).setCell ⟨b,2,none⟩ z) w.heap.size (fun _=>True) u xs:=
 Kd.R_mono (Kd.R_far (p:=⟨b,2,none⟩) (Kd.R_far (p:=⟨b,1,none⟩) (Kd.R_far (p:=⟨b,0,none⟩) h (fun _ hk=>hk.2) x) (fun _ hk=>hk.2) y) (fun _ hk=>hk.2) z) (fun _ _=>trivial)
theorem rpa.vbox {w4:World} {gb n:Nat} {u:Value} {xs:List S30} {ok:Nat→Prop} (h:Kd.R k30 30 W n ok u xs) (hb:Below W.heap.size W w4) (hg:gb=W.heap.size) (x y z:Value):Kd.R k30 30 (((w4.setCell ⟨gb,0,none⟩ x).setCell ⟨gb,1,none⟩ y).setCell ⟨gb,2,none⟩ z) n ok u xs:=by
 have h2:=Kd.R_below (Kd.R_elderB h gb (Nat.le_of_eq hg.symm)) hb
 exact Kd.R_mono (Kd.R_far (p:=⟨gb,2,none⟩) (Kd.R_far (p:=⟨gb,1,none⟩) (Kd.R_far (p:=⟨gb,0,none⟩) h2 (fun _ hk=>hk.2) x) (fun _ hk=>hk.2) y) (fun _ hk=>hk.2) z) (fun _ hk=>hk.1)
theorem rpa.ne5 {q:Nat} (h:rpa.Inv w W g b s p bd) (hq:q=W.heap.size):w.heap.size≤q∧q≠g∧q≠b:=⟨by rw [hq];exact h.bel.size,by have:=h.i.lt;omega,by have:=blk_lt h.blk;omega⟩
theorem rpa.ends {nm tx:ByteArray} {v:Value} {xs:List S30} (h:rpa.Inv w W g b s p bd) (hV:Kd.R k30 30 W w.heap.size (fun k_=>k_≠g∧k_≠b) v xs) :
  (((W.setCell ⟨b,0,none⟩ (.string nm)).setCell ⟨b,1,none⟩ (.string tx)).setCell ⟨b,2,none⟩ v).heap[b]? = some (.cells #[.string nm,.string tx,v] 30 (0,0))∧Kd.R k30 30 (((W.setCell ⟨b,0,none⟩ (.string nm)).setCell ⟨b,1,none⟩ (.string tx)).setCell ⟨b,2,none⟩ v) w.heap.size (fun _=>True) v xs∧Below w.heap.size w (((W.setCell ⟨b,0,none⟩ (.string nm)).setCell ⟨b,1,none⟩ (.string tx)).setCell ⟨b,2,none⟩ v):=
 ⟨blk_put (blk_put (blk_put h.blk 0 (.string nm) (cs':=#[.string nm,.string (⟨#[]⟩ : ByteArray),.slice none 0 0]) rfl) 1 (.string tx) (cs':=#[.string nm,.string tx,.slice none 0 0]) rfl) 2 v rfl,rpa.vput hV _ _ _,below_set (below_set (below_set h.bel h.ge) h.ge) h.ge⟩
end
theorem stowageref13_Parse.calls (k:Nat) (a0:ByteArray) (r1 r2:ByteArray) (r3:List S30) (r4:Int) (w:World) (h:stowageref13_Parse.f k a0=some (r1,r2,r3,r4)) :
  Calls Tryd.prog 11 #[.string a0] w fun e w'=>∃ v0_:Value,e = .returned (.tuple #[.agg #[.string r1,.string r2,v0_],.int .i64 r4])∧Kd.R k30 30 w' w.heap.size (fun _=>True) v0_ r3∧Below w.heap.size w w':=by
 unfold stowageref13_Parse.f at h
 have hu30:=Tryd.underlying30
 go_enter Tryd.func11,Tryd.ntmps11
 rcases itO h with⟨c1,h⟩|⟨c1,h⟩
 ·have t1:=eq_true c1
  have t2:=decide_eq_true c1
  have t3:decide (65536<a0.size)=true:=decide_eq_true (by omega)
  have t4:(65536<a0.size)=True:=eq_true (by omega)
  clear c1
  simp only [Option.some.injEq,Prod.mk.injEq] at h
  obtain⟨rfl,rfl,rfl,rfl⟩:=h
  go_wp2_with (first|((with_reducible refine gate_dst (N:=2) rfl ?_);(try (refine gate_guard (by rfl) ?_;dsimp only));refine box_event ?hg2 (N:=2) ?hd2 (cs:=#[.string (⟨#[]⟩ : ByteArray),.string (⟨#[]⟩ : ByteArray),.slice none 0 0]) (t:=30) ?hr2 ?_;(case hd2=>rfl);(case hg2=>rfl);(case hr2=>first|(go_simp;done)|(go_simp;rfl));intro b hgb w4 hbox hb;have HB1:=Aside0.mk hb;have HB2:=Aside0.mk hbox;have HB3:=Aside0.mk hgb;have hd0:=(blk_cell HB2.out 0).trans rfl;have hd1:=(blk_cell HB2.out 1).trans rfl;have hd2:=(blk_cell HB2.out 2).trans rfl;have he0:=blk_frozen HB2.out 0;have he1:=blk_frozen HB2.out 1;have he2:=blk_frozen HB2.out 2;clear hb hbox hgb))
  try simp only [Exit.jump]
  have HZ:=blk_put (blk_put (blk_put HB2.out 0 (.string (⟨#[]⟩ : ByteArray)) (cs':=#[.string (⟨#[]⟩ : ByteArray),.string (⟨#[]⟩ : ByteArray),.slice none 0 0]) rfl) 1 (.string (⟨#[]⟩ : ByteArray)) (cs':=#[.string (⟨#[]⟩ : ByteArray),.string (⟨#[]⟩ : ByteArray),.slice none 0 0]) rfl) 2 (.slice none 0 0) (cs':=#[.string (⟨#[]⟩ : ByteArray),.string (⟨#[]⟩ : ByteArray),.slice none 0 0]) rfl
  refine bodyPost_ret (results_ct rfl _ _ b 30 #[.string (⟨#[]⟩ : ByteArray),.string (⟨#[]⟩ : ByteArray),.slice none 0 0] (0,0) _ rfl HZ Tryd.underlying30 rfl (by kernel_rfl)) rfl ?_
  exact⟨.slice none 0 0,rfl,Kd.R_nil _ _ _ _ _,below_set (below_set (below_set HB1.out (Nat.le_of_eq HB3.out.symm)) (Nat.le_of_eq HB3.out.symm)) (Nat.le_of_eq HB3.out.symm)⟩
 have t1:=eq_false c1
 have t2:=decide_eq_false c1
 have t3:decide (65536<a0.size)=false:=decide_eq_false (by omega)
 have t4:(65536<a0.size)=False:=eq_false (by omega)
 clear c1
 obtain⟨lg,hlg,h⟩:=bndO h
 have hLg:=Aside0.mk hlg
 clear hlg
 cases lg with
 | false=>
  rw [if_neg Bool.false_ne_true] at h
  simp only [Option.some.injEq,Prod.mk.injEq] at h
  obtain⟨rfl,rfl,rfl,rfl⟩:=h
  go_wp2_with (first|((with_reducible refine gate_dst (N:=2) rfl ?_);(try (refine gate_guard (by rfl) ?_;dsimp only));refine box_event ?hg2 (N:=2) ?hd2 (cs:=#[.string (⟨#[]⟩ : ByteArray),.string (⟨#[]⟩ : ByteArray),.slice none 0 0]) (t:=30) ?hr2 ?_;(case hd2=>rfl);(case hg2=>rfl);(case hr2=>first|(go_simp;done)|(go_simp;rfl));intro b hgb w4 hbox hb;have HB1:=Aside0.mk hb;have HB2:=Aside0.mk hbox;have HB3:=Aside0.mk hgb;have hd0:=(blk_cell HB2.out 0).trans rfl;have hd1:=(blk_cell HB2.out 1).trans rfl;have hd2:=(blk_cell HB2.out 2).trans rfl;have he0:=blk_frozen HB2.out 0;have he1:=blk_frozen HB2.out 1;have he2:=blk_frozen HB2.out 2;clear hb hbox hgb)|((with_reducible refine gate_dst (N:=12) rfl ?_);(try (refine gate_guard (by rfl) ?_;dsimp only));refine box_event ?hg12 (N:=12) ?hd12 (cs:=#[.string a0,.int .i64 0,.bool false]) (t:=61) ?hr12 ?_;(case hd12=>rfl);(case hg12=>rfl);(case hr12=>first|(go_simp;done)|(go_simp;rfl));intro g hgg w5 hbox hb;have HV:=Aside0.mk (rpa.start HB1.out HB2.out HB3.out hb hbox hgg);clear hb hbox hgg;have hc0:=HV.out.c0;have hc1:=HV.out.c1;have hc2:=HV.out.c2;have hd0:=(blk_cell HV.out.blk 0).trans rfl;have hd1:=(blk_cell HV.out.blk 1).trans rfl;have hd2:=(blk_cell HV.out.blk 2).trans rfl;have he0:=blk_frozen HV.out.blk 0;have he1:=blk_frozen HV.out.blk 1;have he2:=blk_frozen HV.out.blk 2;have hne:=HV.out.ne;have hen:=HV.out.ne.symm)|(go_at_call 31;with_reducible refine(stowageref3_Legal.calls k a0 false _ hLg.out).mono ?_;rintro e_ w_ ⟨rfl,hb⟩;(first|replace HV:=Aside0.mk (rpa.Inv.below HV.out hb)|replace HV:=Aside0.mk (rpa.Inv.below (HV.out.drewN _) hb)|replace HV:=Aside0.mk (rpa.Inv.below ((HV.out.drewN _).drewN _) hb)|replace HV:=Aside0.mk (rpa.Inv.below HV.out.drew hb));clear hb;have hc0:=HV.out.c0;have hc1:=HV.out.c1;have hc2:=HV.out.c2;have hd0:=(blk_cell HV.out.blk 0).trans rfl;have hd1:=(blk_cell HV.out.blk 1).trans rfl;have hd2:=(blk_cell HV.out.blk 2).trans rfl;have he0:=blk_frozen HV.out.blk 0;have he1:=blk_frozen HV.out.blk 1;have he2:=blk_frozen HV.out.blk 2;have hne:=HV.out.ne;have hen:=HV.out.ne.symm)|(go_at_call 31;with_reducible refine(stowageref3_Legal.calls k a0 false _ hLg.out).mono ?_;rintro e_ w_ ⟨rfl,⟨nd,rfl⟩⟩;replace HV:=Aside0.mk (HV.out.drewN nd);have hc0:=HV.out.c0;have hc1:=HV.out.c1;have hc2:=HV.out.c2;have hd0:=(blk_cell HV.out.blk 0).trans rfl;have hd1:=(blk_cell HV.out.blk 1).trans rfl;have hd2:=(blk_cell HV.out.blk 2).trans rfl;have he0:=blk_frozen HV.out.blk 0;have he1:=blk_frozen HV.out.blk 1;have he2:=blk_frozen HV.out.blk 2;have hne:=HV.out.ne;have hen:=HV.out.ne.symm))
  try simp only [Exit.jump]
  have HZ:=rpa.ends (nm:=(⟨#[]⟩ : ByteArray)) (tx:=(⟨#[]⟩ : ByteArray)) (by first|exact HV.out|exact(HV.out.drewN _)|exact((HV.out.drewN _).drewN _)|exact HV.out.drew) (Kd.R_nil k30 30 _ _ _)
  refine bodyPost_ret (results_ct rfl _ _ b 30 #[.string (⟨#[]⟩ : ByteArray),.string (⟨#[]⟩ : ByteArray),.slice none 0 0] (0,0) _ rfl HZ.1 Tryd.underlying30 rfl (by kernel_rfl)) rfl ?_
  exact⟨.slice none 0 0,rfl,HZ.2.1,HZ.2.2⟩
 | true=>
  rw [if_pos rfl] at h
  obtain⟨b0_,hq_,h⟩:=bndO h
  obtain⟨b1,b2,b3,b4⟩:=b0_
  have hBg:=Aside0.mk hq_
  clear hq_
  dsimp only at h
  cases b1 with
  | false=>
   rw [if_neg Bool.false_ne_true] at h
   simp only [Option.some.injEq,Prod.mk.injEq] at h
   obtain⟨rfl,rfl,rfl,rfl⟩:=h
   go_wp2_with (first|((with_reducible refine gate_dst (N:=2) rfl ?_);(try (refine gate_guard (by rfl) ?_;dsimp only));refine box_event ?hg2 (N:=2) ?hd2 (cs:=#[.string (⟨#[]⟩ : ByteArray),.string (⟨#[]⟩ : ByteArray),.slice none 0 0]) (t:=30) ?hr2 ?_;(case hd2=>rfl);(case hg2=>rfl);(case hr2=>first|(go_simp;done)|(go_simp;rfl));intro b hgb w4 hbox hb;have HB1:=Aside0.mk hb;have HB2:=Aside0.mk hbox;have HB3:=Aside0.mk hgb;have hd0:=(blk_cell HB2.out 0).trans rfl;have hd1:=(blk_cell HB2.out 1).trans rfl;have hd2:=(blk_cell HB2.out 2).trans rfl;have he0:=blk_frozen HB2.out 0;have he1:=blk_frozen HB2.out 1;have he2:=blk_frozen HB2.out 2;clear hb hbox hgb)|((with_reducible refine gate_dst (N:=12) rfl ?_);(try (refine gate_guard (by rfl) ?_;dsimp only));refine box_event ?hg12 (N:=12) ?hd12 (cs:=#[.string a0,.int .i64 0,.bool false]) (t:=61) ?hr12 ?_;(case hd12=>rfl);(case hg12=>rfl);(case hr12=>first|(go_simp;done)|(go_simp;rfl));intro g hgg w5 hbox hb;have HV:=Aside0.mk (rpa.start HB1.out HB2.out HB3.out hb hbox hgg);clear hb hbox hgg;have hc0:=HV.out.c0;have hc1:=HV.out.c1;have hc2:=HV.out.c2;have hd0:=(blk_cell HV.out.blk 0).trans rfl;have hd1:=(blk_cell HV.out.blk 1).trans rfl;have hd2:=(blk_cell HV.out.blk 2).trans rfl;have he0:=blk_frozen HV.out.blk 0;have he1:=blk_frozen HV.out.blk 1;have he2:=blk_frozen HV.out.blk 2;have hne:=HV.out.ne;have hen:=HV.out.ne.symm)|(go_at_call 31;with_reducible refine(stowageref3_Legal.calls k a0 true _ hLg.out).mono ?_;rintro e_ w_ ⟨rfl,hb⟩;(first|replace HV:=Aside0.mk (rpa.Inv.below HV.out hb)|replace HV:=Aside0.mk (rpa.Inv.below (HV.out.drewN _) hb)|replace HV:=Aside0.mk (rpa.Inv.below ((HV.out.drewN _).drewN _) hb)|replace HV:=Aside0.mk (rpa.Inv.below HV.out.drew hb));clear hb;have hc0:=HV.out.c0;have hc1:=HV.out.c1;have hc2:=HV.out.c2;have hd0:=(blk_cell HV.out.blk 0).trans rfl;have hd1:=(blk_cell HV.out.blk 1).trans rfl;have hd2:=(blk_cell HV.out.blk 2).trans rfl;have he0:=blk_frozen HV.out.blk 0;have he1:=blk_frozen HV.out.blk 1;have he2:=blk_frozen HV.out.blk 2;have hne:=HV.out.ne;have hen:=HV.out.ne.symm)|(go_at_call 31;with_reducible refine(stowageref3_Legal.calls k a0 true _ hLg.out).mono ?_;rintro e_ w_ ⟨rfl,⟨nd,rfl⟩⟩;replace HV:=Aside0.mk (HV.out.drewN nd);have hc0:=HV.out.c0;have hc1:=HV.out.c1;have hc2:=HV.out.c2;have hd0:=(blk_cell HV.out.blk 0).trans rfl;have hd1:=(blk_cell HV.out.blk 1).trans rfl;have hd2:=(blk_cell HV.out.blk 2).trans rfl;have he0:=blk_frozen HV.out.blk 0;have he1:=blk_frozen HV.out.blk 1;have he2:=blk_frozen HV.out.blk 2;have hne:=HV.out.ne;have hen:=HV.out.ne.symm)|(go_at_call 32;with_reducible refine(stowageref13_Reader_prolog.calls k g a0 0 false false b2 b3 b4 w _ ?s1 ?s2 hBg.out).mono ?_;(case s1=>exact(by first|exact HV.out.i|exact(HV.out.drewN _).i|exact((HV.out.drewN _).drewN _).i|exact HV.out.drew.i));(case s2=>exact(by first|exact HV.out.bel|exact(HV.out.drewN _).bel|exact((HV.out.drewN _).drewN _).bel|exact HV.out.drew.bel));rintro e_ w_ ⟨rfl,hi,hb,hk⟩;(first|replace HV:=Aside0.mk (rpa.Inv.call HV.out hi hb hk)|replace HV:=Aside0.mk (rpa.Inv.call (HV.out.drewN _) hi hb hk)|replace HV:=Aside0.mk (rpa.Inv.call ((HV.out.drewN _).drewN _) hi hb hk)|replace HV:=Aside0.mk (rpa.Inv.call HV.out.drew hi hb hk));clear hi hb hk;have hc0:=HV.out.c0;have hc1:=HV.out.c1;have hc2:=HV.out.c2;have hd0:=(blk_cell HV.out.blk 0).trans rfl;have hd1:=(blk_cell HV.out.blk 1).trans rfl;have hd2:=(blk_cell HV.out.blk 2).trans rfl;have he0:=blk_frozen HV.out.blk 0;have he1:=blk_frozen HV.out.blk 1;have he2:=blk_frozen HV.out.blk 2;have hne:=HV.out.ne;have hen:=HV.out.ne.symm))
   try simp only [Exit.jump]
   have HZ:=rpa.ends (nm:=(⟨#[]⟩ : ByteArray)) (tx:=(⟨#[]⟩ : ByteArray)) (by first|exact HV.out|exact(HV.out.drewN _)|exact((HV.out.drewN _).drewN _)|exact HV.out.drew) (Kd.R_nil k30 30 _ _ _)
   refine bodyPost_ret (results_ct rfl _ _ b 30 #[.string (⟨#[]⟩ : ByteArray),.string (⟨#[]⟩ : ByteArray),.slice none 0 0] (0,0) _ rfl HZ.1 Tryd.underlying30 rfl (by kernel_rfl)) rfl ?_
   exact⟨.slice none 0 0,rfl,HZ.2.1,HZ.2.2⟩
  | true=>
   rw [if_pos rfl] at h
   obtain⟨a_,hq_,h⟩:=bndO h
   obtain⟨s1,s2,s3,s4⟩:=a_
   have hS1:=Aside0.mk hq_
   clear hq_
   dsimp only at h
   obtain⟨e,he,h⟩:=bndO h
   obtain⟨⟨x0,x1,x2⟩,e2,e3,e4⟩:=e
   have hE:=Aside0.mk he
   clear he
   dsimp only at h
   obtain⟨z_,hq_,h⟩:=bndO h
   obtain⟨z1,z2,z3,z4⟩:=z_
   have hS2:=Aside0.mk hq_
   clear hq_
   dsimp only at h
   go_upto_region 8 with(first|((with_reducible refine gate_dst (N:=2) rfl ?_);(try (refine gate_guard (by rfl) ?_;dsimp only));refine box_event ?hg2 (N:=2) ?hd2 (cs:=#[.string (⟨#[]⟩ : ByteArray),.string (⟨#[]⟩ : ByteArray),.slice none 0 0]) (t:=30) ?hr2 ?_;(case hd2=>rfl);(case hg2=>rfl);(case hr2=>first|(go_simp;done)|(go_simp;rfl));intro b hgb w4 hbox hb;have HB1:=Aside0.mk hb;have HB2:=Aside0.mk hbox;have HB3:=Aside0.mk hgb;have hd0:=(blk_cell HB2.out 0).trans rfl;have hd1:=(blk_cell HB2.out 1).trans rfl;have hd2:=(blk_cell HB2.out 2).trans rfl;have he0:=blk_frozen HB2.out 0;have he1:=blk_frozen HB2.out 1;have he2:=blk_frozen HB2.out 2;clear hb hbox hgb)|((with_reducible refine gate_dst (N:=12) rfl ?_);(try (refine gate_guard (by rfl) ?_;dsimp only));refine box_event ?hg12 (N:=12) ?hd12 (cs:=#[.string a0,.int .i64 0,.bool false]) (t:=61) ?hr12 ?_;(case hd12=>rfl);(case hg12=>rfl);(case hr12=>first|(go_simp;done)|(go_simp;rfl));intro g hgg w5 hbox hb;have HV:=Aside0.mk (rpa.start HB1.out HB2.out HB3.out hb hbox hgg);clear hb hbox hgg;have hc0:=HV.out.c0;have hc1:=HV.out.c1;have hc2:=HV.out.c2;have hd0:=(blk_cell HV.out.blk 0).trans rfl;have hd1:=(blk_cell HV.out.blk 1).trans rfl;have hd2:=(blk_cell HV.out.blk 2).trans rfl;have he0:=blk_frozen HV.out.blk 0;have he1:=blk_frozen HV.out.blk 1;have he2:=blk_frozen HV.out.blk 2;have hne:=HV.out.ne;have hen:=HV.out.ne.symm)|(go_at_call 31;with_reducible refine(stowageref3_Legal.calls k a0 true _ hLg.out).mono ?_;rintro e_ w_ ⟨rfl,hb⟩;(first|replace HV:=Aside0.mk (rpa.Inv.below HV.out hb)|replace HV:=Aside0.mk (rpa.Inv.below (HV.out.drewN _) hb)|replace HV:=Aside0.mk (rpa.Inv.below ((HV.out.drewN _).drewN _) hb)|replace HV:=Aside0.mk (rpa.Inv.below HV.out.drew hb));clear hb;have hc0:=HV.out.c0;have hc1:=HV.out.c1;have hc2:=HV.out.c2;have hd0:=(blk_cell HV.out.blk 0).trans rfl;have hd1:=(blk_cell HV.out.blk 1).trans rfl;have hd2:=(blk_cell HV.out.blk 2).trans rfl;have he0:=blk_frozen HV.out.blk 0;have he1:=blk_frozen HV.out.blk 1;have he2:=blk_frozen HV.out.blk 2;have hne:=HV.out.ne;have hen:=HV.out.ne.symm)|(go_at_call 31;with_reducible refine(stowageref3_Legal.calls k a0 true _ hLg.out).mono ?_;rintro e_ w_ ⟨rfl,⟨nd,rfl⟩⟩;replace HV:=Aside0.mk (HV.out.drewN nd);have hc0:=HV.out.c0;have hc1:=HV.out.c1;have hc2:=HV.out.c2;have hd0:=(blk_cell HV.out.blk 0).trans rfl;have hd1:=(blk_cell HV.out.blk 1).trans rfl;have hd2:=(blk_cell HV.out.blk 2).trans rfl;have he0:=blk_frozen HV.out.blk 0;have he1:=blk_frozen HV.out.blk 1;have he2:=blk_frozen HV.out.blk 2;have hne:=HV.out.ne;have hen:=HV.out.ne.symm)|(go_at_call 32;with_reducible refine(stowageref13_Reader_prolog.calls k g a0 0 false true b2 b3 b4 w _ ?s1 ?s2 hBg.out).mono ?_;(case s1=>exact(by first|exact HV.out.i|exact(HV.out.drewN _).i|exact((HV.out.drewN _).drewN _).i|exact HV.out.drew.i));(case s2=>exact(by first|exact HV.out.bel|exact(HV.out.drewN _).bel|exact((HV.out.drewN _).drewN _).bel|exact HV.out.drew.bel));rintro e_ w_ ⟨rfl,hi,hb,hk⟩;(first|replace HV:=Aside0.mk (rpa.Inv.call HV.out hi hb hk)|replace HV:=Aside0.mk (rpa.Inv.call (HV.out.drewN _) hi hb hk)|replace HV:=Aside0.mk (rpa.Inv.call ((HV.out.drewN _).drewN _) hi hb hk)|replace HV:=Aside0.mk (rpa.Inv.call HV.out.drew hi hb hk));clear hi hb hk;have hc0:=HV.out.c0;have hc1:=HV.out.c1;have hc2:=HV.out.c2;have hd0:=(blk_cell HV.out.blk 0).trans rfl;have hd1:=(blk_cell HV.out.blk 1).trans rfl;have hd2:=(blk_cell HV.out.blk 2).trans rfl;have he0:=blk_frozen HV.out.blk 0;have he1:=blk_frozen HV.out.blk 1;have he2:=blk_frozen HV.out.blk 2;have hne:=HV.out.ne;have hen:=HV.out.ne.symm)|(go_at_call 33;with_reducible refine(stowageref13_Reader_skip.calls k g b2 b3 b4 s1 s2 s3 s4 w _ ?s1 ?s2 hS1.out).mono ?_;(case s1=>exact(by first|exact HV.out.i|exact(HV.out.drewN _).i|exact((HV.out.drewN _).drewN _).i|exact HV.out.drew.i));(case s2=>exact(by first|exact HV.out.bel|exact(HV.out.drewN _).bel|exact((HV.out.drewN _).drewN _).bel|exact HV.out.drew.bel));rintro e_ w_ ⟨rfl,hi,hb,hk⟩;(first|replace HV:=Aside0.mk (rpa.Inv.call HV.out hi hb hk)|replace HV:=Aside0.mk (rpa.Inv.call (HV.out.drewN _) hi hb hk)|replace HV:=Aside0.mk (rpa.Inv.call ((HV.out.drewN _).drewN _) hi hb hk)|replace HV:=Aside0.mk (rpa.Inv.call HV.out.drew hi hb hk));clear hi hb hk;have hc0:=HV.out.c0;have hc1:=HV.out.c1;have hc2:=HV.out.c2;have hd0:=(blk_cell HV.out.blk 0).trans rfl;have hd1:=(blk_cell HV.out.blk 1).trans rfl;have hd2:=(blk_cell HV.out.blk 2).trans rfl;have he0:=blk_frozen HV.out.blk 0;have he1:=blk_frozen HV.out.blk 1;have he2:=blk_frozen HV.out.blk 2;have hne:=HV.out.ne;have hen:=HV.out.ne.symm)|(go_at_call 34;with_reducible refine((rel_both k).1 s2 s3 s4 1 _ w _ g ?s1 ?s2 hE.out).mono ?_;(case s1=>exact(by first|exact HV.out.i|exact(HV.out.drewN _).i|exact((HV.out.drewN _).drewN _).i|exact HV.out.drew.i));(case s2=>exact(by first|exact HV.out.bel|exact(HV.out.drewN _).bel|exact((HV.out.drewN _).drewN _).bel|exact HV.out.drew.bel));rintro e_ w_ ⟨v,he_,hVV,hi,hb,hk⟩;dsimp only at he_ hVV hi;obtain⟨eA,ec,rfl⟩:=Kd.R_slice hVV;subst he_;(first|have HE:=Aside0.mk (rpa.el HV.out hVV)|have HE:=Aside0.mk (rpa.el (HV.out.drewN _) hVV)|have HE:=Aside0.mk (rpa.el ((HV.out.drewN _).drewN _) hVV)|have HE:=Aside0.mk (rpa.el HV.out.drew hVV));(first|replace HV:=Aside0.mk (rpa.Inv.call HV.out hi hb hk)|replace HV:=Aside0.mk (rpa.Inv.call (HV.out.drewN _) hi hb hk)|replace HV:=Aside0.mk (rpa.Inv.call ((HV.out.drewN _).drewN _) hi hb hk)|replace HV:=Aside0.mk (rpa.Inv.call HV.out.drew hi hb hk));clear hi hb hk hVV;have hc0:=HV.out.c0;have hc1:=HV.out.c1;have hc2:=HV.out.c2;have hd0:=(blk_cell HV.out.blk 0).trans rfl;have hd1:=(blk_cell HV.out.blk 1).trans rfl;have hd2:=(blk_cell HV.out.blk 2).trans rfl;have he0:=blk_frozen HV.out.blk 0;have he1:=blk_frozen HV.out.blk 1;have he2:=blk_frozen HV.out.blk 2;have hne:=HV.out.ne;have hen:=HV.out.ne.symm)|((with_reducible refine gate_dst (N:=5) rfl ?_);(try (refine gate_guard (by rfl) ?_;dsimp only));refine box_event ?hg5 (N:=5) ?hd5 (cs:=#[.string (⟨#[]⟩ : ByteArray),.string (⟨#[]⟩ : ByteArray),.slice none 0 0]) (t:=30) ?hr5 ?_;(case hd5=>rfl);(case hg5=>rfl);(case hr5=>first|(go_simp;done)|(go_simp;rfl));intro g5 hg5 w6 hbox hb;have HX:=Aside0.mk hbox;have HB4:=Aside0.mk hb;have HG4:=Aside0.mk hg5;clear hb hbox hg5;have hk0:=(blk_cell HX.out 0).trans rfl;have hk1:=(blk_cell HX.out 1).trans rfl;have hk2:=(blk_cell HX.out 2).trans rfl;have hz0:=blk_frozen HX.out 0;have hz1:=blk_frozen HX.out 1;have hz2:=blk_frozen HX.out 2))
   have HN5:=Aside0.mk (rpa.ne5 HV.out HG4.out)
   have HV2:=Aside0.mk ((((HV.out.below HB4.out).far HN5.out.1 HN5.out.2.1 HN5.out.2.2 0 (.string x0)).far HN5.out.1 HN5.out.2.1 HN5.out.2.2 1 (.string x1)).far HN5.out.1 HN5.out.2.1 HN5.out.2.2 2 (.slice eA x2.length ec))
   have HE2:=Aside0.mk (rpa.vbox HE.out HB4.out HG4.out (.string x0) (.string x1) (.slice eA x2.length ec))
   have HX2:=Aside0.mk (blk_put (blk_put (blk_put HX.out 0 (.string x0) (cs':=#[.string x0,.string (⟨#[]⟩ : ByteArray),.slice none 0 0]) rfl) 1 (.string x1) (cs':=#[.string x0,.string x1,.slice none 0 0]) rfl) 2 (.slice eA x2.length ec) (cs':=#[.string x0,.string x1,.slice eA x2.length ec]) rfl)
   clear HV HE HX HB4 HG4 hc0 hc1 hc2 hd0 hd1 hd2 he0 he1 he2 hk0 hk1 hk2 hz0 hz1 hz2
   generalize World.setCell _ _ _=W2 at HV2 HE2 HX2 ⊢
   have HV:=HV2
   clear HV2
   have HE:=HE2
   clear HE2
   have HX:=HX2
   clear HX2
   have hc0:=HV.out.c0
   have hc1:=HV.out.c1
   have hc2:=HV.out.c2
   have hd0:=(blk_cell HV.out.blk 0).trans rfl
   have hd1:=(blk_cell HV.out.blk 1).trans rfl
   have hd2:=(blk_cell HV.out.blk 2).trans rfl
   have he0:=blk_frozen HV.out.blk 0
   have he1:=blk_frozen HV.out.blk 1
   have he2:=blk_frozen HV.out.blk 2
   have hne:=HV.out.ne
   have hen:=HV.out.ne.symm
   cases z4 with
   | true=>
    rw [if_pos rfl] at h
    simp only [Option.some.injEq,Prod.mk.injEq] at h
    obtain⟨rfl,rfl,rfl,rfl⟩:=h
    go_wp2_with (first|(go_at_call 33;with_reducible refine(stowageref13_Reader_skip.calls k g e2 e3 e4 z1 z2 z3 true w _ ?s1 ?s2 hS2.out).mono ?_;(case s1=>exact(by first|exact HV.out.i|exact(HV.out.drewN _).i|exact((HV.out.drewN _).drewN _).i|exact HV.out.drew.i));(case s2=>exact(by first|exact HV.out.bel|exact(HV.out.drewN _).bel|exact((HV.out.drewN _).drewN _).bel|exact HV.out.drew.bel));rintro e_ w_ ⟨rfl,hi,hb,hk⟩;(first|replace HE:=Aside0.mk (rpa.vkeep HE.out hk)|replace HE:=Aside0.mk (rpa.vkeep (Kd.R_drewN HE.out _) hk));have h5n:=HN5.out;have HX2:=Aside0.mk (hk.blk (by first|exact HX.out|exact blk_drewN HX.out _) h5n.2.1 (by simp));clear HX;have HX:=HX2;clear HX2;have hk0:=(blk_cell HX.out 0).trans rfl;have hk1:=(blk_cell HX.out 1).trans rfl;have hk2:=(blk_cell HX.out 2).trans rfl;(first|replace HV:=Aside0.mk (rpa.Inv.call HV.out hi hb hk)|replace HV:=Aside0.mk (rpa.Inv.call (HV.out.drewN _) hi hb hk)|replace HV:=Aside0.mk (rpa.Inv.call ((HV.out.drewN _).drewN _) hi hb hk)|replace HV:=Aside0.mk (rpa.Inv.call HV.out.drew hi hb hk));clear hi hb hk;have hc0:=HV.out.c0;have hc1:=HV.out.c1;have hc2:=HV.out.c2;have hd0:=(blk_cell HV.out.blk 0).trans rfl;have hd1:=(blk_cell HV.out.blk 1).trans rfl;have hd2:=(blk_cell HV.out.blk 2).trans rfl;have he0:=blk_frozen HV.out.blk 0;have he1:=blk_frozen HV.out.blk 1;have he2:=blk_frozen HV.out.blk 2;have hne:=HV.out.ne;have hen:=HV.out.ne.symm))
    try simp only [Exit.jump]
    have HZ:=rpa.ends (nm:=(⟨#[]⟩ : ByteArray)) (tx:=(⟨#[]⟩ : ByteArray)) (by first|exact HV.out|exact(HV.out.drewN _)|exact((HV.out.drewN _).drewN _)|exact HV.out.drew) (Kd.R_nil k30 30 _ _ _)
    refine bodyPost_ret (results_ct rfl _ _ b 30 #[.string (⟨#[]⟩ : ByteArray),.string (⟨#[]⟩ : ByteArray),.slice none 0 0] (0,0) _ rfl HZ.1 Tryd.underlying30 rfl (by kernel_rfl)) rfl ?_
    exact⟨.slice none 0 0,rfl,HZ.2.1,HZ.2.2⟩
   | false=>
    rw [if_neg Bool.false_ne_true] at h
    rcases itO h with⟨c2,h⟩|⟨c2,h⟩
    ·have u1:(z3 != (a0.size:Int))=false:=bne_eq_false_iff_eq.mpr c2
     have u2:(z3 == (a0.size:Int))=true:=beq_iff_eq.mpr c2
     have u3:=eq_true c2
     have u4:=decide_eq_true c2
     clear c2
     simp only [Option.some.injEq,Prod.mk.injEq] at h
     obtain⟨rfl,rfl,rfl,rfl⟩:=h
     go_wp2_with (first|(go_at_call 33;with_reducible refine(stowageref13_Reader_skip.calls k g e2 e3 e4 z1 z2 z3 false w _ ?s1 ?s2 hS2.out).mono ?_;(case s1=>exact(by first|exact HV.out.i|exact(HV.out.drewN _).i|exact((HV.out.drewN _).drewN _).i|exact HV.out.drew.i));(case s2=>exact(by first|exact HV.out.bel|exact(HV.out.drewN _).bel|exact((HV.out.drewN _).drewN _).bel|exact HV.out.drew.bel));rintro e_ w_ ⟨rfl,hi,hb,hk⟩;(first|replace HE:=Aside0.mk (rpa.vkeep HE.out hk)|replace HE:=Aside0.mk (rpa.vkeep (Kd.R_drewN HE.out _) hk));have h5n:=HN5.out;have HX2:=Aside0.mk (hk.blk (by first|exact HX.out|exact blk_drewN HX.out _) h5n.2.1 (by simp));clear HX;have HX:=HX2;clear HX2;have hk0:=(blk_cell HX.out 0).trans rfl;have hk1:=(blk_cell HX.out 1).trans rfl;have hk2:=(blk_cell HX.out 2).trans rfl;(first|replace HV:=Aside0.mk (rpa.Inv.call HV.out hi hb hk)|replace HV:=Aside0.mk (rpa.Inv.call (HV.out.drewN _) hi hb hk)|replace HV:=Aside0.mk (rpa.Inv.call ((HV.out.drewN _).drewN _) hi hb hk)|replace HV:=Aside0.mk (rpa.Inv.call HV.out.drew hi hb hk));clear hi hb hk;have hc0:=HV.out.c0;have hc1:=HV.out.c1;have hc2:=HV.out.c2;have hd0:=(blk_cell HV.out.blk 0).trans rfl;have hd1:=(blk_cell HV.out.blk 1).trans rfl;have hd2:=(blk_cell HV.out.blk 2).trans rfl;have he0:=blk_frozen HV.out.blk 0;have he1:=blk_frozen HV.out.blk 1;have he2:=blk_frozen HV.out.blk 2;have hne:=HV.out.ne;have hen:=HV.out.ne.symm))
     try simp only [Exit.jump]
     have HZ:=rpa.ends (nm:=x0) (tx:=x1) (by first|exact HV.out|exact(HV.out.drewN _)|exact((HV.out.drewN _).drewN _)|exact HV.out.drew) (by first|exact HE.out|exact Kd.R_drewN HE.out _)
     refine bodyPost_ret (results_ct rfl _ _ b 30 #[.string x0,.string x1,.slice eA x2.length ec] (0,0) _ rfl HZ.1 Tryd.underlying30 rfl (by kernel_rfl)) rfl ?_
     exact⟨.slice eA x2.length ec,rfl,HZ.2.1,HZ.2.2⟩
    have u1:(z3 != (a0.size:Int))=true:=bne_iff_ne.mpr c2
    have u2:(z3 == (a0.size:Int))=false:=beq_eq_false_iff_ne.mpr c2
    have u3:=eq_false c2
    have u4:=decide_eq_false c2
    simp only [Option.some.injEq,Prod.mk.injEq] at h
    obtain⟨rfl,rfl,rfl,rfl⟩:=h
    go_wp2_with (first|(go_at_call 33;with_reducible refine(stowageref13_Reader_skip.calls k g e2 e3 e4 z1 z2 z3 false w _ ?s1 ?s2 hS2.out).mono ?_;(case s1=>exact(by first|exact HV.out.i|exact(HV.out.drewN _).i|exact((HV.out.drewN _).drewN _).i|exact HV.out.drew.i));(case s2=>exact(by first|exact HV.out.bel|exact(HV.out.drewN _).bel|exact((HV.out.drewN _).drewN _).bel|exact HV.out.drew.bel));rintro e_ w_ ⟨rfl,hi,hb,hk⟩;(first|replace HE:=Aside0.mk (rpa.vkeep HE.out hk)|replace HE:=Aside0.mk (rpa.vkeep (Kd.R_drewN HE.out _) hk));have h5n:=HN5.out;have HX2:=Aside0.mk (hk.blk (by first|exact HX.out|exact blk_drewN HX.out _) h5n.2.1 (by simp));clear HX;have HX:=HX2;clear HX2;have hk0:=(blk_cell HX.out 0).trans rfl;have hk1:=(blk_cell HX.out 1).trans rfl;have hk2:=(blk_cell HX.out 2).trans rfl;(first|replace HV:=Aside0.mk (rpa.Inv.call HV.out hi hb hk)|replace HV:=Aside0.mk (rpa.Inv.call (HV.out.drewN _) hi hb hk)|replace HV:=Aside0.mk (rpa.Inv.call ((HV.out.drewN _).drewN _) hi hb hk)|replace HV:=Aside0.mk (rpa.Inv.call HV.out.drew hi hb hk));clear hi hb hk;have hc0:=HV.out.c0;have hc1:=HV.out.c1;have hc2:=HV.out.c2;have hd0:=(blk_cell HV.out.blk 0).trans rfl;have hd1:=(blk_cell HV.out.blk 1).trans rfl;have hd2:=(blk_cell HV.out.blk 2).trans rfl;have he0:=blk_frozen HV.out.blk 0;have he1:=blk_frozen HV.out.blk 1;have he2:=blk_frozen HV.out.blk 2;have hne:=HV.out.ne;have hen:=HV.out.ne.symm))
    try simp only [Exit.jump]
    have HZ:=rpa.ends (nm:=(⟨#[]⟩ : ByteArray)) (tx:=(⟨#[]⟩ : ByteArray)) (by first|exact HV.out|exact(HV.out.drewN _)|exact((HV.out.drewN _).drewN _)|exact HV.out.drew) (Kd.R_nil k30 30 _ _ _)
    refine bodyPost_ret (results_ct rfl _ _ b 30 #[.string (⟨#[]⟩ : ByteArray),.string (⟨#[]⟩ : ByteArray),.slice none 0 0] (0,0) _ rfl HZ.1 Tryd.underlying30 rfl (by kernel_rfl)) rfl ?_
    exact⟨.slice none 0 0,rfl,HZ.2.1,HZ.2.2⟩
mutual
def stowageref13_Same.j0:Nat→Bool→ByteArray→ByteArray→List (S30)→ByteArray→ByteArray→List (S30)→Option (Bool)
  | 0,_,_,_,_,_,_,_=>none
  | k+1,x26,x211000,x211001,x211002,x212000,x212001,x212002=>if x26=true then(some false) else(stowageref13_Same.l0 k 0 x211000 x211001 x211002 x212000 x212001 x212002)
def stowageref13_Same.l0:Nat→Int→ByteArray→ByteArray→List (S30)→ByteArray→ByteArray→List (S30)→Option (Bool)
  | 0,_,_,_,_,_,_,_=>none
  | k+1,x5,x211000,x211001,x211002,x212000,x212001,x212002=>if x5<(x211002.length:Int) then(if 0≤x5 then(if x5<(x212002.length:Int) then((stowageref13_Same.f k ((rd_T30 x211002 x5).f0) ((rd_T30 x211002 x5).f1) ((rd_T30 x211002 x5).f2) ((rd_T30 x212002 x5).f0) ((rd_T30 x212002 x5).f1) ((rd_T30 x212002 x5).f2)).bind fun t214=>(if t214=true then(stowageref13_Same.l0 k (wrap64 (x5+1)) x211000 x211001 x211002 x212000 x212001 x212002) else(some false))) else(none)) else(none)) else(some true)
def stowageref13_Same.f:Nat→ByteArray→ByteArray→List (S30)→ByteArray→ByteArray→List (S30)→Option (Bool)
  | 0,_,_,_,_,_,_=>none
  | k+1,a0_0,a0_1,l0_2,a1_0,a1_1,l1_2=>if a0_0.toList=a1_0.toList then(if a0_1.toList=a1_1.toList then(stowageref13_Same.j0 k ((l0_2.length:Int) != (l1_2.length:Int)) a0_0 a0_1 l0_2 a1_0 a1_1 l1_2) else(stowageref13_Same.j0 k true a0_0 a0_1 l0_2 a1_0 a1_1 l1_2)) else(stowageref13_Same.j0 k true a0_0 a0_1 l0_2 a1_0 a1_1 l1_2)
end
theorem stowageref13_Same.mono_l:∀ k,(∀ y0 y1 y2 y3 y4 y5,LeO (stowageref13_Same.f k y0 y1 y2 y3 y4 y5) (stowageref13_Same.f (k+1) y0 y1 y2 y3 y4 y5))∧(∀ y0 y1 y2 y3 y4 y5 y6,LeO (stowageref13_Same.j0 k y0 y1 y2 y3 y4 y5 y6) (stowageref13_Same.j0 (k+1) y0 y1 y2 y3 y4 y5 y6))∧(∀ y0 y1 y2 y3 y4 y5 y6,LeO (stowageref13_Same.l0 k y0 y1 y2 y3 y4 y5 y6) (stowageref13_Same.l0 (k+1) y0 y1 y2 y3 y4 y5 y6))
  | 0=>⟨fun _ _ _ _ _ _ r h=>by simp [stowageref13_Same.f] at h,fun _ _ _ _ _ _ _ r h=>by simp [stowageref13_Same.j0] at h,fun _ _ _ _ _ _ _ r h=>by simp [stowageref13_Same.l0] at h⟩
  | k+1=>by
    obtain⟨ih0,ih1,ih2⟩:=stowageref13_Same.mono_l k
    refine⟨?_,?_,?_⟩
    · intro y0 y1 y2 y3 y4 y5
      unfold stowageref13_Same.f
      with_reducible repeat' first|exact ih0 _ _ _ _ _ _|exact ih1 _ _ _ _ _ _ _|exact ih2 _ _ _ _ _ _ _|exact LeO.refl _|exact LeO.none _|refine LeO.ite ?_ ?_|refine LeO.bind ?_ (fun _=>?_)
    · intro y0 y1 y2 y3 y4 y5 y6
      unfold stowageref13_Same.j0
      with_reducible repeat' first|exact ih0 _ _ _ _ _ _|exact ih1 _ _ _ _ _ _ _|exact ih2 _ _ _ _ _ _ _|exact LeO.refl _|exact LeO.none _|refine LeO.ite ?_ ?_|refine LeO.bind ?_ (fun _=>?_)
    · intro y0 y1 y2 y3 y4 y5 y6
      unfold stowageref13_Same.l0
      with_reducible repeat' first|exact ih0 _ _ _ _ _ _|exact ih1 _ _ _ _ _ _ _|exact ih2 _ _ _ _ _ _ _|exact LeO.refl _|exact LeO.none _|refine LeO.ite ?_ ?_|refine LeO.bind ?_ (fun _=>?_)
theorem stowageref13_Same.mono:∀ a0 a1 a2 a3 a4 a5 k,LeO (stowageref13_Same.f k a0 a1 a2 a3 a4 a5) (stowageref13_Same.f (k+1) a0 a1 a2 a3 a4 a5):=by
 intro a0 a1 a2 a3 a4 a5 k
 obtain⟨ih0,ih1,ih2⟩:=stowageref13_Same.mono_l k
 exact ih0 a0 a1 a2 a3 a4 a5
def stowageref13_Same.T6:Bool×List (List Nat×List Nat):=(true,[([],[]),([0],[0]),([],[]),([1,2],[1,2]),([3],[3]),([],[]),([5],[5]),([],[]),([6,7],[6,7]),([8],[8]),([4,9],[4,9]),([10],[10])])
def stowageref13_Same.B6:List Nat:=[0,1,0,7,15,0,32,0,224,480,1023,2047]
theorem stowageref13_Same.tab6:rtab .any (opsOf Tryd.f12 6)=stowageref13_Same.T6:=by kernel_rfl
theorem stowageref13_Same.bits6:waitsOk stowageref13_Same.T6.2 stowageref13_Same.B6=true:=by kernel_rfl
theorem stowageref13_Same.calls (k:Nat):∀ (a0_0:ByteArray) (a0_1:ByteArray) (A0_2:Option Addr) (c0_2:Nat) (l0_2:List (S30)) (a1_0:ByteArray) (a1_1:ByteArray) (A1_2:Option Addr) (c1_2:Nat) (l1_2:List (S30)) (r:Bool) (w:World) (hr0_2:Kd.C k30 w A0_2 l0_2.length l0_2) (hc0_2:l0_2.length≤c0_2) (hr1_2:Kd.C k30 w A1_2 l1_2.length l1_2) (hc1_2:l1_2.length≤c1_2) (h:stowageref13_Same.f k a0_0 a0_1 l0_2 a1_0 a1_1 l1_2=some r),
    Calls Tryd.prog 12 #[.agg #[.string a0_0,.string a0_1,.slice A0_2 l0_2.length c0_2],.agg #[.string a1_0,.string a1_1,.slice A1_2 l1_2.length c1_2]] w fun e w'=>e = .returned (.bool r)∧Below w.heap.size w w':=by
 induction k using Nat.strongRecOn with
 | _ k ih=>
 intro a0_0 a0_1 A0_2 c0_2 l0_2 a1_0 a1_1 A1_2 c1_2 l1_2 r w hr0_2 hc0_2 hr1_2 hc1_2 h
 cases k with
 | zero=>exact absurd h (by simp [stowageref13_Same.f])
 | succ k=>
 simp only [stowageref13_Same.f] at h
 have hu30:=Tryd.underlying30
 have HR0_2:=Aside0.mk hr0_2
 have HC0_2:=Aside0.mk hc0_2
 clear hr0_2 hc0_2
 have HR1_2:=Aside0.mk hr1_2
 have HC1_2:=Aside0.mk hc1_2
 clear hr1_2 hc1_2
 have HB:=Aside0.mk (Below.refl w.heap.size w)
 have H:(if a0_0.toList=a1_0.toList then(if a0_1.toList=a1_1.toList then(stowageref13_Same.j0 k ((l0_2.length:Int) != (l1_2.length:Int)) a0_0 a0_1 l0_2 a1_0 a1_1 l1_2) else(stowageref13_Same.j0 k true a0_0 a0_1 l0_2 a1_0 a1_1 l1_2)) else(stowageref13_Same.j0 k true a0_0 a0_1 l0_2 a1_0 a1_1 l1_2))=some r:=h
 clear h
 have HC3:=Aside0.mk H
 clear H
 go_enter Tryd.func12,Tryd.ntmps12
 go_upto_region 1 with(first|((with_reducible refine gate_dst (N:=2) rfl ?_);(try (refine gate_guard (by rfl) ?_;dsimp only));refine box_event ?hg (N:=2) ?hd (cs:=#[.string a0_0,.string a0_1,.slice A0_2 l0_2.length c0_2]) (t:=30) ?hr ?_;(case hd=>rfl);(case hg=>rfl);(case hr=>first|(go_simp;done)|(go_simp;rfl));intro gb210 hg w4 hbox hb;have n0_:=Aside0.mk (below_step bl hb);have n1_:=Aside0.mk (hbox);have n2_:=Aside0.mk ((by rw [hg];exact(below_size bl):w.heap.size≤gb210));have n3_:=Aside0.mk ((by rw [hg];exact(below_size bl):w.heap.size≤gb210));clear HB;have HB:=n0_;have BK210:=n1_;have GW210:=n2_;have GE210:=n3_;clear n0_ n1_ n2_ n3_;clear hb hbox hg)|((with_reducible refine gate_dst (N:=3) rfl ?_);(try (refine gate_guard (by rfl) ?_;dsimp only));refine box_event ?hg (N:=3) ?hd (cs:=#[.string a1_0,.string a1_1,.slice A1_2 l1_2.length c1_2]) (t:=30) ?hr ?_;(case hd=>rfl);(case hg=>rfl);(case hr=>first|(go_simp;done)|(go_simp;rfl));intro gb211 hg w5 hbox hb;have n0_:=Aside0.mk (blk_below (g:=gb210) (o:=.cells #[.string a0_0,.string a0_1,.slice A0_2 l0_2.length c0_2] 30 (0,0)) kl hb);have n1_:=Aside0.mk (below_step bl hb);have n2_:=Aside0.mk (hbox);have n3_:=Aside0.mk ((by rw [hg];exact(below_size bl):w.heap.size≤gb211));have n4_:=Aside0.mk ((by rw [hg];exact(below_size bl):w.heap.size≤gb211));have n5_:=Aside0.mk ((by rw [hg];exact Nat.ne_of_lt (blk_lt (g:=gb210) (o:=.cells #[.string a0_0,.string a0_1,.slice A0_2 l0_2.length c0_2] 30 (0,0)) kl):gb210≠gb211));have n6_:=Aside0.mk ((by rw [hg];exact Nat.ne_of_gt (blk_lt (g:=gb210) (o:=.cells #[.string a0_0,.string a0_1,.slice A0_2 l0_2.length c0_2] 30 (0,0)) kl):gb211≠gb210));clear BK210;clear HB;have BK210:=n0_;have HB:=n1_;have BK211:=n2_;have GW211:=n3_;have GE211:=n4_;have NB210_211:=n5_;have NB211_210:=n6_;clear n0_ n1_ n2_ n3_ n4_ n5_ n6_;clear hb hbox hg))
 (try simp only [Act.put,l1,l2,l3])
 go_cut [26] (fun v26 wc=>∃ (kq:Nat) (x26_2:Bool),v26 = .bool x26_2∧Aside0 (stowageref13_Same.j0 kq x26_2 a0_0 a0_1 l0_2 a1_0 a1_1 l1_2=some r)∧Aside0 (kq≤k)∧Aside0 (wc.heap[gb210]? = some (.cells #[.string a0_0,.string a0_1,(.slice A0_2 l0_2.length c0_2)] 30 (0,0)))∧Aside0 (wc.heap[gb211]? = some (.cells #[.string a1_0,.string a1_1,(.slice A1_2 l1_2.length c1_2)] 30 (0,0)))∧Aside0 (Below w.heap.size w wc))
 case first=>
  have H:=HC3.out
  clear HC3
  replace H:=itO H
  rcases H with⟨c6,H⟩|⟨c6,H⟩
  {
  have c6b0:(a0_0.toList == a1_0.toList)=true:=beq_iff_eq.mpr c6
  clear c6
  (first|rw [c6b0]|(simp only [i64_w,i32_w];rw [c6b0])|skip)
  replace H:=itO H
  rcases H with⟨c7,H⟩|⟨c7,H⟩
  {
  have c7b0:(a0_1.toList == a1_1.toList)=true:=beq_iff_eq.mpr c7
  clear c7
  have H':=Aside0.mk H
  clear H
  have hnb8:=NB210_211.out
  have hnc8:=NB211_210.out
  obtain⟨_,_,_,_,_,_⟩:=bc3 BK210.out
  obtain⟨_,_,_,_,_,_⟩:=bc3 BK211.out
  go_wp2
  go_meet
  case rel=>exact⟨_,(((l0_2.length:Int) != (l1_2.length:Int))),rs,H',⟨by first|omega|exact Nat.le_refl _⟩,⟨kl⟩,⟨kl⟩,⟨bl⟩⟩
  }
  {
  have c7b0:(a0_1.toList == a1_1.toList)=false:=beq_eq_false_iff_ne.mpr c7
  have H':=Aside0.mk H
  clear H
  have hnb11:=NB210_211.out
  have hnc11:=NB211_210.out
  obtain⟨_,_,_,_,_,_⟩:=bc3 BK210.out
  obtain⟨_,_,_,_,_,_⟩:=bc3 BK211.out
  go_wp2
  go_meet
  case rel=>exact⟨_,(true),rs,H',⟨by first|omega|exact Nat.le_refl _⟩,⟨kl⟩,⟨kl⟩,⟨bl⟩⟩
  }
  }
  {
  have c6b0:(a0_0.toList == a1_0.toList)=false:=beq_eq_false_iff_ne.mpr c6
  (first|rw [c6b0]|(simp only [i64_w,i32_w];rw [c6b0])|skip)
  have H':=Aside0.mk H
  clear H
  have hnb14:=NB210_211.out
  have hnc14:=NB211_210.out
  obtain⟨_,_,_,_,_,_⟩:=bc3 BK210.out
  obtain⟨_,_,_,_,_,_⟩:=bc3 BK211.out
  go_wp2
  go_meet
  case rel=>exact⟨_,(true),rs,H',⟨by first|omega|exact Nat.le_refl _⟩,⟨kl⟩,⟨kl⟩,⟨bl⟩⟩
  }
 case rest=>
  clear HC3
  obtain⟨kq,x26_2,rfl,HA,HJ2,BK210,BK211,HB⟩:=hcut
  cases kq with
  | zero=>exact absurd HA.out (by simp [stowageref13_Same.j0])
  | succ kj2=>
   have H:=HA.out
   clear HA
   simp only [stowageref13_Same.j0] at H
   by_cases c17:x26_2=true
   {
   subst c17
   replace H:=itT H
   obtain rfl:=Option.some.inj H
   go_wp2
   go_ret
   exact⟨ew,bl⟩
   }
   {
   replace c17:=Bool.eq_false_iff.mpr c17
   subst c17
   replace H:=itF H
   have H':=Aside0.mk H
   clear H
   go_wp2
   go_loopg [5] kj2 (fun kq v5 w'=>∃ (x5_2:Int),v5 = .int .i64 x5_2∧Aside0 (stowageref13_Same.l0 kq x5_2 a0_0 a0_1 l0_2 a1_0 a1_1 l1_2=some r)∧Aside0 (kq≤kj2)∧Aside0 (w'.heap[gb210]? = some (.cells #[.string a0_0,.string a0_1,(.slice A0_2 l0_2.length c0_2)] 30 (0,0)))∧Aside0 (w'.heap[gb211]? = some (.cells #[.string a1_0,.string a1_1,(.slice A1_2 l1_2.length c1_2)] 30 (0,0)))∧Aside0 (Below w.heap.size w w'))
   case atStart=>exact⟨(0),rs,H',⟨Nat.le_refl _⟩,⟨kl⟩,⟨kl⟩,⟨bl⟩⟩
   case round=>
    clear H'
    obtain⟨x5_2,rfl,HA,HK2,BK210,BK211,HB⟩:=hrel
    cases gk with
    | zero=>exact absurd HA.out (by simp [stowageref13_Same.l0])
    | succ k2=>
     have H:=HA.out
     clear HA
     simp only [stowageref13_Same.l0] at H
     replace H:=itO H
     rcases H with⟨c18,H⟩|⟨c18,H⟩
     {
     have c18b0:decide (x5_2<(l0_2.length:Int))=true:=decide_eq_true c18
     clear c18
     replace H:=itO H
     rcases H with⟨c19,H⟩|⟨c19,H⟩
     {
     have c19b0:decide (0≤x5_2)=true:=decide_eq_true c19
     clear c19
     replace H:=itO H
     rcases H with⟨c20,H⟩|⟨c20,H⟩
     {
     have c20b0:decide (x5_2<(l1_2.length:Int))=true:=decide_eq_true c20
     clear c20
     replace H:=bndO H
     obtain⟨t214,A210,H⟩:=H
     have A21:=Aside0.mk A210
     clear A210
     by_cases c22:t214=true
     {
     subst c22
     replace H:=itT H
     have H':=Aside0.mk H
     clear H
     have hnb23:=NB210_211.out
     have hnc23:=NB211_210.out
     obtain⟨_,_,_,_,_,_⟩:=bc3 BK210.out
     try go_wp2
     have n0_:=Aside0.mk (blk_drew BK210.out)
     have n1_:=Aside0.mk (blk_drew BK211.out)
     have n2_:=Aside0.mk (below_drew1 HB.out)
     clear BK210
     clear BK211
     clear HB
     have BK210:=n0_
     have BK211:=n1_
     have HB:=n2_
     clear n0_ n1_ n2_
     have p212:0≤(x5_2:Int):=of_decide_eq_true asm
     have q212:x5_2<(l0_2.length:Int):=of_decide_eq_true asm
     obtain⟨ad212,A212_2,c212_2,e212,hx212_0,hx212_1,hx212_2,hl212_2,hi212_2⟩:=at_T30 HR0_2.out x5_2 p212 q212
     have hw212_2:=hx212_2
     have hw212_1:=hx212_1
     have hw212_0:=hx212_0
     cases e212
     replace hx212_0:=(HB.out.cell (World.block_lt_of_cell? w _ hx212_0)).trans hx212_0
     replace hx212_1:=(HB.out.cell (World.block_lt_of_cell? w _ hx212_1)).trans hx212_1
     replace hx212_2:=(HB.out.cell (World.block_lt_of_cell? w _ hx212_2)).trans hx212_2
     have HR212_2:=Aside0.mk hi212_2
     have HC212_2:=Aside0.mk hl212_2
     clear hi212_2 hl212_2
     replace p212:=eq_true p212
     replace q212:=eq_true q212
     have p213:0≤(x5_2:Int):=of_decide_eq_true asm
     have q213:x5_2<(l1_2.length:Int):=of_decide_eq_true asm
     obtain⟨ad213,A213_2,c213_2,e213,hx213_0,hx213_1,hx213_2,hl213_2,hi213_2⟩:=at_T30 HR1_2.out x5_2 p213 q213
     have hw213_2:=hx213_2
     have hw213_1:=hx213_1
     have hw213_0:=hx213_0
     cases e213
     replace hx213_0:=(HB.out.cell (World.block_lt_of_cell? w _ hx213_0)).trans hx213_0
     replace hx213_1:=(HB.out.cell (World.block_lt_of_cell? w _ hx213_1)).trans hx213_1
     replace hx213_2:=(HB.out.cell (World.block_lt_of_cell? w _ hx213_2)).trans hx213_2
     have HR213_2:=Aside0.mk hi213_2
     have HC213_2:=Aside0.mk hl213_2
     clear hi213_2 hl213_2
     replace p213:=eq_true p213
     replace q213:=eq_true q213
     refine start_ (n:=12) (S:=fun w'=>w'.cell? ⟨gb210,0,none⟩=some (.string a0_0)∧w'.cell? ⟨gb210,1,none⟩=some (.string a0_1)∧w'.cell? ⟨gb210,2,none⟩=some (.slice (some ad212) l0_2.length c0_2)∧w'.cell? ⟨gb211,0,none⟩=some (.string a1_0)∧w'.cell? ⟨gb211,1,none⟩=some (.string a1_1)∧w'.cell? ⟨gb211,2,none⟩=some (.slice (some ad213) l1_2.length c1_2)∧w'.cell? (ad212.add ((x5_2).toNat*3))=some (.string ((rd_T30 l0_2 x5_2).f0))∧w'.cell? ⟨(ad212.add ((x5_2).toNat*3)).block,(ad212.add ((x5_2).toNat*3)).off+1,none⟩=some (.string ((rd_T30 l0_2 x5_2).f1))∧w'.cell? ⟨(ad212.add ((x5_2).toNat*3)).block,(ad212.add ((x5_2).toNat*3)).off+2,none⟩=some (.slice A212_2 ((rd_T30 l0_2 x5_2).f2).length c212_2)∧w'.cell? (ad213.add ((x5_2).toNat*3))=some (.string ((rd_T30 l1_2 x5_2).f0))∧w'.cell? ⟨(ad213.add ((x5_2).toNat*3)).block,(ad213.add ((x5_2).toNat*3)).off+1,none⟩=some (.string ((rd_T30 l1_2 x5_2).f1))∧w'.cell? ⟨(ad213.add ((x5_2).toNat*3)).block,(ad213.add ((x5_2).toNat*3)).off+2,none⟩=some (.slice A213_2 ((rd_T30 l1_2 x5_2).f2).length c213_2)) (ds:=[]) #[F,F,F,F,F,F,F,F,F,F,F,F] kr rfl rfl ⟨(blk_cell BK210.out 0).trans rfl,(blk_cell BK210.out 1).trans rfl,(blk_cell BK210.out 2).trans rfl,(blk_cell BK211.out 0).trans rfl,(blk_cell BK211.out 1).trans rfl,(blk_cell BK211.out 2).trans rfl,((HB.out.cell (World.block_lt_of_cell? w _ hw212_0)).trans hw212_0),((HB.out.cell (World.block_lt_of_cell? w _ hw212_1)).trans hw212_1),((HB.out.cell (World.block_lt_of_cell? w _ hw212_2)).trans hw212_2),((HB.out.cell (World.block_lt_of_cell? w _ hw213_0)).trans hw213_0),((HB.out.cell (World.block_lt_of_cell? w _ hw213_1)).trans hw213_1),((HB.out.cell (World.block_lt_of_cell? w _ hw213_2)).trans hw213_2)⟩ (fun hHeld=>?_);refine with_tabW stowageref13_Same.tab6 stowageref13_Same.bits6 (fun HT_ HW_=>?_)
     generalize wr.drew=w25 at BK210 BK211 HB HR212_2 HR213_2 hx212_0 hx212_1 hx212_2 hx213_0 hx213_1 hx213_2 hHeld ⊢
     refine pure_ (i:=0) (N:=some 34) (v:=?_) (a':=?_) #[T,F,F,F,F,F,F,F,F,F,F,F] rfl rfl (any_of HT_.out kr) (fun _ _ _ h=>h) (Or.inl ⟨by rfl,?_⟩) ?_ ?_
     rotate_left
     {
     intro w'
     go_simp
     with_reducible rfl
     }
     rotate_left
     {
     simp only [Act.put,l1,l2,l3,i64_w,i32_w]
     rfl
     }
     refine pure_ (i:=2) (N:=some 36) (v:=?_) (a':=?_) #[T,F,T,F,F,F,F,F,F,F,F,F] rfl rfl (any_of HT_.out kr) (fun _ _ _ h=>h) (Or.inl ⟨by rfl,?_⟩) ?_ ?_
     rotate_left
     {
     intro w'
     go_simp
     with_reducible rfl
     }
     rotate_left
     {
     simp only [Act.put,l1,l2,l3,i64_w,i32_w]
     rfl
     }
     refine pure_ (i:=5) (N:=some 39) (v:=?_) (a':=?_) #[T,F,T,F,F,T,F,F,F,F,F,F] rfl rfl (any_of HT_.out kr) (fun _ _ _ h=>h) (Or.inl ⟨by rfl,?_⟩) ?_ ?_
     rotate_left
     {
     intro w'
     go_simp
     with_reducible rfl
     }
     rotate_left
     {
     simp only [Act.put,l1,l2,l3,i64_w,i32_w]
     rfl
     }
     refine pure_ (i:=7) (N:=some 41) (v:=?_) (a':=?_) #[T,F,T,F,F,T,F,T,F,F,F,F] rfl rfl (any_of HT_.out kr) (fun _ _ _ h=>h) (Or.inl ⟨by rfl,?_⟩) ?_ ?_
     rotate_left
     {
     intro w'
     go_simp
     with_reducible rfl
     }
     rotate_left
     {
     simp only [Act.put,l1,l2,l3,i64_w,i32_w]
     rfl
     }
     refine take_ (i:=1) (N:=some 35) (v:=?_) (a':=?_) #[T,T,T,F,F,T,F,T,F,F,F,F] rfl rfl (take_ofW HT_.out HW_.out kr) (fun _ _ _ h=>h) (Or.inl ⟨by rfl,?_⟩) hHeld ?_ ?_
     rotate_left
     {
     rintro w' ⟨s0,s1,s2,s3,s4,s5,s6,s7,s8,s9,s10,s11⟩
     go_simp
     with_reducible rfl
     }
     rotate_left
     {
     simp only [Act.put,l1,l2,l3,i64_w,i32_w]
     rfl
     }
     refine pure_ (i:=3) (N:=some 37) (v:=?_) (a':=?_) #[T,T,T,T,F,T,F,T,F,F,F,F] rfl rfl (any_of HT_.out kr) (fun _ _ _ h=>h) (Or.inl ⟨by rfl,?_⟩) ?_ ?_
     rotate_left
     {
     intro w'
     go_simp
     with_reducible rfl
     }
     rotate_left
     {
     simp only [Act.put,l1,l2,l3,i64_w,i32_w]
     rfl
     }
     refine take_ (i:=4) (N:=some 38) (v:=?_) (a':=?_) #[T,T,T,T,T,T,F,T,F,F,F,F] rfl rfl (take_ofW HT_.out HW_.out kr) (fun _ _ _ h=>h) (Or.inl ⟨by rfl,?_⟩) hHeld ?_ ?_
     rotate_left
     {
     rintro w' ⟨s0,s1,s2,s3,s4,s5,s6,s7,s8,s9,s10,s11⟩
     go_simp
     with_reducible rfl
     }
     rotate_left
     {
     simp only [Act.put,l1,l2,l3,i64_w,i32_w]
     rfl
     }
     refine take_ (i:=6) (N:=some 40) (v:=?_) (a':=?_) #[T,T,T,T,T,T,T,T,F,F,F,F] rfl rfl (take_ofW HT_.out HW_.out kr) (fun _ _ _ h=>h) (Or.inl ⟨by rfl,?_⟩) hHeld ?_ ?_
     rotate_left
     {
     rintro w' ⟨s0,s1,s2,s3,s4,s5,s6,s7,s8,s9,s10,s11⟩
     go_simp
     with_reducible rfl
     }
     rotate_left
     {
     simp only [Act.put,l1,l2,l3,i64_w,i32_w]
     rfl
     }
     refine pure_ (i:=8) (N:=some 42) (v:=?_) (a':=?_) #[T,T,T,T,T,T,T,T,T,F,F,F] rfl rfl (any_of HT_.out kr) (fun _ _ _ h=>h) (Or.inl ⟨by rfl,?_⟩) ?_ ?_
     rotate_left
     {
     intro w'
     go_simp
     with_reducible rfl
     }
     rotate_left
     {
     simp only [Act.put,l1,l2,l3,i64_w,i32_w]
     rfl
     }
     refine take_ (i:=9) (N:=some 43) (v:=?_) (a':=?_) #[T,T,T,T,T,T,T,T,T,T,F,F] rfl rfl (take_ofW HT_.out HW_.out kr) (fun _ _ _ h=>h) (Or.inl ⟨by rfl,?_⟩) hHeld ?_ ?_
     rotate_left
     {
     rintro w' ⟨s0,s1,s2,s3,s4,s5,s6,s7,s8,s9,s10,s11⟩
     go_simp
     with_reducible rfl
     }
     rotate_left
     {
     simp only [Act.put,l1,l2,l3,i64_w,i32_w]
     rfl
     }
     refine one_ (i:=10) (N:=some 44) #[T,T,T,T,T,T,T,T,T,T,T,F] rfl rfl (one_of HT_.out kr) (by decide) (fun K hK=>?_)
     refine goes_ Tryd.func12 kr rfl #[.agg #[.string ((rd_T30 l0_2 x5_2).f0),.string ((rd_T30 l0_2 x5_2).f1),.slice A212_2 ((rd_T30 l0_2 x5_2).f2).length c212_2],.agg #[.string ((rd_T30 l1_2 x5_2).f0),.string ((rd_T30 l1_2 x5_2).f1),.slice A213_2 ((rd_T30 l1_2 x5_2).f2).length c213_2]] (by rfl) rfl rfl am ?_
     with_reducible refine(ih k2 (by have:=HJ2.out;have:=HK2.out;omega) ((rd_T30 l0_2 x5_2).f0) ((rd_T30 l0_2 x5_2).f1) _ _ ((rd_T30 l0_2 x5_2).f2) ((rd_T30 l1_2 x5_2).f0) ((rd_T30 l1_2 x5_2).f1) _ _ ((rd_T30 l1_2 x5_2).f2) true _ ?side1 ?side2 ?side3 ?side4 A21.out).mono ?_
     (case side1=>repeat (first|exact(Kd.C_below HR212_2.out HB.out)|(with_reducible refine Kd.C_alloc ?_ _)|(with_reducible refine Kd.C_drewN ?_ _)|(with_reducible refine Kd.C_drew ?_)))
     (case side2=>exact HC212_2.out)
     (case side3=>repeat (first|exact(Kd.C_below HR213_2.out HB.out)|(with_reducible refine Kd.C_alloc ?_ _)|(with_reducible refine Kd.C_drewN ?_ _)|(with_reducible refine Kd.C_drew ?_)))
     (case side4=>exact HC213_2.out)
     rintro e w26 ⟨rfl,hb⟩
     refine⟨_,rfl,?_⟩
     have n0_:=Aside0.mk (blk_below (g:=gb210) (o:=.cells #[.string a0_0,.string a0_1,.slice (some ad212) l0_2.length c0_2] 30 (0,0)) kl hb)
     have n1_:=Aside0.mk (blk_below (g:=gb211) (o:=.cells #[.string a1_0,.string a1_1,.slice (some ad213) l1_2.length c1_2] 30 (0,0)) kl hb)
     have n2_:=Aside0.mk (below_step bl hb)
     clear BK210
     clear BK211
     clear HB
     have BK210:=n0_
     have BK211:=n1_
     have HB:=n2_
     clear n0_ n1_ n2_
     (try clear hb)
     (try clear hb2)
     (try clear hk)
     (try clear hi)
     refine hK.out _ _ ⟨(blk_cell BK210.out 0).trans rfl,(blk_cell BK210.out 1).trans rfl,(blk_cell BK210.out 2).trans rfl,(blk_cell BK211.out 0).trans rfl,(blk_cell BK211.out 1).trans rfl,(blk_cell BK211.out 2).trans rfl,((HB.out.cell (World.block_lt_of_cell? w _ hw212_0)).trans hw212_0),((HB.out.cell (World.block_lt_of_cell? w _ hw212_1)).trans hw212_1),((HB.out.cell (World.block_lt_of_cell? w _ hw212_2)).trans hw212_2),((HB.out.cell (World.block_lt_of_cell? w _ hw213_0)).trans hw213_0),((HB.out.cell (World.block_lt_of_cell? w _ hw213_1)).trans hw213_1),((HB.out.cell (World.block_lt_of_cell? w _ hw213_2)).trans hw213_2)⟩ (fun hHeld=>?_)
     clear hK K
     refine norm_ (a':=?_) ?_ ?_
     rotate_left
     {
     show Act.put _ (some 44) _=_
     simp only [Act.put,l1,l2,l3,i64_w,i32_w]
     rfl
     }
     refine pure_ (i:=11) (N:=some 45) (v:=?_) (a':=?_) #[T,T,T,T,T,T,T,T,T,T,T,T] rfl rfl (any_of HT_.out kr) (fun _ _ _ h=>h) (Or.inl ⟨by rfl,?_⟩) ?_ ?_
     rotate_left
     {
     intro w'
     go_simp
     with_reducible rfl
     }
     rotate_left
     {
     simp only [Act.put,l1,l2,l3,i64_w,i32_w]
     rfl
     }
     refine done_ (done_of HT_.out kr) ?_
     try go_wp2
     go_roundg k2
     case measure=>have:=HJ2.out;have:=HK2.out;omega
     case rel=>exact⟨(wrap64 (x5_2+1)),rs,H',⟨by have:=HJ2.out;have:=HK2.out;omega⟩,⟨kl⟩,⟨kl⟩,⟨bl⟩⟩
     }
     {
     replace c22:=Bool.eq_false_iff.mpr c22
     subst c22
     replace H:=itF H
     obtain rfl:=Option.some.inj H
     have hnb27:=NB210_211.out
     have hnc27:=NB211_210.out
     obtain⟨_,_,_,_,_,_⟩:=bc3 BK210.out
     try go_wp2
     have n0_:=Aside0.mk (blk_drew BK210.out)
     have n1_:=Aside0.mk (blk_drew BK211.out)
     have n2_:=Aside0.mk (below_drew1 HB.out)
     clear BK210
     clear BK211
     clear HB
     have BK210:=n0_
     have BK211:=n1_
     have HB:=n2_
     clear n0_ n1_ n2_
     have p212:0≤(x5_2:Int):=of_decide_eq_true asm
     have q212:x5_2<(l0_2.length:Int):=of_decide_eq_true asm
     obtain⟨ad212,A212_2,c212_2,e212,hx212_0,hx212_1,hx212_2,hl212_2,hi212_2⟩:=at_T30 HR0_2.out x5_2 p212 q212
     have hw212_2:=hx212_2
     have hw212_1:=hx212_1
     have hw212_0:=hx212_0
     cases e212
     replace hx212_0:=(HB.out.cell (World.block_lt_of_cell? w _ hx212_0)).trans hx212_0
     replace hx212_1:=(HB.out.cell (World.block_lt_of_cell? w _ hx212_1)).trans hx212_1
     replace hx212_2:=(HB.out.cell (World.block_lt_of_cell? w _ hx212_2)).trans hx212_2
     have HR212_2:=Aside0.mk hi212_2
     have HC212_2:=Aside0.mk hl212_2
     clear hi212_2 hl212_2
     replace p212:=eq_true p212
     replace q212:=eq_true q212
     have p213:0≤(x5_2:Int):=of_decide_eq_true asm
     have q213:x5_2<(l1_2.length:Int):=of_decide_eq_true asm
     obtain⟨ad213,A213_2,c213_2,e213,hx213_0,hx213_1,hx213_2,hl213_2,hi213_2⟩:=at_T30 HR1_2.out x5_2 p213 q213
     have hw213_2:=hx213_2
     have hw213_1:=hx213_1
     have hw213_0:=hx213_0
     cases e213
     replace hx213_0:=(HB.out.cell (World.block_lt_of_cell? w _ hx213_0)).trans hx213_0
     replace hx213_1:=(HB.out.cell (World.block_lt_of_cell? w _ hx213_1)).trans hx213_1
     replace hx213_2:=(HB.out.cell (World.block_lt_of_cell? w _ hx213_2)).trans hx213_2
     have HR213_2:=Aside0.mk hi213_2
     have HC213_2:=Aside0.mk hl213_2
     clear hi213_2 hl213_2
     replace p213:=eq_true p213
     replace q213:=eq_true q213
     refine start_ (n:=12) (S:=fun w'=>w'.cell? ⟨gb210,0,none⟩=some (.string a0_0)∧w'.cell? ⟨gb210,1,none⟩=some (.string a0_1)∧w'.cell? ⟨gb210,2,none⟩=some (.slice (some ad212) l0_2.length c0_2)∧w'.cell? ⟨gb211,0,none⟩=some (.string a1_0)∧w'.cell? ⟨gb211,1,none⟩=some (.string a1_1)∧w'.cell? ⟨gb211,2,none⟩=some (.slice (some ad213) l1_2.length c1_2)∧w'.cell? (ad212.add ((x5_2).toNat*3))=some (.string ((rd_T30 l0_2 x5_2).f0))∧w'.cell? ⟨(ad212.add ((x5_2).toNat*3)).block,(ad212.add ((x5_2).toNat*3)).off+1,none⟩=some (.string ((rd_T30 l0_2 x5_2).f1))∧w'.cell? ⟨(ad212.add ((x5_2).toNat*3)).block,(ad212.add ((x5_2).toNat*3)).off+2,none⟩=some (.slice A212_2 ((rd_T30 l0_2 x5_2).f2).length c212_2)∧w'.cell? (ad213.add ((x5_2).toNat*3))=some (.string ((rd_T30 l1_2 x5_2).f0))∧w'.cell? ⟨(ad213.add ((x5_2).toNat*3)).block,(ad213.add ((x5_2).toNat*3)).off+1,none⟩=some (.string ((rd_T30 l1_2 x5_2).f1))∧w'.cell? ⟨(ad213.add ((x5_2).toNat*3)).block,(ad213.add ((x5_2).toNat*3)).off+2,none⟩=some (.slice A213_2 ((rd_T30 l1_2 x5_2).f2).length c213_2)) (ds:=[]) #[F,F,F,F,F,F,F,F,F,F,F,F] kr rfl rfl ⟨(blk_cell BK210.out 0).trans rfl,(blk_cell BK210.out 1).trans rfl,(blk_cell BK210.out 2).trans rfl,(blk_cell BK211.out 0).trans rfl,(blk_cell BK211.out 1).trans rfl,(blk_cell BK211.out 2).trans rfl,((HB.out.cell (World.block_lt_of_cell? w _ hw212_0)).trans hw212_0),((HB.out.cell (World.block_lt_of_cell? w _ hw212_1)).trans hw212_1),((HB.out.cell (World.block_lt_of_cell? w _ hw212_2)).trans hw212_2),((HB.out.cell (World.block_lt_of_cell? w _ hw213_0)).trans hw213_0),((HB.out.cell (World.block_lt_of_cell? w _ hw213_1)).trans hw213_1),((HB.out.cell (World.block_lt_of_cell? w _ hw213_2)).trans hw213_2)⟩ (fun hHeld=>?_);refine with_tabW stowageref13_Same.tab6 stowageref13_Same.bits6 (fun HT_ HW_=>?_)
     generalize wr.drew=w29 at BK210 BK211 HB HR212_2 HR213_2 hx212_0 hx212_1 hx212_2 hx213_0 hx213_1 hx213_2 hHeld ⊢
     refine pure_ (i:=0) (N:=some 34) (v:=?_) (a':=?_) #[T,F,F,F,F,F,F,F,F,F,F,F] rfl rfl (any_of HT_.out kr) (fun _ _ _ h=>h) (Or.inl ⟨by rfl,?_⟩) ?_ ?_
     rotate_left
     {
     intro w'
     go_simp
     with_reducible rfl
     }
     rotate_left
     {
     simp only [Act.put,l1,l2,l3,i64_w,i32_w]
     rfl
     }
     refine pure_ (i:=2) (N:=some 36) (v:=?_) (a':=?_) #[T,F,T,F,F,F,F,F,F,F,F,F] rfl rfl (any_of HT_.out kr) (fun _ _ _ h=>h) (Or.inl ⟨by rfl,?_⟩) ?_ ?_
     rotate_left
     {
     intro w'
     go_simp
     with_reducible rfl
     }
     rotate_left
     {
     simp only [Act.put,l1,l2,l3,i64_w,i32_w]
     rfl
     }
     refine pure_ (i:=5) (N:=some 39) (v:=?_) (a':=?_) #[T,F,T,F,F,T,F,F,F,F,F,F] rfl rfl (any_of HT_.out kr) (fun _ _ _ h=>h) (Or.inl ⟨by rfl,?_⟩) ?_ ?_
     rotate_left
     {
     intro w'
     go_simp
     with_reducible rfl
     }
     rotate_left
     {
     simp only [Act.put,l1,l2,l3,i64_w,i32_w]
     rfl
     }
     refine pure_ (i:=7) (N:=some 41) (v:=?_) (a':=?_) #[T,F,T,F,F,T,F,T,F,F,F,F] rfl rfl (any_of HT_.out kr) (fun _ _ _ h=>h) (Or.inl ⟨by rfl,?_⟩) ?_ ?_
     rotate_left
     {
     intro w'
     go_simp
     with_reducible rfl
     }
     rotate_left
     {
     simp only [Act.put,l1,l2,l3,i64_w,i32_w]
     rfl
     }
     refine take_ (i:=1) (N:=some 35) (v:=?_) (a':=?_) #[T,T,T,F,F,T,F,T,F,F,F,F] rfl rfl (take_ofW HT_.out HW_.out kr) (fun _ _ _ h=>h) (Or.inl ⟨by rfl,?_⟩) hHeld ?_ ?_
     rotate_left
     {
     rintro w' ⟨s0,s1,s2,s3,s4,s5,s6,s7,s8,s9,s10,s11⟩
     go_simp
     with_reducible rfl
     }
     rotate_left
     {
     simp only [Act.put,l1,l2,l3,i64_w,i32_w]
     rfl
     }
     refine pure_ (i:=3) (N:=some 37) (v:=?_) (a':=?_) #[T,T,T,T,F,T,F,T,F,F,F,F] rfl rfl (any_of HT_.out kr) (fun _ _ _ h=>h) (Or.inl ⟨by rfl,?_⟩) ?_ ?_
     rotate_left
     {
     intro w'
     go_simp
     with_reducible rfl
     }
     rotate_left
     {
     simp only [Act.put,l1,l2,l3,i64_w,i32_w]
     rfl
     }
     refine take_ (i:=4) (N:=some 38) (v:=?_) (a':=?_) #[T,T,T,T,T,T,F,T,F,F,F,F] rfl rfl (take_ofW HT_.out HW_.out kr) (fun _ _ _ h=>h) (Or.inl ⟨by rfl,?_⟩) hHeld ?_ ?_
     rotate_left
     {
     rintro w' ⟨s0,s1,s2,s3,s4,s5,s6,s7,s8,s9,s10,s11⟩
     go_simp
     with_reducible rfl
     }
     rotate_left
     {
     simp only [Act.put,l1,l2,l3,i64_w,i32_w]
     rfl
     }
     refine take_ (i:=6) (N:=some 40) (v:=?_) (a':=?_) #[T,T,T,T,T,T,T,T,F,F,F,F] rfl rfl (take_ofW HT_.out HW_.out kr) (fun _ _ _ h=>h) (Or.inl ⟨by rfl,?_⟩) hHeld ?_ ?_
     rotate_left
     {
     rintro w' ⟨s0,s1,s2,s3,s4,s5,s6,s7,s8,s9,s10,s11⟩
     go_simp
     with_reducible rfl
     }
     rotate_left
     {
     simp only [Act.put,l1,l2,l3,i64_w,i32_w]
     rfl
     }
     refine pure_ (i:=8) (N:=some 42) (v:=?_) (a':=?_) #[T,T,T,T,T,T,T,T,T,F,F,F] rfl rfl (any_of HT_.out kr) (fun _ _ _ h=>h) (Or.inl ⟨by rfl,?_⟩) ?_ ?_
     rotate_left
     {
     intro w'
     go_simp
     with_reducible rfl
     }
     rotate_left
     {
     simp only [Act.put,l1,l2,l3,i64_w,i32_w]
     rfl
     }
     refine take_ (i:=9) (N:=some 43) (v:=?_) (a':=?_) #[T,T,T,T,T,T,T,T,T,T,F,F] rfl rfl (take_ofW HT_.out HW_.out kr) (fun _ _ _ h=>h) (Or.inl ⟨by rfl,?_⟩) hHeld ?_ ?_
     rotate_left
     {
     rintro w' ⟨s0,s1,s2,s3,s4,s5,s6,s7,s8,s9,s10,s11⟩
     go_simp
     with_reducible rfl
     }
     rotate_left
     {
     simp only [Act.put,l1,l2,l3,i64_w,i32_w]
     rfl
     }
     refine one_ (i:=10) (N:=some 44) #[T,T,T,T,T,T,T,T,T,T,T,F] rfl rfl (one_of HT_.out kr) (by decide) (fun K hK=>?_)
     refine goes_ Tryd.func12 kr rfl #[.agg #[.string ((rd_T30 l0_2 x5_2).f0),.string ((rd_T30 l0_2 x5_2).f1),.slice A212_2 ((rd_T30 l0_2 x5_2).f2).length c212_2],.agg #[.string ((rd_T30 l1_2 x5_2).f0),.string ((rd_T30 l1_2 x5_2).f1),.slice A213_2 ((rd_T30 l1_2 x5_2).f2).length c213_2]] (by rfl) rfl rfl am ?_
     with_reducible refine(ih k2 (by have:=HJ2.out;have:=HK2.out;omega) ((rd_T30 l0_2 x5_2).f0) ((rd_T30 l0_2 x5_2).f1) _ _ ((rd_T30 l0_2 x5_2).f2) ((rd_T30 l1_2 x5_2).f0) ((rd_T30 l1_2 x5_2).f1) _ _ ((rd_T30 l1_2 x5_2).f2) false _ ?side1 ?side2 ?side3 ?side4 A21.out).mono ?_
     (case side1=>repeat (first|exact(Kd.C_below HR212_2.out HB.out)|(with_reducible refine Kd.C_alloc ?_ _)|(with_reducible refine Kd.C_drewN ?_ _)|(with_reducible refine Kd.C_drew ?_)))
     (case side2=>exact HC212_2.out)
     (case side3=>repeat (first|exact(Kd.C_below HR213_2.out HB.out)|(with_reducible refine Kd.C_alloc ?_ _)|(with_reducible refine Kd.C_drewN ?_ _)|(with_reducible refine Kd.C_drew ?_)))
     (case side4=>exact HC213_2.out)
     rintro e w30 ⟨rfl,hb⟩
     refine⟨_,rfl,?_⟩
     have n0_:=Aside0.mk (blk_below (g:=gb210) (o:=.cells #[.string a0_0,.string a0_1,.slice (some ad212) l0_2.length c0_2] 30 (0,0)) kl hb)
     have n1_:=Aside0.mk (blk_below (g:=gb211) (o:=.cells #[.string a1_0,.string a1_1,.slice (some ad213) l1_2.length c1_2] 30 (0,0)) kl hb)
     have n2_:=Aside0.mk (below_step bl hb)
     clear BK210
     clear BK211
     clear HB
     have BK210:=n0_
     have BK211:=n1_
     have HB:=n2_
     clear n0_ n1_ n2_
     (try clear hb)
     (try clear hb2)
     (try clear hk)
     (try clear hi)
     refine hK.out _ _ ⟨(blk_cell BK210.out 0).trans rfl,(blk_cell BK210.out 1).trans rfl,(blk_cell BK210.out 2).trans rfl,(blk_cell BK211.out 0).trans rfl,(blk_cell BK211.out 1).trans rfl,(blk_cell BK211.out 2).trans rfl,((HB.out.cell (World.block_lt_of_cell? w _ hw212_0)).trans hw212_0),((HB.out.cell (World.block_lt_of_cell? w _ hw212_1)).trans hw212_1),((HB.out.cell (World.block_lt_of_cell? w _ hw212_2)).trans hw212_2),((HB.out.cell (World.block_lt_of_cell? w _ hw213_0)).trans hw213_0),((HB.out.cell (World.block_lt_of_cell? w _ hw213_1)).trans hw213_1),((HB.out.cell (World.block_lt_of_cell? w _ hw213_2)).trans hw213_2)⟩ (fun hHeld=>?_)
     clear hK K
     refine norm_ (a':=?_) ?_ ?_
     rotate_left
     {
     show Act.put _ (some 44) _=_
     simp only [Act.put,l1,l2,l3,i64_w,i32_w]
     rfl
     }
     refine pure_ (i:=11) (N:=some 45) (v:=?_) (a':=?_) #[T,T,T,T,T,T,T,T,T,T,T,T] rfl rfl (any_of HT_.out kr) (fun _ _ _ h=>h) (Or.inl ⟨by rfl,?_⟩) ?_ ?_
     rotate_left
     {
     intro w'
     go_simp
     with_reducible rfl
     }
     rotate_left
     {
     simp only [Act.put,l1,l2,l3,i64_w,i32_w]
     rfl
     }
     refine done_ (done_of HT_.out kr) ?_
     try go_wp2
     go_ret
     exact⟨ew,bl⟩
     }
     }
     ·exact absurd H (by simp)
     }
     ·exact absurd H (by simp)
     }
     {
     have c18b0:decide (x5_2<(l0_2.length:Int))=false:=decide_eq_false c18
     clear c18
     obtain rfl:=Option.some.inj H
     have hnb31:=NB210_211.out
     have hnc31:=NB211_210.out
     obtain⟨_,_,_,_,_,_⟩:=bc3 BK210.out
     go_wp2
     go_ret
     exact⟨ew,bl⟩
     }
   }
mutual
def stowagelaw13_To.l0:Nat→Int→ByteArray→ByteArray→List (S24)→ByteArray→ByteArray→List (S30)→Option (ByteArray×ByteArray×(List (S30)))
  | 0,_,_,_,_,_,_,_=>none
  | k+1,x4,x216000,x216001,x216002,x218000,x218001,x218002=>if x4<(x216002.length:Int) then(if 0≤x4 then((stowagelaw13_To.f k ((rd_T24 x216002 x4).f0) ((rd_T24 x216002 x4).f1) ((rd_T24 x216002 x4).f2)).bind fun bt219=>(if x218002.length<2513169434916 then(stowagelaw13_To.l0 k (wrap64 (x4+1)) x216000 x216001 x216002 x218000 x218001 (x218002 ++ [(⟨bt219.1,bt219.2.1,bt219.2.2⟩ : S30)])) else(none))) else(none)) else(some (x218000,x218001,x218002))
def stowagelaw13_To.f:Nat→ByteArray→ByteArray→List (S24)→Option (ByteArray×ByteArray×(List (S30)))
  | 0,_,_,_=>none
  | k+1,a0_0,a0_1,l0_2=>stowagelaw13_To.l0 k 0 a0_0 a0_1 l0_2 a0_0 a0_1 ([]:List (S30))
end
theorem stowagelaw13_To.mono_l:∀ k,(∀ y0 y1 y2,LeO (stowagelaw13_To.f k y0 y1 y2) (stowagelaw13_To.f (k+1) y0 y1 y2))∧(∀ y0 y1 y2 y3 y4 y5 y6,LeO (stowagelaw13_To.l0 k y0 y1 y2 y3 y4 y5 y6) (stowagelaw13_To.l0 (k+1) y0 y1 y2 y3 y4 y5 y6))
  | 0=>⟨fun _ _ _ r h=>by simp [stowagelaw13_To.f] at h,fun _ _ _ _ _ _ _ r h=>by simp [stowagelaw13_To.l0] at h⟩
  | k+1=>by
    obtain⟨ih0,ih1⟩:=stowagelaw13_To.mono_l k
    refine⟨?_,?_⟩
    · intro y0 y1 y2
      unfold stowagelaw13_To.f
      with_reducible repeat' first|exact ih0 _ _ _|exact ih1 _ _ _ _ _ _ _|exact LeO.refl _|exact LeO.none _|refine LeO.ite ?_ ?_|refine LeO.bind ?_ (fun _=>?_)
    · intro y0 y1 y2 y3 y4 y5 y6
      unfold stowagelaw13_To.l0
      with_reducible repeat' first|exact ih0 _ _ _|exact ih1 _ _ _ _ _ _ _|exact LeO.refl _|exact LeO.none _|refine LeO.ite ?_ ?_|refine LeO.bind ?_ (fun _=>?_)
theorem stowagelaw13_To.mono:∀ a0 a1 a2 k,LeO (stowagelaw13_To.f k a0 a1 a2) (stowagelaw13_To.f (k+1) a0 a1 a2):=by
 intro a0 a1 a2 k
 obtain⟨ih0,ih1⟩:=stowagelaw13_To.mono_l k
 exact ih0 a0 a1 a2
def stowagelaw13_To.T5:Bool×List (List Nat×List Nat):=(true,[([],[]),([0],[0]),([],[]),([2],[2]),([],[]),([3,4],[3,4]),([5],[5]),([6],[6]),([7],[7]),([1,8,7],[1,8]),([0,1,2,3,4,5,6,7,8,9],[]),([10,9,9,0,1,2,3,4,5,6,7,8,9],[9,10])])
def stowagelaw13_To.B5:List Nat:=[0,1,0,4,0,28,60,124,252,511,1023,2047]
theorem stowagelaw13_To.tab5:rtab .any (opsOf Tryd.f13 5)=stowagelaw13_To.T5:=by kernel_rfl
theorem stowagelaw13_To.bits5:waitsOk stowagelaw13_To.T5.2 stowagelaw13_To.B5=true:=by kernel_rfl
theorem stowagelaw13_To.calls (k:Nat):∀ (a0_0:ByteArray) (a0_1:ByteArray) (A0_2:Option Addr) (c0_2:Nat) (l0_2:List (S24)) (r1:ByteArray) (r2:ByteArray) (r3:List (S30)) (w:World) (hr0_2:Kd.C k24 w A0_2 l0_2.length l0_2) (hc0_2:l0_2.length≤c0_2) (h:stowagelaw13_To.f k a0_0 a0_1 l0_2=some (r1,r2,r3)),
    Calls Tryd.prog 13 #[.agg #[.string a0_0,.string a0_1,.slice A0_2 l0_2.length c0_2]] w fun e w'=>∃ v2_:Value,e = .returned (.agg #[.string r1,.string r2,v2_])∧Kd.R k30 30 w' w.heap.size (fun _=>True) v2_ r3∧Below w.heap.size w w':=by
 induction k using Nat.strongRecOn with
 | _ k ih=>
 intro a0_0 a0_1 A0_2 c0_2 l0_2 r1 r2 r3 w hr0_2 hc0_2 h
 cases k with
 | zero=>exact absurd h (by simp [stowagelaw13_To.f])
 | succ k=>
 simp only [stowagelaw13_To.f] at h
 have hu24:=Tryd.underlying24
 have hu30:=Tryd.underlying30
 have HR0_2:=Aside0.mk hr0_2
 have HC0_2:=Aside0.mk hc0_2
 clear hr0_2 hc0_2
 have HB:=Aside0.mk (Below.refl w.heap.size w)
 have H:(stowagelaw13_To.l0 k 0 a0_0 a0_1 l0_2 a0_0 a0_1 ([]:List (S30)))=some (r1,r2,r3):=h
 clear h
 have H':=Aside0.mk H
 clear H
 go_enter Tryd.func13,Tryd.ntmps13
 go_wp2_with (first|((with_reducible refine gate_dst (N:=1) rfl ?_);refine box_event ?hg (N:=1) ?hd (cs:=#[.string a0_0,.string a0_1,.slice A0_2 l0_2.length c0_2]) (t:=24) ?hr ?_;(case hd=>rfl);(case hg=>rfl);(case hr=>first|(go_simp;done)|(go_simp;rfl));intro gb215 hg w2 hbox hb;have n0_:=Aside0.mk (below_step bl hb);have n1_:=Aside0.mk (hbox);have n2_:=Aside0.mk ((by rw [hg];exact(below_size bl):w.heap.size≤gb215));have n3_:=Aside0.mk ((by rw [hg];exact(below_size bl):w.heap.size≤gb215));clear HB;have HB:=n0_;have BK215:=n1_;have GW215:=n2_;have GE215:=n3_;clear n0_ n1_ n2_ n3_;clear hb hbox hg)|((with_reducible refine gate_dst (N:=2) rfl ?_);refine box_event ?hg (N:=2) ?hd (cs:=#[.string (⟨#[]⟩ : ByteArray),.string (⟨#[]⟩ : ByteArray),.slice none 0 0]) (t:=30) ?hr ?_;(case hd=>rfl);(case hg=>rfl);(case hr=>first|(go_simp;done)|(go_simp;rfl));intro gb216 hg w3 hbox hb;have n0_:=Aside0.mk (blk_below (g:=gb215) (o:=.cells #[.string a0_0,.string a0_1,.slice A0_2 l0_2.length c0_2] 24 (0,0)) kl hb);have n1_:=Aside0.mk (below_step bl hb);have n2_:=Aside0.mk (hbox);have n3_:=Aside0.mk ((by rw [hg];exact(below_size bl):w.heap.size≤gb216));have n4_:=Aside0.mk ((by rw [hg];exact(below_size bl):w.heap.size≤gb216));have n5_:=Aside0.mk ((by rw [hg];exact Nat.ne_of_lt (blk_lt (g:=gb215) (o:=.cells #[.string a0_0,.string a0_1,.slice A0_2 l0_2.length c0_2] 24 (0,0)) kl):gb215≠gb216));have n6_:=Aside0.mk ((by rw [hg];exact Nat.ne_of_gt (blk_lt (g:=gb215) (o:=.cells #[.string a0_0,.string a0_1,.slice A0_2 l0_2.length c0_2] 24 (0,0)) kl):gb216≠gb215));clear BK215;clear HB;have BK215:=n0_;have HB:=n1_;have BK216:=n2_;have GW216:=n3_;have GE216:=n4_;have NB215_216:=n5_;have NB216_215:=n6_;clear n0_ n1_ n2_ n3_ n4_ n5_ n6_;clear hb hbox hg;have hnb4:=NB215_216.out;have hnc4:=NB216_215.out;obtain⟨_,_,_,_,_,_⟩:=bc3 BK215.out)|((with_reducible refine gate_dst (N:=3) rfl ?_);refine box_event ?hg (N:=3) ?hd (cs:=#[.string (⟨#[]⟩ : ByteArray),.string (⟨#[]⟩ : ByteArray),.slice none 0 0]) (t:=30) ?hr ?_;(case hd=>rfl);(case hg=>rfl);(case hr=>first|(go_simp;done)|(go_simp;rfl));intro gb217 hg w6 hbox hb;have n0_:=Aside0.mk (blk_below (g:=gb215) (o:=.cells #[.string a0_0,.string a0_1,.slice A0_2 l0_2.length c0_2] 24 (0,0)) kl hb);have n1_:=Aside0.mk (blk_below (g:=gb216) (o:=.cells #[.string (⟨#[]⟩ : ByteArray),.string (⟨#[]⟩ : ByteArray),.slice none 0 0] 30 (0,0)) kl hb);have n2_:=Aside0.mk (below_step bl hb);have n3_:=Aside0.mk (hbox);have n4_:=Aside0.mk ((by rw [hg];exact(below_size bl):w.heap.size≤gb217));have n5_:=Aside0.mk ((by rw [hg];exact(below_size bl):w.heap.size≤gb217));have n6_:=Aside0.mk ((by rw [hg];exact Nat.ne_of_lt (blk_lt (g:=gb215) (o:=.cells #[.string a0_0,.string a0_1,.slice A0_2 l0_2.length c0_2] 24 (0,0)) kl):gb215≠gb217));have n7_:=Aside0.mk ((by rw [hg];exact Nat.ne_of_gt (blk_lt (g:=gb215) (o:=.cells #[.string a0_0,.string a0_1,.slice A0_2 l0_2.length c0_2] 24 (0,0)) kl):gb217≠gb215));have n8_:=Aside0.mk ((by rw [hg];exact Nat.ne_of_lt (blk_lt (g:=gb216) (o:=.cells #[.string (⟨#[]⟩ : ByteArray),.string (⟨#[]⟩ : ByteArray),.slice none 0 0] 30 (0,0)) kl):gb216≠gb217));have n9_:=Aside0.mk ((by rw [hg];exact Nat.ne_of_gt (blk_lt (g:=gb216) (o:=.cells #[.string (⟨#[]⟩ : ByteArray),.string (⟨#[]⟩ : ByteArray),.slice none 0 0] 30 (0,0)) kl):gb217≠gb216));clear BK215;clear BK216;clear HB;have BK215:=n0_;have BK216:=n1_;have HB:=n2_;have BK217:=n3_;have GW217:=n4_;have GE217:=n5_;have NB215_217:=n6_;have NB217_215:=n7_;have NB216_217:=n8_;have NB217_216:=n9_;clear n0_ n1_ n2_ n3_ n4_ n5_ n6_ n7_ n8_ n9_;clear hb hbox hg;have hnb7:=NB217_215.out;have hnc7:=NB215_217.out;have hnb8:=NB217_216.out;have hnc8:=NB216_217.out;obtain⟨_,_,_,_,_,_⟩:=bc3 BK217.out))
 go_loopg [4] k (fun kq v4 w'=>∃ (x4_1:Int) (x218002_1:List (S30)) (u218002:Value),v4 = .int .i64 x4_1∧Aside0 (stowagelaw13_To.l0 kq x4_1 a0_0 a0_1 l0_2 a0_0 a0_1 x218002_1=some (r1,r2,r3))∧Aside0 (kq≤k)∧Aside0 (Kd.R k30 30 w' w.heap.size (fun k_=>k_≠gb216∧k_≠gb217) u218002 x218002_1)∧Aside0 (w'.heap[gb215]? = some (.cells #[.string a0_0,.string a0_1,(.slice A0_2 l0_2.length c0_2)] 24 (0,0)))∧Aside0 (w'.heap[gb216]? = some (.cells #[.string (⟨#[]⟩ : ByteArray),.string (⟨#[]⟩ : ByteArray),(.slice none 0 0)] 30 (0,0)))∧Aside0 (w'.heap[gb217]? = some (.cells #[.string a0_0,.string a0_1,u218002] 30 (0,0)))∧Aside0 (Below w.heap.size w w'))
 case atStart=>exact⟨(0),(([]:List (S30))),(.slice none 0 0),rs,H',⟨Nat.le_refl _⟩,⟨nl⟩,⟨by(with_reducible repeat (first|refine blk_drewN ?_ _|refine blk_drew ?_|refine blk_alloc ?_ _));refine blk_far ?_ NB215_217.out _;(with_reducible repeat (first|refine blk_drewN ?_ _|refine blk_drew ?_|refine blk_alloc ?_ _));refine blk_far ?_ NB215_217.out _;(with_reducible repeat (first|refine blk_drewN ?_ _|refine blk_drew ?_|refine blk_alloc ?_ _));refine blk_far ?_ NB215_217.out _;(with_reducible repeat (first|refine blk_drewN ?_ _|refine blk_drew ?_|refine blk_alloc ?_ _));exact BK215.out⟩,⟨by(with_reducible repeat (first|refine blk_drewN ?_ _|refine blk_drew ?_|refine blk_alloc ?_ _));refine blk_far ?_ NB216_217.out _;(with_reducible repeat (first|refine blk_drewN ?_ _|refine blk_drew ?_|refine blk_alloc ?_ _));refine blk_far ?_ NB216_217.out _;(with_reducible repeat (first|refine blk_drewN ?_ _|refine blk_drew ?_|refine blk_alloc ?_ _));refine blk_far ?_ NB216_217.out _;(with_reducible repeat (first|refine blk_drewN ?_ _|refine blk_drew ?_|refine blk_alloc ?_ _));exact BK216.out⟩,⟨by(with_reducible repeat (first|refine blk_drewN ?_ _|refine blk_drew ?_|refine blk_alloc ?_ _));refine blk_put (cs:=#[.string a0_0,.string a0_1,.slice none 0 0]) ?_ 2 _ rfl;(with_reducible repeat (first|refine blk_drewN ?_ _|refine blk_drew ?_|refine blk_alloc ?_ _));refine blk_put (cs:=#[.string a0_0,.string (⟨#[]⟩ : ByteArray),.slice none 0 0]) ?_ 1 _ rfl;(with_reducible repeat (first|refine blk_drewN ?_ _|refine blk_drew ?_|refine blk_alloc ?_ _));refine blk_put (cs:=#[.string (⟨#[]⟩ : ByteArray),.string (⟨#[]⟩ : ByteArray),.slice none 0 0]) ?_ 0 _ rfl;(with_reducible repeat (first|refine blk_drewN ?_ _|refine blk_drew ?_|refine blk_alloc ?_ _));exact BK217.out⟩,⟨bl⟩⟩
 case round=>
  clear H'
  obtain⟨x4_1,x218002_1,u218002,rfl,HA,HK1,HO_218002,BK215,BK216,BK217,HB⟩:=hrel
  cases gk with
  | zero=>exact absurd HA.out (by simp [stowagelaw13_To.l0])
  | succ k1=>
   have H:=HA.out
   clear HA
   simp only [stowagelaw13_To.l0] at H
   replace H:=itO H
   rcases H with⟨c10,H⟩|⟨c10,H⟩
   {
   have c10b0:decide (x4_1<(l0_2.length:Int))=true:=decide_eq_true c10
   clear c10
   replace H:=itO H
   rcases H with⟨c11,H⟩|⟨c11,H⟩
   {
   have c11b0:decide (0≤x4_1)=true:=decide_eq_true c11
   clear c11
   replace H:=bndO H
   obtain⟨⟨t219,t220,t221⟩,A120,H⟩:=H
   dsimp only at H
   have A12:=Aside0.mk A120
   clear A120
   replace H:=itO H
   rcases H with⟨c13,H⟩|⟨c13,H⟩
   {
   have LMc13:=Aside0.mk c13
   clear c13
   obtain⟨y224,hy224⟩ : ∃ y_:List (S30),y_=(x218002_1 ++ [(⟨t219,t220,t221⟩ : S30)]):=⟨_,rfl⟩
   replace H:(stowagelaw13_To.l0 k1 (wrap64 (x4_1+1)) a0_0 a0_1 l0_2 a0_0 a0_1 y224)=some (r1,r2,r3):=by first|(rw [hy224];with_reducible exact H)|(have H2_:=(Option.bind_some _ _).symm.trans H;rw [hy224];with_reducible exact H2_)|(have H2_:=(Option.bind_some _ _).symm.trans H;with_reducible exact H2_)|with_reducible exact H|(rw [hy224];exact H)|exact H
   have Ny224:=Aside0.mk hy224
   clear hy224
   have H':=Aside0.mk H
   clear H
   have hnb14:=NB215_216.out
   have hnc14:=NB216_215.out
   have hnb15:=NB215_217.out
   have hnc15:=NB217_215.out
   obtain⟨_,_,_,_,_,_⟩:=bc3 BK215.out
   try go_wp2
   have n0_:=Aside0.mk (Kd.R_drew HO_218002.out)
   have n1_:=Aside0.mk (blk_drew BK215.out)
   have n2_:=Aside0.mk (blk_drew BK216.out)
   have n3_:=Aside0.mk (blk_drew BK217.out)
   have n4_:=Aside0.mk (below_drew1 HB.out)
   clear HO_218002
   clear BK215
   clear BK216
   clear BK217
   clear HB
   have HO_218002:=n0_
   have BK215:=n1_
   have BK216:=n2_
   have BK217:=n3_
   have HB:=n4_
   clear n0_ n1_ n2_ n3_ n4_
   have p218:0≤(x4_1:Int):=of_decide_eq_true asm
   have q218:x4_1<(l0_2.length:Int):=of_decide_eq_true asm
   obtain⟨ad218,A218_2,c218_2,e218,hx218_0,hx218_1,hx218_2,hl218_2,hi218_2⟩:=at_T24 HR0_2.out x4_1 p218 q218
   have hw218_2:=hx218_2
   have hw218_1:=hx218_1
   have hw218_0:=hx218_0
   cases e218
   replace hx218_0:=(HB.out.cell (World.block_lt_of_cell? w _ hx218_0)).trans hx218_0
   replace hx218_1:=(HB.out.cell (World.block_lt_of_cell? w _ hx218_1)).trans hx218_1
   replace hx218_2:=(HB.out.cell (World.block_lt_of_cell? w _ hx218_2)).trans hx218_2
   have HR218_2:=Aside0.mk hi218_2
   have HC218_2:=Aside0.mk hl218_2
   clear hi218_2 hl218_2
   replace p218:=eq_true p218
   replace q218:=eq_true q218
   refine start_ (n:=12) (S:=fun w'=>w'.cell? ⟨gb217,0,none⟩=some (.string a0_0)∧w'.cell? ⟨gb217,1,none⟩=some (.string a0_1)∧w'.cell? ⟨gb217,2,none⟩=some (u218002)∧w'.cell? ⟨gb215,0,none⟩=some (.string a0_0)∧w'.cell? ⟨gb215,1,none⟩=some (.string a0_1)∧w'.cell? ⟨gb215,2,none⟩=some (.slice (some ad218) l0_2.length c0_2)∧w'.cell? (ad218.add ((x4_1).toNat*3))=some (.string ((rd_T24 l0_2 x4_1).f0))∧w'.cell? ⟨(ad218.add ((x4_1).toNat*3)).block,(ad218.add ((x4_1).toNat*3)).off+1,none⟩=some (.string ((rd_T24 l0_2 x4_1).f1))∧w'.cell? ⟨(ad218.add ((x4_1).toNat*3)).block,(ad218.add ((x4_1).toNat*3)).off+2,none⟩=some (.slice A218_2 ((rd_T24 l0_2 x4_1).f2).length c218_2)) (ds:=[11]) #[F,F,F,F,F,F,F,F,F,F,F,F] kr rfl rfl ⟨(blk_cell BK217.out 0).trans rfl,(blk_cell BK217.out 1).trans rfl,(blk_cell BK217.out 2).trans rfl,(blk_cell BK215.out 0).trans rfl,(blk_cell BK215.out 1).trans rfl,(blk_cell BK215.out 2).trans rfl,((HB.out.cell (World.block_lt_of_cell? w _ hw218_0)).trans hw218_0),((HB.out.cell (World.block_lt_of_cell? w _ hw218_1)).trans hw218_1),((HB.out.cell (World.block_lt_of_cell? w _ hw218_2)).trans hw218_2)⟩ (fun hHeld=>?_);refine with_tabW stowagelaw13_To.tab5 stowagelaw13_To.bits5 (fun HT_ HW_=>?_)
   generalize wr.drew=w17 at HO_218002 BK215 BK216 BK217 HB HR218_2 hx218_0 hx218_1 hx218_2 hHeld ⊢
   refine pure_ (i:=0) (N:=some 17) (v:=?_) (a':=?_) #[T,F,F,F,F,F,F,F,F,F,F,F] rfl rfl (any_of HT_.out kr) (fun _ _ _ h=>h) (Or.inl ⟨by rfl,?_⟩) ?_ ?_
   rotate_left
   {
   intro w'
   go_simp
   with_reducible rfl
   }
   rotate_left
   {
   simp only [Act.put,l1,l2,l3,i64_w,i32_w]
   rfl
   }
   refine pure_ (i:=2) (N:=some 19) (v:=?_) (a':=?_) #[T,F,T,F,F,F,F,F,F,F,F,F] rfl rfl (any_of HT_.out kr) (fun _ _ _ h=>h) (Or.inl ⟨by rfl,?_⟩) ?_ ?_
   rotate_left
   {
   intro w'
   go_simp
   with_reducible rfl
   }
   rotate_left
   {
   simp only [Act.put,l1,l2,l3,i64_w,i32_w]
   rfl
   }
   refine pure_ (i:=4) (N:=some 21) (v:=?_) (a':=?_) #[T,F,T,F,T,F,F,F,F,F,F,F] rfl rfl (any_of HT_.out kr) (fun _ _ _ h=>h) (Or.inl ⟨by rfl,?_⟩) ?_ ?_
   rotate_left
   {
   intro w'
   go_simp
   with_reducible rfl
   }
   rotate_left
   {
   simp only [Act.put,l1,l2,l3,i64_w,i32_w]
   rfl
   }
   refine take_ (i:=1) (N:=some 18) (v:=?_) (a':=?_) #[T,T,T,F,T,F,F,F,F,F,F,F] rfl rfl (take_ofW HT_.out HW_.out kr) (fun _ _ _ h=>h) (Or.inl ⟨by rfl,?_⟩) hHeld ?_ ?_
   rotate_left
   {
   rintro w' ⟨s0,s1,s2,s3,s4,s5,s6,s7,s8⟩
   go_simp
   with_reducible rfl
   }
   rotate_left
   {
   simp only [Act.put,l1,l2,l3,i64_w,i32_w]
   rfl
   }
   refine take_ (i:=3) (N:=some 20) (v:=?_) (a':=?_) #[T,T,T,T,T,F,F,F,F,F,F,F] rfl rfl (take_ofW HT_.out HW_.out kr) (fun _ _ _ h=>h) (Or.inl ⟨by rfl,?_⟩) hHeld ?_ ?_
   rotate_left
   {
   rintro w' ⟨s0,s1,s2,s3,s4,s5,s6,s7,s8⟩
   go_simp
   with_reducible rfl
   }
   rotate_left
   {
   simp only [Act.put,l1,l2,l3,i64_w,i32_w]
   rfl
   }
   refine pure_ (i:=5) (N:=some 22) (v:=?_) (a':=?_) #[T,T,T,T,T,T,F,F,F,F,F,F] rfl rfl (any_of HT_.out kr) (fun _ _ _ h=>h) (Or.inl ⟨by rfl,?_⟩) ?_ ?_
   rotate_left
   {
   intro w'
   go_simp
   with_reducible rfl
   }
   rotate_left
   {
   simp only [Act.put,l1,l2,l3,i64_w,i32_w]
   rfl
   }
   refine take_ (i:=6) (N:=some 23) (v:=?_) (a':=?_) #[T,T,T,T,T,T,T,F,F,F,F,F] rfl rfl (take_ofW HT_.out HW_.out kr) (fun _ _ _ h=>h) (Or.inl ⟨by rfl,?_⟩) hHeld ?_ ?_
   rotate_left
   {
   rintro w' ⟨s0,s1,s2,s3,s4,s5,s6,s7,s8⟩
   go_simp
   with_reducible rfl
   }
   rotate_left
   {
   simp only [Act.put,l1,l2,l3,i64_w,i32_w]
   rfl
   }
   refine one_ (i:=7) (N:=some 24) #[T,T,T,T,T,T,T,T,F,F,F,F] rfl rfl (one_of HT_.out kr) (by decide) (fun K hK=>?_)
   refine goes_ Tryd.func13 kr rfl #[.agg #[.string ((rd_T24 l0_2 x4_1).f0),.string ((rd_T24 l0_2 x4_1).f1),.slice A218_2 ((rd_T24 l0_2 x4_1).f2).length c218_2]] (by rfl) rfl rfl am ?_
   with_reducible refine(ih k1 (by have:=HK1.out;omega) ((rd_T24 l0_2 x4_1).f0) ((rd_T24 l0_2 x4_1).f1) _ _ ((rd_T24 l0_2 x4_1).f2) t219 t220 t221 _ ?side1 ?side2 A12.out).mono ?_
   (case side1=>repeat (first|exact(Kd.C_below HR218_2.out HB.out)|(with_reducible refine Kd.C_alloc ?_ _)|(with_reducible refine Kd.C_drewN ?_ _)|(with_reducible refine Kd.C_drew ?_)))
   (case side2=>exact HC218_2.out)
   rintro e w18 ⟨v222,rfl,ho0,hb⟩
   refine⟨_,rfl,?_⟩
   have n0_:=Aside0.mk (Kd.R_elder' rl (by first|exact Kd.R_base ho0|exact Kd.R_base ho0) hb)
   have n1_:=Aside0.mk (Kd.R_lower (Kd.R_newB (Kd.R_newB (Kd.R_new' ho0 (Kd.R_lt rl)) (g:=gb216) (o:=.cells #[.string (⟨#[]⟩ : ByteArray),.string (⟨#[]⟩ : ByteArray),.slice none 0 0] 30 (0,0)) kl) (g:=gb217) (o:=.cells #[.string a0_0,.string a0_1,u218002] 30 (0,0)) kl) (below_size bl))
   have n2_:=Aside0.mk (blk_below (g:=gb215) (o:=.cells #[.string a0_0,.string a0_1,.slice (some ad218) l0_2.length c0_2] 24 (0,0)) kl hb)
   have n3_:=Aside0.mk (blk_below (g:=gb216) (o:=.cells #[.string (⟨#[]⟩ : ByteArray),.string (⟨#[]⟩ : ByteArray),.slice none 0 0] 30 (0,0)) kl hb)
   have n4_:=Aside0.mk (blk_below (g:=gb217) (o:=.cells #[.string a0_0,.string a0_1,u218002] 30 (0,0)) kl hb)
   have n5_:=Aside0.mk (below_step bl hb)
   clear HO_218002
   clear BK215
   clear BK216
   clear BK217
   clear HB
   have HO_218002:=n0_
   have HO223:=n1_
   have BK215:=n2_
   have BK216:=n3_
   have BK217:=n4_
   have HB:=n5_
   clear n0_ n1_ n2_ n3_ n4_ n5_
   (try clear hb)
   (try clear hb2)
   (try clear hk)
   (try clear hi)
   (try clear ho0)
   obtain⟨Ao20,co20,eo20⟩:=Kd.R_slice HO223.out
   (first|subst eo20|(injection eo20 with f1_ f2_ f3_;have f4_:=f1_.symm;have f5_:=f3_.symm;clear f1_ f2_ f3_;subst f4_;subst f5_))
   refine hK.out _ _ ⟨(blk_cell BK217.out 0).trans rfl,(blk_cell BK217.out 1).trans rfl,(blk_cell BK217.out 2).trans rfl,(blk_cell BK215.out 0).trans rfl,(blk_cell BK215.out 1).trans rfl,(blk_cell BK215.out 2).trans rfl,((HB.out.cell (World.block_lt_of_cell? w _ hw218_0)).trans hw218_0),((HB.out.cell (World.block_lt_of_cell? w _ hw218_1)).trans hw218_1),((HB.out.cell (World.block_lt_of_cell? w _ hw218_2)).trans hw218_2)⟩ (fun hHeld=>?_)
   clear hK K
   refine norm_ (a':=?_) ?_ ?_
   rotate_left
   {
   show Act.put _ (some 24) _=_
   simp only [Act.put,l1,l2,l3,i64_w,i32_w]
   rfl
   }
   refine one_ (i:=8) (N:=some 25) #[T,T,T,T,T,T,T,T,T,F,F,F] rfl rfl (one_of HT_.out kr) (by decide) (fun K hK=>?_)
   refine value_ (w1:=?_) (v:=?_) (by rfl) rfl ?_ ?_
   rotate_left 2
   {
   go_simp
   constructor
   ·rfl
   ·rfl
   }
   refine hK.out _ _ ⟨(blk_cell (blk_alloc BK217.out _) 0).trans rfl,(blk_cell (blk_alloc BK217.out _) 1).trans rfl,(blk_cell (blk_alloc BK217.out _) 2).trans rfl,(blk_cell (blk_alloc BK215.out _) 0).trans rfl,(blk_cell (blk_alloc BK215.out _) 1).trans rfl,(blk_cell (blk_alloc BK215.out _) 2).trans rfl,(World.cell?_alloc_lt _ _ _ (World.block_lt_of_cell? _ _ (((HB.out.cell (World.block_lt_of_cell? w _ hw218_0)).trans hw218_0)))).trans (((HB.out.cell (World.block_lt_of_cell? w _ hw218_0)).trans hw218_0)),(World.cell?_alloc_lt _ _ _ (World.block_lt_of_cell? _ _ (((HB.out.cell (World.block_lt_of_cell? w _ hw218_1)).trans hw218_1)))).trans (((HB.out.cell (World.block_lt_of_cell? w _ hw218_1)).trans hw218_1)),(World.cell?_alloc_lt _ _ _ (World.block_lt_of_cell? _ _ (((HB.out.cell (World.block_lt_of_cell? w _ hw218_2)).trans hw218_2)))).trans (((HB.out.cell (World.block_lt_of_cell? w _ hw218_2)).trans hw218_2))⟩ (fun hHeld=>?_)
   clear hK K
   refine norm_ (a':=?_) ?_ ?_
   rotate_left
   {
   show Act.put _ (some 25) _=_
   simp only [Act.put,l1,l2,l3,i64_w,i32_w]
   rfl
   }
   refine one_ (i:=9) (N:=some 26) #[T,T,T,T,T,T,T,T,T,T,F,F] rfl rfl (one_of HT_.out kr) (by decide) (fun K hK=>?_)
   refine Kd.R_append_step k30 (w0:=w) w.heap.size (by rfl) (.tmp 18) (.tmp 25) 28 30 (.agg #[(.string ⟨#[]⟩),(.string ⟨#[]⟩),(.slice none 0 0)]) 56 rfl Tryd.underlying28 info30 rfl (by decide) (by omega) u218002 x218002_1 (⟨t219,t220,t221⟩ : S30) [.string t219,.string t220,.slice Ao20 t221.length co20] (fun k_=>k_≠gb216∧k_≠gb217) (fun k_=>((fun k_=>k_≠gb216∧k_≠gb217)) k_∧some k_≠(u218002:Value).ownBlock) rfl rfl ?aP (fun _ hk=>hk) ?aF ?aO ?aB ?aS ?aL ?_
   (case aP=>exact k30_mkM _ _ _ (⟨t219,t220,t221⟩ : S30) (Kd.R_mono (HO223.out) (fun k_ hk=>⟨⟨hk.1.2,hk.2⟩,hk.1.1.2⟩)))
   (case aB=>exact bl)
   (case aF=>exact(fun k_ hk=>⟨Kd.freshB (g:=gb216) (o:=.cells #[.string (⟨#[]⟩ : ByteArray),.string (⟨#[]⟩ : ByteArray),.slice none 0 0] 30 (0,0)) kl k_ hk,Kd.freshB (g:=gb217) (o:=.cells #[.string a0_0,.string a0_1,u218002] 30 (0,0)) kl k_ hk⟩))
   (case aO=>exact(by(with_reducible repeat (first|apply Kd.R_alloc|apply Kd.R_drewN|apply Kd.R_drew));exact Kd.R_mono HO_218002.out (fun _ hk=>⟨hk.1.1,hk.1.2⟩)))
   (case aS=>exact(below_size bl))
   (case aL=>have:=LMc13.out;omega)
   intro v225 w19 ho hb hg hat
   rw [← Ny224.out] at ho
   have n0_:=Aside0.mk (blk_grown (g:=gb215) (o:=.cells #[.string a0_0,.string a0_1,.slice (some ad218) l0_2.length c0_2] 24 (0,0)) kl hg (Kd.R_ne HO_218002.out BK215.out (by decide)))
   have n1_:=Aside0.mk (blk_grown (g:=gb216) (o:=.cells #[.string (⟨#[]⟩ : ByteArray),.string (⟨#[]⟩ : ByteArray),.slice none 0 0] 30 (0,0)) kl hg (Kd.R_away HO_218002.out (fun _ hk=>hk.1.1)))
   have n2_:=Aside0.mk (blk_grown (g:=gb217) (o:=.cells #[.string a0_0,.string a0_1,u218002] 30 (0,0)) kl hg (Kd.R_away HO_218002.out (fun _ hk=>hk.1.2)))
   have n3_:=Aside0.mk (hb)
   have n4_:=Aside0.mk (ho)
   clear BK215
   clear BK216
   clear BK217
   clear HB
   clear HO_218002
   clear HO223
   have BK215:=n0_
   have BK216:=n1_
   have BK217:=n2_
   have HB:=n3_
   have HO226:=n4_
   clear n0_ n1_ n2_ n3_ n4_
   clear ho hb hg hat
   obtain⟨Ao21,co21,eo21⟩:=Kd.R_slice HO226.out
   (first|subst eo21|(injection eo21 with f1_ f2_ f3_;have f4_:=f1_.symm;have f5_:=f3_.symm;clear f1_ f2_ f3_;subst f4_;subst f5_))
   refine hK.out _ _ ⟨(blk_cell BK217.out 0).trans rfl,(blk_cell BK217.out 1).trans rfl,(blk_cell BK217.out 2).trans rfl,(blk_cell BK215.out 0).trans rfl,(blk_cell BK215.out 1).trans rfl,(blk_cell BK215.out 2).trans rfl,((HB.out.cell (World.block_lt_of_cell? w _ hw218_0)).trans hw218_0),((HB.out.cell (World.block_lt_of_cell? w _ hw218_1)).trans hw218_1),((HB.out.cell (World.block_lt_of_cell? w _ hw218_2)).trans hw218_2)⟩ (fun hHeld=>?_)
   clear hK K
   refine norm_ (a':=?_) ?_ ?_
   rotate_left
   {
   show Act.put _ (some 26) _=_
   simp only [Act.put,l1,l2,l3,i64_w,i32_w]
   rfl
   }
   refine pure_ (i:=10) (N:=some 27) (v:=?_) (a':=?_) #[T,T,T,T,T,T,T,T,T,T,T,F] rfl rfl (any_of HT_.out kr) (fun _ _ _ h=>h) (Or.inl ⟨by rfl,?_⟩) ?_ ?_
   rotate_left
   {
   intro w'
   go_simp
   with_reducible rfl
   }
   rotate_left
   {
   simp only [Act.put,l1,l2,l3,i64_w,i32_w]
   rfl
   }
   refine last_ (i:=11) (N:=none) #[T,T,T,T,T,T,T,T,T,T,T,T] rfl rfl (one_of HT_.out kr) (by decide) (fun K hK=>?_)
   have hs22:w19.cell? ⟨gb217,2,none⟩=some (u218002):=(blk_cell BK217.out 2).trans rfl
   have hfs22:=blk_frozen BK217.out 2
   have hns22_0:=NB215_217.out
   have hns22_1:=NB216_217.out
   have hms22_0:=NB217_215.out
   have hms22_1:=NB217_216.out
   refine skip_ (w1:=?_) (by rfl) rfl ?_ ?_
   rotate_left
   {
   go_simp
   rfl
   }
   refine hK.out _ _ ?_
   clear hK K
   refine done_ (done_of HT_.out kr) ?_
   try go_wp2
   go_roundg k1
   case measure=>have:=HK1.out;omega
   case rel=>exact⟨(wrap64 (x4_1+1)),(y224),(.slice Ao21 y224.length co21),rs,H',⟨by have:=HK1.out;omega⟩,⟨by(with_reducible repeat (first|apply Kd.R_alloc|apply Kd.R_drewN|apply Kd.R_drew));exact Kd.R_mono (Kd.R_far (p:=⟨gb217,2,none⟩) (Kd.R_mono HO226.out (fun k_ hk=>(⟨hk,hk.2⟩ : _∧k_≠gb217))) (fun _ hk=>hk.2) (.slice Ao21 y224.length co21)) (fun _ hk=>⟨hk.1.1,hk.1.2⟩)⟩,⟨by(with_reducible repeat (first|refine blk_drewN ?_ _|refine blk_drew ?_|refine blk_alloc ?_ _));refine blk_far ?_ NB215_217.out _;(with_reducible repeat (first|refine blk_drewN ?_ _|refine blk_drew ?_|refine blk_alloc ?_ _));exact BK215.out⟩,⟨by(with_reducible repeat (first|refine blk_drewN ?_ _|refine blk_drew ?_|refine blk_alloc ?_ _));refine blk_far ?_ NB216_217.out _;(with_reducible repeat (first|refine blk_drewN ?_ _|refine blk_drew ?_|refine blk_alloc ?_ _));exact BK216.out⟩,⟨by(with_reducible repeat (first|refine blk_drewN ?_ _|refine blk_drew ?_|refine blk_alloc ?_ _));refine blk_put (cs:=#[.string a0_0,.string a0_1,u218002]) ?_ 2 _ rfl;(with_reducible repeat (first|refine blk_drewN ?_ _|refine blk_drew ?_|refine blk_alloc ?_ _));exact BK217.out⟩,⟨bl⟩⟩
   }
   ·exact absurd H (by simp)
   }
   ·exact absurd H (by simp)
   }
   {
   have c10b0:decide (x4_1<(l0_2.length:Int))=false:=decide_eq_false c10
   clear c10
   simp only [Option.some.injEq,Prod.mk.injEq] at H
   obtain⟨rfl,rfl,rfl⟩:=H
   have hnb23:=NB215_216.out
   have hnc23:=NB216_215.out
   have hnb24:=NB215_217.out
   have hnc24:=NB217_215.out
   obtain⟨_,_,_,_,_,_⟩:=bc3 BK215.out
   have hnb26:=NB217_216.out
   have hnc26:=NB216_217.out
   obtain⟨_,_,_,_,_,_⟩:=bc3 BK217.out
   obtain⟨_,_,_,_,_,_⟩:=bc3 BK216.out
   obtain⟨Ao29,co29,eo29⟩:=Kd.R_slice HO_218002.out
   subst eo29
   go_wp2
   refine bodyPost_ret (results_cell_row rfl _ _ gb216 30 #[.string a0_0,.string a0_1,.slice Ao29 x218002_1.length co29] (0,0) _ rfl (by(with_reducible repeat (first|refine blk_drewN ?_ _|refine blk_drew ?_|refine blk_alloc ?_ _));refine blk_put (cs:=#[.string a0_0,.string a0_1,.slice none 0 0]) ?_ 2 _ rfl;(with_reducible repeat (first|refine blk_drewN ?_ _|refine blk_drew ?_|refine blk_alloc ?_ _));refine blk_put (cs:=#[.string a0_0,.string (⟨#[]⟩ : ByteArray),.slice none 0 0]) ?_ 1 _ rfl;(with_reducible repeat (first|refine blk_drewN ?_ _|refine blk_drew ?_|refine blk_alloc ?_ _));refine blk_put (cs:=#[.string (⟨#[]⟩ : ByteArray),.string (⟨#[]⟩ : ByteArray),.slice none 0 0]) ?_ 0 _ rfl;(with_reducible repeat (first|refine blk_drewN ?_ _|refine blk_drew ?_|refine blk_alloc ?_ _));exact BK216.out) Tryd.underlying30 rfl kr) rfl ?_
   exact⟨_,ew,by(with_reducible repeat (first|apply Kd.R_alloc|apply Kd.R_drewN|apply Kd.R_drew));exact Kd.R_mono (Kd.R_far (p:=⟨gb216,2,none⟩) (Kd.R_far (p:=⟨gb216,1,none⟩) (Kd.R_far (p:=⟨gb216,0,none⟩) (Kd.R_mono HO_218002.out (fun k_ hk=>(⟨hk,hk.1⟩ : _∧k_≠gb216))) (fun _ hk=>hk.2) (.string a0_0)) (fun _ hk=>hk.2) (.string a0_1)) (fun _ hk=>hk.2) (.slice Ao29 x218002_1.length co29)) (fun _ hk=>trivial),bl⟩
   }
def stowagelaw13_XmlParses.f (k:Nat) (a0:ByteArray):Option (Bool):=(xml_Parse.f k a0).bind fun bt227=>((stowageref13_Parse.f k a0).bind fun bt234=>((stowagelaw13_To.f k bt227.1 bt227.2.1 bt227.2.2.1).bind fun bt241=>((stowageref13_Same.f k bt241.1 bt241.2.1 bt241.2.2 bt234.1 bt234.2.1 bt234.2.2.1).bind fun t246=>(if t246=true then(if bt227.2.2.2=bt234.2.2.2 then((stowagelaw13_awake.f k).bind fun t247=>(some t247)) else(some false)) else(some false)))))
theorem stowagelaw13_XmlParses.mono:∀ a0 k,LeO (stowagelaw13_XmlParses.f k a0) (stowagelaw13_XmlParses.f (k+1) a0):=by
 intro a0 k
 unfold stowagelaw13_XmlParses.f
 with_reducible repeat' first|exact stowagelaw13_To.mono _ _ _ _|exact stowagelaw13_awake.mono _|exact stowageref13_Parse.mono _ _|exact stowageref13_Same.mono _ _ _ _ _ _ _|exact xml_Parse.mono _ _|exact LeO.refl _|exact LeO.none _|refine LeO.ite ?_ ?_|refine LeO.bind ?_ (fun _=>?_)
def stowagelaw13_XmlParses.T3:Bool×List (List Nat×List Nat):=(true,[([],[]),([0],[0]),([],[]),([1,2,1],[1,2]),([3,3],[3]),([4],[4]),([4],[4]),([5,6,4],[4,5,6]),([4,7],[4,7]),([8,4],[8]),([9,9],[9]),([9,10],[9,10]),([11,10,0,1,2,3,4,5,6,7,8,9,10,11],[11])])
def stowagelaw13_XmlParses.B3:List Nat:=[0,1,0,7,15,31,31,127,255,511,1023,2047,4095]
theorem stowagelaw13_XmlParses.tab3:rtab .any (opsOf Tryd.f3 3)=stowagelaw13_XmlParses.T3:=by kernel_rfl
theorem stowagelaw13_XmlParses.bits3:waitsOk stowagelaw13_XmlParses.T3.2 stowagelaw13_XmlParses.B3=true:=by kernel_rfl
theorem stowagelaw13_XmlParses.calls (k:Nat) (a0:ByteArray) (r:Bool) (w:World) (hG:GOk w) (h:stowagelaw13_XmlParses.f k a0=some r) (hr:r=true) :
    Calls Tryd.prog 3 #[.string a0] w fun e w'=>e = .returned (.bool r)∧Below w.heap.size w w':=by
 have hu24:=Tryd.underlying24
 have hu30:=Tryd.underlying30
 have HB:=Aside0.mk (Below.refl w.heap.size w)
 unfold stowagelaw13_XmlParses.f at h
 have H:=h
 clear h
 replace H:=bndO H
 obtain⟨⟨t227,t228,t229,t232⟩,A20,H⟩:=H
 dsimp only at H
 have A2:=Aside0.mk A20
 clear A20
 replace H:=bndO H
 obtain⟨⟨t234,t235,t236,t239⟩,A30,H⟩:=H
 dsimp only at H
 have A3:=Aside0.mk A30
 clear A30
 replace H:=bndO H
 obtain⟨⟨t241,t242,t243⟩,A40,H⟩:=H
 dsimp only at H
 have A4:=Aside0.mk A40
 clear A40
 replace H:=bndO H
 obtain⟨t246,A50,H⟩:=H
 have A5:=Aside0.mk A50
 clear A50
 by_cases c6:t246=true
 {
 subst c6
 replace H:=itT H
 replace H:=itO H
 rcases H with⟨c7,H⟩|⟨c7,H⟩
 {
 have c7b0:(t232 == t239)=true:=beq_iff_eq.mpr c7
 have c7b1:(t232 != t239)=false:=bne_eq_false_iff_eq.mpr c7
 clear c7
 replace H:=bndO H
 obtain⟨t247,A80,H⟩:=H
 have A8:=Aside0.mk A80
 clear A80
 clear hr
 obtain rfl:=Option.some.inj H
 go_enter Tryd.func3,Tryd.ntmps3
 try go_wp2_with (first|((with_reducible refine gate_callee (f:=10) rfl ?_);refine goesL_ (some 9) rfl rfl Tryd.func10 kr rfl #[.string a0] rfl am ?_;(with_reducible refine(xml_Parse.calls k a0 t227 t228 t229 t232 _ gk A2.out).mono ?_);rintro e w9 ⟨v230,rfl,ho0,hb⟩;refine⟨_,rfl,?_⟩;have n0_:=Aside0.mk (Kd.V_lower (Kd.V_mono (ok':=fun k_=>True) ho0 (fun k_ hk_=>trivial)) (below_size bl));have n1_:=Aside0.mk (below_step bl hb);clear HB;have HO231:=n0_;have HB:=n1_;clear n0_ n1_)|((with_reducible refine gate_dst (N:=3) rfl ?_);refine box_event ?hg (N:=3) ?hd (cs:=#[.string (⟨#[]⟩ : ByteArray),.string (⟨#[]⟩ : ByteArray),.slice none 0 0]) (t:=24) ?hr ?_;(case hd=>rfl);(case hg=>rfl);(case hr=>first|(go_simp;done)|(go_simp;rfl));intro gb233 hg w10 hbox hb;have n0_:=Aside0.mk (Kd.V_below (Kd.V_elderB (by(with_reducible repeat (first|apply Kd.V_alloc|apply Kd.V_drewN|apply Kd.V_drew));exact HO231.out) gb233 (Nat.le_of_eq hg.symm)) hb);have n1_:=Aside0.mk (below_step bl hb);have n2_:=Aside0.mk (hbox);have n3_:=Aside0.mk ((by rw [hg];exact(below_size bl):w.heap.size≤gb233));have n4_:=Aside0.mk ((by rw [hg];exact(below_size bl):w.heap.size≤gb233));clear HO231;clear HB;have HO231:=n0_;have HB:=n1_;have BK233:=n2_;have GW233:=n3_;have GE233:=n4_;clear n0_ n1_ n2_ n3_ n4_;clear hb hbox hg;obtain⟨_,_,_,_,_,_⟩:=bc3 BK233.out;obtain⟨Ao12,co12,eo12⟩:=Kd.V_slice HO231.out;subst eo12)|((with_reducible refine gate_callee (f:=11) rfl ?_);refine goesL_ (some 14) rfl rfl Tryd.func11 kr rfl #[.string a0] rfl am ?_;(with_reducible refine(stowageref13_Parse.calls k a0 t234 t235 t236 t239 _ A3.out).mono ?_);rintro e w13 ⟨v237,rfl,ho0,hb⟩;refine⟨_,rfl,?_⟩;have n0_:=Aside0.mk (Kd.V_elder' (by(with_reducible repeat (first|apply Kd.V_alloc|apply Kd.V_drewN|apply Kd.V_drew));exact(Kd.V_mono (Kd.V_far (p:=⟨gb233,2,none⟩) (Kd.V_far (p:=⟨gb233,1,none⟩) (Kd.V_far (p:=⟨gb233,0,none⟩) (Kd.V_mono HO231.out (fun k_ hk=>(⟨hk,hk.2⟩ : _∧k_≠gb233))) (fun _ hk=>hk.2) (.string t227)) (fun _ hk=>hk.2) (.string t228)) (fun _ hk=>hk.2) (.slice Ao12 t229.length co12)) (fun _ h_=>h_.1))) (by first|exact Kd.R_base ho0|exact Kd.R_base ho0) hb);have n1_:=Aside0.mk (Kd.R_lower ho0 (below_size bl));have n2_:=Aside0.mk (blk_below (g:=gb233) (o:=.cells #[.string t227,.string t228,.slice Ao12 t229.length co12] 24 (0,0)) (by(with_reducible repeat (first|refine blk_drewN ?_ _|refine blk_drew ?_|refine blk_alloc ?_ _));refine blk_put (cs:=#[.string t227,.string t228,.slice none 0 0]) ?_ 2 _ rfl;(with_reducible repeat (first|refine blk_drewN ?_ _|refine blk_drew ?_|refine blk_alloc ?_ _));refine blk_put (cs:=#[.string t227,.string (⟨#[]⟩ : ByteArray),.slice none 0 0]) ?_ 1 _ rfl;(with_reducible repeat (first|refine blk_drewN ?_ _|refine blk_drew ?_|refine blk_alloc ?_ _));refine blk_put (cs:=#[.string (⟨#[]⟩ : ByteArray),.string (⟨#[]⟩ : ByteArray),.slice none 0 0]) ?_ 0 _ rfl;(with_reducible repeat (first|refine blk_drewN ?_ _|refine blk_drew ?_|refine blk_alloc ?_ _));exact BK233.out) hb);have n3_:=Aside0.mk (below_step bl hb);clear HO231;clear BK233;clear HB;have HO231:=n0_;have HO238:=n1_;have BK233:=n2_;have HB:=n3_;clear n0_ n1_ n2_ n3_)|((with_reducible refine gate_dst (N:=5) rfl ?_);refine box_event ?hg (N:=5) ?hd (cs:=#[.string (⟨#[]⟩ : ByteArray),.string (⟨#[]⟩ : ByteArray),.slice none 0 0]) (t:=30) ?hr ?_;(case hd=>rfl);(case hg=>rfl);(case hr=>first|(go_simp;done)|(go_simp;rfl));intro gb240 hg w14 hbox hb;have n0_:=Aside0.mk (Kd.V_below (Kd.V_elderB (by(with_reducible repeat (first|apply Kd.V_alloc|apply Kd.V_drewN|apply Kd.V_drew));exact HO231.out) gb240 (Nat.le_of_eq hg.symm)) hb);have n1_:=Aside0.mk (Kd.R_below (Kd.R_elderB rl gb240 (Nat.le_of_eq hg.symm)) hb);have n2_:=Aside0.mk (blk_below (g:=gb233) (o:=.cells #[.string t227,.string t228,.slice Ao12 t229.length co12] 24 (0,0)) kl hb);have n3_:=Aside0.mk (below_step bl hb);have n4_:=Aside0.mk (hbox);have n5_:=Aside0.mk ((by rw [hg];exact(below_size bl):w.heap.size≤gb240));have n6_:=Aside0.mk ((by rw [hg];exact(below_size bl):w.heap.size≤gb240));have n7_:=Aside0.mk ((by rw [hg];exact Nat.ne_of_lt (blk_lt (g:=gb233) (o:=.cells #[.string t227,.string t228,.slice Ao12 t229.length co12] 24 (0,0)) kl):gb233≠gb240));have n8_:=Aside0.mk ((by rw [hg];exact Nat.ne_of_gt (blk_lt (g:=gb233) (o:=.cells #[.string t227,.string t228,.slice Ao12 t229.length co12] 24 (0,0)) kl):gb240≠gb233));clear HO231;clear HO238;clear BK233;clear HB;have HO231:=n0_;have HO238:=n1_;have BK233:=n2_;have HB:=n3_;have BK240:=n4_;have GW240:=n5_;have GE240:=n6_;have NB233_240:=n7_;have NB240_233:=n8_;clear n0_ n1_ n2_ n3_ n4_ n5_ n6_ n7_ n8_;clear hb hbox hg;have hnb15:=NB240_233.out;have hnc15:=NB233_240.out;obtain⟨_,_,_,_,_,_⟩:=bc3 BK240.out;obtain⟨Ao17,co17,eo17⟩:=Kd.R_slice HO238.out;subst eo17))
 have n0_:Aside0 (Kd.V k24 24 (((w14.setCell ⟨gb240,0,none⟩ (.string t234)).setCell ⟨gb240,1,none⟩ (.string t235)).setCell ⟨gb240,2,none⟩ (.slice Ao17 t236.length co17)) w.heap.size (fun k_=>some k_≠(.slice Ao17 t236.length co17:Value).ownBlock∧k_≠gb233∧k_≠gb240) (.slice Ao12 t229.length co12) t229):=⟨by(with_reducible repeat (first|apply Kd.V_alloc|apply Kd.V_drewN|apply Kd.V_drew));exact Kd.V_mono (Kd.V_far (p:=⟨gb240,2,none⟩) (Kd.V_far (p:=⟨gb240,1,none⟩) (Kd.V_far (p:=⟨gb240,0,none⟩) (Kd.V_mono HO231.out (fun k_ hk=>(⟨hk,hk.2⟩ : _∧k_≠gb240))) (fun _ hk=>hk.2) (.string t234)) (fun _ hk=>hk.2) (.string t235)) (fun _ hk=>hk.2) (.slice Ao17 t236.length co17)) (fun _ hk=>⟨hk.1.1.2,⟨hk.1.1.1.2,hk.1.2⟩⟩)⟩
 have n1_:Aside0 (Kd.R k30 30 (((w14.setCell ⟨gb240,0,none⟩ (.string t234)).setCell ⟨gb240,1,none⟩ (.string t235)).setCell ⟨gb240,2,none⟩ (.slice Ao17 t236.length co17)) w.heap.size (fun k_=>k_≠gb240) (.slice Ao17 t236.length co17) t236):=⟨by(with_reducible repeat (first|apply Kd.R_alloc|apply Kd.R_drewN|apply Kd.R_drew));exact Kd.R_mono (Kd.R_far (p:=⟨gb240,2,none⟩) (Kd.R_far (p:=⟨gb240,1,none⟩) (Kd.R_far (p:=⟨gb240,0,none⟩) (Kd.R_mono HO238.out (fun k_ hk=>(⟨hk,hk.2⟩ : _∧k_≠gb240))) (fun _ hk=>hk.2) (.string t234)) (fun _ hk=>hk.2) (.string t235)) (fun _ hk=>hk.2) (.slice Ao17 t236.length co17)) (fun _ hk=>hk.1.2)⟩
 have n2_:Aside0 ((((w14.setCell ⟨gb240,0,none⟩ (.string t234)).setCell ⟨gb240,1,none⟩ (.string t235)).setCell ⟨gb240,2,none⟩ (.slice Ao17 t236.length co17)).heap[gb233]? = some (.cells #[.string t227,.string t228,.slice Ao12 t229.length co12] 24 (0,0))):=⟨by(with_reducible repeat (first|refine blk_drewN ?_ _|refine blk_drew ?_|refine blk_alloc ?_ _));refine blk_far ?_ NB233_240.out _;(with_reducible repeat (first|refine blk_drewN ?_ _|refine blk_drew ?_|refine blk_alloc ?_ _));refine blk_far ?_ NB233_240.out _;(with_reducible repeat (first|refine blk_drewN ?_ _|refine blk_drew ?_|refine blk_alloc ?_ _));refine blk_far ?_ NB233_240.out _;(with_reducible repeat (first|refine blk_drewN ?_ _|refine blk_drew ?_|refine blk_alloc ?_ _));exact BK233.out⟩
 have n3_:Aside0 ((((w14.setCell ⟨gb240,0,none⟩ (.string t234)).setCell ⟨gb240,1,none⟩ (.string t235)).setCell ⟨gb240,2,none⟩ (.slice Ao17 t236.length co17)).heap[gb240]? = some (.cells #[.string t234,.string t235,.slice Ao17 t236.length co17] 30 (0,0))):=⟨by(with_reducible repeat (first|refine blk_drewN ?_ _|refine blk_drew ?_|refine blk_alloc ?_ _));refine blk_put (cs:=#[.string t234,.string t235,.slice none 0 0]) ?_ 2 _ rfl;(with_reducible repeat (first|refine blk_drewN ?_ _|refine blk_drew ?_|refine blk_alloc ?_ _));refine blk_put (cs:=#[.string t234,.string (⟨#[]⟩ : ByteArray),.slice none 0 0]) ?_ 1 _ rfl;(with_reducible repeat (first|refine blk_drewN ?_ _|refine blk_drew ?_|refine blk_alloc ?_ _));refine blk_put (cs:=#[.string (⟨#[]⟩ : ByteArray),.string (⟨#[]⟩ : ByteArray),.slice none 0 0]) ?_ 0 _ rfl;(with_reducible repeat (first|refine blk_drewN ?_ _|refine blk_drew ?_|refine blk_alloc ?_ _));exact BK240.out⟩
 have n4_:Aside0 (Below w.heap.size w (((w14.setCell ⟨gb240,0,none⟩ (.string t234)).setCell ⟨gb240,1,none⟩ (.string t235)).setCell ⟨gb240,2,none⟩ (.slice Ao17 t236.length co17))):=⟨bl⟩
 (try clear HO231)
 (try clear HO238)
 (try clear BK233)
 (try clear BK240)
 (try clear HB)
 generalize (((w14.setCell ⟨gb240,0,none⟩ (.string t234)).setCell ⟨gb240,1,none⟩ (.string t235)).setCell ⟨gb240,2,none⟩ (.slice Ao17 t236.length co17))=w18 at n0_ n1_ n2_ n3_ n4_ ⊢
 have HO231:=n0_
 have HO238:=n1_
 have BK233:=n2_
 have BK240:=n3_
 have HB:=n4_
 clear n0_ n1_ n2_ n3_ n4_
 have n0_:=Aside0.mk (Kd.V_drew HO231.out)
 have n1_:=Aside0.mk (Kd.R_drew HO238.out)
 have n2_:=Aside0.mk (blk_drew BK233.out)
 have n3_:=Aside0.mk (blk_drew BK240.out)
 have n4_:=Aside0.mk (below_drew1 HB.out)
 clear HO231
 clear HO238
 clear BK233
 clear BK240
 clear HB
 have HO231:=n0_
 have HO238:=n1_
 have BK233:=n2_
 have BK240:=n3_
 have HB:=n4_
 clear n0_ n1_ n2_ n3_ n4_
 refine start_ (n:=13) (S:=fun w'=>w'.cell? ⟨gb233,0,none⟩=some (.string t227)∧w'.cell? ⟨gb233,1,none⟩=some (.string t228)∧w'.cell? ⟨gb233,2,none⟩=some (.slice Ao12 t229.length co12)∧w'.cell? ⟨gb240,0,none⟩=some (.string t234)∧w'.cell? ⟨gb240,1,none⟩=some (.string t235)∧w'.cell? ⟨gb240,2,none⟩=some (.slice Ao17 t236.length co17)) (ds:=[]) #[F,F,F,F,F,F,F,F,F,F,F,F,F] kr rfl rfl ⟨(blk_cell BK233.out 0).trans rfl,(blk_cell BK233.out 1).trans rfl,(blk_cell BK233.out 2).trans rfl,(blk_cell BK240.out 0).trans rfl,(blk_cell BK240.out 1).trans rfl,(blk_cell BK240.out 2).trans rfl⟩ (fun hHeld=>?_);refine with_tabW stowagelaw13_XmlParses.tab3 stowagelaw13_XmlParses.bits3 (fun HT_ HW_=>?_)
 generalize w18.drew=w19 at HO231 HO238 BK233 BK240 HB hHeld ⊢
 refine take_ (i:=0) (N:=some 17) (v:=?_) (a':=?_) #[T,F,F,F,F,F,F,F,F,F,F,F,F] rfl rfl (take_ofW HT_.out HW_.out kr) (fun _ _ _ h=>h) (Or.inl ⟨by rfl,?_⟩) hHeld ?_ ?_
 rotate_left
 {
 rintro w' ⟨s0,s1,s2,s3,s4,s5⟩
 go_simp
 with_reducible rfl
 }
 rotate_left
 {
 simp only [Act.put,l1,l2,l3,i64_w,i32_w]
 rfl
 }
 refine take_ (i:=2) (N:=some 19) (v:=?_) (a':=?_) #[T,F,T,F,F,F,F,F,F,F,F,F,F] rfl rfl (take_ofW HT_.out HW_.out kr) (fun _ _ _ h=>h) (Or.inl ⟨by rfl,?_⟩) hHeld ?_ ?_
 rotate_left
 {
 rintro w' ⟨s0,s1,s2,s3,s4,s5⟩
 go_simp
 with_reducible rfl
 }
 rotate_left
 {
 simp only [Act.put,l1,l2,l3,i64_w,i32_w]
 rfl
 }
 refine one_ (i:=1) (N:=some 18) #[T,T,T,F,F,F,F,F,F,F,F,F,F] rfl rfl (one_of HT_.out kr) (by decide) (fun K hK=>?_)
 refine goes_ Tryd.func13 kr rfl #[.agg #[.string t227,.string t228,.slice Ao12 t229.length co12]] (by rfl) rfl rfl am ?_
 with_reducible refine(stowagelaw13_To.calls k t227 t228 _ _ t229 t241 t242 t243 _ ?side1 ?side2 A4.out).mono ?_
 (case side1=>repeat (first|exact(Kd.V_reads' HO231.out).2.2|(with_reducible refine Kd.C_alloc ?_ _)|(with_reducible refine Kd.C_drewN ?_ _)|(with_reducible refine Kd.C_drew ?_)))
 (case side2=>exact(Kd.V_reads' HO231.out).2.1)
 rintro e w20 ⟨v244,rfl,ho0,hb⟩
 refine⟨_,rfl,?_⟩
 have n0_:=Aside0.mk (Kd.V_elder' (by(with_reducible repeat (first|apply Kd.V_alloc|apply Kd.V_drewN|apply Kd.V_drew));exact HO231.out) (by first|exact Kd.R_base ho0|exact Kd.R_base ho0) hb)
 have n1_:=Aside0.mk (Kd.R_elder' rl (by first|exact Kd.R_base ho0|exact Kd.R_base ho0) hb)
 have n2_:=Aside0.mk (Kd.R_lower (Kd.R_newB (Kd.R_new' ho0 (Kd.R_lt rl)) (g:=gb240) (o:=.cells #[.string t234,.string t235,.slice Ao17 t236.length co17] 30 (0,0)) kl) (below_size bl))
 have n3_:=Aside0.mk (blk_below (g:=gb233) (o:=.cells #[.string t227,.string t228,.slice Ao12 t229.length co12] 24 (0,0)) kl hb)
 have n4_:=Aside0.mk (blk_below (g:=gb240) (o:=.cells #[.string t234,.string t235,.slice Ao17 t236.length co17] 30 (0,0)) kl hb)
 have n5_:=Aside0.mk (below_step bl hb)
 clear HO231
 clear HO238
 clear BK233
 clear BK240
 clear HB
 have HO231:=n0_
 have HO238:=n1_
 have HO245:=n2_
 have BK233:=n3_
 have BK240:=n4_
 have HB:=n5_
 clear n0_ n1_ n2_ n3_ n4_ n5_
 (try clear hb)
 (try clear hb2)
 (try clear hk)
 (try clear hi)
 (try clear ho0)
 obtain⟨Ao21,co21,eo21⟩:=Kd.R_slice HO245.out
 (first|subst eo21|(injection eo21 with f1_ f2_ f3_;have f4_:=f1_.symm;have f5_:=f3_.symm;clear f1_ f2_ f3_;subst f4_;subst f5_))
 refine hK.out _ _ ⟨(blk_cell BK233.out 0).trans rfl,(blk_cell BK233.out 1).trans rfl,(blk_cell BK233.out 2).trans rfl,(blk_cell BK240.out 0).trans rfl,(blk_cell BK240.out 1).trans rfl,(blk_cell BK240.out 2).trans rfl⟩ (fun hHeld=>?_)
 clear hK K
 refine norm_ (a':=?_) ?_ ?_
 rotate_left
 {
 show Act.put _ (some 18) _=_
 simp only [Act.put,l1,l2,l3,i64_w,i32_w]
 rfl
 }
 refine one_ (i:=3) (N:=some 20) #[T,T,T,T,F,F,F,F,F,F,F,F,F] rfl rfl (one_of HT_.out kr) (by decide) (fun K hK=>?_)
 refine goes_ Tryd.func12 kr rfl #[.agg #[.string t241,.string t242,.slice Ao21 t243.length co21],.agg #[.string t234,.string t235,.slice Ao17 t236.length co17]] (by rfl) rfl rfl am ?_
 with_reducible refine(stowageref13_Same.calls k t241 t242 _ _ t243 t234 t235 _ _ t236 true _ ?side1 ?side2 ?side3 ?side4 A5.out).mono ?_
 (case side1=>repeat (first|exact(Kd.R_reads' HO245.out).2.2|(with_reducible refine Kd.C_alloc ?_ _)|(with_reducible refine Kd.C_drewN ?_ _)|(with_reducible refine Kd.C_drew ?_)))
 (case side2=>exact(Kd.R_reads' HO245.out).2.1)
 (case side3=>repeat (first|exact(Kd.R_reads' HO238.out).2.2|(with_reducible refine Kd.C_alloc ?_ _)|(with_reducible refine Kd.C_drewN ?_ _)|(with_reducible refine Kd.C_drew ?_)))
 (case side4=>exact(Kd.R_reads' HO238.out).2.1)
 rintro e w22 ⟨rfl,hb⟩
 refine⟨_,rfl,?_⟩
 have n0_:=Aside0.mk (Kd.V_below (by(with_reducible repeat (first|apply Kd.V_alloc|apply Kd.V_drewN|apply Kd.V_drew));exact HO231.out) hb)
 have n1_:=Aside0.mk (Kd.R_below rl hb)
 have n2_:=Aside0.mk (Kd.R_below rl hb)
 have n3_:=Aside0.mk (blk_below (g:=gb233) (o:=.cells #[.string t227,.string t228,.slice Ao12 t229.length co12] 24 (0,0)) kl hb)
 have n4_:=Aside0.mk (blk_below (g:=gb240) (o:=.cells #[.string t234,.string t235,.slice Ao17 t236.length co17] 30 (0,0)) kl hb)
 have n5_:=Aside0.mk (below_step bl hb)
 clear HO231
 clear HO238
 clear HO245
 clear BK233
 clear BK240
 clear HB
 have HO231:=n0_
 have HO238:=n1_
 have HO245:=n2_
 have BK233:=n3_
 have BK240:=n4_
 have HB:=n5_
 clear n0_ n1_ n2_ n3_ n4_ n5_
 (try clear hb)
 (try clear hb2)
 (try clear hk)
 (try clear hi)
 refine hK.out _ _ ⟨(blk_cell BK233.out 0).trans rfl,(blk_cell BK233.out 1).trans rfl,(blk_cell BK233.out 2).trans rfl,(blk_cell BK240.out 0).trans rfl,(blk_cell BK240.out 1).trans rfl,(blk_cell BK240.out 2).trans rfl⟩ (fun hHeld=>?_)
 clear hK K
 refine norm_ (a':=?_) ?_ ?_
 rotate_left
 {
 show Act.put _ (some 20) _=_
 simp only [Act.put,l1,l2,l3,i64_w,i32_w]
 rfl
 }
 refine pure_ (i:=4) (N:=some 21) (v:=?_) (a':=?_) #[T,T,T,T,T,F,F,F,F,F,F,F,F] rfl rfl (any_of HT_.out kr) (fun _ _ _ h=>h) (Or.inl ⟨by rfl,?_⟩) ?_ ?_
 rotate_left
 {
 intro w'
 go_simp
 with_reducible rfl
 }
 rotate_left
 {
 simp only [Act.put,l1,l2,l3,i64_w,i32_w]
 rfl
 }
 refine pure_ (i:=5) (N:=some 22) (v:=?_) (a':=?_) #[T,T,T,T,T,T,F,F,F,F,F,F,F] rfl rfl (any_of HT_.out kr) (fun _ _ _ h=>h) (Or.inl ⟨by rfl,?_⟩) ?_ ?_
 rotate_left
 {
 intro w'
 go_simp
 with_reducible rfl
 }
 rotate_left
 {
 simp only [Act.put,l1,l2,l3,i64_w,i32_w]
 rfl
 }
 refine pure_ (i:=6) (N:=some 23) (v:=?_) (a':=?_) #[T,T,T,T,T,T,T,F,F,F,F,F,F] rfl rfl (any_of HT_.out kr) (fun _ _ _ h=>h) (Or.inl ⟨by rfl,?_⟩) ?_ ?_
 rotate_left
 {
 intro w'
 go_simp
 with_reducible rfl
 }
 rotate_left
 {
 simp only [Act.put,l1,l2,l3,i64_w,i32_w]
 rfl
 }
 refine pure_ (i:=7) (N:=some 24) (v:=?_) (a':=?_) #[T,T,T,T,T,T,T,T,F,F,F,F,F] rfl rfl (any_of HT_.out kr) (fun _ _ _ h=>h) (Or.inl ⟨by rfl,?_⟩) ?_ ?_
 rotate_left
 {
 intro w'
 go_simp
 with_reducible rfl
 }
 rotate_left
 {
 simp only [Act.put,l1,l2,l3,i64_w,i32_w]
 rfl
 }
 refine pure_ (i:=8) (N:=some 25) (v:=?_) (a':=?_) #[T,T,T,T,T,T,T,T,T,F,F,F,F] rfl rfl (any_of HT_.out kr) (fun _ _ _ h=>h) (Or.inl ⟨by rfl,?_⟩) ?_ ?_
 rotate_left
 {
 intro w'
 go_simp
 with_reducible rfl
 }
 rotate_left
 {
 simp only [Act.put,l1,l2,l3,i64_w,i32_w]
 rfl
 }
 refine pure_ (i:=9) (N:=some 26) (v:=?_) (a':=?_) #[T,T,T,T,T,T,T,T,T,T,F,F,F] rfl rfl (any_of HT_.out kr) (fun _ _ _ h=>h) (Or.inl ⟨by rfl,?_⟩) ?_ ?_
 rotate_left
 {
 intro w'
 go_simp
 with_reducible rfl
 }
 rotate_left
 {
 simp only [Act.put,l1,l2,l3,i64_w,i32_w]
 rfl
 }
 refine one_ (i:=10) (N:=some 27) #[T,T,T,T,T,T,T,T,T,T,T,F,F] rfl rfl (one_of HT_.out kr) (by decide) (fun K hK=>?_)
 refine goes_ Tryd.func14 kr rfl #[] (by rfl) rfl rfl am ?_
 with_reducible refine(stowagelaw13_awake.calls k  t247 _ gk A8.out).mono ?_
 rintro e w23 ⟨rfl,hb⟩
 refine⟨_,rfl,?_⟩
 have n0_:=Aside0.mk (Kd.V_below (by(with_reducible repeat (first|apply Kd.V_alloc|apply Kd.V_drewN|apply Kd.V_drew));exact HO231.out) hb)
 have n1_:=Aside0.mk (Kd.R_below rl hb)
 have n2_:=Aside0.mk (Kd.R_below rl hb)
 have n3_:=Aside0.mk (blk_below (g:=gb233) (o:=.cells #[.string t227,.string t228,.slice Ao12 t229.length co12] 24 (0,0)) kl hb)
 have n4_:=Aside0.mk (blk_below (g:=gb240) (o:=.cells #[.string t234,.string t235,.slice Ao17 t236.length co17] 30 (0,0)) kl hb)
 have n5_:=Aside0.mk (below_step bl hb)
 clear HO231
 clear HO238
 clear HO245
 clear BK233
 clear BK240
 clear HB
 have HO231:=n0_
 have HO238:=n1_
 have HO245:=n2_
 have BK233:=n3_
 have BK240:=n4_
 have HB:=n5_
 clear n0_ n1_ n2_ n3_ n4_ n5_
 (try clear hb)
 (try clear hb2)
 (try clear hk)
 (try clear hi)
 refine hK.out _ _ ⟨(blk_cell BK233.out 0).trans rfl,(blk_cell BK233.out 1).trans rfl,(blk_cell BK233.out 2).trans rfl,(blk_cell BK240.out 0).trans rfl,(blk_cell BK240.out 1).trans rfl,(blk_cell BK240.out 2).trans rfl⟩ (fun hHeld=>?_)
 clear hK K
 refine norm_ (a':=?_) ?_ ?_
 rotate_left
 {
 show Act.put _ (some 27) _=_
 simp only [Act.put,l1,l2,l3,i64_w,i32_w]
 rfl
 }
 refine pure_ (i:=11) (N:=some 28) (v:=?_) (a':=?_) #[T,T,T,T,T,T,T,T,T,T,T,T,F] rfl rfl (any_of HT_.out kr) (fun _ _ _ h=>h) (Or.inl ⟨by rfl,?_⟩) ?_ ?_
 rotate_left
 {
 intro w'
 go_simp
 with_reducible rfl
 }
 rotate_left
 {
 simp only [Act.put,l1,l2,l3,i64_w,i32_w]
 rfl
 }
 refine pure_ (i:=12) (N:=some 2) (v:=?_) (a':=?_) #[T,T,T,T,T,T,T,T,T,T,T,T,T] rfl rfl (any_of HT_.out kr) (fun _ _ _ h=>h) (Or.inl ⟨by rfl,?_⟩) ?_ ?_
 rotate_left
 {
 intro w'
 go_simp
 with_reducible rfl
 }
 rotate_left
 {
 simp only [Act.put,l1,l2,l3,i64_w,i32_w]
 rfl
 }
 refine done_ (done_of HT_.out kr) ?_
 try go_wp2
 go_ret
 exact⟨ew,bl⟩
 }
 {
 have c7b0:(t232 == t239)=false:=beq_eq_false_iff_ne.mpr c7
 have c7b1:(t232 != t239)=true:=bne_iff_ne.mpr c7
 rw [hr] at H
 exact absurd H (by simp)
 }
 }
 {
 replace c6:=Bool.eq_false_iff.mpr c6
 subst c6
 replace H:=itF H
 rw [hr] at H
 exact absurd H (by simp)
 }
def stowagelaw13_XmlParses.Pure:Prop:=∀ (a0:ByteArray),a0.size≤140737488351232 → ∃ k,stowagelaw13_XmlParses.f k a0=some true
theorem stowagelaw13_XmlParses.walk (P:stowagelaw13_XmlParses.Pure) (a0:ByteArray) (w:World) (w0:a0.size≤140737488351232) (hG:GOk w) :
    Calls Tryd.prog 3 #[.string a0] w fun e w'=>e = .returned (.bool true)∧Below w.heap.size w w':=by
 obtain⟨k,h⟩:=P a0 w0
 refine(stowagelaw13_XmlParses.calls k a0 true w hG h rfl).mono ?_
 rintro e w' ⟨rfl,hd⟩
 exact⟨rfl,hd⟩
end Go.Proofs.YtklcgncaclggcaaDoor.Q
