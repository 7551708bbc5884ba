/- A part of the proof of the seat's laws. No condition beyond those in the theorems. -/
import Derived.Test.YtklcgncaclggcaaDoorZSqzB
import Derived.Test.YtklcgncaclggcaaDoorZQ0g18
import Derived.Test.YtklcgncaclggcaaDoorZQ53g10

namespace Go.Proofs.YtklcgncaclggcaaDoor.Q
open Go.RowKit Go.Proofs.YtklcgncaclggcaaDoorW.PrintWords Go.Proofs.YtklcgncaclggcaaDoorW.PrintLast Go.Proofs.YtklcgncaclggcaaDoorW.PrintMore
set_option linter.unusedVariables false
set_option linter.unusedSimpArgs false
set_option maxHeartbeats 8000000
set_option maxRecDepth 100000
attribute [local go_sem] max2_int min2_int max_two min_two max_three min_three max_four min_four   
mutual
def stowageref13_Reader_name.j0:Nat→Int→Bool→ByteArray→Int→Bool→Option (ByteArray×ByteArray×Int×Bool)
  | 0,_,_,_,_,_=>none
  | k+1,x3,x29,x1000,x1001,x1002=>if x29=true then(stowageref13_Reader_name.l0 k x3 x1000 x1001 x1002) else(if 0≤x3 then(if x3≤x1001 then(if x1001≤(x1000.size:Int) then(some (x1000.extract (x3:Int).toNat (x1001:Int).toNat,x1000,x1001,x1002)) else(none)) else(none)) else(none))
def stowageref13_Reader_name.l0:Nat→Int→ByteArray→Int→Bool→Option (ByteArray×ByteArray×Int×Bool)
  | 0,_,_,_,_=>none
  | k+1,x3,x1000,x1001,x1002=>if x1001<(x1000.size:Int) then(if 0≤x1001 then((stowageref13_inner.f (bt x1000 x1001)).bind fun t185=>(if t185=true then(stowageref13_Reader_name.l0 k x3 x1000 (wrap64 (x1001+1)) x1002) else(if 0≤x3 then(if x3≤x1001 then(if x1001≤(x1000.size:Int) then(some (x1000.extract (x3:Int).toNat (x1001:Int).toNat,x1000,x1001,x1002)) else(none)) else(none)) else(none)))) else(none)) else(if 0≤x3 then(if x3≤x1001 then(if x1001≤(x1000.size:Int) then(some (x1000.extract (x3:Int).toNat (x1001:Int).toNat,x1000,x1001,x1002)) else(none)) else(none)) else(none))
end
def stowageref13_Reader_name.f (k:Nat) (s0_0:ByteArray) (s0_1:Int) (s0_2:Bool):Option (ByteArray×ByteArray×Int×Bool):=if s0_1<(s0_0.size:Int) then(if 0≤s0_1 then((stowageref13_letter.f (bt s0_0 s0_1)).bind fun t184=>(stowageref13_Reader_name.j0 k s0_1 t184 s0_0 s0_1 s0_2)) else(none)) else(stowageref13_Reader_name.j0 k s0_1 false s0_0 s0_1 s0_2)
theorem stowageref13_Reader_name.mono_l:∀ k,(∀ y0 y1 y2 y3 y4,LeO (stowageref13_Reader_name.j0 k y0 y1 y2 y3 y4) (stowageref13_Reader_name.j0 (k+1) y0 y1 y2 y3 y4))∧(∀ y0 y1 y2 y3,LeO (stowageref13_Reader_name.l0 k y0 y1 y2 y3) (stowageref13_Reader_name.l0 (k+1) y0 y1 y2 y3))
  | 0=>⟨fun _ _ _ _ _ r h=>by simp [stowageref13_Reader_name.j0] at h,fun _ _ _ _ r h=>by simp [stowageref13_Reader_name.l0] at h⟩
  | k+1=>by
    obtain⟨ih0,ih1⟩:=stowageref13_Reader_name.mono_l k
    refine⟨?_,?_⟩
    · intro y0 y1 y2 y3 y4
      unfold stowageref13_Reader_name.j0
      repeat' first
      | (with_reducible exact ih0 _ _ _ _ _)
      | (with_reducible exact ih1 _ _ _ _)
      | (with_reducible exact LeO.refl _)
      | (with_reducible exact LeO.none _)
      | (with_reducible refine LeO.ite ?_ ?_)
      | (with_reducible refine LeO.bind ?_ (fun _=>?_))
      | exact ih0 _ _ _ _ _
      | exact ih1 _ _ _ _
      | exact LeO.none _
      | refine LeO.ite ?_ ?_
      | refine LeO.bind ?_ (fun _=>?_)
    · intro y0 y1 y2 y3
      unfold stowageref13_Reader_name.l0
      repeat' first
      | (with_reducible exact ih0 _ _ _ _ _)
      | (with_reducible exact ih1 _ _ _ _)
      | (with_reducible exact LeO.refl _)
      | (with_reducible exact LeO.none _)
      | (with_reducible refine LeO.ite ?_ ?_)
      | (with_reducible refine LeO.bind ?_ (fun _=>?_))
      | exact ih0 _ _ _ _ _
      | exact ih1 _ _ _ _
      | exact LeO.none _
      | refine LeO.ite ?_ ?_
      | refine LeO.bind ?_ (fun _=>?_)
theorem stowageref13_Reader_name.mono:∀ a0 a1 a2 k,LeO (stowageref13_Reader_name.f k a0 a1 a2) (stowageref13_Reader_name.f (k+1) a0 a1 a2):=by
 intro a0 a1 a2 k
 obtain⟨ih0,ih1⟩:=stowageref13_Reader_name.mono_l k
 unfold stowageref13_Reader_name.f
 repeat' first
     | (with_reducible exact ih0 _ _ _ _ _)
     | (with_reducible exact ih1 _ _ _ _)
     | (with_reducible exact LeO.refl _)
     | (with_reducible exact LeO.none _)
     | (with_reducible refine LeO.ite ?_ ?_)
     | (with_reducible refine LeO.bind ?_ (fun _=>?_))
     | exact ih0 _ _ _ _ _
     | exact ih1 _ _ _ _
     | exact LeO.none _
     | refine LeO.ite ?_ ?_
     | refine LeO.bind ?_ (fun _=>?_)
theorem stowageref13_Reader_name.calls (k:Nat) (g:Nat) (s0_0:ByteArray) (s0_1:Int) (s0_2:Bool) (r1:ByteArray) (r2:ByteArray) (r3:Int) (r4:Bool) (w0 w:World) (hI:IsS61 w0 w g s0_0 s0_1 s0_2) (hB:Below w0.heap.size w0 w) (h:stowageref13_Reader_name.f k s0_0 s0_1 s0_2=some (r1,r2,r3,r4)) :
    Calls Tryd.prog 67 #[.pointer (some ⟨g,0,none⟩)] w fun e w'=>e = .returned (.string r1)∧IsS61 w0 w' g r2 r3 r4∧Below w0.heap.size w0 w'∧KeepBut w w' g none:=by
 have HI0:=Aside0.mk hI
 have HK:=Aside0.mk (KeepBut.refl w g none)
 have HL:=Aside0.mk hB.size
 clear hI
 have HW0:=Aside0.mk hB.size
 have HB:=Aside0.mk hB
 clear hB
 unfold stowageref13_Reader_name.f at h
 have H:=h
 clear h
 have HC2:=Aside0.mk H
 clear H
 obtain⟨HGz3,hgz3⟩:=HI0.out
 have hcz3_0:=cellS61_0 HGz3
 have hcz3_1:=cellS61_1 HGz3
 have hcz3_2:=cellS61_2 HGz3
 have hfz3_0:=blk_frozen HGz3 0
 have hfz3_1:=blk_frozen HGz3 1
 have hfz3_2:=blk_frozen HGz3 2
 clear HGz3 hgz3
 go_enter Tryd.func67,Tryd.ntmps67
 go_upto_region 2 with(fail)
 repeat (go_quiet (fail);go_upto_region 2 with(fail))
 go_cut [29] (fun v29 wc=>∃ (kq:Nat) (x29_1:Bool),v29 = .bool x29_1∧Aside0 (stowageref13_Reader_name.j0 kq s0_1 x29_1 s0_0 s0_1 s0_2=some (r1,r2,r3,r4))∧Aside0 (kq≤k)∧Aside0 (IsS61 w0 wc g s0_0 s0_1 s0_2)∧Aside0 (KeepBut w wc g none)∧Aside0 (Below w0.heap.size w0 wc))
 case first=>
  have H:=HC2.out
  clear HC2
  replace H:=itO H
  rcases H with⟨c4,H⟩|⟨c4,H⟩
  {
  have c4b0:decide (s0_1<(s0_0.size:Int))=true:=decide_eq_true c4
  clear c4
  (first|rw [c4b0]|(simp only [i64_w,i32_w];rw [c4b0])|skip)
  replace H:=itO H
  rcases H with⟨c5,H⟩|⟨c5,H⟩
  {
  have c5b0:decide (0≤s0_1)=true:=decide_eq_true c5
  clear c5
  replace H:=bndO H
  obtain⟨t184,A70,H⟩:=H
  have A7:=Aside0.mk A70
  clear A70
  have H':=Aside0.mk H
  clear H
  obtain⟨HGz8,hgz8⟩:=HI0.out
  have hcz8_0:=cellS61_0 HGz8
  have hcz8_1:=cellS61_1 HGz8
  have hcz8_2:=cellS61_2 HGz8
  have hfz8_0:=blk_frozen HGz8 0
  have hfz8_1:=blk_frozen HGz8 1
  have hfz8_2:=blk_frozen HGz8 2
  clear HGz8 hgz8
  have p6:0≤(s0_1:Int):=of_decide_eq_true asm
  have q6:s0_1<(s0_0.size:Int):=of_decide_eq_true asm
  have hx6:=bt_at s0_0 s0_1
  replace p6:=eq_true p6
  replace q6:=eq_true q6
  go_wp2_with (first|(go_at_call 45;(with_reducible refine(stowageref13_letter.calls (bt s0_0 s0_1) t184 _ A7.out).mono ?_);rintro e w' ⟨rfl,⟨nd,rfl⟩⟩;(try exact dd)))
  repeat (go_quiet (first|(go_at_call 45;(with_reducible refine(stowageref13_letter.calls (bt s0_0 s0_1) t184 _ A7.out).mono ?_);rintro e w' ⟨rfl,⟨nd,rfl⟩⟩;(try exact dd)));try go_wp2_with (first|(go_at_call 45;(with_reducible refine(stowageref13_letter.calls (bt s0_0 s0_1) t184 _ A7.out).mono ?_);rintro e w' ⟨rfl,⟨nd,rfl⟩⟩;(try exact dd))))
  go_meet
  case rel=>exact⟨_,(t184),rs,H',⟨by first|omega|exact Nat.le_refl _⟩,⟨by repeat (first|(with_reducible first|exact HI0.out|apply IsS61.alloc|apply IsS61.drewN|apply IsS61.drew|apply IsS61.set_0|apply IsS61.set_1|apply IsS61.set_2)|exact HI0.out)⟩,⟨kk⟩,⟨by repeat (first|(with_reducible first|exact HB.out|apply below_alloc|apply pw_below_drewN|apply below_drew1|refine below_set ?_ (IsS61.ge HI0.out))|exact HB.out)⟩⟩
  }
  ·exact absurd H (by simp)
  }
  {
  have c4b0:decide (s0_1<(s0_0.size:Int))=false:=decide_eq_false c4
  clear c4
  (first|rw [c4b0]|(simp only [i64_w,i32_w];rw [c4b0])|skip)
  have H':=Aside0.mk H
  clear H
  obtain⟨HGz9,hgz9⟩:=HI0.out
  have hcz9_0:=cellS61_0 HGz9
  have hcz9_1:=cellS61_1 HGz9
  have hcz9_2:=cellS61_2 HGz9
  have hfz9_0:=blk_frozen HGz9 0
  have hfz9_1:=blk_frozen HGz9 1
  have hfz9_2:=blk_frozen HGz9 2
  clear HGz9 hgz9
  go_wp2
  repeat (go_quiet (fail);try go_wp2)
  go_meet
  case rel=>exact⟨_,(false),rs,H',⟨by first|omega|exact Nat.le_refl _⟩,⟨by repeat (first|(with_reducible first|exact HI0.out|apply IsS61.alloc|apply IsS61.drewN|apply IsS61.drew|apply IsS61.set_0|apply IsS61.set_1|apply IsS61.set_2)|exact HI0.out)⟩,⟨kk⟩,⟨by repeat (first|(with_reducible first|exact HB.out|apply below_alloc|apply pw_below_drewN|apply below_drew1|refine below_set ?_ (IsS61.ge HI0.out))|exact HB.out)⟩⟩
  }
 case rest=>
  clear HC2
  obtain⟨kq,x29_1,rfl,HA,HJ1,HI0,HK,HB⟩:=hcut
  cases kq with
  | zero=>exact absurd HA.out (by simp [stowageref13_Reader_name.j0])
  | succ kj1=>
   have H:=HA.out
   clear HA
   simp only [stowageref13_Reader_name.j0] at H
   by_cases c10:x29_1=true
   {
   subst c10
   replace H:=itT H
   have H':=Aside0.mk H
   clear H
   go_wp2
   repeat (go_quiet (fail);try go_wp2)
   go_loopg [] kj1 (fun kq w'=>∃ (x1001_2:Int),Aside0 (stowageref13_Reader_name.l0 kq s0_1 s0_0 x1001_2 s0_2=some (r1,r2,r3,r4))∧Aside0 (kq≤kj1)∧Aside0 (IsS61 w0 w' g s0_0 x1001_2 s0_2)∧Aside0 (KeepBut w w' g none)∧Aside0 (Below w0.heap.size w0 w'))
   case atStart=>exact⟨(s0_1),H',⟨Nat.le_refl _⟩,⟨by repeat (first|(with_reducible first|exact HI0.out|apply IsS61.alloc|apply IsS61.drewN|apply IsS61.drew|apply IsS61.set_0|apply IsS61.set_1|apply IsS61.set_2)|exact HI0.out)⟩,⟨kk⟩,⟨by repeat (first|(with_reducible first|exact HB.out|apply below_alloc|apply pw_below_drewN|apply below_drew1|refine below_set ?_ (IsS61.ge HI0.out))|exact HB.out)⟩⟩
   case round=>
    clear H'
    obtain⟨x1001_2,HA,HK2,HI0,HK,HB⟩:=hrel
    cases gk with
    | zero=>exact absurd HA.out (by simp [stowageref13_Reader_name.l0])
    | succ k2=>
     have H:=HA.out
     clear HA
     simp only [stowageref13_Reader_name.l0] at H
     replace H:=itO H
     rcases H with⟨c11,H⟩|⟨c11,H⟩
     {
     have c11b0:decide (x1001_2<(s0_0.size:Int))=true:=decide_eq_true c11
     clear c11
     replace H:=itO H
     rcases H with⟨c12,H⟩|⟨c12,H⟩
     {
     have c12b0:decide (0≤x1001_2)=true:=decide_eq_true c12
     clear c12
     replace H:=bndO H
     obtain⟨t185,A140,H⟩:=H
     have A14:=Aside0.mk A140
     clear A140
     by_cases c15:t185=true
     {
     subst c15
     replace H:=itT H
     have H':=Aside0.mk H
     clear H
     obtain⟨HGz16,hgz16⟩:=HI0.out
     have hcz16_0:=cellS61_0 HGz16
     have hcz16_1:=cellS61_1 HGz16
     have hcz16_2:=cellS61_2 HGz16
     have hfz16_0:=blk_frozen HGz16 0
     have hfz16_1:=blk_frozen HGz16 1
     have hfz16_2:=blk_frozen HGz16 2
     clear HGz16 hgz16
     have p13:0≤(x1001_2:Int):=of_decide_eq_true asm
     have q13:x1001_2<(s0_0.size:Int):=of_decide_eq_true asm
     have hx13:=bt_at s0_0 x1001_2
     replace p13:=eq_true p13
     replace q13:=eq_true q13
     go_wp2_with (first|(go_at_call 44;(with_reducible refine(stowageref13_inner.calls (bt s0_0 x1001_2) true _ A14.out).mono ?_);rintro e w' ⟨rfl,⟨nd,rfl⟩⟩;(try exact dd)))
     repeat (go_quiet (first|(go_at_call 44;(with_reducible refine(stowageref13_inner.calls (bt s0_0 x1001_2) true _ A14.out).mono ?_);rintro e w' ⟨rfl,⟨nd,rfl⟩⟩;(try exact dd)));try go_wp2_with (first|(go_at_call 44;(with_reducible refine(stowageref13_inner.calls (bt s0_0 x1001_2) true _ A14.out).mono ?_);rintro e w' ⟨rfl,⟨nd,rfl⟩⟩;(try exact dd))))
     go_roundg k2
     case measure=>have:=HJ1.out;have:=HK2.out;omega
     case rel=>exact⟨(wrap64 (x1001_2+1)),H',⟨by have:=HJ1.out;have:=HK2.out;omega⟩,⟨by repeat (first|(with_reducible first|exact HI0.out|apply IsS61.alloc|apply IsS61.drewN|apply IsS61.drew|apply IsS61.set_0|apply IsS61.set_1|apply IsS61.set_2)|exact HI0.out)⟩,⟨kk⟩,⟨by repeat (first|(with_reducible first|exact HB.out|apply below_alloc|apply pw_below_drewN|apply below_drew1|refine below_set ?_ (IsS61.ge HI0.out))|exact HB.out)⟩⟩
     }
     {
     replace c15:=Bool.eq_false_iff.mpr c15
     subst c15
     replace H:=itF H
     replace H:=itO H
     rcases H with⟨c17,H⟩|⟨c17,H⟩
     {
     have c17b0:=eq_true c17
     clear c17
     replace H:=itO H
     rcases H with⟨c18,H⟩|⟨c18,H⟩
     {
     have c18b0:=eq_true c18
     clear c18
     replace H:=itO H
     rcases H with⟨c19,H⟩|⟨c19,H⟩
     {
     have c19b0:=eq_true c19
     clear c19
     simp only [Option.some.injEq,Prod.mk.injEq] at H
     obtain⟨rfl,rfl,rfl,rfl⟩:=H
     obtain⟨HGz20,hgz20⟩:=HI0.out
     have hcz20_0:=cellS61_0 HGz20
     have hcz20_1:=cellS61_1 HGz20
     have hcz20_2:=cellS61_2 HGz20
     have hfz20_0:=blk_frozen HGz20 0
     have hfz20_1:=blk_frozen HGz20 1
     have hfz20_2:=blk_frozen HGz20 2
     clear HGz20 hgz20
     have p13:0≤(x1001_2:Int):=of_decide_eq_true asm
     have q13:x1001_2<(s0_0.size:Int):=of_decide_eq_true asm
     have hx13:=bt_at s0_0 x1001_2
     replace p13:=eq_true p13
     replace q13:=eq_true q13
     go_wp2_with (first|(go_at_call 44;(with_reducible refine(stowageref13_inner.calls (bt s0_0 x1001_2) false _ A14.out).mono ?_);rintro e w' ⟨rfl,⟨nd,rfl⟩⟩;(try exact dd)))
     repeat (go_quiet (first|(go_at_call 44;(with_reducible refine(stowageref13_inner.calls (bt s0_0 x1001_2) false _ A14.out).mono ?_);rintro e w' ⟨rfl,⟨nd,rfl⟩⟩;(try exact dd)));try go_wp2_with (first|(go_at_call 44;(with_reducible refine(stowageref13_inner.calls (bt s0_0 x1001_2) false _ A14.out).mono ?_);rintro e w' ⟨rfl,⟨nd,rfl⟩⟩;(try exact dd))))
     go_ret
     exact⟨ew,by repeat (first|(with_reducible first|exact HI0.out|apply IsS61.alloc|apply IsS61.drewN|apply IsS61.drew|apply IsS61.set_0|apply IsS61.set_1|apply IsS61.set_2)|exact HI0.out),by repeat (first|(with_reducible first|exact HB.out|apply below_alloc|apply pw_below_drewN|apply below_drew1|refine below_set ?_ (IsS61.ge HI0.out))|exact HB.out),kk⟩
     }
     ·exact absurd H (by simp)
     }
     ·exact absurd H (by simp)
     }
     ·exact absurd H (by simp)
     }
     }
     ·exact absurd H (by simp)
     }
     {
     have c11b0:decide (x1001_2<(s0_0.size:Int))=false:=decide_eq_false c11
     clear c11
     replace H:=itO H
     rcases H with⟨c21,H⟩|⟨c21,H⟩
     {
     have c21b0:=eq_true c21
     clear c21
     replace H:=itO H
     rcases H with⟨c22,H⟩|⟨c22,H⟩
     {
     have c22b0:=eq_true c22
     clear c22
     replace H:=itO H
     rcases H with⟨c23,H⟩|⟨c23,H⟩
     {
     have c23b0:=eq_true c23
     clear c23
     simp only [Option.some.injEq,Prod.mk.injEq] at H
     obtain⟨rfl,rfl,rfl,rfl⟩:=H
     obtain⟨HGz24,hgz24⟩:=HI0.out
     have hcz24_0:=cellS61_0 HGz24
     have hcz24_1:=cellS61_1 HGz24
     have hcz24_2:=cellS61_2 HGz24
     have hfz24_0:=blk_frozen HGz24 0
     have hfz24_1:=blk_frozen HGz24 1
     have hfz24_2:=blk_frozen HGz24 2
     clear HGz24 hgz24
     go_wp2
     repeat (go_quiet (fail);try go_wp2)
     go_ret
     exact⟨ew,by repeat (first|(with_reducible first|exact HI0.out|apply IsS61.alloc|apply IsS61.drewN|apply IsS61.drew|apply IsS61.set_0|apply IsS61.set_1|apply IsS61.set_2)|exact HI0.out),by repeat (first|(with_reducible first|exact HB.out|apply below_alloc|apply pw_below_drewN|apply below_drew1|refine below_set ?_ (IsS61.ge HI0.out))|exact HB.out),kk⟩
     }
     ·exact absurd H (by simp)
     }
     ·exact absurd H (by simp)
     }
     ·exact absurd H (by simp)
     }
   }
   {
   replace c10:=Bool.eq_false_iff.mpr c10
   subst c10
   replace H:=itF H
   replace H:=itO H
   rcases H with⟨c25,H⟩|⟨c25,H⟩
   {
   have c25b0:=eq_true c25
   clear c25
   replace H:=itO H
   rcases H with⟨c26,H⟩|⟨c26,H⟩
   {
   have c26b0:=eq_true c26
   clear c26
   replace H:=itO H
   rcases H with⟨c27,H⟩|⟨c27,H⟩
   {
   have c27b0:=eq_true c27
   clear c27
   simp only [Option.some.injEq,Prod.mk.injEq] at H
   obtain⟨rfl,rfl,rfl,rfl⟩:=H
   obtain⟨HGz28,hgz28⟩:=HI0.out
   have hcz28_0:=cellS61_0 HGz28
   have hcz28_1:=cellS61_1 HGz28
   have hcz28_2:=cellS61_2 HGz28
   have hfz28_0:=blk_frozen HGz28 0
   have hfz28_1:=blk_frozen HGz28 1
   have hfz28_2:=blk_frozen HGz28 2
   clear HGz28 hgz28
   go_wp2
   repeat (go_quiet (fail);try go_wp2)
   go_ret
   exact⟨ew,by repeat (first|(with_reducible first|exact HI0.out|apply IsS61.alloc|apply IsS61.drewN|apply IsS61.drew|apply IsS61.set_0|apply IsS61.set_1|apply IsS61.set_2)|exact HI0.out),by repeat (first|(with_reducible first|exact HB.out|apply below_alloc|apply pw_below_drewN|apply below_drew1|refine below_set ?_ (IsS61.ge HI0.out))|exact HB.out),kk⟩
   }
   ·exact absurd H (by simp)
   }
   ·exact absurd H (by simp)
   }
   ·exact absurd H (by simp)
   }
mutual
def stowageref13_Reader_attribute.j0:Nat→Bool→ByteArray→Int→Bool→Option (Bool×ByteArray×Int×Bool)
 | 0,_,_,_,_=>none
 | k+1,x15,x1000,x1001,x1002=>if x15=true then(some (false,x1000,x1001,x1002)) else((stowageref13_Reader_skip.f k x1000 x1001 x1002).bind fun bt198=>((stowageref13_Reader_eat.f bt198.2.1 bt198.2.2.1 bt198.2.2.2 (⟨#[61]⟩ : ByteArray)).bind fun bt202=>(if bt202.1=true then((stowageref13_Reader_skip.f k bt202.2.1 bt202.2.2.1 bt202.2.2.2).bind fun bt206=>(if bt206.2.2.1 ≥ (bt206.2.1.size:Int) then(stowageref13_Reader_attribute.j1 k true bt206.2.1 bt206.2.2.1 bt206.2.2.2) else(if 0≤bt206.2.2.1 then(if bt206.2.2.1<(bt206.2.1.size:Int) then(if(bt bt206.2.1 bt206.2.2.1)=34 then(stowageref13_Reader_attribute.j1 k false bt206.2.1 bt206.2.2.1 bt206.2.2.2) else(stowageref13_Reader_attribute.j1 k ((bt bt206.2.1 bt206.2.2.1) != 39) bt206.2.1 bt206.2.2.1 bt206.2.2.2)) else(none)) else(none)))) else(some (false,bt202.2.1,bt202.2.2.1,bt202.2.2.2)))))
def stowageref13_Reader_attribute.j1:Nat→Bool→ByteArray→Int→Bool→Option (Bool×ByteArray×Int×Bool)
 | 0,_,_,_,_=>none
 | k+1,x56,x1000,x1001,x1002=>if x56=true then(some (false,x1000,x1001,x1002)) else(if 0≤x1001 then(if x1001<(x1000.size:Int) then(stowageref13_Reader_attribute.l0 k (bt x1000 x1001) x1000 (wrap64 (x1001+1)) x1002) else(none)) else(none))
def stowageref13_Reader_attribute.l0:Nat→Int→ByteArray→Int→Bool→Option (Bool×ByteArray×Int×Bool)
 | 0,_,_,_,_=>none
 | k+1,x3,x1000,x1001,x1002=>if x1001<(x1000.size:Int) then(if 0≤x1001 then(stowageref13_Reader_attribute.j3 k x3 ((bt x1000 x1001) != x3) x1000 x1001 x1002) else(none)) else(stowageref13_Reader_attribute.j3 k x3 false x1000 x1001 x1002)
def stowageref13_Reader_attribute.j3:Nat→Int→Bool→ByteArray→Int→Bool→Option (Bool×ByteArray×Int×Bool)
 | 0,_,_,_,_,_=>none
 | k+1,x3,x95,x1000,x1001,x1002=>if x95=true then(if 0≤x1001 then(if x1001<(x1000.size:Int) then(if(bt x1000 x1001)=60 then(some (false,x1000,x1001,x1002)) else(if(bt x1000 x1001)=38 then(some (false,x1000,x1001,x1002)) else(stowageref13_Reader_attribute.l0 k x3 x1000 (wrap64 (x1001+1)) x1002))) else(none)) else(none)) else(some (decide ((wrap64 (x1001+1))≤(x1000.size:Int)),x1000,wrap64 (x1001+1),x1002))
end
def stowageref13_Reader_attribute.f (k:Nat) (s0_0:ByteArray) (s0_1:Int) (s0_2:Bool):Option (Bool×ByteArray×Int×Bool):=(stowageref13_Reader_name.f k s0_0 s0_1 s0_2).bind fun bt186=>(if bt186.1.toList=([]:List UInt8) then(stowageref13_Reader_attribute.j0 k true bt186.2.1 bt186.2.2.1 bt186.2.2.2) else((stowageref13_Reader_eat.f bt186.2.1 bt186.2.2.1 bt186.2.2.2 (⟨#[58]⟩ : ByteArray)).bind fun bt190=>(if bt190.1=true then((stowageref13_Reader_name.f k bt190.2.1 bt190.2.2.1 bt190.2.2.2).bind fun bt194=>(stowageref13_Reader_attribute.j0 k (bt194.1.toList == ([]:List UInt8)) bt194.2.1 bt194.2.2.1 bt194.2.2.2)) else(stowageref13_Reader_attribute.j0 k false bt190.2.1 bt190.2.2.1 bt190.2.2.2))))
theorem stowageref13_Reader_attribute.mono_l:∀ k,(∀ y0 y1 y2 y3,LeO (stowageref13_Reader_attribute.j0 k y0 y1 y2 y3) (stowageref13_Reader_attribute.j0 (k+1) y0 y1 y2 y3))∧(∀ y0 y1 y2 y3,LeO (stowageref13_Reader_attribute.j1 k y0 y1 y2 y3) (stowageref13_Reader_attribute.j1 (k+1) y0 y1 y2 y3))∧(∀ y0 y1 y2 y3,LeO (stowageref13_Reader_attribute.l0 k y0 y1 y2 y3) (stowageref13_Reader_attribute.l0 (k+1) y0 y1 y2 y3))∧(∀ y0 y1 y2 y3 y4,LeO (stowageref13_Reader_attribute.j3 k y0 y1 y2 y3 y4) (stowageref13_Reader_attribute.j3 (k+1) y0 y1 y2 y3 y4))
 | 0=>⟨fun _ _ _ _ r h=>by simp [stowageref13_Reader_attribute.j0] at h,fun _ _ _ _ r h=>by simp [stowageref13_Reader_attribute.j1] at h,fun _ _ _ _ r h=>by simp [stowageref13_Reader_attribute.l0] at h,fun _ _ _ _ _ r h=>by simp [stowageref13_Reader_attribute.j3] at h⟩
 | k+1=>by
  obtain⟨ih0,ih1,ih2,ih3⟩:=stowageref13_Reader_attribute.mono_l k
  refine⟨?_,?_,?_,?_⟩
  ·intro y0 y1 y2 y3
   unfold stowageref13_Reader_attribute.j0
   repeat' first
   | (with_reducible exact ih0 _ _ _ _)
   | (with_reducible exact ih1 _ _ _ _)
   | (with_reducible exact ih2 _ _ _ _)
   | (with_reducible exact ih3 _ _ _ _ _)
   | (with_reducible exact stowageref13_Reader_name.mono _ _ _ _)
   | (with_reducible exact stowageref13_Reader_skip.mono _ _ _ _)
   | (with_reducible exact LeO.refl _)
   | (with_reducible exact LeO.none _)
   | (with_reducible refine LeO.ite ?_ ?_)
   | (with_reducible refine LeO.bind ?_ (fun _=>?_))
   | exact ih0 _ _ _ _
   | exact ih1 _ _ _ _
   | exact ih2 _ _ _ _
   | exact ih3 _ _ _ _ _
   | exact stowageref13_Reader_name.mono _ _ _ _
   | exact stowageref13_Reader_skip.mono _ _ _ _
   | exact LeO.none _
   | refine LeO.ite ?_ ?_
   | refine LeO.bind ?_ (fun _=>?_)
  ·intro y0 y1 y2 y3
   unfold stowageref13_Reader_attribute.j1
   repeat' first
   | (with_reducible exact ih0 _ _ _ _)
   | (with_reducible exact ih1 _ _ _ _)
   | (with_reducible exact ih2 _ _ _ _)
   | (with_reducible exact ih3 _ _ _ _ _)
   | (with_reducible exact stowageref13_Reader_name.mono _ _ _ _)
   | (with_reducible exact stowageref13_Reader_skip.mono _ _ _ _)
   | (with_reducible exact LeO.refl _)
   | (with_reducible exact LeO.none _)
   | (with_reducible refine LeO.ite ?_ ?_)
   | (with_reducible refine LeO.bind ?_ (fun _=>?_))
   | exact ih0 _ _ _ _
   | exact ih1 _ _ _ _
   | exact ih2 _ _ _ _
   | exact ih3 _ _ _ _ _
   | exact stowageref13_Reader_name.mono _ _ _ _
   | exact stowageref13_Reader_skip.mono _ _ _ _
   | exact LeO.none _
   | refine LeO.ite ?_ ?_
   | refine LeO.bind ?_ (fun _=>?_)
  ·intro y0 y1 y2 y3
   unfold stowageref13_Reader_attribute.l0
   repeat' first
   | (with_reducible exact ih0 _ _ _ _)
   | (with_reducible exact ih1 _ _ _ _)
   | (with_reducible exact ih2 _ _ _ _)
   | (with_reducible exact ih3 _ _ _ _ _)
   | (with_reducible exact stowageref13_Reader_name.mono _ _ _ _)
   | (with_reducible exact stowageref13_Reader_skip.mono _ _ _ _)
   | (with_reducible exact LeO.refl _)
   | (with_reducible exact LeO.none _)
   | (with_reducible refine LeO.ite ?_ ?_)
   | (with_reducible refine LeO.bind ?_ (fun _=>?_))
   | exact ih0 _ _ _ _
   | exact ih1 _ _ _ _
   | exact ih2 _ _ _ _
   | exact ih3 _ _ _ _ _
   | exact stowageref13_Reader_name.mono _ _ _ _
   | exact stowageref13_Reader_skip.mono _ _ _ _
   | exact LeO.none _
   | refine LeO.ite ?_ ?_
   | refine LeO.bind ?_ (fun _=>?_)
  ·intro y0 y1 y2 y3 y4
   unfold stowageref13_Reader_attribute.j3
   repeat' first
   | (with_reducible exact ih0 _ _ _ _)
   | (with_reducible exact ih1 _ _ _ _)
   | (with_reducible exact ih2 _ _ _ _)
   | (with_reducible exact ih3 _ _ _ _ _)
   | (with_reducible exact stowageref13_Reader_name.mono _ _ _ _)
   | (with_reducible exact stowageref13_Reader_skip.mono _ _ _ _)
   | (with_reducible exact LeO.refl _)
   | (with_reducible exact LeO.none _)
   | (with_reducible refine LeO.ite ?_ ?_)
   | (with_reducible refine LeO.bind ?_ (fun _=>?_))
   | exact ih0 _ _ _ _
   | exact ih1 _ _ _ _
   | exact ih2 _ _ _ _
   | exact ih3 _ _ _ _ _
   | exact stowageref13_Reader_name.mono _ _ _ _
   | exact stowageref13_Reader_skip.mono _ _ _ _
   | exact LeO.none _
   | refine LeO.ite ?_ ?_
   | refine LeO.bind ?_ (fun _=>?_)
theorem stowageref13_Reader_attribute.mono:∀ a0 a1 a2 k,LeO (stowageref13_Reader_attribute.f k a0 a1 a2) (stowageref13_Reader_attribute.f (k+1) a0 a1 a2):=by
 intro a0 a1 a2 k
 obtain⟨ih0,ih1,ih2,ih3⟩:=stowageref13_Reader_attribute.mono_l k
 unfold stowageref13_Reader_attribute.f
 repeat' first
   | (with_reducible exact ih0 _ _ _ _)
   | (with_reducible exact ih1 _ _ _ _)
   | (with_reducible exact ih2 _ _ _ _)
   | (with_reducible exact ih3 _ _ _ _ _)
   | (with_reducible exact stowageref13_Reader_name.mono _ _ _ _)
   | (with_reducible exact stowageref13_Reader_skip.mono _ _ _ _)
   | (with_reducible exact LeO.refl _)
   | (with_reducible exact LeO.none _)
   | (with_reducible refine LeO.ite ?_ ?_)
   | (with_reducible refine LeO.bind ?_ (fun _=>?_))
   | exact ih0 _ _ _ _
   | exact ih1 _ _ _ _
   | exact ih2 _ _ _ _
   | exact ih3 _ _ _ _ _
   | exact stowageref13_Reader_name.mono _ _ _ _
   | exact stowageref13_Reader_skip.mono _ _ _ _
   | exact LeO.none _
   | refine LeO.ite ?_ ?_
   | refine LeO.bind ?_ (fun _=>?_)
theorem stowageref13_Reader_attribute.calls (k:Nat) (g:Nat) (s0_0:ByteArray) (s0_1:Int) (s0_2:Bool) (r1:Bool) (r2:ByteArray) (r3:Int) (r4:Bool) (w0 w:World) (hI:IsS61 w0 w g s0_0 s0_1 s0_2) (hB:Below w0.heap.size w0 w) (h:stowageref13_Reader_attribute.f k s0_0 s0_1 s0_2=some (r1,r2,r3,r4)) :
  Calls Tryd.prog 68 #[.pointer (some ⟨g,0,none⟩)] w fun e w'=>e = .returned (.bool r1)∧IsS61 w0 w' g r2 r3 r4∧Below w0.heap.size w0 w'∧KeepBut w w' g none:=by
 have HI0:=Aside0.mk hI
 have HK:=Aside0.mk (KeepBut.refl w g none)
 have HL:=Aside0.mk hB.size
 clear hI
 have HW0:=Aside0.mk hB.size
 have HB:=Aside0.mk hB
 clear hB
 unfold stowageref13_Reader_attribute.f at h
 have H:=h
 clear h
 have HC2:=Aside0.mk H
 clear H
 go_enter Tryd.func68,Tryd.ntmps68
 go_upto_region 1 with(fail)
 repeat (go_quiet (fail);go_upto_region 1 with(fail))
 go_cut [15] (fun v15 wc=>∃ (kq:Nat) (x15_1:Bool) (x1000_1:ByteArray) (x1001_1:Int) (x1002_1:Bool),v15 = .bool x15_1∧Aside0 (stowageref13_Reader_attribute.j0 kq x15_1 x1000_1 x1001_1 x1002_1=some (r1,r2,r3,r4))∧Aside0 (kq≤k)∧Aside0 (IsS61 w0 wc g x1000_1 x1001_1 x1002_1)∧Aside0 (KeepBut w wc g none)∧Aside0 (Below w0.heap.size w0 wc))
 case first=>
  have H:=HC2.out
  clear HC2
  replace H:=bndO H
  obtain⟨⟨t186,t187,t188,t189⟩,A30,H⟩:=H
  dsimp only at H
  have A3:=Aside0.mk A30
  clear A30
  replace H:=itO H
  rcases H with⟨c4,H⟩|⟨c4,H⟩
  ·skip
   have c4b0:(t186.toList == ([]:List UInt8))=true:=beq_iff_eq.mpr c4
   have c4b1:(t186.toList != ([]:List UInt8))=false:=bne_eq_false_iff_eq.mpr c4
   clear c4
   (first|rw [c4b0]|(simp only [i64_w,i32_w];rw [c4b0])|skip)
   have H':=Aside0.mk H
   clear H
   go_wp2_with (first|(go_at_call 67;(with_reducible refine(stowageref13_Reader_name.calls k g s0_0 s0_1 s0_2 t186 t187 t188 t189 w0 _ ?side1 ?side2 A3.out).mono ?_);(case side1=>repeat (first|(with_reducible first|exact HI0.out|apply IsS61.alloc|apply IsS61.drewN|apply IsS61.drew|apply IsS61.set_0|apply IsS61.set_1|apply IsS61.set_2)|exact HI0.out));(case side2=>repeat (first|(with_reducible first|exact HB.out|apply below_alloc|apply pw_below_drewN|apply below_drew1|refine below_set ?_ (IsS61.ge HI0.out))|exact HB.out));rintro e w5 ⟨rfl,hi,hb,hk⟩;have n0_:=Aside0.mk (KeepBut.trans kk hk (.inl rfl));have n1_:=Aside0.mk (hb);have n2_:=Aside0.mk (hi);clear HK;clear HB;clear HI0;have HK:=n0_;have HB:=n1_;have HI0:=n2_;clear n0_ n1_ n2_;(try clear hb);(try clear hb2);(try clear hk);(try clear hi)))
   repeat (go_quiet (first|(go_at_call 67;(with_reducible refine(stowageref13_Reader_name.calls k g s0_0 s0_1 s0_2 t186 t187 t188 t189 w0 _ ?side1 ?side2 A3.out).mono ?_);(case side1=>repeat (first|(with_reducible first|exact HI0.out|apply IsS61.alloc|apply IsS61.drewN|apply IsS61.drew|apply IsS61.set_0|apply IsS61.set_1|apply IsS61.set_2)|exact HI0.out));(case side2=>repeat (first|(with_reducible first|exact HB.out|apply below_alloc|apply pw_below_drewN|apply below_drew1|refine below_set ?_ (IsS61.ge HI0.out))|exact HB.out));rintro e w5 ⟨rfl,hi,hb,hk⟩;have n0_:=Aside0.mk (KeepBut.trans kk hk (.inl rfl));have n1_:=Aside0.mk (hb);have n2_:=Aside0.mk (hi);clear HK;clear HB;clear HI0;have HK:=n0_;have HB:=n1_;have HI0:=n2_;clear n0_ n1_ n2_;(try clear hb);(try clear hb2);(try clear hk);(try clear hi)));try go_wp2_with (first|(go_at_call 67;(with_reducible refine(stowageref13_Reader_name.calls k g s0_0 s0_1 s0_2 t186 t187 t188 t189 w0 _ ?side1 ?side2 A3.out).mono ?_);(case side1=>repeat (first|(with_reducible first|exact HI0.out|apply IsS61.alloc|apply IsS61.drewN|apply IsS61.drew|apply IsS61.set_0|apply IsS61.set_1|apply IsS61.set_2)|exact HI0.out));(case side2=>repeat (first|(with_reducible first|exact HB.out|apply below_alloc|apply pw_below_drewN|apply below_drew1|refine below_set ?_ (IsS61.ge HI0.out))|exact HB.out));rintro e w5 ⟨rfl,hi,hb,hk⟩;have n0_:=Aside0.mk (KeepBut.trans kk hk (.inl rfl));have n1_:=Aside0.mk (hb);have n2_:=Aside0.mk (hi);clear HK;clear HB;clear HI0;have HK:=n0_;have HB:=n1_;have HI0:=n2_;clear n0_ n1_ n2_;(try clear hb);(try clear hb2);(try clear hk);(try clear hi))))
   go_meet
   case rel=>exact⟨_,(true),(t187),(t188),(t189),(by first|rfl|(simp;done)|(simp [*];done)),H',⟨by first|omega|exact Nat.le_refl _⟩,⟨by repeat (first|(with_reducible first|exact HI0.out|apply IsS61.alloc|apply IsS61.drewN|apply IsS61.drew|apply IsS61.set_0|apply IsS61.set_1|apply IsS61.set_2)|exact HI0.out)⟩,⟨kk⟩,⟨by repeat (first|(with_reducible first|exact HB.out|apply below_alloc|apply pw_below_drewN|apply below_drew1|refine below_set ?_ (IsS61.ge HI0.out))|exact HB.out)⟩⟩
  ·skip
   have c4b0:(t186.toList == ([]:List UInt8))=false:=beq_eq_false_iff_ne.mpr c4
   have c4b1:(t186.toList != ([]:List UInt8))=true:=bne_iff_ne.mpr c4
   (first|rw [c4b0]|(simp only [i64_w,i32_w];rw [c4b0])|skip)
   replace H:=bndO H
   obtain⟨⟨t190,t191,t192,t193⟩,A60,H⟩:=H
   dsimp only at H
   have A6:=Aside0.mk A60
   clear A60
   by_cases c7:t190=true
   ·subst c7
    replace H:=itT H
    replace H:=bndO H
    obtain⟨⟨t194,t195,t196,t197⟩,A80,H⟩:=H
    dsimp only at H
    have A8:=Aside0.mk A80
    clear A80
    have H':=Aside0.mk H
    clear H
    go_wp2_with (first|(go_at_call 67;(with_reducible refine(stowageref13_Reader_name.calls k g s0_0 s0_1 s0_2 t186 t187 t188 t189 w0 _ ?side1 ?side2 A3.out).mono ?_);(case side1=>repeat (first|(with_reducible first|exact HI0.out|apply IsS61.alloc|apply IsS61.drewN|apply IsS61.drew|apply IsS61.set_0|apply IsS61.set_1|apply IsS61.set_2)|exact HI0.out));(case side2=>repeat (first|(with_reducible first|exact HB.out|apply below_alloc|apply pw_below_drewN|apply below_drew1|refine below_set ?_ (IsS61.ge HI0.out))|exact HB.out));rintro e w9 ⟨rfl,hi,hb,hk⟩;have n0_:=Aside0.mk (KeepBut.trans kk hk (.inl rfl));have n1_:=Aside0.mk (hb);have n2_:=Aside0.mk (hi);clear HK;clear HB;clear HI0;have HK:=n0_;have HB:=n1_;have HI0:=n2_;clear n0_ n1_ n2_;(try clear hb);(try clear hb2);(try clear hk);(try clear hi);(try clear A3))|(go_at_call 66;(with_reducible refine(stowageref13_Reader_eat.calls g t187 t188 t189 (⟨#[58]⟩ : ByteArray) true t191 t192 t193 w0 _ ?side1 ?side2 A6.out).mono ?_);(case side1=>repeat (first|(with_reducible first|exact HI0.out|apply IsS61.alloc|apply IsS61.drewN|apply IsS61.drew|apply IsS61.set_0|apply IsS61.set_1|apply IsS61.set_2)|exact HI0.out));(case side2=>repeat (first|(with_reducible first|exact HB.out|apply below_alloc|apply pw_below_drewN|apply below_drew1|refine below_set ?_ (IsS61.ge HI0.out))|exact HB.out));rintro e w10 ⟨rfl,hi,hb,hk⟩;have n0_:=Aside0.mk (KeepBut.trans kk hk (.inl rfl));have n1_:=Aside0.mk (hb);have n2_:=Aside0.mk (hi);clear HK;clear HB;clear HI0;have HK:=n0_;have HB:=n1_;have HI0:=n2_;clear n0_ n1_ n2_;(try clear hb);(try clear hb2);(try clear hk);(try clear hi))|(go_at_call 67;(with_reducible refine(stowageref13_Reader_name.calls k g t191 t192 t193 t194 t195 t196 t197 w0 _ ?side1 ?side2 A8.out).mono ?_);(case side1=>repeat (first|(with_reducible first|exact HI0.out|apply IsS61.alloc|apply IsS61.drewN|apply IsS61.drew|apply IsS61.set_0|apply IsS61.set_1|apply IsS61.set_2)|exact HI0.out));(case side2=>repeat (first|(with_reducible first|exact HB.out|apply below_alloc|apply pw_below_drewN|apply below_drew1|refine below_set ?_ (IsS61.ge HI0.out))|exact HB.out));rintro e w11 ⟨rfl,hi,hb,hk⟩;have n0_:=Aside0.mk (KeepBut.trans kk hk (.inl rfl));have n1_:=Aside0.mk (hb);have n2_:=Aside0.mk (hi);clear HK;clear HB;clear HI0;have HK:=n0_;have HB:=n1_;have HI0:=n2_;clear n0_ n1_ n2_;(try clear hb);(try clear hb2);(try clear hk);(try clear hi);(try clear A8)))
    repeat (go_quiet (first|(go_at_call 67;(with_reducible refine(stowageref13_Reader_name.calls k g s0_0 s0_1 s0_2 t186 t187 t188 t189 w0 _ ?side1 ?side2 A3.out).mono ?_);(case side1=>repeat (first|(with_reducible first|exact HI0.out|apply IsS61.alloc|apply IsS61.drewN|apply IsS61.drew|apply IsS61.set_0|apply IsS61.set_1|apply IsS61.set_2)|exact HI0.out));(case side2=>repeat (first|(with_reducible first|exact HB.out|apply below_alloc|apply pw_below_drewN|apply below_drew1|refine below_set ?_ (IsS61.ge HI0.out))|exact HB.out));rintro e w9 ⟨rfl,hi,hb,hk⟩;have n0_:=Aside0.mk (KeepBut.trans kk hk (.inl rfl));have n1_:=Aside0.mk (hb);have n2_:=Aside0.mk (hi);clear HK;clear HB;clear HI0;have HK:=n0_;have HB:=n1_;have HI0:=n2_;clear n0_ n1_ n2_;(try clear hb);(try clear hb2);(try clear hk);(try clear hi);(try clear A3))|(go_at_call 66;(with_reducible refine(stowageref13_Reader_eat.calls g t187 t188 t189 (⟨#[58]⟩ : ByteArray) true t191 t192 t193 w0 _ ?side1 ?side2 A6.out).mono ?_);(case side1=>repeat (first|(with_reducible first|exact HI0.out|apply IsS61.alloc|apply IsS61.drewN|apply IsS61.drew|apply IsS61.set_0|apply IsS61.set_1|apply IsS61.set_2)|exact HI0.out));(case side2=>repeat (first|(with_reducible first|exact HB.out|apply below_alloc|apply pw_below_drewN|apply below_drew1|refine below_set ?_ (IsS61.ge HI0.out))|exact HB.out));rintro e w10 ⟨rfl,hi,hb,hk⟩;have n0_:=Aside0.mk (KeepBut.trans kk hk (.inl rfl));have n1_:=Aside0.mk (hb);have n2_:=Aside0.mk (hi);clear HK;clear HB;clear HI0;have HK:=n0_;have HB:=n1_;have HI0:=n2_;clear n0_ n1_ n2_;(try clear hb);(try clear hb2);(try clear hk);(try clear hi))|(go_at_call 67;(with_reducible refine(stowageref13_Reader_name.calls k g t191 t192 t193 t194 t195 t196 t197 w0 _ ?side1 ?side2 A8.out).mono ?_);(case side1=>repeat (first|(with_reducible first|exact HI0.out|apply IsS61.alloc|apply IsS61.drewN|apply IsS61.drew|apply IsS61.set_0|apply IsS61.set_1|apply IsS61.set_2)|exact HI0.out));(case side2=>repeat (first|(with_reducible first|exact HB.out|apply below_alloc|apply pw_below_drewN|apply below_drew1|refine below_set ?_ (IsS61.ge HI0.out))|exact HB.out));rintro e w11 ⟨rfl,hi,hb,hk⟩;have n0_:=Aside0.mk (KeepBut.trans kk hk (.inl rfl));have n1_:=Aside0.mk (hb);have n2_:=Aside0.mk (hi);clear HK;clear HB;clear HI0;have HK:=n0_;have HB:=n1_;have HI0:=n2_;clear n0_ n1_ n2_;(try clear hb);(try clear hb2);(try clear hk);(try clear hi);(try clear A8)));try go_wp2_with (first|(go_at_call 67;(with_reducible refine(stowageref13_Reader_name.calls k g s0_0 s0_1 s0_2 t186 t187 t188 t189 w0 _ ?side1 ?side2 A3.out).mono ?_);(case side1=>repeat (first|(with_reducible first|exact HI0.out|apply IsS61.alloc|apply IsS61.drewN|apply IsS61.drew|apply IsS61.set_0|apply IsS61.set_1|apply IsS61.set_2)|exact HI0.out));(case side2=>repeat (first|(with_reducible first|exact HB.out|apply below_alloc|apply pw_below_drewN|apply below_drew1|refine below_set ?_ (IsS61.ge HI0.out))|exact HB.out));rintro e w9 ⟨rfl,hi,hb,hk⟩;have n0_:=Aside0.mk (KeepBut.trans kk hk (.inl rfl));have n1_:=Aside0.mk (hb);have n2_:=Aside0.mk (hi);clear HK;clear HB;clear HI0;have HK:=n0_;have HB:=n1_;have HI0:=n2_;clear n0_ n1_ n2_;(try clear hb);(try clear hb2);(try clear hk);(try clear hi);(try clear A3))|(go_at_call 66;(with_reducible refine(stowageref13_Reader_eat.calls g t187 t188 t189 (⟨#[58]⟩ : ByteArray) true t191 t192 t193 w0 _ ?side1 ?side2 A6.out).mono ?_);(case side1=>repeat (first|(with_reducible first|exact HI0.out|apply IsS61.alloc|apply IsS61.drewN|apply IsS61.drew|apply IsS61.set_0|apply IsS61.set_1|apply IsS61.set_2)|exact HI0.out));(case side2=>repeat (first|(with_reducible first|exact HB.out|apply below_alloc|apply pw_below_drewN|apply below_drew1|refine below_set ?_ (IsS61.ge HI0.out))|exact HB.out));rintro e w10 ⟨rfl,hi,hb,hk⟩;have n0_:=Aside0.mk (KeepBut.trans kk hk (.inl rfl));have n1_:=Aside0.mk (hb);have n2_:=Aside0.mk (hi);clear HK;clear HB;clear HI0;have HK:=n0_;have HB:=n1_;have HI0:=n2_;clear n0_ n1_ n2_;(try clear hb);(try clear hb2);(try clear hk);(try clear hi))|(go_at_call 67;(with_reducible refine(stowageref13_Reader_name.calls k g t191 t192 t193 t194 t195 t196 t197 w0 _ ?side1 ?side2 A8.out).mono ?_);(case side1=>repeat (first|(with_reducible first|exact HI0.out|apply IsS61.alloc|apply IsS61.drewN|apply IsS61.drew|apply IsS61.set_0|apply IsS61.set_1|apply IsS61.set_2)|exact HI0.out));(case side2=>repeat (first|(with_reducible first|exact HB.out|apply below_alloc|apply pw_below_drewN|apply below_drew1|refine below_set ?_ (IsS61.ge HI0.out))|exact HB.out));rintro e w11 ⟨rfl,hi,hb,hk⟩;have n0_:=Aside0.mk (KeepBut.trans kk hk (.inl rfl));have n1_:=Aside0.mk (hb);have n2_:=Aside0.mk (hi);clear HK;clear HB;clear HI0;have HK:=n0_;have HB:=n1_;have HI0:=n2_;clear n0_ n1_ n2_;(try clear hb);(try clear hb2);(try clear hk);(try clear hi);(try clear A8))))
    go_meet
    case rel=>exact⟨_,((t194.toList == ([]:List UInt8))),(t195),(t196),(t197),(by first|rfl|(simp;done)|(simp [*];done)),H',⟨by first|omega|exact Nat.le_refl _⟩,⟨by repeat (first|(with_reducible first|exact HI0.out|apply IsS61.alloc|apply IsS61.drewN|apply IsS61.drew|apply IsS61.set_0|apply IsS61.set_1|apply IsS61.set_2)|exact HI0.out)⟩,⟨kk⟩,⟨by repeat (first|(with_reducible first|exact HB.out|apply below_alloc|apply pw_below_drewN|apply below_drew1|refine below_set ?_ (IsS61.ge HI0.out))|exact HB.out)⟩⟩
   ·replace c7:=Bool.eq_false_iff.mpr c7
    subst c7
    replace H:=itF H
    have H':=Aside0.mk H
    clear H
    go_wp2_with (first|(go_at_call 67;(with_reducible refine(stowageref13_Reader_name.calls k g s0_0 s0_1 s0_2 t186 t187 t188 t189 w0 _ ?side1 ?side2 A3.out).mono ?_);(case side1=>repeat (first|(with_reducible first|exact HI0.out|apply IsS61.alloc|apply IsS61.drewN|apply IsS61.drew|apply IsS61.set_0|apply IsS61.set_1|apply IsS61.set_2)|exact HI0.out));(case side2=>repeat (first|(with_reducible first|exact HB.out|apply below_alloc|apply pw_below_drewN|apply below_drew1|refine below_set ?_ (IsS61.ge HI0.out))|exact HB.out));rintro e w12 ⟨rfl,hi,hb,hk⟩;have n0_:=Aside0.mk (KeepBut.trans kk hk (.inl rfl));have n1_:=Aside0.mk (hb);have n2_:=Aside0.mk (hi);clear HK;clear HB;clear HI0;have HK:=n0_;have HB:=n1_;have HI0:=n2_;clear n0_ n1_ n2_;(try clear hb);(try clear hb2);(try clear hk);(try clear hi))|(go_at_call 66;(with_reducible refine(stowageref13_Reader_eat.calls g t187 t188 t189 (⟨#[58]⟩ : ByteArray) false t191 t192 t193 w0 _ ?side1 ?side2 A6.out).mono ?_);(case side1=>repeat (first|(with_reducible first|exact HI0.out|apply IsS61.alloc|apply IsS61.drewN|apply IsS61.drew|apply IsS61.set_0|apply IsS61.set_1|apply IsS61.set_2)|exact HI0.out));(case side2=>repeat (first|(with_reducible first|exact HB.out|apply below_alloc|apply pw_below_drewN|apply below_drew1|refine below_set ?_ (IsS61.ge HI0.out))|exact HB.out));rintro e w13 ⟨rfl,hi,hb,hk⟩;have n0_:=Aside0.mk (KeepBut.trans kk hk (.inl rfl));have n1_:=Aside0.mk (hb);have n2_:=Aside0.mk (hi);clear HK;clear HB;clear HI0;have HK:=n0_;have HB:=n1_;have HI0:=n2_;clear n0_ n1_ n2_;(try clear hb);(try clear hb2);(try clear hk);(try clear hi)))
    repeat (go_quiet (first|(go_at_call 67;(with_reducible refine(stowageref13_Reader_name.calls k g s0_0 s0_1 s0_2 t186 t187 t188 t189 w0 _ ?side1 ?side2 A3.out).mono ?_);(case side1=>repeat (first|(with_reducible first|exact HI0.out|apply IsS61.alloc|apply IsS61.drewN|apply IsS61.drew|apply IsS61.set_0|apply IsS61.set_1|apply IsS61.set_2)|exact HI0.out));(case side2=>repeat (first|(with_reducible first|exact HB.out|apply below_alloc|apply pw_below_drewN|apply below_drew1|refine below_set ?_ (IsS61.ge HI0.out))|exact HB.out));rintro e w12 ⟨rfl,hi,hb,hk⟩;have n0_:=Aside0.mk (KeepBut.trans kk hk (.inl rfl));have n1_:=Aside0.mk (hb);have n2_:=Aside0.mk (hi);clear HK;clear HB;clear HI0;have HK:=n0_;have HB:=n1_;have HI0:=n2_;clear n0_ n1_ n2_;(try clear hb);(try clear hb2);(try clear hk);(try clear hi))|(go_at_call 66;(with_reducible refine(stowageref13_Reader_eat.calls g t187 t188 t189 (⟨#[58]⟩ : ByteArray) false t191 t192 t193 w0 _ ?side1 ?side2 A6.out).mono ?_);(case side1=>repeat (first|(with_reducible first|exact HI0.out|apply IsS61.alloc|apply IsS61.drewN|apply IsS61.drew|apply IsS61.set_0|apply IsS61.set_1|apply IsS61.set_2)|exact HI0.out));(case side2=>repeat (first|(with_reducible first|exact HB.out|apply below_alloc|apply pw_below_drewN|apply below_drew1|refine below_set ?_ (IsS61.ge HI0.out))|exact HB.out));rintro e w13 ⟨rfl,hi,hb,hk⟩;have n0_:=Aside0.mk (KeepBut.trans kk hk (.inl rfl));have n1_:=Aside0.mk (hb);have n2_:=Aside0.mk (hi);clear HK;clear HB;clear HI0;have HK:=n0_;have HB:=n1_;have HI0:=n2_;clear n0_ n1_ n2_;(try clear hb);(try clear hb2);(try clear hk);(try clear hi)));try go_wp2_with (first|(go_at_call 67;(with_reducible refine(stowageref13_Reader_name.calls k g s0_0 s0_1 s0_2 t186 t187 t188 t189 w0 _ ?side1 ?side2 A3.out).mono ?_);(case side1=>repeat (first|(with_reducible first|exact HI0.out|apply IsS61.alloc|apply IsS61.drewN|apply IsS61.drew|apply IsS61.set_0|apply IsS61.set_1|apply IsS61.set_2)|exact HI0.out));(case side2=>repeat (first|(with_reducible first|exact HB.out|apply below_alloc|apply pw_below_drewN|apply below_drew1|refine below_set ?_ (IsS61.ge HI0.out))|exact HB.out));rintro e w12 ⟨rfl,hi,hb,hk⟩;have n0_:=Aside0.mk (KeepBut.trans kk hk (.inl rfl));have n1_:=Aside0.mk (hb);have n2_:=Aside0.mk (hi);clear HK;clear HB;clear HI0;have HK:=n0_;have HB:=n1_;have HI0:=n2_;clear n0_ n1_ n2_;(try clear hb);(try clear hb2);(try clear hk);(try clear hi))|(go_at_call 66;(with_reducible refine(stowageref13_Reader_eat.calls g t187 t188 t189 (⟨#[58]⟩ : ByteArray) false t191 t192 t193 w0 _ ?side1 ?side2 A6.out).mono ?_);(case side1=>repeat (first|(with_reducible first|exact HI0.out|apply IsS61.alloc|apply IsS61.drewN|apply IsS61.drew|apply IsS61.set_0|apply IsS61.set_1|apply IsS61.set_2)|exact HI0.out));(case side2=>repeat (first|(with_reducible first|exact HB.out|apply below_alloc|apply pw_below_drewN|apply below_drew1|refine below_set ?_ (IsS61.ge HI0.out))|exact HB.out));rintro e w13 ⟨rfl,hi,hb,hk⟩;have n0_:=Aside0.mk (KeepBut.trans kk hk (.inl rfl));have n1_:=Aside0.mk (hb);have n2_:=Aside0.mk (hi);clear HK;clear HB;clear HI0;have HK:=n0_;have HB:=n1_;have HI0:=n2_;clear n0_ n1_ n2_;(try clear hb);(try clear hb2);(try clear hk);(try clear hi))))
    go_meet
    case rel=>exact⟨_,(false),(t191),(t192),(t193),(by first|rfl|(simp;done)|(simp [*];done)),H',⟨by first|omega|exact Nat.le_refl _⟩,⟨by repeat (first|(with_reducible first|exact HI0.out|apply IsS61.alloc|apply IsS61.drewN|apply IsS61.drew|apply IsS61.set_0|apply IsS61.set_1|apply IsS61.set_2)|exact HI0.out)⟩,⟨kk⟩,⟨by repeat (first|(with_reducible first|exact HB.out|apply below_alloc|apply pw_below_drewN|apply below_drew1|refine below_set ?_ (IsS61.ge HI0.out))|exact HB.out)⟩⟩
 case rest=>
  clear HC2
  try clear p2
  try clear c4
  try clear c4b0
  try clear c4b1
  try clear c6
  try clear c7
  obtain⟨kq,x15_1,x1000_1,x1001_1,x1002_1,rfl,HA,HJ1,HI0,HK,HB⟩:=hcut
  cases kq with
  | zero=>exact absurd HA.out (by simp [stowageref13_Reader_attribute.j0])
  | succ kj1=>
   have H:=HA.out
   clear HA
   simp only [stowageref13_Reader_attribute.j0] at H
   by_cases c14:x15_1=true
   ·subst c14
    replace H:=itT H
    simp only [Option.some.injEq,Prod.mk.injEq] at H
    obtain⟨rfl,rfl,rfl,rfl⟩:=H
    go_wp2
    repeat (go_quiet (fail);try go_wp2)
    go_ret
    exact⟨by first|rfl|(simp [errW_none,errW_some] <;> rfl)|(simp [*,errW_none,errW_some] <;> rfl),by repeat (first|(with_reducible first|exact HI0.out|apply IsS61.alloc|apply IsS61.drewN|apply IsS61.drew|apply IsS61.set_0|apply IsS61.set_1|apply IsS61.set_2)|exact HI0.out),by repeat (first|(with_reducible first|exact HB.out|apply below_alloc|apply pw_below_drewN|apply below_drew1|refine below_set ?_ (IsS61.ge HI0.out))|exact HB.out),kk⟩
   ·replace c14:=Bool.eq_false_iff.mpr c14
    subst c14
    replace H:=itF H
    replace H:=bndO H
    obtain⟨⟨t198,t199,t200,t201⟩,A150,H⟩:=H
    dsimp only at H
    have A15:=Aside0.mk A150
    clear A150
    replace H:=bndO H
    obtain⟨⟨t202,t203,t204,t205⟩,A160,H⟩:=H
    dsimp only at H
    have A16:=Aside0.mk A160
    clear A160
    by_cases c17:t202=true
    ·subst c17
     replace H:=itT H
     replace H:=bndO H
     obtain⟨⟨t206,t207,t208,t209⟩,A180,H⟩:=H
     dsimp only at H
     have A18:=Aside0.mk A180
     clear A180
     have HC19:=Aside0.mk H
     clear H
     go_upto_region 7 with(first|(go_at_call 33;(with_reducible refine(stowageref13_Reader_skip.calls kj1 g x1000_1 x1001_1 x1002_1 t198 t199 t200 t201 w0 _ ?side1 ?side2 A15.out).mono ?_);(case side1=>repeat (first|(with_reducible first|exact HI0.out|apply IsS61.alloc|apply IsS61.drewN|apply IsS61.drew|apply IsS61.set_0|apply IsS61.set_1|apply IsS61.set_2)|exact HI0.out));(case side2=>repeat (first|(with_reducible first|exact HB.out|apply below_alloc|apply pw_below_drewN|apply below_drew1|refine below_set ?_ (IsS61.ge HI0.out))|exact HB.out));rintro e w20 ⟨rfl,hi,hb,hk⟩;have n0_:=Aside0.mk (KeepBut.trans kk hk (.inl rfl));have n1_:=Aside0.mk (hb);have n2_:=Aside0.mk (hi);clear HK;clear HB;clear HI0;have HK:=n0_;have HB:=n1_;have HI0:=n2_;clear n0_ n1_ n2_;(try clear hb);(try clear hb2);(try clear hk);(try clear hi);(try clear A15))|(go_at_call 66;(with_reducible refine(stowageref13_Reader_eat.calls g t199 t200 t201 (⟨#[61]⟩ : ByteArray) true t203 t204 t205 w0 _ ?side1 ?side2 A16.out).mono ?_);(case side1=>repeat (first|(with_reducible first|exact HI0.out|apply IsS61.alloc|apply IsS61.drewN|apply IsS61.drew|apply IsS61.set_0|apply IsS61.set_1|apply IsS61.set_2)|exact HI0.out));(case side2=>repeat (first|(with_reducible first|exact HB.out|apply below_alloc|apply pw_below_drewN|apply below_drew1|refine below_set ?_ (IsS61.ge HI0.out))|exact HB.out));rintro e w21 ⟨rfl,hi,hb,hk⟩;have n0_:=Aside0.mk (KeepBut.trans kk hk (.inl rfl));have n1_:=Aside0.mk (hb);have n2_:=Aside0.mk (hi);clear HK;clear HB;clear HI0;have HK:=n0_;have HB:=n1_;have HI0:=n2_;clear n0_ n1_ n2_;(try clear hb);(try clear hb2);(try clear hk);(try clear hi))|(go_at_call 33;(with_reducible refine(stowageref13_Reader_skip.calls kj1 g t203 t204 t205 t206 t207 t208 t209 w0 _ ?side1 ?side2 A18.out).mono ?_);(case side1=>repeat (first|(with_reducible first|exact HI0.out|apply IsS61.alloc|apply IsS61.drewN|apply IsS61.drew|apply IsS61.set_0|apply IsS61.set_1|apply IsS61.set_2)|exact HI0.out));(case side2=>repeat (first|(with_reducible first|exact HB.out|apply below_alloc|apply pw_below_drewN|apply below_drew1|refine below_set ?_ (IsS61.ge HI0.out))|exact HB.out));rintro e w22 ⟨rfl,hi,hb,hk⟩;have n0_:=Aside0.mk (KeepBut.trans kk hk (.inl rfl));have n1_:=Aside0.mk (hb);have n2_:=Aside0.mk (hi);clear HK;clear HB;clear HI0;have HK:=n0_;have HB:=n1_;have HI0:=n2_;clear n0_ n1_ n2_;(try clear hb);(try clear hb2);(try clear hk);(try clear hi);(try clear A18)))
     repeat (go_quiet (first|(go_at_call 33;(with_reducible refine(stowageref13_Reader_skip.calls kj1 g x1000_1 x1001_1 x1002_1 t198 t199 t200 t201 w0 _ ?side1 ?side2 A15.out).mono ?_);(case side1=>repeat (first|(with_reducible first|exact HI0.out|apply IsS61.alloc|apply IsS61.drewN|apply IsS61.drew|apply IsS61.set_0|apply IsS61.set_1|apply IsS61.set_2)|exact HI0.out));(case side2=>repeat (first|(with_reducible first|exact HB.out|apply below_alloc|apply pw_below_drewN|apply below_drew1|refine below_set ?_ (IsS61.ge HI0.out))|exact HB.out));rintro e w20 ⟨rfl,hi,hb,hk⟩;have n0_:=Aside0.mk (KeepBut.trans kk hk (.inl rfl));have n1_:=Aside0.mk (hb);have n2_:=Aside0.mk (hi);clear HK;clear HB;clear HI0;have HK:=n0_;have HB:=n1_;have HI0:=n2_;clear n0_ n1_ n2_;(try clear hb);(try clear hb2);(try clear hk);(try clear hi);(try clear A15))|(go_at_call 66;(with_reducible refine(stowageref13_Reader_eat.calls g t199 t200 t201 (⟨#[61]⟩ : ByteArray) true t203 t204 t205 w0 _ ?side1 ?side2 A16.out).mono ?_);(case side1=>repeat (first|(with_reducible first|exact HI0.out|apply IsS61.alloc|apply IsS61.drewN|apply IsS61.drew|apply IsS61.set_0|apply IsS61.set_1|apply IsS61.set_2)|exact HI0.out));(case side2=>repeat (first|(with_reducible first|exact HB.out|apply below_alloc|apply pw_below_drewN|apply below_drew1|refine below_set ?_ (IsS61.ge HI0.out))|exact HB.out));rintro e w21 ⟨rfl,hi,hb,hk⟩;have n0_:=Aside0.mk (KeepBut.trans kk hk (.inl rfl));have n1_:=Aside0.mk (hb);have n2_:=Aside0.mk (hi);clear HK;clear HB;clear HI0;have HK:=n0_;have HB:=n1_;have HI0:=n2_;clear n0_ n1_ n2_;(try clear hb);(try clear hb2);(try clear hk);(try clear hi))|(go_at_call 33;(with_reducible refine(stowageref13_Reader_skip.calls kj1 g t203 t204 t205 t206 t207 t208 t209 w0 _ ?side1 ?side2 A18.out).mono ?_);(case side1=>repeat (first|(with_reducible first|exact HI0.out|apply IsS61.alloc|apply IsS61.drewN|apply IsS61.drew|apply IsS61.set_0|apply IsS61.set_1|apply IsS61.set_2)|exact HI0.out));(case side2=>repeat (first|(with_reducible first|exact HB.out|apply below_alloc|apply pw_below_drewN|apply below_drew1|refine below_set ?_ (IsS61.ge HI0.out))|exact HB.out));rintro e w22 ⟨rfl,hi,hb,hk⟩;have n0_:=Aside0.mk (KeepBut.trans kk hk (.inl rfl));have n1_:=Aside0.mk (hb);have n2_:=Aside0.mk (hi);clear HK;clear HB;clear HI0;have HK:=n0_;have HB:=n1_;have HI0:=n2_;clear n0_ n1_ n2_;(try clear hb);(try clear hb2);(try clear hk);(try clear hi);(try clear A18)));go_upto_region 7 with(first|(go_at_call 33;(with_reducible refine(stowageref13_Reader_skip.calls kj1 g x1000_1 x1001_1 x1002_1 t198 t199 t200 t201 w0 _ ?side1 ?side2 A15.out).mono ?_);(case side1=>repeat (first|(with_reducible first|exact HI0.out|apply IsS61.alloc|apply IsS61.drewN|apply IsS61.drew|apply IsS61.set_0|apply IsS61.set_1|apply IsS61.set_2)|exact HI0.out));(case side2=>repeat (first|(with_reducible first|exact HB.out|apply below_alloc|apply pw_below_drewN|apply below_drew1|refine below_set ?_ (IsS61.ge HI0.out))|exact HB.out));rintro e w20 ⟨rfl,hi,hb,hk⟩;have n0_:=Aside0.mk (KeepBut.trans kk hk (.inl rfl));have n1_:=Aside0.mk (hb);have n2_:=Aside0.mk (hi);clear HK;clear HB;clear HI0;have HK:=n0_;have HB:=n1_;have HI0:=n2_;clear n0_ n1_ n2_;(try clear hb);(try clear hb2);(try clear hk);(try clear hi);(try clear A15))|(go_at_call 66;(with_reducible refine(stowageref13_Reader_eat.calls g t199 t200 t201 (⟨#[61]⟩ : ByteArray) true t203 t204 t205 w0 _ ?side1 ?side2 A16.out).mono ?_);(case side1=>repeat (first|(with_reducible first|exact HI0.out|apply IsS61.alloc|apply IsS61.drewN|apply IsS61.drew|apply IsS61.set_0|apply IsS61.set_1|apply IsS61.set_2)|exact HI0.out));(case side2=>repeat (first|(with_reducible first|exact HB.out|apply below_alloc|apply pw_below_drewN|apply below_drew1|refine below_set ?_ (IsS61.ge HI0.out))|exact HB.out));rintro e w21 ⟨rfl,hi,hb,hk⟩;have n0_:=Aside0.mk (KeepBut.trans kk hk (.inl rfl));have n1_:=Aside0.mk (hb);have n2_:=Aside0.mk (hi);clear HK;clear HB;clear HI0;have HK:=n0_;have HB:=n1_;have HI0:=n2_;clear n0_ n1_ n2_;(try clear hb);(try clear hb2);(try clear hk);(try clear hi))|(go_at_call 33;(with_reducible refine(stowageref13_Reader_skip.calls kj1 g t203 t204 t205 t206 t207 t208 t209 w0 _ ?side1 ?side2 A18.out).mono ?_);(case side1=>repeat (first|(with_reducible first|exact HI0.out|apply IsS61.alloc|apply IsS61.drewN|apply IsS61.drew|apply IsS61.set_0|apply IsS61.set_1|apply IsS61.set_2)|exact HI0.out));(case side2=>repeat (first|(with_reducible first|exact HB.out|apply below_alloc|apply pw_below_drewN|apply below_drew1|refine below_set ?_ (IsS61.ge HI0.out))|exact HB.out));rintro e w22 ⟨rfl,hi,hb,hk⟩;have n0_:=Aside0.mk (KeepBut.trans kk hk (.inl rfl));have n1_:=Aside0.mk (hb);have n2_:=Aside0.mk (hi);clear HK;clear HB;clear HI0;have HK:=n0_;have HB:=n1_;have HI0:=n2_;clear n0_ n1_ n2_;(try clear hb);(try clear hb2);(try clear hk);(try clear hi);(try clear A18))))
     (try simp only [Act.put,List.setIfInBounds_toArray,List.set_cons_zero,List.set_cons_succ])
     go_cut [56] (fun v56 wc=>∃ (kq:Nat) (x56_18:Bool),v56 = .bool x56_18∧Aside0 (stowageref13_Reader_attribute.j1 kq x56_18 t207 t208 t209=some (r1,r2,r3,r4))∧Aside0 (kq≤kj1)∧Aside0 (IsS61 w0 wc g t207 t208 t209)∧Aside0 (KeepBut w wc g none)∧Aside0 (Below w0.heap.size w0 wc))
     case first=>
      have H:=HC19.out
      clear HC19
      replace H:=itO H
      rcases H with⟨c23,H⟩|⟨c23,H⟩
      ·skip
       have c23b0:decide ((t207.size:Int)≤t208)=true:=decide_eq_true c23
       clear c23
       (first|rw [c23b0]|(simp only [i64_w,i32_w];rw [c23b0])|skip)
       have H':=Aside0.mk H
       clear H
       obtain⟨HGz24,hgz24⟩:=HI0.out
       have hcz24_0:=cellS61_0 HGz24
       have hcz24_1:=cellS61_1 HGz24
       have hcz24_2:=cellS61_2 HGz24
       have hfz24_0:=blk_frozen HGz24 0
       have hfz24_1:=blk_frozen HGz24 1
       have hfz24_2:=blk_frozen HGz24 2
       clear HGz24 hgz24
       go_wp2
       repeat (go_quiet (fail);try go_wp2)
       go_meet
       case rel=>exact⟨_,(true),(by first|rfl|(simp;done)|(simp [*];done)),H',⟨by have:=HJ1.out;first|omega|exact Nat.le_refl _⟩,⟨by repeat (first|(with_reducible first|exact HI0.out|apply IsS61.alloc|apply IsS61.drewN|apply IsS61.drew|apply IsS61.set_0|apply IsS61.set_1|apply IsS61.set_2)|exact HI0.out)⟩,⟨kk⟩,⟨by repeat (first|(with_reducible first|exact HB.out|apply below_alloc|apply pw_below_drewN|apply below_drew1|refine below_set ?_ (IsS61.ge HI0.out))|exact HB.out)⟩⟩
      ·skip
       have c23b0:decide ((t207.size:Int)≤t208)=false:=decide_eq_false c23
       clear c23
       (first|rw [c23b0]|(simp only [i64_w,i32_w];rw [c23b0])|skip)
       replace H:=itO H
       rcases H with⟨c25,H⟩|⟨c25,H⟩
       ·skip
        have c25b0:decide (0≤t208)=true:=decide_eq_true c25
        clear c25
        replace H:=itO H
        rcases H with⟨c26,H⟩|⟨c26,H⟩
        ·skip
         have c26b0:decide (t208<(t207.size:Int))=true:=decide_eq_true c26
         clear c26
         replace H:=itO H
         rcases H with⟨c28,H⟩|⟨c28,H⟩
         ·skip
          have c28b0:((bt t207 t208) == 34)=true:=beq_iff_eq.mpr c28
          have c28b1:((bt t207 t208) != 34)=false:=bne_eq_false_iff_eq.mpr c28
          clear c28
          have H':=Aside0.mk H
          clear H
          obtain⟨HGz29,hgz29⟩:=HI0.out
          have hcz29_0:=cellS61_0 HGz29
          have hcz29_1:=cellS61_1 HGz29
          have hcz29_2:=cellS61_2 HGz29
          have hfz29_0:=blk_frozen HGz29 0
          have hfz29_1:=blk_frozen HGz29 1
          have hfz29_2:=blk_frozen HGz29 2
          clear HGz29 hgz29
          have p27:0≤(t208:Int):=of_decide_eq_true (by first|(with_reducible assumption)|assumption)
          have q27:t208<(t207.size:Int):=of_decide_eq_true (by first|(with_reducible assumption)|assumption)
          have hx27:=bt_at t207 t208
          replace p27:=eq_true p27
          replace q27:=eq_true q27
          go_wp2
          repeat (go_quiet (fail);try go_wp2)
          go_meet
          case rel=>exact⟨_,(false),(by first|rfl|(simp;done)|(simp [*];done)),H',⟨by have:=HJ1.out;first|omega|exact Nat.le_refl _⟩,⟨by repeat (first|(with_reducible first|exact HI0.out|apply IsS61.alloc|apply IsS61.drewN|apply IsS61.drew|apply IsS61.set_0|apply IsS61.set_1|apply IsS61.set_2)|exact HI0.out)⟩,⟨kk⟩,⟨by repeat (first|(with_reducible first|exact HB.out|apply below_alloc|apply pw_below_drewN|apply below_drew1|refine below_set ?_ (IsS61.ge HI0.out))|exact HB.out)⟩⟩
         ·skip
          have c28b0:((bt t207 t208) == 34)=false:=beq_eq_false_iff_ne.mpr c28
          have c28b1:((bt t207 t208) != 34)=true:=bne_iff_ne.mpr c28
          have H':=Aside0.mk H
          clear H
          obtain⟨HGz31,hgz31⟩:=HI0.out
          have hcz31_0:=cellS61_0 HGz31
          have hcz31_1:=cellS61_1 HGz31
          have hcz31_2:=cellS61_2 HGz31
          have hfz31_0:=blk_frozen HGz31 0
          have hfz31_1:=blk_frozen HGz31 1
          have hfz31_2:=blk_frozen HGz31 2
          clear HGz31 hgz31
          have p27:0≤(t208:Int):=of_decide_eq_true (by first|(with_reducible assumption)|assumption)
          have q27:t208<(t207.size:Int):=of_decide_eq_true (by first|(with_reducible assumption)|assumption)
          have hx27:=bt_at t207 t208
          replace p27:=eq_true p27
          replace q27:=eq_true q27
          have p30:0≤(t208:Int):=of_decide_eq_true (by first|(with_reducible assumption)|assumption)
          have q30:t208<(t207.size:Int):=of_decide_eq_true (by first|(with_reducible assumption)|assumption)
          have hx30:=bt_at t207 t208
          replace p30:=eq_true p30
          replace q30:=eq_true q30
          go_wp2
          repeat (go_quiet (fail);try go_wp2)
          go_meet
          case rel=>exact⟨_,(((bt t207 t208) != 39)),(by first|rfl|(simp;done)|(simp [*];done)),H',⟨by have:=HJ1.out;first|omega|exact Nat.le_refl _⟩,⟨by repeat (first|(with_reducible first|exact HI0.out|apply IsS61.alloc|apply IsS61.drewN|apply IsS61.drew|apply IsS61.set_0|apply IsS61.set_1|apply IsS61.set_2)|exact HI0.out)⟩,⟨kk⟩,⟨by repeat (first|(with_reducible first|exact HB.out|apply below_alloc|apply pw_below_drewN|apply below_drew1|refine below_set ?_ (IsS61.ge HI0.out))|exact HB.out)⟩⟩
        ·exact absurd H (by simp)
       ·exact absurd H (by simp)
     case rest=>
      clear HC19
      try clear c1
      try clear c2
      try clear p2
      try clear q2
      try clear hx2
      try clear p3
      try clear q3
      try clear hx3
      try clear c4
      try clear c4b0
      try clear c4b1
      try clear c6
      try clear c7
      try clear c14
      try clear c17
      try clear c23
      try clear c23b0
      try clear c25
      try clear c25b0
      try clear c26
      try clear c26b0
      try clear p27
      try clear q27
      try clear hx27
      try clear c28
      try clear c28b0
      try clear c28b1
      try clear p30
      try clear q30
      try clear hx30
      try clear hcz24_0
      try clear hcz24_1
      try clear hcz24_2
      try clear hcz29_0
      try clear hcz29_1
      try clear hcz29_2
      try clear hcz31_0
      try clear hcz31_1
      try clear hcz31_2
      try clear hfz24_0
      try clear hfz24_1
      try clear hfz24_2
      try clear hfz29_0
      try clear hfz29_1
      try clear hfz29_2
      try clear hfz31_0
      try clear hfz31_1
      try clear hfz31_2
      try clear p2
      try clear p27
      try clear p30
      try clear q27
      try clear q30
      obtain⟨kq,x56_18,rfl,HA,HJ18,HI0,HK,HB⟩:=hcut
      cases kq with
      | zero=>exact absurd HA.out (by simp [stowageref13_Reader_attribute.j1])
      | succ kj18=>
       have H:=HA.out
       clear HA
       simp only [stowageref13_Reader_attribute.j1] at H
       by_cases c32:x56_18=true
       ·subst c32
        replace H:=itT H
        simp only [Option.some.injEq,Prod.mk.injEq] at H
        obtain⟨rfl,rfl,rfl,rfl⟩:=H
        go_wp2
        repeat (go_quiet (fail);try go_wp2)
        go_ret
        exact⟨by first|rfl|(simp [errW_none,errW_some] <;> rfl)|(simp [*,errW_none,errW_some] <;> rfl),by repeat (first|(with_reducible first|exact HI0.out|apply IsS61.alloc|apply IsS61.drewN|apply IsS61.drew|apply IsS61.set_0|apply IsS61.set_1|apply IsS61.set_2)|exact HI0.out),by repeat (first|(with_reducible first|exact HB.out|apply below_alloc|apply pw_below_drewN|apply below_drew1|refine below_set ?_ (IsS61.ge HI0.out))|exact HB.out),kk⟩
       ·replace c32:=Bool.eq_false_iff.mpr c32
        subst c32
        replace H:=itF H
        replace H:=itO H
        rcases H with⟨c33,H⟩|⟨c33,H⟩
        ·skip
         have c33b0:decide (0≤t208)=true:=decide_eq_true c33
         clear c33
         replace H:=itO H
         rcases H with⟨c34,H⟩|⟨c34,H⟩
         ·skip
          have c34b0:decide (t208<(t207.size:Int))=true:=decide_eq_true c34
          clear c34
          have H':=Aside0.mk H
          clear H
          obtain⟨HGz36,hgz36⟩:=HI0.out
          have hcz36_0:=cellS61_0 HGz36
          have hcz36_1:=cellS61_1 HGz36
          have hcz36_2:=cellS61_2 HGz36
          have hfz36_0:=blk_frozen HGz36 0
          have hfz36_1:=blk_frozen HGz36 1
          have hfz36_2:=blk_frozen HGz36 2
          clear HGz36 hgz36
          have p35:0≤(t208:Int):=of_decide_eq_true (by first|(with_reducible assumption)|assumption)
          have q35:t208<(t207.size:Int):=of_decide_eq_true (by first|(with_reducible assumption)|assumption)
          have hx35:=bt_at t207 t208
          replace p35:=eq_true p35
          replace q35:=eq_true q35
          go_wp2
          repeat (go_quiet (fail);try go_wp2)
          go_loopg [] kj18 (fun kq w'=>∃ (x1001_3:Int),Aside0 (stowageref13_Reader_attribute.l0 kq (bt t207 t208) t207 x1001_3 t209=some (r1,r2,r3,r4))∧Aside0 (kq≤kj18)∧Aside0 (IsS61 w0 w' g t207 x1001_3 t209)∧Aside0 (KeepBut w w' g none)∧Aside0 (Below w0.heap.size w0 w'))
          case atStart=>exact⟨(wrap64 (t208+1)),H',⟨Nat.le_refl _⟩,⟨by repeat (first|(with_reducible first|exact HI0.out|apply IsS61.alloc|apply IsS61.drewN|apply IsS61.drew|apply IsS61.set_0|apply IsS61.set_1|apply IsS61.set_2)|exact HI0.out)⟩,⟨kk⟩,⟨by repeat (first|(with_reducible first|exact HB.out|apply below_alloc|apply pw_below_drewN|apply below_drew1|refine below_set ?_ (IsS61.ge HI0.out))|exact HB.out)⟩⟩
          case round=>
           clear H'
           try clear c1
           try clear c2
           try clear p2
           try clear q2
           try clear hx2
           try clear c3
           try clear p3
           try clear q3
           try clear hx3
           try clear c4
           try clear c4b0
           try clear c4b1
           try clear c6
           try clear p6
           try clear c7
           try clear c14
           try clear c17
           try clear c23
           try clear c23b0
           try clear c25
           try clear c25b0
           try clear c26
           try clear c26b0
           try clear p27
           try clear q27
           try clear hx27
           try clear c28
           try clear c28b0
           try clear c28b1
           try clear p30
           try clear q30
           try clear hx30
           try clear c32
           try clear c33
           try clear c33b0
           try clear c34
           try clear c34b0
           try clear p35
           try clear q35
           try clear hx35
           try clear hcz24_0
           try clear hcz24_1
           try clear hcz24_2
           try clear hcz29_0
           try clear hcz29_1
           try clear hcz29_2
           try clear hcz31_0
           try clear hcz31_1
           try clear hcz31_2
           try clear hcz36_0
           try clear hcz36_1
           try clear hcz36_2
           try clear hfz24_0
           try clear hfz24_1
           try clear hfz24_2
           try clear hfz29_0
           try clear hfz29_1
           try clear hfz29_2
           try clear hfz31_0
           try clear hfz31_1
           try clear hfz31_2
           try clear hfz36_0
           try clear hfz36_1
           try clear hfz36_2
           try clear p2
           try clear p27
           try clear p3
           try clear p30
           try clear p35
           try clear q2
           try clear q27
           try clear q3
           try clear q30
           try clear q35
           obtain⟨x1001_3,HA,HK3,HI0,HK,HB⟩:=hrel
           cases gk with
           | zero=>exact absurd HA.out (by simp [stowageref13_Reader_attribute.l0])
           | succ k3=>
            have H:=HA.out
            clear HA
            simp only [stowageref13_Reader_attribute.l0] at H
            have HC37:=Aside0.mk H
            clear H
            go_upto_region 11 with(fail)
            repeat (go_quiet (fail);go_upto_region 11 with(fail))
            go_cut [95] (fun v95 wc=>∃ (kq:Nat) (x95_36:Bool),v95 = .bool x95_36∧Aside0 (stowageref13_Reader_attribute.j3 kq (bt t207 t208) x95_36 t207 x1001_3 t209=some (r1,r2,r3,r4))∧Aside0 (kq≤k3)∧Aside0 (IsS61 w0 wc g t207 x1001_3 t209)∧Aside0 (KeepBut w wc g none)∧Aside0 (Below w0.heap.size w0 wc))
            case first=>
             have H:=HC37.out
             clear HC37
             replace H:=itO H
             rcases H with⟨c38,H⟩|⟨c38,H⟩
             ·skip
              have c38b0:decide (x1001_3<(t207.size:Int))=true:=decide_eq_true c38
              clear c38
              (first|rw [c38b0]|(simp only [i64_w,i32_w];rw [c38b0])|skip)
              replace H:=itO H
              rcases H with⟨c39,H⟩|⟨c39,H⟩
              ·skip
               have c39b0:decide (0≤x1001_3)=true:=decide_eq_true c39
               clear c39
               have H':=Aside0.mk H
               clear H
               obtain⟨HGz41,hgz41⟩:=HI0.out
               have hcz41_0:=cellS61_0 HGz41
               have hcz41_1:=cellS61_1 HGz41
               have hcz41_2:=cellS61_2 HGz41
               have hfz41_0:=blk_frozen HGz41 0
               have hfz41_1:=blk_frozen HGz41 1
               have hfz41_2:=blk_frozen HGz41 2
               clear HGz41 hgz41
               have p40:0≤(x1001_3:Int):=of_decide_eq_true (by first|(with_reducible assumption)|assumption)
               have q40:x1001_3<(t207.size:Int):=of_decide_eq_true (by first|(with_reducible assumption)|assumption)
               have hx40:=bt_at t207 x1001_3
               replace p40:=eq_true p40
               replace q40:=eq_true q40
               go_wp2
               repeat (go_quiet (fail);try go_wp2)
               go_meet
               case rel=>exact⟨_,(((bt t207 x1001_3) != (bt t207 t208))),(by first|rfl|(simp;done)|(simp [*];done)),H',⟨by have:=HJ1.out;have:=HJ18.out;have:=HK3.out;first|omega|exact Nat.le_refl _⟩,⟨by repeat (first|(with_reducible first|exact HI0.out|apply IsS61.alloc|apply IsS61.drewN|apply IsS61.drew|apply IsS61.set_0|apply IsS61.set_1|apply IsS61.set_2)|exact HI0.out)⟩,⟨kk⟩,⟨by repeat (first|(with_reducible first|exact HB.out|apply below_alloc|apply pw_below_drewN|apply below_drew1|refine below_set ?_ (IsS61.ge HI0.out))|exact HB.out)⟩⟩
              ·exact absurd H (by simp)
             ·skip
              have c38b0:decide (x1001_3<(t207.size:Int))=false:=decide_eq_false c38
              clear c38
              (first|rw [c38b0]|(simp only [i64_w,i32_w];rw [c38b0])|skip)
              have H':=Aside0.mk H
              clear H
              obtain⟨HGz42,hgz42⟩:=HI0.out
              have hcz42_0:=cellS61_0 HGz42
              have hcz42_1:=cellS61_1 HGz42
              have hcz42_2:=cellS61_2 HGz42
              have hfz42_0:=blk_frozen HGz42 0
              have hfz42_1:=blk_frozen HGz42 1
              have hfz42_2:=blk_frozen HGz42 2
              clear HGz42 hgz42
              go_wp2
              repeat (go_quiet (fail);try go_wp2)
              go_meet
              case rel=>exact⟨_,(false),(by first|rfl|(simp;done)|(simp [*];done)),H',⟨by have:=HJ1.out;have:=HJ18.out;have:=HK3.out;first|omega|exact Nat.le_refl _⟩,⟨by repeat (first|(with_reducible first|exact HI0.out|apply IsS61.alloc|apply IsS61.drewN|apply IsS61.drew|apply IsS61.set_0|apply IsS61.set_1|apply IsS61.set_2)|exact HI0.out)⟩,⟨kk⟩,⟨by repeat (first|(with_reducible first|exact HB.out|apply below_alloc|apply pw_below_drewN|apply below_drew1|refine below_set ?_ (IsS61.ge HI0.out))|exact HB.out)⟩⟩
            case rest=>
             clear HC37
             try clear c1
             try clear c2
             try clear p2
             try clear q2
             try clear hx2
             try clear c3
             try clear p3
             try clear q3
             try clear hx3
             try clear c4
             try clear c4b0
             try clear c4b1
             try clear p4
             try clear q4
             try clear hx4
             try clear c6
             try clear p6
             try clear c7
             try clear c14
             try clear c17
             try clear c23
             try clear c23b0
             try clear c25
             try clear c25b0
             try clear c26
             try clear c26b0
             try clear p27
             try clear q27
             try clear hx27
             try clear c28
             try clear c28b0
             try clear c28b1
             try clear p30
             try clear q30
             try clear hx30
             try clear c32
             try clear c33
             try clear c33b0
             try clear c34
             try clear c34b0
             try clear p35
             try clear q35
             try clear hx35
             try clear c38
             try clear c38b0
             try clear c39
             try clear c39b0
             try clear p40
             try clear q40
             try clear hx40
             try clear hcz24_0
             try clear hcz24_1
             try clear hcz24_2
             try clear hcz29_0
             try clear hcz29_1
             try clear hcz29_2
             try clear hcz31_0
             try clear hcz31_1
             try clear hcz31_2
             try clear hcz36_0
             try clear hcz36_1
             try clear hcz36_2
             try clear hcz41_0
             try clear hcz41_1
             try clear hcz41_2
             try clear hcz42_0
             try clear hcz42_1
             try clear hcz42_2
             try clear hfz24_0
             try clear hfz24_1
             try clear hfz24_2
             try clear hfz29_0
             try clear hfz29_1
             try clear hfz29_2
             try clear hfz31_0
             try clear hfz31_1
             try clear hfz31_2
             try clear hfz36_0
             try clear hfz36_1
             try clear hfz36_2
             try clear hfz41_0
             try clear hfz41_1
             try clear hfz41_2
             try clear hfz42_0
             try clear hfz42_1
             try clear hfz42_2
             try clear p2
             try clear p27
             try clear p3
             try clear p30
             try clear p35
             try clear p40
             try clear p6
             try clear q2
             try clear q27
             try clear q3
             try clear q30
             try clear q35
             try clear q40
             obtain⟨kq,x95_36,rfl,HA,HJ36,HI0,HK,HB⟩:=hcut
             cases kq with
             | zero=>exact absurd HA.out (by simp [stowageref13_Reader_attribute.j3])
             | succ kj36=>
              have H:=HA.out
              clear HA
              simp only [stowageref13_Reader_attribute.j3] at H
              by_cases c43:x95_36=true
              ·subst c43
               replace H:=itT H
               replace H:=itO H
               rcases H with⟨c44,H⟩|⟨c44,H⟩
               ·skip
                have c44b0:decide (0≤x1001_3)=true:=decide_eq_true c44
                clear c44
                replace H:=itO H
                rcases H with⟨c45,H⟩|⟨c45,H⟩
                ·skip
                 have c45b0:decide (x1001_3<(t207.size:Int))=true:=decide_eq_true c45
                 clear c45
                 replace H:=itO H
                 rcases H with⟨c47,H⟩|⟨c47,H⟩
                 ·skip
                  have c47b0:((bt t207 x1001_3) == 60)=true:=beq_iff_eq.mpr c47
                  have c47b1:((bt t207 x1001_3) != 60)=false:=bne_eq_false_iff_eq.mpr c47
                  clear c47
                  simp only [Option.some.injEq,Prod.mk.injEq] at H
                  obtain⟨rfl,rfl,rfl,rfl⟩:=H
                  obtain⟨HGz48,hgz48⟩:=HI0.out
                  have hcz48_0:=cellS61_0 HGz48
                  have hcz48_1:=cellS61_1 HGz48
                  have hcz48_2:=cellS61_2 HGz48
                  have hfz48_0:=blk_frozen HGz48 0
                  have hfz48_1:=blk_frozen HGz48 1
                  have hfz48_2:=blk_frozen HGz48 2
                  clear HGz48 hgz48
                  have p46:0≤(x1001_3:Int):=of_decide_eq_true (by first|(with_reducible assumption)|assumption)
                  have q46:x1001_3<(t207.size:Int):=of_decide_eq_true (by first|(with_reducible assumption)|assumption)
                  have hx46:=bt_at t207 x1001_3
                  replace p46:=eq_true p46
                  replace q46:=eq_true q46
                  go_wp2
                  repeat (go_quiet (fail);try go_wp2)
                  go_ret
                  exact⟨by first|rfl|(simp [errW_none,errW_some] <;> rfl)|(simp [*,errW_none,errW_some] <;> rfl),by repeat (first|(with_reducible first|exact HI0.out|apply IsS61.alloc|apply IsS61.drewN|apply IsS61.drew|apply IsS61.set_0|apply IsS61.set_1|apply IsS61.set_2)|exact HI0.out),by repeat (first|(with_reducible first|exact HB.out|apply below_alloc|apply pw_below_drewN|apply below_drew1|refine below_set ?_ (IsS61.ge HI0.out))|exact HB.out),kk⟩
                 ·skip
                  have c47b0:((bt t207 x1001_3) == 60)=false:=beq_eq_false_iff_ne.mpr c47
                  have c47b1:((bt t207 x1001_3) != 60)=true:=bne_iff_ne.mpr c47
                  replace H:=itO H
                  rcases H with⟨c50,H⟩|⟨c50,H⟩
                  ·skip
                   have c50b0:((bt t207 x1001_3) == 38)=true:=beq_iff_eq.mpr c50
                   have c50b1:((bt t207 x1001_3) != 38)=false:=bne_eq_false_iff_eq.mpr c50
                   clear c50
                   simp only [Option.some.injEq,Prod.mk.injEq] at H
                   obtain⟨rfl,rfl,rfl,rfl⟩:=H
                   obtain⟨HGz51,hgz51⟩:=HI0.out
                   have hcz51_0:=cellS61_0 HGz51
                   have hcz51_1:=cellS61_1 HGz51
                   have hcz51_2:=cellS61_2 HGz51
                   have hfz51_0:=blk_frozen HGz51 0
                   have hfz51_1:=blk_frozen HGz51 1
                   have hfz51_2:=blk_frozen HGz51 2
                   clear HGz51 hgz51
                   have p46:0≤(x1001_3:Int):=of_decide_eq_true (by first|(with_reducible assumption)|assumption)
                   have q46:x1001_3<(t207.size:Int):=of_decide_eq_true (by first|(with_reducible assumption)|assumption)
                   have hx46:=bt_at t207 x1001_3
                   replace p46:=eq_true p46
                   replace q46:=eq_true q46
                   have p49:0≤(x1001_3:Int):=of_decide_eq_true (by first|(with_reducible assumption)|assumption)
                   have q49:x1001_3<(t207.size:Int):=of_decide_eq_true (by first|(with_reducible assumption)|assumption)
                   have hx49:=bt_at t207 x1001_3
                   replace p49:=eq_true p49
                   replace q49:=eq_true q49
                   go_wp2
                   repeat (go_quiet (fail);try go_wp2)
                   go_ret
                   exact⟨by first|rfl|(simp [errW_none,errW_some] <;> rfl)|(simp [*,errW_none,errW_some] <;> rfl),by repeat (first|(with_reducible first|exact HI0.out|apply IsS61.alloc|apply IsS61.drewN|apply IsS61.drew|apply IsS61.set_0|apply IsS61.set_1|apply IsS61.set_2)|exact HI0.out),by repeat (first|(with_reducible first|exact HB.out|apply below_alloc|apply pw_below_drewN|apply below_drew1|refine below_set ?_ (IsS61.ge HI0.out))|exact HB.out),kk⟩
                  ·skip
                   have c50b0:((bt t207 x1001_3) == 38)=false:=beq_eq_false_iff_ne.mpr c50
                   have c50b1:((bt t207 x1001_3) != 38)=true:=bne_iff_ne.mpr c50
                   have H':=Aside0.mk H
                   clear H
                   obtain⟨HGz52,hgz52⟩:=HI0.out
                   have hcz52_0:=cellS61_0 HGz52
                   have hcz52_1:=cellS61_1 HGz52
                   have hcz52_2:=cellS61_2 HGz52
                   have hfz52_0:=blk_frozen HGz52 0
                   have hfz52_1:=blk_frozen HGz52 1
                   have hfz52_2:=blk_frozen HGz52 2
                   clear HGz52 hgz52
                   have p46:0≤(x1001_3:Int):=of_decide_eq_true (by first|(with_reducible assumption)|assumption)
                   have q46:x1001_3<(t207.size:Int):=of_decide_eq_true (by first|(with_reducible assumption)|assumption)
                   have hx46:=bt_at t207 x1001_3
                   replace p46:=eq_true p46
                   replace q46:=eq_true q46
                   have p49:0≤(x1001_3:Int):=of_decide_eq_true (by first|(with_reducible assumption)|assumption)
                   have q49:x1001_3<(t207.size:Int):=of_decide_eq_true (by first|(with_reducible assumption)|assumption)
                   have hx49:=bt_at t207 x1001_3
                   replace p49:=eq_true p49
                   replace q49:=eq_true q49
                   go_wp2
                   repeat (go_quiet (fail);try go_wp2)
                   go_roundg kj36
                   case measure=>have:=HJ1.out;have:=HJ18.out;have:=HK3.out;have:=HJ36.out;omega
                   case rel=>exact⟨(wrap64 (x1001_3+1)),H',⟨by have:=HJ1.out;have:=HJ18.out;have:=HK3.out;have:=HJ36.out;omega⟩,⟨by repeat (first|(with_reducible first|exact HI0.out|apply IsS61.alloc|apply IsS61.drewN|apply IsS61.drew|apply IsS61.set_0|apply IsS61.set_1|apply IsS61.set_2)|exact HI0.out)⟩,⟨kk⟩,⟨by repeat (first|(with_reducible first|exact HB.out|apply below_alloc|apply pw_below_drewN|apply below_drew1|refine below_set ?_ (IsS61.ge HI0.out))|exact HB.out)⟩⟩
                ·exact absurd H (by simp)
               ·exact absurd H (by simp)
              ·replace c43:=Bool.eq_false_iff.mpr c43
               subst c43
               replace H:=itF H
               simp only [Option.some.injEq,Prod.mk.injEq] at H
               obtain⟨rfl,rfl,rfl,rfl⟩:=H
               obtain⟨HGz53,hgz53⟩:=HI0.out
               have hcz53_0:=cellS61_0 HGz53
               have hcz53_1:=cellS61_1 HGz53
               have hcz53_2:=cellS61_2 HGz53
               have hfz53_0:=blk_frozen HGz53 0
               have hfz53_1:=blk_frozen HGz53 1
               have hfz53_2:=blk_frozen HGz53 2
               clear HGz53 hgz53
               go_wp2
               repeat (go_quiet (fail);try go_wp2)
               go_ret
               exact⟨by first|rfl|(simp [errW_none,errW_some] <;> rfl)|(simp [*,errW_none,errW_some] <;> rfl),by repeat (first|(with_reducible first|exact HI0.out|apply IsS61.alloc|apply IsS61.drewN|apply IsS61.drew|apply IsS61.set_0|apply IsS61.set_1|apply IsS61.set_2)|exact HI0.out),by repeat (first|(with_reducible first|exact HB.out|apply below_alloc|apply pw_below_drewN|apply below_drew1|refine below_set ?_ (IsS61.ge HI0.out))|exact HB.out),kk⟩
         ·exact absurd H (by simp)
        ·exact absurd H (by simp)
    ·replace c17:=Bool.eq_false_iff.mpr c17
     subst c17
     replace H:=itF H
     simp only [Option.some.injEq,Prod.mk.injEq] at H
     obtain⟨rfl,rfl,rfl,rfl⟩:=H
     go_wp2_with (first|(go_at_call 33;(with_reducible refine(stowageref13_Reader_skip.calls kj1 g x1000_1 x1001_1 x1002_1 t198 t199 t200 t201 w0 _ ?side1 ?side2 A15.out).mono ?_);(case side1=>repeat (first|(with_reducible first|exact HI0.out|apply IsS61.alloc|apply IsS61.drewN|apply IsS61.drew|apply IsS61.set_0|apply IsS61.set_1|apply IsS61.set_2)|exact HI0.out));(case side2=>repeat (first|(with_reducible first|exact HB.out|apply below_alloc|apply pw_below_drewN|apply below_drew1|refine below_set ?_ (IsS61.ge HI0.out))|exact HB.out));rintro e w54 ⟨rfl,hi,hb,hk⟩;have n0_:=Aside0.mk (KeepBut.trans kk hk (.inl rfl));have n1_:=Aside0.mk (hb);have n2_:=Aside0.mk (hi);clear HK;clear HB;clear HI0;have HK:=n0_;have HB:=n1_;have HI0:=n2_;clear n0_ n1_ n2_;(try clear hb);(try clear hb2);(try clear hk);(try clear hi))|(go_at_call 66;(with_reducible refine(stowageref13_Reader_eat.calls g t199 t200 t201 (⟨#[61]⟩ : ByteArray) false t203 t204 t205 w0 _ ?side1 ?side2 A16.out).mono ?_);(case side1=>repeat (first|(with_reducible first|exact HI0.out|apply IsS61.alloc|apply IsS61.drewN|apply IsS61.drew|apply IsS61.set_0|apply IsS61.set_1|apply IsS61.set_2)|exact HI0.out));(case side2=>repeat (first|(with_reducible first|exact HB.out|apply below_alloc|apply pw_below_drewN|apply below_drew1|refine below_set ?_ (IsS61.ge HI0.out))|exact HB.out));rintro e w55 ⟨rfl,hi,hb,hk⟩;have n0_:=Aside0.mk (KeepBut.trans kk hk (.inl rfl));have n1_:=Aside0.mk (hb);have n2_:=Aside0.mk (hi);clear HK;clear HB;clear HI0;have HK:=n0_;have HB:=n1_;have HI0:=n2_;clear n0_ n1_ n2_;(try clear hb);(try clear hb2);(try clear hk);(try clear hi)))
     repeat (go_quiet (first|(go_at_call 33;(with_reducible refine(stowageref13_Reader_skip.calls kj1 g x1000_1 x1001_1 x1002_1 t198 t199 t200 t201 w0 _ ?side1 ?side2 A15.out).mono ?_);(case side1=>repeat (first|(with_reducible first|exact HI0.out|apply IsS61.alloc|apply IsS61.drewN|apply IsS61.drew|apply IsS61.set_0|apply IsS61.set_1|apply IsS61.set_2)|exact HI0.out));(case side2=>repeat (first|(with_reducible first|exact HB.out|apply below_alloc|apply pw_below_drewN|apply below_drew1|refine below_set ?_ (IsS61.ge HI0.out))|exact HB.out));rintro e w54 ⟨rfl,hi,hb,hk⟩;have n0_:=Aside0.mk (KeepBut.trans kk hk (.inl rfl));have n1_:=Aside0.mk (hb);have n2_:=Aside0.mk (hi);clear HK;clear HB;clear HI0;have HK:=n0_;have HB:=n1_;have HI0:=n2_;clear n0_ n1_ n2_;(try clear hb);(try clear hb2);(try clear hk);(try clear hi))|(go_at_call 66;(with_reducible refine(stowageref13_Reader_eat.calls g t199 t200 t201 (⟨#[61]⟩ : ByteArray) false t203 t204 t205 w0 _ ?side1 ?side2 A16.out).mono ?_);(case side1=>repeat (first|(with_reducible first|exact HI0.out|apply IsS61.alloc|apply IsS61.drewN|apply IsS61.drew|apply IsS61.set_0|apply IsS61.set_1|apply IsS61.set_2)|exact HI0.out));(case side2=>repeat (first|(with_reducible first|exact HB.out|apply below_alloc|apply pw_below_drewN|apply below_drew1|refine below_set ?_ (IsS61.ge HI0.out))|exact HB.out));rintro e w55 ⟨rfl,hi,hb,hk⟩;have n0_:=Aside0.mk (KeepBut.trans kk hk (.inl rfl));have n1_:=Aside0.mk (hb);have n2_:=Aside0.mk (hi);clear HK;clear HB;clear HI0;have HK:=n0_;have HB:=n1_;have HI0:=n2_;clear n0_ n1_ n2_;(try clear hb);(try clear hb2);(try clear hk);(try clear hi)));try go_wp2_with (first|(go_at_call 33;(with_reducible refine(stowageref13_Reader_skip.calls kj1 g x1000_1 x1001_1 x1002_1 t198 t199 t200 t201 w0 _ ?side1 ?side2 A15.out).mono ?_);(case side1=>repeat (first|(with_reducible first|exact HI0.out|apply IsS61.alloc|apply IsS61.drewN|apply IsS61.drew|apply IsS61.set_0|apply IsS61.set_1|apply IsS61.set_2)|exact HI0.out));(case side2=>repeat (first|(with_reducible first|exact HB.out|apply below_alloc|apply pw_below_drewN|apply below_drew1|refine below_set ?_ (IsS61.ge HI0.out))|exact HB.out));rintro e w54 ⟨rfl,hi,hb,hk⟩;have n0_:=Aside0.mk (KeepBut.trans kk hk (.inl rfl));have n1_:=Aside0.mk (hb);have n2_:=Aside0.mk (hi);clear HK;clear HB;clear HI0;have HK:=n0_;have HB:=n1_;have HI0:=n2_;clear n0_ n1_ n2_;(try clear hb);(try clear hb2);(try clear hk);(try clear hi))|(go_at_call 66;(with_reducible refine(stowageref13_Reader_eat.calls g t199 t200 t201 (⟨#[61]⟩ : ByteArray) false t203 t204 t205 w0 _ ?side1 ?side2 A16.out).mono ?_);(case side1=>repeat (first|(with_reducible first|exact HI0.out|apply IsS61.alloc|apply IsS61.drewN|apply IsS61.drew|apply IsS61.set_0|apply IsS61.set_1|apply IsS61.set_2)|exact HI0.out));(case side2=>repeat (first|(with_reducible first|exact HB.out|apply below_alloc|apply pw_below_drewN|apply below_drew1|refine below_set ?_ (IsS61.ge HI0.out))|exact HB.out));rintro e w55 ⟨rfl,hi,hb,hk⟩;have n0_:=Aside0.mk (KeepBut.trans kk hk (.inl rfl));have n1_:=Aside0.mk (hb);have n2_:=Aside0.mk (hi);clear HK;clear HB;clear HI0;have HK:=n0_;have HB:=n1_;have HI0:=n2_;clear n0_ n1_ n2_;(try clear hb);(try clear hb2);(try clear hk);(try clear hi))))
     go_ret
     exact⟨by first|rfl|(simp [errW_none,errW_some] <;> rfl)|(simp [*,errW_none,errW_some] <;> rfl),by repeat (first|(with_reducible first|exact HI0.out|apply IsS61.alloc|apply IsS61.drewN|apply IsS61.drew|apply IsS61.set_0|apply IsS61.set_1|apply IsS61.set_2)|exact HI0.out),by repeat (first|(with_reducible first|exact HB.out|apply below_alloc|apply pw_below_drewN|apply below_drew1|refine below_set ?_ (IsS61.ge HI0.out))|exact HB.out),kk⟩
def stowageref3_Cut.l0:Nat→ByteArray→Int→Int→Option (ByteArray×ByteArray×Bool)
 | 0,_,_,_=>none
 | k+1,x0,x1,x7=>if x7<(x0.size:Int) then(if 0≤x7 then(if(bt x0 x7)=x1 then(if x7≤(x0.size:Int) then(if 0≤(wrap64 (x7+1)) then(if(wrap64 (x7+1))≤(x0.size:Int) then(some (x0.extract 0 (x7:Int).toNat,x0.extract ((wrap64 (x7+1)):Int).toNat x0.size,true)) else(none)) else(none)) else(none)) else(stowageref3_Cut.l0 k x0 x1 (wrap64 (x7+1)))) else(none)) else(some (x0,(⟨#[]⟩ : ByteArray),false))
def stowageref3_Cut.f (k:Nat) (a0:ByteArray) (a1:Int):Option (ByteArray×ByteArray×Bool):=stowageref3_Cut.l0 k a0 a1 0
theorem stowageref3_Cut.mono_l:∀ k,(∀ y0 y1 y2,LeO (stowageref3_Cut.l0 k y0 y1 y2) (stowageref3_Cut.l0 (k+1) y0 y1 y2))
 | 0=>fun _ _ _ r h=>by simp [stowageref3_Cut.l0] at h
 | k+1=>by
  have ih0:=stowageref3_Cut.mono_l k
  ·intro y0 y1 y2
   unfold stowageref3_Cut.l0
   repeat' first
   | (with_reducible exact ih0 _ _ _)
   | (with_reducible exact LeO.refl _)
   | (with_reducible exact LeO.none _)
   | (with_reducible refine LeO.ite ?_ ?_)
   | (with_reducible refine LeO.bind ?_ (fun _=>?_))
   | exact ih0 _ _ _
   | exact LeO.none _
   | refine LeO.ite ?_ ?_
   | refine LeO.bind ?_ (fun _=>?_)
theorem stowageref3_Cut.mono:∀ a0 a1 k,LeO (stowageref3_Cut.f k a0 a1) (stowageref3_Cut.f (k+1) a0 a1):=by
 intro a0 a1 k
 have ih0:=stowageref3_Cut.mono_l k
 unfold stowageref3_Cut.f
 repeat' first
   | (with_reducible exact ih0 _ _ _)
   | (with_reducible exact LeO.refl _)
   | (with_reducible exact LeO.none _)
   | (with_reducible refine LeO.ite ?_ ?_)
   | (with_reducible refine LeO.bind ?_ (fun _=>?_))
   | exact ih0 _ _ _
   | exact LeO.none _
   | refine LeO.ite ?_ ?_
   | refine LeO.bind ?_ (fun _=>?_)
theorem stowageref3_Cut.calls (k:Nat) (a0:ByteArray) (a1:Int) (r1:ByteArray) (r2:ByteArray) (r3:Bool) (w:World) (h:stowageref3_Cut.f k a0 a1=some (r1,r2,r3)) :
  Calls Tryd.prog 40 #[.string a0,.int .u8 a1] w fun e w'=>e = .returned (.tuple #[.string r1,.string r2,.bool r3])∧Drawn0 w w':=by
 unfold stowageref3_Cut.f at h
 have H:=h
 clear h
 have H':=Aside0.mk H
 clear H
 go_enter Tryd.func40,Tryd.ntmps40
 go_wp2
 repeat (go_quiet (fail);try go_wp2)
 go_loopg [7] k (fun kq v7 w'=>∃ (x7_1:Int),v7 = .int .i64 x7_1∧Aside0 (stowageref3_Cut.l0 kq a0 a1 x7_1=some (r1,r2,r3))∧Aside0 (kq≤k)∧Drawn0 w w')
 case atStart=>exact⟨(0),(by first|rfl|(simp;done)|(simp [*];done)),H',⟨Nat.le_refl _⟩,by repeat (first|exact Drawn0.refl _|apply Drawn0.step)⟩
 case round=>
  clear H'
  try clear p2
  obtain⟨x7_1,rfl,HA,HK1,⟨m1,rfl⟩⟩:=hrel
  cases gk with
  | zero=>exact absurd HA.out (by simp [stowageref3_Cut.l0])
  | succ k1=>
   have H:=HA.out
   clear HA
   simp only [stowageref3_Cut.l0] at H
   replace H:=itO H
   rcases H with⟨c3,H⟩|⟨c3,H⟩
   ·skip
    have c3b0:decide (x7_1<(a0.size:Int))=true:=decide_eq_true c3
    clear c3
    replace H:=itO H
    rcases H with⟨c4,H⟩|⟨c4,H⟩
    ·skip
     have c4b0:decide (0≤x7_1)=true:=decide_eq_true c4
     clear c4
     replace H:=itO H
     rcases H with⟨c6,H⟩|⟨c6,H⟩
     ·skip
      have c6b0:((bt a0 x7_1) == a1)=true:=beq_iff_eq.mpr c6
      have c6b1:((bt a0 x7_1) != a1)=false:=bne_eq_false_iff_eq.mpr c6
      clear c6
      have c7b0:=eq_true (of_decide_eq_true (by first|(with_reducible assumption)|assumption):0≤x7_1)
      replace H:=itO H
      rcases H with⟨c8,H⟩|⟨c8,H⟩
      ·skip
       have c8b0:=eq_true c8
       have c8b1:=decide_eq_true c8
       clear c8
       obtain⟨ji9,hji9⟩ : ∃ j_:Int,(wrap64 (x7_1+1))=j_:=⟨_,rfl⟩
       first|rw [hji9] at H|simp only [hji9] at H
       have hji9w:(IntKind.i64.wrap (x7_1+1))=ji9:=(i64_w _).trans hji9
       replace H:=itO H
       rcases H with⟨c10,H⟩|⟨c10,H⟩
       ·skip
        have c10b0:=eq_true c10
        have c10b1:=decide_eq_true c10
        clear c10
        replace H:=itO H
        rcases H with⟨c11,H⟩|⟨c11,H⟩
        ·skip
         have c11b0:=eq_true c11
         have c11b1:=decide_eq_true c11
         clear c11
         simp only [Option.some.injEq,Prod.mk.injEq] at H
         obtain⟨rfl,rfl,rfl⟩:=H
         have p5:0≤(x7_1:Int):=of_decide_eq_true (by first|(with_reducible assumption)|assumption)
         have q5:x7_1<(a0.size:Int):=of_decide_eq_true (by first|(with_reducible assumption)|assumption)
         have hx5:=bt_at a0 x7_1
         replace p5:=eq_true p5
         replace q5:=eq_true q5
         go_wp2
         repeat (go_quiet (fail);try go_wp2)
         go_ret3
         exact⟨by first|rfl|(simp;done)|(simp only [← hji9] <;> (first|rfl|simp))|(simp [*];done),by repeat (first|exact Drawn0.refl _|apply Drawn0.step)⟩
        ·exact absurd H (by simp)
       ·exact absurd H (by simp)
      ·exact absurd H (by simp)
     ·skip
      have c6b0:((bt a0 x7_1) == a1)=false:=beq_eq_false_iff_ne.mpr c6
      have c6b1:((bt a0 x7_1) != a1)=true:=bne_iff_ne.mpr c6
      have H':=Aside0.mk H
      clear H
      have p5:0≤(x7_1:Int):=of_decide_eq_true (by first|(with_reducible assumption)|assumption)
      have q5:x7_1<(a0.size:Int):=of_decide_eq_true (by first|(with_reducible assumption)|assumption)
      have hx5:=bt_at a0 x7_1
      replace p5:=eq_true p5
      replace q5:=eq_true q5
      go_wp2
      repeat (go_quiet (fail);try go_wp2)
      go_roundg k1
      case measure=>have:=HK1.out;omega
      case rel=>exact⟨(wrap64 (x7_1+1)),(by first|rfl|(simp;done)|(simp [*];done)),H',⟨by have:=HK1.out;omega⟩,by repeat (first|exact Drawn0.refl _|apply Drawn0.step)⟩
    ·exact absurd H (by simp)
   ·skip
    have c3b0:decide (x7_1<(a0.size:Int))=false:=decide_eq_false c3
    clear c3
    simp only [Option.some.injEq,Prod.mk.injEq] at H
    obtain⟨rfl,rfl,rfl⟩:=H
    go_wp2
    repeat (go_quiet (fail);try go_wp2)
    go_ret3
    exact⟨by first|rfl|(simp;done)|(simp [*];done),by repeat (first|exact Drawn0.refl _|apply Drawn0.step)⟩
def stowageref3_Char.f (a0:Int):Option (Bool):=if a0=9 then(some true) else(if a0=10 then(some true) else(if a0=13 then(some true) else(if a0 ≥ 32 then(if a0≤55295 then(some true) else(if a0 ≥ 57344 then(if a0≤65533 then(some true) else(if a0 ≥ 65536 then(some (decide (a0≤1114111))) else(some false))) else(if a0 ≥ 65536 then(some (decide (a0≤1114111))) else(some false)))) else(if a0 ≥ 57344 then(if a0≤65533 then(some true) else(if a0 ≥ 65536 then(some (decide (a0≤1114111))) else(some false))) else(if a0 ≥ 65536 then(some (decide (a0≤1114111))) else(some false))))))
theorem stowageref3_Char.calls (a0:Int) (r:Bool) (w:World) (h:stowageref3_Char.f a0=some r) :
    Calls Tryd.prog 63 #[.int .i64 a0] w fun e w'=>e = .returned (.bool r)∧Drawn0 w w':=by
 unfold stowageref3_Char.f at h
 have H:=h
 clear h
 replace H:=itO H
 rcases H with⟨c2,H⟩|⟨c2,H⟩
 {
 have c2b0:(a0 == 9)=true:=beq_iff_eq.mpr c2
 clear c2
 obtain rfl:=Option.some.inj H
 go_enter Tryd.func63,Tryd.ntmps63
 go_wp2
 go_ret
 exact⟨rs,dr⟩
 }
 {
 have c2b0:(a0 == 9)=false:=beq_eq_false_iff_ne.mpr c2
 replace H:=itO H
 rcases H with⟨c3,H⟩|⟨c3,H⟩
 {
 have c3b0:(a0 == 10)=true:=beq_iff_eq.mpr c3
 clear c3
 obtain rfl:=Option.some.inj H
 go_enter Tryd.func63,Tryd.ntmps63
 go_wp2
 go_ret
 exact⟨rs,dr⟩
 }
 {
 have c3b0:(a0 == 10)=false:=beq_eq_false_iff_ne.mpr c3
 replace H:=itO H
 rcases H with⟨c4,H⟩|⟨c4,H⟩
 {
 have c4b0:(a0 == 13)=true:=beq_iff_eq.mpr c4
 clear c4
 obtain rfl:=Option.some.inj H
 go_enter Tryd.func63,Tryd.ntmps63
 go_wp2
 go_ret
 exact⟨rs,dr⟩
 }
 {
 have c4b0:(a0 == 13)=false:=beq_eq_false_iff_ne.mpr c4
 replace H:=itO H
 rcases H with⟨c5,H⟩|⟨c5,H⟩
 {
 have c5b0:decide (32≤a0)=true:=decide_eq_true c5
 clear c5
 replace H:=itO H
 rcases H with⟨c6,H⟩|⟨c6,H⟩
 {
 have c6b0:decide (a0≤55295)=true:=decide_eq_true c6
 clear c6
 obtain rfl:=Option.some.inj H
 go_enter Tryd.func63,Tryd.ntmps63
 go_wp2
 go_ret
 exact⟨rs,dr⟩
 }
 {
 have c6b0:decide (a0≤55295)=false:=decide_eq_false c6
 clear c6
 replace H:=itO H
 rcases H with⟨c7,H⟩|⟨c7,H⟩
 {
 have c7b0:decide (57344≤a0)=true:=decide_eq_true c7
 clear c7
 replace H:=itO H
 rcases H with⟨c8,H⟩|⟨c8,H⟩
 {
 have c8b0:decide (a0≤65533)=true:=decide_eq_true c8
 clear c8
 obtain rfl:=Option.some.inj H
 go_enter Tryd.func63,Tryd.ntmps63
 go_wp2
 go_ret
 exact⟨rs,dr⟩
 }
 {
 have c8b0:decide (a0≤65533)=false:=decide_eq_false c8
 clear c8
 replace H:=itO H
 rcases H with⟨c9,H⟩|⟨c9,H⟩
 {
 have c9b0:decide (65536≤a0)=true:=decide_eq_true c9
 clear c9
 obtain rfl:=Option.some.inj H
 go_enter Tryd.func63,Tryd.ntmps63
 go_wp2
 go_ret
 exact⟨rs,dr⟩
 }
 {
 have c9b0:decide (65536≤a0)=false:=decide_eq_false c9
 clear c9
 obtain rfl:=Option.some.inj H
 go_enter Tryd.func63,Tryd.ntmps63
 go_wp2
 go_ret
 exact⟨rs,dr⟩
 }
 }
 }
 {
 have c7b0:decide (57344≤a0)=false:=decide_eq_false c7
 clear c7
 replace H:=itO H
 rcases H with⟨c10,H⟩|⟨c10,H⟩
 {
 have c10b0:decide (65536≤a0)=true:=decide_eq_true c10
 clear c10
 obtain rfl:=Option.some.inj H
 go_enter Tryd.func63,Tryd.ntmps63
 go_wp2
 go_ret
 exact⟨rs,dr⟩
 }
 {
 have c10b0:decide (65536≤a0)=false:=decide_eq_false c10
 clear c10
 obtain rfl:=Option.some.inj H
 go_enter Tryd.func63,Tryd.ntmps63
 go_wp2
 go_ret
 exact⟨rs,dr⟩
 }
 }
 }
 }
 {
 have c5b0:decide (32≤a0)=false:=decide_eq_false c5
 clear c5
 replace H:=itO H
 rcases H with⟨c11,H⟩|⟨c11,H⟩
 {
 have c11b0:decide (57344≤a0)=true:=decide_eq_true c11
 clear c11
 replace H:=itO H
 rcases H with⟨c12,H⟩|⟨c12,H⟩
 {
 have c12b0:decide (a0≤65533)=true:=decide_eq_true c12
 clear c12
 obtain rfl:=Option.some.inj H
 go_enter Tryd.func63,Tryd.ntmps63
 go_wp2
 go_ret
 exact⟨rs,dr⟩
 }
 {
 have c12b0:decide (a0≤65533)=false:=decide_eq_false c12
 clear c12
 replace H:=itO H
 rcases H with⟨c13,H⟩|⟨c13,H⟩
 {
 have c13b0:decide (65536≤a0)=true:=decide_eq_true c13
 clear c13
 obtain rfl:=Option.some.inj H
 go_enter Tryd.func63,Tryd.ntmps63
 go_wp2
 go_ret
 exact⟨rs,dr⟩
 }
 {
 have c13b0:decide (65536≤a0)=false:=decide_eq_false c13
 clear c13
 obtain rfl:=Option.some.inj H
 go_enter Tryd.func63,Tryd.ntmps63
 go_wp2
 go_ret
 exact⟨rs,dr⟩
 }
 }
 }
 {
 have c11b0:decide (57344≤a0)=false:=decide_eq_false c11
 clear c11
 replace H:=itO H
 rcases H with⟨c14,H⟩|⟨c14,H⟩
 {
 have c14b0:decide (65536≤a0)=true:=decide_eq_true c14
 clear c14
 obtain rfl:=Option.some.inj H
 go_enter Tryd.func63,Tryd.ntmps63
 go_wp2
 go_ret
 exact⟨rs,dr⟩
 }
 {
 have c14b0:decide (65536≤a0)=false:=decide_eq_false c14
 clear c14
 obtain rfl:=Option.some.inj H
 go_enter Tryd.func63,Tryd.ntmps63
 go_wp2
 go_ret
 exact⟨rs,dr⟩
 }
 }
 }
 }
 }
 }
mutual
def stowageref3_Digit.j0:Nat→Int→Bool→Option (Int)
 | 0,_,_=>none
 | k+1,x0,x3=>if x3=true then(some ((x0-48) % 256)) else(if x0 ≥ 97 then(stowageref3_Digit.j1 k x0 (decide (x0≤102))) else(stowageref3_Digit.j1 k x0 false))
def stowageref3_Digit.j1:Nat→Int→Bool→Option (Int)
 | 0,_,_=>none
 | k+1,x0,x13=>if x13=true then(some (((x0-97) % 256)+10)) else(if x0 ≥ 65 then(if x0≤70 then(some (((x0-65) % 256)+10)) else(some (-1))) else(some (-1)))
end
def stowageref3_Digit.f (k:Nat) (a0:Int):Option (Int):=if a0 ≥ 48 then(stowageref3_Digit.j0 k a0 (decide (a0≤57))) else(stowageref3_Digit.j0 k a0 false)
theorem stowageref3_Digit.mono_l:∀ k,(∀ y0 y1,LeO (stowageref3_Digit.j0 k y0 y1) (stowageref3_Digit.j0 (k+1) y0 y1))∧(∀ y0 y1,LeO (stowageref3_Digit.j1 k y0 y1) (stowageref3_Digit.j1 (k+1) y0 y1))
 | 0=>⟨fun _ _ r h=>by simp [stowageref3_Digit.j0] at h,fun _ _ r h=>by simp [stowageref3_Digit.j1] at h⟩
 | k+1=>by
  obtain⟨ih0,ih1⟩:=stowageref3_Digit.mono_l k
  refine⟨?_,?_⟩
  ·intro y0 y1
   unfold stowageref3_Digit.j0
   repeat' first
   | (with_reducible exact ih0 _ _)
   | (with_reducible exact ih1 _ _)
   | (with_reducible exact LeO.refl _)
   | (with_reducible exact LeO.none _)
   | (with_reducible refine LeO.ite ?_ ?_)
   | (with_reducible refine LeO.bind ?_ (fun _=>?_))
   | exact ih0 _ _
   | exact ih1 _ _
   | exact LeO.none _
   | refine LeO.ite ?_ ?_
   | refine LeO.bind ?_ (fun _=>?_)
  ·intro y0 y1
   unfold stowageref3_Digit.j1
   repeat' first
   | (with_reducible exact ih0 _ _)
   | (with_reducible exact ih1 _ _)
   | (with_reducible exact LeO.refl _)
   | (with_reducible exact LeO.none _)
   | (with_reducible refine LeO.ite ?_ ?_)
   | (with_reducible refine LeO.bind ?_ (fun _=>?_))
   | exact ih0 _ _
   | exact ih1 _ _
   | exact LeO.none _
   | refine LeO.ite ?_ ?_
   | refine LeO.bind ?_ (fun _=>?_)
theorem stowageref3_Digit.mono:∀ a0 k,LeO (stowageref3_Digit.f k a0) (stowageref3_Digit.f (k+1) a0):=by
 intro a0 k
 obtain⟨ih0,ih1⟩:=stowageref3_Digit.mono_l k
 unfold stowageref3_Digit.f
 repeat' first
   | (with_reducible exact ih0 _ _)
   | (with_reducible exact ih1 _ _)
   | (with_reducible exact LeO.refl _)
   | (with_reducible exact LeO.none _)
   | (with_reducible refine LeO.ite ?_ ?_)
   | (with_reducible refine LeO.bind ?_ (fun _=>?_))
   | exact ih0 _ _
   | exact ih1 _ _
   | exact LeO.none _
   | refine LeO.ite ?_ ?_
   | refine LeO.bind ?_ (fun _=>?_)
theorem stowageref3_Digit.calls (k:Nat) (a0:Int) (r:Int) (w:World) (h:stowageref3_Digit.f k a0=some r) :
  Calls Tryd.prog 74 #[.int .u8 a0] w fun e w'=>e = .returned (.int .i64 r)∧Drawn0 w w':=by
 unfold stowageref3_Digit.f at h
 have H:=h
 clear h
 have HC2:=Aside0.mk H
 clear H
 go_enter Tryd.func74,Tryd.ntmps74
 go_upto_region 1 with(fail)
 go_cut [3] (fun v3 wc=>∃ (kq:Nat) (x3_1:Bool),v3 = .bool x3_1∧Aside0 (stowageref3_Digit.j0 kq a0 x3_1=some r)∧Aside0 (kq≤k)∧Drawn0 w wc)
 case first=>
  have H:=HC2.out
  clear HC2
  replace H:=itO H
  rcases H with⟨c3,H⟩|⟨c3,H⟩
  ·skip
   have c3b0:decide (48≤a0)=true:=decide_eq_true c3
   clear c3
   (first|rw [c3b0]|(simp only [i64_w,i32_w];rw [c3b0])|skip)
   have H':=Aside0.mk H
   clear H
   go_wp2
   go_meet
   case rel=>exact⟨_,(decide (a0≤57)),(by first|rfl|(simp;done)|(simp [*];done)),H',⟨by first|omega|exact Nat.le_refl _⟩,by repeat (first|exact Drawn0.refl _|apply Drawn0.step)⟩
  ·skip
   have c3b0:decide (48≤a0)=false:=decide_eq_false c3
   clear c3
   (first|rw [c3b0]|(simp only [i64_w,i32_w];rw [c3b0])|skip)
   have H':=Aside0.mk H
   clear H
   go_wp2
   go_meet
   case rel=>exact⟨_,(false),(by first|rfl|(simp;done)|(simp [*];done)),H',⟨by first|omega|exact Nat.le_refl _⟩,by repeat (first|exact Drawn0.refl _|apply Drawn0.step)⟩
 case rest=>
  clear HC2
  try clear p2
  try clear c3
  try clear c3b0
  obtain⟨kq,x3_1,rfl,HA,HJ1,⟨mc1,rfl⟩⟩:=hcut
  cases kq with
  | zero=>exact absurd HA.out (by simp [stowageref3_Digit.j0])
  | succ kj1=>
   have H:=HA.out
   clear HA
   simp only [stowageref3_Digit.j0] at H
   by_cases c4:x3_1=true
   ·subst c4
    replace H:=itT H
    obtain rfl:=Option.some.inj H
    go_wp2
    go_ret
    exact⟨by first|rfl|(simp;done)|(simp [*];done),by repeat (first|exact Drawn0.refl _|apply Drawn0.step)⟩
   ·replace c4:=Bool.eq_false_iff.mpr c4
    subst c4
    replace H:=itF H
    have HC5:=Aside0.mk H
    clear H
    go_upto_region 3 with(fail)
    go_cut [13] (fun v13 wc=>∃ (kq:Nat) (x13_4:Bool),v13 = .bool x13_4∧Aside0 (stowageref3_Digit.j1 kq a0 x13_4=some r)∧Aside0 (kq≤kj1)∧Drawn0 w wc)
    case first=>
     have H:=HC5.out
     clear HC5
     replace H:=itO H
     rcases H with⟨c6,H⟩|⟨c6,H⟩
     ·skip
      have c6b0:decide (97≤a0)=true:=decide_eq_true c6
      clear c6
      (first|rw [c6b0]|(simp only [i64_w,i32_w];rw [c6b0])|skip)
      have H':=Aside0.mk H
      clear H
      go_wp2
      go_meet
      case rel=>exact⟨_,(decide (a0≤102)),(by first|rfl|(simp;done)|(simp [*];done)),H',⟨by have:=HJ1.out;first|omega|exact Nat.le_refl _⟩,by repeat (first|exact Drawn0.refl _|apply Drawn0.step)⟩
     ·skip
      have c6b0:decide (97≤a0)=false:=decide_eq_false c6
      clear c6
      (first|rw [c6b0]|(simp only [i64_w,i32_w];rw [c6b0])|skip)
      have H':=Aside0.mk H
      clear H
      go_wp2
      go_meet
      case rel=>exact⟨_,(false),(by first|rfl|(simp;done)|(simp [*];done)),H',⟨by have:=HJ1.out;first|omega|exact Nat.le_refl _⟩,by repeat (first|exact Drawn0.refl _|apply Drawn0.step)⟩
    case rest=>
     clear HC5
     try clear c1
     try clear p2
     try clear c3
     try clear c3b0
     try clear c4
     try clear c6
     try clear c6b0
     try clear p2
     obtain⟨kq,x13_4,rfl,HA,HJ4,⟨mc4,rfl⟩⟩:=hcut
     cases kq with
     | zero=>exact absurd HA.out (by simp [stowageref3_Digit.j1])
     | succ kj4=>
      have H:=HA.out
      clear HA
      simp only [stowageref3_Digit.j1] at H
      by_cases c7:x13_4=true
      ·subst c7
       replace H:=itT H
       obtain rfl:=Option.some.inj H
       go_wp2
       go_ret
       exact⟨by first|rfl|(simp;done)|(simp [*];done),by repeat (first|exact Drawn0.refl _|apply Drawn0.step)⟩
      ·replace c7:=Bool.eq_false_iff.mpr c7
       subst c7
       replace H:=itF H
       replace H:=itO H
       rcases H with⟨c8,H⟩|⟨c8,H⟩
       ·skip
        have c8b0:decide (65≤a0)=true:=decide_eq_true c8
        clear c8
        replace H:=itO H
        rcases H with⟨c9,H⟩|⟨c9,H⟩
        ·skip
         have c9b0:decide (a0≤70)=true:=decide_eq_true c9
         clear c9
         obtain rfl:=Option.some.inj H
         go_wp2
         go_ret
         exact⟨by first|rfl|(simp;done)|(simp [*];done),by repeat (first|exact Drawn0.refl _|apply Drawn0.step)⟩
        ·skip
         have c9b0:decide (a0≤70)=false:=decide_eq_false c9
         clear c9
         obtain rfl:=Option.some.inj H
         go_wp2
         go_ret
         exact⟨by first|rfl|(simp;done)|(simp [*];done),by repeat (first|exact Drawn0.refl _|apply Drawn0.step)⟩
       ·skip
        have c8b0:decide (65≤a0)=false:=decide_eq_false c8
        clear c8
        obtain rfl:=Option.some.inj H
        go_wp2
        go_ret
        exact⟨by first|rfl|(simp;done)|(simp [*];done),by repeat (first|exact Drawn0.refl _|apply Drawn0.step)⟩
end Go.Proofs.YtklcgncaclggcaaDoor.Q
