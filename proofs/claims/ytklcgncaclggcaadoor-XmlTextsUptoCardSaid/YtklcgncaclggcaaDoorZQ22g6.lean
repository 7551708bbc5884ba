/- A part of the proof of the seat's laws. No condition beyond those in the theorems. -/
import Derived.Test.YtklcgncaclggcaaDoorZSqzB
import Derived.Test.YtklcgncaclggcaaDoorZQ0g15
import Derived.Test.YtklcgncaclggcaaDoorZQ66g15
import Derived.Test.YtklcgncaclggcaaDoorZBase
import Derived.Laws.RangeString
import Derived.Test.YtklcgncaclggcaaDoorZShelf

namespace Go.Proofs.YtklcgncaclggcaaDoor.Q
open Go.RowKit Go.Proofs.YtklcgncaclggcaaDoorW.PrintWords Go.Proofs.YtklcgncaclggcaaDoorW.PrintLast Go.Proofs.YtklcgncaclggcaaDoorW.PrintMore
set_option linter.unusedVariables false
set_option linter.unusedSimpArgs false
set_option maxHeartbeats 8000000
set_option maxRecDepth 100000
attribute [local go_sem] max2_int min2_int max_two min_two max_three min_three max_four min_four   
def xml_reader_name.l0:Nat→Int→ByteArray→Int→Option (ByteArray×ByteArray×Int)
  | 0,_,_,_=>none
  | k+1,x3,x1000,x1001=>if x1001<(x1000.size:Int) then(if 0≤x1001 then((xml_inner.f (bt x1000 x1001)).bind fun t114=>(if t114=true then(xml_reader_name.l0 k x3 x1000 (wrap64 (x1001+1))) else(if 0≤x3 then(if x3≤x1001 then(if x1001≤(x1000.size:Int) then(some (x1000.extract (x3:Int).toNat (x1001:Int).toNat,x1000,x1001)) else(none)) else(none)) else(none)))) else(none)) else(if 0≤x3 then(if x3≤x1001 then(if x1001≤(x1000.size:Int) then(some (x1000.extract (x3:Int).toNat (x1001:Int).toNat,x1000,x1001)) else(none)) else(none)) else(none))
def xml_reader_name.f (k:Nat) (s0_0:ByteArray) (s0_1:Int):Option (ByteArray×ByteArray×Int):=xml_reader_name.l0 k s0_1 s0_0 s0_1
theorem xml_reader_name.mono_l:∀ k,(∀ y0 y1 y2,LeO (xml_reader_name.l0 k y0 y1 y2) (xml_reader_name.l0 (k+1) y0 y1 y2))
  | 0=>fun _ _ _ r h=>by simp [xml_reader_name.l0] at h
  | k+1=>by
    have ih0:=xml_reader_name.mono_l k
    · intro y0 y1 y2
      unfold xml_reader_name.l0
      repeat' first
      | (with_reducible exact ih0 _ _ _)
      | (with_reducible exact LeO.refl _)
      | (with_reducible exact LeO.none _)
      | (with_reducible refine LeO.ite ?_ ?_)
      | (with_reducible refine LeO.bind ?_ (fun _=>?_))
      | exact ih0 _ _ _
      | exact LeO.none _
      | refine LeO.ite ?_ ?_
      | refine LeO.bind ?_ (fun _=>?_)
theorem xml_reader_name.mono:∀ a0 a1 k,LeO (xml_reader_name.f k a0 a1) (xml_reader_name.f (k+1) a0 a1):=by
 intro a0 a1 k
 have ih0:=xml_reader_name.mono_l k
 unfold xml_reader_name.f
 repeat' first
     | (with_reducible exact ih0 _ _ _)
     | (with_reducible exact LeO.refl _)
     | (with_reducible exact LeO.none _)
     | (with_reducible refine LeO.ite ?_ ?_)
     | (with_reducible refine LeO.bind ?_ (fun _=>?_))
     | exact ih0 _ _ _
     | exact LeO.none _
     | refine LeO.ite ?_ ?_
     | refine LeO.bind ?_ (fun _=>?_)
theorem xml_reader_name.calls (k:Nat) (g:Nat) (s0_0:ByteArray) (s0_1:Int) (r1:ByteArray) (r2:ByteArray) (r3:Int) (w0 w:World) (hI:IsS57 w0 w g s0_0 s0_1) (hB:Below w0.heap.size w0 w) (h:xml_reader_name.f k s0_0 s0_1=some (r1,r2,r3)) :
    Calls Tryd.prog 59 #[.pointer (some ⟨g,0,none⟩)] w fun e w'=>e = .returned (.string r1)∧IsS57 w0 w' g r2 r3∧Below w0.heap.size w0 w'∧KeepBut w w' g none:=by
 have HI0:=Aside0.mk hI
 have HK:=Aside0.mk (KeepBut.refl w g none)
 have HL:=Aside0.mk hB.size
 clear hI
 have HW0:=Aside0.mk hB.size
 have HB:=Aside0.mk hB
 clear hB
 unfold xml_reader_name.f at h
 have H:=h
 clear h
 have H':=Aside0.mk H
 clear H
 obtain⟨HGz2,hgz2⟩:=HI0.out
 have hcz2_0:=cellS57_0 HGz2
 have hcz2_1:=cellS57_1 HGz2
 have hfz2_0:=blk_frozen HGz2 0
 have hfz2_1:=blk_frozen HGz2 1
 clear HGz2 hgz2
 go_enter Tryd.func59,Tryd.ntmps59
 go_wp2
 repeat (go_quiet (fail);try go_wp2)
 go_loopg [] k (fun kq w'=>∃ (x1001_1:Int),Aside0 (xml_reader_name.l0 kq s0_1 s0_0 x1001_1=some (r1,r2,r3))∧Aside0 (kq≤k)∧Aside0 (IsS57 w0 w' g s0_0 x1001_1)∧Aside0 (KeepBut w w' g none)∧Aside0 (Below w0.heap.size w0 w'))
 case atStart=>exact⟨(s0_1),H',⟨Nat.le_refl _⟩,⟨by repeat (first|(with_reducible first|exact HI0.out|apply IsS57.alloc|apply IsS57.drewN|apply IsS57.drew|apply IsS57.set_0|apply IsS57.set_1)|exact HI0.out)⟩,⟨kk⟩,⟨by repeat (first|(with_reducible first|exact HB.out|apply below_alloc|apply pw_below_drewN|apply below_drew1|refine below_set ?_ (IsS57.ge HI0.out))|exact HB.out)⟩⟩
 case round=>
  clear H'
  obtain⟨x1001_1,HA,HK1,HI0,HK,HB⟩:=hrel
  cases gk with
  | zero=>exact absurd HA.out (by simp [xml_reader_name.l0])
  | succ k1=>
   have H:=HA.out
   clear HA
   simp only [xml_reader_name.l0] at H
   replace H:=itO H
   rcases H with⟨c3,H⟩|⟨c3,H⟩
   {
   have c3b0:decide (x1001_1<(s0_0.size:Int))=true:=decide_eq_true c3
   clear c3
   replace H:=itO H
   rcases H with⟨c4,H⟩|⟨c4,H⟩
   {
   have c4b0:decide (0≤x1001_1)=true:=decide_eq_true c4
   clear c4
   replace H:=bndO H
   obtain⟨t114,A60,H⟩:=H
   have A6:=Aside0.mk A60
   clear A60
   by_cases c7:t114=true
   {
   subst c7
   replace H:=itT H
   have H':=Aside0.mk H
   clear H
   obtain⟨HGz8,hgz8⟩:=HI0.out
   have hcz8_0:=cellS57_0 HGz8
   have hcz8_1:=cellS57_1 HGz8
   have hfz8_0:=blk_frozen HGz8 0
   have hfz8_1:=blk_frozen HGz8 1
   clear HGz8 hgz8
   have p5:0≤(x1001_1:Int):=of_decide_eq_true asm
   have q5:x1001_1<(s0_0.size:Int):=of_decide_eq_true asm
   have hx5:=bt_at s0_0 x1001_1
   replace p5:=eq_true p5
   replace q5:=eq_true q5
   go_wp2_with (first|(go_at_call 42;(with_reducible refine(xml_inner.calls (bt s0_0 x1001_1) true _ A6.out).mono ?_);rintro e w' ⟨rfl,⟨nd,rfl⟩⟩;(try exact dd)))
   repeat (go_quiet (first|(go_at_call 42;(with_reducible refine(xml_inner.calls (bt s0_0 x1001_1) true _ A6.out).mono ?_);rintro e w' ⟨rfl,⟨nd,rfl⟩⟩;(try exact dd)));try go_wp2_with (first|(go_at_call 42;(with_reducible refine(xml_inner.calls (bt s0_0 x1001_1) true _ A6.out).mono ?_);rintro e w' ⟨rfl,⟨nd,rfl⟩⟩;(try exact dd))))
   go_roundg k1
   case measure=>have:=HK1.out;omega
   case rel=>exact⟨(wrap64 (x1001_1+1)),H',⟨by have:=HK1.out;omega⟩,⟨by repeat (first|(with_reducible first|exact HI0.out|apply IsS57.alloc|apply IsS57.drewN|apply IsS57.drew|apply IsS57.set_0|apply IsS57.set_1)|exact HI0.out)⟩,⟨kk⟩,⟨by repeat (first|(with_reducible first|exact HB.out|apply below_alloc|apply pw_below_drewN|apply below_drew1|refine below_set ?_ (IsS57.ge HI0.out))|exact HB.out)⟩⟩
   }
   {
   replace c7:=Bool.eq_false_iff.mpr c7
   subst c7
   replace H:=itF H
   replace H:=itO H
   rcases H with⟨c9,H⟩|⟨c9,H⟩
   {
   have c9b0:=eq_true c9
   have c9b1:=decide_eq_true c9
   clear c9
   replace H:=itO H
   rcases H with⟨c10,H⟩|⟨c10,H⟩
   {
   have c10b0:=eq_true c10
   have c10b1:=decide_eq_true c10
   clear c10
   replace H:=itO H
   rcases H with⟨c11,H⟩|⟨c11,H⟩
   {
   have c11b0:=eq_true c11
   have c11b1:=decide_eq_true c11
   clear c11
   simp only [Option.some.injEq,Prod.mk.injEq] at H
   obtain⟨rfl,rfl,rfl⟩:=H
   obtain⟨HGz12,hgz12⟩:=HI0.out
   have hcz12_0:=cellS57_0 HGz12
   have hcz12_1:=cellS57_1 HGz12
   have hfz12_0:=blk_frozen HGz12 0
   have hfz12_1:=blk_frozen HGz12 1
   clear HGz12 hgz12
   have p5:0≤(x1001_1:Int):=of_decide_eq_true asm
   have q5:x1001_1<(s0_0.size:Int):=of_decide_eq_true asm
   have hx5:=bt_at s0_0 x1001_1
   replace p5:=eq_true p5
   replace q5:=eq_true q5
   go_wp2_with (first|(go_at_call 42;(with_reducible refine(xml_inner.calls (bt s0_0 x1001_1) false _ A6.out).mono ?_);rintro e w' ⟨rfl,⟨nd,rfl⟩⟩;(try exact dd)))
   repeat (go_quiet (first|(go_at_call 42;(with_reducible refine(xml_inner.calls (bt s0_0 x1001_1) false _ A6.out).mono ?_);rintro e w' ⟨rfl,⟨nd,rfl⟩⟩;(try exact dd)));try go_wp2_with (first|(go_at_call 42;(with_reducible refine(xml_inner.calls (bt s0_0 x1001_1) false _ A6.out).mono ?_);rintro e w' ⟨rfl,⟨nd,rfl⟩⟩;(try exact dd))))
   go_ret
   exact⟨ew,by repeat (first|(with_reducible first|exact HI0.out|apply IsS57.alloc|apply IsS57.drewN|apply IsS57.drew|apply IsS57.set_0|apply IsS57.set_1)|exact HI0.out),by repeat (first|(with_reducible first|exact HB.out|apply below_alloc|apply pw_below_drewN|apply below_drew1|refine below_set ?_ (IsS57.ge HI0.out))|exact HB.out),kk⟩
   }
   ·exact absurd H (by simp)
   }
   ·exact absurd H (by simp)
   }
   ·exact absurd H (by simp)
   }
   }
   ·exact absurd H (by simp)
   }
   {
   have c3b0:decide (x1001_1<(s0_0.size:Int))=false:=decide_eq_false c3
   clear c3
   replace H:=itO H
   rcases H with⟨c13,H⟩|⟨c13,H⟩
   {
   have c13b0:=eq_true c13
   have c13b1:=decide_eq_true c13
   clear c13
   replace H:=itO H
   rcases H with⟨c14,H⟩|⟨c14,H⟩
   {
   have c14b0:=eq_true c14
   have c14b1:=decide_eq_true c14
   clear c14
   replace H:=itO H
   rcases H with⟨c15,H⟩|⟨c15,H⟩
   {
   have c15b0:=eq_true c15
   have c15b1:=decide_eq_true c15
   clear c15
   simp only [Option.some.injEq,Prod.mk.injEq] at H
   obtain⟨rfl,rfl,rfl⟩:=H
   obtain⟨HGz16,hgz16⟩:=HI0.out
   have hcz16_0:=cellS57_0 HGz16
   have hcz16_1:=cellS57_1 HGz16
   have hfz16_0:=blk_frozen HGz16 0
   have hfz16_1:=blk_frozen HGz16 1
   clear HGz16 hgz16
   go_wp2
   repeat (go_quiet (fail);try go_wp2)
   go_ret
   exact⟨ew,by repeat (first|(with_reducible first|exact HI0.out|apply IsS57.alloc|apply IsS57.drewN|apply IsS57.drew|apply IsS57.set_0|apply IsS57.set_1)|exact HI0.out),by repeat (first|(with_reducible first|exact HB.out|apply below_alloc|apply pw_below_drewN|apply below_drew1|refine below_set ?_ (IsS57.ge HI0.out))|exact HB.out),kk⟩
   }
   ·exact absurd H (by simp)
   }
   ·exact absurd H (by simp)
   }
   ·exact absurd H (by simp)
   }
def xml_reader_space.l0:Nat→Int→ByteArray→Int→Option (Bool×ByteArray×Int)
 | 0,_,_,_=>none
 | k+1,x3,x1000,x1001=>if x1001<(x1000.size:Int) then(if 0≤x1001 then((xml_white.f (bt x1000 x1001)).bind fun t109=>(if t109=true then(xml_reader_space.l0 k x3 x1000 (wrap64 (x1001+1))) else(some (decide (x1001>x3),x1000,x1001)))) else(none)) else(some (decide (x1001>x3),x1000,x1001))
def xml_reader_space.f (k:Nat) (s0_0:ByteArray) (s0_1:Int):Option (Bool×ByteArray×Int):=xml_reader_space.l0 k s0_1 s0_0 s0_1
theorem xml_reader_space.mono_l:∀ k,(∀ y0 y1 y2,LeO (xml_reader_space.l0 k y0 y1 y2) (xml_reader_space.l0 (k+1) y0 y1 y2))
 | 0=>fun _ _ _ r h=>by simp [xml_reader_space.l0] at h
 | k+1=>by
  have ih0:=xml_reader_space.mono_l k
  ·intro y0 y1 y2
   unfold xml_reader_space.l0
   repeat' first
   | (with_reducible exact ih0 _ _ _)
   | (with_reducible exact LeO.refl _)
   | (with_reducible exact LeO.none _)
   | (with_reducible refine LeO.ite ?_ ?_)
   | (with_reducible refine LeO.bind ?_ (fun _=>?_))
   | exact ih0 _ _ _
   | exact LeO.none _
   | refine LeO.ite ?_ ?_
   | refine LeO.bind ?_ (fun _=>?_)
theorem xml_reader_space.mono:∀ a0 a1 k,LeO (xml_reader_space.f k a0 a1) (xml_reader_space.f (k+1) a0 a1):=by
 intro a0 a1 k
 have ih0:=xml_reader_space.mono_l k
 unfold xml_reader_space.f
 repeat' first
   | (with_reducible exact ih0 _ _ _)
   | (with_reducible exact LeO.refl _)
   | (with_reducible exact LeO.none _)
   | (with_reducible refine LeO.ite ?_ ?_)
   | (with_reducible refine LeO.bind ?_ (fun _=>?_))
   | exact ih0 _ _ _
   | exact LeO.none _
   | refine LeO.ite ?_ ?_
   | refine LeO.bind ?_ (fun _=>?_)
theorem xml_reader_space.calls (k:Nat) (g:Nat) (s0_0:ByteArray) (s0_1:Int) (r1:Bool) (r2:ByteArray) (r3:Int) (w0 w:World) (hI:IsS57 w0 w g s0_0 s0_1) (hB:Below w0.heap.size w0 w) (h:xml_reader_space.f k s0_0 s0_1=some (r1,r2,r3)) :
  Calls Tryd.prog 29 #[.pointer (some ⟨g,0,none⟩)] w fun e w'=>e = .returned (.bool r1)∧IsS57 w0 w' g r2 r3∧Below w0.heap.size w0 w'∧KeepBut w w' g none:=by
 have HI0:=Aside0.mk hI
 have HK:=Aside0.mk (KeepBut.refl w g none)
 have HL:=Aside0.mk hB.size
 clear hI
 have HW0:=Aside0.mk hB.size
 have HB:=Aside0.mk hB
 clear hB
 unfold xml_reader_space.f at h
 have H:=h
 clear h
 have H':=Aside0.mk H
 clear H
 obtain⟨HGz2,hgz2⟩:=HI0.out
 have hcz2_0:=cellS57_0 HGz2
 have hcz2_1:=cellS57_1 HGz2
 have hfz2_0:=blk_frozen HGz2 0
 have hfz2_1:=blk_frozen HGz2 1
 clear HGz2 hgz2
 go_enter Tryd.func29,Tryd.ntmps29
 go_wp2
 repeat (go_quiet (fail);try go_wp2)
 go_loopg [] k (fun kq w'=>∃ (x1001_1:Int),Aside0 (xml_reader_space.l0 kq s0_1 s0_0 x1001_1=some (r1,r2,r3))∧Aside0 (kq≤k)∧Aside0 (IsS57 w0 w' g s0_0 x1001_1)∧Aside0 (KeepBut w w' g none)∧Aside0 (Below w0.heap.size w0 w'))
 case atStart=>exact⟨(s0_1),H',⟨Nat.le_refl _⟩,⟨by repeat (first|(with_reducible first|exact HI0.out|apply IsS57.alloc|apply IsS57.drewN|apply IsS57.drew|apply IsS57.set_0|apply IsS57.set_1)|exact HI0.out)⟩,⟨kk⟩,⟨by repeat (first|(with_reducible first|exact HB.out|apply below_alloc|apply pw_below_drewN|apply below_drew1|refine below_set ?_ (IsS57.ge HI0.out))|exact HB.out)⟩⟩
 case round=>
  clear H'
  try clear c2
  try clear p2
  try clear hcz2_0
  try clear hcz2_1
  try clear hfz2_0
  try clear hfz2_1
  obtain⟨x1001_1,HA,HK1,HI0,HK,HB⟩:=hrel
  cases gk with
  | zero=>exact absurd HA.out (by simp [xml_reader_space.l0])
  | succ k1=>
   have H:=HA.out
   clear HA
   simp only [xml_reader_space.l0] at H
   replace H:=itO H
   rcases H with⟨c3,H⟩|⟨c3,H⟩
   ·skip
    have c3b0:decide (x1001_1<(s0_0.size:Int))=true:=decide_eq_true c3
    clear c3
    replace H:=itO H
    rcases H with⟨c4,H⟩|⟨c4,H⟩
    ·skip
     have c4b0:decide (0≤x1001_1)=true:=decide_eq_true c4
     clear c4
     replace H:=bndO H
     obtain⟨t109,A60,H⟩:=H
     have A6:=Aside0.mk A60
     clear A60
     by_cases c7:t109=true
     ·subst c7
      replace H:=itT H
      have H':=Aside0.mk H
      clear H
      obtain⟨HGz8,hgz8⟩:=HI0.out
      have hcz8_0:=cellS57_0 HGz8
      have hcz8_1:=cellS57_1 HGz8
      have hfz8_0:=blk_frozen HGz8 0
      have hfz8_1:=blk_frozen HGz8 1
      clear HGz8 hgz8
      have p5:0≤(x1001_1:Int):=of_decide_eq_true (by first|(with_reducible assumption)|assumption)
      have q5:x1001_1<(s0_0.size:Int):=of_decide_eq_true (by first|(with_reducible assumption)|assumption)
      have hx5:=bt_at s0_0 x1001_1
      replace p5:=eq_true p5
      replace q5:=eq_true q5
      go_wp2_with (first|(go_at_call 57;(with_reducible refine(xml_white.calls (bt s0_0 x1001_1) true _ A6.out).mono ?_);rintro e w' ⟨rfl,⟨nd,rfl⟩⟩;(try first|exact⟨rfl,_,World.drewN_drewN _ _ _⟩|exact⟨rfl,_,Eq.trans (World.drewN_drewN _ _ _) (congrArg (World.drewN _) (Nat.add_assoc _ _ _))⟩)))
      repeat (go_quiet (first|(go_at_call 57;(with_reducible refine(xml_white.calls (bt s0_0 x1001_1) true _ A6.out).mono ?_);rintro e w' ⟨rfl,⟨nd,rfl⟩⟩;(try first|exact⟨rfl,_,World.drewN_drewN _ _ _⟩|exact⟨rfl,_,Eq.trans (World.drewN_drewN _ _ _) (congrArg (World.drewN _) (Nat.add_assoc _ _ _))⟩)));try go_wp2_with (first|(go_at_call 57;(with_reducible refine(xml_white.calls (bt s0_0 x1001_1) true _ A6.out).mono ?_);rintro e w' ⟨rfl,⟨nd,rfl⟩⟩;(try first|exact⟨rfl,_,World.drewN_drewN _ _ _⟩|exact⟨rfl,_,Eq.trans (World.drewN_drewN _ _ _) (congrArg (World.drewN _) (Nat.add_assoc _ _ _))⟩))))
      go_roundg k1
      case measure=>have:=HK1.out;omega
      case rel=>exact⟨(wrap64 (x1001_1+1)),H',⟨by have:=HK1.out;omega⟩,⟨by repeat (first|(with_reducible first|exact HI0.out|apply IsS57.alloc|apply IsS57.drewN|apply IsS57.drew|apply IsS57.set_0|apply IsS57.set_1)|exact HI0.out)⟩,⟨kk⟩,⟨by repeat (first|(with_reducible first|exact HB.out|apply below_alloc|apply pw_below_drewN|apply below_drew1|refine below_set ?_ (IsS57.ge HI0.out))|exact HB.out)⟩⟩
     ·replace c7:=Bool.eq_false_iff.mpr c7
      subst c7
      replace H:=itF H
      simp only [Option.some.injEq,Prod.mk.injEq] at H
      obtain⟨rfl,rfl,rfl⟩:=H
      obtain⟨HGz9,hgz9⟩:=HI0.out
      have hcz9_0:=cellS57_0 HGz9
      have hcz9_1:=cellS57_1 HGz9
      have hfz9_0:=blk_frozen HGz9 0
      have hfz9_1:=blk_frozen HGz9 1
      clear HGz9 hgz9
      have p5:0≤(x1001_1:Int):=of_decide_eq_true (by first|(with_reducible assumption)|assumption)
      have q5:x1001_1<(s0_0.size:Int):=of_decide_eq_true (by first|(with_reducible assumption)|assumption)
      have hx5:=bt_at s0_0 x1001_1
      replace p5:=eq_true p5
      replace q5:=eq_true q5
      go_wp2_with (first|(go_at_call 57;(with_reducible refine(xml_white.calls (bt s0_0 x1001_1) false _ A6.out).mono ?_);rintro e w' ⟨rfl,⟨nd,rfl⟩⟩;(try first|exact⟨rfl,_,World.drewN_drewN _ _ _⟩|exact⟨rfl,_,Eq.trans (World.drewN_drewN _ _ _) (congrArg (World.drewN _) (Nat.add_assoc _ _ _))⟩)))
      repeat (go_quiet (first|(go_at_call 57;(with_reducible refine(xml_white.calls (bt s0_0 x1001_1) false _ A6.out).mono ?_);rintro e w' ⟨rfl,⟨nd,rfl⟩⟩;(try first|exact⟨rfl,_,World.drewN_drewN _ _ _⟩|exact⟨rfl,_,Eq.trans (World.drewN_drewN _ _ _) (congrArg (World.drewN _) (Nat.add_assoc _ _ _))⟩)));try go_wp2_with (first|(go_at_call 57;(with_reducible refine(xml_white.calls (bt s0_0 x1001_1) false _ A6.out).mono ?_);rintro e w' ⟨rfl,⟨nd,rfl⟩⟩;(try first|exact⟨rfl,_,World.drewN_drewN _ _ _⟩|exact⟨rfl,_,Eq.trans (World.drewN_drewN _ _ _) (congrArg (World.drewN _) (Nat.add_assoc _ _ _))⟩))))
      go_ret
      exact⟨by first|rfl|(simp [errW_none,errW_some] <;> rfl)|(simp [*,errW_none,errW_some] <;> rfl),by repeat (first|(with_reducible first|exact HI0.out|apply IsS57.alloc|apply IsS57.drewN|apply IsS57.drew|apply IsS57.set_0|apply IsS57.set_1)|exact HI0.out),by repeat (first|(with_reducible first|exact HB.out|apply below_alloc|apply pw_below_drewN|apply below_drew1|refine below_set ?_ (IsS57.ge HI0.out))|exact HB.out),kk⟩
    ·exact absurd H (by simp)
   ·skip
    have c3b0:decide (x1001_1<(s0_0.size:Int))=false:=decide_eq_false c3
    clear c3
    simp only [Option.some.injEq,Prod.mk.injEq] at H
    obtain⟨rfl,rfl,rfl⟩:=H
    obtain⟨HGz10,hgz10⟩:=HI0.out
    have hcz10_0:=cellS57_0 HGz10
    have hcz10_1:=cellS57_1 HGz10
    have hfz10_0:=blk_frozen HGz10 0
    have hfz10_1:=blk_frozen HGz10 1
    clear HGz10 hgz10
    go_wp2
    repeat (go_quiet (fail);try go_wp2)
    go_ret
    exact⟨by first|rfl|(simp [errW_none,errW_some] <;> rfl)|(simp [*,errW_none,errW_some] <;> rfl),by repeat (first|(with_reducible first|exact HI0.out|apply IsS57.alloc|apply IsS57.drewN|apply IsS57.drew|apply IsS57.set_0|apply IsS57.set_1)|exact HI0.out),by repeat (first|(with_reducible first|exact HB.out|apply below_alloc|apply pw_below_drewN|apply below_drew1|refine below_set ?_ (IsS57.ge HI0.out))|exact HB.out),kk⟩
def xml_reader_eat.f (s0_0:ByteArray) (s0_1:Int) (a1:ByteArray):Option (Bool×ByteArray×Int):=if 0≤s0_1 then(if s0_1≤(s0_0.size:Int) then((strings_HasPrefix.f (s0_0.extract (s0_1:Int).toNat s0_0.size) a1).bind fun t113=>(if t113=true then(some (true,s0_0,wrap64 (s0_1+(a1.size:Int)))) else(some (false,s0_0,s0_1)))) else(none)) else(none)
theorem xml_reader_eat.calls (g:Nat) (s0_0:ByteArray) (s0_1:Int) (a1:ByteArray) (r1:Bool) (r2:ByteArray) (r3:Int) (w0 w:World) (hI:IsS57 w0 w g s0_0 s0_1) (hB:Below w0.heap.size w0 w) (h:xml_reader_eat.f s0_0 s0_1 a1=some (r1,r2,r3)) :
  Calls Tryd.prog 58 #[.pointer (some ⟨g,0,none⟩),.string a1] w fun e w'=>e = .returned (.bool r1)∧IsS57 w0 w' g r2 r3∧Below w0.heap.size w0 w'∧KeepBut w w' g none:=by
 have HI0:=Aside0.mk hI
 have HK:=Aside0.mk (KeepBut.refl w g none)
 have HL:=Aside0.mk hB.size
 clear hI
 have HW0:=Aside0.mk hB.size
 have HB:=Aside0.mk hB
 clear hB
 unfold xml_reader_eat.f at h
 have H:=h
 clear h
 replace H:=itO H
 rcases H with⟨c3,H⟩|⟨c3,H⟩
 ·skip
  have c3b0:=eq_true c3
  have c3b1:=decide_eq_true c3
  clear c3
  replace H:=itO H
  rcases H with⟨c4,H⟩|⟨c4,H⟩
  ·skip
   have c4b0:=eq_true c4
   have c4b1:=decide_eq_true c4
   clear c4
   replace H:=bndO H
   obtain⟨t113,A50,H⟩:=H
   have A5:=Aside0.mk A50
   clear A50
   by_cases c6:t113=true
   ·subst c6
    replace H:=itT H
    simp only [Option.some.injEq,Prod.mk.injEq] at H
    obtain⟨rfl,rfl,rfl⟩:=H
    obtain⟨HGz7,hgz7⟩:=HI0.out
    have hcz7_0:=cellS57_0 HGz7
    have hcz7_1:=cellS57_1 HGz7
    have hfz7_0:=blk_frozen HGz7 0
    have hfz7_1:=blk_frozen HGz7 1
    clear HGz7 hgz7
    go_enter Tryd.func58,Tryd.ntmps58
    go_wp2_with (first|(go_at_call 55;(with_reducible refine(strings_HasPrefix.calls (s0_0.extract (s0_1:Int).toNat s0_0.size) a1 true _ A5.out).mono ?_);rintro e w' ⟨rfl,⟨nd,rfl⟩⟩;(try first|exact⟨rfl,_,World.drewN_drewN _ _ _⟩|exact⟨rfl,_,Eq.trans (World.drewN_drewN _ _ _) (congrArg (World.drewN _) (Nat.add_assoc _ _ _))⟩)))
    repeat (go_quiet (first|(go_at_call 55;(with_reducible refine(strings_HasPrefix.calls (s0_0.extract (s0_1:Int).toNat s0_0.size) a1 true _ A5.out).mono ?_);rintro e w' ⟨rfl,⟨nd,rfl⟩⟩;(try first|exact⟨rfl,_,World.drewN_drewN _ _ _⟩|exact⟨rfl,_,Eq.trans (World.drewN_drewN _ _ _) (congrArg (World.drewN _) (Nat.add_assoc _ _ _))⟩)));try go_wp2_with (first|(go_at_call 55;(with_reducible refine(strings_HasPrefix.calls (s0_0.extract (s0_1:Int).toNat s0_0.size) a1 true _ A5.out).mono ?_);rintro e w' ⟨rfl,⟨nd,rfl⟩⟩;(try first|exact⟨rfl,_,World.drewN_drewN _ _ _⟩|exact⟨rfl,_,Eq.trans (World.drewN_drewN _ _ _) (congrArg (World.drewN _) (Nat.add_assoc _ _ _))⟩))))
    go_ret
    exact⟨by first|rfl|(simp [errW_none,errW_some] <;> rfl)|(simp [*,errW_none,errW_some] <;> rfl),by repeat (first|(with_reducible first|exact HI0.out|apply IsS57.alloc|apply IsS57.drewN|apply IsS57.drew|apply IsS57.set_0|apply IsS57.set_1)|exact HI0.out),by repeat (first|(with_reducible first|exact HB.out|apply below_alloc|apply pw_below_drewN|apply below_drew1|refine below_set ?_ (IsS57.ge HI0.out))|exact HB.out),kk⟩
   ·replace c6:=Bool.eq_false_iff.mpr c6
    subst c6
    replace H:=itF H
    simp only [Option.some.injEq,Prod.mk.injEq] at H
    obtain⟨rfl,rfl,rfl⟩:=H
    obtain⟨HGz8,hgz8⟩:=HI0.out
    have hcz8_0:=cellS57_0 HGz8
    have hcz8_1:=cellS57_1 HGz8
    have hfz8_0:=blk_frozen HGz8 0
    have hfz8_1:=blk_frozen HGz8 1
    clear HGz8 hgz8
    go_enter Tryd.func58,Tryd.ntmps58
    go_wp2_with (first|(go_at_call 55;(with_reducible refine(strings_HasPrefix.calls (s0_0.extract (s0_1:Int).toNat s0_0.size) a1 false _ A5.out).mono ?_);rintro e w' ⟨rfl,⟨nd,rfl⟩⟩;(try first|exact⟨rfl,_,World.drewN_drewN _ _ _⟩|exact⟨rfl,_,Eq.trans (World.drewN_drewN _ _ _) (congrArg (World.drewN _) (Nat.add_assoc _ _ _))⟩)))
    repeat (go_quiet (first|(go_at_call 55;(with_reducible refine(strings_HasPrefix.calls (s0_0.extract (s0_1:Int).toNat s0_0.size) a1 false _ A5.out).mono ?_);rintro e w' ⟨rfl,⟨nd,rfl⟩⟩;(try first|exact⟨rfl,_,World.drewN_drewN _ _ _⟩|exact⟨rfl,_,Eq.trans (World.drewN_drewN _ _ _) (congrArg (World.drewN _) (Nat.add_assoc _ _ _))⟩)));try go_wp2_with (first|(go_at_call 55;(with_reducible refine(strings_HasPrefix.calls (s0_0.extract (s0_1:Int).toNat s0_0.size) a1 false _ A5.out).mono ?_);rintro e w' ⟨rfl,⟨nd,rfl⟩⟩;(try first|exact⟨rfl,_,World.drewN_drewN _ _ _⟩|exact⟨rfl,_,Eq.trans (World.drewN_drewN _ _ _) (congrArg (World.drewN _) (Nat.add_assoc _ _ _))⟩))))
    go_ret
    exact⟨by first|rfl|(simp [errW_none,errW_some] <;> rfl)|(simp [*,errW_none,errW_some] <;> rfl),by repeat (first|(with_reducible first|exact HI0.out|apply IsS57.alloc|apply IsS57.drewN|apply IsS57.drew|apply IsS57.set_0|apply IsS57.set_1)|exact HI0.out),by repeat (first|(with_reducible first|exact HB.out|apply below_alloc|apply pw_below_drewN|apply below_drew1|refine below_set ?_ (IsS57.ge HI0.out))|exact HB.out),kk⟩
  ·exact absurd H (by simp)
 ·exact absurd H (by simp)
def strings_ContainsAny.f (a0 a1:ByteArray):Option Bool:=if 2≤a1.size∧a0.size≤8∧a0.data.toList.all (fun b=>decide (b.toNat<128))=true then some (decide (0≤Lib.indexAny a0.data.toList a1.data.toList)) else none
theorem strings_ContainsAny.calls (a0 a1:ByteArray) (r:Bool) (w:World) (h:strings_ContainsAny.f a0 a1=some r) :
  Calls Tryd.prog 80 #[.string a0,.string a1] w fun e w'=>e = .returned (.bool r)∧Below w.heap.size w w':=by
 unfold strings_ContainsAny.f at h
 by_cases c:2≤a1.size∧a0.size≤8∧a0.data.toList.all (fun b=>decide (b.toNat<128))=true
 ·rw [if_pos c] at h
  obtain⟨c1,c2,c3⟩:=c
  obtain rfl:=Option.some.inj h
  have hc:=Aside0.mk (Tryd.strings_IndexAny_short a0 a1 w c1 c2 (fun j b hb=>by
   have:=List.all_eq_true.1 c3 b (List.mem_of_getElem? hb)
   exact of_decide_eq_true this))
  clear h c1 c2 c3
  obtain⟨v,hv⟩ : ∃ v,Lib.indexAny a0.data.toList a1.data.toList=v:=⟨_,rfl⟩
  rw [hv] at hc ⊢
  clear hv
  go_enter Tryd.func80,Tryd.ntmps80
  go_wp2_with (go_at_call 89;refine hc.out.mono ?_;rintro e w1 ⟨rfl,pos,rfl⟩)
  go_ret
  exact⟨rfl,(Below.refl _ w).alloc (Nat.le_refl _) _⟩
 ·rw [if_neg c] at h
  exact absurd h (by simp)
def stringslite_IndexByte.f (a0:ByteArray) (a1:Int):Option Int:=some (Lib.indexByte a0.data.toList a1.toNat.toUInt8)
theorem stringslite_IndexByte.calls (a0:ByteArray) (a1:Int) (r:Int) (w:World) (h:stringslite_IndexByte.f a0 a1=some r) :
  Calls Tryd.prog 85 #[.string a0,.int .u8 a1] w fun e w'=>e = .returned (.int .i64 r)∧Drawn0 w w':=by
 obtain rfl:=Option.some.inj h
 exact(Tryd.stringslite_IndexByte a0 a1 w).mono fun e w' ⟨he,hw⟩=>⟨he,by rw [hw];exact Drawn0.refl _⟩
def strings_IndexByte.f (a0:ByteArray) (a1:Int):Option (Int):=(stringslite_IndexByte.f a0 a1).bind fun t115=>(some t115)
theorem strings_IndexByte.calls (a0:ByteArray) (a1:Int) (r:Int) (w:World) (h:strings_IndexByte.f a0 a1=some r) :
  Calls Tryd.prog 79 #[.string a0,.int .u8 a1] w fun e w'=>e = .returned (.int .i64 r)∧Drawn0 w w':=by
 unfold strings_IndexByte.f at h
 have H:=h
 clear h
 replace H:=bndO H
 obtain⟨t115,A30,H⟩:=H
 have A3:=Aside0.mk A30
 clear A30
 obtain rfl:=Option.some.inj H
 go_enter Tryd.func79,Tryd.ntmps79
 go_wp2_with (first|((with_reducible refine gate_callee (f:=85) rfl ?_);refine goesL_ (some 7) rfl rfl Tryd.func85 (by kernel_rfl) rfl #[.string a0,.int .u8 a1] rfl (by(try simp only [List.map_toArray,List.map_cons,List.map_nil]);first|done|rfl|(simp only [List.length_drop,List.length_take];rfl)) ?_;(with_reducible refine(stringslite_IndexByte.calls a0 a1 t115 _ A3.out).mono ?_);rintro e w' ⟨rfl,⟨nd,rfl⟩⟩;refine⟨_,rfl,?_⟩))
 go_ret
 exact⟨by first|rfl|(simp;done)|(simp [*];done),by repeat (first|exact Drawn0.refl _|apply Drawn0.step)⟩
end Go.Proofs.YtklcgncaclggcaaDoor.Q
