/- A part of the proof of the seat's laws. No condition beyond those in the theorems. -/
import Derived.Test.YtfjidcmegacibaaDoorZSqzB
import Derived.Test.YtfjidcmegacibaaDoorZQ0g11
import Derived.Test.YtfjidcmegacibaaDoorZQ61g16
import Derived.Test.YtfjidcmegacibaaDoorZQ82g8

namespace Go.Proofs.YtfjidcmegacibaaDoor.Q
open Go.RowKit Go.Proofs.YtfjidcmegacibaaDoorW.PrintWords Go.Proofs.YtfjidcmegacibaaDoorW.PrintLast Go.Proofs.YtfjidcmegacibaaDoorW.PrintMore
set_option linter.unusedVariables false
set_option linter.unusedSimpArgs false
set_option maxHeartbeats 8000000
set_option maxRecDepth 100000
attribute [local go_sem] max2_int min2_int max_two min_two max_three min_three max_four min_four   
mutual
def reply_reader_headers.l0:Nat→Bool→List (S52)→ByteArray→Int→Option ((List (S52))×Int×Bool×ByteArray×Int)
  | 0,_,_,_,_=>none
  | k+1,x1,x4,x1000,x1001=>(reply_reader_line.f x1000 x1001).bind fun bt361=>(if bt361.2.1=true then(if x1=true then(if bt361.1.toList=([]:List UInt8) then(reply_reader_headers.j1 k x1 x4 bt361.1 bt361.2.1 true bt361.2.2.1 bt361.2.2.2) else(reply_reader_headers.j1 k x1 x4 bt361.1 bt361.2.1 (bt361.1.toList == ([67,111,110,110,101,99,116,105,111,110,58,32,99,108,111,115,101]:List UInt8)) bt361.2.2.1 bt361.2.2.2)) else(reply_reader_headers.j1 k x1 x4 bt361.1 bt361.2.1 false bt361.2.2.1 bt361.2.2.2)) else(some (([]:List (S52)),0,false,bt361.2.2.1,bt361.2.2.2)))
def reply_reader_headers.j1:Nat→Bool→List (S52)→ByteArray→Bool→Bool→ByteArray→Int→Option ((List (S52))×Int×Bool×ByteArray×Int)
  | 0,_,_,_,_,_,_,_=>none
  | k+1,x1,x4,x7,x8,x29,x1000,x1001=>if x29=true then(if x7.toList=([]:List UInt8) then(if x8=true then(some (x4,0,(x7.toList == ([]:List UInt8)),x1000,x1001)) else(some (x4,0,false,x1000,x1001))) else((reply_reader_line.f x1000 x1001).bind fun bt365=>(if bt365.2.1=true then(some (x4,0,(bt365.1.toList == ([]:List UInt8)),bt365.2.2.1,bt365.2.2.2)) else(some (x4,0,false,bt365.2.2.1,bt365.2.2.2))))) else((strings_Cut.f x7 (⟨#[58,32]⟩ : ByteArray)).bind fun bt369=>(if bt369.2.2=true then((chars_Token.f k bt369.1).bind fun t372=>(if t372=true then((reply_may.f k bt369.2.1).bind fun t373=>(reply_reader_headers.j2 k x1 x4 bt369.1 bt369.2.1 (!t373) x1000 x1001)) else(reply_reader_headers.j2 k x1 x4 bt369.1 bt369.2.1 true x1000 x1001))) else(reply_reader_headers.j2 k x1 x4 bt369.1 bt369.2.1 true x1000 x1001)))
def reply_reader_headers.j2:Nat→Bool→List (S52)→ByteArray→ByteArray→Bool→ByteArray→Int→Option ((List (S52))×Int×Bool×ByteArray×Int)
  | 0,_,_,_,_,_,_,_=>none
  | k+1,x1,x4,x9,x10,x60,x1000,x1001=>if x60=true then(some (([]:List (S52)),0,false,x1000,x1001)) else(if x9.toList=([67,111,110,116,101,110,116,45,76,101,110,103,116,104]:List UInt8) then(reply_reader_headers.j3 k x1 x4 x9 x10 (!x1) x1000 x1001) else(reply_reader_headers.j3 k x1 x4 x9 x10 false x1000 x1001))
def reply_reader_headers.j3:Nat→Bool→List (S52)→ByteArray→ByteArray→Bool→ByteArray→Int→Option ((List (S52))×Int×Bool×ByteArray×Int)
  | 0,_,_,_,_,_,_,_=>none
  | k+1,x1,x4,x9,x10,x66,x1000,x1001=>if x66=true then((enc_Int.f k x10).bind fun bt374=>((reply_reader_line.f x1000 x1001).bind fun bt376=>(if bt376.2.1=true then(reply_reader_headers.j4 k x4 bt376.1 bt376.2.1 bt374.1 bt374.2 (bt376.1.toList == ([67,111,110,110,101,99,116,105,111,110,58,32,99,108,111,115,101]:List UInt8)) bt376.2.2.1 bt376.2.2.2) else(reply_reader_headers.j4 k x4 bt376.1 bt376.2.1 bt374.1 bt374.2 false bt376.2.2.1 bt376.2.2.2)))) else((reply_own.f x9).bind fun t384=>(if t384=true then(some (([]:List (S52)),0,false,x1000,x1001)) else(if x4.length<4398046511104 then(reply_reader_headers.l0 k x1 (x4 ++ [(⟨x9,x10⟩ : S52)]) x1000 x1001) else(none))))
def reply_reader_headers.j4:Nat→List (S52)→ByteArray→Bool→Int→Bool→Bool→ByteArray→Int→Option ((List (S52))×Int×Bool×ByteArray×Int)
  | 0,_,_,_,_,_,_,_,_=>none
  | k+1,x4,x7,x8,x12,x13,x81,x1000,x1001=>if x81=true then((reply_reader_line.f x1000 x1001).bind fun bt380=>(if x13=true then(if bt380.2.1=true then(some (x4,x12,(bt380.1.toList == ([]:List UInt8)),bt380.2.2.1,bt380.2.2.2)) else(some (x4,x12,false,bt380.2.2.1,bt380.2.2.2))) else(some (x4,x12,false,bt380.2.2.1,bt380.2.2.2)))) else(if x13=true then(if x8=true then(some (x4,x12,(x7.toList == ([]:List UInt8)),x1000,x1001)) else(some (x4,x12,false,x1000,x1001))) else(some (x4,x12,false,x1000,x1001)))
end
def reply_reader_headers.f (k:Nat) (s0_0:ByteArray) (s0_1:Int) (a1:Bool):Option ((List (S52))×Int×Bool×ByteArray×Int):=reply_reader_headers.l0 k a1 ([]:List (S52)) s0_0 s0_1
theorem reply_reader_headers.mono_l:∀ k,(∀ y0 y1 y2 y3,LeO (reply_reader_headers.l0 k y0 y1 y2 y3) (reply_reader_headers.l0 (k+1) y0 y1 y2 y3))∧(∀ y0 y1 y2 y3 y4 y5 y6,LeO (reply_reader_headers.j1 k y0 y1 y2 y3 y4 y5 y6) (reply_reader_headers.j1 (k+1) y0 y1 y2 y3 y4 y5 y6))∧(∀ y0 y1 y2 y3 y4 y5 y6,LeO (reply_reader_headers.j2 k y0 y1 y2 y3 y4 y5 y6) (reply_reader_headers.j2 (k+1) y0 y1 y2 y3 y4 y5 y6))∧(∀ y0 y1 y2 y3 y4 y5 y6,LeO (reply_reader_headers.j3 k y0 y1 y2 y3 y4 y5 y6) (reply_reader_headers.j3 (k+1) y0 y1 y2 y3 y4 y5 y6))∧(∀ y0 y1 y2 y3 y4 y5 y6 y7,LeO (reply_reader_headers.j4 k y0 y1 y2 y3 y4 y5 y6 y7) (reply_reader_headers.j4 (k+1) y0 y1 y2 y3 y4 y5 y6 y7))
  | 0=>⟨fun _ _ _ _ r h=>by simp [reply_reader_headers.l0] at h,fun _ _ _ _ _ _ _ r h=>by simp [reply_reader_headers.j1] at h,fun _ _ _ _ _ _ _ r h=>by simp [reply_reader_headers.j2] at h,fun _ _ _ _ _ _ _ r h=>by simp [reply_reader_headers.j3] at h,fun _ _ _ _ _ _ _ _ r h=>by simp [reply_reader_headers.j4] at h⟩
  | k+1=>by
    obtain⟨ih0,ih1,ih2,ih3,ih4⟩:=reply_reader_headers.mono_l k
    refine⟨?_,?_,?_,?_,?_⟩
    · intro y0 y1 y2 y3
      unfold reply_reader_headers.l0
      with_reducible repeat' first|exact ih0 _ _ _ _|exact ih1 _ _ _ _ _ _ _|exact ih2 _ _ _ _ _ _ _|exact ih3 _ _ _ _ _ _ _|exact ih4 _ _ _ _ _ _ _ _|exact chars_Token.mono _ _|exact enc_Int.mono _ _|exact reply_may.mono _ _|exact LeO.refl _|exact LeO.none _|refine LeO.ite ?_ ?_|refine LeO.bind ?_ (fun _=>?_)
    · intro y0 y1 y2 y3 y4 y5 y6
      unfold reply_reader_headers.j1
      with_reducible repeat' first|exact ih0 _ _ _ _|exact ih1 _ _ _ _ _ _ _|exact ih2 _ _ _ _ _ _ _|exact ih3 _ _ _ _ _ _ _|exact ih4 _ _ _ _ _ _ _ _|exact chars_Token.mono _ _|exact enc_Int.mono _ _|exact reply_may.mono _ _|exact LeO.refl _|exact LeO.none _|refine LeO.ite ?_ ?_|refine LeO.bind ?_ (fun _=>?_)
    · intro y0 y1 y2 y3 y4 y5 y6
      unfold reply_reader_headers.j2
      with_reducible repeat' first|exact ih0 _ _ _ _|exact ih1 _ _ _ _ _ _ _|exact ih2 _ _ _ _ _ _ _|exact ih3 _ _ _ _ _ _ _|exact ih4 _ _ _ _ _ _ _ _|exact chars_Token.mono _ _|exact enc_Int.mono _ _|exact reply_may.mono _ _|exact LeO.refl _|exact LeO.none _|refine LeO.ite ?_ ?_|refine LeO.bind ?_ (fun _=>?_)
    · intro y0 y1 y2 y3 y4 y5 y6
      unfold reply_reader_headers.j3
      with_reducible repeat' first|exact ih0 _ _ _ _|exact ih1 _ _ _ _ _ _ _|exact ih2 _ _ _ _ _ _ _|exact ih3 _ _ _ _ _ _ _|exact ih4 _ _ _ _ _ _ _ _|exact chars_Token.mono _ _|exact enc_Int.mono _ _|exact reply_may.mono _ _|exact LeO.refl _|exact LeO.none _|refine LeO.ite ?_ ?_|refine LeO.bind ?_ (fun _=>?_)
    · intro y0 y1 y2 y3 y4 y5 y6 y7
      unfold reply_reader_headers.j4
      with_reducible repeat' first|exact ih0 _ _ _ _|exact ih1 _ _ _ _ _ _ _|exact ih2 _ _ _ _ _ _ _|exact ih3 _ _ _ _ _ _ _|exact ih4 _ _ _ _ _ _ _ _|exact chars_Token.mono _ _|exact enc_Int.mono _ _|exact reply_may.mono _ _|exact LeO.refl _|exact LeO.none _|refine LeO.ite ?_ ?_|refine LeO.bind ?_ (fun _=>?_)
theorem reply_reader_headers.mono:∀ a0 a1 a2 k,LeO (reply_reader_headers.f k a0 a1 a2) (reply_reader_headers.f (k+1) a0 a1 a2):=by
 intro a0 a1 a2 k
 obtain⟨ih0,ih1,ih2,ih3,ih4⟩:=reply_reader_headers.mono_l k
 unfold reply_reader_headers.f
 with_reducible repeat' first|exact ih0 _ _ _ _|exact ih1 _ _ _ _ _ _ _|exact ih2 _ _ _ _ _ _ _|exact ih3 _ _ _ _ _ _ _|exact ih4 _ _ _ _ _ _ _ _|exact chars_Token.mono _ _|exact enc_Int.mono _ _|exact reply_may.mono _ _|exact LeO.refl _|exact LeO.none _|refine LeO.ite ?_ ?_|refine LeO.bind ?_ (fun _=>?_)
theorem reply_reader_headers.calls (k:Nat) (g:Nat) (s0_0:ByteArray) (s0_1:Int) (a1:Bool) (r1:List (S52)) (r2:Int) (r3:Bool) (r4:ByteArray) (r5:Int) (w0 w:World) (hI:IsS73 w0 w g s0_0 s0_1) (hB:Below w0.heap.size w0 w) (hG:GOk w0) (h:reply_reader_headers.f k s0_0 s0_1 a1=some (r1,r2,r3,r4,r5)) :
    Calls Tryd.prog 34 #[.pointer (some ⟨g,0,none⟩),.bool a1] w fun e w'=>∃ v0_:Value,e = .returned (.tuple #[v0_,.int .i64 r2,.bool r3])∧Kd.R k52 52 w' w.heap.size (fun _=>True) v0_ r1∧IsS73 w0 w' g r4 r5∧Below w0.heap.size w0 w'∧KeepBut w w' g none:=by
 have hu52:=Tryd.underlying52
 have HI0:=Aside0.mk hI
 have HK:=Aside0.mk (KeepBut.refl w g none)
 have HL:=Aside0.mk hB.size
 clear hI
 have HW0:=Aside0.mk hB.size
 have HB:=Aside0.mk hB
 clear hB
 unfold reply_reader_headers.f at h
 have H:=h
 clear h
 have H':=Aside0.mk H
 clear H
 go_enter Tryd.func34,Tryd.ntmps34
 go_wp2
 go_loopg [4] k (fun kq v4 w'=>∃ (x4_1:List (S52)) (x1000_1:ByteArray) (x1001_1:Int),Aside0 (reply_reader_headers.l0 kq a1 x4_1 x1000_1 x1001_1=some (r1,r2,r3,r4,r5))∧Aside0 (kq≤k)∧Aside0 (Kd.R k52 52 w' w.heap.size (fun _=>True) v4 x4_1)∧Aside0 (IsS73 w0 w' g x1000_1 x1001_1)∧Aside0 (KeepBut w w' g none)∧Aside0 (Below w0.heap.size w0 w'))
 case atStart=>exact⟨(([]:List (S52))),(s0_0),(s0_1),H',⟨Nat.le_refl _⟩,⟨nl⟩,⟨isl73⟩,⟨kk⟩,⟨bl⟩⟩
 case round=>
  clear H'
  obtain⟨x4_1,x1000_1,x1001_1,HA,HK1,HO_4,HI0,HK,HB⟩:=hrel
  cases gk with
  | zero=>exact absurd HA.out (by simp [reply_reader_headers.l0])
  | succ k1=>
   have H:=HA.out
   clear HA
   simp only [reply_reader_headers.l0] at H
   replace H:=bndO H
   obtain⟨⟨t361,t362,t363,t364⟩,A30,H⟩:=H
   dsimp only at H
   have A3:=Aside0.mk A30
   clear A30
   by_cases c4:t362=true
   {
   subst c4
   replace H:=itT H
   have HC5:=Aside0.mk H
   clear H
   go_upto_region 4 with(first|((with_reducible refine gate_callee (f:=50) rfl ?_);refine goesL_ (some 16) rfl rfl Tryd.func50 kr rfl #[.pointer (some ⟨g,0,none⟩)] rfl am ?_;(with_reducible refine(reply_reader_line.calls g x1000_1 x1001_1 t361 true t363 t364 w0 _ ?side1 ?side2 gk A3.out).mono ?_);(case side1=>repeat (first|(with_reducible first|exact HI0.out|apply IsS73.alloc|apply IsS73.drewN|apply IsS73.drew|apply IsS73.set_0|apply IsS73.set_1)|exact HI0.out));(case side2=>repeat (first|(with_reducible first|exact HB.out|apply below_alloc|apply pw_below_drewN|apply below_drew1|refine below_set ?_ (IsS73.ge HI0.out))|exact HB.out));rintro e w6 ⟨rfl,hi,hb,hk⟩;refine⟨_,rfl,?_⟩;replace HO_4:=Aside0.mk (Kd.R_mono (Kd.R_keep (IsS73.apart (show IsS73 w0 _ g x1000_1 x1001_1 from isl73) rl (by decide)) hk (fun _ h=>h.2)) (fun _ h=>h.1));replace HK:=Aside0.mk (KeepBut.trans kk hk (.inl rfl));replace HI0:=Aside0.mk (hi);replace HB:=Aside0.mk (hb)))
   (try simp only [Act.put,l1,l2,l3])
   go_cut [29] (fun v29 wc=>∃ (kq:Nat) (x29_4:Bool),v29 = .bool x29_4∧Aside0 (reply_reader_headers.j1 kq a1 x4_1 t361 true x29_4 t363 t364=some (r1,r2,r3,r4,r5))∧Aside0 (kq≤k1)∧Aside0 (Kd.R k52 52 wc w.heap.size (fun _=>True) u4 x4_1)∧Aside0 (IsS73 w0 wc g t363 t364)∧Aside0 (KeepBut w wc g none)∧Aside0 (Below w0.heap.size w0 wc))
   case first=>
    have H:=HC5.out
    clear HC5
    by_cases c7:a1=true
    {
    subst c7
    replace H:=itT H
    replace H:=itO H
    rcases H with⟨c8,H⟩|⟨c8,H⟩
    {
    have c8b0:(t361.toList == ([]:List UInt8))=true:=beq_iff_eq.mpr c8
    clear c8
    (first|rw [c8b0]|(simp only [i64_w,i32_w];rw [c8b0])|skip)
    have H':=Aside0.mk H
    clear H
    go_wp2
    go_meet
    case rel=>exact⟨_,(true),rs,H',⟨by have:=HK1.out;first|omega|exact Nat.le_refl _⟩,⟨rl⟩,⟨isl73⟩,⟨kk⟩,⟨bl⟩⟩
    }
    {
    have c8b0:(t361.toList == ([]:List UInt8))=false:=beq_eq_false_iff_ne.mpr c8
    (first|rw [c8b0]|(simp only [i64_w,i32_w];rw [c8b0])|skip)
    have H':=Aside0.mk H
    clear H
    go_wp2
    go_meet
    case rel=>exact⟨_,((t361.toList == ([67,111,110,110,101,99,116,105,111,110,58,32,99,108,111,115,101]:List UInt8))),rs,H',⟨by have:=HK1.out;first|omega|exact Nat.le_refl _⟩,⟨rl⟩,⟨isl73⟩,⟨kk⟩,⟨bl⟩⟩
    }
    }
    {
    replace c7:=Bool.eq_false_iff.mpr c7
    subst c7
    replace H:=itF H
    have H':=Aside0.mk H
    clear H
    go_wp2
    go_meet
    case rel=>exact⟨_,(false),rs,H',⟨by have:=HK1.out;first|omega|exact Nat.le_refl _⟩,⟨rl⟩,⟨isl73⟩,⟨kk⟩,⟨bl⟩⟩
    }
   case rest=>
    clear HC5
    obtain⟨kq,x29_4,rfl,HA,HJ4,HO_4,HI0,HK,HB⟩:=hcut
    cases kq with
    | zero=>exact absurd HA.out (by simp [reply_reader_headers.j1])
    | succ kj4=>
     have H:=HA.out
     clear HA
     simp only [reply_reader_headers.j1] at H
     by_cases c9:x29_4=true
     {
     subst c9
     replace H:=itT H
     replace H:=itO H
     rcases H with⟨c10,H⟩|⟨c10,H⟩
     {
     have c10b0:(t361.toList == ([]:List UInt8))=true:=beq_iff_eq.mpr c10
     clear c10
     try simp only [if_true,Bool.false_eq_true,if_false] at H
     simp only [Option.some.injEq,Prod.mk.injEq] at H
     obtain⟨rfl,rfl,rfl,rfl,rfl⟩:=H
     go_wp2
     go_ret3
     exact⟨_,ew,by(with_reducible repeat (first|apply Kd.R_alloc|apply Kd.R_drewN|apply Kd.R_drew));exact HO_4.out,isl73,bl,kk⟩
     }
     {
     have c10b0:(t361.toList == ([]:List UInt8))=false:=beq_eq_false_iff_ne.mpr c10
     replace H:=bndO H
     obtain⟨⟨t365,t366,t367,t368⟩,A120,H⟩:=H
     dsimp only at H
     have A12:=Aside0.mk A120
     clear A120
     by_cases c13:t366=true
     {
     subst c13
     replace H:=itT H
     simp only [Option.some.injEq,Prod.mk.injEq] at H
     obtain⟨rfl,rfl,rfl,rfl,rfl⟩:=H
     go_wp2_with (first|((with_reducible refine gate_callee (f:=50) rfl ?_);refine goesL_ (some 34) rfl rfl Tryd.func50 kr rfl #[.pointer (some ⟨g,0,none⟩)] rfl am ?_;(with_reducible refine(reply_reader_line.calls g t363 t364 t365 true t367 t368 w0 _ ?side1 ?side2 gk A12.out).mono ?_);(case side1=>repeat (first|(with_reducible first|exact HI0.out|apply IsS73.alloc|apply IsS73.drewN|apply IsS73.drew|apply IsS73.set_0|apply IsS73.set_1)|exact HI0.out));(case side2=>repeat (first|(with_reducible first|exact HB.out|apply below_alloc|apply pw_below_drewN|apply below_drew1|refine below_set ?_ (IsS73.ge HI0.out))|exact HB.out));rintro e w14 ⟨rfl,hi,hb,hk⟩;refine⟨_,rfl,?_⟩;replace HO_4:=Aside0.mk (Kd.R_mono (Kd.R_keep (IsS73.apart (show IsS73 w0 _ g t363 t364 from isl73) rl (by decide)) hk (fun _ h=>h.2)) (fun _ h=>h.1));replace HK:=Aside0.mk (KeepBut.trans kk hk (.inl rfl));replace HI0:=Aside0.mk (hi);replace HB:=Aside0.mk (hb)))
     go_ret3
     exact⟨_,ew,by(with_reducible repeat (first|apply Kd.R_alloc|apply Kd.R_drewN|apply Kd.R_drew));exact HO_4.out,isl73,bl,kk⟩
     }
     {
     replace c13:=Bool.eq_false_iff.mpr c13
     subst c13
     replace H:=itF H
     simp only [Option.some.injEq,Prod.mk.injEq] at H
     obtain⟨rfl,rfl,rfl,rfl,rfl⟩:=H
     go_wp2_with (first|((with_reducible refine gate_callee (f:=50) rfl ?_);refine goesL_ (some 34) rfl rfl Tryd.func50 kr rfl #[.pointer (some ⟨g,0,none⟩)] rfl am ?_;(with_reducible refine(reply_reader_line.calls g t363 t364 t365 false t367 t368 w0 _ ?side1 ?side2 gk A12.out).mono ?_);(case side1=>repeat (first|(with_reducible first|exact HI0.out|apply IsS73.alloc|apply IsS73.drewN|apply IsS73.drew|apply IsS73.set_0|apply IsS73.set_1)|exact HI0.out));(case side2=>repeat (first|(with_reducible first|exact HB.out|apply below_alloc|apply pw_below_drewN|apply below_drew1|refine below_set ?_ (IsS73.ge HI0.out))|exact HB.out));rintro e w15 ⟨rfl,hi,hb,hk⟩;refine⟨_,rfl,?_⟩;replace HO_4:=Aside0.mk (Kd.R_mono (Kd.R_keep (IsS73.apart (show IsS73 w0 _ g t363 t364 from isl73) rl (by decide)) hk (fun _ h=>h.2)) (fun _ h=>h.1));replace HK:=Aside0.mk (KeepBut.trans kk hk (.inl rfl));replace HI0:=Aside0.mk (hi);replace HB:=Aside0.mk (hb)))
     go_ret3
     exact⟨_,ew,by(with_reducible repeat (first|apply Kd.R_alloc|apply Kd.R_drewN|apply Kd.R_drew));exact HO_4.out,isl73,bl,kk⟩
     }
     }
     }
     {
     replace c9:=Bool.eq_false_iff.mpr c9
     subst c9
     replace H:=itF H
     replace H:=bndO H
     obtain⟨⟨t369,t370,t371⟩,A160,H⟩:=H
     dsimp only at H
     have A16:=Aside0.mk A160
     clear A160
     have HC17:=Aside0.mk H
     clear H
     go_upto_region 9 with(first|((with_reducible refine gate_callee (f:=54) rfl ?_);refine goesL_ (some 45) rfl rfl Tryd.func54 kr rfl #[.string t361,.string (⟨#[58,32]⟩ : ByteArray)] rfl am ?_;(with_reducible refine(strings_Cut.calls t361 (⟨#[58,32]⟩ : ByteArray) t369 t370 t371 _ gk A16.out).mono ?_);rintro e w' ⟨rfl,⟨nd,rfl⟩⟩;refine⟨_,rfl,?_⟩))
     (try simp only [Act.put,l1,l2,l3])
     go_cut [60] (fun v60 wc=>∃ (kq:Nat) (x60_16:Bool),v60 = .bool x60_16∧Aside0 (reply_reader_headers.j2 kq a1 x4_1 t369 t370 x60_16 t363 t364=some (r1,r2,r3,r4,r5))∧Aside0 (kq≤kj4)∧Aside0 (Kd.R k52 52 wc w.heap.size (fun _=>True) u4 x4_1)∧Aside0 (IsS73 w0 wc g t363 t364)∧Aside0 (KeepBut w wc g none)∧Aside0 (Below w0.heap.size w0 wc))
     case first=>
      have H:=HC17.out
      clear HC17
      by_cases c18:t371=true
      {
      subst c18
      replace H:=itT H
      replace H:=bndO H
      obtain⟨t372,A190,H⟩:=H
      have A19:=Aside0.mk A190
      clear A190
      by_cases c20:t372=true
      {
      subst c20
      replace H:=itT H
      replace H:=bndO H
      obtain⟨t373,A210,H⟩:=H
      have A21:=Aside0.mk A210
      clear A210
      have H':=Aside0.mk H
      clear H
      go_wp2_with (first|(go_at_call 55;(with_reducible refine(chars_Token.calls kj4 t369 true _ A19.out).mono ?_);rintro e w' ⟨rfl,⟨nd,rfl⟩⟩)|(go_at_call 56;(with_reducible refine(reply_may.calls kj4 t370 t373 _ A21.out).mono ?_);rintro e w' ⟨rfl,⟨nd,rfl⟩⟩))
      go_meet
      case rel=>exact⟨_,(!t373),rs,H',⟨by have:=HK1.out;have:=HJ4.out;first|omega|exact Nat.le_refl _⟩,⟨rl⟩,⟨isl73⟩,⟨kk⟩,⟨bl⟩⟩
      }
      {
      replace c20:=Bool.eq_false_iff.mpr c20
      subst c20
      replace H:=itF H
      have H':=Aside0.mk H
      clear H
      go_wp2_with (first|(go_at_call 55;(with_reducible refine(chars_Token.calls kj4 t369 false _ A19.out).mono ?_);rintro e w' ⟨rfl,⟨nd,rfl⟩⟩))
      go_meet
      case rel=>exact⟨_,(true),rs,H',⟨by have:=HK1.out;have:=HJ4.out;first|omega|exact Nat.le_refl _⟩,⟨rl⟩,⟨isl73⟩,⟨kk⟩,⟨bl⟩⟩
      }
      }
      {
      replace c18:=Bool.eq_false_iff.mpr c18
      subst c18
      replace H:=itF H
      have H':=Aside0.mk H
      clear H
      go_wp2
      go_meet
      case rel=>exact⟨_,(true),rs,H',⟨by have:=HK1.out;have:=HJ4.out;first|omega|exact Nat.le_refl _⟩,⟨rl⟩,⟨isl73⟩,⟨kk⟩,⟨bl⟩⟩
      }
     case rest=>
      clear HC17
      obtain⟨kq,x60_16,rfl,HA,HJ16,HO_4,HI0,HK,HB⟩:=hcut
      cases kq with
      | zero=>exact absurd HA.out (by simp [reply_reader_headers.j2])
      | succ kj16=>
       have H:=HA.out
       clear HA
       simp only [reply_reader_headers.j2] at H
       by_cases c22:x60_16=true
       {
       subst c22
       replace H:=itT H
       simp only [Option.some.injEq,Prod.mk.injEq] at H
       obtain⟨rfl,rfl,rfl,rfl,rfl⟩:=H
       go_wp2
       go_ret3
       exact⟨_,ew,nl,isl73,bl,kk⟩
       }
       {
       replace c22:=Bool.eq_false_iff.mpr c22
       subst c22
       replace H:=itF H
       have HC23:=Aside0.mk H
       clear H
       go_upto_region 11 with(fail)
       go_cut [66] (fun v66 wc=>∃ (kq:Nat) (x66_22:Bool),v66 = .bool x66_22∧Aside0 (reply_reader_headers.j3 kq a1 x4_1 t369 t370 x66_22 t363 t364=some (r1,r2,r3,r4,r5))∧Aside0 (kq≤kj16)∧Aside0 (Kd.R k52 52 wc w.heap.size (fun _=>True) u4 x4_1)∧Aside0 (IsS73 w0 wc g t363 t364)∧Aside0 (KeepBut w wc g none)∧Aside0 (Below w0.heap.size w0 wc))
       case first=>
        have H:=HC23.out
        clear HC23
        replace H:=itO H
        rcases H with⟨c24,H⟩|⟨c24,H⟩
        {
        have c24b0:(t369.toList == ([67,111,110,116,101,110,116,45,76,101,110,103,116,104]:List UInt8))=true:=beq_iff_eq.mpr c24
        clear c24
        (first|rw [c24b0]|(simp only [i64_w,i32_w];rw [c24b0])|skip)
        have H':=Aside0.mk H
        clear H
        go_wp2
        go_meet
        case rel=>exact⟨_,(!a1),rs,H',⟨by have:=HK1.out;have:=HJ4.out;have:=HJ16.out;first|omega|exact Nat.le_refl _⟩,⟨rl⟩,⟨isl73⟩,⟨kk⟩,⟨bl⟩⟩
        }
        {
        have c24b0:(t369.toList == ([67,111,110,116,101,110,116,45,76,101,110,103,116,104]:List UInt8))=false:=beq_eq_false_iff_ne.mpr c24
        (first|rw [c24b0]|(simp only [i64_w,i32_w];rw [c24b0])|skip)
        have H':=Aside0.mk H
        clear H
        go_wp2
        go_meet
        case rel=>exact⟨_,(false),rs,H',⟨by have:=HK1.out;have:=HJ4.out;have:=HJ16.out;first|omega|exact Nat.le_refl _⟩,⟨rl⟩,⟨isl73⟩,⟨kk⟩,⟨bl⟩⟩
        }
       case rest=>
        clear HC23
        obtain⟨kq,x66_22,rfl,HA,HJ22,HO_4,HI0,HK,HB⟩:=hcut
        cases kq with
        | zero=>exact absurd HA.out (by simp [reply_reader_headers.j3])
        | succ kj22=>
         have H:=HA.out
         clear HA
         simp only [reply_reader_headers.j3] at H
         by_cases c25:x66_22=true
         {
         subst c25
         replace H:=itT H
         replace H:=bndO H
         obtain⟨⟨t374,t375⟩,A260,H⟩:=H
         dsimp only at H
         have A26:=Aside0.mk A260
         clear A260
         replace H:=bndO H
         obtain⟨⟨t376,t377,t378,t379⟩,A270,H⟩:=H
         dsimp only at H
         have A27:=Aside0.mk A270
         clear A270
         have HC28:=Aside0.mk H
         clear H
         go_upto_region 14 with(first|((with_reducible refine gate_callee (f:=51) rfl ?_);refine goesL_ (some 69) rfl rfl Tryd.func51 kr rfl #[.string t370] rfl am ?_;(with_reducible refine(enc_Int.calls kj22 t370 t374 t375 _ A26.out).mono ?_);rintro e w' ⟨rfl,⟨nd,rfl⟩⟩;refine⟨_,rfl,?_⟩)|((with_reducible refine gate_callee (f:=50) rfl ?_);refine goesL_ (some 74) rfl rfl Tryd.func50 kr rfl #[.pointer (some ⟨g,0,none⟩)] rfl am ?_;(with_reducible refine(reply_reader_line.calls g t363 t364 t376 t377 t378 t379 w0 _ ?side1 ?side2 gk A27.out).mono ?_);(case side1=>repeat (first|(with_reducible first|exact HI0.out|apply IsS73.alloc|apply IsS73.drewN|apply IsS73.drew|apply IsS73.set_0|apply IsS73.set_1)|exact HI0.out));(case side2=>repeat (first|(with_reducible first|exact HB.out|apply below_alloc|apply pw_below_drewN|apply below_drew1|refine below_set ?_ (IsS73.ge HI0.out))|exact HB.out));rintro e w29 ⟨rfl,hi,hb,hk⟩;refine⟨_,rfl,?_⟩;replace HO_4:=Aside0.mk (Kd.R_mono (Kd.R_keep (IsS73.apart (show IsS73 w0 _ g t363 t364 from isl73) rl (by decide)) hk (fun _ h=>h.2)) (fun _ h=>h.1));replace HK:=Aside0.mk (KeepBut.trans kk hk (.inl rfl));replace HI0:=Aside0.mk (hi);replace HB:=Aside0.mk (hb)))
         (try simp only [Act.put,l1,l2,l3])
         go_cut [81] (fun v81 wc=>∃ (kq:Nat) (x81_27:Bool),v81 = .bool x81_27∧Aside0 (reply_reader_headers.j4 kq x4_1 t376 t377 t374 t375 x81_27 t378 t379=some (r1,r2,r3,r4,r5))∧Aside0 (kq≤kj22)∧Aside0 (Kd.R k52 52 wc w.heap.size (fun _=>True) u4 x4_1)∧Aside0 (IsS73 w0 wc g t378 t379)∧Aside0 (KeepBut w wc g none)∧Aside0 (Below w0.heap.size w0 wc))
         case first=>
          have H:=HC28.out
          clear HC28
          by_cases c30:t377=true
          {
          subst c30
          replace H:=itT H
          have H':=Aside0.mk H
          clear H
          go_wp2
          go_meet
          case rel=>exact⟨_,((t376.toList == ([67,111,110,110,101,99,116,105,111,110,58,32,99,108,111,115,101]:List UInt8))),rs,H',⟨by have:=HK1.out;have:=HJ4.out;have:=HJ16.out;have:=HJ22.out;first|omega|exact Nat.le_refl _⟩,⟨rl⟩,⟨isl73⟩,⟨kk⟩,⟨bl⟩⟩
          }
          {
          replace c30:=Bool.eq_false_iff.mpr c30
          subst c30
          replace H:=itF H
          have H':=Aside0.mk H
          clear H
          go_wp2
          go_meet
          case rel=>exact⟨_,(false),rs,H',⟨by have:=HK1.out;have:=HJ4.out;have:=HJ16.out;have:=HJ22.out;first|omega|exact Nat.le_refl _⟩,⟨rl⟩,⟨isl73⟩,⟨kk⟩,⟨bl⟩⟩
          }
         case rest=>
          clear HC28
          obtain⟨kq,x81_27,rfl,HA,HJ27,HO_4,HI0,HK,HB⟩:=hcut
          cases kq with
          | zero=>exact absurd HA.out (by simp [reply_reader_headers.j4])
          | succ kj27=>
           have H:=HA.out
           clear HA
           simp only [reply_reader_headers.j4] at H
           by_cases c31:x81_27=true
           {
           subst c31
           replace H:=itT H
           replace H:=bndO H
           obtain⟨⟨t380,t381,t382,t383⟩,A320,H⟩:=H
           dsimp only at H
           have A32:=Aside0.mk A320
           clear A320
           by_cases c33:t375=true
           {
           subst c33
           replace H:=itT H
           by_cases c34:t381=true
           {
           subst c34
           replace H:=itT H
           simp only [Option.some.injEq,Prod.mk.injEq] at H
           obtain⟨rfl,rfl,rfl,rfl,rfl⟩:=H
           go_wp2_with (first|((with_reducible refine gate_callee (f:=50) rfl ?_);refine goesL_ (some 84) rfl rfl Tryd.func50 kr rfl #[.pointer (some ⟨g,0,none⟩)] rfl am ?_;(with_reducible refine(reply_reader_line.calls g t378 t379 t380 true t382 t383 w0 _ ?side1 ?side2 gk A32.out).mono ?_);(case side1=>repeat (first|(with_reducible first|exact HI0.out|apply IsS73.alloc|apply IsS73.drewN|apply IsS73.drew|apply IsS73.set_0|apply IsS73.set_1)|exact HI0.out));(case side2=>repeat (first|(with_reducible first|exact HB.out|apply below_alloc|apply pw_below_drewN|apply below_drew1|refine below_set ?_ (IsS73.ge HI0.out))|exact HB.out));rintro e w35 ⟨rfl,hi,hb,hk⟩;refine⟨_,rfl,?_⟩;replace HO_4:=Aside0.mk (Kd.R_mono (Kd.R_keep (IsS73.apart (show IsS73 w0 _ g t378 t379 from isl73) rl (by decide)) hk (fun _ h=>h.2)) (fun _ h=>h.1));replace HK:=Aside0.mk (KeepBut.trans kk hk (.inl rfl));replace HI0:=Aside0.mk (hi);replace HB:=Aside0.mk (hb)))
           go_ret3
           exact⟨_,ew,by(with_reducible repeat (first|apply Kd.R_alloc|apply Kd.R_drewN|apply Kd.R_drew));exact HO_4.out,isl73,bl,kk⟩
           }
           {
           replace c34:=Bool.eq_false_iff.mpr c34
           subst c34
           replace H:=itF H
           simp only [Option.some.injEq,Prod.mk.injEq] at H
           obtain⟨rfl,rfl,rfl,rfl,rfl⟩:=H
           go_wp2_with (first|((with_reducible refine gate_callee (f:=50) rfl ?_);refine goesL_ (some 84) rfl rfl Tryd.func50 kr rfl #[.pointer (some ⟨g,0,none⟩)] rfl am ?_;(with_reducible refine(reply_reader_line.calls g t378 t379 t380 false t382 t383 w0 _ ?side1 ?side2 gk A32.out).mono ?_);(case side1=>repeat (first|(with_reducible first|exact HI0.out|apply IsS73.alloc|apply IsS73.drewN|apply IsS73.drew|apply IsS73.set_0|apply IsS73.set_1)|exact HI0.out));(case side2=>repeat (first|(with_reducible first|exact HB.out|apply below_alloc|apply pw_below_drewN|apply below_drew1|refine below_set ?_ (IsS73.ge HI0.out))|exact HB.out));rintro e w36 ⟨rfl,hi,hb,hk⟩;refine⟨_,rfl,?_⟩;replace HO_4:=Aside0.mk (Kd.R_mono (Kd.R_keep (IsS73.apart (show IsS73 w0 _ g t378 t379 from isl73) rl (by decide)) hk (fun _ h=>h.2)) (fun _ h=>h.1));replace HK:=Aside0.mk (KeepBut.trans kk hk (.inl rfl));replace HI0:=Aside0.mk (hi);replace HB:=Aside0.mk (hb)))
           go_ret3
           exact⟨_,ew,by(with_reducible repeat (first|apply Kd.R_alloc|apply Kd.R_drewN|apply Kd.R_drew));exact HO_4.out,isl73,bl,kk⟩
           }
           }
           {
           replace c33:=Bool.eq_false_iff.mpr c33
           subst c33
           replace H:=itF H
           simp only [Option.some.injEq,Prod.mk.injEq] at H
           obtain⟨rfl,rfl,rfl,rfl,rfl⟩:=H
           go_wp2_with (first|((with_reducible refine gate_callee (f:=50) rfl ?_);refine goesL_ (some 84) rfl rfl Tryd.func50 kr rfl #[.pointer (some ⟨g,0,none⟩)] rfl am ?_;(with_reducible refine(reply_reader_line.calls g t378 t379 t380 t381 t382 t383 w0 _ ?side1 ?side2 gk A32.out).mono ?_);(case side1=>repeat (first|(with_reducible first|exact HI0.out|apply IsS73.alloc|apply IsS73.drewN|apply IsS73.drew|apply IsS73.set_0|apply IsS73.set_1)|exact HI0.out));(case side2=>repeat (first|(with_reducible first|exact HB.out|apply below_alloc|apply pw_below_drewN|apply below_drew1|refine below_set ?_ (IsS73.ge HI0.out))|exact HB.out));rintro e w37 ⟨rfl,hi,hb,hk⟩;refine⟨_,rfl,?_⟩;replace HO_4:=Aside0.mk (Kd.R_mono (Kd.R_keep (IsS73.apart (show IsS73 w0 _ g t378 t379 from isl73) rl (by decide)) hk (fun _ h=>h.2)) (fun _ h=>h.1));replace HK:=Aside0.mk (KeepBut.trans kk hk (.inl rfl));replace HI0:=Aside0.mk (hi);replace HB:=Aside0.mk (hb)))
           go_ret3
           exact⟨_,ew,by(with_reducible repeat (first|apply Kd.R_alloc|apply Kd.R_drewN|apply Kd.R_drew));exact HO_4.out,isl73,bl,kk⟩
           }
           }
           {
           replace c31:=Bool.eq_false_iff.mpr c31
           subst c31
           replace H:=itF H
           by_cases c38:t375=true
           {
           subst c38
           replace H:=itT H
           by_cases c39:t377=true
           {
           subst c39
           replace H:=itT H
           simp only [Option.some.injEq,Prod.mk.injEq] at H
           obtain⟨rfl,rfl,rfl,rfl,rfl⟩:=H
           go_wp2
           go_ret3
           exact⟨_,ew,by(with_reducible repeat (first|apply Kd.R_alloc|apply Kd.R_drewN|apply Kd.R_drew));exact HO_4.out,isl73,bl,kk⟩
           }
           {
           replace c39:=Bool.eq_false_iff.mpr c39
           subst c39
           replace H:=itF H
           simp only [Option.some.injEq,Prod.mk.injEq] at H
           obtain⟨rfl,rfl,rfl,rfl,rfl⟩:=H
           go_wp2
           go_ret3
           exact⟨_,ew,by(with_reducible repeat (first|apply Kd.R_alloc|apply Kd.R_drewN|apply Kd.R_drew));exact HO_4.out,isl73,bl,kk⟩
           }
           }
           {
           replace c38:=Bool.eq_false_iff.mpr c38
           subst c38
           replace H:=itF H
           simp only [Option.some.injEq,Prod.mk.injEq] at H
           obtain⟨rfl,rfl,rfl,rfl,rfl⟩:=H
           go_wp2
           go_ret3
           exact⟨_,ew,by(with_reducible repeat (first|apply Kd.R_alloc|apply Kd.R_drewN|apply Kd.R_drew));exact HO_4.out,isl73,bl,kk⟩
           }
           }
         }
         {
         replace c25:=Bool.eq_false_iff.mpr c25
         subst c25
         replace H:=itF H
         replace H:=bndO H
         obtain⟨t384,A400,H⟩:=H
         have A40:=Aside0.mk A400
         clear A400
         by_cases c41:t384=true
         {
         subst c41
         replace H:=itT H
         simp only [Option.some.injEq,Prod.mk.injEq] at H
         obtain⟨rfl,rfl,rfl,rfl,rfl⟩:=H
         go_wp2_with (first|((with_reducible refine gate_callee (f:=57) rfl ?_);refine goesL_ (some 98) rfl rfl Tryd.func57 kr rfl #[.string t369] rfl am ?_;(with_reducible refine(reply_own.calls t369 true _ A40.out).mono ?_);rintro e w' ⟨rfl,⟨nd,rfl⟩⟩;refine⟨_,rfl,?_⟩))
         go_ret3
         exact⟨_,ew,nl,isl73,bl,kk⟩
         }
         {
         replace c41:=Bool.eq_false_iff.mpr c41
         subst c41
         replace H:=itF H
         replace H:=itO H
         rcases H with⟨c42,H⟩|⟨c42,H⟩
         {
         have LMc42:=Aside0.mk c42
         clear c42
         obtain⟨y385,hy385⟩ : ∃ y_:List (S52),y_=(x4_1 ++ [(⟨t369,t370⟩ : S52)]):=⟨_,rfl⟩
         replace H:(reply_reader_headers.l0 kj22 a1 y385 t363 t364)=some (r1,r2,r3,r4,r5):=by first|(rw [hy385];with_reducible exact H)|(have H2_:=(Option.bind_some _ _).symm.trans H;rw [hy385];with_reducible exact H2_)|(have H2_:=(Option.bind_some _ _).symm.trans H;with_reducible exact H2_)|with_reducible exact H|(rw [hy385];exact H)|exact H
         have Ny385:=Aside0.mk hy385
         clear hy385
         have H':=Aside0.mk H
         clear H
         go_wp2_with (first|((with_reducible refine gate_callee (f:=57) rfl ?_);refine goesL_ (some 98) rfl rfl Tryd.func57 kr rfl #[.string t369] rfl am ?_;(with_reducible refine(reply_own.calls t369 false _ A40.out).mono ?_);rintro e w' ⟨rfl,⟨nd,rfl⟩⟩;refine⟨_,rfl,?_⟩)|((with_reducible refine gate_builtin (b:=.append) (xs:=#[.tmp 99,.tmp 103]) rfl ?_);at_builtin;refine Kd.R_append k52 w.heap.size rfl (.tmp 99) (.tmp 103) 25 52 (.agg #[(.string ⟨#[]⟩),(.string ⟨#[]⟩)]) 32 rfl Tryd.underlying25 info52 rfl (by decide) (by omega) u4 x4_1 (⟨t369,t370⟩ : S52) [.string t369,.string t370] (fun _=>True) (fun _=>False) rfl rfl ?aP (fun _ hk=>hk.elim) ?aF ?aO (Below.refl _ _) ?aS ?aL ?_;(case aP=>exact k52_mkM _ _ _ (⟨t369,t370⟩ : S52));(case aF=>exact(fun _ _=>trivial));(case aO=>exact rl);(case aS=>exact(keep_size (w:=w) (g:=g) (row:=none) kk));(case aL=>have:=LMc42.out;omega);intro v386 w43 ho hb hg hat;rw [← Ny385.out] at ho;replace HI0:=Aside0.mk (IsS73.grown isl73 hg (IsS73.own_ne HI0.out HO_4.out (by decide)));replace HK:=Aside0.mk (KeepBut.trans kk (KeepBut.of_grown hg g) (Kd.R_base2 HO_4.out));have HO387:=Aside0.mk (ho);replace HB:=Aside0.mk (below_weaken bl HL.out hb);clear HO_4;clear ho hb hg hat))
         go_roundg kj22
         case measure=>have:=HK1.out;have:=HJ4.out;have:=HJ16.out;have:=HJ22.out;omega
         case rel=>exact⟨(y385),(t363),(t364),H',⟨by have:=HK1.out;have:=HJ4.out;have:=HJ16.out;have:=HJ22.out;omega⟩,⟨rl⟩,⟨isl73⟩,⟨kk⟩,⟨bl⟩⟩
         }
         ·exact absurd H (by simp)
         }
         }
       }
     }
   }
   {
   replace c4:=Bool.eq_false_iff.mpr c4
   subst c4
   replace H:=itF H
   simp only [Option.some.injEq,Prod.mk.injEq] at H
   obtain⟨rfl,rfl,rfl,rfl,rfl⟩:=H
   go_wp2_with (first|((with_reducible refine gate_callee (f:=50) rfl ?_);refine goesL_ (some 16) rfl rfl Tryd.func50 kr rfl #[.pointer (some ⟨g,0,none⟩)] rfl am ?_;(with_reducible refine(reply_reader_line.calls g x1000_1 x1001_1 t361 false t363 t364 w0 _ ?side1 ?side2 gk A3.out).mono ?_);(case side1=>repeat (first|(with_reducible first|exact HI0.out|apply IsS73.alloc|apply IsS73.drewN|apply IsS73.drew|apply IsS73.set_0|apply IsS73.set_1)|exact HI0.out));(case side2=>repeat (first|(with_reducible first|exact HB.out|apply below_alloc|apply pw_below_drewN|apply below_drew1|refine below_set ?_ (IsS73.ge HI0.out))|exact HB.out));rintro e w44 ⟨rfl,hi,hb,hk⟩;refine⟨_,rfl,?_⟩;replace HO_4:=Aside0.mk (Kd.R_mono (Kd.R_keep (IsS73.apart (show IsS73 w0 _ g x1000_1 x1001_1 from isl73) rl (by decide)) hk (fun _ h=>h.2)) (fun _ h=>h.1));replace HK:=Aside0.mk (KeepBut.trans kk hk (.inl rfl));replace HI0:=Aside0.mk (hi);replace HB:=Aside0.mk (hb)))
   go_ret3
   exact⟨_,ew,nl,isl73,bl,kk⟩
   }
end Go.Proofs.YtfjidcmegacibaaDoor.Q
