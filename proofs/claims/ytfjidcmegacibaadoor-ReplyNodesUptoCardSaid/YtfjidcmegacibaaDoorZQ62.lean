/- A part of the proof of the seat's laws. No condition beyond those in the theorems. -/
import Derived.Test.YtfjidcmegacibaaDoorZSqzB
import Derived.Test.YtfjidcmegacibaaDoorZQ0g11
import Derived.Test.YtfjidcmegacibaaDoorZQ33g16
import Derived.Test.YtfjidcmegacibaaDoorZQ54g8

namespace Go.Proofs.YtfjidcmegacibaaDoor.Q
open Go.RowKit Go.Proofs.YtfjidcmegacibaaDoorW.PrintWords Go.Proofs.YtfjidcmegacibaaDoorW.PrintLast Go.Proofs.YtfjidcmegacibaaDoorW.PrintMore
set_option linter.unusedVariables false
set_option linter.unusedSimpArgs false
set_option maxHeartbeats 8000000
set_option maxRecDepth 100000
attribute [local go_sem] max2_int min2_int max_two min_two max_three min_three max_four min_four   
mutual
def reply_reader_headers.l0:Nat→Bool→List (S52)→ByteArray→Int→Option ((List (S52))×Int×Bool×ByteArray×Int)
 | 0,_,_,_,_=>none
 | k+1,x1,x4,x1000,x1001=>(reply_reader_line.f x1000 x1001).bind fun bt222=>(if bt222.2.1=true then(if x1=true then(if bt222.1.toList=([]:List UInt8) then(reply_reader_headers.j1 k x1 x4 bt222.1 bt222.2.1 true bt222.2.2.1 bt222.2.2.2) else(reply_reader_headers.j1 k x1 x4 bt222.1 bt222.2.1 (bt222.1.toList == ([67,111,110,110,101,99,116,105,111,110,58,32,99,108,111,115,101]:List UInt8)) bt222.2.2.1 bt222.2.2.2)) else(reply_reader_headers.j1 k x1 x4 bt222.1 bt222.2.1 false bt222.2.2.1 bt222.2.2.2)) else(some (([]:List (S52)),0,false,bt222.2.2.1,bt222.2.2.2)))
def reply_reader_headers.j1:Nat→Bool→List (S52)→ByteArray→Bool→Bool→ByteArray→Int→Option ((List (S52))×Int×Bool×ByteArray×Int)
 | 0,_,_,_,_,_,_,_=>none
 | k+1,x1,x4,x7,x8,x29,x1000,x1001=>if x29=true then(if x7.toList=([]:List UInt8) then(if x8=true then(some (x4,0,(x7.toList == ([]:List UInt8)),x1000,x1001)) else(some (x4,0,false,x1000,x1001))) else((reply_reader_line.f x1000 x1001).bind fun bt226=>(if bt226.2.1=true then(some (x4,0,(bt226.1.toList == ([]:List UInt8)),bt226.2.2.1,bt226.2.2.2)) else(some (x4,0,false,bt226.2.2.1,bt226.2.2.2))))) else((strings_Cut.f x7 (⟨#[58,32]⟩ : ByteArray)).bind fun bt230=>(if bt230.2.2=true then((chars_Token.f k bt230.1).bind fun t233=>(if t233=true then((reply_may.f k bt230.2.1).bind fun t234=>(reply_reader_headers.j2 k x1 x4 bt230.1 bt230.2.1 (!t234) x1000 x1001)) else(reply_reader_headers.j2 k x1 x4 bt230.1 bt230.2.1 true x1000 x1001))) else(reply_reader_headers.j2 k x1 x4 bt230.1 bt230.2.1 true x1000 x1001)))
def reply_reader_headers.j2:Nat→Bool→List (S52)→ByteArray→ByteArray→Bool→ByteArray→Int→Option ((List (S52))×Int×Bool×ByteArray×Int)
 | 0,_,_,_,_,_,_,_=>none
 | k+1,x1,x4,x9,x10,x60,x1000,x1001=>if x60=true then(some (([]:List (S52)),0,false,x1000,x1001)) else(if x9.toList=([67,111,110,116,101,110,116,45,76,101,110,103,116,104]:List UInt8) then(reply_reader_headers.j3 k x1 x4 x9 x10 (!x1) x1000 x1001) else(reply_reader_headers.j3 k x1 x4 x9 x10 false x1000 x1001))
def reply_reader_headers.j3:Nat→Bool→List (S52)→ByteArray→ByteArray→Bool→ByteArray→Int→Option ((List (S52))×Int×Bool×ByteArray×Int)
 | 0,_,_,_,_,_,_,_=>none
 | k+1,x1,x4,x9,x10,x66,x1000,x1001=>if x66=true then((enc_Int.f k x10).bind fun bt235=>((reply_reader_line.f x1000 x1001).bind fun bt237=>(if bt237.2.1=true then(reply_reader_headers.j4 k x4 bt237.1 bt237.2.1 bt235.1 bt235.2 (bt237.1.toList == ([67,111,110,110,101,99,116,105,111,110,58,32,99,108,111,115,101]:List UInt8)) bt237.2.2.1 bt237.2.2.2) else(reply_reader_headers.j4 k x4 bt237.1 bt237.2.1 bt235.1 bt235.2 false bt237.2.2.1 bt237.2.2.2)))) else((reply_own.f x9).bind fun t245=>(if t245=true then(some (([]:List (S52)),0,false,x1000,x1001)) else(if x4.length<4398046511104 then(reply_reader_headers.l0 k x1 (x4 ++ [(⟨x9,x10⟩ : S52)]) x1000 x1001) else(none))))
def reply_reader_headers.j4:Nat→List (S52)→ByteArray→Bool→Int→Bool→Bool→ByteArray→Int→Option ((List (S52))×Int×Bool×ByteArray×Int)
 | 0,_,_,_,_,_,_,_,_=>none
 | k+1,x4,x7,x8,x12,x13,x81,x1000,x1001=>if x81=true then((reply_reader_line.f x1000 x1001).bind fun bt241=>(if x13=true then(if bt241.2.1=true then(some (x4,x12,(bt241.1.toList == ([]:List UInt8)),bt241.2.2.1,bt241.2.2.2)) else(some (x4,x12,false,bt241.2.2.1,bt241.2.2.2))) else(some (x4,x12,false,bt241.2.2.1,bt241.2.2.2)))) else(if x13=true then(if x8=true then(some (x4,x12,(x7.toList == ([]:List UInt8)),x1000,x1001)) else(some (x4,x12,false,x1000,x1001))) else(some (x4,x12,false,x1000,x1001)))
end
def reply_reader_headers.f (k:Nat) (s0_0:ByteArray) (s0_1:Int) (a1:Bool):Option ((List (S52))×Int×Bool×ByteArray×Int):=reply_reader_headers.l0 k a1 ([]:List (S52)) s0_0 s0_1
theorem reply_reader_headers.mono_l:∀ k,(∀ y0 y1 y2 y3,LeO (reply_reader_headers.l0 k y0 y1 y2 y3) (reply_reader_headers.l0 (k+1) y0 y1 y2 y3))∧(∀ y0 y1 y2 y3 y4 y5 y6,LeO (reply_reader_headers.j1 k y0 y1 y2 y3 y4 y5 y6) (reply_reader_headers.j1 (k+1) y0 y1 y2 y3 y4 y5 y6))∧(∀ y0 y1 y2 y3 y4 y5 y6,LeO (reply_reader_headers.j2 k y0 y1 y2 y3 y4 y5 y6) (reply_reader_headers.j2 (k+1) y0 y1 y2 y3 y4 y5 y6))∧(∀ y0 y1 y2 y3 y4 y5 y6,LeO (reply_reader_headers.j3 k y0 y1 y2 y3 y4 y5 y6) (reply_reader_headers.j3 (k+1) y0 y1 y2 y3 y4 y5 y6))∧(∀ y0 y1 y2 y3 y4 y5 y6 y7,LeO (reply_reader_headers.j4 k y0 y1 y2 y3 y4 y5 y6 y7) (reply_reader_headers.j4 (k+1) y0 y1 y2 y3 y4 y5 y6 y7))
 | 0=>⟨fun _ _ _ _ r h=>by simp [reply_reader_headers.l0] at h,fun _ _ _ _ _ _ _ r h=>by simp [reply_reader_headers.j1] at h,fun _ _ _ _ _ _ _ r h=>by simp [reply_reader_headers.j2] at h,fun _ _ _ _ _ _ _ r h=>by simp [reply_reader_headers.j3] at h,fun _ _ _ _ _ _ _ _ r h=>by simp [reply_reader_headers.j4] at h⟩
 | k+1=>by
  obtain⟨ih0,ih1,ih2,ih3,ih4⟩:=reply_reader_headers.mono_l k
  refine⟨?_,?_,?_,?_,?_⟩
  ·intro y0 y1 y2 y3
   unfold reply_reader_headers.l0
   repeat' first
   | (with_reducible exact ih0 _ _ _ _)
   | (with_reducible exact ih1 _ _ _ _ _ _ _)
   | (with_reducible exact ih2 _ _ _ _ _ _ _)
   | (with_reducible exact ih3 _ _ _ _ _ _ _)
   | (with_reducible exact ih4 _ _ _ _ _ _ _ _)
   | (with_reducible exact chars_Token.mono _ _)
   | (with_reducible exact enc_Int.mono _ _)
   | (with_reducible exact reply_may.mono _ _)
   | (with_reducible exact LeO.refl _)
   | (with_reducible exact LeO.none _)
   | (with_reducible refine LeO.ite ?_ ?_)
   | (with_reducible refine LeO.bind ?_ (fun _=>?_))
   | exact ih0 _ _ _ _
   | exact ih1 _ _ _ _ _ _ _
   | exact ih2 _ _ _ _ _ _ _
   | exact ih3 _ _ _ _ _ _ _
   | exact ih4 _ _ _ _ _ _ _ _
   | exact chars_Token.mono _ _
   | exact enc_Int.mono _ _
   | exact reply_may.mono _ _
   | exact LeO.none _
   | refine LeO.ite ?_ ?_
   | refine LeO.bind ?_ (fun _=>?_)
  ·intro y0 y1 y2 y3 y4 y5 y6
   unfold reply_reader_headers.j1
   repeat' first
   | (with_reducible exact ih0 _ _ _ _)
   | (with_reducible exact ih1 _ _ _ _ _ _ _)
   | (with_reducible exact ih2 _ _ _ _ _ _ _)
   | (with_reducible exact ih3 _ _ _ _ _ _ _)
   | (with_reducible exact ih4 _ _ _ _ _ _ _ _)
   | (with_reducible exact chars_Token.mono _ _)
   | (with_reducible exact enc_Int.mono _ _)
   | (with_reducible exact reply_may.mono _ _)
   | (with_reducible exact LeO.refl _)
   | (with_reducible exact LeO.none _)
   | (with_reducible refine LeO.ite ?_ ?_)
   | (with_reducible refine LeO.bind ?_ (fun _=>?_))
   | exact ih0 _ _ _ _
   | exact ih1 _ _ _ _ _ _ _
   | exact ih2 _ _ _ _ _ _ _
   | exact ih3 _ _ _ _ _ _ _
   | exact ih4 _ _ _ _ _ _ _ _
   | exact chars_Token.mono _ _
   | exact enc_Int.mono _ _
   | exact reply_may.mono _ _
   | exact LeO.none _
   | refine LeO.ite ?_ ?_
   | refine LeO.bind ?_ (fun _=>?_)
  ·intro y0 y1 y2 y3 y4 y5 y6
   unfold reply_reader_headers.j2
   repeat' first
   | (with_reducible exact ih0 _ _ _ _)
   | (with_reducible exact ih1 _ _ _ _ _ _ _)
   | (with_reducible exact ih2 _ _ _ _ _ _ _)
   | (with_reducible exact ih3 _ _ _ _ _ _ _)
   | (with_reducible exact ih4 _ _ _ _ _ _ _ _)
   | (with_reducible exact chars_Token.mono _ _)
   | (with_reducible exact enc_Int.mono _ _)
   | (with_reducible exact reply_may.mono _ _)
   | (with_reducible exact LeO.refl _)
   | (with_reducible exact LeO.none _)
   | (with_reducible refine LeO.ite ?_ ?_)
   | (with_reducible refine LeO.bind ?_ (fun _=>?_))
   | exact ih0 _ _ _ _
   | exact ih1 _ _ _ _ _ _ _
   | exact ih2 _ _ _ _ _ _ _
   | exact ih3 _ _ _ _ _ _ _
   | exact ih4 _ _ _ _ _ _ _ _
   | exact chars_Token.mono _ _
   | exact enc_Int.mono _ _
   | exact reply_may.mono _ _
   | exact LeO.none _
   | refine LeO.ite ?_ ?_
   | refine LeO.bind ?_ (fun _=>?_)
  ·intro y0 y1 y2 y3 y4 y5 y6
   unfold reply_reader_headers.j3
   repeat' first
   | (with_reducible exact ih0 _ _ _ _)
   | (with_reducible exact ih1 _ _ _ _ _ _ _)
   | (with_reducible exact ih2 _ _ _ _ _ _ _)
   | (with_reducible exact ih3 _ _ _ _ _ _ _)
   | (with_reducible exact ih4 _ _ _ _ _ _ _ _)
   | (with_reducible exact chars_Token.mono _ _)
   | (with_reducible exact enc_Int.mono _ _)
   | (with_reducible exact reply_may.mono _ _)
   | (with_reducible exact LeO.refl _)
   | (with_reducible exact LeO.none _)
   | (with_reducible refine LeO.ite ?_ ?_)
   | (with_reducible refine LeO.bind ?_ (fun _=>?_))
   | exact ih0 _ _ _ _
   | exact ih1 _ _ _ _ _ _ _
   | exact ih2 _ _ _ _ _ _ _
   | exact ih3 _ _ _ _ _ _ _
   | exact ih4 _ _ _ _ _ _ _ _
   | exact chars_Token.mono _ _
   | exact enc_Int.mono _ _
   | exact reply_may.mono _ _
   | exact LeO.none _
   | refine LeO.ite ?_ ?_
   | refine LeO.bind ?_ (fun _=>?_)
  ·intro y0 y1 y2 y3 y4 y5 y6 y7
   unfold reply_reader_headers.j4
   repeat' first
   | (with_reducible exact ih0 _ _ _ _)
   | (with_reducible exact ih1 _ _ _ _ _ _ _)
   | (with_reducible exact ih2 _ _ _ _ _ _ _)
   | (with_reducible exact ih3 _ _ _ _ _ _ _)
   | (with_reducible exact ih4 _ _ _ _ _ _ _ _)
   | (with_reducible exact chars_Token.mono _ _)
   | (with_reducible exact enc_Int.mono _ _)
   | (with_reducible exact reply_may.mono _ _)
   | (with_reducible exact LeO.refl _)
   | (with_reducible exact LeO.none _)
   | (with_reducible refine LeO.ite ?_ ?_)
   | (with_reducible refine LeO.bind ?_ (fun _=>?_))
   | exact ih0 _ _ _ _
   | exact ih1 _ _ _ _ _ _ _
   | exact ih2 _ _ _ _ _ _ _
   | exact ih3 _ _ _ _ _ _ _
   | exact ih4 _ _ _ _ _ _ _ _
   | exact chars_Token.mono _ _
   | exact enc_Int.mono _ _
   | exact reply_may.mono _ _
   | exact LeO.none _
   | refine LeO.ite ?_ ?_
   | refine LeO.bind ?_ (fun _=>?_)
theorem reply_reader_headers.mono:∀ a0 a1 a2 k,LeO (reply_reader_headers.f k a0 a1 a2) (reply_reader_headers.f (k+1) a0 a1 a2):=by
 intro a0 a1 a2 k
 obtain⟨ih0,ih1,ih2,ih3,ih4⟩:=reply_reader_headers.mono_l k
 unfold reply_reader_headers.f
 repeat' first
   | (with_reducible exact ih0 _ _ _ _)
   | (with_reducible exact ih1 _ _ _ _ _ _ _)
   | (with_reducible exact ih2 _ _ _ _ _ _ _)
   | (with_reducible exact ih3 _ _ _ _ _ _ _)
   | (with_reducible exact ih4 _ _ _ _ _ _ _ _)
   | (with_reducible exact chars_Token.mono _ _)
   | (with_reducible exact enc_Int.mono _ _)
   | (with_reducible exact reply_may.mono _ _)
   | (with_reducible exact LeO.refl _)
   | (with_reducible exact LeO.none _)
   | (with_reducible refine LeO.ite ?_ ?_)
   | (with_reducible refine LeO.bind ?_ (fun _=>?_))
   | exact ih0 _ _ _ _
   | exact ih1 _ _ _ _ _ _ _
   | exact ih2 _ _ _ _ _ _ _
   | exact ih3 _ _ _ _ _ _ _
   | exact ih4 _ _ _ _ _ _ _ _
   | exact chars_Token.mono _ _
   | exact enc_Int.mono _ _
   | exact reply_may.mono _ _
   | exact LeO.none _
   | refine LeO.ite ?_ ?_
   | refine LeO.bind ?_ (fun _=>?_)
theorem reply_reader_headers.calls (k:Nat) (g:Nat) (s0_0:ByteArray) (s0_1:Int) (a1:Bool) (r1:List (S52)) (r2:Int) (r3:Bool) (r4:ByteArray) (r5:Int) (w0 w:World) (hI:IsS73 w0 w g s0_0 s0_1) (hB:Below w0.heap.size w0 w) (hG:GOk w0) (h:reply_reader_headers.f k s0_0 s0_1 a1=some (r1,r2,r3,r4,r5)) :
  Calls Tryd.prog 34 #[.pointer (some ⟨g,0,none⟩),.bool a1] w fun e w'=>∃ v0_:Value,e = .returned (.tuple #[v0_,.int .i64 r2,.bool r3])∧Kd.R k52 52 w' w.heap.size (fun _=>True) v0_ r1∧IsS73 w0 w' g r4 r5∧Below w0.heap.size w0 w'∧KeepBut w w' g none:=by
 have hu52:=Tryd.underlying52
 have HI0:=Aside0.mk hI
 have HK:=Aside0.mk (KeepBut.refl w g none)
 have HL:=Aside0.mk hB.size
 clear hI
 have HW0:=Aside0.mk hB.size
 have HB:=Aside0.mk hB
 clear hB
 unfold reply_reader_headers.f at h
 have H:=h
 clear h
 have H':=Aside0.mk H
 clear H
 go_enter Tryd.func34,Tryd.ntmps34
 go_wp2
 go_loopg [4] k (fun kq v4 w'=>∃ (x4_1:List (S52)) (x1000_1:ByteArray) (x1001_1:Int),Aside0 (reply_reader_headers.l0 kq a1 x4_1 x1000_1 x1001_1=some (r1,r2,r3,r4,r5))∧Aside0 (kq≤k)∧Aside0 (Kd.R k52 52 w' w.heap.size (fun _=>True) v4 x4_1)∧Aside0 (IsS73 w0 w' g x1000_1 x1001_1)∧Aside0 (KeepBut w w' g none)∧Aside0 (Below w0.heap.size w0 w'))
 case atStart=>exact⟨(([]:List (S52))),(s0_0),(s0_1),H',⟨Nat.le_refl _⟩,⟨by first|exact Kd.R_nil _ _ _ _ _|exact Kd.N_nil _ _ _ _ _|exact Kd.V_nil _ _ _ _ _|exact Kd.Q_nil _ _ _ _ _|exact Kd.S_nil _ _ _ _ _⟩,⟨by repeat (first|(with_reducible first|exact HI0.out|apply IsS73.alloc|apply IsS73.drewN|apply IsS73.drew|apply IsS73.set_0|apply IsS73.set_1)|exact HI0.out)⟩,⟨kk⟩,⟨by repeat (first|(with_reducible first|exact HB.out|apply below_alloc|apply pw_below_drewN|apply below_drew1|refine below_set ?_ (IsS73.ge HI0.out))|exact HB.out)⟩⟩
 case round=>
  clear H'
  try clear p2
  obtain⟨x4_1,x1000_1,x1001_1,HA,HK1,HO_4,HI0,HK,HB⟩:=hrel
  cases gk with
  | zero=>exact absurd HA.out (by simp [reply_reader_headers.l0])
  | succ k1=>
   have H:=HA.out
   clear HA
   simp only [reply_reader_headers.l0] at H
   replace H:=bndO H
   obtain⟨⟨t222,t223,t224,t225⟩,A30,H⟩:=H
   dsimp only at H
   have A3:=Aside0.mk A30
   clear A30
   by_cases c4:t223=true
   ·subst c4
    replace H:=itT H
    have HC5:=Aside0.mk H
    clear H
    go_upto_region 4 with(first|((with_reducible refine gate_callee (f:=50) rfl ?_);refine goesL_ (some 16) rfl rfl Tryd.func50 (by kernel_rfl) rfl #[.pointer (some ⟨g,0,none⟩)] rfl (by(try simp only [List.map_toArray,List.map_cons,List.map_nil]);first|done|rfl|(simp only [List.length_drop,List.length_take];rfl)) ?_;(with_reducible refine(reply_reader_line.calls g x1000_1 x1001_1 t222 true t224 t225 w0 _ ?side1 ?side2 (by first|exact hG|exact gok_below hG (by repeat (first|(with_reducible first|exact HB.out|apply below_alloc|apply pw_below_drewN|apply below_drew1|refine below_set ?_ (IsS73.ge HI0.out))|exact HB.out))|exact gok_heap hG rfl|exact gok_drewN hG _|exact gok_below hG (by repeat (first|exact HB.out|exact HBW.out|exact Below.refl _ _|apply below_alloc|apply pw_below_drewN|apply below_drew1))) A3.out).mono ?_);(case side1=>repeat (first|(with_reducible first|exact HI0.out|apply IsS73.alloc|apply IsS73.drewN|apply IsS73.drew|apply IsS73.set_0|apply IsS73.set_1)|exact HI0.out));(case side2=>repeat (first|(with_reducible first|exact HB.out|apply below_alloc|apply pw_below_drewN|apply below_drew1|refine below_set ?_ (IsS73.ge HI0.out))|exact HB.out));rintro e w6 ⟨rfl,hi,hb,hk⟩;refine⟨_,rfl,?_⟩;have n0_:=Aside0.mk (Kd.R_mono (Kd.R_keep (IsS73.apart (show IsS73 w0 _ g x1000_1 x1001_1 from by repeat (first|(with_reducible first|exact HI0.out|apply IsS73.alloc|apply IsS73.drewN|apply IsS73.drew|apply IsS73.set_0|apply IsS73.set_1)|exact HI0.out)) (by(with_reducible repeat (first|apply Kd.R_alloc|apply Kd.R_drewN|apply Kd.R_drew));exact HO_4.out) (by decide)) hk (fun _ h=>h.2)) (fun _ h=>h.1));have n1_:=Aside0.mk (KeepBut.trans kk hk (.inl rfl));have n2_:=Aside0.mk (hb);have n3_:=Aside0.mk (hi);clear HO_4;clear HK;clear HB;clear HI0;have HO_4:=n0_;have HK:=n1_;have HB:=n2_;have HI0:=n3_;clear n0_ n1_ n2_ n3_;(try clear hb);(try clear hb2);(try clear hk);(try clear hi)))
    (try simp only [Act.put,List.setIfInBounds_toArray,List.set_cons_zero,List.set_cons_succ])
    go_cut [29] (fun v29 wc=>∃ (kq:Nat) (x29_4:Bool),v29 = .bool x29_4∧Aside0 (reply_reader_headers.j1 kq a1 x4_1 t222 true x29_4 t224 t225=some (r1,r2,r3,r4,r5))∧Aside0 (kq≤k1)∧Aside0 (Kd.R k52 52 wc w.heap.size (fun _=>True) u4 x4_1)∧Aside0 (IsS73 w0 wc g t224 t225)∧Aside0 (KeepBut w wc g none)∧Aside0 (Below w0.heap.size w0 wc))
    case first=>
     have H:=HC5.out
     clear HC5
     by_cases c7:a1=true
     ·subst c7
      replace H:=itT H
      replace H:=itO H
      rcases H with⟨c8,H⟩|⟨c8,H⟩
      ·skip
       have c8b0:(t222.toList == ([]:List UInt8))=true:=beq_iff_eq.mpr c8
       have c8b1:(t222.toList != ([]:List UInt8))=false:=bne_eq_false_iff_eq.mpr c8
       clear c8
       (first|rw [c8b0]|(simp only [i64_w,i32_w];rw [c8b0])|skip)
       have H':=Aside0.mk H
       clear H
       go_wp2
       go_meet
       case rel=>exact⟨_,(true),(by first|rfl|(simp;done)|(simp [*];done)),H',⟨by have:=HK1.out;first|omega|exact Nat.le_refl _⟩,⟨by(with_reducible repeat (first|apply Kd.R_alloc|apply Kd.R_drewN|apply Kd.R_drew));exact HO_4.out⟩,⟨by repeat (first|(with_reducible first|exact HI0.out|apply IsS73.alloc|apply IsS73.drewN|apply IsS73.drew|apply IsS73.set_0|apply IsS73.set_1)|exact HI0.out)⟩,⟨kk⟩,⟨by repeat (first|(with_reducible first|exact HB.out|apply below_alloc|apply pw_below_drewN|apply below_drew1|refine below_set ?_ (IsS73.ge HI0.out))|exact HB.out)⟩⟩
      ·skip
       have c8b0:(t222.toList == ([]:List UInt8))=false:=beq_eq_false_iff_ne.mpr c8
       have c8b1:(t222.toList != ([]:List UInt8))=true:=bne_iff_ne.mpr c8
       (first|rw [c8b0]|(simp only [i64_w,i32_w];rw [c8b0])|skip)
       have H':=Aside0.mk H
       clear H
       go_wp2
       go_meet
       case rel=>exact⟨_,((t222.toList == ([67,111,110,110,101,99,116,105,111,110,58,32,99,108,111,115,101]:List UInt8))),(by first|rfl|(simp;done)|(simp [*];done)),H',⟨by have:=HK1.out;first|omega|exact Nat.le_refl _⟩,⟨by(with_reducible repeat (first|apply Kd.R_alloc|apply Kd.R_drewN|apply Kd.R_drew));exact HO_4.out⟩,⟨by repeat (first|(with_reducible first|exact HI0.out|apply IsS73.alloc|apply IsS73.drewN|apply IsS73.drew|apply IsS73.set_0|apply IsS73.set_1)|exact HI0.out)⟩,⟨kk⟩,⟨by repeat (first|(with_reducible first|exact HB.out|apply below_alloc|apply pw_below_drewN|apply below_drew1|refine below_set ?_ (IsS73.ge HI0.out))|exact HB.out)⟩⟩
     ·replace c7:=Bool.eq_false_iff.mpr c7
      subst c7
      replace H:=itF H
      have H':=Aside0.mk H
      clear H
      go_wp2
      go_meet
      case rel=>exact⟨_,(false),(by first|rfl|(simp;done)|(simp [*];done)),H',⟨by have:=HK1.out;first|omega|exact Nat.le_refl _⟩,⟨by(with_reducible repeat (first|apply Kd.R_alloc|apply Kd.R_drewN|apply Kd.R_drew));exact HO_4.out⟩,⟨by repeat (first|(with_reducible first|exact HI0.out|apply IsS73.alloc|apply IsS73.drewN|apply IsS73.drew|apply IsS73.set_0|apply IsS73.set_1)|exact HI0.out)⟩,⟨kk⟩,⟨by repeat (first|(with_reducible first|exact HB.out|apply below_alloc|apply pw_below_drewN|apply below_drew1|refine below_set ?_ (IsS73.ge HI0.out))|exact HB.out)⟩⟩
    case rest=>
     clear HC5
     try clear p2
     try clear c3
     try clear c4
     try clear c5
     try clear c7
     try clear c8
     try clear c8b0
     try clear c8b1
     try clear p2
     obtain⟨kq,x29_4,rfl,HA,HJ4,HO_4,HI0,HK,HB⟩:=hcut
     cases kq with
     | zero=>exact absurd HA.out (by simp [reply_reader_headers.j1])
     | succ kj4=>
      have H:=HA.out
      clear HA
      simp only [reply_reader_headers.j1] at H
      by_cases c9:x29_4=true
      ·subst c9
       replace H:=itT H
       replace H:=itO H
       rcases H with⟨c10,H⟩|⟨c10,H⟩
       ·skip
        have c10b0:(t222.toList == ([]:List UInt8))=true:=beq_iff_eq.mpr c10
        have c10b1:(t222.toList != ([]:List UInt8))=false:=bne_eq_false_iff_eq.mpr c10
        clear c10
        try simp only [if_true,Bool.false_eq_true,if_false] at H
        simp only [Option.some.injEq,Prod.mk.injEq] at H
        obtain⟨rfl,rfl,rfl,rfl,rfl⟩:=H
        go_wp2
        go_ret3
        exact⟨_,by first|rfl|(simp [errW_none,errW_some] <;> rfl)|(simp [*,errW_none,errW_some] <;> rfl),by(with_reducible repeat (first|apply Kd.R_alloc|apply Kd.R_drewN|apply Kd.R_drew));exact HO_4.out,by repeat (first|(with_reducible first|exact HI0.out|apply IsS73.alloc|apply IsS73.drewN|apply IsS73.drew|apply IsS73.set_0|apply IsS73.set_1)|exact HI0.out),by repeat (first|(with_reducible first|exact HB.out|apply below_alloc|apply pw_below_drewN|apply below_drew1|refine below_set ?_ (IsS73.ge HI0.out))|exact HB.out),kk⟩
       ·skip
        have c10b0:(t222.toList == ([]:List UInt8))=false:=beq_eq_false_iff_ne.mpr c10
        have c10b1:(t222.toList != ([]:List UInt8))=true:=bne_iff_ne.mpr c10
        replace H:=bndO H
        obtain⟨⟨t226,t227,t228,t229⟩,A120,H⟩:=H
        dsimp only at H
        have A12:=Aside0.mk A120
        clear A120
        by_cases c13:t227=true
        ·subst c13
         replace H:=itT H
         simp only [Option.some.injEq,Prod.mk.injEq] at H
         obtain⟨rfl,rfl,rfl,rfl,rfl⟩:=H
         go_wp2_with (first|((with_reducible refine gate_callee (f:=50) rfl ?_);refine goesL_ (some 34) rfl rfl Tryd.func50 (by kernel_rfl) rfl #[.pointer (some ⟨g,0,none⟩)] rfl (by(try simp only [List.map_toArray,List.map_cons,List.map_nil]);first|done|rfl|(simp only [List.length_drop,List.length_take];rfl)) ?_;(with_reducible refine(reply_reader_line.calls g t224 t225 t226 true t228 t229 w0 _ ?side1 ?side2 (by first|exact hG|exact gok_below hG (by repeat (first|(with_reducible first|exact HB.out|apply below_alloc|apply pw_below_drewN|apply below_drew1|refine below_set ?_ (IsS73.ge HI0.out))|exact HB.out))|exact gok_heap hG rfl|exact gok_drewN hG _|exact gok_below hG (by repeat (first|exact HB.out|exact HBW.out|exact Below.refl _ _|apply below_alloc|apply pw_below_drewN|apply below_drew1))) A12.out).mono ?_);(case side1=>repeat (first|(with_reducible first|exact HI0.out|apply IsS73.alloc|apply IsS73.drewN|apply IsS73.drew|apply IsS73.set_0|apply IsS73.set_1)|exact HI0.out));(case side2=>repeat (first|(with_reducible first|exact HB.out|apply below_alloc|apply pw_below_drewN|apply below_drew1|refine below_set ?_ (IsS73.ge HI0.out))|exact HB.out));rintro e w14 ⟨rfl,hi,hb,hk⟩;refine⟨_,rfl,?_⟩;have n0_:=Aside0.mk (Kd.R_mono (Kd.R_keep (IsS73.apart (show IsS73 w0 _ g t224 t225 from by repeat (first|(with_reducible first|exact HI0.out|apply IsS73.alloc|apply IsS73.drewN|apply IsS73.drew|apply IsS73.set_0|apply IsS73.set_1)|exact HI0.out)) (by(with_reducible repeat (first|apply Kd.R_alloc|apply Kd.R_drewN|apply Kd.R_drew));exact HO_4.out) (by decide)) hk (fun _ h=>h.2)) (fun _ h=>h.1));have n1_:=Aside0.mk (KeepBut.trans kk hk (.inl rfl));have n2_:=Aside0.mk (hb);have n3_:=Aside0.mk (hi);clear HO_4;clear HK;clear HB;clear HI0;have HO_4:=n0_;have HK:=n1_;have HB:=n2_;have HI0:=n3_;clear n0_ n1_ n2_ n3_;(try clear hb);(try clear hb2);(try clear hk);(try clear hi)))
         go_ret3
         exact⟨_,by first|rfl|(simp [errW_none,errW_some] <;> rfl)|(simp [*,errW_none,errW_some] <;> rfl),by(with_reducible repeat (first|apply Kd.R_alloc|apply Kd.R_drewN|apply Kd.R_drew));exact HO_4.out,by repeat (first|(with_reducible first|exact HI0.out|apply IsS73.alloc|apply IsS73.drewN|apply IsS73.drew|apply IsS73.set_0|apply IsS73.set_1)|exact HI0.out),by repeat (first|(with_reducible first|exact HB.out|apply below_alloc|apply pw_below_drewN|apply below_drew1|refine below_set ?_ (IsS73.ge HI0.out))|exact HB.out),kk⟩
        ·replace c13:=Bool.eq_false_iff.mpr c13
         subst c13
         replace H:=itF H
         simp only [Option.some.injEq,Prod.mk.injEq] at H
         obtain⟨rfl,rfl,rfl,rfl,rfl⟩:=H
         go_wp2_with (first|((with_reducible refine gate_callee (f:=50) rfl ?_);refine goesL_ (some 34) rfl rfl Tryd.func50 (by kernel_rfl) rfl #[.pointer (some ⟨g,0,none⟩)] rfl (by(try simp only [List.map_toArray,List.map_cons,List.map_nil]);first|done|rfl|(simp only [List.length_drop,List.length_take];rfl)) ?_;(with_reducible refine(reply_reader_line.calls g t224 t225 t226 false t228 t229 w0 _ ?side1 ?side2 (by first|exact hG|exact gok_below hG (by repeat (first|(with_reducible first|exact HB.out|apply below_alloc|apply pw_below_drewN|apply below_drew1|refine below_set ?_ (IsS73.ge HI0.out))|exact HB.out))|exact gok_heap hG rfl|exact gok_drewN hG _|exact gok_below hG (by repeat (first|exact HB.out|exact HBW.out|exact Below.refl _ _|apply below_alloc|apply pw_below_drewN|apply below_drew1))) A12.out).mono ?_);(case side1=>repeat (first|(with_reducible first|exact HI0.out|apply IsS73.alloc|apply IsS73.drewN|apply IsS73.drew|apply IsS73.set_0|apply IsS73.set_1)|exact HI0.out));(case side2=>repeat (first|(with_reducible first|exact HB.out|apply below_alloc|apply pw_below_drewN|apply below_drew1|refine below_set ?_ (IsS73.ge HI0.out))|exact HB.out));rintro e w15 ⟨rfl,hi,hb,hk⟩;refine⟨_,rfl,?_⟩;have n0_:=Aside0.mk (Kd.R_mono (Kd.R_keep (IsS73.apart (show IsS73 w0 _ g t224 t225 from by repeat (first|(with_reducible first|exact HI0.out|apply IsS73.alloc|apply IsS73.drewN|apply IsS73.drew|apply IsS73.set_0|apply IsS73.set_1)|exact HI0.out)) (by(with_reducible repeat (first|apply Kd.R_alloc|apply Kd.R_drewN|apply Kd.R_drew));exact HO_4.out) (by decide)) hk (fun _ h=>h.2)) (fun _ h=>h.1));have n1_:=Aside0.mk (KeepBut.trans kk hk (.inl rfl));have n2_:=Aside0.mk (hb);have n3_:=Aside0.mk (hi);clear HO_4;clear HK;clear HB;clear HI0;have HO_4:=n0_;have HK:=n1_;have HB:=n2_;have HI0:=n3_;clear n0_ n1_ n2_ n3_;(try clear hb);(try clear hb2);(try clear hk);(try clear hi)))
         go_ret3
         exact⟨_,by first|rfl|(simp [errW_none,errW_some] <;> rfl)|(simp [*,errW_none,errW_some] <;> rfl),by(with_reducible repeat (first|apply Kd.R_alloc|apply Kd.R_drewN|apply Kd.R_drew));exact HO_4.out,by repeat (first|(with_reducible first|exact HI0.out|apply IsS73.alloc|apply IsS73.drewN|apply IsS73.drew|apply IsS73.set_0|apply IsS73.set_1)|exact HI0.out),by repeat (first|(with_reducible first|exact HB.out|apply below_alloc|apply pw_below_drewN|apply below_drew1|refine below_set ?_ (IsS73.ge HI0.out))|exact HB.out),kk⟩
      ·replace c9:=Bool.eq_false_iff.mpr c9
       subst c9
       replace H:=itF H
       replace H:=bndO H
       obtain⟨⟨t230,t231,t232⟩,A160,H⟩:=H
       dsimp only at H
       have A16:=Aside0.mk A160
       clear A160
       have HC17:=Aside0.mk H
       clear H
       go_upto_region 9 with(first|((with_reducible refine gate_callee (f:=54) rfl ?_);refine goesL_ (some 45) rfl rfl Tryd.func54 (by kernel_rfl) rfl #[.string t222,.string (⟨#[58,32]⟩ : ByteArray)] rfl (by(try simp only [List.map_toArray,List.map_cons,List.map_nil]);first|done|rfl|(simp only [List.length_drop,List.length_take];rfl)) ?_;(with_reducible refine(strings_Cut.calls t222 (⟨#[58,32]⟩ : ByteArray) t230 t231 t232 _ (by first|exact hG|exact gok_below hG (by repeat (first|(with_reducible first|exact HB.out|apply below_alloc|apply pw_below_drewN|apply below_drew1|refine below_set ?_ (IsS73.ge HI0.out))|exact HB.out))|exact gok_heap hG rfl|exact gok_drewN hG _|exact gok_below hG (by repeat (first|exact HB.out|exact HBW.out|exact Below.refl _ _|apply below_alloc|apply pw_below_drewN|apply below_drew1))) A16.out).mono ?_);rintro e w' ⟨rfl,⟨nd,rfl⟩⟩;refine⟨_,rfl,?_⟩))
       (try simp only [Act.put,List.setIfInBounds_toArray,List.set_cons_zero,List.set_cons_succ])
       go_cut [60] (fun v60 wc=>∃ (kq:Nat) (x60_16:Bool),v60 = .bool x60_16∧Aside0 (reply_reader_headers.j2 kq a1 x4_1 t230 t231 x60_16 t224 t225=some (r1,r2,r3,r4,r5))∧Aside0 (kq≤kj4)∧Aside0 (Kd.R k52 52 wc w.heap.size (fun _=>True) u4 x4_1)∧Aside0 (IsS73 w0 wc g t224 t225)∧Aside0 (KeepBut w wc g none)∧Aside0 (Below w0.heap.size w0 wc))
       case first=>
        have H:=HC17.out
        clear HC17
        by_cases c18:t232=true
        ·subst c18
         replace H:=itT H
         replace H:=bndO H
         obtain⟨t233,A190,H⟩:=H
         have A19:=Aside0.mk A190
         clear A190
         by_cases c20:t233=true
         ·subst c20
          replace H:=itT H
          replace H:=bndO H
          obtain⟨t234,A210,H⟩:=H
          have A21:=Aside0.mk A210
          clear A210
          have H':=Aside0.mk H
          clear H
          go_wp2_with (first|(go_at_call 55;(with_reducible refine(chars_Token.calls kj4 t230 true _ A19.out).mono ?_);rintro e w' ⟨rfl,⟨nd,rfl⟩⟩)|(go_at_call 56;(with_reducible refine(reply_may.calls kj4 t231 t234 _ A21.out).mono ?_);rintro e w' ⟨rfl,⟨nd,rfl⟩⟩))
          go_meet
          case rel=>exact⟨_,(!t234),(by first|rfl|(simp;done)|(simp [*];done)),H',⟨by have:=HK1.out;have:=HJ4.out;first|omega|exact Nat.le_refl _⟩,⟨by(with_reducible repeat (first|apply Kd.R_alloc|apply Kd.R_drewN|apply Kd.R_drew));exact HO_4.out⟩,⟨by repeat (first|(with_reducible first|exact HI0.out|apply IsS73.alloc|apply IsS73.drewN|apply IsS73.drew|apply IsS73.set_0|apply IsS73.set_1)|exact HI0.out)⟩,⟨kk⟩,⟨by repeat (first|(with_reducible first|exact HB.out|apply below_alloc|apply pw_below_drewN|apply below_drew1|refine below_set ?_ (IsS73.ge HI0.out))|exact HB.out)⟩⟩
         ·replace c20:=Bool.eq_false_iff.mpr c20
          subst c20
          replace H:=itF H
          have H':=Aside0.mk H
          clear H
          go_wp2_with (first|(go_at_call 55;(with_reducible refine(chars_Token.calls kj4 t230 false _ A19.out).mono ?_);rintro e w' ⟨rfl,⟨nd,rfl⟩⟩))
          go_meet
          case rel=>exact⟨_,(true),(by first|rfl|(simp;done)|(simp [*];done)),H',⟨by have:=HK1.out;have:=HJ4.out;first|omega|exact Nat.le_refl _⟩,⟨by(with_reducible repeat (first|apply Kd.R_alloc|apply Kd.R_drewN|apply Kd.R_drew));exact HO_4.out⟩,⟨by repeat (first|(with_reducible first|exact HI0.out|apply IsS73.alloc|apply IsS73.drewN|apply IsS73.drew|apply IsS73.set_0|apply IsS73.set_1)|exact HI0.out)⟩,⟨kk⟩,⟨by repeat (first|(with_reducible first|exact HB.out|apply below_alloc|apply pw_below_drewN|apply below_drew1|refine below_set ?_ (IsS73.ge HI0.out))|exact HB.out)⟩⟩
        ·replace c18:=Bool.eq_false_iff.mpr c18
         subst c18
         replace H:=itF H
         have H':=Aside0.mk H
         clear H
         go_wp2
         go_meet
         case rel=>exact⟨_,(true),(by first|rfl|(simp;done)|(simp [*];done)),H',⟨by have:=HK1.out;have:=HJ4.out;first|omega|exact Nat.le_refl _⟩,⟨by(with_reducible repeat (first|apply Kd.R_alloc|apply Kd.R_drewN|apply Kd.R_drew));exact HO_4.out⟩,⟨by repeat (first|(with_reducible first|exact HI0.out|apply IsS73.alloc|apply IsS73.drewN|apply IsS73.drew|apply IsS73.set_0|apply IsS73.set_1)|exact HI0.out)⟩,⟨kk⟩,⟨by repeat (first|(with_reducible first|exact HB.out|apply below_alloc|apply pw_below_drewN|apply below_drew1|refine below_set ?_ (IsS73.ge HI0.out))|exact HB.out)⟩⟩
       case rest=>
        clear HC17
        try clear c1
        try clear c2
        try clear p2
        try clear c3
        try clear c4
        try clear c5
        try clear c7
        try clear c8
        try clear c8b0
        try clear c8b1
        try clear c9
        try clear c10
        try clear c10b0
        try clear c10b1
        try clear c13
        try clear c18
        try clear c20
        try clear p2
        obtain⟨kq,x60_16,rfl,HA,HJ16,HO_4,HI0,HK,HB⟩:=hcut
        cases kq with
        | zero=>exact absurd HA.out (by simp [reply_reader_headers.j2])
        | succ kj16=>
         have H:=HA.out
         clear HA
         simp only [reply_reader_headers.j2] at H
         by_cases c22:x60_16=true
         ·subst c22
          replace H:=itT H
          simp only [Option.some.injEq,Prod.mk.injEq] at H
          obtain⟨rfl,rfl,rfl,rfl,rfl⟩:=H
          go_wp2
          go_ret3
          exact⟨_,by first|rfl|(simp [errW_none,errW_some] <;> rfl)|(simp [*,errW_none,errW_some] <;> rfl),by first|exact Kd.R_nil _ _ _ _ _|exact Kd.N_nil _ _ _ _ _|exact Kd.V_nil _ _ _ _ _|exact Kd.Q_nil _ _ _ _ _|exact Kd.S_nil _ _ _ _ _,by repeat (first|(with_reducible first|exact HI0.out|apply IsS73.alloc|apply IsS73.drewN|apply IsS73.drew|apply IsS73.set_0|apply IsS73.set_1)|exact HI0.out),by repeat (first|(with_reducible first|exact HB.out|apply below_alloc|apply pw_below_drewN|apply below_drew1|refine below_set ?_ (IsS73.ge HI0.out))|exact HB.out),kk⟩
         ·replace c22:=Bool.eq_false_iff.mpr c22
          subst c22
          replace H:=itF H
          have HC23:=Aside0.mk H
          clear H
          go_upto_region 11 with(fail)
          go_cut [66] (fun v66 wc=>∃ (kq:Nat) (x66_22:Bool),v66 = .bool x66_22∧Aside0 (reply_reader_headers.j3 kq a1 x4_1 t230 t231 x66_22 t224 t225=some (r1,r2,r3,r4,r5))∧Aside0 (kq≤kj16)∧Aside0 (Kd.R k52 52 wc w.heap.size (fun _=>True) u4 x4_1)∧Aside0 (IsS73 w0 wc g t224 t225)∧Aside0 (KeepBut w wc g none)∧Aside0 (Below w0.heap.size w0 wc))
          case first=>
           have H:=HC23.out
           clear HC23
           replace H:=itO H
           rcases H with⟨c24,H⟩|⟨c24,H⟩
           ·skip
            have c24b0:(t230.toList == ([67,111,110,116,101,110,116,45,76,101,110,103,116,104]:List UInt8))=true:=beq_iff_eq.mpr c24
            have c24b1:(t230.toList != ([67,111,110,116,101,110,116,45,76,101,110,103,116,104]:List UInt8))=false:=bne_eq_false_iff_eq.mpr c24
            clear c24
            (first|rw [c24b0]|(simp only [i64_w,i32_w];rw [c24b0])|skip)
            have H':=Aside0.mk H
            clear H
            go_wp2
            go_meet
            case rel=>exact⟨_,(!a1),(by first|rfl|(simp;done)|(simp [*];done)),H',⟨by have:=HK1.out;have:=HJ4.out;have:=HJ16.out;first|omega|exact Nat.le_refl _⟩,⟨by(with_reducible repeat (first|apply Kd.R_alloc|apply Kd.R_drewN|apply Kd.R_drew));exact HO_4.out⟩,⟨by repeat (first|(with_reducible first|exact HI0.out|apply IsS73.alloc|apply IsS73.drewN|apply IsS73.drew|apply IsS73.set_0|apply IsS73.set_1)|exact HI0.out)⟩,⟨kk⟩,⟨by repeat (first|(with_reducible first|exact HB.out|apply below_alloc|apply pw_below_drewN|apply below_drew1|refine below_set ?_ (IsS73.ge HI0.out))|exact HB.out)⟩⟩
           ·skip
            have c24b0:(t230.toList == ([67,111,110,116,101,110,116,45,76,101,110,103,116,104]:List UInt8))=false:=beq_eq_false_iff_ne.mpr c24
            have c24b1:(t230.toList != ([67,111,110,116,101,110,116,45,76,101,110,103,116,104]:List UInt8))=true:=bne_iff_ne.mpr c24
            (first|rw [c24b0]|(simp only [i64_w,i32_w];rw [c24b0])|skip)
            have H':=Aside0.mk H
            clear H
            go_wp2
            go_meet
            case rel=>exact⟨_,(false),(by first|rfl|(simp;done)|(simp [*];done)),H',⟨by have:=HK1.out;have:=HJ4.out;have:=HJ16.out;first|omega|exact Nat.le_refl _⟩,⟨by(with_reducible repeat (first|apply Kd.R_alloc|apply Kd.R_drewN|apply Kd.R_drew));exact HO_4.out⟩,⟨by repeat (first|(with_reducible first|exact HI0.out|apply IsS73.alloc|apply IsS73.drewN|apply IsS73.drew|apply IsS73.set_0|apply IsS73.set_1)|exact HI0.out)⟩,⟨kk⟩,⟨by repeat (first|(with_reducible first|exact HB.out|apply below_alloc|apply pw_below_drewN|apply below_drew1|refine below_set ?_ (IsS73.ge HI0.out))|exact HB.out)⟩⟩
          case rest=>
           clear HC23
           try clear c1
           try clear c2
           try clear p2
           try clear c3
           try clear c4
           try clear c5
           try clear c7
           try clear c8
           try clear c8b0
           try clear c8b1
           try clear c9
           try clear c10
           try clear c10b0
           try clear c10b1
           try clear c13
           try clear c18
           try clear c20
           try clear c22
           try clear c24
           try clear c24b0
           try clear c24b1
           try clear p2
           obtain⟨kq,x66_22,rfl,HA,HJ22,HO_4,HI0,HK,HB⟩:=hcut
           cases kq with
           | zero=>exact absurd HA.out (by simp [reply_reader_headers.j3])
           | succ kj22=>
            have H:=HA.out
            clear HA
            simp only [reply_reader_headers.j3] at H
            by_cases c25:x66_22=true
            ·subst c25
             replace H:=itT H
             replace H:=bndO H
             obtain⟨⟨t235,t236⟩,A260,H⟩:=H
             dsimp only at H
             have A26:=Aside0.mk A260
             clear A260
             replace H:=bndO H
             obtain⟨⟨t237,t238,t239,t240⟩,A270,H⟩:=H
             dsimp only at H
             have A27:=Aside0.mk A270
             clear A270
             have HC28:=Aside0.mk H
             clear H
             go_upto_region 14 with(first|((with_reducible refine gate_callee (f:=51) rfl ?_);refine goesL_ (some 69) rfl rfl Tryd.func51 (by kernel_rfl) rfl #[.string t231] rfl (by(try simp only [List.map_toArray,List.map_cons,List.map_nil]);first|done|rfl|(simp only [List.length_drop,List.length_take];rfl)) ?_;(with_reducible refine(enc_Int.calls kj22 t231 t235 t236 _ A26.out).mono ?_);rintro e w' ⟨rfl,⟨nd,rfl⟩⟩;refine⟨_,rfl,?_⟩)|((with_reducible refine gate_callee (f:=50) rfl ?_);refine goesL_ (some 74) rfl rfl Tryd.func50 (by kernel_rfl) rfl #[.pointer (some ⟨g,0,none⟩)] rfl (by(try simp only [List.map_toArray,List.map_cons,List.map_nil]);first|done|rfl|(simp only [List.length_drop,List.length_take];rfl)) ?_;(with_reducible refine(reply_reader_line.calls g t224 t225 t237 t238 t239 t240 w0 _ ?side1 ?side2 (by first|exact hG|exact gok_below hG (by repeat (first|(with_reducible first|exact HB.out|apply below_alloc|apply pw_below_drewN|apply below_drew1|refine below_set ?_ (IsS73.ge HI0.out))|exact HB.out))|exact gok_heap hG rfl|exact gok_drewN hG _|exact gok_below hG (by repeat (first|exact HB.out|exact HBW.out|exact Below.refl _ _|apply below_alloc|apply pw_below_drewN|apply below_drew1))) A27.out).mono ?_);(case side1=>repeat (first|(with_reducible first|exact HI0.out|apply IsS73.alloc|apply IsS73.drewN|apply IsS73.drew|apply IsS73.set_0|apply IsS73.set_1)|exact HI0.out));(case side2=>repeat (first|(with_reducible first|exact HB.out|apply below_alloc|apply pw_below_drewN|apply below_drew1|refine below_set ?_ (IsS73.ge HI0.out))|exact HB.out));rintro e w29 ⟨rfl,hi,hb,hk⟩;refine⟨_,rfl,?_⟩;have n0_:=Aside0.mk (Kd.R_mono (Kd.R_keep (IsS73.apart (show IsS73 w0 _ g t224 t225 from by repeat (first|(with_reducible first|exact HI0.out|apply IsS73.alloc|apply IsS73.drewN|apply IsS73.drew|apply IsS73.set_0|apply IsS73.set_1)|exact HI0.out)) (by(with_reducible repeat (first|apply Kd.R_alloc|apply Kd.R_drewN|apply Kd.R_drew));exact HO_4.out) (by decide)) hk (fun _ h=>h.2)) (fun _ h=>h.1));have n1_:=Aside0.mk (KeepBut.trans kk hk (.inl rfl));have n2_:=Aside0.mk (hb);have n3_:=Aside0.mk (hi);clear HO_4;clear HK;clear HB;clear HI0;have HO_4:=n0_;have HK:=n1_;have HB:=n2_;have HI0:=n3_;clear n0_ n1_ n2_ n3_;(try clear hb);(try clear hb2);(try clear hk);(try clear hi)))
             (try simp only [Act.put,List.setIfInBounds_toArray,List.set_cons_zero,List.set_cons_succ])
             go_cut [81] (fun v81 wc=>∃ (kq:Nat) (x81_27:Bool),v81 = .bool x81_27∧Aside0 (reply_reader_headers.j4 kq x4_1 t237 t238 t235 t236 x81_27 t239 t240=some (r1,r2,r3,r4,r5))∧Aside0 (kq≤kj22)∧Aside0 (Kd.R k52 52 wc w.heap.size (fun _=>True) u4 x4_1)∧Aside0 (IsS73 w0 wc g t239 t240)∧Aside0 (KeepBut w wc g none)∧Aside0 (Below w0.heap.size w0 wc))
             case first=>
              have H:=HC28.out
              clear HC28
              by_cases c30:t238=true
              ·subst c30
               replace H:=itT H
               have H':=Aside0.mk H
               clear H
               go_wp2
               go_meet
               case rel=>exact⟨_,((t237.toList == ([67,111,110,110,101,99,116,105,111,110,58,32,99,108,111,115,101]:List UInt8))),(by first|rfl|(simp;done)|(simp [*];done)),H',⟨by have:=HK1.out;have:=HJ4.out;have:=HJ16.out;have:=HJ22.out;first|omega|exact Nat.le_refl _⟩,⟨by(with_reducible repeat (first|apply Kd.R_alloc|apply Kd.R_drewN|apply Kd.R_drew));exact HO_4.out⟩,⟨by repeat (first|(with_reducible first|exact HI0.out|apply IsS73.alloc|apply IsS73.drewN|apply IsS73.drew|apply IsS73.set_0|apply IsS73.set_1)|exact HI0.out)⟩,⟨kk⟩,⟨by repeat (first|(with_reducible first|exact HB.out|apply below_alloc|apply pw_below_drewN|apply below_drew1|refine below_set ?_ (IsS73.ge HI0.out))|exact HB.out)⟩⟩
              ·replace c30:=Bool.eq_false_iff.mpr c30
               subst c30
               replace H:=itF H
               have H':=Aside0.mk H
               clear H
               go_wp2
               go_meet
               case rel=>exact⟨_,(false),(by first|rfl|(simp;done)|(simp [*];done)),H',⟨by have:=HK1.out;have:=HJ4.out;have:=HJ16.out;have:=HJ22.out;first|omega|exact Nat.le_refl _⟩,⟨by(with_reducible repeat (first|apply Kd.R_alloc|apply Kd.R_drewN|apply Kd.R_drew));exact HO_4.out⟩,⟨by repeat (first|(with_reducible first|exact HI0.out|apply IsS73.alloc|apply IsS73.drewN|apply IsS73.drew|apply IsS73.set_0|apply IsS73.set_1)|exact HI0.out)⟩,⟨kk⟩,⟨by repeat (first|(with_reducible first|exact HB.out|apply below_alloc|apply pw_below_drewN|apply below_drew1|refine below_set ?_ (IsS73.ge HI0.out))|exact HB.out)⟩⟩
             case rest=>
              clear HC28
              try clear c1
              try clear c2
              try clear p2
              try clear c3
              try clear c4
              try clear c5
              try clear c7
              try clear c8
              try clear c8b0
              try clear c8b1
              try clear c9
              try clear c10
              try clear c10b0
              try clear c10b1
              try clear c13
              try clear c18
              try clear c20
              try clear c22
              try clear c24
              try clear c24b0
              try clear c24b1
              try clear c25
              try clear c30
              try clear p2
              obtain⟨kq,x81_27,rfl,HA,HJ27,HO_4,HI0,HK,HB⟩:=hcut
              cases kq with
              | zero=>exact absurd HA.out (by simp [reply_reader_headers.j4])
              | succ kj27=>
               have H:=HA.out
               clear HA
               simp only [reply_reader_headers.j4] at H
               by_cases c31:x81_27=true
               ·subst c31
                replace H:=itT H
                replace H:=bndO H
                obtain⟨⟨t241,t242,t243,t244⟩,A320,H⟩:=H
                dsimp only at H
                have A32:=Aside0.mk A320
                clear A320
                by_cases c33:t236=true
                ·subst c33
                 replace H:=itT H
                 by_cases c34:t242=true
                 ·subst c34
                  replace H:=itT H
                  simp only [Option.some.injEq,Prod.mk.injEq] at H
                  obtain⟨rfl,rfl,rfl,rfl,rfl⟩:=H
                  go_wp2_with (first|((with_reducible refine gate_callee (f:=50) rfl ?_);refine goesL_ (some 84) rfl rfl Tryd.func50 (by kernel_rfl) rfl #[.pointer (some ⟨g,0,none⟩)] rfl (by(try simp only [List.map_toArray,List.map_cons,List.map_nil]);first|done|rfl|(simp only [List.length_drop,List.length_take];rfl)) ?_;(with_reducible refine(reply_reader_line.calls g t239 t240 t241 true t243 t244 w0 _ ?side1 ?side2 (by first|exact hG|exact gok_below hG (by repeat (first|(with_reducible first|exact HB.out|apply below_alloc|apply pw_below_drewN|apply below_drew1|refine below_set ?_ (IsS73.ge HI0.out))|exact HB.out))|exact gok_heap hG rfl|exact gok_drewN hG _|exact gok_below hG (by repeat (first|exact HB.out|exact HBW.out|exact Below.refl _ _|apply below_alloc|apply pw_below_drewN|apply below_drew1))) A32.out).mono ?_);(case side1=>repeat (first|(with_reducible first|exact HI0.out|apply IsS73.alloc|apply IsS73.drewN|apply IsS73.drew|apply IsS73.set_0|apply IsS73.set_1)|exact HI0.out));(case side2=>repeat (first|(with_reducible first|exact HB.out|apply below_alloc|apply pw_below_drewN|apply below_drew1|refine below_set ?_ (IsS73.ge HI0.out))|exact HB.out));rintro e w35 ⟨rfl,hi,hb,hk⟩;refine⟨_,rfl,?_⟩;have n0_:=Aside0.mk (Kd.R_mono (Kd.R_keep (IsS73.apart (show IsS73 w0 _ g t239 t240 from by repeat (first|(with_reducible first|exact HI0.out|apply IsS73.alloc|apply IsS73.drewN|apply IsS73.drew|apply IsS73.set_0|apply IsS73.set_1)|exact HI0.out)) (by(with_reducible repeat (first|apply Kd.R_alloc|apply Kd.R_drewN|apply Kd.R_drew));exact HO_4.out) (by decide)) hk (fun _ h=>h.2)) (fun _ h=>h.1));have n1_:=Aside0.mk (KeepBut.trans kk hk (.inl rfl));have n2_:=Aside0.mk (hb);have n3_:=Aside0.mk (hi);clear HO_4;clear HK;clear HB;clear HI0;have HO_4:=n0_;have HK:=n1_;have HB:=n2_;have HI0:=n3_;clear n0_ n1_ n2_ n3_;(try clear hb);(try clear hb2);(try clear hk);(try clear hi)))
                  go_ret3
                  exact⟨_,by first|rfl|(simp [errW_none,errW_some] <;> rfl)|(simp [*,errW_none,errW_some] <;> rfl),by(with_reducible repeat (first|apply Kd.R_alloc|apply Kd.R_drewN|apply Kd.R_drew));exact HO_4.out,by repeat (first|(with_reducible first|exact HI0.out|apply IsS73.alloc|apply IsS73.drewN|apply IsS73.drew|apply IsS73.set_0|apply IsS73.set_1)|exact HI0.out),by repeat (first|(with_reducible first|exact HB.out|apply below_alloc|apply pw_below_drewN|apply below_drew1|refine below_set ?_ (IsS73.ge HI0.out))|exact HB.out),kk⟩
                 ·replace c34:=Bool.eq_false_iff.mpr c34
                  subst c34
                  replace H:=itF H
                  simp only [Option.some.injEq,Prod.mk.injEq] at H
                  obtain⟨rfl,rfl,rfl,rfl,rfl⟩:=H
                  go_wp2_with (first|((with_reducible refine gate_callee (f:=50) rfl ?_);refine goesL_ (some 84) rfl rfl Tryd.func50 (by kernel_rfl) rfl #[.pointer (some ⟨g,0,none⟩)] rfl (by(try simp only [List.map_toArray,List.map_cons,List.map_nil]);first|done|rfl|(simp only [List.length_drop,List.length_take];rfl)) ?_;(with_reducible refine(reply_reader_line.calls g t239 t240 t241 false t243 t244 w0 _ ?side1 ?side2 (by first|exact hG|exact gok_below hG (by repeat (first|(with_reducible first|exact HB.out|apply below_alloc|apply pw_below_drewN|apply below_drew1|refine below_set ?_ (IsS73.ge HI0.out))|exact HB.out))|exact gok_heap hG rfl|exact gok_drewN hG _|exact gok_below hG (by repeat (first|exact HB.out|exact HBW.out|exact Below.refl _ _|apply below_alloc|apply pw_below_drewN|apply below_drew1))) A32.out).mono ?_);(case side1=>repeat (first|(with_reducible first|exact HI0.out|apply IsS73.alloc|apply IsS73.drewN|apply IsS73.drew|apply IsS73.set_0|apply IsS73.set_1)|exact HI0.out));(case side2=>repeat (first|(with_reducible first|exact HB.out|apply below_alloc|apply pw_below_drewN|apply below_drew1|refine below_set ?_ (IsS73.ge HI0.out))|exact HB.out));rintro e w36 ⟨rfl,hi,hb,hk⟩;refine⟨_,rfl,?_⟩;have n0_:=Aside0.mk (Kd.R_mono (Kd.R_keep (IsS73.apart (show IsS73 w0 _ g t239 t240 from by repeat (first|(with_reducible first|exact HI0.out|apply IsS73.alloc|apply IsS73.drewN|apply IsS73.drew|apply IsS73.set_0|apply IsS73.set_1)|exact HI0.out)) (by(with_reducible repeat (first|apply Kd.R_alloc|apply Kd.R_drewN|apply Kd.R_drew));exact HO_4.out) (by decide)) hk (fun _ h=>h.2)) (fun _ h=>h.1));have n1_:=Aside0.mk (KeepBut.trans kk hk (.inl rfl));have n2_:=Aside0.mk (hb);have n3_:=Aside0.mk (hi);clear HO_4;clear HK;clear HB;clear HI0;have HO_4:=n0_;have HK:=n1_;have HB:=n2_;have HI0:=n3_;clear n0_ n1_ n2_ n3_;(try clear hb);(try clear hb2);(try clear hk);(try clear hi)))
                  go_ret3
                  exact⟨_,by first|rfl|(simp [errW_none,errW_some] <;> rfl)|(simp [*,errW_none,errW_some] <;> rfl),by(with_reducible repeat (first|apply Kd.R_alloc|apply Kd.R_drewN|apply Kd.R_drew));exact HO_4.out,by repeat (first|(with_reducible first|exact HI0.out|apply IsS73.alloc|apply IsS73.drewN|apply IsS73.drew|apply IsS73.set_0|apply IsS73.set_1)|exact HI0.out),by repeat (first|(with_reducible first|exact HB.out|apply below_alloc|apply pw_below_drewN|apply below_drew1|refine below_set ?_ (IsS73.ge HI0.out))|exact HB.out),kk⟩
                ·replace c33:=Bool.eq_false_iff.mpr c33
                 subst c33
                 replace H:=itF H
                 simp only [Option.some.injEq,Prod.mk.injEq] at H
                 obtain⟨rfl,rfl,rfl,rfl,rfl⟩:=H
                 go_wp2_with (first|((with_reducible refine gate_callee (f:=50) rfl ?_);refine goesL_ (some 84) rfl rfl Tryd.func50 (by kernel_rfl) rfl #[.pointer (some ⟨g,0,none⟩)] rfl (by(try simp only [List.map_toArray,List.map_cons,List.map_nil]);first|done|rfl|(simp only [List.length_drop,List.length_take];rfl)) ?_;(with_reducible refine(reply_reader_line.calls g t239 t240 t241 t242 t243 t244 w0 _ ?side1 ?side2 (by first|exact hG|exact gok_below hG (by repeat (first|(with_reducible first|exact HB.out|apply below_alloc|apply pw_below_drewN|apply below_drew1|refine below_set ?_ (IsS73.ge HI0.out))|exact HB.out))|exact gok_heap hG rfl|exact gok_drewN hG _|exact gok_below hG (by repeat (first|exact HB.out|exact HBW.out|exact Below.refl _ _|apply below_alloc|apply pw_below_drewN|apply below_drew1))) A32.out).mono ?_);(case side1=>repeat (first|(with_reducible first|exact HI0.out|apply IsS73.alloc|apply IsS73.drewN|apply IsS73.drew|apply IsS73.set_0|apply IsS73.set_1)|exact HI0.out));(case side2=>repeat (first|(with_reducible first|exact HB.out|apply below_alloc|apply pw_below_drewN|apply below_drew1|refine below_set ?_ (IsS73.ge HI0.out))|exact HB.out));rintro e w37 ⟨rfl,hi,hb,hk⟩;refine⟨_,rfl,?_⟩;have n0_:=Aside0.mk (Kd.R_mono (Kd.R_keep (IsS73.apart (show IsS73 w0 _ g t239 t240 from by repeat (first|(with_reducible first|exact HI0.out|apply IsS73.alloc|apply IsS73.drewN|apply IsS73.drew|apply IsS73.set_0|apply IsS73.set_1)|exact HI0.out)) (by(with_reducible repeat (first|apply Kd.R_alloc|apply Kd.R_drewN|apply Kd.R_drew));exact HO_4.out) (by decide)) hk (fun _ h=>h.2)) (fun _ h=>h.1));have n1_:=Aside0.mk (KeepBut.trans kk hk (.inl rfl));have n2_:=Aside0.mk (hb);have n3_:=Aside0.mk (hi);clear HO_4;clear HK;clear HB;clear HI0;have HO_4:=n0_;have HK:=n1_;have HB:=n2_;have HI0:=n3_;clear n0_ n1_ n2_ n3_;(try clear hb);(try clear hb2);(try clear hk);(try clear hi)))
                 go_ret3
                 exact⟨_,by first|rfl|(simp [errW_none,errW_some] <;> rfl)|(simp [*,errW_none,errW_some] <;> rfl),by(with_reducible repeat (first|apply Kd.R_alloc|apply Kd.R_drewN|apply Kd.R_drew));exact HO_4.out,by repeat (first|(with_reducible first|exact HI0.out|apply IsS73.alloc|apply IsS73.drewN|apply IsS73.drew|apply IsS73.set_0|apply IsS73.set_1)|exact HI0.out),by repeat (first|(with_reducible first|exact HB.out|apply below_alloc|apply pw_below_drewN|apply below_drew1|refine below_set ?_ (IsS73.ge HI0.out))|exact HB.out),kk⟩
               ·replace c31:=Bool.eq_false_iff.mpr c31
                subst c31
                replace H:=itF H
                by_cases c38:t236=true
                ·subst c38
                 replace H:=itT H
                 by_cases c39:t238=true
                 ·subst c39
                  replace H:=itT H
                  simp only [Option.some.injEq,Prod.mk.injEq] at H
                  obtain⟨rfl,rfl,rfl,rfl,rfl⟩:=H
                  go_wp2
                  go_ret3
                  exact⟨_,by first|rfl|(simp [errW_none,errW_some] <;> rfl)|(simp [*,errW_none,errW_some] <;> rfl),by(with_reducible repeat (first|apply Kd.R_alloc|apply Kd.R_drewN|apply Kd.R_drew));exact HO_4.out,by repeat (first|(with_reducible first|exact HI0.out|apply IsS73.alloc|apply IsS73.drewN|apply IsS73.drew|apply IsS73.set_0|apply IsS73.set_1)|exact HI0.out),by repeat (first|(with_reducible first|exact HB.out|apply below_alloc|apply pw_below_drewN|apply below_drew1|refine below_set ?_ (IsS73.ge HI0.out))|exact HB.out),kk⟩
                 ·replace c39:=Bool.eq_false_iff.mpr c39
                  subst c39
                  replace H:=itF H
                  simp only [Option.some.injEq,Prod.mk.injEq] at H
                  obtain⟨rfl,rfl,rfl,rfl,rfl⟩:=H
                  go_wp2
                  go_ret3
                  exact⟨_,by first|rfl|(simp [errW_none,errW_some] <;> rfl)|(simp [*,errW_none,errW_some] <;> rfl),by(with_reducible repeat (first|apply Kd.R_alloc|apply Kd.R_drewN|apply Kd.R_drew));exact HO_4.out,by repeat (first|(with_reducible first|exact HI0.out|apply IsS73.alloc|apply IsS73.drewN|apply IsS73.drew|apply IsS73.set_0|apply IsS73.set_1)|exact HI0.out),by repeat (first|(with_reducible first|exact HB.out|apply below_alloc|apply pw_below_drewN|apply below_drew1|refine below_set ?_ (IsS73.ge HI0.out))|exact HB.out),kk⟩
                ·replace c38:=Bool.eq_false_iff.mpr c38
                 subst c38
                 replace H:=itF H
                 simp only [Option.some.injEq,Prod.mk.injEq] at H
                 obtain⟨rfl,rfl,rfl,rfl,rfl⟩:=H
                 go_wp2
                 go_ret3
                 exact⟨_,by first|rfl|(simp [errW_none,errW_some] <;> rfl)|(simp [*,errW_none,errW_some] <;> rfl),by(with_reducible repeat (first|apply Kd.R_alloc|apply Kd.R_drewN|apply Kd.R_drew));exact HO_4.out,by repeat (first|(with_reducible first|exact HI0.out|apply IsS73.alloc|apply IsS73.drewN|apply IsS73.drew|apply IsS73.set_0|apply IsS73.set_1)|exact HI0.out),by repeat (first|(with_reducible first|exact HB.out|apply below_alloc|apply pw_below_drewN|apply below_drew1|refine below_set ?_ (IsS73.ge HI0.out))|exact HB.out),kk⟩
            ·replace c25:=Bool.eq_false_iff.mpr c25
             subst c25
             replace H:=itF H
             replace H:=bndO H
             obtain⟨t245,A400,H⟩:=H
             have A40:=Aside0.mk A400
             clear A400
             by_cases c41:t245=true
             ·subst c41
              replace H:=itT H
              simp only [Option.some.injEq,Prod.mk.injEq] at H
              obtain⟨rfl,rfl,rfl,rfl,rfl⟩:=H
              go_wp2_with (first|((with_reducible refine gate_callee (f:=57) rfl ?_);refine goesL_ (some 98) rfl rfl Tryd.func57 (by kernel_rfl) rfl #[.string t230] rfl (by(try simp only [List.map_toArray,List.map_cons,List.map_nil]);first|done|rfl|(simp only [List.length_drop,List.length_take];rfl)) ?_;(with_reducible refine(reply_own.calls t230 true _ A40.out).mono ?_);rintro e w' ⟨rfl,⟨nd,rfl⟩⟩;refine⟨_,rfl,?_⟩))
              go_ret3
              exact⟨_,by first|rfl|(simp [errW_none,errW_some] <;> rfl)|(simp [*,errW_none,errW_some] <;> rfl),by first|exact Kd.R_nil _ _ _ _ _|exact Kd.N_nil _ _ _ _ _|exact Kd.V_nil _ _ _ _ _|exact Kd.Q_nil _ _ _ _ _|exact Kd.S_nil _ _ _ _ _,by repeat (first|(with_reducible first|exact HI0.out|apply IsS73.alloc|apply IsS73.drewN|apply IsS73.drew|apply IsS73.set_0|apply IsS73.set_1)|exact HI0.out),by repeat (first|(with_reducible first|exact HB.out|apply below_alloc|apply pw_below_drewN|apply below_drew1|refine below_set ?_ (IsS73.ge HI0.out))|exact HB.out),kk⟩
             ·replace c41:=Bool.eq_false_iff.mpr c41
              subst c41
              replace H:=itF H
              replace H:=itO H
              rcases H with⟨c42,H⟩|⟨c42,H⟩
              ·skip
               have LMc42:=Aside0.mk c42
               clear c42
               obtain⟨y246,hy246⟩ : ∃ y_:List (S52),y_=(x4_1 ++ [(⟨t230,t231⟩ : S52)]):=⟨_,rfl⟩
               replace H:(reply_reader_headers.l0 kj22 a1 y246 t224 t225)=some (r1,r2,r3,r4,r5):=by first|(rw [hy246];with_reducible exact H)|(have H2_:=(Option.bind_some _ _).symm.trans H;rw [hy246];with_reducible exact H2_)|(have H2_:=(Option.bind_some _ _).symm.trans H;with_reducible exact H2_)|with_reducible exact H|(rw [hy246];exact H)|exact H
               have Ny246:=Aside0.mk hy246
               clear hy246
               have H':=Aside0.mk H
               clear H
               go_wp2_with (first|((with_reducible refine gate_callee (f:=57) rfl ?_);refine goesL_ (some 98) rfl rfl Tryd.func57 (by kernel_rfl) rfl #[.string t230] rfl (by(try simp only [List.map_toArray,List.map_cons,List.map_nil]);first|done|rfl|(simp only [List.length_drop,List.length_take];rfl)) ?_;(with_reducible refine(reply_own.calls t230 false _ A40.out).mono ?_);rintro e w' ⟨rfl,⟨nd,rfl⟩⟩;refine⟨_,rfl,?_⟩)|((with_reducible refine gate_builtin (b:=.append) (xs:=#[.tmp 99,.tmp 103]) rfl ?_);at_builtin;refine Kd.R_append k52 w.heap.size rfl (.tmp 99) (.tmp 103) 25 52 (.agg #[(.string ⟨#[]⟩),(.string ⟨#[]⟩)]) 32 rfl Tryd.underlying25 info52 rfl (by decide) (by omega) u4 x4_1 (⟨t230,t231⟩ : S52) [.string t230,.string t231] (fun _=>True) (fun _=>False) rfl rfl ?aP (fun _ hk=>hk.elim) ?aF ?aO (Below.refl _ _) ?aS ?aL ?_;(case aP=>exact k52_mkM _ _ _ (⟨t230,t231⟩ : S52));(case aF=>exact(fun _ _=>trivial));(case aO=>exact(by(with_reducible repeat (first|apply Kd.R_alloc|apply Kd.R_drewN|apply Kd.R_drew));exact HO_4.out));(case aS=>exact(keep_size (w:=w) (g:=g) (row:=none) kk));(case aL=>have:=LMc42.out;omega);intro v247 w43 ho hb hg hat;rw [← Ny246.out] at ho;have n0_:=Aside0.mk (IsS73.grown (by repeat (first|(with_reducible first|exact HI0.out|apply IsS73.alloc|apply IsS73.drewN|apply IsS73.drew|apply IsS73.set_0|apply IsS73.set_1)|exact HI0.out)) hg (IsS73.own_ne HI0.out HO_4.out (by decide)));have n1_:=Aside0.mk (below_weaken (by repeat (first|(with_reducible first|exact HB.out|apply below_alloc|apply pw_below_drewN|apply below_drew1|refine below_set ?_ (IsS73.ge HI0.out))|exact HB.out)) HL.out hb);have n2_:=Aside0.mk (KeepBut.trans kk (KeepBut.of_grown hg g) (Kd.R_base2 HO_4.out));have n3_:=Aside0.mk (ho);clear HI0;clear HB;clear HK;clear HO_4;have HI0:=n0_;have HB:=n1_;have HK:=n2_;have HO248:=n3_;clear n0_ n1_ n2_ n3_;clear ho hb hg hat))
               go_roundg kj22
               case measure=>have:=HK1.out;have:=HJ4.out;have:=HJ16.out;have:=HJ22.out;omega
               case rel=>exact⟨(y246),(t224),(t225),H',⟨by have:=HK1.out;have:=HJ4.out;have:=HJ16.out;have:=HJ22.out;omega⟩,⟨by(with_reducible repeat (first|apply Kd.R_alloc|apply Kd.R_drewN|apply Kd.R_drew));exact HO248.out⟩,⟨by repeat (first|(with_reducible first|exact HI0.out|apply IsS73.alloc|apply IsS73.drewN|apply IsS73.drew|apply IsS73.set_0|apply IsS73.set_1)|exact HI0.out)⟩,⟨kk⟩,⟨by repeat (first|(with_reducible first|exact HB.out|apply below_alloc|apply pw_below_drewN|apply below_drew1|refine below_set ?_ (IsS73.ge HI0.out))|exact HB.out)⟩⟩
              ·exact absurd H (by simp)
   ·replace c4:=Bool.eq_false_iff.mpr c4
    subst c4
    replace H:=itF H
    simp only [Option.some.injEq,Prod.mk.injEq] at H
    obtain⟨rfl,rfl,rfl,rfl,rfl⟩:=H
    go_wp2_with (first|((with_reducible refine gate_callee (f:=50) rfl ?_);refine goesL_ (some 16) rfl rfl Tryd.func50 (by kernel_rfl) rfl #[.pointer (some ⟨g,0,none⟩)] rfl (by(try simp only [List.map_toArray,List.map_cons,List.map_nil]);first|done|rfl|(simp only [List.length_drop,List.length_take];rfl)) ?_;(with_reducible refine(reply_reader_line.calls g x1000_1 x1001_1 t222 false t224 t225 w0 _ ?side1 ?side2 (by first|exact hG|exact gok_below hG (by repeat (first|(with_reducible first|exact HB.out|apply below_alloc|apply pw_below_drewN|apply below_drew1|refine below_set ?_ (IsS73.ge HI0.out))|exact HB.out))|exact gok_heap hG rfl|exact gok_drewN hG _|exact gok_below hG (by repeat (first|exact HB.out|exact HBW.out|exact Below.refl _ _|apply below_alloc|apply pw_below_drewN|apply below_drew1))) A3.out).mono ?_);(case side1=>repeat (first|(with_reducible first|exact HI0.out|apply IsS73.alloc|apply IsS73.drewN|apply IsS73.drew|apply IsS73.set_0|apply IsS73.set_1)|exact HI0.out));(case side2=>repeat (first|(with_reducible first|exact HB.out|apply below_alloc|apply pw_below_drewN|apply below_drew1|refine below_set ?_ (IsS73.ge HI0.out))|exact HB.out));rintro e w44 ⟨rfl,hi,hb,hk⟩;refine⟨_,rfl,?_⟩;have n0_:=Aside0.mk (Kd.R_mono (Kd.R_keep (IsS73.apart (show IsS73 w0 _ g x1000_1 x1001_1 from by repeat (first|(with_reducible first|exact HI0.out|apply IsS73.alloc|apply IsS73.drewN|apply IsS73.drew|apply IsS73.set_0|apply IsS73.set_1)|exact HI0.out)) (by(with_reducible repeat (first|apply Kd.R_alloc|apply Kd.R_drewN|apply Kd.R_drew));exact HO_4.out) (by decide)) hk (fun _ h=>h.2)) (fun _ h=>h.1));have n1_:=Aside0.mk (KeepBut.trans kk hk (.inl rfl));have n2_:=Aside0.mk (hb);have n3_:=Aside0.mk (hi);clear HO_4;clear HK;clear HB;clear HI0;have HO_4:=n0_;have HK:=n1_;have HB:=n2_;have HI0:=n3_;clear n0_ n1_ n2_ n3_;(try clear hb);(try clear hb2);(try clear hk);(try clear hi)))
    go_ret3
    exact⟨_,by first|rfl|(simp [errW_none,errW_some] <;> rfl)|(simp [*,errW_none,errW_some] <;> rfl),by first|exact Kd.R_nil _ _ _ _ _|exact Kd.N_nil _ _ _ _ _|exact Kd.V_nil _ _ _ _ _|exact Kd.Q_nil _ _ _ _ _|exact Kd.S_nil _ _ _ _ _,by repeat (first|(with_reducible first|exact HI0.out|apply IsS73.alloc|apply IsS73.drewN|apply IsS73.drew|apply IsS73.set_0|apply IsS73.set_1)|exact HI0.out),by repeat (first|(with_reducible first|exact HB.out|apply below_alloc|apply pw_below_drewN|apply below_drew1|refine below_set ?_ (IsS73.ge HI0.out))|exact HB.out),kk⟩
end Go.Proofs.YtfjidcmegacibaaDoor.Q
