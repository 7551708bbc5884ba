/- A part of the proof of the seat's laws. No condition beyond those in the theorems. -/
import Derived.Test.YtfjidcmegacibaaDoorZSqzB
import Derived.Test.YtfjidcmegacibaaDoorZMarkB
import Derived.Test.YtfjidcmegacibaaDoorZQ0g11
import Derived.Test.YtfjidcmegacibaaDoorZQ12g5
import Derived.Test.YtfjidcmegacibaaDoorZQ18g12

namespace Go.Proofs.YtfjidcmegacibaaDoor.Q
open Go.RowKit Go.Proofs.YtfjidcmegacibaaDoorW.PrintWords Go.Proofs.YtfjidcmegacibaaDoorW.PrintLast Go.Proofs.YtfjidcmegacibaaDoorW.PrintMore
set_option linter.unusedVariables false
set_option linter.unusedSimpArgs false
set_option maxHeartbeats 8000000
set_option maxRecDepth 100000
attribute [local go_sem] max2_int min2_int max_two min_two max_three min_three max_four min_four   
mutual
def stowageref17_Parse.j6:Nat→Bool→Int→ByteArray→Int→Bool→Int→List (S52)→Int→Bool→Option (Int×(List (S52))×List Int×Int×Bool)
  | 0,_,_,_,_,_,_,_,_,_=>none
  | k+1,x1,x7,x206000,x206001,x206002,x207000,x207001,x207003,x207004=>if x1=true then(stowageref17_Parse.j7 k x7 false x206000 x206001 x206002 x207000 x207001 x207003 x207004) else((stowageref17_Bare.f x207000).bind fun t240=>(stowageref17_Parse.j7 k x7 (!t240) x206000 x206001 x206002 x207000 x207001 x207003 x207004))
def stowageref17_Parse.j7:Nat→Int→Bool→ByteArray→Int→Bool→Int→List (S52)→Int→Bool→Option (Int×(List (S52))×List Int×Int×Bool)
  | 0,_,_,_,_,_,_,_,_,_=>none
  | k+1,x7,x125,x206000,x206001,x206002,x207000,x207001,x207003,x207004=>if x125=true then(if(wrap64 ((x206000.size:Int)-x206001))<x7 then(some (0,([]:List (S52)),([]:List Int),0,false)) else(if 0≤x206001 then(if x206001≤(wrap64 (x206001+x7)) then(if(wrap64 (x206001+x7))≤(x206000.size:Int) then(if(x206000.extract (x206001:Int).toNat ((wrap64 (x206001+x7)):Int).toNat).size≤140737488355328 then(some (x207000,x207001,(bytesOf (x206000.extract (x206001:Int).toNat ((wrap64 (x206001+x7)):Int).toNat)),wrap64 (x206001+x7),x207004)) else(none)) else(none)) else(none)) else(none))) else(some (x207000,x207001,([]:List Int),x206001,x207004))
def stowageref17_Parse.l0:Nat→Bool→Int→ByteArray→Int→Bool→Int→List (S52)→Int→Bool→Option (Int×(List (S52))×List Int×Int×Bool)
  | 0,_,_,_,_,_,_,_,_,_=>none
  | k+1,x1,x7,x206000,x206001,x206002,x207000,x207001,x207003,x207004=>(stowageref17_Reader_line.f k x206000 x206001 x206002).bind fun bt211=>(if bt211.2.2.2=true then(some (0,([]:List (S52)),([]:List Int),0,false)) else((stowageref17_Bare.f x207000).bind fun t215=>(if t215=true then(stowageref17_Parse.j1 k x1 x7 bt211.1 (bt211.1.toList == ([]:List UInt8)) bt211.2.1 bt211.2.2.1 bt211.2.2.2 x207000 x207001 x207003 x207004) else(stowageref17_Parse.j1 k x1 x7 bt211.1 false bt211.2.1 bt211.2.2.1 bt211.2.2.2 x207000 x207001 x207003 x207004))))
def stowageref17_Parse.j1:Nat→Bool→Int→ByteArray→Bool→ByteArray→Int→Bool→Int→List (S52)→Int→Bool→Option (Int×(List (S52))×List Int×Int×Bool)
  | 0,_,_,_,_,_,_,_,_,_,_,_=>none
  | k+1,x1,x7,x8,x42,x206000,x206001,x206002,x207000,x207001,x207003,x207004=>if x42=true then(stowageref17_Parse.j6 k x1 x7 x206000 x206001 x206002 x207000 x207001 x207003 x207004) else((stowageref17_Bare.f x207000).bind fun t216=>(if t216=true then(stowageref17_Parse.j2 k x1 x7 x8 (x8.toList == ([67,111,110,110,101,99,116,105,111,110,58,32,99,108,111,115,101]:List UInt8)) x206000 x206001 x206002 x207000 x207001 x207003 x207004) else(stowageref17_Parse.j2 k x1 x7 x8 false x206000 x206001 x206002 x207000 x207001 x207003 x207004)))
def stowageref17_Parse.j2:Nat→Bool→Int→ByteArray→Bool→ByteArray→Int→Bool→Int→List (S52)→Int→Bool→Option (Int×(List (S52))×List Int×Int×Bool)
  | 0,_,_,_,_,_,_,_,_,_,_,_=>none
  | k+1,x1,x7,x8,x50,x206000,x206001,x206002,x207000,x207001,x207003,x207004=>if x50=true then((stowageref17_Reader_line.f k x206000 x206001 x206002).bind fun bt217=>(if bt217.1.toList=([]:List UInt8) then(if bt217.2.2.2=true then(some (0,([]:List (S52)),([]:List Int),0,false)) else(stowageref17_Parse.j6 k x1 x7 bt217.2.1 bt217.2.2.1 bt217.2.2.2 x207000 x207001 x207003 x207004)) else(some (0,([]:List (S52)),([]:List Int),0,false)))) else((stowageref17_header.f k x8).bind fun bt221=>(if bt221.2.2=true then((stowageref17_Bare.f x207000).bind fun t225=>(if t225=true then(stowageref17_Parse.j3 k x1 x7 false x206000 x206001 x206002 x207000 x207001 x207003 x207004 bt221.1 bt221.2.1) else(stowageref17_Parse.j3 k x1 x7 (bt221.1.toList == ([67,111,110,116,101,110,116,45,76,101,110,103,116,104]:List UInt8)) x206000 x206001 x206002 x207000 x207001 x207003 x207004 bt221.1 bt221.2.1))) else(some (0,([]:List (S52)),([]:List Int),0,false))))
def stowageref17_Parse.j3:Nat→Bool→Int→Bool→ByteArray→Int→Bool→Int→List (S52)→Int→Bool→ByteArray→ByteArray→Option (Int×(List (S52))×List Int×Int×Bool)
  | 0,_,_,_,_,_,_,_,_,_,_,_,_=>none
  | k+1,x1,x7,x78,x206000,x206001,x206002,x207000,x207001,x207003,x207004,x225000,x225001=>if x78=true then((stowageref1_Int.f k x225001).bind fun bt226=>((stowageref17_Reader_line.f k x206000 x206001 x206002).bind fun bt228=>(if bt228.1.toList=([67,111,110,110,101,99,116,105,111,110,58,32,99,108,111,115,101]:List UInt8) then((stowageref17_Reader_line.f k bt228.2.1 bt228.2.2.1 bt228.2.2.2).bind fun bt232=>(stowageref17_Parse.j4 k x1 bt226.1 bt226.2 bt232.1 bt232.2.1 bt232.2.2.1 bt232.2.2.2 x207000 x207001 x207003 x207004)) else(stowageref17_Parse.j4 k x1 bt226.1 bt226.2 bt228.1 bt228.2.1 bt228.2.2.1 bt228.2.2.2 x207000 x207001 x207003 x207004)))) else((stowageref17_own.f x225000).bind fun t236=>(if t236=true then(some (0,([]:List (S52)),([]:List Int),0,false)) else(if x207001.length<4398046511104 then(stowageref17_Parse.l0 k x1 x7 x206000 x206001 x206002 x207000 (x207001 ++ [(⟨x225000,x225001⟩ : S52)]) x207003 x207004) else(none))))
def stowageref17_Parse.j4:Nat→Bool→Int→Bool→ByteArray→ByteArray→Int→Bool→Int→List (S52)→Int→Bool→Option (Int×(List (S52))×List Int×Int×Bool)
  | 0,_,_,_,_,_,_,_,_,_,_,_=>none
  | k+1,x1,x11,x12,x13,x206000,x206001,x206002,x207000,x207001,x207003,x207004=>if x12=true then(if x13.toList=([]:List UInt8) then(stowageref17_Parse.j5 k x1 x11 x206002 x206000 x206001 x206002 x207000 x207001 x207003 x207004) else(stowageref17_Parse.j5 k x1 x11 true x206000 x206001 x206002 x207000 x207001 x207003 x207004)) else(stowageref17_Parse.j5 k x1 x11 true x206000 x206001 x206002 x207000 x207001 x207003 x207004)
def stowageref17_Parse.j5:Nat→Bool→Int→Bool→ByteArray→Int→Bool→Int→List (S52)→Int→Bool→Option (Int×(List (S52))×List Int×Int×Bool)
  | 0,_,_,_,_,_,_,_,_,_,_=>none
  | k+1,x1,x11,x102,x206000,x206001,x206002,x207000,x207001,x207003,x207004=>if x102=true then(some (0,([]:List (S52)),([]:List Int),0,false)) else(stowageref17_Parse.j6 k x1 x11 x206000 x206001 x206002 x207000 x207001 x207003 x207004)
end
def stowageref17_Parse.f (k:Nat) (l0:List Int) (a1:Bool):Option (Int×(List (S52))×List Int×Int×Bool):=(stowageref17_Reader_begun.f k (strOfNums l0) 0 false).bind fun bt207=>(if bt207.1=0 then(some (0,([]:List (S52)),([]:List Int),0,false)) else(stowageref17_Parse.l0 k a1 0 bt207.2.1 bt207.2.2.1 bt207.2.2.2 bt207.1 ([]:List (S52)) 0 true))
theorem stowageref17_Parse.mono_l:∀ k,(∀ y0 y1 y2 y3 y4 y5 y6 y7 y8,LeO (stowageref17_Parse.j6 k y0 y1 y2 y3 y4 y5 y6 y7 y8) (stowageref17_Parse.j6 (k+1) y0 y1 y2 y3 y4 y5 y6 y7 y8))∧(∀ y0 y1 y2 y3 y4 y5 y6 y7 y8,LeO (stowageref17_Parse.j7 k y0 y1 y2 y3 y4 y5 y6 y7 y8) (stowageref17_Parse.j7 (k+1) y0 y1 y2 y3 y4 y5 y6 y7 y8))∧(∀ y0 y1 y2 y3 y4 y5 y6 y7 y8,LeO (stowageref17_Parse.l0 k y0 y1 y2 y3 y4 y5 y6 y7 y8) (stowageref17_Parse.l0 (k+1) y0 y1 y2 y3 y4 y5 y6 y7 y8))∧(∀ y0 y1 y2 y3 y4 y5 y6 y7 y8 y9 y10,LeO (stowageref17_Parse.j1 k y0 y1 y2 y3 y4 y5 y6 y7 y8 y9 y10) (stowageref17_Parse.j1 (k+1) y0 y1 y2 y3 y4 y5 y6 y7 y8 y9 y10))∧(∀ y0 y1 y2 y3 y4 y5 y6 y7 y8 y9 y10,LeO (stowageref17_Parse.j2 k y0 y1 y2 y3 y4 y5 y6 y7 y8 y9 y10) (stowageref17_Parse.j2 (k+1) y0 y1 y2 y3 y4 y5 y6 y7 y8 y9 y10))∧(∀ y0 y1 y2 y3 y4 y5 y6 y7 y8 y9 y10 y11,LeO (stowageref17_Parse.j3 k y0 y1 y2 y3 y4 y5 y6 y7 y8 y9 y10 y11) (stowageref17_Parse.j3 (k+1) y0 y1 y2 y3 y4 y5 y6 y7 y8 y9 y10 y11))∧(∀ y0 y1 y2 y3 y4 y5 y6 y7 y8 y9 y10,LeO (stowageref17_Parse.j4 k y0 y1 y2 y3 y4 y5 y6 y7 y8 y9 y10) (stowageref17_Parse.j4 (k+1) y0 y1 y2 y3 y4 y5 y6 y7 y8 y9 y10))∧(∀ y0 y1 y2 y3 y4 y5 y6 y7 y8 y9,LeO (stowageref17_Parse.j5 k y0 y1 y2 y3 y4 y5 y6 y7 y8 y9) (stowageref17_Parse.j5 (k+1) y0 y1 y2 y3 y4 y5 y6 y7 y8 y9))
  | 0=>⟨fun _ _ _ _ _ _ _ _ _ r h=>by simp [stowageref17_Parse.j6] at h,fun _ _ _ _ _ _ _ _ _ r h=>by simp [stowageref17_Parse.j7] at h,fun _ _ _ _ _ _ _ _ _ r h=>by simp [stowageref17_Parse.l0] at h,fun _ _ _ _ _ _ _ _ _ _ _ r h=>by simp [stowageref17_Parse.j1] at h,fun _ _ _ _ _ _ _ _ _ _ _ r h=>by simp [stowageref17_Parse.j2] at h,fun _ _ _ _ _ _ _ _ _ _ _ _ r h=>by simp [stowageref17_Parse.j3] at h,fun _ _ _ _ _ _ _ _ _ _ _ r h=>by simp [stowageref17_Parse.j4] at h,fun _ _ _ _ _ _ _ _ _ _ r h=>by simp [stowageref17_Parse.j5] at h⟩
  | k+1=>by
    obtain⟨ih0,ih1,ih2,ih3,ih4,ih5,ih6,ih7⟩:=stowageref17_Parse.mono_l k
    refine⟨?_,?_,?_,?_,?_,?_,?_,?_⟩
    · intro y0 y1 y2 y3 y4 y5 y6 y7 y8
      unfold stowageref17_Parse.j6
      with_reducible repeat' first|exact ih0 _ _ _ _ _ _ _ _ _|exact ih1 _ _ _ _ _ _ _ _ _|exact ih2 _ _ _ _ _ _ _ _ _|exact ih3 _ _ _ _ _ _ _ _ _ _ _|exact ih4 _ _ _ _ _ _ _ _ _ _ _|exact ih5 _ _ _ _ _ _ _ _ _ _ _ _|exact ih6 _ _ _ _ _ _ _ _ _ _ _|exact ih7 _ _ _ _ _ _ _ _ _ _|exact stowageref17_Reader_begun.mono _ _ _ _|exact stowageref17_Reader_line.mono _ _ _ _|exact stowageref17_header.mono _ _|exact stowageref1_Int.mono _ _|exact LeO.refl _|exact LeO.none _|refine LeO.ite ?_ ?_|refine LeO.bind ?_ (fun _=>?_)
    · intro y0 y1 y2 y3 y4 y5 y6 y7 y8
      unfold stowageref17_Parse.j7
      with_reducible repeat' first|exact ih0 _ _ _ _ _ _ _ _ _|exact ih1 _ _ _ _ _ _ _ _ _|exact ih2 _ _ _ _ _ _ _ _ _|exact ih3 _ _ _ _ _ _ _ _ _ _ _|exact ih4 _ _ _ _ _ _ _ _ _ _ _|exact ih5 _ _ _ _ _ _ _ _ _ _ _ _|exact ih6 _ _ _ _ _ _ _ _ _ _ _|exact ih7 _ _ _ _ _ _ _ _ _ _|exact stowageref17_Reader_begun.mono _ _ _ _|exact stowageref17_Reader_line.mono _ _ _ _|exact stowageref17_header.mono _ _|exact stowageref1_Int.mono _ _|exact LeO.refl _|exact LeO.none _|refine LeO.ite ?_ ?_|refine LeO.bind ?_ (fun _=>?_)
    · intro y0 y1 y2 y3 y4 y5 y6 y7 y8
      unfold stowageref17_Parse.l0
      with_reducible repeat' first|exact ih0 _ _ _ _ _ _ _ _ _|exact ih1 _ _ _ _ _ _ _ _ _|exact ih2 _ _ _ _ _ _ _ _ _|exact ih3 _ _ _ _ _ _ _ _ _ _ _|exact ih4 _ _ _ _ _ _ _ _ _ _ _|exact ih5 _ _ _ _ _ _ _ _ _ _ _ _|exact ih6 _ _ _ _ _ _ _ _ _ _ _|exact ih7 _ _ _ _ _ _ _ _ _ _|exact stowageref17_Reader_begun.mono _ _ _ _|exact stowageref17_Reader_line.mono _ _ _ _|exact stowageref17_header.mono _ _|exact stowageref1_Int.mono _ _|exact LeO.refl _|exact LeO.none _|refine LeO.ite ?_ ?_|refine LeO.bind ?_ (fun _=>?_)
    · intro y0 y1 y2 y3 y4 y5 y6 y7 y8 y9 y10
      unfold stowageref17_Parse.j1
      with_reducible repeat' first|exact ih0 _ _ _ _ _ _ _ _ _|exact ih1 _ _ _ _ _ _ _ _ _|exact ih2 _ _ _ _ _ _ _ _ _|exact ih3 _ _ _ _ _ _ _ _ _ _ _|exact ih4 _ _ _ _ _ _ _ _ _ _ _|exact ih5 _ _ _ _ _ _ _ _ _ _ _ _|exact ih6 _ _ _ _ _ _ _ _ _ _ _|exact ih7 _ _ _ _ _ _ _ _ _ _|exact stowageref17_Reader_begun.mono _ _ _ _|exact stowageref17_Reader_line.mono _ _ _ _|exact stowageref17_header.mono _ _|exact stowageref1_Int.mono _ _|exact LeO.refl _|exact LeO.none _|refine LeO.ite ?_ ?_|refine LeO.bind ?_ (fun _=>?_)
    · intro y0 y1 y2 y3 y4 y5 y6 y7 y8 y9 y10
      unfold stowageref17_Parse.j2
      with_reducible repeat' first|exact ih0 _ _ _ _ _ _ _ _ _|exact ih1 _ _ _ _ _ _ _ _ _|exact ih2 _ _ _ _ _ _ _ _ _|exact ih3 _ _ _ _ _ _ _ _ _ _ _|exact ih4 _ _ _ _ _ _ _ _ _ _ _|exact ih5 _ _ _ _ _ _ _ _ _ _ _ _|exact ih6 _ _ _ _ _ _ _ _ _ _ _|exact ih7 _ _ _ _ _ _ _ _ _ _|exact stowageref17_Reader_begun.mono _ _ _ _|exact stowageref17_Reader_line.mono _ _ _ _|exact stowageref17_header.mono _ _|exact stowageref1_Int.mono _ _|exact LeO.refl _|exact LeO.none _|refine LeO.ite ?_ ?_|refine LeO.bind ?_ (fun _=>?_)
    · intro y0 y1 y2 y3 y4 y5 y6 y7 y8 y9 y10 y11
      unfold stowageref17_Parse.j3
      with_reducible repeat' first|exact ih0 _ _ _ _ _ _ _ _ _|exact ih1 _ _ _ _ _ _ _ _ _|exact ih2 _ _ _ _ _ _ _ _ _|exact ih3 _ _ _ _ _ _ _ _ _ _ _|exact ih4 _ _ _ _ _ _ _ _ _ _ _|exact ih5 _ _ _ _ _ _ _ _ _ _ _ _|exact ih6 _ _ _ _ _ _ _ _ _ _ _|exact ih7 _ _ _ _ _ _ _ _ _ _|exact stowageref17_Reader_begun.mono _ _ _ _|exact stowageref17_Reader_line.mono _ _ _ _|exact stowageref17_header.mono _ _|exact stowageref1_Int.mono _ _|exact LeO.refl _|exact LeO.none _|refine LeO.ite ?_ ?_|refine LeO.bind ?_ (fun _=>?_)
    · intro y0 y1 y2 y3 y4 y5 y6 y7 y8 y9 y10
      unfold stowageref17_Parse.j4
      with_reducible repeat' first|exact ih0 _ _ _ _ _ _ _ _ _|exact ih1 _ _ _ _ _ _ _ _ _|exact ih2 _ _ _ _ _ _ _ _ _|exact ih3 _ _ _ _ _ _ _ _ _ _ _|exact ih4 _ _ _ _ _ _ _ _ _ _ _|exact ih5 _ _ _ _ _ _ _ _ _ _ _ _|exact ih6 _ _ _ _ _ _ _ _ _ _ _|exact ih7 _ _ _ _ _ _ _ _ _ _|exact stowageref17_Reader_begun.mono _ _ _ _|exact stowageref17_Reader_line.mono _ _ _ _|exact stowageref17_header.mono _ _|exact stowageref1_Int.mono _ _|exact LeO.refl _|exact LeO.none _|refine LeO.ite ?_ ?_|refine LeO.bind ?_ (fun _=>?_)
    · intro y0 y1 y2 y3 y4 y5 y6 y7 y8 y9
      unfold stowageref17_Parse.j5
      with_reducible repeat' first|exact ih0 _ _ _ _ _ _ _ _ _|exact ih1 _ _ _ _ _ _ _ _ _|exact ih2 _ _ _ _ _ _ _ _ _|exact ih3 _ _ _ _ _ _ _ _ _ _ _|exact ih4 _ _ _ _ _ _ _ _ _ _ _|exact ih5 _ _ _ _ _ _ _ _ _ _ _ _|exact ih6 _ _ _ _ _ _ _ _ _ _ _|exact ih7 _ _ _ _ _ _ _ _ _ _|exact stowageref17_Reader_begun.mono _ _ _ _|exact stowageref17_Reader_line.mono _ _ _ _|exact stowageref17_header.mono _ _|exact stowageref1_Int.mono _ _|exact LeO.refl _|exact LeO.none _|refine LeO.ite ?_ ?_|refine LeO.bind ?_ (fun _=>?_)
theorem stowageref17_Parse.mono:∀ a0 a1 k,LeO (stowageref17_Parse.f k a0 a1) (stowageref17_Parse.f (k+1) a0 a1):=by
 intro a0 a1 k
 obtain⟨ih0,ih1,ih2,ih3,ih4,ih5,ih6,ih7⟩:=stowageref17_Parse.mono_l k
 unfold stowageref17_Parse.f
 with_reducible repeat' first|exact ih0 _ _ _ _ _ _ _ _ _|exact ih1 _ _ _ _ _ _ _ _ _|exact ih2 _ _ _ _ _ _ _ _ _|exact ih3 _ _ _ _ _ _ _ _ _ _ _|exact ih4 _ _ _ _ _ _ _ _ _ _ _|exact ih5 _ _ _ _ _ _ _ _ _ _ _ _|exact ih6 _ _ _ _ _ _ _ _ _ _ _|exact ih7 _ _ _ _ _ _ _ _ _ _|exact stowageref17_Reader_begun.mono _ _ _ _|exact stowageref17_Reader_line.mono _ _ _ _|exact stowageref17_header.mono _ _|exact stowageref1_Int.mono _ _|exact LeO.refl _|exact LeO.none _|refine LeO.ite ?_ ?_|refine LeO.bind ?_ (fun _=>?_)
theorem stowageref17_Parse.calls (k:Nat) (A0:Option Addr) (c0:Nat) (l0:List Int) (a1:Bool) (r1:Int) (r2:List (S52)) (r3:List Int) (r4:Int) (r5:Bool) (w:World) (hr0:Kd.C (Kd.int .u8) w A0 l0.length l0) (hc0:l0.length≤c0) (h:stowageref17_Parse.f k l0 a1=some (r1,r2,r3,r4,r5)) :
    Calls Tryd.prog 8 #[.slice A0 l0.length c0,.bool a1] w fun e w'=>∃ v1_ v2_:Value,e = .returned (.agg #[.int .i64 r1,v1_,v2_,.int .i64 r4,.bool r5])∧Kd.R k52 52 w' w.heap.size (fun k_=>(w.heap.size≤k_)) v1_ r2∧Kd.V (Kd.int .u8) 5 w' w.heap.size (fun k_=>(w.heap.size≤k_)∧some k_≠(v1_:Value).ownBlock) v2_ r3∧Below w.heap.size w w':=by
 have hu29:=Tryd.underlying29
 have hu55:=Tryd.underlying55
 have hu52:=Tryd.underlying52
 have HR0:=Aside0.mk hr0
 have HC0:=Aside0.mk hc0
 clear hr0 hc0
 have HB:=Aside0.mk (Below.refl w.heap.size w)
 unfold stowageref17_Parse.f at h
 have H:=h
 clear h
 replace H:=bndO H
 obtain⟨⟨t207,t208,t209,t210⟩,A30,H⟩:=H
 dsimp only at H
 have A3:=Aside0.mk A30
 clear A30
 replace H:=itO H
 rcases H with⟨c4,H⟩|⟨c4,H⟩
 {
 have c4b0:(t207 == 0)=true:=beq_iff_eq.mpr c4
 have c4b1:(t207 != 0)=false:=bne_eq_false_iff_eq.mpr c4
 clear c4
 simp only [Option.some.injEq,Prod.mk.injEq] at H
 obtain⟨rfl,rfl,rfl,rfl,rfl⟩:=H
 go_enter Tryd.func8,Tryd.ntmps8
 go_wp2_with (first|((with_reducible refine gate_dst (N:=4) rfl ?_);refine box_event ?hg (N:=4) ?hd (cs:=#[.int .i64 0,.slice none 0 0,.slice none 0 0,.int .i64 0,.bool false]) (t:=29) ?hr ?_;(case hd=>rfl);(case hg=>rfl);(case hr=>first|(go_simp;done)|(go_simp;rfl));intro gb204 hg w5 hbox hb;have n0_:=Aside0.mk (below_step bl hb);have n1_:=Aside0.mk (hbox);have n2_:=Aside0.mk ((by rw [hg];exact(below_size bl):w.heap.size≤gb204));have n3_:=Aside0.mk ((by rw [hg];exact(below_size bl):w.heap.size≤gb204));clear HB;have HB:=n0_;have BK204:=n1_;have GW204:=n2_;have GE204:=n3_;clear n0_ n1_ n2_ n3_;clear hb hbox hg;have hcv6:=Kd.C_string (P:=Tryd.prog) (A:=A0) (c:=c0) Tryd.underlying23 Tryd.underlying5 Tryd.underlying9 (Kd.C_below HR0.out HB.out))|((with_reducible refine gate_dst (N:=17) rfl ?_);refine box_event ?hg (N:=17) ?hd (cs:=#[.string (strOfNums l0),.int .i64 0,.bool false]) (t:=55) ?hr ?_;(case hd=>rfl);(case hg=>rfl);(case hr=>first|(go_simp;done)|(go_simp;rfl));intro gb205 hg w7 hbox hb;have n0_:=Aside0.mk (blk_below (g:=gb204) (o:=.cells #[.int .i64 0,.slice none 0 0,.slice none 0 0,.int .i64 0,.bool false] 29 (0,0)) kl hb);have n1_:=Aside0.mk (below_step bl hb);have n2_:=Aside0.mk ((by rw [hg];exact(below_size bl):w.heap.size≤gb205));have n3_:=Aside0.mk ((by rw [hg];exact(below_size bl):w.heap.size≤gb205));have n4_:=Aside0.mk ((by rw [hg];exact Nat.ne_of_lt (blk_lt (g:=gb204) (o:=.cells #[.int .i64 0,.slice none 0 0,.slice none 0 0,.int .i64 0,.bool false] 29 (0,0)) kl):gb204≠gb205));have n5_:=Aside0.mk ((by rw [hg];exact Nat.ne_of_gt (blk_lt (g:=gb204) (o:=.cells #[.int .i64 0,.slice none 0 0,.slice none 0 0,.int .i64 0,.bool false] 29 (0,0)) kl):gb205≠gb204));have n6_:=Aside0.mk ((show IsS55 w w7 gb205 (strOfNums l0) 0 false from⟨hbox,(by rw [hg];exact(below_size bl):w.heap.size≤gb205)⟩));clear BK204;clear HB;have BK204:=n0_;have HB:=n1_;have GW205:=n2_;have GE205:=n3_;have NB204_205:=n4_;have NB205_204:=n5_;have HI205:=n6_;clear n0_ n1_ n2_ n3_ n4_ n5_ n6_;clear hb hbox hg)|((with_reducible refine gate_dst (N:=6) rfl ?_);refine box_event ?hg (N:=6) ?hd (cs:=#[.int .i64 0,.slice none 0 0,.slice none 0 0,.int .i64 0,.bool false]) (t:=29) ?hr ?_;(case hd=>rfl);(case hg=>rfl);(case hr=>first|(go_simp;done)|(go_simp;rfl));intro gb206 hg w8 hbox hb;have n0_:=Aside0.mk (blk_below (g:=gb204) (o:=.cells #[.int .i64 0,.slice none 0 0,.slice none 0 0,.int .i64 0,.bool false] 29 (0,0)) kl hb);have n1_:=Aside0.mk (IsS55.below isl55 hb);have n2_:=Aside0.mk (below_step bl hb);have n3_:=Aside0.mk (hbox);have n4_:=Aside0.mk ((by rw [hg];exact(below_size bl):w.heap.size≤gb206));have n5_:=Aside0.mk ((by rw [hg];exact(below_size bl):w.heap.size≤gb206));have n6_:=Aside0.mk ((by rw [hg];exact Nat.ne_of_lt (blk_lt (g:=gb204) (o:=.cells #[.int .i64 0,.slice none 0 0,.slice none 0 0,.int .i64 0,.bool false] 29 (0,0)) kl):gb204≠gb206));have n7_:=Aside0.mk ((by rw [hg];exact Nat.ne_of_gt (blk_lt (g:=gb204) (o:=.cells #[.int .i64 0,.slice none 0 0,.slice none 0 0,.int .i64 0,.bool false] 29 (0,0)) kl):gb206≠gb204));have n8_:=Aside0.mk ((by rw [hg];exact Nat.ne_of_lt (IsS55.lt (show IsS55 w _ gb205 (strOfNums l0) 0 false from isl55)):gb205≠gb206));have n9_:=Aside0.mk ((by rw [hg];exact Nat.ne_of_gt (IsS55.lt (show IsS55 w _ gb205 (strOfNums l0) 0 false from isl55)):gb206≠gb205));clear BK204;clear HI205;clear HB;have BK204:=n0_;have HI205:=n1_;have HB:=n2_;have BK206:=n3_;have GW206:=n4_;have GE206:=n5_;have NB204_206:=n6_;have NB206_204:=n7_;have NB205_206:=n8_;have NB206_205:=n9_;clear n0_ n1_ n2_ n3_ n4_ n5_ n6_ n7_ n8_ n9_;clear hb hbox hg;have hnb9:=NB206_204.out;have hnc9:=NB204_206.out;have hnb10:=NB206_205.out;have hnc10:=NB205_206.out;obtain⟨_,_,_,_,_,_,_,_,_,_⟩:=bc5 BK206.out)|(go_at_call 23;(with_reducible refine(stowageref17_Reader_begun.calls k gb205 (strOfNums l0) 0 false t207 t208 t209 t210 w _ ?side1 ?side2 A3.out).mono ?_);(case side1=>repeat (first|(with_reducible first|exact HI205.out|apply IsS55.alloc|apply IsS55.drewN|apply IsS55.drew|apply IsS55.set_0|apply IsS55.set_1|apply IsS55.set_2|refine IsS55.far ?_ NB205_204.out _|refine IsS55.far ?_ NB205_206.out _)|exact HI205.out));(case side2=>repeat (first|(with_reducible first|exact HB.out|apply below_alloc|apply pw_below_drewN|apply below_drew1|refine below_set ?_ (IsS55.ge HI205.out)|refine below_set ?_ GE204.out|refine below_set ?_ GE206.out)|exact HB.out));rintro e w12 ⟨rfl,hi,hb,hk⟩;have n0_:=Aside0.mk (KeepBut.blk hk (g':=gb204) (o:=.cells #[.int .i64 0,.slice none 0 0,.slice none 0 0,.int .i64 0,.bool false] 29 (0,0)) (by(with_reducible repeat (first|refine blk_drewN ?_ _|refine blk_drew ?_|refine blk_alloc ?_ _));refine blk_far ?_ NB204_206.out _;(with_reducible repeat (first|refine blk_drewN ?_ _|refine blk_drew ?_|refine blk_alloc ?_ _));refine blk_far ?_ NB204_206.out _;(with_reducible repeat (first|refine blk_drewN ?_ _|refine blk_drew ?_|refine blk_alloc ?_ _));refine blk_far ?_ NB204_206.out _;(with_reducible repeat (first|refine blk_drewN ?_ _|refine blk_drew ?_|refine blk_alloc ?_ _));refine blk_far ?_ NB204_206.out _;(with_reducible repeat (first|refine blk_drewN ?_ _|refine blk_drew ?_|refine blk_alloc ?_ _));refine blk_far ?_ NB204_206.out _;(with_reducible repeat (first|refine blk_drewN ?_ _|refine blk_drew ?_|refine blk_alloc ?_ _));exact BK204.out) NB204_205.out (by simp));have n1_:=Aside0.mk (KeepBut.blk hk (g':=gb206) (o:=.cells #[.int .i64 0,.slice none 0 0,.slice none 0 0,.int .i64 0,.bool true] 29 (0,0)) (by(with_reducible repeat (first|refine blk_drewN ?_ _|refine blk_drew ?_|refine blk_alloc ?_ _));refine blk_put (cs:=#[.int .i64 0,.slice none 0 0,.slice none 0 0,.int .i64 0,.bool false]) ?_ 4 _ rfl;(with_reducible repeat (first|refine blk_drewN ?_ _|refine blk_drew ?_|refine blk_alloc ?_ _));refine blk_put (cs:=#[.int .i64 0,.slice none 0 0,.slice none 0 0,.int .i64 0,.bool false]) ?_ 3 _ rfl;(with_reducible repeat (first|refine blk_drewN ?_ _|refine blk_drew ?_|refine blk_alloc ?_ _));refine blk_put (cs:=#[.int .i64 0,.slice none 0 0,.slice none 0 0,.int .i64 0,.bool false]) ?_ 2 _ rfl;(with_reducible repeat (first|refine blk_drewN ?_ _|refine blk_drew ?_|refine blk_alloc ?_ _));refine blk_put (cs:=#[.int .i64 0,.slice none 0 0,.slice none 0 0,.int .i64 0,.bool false]) ?_ 1 _ rfl;(with_reducible repeat (first|refine blk_drewN ?_ _|refine blk_drew ?_|refine blk_alloc ?_ _));refine blk_put (cs:=#[.int .i64 0,.slice none 0 0,.slice none 0 0,.int .i64 0,.bool false]) ?_ 0 _ rfl;(with_reducible repeat (first|refine blk_drewN ?_ _|refine blk_drew ?_|refine blk_alloc ?_ _));exact BK206.out) NB206_205.out (by simp));have n2_:=Aside0.mk (hb);have n3_:=Aside0.mk (hi);clear BK204;clear BK206;clear HB;clear HI205;have BK204:=n0_;have BK206:=n1_;have HB:=n2_;have HI205:=n3_;clear n0_ n1_ n2_ n3_;obtain⟨_,_,_,_,_,_,_,_,_,_⟩:=bc5 BK206.out;have hnb14:=NB204_205.out;have hnc14:=NB205_204.out;obtain⟨_,_,_,_,_,_,_,_,_,_⟩:=bc5 BK204.out))
 refine bodyPost_ret (results_cell_row rfl _ _ gb204 29 #[.int .i64 0,.slice none 0 0,.slice none 0 0,.int .i64 0,.bool false] (0,0) _ rfl (by(with_reducible repeat (first|refine blk_drewN ?_ _|refine blk_drew ?_|refine blk_alloc ?_ _));refine blk_put (cs:=#[.int .i64 0,.slice none 0 0,.slice none 0 0,.int .i64 0,.bool false]) ?_ 4 _ rfl;(with_reducible repeat (first|refine blk_drewN ?_ _|refine blk_drew ?_|refine blk_alloc ?_ _));refine blk_put (cs:=#[.int .i64 0,.slice none 0 0,.slice none 0 0,.int .i64 0,.bool false]) ?_ 3 _ rfl;(with_reducible repeat (first|refine blk_drewN ?_ _|refine blk_drew ?_|refine blk_alloc ?_ _));refine blk_put (cs:=#[.int .i64 0,.slice none 0 0,.slice none 0 0,.int .i64 0,.bool false]) ?_ 2 _ rfl;(with_reducible repeat (first|refine blk_drewN ?_ _|refine blk_drew ?_|refine blk_alloc ?_ _));refine blk_put (cs:=#[.int .i64 0,.slice none 0 0,.slice none 0 0,.int .i64 0,.bool false]) ?_ 1 _ rfl;(with_reducible repeat (first|refine blk_drewN ?_ _|refine blk_drew ?_|refine blk_alloc ?_ _));refine blk_put (cs:=#[.int .i64 0,.slice none 0 0,.slice none 0 0,.int .i64 0,.bool false]) ?_ 0 _ rfl;(with_reducible repeat (first|refine blk_drewN ?_ _|refine blk_drew ?_|refine blk_alloc ?_ _));refine blk_far ?_ NB204_206.out _;(with_reducible repeat (first|refine blk_drewN ?_ _|refine blk_drew ?_|refine blk_alloc ?_ _));exact BK204.out) Tryd.underlying29 rfl kr) rfl ?_
 exact⟨_,_,ew,nl,nl,bl⟩
 }
 {
 have c4b0:(t207 == 0)=false:=beq_eq_false_iff_ne.mpr c4
 have c4b1:(t207 != 0)=true:=bne_iff_ne.mpr c4
 have HC16:=Aside0.mk H
 clear H
 go_enter Tryd.func8,Tryd.ntmps8
 go_upto_block 0 with(first|((with_reducible refine gate_dst (N:=4) rfl ?_);refine box_event ?hg (N:=4) ?hd (cs:=#[.int .i64 0,.slice none 0 0,.slice none 0 0,.int .i64 0,.bool false]) (t:=29) ?hr ?_;(case hd=>rfl);(case hg=>rfl);(case hr=>first|(go_simp;done)|(go_simp;rfl));intro gb204 hg w17 hbox hb;have n0_:=Aside0.mk (below_step bl hb);have n1_:=Aside0.mk (hbox);have n2_:=Aside0.mk ((by rw [hg];exact(below_size bl):w.heap.size≤gb204));have n3_:=Aside0.mk ((by rw [hg];exact(below_size bl):w.heap.size≤gb204));clear HB;have HB:=n0_;have BK204:=n1_;have GW204:=n2_;have GE204:=n3_;clear n0_ n1_ n2_ n3_;clear hb hbox hg;have hcv18:=Kd.C_string (P:=Tryd.prog) (A:=A0) (c:=c0) Tryd.underlying23 Tryd.underlying5 Tryd.underlying9 (Kd.C_below HR0.out HB.out))|((with_reducible refine gate_dst (N:=17) rfl ?_);refine box_event ?hg (N:=17) ?hd (cs:=#[.string (strOfNums l0),.int .i64 0,.bool false]) (t:=55) ?hr ?_;(case hd=>rfl);(case hg=>rfl);(case hr=>first|(go_simp;done)|(go_simp;rfl));intro gb205 hg w19 hbox hb;have n0_:=Aside0.mk (blk_below (g:=gb204) (o:=.cells #[.int .i64 0,.slice none 0 0,.slice none 0 0,.int .i64 0,.bool false] 29 (0,0)) kl hb);have n1_:=Aside0.mk (below_step bl hb);have n2_:=Aside0.mk ((by rw [hg];exact(below_size bl):w.heap.size≤gb205));have n3_:=Aside0.mk ((by rw [hg];exact(below_size bl):w.heap.size≤gb205));have n4_:=Aside0.mk ((by rw [hg];exact Nat.ne_of_lt (blk_lt (g:=gb204) (o:=.cells #[.int .i64 0,.slice none 0 0,.slice none 0 0,.int .i64 0,.bool false] 29 (0,0)) kl):gb204≠gb205));have n5_:=Aside0.mk ((by rw [hg];exact Nat.ne_of_gt (blk_lt (g:=gb204) (o:=.cells #[.int .i64 0,.slice none 0 0,.slice none 0 0,.int .i64 0,.bool false] 29 (0,0)) kl):gb205≠gb204));have n6_:=Aside0.mk ((show IsS55 w w19 gb205 (strOfNums l0) 0 false from⟨hbox,(by rw [hg];exact(below_size bl):w.heap.size≤gb205)⟩));clear BK204;clear HB;have BK204:=n0_;have HB:=n1_;have GW205:=n2_;have GE205:=n3_;have NB204_205:=n4_;have NB205_204:=n5_;have HI205:=n6_;clear n0_ n1_ n2_ n3_ n4_ n5_ n6_;clear hb hbox hg)|((with_reducible refine gate_dst (N:=6) rfl ?_);refine box_event ?hg (N:=6) ?hd (cs:=#[.int .i64 0,.slice none 0 0,.slice none 0 0,.int .i64 0,.bool false]) (t:=29) ?hr ?_;(case hd=>rfl);(case hg=>rfl);(case hr=>first|(go_simp;done)|(go_simp;rfl));intro gb206 hg w20 hbox hb;have n0_:=Aside0.mk (blk_below (g:=gb204) (o:=.cells #[.int .i64 0,.slice none 0 0,.slice none 0 0,.int .i64 0,.bool false] 29 (0,0)) kl hb);have n1_:=Aside0.mk (IsS55.below isl55 hb);have n2_:=Aside0.mk (below_step bl hb);have n3_:=Aside0.mk (hbox);have n4_:=Aside0.mk ((by rw [hg];exact(below_size bl):w.heap.size≤gb206));have n5_:=Aside0.mk ((by rw [hg];exact(below_size bl):w.heap.size≤gb206));have n6_:=Aside0.mk ((by rw [hg];exact Nat.ne_of_lt (blk_lt (g:=gb204) (o:=.cells #[.int .i64 0,.slice none 0 0,.slice none 0 0,.int .i64 0,.bool false] 29 (0,0)) kl):gb204≠gb206));have n7_:=Aside0.mk ((by rw [hg];exact Nat.ne_of_gt (blk_lt (g:=gb204) (o:=.cells #[.int .i64 0,.slice none 0 0,.slice none 0 0,.int .i64 0,.bool false] 29 (0,0)) kl):gb206≠gb204));have n8_:=Aside0.mk ((by rw [hg];exact Nat.ne_of_lt (IsS55.lt (show IsS55 w _ gb205 (strOfNums l0) 0 false from isl55)):gb205≠gb206));have n9_:=Aside0.mk ((by rw [hg];exact Nat.ne_of_gt (IsS55.lt (show IsS55 w _ gb205 (strOfNums l0) 0 false from isl55)):gb206≠gb205));clear BK204;clear HI205;clear HB;have BK204:=n0_;have HI205:=n1_;have HB:=n2_;have BK206:=n3_;have GW206:=n4_;have GE206:=n5_;have NB204_206:=n6_;have NB206_204:=n7_;have NB205_206:=n8_;have NB206_205:=n9_;clear n0_ n1_ n2_ n3_ n4_ n5_ n6_ n7_ n8_ n9_;clear hb hbox hg;have hnb21:=NB206_204.out;have hnc21:=NB204_206.out;have hnb22:=NB206_205.out;have hnc22:=NB205_206.out;obtain⟨_,_,_,_,_,_,_,_,_,_⟩:=bc5 BK206.out)|(go_at_call 23;(with_reducible refine(stowageref17_Reader_begun.calls k gb205 (strOfNums l0) 0 false t207 t208 t209 t210 w _ ?side1 ?side2 A3.out).mono ?_);(case side1=>repeat (first|(with_reducible first|exact HI205.out|apply IsS55.alloc|apply IsS55.drewN|apply IsS55.drew|apply IsS55.set_0|apply IsS55.set_1|apply IsS55.set_2|refine IsS55.far ?_ NB205_204.out _|refine IsS55.far ?_ NB205_206.out _)|exact HI205.out));(case side2=>repeat (first|(with_reducible first|exact HB.out|apply below_alloc|apply pw_below_drewN|apply below_drew1|refine below_set ?_ (IsS55.ge HI205.out)|refine below_set ?_ GE204.out|refine below_set ?_ GE206.out)|exact HB.out));rintro e w24 ⟨rfl,hi,hb,hk⟩;have n0_:=Aside0.mk (KeepBut.blk hk (g':=gb204) (o:=.cells #[.int .i64 0,.slice none 0 0,.slice none 0 0,.int .i64 0,.bool false] 29 (0,0)) (by(with_reducible repeat (first|refine blk_drewN ?_ _|refine blk_drew ?_|refine blk_alloc ?_ _));refine blk_far ?_ NB204_206.out _;(with_reducible repeat (first|refine blk_drewN ?_ _|refine blk_drew ?_|refine blk_alloc ?_ _));refine blk_far ?_ NB204_206.out _;(with_reducible repeat (first|refine blk_drewN ?_ _|refine blk_drew ?_|refine blk_alloc ?_ _));refine blk_far ?_ NB204_206.out _;(with_reducible repeat (first|refine blk_drewN ?_ _|refine blk_drew ?_|refine blk_alloc ?_ _));refine blk_far ?_ NB204_206.out _;(with_reducible repeat (first|refine blk_drewN ?_ _|refine blk_drew ?_|refine blk_alloc ?_ _));refine blk_far ?_ NB204_206.out _;(with_reducible repeat (first|refine blk_drewN ?_ _|refine blk_drew ?_|refine blk_alloc ?_ _));exact BK204.out) NB204_205.out (by simp));have n1_:=Aside0.mk (KeepBut.blk hk (g':=gb206) (o:=.cells #[.int .i64 0,.slice none 0 0,.slice none 0 0,.int .i64 0,.bool true] 29 (0,0)) (by(with_reducible repeat (first|refine blk_drewN ?_ _|refine blk_drew ?_|refine blk_alloc ?_ _));refine blk_put (cs:=#[.int .i64 0,.slice none 0 0,.slice none 0 0,.int .i64 0,.bool false]) ?_ 4 _ rfl;(with_reducible repeat (first|refine blk_drewN ?_ _|refine blk_drew ?_|refine blk_alloc ?_ _));refine blk_put (cs:=#[.int .i64 0,.slice none 0 0,.slice none 0 0,.int .i64 0,.bool false]) ?_ 3 _ rfl;(with_reducible repeat (first|refine blk_drewN ?_ _|refine blk_drew ?_|refine blk_alloc ?_ _));refine blk_put (cs:=#[.int .i64 0,.slice none 0 0,.slice none 0 0,.int .i64 0,.bool false]) ?_ 2 _ rfl;(with_reducible repeat (first|refine blk_drewN ?_ _|refine blk_drew ?_|refine blk_alloc ?_ _));refine blk_put (cs:=#[.int .i64 0,.slice none 0 0,.slice none 0 0,.int .i64 0,.bool false]) ?_ 1 _ rfl;(with_reducible repeat (first|refine blk_drewN ?_ _|refine blk_drew ?_|refine blk_alloc ?_ _));refine blk_put (cs:=#[.int .i64 0,.slice none 0 0,.slice none 0 0,.int .i64 0,.bool false]) ?_ 0 _ rfl;(with_reducible repeat (first|refine blk_drewN ?_ _|refine blk_drew ?_|refine blk_alloc ?_ _));exact BK206.out) NB206_205.out (by simp));have n2_:=Aside0.mk (hb);have n3_:=Aside0.mk (hi);clear BK204;clear BK206;clear HB;clear HI205;have BK204:=n0_;have BK206:=n1_;have HB:=n2_;have HI205:=n3_;clear n0_ n1_ n2_ n3_;obtain⟨_,_,_,_,_,_,_,_,_,_⟩:=bc5 BK206.out))
 (try simp only [Act.put,l1,l2,l3])
 go_cut [7] (fun v7 wc=>∃ (kq:Nat) (x7_15:Int) (x205000_15:Int) (x205003_15:Int) (x205004_15:Bool) (x206000_15:ByteArray) (x206001_15:Int) (x206002_15:Bool) (x207001_15:List (S52)) (u207001:Value),v7 = .int .i64 x7_15∧Aside0 (stowageref17_Parse.j6 kq a1 x7_15 x206000_15 x206001_15 x206002_15 t207 x207001_15 0 true=some (r1,r2,r3,r4,r5))∧Aside0 (kq≤k)∧Aside0 (Kd.R k52 52 wc w.heap.size (fun k_=>(w.heap.size≤k_)) u207001 x207001_15)∧Aside0 (wc.heap[gb204]? = some (.cells #[.int .i64 x205000_15,(.slice none 0 0),(.slice none 0 0),.int .i64 x205003_15,.bool x205004_15] 29 (0,0)))∧Aside0 (wc.heap[gb206]? = some (.cells #[.int .i64 t207,u207001,(.slice none 0 0),.int .i64 0,.bool true] 29 (0,0)))∧Aside0 (IsS55 w wc gb205 x206000_15 x206001_15 x206002_15)∧Aside0 (Below w.heap.size w wc))
 case first=>
  have H:=HC16.out
  clear HC16
  have H':=Aside0.mk H
  clear H
  go_wp2
  go_loopg [7] k (fun kq v7 w'=>∃ (x7_1:Int) (x205000_1:Int) (x205003_1:Int) (x205004_1:Bool) (x206000_1:ByteArray) (x206001_1:Int) (x206002_1:Bool) (x207001_1:List (S52)) (u207001:Value),v7 = .int .i64 x7_1∧Aside0 (stowageref17_Parse.l0 kq a1 x7_1 x206000_1 x206001_1 x206002_1 t207 x207001_1 0 true=some (r1,r2,r3,r4,r5))∧Aside0 (kq≤k)∧Aside0 (Kd.R k52 52 w' w.heap.size (fun k_=>(w.heap.size≤k_)) u207001 x207001_1)∧Aside0 (w'.heap[gb204]? = some (.cells #[.int .i64 x205000_1,(.slice none 0 0),(.slice none 0 0),.int .i64 x205003_1,.bool x205004_1] 29 (0,0)))∧Aside0 (w'.heap[gb206]? = some (.cells #[.int .i64 t207,u207001,(.slice none 0 0),.int .i64 0,.bool true] 29 (0,0)))∧Aside0 (IsS55 w w' gb205 x206000_1 x206001_1 x206002_1)∧Aside0 (Below w.heap.size w w'))
  case atStart=>exact⟨(0),(0),(0),(false),(t208),(t209),(t210),(([]:List (S52))),(.slice none 0 0),rs,H',⟨Nat.le_refl _⟩,⟨nl⟩,⟨by(with_reducible repeat (first|refine blk_drewN ?_ _|refine blk_drew ?_|refine blk_alloc ?_ _));refine blk_far ?_ NB204_206.out _;(with_reducible repeat (first|refine blk_drewN ?_ _|refine blk_drew ?_|refine blk_alloc ?_ _));exact BK204.out⟩,⟨by(with_reducible repeat (first|refine blk_drewN ?_ _|refine blk_drew ?_|refine blk_alloc ?_ _));refine blk_put (cs:=#[.int .i64 0,.slice none 0 0,.slice none 0 0,.int .i64 0,.bool true]) ?_ 0 _ rfl;(with_reducible repeat (first|refine blk_drewN ?_ _|refine blk_drew ?_|refine blk_alloc ?_ _));exact BK206.out⟩,⟨isl55⟩,⟨bl⟩⟩
  case round=>
   clear H'
   obtain⟨x7_1,x205000_1,x205003_1,x205004_1,x206000_1,x206001_1,x206002_1,x207001_1,u207001,rfl,HA,HK1,HO_207001,BK204,BK206,HI205,HB⟩:=hrel
   cases gk with
   | zero=>exact absurd HA.out (by simp [stowageref17_Parse.l0])
   | succ k1=>
    have H:=HA.out
    clear HA
    simp only [stowageref17_Parse.l0] at H
    replace H:=bndO H
    obtain⟨⟨t211,t212,t213,t214⟩,A260,H⟩:=H
    dsimp only at H
    have A26:=Aside0.mk A260
    clear A260
    by_cases c27:t214=true
    {
    subst c27
    replace H:=itT H
    simp only [Option.some.injEq,Prod.mk.injEq] at H
    obtain⟨rfl,rfl,rfl,rfl,rfl⟩:=H
    go_wp2_with (first|(go_at_call 24;(with_reducible refine(stowageref17_Reader_line.calls k1 gb205 x206000_1 x206001_1 x206002_1 t211 t212 t213 true w _ ?side1 ?side2 A26.out).mono ?_);(case side1=>repeat (first|(with_reducible first|exact HI205.out|apply IsS55.alloc|apply IsS55.drewN|apply IsS55.drew|apply IsS55.set_0|apply IsS55.set_1|apply IsS55.set_2|refine IsS55.far ?_ NB205_204.out _|refine IsS55.far ?_ NB205_206.out _)|exact HI205.out));(case side2=>repeat (first|(with_reducible first|exact HB.out|apply below_alloc|apply pw_below_drewN|apply below_drew1|refine below_set ?_ (IsS55.ge HI205.out)|refine below_set ?_ GE204.out|refine below_set ?_ GE206.out)|exact HB.out));rintro e w28 ⟨rfl,hi,hb,hk⟩;have n0_:=Aside0.mk (Kd.R_mono (Kd.R_keep (IsS55.apart (show IsS55 w _ gb205 x206000_1 x206001_1 x206002_1 from isl55) rl (by decide)) hk (fun _ h=>h.2)) (fun _ h=>h.1));have n1_:=Aside0.mk (KeepBut.blk hk (g':=gb204) (o:=.cells #[.int .i64 x205000_1,.slice none 0 0,.slice none 0 0,.int .i64 x205003_1,.bool x205004_1] 29 (0,0)) kl NB204_205.out (by simp));have n2_:=Aside0.mk (KeepBut.blk hk (g':=gb206) (o:=.cells #[.int .i64 t207,u207001,.slice none 0 0,.int .i64 0,.bool true] 29 (0,0)) kl NB206_205.out (by simp));have n3_:=Aside0.mk (hb);have n4_:=Aside0.mk (hi);clear HO_207001;clear BK204;clear BK206;clear HB;clear HI205;have HO_207001:=n0_;have BK204:=n1_;have BK206:=n2_;have HB:=n3_;have HI205:=n4_;clear n0_ n1_ n2_ n3_ n4_;obtain⟨HGz29,hgz29⟩:=HI205.out;have hcz29_0:=cellS55_0 HGz29;have hcz29_1:=cellS55_1 HGz29;have hcz29_2:=cellS55_2 HGz29;have hfz29_0:=blk_frozen HGz29 0;have hfz29_1:=blk_frozen HGz29 1;have hfz29_2:=blk_frozen HGz29 2;clear HGz29 hgz29;have hnb30:=NB204_206.out;have hnc30:=NB206_204.out;have hnb31:=NB204_205.out;have hnc31:=NB205_204.out;obtain⟨_,_,_,_,_,_,_,_,_,_⟩:=bc5 BK204.out))
    refine bodyPost_ret (results_cell_row rfl _ _ gb204 29 #[.int .i64 0,.slice none 0 0,.slice none 0 0,.int .i64 0,.bool false] (0,0) _ rfl (by(with_reducible repeat (first|refine blk_drewN ?_ _|refine blk_drew ?_|refine blk_alloc ?_ _));refine blk_put (cs:=#[.int .i64 0,.slice none 0 0,.slice none 0 0,.int .i64 0,.bool x205004_1]) ?_ 4 _ rfl;(with_reducible repeat (first|refine blk_drewN ?_ _|refine blk_drew ?_|refine blk_alloc ?_ _));refine blk_put (cs:=#[.int .i64 0,.slice none 0 0,.slice none 0 0,.int .i64 x205003_1,.bool x205004_1]) ?_ 3 _ rfl;(with_reducible repeat (first|refine blk_drewN ?_ _|refine blk_drew ?_|refine blk_alloc ?_ _));refine blk_put (cs:=#[.int .i64 0,.slice none 0 0,.slice none 0 0,.int .i64 x205003_1,.bool x205004_1]) ?_ 2 _ rfl;(with_reducible repeat (first|refine blk_drewN ?_ _|refine blk_drew ?_|refine blk_alloc ?_ _));refine blk_put (cs:=#[.int .i64 0,.slice none 0 0,.slice none 0 0,.int .i64 x205003_1,.bool x205004_1]) ?_ 1 _ rfl;(with_reducible repeat (first|refine blk_drewN ?_ _|refine blk_drew ?_|refine blk_alloc ?_ _));refine blk_put (cs:=#[.int .i64 x205000_1,.slice none 0 0,.slice none 0 0,.int .i64 x205003_1,.bool x205004_1]) ?_ 0 _ rfl;(with_reducible repeat (first|refine blk_drewN ?_ _|refine blk_drew ?_|refine blk_alloc ?_ _));exact BK204.out) Tryd.underlying29 rfl kr) rfl ?_
    exact⟨_,_,ew,nl,nl,bl⟩
    }
    {
    replace c27:=Bool.eq_false_iff.mpr c27
    subst c27
    replace H:=itF H
    have HC33:=Aside0.mk H
    clear H
    go_upto_region 10 with(first|(go_at_call 24;(with_reducible refine(stowageref17_Reader_line.calls k1 gb205 x206000_1 x206001_1 x206002_1 t211 t212 t213 false w _ ?side1 ?side2 A26.out).mono ?_);(case side1=>repeat (first|(with_reducible first|exact HI205.out|apply IsS55.alloc|apply IsS55.drewN|apply IsS55.drew|apply IsS55.set_0|apply IsS55.set_1|apply IsS55.set_2|refine IsS55.far ?_ NB205_204.out _|refine IsS55.far ?_ NB205_206.out _)|exact HI205.out));(case side2=>repeat (first|(with_reducible first|exact HB.out|apply below_alloc|apply pw_below_drewN|apply below_drew1|refine below_set ?_ (IsS55.ge HI205.out)|refine below_set ?_ GE204.out|refine below_set ?_ GE206.out)|exact HB.out));rintro e w34 ⟨rfl,hi,hb,hk⟩;have n0_:=Aside0.mk (Kd.R_mono (Kd.R_keep (IsS55.apart (show IsS55 w _ gb205 x206000_1 x206001_1 x206002_1 from isl55) rl (by decide)) hk (fun _ h=>h.2)) (fun _ h=>h.1));have n1_:=Aside0.mk (KeepBut.blk hk (g':=gb204) (o:=.cells #[.int .i64 x205000_1,.slice none 0 0,.slice none 0 0,.int .i64 x205003_1,.bool x205004_1] 29 (0,0)) kl NB204_205.out (by simp));have n2_:=Aside0.mk (KeepBut.blk hk (g':=gb206) (o:=.cells #[.int .i64 t207,u207001,.slice none 0 0,.int .i64 0,.bool true] 29 (0,0)) kl NB206_205.out (by simp));have n3_:=Aside0.mk (hb);have n4_:=Aside0.mk (hi);clear HO_207001;clear BK204;clear BK206;clear HB;clear HI205;have HO_207001:=n0_;have BK204:=n1_;have BK206:=n2_;have HB:=n3_;have HI205:=n4_;clear n0_ n1_ n2_ n3_ n4_;obtain⟨HGz35,hgz35⟩:=HI205.out;have hcz35_0:=cellS55_0 HGz35;have hcz35_1:=cellS55_1 HGz35;have hcz35_2:=cellS55_2 HGz35;have hfz35_0:=blk_frozen HGz35 0;have hfz35_1:=blk_frozen HGz35 1;have hfz35_2:=blk_frozen HGz35 2;clear HGz35 hgz35))
    (try simp only [Act.put,l1,l2,l3])
    go_cut [42] (fun v42 wc=>∃ (kq:Nat) (x42_32:Bool),v42 = .bool x42_32∧Aside0 (stowageref17_Parse.j1 kq a1 x7_1 t211 x42_32 t212 t213 false t207 x207001_1 0 true=some (r1,r2,r3,r4,r5))∧Aside0 (kq≤k1)∧Aside0 (Kd.R k52 52 wc w.heap.size (fun k_=>(w.heap.size≤k_)) u207001 x207001_1)∧Aside0 (wc.heap[gb204]? = some (.cells #[.int .i64 x205000_1,(.slice none 0 0),(.slice none 0 0),.int .i64 x205003_1,.bool x205004_1] 29 (0,0)))∧Aside0 (wc.heap[gb206]? = some (.cells #[.int .i64 t207,u207001,(.slice none 0 0),.int .i64 0,.bool true] 29 (0,0)))∧Aside0 (IsS55 w wc gb205 t212 t213 false)∧Aside0 (Below w.heap.size w wc))
    case first=>
     have H:=HC33.out
     clear HC33
     replace H:=bndO H
     obtain⟨t215,A360,H⟩:=H
     have A36:=Aside0.mk A360
     clear A360
     by_cases c37:t215=true
     {
     subst c37
     replace H:=itT H
     have H':=Aside0.mk H
     clear H
     have hnb38:=NB206_204.out
     have hnc38:=NB204_206.out
     have hnb39:=NB206_205.out
     have hnc39:=NB205_206.out
     obtain⟨_,_,_,_,_,_,_,_,_,_⟩:=bc5 BK206.out
     go_wp2_with (first|(go_at_call 16;(with_reducible refine(stowageref17_Bare.calls t207 true _ A36.out).mono ?_);rintro e w' ⟨rfl,⟨nd,rfl⟩⟩;(try exact dd)))
     go_meet
     case rel=>exact⟨_,((t211.toList == ([]:List UInt8))),rs,H',⟨by have:=HK1.out;first|omega|exact Nat.le_refl _⟩,⟨rl⟩,⟨kl⟩,⟨kl⟩,⟨isl55⟩,⟨bl⟩⟩
     }
     {
     replace c37:=Bool.eq_false_iff.mpr c37
     subst c37
     replace H:=itF H
     have H':=Aside0.mk H
     clear H
     have hnb41:=NB206_204.out
     have hnc41:=NB204_206.out
     have hnb42:=NB206_205.out
     have hnc42:=NB205_206.out
     obtain⟨_,_,_,_,_,_,_,_,_,_⟩:=bc5 BK206.out
     go_wp2_with (first|(go_at_call 16;(with_reducible refine(stowageref17_Bare.calls t207 false _ A36.out).mono ?_);rintro e w' ⟨rfl,⟨nd,rfl⟩⟩;(try exact dd)))
     go_meet
     case rel=>exact⟨_,(false),rs,H',⟨by have:=HK1.out;first|omega|exact Nat.le_refl _⟩,⟨rl⟩,⟨kl⟩,⟨kl⟩,⟨isl55⟩,⟨bl⟩⟩
     }
    case rest=>
     clear HC33
     obtain⟨kq,x42_32,rfl,HA,HJ32,HO_207001,BK204,BK206,HI205,HB⟩:=hcut
     cases kq with
     | zero=>exact absurd HA.out (by simp [stowageref17_Parse.j1])
     | succ kj32=>
      have H:=HA.out
      clear HA
      simp only [stowageref17_Parse.j1] at H
      by_cases c44:x42_32=true
      {
      subst c44
      replace H:=itT H
      have H':=Aside0.mk H
      clear H
      go_wp2
      go_meet
      case rel=>exact⟨_,(x7_1),(x205000_1),(x205003_1),(x205004_1),(t212),(t213),(false),(x207001_1),(u207001),rs,H',⟨by have:=HK1.out;have:=HJ32.out;first|omega|exact Nat.le_refl _⟩,⟨rl⟩,⟨kl⟩,⟨kl⟩,⟨isl55⟩,⟨bl⟩⟩
      }
      {
      replace c44:=Bool.eq_false_iff.mpr c44
      subst c44
      replace H:=itF H
      have HC45:=Aside0.mk H
      clear H
      go_upto_region 11 with(fail)
      go_cut [50] (fun v50 wc=>∃ (kq:Nat) (x50_44:Bool),v50 = .bool x50_44∧Aside0 (stowageref17_Parse.j2 kq a1 x7_1 t211 x50_44 t212 t213 false t207 x207001_1 0 true=some (r1,r2,r3,r4,r5))∧Aside0 (kq≤kj32)∧Aside0 (Kd.R k52 52 wc w.heap.size (fun k_=>(w.heap.size≤k_)) u207001 x207001_1)∧Aside0 (wc.heap[gb204]? = some (.cells #[.int .i64 x205000_1,(.slice none 0 0),(.slice none 0 0),.int .i64 x205003_1,.bool x205004_1] 29 (0,0)))∧Aside0 (wc.heap[gb206]? = some (.cells #[.int .i64 t207,u207001,(.slice none 0 0),.int .i64 0,.bool true] 29 (0,0)))∧Aside0 (IsS55 w wc gb205 t212 t213 false)∧Aside0 (Below w.heap.size w wc))
      case first=>
       have H:=HC45.out
       clear HC45
       replace H:=bndO H
       obtain⟨t216,A460,H⟩:=H
       have A46:=Aside0.mk A460
       clear A460
       by_cases c47:t216=true
       {
       subst c47
       replace H:=itT H
       have H':=Aside0.mk H
       clear H
       have hnb48:=NB206_204.out
       have hnc48:=NB204_206.out
       have hnb49:=NB206_205.out
       have hnc49:=NB205_206.out
       obtain⟨_,_,_,_,_,_,_,_,_,_⟩:=bc5 BK206.out
       go_wp2_with (first|(go_at_call 16;(with_reducible refine(stowageref17_Bare.calls t207 true _ A46.out).mono ?_);rintro e w' ⟨rfl,⟨nd,rfl⟩⟩;(try exact dd)))
       go_meet
       case rel=>exact⟨_,((t211.toList == ([67,111,110,110,101,99,116,105,111,110,58,32,99,108,111,115,101]:List UInt8))),rs,H',⟨by have:=HK1.out;have:=HJ32.out;first|omega|exact Nat.le_refl _⟩,⟨rl⟩,⟨kl⟩,⟨kl⟩,⟨isl55⟩,⟨bl⟩⟩
       }
       {
       replace c47:=Bool.eq_false_iff.mpr c47
       subst c47
       replace H:=itF H
       have H':=Aside0.mk H
       clear H
       have hnb51:=NB206_204.out
       have hnc51:=NB204_206.out
       have hnb52:=NB206_205.out
       have hnc52:=NB205_206.out
       obtain⟨_,_,_,_,_,_,_,_,_,_⟩:=bc5 BK206.out
       go_wp2_with (first|(go_at_call 16;(with_reducible refine(stowageref17_Bare.calls t207 false _ A46.out).mono ?_);rintro e w' ⟨rfl,⟨nd,rfl⟩⟩;(try exact dd)))
       go_meet
       case rel=>exact⟨_,(false),rs,H',⟨by have:=HK1.out;have:=HJ32.out;first|omega|exact Nat.le_refl _⟩,⟨rl⟩,⟨kl⟩,⟨kl⟩,⟨isl55⟩,⟨bl⟩⟩
       }
      case rest=>
       clear HC45
       obtain⟨kq,x50_44,rfl,HA,HJ44,HO_207001,BK204,BK206,HI205,HB⟩:=hcut
       cases kq with
       | zero=>exact absurd HA.out (by simp [stowageref17_Parse.j2])
       | succ kj44=>
        have H:=HA.out
        clear HA
        simp only [stowageref17_Parse.j2] at H
        by_cases c54:x50_44=true
        {
        subst c54
        replace H:=itT H
        replace H:=bndO H
        obtain⟨⟨t217,t218,t219,t220⟩,A550,H⟩:=H
        dsimp only at H
        have A55:=Aside0.mk A550
        clear A550
        replace H:=itO H
        rcases H with⟨c56,H⟩|⟨c56,H⟩
        {
        have c56b0:(t217.toList == ([]:List UInt8))=true:=beq_iff_eq.mpr c56
        have c56b1:(t217.toList != ([]:List UInt8))=false:=bne_eq_false_iff_eq.mpr c56
        clear c56
        by_cases c57:t220=true
        {
        subst c57
        replace H:=itT H
        simp only [Option.some.injEq,Prod.mk.injEq] at H
        obtain⟨rfl,rfl,rfl,rfl,rfl⟩:=H
        go_wp2_with (first|(go_at_call 24;(with_reducible refine(stowageref17_Reader_line.calls kj44 gb205 t212 t213 false t217 t218 t219 true w _ ?side1 ?side2 A55.out).mono ?_);(case side1=>repeat (first|(with_reducible first|exact HI205.out|apply IsS55.alloc|apply IsS55.drewN|apply IsS55.drew|apply IsS55.set_0|apply IsS55.set_1|apply IsS55.set_2|refine IsS55.far ?_ NB205_204.out _|refine IsS55.far ?_ NB205_206.out _)|exact HI205.out));(case side2=>repeat (first|(with_reducible first|exact HB.out|apply below_alloc|apply pw_below_drewN|apply below_drew1|refine below_set ?_ (IsS55.ge HI205.out)|refine below_set ?_ GE204.out|refine below_set ?_ GE206.out)|exact HB.out));rintro e w58 ⟨rfl,hi,hb,hk⟩;have n0_:=Aside0.mk (Kd.R_mono (Kd.R_keep (IsS55.apart (show IsS55 w _ gb205 t212 t213 false from isl55) rl (by decide)) hk (fun _ h=>h.2)) (fun _ h=>h.1));have n1_:=Aside0.mk (KeepBut.blk hk (g':=gb204) (o:=.cells #[.int .i64 x205000_1,.slice none 0 0,.slice none 0 0,.int .i64 x205003_1,.bool x205004_1] 29 (0,0)) kl NB204_205.out (by simp));have n2_:=Aside0.mk (KeepBut.blk hk (g':=gb206) (o:=.cells #[.int .i64 t207,u207001,.slice none 0 0,.int .i64 0,.bool true] 29 (0,0)) kl NB206_205.out (by simp));have n3_:=Aside0.mk (hb);have n4_:=Aside0.mk (hi);clear HO_207001;clear BK204;clear BK206;clear HB;clear HI205;have HO_207001:=n0_;have BK204:=n1_;have BK206:=n2_;have HB:=n3_;have HI205:=n4_;clear n0_ n1_ n2_ n3_ n4_;obtain⟨HGz59,hgz59⟩:=HI205.out;have hcz59_0:=cellS55_0 HGz59;have hcz59_1:=cellS55_1 HGz59;have hcz59_2:=cellS55_2 HGz59;have hfz59_0:=blk_frozen HGz59 0;have hfz59_1:=blk_frozen HGz59 1;have hfz59_2:=blk_frozen HGz59 2;clear HGz59 hgz59;have hnb60:=NB204_206.out;have hnc60:=NB206_204.out;have hnb61:=NB204_205.out;have hnc61:=NB205_204.out;obtain⟨_,_,_,_,_,_,_,_,_,_⟩:=bc5 BK204.out))
        refine bodyPost_ret (results_cell_row rfl _ _ gb204 29 #[.int .i64 0,.slice none 0 0,.slice none 0 0,.int .i64 0,.bool false] (0,0) _ rfl (by(with_reducible repeat (first|refine blk_drewN ?_ _|refine blk_drew ?_|refine blk_alloc ?_ _));refine blk_put (cs:=#[.int .i64 0,.slice none 0 0,.slice none 0 0,.int .i64 0,.bool x205004_1]) ?_ 4 _ rfl;(with_reducible repeat (first|refine blk_drewN ?_ _|refine blk_drew ?_|refine blk_alloc ?_ _));refine blk_put (cs:=#[.int .i64 0,.slice none 0 0,.slice none 0 0,.int .i64 x205003_1,.bool x205004_1]) ?_ 3 _ rfl;(with_reducible repeat (first|refine blk_drewN ?_ _|refine blk_drew ?_|refine blk_alloc ?_ _));refine blk_put (cs:=#[.int .i64 0,.slice none 0 0,.slice none 0 0,.int .i64 x205003_1,.bool x205004_1]) ?_ 2 _ rfl;(with_reducible repeat (first|refine blk_drewN ?_ _|refine blk_drew ?_|refine blk_alloc ?_ _));refine blk_put (cs:=#[.int .i64 0,.slice none 0 0,.slice none 0 0,.int .i64 x205003_1,.bool x205004_1]) ?_ 1 _ rfl;(with_reducible repeat (first|refine blk_drewN ?_ _|refine blk_drew ?_|refine blk_alloc ?_ _));refine blk_put (cs:=#[.int .i64 x205000_1,.slice none 0 0,.slice none 0 0,.int .i64 x205003_1,.bool x205004_1]) ?_ 0 _ rfl;(with_reducible repeat (first|refine blk_drewN ?_ _|refine blk_drew ?_|refine blk_alloc ?_ _));exact BK204.out) Tryd.underlying29 rfl kr) rfl ?_
        exact⟨_,_,ew,nl,nl,bl⟩
        }
        {
        replace c57:=Bool.eq_false_iff.mpr c57
        subst c57
        replace H:=itF H
        have H':=Aside0.mk H
        clear H
        go_wp2_with (first|(go_at_call 24;(with_reducible refine(stowageref17_Reader_line.calls kj44 gb205 t212 t213 false t217 t218 t219 false w _ ?side1 ?side2 A55.out).mono ?_);(case side1=>repeat (first|(with_reducible first|exact HI205.out|apply IsS55.alloc|apply IsS55.drewN|apply IsS55.drew|apply IsS55.set_0|apply IsS55.set_1|apply IsS55.set_2|refine IsS55.far ?_ NB205_204.out _|refine IsS55.far ?_ NB205_206.out _)|exact HI205.out));(case side2=>repeat (first|(with_reducible first|exact HB.out|apply below_alloc|apply pw_below_drewN|apply below_drew1|refine below_set ?_ (IsS55.ge HI205.out)|refine below_set ?_ GE204.out|refine below_set ?_ GE206.out)|exact HB.out));rintro e w63 ⟨rfl,hi,hb,hk⟩;have n0_:=Aside0.mk (Kd.R_mono (Kd.R_keep (IsS55.apart (show IsS55 w _ gb205 t212 t213 false from isl55) rl (by decide)) hk (fun _ h=>h.2)) (fun _ h=>h.1));have n1_:=Aside0.mk (KeepBut.blk hk (g':=gb204) (o:=.cells #[.int .i64 x205000_1,.slice none 0 0,.slice none 0 0,.int .i64 x205003_1,.bool x205004_1] 29 (0,0)) kl NB204_205.out (by simp));have n2_:=Aside0.mk (KeepBut.blk hk (g':=gb206) (o:=.cells #[.int .i64 t207,u207001,.slice none 0 0,.int .i64 0,.bool true] 29 (0,0)) kl NB206_205.out (by simp));have n3_:=Aside0.mk (hb);have n4_:=Aside0.mk (hi);clear HO_207001;clear BK204;clear BK206;clear HB;clear HI205;have HO_207001:=n0_;have BK204:=n1_;have BK206:=n2_;have HB:=n3_;have HI205:=n4_;clear n0_ n1_ n2_ n3_ n4_;obtain⟨HGz64,hgz64⟩:=HI205.out;have hcz64_0:=cellS55_0 HGz64;have hcz64_1:=cellS55_1 HGz64;have hcz64_2:=cellS55_2 HGz64;have hfz64_0:=blk_frozen HGz64 0;have hfz64_1:=blk_frozen HGz64 1;have hfz64_2:=blk_frozen HGz64 2;clear HGz64 hgz64))
        go_meet
        case rel=>exact⟨_,(x7_1),(x205000_1),(x205003_1),(x205004_1),(t218),(t219),(false),(x207001_1),(u207001),rs,H',⟨by have:=HK1.out;have:=HJ32.out;have:=HJ44.out;first|omega|exact Nat.le_refl _⟩,⟨rl⟩,⟨kl⟩,⟨kl⟩,⟨isl55⟩,⟨bl⟩⟩
        }
        }
        {
        have c56b0:(t217.toList == ([]:List UInt8))=false:=beq_eq_false_iff_ne.mpr c56
        have c56b1:(t217.toList != ([]:List UInt8))=true:=bne_iff_ne.mpr c56
        simp only [Option.some.injEq,Prod.mk.injEq] at H
        obtain⟨rfl,rfl,rfl,rfl,rfl⟩:=H
        go_wp2_with (first|(go_at_call 24;(with_reducible refine(stowageref17_Reader_line.calls kj44 gb205 t212 t213 false t217 t218 t219 t220 w _ ?side1 ?side2 A55.out).mono ?_);(case side1=>repeat (first|(with_reducible first|exact HI205.out|apply IsS55.alloc|apply IsS55.drewN|apply IsS55.drew|apply IsS55.set_0|apply IsS55.set_1|apply IsS55.set_2|refine IsS55.far ?_ NB205_204.out _|refine IsS55.far ?_ NB205_206.out _)|exact HI205.out));(case side2=>repeat (first|(with_reducible first|exact HB.out|apply below_alloc|apply pw_below_drewN|apply below_drew1|refine below_set ?_ (IsS55.ge HI205.out)|refine below_set ?_ GE204.out|refine below_set ?_ GE206.out)|exact HB.out));rintro e w65 ⟨rfl,hi,hb,hk⟩;have n0_:=Aside0.mk (Kd.R_mono (Kd.R_keep (IsS55.apart (show IsS55 w _ gb205 t212 t213 false from isl55) rl (by decide)) hk (fun _ h=>h.2)) (fun _ h=>h.1));have n1_:=Aside0.mk (KeepBut.blk hk (g':=gb204) (o:=.cells #[.int .i64 x205000_1,.slice none 0 0,.slice none 0 0,.int .i64 x205003_1,.bool x205004_1] 29 (0,0)) kl NB204_205.out (by simp));have n2_:=Aside0.mk (KeepBut.blk hk (g':=gb206) (o:=.cells #[.int .i64 t207,u207001,.slice none 0 0,.int .i64 0,.bool true] 29 (0,0)) kl NB206_205.out (by simp));have n3_:=Aside0.mk (hb);have n4_:=Aside0.mk (hi);clear HO_207001;clear BK204;clear BK206;clear HB;clear HI205;have HO_207001:=n0_;have BK204:=n1_;have BK206:=n2_;have HB:=n3_;have HI205:=n4_;clear n0_ n1_ n2_ n3_ n4_;have hnb66:=NB204_206.out;have hnc66:=NB206_204.out;have hnb67:=NB204_205.out;have hnc67:=NB205_204.out;obtain⟨_,_,_,_,_,_,_,_,_,_⟩:=bc5 BK204.out))
        refine bodyPost_ret (results_cell_row rfl _ _ gb204 29 #[.int .i64 0,.slice none 0 0,.slice none 0 0,.int .i64 0,.bool false] (0,0) _ rfl (by(with_reducible repeat (first|refine blk_drewN ?_ _|refine blk_drew ?_|refine blk_alloc ?_ _));refine blk_put (cs:=#[.int .i64 0,.slice none 0 0,.slice none 0 0,.int .i64 0,.bool x205004_1]) ?_ 4 _ rfl;(with_reducible repeat (first|refine blk_drewN ?_ _|refine blk_drew ?_|refine blk_alloc ?_ _));refine blk_put (cs:=#[.int .i64 0,.slice none 0 0,.slice none 0 0,.int .i64 x205003_1,.bool x205004_1]) ?_ 3 _ rfl;(with_reducible repeat (first|refine blk_drewN ?_ _|refine blk_drew ?_|refine blk_alloc ?_ _));refine blk_put (cs:=#[.int .i64 0,.slice none 0 0,.slice none 0 0,.int .i64 x205003_1,.bool x205004_1]) ?_ 2 _ rfl;(with_reducible repeat (first|refine blk_drewN ?_ _|refine blk_drew ?_|refine blk_alloc ?_ _));refine blk_put (cs:=#[.int .i64 0,.slice none 0 0,.slice none 0 0,.int .i64 x205003_1,.bool x205004_1]) ?_ 1 _ rfl;(with_reducible repeat (first|refine blk_drewN ?_ _|refine blk_drew ?_|refine blk_alloc ?_ _));refine blk_put (cs:=#[.int .i64 x205000_1,.slice none 0 0,.slice none 0 0,.int .i64 x205003_1,.bool x205004_1]) ?_ 0 _ rfl;(with_reducible repeat (first|refine blk_drewN ?_ _|refine blk_drew ?_|refine blk_alloc ?_ _));exact BK204.out) Tryd.underlying29 rfl kr) rfl ?_
        exact⟨_,_,ew,nl,nl,bl⟩
        }
        }
        {
        replace c54:=Bool.eq_false_iff.mpr c54
        subst c54
        replace H:=itF H
        replace H:=bndO H
        obtain⟨⟨t221,t222,t223⟩,A690,H⟩:=H
        dsimp only at H
        have A69:=Aside0.mk A690
        clear A690
        by_cases c70:t223=true
        {
        subst c70
        replace H:=itT H
        have HC71:=Aside0.mk H
        clear H
        go_upto_region 17 with(first|(go_at_call 25;(with_reducible refine(stowageref17_header.calls kj44 t211 t221 t222 true _ A69.out).mono ?_);rintro e w72 ⟨rfl,hb⟩;have n0_:=Aside0.mk (Kd.R_below rl hb);have n1_:=Aside0.mk (blk_below (g:=gb204) (o:=.cells #[.int .i64 x205000_1,.slice none 0 0,.slice none 0 0,.int .i64 x205003_1,.bool x205004_1] 29 (0,0)) kl hb);have n2_:=Aside0.mk (blk_below (g:=gb206) (o:=.cells #[.int .i64 t207,u207001,.slice none 0 0,.int .i64 0,.bool true] 29 (0,0)) kl hb);have n3_:=Aside0.mk (IsS55.below isl55 hb);have n4_:=Aside0.mk (below_step bl hb);clear HO_207001;clear BK204;clear BK206;clear HI205;clear HB;have HO_207001:=n0_;have BK204:=n1_;have BK206:=n2_;have HI205:=n3_;have HB:=n4_;clear n0_ n1_ n2_ n3_ n4_)|((with_reducible refine gate_dst (N:=9) rfl ?_);refine box_event ?hg (N:=9) ?hd (cs:=#[.string (⟨#[]⟩ : ByteArray),.string (⟨#[]⟩ : ByteArray)]) (t:=52) ?hr ?_;(case hd=>rfl);(case hg=>rfl);(case hr=>first|(go_simp;done)|(go_simp;rfl));intro gb224 hg w73 hbox hb;have n0_:=Aside0.mk (Kd.R_below (Kd.R_elderB rl gb224 (Nat.le_of_eq hg.symm)) hb);have n1_:=Aside0.mk (blk_below (g:=gb204) (o:=.cells #[.int .i64 x205000_1,.slice none 0 0,.slice none 0 0,.int .i64 x205003_1,.bool x205004_1] 29 (0,0)) kl hb);have n2_:=Aside0.mk (blk_below (g:=gb206) (o:=.cells #[.int .i64 t207,u207001,.slice none 0 0,.int .i64 0,.bool true] 29 (0,0)) kl hb);have n3_:=Aside0.mk (IsS55.below isl55 hb);have n4_:=Aside0.mk (below_step bl hb);have n5_:=Aside0.mk (hbox);have n6_:=Aside0.mk ((by rw [hg];exact(below_size bl):w.heap.size≤gb224));have n7_:=Aside0.mk ((by rw [hg];exact(below_size bl):w.heap.size≤gb224));have n8_:=Aside0.mk ((by rw [hg];exact Nat.ne_of_lt (blk_lt (g:=gb204) (o:=.cells #[.int .i64 x205000_1,.slice none 0 0,.slice none 0 0,.int .i64 x205003_1,.bool x205004_1] 29 (0,0)) kl):gb204≠gb224));have n9_:=Aside0.mk ((by rw [hg];exact Nat.ne_of_gt (blk_lt (g:=gb204) (o:=.cells #[.int .i64 x205000_1,.slice none 0 0,.slice none 0 0,.int .i64 x205003_1,.bool x205004_1] 29 (0,0)) kl):gb224≠gb204));have n10_:=Aside0.mk ((by rw [hg];exact Nat.ne_of_lt (blk_lt (g:=gb206) (o:=.cells #[.int .i64 t207,u207001,.slice none 0 0,.int .i64 0,.bool true] 29 (0,0)) kl):gb206≠gb224));have n11_:=Aside0.mk ((by rw [hg];exact Nat.ne_of_gt (blk_lt (g:=gb206) (o:=.cells #[.int .i64 t207,u207001,.slice none 0 0,.int .i64 0,.bool true] 29 (0,0)) kl):gb224≠gb206));have n12_:=Aside0.mk ((by rw [hg];exact Nat.ne_of_lt (IsS55.lt (show IsS55 w _ gb205 t212 t213 false from isl55)):gb205≠gb224));have n13_:=Aside0.mk ((by rw [hg];exact Nat.ne_of_gt (IsS55.lt (show IsS55 w _ gb205 t212 t213 false from isl55)):gb224≠gb205));clear HO_207001;clear BK204;clear BK206;clear HI205;clear HB;have HO_207001:=n0_;have BK204:=n1_;have BK206:=n2_;have HI205:=n3_;have HB:=n4_;have BK224:=n5_;have GW224:=n6_;have GE224:=n7_;have NB204_224:=n8_;have NB224_204:=n9_;have NB206_224:=n10_;have NB224_206:=n11_;have NB205_224:=n12_;have NB224_205:=n13_;clear n0_ n1_ n2_ n3_ n4_ n5_ n6_ n7_ n8_ n9_ n10_ n11_ n12_ n13_;clear hb hbox hg;have hnb74:=NB224_204.out;have hnc74:=NB204_224.out;have hnb75:=NB224_206.out;have hnc75:=NB206_224.out;have hnb76:=NB224_205.out;have hnc76:=NB205_224.out;obtain⟨_,_,_,_⟩:=bc2 BK224.out))
        (try simp only [Act.put,l1,l2,l3])
        go_cut [78] (fun v78 wc=>∃ (kq:Nat) (x78_70:Bool),v78 = .bool x78_70∧Aside0 (stowageref17_Parse.j3 kq a1 x7_1 x78_70 t212 t213 false t207 x207001_1 0 true t221 t222=some (r1,r2,r3,r4,r5))∧Aside0 (kq≤kj44)∧Aside0 (Kd.R k52 52 wc w.heap.size (fun k_=>(w.heap.size≤k_)∧k_≠gb224) u207001 x207001_1)∧Aside0 (wc.heap[gb204]? = some (.cells #[.int .i64 x205000_1,(.slice none 0 0),(.slice none 0 0),.int .i64 x205003_1,.bool x205004_1] 29 (0,0)))∧Aside0 (wc.heap[gb206]? = some (.cells #[.int .i64 t207,u207001,(.slice none 0 0),.int .i64 0,.bool true] 29 (0,0)))∧Aside0 (wc.heap[gb224]? = some (.cells #[.string t221,.string t222] 52 (0,0)))∧Aside0 (IsS55 w wc gb205 t212 t213 false)∧Aside0 (Below w.heap.size w wc))
        case first=>
         have H:=HC71.out
         clear HC71
         replace H:=bndO H
         obtain⟨t225,A780,H⟩:=H
         have A78:=Aside0.mk A780
         clear A780
         by_cases c79:t225=true
         {
         subst c79
         replace H:=itT H
         have H':=Aside0.mk H
         clear H
         have hnb80:=NB206_204.out
         have hnc80:=NB204_206.out
         have hnb81:=NB206_224.out
         have hnc81:=NB224_206.out
         have hnb82:=NB206_205.out
         have hnc82:=NB205_206.out
         obtain⟨_,_,_,_,_,_,_,_,_,_⟩:=bc5 BK206.out
         go_wp2_with (first|(go_at_call 16;(with_reducible refine(stowageref17_Bare.calls t207 true _ A78.out).mono ?_);rintro e w' ⟨rfl,⟨nd,rfl⟩⟩;(try exact dd)))
         go_meet
         case rel=>exact⟨_,(false),rs,H',⟨by have:=HK1.out;have:=HJ32.out;have:=HJ44.out;first|omega|exact Nat.le_refl _⟩,⟨by(with_reducible repeat (first|apply Kd.R_alloc|apply Kd.R_drewN|apply Kd.R_drew));exact Kd.R_mono (Kd.R_far (p:=⟨gb224,1,none⟩) (Kd.R_far (p:=⟨gb224,0,none⟩) (Kd.R_mono HO_207001.out (fun k_ hk=>(⟨hk,hk.2⟩ : _∧k_≠gb224))) (fun _ hk=>hk.2) (.string t221)) (fun _ hk=>hk.2) (.string t222)) (fun _ hk=>⟨hk.1.1,hk.1.2⟩)⟩,⟨by(with_reducible repeat (first|refine blk_drewN ?_ _|refine blk_drew ?_|refine blk_alloc ?_ _));refine blk_far ?_ NB204_224.out _;(with_reducible repeat (first|refine blk_drewN ?_ _|refine blk_drew ?_|refine blk_alloc ?_ _));refine blk_far ?_ NB204_224.out _;(with_reducible repeat (first|refine blk_drewN ?_ _|refine blk_drew ?_|refine blk_alloc ?_ _));exact BK204.out⟩,⟨by(with_reducible repeat (first|refine blk_drewN ?_ _|refine blk_drew ?_|refine blk_alloc ?_ _));refine blk_far ?_ NB206_224.out _;(with_reducible repeat (first|refine blk_drewN ?_ _|refine blk_drew ?_|refine blk_alloc ?_ _));refine blk_far ?_ NB206_224.out _;(with_reducible repeat (first|refine blk_drewN ?_ _|refine blk_drew ?_|refine blk_alloc ?_ _));exact BK206.out⟩,⟨by(with_reducible repeat (first|refine blk_drewN ?_ _|refine blk_drew ?_|refine blk_alloc ?_ _));refine blk_put (cs:=#[.string t221,.string (⟨#[]⟩ : ByteArray)]) ?_ 1 _ rfl;(with_reducible repeat (first|refine blk_drewN ?_ _|refine blk_drew ?_|refine blk_alloc ?_ _));refine blk_put (cs:=#[.string (⟨#[]⟩ : ByteArray),.string (⟨#[]⟩ : ByteArray)]) ?_ 0 _ rfl;(with_reducible repeat (first|refine blk_drewN ?_ _|refine blk_drew ?_|refine blk_alloc ?_ _));exact BK224.out⟩,⟨isl55⟩,⟨bl⟩⟩
         }
         {
         replace c79:=Bool.eq_false_iff.mpr c79
         subst c79
         replace H:=itF H
         have H':=Aside0.mk H
         clear H
         have hnb84:=NB206_204.out
         have hnc84:=NB204_206.out
         have hnb85:=NB206_224.out
         have hnc85:=NB224_206.out
         have hnb86:=NB206_205.out
         have hnc86:=NB205_206.out
         obtain⟨_,_,_,_,_,_,_,_,_,_⟩:=bc5 BK206.out
         go_wp2_with (first|(go_at_call 16;(with_reducible refine(stowageref17_Bare.calls t207 false _ A78.out).mono ?_);rintro e w' ⟨rfl,⟨nd,rfl⟩⟩;(try exact dd);have hnb88:=NB224_204.out;have hnc88:=NB204_224.out;have hnb89:=NB224_205.out;have hnc89:=NB205_224.out;obtain⟨_,_,_,_⟩:=bc2 BK224.out))
         go_meet
         case rel=>exact⟨_,((t221.toList == ([67,111,110,116,101,110,116,45,76,101,110,103,116,104]:List UInt8))),rs,H',⟨by have:=HK1.out;have:=HJ32.out;have:=HJ44.out;first|omega|exact Nat.le_refl _⟩,⟨by(with_reducible repeat (first|apply Kd.R_alloc|apply Kd.R_drewN|apply Kd.R_drew));exact Kd.R_mono (Kd.R_far (p:=⟨gb224,1,none⟩) (Kd.R_far (p:=⟨gb224,0,none⟩) (Kd.R_mono HO_207001.out (fun k_ hk=>(⟨hk,hk.2⟩ : _∧k_≠gb224))) (fun _ hk=>hk.2) (.string t221)) (fun _ hk=>hk.2) (.string t222)) (fun _ hk=>⟨hk.1.1,hk.1.2⟩)⟩,⟨by(with_reducible repeat (first|refine blk_drewN ?_ _|refine blk_drew ?_|refine blk_alloc ?_ _));refine blk_far ?_ NB204_224.out _;(with_reducible repeat (first|refine blk_drewN ?_ _|refine blk_drew ?_|refine blk_alloc ?_ _));refine blk_far ?_ NB204_224.out _;(with_reducible repeat (first|refine blk_drewN ?_ _|refine blk_drew ?_|refine blk_alloc ?_ _));exact BK204.out⟩,⟨by(with_reducible repeat (first|refine blk_drewN ?_ _|refine blk_drew ?_|refine blk_alloc ?_ _));refine blk_far ?_ NB206_224.out _;(with_reducible repeat (first|refine blk_drewN ?_ _|refine blk_drew ?_|refine blk_alloc ?_ _));refine blk_far ?_ NB206_224.out _;(with_reducible repeat (first|refine blk_drewN ?_ _|refine blk_drew ?_|refine blk_alloc ?_ _));exact BK206.out⟩,⟨by(with_reducible repeat (first|refine blk_drewN ?_ _|refine blk_drew ?_|refine blk_alloc ?_ _));refine blk_put (cs:=#[.string t221,.string (⟨#[]⟩ : ByteArray)]) ?_ 1 _ rfl;(with_reducible repeat (first|refine blk_drewN ?_ _|refine blk_drew ?_|refine blk_alloc ?_ _));refine blk_put (cs:=#[.string (⟨#[]⟩ : ByteArray),.string (⟨#[]⟩ : ByteArray)]) ?_ 0 _ rfl;(with_reducible repeat (first|refine blk_drewN ?_ _|refine blk_drew ?_|refine blk_alloc ?_ _));exact BK224.out⟩,⟨isl55⟩,⟨bl⟩⟩
         }
        case rest=>
         clear HC71
         obtain⟨kq,x78_70,rfl,HA,HJ70,HO_207001,BK204,BK206,BK224,HI205,HB⟩:=hcut
         cases kq with
         | zero=>exact absurd HA.out (by simp [stowageref17_Parse.j3])
         | succ kj70=>
          have H:=HA.out
          clear HA
          simp only [stowageref17_Parse.j3] at H
          by_cases c91:x78_70=true
          {
          subst c91
          replace H:=itT H
          replace H:=bndO H
          obtain⟨⟨t226,t227⟩,A920,H⟩:=H
          dsimp only at H
          have A92:=Aside0.mk A920
          clear A920
          replace H:=bndO H
          obtain⟨⟨t228,t229,t230,t231⟩,A930,H⟩:=H
          dsimp only at H
          have A93:=Aside0.mk A930
          clear A930
          have HC94:=Aside0.mk H
          clear H
          have hnb95:=NB224_204.out
          have hnc95:=NB204_224.out
          have hnb96:=NB224_206.out
          have hnc96:=NB206_224.out
          have hnb97:=NB224_205.out
          have hnc97:=NB205_224.out
          obtain⟨_,_,_,_⟩:=bc2 BK224.out
          go_upto_if 88 with(first|(go_at_call 26;(with_reducible refine(stowageref1_Int.calls kj70 t222 t226 t227 _ A92.out).mono ?_);rintro e w' ⟨rfl,⟨nd,rfl⟩⟩;(try exact dd))|(go_at_call 24;(with_reducible refine(stowageref17_Reader_line.calls kj70 gb205 t212 t213 false t228 t229 t230 t231 w _ ?side1 ?side2 A93.out).mono ?_);(case side1=>repeat (first|(with_reducible first|exact HI205.out|apply IsS55.alloc|apply IsS55.drewN|apply IsS55.drew|apply IsS55.set_0|apply IsS55.set_1|apply IsS55.set_2|refine IsS55.far ?_ NB205_204.out _|refine IsS55.far ?_ NB205_206.out _|refine IsS55.far ?_ NB205_224.out _)|exact HI205.out));(case side2=>repeat (first|(with_reducible first|exact HB.out|apply below_alloc|apply pw_below_drewN|apply below_drew1|refine below_set ?_ (IsS55.ge HI205.out)|refine below_set ?_ GE204.out|refine below_set ?_ GE206.out|refine below_set ?_ GE224.out)|exact HB.out));rintro e w99 ⟨rfl,hi,hb,hk⟩;have n0_:=Aside0.mk (Kd.R_mono (Kd.R_keep (IsS55.apart (show IsS55 w _ gb205 t212 t213 false from isl55) rl (by decide)) hk (fun _ h=>h.2)) (fun _ h=>h.1));have n1_:=Aside0.mk (KeepBut.blk hk (g':=gb204) (o:=.cells #[.int .i64 x205000_1,.slice none 0 0,.slice none 0 0,.int .i64 x205003_1,.bool x205004_1] 29 (0,0)) kl NB204_205.out (by simp));have n2_:=Aside0.mk (KeepBut.blk hk (g':=gb206) (o:=.cells #[.int .i64 t207,u207001,.slice none 0 0,.int .i64 0,.bool true] 29 (0,0)) kl NB206_205.out (by simp));have n3_:=Aside0.mk (KeepBut.blk hk (g':=gb224) (o:=.cells #[.string t221,.string t222] 52 (0,0)) kl NB224_205.out (by simp));have n4_:=Aside0.mk (hb);have n5_:=Aside0.mk (hi);clear HO_207001;clear BK204;clear BK206;clear BK224;clear HB;clear HI205;have HO_207001:=n0_;have BK204:=n1_;have BK206:=n2_;have BK224:=n3_;have HB:=n4_;have HI205:=n5_;clear n0_ n1_ n2_ n3_ n4_ n5_))
          (try simp only [Act.put,l1,l2,l3])
          go_cut [13] (fun v13 wc=>∃ (kq:Nat) (x13_93:ByteArray) (x206000_93:ByteArray) (x206001_93:Int) (x206002_93:Bool),v13 = .string x13_93∧Aside0 (stowageref17_Parse.j4 kq a1 t226 t227 x13_93 x206000_93 x206001_93 x206002_93 t207 x207001_1 0 true=some (r1,r2,r3,r4,r5))∧Aside0 (kq≤kj70)∧Aside0 (Kd.R k52 52 wc w.heap.size (fun k_=>(w.heap.size≤k_)∧k_≠gb224) u207001 x207001_1)∧Aside0 (wc.heap[gb204]? = some (.cells #[.int .i64 x205000_1,(.slice none 0 0),(.slice none 0 0),.int .i64 x205003_1,.bool x205004_1] 29 (0,0)))∧Aside0 (wc.heap[gb206]? = some (.cells #[.int .i64 t207,u207001,(.slice none 0 0),.int .i64 0,.bool true] 29 (0,0)))∧Aside0 (wc.heap[gb224]? = some (.cells #[.string t221,.string t222] 52 (0,0)))∧Aside0 (IsS55 w wc gb205 x206000_93 x206001_93 x206002_93)∧Aside0 (Below w.heap.size w wc))
          case first=>
           have H:=HC94.out
           clear HC94
           replace H:=itO H
           rcases H with⟨c100,H⟩|⟨c100,H⟩
           {
           have c100b0:(t228.toList == ([67,111,110,110,101,99,116,105,111,110,58,32,99,108,111,115,101]:List UInt8))=true:=beq_iff_eq.mpr c100
           have c100b1:(t228.toList != ([67,111,110,110,101,99,116,105,111,110,58,32,99,108,111,115,101]:List UInt8))=false:=bne_eq_false_iff_eq.mpr c100
           clear c100
           (first|rw [c100b0]|(simp only [i64_w,i32_w];rw [c100b0])|skip)
           replace H:=bndO H
           obtain⟨⟨t232,t233,t234,t235⟩,A1010,H⟩:=H
           dsimp only at H
           have A101:=Aside0.mk A1010
           clear A1010
           have H':=Aside0.mk H
           clear H
           go_wp2_with (first|(go_at_call 24;(with_reducible refine(stowageref17_Reader_line.calls kj70 gb205 t229 t230 t231 t232 t233 t234 t235 w _ ?side1 ?side2 A101.out).mono ?_);(case side1=>repeat (first|(with_reducible first|exact HI205.out|apply IsS55.alloc|apply IsS55.drewN|apply IsS55.drew|apply IsS55.set_0|apply IsS55.set_1|apply IsS55.set_2|refine IsS55.far ?_ NB205_204.out _|refine IsS55.far ?_ NB205_206.out _|refine IsS55.far ?_ NB205_224.out _)|exact HI205.out));(case side2=>repeat (first|(with_reducible first|exact HB.out|apply below_alloc|apply pw_below_drewN|apply below_drew1|refine below_set ?_ (IsS55.ge HI205.out)|refine below_set ?_ GE204.out|refine below_set ?_ GE206.out|refine below_set ?_ GE224.out)|exact HB.out));rintro e w102 ⟨rfl,hi,hb,hk⟩;have n0_:=Aside0.mk (Kd.R_mono (Kd.R_keep (IsS55.apart (show IsS55 w _ gb205 t229 t230 t231 from isl55) rl (by decide)) hk (fun _ h=>h.2)) (fun _ h=>h.1));have n1_:=Aside0.mk (KeepBut.blk hk (g':=gb204) (o:=.cells #[.int .i64 x205000_1,.slice none 0 0,.slice none 0 0,.int .i64 x205003_1,.bool x205004_1] 29 (0,0)) kl NB204_205.out (by simp));have n2_:=Aside0.mk (KeepBut.blk hk (g':=gb206) (o:=.cells #[.int .i64 t207,u207001,.slice none 0 0,.int .i64 0,.bool true] 29 (0,0)) kl NB206_205.out (by simp));have n3_:=Aside0.mk (KeepBut.blk hk (g':=gb224) (o:=.cells #[.string t221,.string t222] 52 (0,0)) kl NB224_205.out (by simp));have n4_:=Aside0.mk (hb);have n5_:=Aside0.mk (hi);clear HO_207001;clear BK204;clear BK206;clear BK224;clear HB;clear HI205;have HO_207001:=n0_;have BK204:=n1_;have BK206:=n2_;have BK224:=n3_;have HB:=n4_;have HI205:=n5_;clear n0_ n1_ n2_ n3_ n4_ n5_))
           go_meet
           case rel=>exact⟨_,(t232),(t233),(t234),(t235),rs,H',⟨by have:=HK1.out;have:=HJ32.out;have:=HJ44.out;have:=HJ70.out;first|omega|exact Nat.le_refl _⟩,⟨rl⟩,⟨kl⟩,⟨kl⟩,⟨kl⟩,⟨isl55⟩,⟨bl⟩⟩
           }
           {
           have c100b0:(t228.toList == ([67,111,110,110,101,99,116,105,111,110,58,32,99,108,111,115,101]:List UInt8))=false:=beq_eq_false_iff_ne.mpr c100
           have c100b1:(t228.toList != ([67,111,110,110,101,99,116,105,111,110,58,32,99,108,111,115,101]:List UInt8))=true:=bne_iff_ne.mpr c100
           (first|rw [c100b0]|(simp only [i64_w,i32_w];rw [c100b0])|skip)
           have H':=Aside0.mk H
           clear H
           go_wp2
           go_meet
           case rel=>exact⟨_,(t228),(t229),(t230),(t231),rs,H',⟨by have:=HK1.out;have:=HJ32.out;have:=HJ44.out;have:=HJ70.out;first|omega|exact Nat.le_refl _⟩,⟨rl⟩,⟨kl⟩,⟨kl⟩,⟨kl⟩,⟨isl55⟩,⟨bl⟩⟩
           }
          case rest=>
           clear HC94
           obtain⟨kq,x13_93,x206000_93,x206001_93,x206002_93,rfl,HA,HJ93,HO_207001,BK204,BK206,BK224,HI205,HB⟩:=hcut
           cases kq with
           | zero=>exact absurd HA.out (by simp [stowageref17_Parse.j4])
           | succ kj93=>
            have H:=HA.out
            clear HA
            simp only [stowageref17_Parse.j4] at H
            have HC103:=Aside0.mk H
            clear H
            go_upto_region 22 with(fail)
            go_cut [102] (fun v102 wc=>∃ (kq:Nat) (x102_102:Bool),v102 = .bool x102_102∧Aside0 (stowageref17_Parse.j5 kq a1 t226 x102_102 x206000_93 x206001_93 x206002_93 t207 x207001_1 0 true=some (r1,r2,r3,r4,r5))∧Aside0 (kq≤kj93)∧Aside0 (Kd.R k52 52 wc w.heap.size (fun k_=>(w.heap.size≤k_)∧k_≠gb224) u207001 x207001_1)∧Aside0 (wc.heap[gb204]? = some (.cells #[.int .i64 x205000_1,(.slice none 0 0),(.slice none 0 0),.int .i64 x205003_1,.bool x205004_1] 29 (0,0)))∧Aside0 (wc.heap[gb206]? = some (.cells #[.int .i64 t207,u207001,(.slice none 0 0),.int .i64 0,.bool true] 29 (0,0)))∧Aside0 (wc.heap[gb224]? = some (.cells #[.string t221,.string t222] 52 (0,0)))∧Aside0 (IsS55 w wc gb205 x206000_93 x206001_93 x206002_93)∧Aside0 (Below w.heap.size w wc))
            case first=>
             have H:=HC103.out
             clear HC103
             by_cases c104:t227=true
             {
             subst c104
             replace H:=itT H
             replace H:=itO H
             rcases H with⟨c105,H⟩|⟨c105,H⟩
             {
             have c105b0:(x13_93.toList == ([]:List UInt8))=true:=beq_iff_eq.mpr c105
             have c105b1:(x13_93.toList != ([]:List UInt8))=false:=bne_eq_false_iff_eq.mpr c105
             clear c105
             (first|rw [c105b0]|(simp only [i64_w,i32_w];rw [c105b0])|skip)
             have H':=Aside0.mk H
             clear H
             obtain⟨HGz106,hgz106⟩:=HI205.out
             have hcz106_0:=cellS55_0 HGz106
             have hcz106_1:=cellS55_1 HGz106
             have hcz106_2:=cellS55_2 HGz106
             have hfz106_0:=blk_frozen HGz106 0
             have hfz106_1:=blk_frozen HGz106 1
             have hfz106_2:=blk_frozen HGz106 2
             clear HGz106 hgz106
             go_wp2
             go_meet
             case rel=>exact⟨_,(x206002_93),rs,H',⟨by have:=HK1.out;have:=HJ32.out;have:=HJ44.out;have:=HJ70.out;have:=HJ93.out;first|omega|exact Nat.le_refl _⟩,⟨rl⟩,⟨kl⟩,⟨kl⟩,⟨kl⟩,⟨isl55⟩,⟨bl⟩⟩
             }
             {
             have c105b0:(x13_93.toList == ([]:List UInt8))=false:=beq_eq_false_iff_ne.mpr c105
             have c105b1:(x13_93.toList != ([]:List UInt8))=true:=bne_iff_ne.mpr c105
             (first|rw [c105b0]|(simp only [i64_w,i32_w];rw [c105b0])|skip)
             have H':=Aside0.mk H
             clear H
             go_wp2
             go_meet
             case rel=>exact⟨_,(true),rs,H',⟨by have:=HK1.out;have:=HJ32.out;have:=HJ44.out;have:=HJ70.out;have:=HJ93.out;first|omega|exact Nat.le_refl _⟩,⟨rl⟩,⟨kl⟩,⟨kl⟩,⟨kl⟩,⟨isl55⟩,⟨bl⟩⟩
             }
             }
             {
             replace c104:=Bool.eq_false_iff.mpr c104
             subst c104
             replace H:=itF H
             have H':=Aside0.mk H
             clear H
             go_wp2
             go_meet
             case rel=>exact⟨_,(true),rs,H',⟨by have:=HK1.out;have:=HJ32.out;have:=HJ44.out;have:=HJ70.out;have:=HJ93.out;first|omega|exact Nat.le_refl _⟩,⟨rl⟩,⟨kl⟩,⟨kl⟩,⟨kl⟩,⟨isl55⟩,⟨bl⟩⟩
             }
            case rest=>
             clear HC103
             obtain⟨kq,x102_102,rfl,HA,HJ102,HO_207001,BK204,BK206,BK224,HI205,HB⟩:=hcut
             cases kq with
             | zero=>exact absurd HA.out (by simp [stowageref17_Parse.j5])
             | succ kj102=>
              have H:=HA.out
              clear HA
              simp only [stowageref17_Parse.j5] at H
              by_cases c107:x102_102=true
              {
              subst c107
              replace H:=itT H
              simp only [Option.some.injEq,Prod.mk.injEq] at H
              obtain⟨rfl,rfl,rfl,rfl,rfl⟩:=H
              have hnb108:=NB204_206.out
              have hnc108:=NB206_204.out
              have hnb109:=NB204_224.out
              have hnc109:=NB224_204.out
              have hnb110:=NB204_205.out
              have hnc110:=NB205_204.out
              obtain⟨_,_,_,_,_,_,_,_,_,_⟩:=bc5 BK204.out
              go_wp2
              refine bodyPost_ret (results_cell_row rfl _ _ gb204 29 #[.int .i64 0,.slice none 0 0,.slice none 0 0,.int .i64 0,.bool false] (0,0) _ rfl (by(with_reducible repeat (first|refine blk_drewN ?_ _|refine blk_drew ?_|refine blk_alloc ?_ _));refine blk_put (cs:=#[.int .i64 0,.slice none 0 0,.slice none 0 0,.int .i64 0,.bool x205004_1]) ?_ 4 _ rfl;(with_reducible repeat (first|refine blk_drewN ?_ _|refine blk_drew ?_|refine blk_alloc ?_ _));refine blk_put (cs:=#[.int .i64 0,.slice none 0 0,.slice none 0 0,.int .i64 x205003_1,.bool x205004_1]) ?_ 3 _ rfl;(with_reducible repeat (first|refine blk_drewN ?_ _|refine blk_drew ?_|refine blk_alloc ?_ _));refine blk_put (cs:=#[.int .i64 0,.slice none 0 0,.slice none 0 0,.int .i64 x205003_1,.bool x205004_1]) ?_ 2 _ rfl;(with_reducible repeat (first|refine blk_drewN ?_ _|refine blk_drew ?_|refine blk_alloc ?_ _));refine blk_put (cs:=#[.int .i64 0,.slice none 0 0,.slice none 0 0,.int .i64 x205003_1,.bool x205004_1]) ?_ 1 _ rfl;(with_reducible repeat (first|refine blk_drewN ?_ _|refine blk_drew ?_|refine blk_alloc ?_ _));refine blk_put (cs:=#[.int .i64 x205000_1,.slice none 0 0,.slice none 0 0,.int .i64 x205003_1,.bool x205004_1]) ?_ 0 _ rfl;(with_reducible repeat (first|refine blk_drewN ?_ _|refine blk_drew ?_|refine blk_alloc ?_ _));exact BK204.out) Tryd.underlying29 rfl kr) rfl ?_
              exact⟨_,_,ew,nl,nl,bl⟩
              }
              {
              replace c107:=Bool.eq_false_iff.mpr c107
              subst c107
              replace H:=itF H
              have H':=Aside0.mk H
              clear H
              go_wp2
              go_meet
              case rel=>exact⟨_,(t226),(x205000_1),(x205003_1),(x205004_1),(x206000_93),(x206001_93),(x206002_93),(x207001_1),(u207001),rs,H',⟨by have:=HK1.out;have:=HJ32.out;have:=HJ44.out;have:=HJ70.out;have:=HJ93.out;have:=HJ102.out;first|omega|exact Nat.le_refl _⟩,⟨by(with_reducible repeat (first|apply Kd.R_alloc|apply Kd.R_drewN|apply Kd.R_drew));exact Kd.R_mono HO_207001.out (fun _ hk=>hk.1)⟩,⟨kl⟩,⟨kl⟩,⟨isl55⟩,⟨bl⟩⟩
              }
          }
          {
          replace c91:=Bool.eq_false_iff.mpr c91
          subst c91
          replace H:=itF H
          replace H:=bndO H
          obtain⟨t236,A1120,H⟩:=H
          have A112:=Aside0.mk A1120
          clear A1120
          by_cases c113:t236=true
          {
          subst c113
          replace H:=itT H
          simp only [Option.some.injEq,Prod.mk.injEq] at H
          obtain⟨rfl,rfl,rfl,rfl,rfl⟩:=H
          have hnb114:=NB224_204.out
          have hnc114:=NB204_224.out
          have hnb115:=NB224_206.out
          have hnc115:=NB206_224.out
          have hnb116:=NB224_205.out
          have hnc116:=NB205_224.out
          obtain⟨_,_,_,_⟩:=bc2 BK224.out
          go_wp2_with (first|(go_at_call 27;(with_reducible refine(stowageref17_own.calls t221 true _ A112.out).mono ?_);rintro e w' ⟨rfl,⟨nd,rfl⟩⟩;(try exact dd);have hnb118:=NB204_206.out;have hnc118:=NB206_204.out;have hnb119:=NB204_205.out;have hnc119:=NB205_204.out;obtain⟨_,_,_,_,_,_,_,_,_,_⟩:=bc5 BK204.out))
          refine bodyPost_ret (results_cell_row rfl _ _ gb204 29 #[.int .i64 0,.slice none 0 0,.slice none 0 0,.int .i64 0,.bool false] (0,0) _ rfl (by(with_reducible repeat (first|refine blk_drewN ?_ _|refine blk_drew ?_|refine blk_alloc ?_ _));refine blk_put (cs:=#[.int .i64 0,.slice none 0 0,.slice none 0 0,.int .i64 0,.bool x205004_1]) ?_ 4 _ rfl;(with_reducible repeat (first|refine blk_drewN ?_ _|refine blk_drew ?_|refine blk_alloc ?_ _));refine blk_put (cs:=#[.int .i64 0,.slice none 0 0,.slice none 0 0,.int .i64 x205003_1,.bool x205004_1]) ?_ 3 _ rfl;(with_reducible repeat (first|refine blk_drewN ?_ _|refine blk_drew ?_|refine blk_alloc ?_ _));refine blk_put (cs:=#[.int .i64 0,.slice none 0 0,.slice none 0 0,.int .i64 x205003_1,.bool x205004_1]) ?_ 2 _ rfl;(with_reducible repeat (first|refine blk_drewN ?_ _|refine blk_drew ?_|refine blk_alloc ?_ _));refine blk_put (cs:=#[.int .i64 0,.slice none 0 0,.slice none 0 0,.int .i64 x205003_1,.bool x205004_1]) ?_ 1 _ rfl;(with_reducible repeat (first|refine blk_drewN ?_ _|refine blk_drew ?_|refine blk_alloc ?_ _));refine blk_put (cs:=#[.int .i64 x205000_1,.slice none 0 0,.slice none 0 0,.int .i64 x205003_1,.bool x205004_1]) ?_ 0 _ rfl;(with_reducible repeat (first|refine blk_drewN ?_ _|refine blk_drew ?_|refine blk_alloc ?_ _));exact BK204.out) Tryd.underlying29 rfl kr) rfl ?_
          exact⟨_,_,ew,nl,nl,bl⟩
          }
          {
          replace c113:=Bool.eq_false_iff.mpr c113
          subst c113
          replace H:=itF H
          replace H:=itO H
          rcases H with⟨c121,H⟩|⟨c121,H⟩
          {
          have LMc121:=Aside0.mk c121
          clear c121
          obtain⟨y237,hy237⟩ : ∃ y_:List (S52),y_=(x207001_1 ++ [(⟨t221,t222⟩ : S52)]):=⟨_,rfl⟩
          replace H:(stowageref17_Parse.l0 kj70 a1 x7_1 t212 t213 false t207 y237 0 true)=some (r1,r2,r3,r4,r5):=by first|(rw [hy237];with_reducible exact H)|(have H2_:=(Option.bind_some _ _).symm.trans H;rw [hy237];with_reducible exact H2_)|(have H2_:=(Option.bind_some _ _).symm.trans H;with_reducible exact H2_)|with_reducible exact H|(rw [hy237];exact H)|exact H
          have Ny237:=Aside0.mk hy237
          clear hy237
          have H':=Aside0.mk H
          clear H
          have hnb122:=NB224_204.out
          have hnc122:=NB204_224.out
          have hnb123:=NB224_206.out
          have hnc123:=NB206_224.out
          have hnb124:=NB224_205.out
          have hnc124:=NB205_224.out
          obtain⟨_,_,_,_⟩:=bc2 BK224.out
          go_wp2_with (first|(go_at_call 27;(with_reducible refine(stowageref17_own.calls t221 false _ A112.out).mono ?_);rintro e w' ⟨rfl,⟨nd,rfl⟩⟩;(try exact dd);have hnb126:=NB206_204.out;have hnc126:=NB204_206.out;have hnb127:=NB206_205.out;have hnc127:=NB205_206.out;obtain⟨_,_,_,_,_,_,_,_,_,_⟩:=bc5 BK206.out)|((with_reducible refine gate_builtin (b:=.append) (xs:=#[.tmp 111,.tmp 113]) rfl ?_);at_builtin;refine Kd.R_append k52 (w0:=w) w.heap.size rfl (.tmp 111) (.tmp 113) 25 52 (.agg #[(.string ⟨#[]⟩),(.string ⟨#[]⟩)]) 32 rfl Tryd.underlying25 info52 rfl (by decide) (by omega) u207001 x207001_1 (⟨t221,t222⟩ : S52) [.string t221,.string t222] (fun k_=>(w.heap.size≤k_)∧k_≠gb224) (fun _=>False) rfl rfl ?aP (fun _ hk=>hk.elim) ?aF ?aO ?aB ?aS ?aL ?_;(case aP=>exact k52_mkM _ _ _ (⟨t221,t222⟩ : S52));(case aB=>exact bl);(case aF=>exact(fun k_ hk=>⟨(Nat.le_trans (below_size bl) hk),Kd.freshB (g:=gb224) (o:=.cells #[.string t221,.string t222] 52 (0,0)) kl k_ hk⟩));(case aO=>exact rl);(case aS=>exact(below_size bl));(case aL=>have:=LMc121.out;omega);intro v238 w129 ho hb hg hat;rw [← Ny237.out] at ho;have n0_:=Aside0.mk (blk_grown (g:=gb204) (o:=.cells #[.int .i64 x205000_1,.slice none 0 0,.slice none 0 0,.int .i64 x205003_1,.bool x205004_1] 29 (0,0)) kl hg (Kd.R_ne HO_207001.out BK204.out (by decide)));have n1_:=Aside0.mk (blk_grown (g:=gb206) (o:=.cells #[.int .i64 t207,u207001,.slice none 0 0,.int .i64 0,.bool true] 29 (0,0)) kl hg (Kd.R_ne HO_207001.out BK206.out (by decide)));have n2_:=Aside0.mk (blk_grown (g:=gb224) (o:=.cells #[.string t221,.string t222] 52 (0,0)) kl hg (Kd.R_away HO_207001.out (fun _ hk=>hk.2)));have n3_:=Aside0.mk (IsS55.grown isl55 hg (IsS55.own_ne HI205.out HO_207001.out (by decide)));have n4_:=Aside0.mk (hb);have n5_:=Aside0.mk (ho);clear BK204;clear BK206;clear BK224;clear HI205;clear HB;clear HO_207001;have BK204:=n0_;have BK206:=n1_;have BK224:=n2_;have HI205:=n3_;have HB:=n4_;have HO239:=n5_;clear n0_ n1_ n2_ n3_ n4_ n5_;clear ho hb hg hat;obtain⟨Ao130,co130,eo130⟩:=Kd.R_slice HO239.out;subst eo130;obtain⟨_,_,_,_,_,_,_,_,_,_⟩:=bc5 BK206.out))
          go_roundg kj70
          case measure=>have:=HK1.out;have:=HJ32.out;have:=HJ44.out;have:=HJ70.out;omega
          case rel=>exact⟨(x7_1),(x205000_1),(x205003_1),(x205004_1),(t212),(t213),(false),(y237),(.slice Ao130 y237.length co130),rs,H',⟨by have:=HK1.out;have:=HJ32.out;have:=HJ44.out;have:=HJ70.out;omega⟩,⟨by(with_reducible repeat (first|apply Kd.R_alloc|apply Kd.R_drewN|apply Kd.R_drew));exact Kd.R_mono (Kd.R_far (p:=⟨gb206,1,none⟩) (Kd.R_types HO239.out BK206.out (by decide)) (fun _ hk=>hk.2) (.slice Ao130 y237.length co130)) (fun _ hk=>hk.1.1)⟩,⟨by(with_reducible repeat (first|refine blk_drewN ?_ _|refine blk_drew ?_|refine blk_alloc ?_ _));refine blk_far ?_ NB204_206.out _;(with_reducible repeat (first|refine blk_drewN ?_ _|refine blk_drew ?_|refine blk_alloc ?_ _));exact BK204.out⟩,⟨by(with_reducible repeat (first|refine blk_drewN ?_ _|refine blk_drew ?_|refine blk_alloc ?_ _));refine blk_put (cs:=#[.int .i64 t207,u207001,.slice none 0 0,.int .i64 0,.bool true]) ?_ 1 _ rfl;(with_reducible repeat (first|refine blk_drewN ?_ _|refine blk_drew ?_|refine blk_alloc ?_ _));exact BK206.out⟩,⟨isl55⟩,⟨bl⟩⟩
          }
          ·exact absurd H (by simp)
          }
          }
        }
        {
        replace c70:=Bool.eq_false_iff.mpr c70
        subst c70
        replace H:=itF H
        simp only [Option.some.injEq,Prod.mk.injEq] at H
        obtain⟨rfl,rfl,rfl,rfl,rfl⟩:=H
        go_wp2_with (first|(go_at_call 25;(with_reducible refine(stowageref17_header.calls kj44 t211 t221 t222 false _ A69.out).mono ?_);rintro e w132 ⟨rfl,hb⟩;have n0_:=Aside0.mk (Kd.R_below rl hb);have n1_:=Aside0.mk (blk_below (g:=gb204) (o:=.cells #[.int .i64 x205000_1,.slice none 0 0,.slice none 0 0,.int .i64 x205003_1,.bool x205004_1] 29 (0,0)) kl hb);have n2_:=Aside0.mk (blk_below (g:=gb206) (o:=.cells #[.int .i64 t207,u207001,.slice none 0 0,.int .i64 0,.bool true] 29 (0,0)) kl hb);have n3_:=Aside0.mk (IsS55.below isl55 hb);have n4_:=Aside0.mk (below_step bl hb);clear HO_207001;clear BK204;clear BK206;clear HI205;clear HB;have HO_207001:=n0_;have BK204:=n1_;have BK206:=n2_;have HI205:=n3_;have HB:=n4_;clear n0_ n1_ n2_ n3_ n4_)|((with_reducible refine gate_dst (N:=9) rfl ?_);refine box_event ?hg (N:=9) ?hd (cs:=#[.string (⟨#[]⟩ : ByteArray),.string (⟨#[]⟩ : ByteArray)]) (t:=52) ?hr ?_;(case hd=>rfl);(case hg=>rfl);(case hr=>first|(go_simp;done)|(go_simp;rfl));intro gb224 hg w133 hbox hb;have n0_:=Aside0.mk (Kd.R_below (Kd.R_elderB rl gb224 (Nat.le_of_eq hg.symm)) hb);have n1_:=Aside0.mk (blk_below (g:=gb204) (o:=.cells #[.int .i64 x205000_1,.slice none 0 0,.slice none 0 0,.int .i64 x205003_1,.bool x205004_1] 29 (0,0)) kl hb);have n2_:=Aside0.mk (blk_below (g:=gb206) (o:=.cells #[.int .i64 t207,u207001,.slice none 0 0,.int .i64 0,.bool true] 29 (0,0)) kl hb);have n3_:=Aside0.mk (IsS55.below isl55 hb);have n4_:=Aside0.mk (below_step bl hb);have n5_:=Aside0.mk (hbox);have n6_:=Aside0.mk ((by rw [hg];exact(below_size bl):w.heap.size≤gb224));have n7_:=Aside0.mk ((by rw [hg];exact(below_size bl):w.heap.size≤gb224));have n8_:=Aside0.mk ((by rw [hg];exact Nat.ne_of_lt (blk_lt (g:=gb204) (o:=.cells #[.int .i64 x205000_1,.slice none 0 0,.slice none 0 0,.int .i64 x205003_1,.bool x205004_1] 29 (0,0)) kl):gb204≠gb224));have n9_:=Aside0.mk ((by rw [hg];exact Nat.ne_of_gt (blk_lt (g:=gb204) (o:=.cells #[.int .i64 x205000_1,.slice none 0 0,.slice none 0 0,.int .i64 x205003_1,.bool x205004_1] 29 (0,0)) kl):gb224≠gb204));have n10_:=Aside0.mk ((by rw [hg];exact Nat.ne_of_lt (blk_lt (g:=gb206) (o:=.cells #[.int .i64 t207,u207001,.slice none 0 0,.int .i64 0,.bool true] 29 (0,0)) kl):gb206≠gb224));have n11_:=Aside0.mk ((by rw [hg];exact Nat.ne_of_gt (blk_lt (g:=gb206) (o:=.cells #[.int .i64 t207,u207001,.slice none 0 0,.int .i64 0,.bool true] 29 (0,0)) kl):gb224≠gb206));have n12_:=Aside0.mk ((by rw [hg];exact Nat.ne_of_lt (IsS55.lt (show IsS55 w _ gb205 t212 t213 false from isl55)):gb205≠gb224));have n13_:=Aside0.mk ((by rw [hg];exact Nat.ne_of_gt (IsS55.lt (show IsS55 w _ gb205 t212 t213 false from isl55)):gb224≠gb205));clear HO_207001;clear BK204;clear BK206;clear HI205;clear HB;have HO_207001:=n0_;have BK204:=n1_;have BK206:=n2_;have HI205:=n3_;have HB:=n4_;have BK224:=n5_;have GW224:=n6_;have GE224:=n7_;have NB204_224:=n8_;have NB224_204:=n9_;have NB206_224:=n10_;have NB224_206:=n11_;have NB205_224:=n12_;have NB224_205:=n13_;clear n0_ n1_ n2_ n3_ n4_ n5_ n6_ n7_ n8_ n9_ n10_ n11_ n12_ n13_;clear hb hbox hg;have hnb134:=NB224_204.out;have hnc134:=NB204_224.out;have hnb135:=NB224_206.out;have hnc135:=NB206_224.out;have hnb136:=NB224_205.out;have hnc136:=NB205_224.out;obtain⟨_,_,_,_⟩:=bc2 BK224.out;have hnb138:=NB204_206.out;have hnc138:=NB206_204.out;have hnb139:=NB204_205.out;have hnc139:=NB205_204.out;obtain⟨_,_,_,_,_,_,_,_,_,_⟩:=bc5 BK204.out))
        refine bodyPost_ret (results_cell_row rfl _ _ gb204 29 #[.int .i64 0,.slice none 0 0,.slice none 0 0,.int .i64 0,.bool false] (0,0) _ rfl (by(with_reducible repeat (first|refine blk_drewN ?_ _|refine blk_drew ?_|refine blk_alloc ?_ _));refine blk_put (cs:=#[.int .i64 0,.slice none 0 0,.slice none 0 0,.int .i64 0,.bool x205004_1]) ?_ 4 _ rfl;(with_reducible repeat (first|refine blk_drewN ?_ _|refine blk_drew ?_|refine blk_alloc ?_ _));refine blk_put (cs:=#[.int .i64 0,.slice none 0 0,.slice none 0 0,.int .i64 x205003_1,.bool x205004_1]) ?_ 3 _ rfl;(with_reducible repeat (first|refine blk_drewN ?_ _|refine blk_drew ?_|refine blk_alloc ?_ _));refine blk_put (cs:=#[.int .i64 0,.slice none 0 0,.slice none 0 0,.int .i64 x205003_1,.bool x205004_1]) ?_ 2 _ rfl;(with_reducible repeat (first|refine blk_drewN ?_ _|refine blk_drew ?_|refine blk_alloc ?_ _));refine blk_put (cs:=#[.int .i64 0,.slice none 0 0,.slice none 0 0,.int .i64 x205003_1,.bool x205004_1]) ?_ 1 _ rfl;(with_reducible repeat (first|refine blk_drewN ?_ _|refine blk_drew ?_|refine blk_alloc ?_ _));refine blk_put (cs:=#[.int .i64 x205000_1,.slice none 0 0,.slice none 0 0,.int .i64 x205003_1,.bool x205004_1]) ?_ 0 _ rfl;(with_reducible repeat (first|refine blk_drewN ?_ _|refine blk_drew ?_|refine blk_alloc ?_ _));refine blk_far ?_ NB204_224.out _;(with_reducible repeat (first|refine blk_drewN ?_ _|refine blk_drew ?_|refine blk_alloc ?_ _));refine blk_far ?_ NB204_224.out _;(with_reducible repeat (first|refine blk_drewN ?_ _|refine blk_drew ?_|refine blk_alloc ?_ _));exact BK204.out) Tryd.underlying29 rfl kr) rfl ?_
        exact⟨_,_,ew,nl,nl,bl⟩
        }
        }
      }
    }
 case rest=>
  clear HC16
  obtain⟨kq,x7_15,x205000_15,x205003_15,x205004_15,x206000_15,x206001_15,x206002_15,x207001_15,u207001,rfl,HA,HJ15,HO_207001,BK204,BK206,HI205,HB⟩:=hcut
  cases kq with
  | zero=>exact absurd HA.out (by simp [stowageref17_Parse.j6])
  | succ kj15=>
   have H:=HA.out
   clear HA
   simp only [stowageref17_Parse.j6] at H
   have HC141:=Aside0.mk H
   clear H
   go_upto_region 28 with(fail)
   go_cut [125] (fun v125 wc=>∃ (kq:Nat) (x125_140:Bool),v125 = .bool x125_140∧Aside0 (stowageref17_Parse.j7 kq x7_15 x125_140 x206000_15 x206001_15 x206002_15 t207 x207001_15 0 true=some (r1,r2,r3,r4,r5))∧Aside0 (kq≤kj15)∧Aside0 (Kd.R k52 52 wc w.heap.size (fun k_=>(w.heap.size≤k_)) u207001 x207001_15)∧Aside0 (wc.heap[gb204]? = some (.cells #[.int .i64 x205000_15,(.slice none 0 0),(.slice none 0 0),.int .i64 x205003_15,.bool x205004_15] 29 (0,0)))∧Aside0 (wc.heap[gb206]? = some (.cells #[.int .i64 t207,u207001,(.slice none 0 0),.int .i64 0,.bool true] 29 (0,0)))∧Aside0 (IsS55 w wc gb205 x206000_15 x206001_15 x206002_15)∧Aside0 (Below w.heap.size w wc))
   case first=>
    have H:=HC141.out
    clear HC141
    by_cases c142:a1=true
    {
    subst c142
    replace H:=itT H
    have H':=Aside0.mk H
    clear H
    go_wp2
    go_meet
    case rel=>exact⟨_,(false),rs,H',⟨by have:=HJ15.out;first|omega|exact Nat.le_refl _⟩,⟨rl⟩,⟨kl⟩,⟨kl⟩,⟨isl55⟩,⟨bl⟩⟩
    }
    {
    replace c142:=Bool.eq_false_iff.mpr c142
    subst c142
    replace H:=itF H
    replace H:=bndO H
    obtain⟨t240,A1430,H⟩:=H
    have A143:=Aside0.mk A1430
    clear A1430
    have H':=Aside0.mk H
    clear H
    have hnb144:=NB206_204.out
    have hnc144:=NB204_206.out
    have hnb145:=NB206_205.out
    have hnc145:=NB205_206.out
    obtain⟨_,_,_,_,_,_,_,_,_,_⟩:=bc5 BK206.out
    go_wp2_with (first|(go_at_call 16;(with_reducible refine(stowageref17_Bare.calls t207 t240 _ A143.out).mono ?_);rintro e w' ⟨rfl,⟨nd,rfl⟩⟩;(try exact dd)))
    go_meet
    case rel=>exact⟨_,(!t240),rs,H',⟨by have:=HJ15.out;first|omega|exact Nat.le_refl _⟩,⟨rl⟩,⟨kl⟩,⟨kl⟩,⟨isl55⟩,⟨bl⟩⟩
    }
   case rest=>
    clear HC141
    obtain⟨kq,x125_140,rfl,HA,HJ140,HO_207001,BK204,BK206,HI205,HB⟩:=hcut
    cases kq with
    | zero=>exact absurd HA.out (by simp [stowageref17_Parse.j7])
    | succ kj140=>
     have H:=HA.out
     clear HA
     simp only [stowageref17_Parse.j7] at H
     by_cases c147:x125_140=true
     {
     subst c147
     replace H:=itT H
     replace H:=itO H
     rcases H with⟨c148,H⟩|⟨c148,H⟩
     {
     have c148b0:decide ((wrap64 ((x206000_15.size:Int)-x206001_15))<x7_15)=true:=decide_eq_true c148
     clear c148
     simp only [Option.some.injEq,Prod.mk.injEq] at H
     obtain⟨rfl,rfl,rfl,rfl,rfl⟩:=H
     obtain⟨HGz149,hgz149⟩:=HI205.out
     have hcz149_0:=cellS55_0 HGz149
     have hcz149_1:=cellS55_1 HGz149
     have hcz149_2:=cellS55_2 HGz149
     have hfz149_0:=blk_frozen HGz149 0
     have hfz149_1:=blk_frozen HGz149 1
     have hfz149_2:=blk_frozen HGz149 2
     clear HGz149 hgz149
     have hnb150:=NB204_206.out
     have hnc150:=NB206_204.out
     have hnb151:=NB204_205.out
     have hnc151:=NB205_204.out
     obtain⟨_,_,_,_,_,_,_,_,_,_⟩:=bc5 BK204.out
     go_wp2
     repeat (go_quiet (fail);try go_wp2)
     refine bodyPost_ret (results_cell_row rfl _ _ gb204 29 #[.int .i64 0,.slice none 0 0,.slice none 0 0,.int .i64 0,.bool false] (0,0) _ rfl (by(with_reducible repeat (first|refine blk_drewN ?_ _|refine blk_drew ?_|refine blk_alloc ?_ _));refine blk_put (cs:=#[.int .i64 0,.slice none 0 0,.slice none 0 0,.int .i64 0,.bool x205004_15]) ?_ 4 _ rfl;(with_reducible repeat (first|refine blk_drewN ?_ _|refine blk_drew ?_|refine blk_alloc ?_ _));refine blk_put (cs:=#[.int .i64 0,.slice none 0 0,.slice none 0 0,.int .i64 x205003_15,.bool x205004_15]) ?_ 3 _ rfl;(with_reducible repeat (first|refine blk_drewN ?_ _|refine blk_drew ?_|refine blk_alloc ?_ _));refine blk_put (cs:=#[.int .i64 0,.slice none 0 0,.slice none 0 0,.int .i64 x205003_15,.bool x205004_15]) ?_ 2 _ rfl;(with_reducible repeat (first|refine blk_drewN ?_ _|refine blk_drew ?_|refine blk_alloc ?_ _));refine blk_put (cs:=#[.int .i64 0,.slice none 0 0,.slice none 0 0,.int .i64 x205003_15,.bool x205004_15]) ?_ 1 _ rfl;(with_reducible repeat (first|refine blk_drewN ?_ _|refine blk_drew ?_|refine blk_alloc ?_ _));refine blk_put (cs:=#[.int .i64 x205000_15,.slice none 0 0,.slice none 0 0,.int .i64 x205003_15,.bool x205004_15]) ?_ 0 _ rfl;(with_reducible repeat (first|refine blk_drewN ?_ _|refine blk_drew ?_|refine blk_alloc ?_ _));exact BK204.out) Tryd.underlying29 rfl kr) rfl ?_
     exact⟨_,_,ew,nl,nl,bl⟩
     }
     {
     have c148b0:decide ((wrap64 ((x206000_15.size:Int)-x206001_15))<x7_15)=false:=decide_eq_false c148
     clear c148
     replace H:=itO H
     rcases H with⟨c153,H⟩|⟨c153,H⟩
     {
     have c153b0:=eq_true c153
     have c153b1:=decide_eq_true c153
     clear c153
     replace H:=itO H
     rcases H with⟨c154,H⟩|⟨c154,H⟩
     {
     have c154b0:=eq_true c154
     have c154b1:=decide_eq_true c154
     replace H:=itO H
     rcases H with⟨c155,H⟩|⟨c155,H⟩
     {
     have c155b0:=eq_true c155
     have c155b1:=decide_eq_true c155
     replace H:=itO H
     rcases H with⟨c156,H⟩|⟨c156,H⟩
     {
     have c156b0:=eq_true c156
     have c156b1:=decide_eq_true c156
     obtain⟨y241,hy241⟩ : ∃ y_:List Int,y_=(bytesOf (x206000_15.extract (x206001_15:Int).toNat ((wrap64 (x206001_15+x7_15)):Int).toNat)):=⟨_,rfl⟩
     replace H:(some (t207,x207001_15,y241,wrap64 (x206001_15+x7_15),true))=some (r1,r2,r3,r4,r5):=by first|(rw [hy241];with_reducible exact H)|(have H2_:=(Option.bind_some _ _).symm.trans H;rw [hy241];with_reducible exact H2_)|(have H2_:=(Option.bind_some _ _).symm.trans H;with_reducible exact H2_)|with_reducible exact H|(rw [hy241];exact H)|exact H
     have Ny241:=Aside0.mk hy241
     clear hy241
     simp only [Option.some.injEq,Prod.mk.injEq] at H
     obtain⟨rfl,rfl,rfl,rfl,rfl⟩:=H
     obtain⟨HGz157,hgz157⟩:=HI205.out
     have hcz157_0:=cellS55_0 HGz157
     have hcz157_1:=cellS55_1 HGz157
     have hcz157_2:=cellS55_2 HGz157
     have hfz157_0:=blk_frozen HGz157 0
     have hfz157_1:=blk_frozen HGz157 1
     have hfz157_2:=blk_frozen HGz157 2
     clear HGz157 hgz157
     go_wp2_with fail
     go_region
     go_wp2_with fail
     obtain⟨Ao167,co167,eo167⟩:=Kd.R_slice HO_207001.out
     subst eo167
     obtain⟨S,hS⟩ : ∃ S,x206000_15.extract (x206001_15:Int).toNat ((wrap64 (x206001_15+x7_15)):Int).toNat=S:=⟨_,rfl⟩
     have hlS:S.size≤140737488355328:=by rw [← hS];exact c156
     have hyl:S.size=y241.length:=by rw [Ny241.out,hS,bytesOf_length]
     have hBW:=Aside0.mk (show Below wc.heap.size wc (Lib.bytesWorld wc.drew.drew 5 S) from bytes_below (below_drew1 (below_drew1 (Below.refl _ _))) (Nat.le_refl _) 5 S)
     obtain⟨w158,hw158⟩ : ∃ w158,Lib.bytesWorld wc.drew.drew 5 S=w158:=⟨_,rfl⟩
     rw [hw158] at hBW
     have HO243:Aside0 (Kd.V (Kd.int .u8) 5 w158 w.heap.size (fun k_=>(w.heap.size≤k_)∧some k_≠(Value.slice Ao167 x207001_15.length co167).ownBlock∧k_≠gb204∧k_≠gb206∧k_≠gb205) (.slice (some ⟨wc.heap.size,0,none⟩) y241.length (grownCap wc.drew.drew y241.length 0 5)) y241):=by
       have hF:=bytes_foot wc.drew.drew 5 S (fun k_=>(w.heap.size≤k_)∧some k_≠(Value.slice Ao167 x207001_15.length co167).ownBlock∧k_≠gb204∧k_≠gb206∧k_≠gb205) ⟨(below_size HB.out:w.heap.size≤wc.heap.size),Kd.fresh' (Kd.R_lt HO_207001.out) _ (Nat.le_refl _),Kd.freshB (g:=gb204) (o:=.cells #[.int .i64 x205000_15,.slice none 0 0,.slice none 0 0,.int .i64 x205003_15,.bool x205004_15] 29 (0,0)) BK204.out _ (Nat.le_refl _),Kd.freshB (g:=gb206) (o:=.cells #[.int .i64 t207,.slice Ao167 x207001_15.length co167,.slice none 0 0,.int .i64 0,.bool true] 29 (0,0)) BK206.out _ (Nat.le_refl _),IsS55.fresh HI205.out _ (Nat.le_refl _)⟩ hlS
       have hc:(bytesOf S).length≤grownCap wc.drew.drew S.size 0 5:=by rw [bytesOf_length];exact grownCap_ge _ _ _ _
       have hv:=Kd.V_mk (d:=Kd.int .u8) (e:=5) (base:=w.heap.size) hc hF
       rw [bytesOf_length,hyl] at hv
       rw [Ny241.out,hS]
       rw [Ny241.out,hS,hw158] at hv
       exact Aside0.mk hv
     have n0_:=Aside0.mk (Kd.R_below HO_207001.out hBW.out)
     have n2_:=Aside0.mk (blk_below BK204.out hBW.out)
     have n3_:=Aside0.mk (blk_below BK206.out hBW.out)
     have n4_:=Aside0.mk (IsS55.below HI205.out hBW.out)
     have n5_:=Aside0.mk (below_step HB.out hBW.out)
     clear HO_207001 BK204 BK206 HI205 HB hBW
     have HO_207001:=n0_
     have BK204:=n2_
     have BK206:=n3_
     have HI205:=n4_
     have HB:=n5_
     clear n0_ n2_ n3_ n4_ n5_
     have hnb161:=NB206_204.out
     have hnc161:=NB204_206.out
     have hnb162:=NB206_205.out
     have hnc162:=NB205_206.out
     obtain⟨_,_,_,_,_,_,_,_,_,_⟩:=bc5 BK206.out
     obtain⟨HGz164,hgz164⟩:=HI205.out
     have hcz164_0:=cellS55_0 HGz164
     have hcz164_1:=cellS55_1 HGz164
     have hcz164_2:=cellS55_2 HGz164
     have hfz164_0:=blk_frozen HGz164 0
     have hfz164_1:=blk_frozen HGz164 1
     have hfz164_2:=blk_frozen HGz164 2
     clear HGz164 hgz164
     have hnb165:=NB204_205.out
     have hnc165:=NB205_204.out
     obtain⟨_,_,_,_,_,_,_,_,_,_⟩:=bc5 BK204.out
     have hconv:=fun W=>print_bytes (P:=Tryd.prog) 9 23 5 Tryd.underlying9 Tryd.underlying23 Tryd.underlying5 S W
     go_region
     clear hconv hw158 hS hyl hlS
     go_wp2
     refine bodyPost_ret (results_cell_row rfl _ _ gb204 29 #[.int .i64 t207,.slice Ao167 x207001_15.length co167,.slice (some ⟨wc.heap.size,0,none⟩) y241.length (grownCap wc.drew.drew y241.length 0 5),.int .i64 (wrap64 (x206001_15+x7_15)),.bool true] (0,0) _ rfl (by(with_reducible repeat (first|refine blk_drewN ?_ _|refine blk_drew ?_|refine blk_alloc ?_ _));refine blk_put (cs:=#[.int .i64 t207,.slice Ao167 x207001_15.length co167,.slice (some ⟨wc.heap.size,0,none⟩) y241.length (grownCap wc.drew.drew y241.length 0 5),.int .i64 (wrap64 (x206001_15+x7_15)),.bool x205004_15]) ?_ 4 _ rfl;(with_reducible repeat (first|refine blk_drewN ?_ _|refine blk_drew ?_|refine blk_alloc ?_ _));refine blk_put (cs:=#[.int .i64 t207,.slice Ao167 x207001_15.length co167,.slice (some ⟨wc.heap.size,0,none⟩) y241.length (grownCap wc.drew.drew y241.length 0 5),.int .i64 x205003_15,.bool x205004_15]) ?_ 3 _ rfl;(with_reducible repeat (first|refine blk_drewN ?_ _|refine blk_drew ?_|refine blk_alloc ?_ _));refine blk_put (cs:=#[.int .i64 t207,.slice Ao167 x207001_15.length co167,.slice none 0 0,.int .i64 x205003_15,.bool x205004_15]) ?_ 2 _ rfl;(with_reducible repeat (first|refine blk_drewN ?_ _|refine blk_drew ?_|refine blk_alloc ?_ _));refine blk_put (cs:=#[.int .i64 t207,.slice none 0 0,.slice none 0 0,.int .i64 x205003_15,.bool x205004_15]) ?_ 1 _ rfl;(with_reducible repeat (first|refine blk_drewN ?_ _|refine blk_drew ?_|refine blk_alloc ?_ _));refine blk_put (cs:=#[.int .i64 x205000_15,.slice none 0 0,.slice none 0 0,.int .i64 x205003_15,.bool x205004_15]) ?_ 0 _ rfl;(with_reducible repeat (first|refine blk_drewN ?_ _|refine blk_drew ?_|refine blk_alloc ?_ _));refine blk_far ?_ NB204_206.out _;(with_reducible repeat (first|refine blk_drewN ?_ _|refine blk_drew ?_|refine blk_alloc ?_ _));refine blk_far ?_ NB204_205.out _;(with_reducible repeat (first|refine blk_drewN ?_ _|refine blk_drew ?_|refine blk_alloc ?_ _));refine blk_far ?_ NB204_206.out _;(with_reducible repeat (first|refine blk_drewN ?_ _|refine blk_drew ?_|refine blk_alloc ?_ _));exact BK204.out) Tryd.underlying29 rfl kr) rfl ?_
     exact⟨_,_,ew,by(with_reducible repeat (first|apply Kd.R_alloc|apply Kd.R_drewN|apply Kd.R_drew));exact Kd.R_mono (Kd.R_far (p:=⟨gb204,4,none⟩) (Kd.R_far (p:=⟨gb204,3,none⟩) (Kd.R_far (p:=⟨gb204,2,none⟩) (Kd.R_far (p:=⟨gb204,1,none⟩) (Kd.R_far (p:=⟨gb204,0,none⟩) (Kd.R_far (p:=⟨gb206,3,none⟩) (Kd.R_far (p:=⟨gb205,1,none⟩) (Kd.R_far (p:=⟨gb206,2,none⟩) (Kd.R_types (IsS55.apart HI205.out (Kd.R_types HO_207001.out BK206.out (by decide)) (by decide)) BK204.out (by decide)) (fun _ hk=>hk.1.1.2) (.slice (some ⟨wc.heap.size,0,none⟩) y241.length (grownCap wc.drew.drew y241.length 0 5))) (fun _ hk=>hk.1.2) (.int .i64 (wrap64 (x206001_15+x7_15)))) (fun _ hk=>hk.1.1.2) (.int .i64 (wrap64 (x206001_15+x7_15)))) (fun _ hk=>hk.2) (.int .i64 t207)) (fun _ hk=>hk.2) (.slice Ao167 x207001_15.length co167)) (fun _ hk=>hk.2) (.slice (some ⟨wc.heap.size,0,none⟩) y241.length (grownCap wc.drew.drew y241.length 0 5))) (fun _ hk=>hk.2) (.int .i64 (wrap64 (x206001_15+x7_15)))) (fun _ hk=>hk.2) (.bool true)) (fun _ hk=>hk.1.1.1),by(with_reducible repeat (first|apply Kd.V_alloc|apply Kd.V_drewN|apply Kd.V_drew));exact Kd.V_mono (Kd.V_far (p:=⟨gb204,4,none⟩) (Kd.V_far (p:=⟨gb204,3,none⟩) (Kd.V_far (p:=⟨gb204,2,none⟩) (Kd.V_far (p:=⟨gb204,1,none⟩) (Kd.V_far (p:=⟨gb204,0,none⟩) (Kd.V_far (p:=⟨gb206,3,none⟩) (Kd.V_far (p:=⟨gb205,1,none⟩) (Kd.V_far (p:=⟨gb206,2,none⟩) (Kd.V_mono (Kd.V_mono (Kd.V_mono HO243.out (fun k_ hk=>(⟨hk,hk.2.2.2.1⟩ : _∧k_≠gb206))) (fun k_ hk=>(⟨hk,hk.1.2.2.2.2⟩ : _∧k_≠gb205))) (fun k_ hk=>(⟨hk,hk.1.1.2.2.1⟩ : _∧k_≠gb204))) (fun _ hk=>hk.1.1.2) (.slice (some ⟨wc.heap.size,0,none⟩) y241.length (grownCap wc.drew.drew y241.length 0 5))) (fun _ hk=>hk.1.2) (.int .i64 (wrap64 (x206001_15+x7_15)))) (fun _ hk=>hk.1.1.2) (.int .i64 (wrap64 (x206001_15+x7_15)))) (fun _ hk=>hk.2) (.int .i64 t207)) (fun _ hk=>hk.2) (.slice Ao167 x207001_15.length co167)) (fun _ hk=>hk.2) (.slice (some ⟨wc.heap.size,0,none⟩) y241.length (grownCap wc.drew.drew y241.length 0 5))) (fun _ hk=>hk.2) (.int .i64 (wrap64 (x206001_15+x7_15)))) (fun _ hk=>hk.2) (.bool true)) (fun _ hk=>⟨hk.1.1.1.1,hk.1.1.1.2.1⟩),bl⟩
     }
     ·exact absurd H (by simp)
     }
     ·exact absurd H (by simp)
     }
     ·exact absurd H (by simp)
     }
     ·exact absurd H (by simp)
     }
     }
     {
     replace c147:=Bool.eq_false_iff.mpr c147
     subst c147
     replace H:=itF H
     simp only [Option.some.injEq,Prod.mk.injEq] at H
     obtain⟨rfl,rfl,rfl,rfl,rfl⟩:=H
     obtain⟨HGz168,hgz168⟩:=HI205.out
     have hcz168_0:=cellS55_0 HGz168
     have hcz168_1:=cellS55_1 HGz168
     have hcz168_2:=cellS55_2 HGz168
     have hfz168_0:=blk_frozen HGz168 0
     have hfz168_1:=blk_frozen HGz168 1
     have hfz168_2:=blk_frozen HGz168 2
     clear HGz168 hgz168
     have hnb169:=NB206_204.out
     have hnc169:=NB204_206.out
     have hnb170:=NB206_205.out
     have hnc170:=NB205_206.out
     obtain⟨_,_,_,_,_,_,_,_,_,_⟩:=bc5 BK206.out
     have hnb172:=NB204_205.out
     have hnc172:=NB205_204.out
     obtain⟨_,_,_,_,_,_,_,_,_,_⟩:=bc5 BK204.out
     obtain⟨Ao174,co174,eo174⟩:=Kd.R_slice HO_207001.out
     subst eo174
     go_wp2
     repeat (go_quiet (fail);try go_wp2)
     refine bodyPost_ret (results_cell_row rfl _ _ gb204 29 #[.int .i64 t207,.slice Ao174 x207001_15.length co174,.slice none 0 0,.int .i64 x206001_15,.bool true] (0,0) _ rfl (by(with_reducible repeat (first|refine blk_drewN ?_ _|refine blk_drew ?_|refine blk_alloc ?_ _));refine blk_put (cs:=#[.int .i64 t207,.slice Ao174 x207001_15.length co174,.slice none 0 0,.int .i64 x206001_15,.bool x205004_15]) ?_ 4 _ rfl;(with_reducible repeat (first|refine blk_drewN ?_ _|refine blk_drew ?_|refine blk_alloc ?_ _));refine blk_put (cs:=#[.int .i64 t207,.slice Ao174 x207001_15.length co174,.slice none 0 0,.int .i64 x205003_15,.bool x205004_15]) ?_ 3 _ rfl;(with_reducible repeat (first|refine blk_drewN ?_ _|refine blk_drew ?_|refine blk_alloc ?_ _));refine blk_put (cs:=#[.int .i64 t207,.slice Ao174 x207001_15.length co174,.slice none 0 0,.int .i64 x205003_15,.bool x205004_15]) ?_ 2 _ rfl;(with_reducible repeat (first|refine blk_drewN ?_ _|refine blk_drew ?_|refine blk_alloc ?_ _));refine blk_put (cs:=#[.int .i64 t207,.slice none 0 0,.slice none 0 0,.int .i64 x205003_15,.bool x205004_15]) ?_ 1 _ rfl;(with_reducible repeat (first|refine blk_drewN ?_ _|refine blk_drew ?_|refine blk_alloc ?_ _));refine blk_put (cs:=#[.int .i64 x205000_15,.slice none 0 0,.slice none 0 0,.int .i64 x205003_15,.bool x205004_15]) ?_ 0 _ rfl;(with_reducible repeat (first|refine blk_drewN ?_ _|refine blk_drew ?_|refine blk_alloc ?_ _));refine blk_far ?_ NB204_206.out _;(with_reducible repeat (first|refine blk_drewN ?_ _|refine blk_drew ?_|refine blk_alloc ?_ _));exact BK204.out) Tryd.underlying29 rfl kr) rfl ?_
     exact⟨_,_,ew,by(with_reducible repeat (first|apply Kd.R_alloc|apply Kd.R_drewN|apply Kd.R_drew));exact Kd.R_mono (Kd.R_far (p:=⟨gb204,4,none⟩) (Kd.R_far (p:=⟨gb204,3,none⟩) (Kd.R_far (p:=⟨gb204,2,none⟩) (Kd.R_far (p:=⟨gb204,1,none⟩) (Kd.R_far (p:=⟨gb204,0,none⟩) (Kd.R_far (p:=⟨gb206,3,none⟩) (Kd.R_types (Kd.R_types HO_207001.out BK206.out (by decide)) BK204.out (by decide)) (fun _ hk=>hk.1.2) (.int .i64 x206001_15)) (fun _ hk=>hk.2) (.int .i64 t207)) (fun _ hk=>hk.2) (.slice Ao174 x207001_15.length co174)) (fun _ hk=>hk.2) (.slice none 0 0)) (fun _ hk=>hk.2) (.int .i64 x206001_15)) (fun _ hk=>hk.2) (.bool true)) (fun _ hk=>hk.1.1),nl,bl⟩
     }
 }
end Go.Proofs.YtfjidcmegacibaaDoor.Q
