/- A part of the proof of the seat's laws. No condition beyond those in the theorems. -/
import Derived.Test.YtfjidcmegacibaaDoorZSqzB
import Derived.Test.YtfjidcmegacibaaDoorZMarkB
import Derived.Test.YtfjidcmegacibaaDoorZQ0g11
import Derived.Test.YtfjidcmegacibaaDoorZQ11
open Bool renaming true→T,false→F

namespace Go.Proofs.YtfjidcmegacibaaDoor.Q
open Go.RowKit Go.Proofs.YtfjidcmegacibaaDoorW.PrintWords Go.Proofs.YtfjidcmegacibaaDoorW.PrintLast Go.Proofs.YtfjidcmegacibaaDoorW.PrintMore
set_option linter.unusedVariables false
set_option linter.unusedSimpArgs false
set_option maxHeartbeats 8000000
set_option maxRecDepth 100000
attribute [local go_sem] max2_int min2_int max_two min_two max_three min_three max_four min_four   
mutual
def stowageref17_Print.l0:Nat→Bool→Bool→ByteArray→Int→Int→List (S52)→List Int→Option (List Int)
  | 0,_,_,_,_,_,_,_=>none
  | k+1,x1,x4,x11,x12,x135000,x135001,x135002=>if x12<(x135001.length:Int) then(if 0≤x12 then(if x11.size+((rd_T52 x135001 x12).f0).size≤9223372036854775807 then(if(x11++((rd_T52 x135001 x12).f0)).size+2≤9223372036854775807 then(if((x11++((rd_T52 x135001 x12).f0))++(⟨#[58,32]⟩ : ByteArray)).size+((rd_T52 x135001 x12).f1).size≤9223372036854775807 then(if(((x11++((rd_T52 x135001 x12).f0))++(⟨#[58,32]⟩ : ByteArray))++((rd_T52 x135001 x12).f1)).size+2≤9223372036854775807 then(stowageref17_Print.l0 k x1 x4 ((((x11++((rd_T52 x135001 x12).f0))++(⟨#[58,32]⟩ : ByteArray))++((rd_T52 x135001 x12).f1))++(⟨#[13,10]⟩ : ByteArray)) (wrap64 (x12+1)) x135000 x135001 x135002) else(none)) else(none)) else(none)) else(none)) else(none)) else((stowageref17_Bare.f x135000).bind fun t140=>(if t140=true then(stowageref17_Print.j1 k x1 x4 x11 x135000 x135001 x135002) else(if x11.size+16≤9223372036854775807 then((stowageref1_Text.f k (x135002.length:Int)).bind fun t141=>(if(x11++(⟨#[67,111,110,116,101,110,116,45,76,101,110,103,116,104,58,32]⟩ : ByteArray)).size+t141.size≤9223372036854775807 then(if((x11++(⟨#[67,111,110,116,101,110,116,45,76,101,110,103,116,104,58,32]⟩ : ByteArray))++t141).size+2≤9223372036854775807 then(stowageref17_Print.j1 k x1 x4 (((x11++(⟨#[67,111,110,116,101,110,116,45,76,101,110,103,116,104,58,32]⟩ : ByteArray))++t141)++(⟨#[13,10]⟩ : ByteArray)) x135000 x135001 x135002) else(none)) else(none))) else(none))))
def stowageref17_Print.j1:Nat→Bool→Bool→ByteArray→Int→List (S52)→List Int→Option (List Int)
  | 0,_,_,_,_,_,_=>none
  | k+1,x1,x4,x11,x135000,x135001,x135002=>if x4=true then(if x11.size+19≤9223372036854775807 then(if(x11++(⟨#[67,111,110,110,101,99,116,105,111,110,58,32,99,108,111,115,101,13,10]⟩ : ByteArray)).size+2≤9223372036854775807 then(if((x11++(⟨#[67,111,110,110,101,99,116,105,111,110,58,32,99,108,111,115,101,13,10]⟩ : ByteArray))++(⟨#[13,10]⟩ : ByteArray)).size≤140737488355328 then((some (bytesOf ((x11++(⟨#[67,111,110,110,101,99,116,105,111,110,58,32,99,108,111,115,101,13,10]⟩ : ByteArray))++(⟨#[13,10]⟩ : ByteArray)):List Int)).bind fun y142=>(if x1=true then(some y142) else((stowageref17_Bare.f x135000).bind fun t145=>(if t145=true then(some y142) else(if y142.length+x135002.length≤140737488355328 then(some (y142++x135002)) else(none)))))) else(none)) else(none)) else(none)) else(if x11.size+2≤9223372036854775807 then(if(x11++(⟨#[13,10]⟩ : ByteArray)).size≤140737488355328 then((some (bytesOf (x11++(⟨#[13,10]⟩ : ByteArray)):List Int)).bind fun y149=>(if x1=true then(some y149) else((stowageref17_Bare.f x135000).bind fun t152=>(if t152=true then(some y149) else(if y149.length+x135002.length≤140737488355328 then(some (y149++x135002)) else(none)))))) else(none)) else(none))
end
def stowageref17_Print.f (k:Nat) (a0_0:Int) (l0_1:List (S52)) (l0_2:List Int) (a1:Bool) (a2:Int) (a3:ByteArray) (a4:Bool):Option (List Int):=(stowageref1_Text.f k a0_0).bind fun t135=>(if 9+t135.size≤9223372036854775807 then(if((⟨#[72,84,84,80,47,49,46,49,32]⟩ : ByteArray)++t135).size+1≤9223372036854775807 then((stowageref17_Phrase.f k a0_0).bind fun t136=>(if(((⟨#[72,84,84,80,47,49,46,49,32]⟩ : ByteArray)++t135)++(⟨#[32]⟩ : ByteArray)).size+t136.size≤9223372036854775807 then(if((((⟨#[72,84,84,80,47,49,46,49,32]⟩ : ByteArray)++t135)++(⟨#[32]⟩ : ByteArray))++t136).size+25≤9223372036854775807 then((stowageref4_Http.f k a2).bind fun t137=>(if(((((⟨#[72,84,84,80,47,49,46,49,32]⟩ : ByteArray)++t135)++(⟨#[32]⟩ : ByteArray))++t136)++(⟨#[13,10,83,101,114,118,101,114,58,32,115,116,111,119,97,103,101,13,10,68,97,116,101,58,32]⟩ : ByteArray)).size+t137.size≤9223372036854775807 then(if((((((⟨#[72,84,84,80,47,49,46,49,32]⟩ : ByteArray)++t135)++(⟨#[32]⟩ : ByteArray))++t136)++(⟨#[13,10,83,101,114,118,101,114,58,32,115,116,111,119,97,103,101,13,10,68,97,116,101,58,32]⟩ : ByteArray))++t137).size+20≤9223372036854775807 then(if(((((((⟨#[72,84,84,80,47,49,46,49,32]⟩ : ByteArray)++t135)++(⟨#[32]⟩ : ByteArray))++t136)++(⟨#[13,10,83,101,114,118,101,114,58,32,115,116,111,119,97,103,101,13,10,68,97,116,101,58,32]⟩ : ByteArray))++t137)++(⟨#[13,10,120,45,97,109,122,45,114,101,113,117,101,115,116,45,105,100,58,32]⟩ : ByteArray)).size+a3.size≤9223372036854775807 then(if((((((((⟨#[72,84,84,80,47,49,46,49,32]⟩ : ByteArray)++t135)++(⟨#[32]⟩ : ByteArray))++t136)++(⟨#[13,10,83,101,114,118,101,114,58,32,115,116,111,119,97,103,101,13,10,68,97,116,101,58,32]⟩ : ByteArray))++t137)++(⟨#[13,10,120,45,97,109,122,45,114,101,113,117,101,115,116,45,105,100,58,32]⟩ : ByteArray))++a3).size+2≤9223372036854775807 then(stowageref17_Print.l0 k a1 a4 (((((((((⟨#[72,84,84,80,47,49,46,49,32]⟩ : ByteArray)++t135)++(⟨#[32]⟩ : ByteArray))++t136)++(⟨#[13,10,83,101,114,118,101,114,58,32,115,116,111,119,97,103,101,13,10,68,97,116,101,58,32]⟩ : ByteArray))++t137)++(⟨#[13,10,120,45,97,109,122,45,114,101,113,117,101,115,116,45,105,100,58,32]⟩ : ByteArray))++a3)++(⟨#[13,10]⟩ : ByteArray)) 0 a0_0 l0_1 l0_2) else(none)) else(none)) else(none)) else(none))) else(none)) else(none))) else(none)) else(none))
theorem stowageref17_Print.mono_l:∀ k,(∀ y0 y1 y2 y3 y4 y5 y6,LeO (stowageref17_Print.l0 k y0 y1 y2 y3 y4 y5 y6) (stowageref17_Print.l0 (k+1) y0 y1 y2 y3 y4 y5 y6))∧(∀ y0 y1 y2 y3 y4 y5,LeO (stowageref17_Print.j1 k y0 y1 y2 y3 y4 y5) (stowageref17_Print.j1 (k+1) y0 y1 y2 y3 y4 y5))
  | 0=>⟨fun _ _ _ _ _ _ _ r h=>by simp [stowageref17_Print.l0] at h,fun _ _ _ _ _ _ r h=>by simp [stowageref17_Print.j1] at h⟩
  | k+1=>by
    obtain⟨ih0,ih1⟩:=stowageref17_Print.mono_l k
    refine⟨?_,?_⟩
    · intro y0 y1 y2 y3 y4 y5 y6
      unfold stowageref17_Print.l0
      with_reducible repeat' first|exact ih0 _ _ _ _ _ _ _|exact ih1 _ _ _ _ _ _|exact stowageref17_Phrase.mono _ _|exact stowageref1_Text.mono _ _|exact stowageref4_Http.mono _ _|exact LeO.refl _|exact LeO.none _|refine LeO.ite ?_ ?_|refine LeO.bind ?_ (fun _=>?_)
    · intro y0 y1 y2 y3 y4 y5
      unfold stowageref17_Print.j1
      with_reducible repeat' first|exact ih0 _ _ _ _ _ _ _|exact ih1 _ _ _ _ _ _|exact stowageref17_Phrase.mono _ _|exact stowageref1_Text.mono _ _|exact stowageref4_Http.mono _ _|exact LeO.refl _|exact LeO.none _|refine LeO.ite ?_ ?_|refine LeO.bind ?_ (fun _=>?_)
theorem stowageref17_Print.mono:∀ a0 a1 a2 a3 a4 a5 a6 k,LeO (stowageref17_Print.f k a0 a1 a2 a3 a4 a5 a6) (stowageref17_Print.f (k+1) a0 a1 a2 a3 a4 a5 a6):=by
 intro a0 a1 a2 a3 a4 a5 a6 k
 obtain⟨ih0,ih1⟩:=stowageref17_Print.mono_l k
 unfold stowageref17_Print.f
 with_reducible repeat' first|exact ih0 _ _ _ _ _ _ _|exact ih1 _ _ _ _ _ _|exact stowageref17_Phrase.mono _ _|exact stowageref1_Text.mono _ _|exact stowageref4_Http.mono _ _|exact LeO.refl _|exact LeO.none _|refine LeO.ite ?_ ?_|refine LeO.bind ?_ (fun _=>?_)
def stowageref17_Print.T1:Bool×List (List Nat×List Nat):=(true,[([],[]),([0],[0]),([1],[1]),([2],[2]),([3],[3]),([],[]),([5],[5]),([6,2],[6]),([4,7],[4,7]),([8],[8]),([],[]),([10,7],[10]),([9,11],[9,11]),([12],[12]),([],[]),([13,14],[13,14]),([15],[15]),([16,11,0,1,2,3,4,5,6,7,8,9,10,11,12,13,14,15,16],[16])])
def stowageref17_Print.B1:List Nat:=[0,1,3,7,15,0,32,103,255,511,0,1255,4095,8191,0,32767,65535,131071]
theorem stowageref17_Print.tab1:rtab .any (opsOf Tryd.f7 1)=stowageref17_Print.T1:=by kernel_rfl
theorem stowageref17_Print.bits1:waitsOk stowageref17_Print.T1.2 stowageref17_Print.B1=true:=by kernel_rfl
def stowageref17_Print.T5:Bool×List (List Nat×List Nat):=(true,[([],[]),([],[]),([1],[1]),([],[]),([2,3],[2,3]),([4],[4]),([5],[5]),([0,6],[0,6]),([7],[7]),([],[]),([9],[9]),([],[]),([10,11],[10,11]),([12],[12]),([13],[13]),([8,14],[8,14]),([15],[15]),([16,0,1,2,3,4,5,6,7,8,9,10,11,12,13,14,15,16],[0,16])])
def stowageref17_Print.B5:List Nat:=[0,0,2,0,14,30,62,127,255,0,512,0,3584,7680,15872,32767,65535,131071]
theorem stowageref17_Print.tab5:rtab .any (opsOf Tryd.f7 5)=stowageref17_Print.T5:=by kernel_rfl
theorem stowageref17_Print.bits5:waitsOk stowageref17_Print.T5.2 stowageref17_Print.B5=true:=by kernel_rfl
theorem stowageref17_Print.calls (k:Nat) (a0_0:Int) (A0_1:Option Addr) (c0_1:Nat) (l0_1:List (S52)) (A0_2:Option Addr) (c0_2:Nat) (l0_2:List Int) (a1:Bool) (a2:Int) (a3:ByteArray) (a4:Bool) (r:List Int) (w:World) (hr0_1:Kd.C k52 w A0_1 l0_1.length l0_1) (hc0_1:l0_1.length≤c0_1) (hr0_2:Kd.C (Kd.int .u8) w A0_2 l0_2.length l0_2) (hc0_2:l0_2.length≤c0_2) (h:stowageref17_Print.f k a0_0 l0_1 l0_2 a1 a2 a3 a4=some r) :
    Calls Tryd.prog 7 #[.agg #[.int .i64 a0_0,.slice A0_1 l0_1.length c0_1,.slice A0_2 l0_2.length c0_2],.bool a1,.int .i64 a2,.string a3,.bool a4] w fun e w'=>∃ v0_:Value,e = .returned (v0_)∧Kd.V (Kd.int .u8) 5 w' w.heap.size (fun k_=>(w.heap.size≤k_)) v0_ r∧Below w.heap.size w w':=by
 have hu27:=Tryd.underlying27
 have HR0_1:=Aside0.mk hr0_1
 have HC0_1:=Aside0.mk hc0_1
 clear hr0_1 hc0_1
 have HR0_2:=Aside0.mk hr0_2
 have HC0_2:=Aside0.mk hc0_2
 clear hr0_2 hc0_2
 have HB:=Aside0.mk (Below.refl w.heap.size w)
 unfold stowageref17_Print.f at h
 have H:=h
 clear h
 replace H:=bndO H
 obtain⟨t135,A60,H⟩:=H
 have A6:=Aside0.mk A60
 clear A60
 replace H:=itO H
 rcases H with⟨c7,H⟩|⟨c7,H⟩
 {
 have c7b0:=eq_true c7
 have c7b1:=decide_eq_true c7
 try have c7b2:=eq_false (Nat.not_lt.2 c7)
 try (have c7n:9+t135.size≤9223372036854775807:=by have h_:=c7;simp only [ByteArray.size_append,ByteArray.size_extract] at h_;exact h_)
 try have c7f:(9223372036854775807<9+t135.size)=False:=eq_false (by first|omega|(simp only [eq_iff_iff,iff_true] at *;omega))
 replace H:=itO H
 rcases H with⟨c8,H⟩|⟨c8,H⟩
 {
 have c8b0:=eq_true c8
 have c8b1:=decide_eq_true c8
 try have c8b2:=eq_false (Nat.not_lt.2 c8)
 try (have c8n:9+t135.size+1≤9223372036854775807:=by have h_:=c8;simp only [ByteArray.size_append,ByteArray.size_extract] at h_;exact h_)
 try have c8f:(9223372036854775807<9+t135.size+1)=False:=eq_false (by first|omega|(simp only [eq_iff_iff,iff_true] at *;omega))
 replace H:=bndO H
 obtain⟨t136,A90,H⟩:=H
 have A9:=Aside0.mk A90
 clear A90
 replace H:=itO H
 rcases H with⟨c10,H⟩|⟨c10,H⟩
 {
 have c10b0:=eq_true c10
 have c10b1:=decide_eq_true c10
 try have c10b2:=eq_false (Nat.not_lt.2 c10)
 try (have c10n:9+t135.size+1+t136.size≤9223372036854775807:=by have h_:=c10;simp only [ByteArray.size_append,ByteArray.size_extract] at h_;exact h_)
 try have c10f:(9223372036854775807<9+t135.size+1+t136.size)=False:=eq_false (by first|omega|(simp only [eq_iff_iff,iff_true] at *;omega))
 replace H:=itO H
 rcases H with⟨c11,H⟩|⟨c11,H⟩
 {
 have c11b0:=eq_true c11
 have c11b1:=decide_eq_true c11
 try have c11b2:=eq_false (Nat.not_lt.2 c11)
 try (have c11n:9+t135.size+1+t136.size+25≤9223372036854775807:=by have h_:=c11;simp only [ByteArray.size_append,ByteArray.size_extract] at h_;exact h_)
 try have c11f:(9223372036854775807<9+t135.size+1+t136.size+25)=False:=eq_false (by first|omega|(simp only [eq_iff_iff,iff_true] at *;omega))
 replace H:=bndO H
 obtain⟨t137,A120,H⟩:=H
 have A12:=Aside0.mk A120
 clear A120
 replace H:=itO H
 rcases H with⟨c13,H⟩|⟨c13,H⟩
 {
 have c13b0:=eq_true c13
 have c13b1:=decide_eq_true c13
 try have c13b2:=eq_false (Nat.not_lt.2 c13)
 try (have c13n:9+t135.size+1+t136.size+25+t137.size≤9223372036854775807:=by have h_:=c13;simp only [ByteArray.size_append,ByteArray.size_extract] at h_;exact h_)
 try have c13f:(9223372036854775807<9+t135.size+1+t136.size+25+t137.size)=False:=eq_false (by first|omega|(simp only [eq_iff_iff,iff_true] at *;omega))
 replace H:=itO H
 rcases H with⟨c14,H⟩|⟨c14,H⟩
 {
 have c14b0:=eq_true c14
 have c14b1:=decide_eq_true c14
 try have c14b2:=eq_false (Nat.not_lt.2 c14)
 try (have c14n:9+t135.size+1+t136.size+25+t137.size+20≤9223372036854775807:=by have h_:=c14;simp only [ByteArray.size_append,ByteArray.size_extract] at h_;exact h_)
 try have c14f:(9223372036854775807<9+t135.size+1+t136.size+25+t137.size+20)=False:=eq_false (by first|omega|(simp only [eq_iff_iff,iff_true] at *;omega))
 replace H:=itO H
 rcases H with⟨c15,H⟩|⟨c15,H⟩
 {
 have c15b0:=eq_true c15
 have c15b1:=decide_eq_true c15
 try have c15b2:=eq_false (Nat.not_lt.2 c15)
 try (have c15n:9+t135.size+1+t136.size+25+t137.size+20+a3.size≤9223372036854775807:=by have h_:=c15;simp only [ByteArray.size_append,ByteArray.size_extract] at h_;exact h_)
 try have c15f:(9223372036854775807<9+t135.size+1+t136.size+25+t137.size+20+a3.size)=False:=eq_false (by first|omega|(simp only [eq_iff_iff,iff_true] at *;omega))
 replace H:=itO H
 rcases H with⟨c16,H⟩|⟨c16,H⟩
 {
 have c16b0:=eq_true c16
 have c16b1:=decide_eq_true c16
 try have c16b2:=eq_false (Nat.not_lt.2 c16)
 try (have c16n:9+t135.size+1+t136.size+25+t137.size+20+a3.size+2≤9223372036854775807:=by have h_:=c16;simp only [ByteArray.size_append,ByteArray.size_extract] at h_;exact h_)
 try have c16f:(9223372036854775807<9+t135.size+1+t136.size+25+t137.size+20+a3.size+2)=False:=eq_false (by first|omega|(simp only [eq_iff_iff,iff_true] at *;omega))
 have H':=Aside0.mk H
 clear H
 go_enter Tryd.func7,Tryd.ntmps7
 try go_wp2_with (first|((with_reducible refine gate_dst (N:=5) rfl ?_);refine box_event ?hg (N:=5) ?hd (cs:=#[.int .i64 a0_0,.slice A0_1 l0_1.length c0_1,.slice A0_2 l0_2.length c0_2]) (t:=27) ?hr ?_;(case hd=>rfl);(case hg=>rfl);(case hr=>first|(go_simp;done)|(go_simp;rfl));intro gb134 hg w17 hbox hb;have BK134:=Aside0.mk (hbox);have GW134:=Aside0.mk ((by rw [hg];exact(below_size bl):w.heap.size≤gb134));have GE134:=Aside0.mk ((by rw [hg];exact(below_size bl):w.heap.size≤gb134));replace HB:=Aside0.mk (below_step bl hb);clear hb hbox hg))
 have n0_:=Aside0.mk (blk_drew BK134.out)
 have n1_:=Aside0.mk (below_drew1 HB.out)
 clear BK134
 clear HB
 have BK134:=n0_
 have HB:=n1_
 clear n0_ n1_
 refine start_ (n:=18) (S:=fun w'=>w'.cell? ⟨gb134,0,none⟩=some (.int .i64 a0_0)∧w'.cell? ⟨gb134,1,none⟩=some (.slice A0_1 l0_1.length c0_1)∧w'.cell? ⟨gb134,2,none⟩=some (.slice A0_2 l0_2.length c0_2)) (ds:=[]) #[F,F,F,F,F,F,F,F,F,F,F,F,F,F,F,F,F,F] kr rfl rfl ⟨(blk_cell BK134.out 0).trans rfl,(blk_cell BK134.out 1).trans rfl,(blk_cell BK134.out 2).trans rfl⟩ (fun hHeld=>?_);refine with_tabW stowageref17_Print.tab1 stowageref17_Print.bits1 (fun HT_ HW_=>?_)
 generalize w17.drew=w18 at BK134 HB hHeld ⊢
 refine pure_ (i:=0) (N:=some 14) (v:=?_) (a':=?_) #[T,F,F,F,F,F,F,F,F,F,F,F,F,F,F,F,F,F] rfl rfl (any_of HT_.out kr) (fun _ _ _ h=>h) (Or.inl ⟨by rfl,?_⟩) ?_ ?_
 rotate_left
 {
 intro w'
 go_simp
 with_reducible rfl
 }
 rotate_left
 {
 simp only [Act.put,l1,l2,l3,i64_w,i32_w]
 rfl
 }
 refine pure_ (i:=5) (N:=some 19) (v:=?_) (a':=?_) #[T,F,F,F,F,T,F,F,F,F,F,F,F,F,F,F,F,F] rfl rfl (any_of HT_.out kr) (fun _ _ _ h=>h) (Or.inl ⟨by rfl,?_⟩) ?_ ?_
 rotate_left
 {
 intro w'
 go_simp
 with_reducible rfl
 }
 rotate_left
 {
 simp only [Act.put,l1,l2,l3,i64_w,i32_w]
 rfl
 }
 refine pure_ (i:=10) (N:=some 24) (v:=?_) (a':=?_) #[T,F,F,F,F,T,F,F,F,F,T,F,F,F,F,F,F,F] rfl rfl (any_of HT_.out kr) (fun _ _ _ h=>h) (Or.inl ⟨by rfl,?_⟩) ?_ ?_
 rotate_left
 {
 intro w'
 go_simp
 with_reducible rfl
 }
 rotate_left
 {
 simp only [Act.put,l1,l2,l3,i64_w,i32_w]
 rfl
 }
 refine pure_ (i:=14) (N:=some 28) (v:=?_) (a':=?_) #[T,F,F,F,F,T,F,F,F,F,T,F,F,F,T,F,F,F] rfl rfl (any_of HT_.out kr) (fun _ _ _ h=>h) (Or.inl ⟨by rfl,?_⟩) ?_ ?_
 rotate_left
 {
 intro w'
 go_simp
 with_reducible rfl
 }
 rotate_left
 {
 simp only [Act.put,l1,l2,l3,i64_w,i32_w]
 rfl
 }
 refine take_ (i:=1) (N:=some 15) (v:=?_) (a':=?_) #[T,T,F,F,F,T,F,F,F,F,T,F,F,F,T,F,F,F] rfl rfl (take_ofW HT_.out HW_.out kr) (fun _ _ _ h=>h) (Or.inl ⟨by rfl,?_⟩) hHeld ?_ ?_
 rotate_left
 {
 rintro w' ⟨s0,s1,s2⟩
 go_simp
 with_reducible rfl
 }
 rotate_left
 {
 simp only [Act.put,l1,l2,l3,i64_w,i32_w]
 rfl
 }
 refine take_ (i:=6) (N:=some 20) (v:=?_) (a':=?_) #[T,T,F,F,F,T,T,F,F,F,T,F,F,F,T,F,F,F] rfl rfl (take_ofW HT_.out HW_.out kr) (fun _ _ _ h=>h) (Or.inl ⟨by rfl,?_⟩) hHeld ?_ ?_
 rotate_left
 {
 rintro w' ⟨s0,s1,s2⟩
 go_simp
 with_reducible rfl
 }
 rotate_left
 {
 simp only [Act.put,l1,l2,l3,i64_w,i32_w]
 rfl
 }
 refine one_ (i:=2) (N:=some 16) #[T,T,T,F,F,T,T,F,F,F,T,F,F,F,T,F,F,F] rfl rfl (one_of HT_.out kr) (by decide) (fun K hK=>?_)
 refine goes_ Tryd.func21 kr rfl #[.int .i64 a0_0] (by rfl) rfl rfl am ?_
 with_reducible refine(stowageref1_Text.calls k a0_0 t135 _ A6.out).mono ?_
 rintro e w' ⟨rfl,⟨nd,rfl⟩⟩
 refine⟨_,rfl,?_⟩
 refine hK.out _ _ ⟨(blk_cell BK134.out 0).trans rfl,(blk_cell BK134.out 1).trans rfl,(blk_cell BK134.out 2).trans rfl⟩ (fun hHeld=>?_)
 clear hK K
 refine norm_ (a':=?_) ?_ ?_
 rotate_left
 {
 show Act.put _ (some 16) _=_
 simp only [Act.put,l1,l2,l3,i64_w,i32_w]
 rfl
 }
 refine pure_ (i:=3) (N:=some 17) (v:=?_) (a':=?_) #[T,T,T,T,F,T,T,F,F,F,T,F,F,F,T,F,F,F] rfl rfl (any_of HT_.out kr) (fun _ _ _ h=>h) (Or.inl ⟨by rfl,?_⟩) ?_ ?_
 rotate_left
 {
 intro w'
 go_simp
 with_reducible rfl
 }
 rotate_left
 {
 simp only [Act.put,l1,l2,l3,i64_w,i32_w]
 rfl
 }
 refine pure_ (i:=4) (N:=some 18) (v:=?_) (a':=?_) #[T,T,T,T,T,T,T,F,F,F,T,F,F,F,T,F,F,F] rfl rfl (any_of HT_.out kr) (fun _ _ _ h=>h) (Or.inl ⟨by rfl,?_⟩) ?_ ?_
 rotate_left
 {
 intro w'
 go_simp
 with_reducible rfl
 }
 rotate_left
 {
 simp only [Act.put,l1,l2,l3,i64_w,i32_w]
 rfl
 }
 refine one_ (i:=7) (N:=some 21) #[T,T,T,T,T,T,T,T,F,F,T,F,F,F,T,F,F,F] rfl rfl (one_of HT_.out kr) (by decide) (fun K hK=>?_)
 refine goes_ Tryd.func14 kr rfl #[.int .i64 a0_0] (by rfl) rfl rfl am ?_
 with_reducible refine(stowageref17_Phrase.calls k a0_0 t136 _ A9.out).mono ?_
 rintro e w19 ⟨rfl,hb⟩
 refine⟨_,rfl,?_⟩
 have n0_:=Aside0.mk (blk_below (g:=gb134) (o:=.cells #[.int .i64 a0_0,.slice A0_1 l0_1.length c0_1,.slice A0_2 l0_2.length c0_2] 27 (0,0)) kl hb)
 have n1_:=Aside0.mk (below_step bl hb)
 clear BK134
 clear HB
 have BK134:=n0_
 have HB:=n1_
 clear n0_ n1_
 (try clear hb)
 (try clear hb2)
 (try clear hk)
 (try clear hi)
 refine hK.out _ _ ⟨(blk_cell BK134.out 0).trans rfl,(blk_cell BK134.out 1).trans rfl,(blk_cell BK134.out 2).trans rfl⟩ (fun hHeld=>?_)
 clear hK K
 refine norm_ (a':=?_) ?_ ?_
 rotate_left
 {
 show Act.put _ (some 21) _=_
 simp only [Act.put,l1,l2,l3,i64_w,i32_w]
 rfl
 }
 refine pure_ (i:=8) (N:=some 22) (v:=?_) (a':=?_) #[T,T,T,T,T,T,T,T,T,F,T,F,F,F,T,F,F,F] rfl rfl (any_of HT_.out kr) (fun _ _ _ h=>h) (Or.inl ⟨by rfl,?_⟩) ?_ ?_
 rotate_left
 {
 intro w'
 go_simp
 with_reducible rfl
 }
 rotate_left
 {
 simp only [Act.put,l1,l2,l3,i64_w,i32_w]
 rfl
 }
 refine pure_ (i:=9) (N:=some 23) (v:=?_) (a':=?_) #[T,T,T,T,T,T,T,T,T,T,T,F,F,F,T,F,F,F] rfl rfl (any_of HT_.out kr) (fun _ _ _ h=>h) (Or.inl ⟨by rfl,?_⟩) ?_ ?_
 rotate_left
 {
 intro w'
 go_simp
 with_reducible rfl
 }
 rotate_left
 {
 simp only [Act.put,l1,l2,l3,i64_w,i32_w]
 rfl
 }
 refine one_ (i:=11) (N:=some 25) #[T,T,T,T,T,T,T,T,T,T,T,T,F,F,T,F,F,F] rfl rfl (one_of HT_.out kr) (by decide) (fun K hK=>?_)
 refine goes_ Tryd.func22 kr rfl #[.int .i64 a2] (by rfl) rfl rfl am ?_
 with_reducible refine(stowageref4_Http.calls k a2 t137 _ A12.out).mono ?_
 rintro e w20 ⟨rfl,hb⟩
 refine⟨_,rfl,?_⟩
 have n0_:=Aside0.mk (blk_below (g:=gb134) (o:=.cells #[.int .i64 a0_0,.slice A0_1 l0_1.length c0_1,.slice A0_2 l0_2.length c0_2] 27 (0,0)) kl hb)
 have n1_:=Aside0.mk (below_step bl hb)
 clear BK134
 clear HB
 have BK134:=n0_
 have HB:=n1_
 clear n0_ n1_
 (try clear hb)
 (try clear hb2)
 (try clear hk)
 (try clear hi)
 refine hK.out _ _ ⟨(blk_cell BK134.out 0).trans rfl,(blk_cell BK134.out 1).trans rfl,(blk_cell BK134.out 2).trans rfl⟩ (fun hHeld=>?_)
 clear hK K
 refine norm_ (a':=?_) ?_ ?_
 rotate_left
 {
 show Act.put _ (some 25) _=_
 simp only [Act.put,l1,l2,l3,i64_w,i32_w]
 rfl
 }
 refine pure_ (i:=12) (N:=some 26) (v:=?_) (a':=?_) #[T,T,T,T,T,T,T,T,T,T,T,T,T,F,T,F,F,F] rfl rfl (any_of HT_.out kr) (fun _ _ _ h=>h) (Or.inl ⟨by rfl,?_⟩) ?_ ?_
 rotate_left
 {
 intro w'
 go_simp
 with_reducible rfl
 }
 rotate_left
 {
 simp only [Act.put,l1,l2,l3,i64_w,i32_w]
 rfl
 }
 refine pure_ (i:=13) (N:=some 27) (v:=?_) (a':=?_) #[T,T,T,T,T,T,T,T,T,T,T,T,T,T,T,F,F,F] rfl rfl (any_of HT_.out kr) (fun _ _ _ h=>h) (Or.inl ⟨by rfl,?_⟩) ?_ ?_
 rotate_left
 {
 intro w'
 go_simp
 with_reducible rfl
 }
 rotate_left
 {
 simp only [Act.put,l1,l2,l3,i64_w,i32_w]
 rfl
 }
 refine pure_ (i:=15) (N:=some 29) (v:=?_) (a':=?_) #[T,T,T,T,T,T,T,T,T,T,T,T,T,T,T,T,F,F] rfl rfl (any_of HT_.out kr) (fun _ _ _ h=>h) (Or.inl ⟨by rfl,?_⟩) ?_ ?_
 rotate_left
 {
 intro w'
 go_simp
 with_reducible rfl
 }
 rotate_left
 {
 simp only [Act.put,l1,l2,l3,i64_w,i32_w]
 rfl
 }
 refine pure_ (i:=16) (N:=some 30) (v:=?_) (a':=?_) #[T,T,T,T,T,T,T,T,T,T,T,T,T,T,T,T,T,F] rfl rfl (any_of HT_.out kr) (fun _ _ _ h=>h) (Or.inl ⟨by rfl,?_⟩) ?_ ?_
 rotate_left
 {
 intro w'
 go_simp
 with_reducible rfl
 }
 rotate_left
 {
 simp only [Act.put,l1,l2,l3,i64_w,i32_w]
 rfl
 }
 refine pure_ (i:=17) (N:=some 11) (v:=?_) (a':=?_) #[T,T,T,T,T,T,T,T,T,T,T,T,T,T,T,T,T,T] rfl rfl (any_of HT_.out kr) (fun _ _ _ h=>h) (Or.inl ⟨by rfl,?_⟩) ?_ ?_
 rotate_left
 {
 intro w'
 go_simp
 with_reducible rfl
 }
 rotate_left
 {
 simp only [Act.put,l1,l2,l3,i64_w,i32_w]
 rfl
 }
 refine done_ (done_of HT_.out kr) ?_
 try go_wp2
 go_loopg [11,12] k (fun kq v11 v12 w'=>∃ (x11_1:ByteArray) (x12_1:Int),v11 = .string x11_1∧v12 = .int .i64 x12_1∧Aside0 (stowageref17_Print.l0 kq a1 a4 x11_1 x12_1 a0_0 l0_1 l0_2=some r)∧Aside0 (kq≤k)∧Aside0 (w'.heap[gb134]? = some (.cells #[.int .i64 a0_0,(.slice A0_1 l0_1.length c0_1),(.slice A0_2 l0_2.length c0_2)] 27 (0,0)))∧Aside0 (Below w.heap.size w w'))
 case atStart=>exact⟨(((((((((⟨#[72,84,84,80,47,49,46,49,32]⟩ : ByteArray)++t135)++(⟨#[32]⟩ : ByteArray))++t136)++(⟨#[13,10,83,101,114,118,101,114,58,32,115,116,111,119,97,103,101,13,10,68,97,116,101,58,32]⟩ : ByteArray))++t137)++(⟨#[13,10,120,45,97,109,122,45,114,101,113,117,101,115,116,45,105,100,58,32]⟩ : ByteArray))++a3)++(⟨#[13,10]⟩ : ByteArray)),(0),rs,rs,H',⟨Nat.le_refl _⟩,⟨kl⟩,⟨bl⟩⟩
 case round=>
  clear H'
  obtain⟨x11_1,x12_1,rfl,rfl,HA,HK1,BK134,HB⟩:=hrel
  cases gk with
  | zero=>exact absurd HA.out (by simp [stowageref17_Print.l0])
  | succ k1=>
   have H:=HA.out
   clear HA
   simp only [stowageref17_Print.l0] at H
   replace H:=itO H
   rcases H with⟨c21,H⟩|⟨c21,H⟩
   {
   have c21b0:decide (x12_1<(l0_1.length:Int))=true:=decide_eq_true c21
   clear c21
   replace H:=itO H
   rcases H with⟨c22,H⟩|⟨c22,H⟩
   {
   have c22b0:decide (0≤x12_1)=true:=decide_eq_true c22
   clear c22
   replace H:=itO H
   rcases H with⟨c23,H⟩|⟨c23,H⟩
   {
   have c23b0:=eq_true c23
   have c23b1:=decide_eq_true c23
   try have c23b2:=eq_false (Nat.not_lt.2 c23)
   try (have c23n:x11_1.size+((rd_T52 l0_1 x12_1).f0).size≤9223372036854775807:=by have h_:=c23;simp only [ByteArray.size_append,ByteArray.size_extract] at h_;exact h_)
   try have c23f:(9223372036854775807<x11_1.size+((rd_T52 l0_1 x12_1).f0).size)=False:=eq_false (by first|omega|(simp only [eq_iff_iff,iff_true] at *;omega))
   replace H:=itO H
   rcases H with⟨c24,H⟩|⟨c24,H⟩
   {
   have c24b0:=eq_true c24
   have c24b1:=decide_eq_true c24
   try have c24b2:=eq_false (Nat.not_lt.2 c24)
   try (have c24n:x11_1.size+((rd_T52 l0_1 x12_1).f0).size+2≤9223372036854775807:=by have h_:=c24;simp only [ByteArray.size_append,ByteArray.size_extract] at h_;exact h_)
   try have c24f:(9223372036854775807<x11_1.size+((rd_T52 l0_1 x12_1).f0).size+2)=False:=eq_false (by first|omega|(simp only [eq_iff_iff,iff_true] at *;omega))
   replace H:=itO H
   rcases H with⟨c25,H⟩|⟨c25,H⟩
   {
   have c25b0:=eq_true c25
   have c25b1:=decide_eq_true c25
   try have c25b2:=eq_false (Nat.not_lt.2 c25)
   try (have c25n:x11_1.size+((rd_T52 l0_1 x12_1).f0).size+2+((rd_T52 l0_1 x12_1).f1).size≤9223372036854775807:=by have h_:=c25;simp only [ByteArray.size_append,ByteArray.size_extract] at h_;exact h_)
   try have c25f:(9223372036854775807<x11_1.size+((rd_T52 l0_1 x12_1).f0).size+2+((rd_T52 l0_1 x12_1).f1).size)=False:=eq_false (by first|omega|(simp only [eq_iff_iff,iff_true] at *;omega))
   replace H:=itO H
   rcases H with⟨c26,H⟩|⟨c26,H⟩
   {
   have c26b0:=eq_true c26
   have c26b1:=decide_eq_true c26
   try have c26b2:=eq_false (Nat.not_lt.2 c26)
   try (have c26n:x11_1.size+((rd_T52 l0_1 x12_1).f0).size+2+((rd_T52 l0_1 x12_1).f1).size+2≤9223372036854775807:=by have h_:=c26;simp only [ByteArray.size_append,ByteArray.size_extract] at h_;exact h_)
   try have c26f:(9223372036854775807<x11_1.size+((rd_T52 l0_1 x12_1).f0).size+2+((rd_T52 l0_1 x12_1).f1).size+2)=False:=eq_false (by first|omega|(simp only [eq_iff_iff,iff_true] at *;omega))
   have H':=Aside0.mk H
   clear H
   obtain⟨_,_,_,_,_,_⟩:=bc3 BK134.out
   try go_wp2
   have n0_:=Aside0.mk (blk_drew BK134.out)
   have n1_:=Aside0.mk (below_drew1 HB.out)
   clear BK134
   clear HB
   have BK134:=n0_
   have HB:=n1_
   clear n0_ n1_
   have p138:0≤(x12_1:Int):=of_decide_eq_true asm
   have q138:x12_1<(l0_1.length:Int):=of_decide_eq_true asm
   obtain⟨ad138,e138,hx138_0,hx138_1⟩:=at_T52 HR0_1.out x12_1 p138 q138
   have hw138_1:=hx138_1
   have hw138_0:=hx138_0
   cases e138
   replace hx138_0:=(HB.out.cell (World.block_lt_of_cell? w _ hx138_0)).trans hx138_0
   replace hx138_1:=(HB.out.cell (World.block_lt_of_cell? w _ hx138_1)).trans hx138_1
   replace p138:=eq_true p138
   replace q138:=eq_true q138
   have p139:0≤(x12_1:Int):=of_decide_eq_true asm
   have q139:x12_1<(l0_1.length:Int):=of_decide_eq_true asm
   obtain⟨ad139,e139,hx139_0,hx139_1⟩:=at_T52 HR0_1.out x12_1 p139 q139
   have hw139_1:=hx139_1
   have hw139_0:=hx139_0
   obtain rfl:ad138=ad139:=(by injection e139)
   replace hx139_0:=(HB.out.cell (World.block_lt_of_cell? w _ hx139_0)).trans hx139_0
   replace hx139_1:=(HB.out.cell (World.block_lt_of_cell? w _ hx139_1)).trans hx139_1
   replace p139:=eq_true p139
   replace q139:=eq_true q139
   refine start_ (n:=18) (S:=fun w'=>w'.cell? ⟨gb134,0,none⟩=some (.int .i64 a0_0)∧w'.cell? ⟨gb134,1,none⟩=some (.slice (some ad138) l0_1.length c0_1)∧w'.cell? ⟨gb134,2,none⟩=some (.slice A0_2 l0_2.length c0_2)∧w'.cell? (ad138.add ((x12_1).toNat*2))=some (.string ((rd_T52 l0_1 x12_1).f0))∧w'.cell? ⟨(ad138.add ((x12_1).toNat*2)).block,(ad138.add ((x12_1).toNat*2)).off+1,none⟩=some (.string ((rd_T52 l0_1 x12_1).f1))∧w'.cell? (ad138.add ((x12_1).toNat*2))=some (.string ((rd_T52 l0_1 x12_1).f0))∧w'.cell? ⟨(ad138.add ((x12_1).toNat*2)).block,(ad138.add ((x12_1).toNat*2)).off+1,none⟩=some (.string ((rd_T52 l0_1 x12_1).f1))) (ds:=[]) #[F,F,F,F,F,F,F,F,F,F,F,F,F,F,F,F,F,F] kr rfl rfl ⟨(blk_cell BK134.out 0).trans rfl,(blk_cell BK134.out 1).trans rfl,(blk_cell BK134.out 2).trans rfl,((HB.out.cell (World.block_lt_of_cell? w _ hw138_0)).trans hw138_0),((HB.out.cell (World.block_lt_of_cell? w _ hw138_1)).trans hw138_1),((HB.out.cell (World.block_lt_of_cell? w _ hw139_0)).trans hw139_0),((HB.out.cell (World.block_lt_of_cell? w _ hw139_1)).trans hw139_1)⟩ (fun hHeld=>?_);refine with_tabW stowageref17_Print.tab5 stowageref17_Print.bits5 (fun HT_ HW_=>?_)
   generalize wr.drew=w28 at BK134 HB hx138_0 hx138_1 hx139_0 hx139_1 hHeld ⊢
   refine pure_ (i:=0) (N:=some 38) (v:=?_) (a':=?_) #[T,F,F,F,F,F,F,F,F,F,F,F,F,F,F,F,F,F] rfl rfl (any_of HT_.out kr) (fun _ _ _ h=>h) (Or.inl ⟨by rfl,?_⟩) ?_ ?_
   rotate_left
   {
   intro w'
   go_simp
   with_reducible rfl
   }
   rotate_left
   {
   simp only [Act.put,l1,l2,l3,i64_w,i32_w]
   rfl
   }
   refine pure_ (i:=1) (N:=some 39) (v:=?_) (a':=?_) #[T,T,F,F,F,F,F,F,F,F,F,F,F,F,F,F,F,F] rfl rfl (any_of HT_.out kr) (fun _ _ _ h=>h) (Or.inl ⟨by rfl,?_⟩) ?_ ?_
   rotate_left
   {
   intro w'
   go_simp
   with_reducible rfl
   }
   rotate_left
   {
   simp only [Act.put,l1,l2,l3,i64_w,i32_w]
   rfl
   }
   refine pure_ (i:=3) (N:=some 41) (v:=?_) (a':=?_) #[T,T,F,T,F,F,F,F,F,F,F,F,F,F,F,F,F,F] rfl rfl (any_of HT_.out kr) (fun _ _ _ h=>h) (Or.inl ⟨by rfl,?_⟩) ?_ ?_
   rotate_left
   {
   intro w'
   go_simp
   with_reducible rfl
   }
   rotate_left
   {
   simp only [Act.put,l1,l2,l3,i64_w,i32_w]
   rfl
   }
   refine pure_ (i:=9) (N:=some 47) (v:=?_) (a':=?_) #[T,T,F,T,F,F,F,F,F,T,F,F,F,F,F,F,F,F] rfl rfl (any_of HT_.out kr) (fun _ _ _ h=>h) (Or.inl ⟨by rfl,?_⟩) ?_ ?_
   rotate_left
   {
   intro w'
   go_simp
   with_reducible rfl
   }
   rotate_left
   {
   simp only [Act.put,l1,l2,l3,i64_w,i32_w]
   rfl
   }
   refine pure_ (i:=11) (N:=some 49) (v:=?_) (a':=?_) #[T,T,F,T,F,F,F,F,F,T,F,T,F,F,F,F,F,F] rfl rfl (any_of HT_.out kr) (fun _ _ _ h=>h) (Or.inl ⟨by rfl,?_⟩) ?_ ?_
   rotate_left
   {
   intro w'
   go_simp
   with_reducible rfl
   }
   rotate_left
   {
   simp only [Act.put,l1,l2,l3,i64_w,i32_w]
   rfl
   }
   refine take_ (i:=2) (N:=some 40) (v:=?_) (a':=?_) #[T,T,T,T,F,F,F,F,F,T,F,T,F,F,F,F,F,F] rfl rfl (take_ofW HT_.out HW_.out kr) (fun _ _ _ h=>h) (Or.inl ⟨by rfl,?_⟩) hHeld ?_ ?_
   rotate_left
   {
   rintro w' ⟨s0,s1,s2,s3,s4,s5,s6⟩
   go_simp
   with_reducible rfl
   }
   rotate_left
   {
   simp only [Act.put,l1,l2,l3,i64_w,i32_w]
   rfl
   }
   refine pure_ (i:=4) (N:=some 42) (v:=?_) (a':=?_) #[T,T,T,T,T,F,F,F,F,T,F,T,F,F,F,F,F,F] rfl rfl (any_of HT_.out kr) (fun _ _ _ h=>h) (Or.inl ⟨by rfl,?_⟩) ?_ ?_
   rotate_left
   {
   intro w'
   go_simp
   with_reducible rfl
   }
   rotate_left
   {
   simp only [Act.put,l1,l2,l3,i64_w,i32_w]
   rfl
   }
   refine pure_ (i:=5) (N:=some 43) (v:=?_) (a':=?_) #[T,T,T,T,T,T,F,F,F,T,F,T,F,F,F,F,F,F] rfl rfl (any_of HT_.out kr) (fun _ _ _ h=>h) (Or.inl ⟨by rfl,?_⟩) ?_ ?_
   rotate_left
   {
   intro w'
   go_simp
   with_reducible rfl
   }
   rotate_left
   {
   simp only [Act.put,l1,l2,l3,i64_w,i32_w]
   rfl
   }
   refine take_ (i:=6) (N:=some 44) (v:=?_) (a':=?_) #[T,T,T,T,T,T,T,F,F,T,F,T,F,F,F,F,F,F] rfl rfl (take_ofW HT_.out HW_.out kr) (fun _ _ _ h=>h) (Or.inl ⟨by rfl,?_⟩) hHeld ?_ ?_
   rotate_left
   {
   rintro w' ⟨s0,s1,s2,s3,s4,s5,s6⟩
   go_simp
   with_reducible rfl
   }
   rotate_left
   {
   simp only [Act.put,l1,l2,l3,i64_w,i32_w]
   rfl
   }
   refine pure_ (i:=7) (N:=some 45) (v:=?_) (a':=?_) #[T,T,T,T,T,T,T,T,F,T,F,T,F,F,F,F,F,F] rfl rfl (any_of HT_.out kr) (fun _ _ _ h=>h) (Or.inl ⟨by rfl,?_⟩) ?_ ?_
   rotate_left
   {
   intro w'
   go_simp
   with_reducible rfl
   }
   rotate_left
   {
   simp only [Act.put,l1,l2,l3,i64_w,i32_w]
   rfl
   }
   refine pure_ (i:=8) (N:=some 46) (v:=?_) (a':=?_) #[T,T,T,T,T,T,T,T,T,T,F,T,F,F,F,F,F,F] rfl rfl (any_of HT_.out kr) (fun _ _ _ h=>h) (Or.inl ⟨by rfl,?_⟩) ?_ ?_
   rotate_left
   {
   intro w'
   go_simp
   with_reducible rfl
   }
   rotate_left
   {
   simp only [Act.put,l1,l2,l3,i64_w,i32_w]
   rfl
   }
   refine take_ (i:=10) (N:=some 48) (v:=?_) (a':=?_) #[T,T,T,T,T,T,T,T,T,T,T,T,F,F,F,F,F,F] rfl rfl (take_ofW HT_.out HW_.out kr) (fun _ _ _ h=>h) (Or.inl ⟨by rfl,?_⟩) hHeld ?_ ?_
   rotate_left
   {
   rintro w' ⟨s0,s1,s2,s3,s4,s5,s6⟩
   go_simp
   with_reducible rfl
   }
   rotate_left
   {
   simp only [Act.put,l1,l2,l3,i64_w,i32_w]
   rfl
   }
   refine pure_ (i:=12) (N:=some 50) (v:=?_) (a':=?_) #[T,T,T,T,T,T,T,T,T,T,T,T,T,F,F,F,F,F] rfl rfl (any_of HT_.out kr) (fun _ _ _ h=>h) (Or.inl ⟨by rfl,?_⟩) ?_ ?_
   rotate_left
   {
   intro w'
   go_simp
   with_reducible rfl
   }
   rotate_left
   {
   simp only [Act.put,l1,l2,l3,i64_w,i32_w]
   rfl
   }
   refine pure_ (i:=13) (N:=some 51) (v:=?_) (a':=?_) #[T,T,T,T,T,T,T,T,T,T,T,T,T,T,F,F,F,F] rfl rfl (any_of HT_.out kr) (fun _ _ _ h=>h) (Or.inl ⟨by rfl,?_⟩) ?_ ?_
   rotate_left
   {
   intro w'
   go_simp
   with_reducible rfl
   }
   rotate_left
   {
   simp only [Act.put,l1,l2,l3,i64_w,i32_w]
   rfl
   }
   refine take_ (i:=14) (N:=some 52) (v:=?_) (a':=?_) #[T,T,T,T,T,T,T,T,T,T,T,T,T,T,T,F,F,F] rfl rfl (take_ofW HT_.out HW_.out kr) (fun _ _ _ h=>h) (Or.inl ⟨by rfl,?_⟩) hHeld ?_ ?_
   rotate_left
   {
   rintro w' ⟨s0,s1,s2,s3,s4,s5,s6⟩
   go_simp
   with_reducible rfl
   }
   rotate_left
   {
   simp only [Act.put,l1,l2,l3,i64_w,i32_w]
   rfl
   }
   refine pure_ (i:=15) (N:=some 53) (v:=?_) (a':=?_) #[T,T,T,T,T,T,T,T,T,T,T,T,T,T,T,T,F,F] rfl rfl (any_of HT_.out kr) (fun _ _ _ h=>h) (Or.inl ⟨by rfl,?_⟩) ?_ ?_
   rotate_left
   {
   intro w'
   go_simp
   with_reducible rfl
   }
   rotate_left
   {
   simp only [Act.put,l1,l2,l3,i64_w,i32_w]
   rfl
   }
   refine pure_ (i:=16) (N:=some 54) (v:=?_) (a':=?_) #[T,T,T,T,T,T,T,T,T,T,T,T,T,T,T,T,T,F] rfl rfl (any_of HT_.out kr) (fun _ _ _ h=>h) (Or.inl ⟨by rfl,?_⟩) ?_ ?_
   rotate_left
   {
   intro w'
   go_simp
   with_reducible rfl
   }
   rotate_left
   {
   simp only [Act.put,l1,l2,l3,i64_w,i32_w]
   rfl
   }
   refine pure_ (i:=17) (N:=some 11) (v:=?_) (a':=?_) #[T,T,T,T,T,T,T,T,T,T,T,T,T,T,T,T,T,T] rfl rfl (any_of HT_.out kr) (fun _ _ _ h=>h) (Or.inl ⟨by rfl,?_⟩) ?_ ?_
   rotate_left
   {
   intro w'
   go_simp
   with_reducible rfl
   }
   rotate_left
   {
   simp only [Act.put,l1,l2,l3,i64_w,i32_w]
   rfl
   }
   refine done_ (done_of HT_.out kr) ?_
   try go_wp2
   go_roundg k1
   case measure=>have:=HK1.out;omega
   case rel=>exact⟨((((x11_1++((rd_T52 l0_1 x12_1).f0))++(⟨#[58,32]⟩ : ByteArray))++((rd_T52 l0_1 x12_1).f1))++(⟨#[13,10]⟩ : ByteArray)),(wrap64 (x12_1+1)),rs,rs,H',⟨by have:=HK1.out;omega⟩,⟨kl⟩,⟨bl⟩⟩
   }
   ·exact absurd H (by simp)
   }
   ·exact absurd H (by simp)
   }
   ·exact absurd H (by simp)
   }
   ·exact absurd H (by simp)
   }
   ·exact absurd H (by simp)
   }
   {
   have c21b0:decide (x12_1<(l0_1.length:Int))=false:=decide_eq_false c21
   clear c21
   replace H:=bndO H
   obtain⟨t140,A290,H⟩:=H
   have A29:=Aside0.mk A290
   clear A290
   have HC30:=Aside0.mk H
   clear H
   obtain⟨_,_,_,_,_,_⟩:=bc3 BK134.out
   go_upto_if 58 with(first|((with_reducible refine gate_callee (f:=16) rfl ?_);refine goesL_ (some 57) rfl rfl Tryd.func16 kr rfl #[.int .i64 a0_0] rfl am ?_;(with_reducible refine(stowageref17_Bare.calls a0_0 t140 _ A29.out).mono ?_);rintro e w' ⟨rfl,⟨nd,rfl⟩⟩;refine⟨_,rfl,?_⟩))
   (try simp only [Act.put,l1,l2,l3])
   go_cut [11] (fun v11 wc=>∃ (kq:Nat) (x11_29:ByteArray),v11 = .string x11_29∧Aside0 (stowageref17_Print.j1 kq a1 a4 x11_29 a0_0 l0_1 l0_2=some r)∧Aside0 (kq≤k1)∧Aside0 (wc.heap[gb134]? = some (.cells #[.int .i64 a0_0,(.slice A0_1 l0_1.length c0_1),(.slice A0_2 l0_2.length c0_2)] 27 (0,0)))∧Aside0 (Below w.heap.size w wc))
   case first=>
    have H:=HC30.out
    clear HC30
    by_cases c32:t140=true
    {
    subst c32
    replace H:=itT H
    have H':=Aside0.mk H
    clear H
    go_wp2
    go_meet
    case rel=>exact⟨_,(x11_1),rs,H',⟨by have:=HK1.out;first|omega|exact Nat.le_refl _⟩,⟨kl⟩,⟨bl⟩⟩
    }
    {
    replace c32:=Bool.eq_false_iff.mpr c32
    subst c32
    replace H:=itF H
    replace H:=itO H
    rcases H with⟨c33,H⟩|⟨c33,H⟩
    {
    have c33b0:=eq_true c33
    have c33b1:=decide_eq_true c33
    try have c33b2:=eq_false (Nat.not_lt.2 c33)
    try (have c33n:x11_1.size+16≤9223372036854775807:=by have h_:=c33;simp only [ByteArray.size_append,ByteArray.size_extract] at h_;exact h_)
    try have c33f:(9223372036854775807<x11_1.size+16)=False:=eq_false (by first|omega|(simp only [eq_iff_iff,iff_true] at *;omega))
    replace H:=bndO H
    obtain⟨t141,A340,H⟩:=H
    have A34:=Aside0.mk A340
    clear A340
    replace H:=itO H
    rcases H with⟨c35,H⟩|⟨c35,H⟩
    {
    have c35b0:=eq_true c35
    have c35b1:=decide_eq_true c35
    try have c35b2:=eq_false (Nat.not_lt.2 c35)
    try (have c35n:x11_1.size+16+t141.size≤9223372036854775807:=by have h_:=c35;simp only [ByteArray.size_append,ByteArray.size_extract] at h_;exact h_)
    try have c35f:(9223372036854775807<x11_1.size+16+t141.size)=False:=eq_false (by first|omega|(simp only [eq_iff_iff,iff_true] at *;omega))
    replace H:=itO H
    rcases H with⟨c36,H⟩|⟨c36,H⟩
    {
    have c36b0:=eq_true c36
    have c36b1:=decide_eq_true c36
    try have c36b2:=eq_false (Nat.not_lt.2 c36)
    try (have c36n:x11_1.size+16+t141.size+2≤9223372036854775807:=by have h_:=c36;simp only [ByteArray.size_append,ByteArray.size_extract] at h_;exact h_)
    try have c36f:(9223372036854775807<x11_1.size+16+t141.size+2)=False:=eq_false (by first|omega|(simp only [eq_iff_iff,iff_true] at *;omega))
    have H':=Aside0.mk H
    clear H
    obtain⟨_,_,_,_,_,_⟩:=bc3 BK134.out
    go_wp2_with (first|((with_reducible refine gate_callee (f:=21) rfl ?_);refine goesL_ (some 64) rfl rfl Tryd.func21 kr rfl #[.int .i64 (l0_2.length:Int)] rfl am ?_;(with_reducible refine(stowageref1_Text.calls k1 (l0_2.length:Int) t141 _ A34.out).mono ?_);rintro e w' ⟨rfl,⟨nd,rfl⟩⟩;refine⟨_,rfl,?_⟩))
    go_meet
    case rel=>exact⟨_,(((x11_1++(⟨#[67,111,110,116,101,110,116,45,76,101,110,103,116,104,58,32]⟩ : ByteArray))++t141)++(⟨#[13,10]⟩ : ByteArray)),rs,H',⟨by have:=HK1.out;first|omega|exact Nat.le_refl _⟩,⟨kl⟩,⟨bl⟩⟩
    }
    ·exact absurd H (by simp)
    }
    ·exact absurd H (by simp)
    }
    ·exact absurd H (by simp)
    }
   case rest=>
    clear HC30
    obtain⟨kq,x11_29,rfl,HA,HJ29,BK134,HB⟩:=hcut
    cases kq with
    | zero=>exact absurd HA.out (by simp [stowageref17_Print.j1])
    | succ kj29=>
     have H:=HA.out
     clear HA
     simp only [stowageref17_Print.j1] at H
     by_cases c38:a4=true
     {
     subst c38
     replace H:=itT H
     replace H:=itO H
     rcases H with⟨c39,H⟩|⟨c39,H⟩
     {
     have c39b0:=eq_true c39
     have c39b1:=decide_eq_true c39
     try have c39b2:=eq_false (Nat.not_lt.2 c39)
     try (have c39n:x11_29.size+19≤9223372036854775807:=by have h_:=c39;simp only [ByteArray.size_append,ByteArray.size_extract] at h_;exact h_)
     try have c39f:(9223372036854775807<x11_29.size+19)=False:=eq_false (by first|omega|(simp only [eq_iff_iff,iff_true] at *;omega))
     replace H:=itO H
     rcases H with⟨c40,H⟩|⟨c40,H⟩
     {
     have c40b0:=eq_true c40
     have c40b1:=decide_eq_true c40
     try have c40b2:=eq_false (Nat.not_lt.2 c40)
     try (have c40n:x11_29.size+19+2≤9223372036854775807:=by have h_:=c40;simp only [ByteArray.size_append,ByteArray.size_extract] at h_;exact h_)
     try have c40f:(9223372036854775807<x11_29.size+19+2)=False:=eq_false (by first|omega|(simp only [eq_iff_iff,iff_true] at *;omega))
     replace H:=itO H
     rcases H with⟨c41,H⟩|⟨c41,H⟩
     {
     have c41b0:=eq_true c41
     have c41b1:=decide_eq_true c41
     obtain⟨y142,hy142⟩ : ∃ y_:List Int,y_=(bytesOf ((x11_29++(⟨#[67,111,110,110,101,99,116,105,111,110,58,32,99,108,111,115,101,13,10]⟩ : ByteArray))++(⟨#[13,10]⟩ : ByteArray))):=⟨_,rfl⟩
     replace H:(if a1=true then(some y142) else((stowageref17_Bare.f a0_0).bind fun t145=>(if t145=true then(some y142) else(if y142.length+l0_2.length≤140737488355328 then(some (y142++l0_2)) else(none)))))=some r:=by first|(rw [hy142];with_reducible exact H)|(have H2_:=(Option.bind_some _ _).symm.trans H;rw [hy142];with_reducible exact H2_)|(have H2_:=(Option.bind_some _ _).symm.trans H;with_reducible exact H2_)|with_reducible exact H|(rw [hy142];exact H)|exact H
     have Ny142:=Aside0.mk hy142
     clear hy142
     by_cases c42:a1=true
     {
     subst c42
     replace H:=itT H
     obtain rfl:=Option.some.inj H
     go_wp2_with (first|((with_reducible refine gate_dst (N:=72) rfl ?_);refine Kd.V_bytesM _ 5 rfl (N:=72) rfl 9 23 _ rfl ((x11_29++(⟨#[67,111,110,110,101,99,116,105,111,110,58,32,99,108,111,115,101,13,10]⟩ : ByteArray))++(⟨#[13,10]⟩ : ByteArray)) rfl Tryd.underlying9 Tryd.underlying23 Tryd.underlying5 (ok:=fun k_=>wc.heap.size≤k_) (Nat.le_refl _) (by first|assumption|omega) (Below.refl _ _) (Nat.le_refl _) ?_;intro v143 w43 ho44 hb hg_ hnew_;rw [← Ny142.out] at hnew_;have MKHO144:=Aside0.mk (ByRow.lower hnew_ ((below_size bl)));clear hg_ hnew_;(first|rw [← Ny142.out] at ho44|(simp only [Int.reduceToNat] at ho44;rw [← Ny142.out] at ho44));have HO144:=Aside0.mk (Kd.V_lower (Kd.V_mono (ok':=fun k_=>(w.heap.size≤k_)∧k_≠gb134) ho44 (fun k_ hk_=>⟨(Nat.le_trans (below_size bl) hk_),(Kd.freshB (g:=gb134) (o:=.cells #[.int .i64 a0_0,.slice A0_1 l0_1.length c0_1,.slice A0_2 l0_2.length c0_2] 27 (0,0)) kl k_ hk_)⟩)) (below_size bl));replace BK134:=Aside0.mk (blk_below (g:=gb134) (o:=.cells #[.int .i64 a0_0,.slice A0_1 l0_1.length c0_1,.slice A0_2 l0_2.length c0_2] 27 (0,0)) kl hb);replace HB:=Aside0.mk (below_step bl hb);clear hb ho44))
     go_ret
     exact⟨_,ew,by(with_reducible repeat (first|apply Kd.V_alloc|apply Kd.V_drewN|apply Kd.V_drew));exact Kd.V_mono HO144.out (fun _ hk=>hk.1),bl⟩
     }
     {
     replace c42:=Bool.eq_false_iff.mpr c42
     subst c42
     replace H:=itF H
     replace H:=bndO H
     obtain⟨t145,A450,H⟩:=H
     have A45:=Aside0.mk A450
     clear A450
     by_cases c46:t145=true
     {
     subst c46
     replace H:=itT H
     obtain rfl:=Option.some.inj H
     go_wp2_with (first|((with_reducible refine gate_dst (N:=72) rfl ?_);refine Kd.V_bytesM _ 5 rfl (N:=72) rfl 9 23 _ rfl ((x11_29++(⟨#[67,111,110,110,101,99,116,105,111,110,58,32,99,108,111,115,101,13,10]⟩ : ByteArray))++(⟨#[13,10]⟩ : ByteArray)) rfl Tryd.underlying9 Tryd.underlying23 Tryd.underlying5 (ok:=fun k_=>wc.heap.size≤k_) (Nat.le_refl _) (by first|assumption|omega) (Below.refl _ _) (Nat.le_refl _) ?_;intro v143 w47 ho48 hb hg_ hnew_;rw [← Ny142.out] at hnew_;have MKHO144:=Aside0.mk (ByRow.lower hnew_ ((below_size bl)));clear hg_ hnew_;(first|rw [← Ny142.out] at ho48|(simp only [Int.reduceToNat] at ho48;rw [← Ny142.out] at ho48));have HO144:=Aside0.mk (Kd.V_lower (Kd.V_mono (ok':=fun k_=>(w.heap.size≤k_)∧k_≠gb134) ho48 (fun k_ hk_=>⟨(Nat.le_trans (below_size bl) hk_),(Kd.freshB (g:=gb134) (o:=.cells #[.int .i64 a0_0,.slice A0_1 l0_1.length c0_1,.slice A0_2 l0_2.length c0_2] 27 (0,0)) kl k_ hk_)⟩)) (below_size bl));replace BK134:=Aside0.mk (blk_below (g:=gb134) (o:=.cells #[.int .i64 a0_0,.slice A0_1 l0_1.length c0_1,.slice A0_2 l0_2.length c0_2] 27 (0,0)) kl hb);replace HB:=Aside0.mk (below_step bl hb);clear hb ho48;obtain⟨_,_,_,_,_,_⟩:=bc3 BK134.out)|(go_at_call 16;(with_reducible refine(stowageref17_Bare.calls a0_0 true _ A45.out).mono ?_);rintro e w' ⟨rfl,⟨nd,rfl⟩⟩))
     go_ret
     exact⟨_,ew,by(with_reducible repeat (first|apply Kd.V_alloc|apply Kd.V_drewN|apply Kd.V_drew));exact Kd.V_mono HO144.out (fun _ hk=>hk.1),bl⟩
     }
     {
     replace c46:=Bool.eq_false_iff.mpr c46
     subst c46
     replace H:=itF H
     replace H:=itO H
     rcases H with⟨c50,H⟩|⟨c50,H⟩
     {
     have c50b0:=eq_true c50
     have c50b1:=decide_eq_true c50
     obtain⟨y146,hy146⟩ : ∃ y_:List Int,y_=(y142++l0_2):=⟨_,rfl⟩
     replace H:(some y146)=some r:=by first|(rw [hy146];with_reducible exact H)|(have H2_:=(Option.bind_some _ _).symm.trans H;rw [hy146];with_reducible exact H2_)|(have H2_:=(Option.bind_some _ _).symm.trans H;with_reducible exact H2_)|with_reducible exact H|(rw [hy146];exact H)|exact H
     have Ny146:=Aside0.mk hy146
     clear hy146
     obtain rfl:=Option.some.inj H
     go_wp2_with (first|((with_reducible refine gate_dst (N:=72) rfl ?_);refine Kd.V_bytesM _ 5 rfl (N:=72) rfl 9 23 _ rfl ((x11_29++(⟨#[67,111,110,110,101,99,116,105,111,110,58,32,99,108,111,115,101,13,10]⟩ : ByteArray))++(⟨#[13,10]⟩ : ByteArray)) rfl Tryd.underlying9 Tryd.underlying23 Tryd.underlying5 (ok:=fun k_=>wc.heap.size≤k_) (Nat.le_refl _) (by first|assumption|omega) (Below.refl _ _) (Nat.le_refl _) ?_;intro v143 w51 ho52 hb hg_ hnew_;rw [← Ny142.out] at hnew_;have MKHO144:=Aside0.mk (ByRow.lower hnew_ ((below_size bl)));clear hg_ hnew_;(first|rw [← Ny142.out] at ho52|(simp only [Int.reduceToNat] at ho52;rw [← Ny142.out] at ho52));have HO144:=Aside0.mk (Kd.V_lower (Kd.V_mono (ok':=fun k_=>(w.heap.size≤k_)∧k_≠gb134) ho52 (fun k_ hk_=>⟨(Nat.le_trans (below_size bl) hk_),(Kd.freshB (g:=gb134) (o:=.cells #[.int .i64 a0_0,.slice A0_1 l0_1.length c0_1,.slice A0_2 l0_2.length c0_2] 27 (0,0)) kl k_ hk_)⟩)) (below_size bl));replace BK134:=Aside0.mk (blk_below (g:=gb134) (o:=.cells #[.int .i64 a0_0,.slice A0_1 l0_1.length c0_1,.slice A0_2 l0_2.length c0_2] 27 (0,0)) kl hb);replace HB:=Aside0.mk (below_step bl hb);clear hb ho52;obtain⟨_,_,_,_,_,_⟩:=bc3 BK134.out)|(go_at_call 16;(with_reducible refine(stowageref17_Bare.calls a0_0 false _ A45.out).mono ?_);rintro e w' ⟨rfl,⟨nd,rfl⟩⟩)|((with_reducible refine gate_builtin (b:=.append) (xs:=#[.tmp 80,.tmp 82]) rfl ?_);at_builtin;refine Kd.V_append_mark (w0:=w) w.heap.size rfl (.tmp 80) (.tmp 82) 23 5 rfl Tryd.underlying23 info5 v143 y142 l0_2 _ _ rfl rfl MKHO144.out rfl ?aR (by first|assumption|omega) ?aB ?aS (ok:=fun k_=>w.heap.size≤k_) (fun _ hk=>hk) ?_;(case aR=>repeat (first|exact(Kd.C_below HR0_2.out bl)|(with_reducible refine Kd.C_alloc ?_ _)|(with_reducible refine Kd.C_drewN ?_ _)|(with_reducible refine Kd.C_drew ?_)));(case aB=>exact bl);(case aS=>exact(below_size bl));intro v147 w54 ho55 hb;rw [← Ny146.out] at ho55;have HO148:=Aside0.mk (ho55);replace HB:=Aside0.mk (hb);clear HO144;clear hb ho55))
     go_ret
     exact⟨_,ew,by(with_reducible repeat (first|apply Kd.V_alloc|apply Kd.V_drewN|apply Kd.V_drew));exact HO148.out,bl⟩
     }
     ·exact absurd H (by simp)
     }
     }
     }
     ·exact absurd H (by simp)
     }
     ·exact absurd H (by simp)
     }
     ·exact absurd H (by simp)
     }
     {
     replace c38:=Bool.eq_false_iff.mpr c38
     subst c38
     replace H:=itF H
     replace H:=itO H
     rcases H with⟨c56,H⟩|⟨c56,H⟩
     {
     have c56b0:=eq_true c56
     have c56b1:=decide_eq_true c56
     try have c56b2:=eq_false (Nat.not_lt.2 c56)
     try (have c56n:x11_29.size+2≤9223372036854775807:=by have h_:=c56;simp only [ByteArray.size_append,ByteArray.size_extract] at h_;exact h_)
     try have c56f:(9223372036854775807<x11_29.size+2)=False:=eq_false (by first|omega|(simp only [eq_iff_iff,iff_true] at *;omega))
     replace H:=itO H
     rcases H with⟨c57,H⟩|⟨c57,H⟩
     {
     have c57b0:=eq_true c57
     have c57b1:=decide_eq_true c57
     obtain⟨y149,hy149⟩ : ∃ y_:List Int,y_=(bytesOf (x11_29++(⟨#[13,10]⟩ : ByteArray))):=⟨_,rfl⟩
     replace H:(if a1=true then(some y149) else((stowageref17_Bare.f a0_0).bind fun t152=>(if t152=true then(some y149) else(if y149.length+l0_2.length≤140737488355328 then(some (y149++l0_2)) else(none)))))=some r:=by first|(rw [hy149];with_reducible exact H)|(have H2_:=(Option.bind_some _ _).symm.trans H;rw [hy149];with_reducible exact H2_)|(have H2_:=(Option.bind_some _ _).symm.trans H;with_reducible exact H2_)|with_reducible exact H|(rw [hy149];exact H)|exact H
     have Ny149:=Aside0.mk hy149
     clear hy149
     by_cases c58:a1=true
     {
     subst c58
     replace H:=itT H
     obtain rfl:=Option.some.inj H
     go_wp2_with (first|((with_reducible refine gate_dst (N:=72) rfl ?_);refine Kd.V_bytesM _ 5 rfl (N:=72) rfl 9 23 _ rfl (x11_29++(⟨#[13,10]⟩ : ByteArray)) rfl Tryd.underlying9 Tryd.underlying23 Tryd.underlying5 (ok:=fun k_=>wc.heap.size≤k_) (Nat.le_refl _) (by first|assumption|omega) (Below.refl _ _) (Nat.le_refl _) ?_;intro v150 w59 ho60 hb hg_ hnew_;rw [← Ny149.out] at hnew_;have MKHO151:=Aside0.mk (ByRow.lower hnew_ ((below_size bl)));clear hg_ hnew_;(first|rw [← Ny149.out] at ho60|(simp only [Int.reduceToNat] at ho60;rw [← Ny149.out] at ho60));have HO151:=Aside0.mk (Kd.V_lower (Kd.V_mono (ok':=fun k_=>(w.heap.size≤k_)∧k_≠gb134) ho60 (fun k_ hk_=>⟨(Nat.le_trans (below_size bl) hk_),(Kd.freshB (g:=gb134) (o:=.cells #[.int .i64 a0_0,.slice A0_1 l0_1.length c0_1,.slice A0_2 l0_2.length c0_2] 27 (0,0)) kl k_ hk_)⟩)) (below_size bl));replace BK134:=Aside0.mk (blk_below (g:=gb134) (o:=.cells #[.int .i64 a0_0,.slice A0_1 l0_1.length c0_1,.slice A0_2 l0_2.length c0_2] 27 (0,0)) kl hb);replace HB:=Aside0.mk (below_step bl hb);clear hb ho60))
     go_ret
     exact⟨_,ew,by(with_reducible repeat (first|apply Kd.V_alloc|apply Kd.V_drewN|apply Kd.V_drew));exact Kd.V_mono HO151.out (fun _ hk=>hk.1),bl⟩
     }
     {
     replace c58:=Bool.eq_false_iff.mpr c58
     subst c58
     replace H:=itF H
     replace H:=bndO H
     obtain⟨t152,A610,H⟩:=H
     have A61:=Aside0.mk A610
     clear A610
     by_cases c62:t152=true
     {
     subst c62
     replace H:=itT H
     obtain rfl:=Option.some.inj H
     go_wp2_with (first|((with_reducible refine gate_dst (N:=72) rfl ?_);refine Kd.V_bytesM _ 5 rfl (N:=72) rfl 9 23 _ rfl (x11_29++(⟨#[13,10]⟩ : ByteArray)) rfl Tryd.underlying9 Tryd.underlying23 Tryd.underlying5 (ok:=fun k_=>wc.heap.size≤k_) (Nat.le_refl _) (by first|assumption|omega) (Below.refl _ _) (Nat.le_refl _) ?_;intro v150 w63 ho64 hb hg_ hnew_;rw [← Ny149.out] at hnew_;have MKHO151:=Aside0.mk (ByRow.lower hnew_ ((below_size bl)));clear hg_ hnew_;(first|rw [← Ny149.out] at ho64|(simp only [Int.reduceToNat] at ho64;rw [← Ny149.out] at ho64));have HO151:=Aside0.mk (Kd.V_lower (Kd.V_mono (ok':=fun k_=>(w.heap.size≤k_)∧k_≠gb134) ho64 (fun k_ hk_=>⟨(Nat.le_trans (below_size bl) hk_),(Kd.freshB (g:=gb134) (o:=.cells #[.int .i64 a0_0,.slice A0_1 l0_1.length c0_1,.slice A0_2 l0_2.length c0_2] 27 (0,0)) kl k_ hk_)⟩)) (below_size bl));replace BK134:=Aside0.mk (blk_below (g:=gb134) (o:=.cells #[.int .i64 a0_0,.slice A0_1 l0_1.length c0_1,.slice A0_2 l0_2.length c0_2] 27 (0,0)) kl hb);replace HB:=Aside0.mk (below_step bl hb);clear hb ho64;obtain⟨_,_,_,_,_,_⟩:=bc3 BK134.out)|(go_at_call 16;(with_reducible refine(stowageref17_Bare.calls a0_0 true _ A61.out).mono ?_);rintro e w' ⟨rfl,⟨nd,rfl⟩⟩))
     go_ret
     exact⟨_,ew,by(with_reducible repeat (first|apply Kd.V_alloc|apply Kd.V_drewN|apply Kd.V_drew));exact Kd.V_mono HO151.out (fun _ hk=>hk.1),bl⟩
     }
     {
     replace c62:=Bool.eq_false_iff.mpr c62
     subst c62
     replace H:=itF H
     replace H:=itO H
     rcases H with⟨c66,H⟩|⟨c66,H⟩
     {
     have c66b0:=eq_true c66
     have c66b1:=decide_eq_true c66
     obtain⟨y153,hy153⟩ : ∃ y_:List Int,y_=(y149++l0_2):=⟨_,rfl⟩
     replace H:(some y153)=some r:=by first|(rw [hy153];with_reducible exact H)|(have H2_:=(Option.bind_some _ _).symm.trans H;rw [hy153];with_reducible exact H2_)|(have H2_:=(Option.bind_some _ _).symm.trans H;with_reducible exact H2_)|with_reducible exact H|(rw [hy153];exact H)|exact H
     have Ny153:=Aside0.mk hy153
     clear hy153
     obtain rfl:=Option.some.inj H
     go_wp2_with (first|((with_reducible refine gate_dst (N:=72) rfl ?_);refine Kd.V_bytesM _ 5 rfl (N:=72) rfl 9 23 _ rfl (x11_29++(⟨#[13,10]⟩ : ByteArray)) rfl Tryd.underlying9 Tryd.underlying23 Tryd.underlying5 (ok:=fun k_=>wc.heap.size≤k_) (Nat.le_refl _) (by first|assumption|omega) (Below.refl _ _) (Nat.le_refl _) ?_;intro v150 w67 ho68 hb hg_ hnew_;rw [← Ny149.out] at hnew_;have MKHO151:=Aside0.mk (ByRow.lower hnew_ ((below_size bl)));clear hg_ hnew_;(first|rw [← Ny149.out] at ho68|(simp only [Int.reduceToNat] at ho68;rw [← Ny149.out] at ho68));have HO151:=Aside0.mk (Kd.V_lower (Kd.V_mono (ok':=fun k_=>(w.heap.size≤k_)∧k_≠gb134) ho68 (fun k_ hk_=>⟨(Nat.le_trans (below_size bl) hk_),(Kd.freshB (g:=gb134) (o:=.cells #[.int .i64 a0_0,.slice A0_1 l0_1.length c0_1,.slice A0_2 l0_2.length c0_2] 27 (0,0)) kl k_ hk_)⟩)) (below_size bl));replace BK134:=Aside0.mk (blk_below (g:=gb134) (o:=.cells #[.int .i64 a0_0,.slice A0_1 l0_1.length c0_1,.slice A0_2 l0_2.length c0_2] 27 (0,0)) kl hb);replace HB:=Aside0.mk (below_step bl hb);clear hb ho68;obtain⟨_,_,_,_,_,_⟩:=bc3 BK134.out)|(go_at_call 16;(with_reducible refine(stowageref17_Bare.calls a0_0 false _ A61.out).mono ?_);rintro e w' ⟨rfl,⟨nd,rfl⟩⟩)|((with_reducible refine gate_builtin (b:=.append) (xs:=#[.tmp 80,.tmp 82]) rfl ?_);at_builtin;refine Kd.V_append_mark (w0:=w) w.heap.size rfl (.tmp 80) (.tmp 82) 23 5 rfl Tryd.underlying23 info5 v150 y149 l0_2 _ _ rfl rfl MKHO151.out rfl ?aR (by first|assumption|omega) ?aB ?aS (ok:=fun k_=>w.heap.size≤k_) (fun _ hk=>hk) ?_;(case aR=>repeat (first|exact(Kd.C_below HR0_2.out bl)|(with_reducible refine Kd.C_alloc ?_ _)|(with_reducible refine Kd.C_drewN ?_ _)|(with_reducible refine Kd.C_drew ?_)));(case aB=>exact bl);(case aS=>exact(below_size bl));intro v154 w70 ho71 hb;rw [← Ny153.out] at ho71;have HO155:=Aside0.mk (ho71);replace HB:=Aside0.mk (hb);clear HO151;clear hb ho71))
     go_ret
     exact⟨_,ew,by(with_reducible repeat (first|apply Kd.V_alloc|apply Kd.V_drewN|apply Kd.V_drew));exact HO155.out,bl⟩
     }
     ·exact absurd H (by simp)
     }
     }
     }
     ·exact absurd H (by simp)
     }
     ·exact absurd H (by simp)
     }
   }
 }
 ·exact absurd H (by simp)
 }
 ·exact absurd H (by simp)
 }
 ·exact absurd H (by simp)
 }
 ·exact absurd H (by simp)
 }
 ·exact absurd H (by simp)
 }
 ·exact absurd H (by simp)
 }
 ·exact absurd H (by simp)
 }
 ·exact absurd H (by simp)
def IsS55 (w0 W:World) (g:Nat) (f0:ByteArray) (f1:Int) (f2:Bool):Prop:=W.heap[g]? = some (.cells #[.string f0,.int .i64 f1,.bool f2] 55 (0,0))∧w0.heap.size≤g
theorem IsS55.grown {w0 W:World} {g:Nat} {f0:ByteArray} {f1:Int} {f2:Bool} {W1:World} {row:Option Nat} (h:IsS55 w0 W g f0 f1 f2) (hw:W.grownBy W1 row) (hne:some g≠row):IsS55 w0 W1 g f0 f1 f2:=by
 obtain⟨hb,hg⟩:=h
 exact⟨blk_grown hb hw hne,hg⟩
theorem IsS55.own_neN {w0 W:World} {g:Nat} {f0:ByteArray} {f1:Int} {f2:Bool} {α:Type} {d:Kd α} {e:Nat} {base:Nat} {ok:Nat→Prop} {v:Value} {xs:List α} (h:IsS55 w0 W g f0 f1 f2) (ho:Kd.N d e W base ok v xs) (ht:e≠55):some g≠v.ownBlock:=by
 obtain⟨hb,hg⟩:=h
 exact Kd.N_ne ho hb ht
theorem IsS55.fresh {w0 W:World} {g:Nat} {f0:ByteArray} {f1:Int} {f2:Bool} (h:IsS55 w0 W g f0 f1 f2):∀ k,W.heap.size≤k→k≠g:=by
 obtain⟨hb,hg⟩:=h
 exact Kd.freshB hb
theorem IsS55.kept {w0 W:World} {g:Nat} {f0:ByteArray} {f1:Int} {f2:Bool} {W1:World} {S:Nat→Prop} (h:IsS55 w0 W g f0 f1 f2) (hk:Kept W W1 S) (hne:¬ S g):IsS55 w0 W1 g f0 f1 f2:=by
 obtain⟨hb,hg⟩:=h
 exact⟨blk_kept hb hk hne,hg⟩
theorem IsS55.below {w0 W:World} {g:Nat} {f0:ByteArray} {f1:Int} {f2:Bool} {W1:World} (h:IsS55 w0 W g f0 f1 f2) (hw:Below W.heap.size W W1):IsS55 w0 W1 g f0 f1 f2:=h.grown (grown_of_below hw none) (by simp)
theorem IsS55.alloc {w0 W:World} {g:Nat} {f0:ByteArray} {f1:Int} {f2:Bool} (h:IsS55 w0 W g f0 f1 f2) (o:Obj):IsS55 w0 (W.alloc o) g f0 f1 f2:=h.below (below_alloc (Below.refl _ _) o)
theorem IsS55.drewN {w0 W:World} {g:Nat} {f0:ByteArray} {f1:Int} {f2:Bool} (h:IsS55 w0 W g f0 f1 f2) (m:Nat):IsS55 w0 (W.drewN m) g f0 f1 f2:=h
theorem IsS55.drew {w0 W:World} {g:Nat} {f0:ByteArray} {f1:Int} {f2:Bool} (h:IsS55 w0 W g f0 f1 f2):IsS55 w0 W.drew g f0 f1 f2:=h
theorem IsS55.at_ {w0 W:World} {g:Nat} {f0:ByteArray} {f1:Int} {f2:Bool} {w':World} {m:Nat} (hq:W.drewN m=w') (h:IsS55 w0 W g f0 f1 f2):IsS55 w0 w' g f0 f1 f2:=by subst hq;exact IsS55.drewN h m
theorem IsS55.apart {w0 W:World} {g:Nat} {f0:ByteArray} {f1:Int} {f2:Bool} {α:Type} {d:Kd α} {e:Nat} {base:Nat} {ok:Nat→Prop} {v:Value} {xs:List α} (h:IsS55 w0 W g f0 f1 f2) (ho:d.R e W base ok v xs) (ht:∀ q,q∈e :: d.E→q≠55):d.R e W base (fun k=>ok k∧k≠g) v xs:=by
 obtain⟨hb,hg⟩:=h
 exact Kd.R_types ho hb ht
theorem IsS55.own_ne {w0 W:World} {g:Nat} {f0:ByteArray} {f1:Int} {f2:Bool} {α:Type} {d:Kd α} {e:Nat} {base:Nat} {ok:Nat→Prop} {v:Value} {xs:List α} (h:IsS55 w0 W g f0 f1 f2) (ho:d.R e W base ok v xs) (ht:e≠55):some g≠v.ownBlock:=by
 obtain⟨hb,hg⟩:=h
 exact Kd.R_ne ho hb ht
theorem IsS55.apartQ {w0 W:World} {g:Nat} {f0:ByteArray} {f1:Int} {f2:Bool} {α:Type} {d:Kd α} {e:Nat} {base:Nat} {ok:Nat→Prop} {v:Value} {xs:List α} (h:IsS55 w0 W g f0 f1 f2) (ho:d.Q e W base ok v xs) (ht:∀ q,q∈e :: d.E→q≠55):d.Q e W base (fun k=>ok k∧k≠g) v xs:=by
 obtain⟨hb,hg⟩:=h
 exact Kd.Q_types ho hb ht
theorem IsS55.own_neQ {w0 W:World} {g:Nat} {f0:ByteArray} {f1:Int} {f2:Bool} {α:Type} {d:Kd α} {e:Nat} {base:Nat} {ok:Nat→Prop} {v:Value} {xs:List α} (h:IsS55 w0 W g f0 f1 f2) (ho:d.Q e W base ok v xs) (ht:e≠55):some g≠v.ownBlock:=by
 obtain⟨hb,hg⟩:=h
 exact Kd.Q_ne ho hb ht
theorem IsS55.apartS {w0 W:World} {g:Nat} {f0:ByteArray} {f1:Int} {f2:Bool} {α:Type} {d:Kd α} {e:Nat} {base:Nat} {ok:Nat→Prop} {v:Value} {xs:List α} (h:IsS55 w0 W g f0 f1 f2) (ho:d.S e W base ok v xs) (ht:∀ q,q∈e :: d.E→q≠55):d.S e W base (fun k=>ok k∧k≠g) v xs:=by
 obtain⟨hb,hg⟩:=h
 exact Kd.S_types ho hb ht
theorem IsS55.own_neS {w0 W:World} {g:Nat} {f0:ByteArray} {f1:Int} {f2:Bool} {α:Type} {d:Kd α} {e:Nat} {base:Nat} {ok:Nat→Prop} {v:Value} {xs:List α} (h:IsS55 w0 W g f0 f1 f2) (ho:d.S e W base ok v xs) (ht:e≠55):some g≠v.ownBlock:=by
 obtain⟨hb,hg⟩:=h
 exact Kd.S_ne ho hb ht
theorem IsS55.lt {w0 W:World} {g:Nat} {f0:ByteArray} {f1:Int} {f2:Bool} (h:IsS55 w0 W g f0 f1 f2):g<W.heap.size:=by
 obtain⟨hb,hg⟩:=h
 exact blk_lt hb
theorem IsS55.ge {w0 W:World} {g:Nat} {f0:ByteArray} {f1:Int} {f2:Bool} (h:IsS55 w0 W g f0 f1 f2):w0.heap.size≤g:=by
 obtain⟨hb,hg⟩:=h
 exact hg
theorem IsS55.ne_blk {w0 W:World} {g:Nat} {f0:ByteArray} {f1:Int} {f2:Bool} {a:Nat} {cs:Array Value} {t:TypeId} {fr:Nat×Nat} (h:IsS55 w0 W g f0 f1 f2) (hb2:W.heap[a]? = some (.cells cs t fr)) (ht:t≠55):g≠a:=by
 obtain⟨hb,hg⟩:=h
 rintro rfl
 rw [hb] at hb2
 injection hb2 with hb2
 injection hb2 with _ ht2
 exact ht ht2.symm
theorem IsS55.far {w0 W:World} {g:Nat} {f0:ByteArray} {f1:Int} {f2:Bool} {p:Addr} (h:IsS55 w0 W g f0 f1 f2) (hne:g≠p.block) (u:Value):IsS55 w0 (W.setCell p u) g f0 f1 f2:=by
 obtain⟨hb,hg⟩:=h
 exact⟨blk_far hb hne u,hg⟩
theorem cellS55_0 {W:World} {g:Nat} {f0:ByteArray} {f1:Int} {f2:Bool} (h:W.heap[g]? = some (.cells #[.string f0,.int .i64 f1,.bool f2] 55 (0,0))):W.cell? ⟨g,0,none⟩=some (.string f0):=(blk_cell h 0).trans rfl
theorem IsS55.set_0 {w0 W:World} {g:Nat} {f0:ByteArray} {f1:Int} {f2:Bool} (h:IsS55 w0 W g f0 f1 f2) (x:ByteArray):IsS55 w0 (W.setCell ⟨g,0,none⟩ (.string x)) g x f1 f2:=by
 obtain⟨hb,hg⟩:=h
 exact⟨by simpa using blk_set hb 0 (.string x),hg⟩
theorem cellS55_1 {W:World} {g:Nat} {f0:ByteArray} {f1:Int} {f2:Bool} (h:W.heap[g]? = some (.cells #[.string f0,.int .i64 f1,.bool f2] 55 (0,0))):W.cell? ⟨g,1,none⟩=some (.int .i64 f1):=(blk_cell h 1).trans rfl
theorem IsS55.set_1 {w0 W:World} {g:Nat} {f0:ByteArray} {f1:Int} {f2:Bool} (h:IsS55 w0 W g f0 f1 f2) (x:Int):IsS55 w0 (W.setCell ⟨g,1,none⟩ (.int .i64 x)) g f0 x f2:=by
 obtain⟨hb,hg⟩:=h
 exact⟨by simpa using blk_set hb 1 (.int .i64 x),hg⟩
theorem cellS55_2 {W:World} {g:Nat} {f0:ByteArray} {f1:Int} {f2:Bool} (h:W.heap[g]? = some (.cells #[.string f0,.int .i64 f1,.bool f2] 55 (0,0))):W.cell? ⟨g,2,none⟩=some (.bool f2):=(blk_cell h 2).trans rfl
theorem IsS55.set_2 {w0 W:World} {g:Nat} {f0:ByteArray} {f1:Int} {f2:Bool} (h:IsS55 w0 W g f0 f1 f2) (x:Bool):IsS55 w0 (W.setCell ⟨g,2,none⟩ (.bool x)) g f0 f1 x:=by
 obtain⟨hb,hg⟩:=h
 exact⟨by simpa using blk_set hb 2 (.bool x),hg⟩
theorem IsS55.new (w0 W:World) (f0:ByteArray) (f1:Int) (f2:Bool) (hB:Below w0.heap.size w0 W):IsS55 w0 (W.alloc (.cells #[.string f0,.int .i64 f1,.bool f2] 55)) W.heap.size f0 f1 f2:=⟨by simpa using heap_alloc_new W _,hB.size⟩
theorem isl55 {w0 W:World} {g:Nat} {f0:ByteArray} {f1:Int} {f2:Bool} (h:IsS55 w0 W g f0 f1 f2:=by repeat (first|(with_reducible first|exact Aside0.out (by assumption)|apply IsS55.alloc|apply IsS55.drewN|apply IsS55.drew|apply IsS55.set_0|apply IsS55.set_1|apply IsS55.set_2|refine IsS55.far ?_ (Aside0.out (by assumption)) _)|exact Aside0.out (by assumption))):IsS55 w0 W g f0 f1 f2:=h
def stowageref17_Reader_line.l0:Nat→Int→ByteArray→Int→Bool→Option (ByteArray×ByteArray×Int×Bool)
  | 0,_,_,_,_=>none
  | k+1,x3,x1000,x1001,x1002=>if(wrap64 (x3+1))<(x1000.size:Int) then(if 0≤x3 then(if x3<(x1000.size:Int) then(if(bt x1000 x3)=13 then(if 0≤(wrap64 (x3+1)) then(if(bt x1000 (wrap64 (x3+1)))=10 then(if 0≤x1001 then(if x1001≤x3 then(if x3≤(x1000.size:Int) then(some (x1000.extract (x1001:Int).toNat (x3:Int).toNat,x1000,wrap64 (x3+2),x1002)) else(none)) else(none)) else(none)) else(stowageref17_Reader_line.l0 k (wrap64 (x3+1)) x1000 x1001 x1002)) else(none)) else(stowageref17_Reader_line.l0 k (wrap64 (x3+1)) x1000 x1001 x1002)) else(none)) else(none)) else(some ((⟨#[]⟩ : ByteArray),x1000,x1001,true))
def stowageref17_Reader_line.f (k:Nat) (s0_0:ByteArray) (s0_1:Int) (s0_2:Bool):Option (ByteArray×ByteArray×Int×Bool):=stowageref17_Reader_line.l0 k s0_1 s0_0 s0_1 s0_2
theorem stowageref17_Reader_line.mono_l:∀ k,(∀ y0 y1 y2 y3,LeO (stowageref17_Reader_line.l0 k y0 y1 y2 y3) (stowageref17_Reader_line.l0 (k+1) y0 y1 y2 y3))
  | 0=>fun _ _ _ _ r h=>by simp [stowageref17_Reader_line.l0] at h
  | k+1=>by
    have ih0:=stowageref17_Reader_line.mono_l k
    · intro y0 y1 y2 y3
      unfold stowageref17_Reader_line.l0
      with_reducible repeat' first|exact ih0 _ _ _ _|exact LeO.refl _|exact LeO.none _|refine LeO.ite ?_ ?_|refine LeO.bind ?_ (fun _=>?_)
theorem stowageref17_Reader_line.mono:∀ a0 a1 a2 k,LeO (stowageref17_Reader_line.f k a0 a1 a2) (stowageref17_Reader_line.f (k+1) a0 a1 a2):=by
 intro a0 a1 a2 k
 have ih0:=stowageref17_Reader_line.mono_l k
 unfold stowageref17_Reader_line.f
 with_reducible repeat' first|exact ih0 _ _ _ _|exact LeO.refl _|exact LeO.none _|refine LeO.ite ?_ ?_|refine LeO.bind ?_ (fun _=>?_)
theorem stowageref17_Reader_line.calls (k:Nat) (g:Nat) (s0_0:ByteArray) (s0_1:Int) (s0_2:Bool) (r1:ByteArray) (r2:ByteArray) (r3:Int) (r4:Bool) (w0 w:World) (hI:IsS55 w0 w g s0_0 s0_1 s0_2) (hB:Below w0.heap.size w0 w) (h:stowageref17_Reader_line.f k s0_0 s0_1 s0_2=some (r1,r2,r3,r4)) :
    Calls Tryd.prog 24 #[.pointer (some ⟨g,0,none⟩)] w fun e w'=>e = .returned (.string r1)∧IsS55 w0 w' g r2 r3 r4∧Below w0.heap.size w0 w'∧KeepBut w w' g none:=by
 have HI0:=Aside0.mk hI
 have HK:=Aside0.mk (KeepBut.refl w g none)
 have HL:=Aside0.mk hB.size
 clear hI
 have HW0:=Aside0.mk hB.size
 have HB:=Aside0.mk hB
 clear hB
 unfold stowageref17_Reader_line.f at h
 have H:=h
 clear h
 have H':=Aside0.mk H
 clear H
 obtain⟨HGz2,hgz2⟩:=HI0.out
 have hcz2_0:=cellS55_0 HGz2
 have hcz2_1:=cellS55_1 HGz2
 have hcz2_2:=cellS55_2 HGz2
 have hfz2_0:=blk_frozen HGz2 0
 have hfz2_1:=blk_frozen HGz2 1
 have hfz2_2:=blk_frozen HGz2 2
 clear HGz2 hgz2
 go_enter Tryd.func24,Tryd.ntmps24
 go_wp2
 repeat (go_quiet (fail);try go_wp2)
 go_loopg [3] k (fun kq v3 w'=>∃ (x3_1:Int) (x1001_1:Int),v3 = .int .i64 x3_1∧Aside0 (stowageref17_Reader_line.l0 kq x3_1 s0_0 x1001_1 s0_2=some (r1,r2,r3,r4))∧Aside0 (kq≤k)∧Aside0 (IsS55 w0 w' g s0_0 x1001_1 s0_2)∧Aside0 (KeepBut w w' g none)∧Aside0 (Below w0.heap.size w0 w'))
 case atStart=>exact⟨(s0_1),(s0_1),rs,H',⟨Nat.le_refl _⟩,⟨isl55⟩,⟨kk⟩,⟨by repeat (first|(with_reducible first|exact HB.out|apply below_alloc|apply pw_below_drewN|apply below_drew1|refine below_set ?_ (IsS55.ge HI0.out))|exact HB.out)⟩⟩
 case round=>
  clear H'
  obtain⟨x3_1,x1001_1,rfl,HA,HK1,HI0,HK,HB⟩:=hrel
  cases gk with
  | zero=>exact absurd HA.out (by simp [stowageref17_Reader_line.l0])
  | succ k1=>
   have H:=HA.out
   clear HA
   simp only [stowageref17_Reader_line.l0] at H
   replace H:=itO H
   rcases H with⟨c3,H⟩|⟨c3,H⟩
   {
   have c3b0:decide ((wrap64 (x3_1+1))<(s0_0.size:Int))=true:=decide_eq_true c3
   clear c3
   replace H:=itO H
   rcases H with⟨c4,H⟩|⟨c4,H⟩
   {
   have c4b0:decide (0≤x3_1)=true:=decide_eq_true c4
   clear c4
   replace H:=itO H
   rcases H with⟨c5,H⟩|⟨c5,H⟩
   {
   have c5b0:decide (x3_1<(s0_0.size:Int))=true:=decide_eq_true c5
   clear c5
   replace H:=itO H
   rcases H with⟨c7,H⟩|⟨c7,H⟩
   {
   have c7b0:((bt s0_0 x3_1) == 13)=true:=beq_iff_eq.mpr c7
   clear c7
   obtain⟨ji8,hji8⟩ : ∃ j_:Int,(wrap64 (x3_1+1))=j_:=⟨_,rfl⟩
   first|rw [hji8] at H|simp only [hji8] at H
   (try rw [hji8] at c3b0)
   have hji8w:(IntKind.i64.wrap (x3_1+1))=ji8:=(i64_w _).trans hji8
   replace H:=itO H
   rcases H with⟨c9,H⟩|⟨c9,H⟩
   {
   have c9b0:decide (0≤(ji8))=true:=decide_eq_true c9
   clear c9
   replace H:=itO H
   rcases H with⟨c11,H⟩|⟨c11,H⟩
   {
   have c11b0:((bt s0_0 (ji8)) == 10)=true:=beq_iff_eq.mpr c11
   clear c11
   replace H:=itO H
   rcases H with⟨c12,H⟩|⟨c12,H⟩
   {
   have c12b0:=eq_true c12
   clear c12
   replace H:=itO H
   rcases H with⟨c13,H⟩|⟨c13,H⟩
   {
   have c13b0:=eq_true c13
   clear c13
   replace H:=itO H
   rcases H with⟨c14,H⟩|⟨c14,H⟩
   {
   have c14b0:=eq_true c14
   clear c14
   simp only [Option.some.injEq,Prod.mk.injEq] at H
   obtain⟨rfl,rfl,rfl,rfl⟩:=H
   obtain⟨HGz15,hgz15⟩:=HI0.out
   have hcz15_0:=cellS55_0 HGz15
   have hcz15_1:=cellS55_1 HGz15
   have hcz15_2:=cellS55_2 HGz15
   have hfz15_0:=blk_frozen HGz15 0
   have hfz15_1:=blk_frozen HGz15 1
   have hfz15_2:=blk_frozen HGz15 2
   clear HGz15 hgz15
   have p6:0≤(x3_1:Int):=of_decide_eq_true asm
   have q6:x3_1<(s0_0.size:Int):=of_decide_eq_true asm
   have hx6:=bt_at s0_0 x3_1
   replace p6:=eq_true p6
   replace q6:=eq_true q6
   have p10:0≤((ji8):Int):=of_decide_eq_true asm
   have q10:(ji8)<(s0_0.size:Int):=of_decide_eq_true asm
   have hx10:=bt_at s0_0 (ji8)
   replace p10:=eq_true p10
   replace q10:=eq_true q10
   go_wp2
   repeat (go_quiet (fail);try go_wp2)
   go_ret
   exact⟨by first|rfl|(simp [errW_none,errW_some] <;> rfl)|(simp only [← hji8];first|rfl|(simp [errW_none,errW_some] <;> rfl))|(simp [*,errW_none,errW_some] <;> rfl),isl55,by repeat (first|(with_reducible first|exact HB.out|apply below_alloc|apply pw_below_drewN|apply below_drew1|refine below_set ?_ (IsS55.ge HI0.out))|exact HB.out),kk⟩
   }
   ·exact absurd H (by simp)
   }
   ·exact absurd H (by simp)
   }
   ·exact absurd H (by simp)
   }
   {
   have c11b0:((bt s0_0 (ji8)) == 10)=false:=beq_eq_false_iff_ne.mpr c11
   have H':=Aside0.mk H
   clear H
   obtain⟨HGz16,hgz16⟩:=HI0.out
   have hcz16_0:=cellS55_0 HGz16
   have hcz16_1:=cellS55_1 HGz16
   have hcz16_2:=cellS55_2 HGz16
   have hfz16_0:=blk_frozen HGz16 0
   have hfz16_1:=blk_frozen HGz16 1
   have hfz16_2:=blk_frozen HGz16 2
   clear HGz16 hgz16
   have p6:0≤(x3_1:Int):=of_decide_eq_true asm
   have q6:x3_1<(s0_0.size:Int):=of_decide_eq_true asm
   have hx6:=bt_at s0_0 x3_1
   replace p6:=eq_true p6
   replace q6:=eq_true q6
   have p10:0≤((ji8):Int):=of_decide_eq_true asm
   have q10:(ji8)<(s0_0.size:Int):=of_decide_eq_true asm
   have hx10:=bt_at s0_0 (ji8)
   replace p10:=eq_true p10
   replace q10:=eq_true q10
   go_wp2
   repeat (go_quiet (fail);try go_wp2)
   go_roundg k1
   case measure=>have:=HK1.out;omega
   case rel=>exact⟨(ji8),(x1001_1),(by first|rfl|(simp;done)|(simp only [← hji8] <;> (first|rfl|simp))|(simp [*];done)),H',⟨by have:=HK1.out;omega⟩,⟨isl55⟩,⟨kk⟩,⟨by repeat (first|(with_reducible first|exact HB.out|apply below_alloc|apply pw_below_drewN|apply below_drew1|refine below_set ?_ (IsS55.ge HI0.out))|exact HB.out)⟩⟩
   }
   }
   ·exact absurd H (by simp)
   }
   {
   have c7b0:((bt s0_0 x3_1) == 13)=false:=beq_eq_false_iff_ne.mpr c7
   have H':=Aside0.mk H
   clear H
   obtain⟨HGz17,hgz17⟩:=HI0.out
   have hcz17_0:=cellS55_0 HGz17
   have hcz17_1:=cellS55_1 HGz17
   have hcz17_2:=cellS55_2 HGz17
   have hfz17_0:=blk_frozen HGz17 0
   have hfz17_1:=blk_frozen HGz17 1
   have hfz17_2:=blk_frozen HGz17 2
   clear HGz17 hgz17
   have p6:0≤(x3_1:Int):=of_decide_eq_true asm
   have q6:x3_1<(s0_0.size:Int):=of_decide_eq_true asm
   have hx6:=bt_at s0_0 x3_1
   replace p6:=eq_true p6
   replace q6:=eq_true q6
   go_wp2
   repeat (go_quiet (fail);try go_wp2)
   go_roundg k1
   case measure=>have:=HK1.out;omega
   case rel=>exact⟨(wrap64 (x3_1+1)),(x1001_1),rs,H',⟨by have:=HK1.out;omega⟩,⟨isl55⟩,⟨kk⟩,⟨by repeat (first|(with_reducible first|exact HB.out|apply below_alloc|apply pw_below_drewN|apply below_drew1|refine below_set ?_ (IsS55.ge HI0.out))|exact HB.out)⟩⟩
   }
   }
   ·exact absurd H (by simp)
   }
   ·exact absurd H (by simp)
   }
   {
   have c3b0:decide ((wrap64 (x3_1+1))<(s0_0.size:Int))=false:=decide_eq_false c3
   clear c3
   simp only [Option.some.injEq,Prod.mk.injEq] at H
   obtain⟨rfl,rfl,rfl,rfl⟩:=H
   obtain⟨HGz18,hgz18⟩:=HI0.out
   have hcz18_0:=cellS55_0 HGz18
   have hcz18_1:=cellS55_1 HGz18
   have hcz18_2:=cellS55_2 HGz18
   have hfz18_0:=blk_frozen HGz18 0
   have hfz18_1:=blk_frozen HGz18 1
   have hfz18_2:=blk_frozen HGz18 2
   clear HGz18 hgz18
   go_wp2
   repeat (go_quiet (fail);try go_wp2)
   go_ret
   exact⟨ew,isl55,by repeat (first|(with_reducible first|exact HB.out|apply below_alloc|apply pw_below_drewN|apply below_drew1|refine below_set ?_ (IsS55.ge HI0.out))|exact HB.out),kk⟩
   }
mutual
def stowageref1_Int.j0:Nat→ByteArray→Bool→Option (Int×Bool)
  | 0,_,_=>none
  | k+1,x0,x23=>if x23=true then(some (0,false)) else(stowageref1_Int.l0 k x0 0 0)
def stowageref1_Int.l0:Nat→ByteArray→Int→Int→Option (Int×Bool)
  | 0,_,_,_=>none
  | k+1,x0,x4,x5=>if x5<(x0.size:Int) then(if 0≤x5 then(if(bt x0 x5)<48 then(some (0,false)) else(if(bt x0 x5)>57 then(some (0,false)) else(stowageref1_Int.l0 k x0 (wrap64 ((wrap64 (10*x4))+(((bt x0 x5)-48) % 256))) (wrap64 (x5+1))))) else(none)) else(some (x4,true))
end
def stowageref1_Int.f (k:Nat) (a0:ByteArray):Option (Int×Bool):=if(a0.size:Int)=0 then(stowageref1_Int.j0 k a0 true) else(if(a0.size:Int)>18 then(stowageref1_Int.j0 k a0 true) else(if 0<(a0.size:Int) then(if(bt a0 0)=48 then(stowageref1_Int.j0 k a0 (decide ((a0.size:Int)>1))) else(stowageref1_Int.j0 k a0 false)) else(none)))
theorem stowageref1_Int.mono_l:∀ k,(∀ y0 y1,LeO (stowageref1_Int.j0 k y0 y1) (stowageref1_Int.j0 (k+1) y0 y1))∧(∀ y0 y1 y2,LeO (stowageref1_Int.l0 k y0 y1 y2) (stowageref1_Int.l0 (k+1) y0 y1 y2))
  | 0=>⟨fun _ _ r h=>by simp [stowageref1_Int.j0] at h,fun _ _ _ r h=>by simp [stowageref1_Int.l0] at h⟩
  | k+1=>by
    obtain⟨ih0,ih1⟩:=stowageref1_Int.mono_l k
    refine⟨?_,?_⟩
    · intro y0 y1
      unfold stowageref1_Int.j0
      with_reducible repeat' first|exact ih0 _ _|exact ih1 _ _ _|exact LeO.refl _|exact LeO.none _|refine LeO.ite ?_ ?_|refine LeO.bind ?_ (fun _=>?_)
    · intro y0 y1 y2
      unfold stowageref1_Int.l0
      with_reducible repeat' first|exact ih0 _ _|exact ih1 _ _ _|exact LeO.refl _|exact LeO.none _|refine LeO.ite ?_ ?_|refine LeO.bind ?_ (fun _=>?_)
theorem stowageref1_Int.mono:∀ a0 k,LeO (stowageref1_Int.f k a0) (stowageref1_Int.f (k+1) a0):=by
 intro a0 k
 obtain⟨ih0,ih1⟩:=stowageref1_Int.mono_l k
 unfold stowageref1_Int.f
 with_reducible repeat' first|exact ih0 _ _|exact ih1 _ _ _|exact LeO.refl _|exact LeO.none _|refine LeO.ite ?_ ?_|refine LeO.bind ?_ (fun _=>?_)
theorem stowageref1_Int.calls (k:Nat) (a0:ByteArray) (r1:Int) (r2:Bool) (w:World) (h:stowageref1_Int.f k a0=some (r1,r2)) :
    Calls Tryd.prog 26 #[.string a0] w fun e w'=>e = .returned (.tuple #[.int .i64 r1,.bool r2])∧Drawn0 w w':=by
 unfold stowageref1_Int.f at h
 have H:=h
 clear h
 have HC2:=Aside0.mk H
 clear H
 go_enter Tryd.func26,Tryd.ntmps26
 go_upto_region 1 with(fail)
 go_cut [23] (fun v23 wc=>∃ (kq:Nat) (x23_1:Bool),v23 = .bool x23_1∧Aside0 (stowageref1_Int.j0 kq a0 x23_1=some (r1,r2))∧Aside0 (kq≤k)∧Drawn0 w wc)
 case first=>
  have H:=HC2.out
  clear HC2
  replace H:=itO H
  rcases H with⟨c3,H⟩|⟨c3,H⟩
  {
  have c3b0:((a0.size:Int) == 0)=true:=beq_iff_eq.mpr c3
  clear c3
  (first|rw [c3b0]|(simp only [i64_w,i32_w];rw [c3b0])|skip)
  have H':=Aside0.mk H
  clear H
  go_wp2
  go_meet
  case rel=>exact⟨_,(true),rs,H',⟨by first|omega|exact Nat.le_refl _⟩,by repeat (first|exact Drawn0.refl _|apply Drawn0.step)⟩
  }
  {
  have c3b0:((a0.size:Int) == 0)=false:=beq_eq_false_iff_ne.mpr c3
  (first|rw [c3b0]|(simp only [i64_w,i32_w];rw [c3b0])|skip)
  replace H:=itO H
  rcases H with⟨c4,H⟩|⟨c4,H⟩
  {
  have c4b0:decide (18<(a0.size:Int))=true:=decide_eq_true c4
  clear c4
  have H':=Aside0.mk H
  clear H
  go_wp2
  go_meet
  case rel=>exact⟨_,(true),rs,H',⟨by first|omega|exact Nat.le_refl _⟩,by repeat (first|exact Drawn0.refl _|apply Drawn0.step)⟩
  }
  {
  have c4b0:decide (18<(a0.size:Int))=false:=decide_eq_false c4
  clear c4
  replace H:=itO H
  rcases H with⟨c5,H⟩|⟨c5,H⟩
  {
  have c5b0:decide (0<(a0.size:Int))=true:=decide_eq_true c5
  clear c5
  replace H:=itO H
  rcases H with⟨c7,H⟩|⟨c7,H⟩
  {
  have c7b0:((bt a0 0) == 48)=true:=beq_iff_eq.mpr c7
  clear c7
  have H':=Aside0.mk H
  clear H
  have p6:0≤(0:Int):=(by omega)
  have q6:0<a0.size:=(by have:(0:Int)<(a0.size:Int):=of_decide_eq_true asm;omega)
  have hx6:∀ h:0<a0.size,((a0[0]'h).toNat:Int)=bt a0 0:=bt_at a0 0
  clear p6
  have qi6:(0<(a0.size:Int))=True:=eq_true (of_decide_eq_true asm)
  replace q6:=eq_true q6
  go_wp2
  go_meet
  case rel=>exact⟨_,(decide ((a0.size:Int)>1)),rs,H',⟨by first|omega|exact Nat.le_refl _⟩,by repeat (first|exact Drawn0.refl _|apply Drawn0.step)⟩
  }
  {
  have c7b0:((bt a0 0) == 48)=false:=beq_eq_false_iff_ne.mpr c7
  have H':=Aside0.mk H
  clear H
  have p6:0≤(0:Int):=(by omega)
  have q6:0<a0.size:=(by have:(0:Int)<(a0.size:Int):=of_decide_eq_true asm;omega)
  have hx6:∀ h:0<a0.size,((a0[0]'h).toNat:Int)=bt a0 0:=bt_at a0 0
  clear p6
  have qi6:(0<(a0.size:Int))=True:=eq_true (of_decide_eq_true asm)
  replace q6:=eq_true q6
  go_wp2
  go_meet
  case rel=>exact⟨_,(false),rs,H',⟨by first|omega|exact Nat.le_refl _⟩,by repeat (first|exact Drawn0.refl _|apply Drawn0.step)⟩
  }
  }
  ·exact absurd H (by simp)
  }
  }
 case rest=>
  clear HC2
  obtain⟨kq,x23_1,rfl,HA,HJ1,⟨mc1,rfl⟩⟩:=hcut
  cases kq with
  | zero=>exact absurd HA.out (by simp [stowageref1_Int.j0])
  | succ kj1=>
   have H:=HA.out
   clear HA
   simp only [stowageref1_Int.j0] at H
   by_cases c8:x23_1=true
   {
   subst c8
   replace H:=itT H
   simp only [Option.some.injEq,Prod.mk.injEq] at H
   obtain⟨rfl,rfl⟩:=H
   go_wp2
   go_ret2
   exact⟨rs,dr⟩
   }
   {
   replace c8:=Bool.eq_false_iff.mpr c8
   subst c8
   replace H:=itF H
   have H':=Aside0.mk H
   clear H
   go_wp2
   go_loopg [4,5] kj1 (fun kq v4 v5 w'=>∃ (x4_2:Int) (x5_2:Int),v4 = .int .i64 x4_2∧v5 = .int .i64 x5_2∧Aside0 (stowageref1_Int.l0 kq a0 x4_2 x5_2=some (r1,r2))∧Aside0 (kq≤kj1)∧Drawn0 w w')
   case atStart=>exact⟨(0),(0),rs,rs,H',⟨Nat.le_refl _⟩,by repeat (first|exact Drawn0.refl _|apply Drawn0.step)⟩
   case round=>
    clear H'
    obtain⟨x4_2,x5_2,rfl,rfl,HA,HK2,⟨m2,rfl⟩⟩:=hrel
    cases gk with
    | zero=>exact absurd HA.out (by simp [stowageref1_Int.l0])
    | succ k2=>
     have H:=HA.out
     clear HA
     simp only [stowageref1_Int.l0] at H
     replace H:=itO H
     rcases H with⟨c9,H⟩|⟨c9,H⟩
     {
     have c9b0:decide (x5_2<(a0.size:Int))=true:=decide_eq_true c9
     clear c9
     replace H:=itO H
     rcases H with⟨c10,H⟩|⟨c10,H⟩
     {
     have c10b0:decide (0≤x5_2)=true:=decide_eq_true c10
     clear c10
     replace H:=itO H
     rcases H with⟨c12,H⟩|⟨c12,H⟩
     {
     have c12b0:decide ((bt a0 x5_2)<48)=true:=decide_eq_true c12
     clear c12
     simp only [Option.some.injEq,Prod.mk.injEq] at H
     obtain⟨rfl,rfl⟩:=H
     have p11:0≤(x5_2:Int):=of_decide_eq_true asm
     have q11:x5_2<(a0.size:Int):=of_decide_eq_true asm
     have hx11:=bt_at a0 x5_2
     replace p11:=eq_true p11
     replace q11:=eq_true q11
     go_wp2
     go_ret2
     exact⟨rs,dr⟩
     }
     {
     have c12b0:decide ((bt a0 x5_2)<48)=false:=decide_eq_false c12
     clear c12
     replace H:=itO H
     rcases H with⟨c14,H⟩|⟨c14,H⟩
     {
     have c14b0:decide (57<(bt a0 x5_2))=true:=decide_eq_true c14
     clear c14
     simp only [Option.some.injEq,Prod.mk.injEq] at H
     obtain⟨rfl,rfl⟩:=H
     have p11:0≤(x5_2:Int):=of_decide_eq_true asm
     have q11:x5_2<(a0.size:Int):=of_decide_eq_true asm
     have hx11:=bt_at a0 x5_2
     replace p11:=eq_true p11
     replace q11:=eq_true q11
     have p13:0≤(x5_2:Int):=of_decide_eq_true asm
     have q13:x5_2<(a0.size:Int):=of_decide_eq_true asm
     have hx13:=bt_at a0 x5_2
     replace p13:=eq_true p13
     replace q13:=eq_true q13
     go_wp2
     go_ret2
     exact⟨rs,dr⟩
     }
     {
     have c14b0:decide (57<(bt a0 x5_2))=false:=decide_eq_false c14
     clear c14
     have H':=Aside0.mk H
     clear H
     have p11:0≤(x5_2:Int):=of_decide_eq_true asm
     have q11:x5_2<(a0.size:Int):=of_decide_eq_true asm
     have hx11:=bt_at a0 x5_2
     replace p11:=eq_true p11
     replace q11:=eq_true q11
     have p13:0≤(x5_2:Int):=of_decide_eq_true asm
     have q13:x5_2<(a0.size:Int):=of_decide_eq_true asm
     have hx13:=bt_at a0 x5_2
     replace p13:=eq_true p13
     replace q13:=eq_true q13
     have p15:0≤(x5_2:Int):=of_decide_eq_true asm
     have q15:x5_2<(a0.size:Int):=of_decide_eq_true asm
     have hx15:=bt_at a0 x5_2
     replace p15:=eq_true p15
     replace q15:=eq_true q15
     go_wp2
     go_roundg k2
     case measure=>have:=HJ1.out;have:=HK2.out;omega
     case rel=>exact⟨(wrap64 ((wrap64 (10*x4_2))+(((bt a0 x5_2)-48) % 256))),(wrap64 (x5_2+1)),rs,rs,H',⟨by have:=HJ1.out;have:=HK2.out;omega⟩,by repeat (first|exact Drawn0.refl _|apply Drawn0.step)⟩
     }
     }
     }
     ·exact absurd H (by simp)
     }
     {
     have c9b0:decide (x5_2<(a0.size:Int))=false:=decide_eq_false c9
     clear c9
     simp only [Option.some.injEq,Prod.mk.injEq] at H
     obtain⟨rfl,rfl⟩:=H
     go_wp2
     go_ret2
     exact⟨rs,dr⟩
     }
   }
def stowageref17_status.j0:Nat→ByteArray→Bool→Option (Int)
  | 0,_,_=>none
  | k+1,x0,x17=>if x17=true then(some 0) else(if 9≤12 then(if 12≤(x0.size:Int) then((stowageref1_Int.f k (x0.extract 9 12)).bind fun bt156=>(if bt156.2=true then(if bt156.1<100 then(some 0) else(if 13≤(x0.size:Int) then((stowageref17_Phrase.f k bt156.1).bind fun t158=>(if(x0.extract 13 x0.size).toList=t158.toList then(some bt156.1) else(some 0))) else(none))) else(some 0))) else(none)) else(none))
def stowageref17_status.f (k:Nat) (a0:ByteArray):Option (Int):=if(a0.size:Int)<13 then(stowageref17_status.j0 k a0 true) else(if 0≤9 then(if 9≤(a0.size:Int) then(if(a0.extract 0 9).toList=([72,84,84,80,47,49,46,49,32]:List UInt8) then(if 12<(a0.size:Int) then(stowageref17_status.j0 k a0 ((bt a0 12) != 32)) else(none)) else(stowageref17_status.j0 k a0 true)) else(none)) else(none))
theorem stowageref17_status.mono_l:∀ k,(∀ y0 y1,LeO (stowageref17_status.j0 k y0 y1) (stowageref17_status.j0 (k+1) y0 y1))
  | 0=>fun _ _ r h=>by simp [stowageref17_status.j0] at h
  | k+1=>by
    have ih0:=stowageref17_status.mono_l k
    · intro y0 y1
      unfold stowageref17_status.j0
      with_reducible repeat' first|exact ih0 _ _|exact stowageref17_Phrase.mono _ _|exact stowageref1_Int.mono _ _|exact LeO.refl _|exact LeO.none _|refine LeO.ite ?_ ?_|refine LeO.bind ?_ (fun _=>?_)
theorem stowageref17_status.mono:∀ a0 k,LeO (stowageref17_status.f k a0) (stowageref17_status.f (k+1) a0):=by
 intro a0 k
 have ih0:=stowageref17_status.mono_l k
 unfold stowageref17_status.f
 with_reducible repeat' first|exact ih0 _ _|exact stowageref17_Phrase.mono _ _|exact stowageref1_Int.mono _ _|exact LeO.refl _|exact LeO.none _|refine LeO.ite ?_ ?_|refine LeO.bind ?_ (fun _=>?_)
def stowageref17_status.T4:Bool×List (List Nat×List Nat):=(true,[([],[]),([0],[0]),([1],[1]),([2],[2]),([3,2],[2,3]),([2,4],[2,4]),([5,2],[5]),([6],[6]),([7,6],[6,7]),([6],[6]),([9,6,6],[6,9]),([8,10,6],[6,8,10]),([6,11],[6,11])])
def stowageref17_status.B4:List Nat:=[0,1,3,7,15,31,63,127,255,127,639,2047,4095]
theorem stowageref17_status.tab4:rtab .any (opsOf Tryd.f40 4)=stowageref17_status.T4:=by kernel_rfl
theorem stowageref17_status.bits4:waitsOk stowageref17_status.T4.2 stowageref17_status.B4=true:=by kernel_rfl
theorem stowageref17_status.calls (k:Nat) (a0:ByteArray) (r:Int) (w:World) (h:stowageref17_status.f k a0=some r) :
    Calls Tryd.prog 40 #[.string a0] w fun e w'=>e = .returned (.int .i64 r)∧Below w.heap.size w w':=by
 have HB:=Aside0.mk (Below.refl w.heap.size w)
 unfold stowageref17_status.f at h
 have H:=h
 clear h
 have HC2:=Aside0.mk H
 clear H
 go_enter Tryd.func40,Tryd.ntmps40
 go_upto_region 1 with(fail)
 go_cut [17] (fun v17 wc=>∃ (kq:Nat) (x17_1:Bool),v17 = .bool x17_1∧Aside0 (stowageref17_status.j0 kq a0 x17_1=some r)∧Aside0 (kq≤k)∧Aside0 (Below w.heap.size w wc))
 case first=>
  have H:=HC2.out
  clear HC2
  replace H:=itO H
  rcases H with⟨c3,H⟩|⟨c3,H⟩
  {
  have c3b0:decide ((a0.size:Int)<13)=true:=decide_eq_true c3
  clear c3
  (first|rw [c3b0]|(simp only [i64_w,i32_w];rw [c3b0])|skip)
  have H':=Aside0.mk H
  clear H
  go_wp2
  go_meet
  case rel=>exact⟨_,(true),rs,H',⟨by first|omega|exact Nat.le_refl _⟩,⟨bl⟩⟩
  }
  {
  have c3b0:decide ((a0.size:Int)<13)=false:=decide_eq_false c3
  clear c3
  (first|rw [c3b0]|(simp only [i64_w,i32_w];rw [c3b0])|skip)
  replace H:=itO H
  rcases H with⟨c4,H⟩|⟨c4,H⟩
  {
  have c4b0:=eq_true c4
  clear c4
  replace H:=itO H
  rcases H with⟨c5,H⟩|⟨c5,H⟩
  {
  have c5b0:=eq_true c5
  clear c5
  replace H:=itO H
  rcases H with⟨c6,H⟩|⟨c6,H⟩
  {
  have c6b0:((a0.extract 0 9).toList == ([72,84,84,80,47,49,46,49,32]:List UInt8))=true:=beq_iff_eq.mpr c6
  clear c6
  replace H:=itO H
  rcases H with⟨c7,H⟩|⟨c7,H⟩
  {
  have c7b0:decide (12<(a0.size:Int))=true:=decide_eq_true c7
  clear c7
  have H':=Aside0.mk H
  clear H
  have p8:0≤(12:Int):=(by omega)
  have q8:12<a0.size:=(by have:(12:Int)<(a0.size:Int):=of_decide_eq_true asm;omega)
  have hx8:∀ h:12<a0.size,((a0[12]'h).toNat:Int)=bt a0 12:=bt_at a0 12
  clear p8
  have qi8:(12<(a0.size:Int))=True:=eq_true (of_decide_eq_true asm)
  replace q8:=eq_true q8
  go_wp2
  go_meet
  case rel=>exact⟨_,(((bt a0 12) != 32)),rs,H',⟨by first|omega|exact Nat.le_refl _⟩,⟨bl⟩⟩
  }
  ·exact absurd H (by simp)
  }
  {
  have c6b0:((a0.extract 0 9).toList == ([72,84,84,80,47,49,46,49,32]:List UInt8))=false:=beq_eq_false_iff_ne.mpr c6
  have H':=Aside0.mk H
  clear H
  go_wp2
  go_meet
  case rel=>exact⟨_,(true),rs,H',⟨by first|omega|exact Nat.le_refl _⟩,⟨bl⟩⟩
  }
  }
  ·exact absurd H (by simp)
  }
  ·exact absurd H (by simp)
  }
 case rest=>
  clear HC2
  obtain⟨kq,x17_1,rfl,HA,HJ1,HB⟩:=hcut
  cases kq with
  | zero=>exact absurd HA.out (by simp [stowageref17_status.j0])
  | succ kj1=>
   have H:=HA.out
   clear HA
   simp only [stowageref17_status.j0] at H
   by_cases c9:x17_1=true
   {
   subst c9
   replace H:=itT H
   obtain rfl:=Option.some.inj H
   go_wp2
   go_ret
   exact⟨ew,bl⟩
   }
   {
   replace c9:=Bool.eq_false_iff.mpr c9
   subst c9
   replace H:=itF H
   replace H:=itO H
   rcases H with⟨c10,H⟩|⟨c10,H⟩
   {
   have c10b0:=eq_true c10
   clear c10
   replace H:=itO H
   rcases H with⟨c11,H⟩|⟨c11,H⟩
   {
   have c11b0:=eq_true c11
   clear c11
   replace H:=bndO H
   obtain⟨⟨t156,t157⟩,A120,H⟩:=H
   dsimp only at H
   have A12:=Aside0.mk A120
   clear A120
   by_cases c13:t157=true
   {
   subst c13
   replace H:=itT H
   replace H:=itO H
   rcases H with⟨c14,H⟩|⟨c14,H⟩
   {
   have c14b0:decide (t156<100)=true:=decide_eq_true c14
   clear c14
   obtain rfl:=Option.some.inj H
   try go_wp2_with (first|((with_reducible refine gate_callee (f:=26) rfl ?_);refine goesL_ (some 21) rfl rfl Tryd.func26 kr rfl #[.string (a0.extract 9 12)] rfl am ?_;(with_reducible refine(stowageref1_Int.calls kj1 (a0.extract 9 12) t156 true _ A12.out).mono ?_);rintro e w' ⟨rfl,⟨nd,rfl⟩⟩;refine⟨_,rfl,?_⟩))
   (try (rw [drewN_self wc];generalize hq_:World.drewN wc _=wc;have n0_:Aside0 (Below w.heap.size w wc):=⟨by rw [← hq_];exact bl⟩;clear HB hq_;have HB:=n0_;clear n0_))
   have n0_:=Aside0.mk (below_drew1 HB.out)
   clear HB
   have HB:=n0_
   clear n0_
   refine start_ (n:=13) (S:=fun w'=>True) (ds:=[]) #[F,F,F,F,F,F,F,F,F,F,F,F,F] kr rfl rfl trivial (fun hHeld=>?_);refine with_tabW stowageref17_status.tab4 stowageref17_status.bits4 (fun HT_ HW_=>?_)
   generalize wc.drew=w15 at HB hHeld ⊢
   refine pure_ (i:=0) (N:=some 24) (v:=?_) (a':=?_) #[T,F,F,F,F,F,F,F,F,F,F,F,F] rfl rfl (any_of HT_.out kr) (fun _ _ _ h=>h) (Or.inl ⟨by rfl,?_⟩) ?_ ?_
   rotate_left
   {
   intro w'
   go_simp
   with_reducible rfl
   }
   rotate_left
   {
   simp only [Act.put,l1,l2,l3,i64_w,i32_w]
   rfl
   }
   refine pure_ (i:=1) (N:=some 25) (v:=?_) (a':=?_) #[T,T,F,F,F,F,F,F,F,F,F,F,F] rfl rfl (any_of HT_.out kr) (fun _ _ _ h=>h) (Or.inl ⟨by rfl,?_⟩) ?_ ?_
   rotate_left
   {
   intro w'
   go_simp
   with_reducible rfl
   }
   rotate_left
   {
   simp only [Act.put,l1,l2,l3,i64_w,i32_w]
   rfl
   }
   refine pure_ (i:=2) (N:=some 26) (v:=?_) (a':=?_) #[T,T,T,F,F,F,F,F,F,F,F,F,F] rfl rfl (any_of HT_.out kr) (fun _ _ _ h=>h) (Or.inl ⟨by rfl,?_⟩) ?_ ?_
   rotate_left
   {
   intro w'
   go_simp
   with_reducible rfl
   }
   rotate_left
   {
   simp only [Act.put,l1,l2,l3,i64_w,i32_w]
   rfl
   }
   refine pure_ (i:=3) (N:=some 27) (v:=?_) (a':=?_) #[T,T,T,T,F,F,F,F,F,F,F,F,F] rfl rfl (any_of HT_.out kr) (fun _ _ _ h=>h) (Or.inl ⟨by rfl,?_⟩) ?_ ?_
   rotate_left
   {
   intro w'
   go_simp
   with_reducible rfl
   }
   rotate_left
   {
   simp only [Act.put,l1,l2,l3,i64_w,i32_w]
   rfl
   }
   refine pure_ (i:=4) (N:=some 28) (v:=?_) (a':=?_) #[T,T,T,T,T,F,F,F,F,F,F,F,F] rfl rfl (any_of HT_.out kr) (fun _ _ _ h=>h) (Or.inl ⟨by rfl,?_⟩) ?_ ?_
   rotate_left
   {
   intro w'
   go_simp
   with_reducible rfl
   }
   rotate_left
   {
   simp only [Act.put,l1,l2,l3,i64_w,i32_w]
   rfl
   }
   refine pure_ (i:=5) (N:=some 29) (v:=?_) (a':=?_) #[T,T,T,T,T,T,F,F,F,F,F,F,F] rfl rfl (any_of HT_.out kr) (fun _ _ _ h=>h) (Or.inl ⟨by rfl,?_⟩) ?_ ?_
   rotate_left
   {
   intro w'
   go_simp
   with_reducible rfl
   }
   rotate_left
   {
   simp only [Act.put,l1,l2,l3,i64_w,i32_w]
   rfl
   }
   refine pure_ (i:=6) (N:=some 30) (v:=?_) (a':=?_) #[T,T,T,T,T,T,T,F,F,F,F,F,F] rfl rfl (any_of HT_.out kr) (fun _ _ _ h=>h) (Or.inl ⟨by rfl,?_⟩) ?_ ?_
   rotate_left
   {
   intro w'
   go_simp
   with_reducible rfl
   }
   rotate_left
   {
   simp only [Act.put,l1,l2,l3,i64_w,i32_w]
   rfl
   }
   refine pure_ (i:=7) (N:=some 31) (v:=undef) (a':=?_) #[T,T,T,T,T,T,T,T,F,F,F,F,F] rfl rfl (any_of HT_.out kr) (fun _ _ _ h=>h) (Or.inr ⟨by rfl,rfl⟩) ?_ ?_
   rotate_left
   {
   simp only [Act.put,l1,l2,l3,i64_w,i32_w]
   rfl
   }
   refine pure_ (i:=8) (N:=some 32) (v:=undef) (a':=?_) #[T,T,T,T,T,T,T,T,T,F,F,F,F] rfl rfl (any_of HT_.out kr) (fun _ _ _ h=>h) (Or.inr ⟨by rfl,rfl⟩) ?_ ?_
   rotate_left
   {
   simp only [Act.put,l1,l2,l3,i64_w,i32_w]
   rfl
   }
   refine pure_ (i:=9) (N:=some 33) (v:=undef) (a':=?_) #[T,T,T,T,T,T,T,T,T,T,F,F,F] rfl rfl (any_of HT_.out kr) (fun _ _ _ h=>h) (Or.inr ⟨by rfl,rfl⟩) ?_ ?_
   rotate_left
   {
   simp only [Act.put,l1,l2,l3,i64_w,i32_w]
   rfl
   }
   refine pure_ (i:=10) (N:=some 34) (v:=undef) (a':=?_) #[T,T,T,T,T,T,T,T,T,T,T,F,F] rfl rfl (any_of HT_.out kr) (fun _ _ _ h=>h) (Or.inr ⟨by rfl,rfl⟩) ?_ ?_
   rotate_left
   {
   simp only [Act.put,l1,l2,l3,i64_w,i32_w]
   rfl
   }
   refine pure_ (i:=11) (N:=some 35) (v:=undef) (a':=?_) #[T,T,T,T,T,T,T,T,T,T,T,T,F] rfl rfl (any_of HT_.out kr) (fun _ _ _ h=>h) (Or.inr ⟨by rfl,rfl⟩) ?_ ?_
   rotate_left
   {
   simp only [Act.put,l1,l2,l3,i64_w,i32_w]
   rfl
   }
   refine pure_ (i:=12) (N:=some 36) (v:=?_) (a':=?_) #[T,T,T,T,T,T,T,T,T,T,T,T,T] rfl rfl (any_of HT_.out kr) (fun _ _ _ h=>h) (Or.inl ⟨by rfl,?_⟩) ?_ ?_
   rotate_left
   {
   intro w'
   go_simp
   with_reducible rfl
   }
   rotate_left
   {
   simp only [Act.put,l1,l2,l3,i64_w,i32_w]
   rfl
   }
   refine done_ (done_of HT_.out kr) ?_
   try go_wp2
   go_ret
   exact⟨ew,bl⟩
   }
   {
   have c14b0:decide (t156<100)=false:=decide_eq_false c14
   clear c14
   replace H:=itO H
   rcases H with⟨c16,H⟩|⟨c16,H⟩
   {
   have c16b0:=eq_true c16
   clear c16
   replace H:=bndO H
   obtain⟨t158,A170,H⟩:=H
   have A17:=Aside0.mk A170
   clear A170
   replace H:=itO H
   rcases H with⟨c18,H⟩|⟨c18,H⟩
   {
   have c18b0:((a0.extract 13 a0.size).toList == t158.toList)=true:=beq_iff_eq.mpr c18
   clear c18
   obtain rfl:=Option.some.inj H
   try go_wp2_with (first|((with_reducible refine gate_callee (f:=26) rfl ?_);refine goesL_ (some 21) rfl rfl Tryd.func26 kr rfl #[.string (a0.extract 9 12)] rfl am ?_;(with_reducible refine(stowageref1_Int.calls kj1 (a0.extract 9 12) t156 true _ A12.out).mono ?_);rintro e w' ⟨rfl,⟨nd,rfl⟩⟩;refine⟨_,rfl,?_⟩))
   (try (rw [drewN_self wc];generalize hq_:World.drewN wc _=wc;have n0_:Aside0 (Below w.heap.size w wc):=⟨by rw [← hq_];exact bl⟩;clear HB hq_;have HB:=n0_;clear n0_))
   have n0_:=Aside0.mk (below_drew1 HB.out)
   clear HB
   have HB:=n0_
   clear n0_
   refine start_ (n:=13) (S:=fun w'=>True) (ds:=[]) #[F,F,F,F,F,F,F,F,F,F,F,F,F] kr rfl rfl trivial (fun hHeld=>?_);refine with_tabW stowageref17_status.tab4 stowageref17_status.bits4 (fun HT_ HW_=>?_)
   generalize wc.drew=w19 at HB hHeld ⊢
   refine pure_ (i:=0) (N:=some 24) (v:=?_) (a':=?_) #[T,F,F,F,F,F,F,F,F,F,F,F,F] rfl rfl (any_of HT_.out kr) (fun _ _ _ h=>h) (Or.inl ⟨by rfl,?_⟩) ?_ ?_
   rotate_left
   {
   intro w'
   go_simp
   with_reducible rfl
   }
   rotate_left
   {
   simp only [Act.put,l1,l2,l3,i64_w,i32_w]
   rfl
   }
   refine pure_ (i:=1) (N:=some 25) (v:=?_) (a':=?_) #[T,T,F,F,F,F,F,F,F,F,F,F,F] rfl rfl (any_of HT_.out kr) (fun _ _ _ h=>h) (Or.inl ⟨by rfl,?_⟩) ?_ ?_
   rotate_left
   {
   intro w'
   go_simp
   with_reducible rfl
   }
   rotate_left
   {
   simp only [Act.put,l1,l2,l3,i64_w,i32_w]
   rfl
   }
   refine pure_ (i:=2) (N:=some 26) (v:=?_) (a':=?_) #[T,T,T,F,F,F,F,F,F,F,F,F,F] rfl rfl (any_of HT_.out kr) (fun _ _ _ h=>h) (Or.inl ⟨by rfl,?_⟩) ?_ ?_
   rotate_left
   {
   intro w'
   go_simp
   with_reducible rfl
   }
   rotate_left
   {
   simp only [Act.put,l1,l2,l3,i64_w,i32_w]
   rfl
   }
   refine pure_ (i:=3) (N:=some 27) (v:=?_) (a':=?_) #[T,T,T,T,F,F,F,F,F,F,F,F,F] rfl rfl (any_of HT_.out kr) (fun _ _ _ h=>h) (Or.inl ⟨by rfl,?_⟩) ?_ ?_
   rotate_left
   {
   intro w'
   go_simp
   with_reducible rfl
   }
   rotate_left
   {
   simp only [Act.put,l1,l2,l3,i64_w,i32_w]
   rfl
   }
   refine pure_ (i:=4) (N:=some 28) (v:=?_) (a':=?_) #[T,T,T,T,T,F,F,F,F,F,F,F,F] rfl rfl (any_of HT_.out kr) (fun _ _ _ h=>h) (Or.inl ⟨by rfl,?_⟩) ?_ ?_
   rotate_left
   {
   intro w'
   go_simp
   with_reducible rfl
   }
   rotate_left
   {
   simp only [Act.put,l1,l2,l3,i64_w,i32_w]
   rfl
   }
   refine pure_ (i:=5) (N:=some 29) (v:=?_) (a':=?_) #[T,T,T,T,T,T,F,F,F,F,F,F,F] rfl rfl (any_of HT_.out kr) (fun _ _ _ h=>h) (Or.inl ⟨by rfl,?_⟩) ?_ ?_
   rotate_left
   {
   intro w'
   go_simp
   with_reducible rfl
   }
   rotate_left
   {
   simp only [Act.put,l1,l2,l3,i64_w,i32_w]
   rfl
   }
   refine pure_ (i:=6) (N:=some 30) (v:=?_) (a':=?_) #[T,T,T,T,T,T,T,F,F,F,F,F,F] rfl rfl (any_of HT_.out kr) (fun _ _ _ h=>h) (Or.inl ⟨by rfl,?_⟩) ?_ ?_
   rotate_left
   {
   intro w'
   go_simp
   with_reducible rfl
   }
   rotate_left
   {
   simp only [Act.put,l1,l2,l3,i64_w,i32_w]
   rfl
   }
   refine pure_ (i:=7) (N:=some 31) (v:=?_) (a':=?_) #[T,T,T,T,T,T,T,T,F,F,F,F,F] rfl rfl (any_of HT_.out kr) (fun _ _ _ h=>h) (Or.inl ⟨by rfl,?_⟩) ?_ ?_
   rotate_left
   {
   intro w'
   go_simp
   with_reducible rfl
   }
   rotate_left
   {
   simp only [Act.put,l1,l2,l3,i64_w,i32_w]
   rfl
   }
   refine pure_ (i:=8) (N:=some 32) (v:=?_) (a':=?_) #[T,T,T,T,T,T,T,T,T,F,F,F,F] rfl rfl (any_of HT_.out kr) (fun _ _ _ h=>h) (Or.inl ⟨by rfl,?_⟩) ?_ ?_
   rotate_left
   {
   intro w'
   go_simp
   with_reducible rfl
   }
   rotate_left
   {
   simp only [Act.put,l1,l2,l3,i64_w,i32_w]
   rfl
   }
   refine pure_ (i:=9) (N:=some 33) (v:=?_) (a':=?_) #[T,T,T,T,T,T,T,T,T,T,F,F,F] rfl rfl (any_of HT_.out kr) (fun _ _ _ h=>h) (Or.inl ⟨by rfl,?_⟩) ?_ ?_
   rotate_left
   {
   intro w'
   go_simp
   with_reducible rfl
   }
   rotate_left
   {
   simp only [Act.put,l1,l2,l3,i64_w,i32_w]
   rfl
   }
   refine one_ (i:=10) (N:=some 34) #[T,T,T,T,T,T,T,T,T,T,T,F,F] rfl rfl (one_of HT_.out kr) (by decide) (fun K hK=>?_)
   refine goes_ Tryd.func14 kr rfl #[.int .i64 t156] (by rfl) rfl rfl am ?_
   with_reducible refine(stowageref17_Phrase.calls kj1 t156 t158 _ A17.out).mono ?_
   rintro e w20 ⟨rfl,hb⟩
   refine⟨_,rfl,?_⟩
   have n0_:=Aside0.mk (below_step bl hb)
   clear HB
   have HB:=n0_
   clear n0_
   (try clear hb)
   (try clear hb2)
   (try clear hk)
   (try clear hi)
   refine hK.out _ _ trivial (fun hHeld=>?_)
   clear hK K
   refine norm_ (a':=?_) ?_ ?_
   rotate_left
   {
   show Act.put _ (some 34) _=_
   simp only [Act.put,l1,l2,l3,i64_w,i32_w]
   rfl
   }
   refine pure_ (i:=11) (N:=some 35) (v:=?_) (a':=?_) #[T,T,T,T,T,T,T,T,T,T,T,T,F] rfl rfl (any_of HT_.out kr) (fun _ _ _ h=>h) (Or.inl ⟨by rfl,?_⟩) ?_ ?_
   rotate_left
   {
   intro w'
   go_simp
   with_reducible rfl
   }
   rotate_left
   {
   simp only [Act.put,l1,l2,l3,i64_w,i32_w]
   rfl
   }
   refine pure_ (i:=12) (N:=some 36) (v:=?_) (a':=?_) #[T,T,T,T,T,T,T,T,T,T,T,T,T] rfl rfl (any_of HT_.out kr) (fun _ _ _ h=>h) (Or.inl ⟨by rfl,?_⟩) ?_ ?_
   rotate_left
   {
   intro w'
   go_simp
   with_reducible rfl
   }
   rotate_left
   {
   simp only [Act.put,l1,l2,l3,i64_w,i32_w]
   rfl
   }
   refine done_ (done_of HT_.out kr) ?_
   try go_wp2
   go_ret
   exact⟨ew,bl⟩
   }
   {
   have c18b0:((a0.extract 13 a0.size).toList == t158.toList)=false:=beq_eq_false_iff_ne.mpr c18
   obtain rfl:=Option.some.inj H
   try go_wp2_with (first|((with_reducible refine gate_callee (f:=26) rfl ?_);refine goesL_ (some 21) rfl rfl Tryd.func26 kr rfl #[.string (a0.extract 9 12)] rfl am ?_;(with_reducible refine(stowageref1_Int.calls kj1 (a0.extract 9 12) t156 true _ A12.out).mono ?_);rintro e w' ⟨rfl,⟨nd,rfl⟩⟩;refine⟨_,rfl,?_⟩))
   (try (rw [drewN_self wc];generalize hq_:World.drewN wc _=wc;have n0_:Aside0 (Below w.heap.size w wc):=⟨by rw [← hq_];exact bl⟩;clear HB hq_;have HB:=n0_;clear n0_))
   have n0_:=Aside0.mk (below_drew1 HB.out)
   clear HB
   have HB:=n0_
   clear n0_
   refine start_ (n:=13) (S:=fun w'=>True) (ds:=[]) #[F,F,F,F,F,F,F,F,F,F,F,F,F] kr rfl rfl trivial (fun hHeld=>?_);refine with_tabW stowageref17_status.tab4 stowageref17_status.bits4 (fun HT_ HW_=>?_)
   generalize wc.drew=w21 at HB hHeld ⊢
   refine pure_ (i:=0) (N:=some 24) (v:=?_) (a':=?_) #[T,F,F,F,F,F,F,F,F,F,F,F,F] rfl rfl (any_of HT_.out kr) (fun _ _ _ h=>h) (Or.inl ⟨by rfl,?_⟩) ?_ ?_
   rotate_left
   {
   intro w'
   go_simp
   with_reducible rfl
   }
   rotate_left
   {
   simp only [Act.put,l1,l2,l3,i64_w,i32_w]
   rfl
   }
   refine pure_ (i:=1) (N:=some 25) (v:=?_) (a':=?_) #[T,T,F,F,F,F,F,F,F,F,F,F,F] rfl rfl (any_of HT_.out kr) (fun _ _ _ h=>h) (Or.inl ⟨by rfl,?_⟩) ?_ ?_
   rotate_left
   {
   intro w'
   go_simp
   with_reducible rfl
   }
   rotate_left
   {
   simp only [Act.put,l1,l2,l3,i64_w,i32_w]
   rfl
   }
   refine pure_ (i:=2) (N:=some 26) (v:=?_) (a':=?_) #[T,T,T,F,F,F,F,F,F,F,F,F,F] rfl rfl (any_of HT_.out kr) (fun _ _ _ h=>h) (Or.inl ⟨by rfl,?_⟩) ?_ ?_
   rotate_left
   {
   intro w'
   go_simp
   with_reducible rfl
   }
   rotate_left
   {
   simp only [Act.put,l1,l2,l3,i64_w,i32_w]
   rfl
   }
   refine pure_ (i:=3) (N:=some 27) (v:=?_) (a':=?_) #[T,T,T,T,F,F,F,F,F,F,F,F,F] rfl rfl (any_of HT_.out kr) (fun _ _ _ h=>h) (Or.inl ⟨by rfl,?_⟩) ?_ ?_
   rotate_left
   {
   intro w'
   go_simp
   with_reducible rfl
   }
   rotate_left
   {
   simp only [Act.put,l1,l2,l3,i64_w,i32_w]
   rfl
   }
   refine pure_ (i:=4) (N:=some 28) (v:=?_) (a':=?_) #[T,T,T,T,T,F,F,F,F,F,F,F,F] rfl rfl (any_of HT_.out kr) (fun _ _ _ h=>h) (Or.inl ⟨by rfl,?_⟩) ?_ ?_
   rotate_left
   {
   intro w'
   go_simp
   with_reducible rfl
   }
   rotate_left
   {
   simp only [Act.put,l1,l2,l3,i64_w,i32_w]
   rfl
   }
   refine pure_ (i:=5) (N:=some 29) (v:=?_) (a':=?_) #[T,T,T,T,T,T,F,F,F,F,F,F,F] rfl rfl (any_of HT_.out kr) (fun _ _ _ h=>h) (Or.inl ⟨by rfl,?_⟩) ?_ ?_
   rotate_left
   {
   intro w'
   go_simp
   with_reducible rfl
   }
   rotate_left
   {
   simp only [Act.put,l1,l2,l3,i64_w,i32_w]
   rfl
   }
   refine pure_ (i:=6) (N:=some 30) (v:=?_) (a':=?_) #[T,T,T,T,T,T,T,F,F,F,F,F,F] rfl rfl (any_of HT_.out kr) (fun _ _ _ h=>h) (Or.inl ⟨by rfl,?_⟩) ?_ ?_
   rotate_left
   {
   intro w'
   go_simp
   with_reducible rfl
   }
   rotate_left
   {
   simp only [Act.put,l1,l2,l3,i64_w,i32_w]
   rfl
   }
   refine pure_ (i:=7) (N:=some 31) (v:=?_) (a':=?_) #[T,T,T,T,T,T,T,T,F,F,F,F,F] rfl rfl (any_of HT_.out kr) (fun _ _ _ h=>h) (Or.inl ⟨by rfl,?_⟩) ?_ ?_
   rotate_left
   {
   intro w'
   go_simp
   with_reducible rfl
   }
   rotate_left
   {
   simp only [Act.put,l1,l2,l3,i64_w,i32_w]
   rfl
   }
   refine pure_ (i:=8) (N:=some 32) (v:=?_) (a':=?_) #[T,T,T,T,T,T,T,T,T,F,F,F,F] rfl rfl (any_of HT_.out kr) (fun _ _ _ h=>h) (Or.inl ⟨by rfl,?_⟩) ?_ ?_
   rotate_left
   {
   intro w'
   go_simp
   with_reducible rfl
   }
   rotate_left
   {
   simp only [Act.put,l1,l2,l3,i64_w,i32_w]
   rfl
   }
   refine pure_ (i:=9) (N:=some 33) (v:=?_) (a':=?_) #[T,T,T,T,T,T,T,T,T,T,F,F,F] rfl rfl (any_of HT_.out kr) (fun _ _ _ h=>h) (Or.inl ⟨by rfl,?_⟩) ?_ ?_
   rotate_left
   {
   intro w'
   go_simp
   with_reducible rfl
   }
   rotate_left
   {
   simp only [Act.put,l1,l2,l3,i64_w,i32_w]
   rfl
   }
   refine one_ (i:=10) (N:=some 34) #[T,T,T,T,T,T,T,T,T,T,T,F,F] rfl rfl (one_of HT_.out kr) (by decide) (fun K hK=>?_)
   refine goes_ Tryd.func14 kr rfl #[.int .i64 t156] (by rfl) rfl rfl am ?_
   with_reducible refine(stowageref17_Phrase.calls kj1 t156 t158 _ A17.out).mono ?_
   rintro e w22 ⟨rfl,hb⟩
   refine⟨_,rfl,?_⟩
   have n0_:=Aside0.mk (below_step bl hb)
   clear HB
   have HB:=n0_
   clear n0_
   (try clear hb)
   (try clear hb2)
   (try clear hk)
   (try clear hi)
   refine hK.out _ _ trivial (fun hHeld=>?_)
   clear hK K
   refine norm_ (a':=?_) ?_ ?_
   rotate_left
   {
   show Act.put _ (some 34) _=_
   simp only [Act.put,l1,l2,l3,i64_w,i32_w]
   rfl
   }
   refine pure_ (i:=11) (N:=some 35) (v:=?_) (a':=?_) #[T,T,T,T,T,T,T,T,T,T,T,T,F] rfl rfl (any_of HT_.out kr) (fun _ _ _ h=>h) (Or.inl ⟨by rfl,?_⟩) ?_ ?_
   rotate_left
   {
   intro w'
   go_simp
   with_reducible rfl
   }
   rotate_left
   {
   simp only [Act.put,l1,l2,l3,i64_w,i32_w]
   rfl
   }
   refine pure_ (i:=12) (N:=some 36) (v:=?_) (a':=?_) #[T,T,T,T,T,T,T,T,T,T,T,T,T] rfl rfl (any_of HT_.out kr) (fun _ _ _ h=>h) (Or.inl ⟨by rfl,?_⟩) ?_ ?_
   rotate_left
   {
   intro w'
   go_simp
   with_reducible rfl
   }
   rotate_left
   {
   simp only [Act.put,l1,l2,l3,i64_w,i32_w]
   rfl
   }
   refine done_ (done_of HT_.out kr) ?_
   try go_wp2
   go_ret
   exact⟨ew,bl⟩
   }
   }
   ·exact absurd H (by simp)
   }
   }
   {
   replace c13:=Bool.eq_false_iff.mpr c13
   subst c13
   replace H:=itF H
   obtain rfl:=Option.some.inj H
   try go_wp2_with (first|((with_reducible refine gate_callee (f:=26) rfl ?_);refine goesL_ (some 21) rfl rfl Tryd.func26 kr rfl #[.string (a0.extract 9 12)] rfl am ?_;(with_reducible refine(stowageref1_Int.calls kj1 (a0.extract 9 12) t156 false _ A12.out).mono ?_);rintro e w' ⟨rfl,⟨nd,rfl⟩⟩;refine⟨_,rfl,?_⟩))
   (try (rw [drewN_self wc];generalize hq_:World.drewN wc _=wc;have n0_:Aside0 (Below w.heap.size w wc):=⟨by rw [← hq_];exact bl⟩;clear HB hq_;have HB:=n0_;clear n0_))
   have n0_:=Aside0.mk (below_drew1 HB.out)
   clear HB
   have HB:=n0_
   clear n0_
   refine start_ (n:=13) (S:=fun w'=>True) (ds:=[]) #[F,F,F,F,F,F,F,F,F,F,F,F,F] kr rfl rfl trivial (fun hHeld=>?_);refine with_tabW stowageref17_status.tab4 stowageref17_status.bits4 (fun HT_ HW_=>?_)
   generalize wc.drew=w23 at HB hHeld ⊢
   refine pure_ (i:=0) (N:=some 24) (v:=?_) (a':=?_) #[T,F,F,F,F,F,F,F,F,F,F,F,F] rfl rfl (any_of HT_.out kr) (fun _ _ _ h=>h) (Or.inl ⟨by rfl,?_⟩) ?_ ?_
   rotate_left
   {
   intro w'
   go_simp
   with_reducible rfl
   }
   rotate_left
   {
   simp only [Act.put,l1,l2,l3,i64_w,i32_w]
   rfl
   }
   refine pure_ (i:=1) (N:=some 25) (v:=?_) (a':=?_) #[T,T,F,F,F,F,F,F,F,F,F,F,F] rfl rfl (any_of HT_.out kr) (fun _ _ _ h=>h) (Or.inl ⟨by rfl,?_⟩) ?_ ?_
   rotate_left
   {
   intro w'
   go_simp
   with_reducible rfl
   }
   rotate_left
   {
   simp only [Act.put,l1,l2,l3,i64_w,i32_w]
   rfl
   }
   refine pure_ (i:=2) (N:=some 26) (v:=?_) (a':=?_) #[T,T,T,F,F,F,F,F,F,F,F,F,F] rfl rfl (any_of HT_.out kr) (fun _ _ _ h=>h) (Or.inl ⟨by rfl,?_⟩) ?_ ?_
   rotate_left
   {
   intro w'
   go_simp
   with_reducible rfl
   }
   rotate_left
   {
   simp only [Act.put,l1,l2,l3,i64_w,i32_w]
   rfl
   }
   refine pure_ (i:=3) (N:=some 27) (v:=undef) (a':=?_) #[T,T,T,T,F,F,F,F,F,F,F,F,F] rfl rfl (any_of HT_.out kr) (fun _ _ _ h=>h) (Or.inr ⟨by rfl,rfl⟩) ?_ ?_
   rotate_left
   {
   simp only [Act.put,l1,l2,l3,i64_w,i32_w]
   rfl
   }
   refine pure_ (i:=4) (N:=some 28) (v:=undef) (a':=?_) #[T,T,T,T,T,F,F,F,F,F,F,F,F] rfl rfl (any_of HT_.out kr) (fun _ _ _ h=>h) (Or.inr ⟨by rfl,rfl⟩) ?_ ?_
   rotate_left
   {
   simp only [Act.put,l1,l2,l3,i64_w,i32_w]
   rfl
   }
   refine pure_ (i:=5) (N:=some 29) (v:=?_) (a':=?_) #[T,T,T,T,T,T,F,F,F,F,F,F,F] rfl rfl (any_of HT_.out kr) (fun _ _ _ h=>h) (Or.inl ⟨by rfl,?_⟩) ?_ ?_
   rotate_left
   {
   intro w'
   go_simp
   with_reducible rfl
   }
   rotate_left
   {
   simp only [Act.put,l1,l2,l3,i64_w,i32_w]
   rfl
   }
   refine pure_ (i:=6) (N:=some 30) (v:=?_) (a':=?_) #[T,T,T,T,T,T,T,F,F,F,F,F,F] rfl rfl (any_of HT_.out kr) (fun _ _ _ h=>h) (Or.inl ⟨by rfl,?_⟩) ?_ ?_
   rotate_left
   {
   intro w'
   go_simp
   with_reducible rfl
   }
   rotate_left
   {
   simp only [Act.put,l1,l2,l3,i64_w,i32_w]
   rfl
   }
   refine pure_ (i:=7) (N:=some 31) (v:=undef) (a':=?_) #[T,T,T,T,T,T,T,T,F,F,F,F,F] rfl rfl (any_of HT_.out kr) (fun _ _ _ h=>h) (Or.inr ⟨by rfl,rfl⟩) ?_ ?_
   rotate_left
   {
   simp only [Act.put,l1,l2,l3,i64_w,i32_w]
   rfl
   }
   refine pure_ (i:=8) (N:=some 32) (v:=undef) (a':=?_) #[T,T,T,T,T,T,T,T,T,F,F,F,F] rfl rfl (any_of HT_.out kr) (fun _ _ _ h=>h) (Or.inr ⟨by rfl,rfl⟩) ?_ ?_
   rotate_left
   {
   simp only [Act.put,l1,l2,l3,i64_w,i32_w]
   rfl
   }
   refine pure_ (i:=9) (N:=some 33) (v:=undef) (a':=?_) #[T,T,T,T,T,T,T,T,T,T,F,F,F] rfl rfl (any_of HT_.out kr) (fun _ _ _ h=>h) (Or.inr ⟨by rfl,rfl⟩) ?_ ?_
   rotate_left
   {
   simp only [Act.put,l1,l2,l3,i64_w,i32_w]
   rfl
   }
   refine pure_ (i:=10) (N:=some 34) (v:=undef) (a':=?_) #[T,T,T,T,T,T,T,T,T,T,T,F,F] rfl rfl (any_of HT_.out kr) (fun _ _ _ h=>h) (Or.inr ⟨by rfl,rfl⟩) ?_ ?_
   rotate_left
   {
   simp only [Act.put,l1,l2,l3,i64_w,i32_w]
   rfl
   }
   refine pure_ (i:=11) (N:=some 35) (v:=undef) (a':=?_) #[T,T,T,T,T,T,T,T,T,T,T,T,F] rfl rfl (any_of HT_.out kr) (fun _ _ _ h=>h) (Or.inr ⟨by rfl,rfl⟩) ?_ ?_
   rotate_left
   {
   simp only [Act.put,l1,l2,l3,i64_w,i32_w]
   rfl
   }
   refine pure_ (i:=12) (N:=some 36) (v:=?_) (a':=?_) #[T,T,T,T,T,T,T,T,T,T,T,T,T] rfl rfl (any_of HT_.out kr) (fun _ _ _ h=>h) (Or.inl ⟨by rfl,?_⟩) ?_ ?_
   rotate_left
   {
   intro w'
   go_simp
   with_reducible rfl
   }
   rotate_left
   {
   simp only [Act.put,l1,l2,l3,i64_w,i32_w]
   rfl
   }
   refine done_ (done_of HT_.out kr) ?_
   try go_wp2
   go_ret
   exact⟨ew,bl⟩
   }
   }
   ·exact absurd H (by simp)
   }
   ·exact absurd H (by simp)
   }
def stowageref3_Begins.f (a0:ByteArray) (a1:ByteArray):Option (Bool):=if(a0.size:Int) ≥ (a1.size:Int) then(if 0≤(a1.size:Int) then(if(a1.size:Int)≤(a0.size:Int) then(some ((a0.extract 0 a1.size).toList == a1.toList)) else(none)) else(none)) else(some false)
theorem stowageref3_Begins.calls (a0:ByteArray) (a1:ByteArray) (r:Bool) (w:World) (h:stowageref3_Begins.f a0 a1=some r) :
    Calls Tryd.prog 41 #[.string a0,.string a1] w fun e w'=>e = .returned (.bool r)∧Drawn0 w w':=by
 unfold stowageref3_Begins.f at h
 have H:=h
 clear h
 replace H:=itO H
 rcases H with⟨c3,H⟩|⟨c3,H⟩
 {
 have c3b0:decide ((a1.size:Int)≤(a0.size:Int))=true:=decide_eq_true c3
 have c3b1:decide (a1.size≤a0.size)=true:=decide_eq_true (Int.ofNat_le.mp c3)
 clear c3
 replace H:=itO H
 rcases H with⟨c4,H⟩|⟨c4,H⟩
 {
 have c4b0:=eq_true c4
 have c4b1:=decide_eq_true c4
 clear c4
 replace H:=itO H
 rcases H with⟨c5,H⟩|⟨c5,H⟩
 {
 have c5b0:=eq_true c5
 have c5b1:=decide_eq_true c5
 clear c5
 obtain rfl:=Option.some.inj H
 go_enter Tryd.func41,Tryd.ntmps41
 go_wp2
 go_ret
 exact⟨rs,dr⟩
 }
 ·exact absurd H (by simp)
 }
 ·exact absurd H (by simp)
 }
 {
 have c3b0:decide ((a1.size:Int)≤(a0.size:Int))=false:=decide_eq_false c3
 have c3b1:decide (a1.size≤a0.size)=false:=decide_eq_false (fun h=>c3 (Int.ofNat_le.mpr h))
 clear c3
 obtain rfl:=Option.some.inj H
 go_enter Tryd.func41,Tryd.ntmps41
 go_wp2
 go_ret
 exact⟨rs,dr⟩
 }
end Go.Proofs.YtfjidcmegacibaaDoor.Q
