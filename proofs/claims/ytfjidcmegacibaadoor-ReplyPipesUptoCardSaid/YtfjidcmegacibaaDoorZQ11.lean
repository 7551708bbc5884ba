/- A part of the proof of the seat's laws. No condition beyond those in the theorems. -/
import Derived.Test.YtfjidcmegacibaaDoorZSqzB
import Derived.Test.YtfjidcmegacibaaDoorZQ0g11
open Bool renaming true→T,false→F

namespace Go.Proofs.YtfjidcmegacibaaDoor.Q
open Go.RowKit Go.Proofs.YtfjidcmegacibaaDoorW.PrintWords Go.Proofs.YtfjidcmegacibaaDoorW.PrintLast Go.Proofs.YtfjidcmegacibaaDoorW.PrintMore
set_option linter.unusedVariables false
set_option linter.unusedSimpArgs false
set_option maxHeartbeats 8000000
set_option maxRecDepth 100000
attribute [local go_sem] max2_int min2_int max_two min_two max_three min_three max_four min_four   
def stowageref4_Http.f (k:Nat) (a0:Int):Option (ByteArray):=(stowageref4_Civil.f k a0).bind fun bt121=>(if bt121.2.2.2.2.2.2=true then(if 0≤(wrap64 (3*(Int.tmod (wrap64 ((wrap64 (Int.tdiv a0 86400))+3)) 7))) then(if(wrap64 (3*(Int.tmod (wrap64 ((wrap64 (Int.tdiv a0 86400))+3)) 7)))≤(wrap64 ((wrap64 (3*(Int.tmod (wrap64 ((wrap64 (Int.tdiv a0 86400))+3)) 7)))+3)) then(if(wrap64 ((wrap64 (3*(Int.tmod (wrap64 ((wrap64 (Int.tdiv a0 86400))+3)) 7)))+3))≤21 then(if 0≤(wrap64 ((wrap64 (3*bt121.2.1))-3)) then(if(wrap64 ((wrap64 (3*bt121.2.1))-3))≤(wrap64 (3*bt121.2.1)) then(if(wrap64 (3*bt121.2.1))≤36 then(if((⟨#[77,111,110,84,117,101,87,101,100,84,104,117,70,114,105,83,97,116,83,117,110]⟩ : ByteArray).extract ((wrap64 (3*(Int.tmod (wrap64 ((wrap64 (Int.tdiv a0 86400))+3)) 7))):Int).toNat ((wrap64 ((wrap64 (3*(Int.tmod (wrap64 ((wrap64 (Int.tdiv a0 86400))+3)) 7)))+3)):Int).toNat).size+2≤9223372036854775807 then((stowageref4_wide.f k bt121.2.2.1 2).bind fun t129=>(if(((⟨#[77,111,110,84,117,101,87,101,100,84,104,117,70,114,105,83,97,116,83,117,110]⟩ : ByteArray).extract ((wrap64 (3*(Int.tmod (wrap64 ((wrap64 (Int.tdiv a0 86400))+3)) 7))):Int).toNat ((wrap64 ((wrap64 (3*(Int.tmod (wrap64 ((wrap64 (Int.tdiv a0 86400))+3)) 7)))+3)):Int).toNat)++(⟨#[44,32]⟩ : ByteArray)).size+t129.size≤9223372036854775807 then(if((((⟨#[77,111,110,84,117,101,87,101,100,84,104,117,70,114,105,83,97,116,83,117,110]⟩ : ByteArray).extract ((wrap64 (3*(Int.tmod (wrap64 ((wrap64 (Int.tdiv a0 86400))+3)) 7))):Int).toNat ((wrap64 ((wrap64 (3*(Int.tmod (wrap64 ((wrap64 (Int.tdiv a0 86400))+3)) 7)))+3)):Int).toNat)++(⟨#[44,32]⟩ : ByteArray))++t129).size+1≤9223372036854775807 then(if(((((⟨#[77,111,110,84,117,101,87,101,100,84,104,117,70,114,105,83,97,116,83,117,110]⟩ : ByteArray).extract ((wrap64 (3*(Int.tmod (wrap64 ((wrap64 (Int.tdiv a0 86400))+3)) 7))):Int).toNat ((wrap64 ((wrap64 (3*(Int.tmod (wrap64 ((wrap64 (Int.tdiv a0 86400))+3)) 7)))+3)):Int).toNat)++(⟨#[44,32]⟩ : ByteArray))++t129)++(⟨#[32]⟩ : ByteArray)).size+((⟨#[74,97,110,70,101,98,77,97,114,65,112,114,77,97,121,74,117,110,74,117,108,65,117,103,83,101,112,79,99,116,78,111,118,68,101,99]⟩ : ByteArray).extract ((wrap64 ((wrap64 (3*bt121.2.1))-3)):Int).toNat ((wrap64 (3*bt121.2.1)):Int).toNat).size≤9223372036854775807 then(if((((((⟨#[77,111,110,84,117,101,87,101,100,84,104,117,70,114,105,83,97,116,83,117,110]⟩ : ByteArray).extract ((wrap64 (3*(Int.tmod (wrap64 ((wrap64 (Int.tdiv a0 86400))+3)) 7))):Int).toNat ((wrap64 ((wrap64 (3*(Int.tmod (wrap64 ((wrap64 (Int.tdiv a0 86400))+3)) 7)))+3)):Int).toNat)++(⟨#[44,32]⟩ : ByteArray))++t129)++(⟨#[32]⟩ : ByteArray))++((⟨#[74,97,110,70,101,98,77,97,114,65,112,114,77,97,121,74,117,110,74,117,108,65,117,103,83,101,112,79,99,116,78,111,118,68,101,99]⟩ : ByteArray).extract ((wrap64 ((wrap64 (3*bt121.2.1))-3)):Int).toNat ((wrap64 (3*bt121.2.1)):Int).toNat)).size+1≤9223372036854775807 then((stowageref4_wide.f k bt121.1 4).bind fun t130=>(if(((((((⟨#[77,111,110,84,117,101,87,101,100,84,104,117,70,114,105,83,97,116,83,117,110]⟩ : ByteArray).extract ((wrap64 (3*(Int.tmod (wrap64 ((wrap64 (Int.tdiv a0 86400))+3)) 7))):Int).toNat ((wrap64 ((wrap64 (3*(Int.tmod (wrap64 ((wrap64 (Int.tdiv a0 86400))+3)) 7)))+3)):Int).toNat)++(⟨#[44,32]⟩ : ByteArray))++t129)++(⟨#[32]⟩ : ByteArray))++((⟨#[74,97,110,70,101,98,77,97,114,65,112,114,77,97,121,74,117,110,74,117,108,65,117,103,83,101,112,79,99,116,78,111,118,68,101,99]⟩ : ByteArray).extract ((wrap64 ((wrap64 (3*bt121.2.1))-3)):Int).toNat ((wrap64 (3*bt121.2.1)):Int).toNat))++(⟨#[32]⟩ : ByteArray)).size+t130.size≤9223372036854775807 then(if((((((((⟨#[77,111,110,84,117,101,87,101,100,84,104,117,70,114,105,83,97,116,83,117,110]⟩ : ByteArray).extract ((wrap64 (3*(Int.tmod (wrap64 ((wrap64 (Int.tdiv a0 86400))+3)) 7))):Int).toNat ((wrap64 ((wrap64 (3*(Int.tmod (wrap64 ((wrap64 (Int.tdiv a0 86400))+3)) 7)))+3)):Int).toNat)++(⟨#[44,32]⟩ : ByteArray))++t129)++(⟨#[32]⟩ : ByteArray))++((⟨#[74,97,110,70,101,98,77,97,114,65,112,114,77,97,121,74,117,110,74,117,108,65,117,103,83,101,112,79,99,116,78,111,118,68,101,99]⟩ : ByteArray).extract ((wrap64 ((wrap64 (3*bt121.2.1))-3)):Int).toNat ((wrap64 (3*bt121.2.1)):Int).toNat))++(⟨#[32]⟩ : ByteArray))++t130).size+1≤9223372036854775807 then((stowageref4_wide.f k bt121.2.2.2.1 2).bind fun t131=>(if(((((((((⟨#[77,111,110,84,117,101,87,101,100,84,104,117,70,114,105,83,97,116,83,117,110]⟩ : ByteArray).extract ((wrap64 (3*(Int.tmod (wrap64 ((wrap64 (Int.tdiv a0 86400))+3)) 7))):Int).toNat ((wrap64 ((wrap64 (3*(Int.tmod (wrap64 ((wrap64 (Int.tdiv a0 86400))+3)) 7)))+3)):Int).toNat)++(⟨#[44,32]⟩ : ByteArray))++t129)++(⟨#[32]⟩ : ByteArray))++((⟨#[74,97,110,70,101,98,77,97,114,65,112,114,77,97,121,74,117,110,74,117,108,65,117,103,83,101,112,79,99,116,78,111,118,68,101,99]⟩ : ByteArray).extract ((wrap64 ((wrap64 (3*bt121.2.1))-3)):Int).toNat ((wrap64 (3*bt121.2.1)):Int).toNat))++(⟨#[32]⟩ : ByteArray))++t130)++(⟨#[32]⟩ : ByteArray)).size+t131.size≤9223372036854775807 then(if((((((((((⟨#[77,111,110,84,117,101,87,101,100,84,104,117,70,114,105,83,97,116,83,117,110]⟩ : ByteArray).extract ((wrap64 (3*(Int.tmod (wrap64 ((wrap64 (Int.tdiv a0 86400))+3)) 7))):Int).toNat ((wrap64 ((wrap64 (3*(Int.tmod (wrap64 ((wrap64 (Int.tdiv a0 86400))+3)) 7)))+3)):Int).toNat)++(⟨#[44,32]⟩ : ByteArray))++t129)++(⟨#[32]⟩ : ByteArray))++((⟨#[74,97,110,70,101,98,77,97,114,65,112,114,77,97,121,74,117,110,74,117,108,65,117,103,83,101,112,79,99,116,78,111,118,68,101,99]⟩ : ByteArray).extract ((wrap64 ((wrap64 (3*bt121.2.1))-3)):Int).toNat ((wrap64 (3*bt121.2.1)):Int).toNat))++(⟨#[32]⟩ : ByteArray))++t130)++(⟨#[32]⟩ : ByteArray))++t131).size+1≤9223372036854775807 then((stowageref4_wide.f k bt121.2.2.2.2.1 2).bind fun t132=>(if(((((((((((⟨#[77,111,110,84,117,101,87,101,100,84,104,117,70,114,105,83,97,116,83,117,110]⟩ : ByteArray).extract ((wrap64 (3*(Int.tmod (wrap64 ((wrap64 (Int.tdiv a0 86400))+3)) 7))):Int).toNat ((wrap64 ((wrap64 (3*(Int.tmod (wrap64 ((wrap64 (Int.tdiv a0 86400))+3)) 7)))+3)):Int).toNat)++(⟨#[44,32]⟩ : ByteArray))++t129)++(⟨#[32]⟩ : ByteArray))++((⟨#[74,97,110,70,101,98,77,97,114,65,112,114,77,97,121,74,117,110,74,117,108,65,117,103,83,101,112,79,99,116,78,111,118,68,101,99]⟩ : ByteArray).extract ((wrap64 ((wrap64 (3*bt121.2.1))-3)):Int).toNat ((wrap64 (3*bt121.2.1)):Int).toNat))++(⟨#[32]⟩ : ByteArray))++t130)++(⟨#[32]⟩ : ByteArray))++t131)++(⟨#[58]⟩ : ByteArray)).size+t132.size≤9223372036854775807 then(if((((((((((((⟨#[77,111,110,84,117,101,87,101,100,84,104,117,70,114,105,83,97,116,83,117,110]⟩ : ByteArray).extract ((wrap64 (3*(Int.tmod (wrap64 ((wrap64 (Int.tdiv a0 86400))+3)) 7))):Int).toNat ((wrap64 ((wrap64 (3*(Int.tmod (wrap64 ((wrap64 (Int.tdiv a0 86400))+3)) 7)))+3)):Int).toNat)++(⟨#[44,32]⟩ : ByteArray))++t129)++(⟨#[32]⟩ : ByteArray))++((⟨#[74,97,110,70,101,98,77,97,114,65,112,114,77,97,121,74,117,110,74,117,108,65,117,103,83,101,112,79,99,116,78,111,118,68,101,99]⟩ : ByteArray).extract ((wrap64 ((wrap64 (3*bt121.2.1))-3)):Int).toNat ((wrap64 (3*bt121.2.1)):Int).toNat))++(⟨#[32]⟩ : ByteArray))++t130)++(⟨#[32]⟩ : ByteArray))++t131)++(⟨#[58]⟩ : ByteArray))++t132).size+1≤9223372036854775807 then((stowageref4_wide.f k bt121.2.2.2.2.2.1 2).bind fun t133=>(if(((((((((((((⟨#[77,111,110,84,117,101,87,101,100,84,104,117,70,114,105,83,97,116,83,117,110]⟩ : ByteArray).extract ((wrap64 (3*(Int.tmod (wrap64 ((wrap64 (Int.tdiv a0 86400))+3)) 7))):Int).toNat ((wrap64 ((wrap64 (3*(Int.tmod (wrap64 ((wrap64 (Int.tdiv a0 86400))+3)) 7)))+3)):Int).toNat)++(⟨#[44,32]⟩ : ByteArray))++t129)++(⟨#[32]⟩ : ByteArray))++((⟨#[74,97,110,70,101,98,77,97,114,65,112,114,77,97,121,74,117,110,74,117,108,65,117,103,83,101,112,79,99,116,78,111,118,68,101,99]⟩ : ByteArray).extract ((wrap64 ((wrap64 (3*bt121.2.1))-3)):Int).toNat ((wrap64 (3*bt121.2.1)):Int).toNat))++(⟨#[32]⟩ : ByteArray))++t130)++(⟨#[32]⟩ : ByteArray))++t131)++(⟨#[58]⟩ : ByteArray))++t132)++(⟨#[58]⟩ : ByteArray)).size+t133.size≤9223372036854775807 then(if((((((((((((((⟨#[77,111,110,84,117,101,87,101,100,84,104,117,70,114,105,83,97,116,83,117,110]⟩ : ByteArray).extract ((wrap64 (3*(Int.tmod (wrap64 ((wrap64 (Int.tdiv a0 86400))+3)) 7))):Int).toNat ((wrap64 ((wrap64 (3*(Int.tmod (wrap64 ((wrap64 (Int.tdiv a0 86400))+3)) 7)))+3)):Int).toNat)++(⟨#[44,32]⟩ : ByteArray))++t129)++(⟨#[32]⟩ : ByteArray))++((⟨#[74,97,110,70,101,98,77,97,114,65,112,114,77,97,121,74,117,110,74,117,108,65,117,103,83,101,112,79,99,116,78,111,118,68,101,99]⟩ : ByteArray).extract ((wrap64 ((wrap64 (3*bt121.2.1))-3)):Int).toNat ((wrap64 (3*bt121.2.1)):Int).toNat))++(⟨#[32]⟩ : ByteArray))++t130)++(⟨#[32]⟩ : ByteArray))++t131)++(⟨#[58]⟩ : ByteArray))++t132)++(⟨#[58]⟩ : ByteArray))++t133).size+4≤9223372036854775807 then(some (((((((((((((((⟨#[77,111,110,84,117,101,87,101,100,84,104,117,70,114,105,83,97,116,83,117,110]⟩ : ByteArray).extract ((wrap64 (3*(Int.tmod (wrap64 ((wrap64 (Int.tdiv a0 86400))+3)) 7))):Int).toNat ((wrap64 ((wrap64 (3*(Int.tmod (wrap64 ((wrap64 (Int.tdiv a0 86400))+3)) 7)))+3)):Int).toNat)++(⟨#[44,32]⟩ : ByteArray))++t129)++(⟨#[32]⟩ : ByteArray))++((⟨#[74,97,110,70,101,98,77,97,114,65,112,114,77,97,121,74,117,110,74,117,108,65,117,103,83,101,112,79,99,116,78,111,118,68,101,99]⟩ : ByteArray).extract ((wrap64 ((wrap64 (3*bt121.2.1))-3)):Int).toNat ((wrap64 (3*bt121.2.1)):Int).toNat))++(⟨#[32]⟩ : ByteArray))++t130)++(⟨#[32]⟩ : ByteArray))++t131)++(⟨#[58]⟩ : ByteArray))++t132)++(⟨#[58]⟩ : ByteArray))++t133)++(⟨#[32,71,77,84]⟩ : ByteArray))) else(none)) else(none))) else(none)) else(none))) else(none)) else(none))) else(none)) else(none))) else(none)) else(none)) else(none)) else(none))) else(none)) else(none)) else(none)) else(none)) else(none)) else(none)) else(none)) else(some (⟨#[]⟩ : ByteArray)))
theorem stowageref4_Http.mono:∀ a0 k,LeO (stowageref4_Http.f k a0) (stowageref4_Http.f (k+1) a0):=by
 intro a0 k
 unfold stowageref4_Http.f
 with_reducible repeat' first|exact stowageref4_Civil.mono _ _|exact stowageref4_wide.mono _ _ _|exact LeO.refl _|exact LeO.none _|refine LeO.ite ?_ ?_|refine LeO.bind ?_ (fun _=>?_)
def stowageref4_Http.T7:Bool×List (List Nat×List Nat):=(true,[([],[]),([0],[0]),([],[]),([2],[2]),([3],[3]),([1,4],[1,4]),([5],[5]),([],[]),([6,7],[6,7]),([8],[8]),([],[]),([10],[10]),([11,4],[11]),([9,12],[9,12]),([13],[13]),([],[]),([15],[15]),([16,12],[16]),([14,17],[14,17]),([18],[18]),([],[]),([20],[20]),([21,17],[21]),([19,22],[19,22]),([23],[23]),([],[]),([25],[25]),([26,22],[26]),([24,27],[24,27]),([28],[28]),([29,27,0,1,2,3,4,5,6,7,8,9,10,11,12,13,14,15,16,17,18,19,20,21,22,23,24,25,26,27,28,29],[29])])
def stowageref4_Http.B7:List Nat:=[0,1,0,4,12,31,63,0,255,511,0,1024,3100,8191,16383,0,32768,105500,262143,524287,0,1048576,3382300,8388607,16777215,0,33554432,108239900,268435455,536870911,1073741823]
theorem stowageref4_Http.tab7:rtab .any (opsOf Tryd.f22 7)=stowageref4_Http.T7:=by kernel_rfl
theorem stowageref4_Http.bits7:waitsOk stowageref4_Http.T7.2 stowageref4_Http.B7=true:=by kernel_rfl
theorem stowageref4_Http.calls (k:Nat) (a0:Int) (r:ByteArray) (w:World) (h:stowageref4_Http.f k a0=some r) :
    Calls Tryd.prog 22 #[.int .i64 a0] w fun e w'=>e = .returned (.string r)∧Below w.heap.size w w':=by
 have hu85:=Tryd.underlying85
 have HB:=Aside0.mk (Below.refl w.heap.size w)
 unfold stowageref4_Http.f at h
 have H:=h
 clear h
 replace H:=bndO H
 obtain⟨⟨t121,t122,t123,t124,t125,t126,t127⟩,A20,H⟩:=H
 dsimp only at H
 have A2:=Aside0.mk A20
 clear A20
 by_cases c3:t127=true
 {
 subst c3
 replace H:=itT H
 obtain⟨ji4,hji4⟩ : ∃ j_:Int,(wrap64 (3*(Int.tmod (wrap64 ((wrap64 (Int.tdiv a0 86400))+3)) 7)))=j_:=⟨_,rfl⟩
 first|rw [hji4] at H|simp only [hji4] at H
 (try rw [hji4] at A2)
 have hji4w:(IntKind.i64.wrap (3*(Int.tmod (wrap64 ((wrap64 (Int.tdiv a0 86400))+3)) 7)))=ji4:=(i64_w _).trans hji4
 replace H:=itO H
 rcases H with⟨c5,H⟩|⟨c5,H⟩
 {
 have c5b0:=eq_true c5
 have c5b1:=decide_eq_true c5
 clear c5
 replace H:=itO H
 rcases H with⟨c6,H⟩|⟨c6,H⟩
 {
 have c6b0:=eq_true c6
 have c6b1:=decide_eq_true c6
 replace H:=itO H
 rcases H with⟨c7,H⟩|⟨c7,H⟩
 {
 have c7b0:=eq_true c7
 have c7b1:=decide_eq_true c7
 obtain⟨ji8,hji8⟩ : ∃ j_:Int,(wrap64 ((wrap64 (3*t122))-3))=j_:=⟨_,rfl⟩
 first|rw [hji8] at H|simp only [hji8] at H
 (try rw [hji8] at A2)
 have hji8w:(IntKind.i64.wrap ((wrap64 (3*t122))-3))=ji8:=(i64_w _).trans hji8
 replace H:=itO H
 rcases H with⟨c9,H⟩|⟨c9,H⟩
 {
 have c9b0:=eq_true c9
 have c9b1:=decide_eq_true c9
 clear c9
 replace H:=itO H
 rcases H with⟨c10,H⟩|⟨c10,H⟩
 {
 have c10b0:=eq_true c10
 have c10b1:=decide_eq_true c10
 clear c10
 replace H:=itO H
 rcases H with⟨c11,H⟩|⟨c11,H⟩
 {
 have c11b0:=eq_true c11
 have c11b1:=decide_eq_true c11
 clear c11
 replace H:=itO H
 rcases H with⟨c12,H⟩|⟨c12,H⟩
 {
 have c12b0:=eq_true c12
 have c12b1:=decide_eq_true c12
 try have c12b2:=eq_false (Nat.not_lt.2 c12)
 try (have c12n:(min (((wrap64 ((ji4)+3)):Int).toNat) 21-(((ji4):Int).toNat))+2≤9223372036854775807:=by have h_:=c12;simp only [ByteArray.size_append,ByteArray.size_extract] at h_;exact h_)
 try have c12f:(9223372036854775807<(((wrap64 ((ji4)+3)):Int).toNat-((ji4):Int).toNat)+2)=False:=eq_false (by first|omega|(simp only [eq_iff_iff,iff_true] at *;omega))
 replace H:=bndO H
 obtain⟨t129,A130,H⟩:=H
 have A13:=Aside0.mk A130
 clear A130
 replace H:=itO H
 rcases H with⟨c14,H⟩|⟨c14,H⟩
 {
 have c14b0:=eq_true c14
 have c14b1:=decide_eq_true c14
 try have c14b2:=eq_false (Nat.not_lt.2 c14)
 try (have c14n:(min (((wrap64 ((ji4)+3)):Int).toNat) 21-(((ji4):Int).toNat))+2+t129.size≤9223372036854775807:=by have h_:=c14;simp only [ByteArray.size_append,ByteArray.size_extract] at h_;exact h_)
 try have c14f:(9223372036854775807<(((wrap64 ((ji4)+3)):Int).toNat-((ji4):Int).toNat)+2+t129.size)=False:=eq_false (by first|omega|(simp only [eq_iff_iff,iff_true] at *;omega))
 replace H:=itO H
 rcases H with⟨c15,H⟩|⟨c15,H⟩
 {
 have c15b0:=eq_true c15
 have c15b1:=decide_eq_true c15
 try have c15b2:=eq_false (Nat.not_lt.2 c15)
 try (have c15n:(min (((wrap64 ((ji4)+3)):Int).toNat) 21-(((ji4):Int).toNat))+2+t129.size+1≤9223372036854775807:=by have h_:=c15;simp only [ByteArray.size_append,ByteArray.size_extract] at h_;exact h_)
 try have c15f:(9223372036854775807<(((wrap64 ((ji4)+3)):Int).toNat-((ji4):Int).toNat)+2+t129.size+1)=False:=eq_false (by first|omega|(simp only [eq_iff_iff,iff_true] at *;omega))
 replace H:=itO H
 rcases H with⟨c16,H⟩|⟨c16,H⟩
 {
 have c16b0:=eq_true c16
 have c16b1:=decide_eq_true c16
 try have c16b2:=eq_false (Nat.not_lt.2 c16)
 try (have c16n:(min (((wrap64 ((ji4)+3)):Int).toNat) 21-(((ji4):Int).toNat))+2+t129.size+1+(min (((wrap64 (3*t122)):Int).toNat) 36-(((ji8):Int).toNat))≤9223372036854775807:=by have h_:=c16;simp only [ByteArray.size_append,ByteArray.size_extract] at h_;exact h_)
 try have c16f:(9223372036854775807<(((wrap64 ((ji4)+3)):Int).toNat-((ji4):Int).toNat)+2+t129.size+1+(((wrap64 (3*t122)):Int).toNat-((ji8):Int).toNat))=False:=eq_false (by first|omega|(simp only [eq_iff_iff,iff_true] at *;omega))
 replace H:=itO H
 rcases H with⟨c17,H⟩|⟨c17,H⟩
 {
 have c17b0:=eq_true c17
 have c17b1:=decide_eq_true c17
 try have c17b2:=eq_false (Nat.not_lt.2 c17)
 try (have c17n:(min (((wrap64 ((ji4)+3)):Int).toNat) 21-(((ji4):Int).toNat))+2+t129.size+1+(min (((wrap64 (3*t122)):Int).toNat) 36-(((ji8):Int).toNat))+1≤9223372036854775807:=by have h_:=c17;simp only [ByteArray.size_append,ByteArray.size_extract] at h_;exact h_)
 try have c17f:(9223372036854775807<(((wrap64 ((ji4)+3)):Int).toNat-((ji4):Int).toNat)+2+t129.size+1+(((wrap64 (3*t122)):Int).toNat-((ji8):Int).toNat)+1)=False:=eq_false (by first|omega|(simp only [eq_iff_iff,iff_true] at *;omega))
 replace H:=bndO H
 obtain⟨t130,A180,H⟩:=H
 have A18:=Aside0.mk A180
 clear A180
 replace H:=itO H
 rcases H with⟨c19,H⟩|⟨c19,H⟩
 {
 have c19b0:=eq_true c19
 have c19b1:=decide_eq_true c19
 try have c19b2:=eq_false (Nat.not_lt.2 c19)
 try (have c19n:(min (((wrap64 ((ji4)+3)):Int).toNat) 21-(((ji4):Int).toNat))+2+t129.size+1+(min (((wrap64 (3*t122)):Int).toNat) 36-(((ji8):Int).toNat))+1+t130.size≤9223372036854775807:=by have h_:=c19;simp only [ByteArray.size_append,ByteArray.size_extract] at h_;exact h_)
 try have c19f:(9223372036854775807<(((wrap64 ((ji4)+3)):Int).toNat-((ji4):Int).toNat)+2+t129.size+1+(((wrap64 (3*t122)):Int).toNat-((ji8):Int).toNat)+1+t130.size)=False:=eq_false (by first|omega|(simp only [eq_iff_iff,iff_true] at *;omega))
 replace H:=itO H
 rcases H with⟨c20,H⟩|⟨c20,H⟩
 {
 have c20b0:=eq_true c20
 have c20b1:=decide_eq_true c20
 try have c20b2:=eq_false (Nat.not_lt.2 c20)
 try (have c20n:(min (((wrap64 ((ji4)+3)):Int).toNat) 21-(((ji4):Int).toNat))+2+t129.size+1+(min (((wrap64 (3*t122)):Int).toNat) 36-(((ji8):Int).toNat))+1+t130.size+1≤9223372036854775807:=by have h_:=c20;simp only [ByteArray.size_append,ByteArray.size_extract] at h_;exact h_)
 try have c20f:(9223372036854775807<(((wrap64 ((ji4)+3)):Int).toNat-((ji4):Int).toNat)+2+t129.size+1+(((wrap64 (3*t122)):Int).toNat-((ji8):Int).toNat)+1+t130.size+1)=False:=eq_false (by first|omega|(simp only [eq_iff_iff,iff_true] at *;omega))
 replace H:=bndO H
 obtain⟨t131,A210,H⟩:=H
 have A21:=Aside0.mk A210
 clear A210
 replace H:=itO H
 rcases H with⟨c22,H⟩|⟨c22,H⟩
 {
 have c22b0:=eq_true c22
 have c22b1:=decide_eq_true c22
 try have c22b2:=eq_false (Nat.not_lt.2 c22)
 try (have c22n:(min (((wrap64 ((ji4)+3)):Int).toNat) 21-(((ji4):Int).toNat))+2+t129.size+1+(min (((wrap64 (3*t122)):Int).toNat) 36-(((ji8):Int).toNat))+1+t130.size+1+t131.size≤9223372036854775807:=by have h_:=c22;simp only [ByteArray.size_append,ByteArray.size_extract] at h_;exact h_)
 try have c22f:(9223372036854775807<(((wrap64 ((ji4)+3)):Int).toNat-((ji4):Int).toNat)+2+t129.size+1+(((wrap64 (3*t122)):Int).toNat-((ji8):Int).toNat)+1+t130.size+1+t131.size)=False:=eq_false (by first|omega|(simp only [eq_iff_iff,iff_true] at *;omega))
 replace H:=itO H
 rcases H with⟨c23,H⟩|⟨c23,H⟩
 {
 have c23b0:=eq_true c23
 have c23b1:=decide_eq_true c23
 try have c23b2:=eq_false (Nat.not_lt.2 c23)
 try (have c23n:(min (((wrap64 ((ji4)+3)):Int).toNat) 21-(((ji4):Int).toNat))+2+t129.size+1+(min (((wrap64 (3*t122)):Int).toNat) 36-(((ji8):Int).toNat))+1+t130.size+1+t131.size+1≤9223372036854775807:=by have h_:=c23;simp only [ByteArray.size_append,ByteArray.size_extract] at h_;exact h_)
 try have c23f:(9223372036854775807<(((wrap64 ((ji4)+3)):Int).toNat-((ji4):Int).toNat)+2+t129.size+1+(((wrap64 (3*t122)):Int).toNat-((ji8):Int).toNat)+1+t130.size+1+t131.size+1)=False:=eq_false (by first|omega|(simp only [eq_iff_iff,iff_true] at *;omega))
 replace H:=bndO H
 obtain⟨t132,A240,H⟩:=H
 have A24:=Aside0.mk A240
 clear A240
 replace H:=itO H
 rcases H with⟨c25,H⟩|⟨c25,H⟩
 {
 have c25b0:=eq_true c25
 have c25b1:=decide_eq_true c25
 try have c25b2:=eq_false (Nat.not_lt.2 c25)
 try (have c25n:(min (((wrap64 ((ji4)+3)):Int).toNat) 21-(((ji4):Int).toNat))+2+t129.size+1+(min (((wrap64 (3*t122)):Int).toNat) 36-(((ji8):Int).toNat))+1+t130.size+1+t131.size+1+t132.size≤9223372036854775807:=by have h_:=c25;simp only [ByteArray.size_append,ByteArray.size_extract] at h_;exact h_)
 try have c25f:(9223372036854775807<(((wrap64 ((ji4)+3)):Int).toNat-((ji4):Int).toNat)+2+t129.size+1+(((wrap64 (3*t122)):Int).toNat-((ji8):Int).toNat)+1+t130.size+1+t131.size+1+t132.size)=False:=eq_false (by first|omega|(simp only [eq_iff_iff,iff_true] at *;omega))
 replace H:=itO H
 rcases H with⟨c26,H⟩|⟨c26,H⟩
 {
 have c26b0:=eq_true c26
 have c26b1:=decide_eq_true c26
 try have c26b2:=eq_false (Nat.not_lt.2 c26)
 try (have c26n:(min (((wrap64 ((ji4)+3)):Int).toNat) 21-(((ji4):Int).toNat))+2+t129.size+1+(min (((wrap64 (3*t122)):Int).toNat) 36-(((ji8):Int).toNat))+1+t130.size+1+t131.size+1+t132.size+1≤9223372036854775807:=by have h_:=c26;simp only [ByteArray.size_append,ByteArray.size_extract] at h_;exact h_)
 try have c26f:(9223372036854775807<(((wrap64 ((ji4)+3)):Int).toNat-((ji4):Int).toNat)+2+t129.size+1+(((wrap64 (3*t122)):Int).toNat-((ji8):Int).toNat)+1+t130.size+1+t131.size+1+t132.size+1)=False:=eq_false (by first|omega|(simp only [eq_iff_iff,iff_true] at *;omega))
 replace H:=bndO H
 obtain⟨t133,A270,H⟩:=H
 have A27:=Aside0.mk A270
 clear A270
 replace H:=itO H
 rcases H with⟨c28,H⟩|⟨c28,H⟩
 {
 have c28b0:=eq_true c28
 have c28b1:=decide_eq_true c28
 try have c28b2:=eq_false (Nat.not_lt.2 c28)
 try (have c28n:(min (((wrap64 ((ji4)+3)):Int).toNat) 21-(((ji4):Int).toNat))+2+t129.size+1+(min (((wrap64 (3*t122)):Int).toNat) 36-(((ji8):Int).toNat))+1+t130.size+1+t131.size+1+t132.size+1+t133.size≤9223372036854775807:=by have h_:=c28;simp only [ByteArray.size_append,ByteArray.size_extract] at h_;exact h_)
 try have c28f:(9223372036854775807<(((wrap64 ((ji4)+3)):Int).toNat-((ji4):Int).toNat)+2+t129.size+1+(((wrap64 (3*t122)):Int).toNat-((ji8):Int).toNat)+1+t130.size+1+t131.size+1+t132.size+1+t133.size)=False:=eq_false (by first|omega|(simp only [eq_iff_iff,iff_true] at *;omega))
 replace H:=itO H
 rcases H with⟨c29,H⟩|⟨c29,H⟩
 {
 have c29b0:=eq_true c29
 have c29b1:=decide_eq_true c29
 try have c29b2:=eq_false (Nat.not_lt.2 c29)
 try (have c29n:(min (((wrap64 ((ji4)+3)):Int).toNat) 21-(((ji4):Int).toNat))+2+t129.size+1+(min (((wrap64 (3*t122)):Int).toNat) 36-(((ji8):Int).toNat))+1+t130.size+1+t131.size+1+t132.size+1+t133.size+4≤9223372036854775807:=by have h_:=c29;simp only [ByteArray.size_append,ByteArray.size_extract] at h_;exact h_)
 try have c29f:(9223372036854775807<(((wrap64 ((ji4)+3)):Int).toNat-((ji4):Int).toNat)+2+t129.size+1+(((wrap64 (3*t122)):Int).toNat-((ji8):Int).toNat)+1+t130.size+1+t131.size+1+t132.size+1+t133.size+4)=False:=eq_false (by first|omega|(simp only [eq_iff_iff,iff_true] at *;omega))
 obtain rfl:=Option.some.inj H
 go_enter Tryd.func22,Tryd.ntmps22
 try go_wp2_with (first|((with_reducible refine gate_callee (f:=38) rfl ?_);refine goesL_ (some 10) rfl rfl Tryd.func38 kr rfl #[.int .i64 a0] rfl am ?_;(with_reducible refine(stowageref4_Civil.calls k a0 t121 t122 t123 t124 t125 t126 true _ A2.out).mono ?_);rintro e w30 ⟨rfl,hb⟩;refine⟨_,rfl,?_⟩;replace HB:=Aside0.mk (below_step bl hb))|((with_reducible refine gate_dst (N:=3) rfl ?_);refine box_event ?hg (N:=3) ?hd (cs:=#[.int .i64 0,.int .i64 0,.int .i64 0,.int .i64 0,.int .i64 0,.int .i64 0]) (t:=85) ?hr ?_;(case hd=>rfl);(case hg=>rfl);(case hr=>first|(go_simp;done)|(go_simp;rfl));intro gb128 hg w31 hbox hb;have BK128:=Aside0.mk (hbox);have GW128:=Aside0.mk ((by rw [hg];exact(below_size bl):w.heap.size≤gb128));have GE128:=Aside0.mk ((by rw [hg];exact(below_size bl):w.heap.size≤gb128));replace HB:=Aside0.mk (below_step bl hb);clear hb hbox hg;obtain⟨_,_,_,_,_,_,_,_,_,_,_,_⟩:=bc6 BK128.out))
 have n0_:Aside0 (((((((w31.setCell ⟨gb128,0,none⟩ (.int .i64 t121)).setCell ⟨gb128,1,none⟩ (.int .i64 t122)).setCell ⟨gb128,2,none⟩ (.int .i64 t123)).setCell ⟨gb128,3,none⟩ (.int .i64 t124)).setCell ⟨gb128,4,none⟩ (.int .i64 t125)).setCell ⟨gb128,5,none⟩ (.int .i64 t126)).heap[gb128]? = some (.cells #[.int .i64 t121,.int .i64 t122,.int .i64 t123,.int .i64 t124,.int .i64 t125,.int .i64 t126] 85 (0,0))):=⟨by(with_reducible repeat (first|refine blk_drewN ?_ _|refine blk_drew ?_|refine blk_alloc ?_ _));refine blk_put (cs:=#[.int .i64 t121,.int .i64 t122,.int .i64 t123,.int .i64 t124,.int .i64 t125,.int .i64 0]) ?_ 5 _ rfl;(with_reducible repeat (first|refine blk_drewN ?_ _|refine blk_drew ?_|refine blk_alloc ?_ _));refine blk_put (cs:=#[.int .i64 t121,.int .i64 t122,.int .i64 t123,.int .i64 t124,.int .i64 0,.int .i64 0]) ?_ 4 _ rfl;(with_reducible repeat (first|refine blk_drewN ?_ _|refine blk_drew ?_|refine blk_alloc ?_ _));refine blk_put (cs:=#[.int .i64 t121,.int .i64 t122,.int .i64 t123,.int .i64 0,.int .i64 0,.int .i64 0]) ?_ 3 _ rfl;(with_reducible repeat (first|refine blk_drewN ?_ _|refine blk_drew ?_|refine blk_alloc ?_ _));refine blk_put (cs:=#[.int .i64 t121,.int .i64 t122,.int .i64 0,.int .i64 0,.int .i64 0,.int .i64 0]) ?_ 2 _ rfl;(with_reducible repeat (first|refine blk_drewN ?_ _|refine blk_drew ?_|refine blk_alloc ?_ _));refine blk_put (cs:=#[.int .i64 t121,.int .i64 0,.int .i64 0,.int .i64 0,.int .i64 0,.int .i64 0]) ?_ 1 _ rfl;(with_reducible repeat (first|refine blk_drewN ?_ _|refine blk_drew ?_|refine blk_alloc ?_ _));refine blk_put (cs:=#[.int .i64 0,.int .i64 0,.int .i64 0,.int .i64 0,.int .i64 0,.int .i64 0]) ?_ 0 _ rfl;(with_reducible repeat (first|refine blk_drewN ?_ _|refine blk_drew ?_|refine blk_alloc ?_ _));exact BK128.out⟩
 have n1_:Aside0 (Below w.heap.size w ((((((w31.setCell ⟨gb128,0,none⟩ (.int .i64 t121)).setCell ⟨gb128,1,none⟩ (.int .i64 t122)).setCell ⟨gb128,2,none⟩ (.int .i64 t123)).setCell ⟨gb128,3,none⟩ (.int .i64 t124)).setCell ⟨gb128,4,none⟩ (.int .i64 t125)).setCell ⟨gb128,5,none⟩ (.int .i64 t126))):=⟨bl⟩
 (try clear BK128)
 (try clear HB)
 generalize ((((((w31.setCell ⟨gb128,0,none⟩ (.int .i64 t121)).setCell ⟨gb128,1,none⟩ (.int .i64 t122)).setCell ⟨gb128,2,none⟩ (.int .i64 t123)).setCell ⟨gb128,3,none⟩ (.int .i64 t124)).setCell ⟨gb128,4,none⟩ (.int .i64 t125)).setCell ⟨gb128,5,none⟩ (.int .i64 t126))=w33 at n0_ n1_ ⊢
 have BK128:=n0_
 have HB:=n1_
 clear n0_ n1_
 have n0_:=Aside0.mk (blk_drew BK128.out)
 have n1_:=Aside0.mk (below_drew1 HB.out)
 clear BK128
 clear HB
 have BK128:=n0_
 have HB:=n1_
 clear n0_ n1_
 refine start_ (n:=31) (S:=fun w'=>w'.cell? ⟨gb128,0,none⟩=some (.int .i64 t121)∧w'.cell? ⟨gb128,1,none⟩=some (.int .i64 t122)∧w'.cell? ⟨gb128,2,none⟩=some (.int .i64 t123)∧w'.cell? ⟨gb128,3,none⟩=some (.int .i64 t124)∧w'.cell? ⟨gb128,4,none⟩=some (.int .i64 t125)∧w'.cell? ⟨gb128,5,none⟩=some (.int .i64 t126)) (ds:=[]) #[F,F,F,F,F,F,F,F,F,F,F,F,F,F,F,F,F,F,F,F,F,F,F,F,F,F,F,F,F,F,F] kr rfl rfl ⟨(blk_cell BK128.out 0).trans rfl,(blk_cell BK128.out 1).trans rfl,(blk_cell BK128.out 2).trans rfl,(blk_cell BK128.out 3).trans rfl,(blk_cell BK128.out 4).trans rfl,(blk_cell BK128.out 5).trans rfl⟩ (fun hHeld=>?_);refine with_tabW stowageref4_Http.tab7 stowageref4_Http.bits7 (fun HT_ HW_=>?_)
 generalize w33.drew=w34 at BK128 HB hHeld ⊢
 refine pure_ (i:=0) (N:=some 33) (v:=?_) (a':=?_) #[T,F,F,F,F,F,F,F,F,F,F,F,F,F,F,F,F,F,F,F,F,F,F,F,F,F,F,F,F,F,F] rfl rfl (any_of HT_.out kr) (fun _ _ _ h=>h) (Or.inl ⟨by rfl,?_⟩) ?_ ?_
 rotate_left
 {
 intro w'
 go_simp
 with_reducible rfl
 }
 rotate_left
 {
 simp only [Act.put,l1,l2,l3,i64_w,i32_w]
 rfl
 }
 refine pure_ (i:=1) (N:=some 34) (v:=?_) (a':=?_) #[T,T,F,F,F,F,F,F,F,F,F,F,F,F,F,F,F,F,F,F,F,F,F,F,F,F,F,F,F,F,F] rfl rfl (any_of HT_.out kr) (fun _ _ _ h=>h) (Or.inl ⟨by rfl,?_⟩) ?_ ?_
 rotate_left
 {
 intro w'
 go_simp
 with_reducible rfl
 }
 rotate_left
 {
 simp only [Act.put,l1,l2,l3,i64_w,i32_w]
 rfl
 }
 refine pure_ (i:=2) (N:=some 35) (v:=?_) (a':=?_) #[T,T,T,F,F,F,F,F,F,F,F,F,F,F,F,F,F,F,F,F,F,F,F,F,F,F,F,F,F,F,F] rfl rfl (any_of HT_.out kr) (fun _ _ _ h=>h) (Or.inl ⟨by rfl,?_⟩) ?_ ?_
 rotate_left
 {
 intro w'
 go_simp
 with_reducible rfl
 }
 rotate_left
 {
 simp only [Act.put,l1,l2,l3,i64_w,i32_w]
 rfl
 }
 refine pure_ (i:=7) (N:=some 40) (v:=?_) (a':=?_) #[T,T,T,F,F,F,F,T,F,F,F,F,F,F,F,F,F,F,F,F,F,F,F,F,F,F,F,F,F,F,F] rfl rfl (any_of HT_.out kr) (fun _ _ _ h=>h) (Or.inl ⟨by rfl,?_⟩) ?_ ?_
 rotate_left
 {
 intro w'
 go_simp
 with_reducible rfl
 }
 rotate_left
 {
 simp only [Act.put,l1,l2,l3,i64_w,i32_w]
 rfl
 }
 refine pure_ (i:=10) (N:=some 43) (v:=?_) (a':=?_) #[T,T,T,F,F,F,F,T,F,F,T,F,F,F,F,F,F,F,F,F,F,F,F,F,F,F,F,F,F,F,F] rfl rfl (any_of HT_.out kr) (fun _ _ _ h=>h) (Or.inl ⟨by rfl,?_⟩) ?_ ?_
 rotate_left
 {
 intro w'
 go_simp
 with_reducible rfl
 }
 rotate_left
 {
 simp only [Act.put,l1,l2,l3,i64_w,i32_w]
 rfl
 }
 refine pure_ (i:=15) (N:=some 48) (v:=?_) (a':=?_) #[T,T,T,F,F,F,F,T,F,F,T,F,F,F,F,T,F,F,F,F,F,F,F,F,F,F,F,F,F,F,F] rfl rfl (any_of HT_.out kr) (fun _ _ _ h=>h) (Or.inl ⟨by rfl,?_⟩) ?_ ?_
 rotate_left
 {
 intro w'
 go_simp
 with_reducible rfl
 }
 rotate_left
 {
 simp only [Act.put,l1,l2,l3,i64_w,i32_w]
 rfl
 }
 refine pure_ (i:=20) (N:=some 53) (v:=?_) (a':=?_) #[T,T,T,F,F,F,F,T,F,F,T,F,F,F,F,T,F,F,F,F,T,F,F,F,F,F,F,F,F,F,F] rfl rfl (any_of HT_.out kr) (fun _ _ _ h=>h) (Or.inl ⟨by rfl,?_⟩) ?_ ?_
 rotate_left
 {
 intro w'
 go_simp
 with_reducible rfl
 }
 rotate_left
 {
 simp only [Act.put,l1,l2,l3,i64_w,i32_w]
 rfl
 }
 refine pure_ (i:=25) (N:=some 58) (v:=?_) (a':=?_) #[T,T,T,F,F,F,F,T,F,F,T,F,F,F,F,T,F,F,F,F,T,F,F,F,F,T,F,F,F,F,F] rfl rfl (any_of HT_.out kr) (fun _ _ _ h=>h) (Or.inl ⟨by rfl,?_⟩) ?_ ?_
 rotate_left
 {
 intro w'
 go_simp
 with_reducible rfl
 }
 rotate_left
 {
 simp only [Act.put,l1,l2,l3,i64_w,i32_w]
 rfl
 }
 refine take_ (i:=3) (N:=some 36) (v:=?_) (a':=?_) #[T,T,T,T,F,F,F,T,F,F,T,F,F,F,F,T,F,F,F,F,T,F,F,F,F,T,F,F,F,F,F] rfl rfl (take_ofW HT_.out HW_.out kr) (fun _ _ _ h=>h) (Or.inl ⟨by rfl,?_⟩) hHeld ?_ ?_
 rotate_left
 {
 rintro w' ⟨s0,s1,s2,s3,s4,s5⟩
 go_simp
 with_reducible rfl
 }
 rotate_left
 {
 simp only [Act.put,l1,l2,l3,i64_w,i32_w]
 rfl
 }
 refine take_ (i:=11) (N:=some 44) (v:=?_) (a':=?_) #[T,T,T,T,F,F,F,T,F,F,T,T,F,F,F,T,F,F,F,F,T,F,F,F,F,T,F,F,F,F,F] rfl rfl (take_ofW HT_.out HW_.out kr) (fun _ _ _ h=>h) (Or.inl ⟨by rfl,?_⟩) hHeld ?_ ?_
 rotate_left
 {
 rintro w' ⟨s0,s1,s2,s3,s4,s5⟩
 go_simp
 with_reducible rfl
 }
 rotate_left
 {
 simp only [Act.put,l1,l2,l3,i64_w,i32_w]
 rfl
 }
 refine take_ (i:=16) (N:=some 49) (v:=?_) (a':=?_) #[T,T,T,T,F,F,F,T,F,F,T,T,F,F,F,T,T,F,F,F,T,F,F,F,F,T,F,F,F,F,F] rfl rfl (take_ofW HT_.out HW_.out kr) (fun _ _ _ h=>h) (Or.inl ⟨by rfl,?_⟩) hHeld ?_ ?_
 rotate_left
 {
 rintro w' ⟨s0,s1,s2,s3,s4,s5⟩
 go_simp
 with_reducible rfl
 }
 rotate_left
 {
 simp only [Act.put,l1,l2,l3,i64_w,i32_w]
 rfl
 }
 refine take_ (i:=21) (N:=some 54) (v:=?_) (a':=?_) #[T,T,T,T,F,F,F,T,F,F,T,T,F,F,F,T,T,F,F,F,T,T,F,F,F,T,F,F,F,F,F] rfl rfl (take_ofW HT_.out HW_.out kr) (fun _ _ _ h=>h) (Or.inl ⟨by rfl,?_⟩) hHeld ?_ ?_
 rotate_left
 {
 rintro w' ⟨s0,s1,s2,s3,s4,s5⟩
 go_simp
 with_reducible rfl
 }
 rotate_left
 {
 simp only [Act.put,l1,l2,l3,i64_w,i32_w]
 rfl
 }
 refine take_ (i:=26) (N:=some 59) (v:=?_) (a':=?_) #[T,T,T,T,F,F,F,T,F,F,T,T,F,F,F,T,T,F,F,F,T,T,F,F,F,T,T,F,F,F,F] rfl rfl (take_ofW HT_.out HW_.out kr) (fun _ _ _ h=>h) (Or.inl ⟨by rfl,?_⟩) hHeld ?_ ?_
 rotate_left
 {
 rintro w' ⟨s0,s1,s2,s3,s4,s5⟩
 go_simp
 with_reducible rfl
 }
 rotate_left
 {
 simp only [Act.put,l1,l2,l3,i64_w,i32_w]
 rfl
 }
 refine one_ (i:=4) (N:=some 37) #[T,T,T,T,T,F,F,T,F,F,T,T,F,F,F,T,T,F,F,F,T,T,F,F,F,T,T,F,F,F,F] rfl rfl (one_of HT_.out kr) (by decide) (fun K hK=>?_)
 refine goes_ Tryd.func39 kr rfl #[.int .i64 t123,.int .i64 2] (by rfl) rfl rfl am ?_
 with_reducible refine(stowageref4_wide.calls k t123 2 t129 _ A13.out).mono ?_
 rintro e w' ⟨rfl,⟨nd,rfl⟩⟩
 refine⟨_,rfl,?_⟩
 refine hK.out _ _ ⟨(blk_cell BK128.out 0).trans rfl,(blk_cell BK128.out 1).trans rfl,(blk_cell BK128.out 2).trans rfl,(blk_cell BK128.out 3).trans rfl,(blk_cell BK128.out 4).trans rfl,(blk_cell BK128.out 5).trans rfl⟩ (fun hHeld=>?_)
 clear hK K
 refine norm_ (a':=?_) ?_ ?_
 rotate_left
 {
 show Act.put _ (some 37) _=_
 simp only [Act.put,l1,l2,l3,i64_w,i32_w]
 rfl
 }
 refine pure_ (i:=5) (N:=some 38) (v:=?_) (a':=?_) #[T,T,T,T,T,T,F,T,F,F,T,T,F,F,F,T,T,F,F,F,T,T,F,F,F,T,T,F,F,F,F] rfl rfl (any_of HT_.out kr) (fun _ _ _ h=>h) (Or.inl ⟨by rfl,?_⟩) ?_ ?_
 rotate_left
 {
 intro w'
 go_simp
 with_reducible rfl
 }
 rotate_left
 {
 simp only [Act.put,l1,l2,l3,i64_w,i32_w]
 rfl
 }
 refine pure_ (i:=6) (N:=some 39) (v:=?_) (a':=?_) #[T,T,T,T,T,T,T,T,F,F,T,T,F,F,F,T,T,F,F,F,T,T,F,F,F,T,T,F,F,F,F] rfl rfl (any_of HT_.out kr) (fun _ _ _ h=>h) (Or.inl ⟨by rfl,?_⟩) ?_ ?_
 rotate_left
 {
 intro w'
 go_simp
 with_reducible rfl
 }
 rotate_left
 {
 simp only [Act.put,l1,l2,l3,i64_w,i32_w]
 rfl
 }
 refine pure_ (i:=8) (N:=some 41) (v:=?_) (a':=?_) #[T,T,T,T,T,T,T,T,T,F,T,T,F,F,F,T,T,F,F,F,T,T,F,F,F,T,T,F,F,F,F] rfl rfl (any_of HT_.out kr) (fun _ _ _ h=>h) (Or.inl ⟨by rfl,?_⟩) ?_ ?_
 rotate_left
 {
 intro w'
 go_simp
 with_reducible rfl
 }
 rotate_left
 {
 simp only [Act.put,l1,l2,l3,i64_w,i32_w]
 rfl
 }
 refine pure_ (i:=9) (N:=some 42) (v:=?_) (a':=?_) #[T,T,T,T,T,T,T,T,T,T,T,T,F,F,F,T,T,F,F,F,T,T,F,F,F,T,T,F,F,F,F] rfl rfl (any_of HT_.out kr) (fun _ _ _ h=>h) (Or.inl ⟨by rfl,?_⟩) ?_ ?_
 rotate_left
 {
 intro w'
 go_simp
 with_reducible rfl
 }
 rotate_left
 {
 simp only [Act.put,l1,l2,l3,i64_w,i32_w]
 rfl
 }
 refine one_ (i:=12) (N:=some 45) #[T,T,T,T,T,T,T,T,T,T,T,T,T,F,F,T,T,F,F,F,T,T,F,F,F,T,T,F,F,F,F] rfl rfl (one_of HT_.out kr) (by decide) (fun K hK=>?_)
 refine goes_ Tryd.func39 kr rfl #[.int .i64 t121,.int .i64 4] (by rfl) rfl rfl am ?_
 with_reducible refine(stowageref4_wide.calls k t121 4 t130 _ A18.out).mono ?_
 rintro e w' ⟨rfl,⟨nd,rfl⟩⟩
 refine⟨_,rfl,?_⟩
 refine hK.out _ _ ⟨(blk_cell BK128.out 0).trans rfl,(blk_cell BK128.out 1).trans rfl,(blk_cell BK128.out 2).trans rfl,(blk_cell BK128.out 3).trans rfl,(blk_cell BK128.out 4).trans rfl,(blk_cell BK128.out 5).trans rfl⟩ (fun hHeld=>?_)
 clear hK K
 refine norm_ (a':=?_) ?_ ?_
 rotate_left
 {
 show Act.put _ (some 45) _=_
 simp only [Act.put,l1,l2,l3,i64_w,i32_w]
 rfl
 }
 refine pure_ (i:=13) (N:=some 46) (v:=?_) (a':=?_) #[T,T,T,T,T,T,T,T,T,T,T,T,T,T,F,T,T,F,F,F,T,T,F,F,F,T,T,F,F,F,F] rfl rfl (any_of HT_.out kr) (fun _ _ _ h=>h) (Or.inl ⟨by rfl,?_⟩) ?_ ?_
 rotate_left
 {
 intro w'
 go_simp
 with_reducible rfl
 }
 rotate_left
 {
 simp only [Act.put,l1,l2,l3,i64_w,i32_w]
 rfl
 }
 refine pure_ (i:=14) (N:=some 47) (v:=?_) (a':=?_) #[T,T,T,T,T,T,T,T,T,T,T,T,T,T,T,T,T,F,F,F,T,T,F,F,F,T,T,F,F,F,F] rfl rfl (any_of HT_.out kr) (fun _ _ _ h=>h) (Or.inl ⟨by rfl,?_⟩) ?_ ?_
 rotate_left
 {
 intro w'
 go_simp
 with_reducible rfl
 }
 rotate_left
 {
 simp only [Act.put,l1,l2,l3,i64_w,i32_w]
 rfl
 }
 refine one_ (i:=17) (N:=some 50) #[T,T,T,T,T,T,T,T,T,T,T,T,T,T,T,T,T,T,F,F,T,T,F,F,F,T,T,F,F,F,F] rfl rfl (one_of HT_.out kr) (by decide) (fun K hK=>?_)
 refine goes_ Tryd.func39 kr rfl #[.int .i64 t124,.int .i64 2] (by rfl) rfl rfl am ?_
 with_reducible refine(stowageref4_wide.calls k t124 2 t131 _ A21.out).mono ?_
 rintro e w' ⟨rfl,⟨nd,rfl⟩⟩
 refine⟨_,rfl,?_⟩
 refine hK.out _ _ ⟨(blk_cell BK128.out 0).trans rfl,(blk_cell BK128.out 1).trans rfl,(blk_cell BK128.out 2).trans rfl,(blk_cell BK128.out 3).trans rfl,(blk_cell BK128.out 4).trans rfl,(blk_cell BK128.out 5).trans rfl⟩ (fun hHeld=>?_)
 clear hK K
 refine norm_ (a':=?_) ?_ ?_
 rotate_left
 {
 show Act.put _ (some 50) _=_
 simp only [Act.put,l1,l2,l3,i64_w,i32_w]
 rfl
 }
 refine pure_ (i:=18) (N:=some 51) (v:=?_) (a':=?_) #[T,T,T,T,T,T,T,T,T,T,T,T,T,T,T,T,T,T,T,F,T,T,F,F,F,T,T,F,F,F,F] rfl rfl (any_of HT_.out kr) (fun _ _ _ h=>h) (Or.inl ⟨by rfl,?_⟩) ?_ ?_
 rotate_left
 {
 intro w'
 go_simp
 with_reducible rfl
 }
 rotate_left
 {
 simp only [Act.put,l1,l2,l3,i64_w,i32_w]
 rfl
 }
 refine pure_ (i:=19) (N:=some 52) (v:=?_) (a':=?_) #[T,T,T,T,T,T,T,T,T,T,T,T,T,T,T,T,T,T,T,T,T,T,F,F,F,T,T,F,F,F,F] rfl rfl (any_of HT_.out kr) (fun _ _ _ h=>h) (Or.inl ⟨by rfl,?_⟩) ?_ ?_
 rotate_left
 {
 intro w'
 go_simp
 with_reducible rfl
 }
 rotate_left
 {
 simp only [Act.put,l1,l2,l3,i64_w,i32_w]
 rfl
 }
 refine one_ (i:=22) (N:=some 55) #[T,T,T,T,T,T,T,T,T,T,T,T,T,T,T,T,T,T,T,T,T,T,T,F,F,T,T,F,F,F,F] rfl rfl (one_of HT_.out kr) (by decide) (fun K hK=>?_)
 refine goes_ Tryd.func39 kr rfl #[.int .i64 t125,.int .i64 2] (by rfl) rfl rfl am ?_
 with_reducible refine(stowageref4_wide.calls k t125 2 t132 _ A24.out).mono ?_
 rintro e w' ⟨rfl,⟨nd,rfl⟩⟩
 refine⟨_,rfl,?_⟩
 refine hK.out _ _ ⟨(blk_cell BK128.out 0).trans rfl,(blk_cell BK128.out 1).trans rfl,(blk_cell BK128.out 2).trans rfl,(blk_cell BK128.out 3).trans rfl,(blk_cell BK128.out 4).trans rfl,(blk_cell BK128.out 5).trans rfl⟩ (fun hHeld=>?_)
 clear hK K
 refine norm_ (a':=?_) ?_ ?_
 rotate_left
 {
 show Act.put _ (some 55) _=_
 simp only [Act.put,l1,l2,l3,i64_w,i32_w]
 rfl
 }
 refine pure_ (i:=23) (N:=some 56) (v:=?_) (a':=?_) #[T,T,T,T,T,T,T,T,T,T,T,T,T,T,T,T,T,T,T,T,T,T,T,T,F,T,T,F,F,F,F] rfl rfl (any_of HT_.out kr) (fun _ _ _ h=>h) (Or.inl ⟨by rfl,?_⟩) ?_ ?_
 rotate_left
 {
 intro w'
 go_simp
 with_reducible rfl
 }
 rotate_left
 {
 simp only [Act.put,l1,l2,l3,i64_w,i32_w]
 rfl
 }
 refine pure_ (i:=24) (N:=some 57) (v:=?_) (a':=?_) #[T,T,T,T,T,T,T,T,T,T,T,T,T,T,T,T,T,T,T,T,T,T,T,T,T,T,T,F,F,F,F] rfl rfl (any_of HT_.out kr) (fun _ _ _ h=>h) (Or.inl ⟨by rfl,?_⟩) ?_ ?_
 rotate_left
 {
 intro w'
 go_simp
 with_reducible rfl
 }
 rotate_left
 {
 simp only [Act.put,l1,l2,l3,i64_w,i32_w]
 rfl
 }
 refine one_ (i:=27) (N:=some 60) #[T,T,T,T,T,T,T,T,T,T,T,T,T,T,T,T,T,T,T,T,T,T,T,T,T,T,T,T,F,F,F] rfl rfl (one_of HT_.out kr) (by decide) (fun K hK=>?_)
 refine goes_ Tryd.func39 kr rfl #[.int .i64 t126,.int .i64 2] (by rfl) rfl rfl am ?_
 with_reducible refine(stowageref4_wide.calls k t126 2 t133 _ A27.out).mono ?_
 rintro e w' ⟨rfl,⟨nd,rfl⟩⟩
 refine⟨_,rfl,?_⟩
 refine hK.out _ _ ⟨(blk_cell BK128.out 0).trans rfl,(blk_cell BK128.out 1).trans rfl,(blk_cell BK128.out 2).trans rfl,(blk_cell BK128.out 3).trans rfl,(blk_cell BK128.out 4).trans rfl,(blk_cell BK128.out 5).trans rfl⟩ (fun hHeld=>?_)
 clear hK K
 refine norm_ (a':=?_) ?_ ?_
 rotate_left
 {
 show Act.put _ (some 60) _=_
 simp only [Act.put,l1,l2,l3,i64_w,i32_w]
 rfl
 }
 refine pure_ (i:=28) (N:=some 61) (v:=?_) (a':=?_) #[T,T,T,T,T,T,T,T,T,T,T,T,T,T,T,T,T,T,T,T,T,T,T,T,T,T,T,T,T,F,F] rfl rfl (any_of HT_.out kr) (fun _ _ _ h=>h) (Or.inl ⟨by rfl,?_⟩) ?_ ?_
 rotate_left
 {
 intro w'
 go_simp
 with_reducible rfl
 }
 rotate_left
 {
 simp only [Act.put,l1,l2,l3,i64_w,i32_w]
 rfl
 }
 refine pure_ (i:=29) (N:=some 62) (v:=?_) (a':=?_) #[T,T,T,T,T,T,T,T,T,T,T,T,T,T,T,T,T,T,T,T,T,T,T,T,T,T,T,T,T,T,F] rfl rfl (any_of HT_.out kr) (fun _ _ _ h=>h) (Or.inl ⟨by rfl,?_⟩) ?_ ?_
 rotate_left
 {
 intro w'
 go_simp
 with_reducible rfl
 }
 rotate_left
 {
 simp only [Act.put,l1,l2,l3,i64_w,i32_w]
 rfl
 }
 refine pure_ (i:=30) (N:=some 2) (v:=?_) (a':=?_) #[T,T,T,T,T,T,T,T,T,T,T,T,T,T,T,T,T,T,T,T,T,T,T,T,T,T,T,T,T,T,T] rfl rfl (any_of HT_.out kr) (fun _ _ _ h=>h) (Or.inl ⟨by rfl,?_⟩) ?_ ?_
 rotate_left
 {
 intro w'
 go_simp
 with_reducible rfl
 }
 rotate_left
 {
 simp only [Act.put,l1,l2,l3,i64_w,i32_w]
 rfl
 }
 refine done_ (done_of HT_.out kr) ?_
 try go_wp2
 go_ret
 exact⟨by first|rfl|(simp [errW_none,errW_some] <;> rfl)|(simp only [← hji4,← hji8];first|rfl|(simp [errW_none,errW_some] <;> rfl))|(simp [*,errW_none,errW_some] <;> rfl),bl⟩
 }
 ·exact absurd H (by simp)
 }
 ·exact absurd H (by simp)
 }
 ·exact absurd H (by simp)
 }
 ·exact absurd H (by simp)
 }
 ·exact absurd H (by simp)
 }
 ·exact absurd H (by simp)
 }
 ·exact absurd H (by simp)
 }
 ·exact absurd H (by simp)
 }
 ·exact absurd H (by simp)
 }
 ·exact absurd H (by simp)
 }
 ·exact absurd H (by simp)
 }
 ·exact absurd H (by simp)
 }
 ·exact absurd H (by simp)
 }
 ·exact absurd H (by simp)
 }
 ·exact absurd H (by simp)
 }
 ·exact absurd H (by simp)
 }
 ·exact absurd H (by simp)
 }
 ·exact absurd H (by simp)
 }
 ·exact absurd H (by simp)
 }
 {
 replace c3:=Bool.eq_false_iff.mpr c3
 subst c3
 replace H:=itF H
 obtain rfl:=Option.some.inj H
 go_enter Tryd.func22,Tryd.ntmps22
 go_wp2_with (first|((with_reducible refine gate_callee (f:=38) rfl ?_);refine goesL_ (some 10) rfl rfl Tryd.func38 kr rfl #[.int .i64 a0] rfl am ?_;(with_reducible refine(stowageref4_Civil.calls k a0 t121 t122 t123 t124 t125 t126 false _ A2.out).mono ?_);rintro e w35 ⟨rfl,hb⟩;refine⟨_,rfl,?_⟩;replace HB:=Aside0.mk (below_step bl hb))|((with_reducible refine gate_dst (N:=3) rfl ?_);refine box_event ?hg (N:=3) ?hd (cs:=#[.int .i64 0,.int .i64 0,.int .i64 0,.int .i64 0,.int .i64 0,.int .i64 0]) (t:=85) ?hr ?_;(case hd=>rfl);(case hg=>rfl);(case hr=>first|(go_simp;done)|(go_simp;rfl));intro gb128 hg w36 hbox hb;have BK128:=Aside0.mk (hbox);have GW128:=Aside0.mk ((by rw [hg];exact(below_size bl):w.heap.size≤gb128));have GE128:=Aside0.mk ((by rw [hg];exact(below_size bl):w.heap.size≤gb128));replace HB:=Aside0.mk (below_step bl hb);clear hb hbox hg;obtain⟨_,_,_,_,_,_,_,_,_,_,_,_⟩:=bc6 BK128.out))
 go_ret
 exact⟨ew,bl⟩
 }
end Go.Proofs.YtfjidcmegacibaaDoor.Q
