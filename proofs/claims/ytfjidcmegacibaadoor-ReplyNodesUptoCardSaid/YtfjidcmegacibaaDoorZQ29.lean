/- A part of the proof of the seat's laws. No condition beyond those in the theorems. -/
import Derived.Test.YtfjidcmegacibaaDoorZQ0g11
open Bool renaming true→T,false→F

namespace Go.Proofs.YtfjidcmegacibaaDoor.Q
open Go.RowKit Go.Proofs.YtfjidcmegacibaaDoorW.PrintWords Go.Proofs.YtfjidcmegacibaaDoorW.PrintLast Go.Proofs.YtfjidcmegacibaaDoorW.PrintMore
set_option linter.unusedVariables false
set_option linter.unusedSimpArgs false
set_option maxHeartbeats 8000000
set_option maxRecDepth 100000
attribute [local go_sem] max2_int min2_int max_two min_two max_three min_three max_four min_four   
def when_Http.f (k:Nat) (a0:Int):Option (ByteArray):=(when_Civil.f k a0).bind fun bt133=>(if bt133.2.2.2.2.2.2=true then(if 0≤(wrap64 ((Int.tmod (wrap64 (Int.tdiv a0 86400)) 7)*3)) then(if(wrap64 ((Int.tmod (wrap64 (Int.tdiv a0 86400)) 7)*3))≤(wrap64 ((wrap64 ((Int.tmod (wrap64 (Int.tdiv a0 86400)) 7)*3))+3)) then(if(wrap64 ((wrap64 ((Int.tmod (wrap64 (Int.tdiv a0 86400)) 7)*3))+3))≤21 then(if((⟨#[84,104,117,70,114,105,83,97,116,83,117,110,77,111,110,84,117,101,87,101,100]⟩ : ByteArray).extract ((wrap64 ((Int.tmod (wrap64 (Int.tdiv a0 86400)) 7)*3)):Int).toNat ((wrap64 ((wrap64 ((Int.tmod (wrap64 (Int.tdiv a0 86400)) 7)*3))+3)):Int).toNat).size+2≤9223372036854775807 then((when_put.f k bt133.2.2.1 2).bind fun t140=>(if(((⟨#[84,104,117,70,114,105,83,97,116,83,117,110,77,111,110,84,117,101,87,101,100]⟩ : ByteArray).extract ((wrap64 ((Int.tmod (wrap64 (Int.tdiv a0 86400)) 7)*3)):Int).toNat ((wrap64 ((wrap64 ((Int.tmod (wrap64 (Int.tdiv a0 86400)) 7)*3))+3)):Int).toNat)++(⟨#[44,32]⟩ : ByteArray)).size+t140.size≤9223372036854775807 then(if((((⟨#[84,104,117,70,114,105,83,97,116,83,117,110,77,111,110,84,117,101,87,101,100]⟩ : ByteArray).extract ((wrap64 ((Int.tmod (wrap64 (Int.tdiv a0 86400)) 7)*3)):Int).toNat ((wrap64 ((wrap64 ((Int.tmod (wrap64 (Int.tdiv a0 86400)) 7)*3))+3)):Int).toNat)++(⟨#[44,32]⟩ : ByteArray))++t140).size+1≤9223372036854775807 then(if 0≤(wrap64 ((wrap64 (3*bt133.2.1))-3)) then(if(wrap64 ((wrap64 (3*bt133.2.1))-3))≤(wrap64 (3*bt133.2.1)) then(if(wrap64 (3*bt133.2.1))≤36 then(if(((((⟨#[84,104,117,70,114,105,83,97,116,83,117,110,77,111,110,84,117,101,87,101,100]⟩ : ByteArray).extract ((wrap64 ((Int.tmod (wrap64 (Int.tdiv a0 86400)) 7)*3)):Int).toNat ((wrap64 ((wrap64 ((Int.tmod (wrap64 (Int.tdiv a0 86400)) 7)*3))+3)):Int).toNat)++(⟨#[44,32]⟩ : ByteArray))++t140)++(⟨#[32]⟩ : ByteArray)).size+((⟨#[74,97,110,70,101,98,77,97,114,65,112,114,77,97,121,74,117,110,74,117,108,65,117,103,83,101,112,79,99,116,78,111,118,68,101,99]⟩ : ByteArray).extract ((wrap64 ((wrap64 (3*bt133.2.1))-3)):Int).toNat ((wrap64 (3*bt133.2.1)):Int).toNat).size≤9223372036854775807 then(if((((((⟨#[84,104,117,70,114,105,83,97,116,83,117,110,77,111,110,84,117,101,87,101,100]⟩ : ByteArray).extract ((wrap64 ((Int.tmod (wrap64 (Int.tdiv a0 86400)) 7)*3)):Int).toNat ((wrap64 ((wrap64 ((Int.tmod (wrap64 (Int.tdiv a0 86400)) 7)*3))+3)):Int).toNat)++(⟨#[44,32]⟩ : ByteArray))++t140)++(⟨#[32]⟩ : ByteArray))++((⟨#[74,97,110,70,101,98,77,97,114,65,112,114,77,97,121,74,117,110,74,117,108,65,117,103,83,101,112,79,99,116,78,111,118,68,101,99]⟩ : ByteArray).extract ((wrap64 ((wrap64 (3*bt133.2.1))-3)):Int).toNat ((wrap64 (3*bt133.2.1)):Int).toNat)).size+1≤9223372036854775807 then((when_put.f k bt133.1 4).bind fun t141=>(if(((((((⟨#[84,104,117,70,114,105,83,97,116,83,117,110,77,111,110,84,117,101,87,101,100]⟩ : ByteArray).extract ((wrap64 ((Int.tmod (wrap64 (Int.tdiv a0 86400)) 7)*3)):Int).toNat ((wrap64 ((wrap64 ((Int.tmod (wrap64 (Int.tdiv a0 86400)) 7)*3))+3)):Int).toNat)++(⟨#[44,32]⟩ : ByteArray))++t140)++(⟨#[32]⟩ : ByteArray))++((⟨#[74,97,110,70,101,98,77,97,114,65,112,114,77,97,121,74,117,110,74,117,108,65,117,103,83,101,112,79,99,116,78,111,118,68,101,99]⟩ : ByteArray).extract ((wrap64 ((wrap64 (3*bt133.2.1))-3)):Int).toNat ((wrap64 (3*bt133.2.1)):Int).toNat))++(⟨#[32]⟩ : ByteArray)).size+t141.size≤9223372036854775807 then(if((((((((⟨#[84,104,117,70,114,105,83,97,116,83,117,110,77,111,110,84,117,101,87,101,100]⟩ : ByteArray).extract ((wrap64 ((Int.tmod (wrap64 (Int.tdiv a0 86400)) 7)*3)):Int).toNat ((wrap64 ((wrap64 ((Int.tmod (wrap64 (Int.tdiv a0 86400)) 7)*3))+3)):Int).toNat)++(⟨#[44,32]⟩ : ByteArray))++t140)++(⟨#[32]⟩ : ByteArray))++((⟨#[74,97,110,70,101,98,77,97,114,65,112,114,77,97,121,74,117,110,74,117,108,65,117,103,83,101,112,79,99,116,78,111,118,68,101,99]⟩ : ByteArray).extract ((wrap64 ((wrap64 (3*bt133.2.1))-3)):Int).toNat ((wrap64 (3*bt133.2.1)):Int).toNat))++(⟨#[32]⟩ : ByteArray))++t141).size+1≤9223372036854775807 then((when_put.f k bt133.2.2.2.1 2).bind fun t142=>(if(((((((((⟨#[84,104,117,70,114,105,83,97,116,83,117,110,77,111,110,84,117,101,87,101,100]⟩ : ByteArray).extract ((wrap64 ((Int.tmod (wrap64 (Int.tdiv a0 86400)) 7)*3)):Int).toNat ((wrap64 ((wrap64 ((Int.tmod (wrap64 (Int.tdiv a0 86400)) 7)*3))+3)):Int).toNat)++(⟨#[44,32]⟩ : ByteArray))++t140)++(⟨#[32]⟩ : ByteArray))++((⟨#[74,97,110,70,101,98,77,97,114,65,112,114,77,97,121,74,117,110,74,117,108,65,117,103,83,101,112,79,99,116,78,111,118,68,101,99]⟩ : ByteArray).extract ((wrap64 ((wrap64 (3*bt133.2.1))-3)):Int).toNat ((wrap64 (3*bt133.2.1)):Int).toNat))++(⟨#[32]⟩ : ByteArray))++t141)++(⟨#[32]⟩ : ByteArray)).size+t142.size≤9223372036854775807 then(if((((((((((⟨#[84,104,117,70,114,105,83,97,116,83,117,110,77,111,110,84,117,101,87,101,100]⟩ : ByteArray).extract ((wrap64 ((Int.tmod (wrap64 (Int.tdiv a0 86400)) 7)*3)):Int).toNat ((wrap64 ((wrap64 ((Int.tmod (wrap64 (Int.tdiv a0 86400)) 7)*3))+3)):Int).toNat)++(⟨#[44,32]⟩ : ByteArray))++t140)++(⟨#[32]⟩ : ByteArray))++((⟨#[74,97,110,70,101,98,77,97,114,65,112,114,77,97,121,74,117,110,74,117,108,65,117,103,83,101,112,79,99,116,78,111,118,68,101,99]⟩ : ByteArray).extract ((wrap64 ((wrap64 (3*bt133.2.1))-3)):Int).toNat ((wrap64 (3*bt133.2.1)):Int).toNat))++(⟨#[32]⟩ : ByteArray))++t141)++(⟨#[32]⟩ : ByteArray))++t142).size+1≤9223372036854775807 then((when_put.f k bt133.2.2.2.2.1 2).bind fun t143=>(if(((((((((((⟨#[84,104,117,70,114,105,83,97,116,83,117,110,77,111,110,84,117,101,87,101,100]⟩ : ByteArray).extract ((wrap64 ((Int.tmod (wrap64 (Int.tdiv a0 86400)) 7)*3)):Int).toNat ((wrap64 ((wrap64 ((Int.tmod (wrap64 (Int.tdiv a0 86400)) 7)*3))+3)):Int).toNat)++(⟨#[44,32]⟩ : ByteArray))++t140)++(⟨#[32]⟩ : ByteArray))++((⟨#[74,97,110,70,101,98,77,97,114,65,112,114,77,97,121,74,117,110,74,117,108,65,117,103,83,101,112,79,99,116,78,111,118,68,101,99]⟩ : ByteArray).extract ((wrap64 ((wrap64 (3*bt133.2.1))-3)):Int).toNat ((wrap64 (3*bt133.2.1)):Int).toNat))++(⟨#[32]⟩ : ByteArray))++t141)++(⟨#[32]⟩ : ByteArray))++t142)++(⟨#[58]⟩ : ByteArray)).size+t143.size≤9223372036854775807 then(if((((((((((((⟨#[84,104,117,70,114,105,83,97,116,83,117,110,77,111,110,84,117,101,87,101,100]⟩ : ByteArray).extract ((wrap64 ((Int.tmod (wrap64 (Int.tdiv a0 86400)) 7)*3)):Int).toNat ((wrap64 ((wrap64 ((Int.tmod (wrap64 (Int.tdiv a0 86400)) 7)*3))+3)):Int).toNat)++(⟨#[44,32]⟩ : ByteArray))++t140)++(⟨#[32]⟩ : ByteArray))++((⟨#[74,97,110,70,101,98,77,97,114,65,112,114,77,97,121,74,117,110,74,117,108,65,117,103,83,101,112,79,99,116,78,111,118,68,101,99]⟩ : ByteArray).extract ((wrap64 ((wrap64 (3*bt133.2.1))-3)):Int).toNat ((wrap64 (3*bt133.2.1)):Int).toNat))++(⟨#[32]⟩ : ByteArray))++t141)++(⟨#[32]⟩ : ByteArray))++t142)++(⟨#[58]⟩ : ByteArray))++t143).size+1≤9223372036854775807 then((when_put.f k bt133.2.2.2.2.2.1 2).bind fun t144=>(if(((((((((((((⟨#[84,104,117,70,114,105,83,97,116,83,117,110,77,111,110,84,117,101,87,101,100]⟩ : ByteArray).extract ((wrap64 ((Int.tmod (wrap64 (Int.tdiv a0 86400)) 7)*3)):Int).toNat ((wrap64 ((wrap64 ((Int.tmod (wrap64 (Int.tdiv a0 86400)) 7)*3))+3)):Int).toNat)++(⟨#[44,32]⟩ : ByteArray))++t140)++(⟨#[32]⟩ : ByteArray))++((⟨#[74,97,110,70,101,98,77,97,114,65,112,114,77,97,121,74,117,110,74,117,108,65,117,103,83,101,112,79,99,116,78,111,118,68,101,99]⟩ : ByteArray).extract ((wrap64 ((wrap64 (3*bt133.2.1))-3)):Int).toNat ((wrap64 (3*bt133.2.1)):Int).toNat))++(⟨#[32]⟩ : ByteArray))++t141)++(⟨#[32]⟩ : ByteArray))++t142)++(⟨#[58]⟩ : ByteArray))++t143)++(⟨#[58]⟩ : ByteArray)).size+t144.size≤9223372036854775807 then(if((((((((((((((⟨#[84,104,117,70,114,105,83,97,116,83,117,110,77,111,110,84,117,101,87,101,100]⟩ : ByteArray).extract ((wrap64 ((Int.tmod (wrap64 (Int.tdiv a0 86400)) 7)*3)):Int).toNat ((wrap64 ((wrap64 ((Int.tmod (wrap64 (Int.tdiv a0 86400)) 7)*3))+3)):Int).toNat)++(⟨#[44,32]⟩ : ByteArray))++t140)++(⟨#[32]⟩ : ByteArray))++((⟨#[74,97,110,70,101,98,77,97,114,65,112,114,77,97,121,74,117,110,74,117,108,65,117,103,83,101,112,79,99,116,78,111,118,68,101,99]⟩ : ByteArray).extract ((wrap64 ((wrap64 (3*bt133.2.1))-3)):Int).toNat ((wrap64 (3*bt133.2.1)):Int).toNat))++(⟨#[32]⟩ : ByteArray))++t141)++(⟨#[32]⟩ : ByteArray))++t142)++(⟨#[58]⟩ : ByteArray))++t143)++(⟨#[58]⟩ : ByteArray))++t144).size+4≤9223372036854775807 then(some (((((((((((((((⟨#[84,104,117,70,114,105,83,97,116,83,117,110,77,111,110,84,117,101,87,101,100]⟩ : ByteArray).extract ((wrap64 ((Int.tmod (wrap64 (Int.tdiv a0 86400)) 7)*3)):Int).toNat ((wrap64 ((wrap64 ((Int.tmod (wrap64 (Int.tdiv a0 86400)) 7)*3))+3)):Int).toNat)++(⟨#[44,32]⟩ : ByteArray))++t140)++(⟨#[32]⟩ : ByteArray))++((⟨#[74,97,110,70,101,98,77,97,114,65,112,114,77,97,121,74,117,110,74,117,108,65,117,103,83,101,112,79,99,116,78,111,118,68,101,99]⟩ : ByteArray).extract ((wrap64 ((wrap64 (3*bt133.2.1))-3)):Int).toNat ((wrap64 (3*bt133.2.1)):Int).toNat))++(⟨#[32]⟩ : ByteArray))++t141)++(⟨#[32]⟩ : ByteArray))++t142)++(⟨#[58]⟩ : ByteArray))++t143)++(⟨#[58]⟩ : ByteArray))++t144)++(⟨#[32,71,77,84]⟩ : ByteArray))) else(none)) else(none))) else(none)) else(none))) else(none)) else(none))) else(none)) else(none))) else(none)) else(none)) else(none)) else(none)) else(none)) else(none)) else(none))) else(none)) else(none)) else(none)) else(none)) else(some (⟨#[]⟩ : ByteArray)))
theorem when_Http.mono:∀ a0 k,LeO (when_Http.f k a0) (when_Http.f (k+1) a0):=by
 intro a0 k
 unfold when_Http.f
 repeat' first
   | (with_reducible exact when_Civil.mono _ _)
   | (with_reducible exact when_put.mono _ _ _)
   | (with_reducible exact LeO.refl _)
   | (with_reducible exact LeO.none _)
   | (with_reducible refine LeO.ite ?_ ?_)
   | (with_reducible refine LeO.bind ?_ (fun _=>?_))
   | exact when_Civil.mono _ _
   | exact when_put.mono _ _ _
   | exact LeO.none _
   | refine LeO.ite ?_ ?_
   | refine LeO.bind ?_ (fun _=>?_)
def when_Http.T5:Bool×List (List Nat×List Nat):=(true,[([],[]),([],[]),([1],[1]),([0,2],[0,2]),([3],[3]),([],[]),([5],[5]),([4,6],[4,6]),([7],[7]),([],[]),([9],[9]),([10],[10]),([],[]),([12],[12]),([11,13],[11,13]),([8,14],[8,14]),([15],[15]),([],[]),([17,6],[17]),([16,18],[16,18]),([19],[19]),([],[]),([21,18],[21]),([20,22],[20,22]),([23],[23]),([],[]),([25,22],[25]),([24,26],[24,26]),([27],[27]),([],[]),([29,26],[29]),([28,30],[28,30]),([31],[31]),([32,30,0,1,2,3,4,5,6,7,8,9,10,11,12,13,14,15,16,17,18,19,20,21,22,23,24,25,26,27,28,29,30,31,32],[32])])
def when_Http.B5:List Nat:=[0,0,2,7,15,0,32,127,255,0,512,1536,0,4096,15872,32767,65535,0,131168,524287,1048575,0,2490464,8388607,16777215,0,40239200,134217727,268435455,0,644218976,2147483647,4294967295,8589934591]
theorem when_Http.tab5:rtab .any (opsOf Tryd.f31 5)=when_Http.T5:=by kernel_rfl
theorem when_Http.bits5:waitsOk when_Http.T5.2 when_Http.B5=true:=by kernel_rfl
theorem when_Http.calls (k:Nat) (a0:Int) (r:ByteArray) (w:World) (h:when_Http.f k a0=some r) :
  Calls Tryd.prog 31 #[.int .i64 a0] w fun e w'=>e = .returned (.string r)∧Below w.heap.size w w':=by
 have HB:=Aside0.mk (Below.refl w.heap.size w)
 unfold when_Http.f at h
 have H:=h
 clear h
 replace H:=bndO H
 obtain⟨⟨t133,t134,t135,t136,t137,t138,t139⟩,A20,H⟩:=H
 dsimp only at H
 have A2:=Aside0.mk A20
 clear A20
 by_cases c3:t139=true
 ·subst c3
  replace H:=itT H
  obtain⟨ji4,hji4⟩ : ∃ j_:Int,(wrap64 ((Int.tmod (wrap64 (Int.tdiv a0 86400)) 7)*3))=j_:=⟨_,rfl⟩
  first|rw [hji4] at H|simp only [hji4] at H
  (try rw [hji4] at A2)
  have hji4w:(IntKind.i64.wrap ((Int.tmod (wrap64 (Int.tdiv a0 86400)) 7)*3))=ji4:=(i64_w _).trans hji4
  replace H:=itO H
  rcases H with⟨c5,H⟩|⟨c5,H⟩
  ·skip
   have c5b0:=eq_true c5
   have c5b1:=decide_eq_true c5
   clear c5
   replace H:=itO H
   rcases H with⟨c6,H⟩|⟨c6,H⟩
   ·skip
    have c6b0:=eq_true c6
    have c6b1:=decide_eq_true c6
    replace H:=itO H
    rcases H with⟨c7,H⟩|⟨c7,H⟩
    ·skip
     have c7b0:=eq_true c7
     have c7b1:=decide_eq_true c7
     replace H:=itO H
     rcases H with⟨c8,H⟩|⟨c8,H⟩
     ·skip
      have c8b0:=eq_true c8
      have c8b1:=decide_eq_true c8
      try have c8b2:=eq_false (Nat.not_lt.2 c8)
      try (have c8n:(min (((wrap64 ((ji4)+3)):Int).toNat) 21-(((ji4):Int).toNat))+2≤9223372036854775807:=by have h_:=c8;simp only [ByteArray.size_append,ByteArray.size_extract] at h_;exact h_)
      try have c8f:(9223372036854775807<(((wrap64 ((ji4)+3)):Int).toNat-((ji4):Int).toNat)+2)=False:=eq_false (by first|omega|(simp only [eq_iff_iff,iff_true] at *;omega))
      replace H:=bndO H
      obtain⟨t140,A90,H⟩:=H
      have A9:=Aside0.mk A90
      clear A90
      replace H:=itO H
      rcases H with⟨c10,H⟩|⟨c10,H⟩
      ·skip
       have c10b0:=eq_true c10
       have c10b1:=decide_eq_true c10
       try have c10b2:=eq_false (Nat.not_lt.2 c10)
       try (have c10n:(min (((wrap64 ((ji4)+3)):Int).toNat) 21-(((ji4):Int).toNat))+2+t140.size≤9223372036854775807:=by have h_:=c10;simp only [ByteArray.size_append,ByteArray.size_extract] at h_;exact h_)
       try have c10f:(9223372036854775807<(((wrap64 ((ji4)+3)):Int).toNat-((ji4):Int).toNat)+2+t140.size)=False:=eq_false (by first|omega|(simp only [eq_iff_iff,iff_true] at *;omega))
       replace H:=itO H
       rcases H with⟨c11,H⟩|⟨c11,H⟩
       ·skip
        have c11b0:=eq_true c11
        have c11b1:=decide_eq_true c11
        try have c11b2:=eq_false (Nat.not_lt.2 c11)
        try (have c11n:(min (((wrap64 ((ji4)+3)):Int).toNat) 21-(((ji4):Int).toNat))+2+t140.size+1≤9223372036854775807:=by have h_:=c11;simp only [ByteArray.size_append,ByteArray.size_extract] at h_;exact h_)
        try have c11f:(9223372036854775807<(((wrap64 ((ji4)+3)):Int).toNat-((ji4):Int).toNat)+2+t140.size+1)=False:=eq_false (by first|omega|(simp only [eq_iff_iff,iff_true] at *;omega))
        obtain⟨ji12,hji12⟩ : ∃ j_:Int,(wrap64 ((wrap64 (3*t134))-3))=j_:=⟨_,rfl⟩
        first|rw [hji12] at H|simp only [hji12] at H
        (try rw [hji12] at A2)
        (try rw [hji12] at A9)
        have hji12w:(IntKind.i64.wrap ((wrap64 (3*t134))-3))=ji12:=(i64_w _).trans hji12
        replace H:=itO H
        rcases H with⟨c13,H⟩|⟨c13,H⟩
        ·skip
         have c13b0:=eq_true c13
         have c13b1:=decide_eq_true c13
         clear c13
         replace H:=itO H
         rcases H with⟨c14,H⟩|⟨c14,H⟩
         ·skip
          have c14b0:=eq_true c14
          have c14b1:=decide_eq_true c14
          clear c14
          replace H:=itO H
          rcases H with⟨c15,H⟩|⟨c15,H⟩
          ·skip
           have c15b0:=eq_true c15
           have c15b1:=decide_eq_true c15
           clear c15
           replace H:=itO H
           rcases H with⟨c16,H⟩|⟨c16,H⟩
           ·skip
            have c16b0:=eq_true c16
            have c16b1:=decide_eq_true c16
            try have c16b2:=eq_false (Nat.not_lt.2 c16)
            try (have c16n:(min (((wrap64 ((ji4)+3)):Int).toNat) 21-(((ji4):Int).toNat))+2+t140.size+1+(min (((wrap64 (3*t134)):Int).toNat) 36-(((ji12):Int).toNat))≤9223372036854775807:=by have h_:=c16;simp only [ByteArray.size_append,ByteArray.size_extract] at h_;exact h_)
            try have c16f:(9223372036854775807<(((wrap64 ((ji4)+3)):Int).toNat-((ji4):Int).toNat)+2+t140.size+1+(((wrap64 (3*t134)):Int).toNat-((ji12):Int).toNat))=False:=eq_false (by first|omega|(simp only [eq_iff_iff,iff_true] at *;omega))
            replace H:=itO H
            rcases H with⟨c17,H⟩|⟨c17,H⟩
            ·skip
             have c17b0:=eq_true c17
             have c17b1:=decide_eq_true c17
             try have c17b2:=eq_false (Nat.not_lt.2 c17)
             try (have c17n:(min (((wrap64 ((ji4)+3)):Int).toNat) 21-(((ji4):Int).toNat))+2+t140.size+1+(min (((wrap64 (3*t134)):Int).toNat) 36-(((ji12):Int).toNat))+1≤9223372036854775807:=by have h_:=c17;simp only [ByteArray.size_append,ByteArray.size_extract] at h_;exact h_)
             try have c17f:(9223372036854775807<(((wrap64 ((ji4)+3)):Int).toNat-((ji4):Int).toNat)+2+t140.size+1+(((wrap64 (3*t134)):Int).toNat-((ji12):Int).toNat)+1)=False:=eq_false (by first|omega|(simp only [eq_iff_iff,iff_true] at *;omega))
             replace H:=bndO H
             obtain⟨t141,A180,H⟩:=H
             have A18:=Aside0.mk A180
             clear A180
             replace H:=itO H
             rcases H with⟨c19,H⟩|⟨c19,H⟩
             ·skip
              have c19b0:=eq_true c19
              have c19b1:=decide_eq_true c19
              try have c19b2:=eq_false (Nat.not_lt.2 c19)
              try (have c19n:(min (((wrap64 ((ji4)+3)):Int).toNat) 21-(((ji4):Int).toNat))+2+t140.size+1+(min (((wrap64 (3*t134)):Int).toNat) 36-(((ji12):Int).toNat))+1+t141.size≤9223372036854775807:=by have h_:=c19;simp only [ByteArray.size_append,ByteArray.size_extract] at h_;exact h_)
              try have c19f:(9223372036854775807<(((wrap64 ((ji4)+3)):Int).toNat-((ji4):Int).toNat)+2+t140.size+1+(((wrap64 (3*t134)):Int).toNat-((ji12):Int).toNat)+1+t141.size)=False:=eq_false (by first|omega|(simp only [eq_iff_iff,iff_true] at *;omega))
              replace H:=itO H
              rcases H with⟨c20,H⟩|⟨c20,H⟩
              ·skip
               have c20b0:=eq_true c20
               have c20b1:=decide_eq_true c20
               try have c20b2:=eq_false (Nat.not_lt.2 c20)
               try (have c20n:(min (((wrap64 ((ji4)+3)):Int).toNat) 21-(((ji4):Int).toNat))+2+t140.size+1+(min (((wrap64 (3*t134)):Int).toNat) 36-(((ji12):Int).toNat))+1+t141.size+1≤9223372036854775807:=by have h_:=c20;simp only [ByteArray.size_append,ByteArray.size_extract] at h_;exact h_)
               try have c20f:(9223372036854775807<(((wrap64 ((ji4)+3)):Int).toNat-((ji4):Int).toNat)+2+t140.size+1+(((wrap64 (3*t134)):Int).toNat-((ji12):Int).toNat)+1+t141.size+1)=False:=eq_false (by first|omega|(simp only [eq_iff_iff,iff_true] at *;omega))
               replace H:=bndO H
               obtain⟨t142,A210,H⟩:=H
               have A21:=Aside0.mk A210
               clear A210
               replace H:=itO H
               rcases H with⟨c22,H⟩|⟨c22,H⟩
               ·skip
                have c22b0:=eq_true c22
                have c22b1:=decide_eq_true c22
                try have c22b2:=eq_false (Nat.not_lt.2 c22)
                try (have c22n:(min (((wrap64 ((ji4)+3)):Int).toNat) 21-(((ji4):Int).toNat))+2+t140.size+1+(min (((wrap64 (3*t134)):Int).toNat) 36-(((ji12):Int).toNat))+1+t141.size+1+t142.size≤9223372036854775807:=by have h_:=c22;simp only [ByteArray.size_append,ByteArray.size_extract] at h_;exact h_)
                try have c22f:(9223372036854775807<(((wrap64 ((ji4)+3)):Int).toNat-((ji4):Int).toNat)+2+t140.size+1+(((wrap64 (3*t134)):Int).toNat-((ji12):Int).toNat)+1+t141.size+1+t142.size)=False:=eq_false (by first|omega|(simp only [eq_iff_iff,iff_true] at *;omega))
                replace H:=itO H
                rcases H with⟨c23,H⟩|⟨c23,H⟩
                ·skip
                 have c23b0:=eq_true c23
                 have c23b1:=decide_eq_true c23
                 try have c23b2:=eq_false (Nat.not_lt.2 c23)
                 try (have c23n:(min (((wrap64 ((ji4)+3)):Int).toNat) 21-(((ji4):Int).toNat))+2+t140.size+1+(min (((wrap64 (3*t134)):Int).toNat) 36-(((ji12):Int).toNat))+1+t141.size+1+t142.size+1≤9223372036854775807:=by have h_:=c23;simp only [ByteArray.size_append,ByteArray.size_extract] at h_;exact h_)
                 try have c23f:(9223372036854775807<(((wrap64 ((ji4)+3)):Int).toNat-((ji4):Int).toNat)+2+t140.size+1+(((wrap64 (3*t134)):Int).toNat-((ji12):Int).toNat)+1+t141.size+1+t142.size+1)=False:=eq_false (by first|omega|(simp only [eq_iff_iff,iff_true] at *;omega))
                 replace H:=bndO H
                 obtain⟨t143,A240,H⟩:=H
                 have A24:=Aside0.mk A240
                 clear A240
                 replace H:=itO H
                 rcases H with⟨c25,H⟩|⟨c25,H⟩
                 ·skip
                  have c25b0:=eq_true c25
                  have c25b1:=decide_eq_true c25
                  try have c25b2:=eq_false (Nat.not_lt.2 c25)
                  try (have c25n:(min (((wrap64 ((ji4)+3)):Int).toNat) 21-(((ji4):Int).toNat))+2+t140.size+1+(min (((wrap64 (3*t134)):Int).toNat) 36-(((ji12):Int).toNat))+1+t141.size+1+t142.size+1+t143.size≤9223372036854775807:=by have h_:=c25;simp only [ByteArray.size_append,ByteArray.size_extract] at h_;exact h_)
                  try have c25f:(9223372036854775807<(((wrap64 ((ji4)+3)):Int).toNat-((ji4):Int).toNat)+2+t140.size+1+(((wrap64 (3*t134)):Int).toNat-((ji12):Int).toNat)+1+t141.size+1+t142.size+1+t143.size)=False:=eq_false (by first|omega|(simp only [eq_iff_iff,iff_true] at *;omega))
                  replace H:=itO H
                  rcases H with⟨c26,H⟩|⟨c26,H⟩
                  ·skip
                   have c26b0:=eq_true c26
                   have c26b1:=decide_eq_true c26
                   try have c26b2:=eq_false (Nat.not_lt.2 c26)
                   try (have c26n:(min (((wrap64 ((ji4)+3)):Int).toNat) 21-(((ji4):Int).toNat))+2+t140.size+1+(min (((wrap64 (3*t134)):Int).toNat) 36-(((ji12):Int).toNat))+1+t141.size+1+t142.size+1+t143.size+1≤9223372036854775807:=by have h_:=c26;simp only [ByteArray.size_append,ByteArray.size_extract] at h_;exact h_)
                   try have c26f:(9223372036854775807<(((wrap64 ((ji4)+3)):Int).toNat-((ji4):Int).toNat)+2+t140.size+1+(((wrap64 (3*t134)):Int).toNat-((ji12):Int).toNat)+1+t141.size+1+t142.size+1+t143.size+1)=False:=eq_false (by first|omega|(simp only [eq_iff_iff,iff_true] at *;omega))
                   replace H:=bndO H
                   obtain⟨t144,A270,H⟩:=H
                   have A27:=Aside0.mk A270
                   clear A270
                   replace H:=itO H
                   rcases H with⟨c28,H⟩|⟨c28,H⟩
                   ·skip
                    have c28b0:=eq_true c28
                    have c28b1:=decide_eq_true c28
                    try have c28b2:=eq_false (Nat.not_lt.2 c28)
                    try (have c28n:(min (((wrap64 ((ji4)+3)):Int).toNat) 21-(((ji4):Int).toNat))+2+t140.size+1+(min (((wrap64 (3*t134)):Int).toNat) 36-(((ji12):Int).toNat))+1+t141.size+1+t142.size+1+t143.size+1+t144.size≤9223372036854775807:=by have h_:=c28;simp only [ByteArray.size_append,ByteArray.size_extract] at h_;exact h_)
                    try have c28f:(9223372036854775807<(((wrap64 ((ji4)+3)):Int).toNat-((ji4):Int).toNat)+2+t140.size+1+(((wrap64 (3*t134)):Int).toNat-((ji12):Int).toNat)+1+t141.size+1+t142.size+1+t143.size+1+t144.size)=False:=eq_false (by first|omega|(simp only [eq_iff_iff,iff_true] at *;omega))
                    replace H:=itO H
                    rcases H with⟨c29,H⟩|⟨c29,H⟩
                    ·skip
                     have c29b0:=eq_true c29
                     have c29b1:=decide_eq_true c29
                     try have c29b2:=eq_false (Nat.not_lt.2 c29)
                     try (have c29n:(min (((wrap64 ((ji4)+3)):Int).toNat) 21-(((ji4):Int).toNat))+2+t140.size+1+(min (((wrap64 (3*t134)):Int).toNat) 36-(((ji12):Int).toNat))+1+t141.size+1+t142.size+1+t143.size+1+t144.size+4≤9223372036854775807:=by have h_:=c29;simp only [ByteArray.size_append,ByteArray.size_extract] at h_;exact h_)
                     try have c29f:(9223372036854775807<(((wrap64 ((ji4)+3)):Int).toNat-((ji4):Int).toNat)+2+t140.size+1+(((wrap64 (3*t134)):Int).toNat-((ji12):Int).toNat)+1+t141.size+1+t142.size+1+t143.size+1+t144.size+4)=False:=eq_false (by first|omega|(simp only [eq_iff_iff,iff_true] at *;omega))
                     obtain rfl:=Option.some.inj H
                     go_enter Tryd.func31,Tryd.ntmps31
                     try go_wp2_with (first|((with_reducible refine gate_callee (f:=48) rfl ?_);refine goesL_ (some 13) rfl rfl Tryd.func48 (by kernel_rfl) rfl #[.int .i64 a0] rfl (by(try simp only [List.map_toArray,List.map_cons,List.map_nil]);first|done|rfl|(simp only [List.length_drop,List.length_take];rfl)) ?_;(with_reducible refine(when_Civil.calls k a0 t133 t134 t135 t136 t137 t138 true _ A2.out).mono ?_);rintro e w' ⟨rfl,⟨nd,rfl⟩⟩;refine⟨_,rfl,?_⟩))
                     have n0_:=Aside0.mk (HB.out)
                     clear HB
                     have HB:=n0_
                     clear n0_
                     refine start_ (n:=34) (S:=fun w'=>True) (ds:=[]) #[F,F,F,F,F,F,F,F,F,F,F,F,F,F,F,F,F,F,F,F,F,F,F,F,F,F,F,F,F,F,F,F,F,F] (by kernel_rfl) rfl rfl trivial (fun hHeld=>?_);refine with_tabW when_Http.tab5 when_Http.bits5 (fun HT_ HW_=>?_)
                     generalize hw_:World.drew _=w30 at hHeld ⊢;have n0_:Aside0 (Below w.heap.size w w30):=⟨by rw [← hw_];repeat (first|exact HB.out|apply below_drew1|apply pw_below_drewN)⟩;clear HB hw_;have HB:=n0_;clear n0_
                     refine pure_ (i:=0) (N:=some 27) (v:=?_) (a':=?_) #[T,F,F,F,F,F,F,F,F,F,F,F,F,F,F,F,F,F,F,F,F,F,F,F,F,F,F,F,F,F,F,F,F,F] rfl rfl (any_of HT_.out (by kernel_rfl)) (fun _ _ _ h=>h) (Or.inl ⟨by rfl,?_⟩) ?_ ?_
                     rotate_left
                     ·intro w'
                      go_simp
                      with_reducible rfl
                     rotate_left
                     ·simp only [Act.put,List.setIfInBounds_toArray,List.set_cons_zero,List.set_cons_succ,i64_w,i32_w]
                      rfl
                     refine pure_ (i:=1) (N:=some 28) (v:=?_) (a':=?_) #[T,T,F,F,F,F,F,F,F,F,F,F,F,F,F,F,F,F,F,F,F,F,F,F,F,F,F,F,F,F,F,F,F,F] rfl rfl (any_of HT_.out (by kernel_rfl)) (fun _ _ _ h=>h) (Or.inl ⟨by rfl,?_⟩) ?_ ?_
                     rotate_left
                     ·intro w'
                      go_simp
                      with_reducible rfl
                     rotate_left
                     ·simp only [Act.put,List.setIfInBounds_toArray,List.set_cons_zero,List.set_cons_succ,i64_w,i32_w]
                      rfl
                     refine pure_ (i:=2) (N:=some 29) (v:=?_) (a':=?_) #[T,T,T,F,F,F,F,F,F,F,F,F,F,F,F,F,F,F,F,F,F,F,F,F,F,F,F,F,F,F,F,F,F,F] rfl rfl (any_of HT_.out (by kernel_rfl)) (fun _ _ _ h=>h) (Or.inl ⟨by rfl,?_⟩) ?_ ?_
                     rotate_left
                     ·intro w'
                      go_simp
                      with_reducible rfl
                     rotate_left
                     ·simp only [Act.put,List.setIfInBounds_toArray,List.set_cons_zero,List.set_cons_succ,i64_w,i32_w]
                      rfl
                     refine pure_ (i:=3) (N:=some 30) (v:=?_) (a':=?_) #[T,T,T,T,F,F,F,F,F,F,F,F,F,F,F,F,F,F,F,F,F,F,F,F,F,F,F,F,F,F,F,F,F,F] rfl rfl (any_of HT_.out (by kernel_rfl)) (fun _ _ _ h=>h) (Or.inl ⟨by rfl,?_⟩) ?_ ?_
                     rotate_left
                     ·intro w'
                      go_simp
                      with_reducible rfl
                     rotate_left
                     ·simp only [Act.put,List.setIfInBounds_toArray,List.set_cons_zero,List.set_cons_succ,i64_w,i32_w]
                      rfl
                     refine pure_ (i:=4) (N:=some 31) (v:=?_) (a':=?_) #[T,T,T,T,T,F,F,F,F,F,F,F,F,F,F,F,F,F,F,F,F,F,F,F,F,F,F,F,F,F,F,F,F,F] rfl rfl (any_of HT_.out (by kernel_rfl)) (fun _ _ _ h=>h) (Or.inl ⟨by rfl,?_⟩) ?_ ?_
                     rotate_left
                     ·intro w'
                      go_simp
                      with_reducible rfl
                     rotate_left
                     ·simp only [Act.put,List.setIfInBounds_toArray,List.set_cons_zero,List.set_cons_succ,i64_w,i32_w]
                      rfl
                     refine pure_ (i:=5) (N:=some 32) (v:=?_) (a':=?_) #[T,T,T,T,T,T,F,F,F,F,F,F,F,F,F,F,F,F,F,F,F,F,F,F,F,F,F,F,F,F,F,F,F,F] rfl rfl (any_of HT_.out (by kernel_rfl)) (fun _ _ _ h=>h) (Or.inl ⟨by rfl,?_⟩) ?_ ?_
                     rotate_left
                     ·intro w'
                      go_simp
                      with_reducible rfl
                     rotate_left
                     ·simp only [Act.put,List.setIfInBounds_toArray,List.set_cons_zero,List.set_cons_succ,i64_w,i32_w]
                      rfl
                     refine pure_ (i:=9) (N:=some 36) (v:=?_) (a':=?_) #[T,T,T,T,T,T,F,F,F,T,F,F,F,F,F,F,F,F,F,F,F,F,F,F,F,F,F,F,F,F,F,F,F,F] rfl rfl (any_of HT_.out (by kernel_rfl)) (fun _ _ _ h=>h) (Or.inl ⟨by rfl,?_⟩) ?_ ?_
                     rotate_left
                     ·intro w'
                      go_simp
                      with_reducible rfl
                     rotate_left
                     ·simp only [Act.put,List.setIfInBounds_toArray,List.set_cons_zero,List.set_cons_succ,i64_w,i32_w]
                      rfl
                     refine pure_ (i:=10) (N:=some 37) (v:=?_) (a':=?_) #[T,T,T,T,T,T,F,F,F,T,T,F,F,F,F,F,F,F,F,F,F,F,F,F,F,F,F,F,F,F,F,F,F,F] rfl rfl (any_of HT_.out (by kernel_rfl)) (fun _ _ _ h=>h) (Or.inl ⟨by rfl,?_⟩) ?_ ?_
                     rotate_left
                     ·intro w'
                      go_simp
                      with_reducible rfl
                     rotate_left
                     ·simp only [Act.put,List.setIfInBounds_toArray,List.set_cons_zero,List.set_cons_succ,i64_w,i32_w]
                      rfl
                     refine pure_ (i:=11) (N:=some 38) (v:=?_) (a':=?_) #[T,T,T,T,T,T,F,F,F,T,T,T,F,F,F,F,F,F,F,F,F,F,F,F,F,F,F,F,F,F,F,F,F,F] rfl rfl (any_of HT_.out (by kernel_rfl)) (fun _ _ _ h=>h) (Or.inl ⟨by rfl,?_⟩) ?_ ?_
                     rotate_left
                     ·intro w'
                      go_simp
                      with_reducible rfl
                     rotate_left
                     ·simp only [Act.put,List.setIfInBounds_toArray,List.set_cons_zero,List.set_cons_succ,i64_w,i32_w]
                      rfl
                     refine pure_ (i:=12) (N:=some 39) (v:=?_) (a':=?_) #[T,T,T,T,T,T,F,F,F,T,T,T,T,F,F,F,F,F,F,F,F,F,F,F,F,F,F,F,F,F,F,F,F,F] rfl rfl (any_of HT_.out (by kernel_rfl)) (fun _ _ _ h=>h) (Or.inl ⟨by rfl,?_⟩) ?_ ?_
                     rotate_left
                     ·intro w'
                      go_simp
                      with_reducible rfl
                     rotate_left
                     ·simp only [Act.put,List.setIfInBounds_toArray,List.set_cons_zero,List.set_cons_succ,i64_w,i32_w]
                      rfl
                     refine pure_ (i:=13) (N:=some 40) (v:=?_) (a':=?_) #[T,T,T,T,T,T,F,F,F,T,T,T,T,T,F,F,F,F,F,F,F,F,F,F,F,F,F,F,F,F,F,F,F,F] rfl rfl (any_of HT_.out (by kernel_rfl)) (fun _ _ _ h=>h) (Or.inl ⟨by rfl,?_⟩) ?_ ?_
                     rotate_left
                     ·intro w'
                      go_simp
                      with_reducible rfl
                     rotate_left
                     ·simp only [Act.put,List.setIfInBounds_toArray,List.set_cons_zero,List.set_cons_succ,i64_w,i32_w]
                      rfl
                     refine pure_ (i:=14) (N:=some 41) (v:=?_) (a':=?_) #[T,T,T,T,T,T,F,F,F,T,T,T,T,T,T,F,F,F,F,F,F,F,F,F,F,F,F,F,F,F,F,F,F,F] rfl rfl (any_of HT_.out (by kernel_rfl)) (fun _ _ _ h=>h) (Or.inl ⟨by rfl,?_⟩) ?_ ?_
                     rotate_left
                     ·intro w'
                      go_simp
                      with_reducible rfl
                     rotate_left
                     ·simp only [Act.put,List.setIfInBounds_toArray,List.set_cons_zero,List.set_cons_succ,i64_w,i32_w]
                      rfl
                     refine pure_ (i:=17) (N:=some 44) (v:=?_) (a':=?_) #[T,T,T,T,T,T,F,F,F,T,T,T,T,T,T,F,F,T,F,F,F,F,F,F,F,F,F,F,F,F,F,F,F,F] rfl rfl (any_of HT_.out (by kernel_rfl)) (fun _ _ _ h=>h) (Or.inl ⟨by rfl,?_⟩) ?_ ?_
                     rotate_left
                     ·intro w'
                      go_simp
                      with_reducible rfl
                     rotate_left
                     ·simp only [Act.put,List.setIfInBounds_toArray,List.set_cons_zero,List.set_cons_succ,i64_w,i32_w]
                      rfl
                     refine pure_ (i:=21) (N:=some 48) (v:=?_) (a':=?_) #[T,T,T,T,T,T,F,F,F,T,T,T,T,T,T,F,F,T,F,F,F,T,F,F,F,F,F,F,F,F,F,F,F,F] rfl rfl (any_of HT_.out (by kernel_rfl)) (fun _ _ _ h=>h) (Or.inl ⟨by rfl,?_⟩) ?_ ?_
                     rotate_left
                     ·intro w'
                      go_simp
                      with_reducible rfl
                     rotate_left
                     ·simp only [Act.put,List.setIfInBounds_toArray,List.set_cons_zero,List.set_cons_succ,i64_w,i32_w]
                      rfl
                     refine pure_ (i:=25) (N:=some 52) (v:=?_) (a':=?_) #[T,T,T,T,T,T,F,F,F,T,T,T,T,T,T,F,F,T,F,F,F,T,F,F,F,T,F,F,F,F,F,F,F,F] rfl rfl (any_of HT_.out (by kernel_rfl)) (fun _ _ _ h=>h) (Or.inl ⟨by rfl,?_⟩) ?_ ?_
                     rotate_left
                     ·intro w'
                      go_simp
                      with_reducible rfl
                     rotate_left
                     ·simp only [Act.put,List.setIfInBounds_toArray,List.set_cons_zero,List.set_cons_succ,i64_w,i32_w]
                      rfl
                     refine pure_ (i:=29) (N:=some 56) (v:=?_) (a':=?_) #[T,T,T,T,T,T,F,F,F,T,T,T,T,T,T,F,F,T,F,F,F,T,F,F,F,T,F,F,F,T,F,F,F,F] rfl rfl (any_of HT_.out (by kernel_rfl)) (fun _ _ _ h=>h) (Or.inl ⟨by rfl,?_⟩) ?_ ?_
                     rotate_left
                     ·intro w'
                      go_simp
                      with_reducible rfl
                     rotate_left
                     ·simp only [Act.put,List.setIfInBounds_toArray,List.set_cons_zero,List.set_cons_succ,i64_w,i32_w]
                      rfl
                     refine one_ (i:=6) (N:=some 33) #[T,T,T,T,T,T,T,F,F,T,T,T,T,T,T,F,F,T,F,F,F,T,F,F,F,T,F,F,F,T,F,F,F,F] rfl rfl (one_of HT_.out (by kernel_rfl)) (by decide) (fun K hK=>?_)
                     refine goes_ Tryd.func49 (by kernel_rfl) rfl #[.int .i64 t135,.int .i64 2] (by rfl) rfl rfl (by(try simp only [List.map_toArray,List.map_cons,List.map_nil]);first|done|rfl|(simp only [List.length_drop,List.length_take];rfl)) ?_
                     with_reducible refine(when_put.calls k t135 2 t140 _ A9.out).mono ?_
                     rintro e w31 ⟨rfl,hb⟩
                     refine⟨_,rfl,?_⟩
                     have n0_:=Aside0.mk (below_step (by repeat (first|(with_reducible first|exact HB.out|apply below_alloc|apply pw_below_drewN|apply below_drew1)|exact HB.out)) hb)
                     clear HB
                     have HB:=n0_
                     clear n0_
                     (try clear hb)
                     (try clear hb2)
                     (try clear hk)
                     (try clear hi)
                     refine hK.out _ _ trivial (fun hHeld=>?_)
                     clear hK K
                     refine norm_ (a':=?_) ?_ ?_
                     rotate_left
                     ·show Act.put _ (some 33) _=_
                      simp only [Act.put,List.setIfInBounds_toArray,List.set_cons_zero,List.set_cons_succ,i64_w,i32_w]
                      rfl
                     refine pure_ (i:=7) (N:=some 34) (v:=?_) (a':=?_) #[T,T,T,T,T,T,T,T,F,T,T,T,T,T,T,F,F,T,F,F,F,T,F,F,F,T,F,F,F,T,F,F,F,F] rfl rfl (any_of HT_.out (by kernel_rfl)) (fun _ _ _ h=>h) (Or.inl ⟨by rfl,?_⟩) ?_ ?_
                     rotate_left
                     ·intro w'
                      go_simp
                      with_reducible rfl
                     rotate_left
                     ·simp only [Act.put,List.setIfInBounds_toArray,List.set_cons_zero,List.set_cons_succ,i64_w,i32_w]
                      rfl
                     refine pure_ (i:=8) (N:=some 35) (v:=?_) (a':=?_) #[T,T,T,T,T,T,T,T,T,T,T,T,T,T,T,F,F,T,F,F,F,T,F,F,F,T,F,F,F,T,F,F,F,F] rfl rfl (any_of HT_.out (by kernel_rfl)) (fun _ _ _ h=>h) (Or.inl ⟨by rfl,?_⟩) ?_ ?_
                     rotate_left
                     ·intro w'
                      go_simp
                      with_reducible rfl
                     rotate_left
                     ·simp only [Act.put,List.setIfInBounds_toArray,List.set_cons_zero,List.set_cons_succ,i64_w,i32_w]
                      rfl
                     refine pure_ (i:=15) (N:=some 42) (v:=?_) (a':=?_) #[T,T,T,T,T,T,T,T,T,T,T,T,T,T,T,T,F,T,F,F,F,T,F,F,F,T,F,F,F,T,F,F,F,F] rfl rfl (any_of HT_.out (by kernel_rfl)) (fun _ _ _ h=>h) (Or.inl ⟨by rfl,?_⟩) ?_ ?_
                     rotate_left
                     ·intro w'
                      go_simp
                      with_reducible rfl
                     rotate_left
                     ·simp only [Act.put,List.setIfInBounds_toArray,List.set_cons_zero,List.set_cons_succ,i64_w,i32_w]
                      rfl
                     refine pure_ (i:=16) (N:=some 43) (v:=?_) (a':=?_) #[T,T,T,T,T,T,T,T,T,T,T,T,T,T,T,T,T,T,F,F,F,T,F,F,F,T,F,F,F,T,F,F,F,F] rfl rfl (any_of HT_.out (by kernel_rfl)) (fun _ _ _ h=>h) (Or.inl ⟨by rfl,?_⟩) ?_ ?_
                     rotate_left
                     ·intro w'
                      go_simp
                      with_reducible rfl
                     rotate_left
                     ·simp only [Act.put,List.setIfInBounds_toArray,List.set_cons_zero,List.set_cons_succ,i64_w,i32_w]
                      rfl
                     refine one_ (i:=18) (N:=some 45) #[T,T,T,T,T,T,T,T,T,T,T,T,T,T,T,T,T,T,T,F,F,T,F,F,F,T,F,F,F,T,F,F,F,F] rfl rfl (one_of HT_.out (by kernel_rfl)) (by decide) (fun K hK=>?_)
                     refine goes_ Tryd.func49 (by kernel_rfl) rfl #[.int .i64 t133,.int .i64 4] (by rfl) rfl rfl (by(try simp only [List.map_toArray,List.map_cons,List.map_nil]);first|done|rfl|(simp only [List.length_drop,List.length_take];rfl)) ?_
                     with_reducible refine(when_put.calls k t133 4 t141 _ A18.out).mono ?_
                     rintro e w32 ⟨rfl,hb⟩
                     refine⟨_,rfl,?_⟩
                     have n0_:=Aside0.mk (below_step (by repeat (first|(with_reducible first|exact HB.out|apply below_alloc|apply pw_below_drewN|apply below_drew1)|exact HB.out)) hb)
                     clear HB
                     have HB:=n0_
                     clear n0_
                     (try clear hb)
                     (try clear hb2)
                     (try clear hk)
                     (try clear hi)
                     refine hK.out _ _ trivial (fun hHeld=>?_)
                     clear hK K
                     refine norm_ (a':=?_) ?_ ?_
                     rotate_left
                     ·show Act.put _ (some 45) _=_
                      simp only [Act.put,List.setIfInBounds_toArray,List.set_cons_zero,List.set_cons_succ,i64_w,i32_w]
                      rfl
                     refine pure_ (i:=19) (N:=some 46) (v:=?_) (a':=?_) #[T,T,T,T,T,T,T,T,T,T,T,T,T,T,T,T,T,T,T,T,F,T,F,F,F,T,F,F,F,T,F,F,F,F] rfl rfl (any_of HT_.out (by kernel_rfl)) (fun _ _ _ h=>h) (Or.inl ⟨by rfl,?_⟩) ?_ ?_
                     rotate_left
                     ·intro w'
                      go_simp
                      with_reducible rfl
                     rotate_left
                     ·simp only [Act.put,List.setIfInBounds_toArray,List.set_cons_zero,List.set_cons_succ,i64_w,i32_w]
                      rfl
                     refine pure_ (i:=20) (N:=some 47) (v:=?_) (a':=?_) #[T,T,T,T,T,T,T,T,T,T,T,T,T,T,T,T,T,T,T,T,T,T,F,F,F,T,F,F,F,T,F,F,F,F] rfl rfl (any_of HT_.out (by kernel_rfl)) (fun _ _ _ h=>h) (Or.inl ⟨by rfl,?_⟩) ?_ ?_
                     rotate_left
                     ·intro w'
                      go_simp
                      with_reducible rfl
                     rotate_left
                     ·simp only [Act.put,List.setIfInBounds_toArray,List.set_cons_zero,List.set_cons_succ,i64_w,i32_w]
                      rfl
                     refine one_ (i:=22) (N:=some 49) #[T,T,T,T,T,T,T,T,T,T,T,T,T,T,T,T,T,T,T,T,T,T,T,F,F,T,F,F,F,T,F,F,F,F] rfl rfl (one_of HT_.out (by kernel_rfl)) (by decide) (fun K hK=>?_)
                     refine goes_ Tryd.func49 (by kernel_rfl) rfl #[.int .i64 t136,.int .i64 2] (by rfl) rfl rfl (by(try simp only [List.map_toArray,List.map_cons,List.map_nil]);first|done|rfl|(simp only [List.length_drop,List.length_take];rfl)) ?_
                     with_reducible refine(when_put.calls k t136 2 t142 _ A21.out).mono ?_
                     rintro e w33 ⟨rfl,hb⟩
                     refine⟨_,rfl,?_⟩
                     have n0_:=Aside0.mk (below_step (by repeat (first|(with_reducible first|exact HB.out|apply below_alloc|apply pw_below_drewN|apply below_drew1)|exact HB.out)) hb)
                     clear HB
                     have HB:=n0_
                     clear n0_
                     (try clear hb)
                     (try clear hb2)
                     (try clear hk)
                     (try clear hi)
                     refine hK.out _ _ trivial (fun hHeld=>?_)
                     clear hK K
                     refine norm_ (a':=?_) ?_ ?_
                     rotate_left
                     ·show Act.put _ (some 49) _=_
                      simp only [Act.put,List.setIfInBounds_toArray,List.set_cons_zero,List.set_cons_succ,i64_w,i32_w]
                      rfl
                     refine pure_ (i:=23) (N:=some 50) (v:=?_) (a':=?_) #[T,T,T,T,T,T,T,T,T,T,T,T,T,T,T,T,T,T,T,T,T,T,T,T,F,T,F,F,F,T,F,F,F,F] rfl rfl (any_of HT_.out (by kernel_rfl)) (fun _ _ _ h=>h) (Or.inl ⟨by rfl,?_⟩) ?_ ?_
                     rotate_left
                     ·intro w'
                      go_simp
                      with_reducible rfl
                     rotate_left
                     ·simp only [Act.put,List.setIfInBounds_toArray,List.set_cons_zero,List.set_cons_succ,i64_w,i32_w]
                      rfl
                     refine pure_ (i:=24) (N:=some 51) (v:=?_) (a':=?_) #[T,T,T,T,T,T,T,T,T,T,T,T,T,T,T,T,T,T,T,T,T,T,T,T,T,T,F,F,F,T,F,F,F,F] rfl rfl (any_of HT_.out (by kernel_rfl)) (fun _ _ _ h=>h) (Or.inl ⟨by rfl,?_⟩) ?_ ?_
                     rotate_left
                     ·intro w'
                      go_simp
                      with_reducible rfl
                     rotate_left
                     ·simp only [Act.put,List.setIfInBounds_toArray,List.set_cons_zero,List.set_cons_succ,i64_w,i32_w]
                      rfl
                     refine one_ (i:=26) (N:=some 53) #[T,T,T,T,T,T,T,T,T,T,T,T,T,T,T,T,T,T,T,T,T,T,T,T,T,T,T,F,F,T,F,F,F,F] rfl rfl (one_of HT_.out (by kernel_rfl)) (by decide) (fun K hK=>?_)
                     refine goes_ Tryd.func49 (by kernel_rfl) rfl #[.int .i64 t137,.int .i64 2] (by rfl) rfl rfl (by(try simp only [List.map_toArray,List.map_cons,List.map_nil]);first|done|rfl|(simp only [List.length_drop,List.length_take];rfl)) ?_
                     with_reducible refine(when_put.calls k t137 2 t143 _ A24.out).mono ?_
                     rintro e w34 ⟨rfl,hb⟩
                     refine⟨_,rfl,?_⟩
                     have n0_:=Aside0.mk (below_step (by repeat (first|(with_reducible first|exact HB.out|apply below_alloc|apply pw_below_drewN|apply below_drew1)|exact HB.out)) hb)
                     clear HB
                     have HB:=n0_
                     clear n0_
                     (try clear hb)
                     (try clear hb2)
                     (try clear hk)
                     (try clear hi)
                     refine hK.out _ _ trivial (fun hHeld=>?_)
                     clear hK K
                     refine norm_ (a':=?_) ?_ ?_
                     rotate_left
                     ·show Act.put _ (some 53) _=_
                      simp only [Act.put,List.setIfInBounds_toArray,List.set_cons_zero,List.set_cons_succ,i64_w,i32_w]
                      rfl
                     refine pure_ (i:=27) (N:=some 54) (v:=?_) (a':=?_) #[T,T,T,T,T,T,T,T,T,T,T,T,T,T,T,T,T,T,T,T,T,T,T,T,T,T,T,T,F,T,F,F,F,F] rfl rfl (any_of HT_.out (by kernel_rfl)) (fun _ _ _ h=>h) (Or.inl ⟨by rfl,?_⟩) ?_ ?_
                     rotate_left
                     ·intro w'
                      go_simp
                      with_reducible rfl
                     rotate_left
                     ·simp only [Act.put,List.setIfInBounds_toArray,List.set_cons_zero,List.set_cons_succ,i64_w,i32_w]
                      rfl
                     refine pure_ (i:=28) (N:=some 55) (v:=?_) (a':=?_) #[T,T,T,T,T,T,T,T,T,T,T,T,T,T,T,T,T,T,T,T,T,T,T,T,T,T,T,T,T,T,F,F,F,F] rfl rfl (any_of HT_.out (by kernel_rfl)) (fun _ _ _ h=>h) (Or.inl ⟨by rfl,?_⟩) ?_ ?_
                     rotate_left
                     ·intro w'
                      go_simp
                      with_reducible rfl
                     rotate_left
                     ·simp only [Act.put,List.setIfInBounds_toArray,List.set_cons_zero,List.set_cons_succ,i64_w,i32_w]
                      rfl
                     refine one_ (i:=30) (N:=some 57) #[T,T,T,T,T,T,T,T,T,T,T,T,T,T,T,T,T,T,T,T,T,T,T,T,T,T,T,T,T,T,T,F,F,F] rfl rfl (one_of HT_.out (by kernel_rfl)) (by decide) (fun K hK=>?_)
                     refine goes_ Tryd.func49 (by kernel_rfl) rfl #[.int .i64 t138,.int .i64 2] (by rfl) rfl rfl (by(try simp only [List.map_toArray,List.map_cons,List.map_nil]);first|done|rfl|(simp only [List.length_drop,List.length_take];rfl)) ?_
                     with_reducible refine(when_put.calls k t138 2 t144 _ A27.out).mono ?_
                     rintro e w35 ⟨rfl,hb⟩
                     refine⟨_,rfl,?_⟩
                     have n0_:=Aside0.mk (below_step (by repeat (first|(with_reducible first|exact HB.out|apply below_alloc|apply pw_below_drewN|apply below_drew1)|exact HB.out)) hb)
                     clear HB
                     have HB:=n0_
                     clear n0_
                     (try clear hb)
                     (try clear hb2)
                     (try clear hk)
                     (try clear hi)
                     refine hK.out _ _ trivial (fun hHeld=>?_)
                     clear hK K
                     refine norm_ (a':=?_) ?_ ?_
                     rotate_left
                     ·show Act.put _ (some 57) _=_
                      simp only [Act.put,List.setIfInBounds_toArray,List.set_cons_zero,List.set_cons_succ,i64_w,i32_w]
                      rfl
                     refine pure_ (i:=31) (N:=some 58) (v:=?_) (a':=?_) #[T,T,T,T,T,T,T,T,T,T,T,T,T,T,T,T,T,T,T,T,T,T,T,T,T,T,T,T,T,T,T,T,F,F] rfl rfl (any_of HT_.out (by kernel_rfl)) (fun _ _ _ h=>h) (Or.inl ⟨by rfl,?_⟩) ?_ ?_
                     rotate_left
                     ·intro w'
                      go_simp
                      with_reducible rfl
                     rotate_left
                     ·simp only [Act.put,List.setIfInBounds_toArray,List.set_cons_zero,List.set_cons_succ,i64_w,i32_w]
                      rfl
                     refine pure_ (i:=32) (N:=some 59) (v:=?_) (a':=?_) #[T,T,T,T,T,T,T,T,T,T,T,T,T,T,T,T,T,T,T,T,T,T,T,T,T,T,T,T,T,T,T,T,T,F] rfl rfl (any_of HT_.out (by kernel_rfl)) (fun _ _ _ h=>h) (Or.inl ⟨by rfl,?_⟩) ?_ ?_
                     rotate_left
                     ·intro w'
                      go_simp
                      with_reducible rfl
                     rotate_left
                     ·simp only [Act.put,List.setIfInBounds_toArray,List.set_cons_zero,List.set_cons_succ,i64_w,i32_w]
                      rfl
                     refine pure_ (i:=33) (N:=some 2) (v:=?_) (a':=?_) #[T,T,T,T,T,T,T,T,T,T,T,T,T,T,T,T,T,T,T,T,T,T,T,T,T,T,T,T,T,T,T,T,T,T] rfl rfl (any_of HT_.out (by kernel_rfl)) (fun _ _ _ h=>h) (Or.inl ⟨by rfl,?_⟩) ?_ ?_
                     rotate_left
                     ·intro w'
                      go_simp
                      with_reducible rfl
                     rotate_left
                     ·simp only [Act.put,List.setIfInBounds_toArray,List.set_cons_zero,List.set_cons_succ,i64_w,i32_w]
                      rfl
                     refine done_ (done_of HT_.out (by kernel_rfl)) ?_
                     try go_wp2
                     go_ret
                     exact⟨by first|rfl|(simp [errW_none,errW_some] <;> rfl)|(simp only [← hji4,← hji12];first|rfl|(simp [errW_none,errW_some] <;> rfl))|(simp [*,errW_none,errW_some] <;> rfl),by repeat (first|(with_reducible first|exact HB.out|apply below_alloc|apply pw_below_drewN|apply below_drew1)|exact HB.out)⟩
                    ·exact absurd H (by simp)
                   ·exact absurd H (by simp)
                  ·exact absurd H (by simp)
                 ·exact absurd H (by simp)
                ·exact absurd H (by simp)
               ·exact absurd H (by simp)
              ·exact absurd H (by simp)
             ·exact absurd H (by simp)
            ·exact absurd H (by simp)
           ·exact absurd H (by simp)
          ·exact absurd H (by simp)
         ·exact absurd H (by simp)
        ·exact absurd H (by simp)
       ·exact absurd H (by simp)
      ·exact absurd H (by simp)
     ·exact absurd H (by simp)
    ·exact absurd H (by simp)
   ·exact absurd H (by simp)
  ·exact absurd H (by simp)
 ·replace c3:=Bool.eq_false_iff.mpr c3
  subst c3
  replace H:=itF H
  obtain rfl:=Option.some.inj H
  go_enter Tryd.func31,Tryd.ntmps31
  go_wp2_with (first|((with_reducible refine gate_callee (f:=48) rfl ?_);refine goesL_ (some 13) rfl rfl Tryd.func48 (by kernel_rfl) rfl #[.int .i64 a0] rfl (by(try simp only [List.map_toArray,List.map_cons,List.map_nil]);first|done|rfl|(simp only [List.length_drop,List.length_take];rfl)) ?_;(with_reducible refine(when_Civil.calls k a0 t133 t134 t135 t136 t137 t138 false _ A2.out).mono ?_);rintro e w' ⟨rfl,⟨nd,rfl⟩⟩;refine⟨_,rfl,?_⟩))
  go_ret
  exact⟨by first|rfl|(simp [errW_none,errW_some] <;> rfl)|(simp [*,errW_none,errW_some] <;> rfl),by repeat (first|(with_reducible first|exact HB.out|apply below_alloc|apply pw_below_drewN|apply below_drew1)|exact HB.out)⟩
end Go.Proofs.YtfjidcmegacibaaDoor.Q
