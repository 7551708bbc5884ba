/- A part of the proof of the seat's laws. No condition beyond those in the theorems. -/
import Derived.Test.YtklcgncaclggcaaDoorZSqzB
import Derived.Test.YtklcgncaclggcaaDoorZQ0g15
import Derived.Test.YtklcgncaclggcaaDoorZQ59g5
import Derived.Lib.Hide
import Derived.Lib.OthersKept
open Bool renaming true→T,false→F

namespace Go.Proofs.YtklcgncaclggcaaDoor.Q
open Go.RowKit Go.Proofs.YtklcgncaclggcaaDoorW.PrintWords Go.Proofs.YtklcgncaclggcaaDoorW.PrintLast Go.Proofs.YtklcgncaclggcaaDoorW.PrintMore
set_option linter.unusedVariables false
set_option linter.unusedSimpArgs false
set_option maxHeartbeats 8000000
set_option maxRecDepth 100000
attribute [local go_sem] max2_int min2_int max_two min_two max_three min_three max_four min_four   
def stowageref13_Escape.l0:Nat→ByteArray→ByteArray→Int→Option (ByteArray)
  | 0,_,_,_=>none
  | k+1,x0,x3,x4=>if x4<(x0.size:Int) then(if 0≤x4 then(if(bt x0 x4)=38 then(if x3.size+5≤9223372036854775807 then(stowageref13_Escape.l0 k x0 (x3++(⟨#[38,97,109,112,59]⟩ : ByteArray)) (wrap64 (x4+1))) else(none)) else(if(bt x0 x4)=60 then(if x3.size+4≤9223372036854775807 then(stowageref13_Escape.l0 k x0 (x3++(⟨#[38,108,116,59]⟩ : ByteArray)) (wrap64 (x4+1))) else(none)) else(if(bt x0 x4)=62 then(if x3.size+4≤9223372036854775807 then(stowageref13_Escape.l0 k x0 (x3++(⟨#[38,103,116,59]⟩ : ByteArray)) (wrap64 (x4+1))) else(none)) else(if(bt x0 x4)=34 then(if x3.size+6≤9223372036854775807 then(stowageref13_Escape.l0 k x0 (x3++(⟨#[38,113,117,111,116,59]⟩ : ByteArray)) (wrap64 (x4+1))) else(none)) else(if(bt x0 x4)=13 then(if x3.size+5≤9223372036854775807 then(stowageref13_Escape.l0 k x0 (x3++(⟨#[38,35,49,51,59]⟩ : ByteArray)) (wrap64 (x4+1))) else(none)) else(if x4≤(wrap64 (x4+1)) then(if(wrap64 (x4+1))≤(x0.size:Int) then(if x3.size+(x0.extract (x4:Int).toNat ((wrap64 (x4+1)):Int).toNat).size≤9223372036854775807 then(stowageref13_Escape.l0 k x0 (x3++(x0.extract (x4:Int).toNat ((wrap64 (x4+1)):Int).toNat)) (wrap64 (x4+1))) else(none)) else(none)) else(none))))))) else(none)) else(some x3)
def stowageref13_Escape.f (k:Nat) (a0:ByteArray):Option (ByteArray):=stowageref13_Escape.l0 k a0 (⟨#[]⟩ : ByteArray) 0
theorem stowageref13_Escape.mono_l:∀ k,(∀ y0 y1 y2,LeO (stowageref13_Escape.l0 k y0 y1 y2) (stowageref13_Escape.l0 (k+1) y0 y1 y2))
  | 0=>fun _ _ _ r h=>by simp [stowageref13_Escape.l0] at h
  | k+1=>by
    have ih0:=stowageref13_Escape.mono_l k
    · intro y0 y1 y2
      unfold stowageref13_Escape.l0
      with_reducible repeat' first|exact ih0 _ _ _|exact LeO.refl _|exact LeO.none _|refine LeO.ite ?_ ?_|refine LeO.bind ?_ (fun _=>?_)
theorem stowageref13_Escape.mono:∀ a0 k,LeO (stowageref13_Escape.f k a0) (stowageref13_Escape.f (k+1) a0):=by
 intro a0 k
 have ih0:=stowageref13_Escape.mono_l k
 unfold stowageref13_Escape.f
 with_reducible repeat' first|exact ih0 _ _ _|exact LeO.refl _|exact LeO.none _|refine LeO.ite ?_ ?_|refine LeO.bind ?_ (fun _=>?_)
theorem stowageref13_Escape.calls (k:Nat) (a0:ByteArray) (r:ByteArray) (w:World) (h:stowageref13_Escape.f k a0=some r) :
    Calls Tryd.prog 20 #[.string a0] w fun e w'=>e = .returned (.string r)∧Drawn0 w w':=by
 unfold stowageref13_Escape.f at h
 have H:=h
 clear h
 have H':=Aside0.mk H
 clear H
 go_enter Tryd.func20,Tryd.ntmps20
 go_wp2
 go_loopg [3,4] k (fun kq v3 v4 w'=>∃ (x3_1:ByteArray) (x4_1:Int),v3 = .string x3_1∧v4 = .int .i64 x4_1∧Aside0 (stowageref13_Escape.l0 kq a0 x3_1 x4_1=some r)∧Aside0 (kq≤k)∧Drawn0 w w')
 case atStart=>exact⟨((⟨#[]⟩ : ByteArray)),(0),rs,rs,H',⟨Nat.le_refl _⟩,by repeat (first|exact Drawn0.refl _|apply Drawn0.step)⟩
 case round=>
  clear H'
  obtain⟨x3_1,x4_1,rfl,rfl,HA,HK1,⟨m1,rfl⟩⟩:=hrel
  cases gk with
  | zero=>exact absurd HA.out (by simp [stowageref13_Escape.l0])
  | succ k1=>
   have H:=HA.out
   clear HA
   simp only [stowageref13_Escape.l0] at H
   replace H:=itO H
   rcases H with⟨c2,H⟩|⟨c2,H⟩
   {
   have c2b0:decide (x4_1<(a0.size:Int))=true:=decide_eq_true c2
   clear c2
   replace H:=itO H
   rcases H with⟨c3,H⟩|⟨c3,H⟩
   {
   have c3b0:decide (0≤x4_1)=true:=decide_eq_true c3
   clear c3
   replace H:=itO H
   rcases H with⟨c5,H⟩|⟨c5,H⟩
   {
   have c5b0:((bt a0 x4_1) == 38)=true:=beq_iff_eq.mpr c5
   clear c5
   replace H:=itO H
   rcases H with⟨c6,H⟩|⟨c6,H⟩
   {
   have c6b0:=eq_true c6
   try have c6b2:=eq_false (Nat.not_lt.2 c6)
   try (have c6n:x3_1.size+5≤9223372036854775807:=by have h_:=c6;simp only [ByteArray.size_append,ByteArray.size_extract] at h_;exact h_)
   try have c6f:(9223372036854775807<x3_1.size+5)=False:=eq_false (by first|omega|(simp only [eq_iff_iff,iff_true] at *;omega))
   have H':=Aside0.mk H
   clear H
   have p4:0≤(x4_1:Int):=of_decide_eq_true asm
   have q4:x4_1<(a0.size:Int):=of_decide_eq_true asm
   have hx4:=bt_at a0 x4_1
   replace p4:=eq_true p4
   replace q4:=eq_true q4
   go_wp2
   go_roundg k1
   case measure=>have:=HK1.out;omega
   case rel=>exact⟨(x3_1++(⟨#[38,97,109,112,59]⟩ : ByteArray)),(wrap64 (x4_1+1)),rs,rs,H',⟨by have:=HK1.out;omega⟩,by repeat (first|exact Drawn0.refl _|apply Drawn0.step)⟩
   }
   ·exact absurd H (by simp)
   }
   {
   have c5b0:((bt a0 x4_1) == 38)=false:=beq_eq_false_iff_ne.mpr c5
   replace H:=itO H
   rcases H with⟨c7,H⟩|⟨c7,H⟩
   {
   have c7b0:((bt a0 x4_1) == 60)=true:=beq_iff_eq.mpr c7
   clear c7
   replace H:=itO H
   rcases H with⟨c8,H⟩|⟨c8,H⟩
   {
   have c8b0:=eq_true c8
   try have c8b2:=eq_false (Nat.not_lt.2 c8)
   try (have c8n:x3_1.size+4≤9223372036854775807:=by have h_:=c8;simp only [ByteArray.size_append,ByteArray.size_extract] at h_;exact h_)
   try have c8f:(9223372036854775807<x3_1.size+4)=False:=eq_false (by first|omega|(simp only [eq_iff_iff,iff_true] at *;omega))
   have H':=Aside0.mk H
   clear H
   have p4:0≤(x4_1:Int):=of_decide_eq_true asm
   have q4:x4_1<(a0.size:Int):=of_decide_eq_true asm
   have hx4:=bt_at a0 x4_1
   replace p4:=eq_true p4
   replace q4:=eq_true q4
   go_wp2
   go_roundg k1
   case measure=>have:=HK1.out;omega
   case rel=>exact⟨(x3_1++(⟨#[38,108,116,59]⟩ : ByteArray)),(wrap64 (x4_1+1)),rs,rs,H',⟨by have:=HK1.out;omega⟩,by repeat (first|exact Drawn0.refl _|apply Drawn0.step)⟩
   }
   ·exact absurd H (by simp)
   }
   {
   have c7b0:((bt a0 x4_1) == 60)=false:=beq_eq_false_iff_ne.mpr c7
   replace H:=itO H
   rcases H with⟨c9,H⟩|⟨c9,H⟩
   {
   have c9b0:((bt a0 x4_1) == 62)=true:=beq_iff_eq.mpr c9
   clear c9
   replace H:=itO H
   rcases H with⟨c10,H⟩|⟨c10,H⟩
   {
   have c10b0:=eq_true c10
   try have c10b2:=eq_false (Nat.not_lt.2 c10)
   try (have c10n:x3_1.size+4≤9223372036854775807:=by have h_:=c10;simp only [ByteArray.size_append,ByteArray.size_extract] at h_;exact h_)
   try have c10f:(9223372036854775807<x3_1.size+4)=False:=eq_false (by first|omega|(simp only [eq_iff_iff,iff_true] at *;omega))
   have H':=Aside0.mk H
   clear H
   have p4:0≤(x4_1:Int):=of_decide_eq_true asm
   have q4:x4_1<(a0.size:Int):=of_decide_eq_true asm
   have hx4:=bt_at a0 x4_1
   replace p4:=eq_true p4
   replace q4:=eq_true q4
   go_wp2
   go_roundg k1
   case measure=>have:=HK1.out;omega
   case rel=>exact⟨(x3_1++(⟨#[38,103,116,59]⟩ : ByteArray)),(wrap64 (x4_1+1)),rs,rs,H',⟨by have:=HK1.out;omega⟩,by repeat (first|exact Drawn0.refl _|apply Drawn0.step)⟩
   }
   ·exact absurd H (by simp)
   }
   {
   have c9b0:((bt a0 x4_1) == 62)=false:=beq_eq_false_iff_ne.mpr c9
   replace H:=itO H
   rcases H with⟨c11,H⟩|⟨c11,H⟩
   {
   have c11b0:((bt a0 x4_1) == 34)=true:=beq_iff_eq.mpr c11
   clear c11
   replace H:=itO H
   rcases H with⟨c12,H⟩|⟨c12,H⟩
   {
   have c12b0:=eq_true c12
   try have c12b2:=eq_false (Nat.not_lt.2 c12)
   try (have c12n:x3_1.size+6≤9223372036854775807:=by have h_:=c12;simp only [ByteArray.size_append,ByteArray.size_extract] at h_;exact h_)
   try have c12f:(9223372036854775807<x3_1.size+6)=False:=eq_false (by first|omega|(simp only [eq_iff_iff,iff_true] at *;omega))
   have H':=Aside0.mk H
   clear H
   have p4:0≤(x4_1:Int):=of_decide_eq_true asm
   have q4:x4_1<(a0.size:Int):=of_decide_eq_true asm
   have hx4:=bt_at a0 x4_1
   replace p4:=eq_true p4
   replace q4:=eq_true q4
   go_wp2
   go_roundg k1
   case measure=>have:=HK1.out;omega
   case rel=>exact⟨(x3_1++(⟨#[38,113,117,111,116,59]⟩ : ByteArray)),(wrap64 (x4_1+1)),rs,rs,H',⟨by have:=HK1.out;omega⟩,by repeat (first|exact Drawn0.refl _|apply Drawn0.step)⟩
   }
   ·exact absurd H (by simp)
   }
   {
   have c11b0:((bt a0 x4_1) == 34)=false:=beq_eq_false_iff_ne.mpr c11
   replace H:=itO H
   rcases H with⟨c13,H⟩|⟨c13,H⟩
   {
   have c13b0:((bt a0 x4_1) == 13)=true:=beq_iff_eq.mpr c13
   clear c13
   replace H:=itO H
   rcases H with⟨c14,H⟩|⟨c14,H⟩
   {
   have c14b0:=eq_true c14
   try have c14b2:=eq_false (Nat.not_lt.2 c14)
   try (have c14n:x3_1.size+5≤9223372036854775807:=by have h_:=c14;simp only [ByteArray.size_append,ByteArray.size_extract] at h_;exact h_)
   try have c14f:(9223372036854775807<x3_1.size+5)=False:=eq_false (by first|omega|(simp only [eq_iff_iff,iff_true] at *;omega))
   have H':=Aside0.mk H
   clear H
   have p4:0≤(x4_1:Int):=of_decide_eq_true asm
   have q4:x4_1<(a0.size:Int):=of_decide_eq_true asm
   have hx4:=bt_at a0 x4_1
   replace p4:=eq_true p4
   replace q4:=eq_true q4
   go_wp2
   go_roundg k1
   case measure=>have:=HK1.out;omega
   case rel=>exact⟨(x3_1++(⟨#[38,35,49,51,59]⟩ : ByteArray)),(wrap64 (x4_1+1)),rs,rs,H',⟨by have:=HK1.out;omega⟩,by repeat (first|exact Drawn0.refl _|apply Drawn0.step)⟩
   }
   ·exact absurd H (by simp)
   }
   {
   have c13b0:((bt a0 x4_1) == 13)=false:=beq_eq_false_iff_ne.mpr c13
   have c15b0:=eq_true (of_decide_eq_true asm:0≤x4_1)
   replace H:=itO H
   rcases H with⟨c16,H⟩|⟨c16,H⟩
   {
   have c16b0:=eq_true c16
   replace H:=itO H
   rcases H with⟨c17,H⟩|⟨c17,H⟩
   {
   have c17b0:=eq_true c17
   replace H:=itO H
   rcases H with⟨c18,H⟩|⟨c18,H⟩
   {
   have c18b0:=eq_true c18
   try have c18b2:=eq_false (Nat.not_lt.2 c18)
   try (have c18n:x3_1.size+(min (((wrap64 (x4_1+1)):Int).toNat) a0.size-((x4_1:Int).toNat))≤9223372036854775807:=by have h_:=c18;simp only [ByteArray.size_append,ByteArray.size_extract] at h_;exact h_)
   try have c18f:(9223372036854775807<x3_1.size+(((wrap64 (x4_1+1)):Int).toNat-(x4_1:Int).toNat))=False:=eq_false (by first|omega|(simp only [eq_iff_iff,iff_true] at *;omega))
   have H':=Aside0.mk H
   clear H
   have p4:0≤(x4_1:Int):=of_decide_eq_true asm
   have q4:x4_1<(a0.size:Int):=of_decide_eq_true asm
   have hx4:=bt_at a0 x4_1
   replace p4:=eq_true p4
   replace q4:=eq_true q4
   go_wp2
   go_roundg k1
   case measure=>have:=HK1.out;omega
   case rel=>exact⟨(x3_1++(a0.extract (x4_1:Int).toNat ((wrap64 (x4_1+1)):Int).toNat)),(wrap64 (x4_1+1)),rs,rs,H',⟨by have:=HK1.out;omega⟩,by repeat (first|exact Drawn0.refl _|apply Drawn0.step)⟩
   }
   ·exact absurd H (by simp)
   }
   ·exact absurd H (by simp)
   }
   ·exact absurd H (by simp)
   }
   }
   }
   }
   }
   }
   ·exact absurd H (by simp)
   }
   {
   have c2b0:decide (x4_1<(a0.size:Int))=false:=decide_eq_false c2
   clear c2
   obtain rfl:=Option.some.inj H
   go_wp2
   go_ret
   exact⟨rs,dr⟩
   }
mutual
def stowageref13_text.l0:Nat→ByteArray→Int→ByteArray→ByteArray→List (S30)→Option (ByteArray)
  | 0,_,_,_,_,_=>none
  | k+1,x5,x6,x283000,x283001,x283002=>if x6<(x283002.length:Int) then(if 0≤x6 then((stowageref13_text.f k ((rd_T30 x283002 x6).f0) ((rd_T30 x283002 x6).f1) ((rd_T30 x283002 x6).f2) (⟨#[]⟩ : ByteArray)).bind fun t285=>(if x5.size+t285.size≤9223372036854775807 then(stowageref13_text.l0 k (x5++t285) (wrap64 (x6+1)) x283000 x283001 x283002) else(none))) else(none)) else(if x5.size+2≤9223372036854775807 then(if(x5++(⟨#[60,47]⟩ : ByteArray)).size+x283000.size≤9223372036854775807 then(if((x5++(⟨#[60,47]⟩ : ByteArray))++x283000).size+1≤9223372036854775807 then(some (((x5++(⟨#[60,47]⟩ : ByteArray))++x283000)++(⟨#[62]⟩ : ByteArray))) else(none)) else(none)) else(none))
def stowageref13_text.f:Nat→ByteArray→ByteArray→List (S30)→ByteArray→Option (ByteArray)
  | 0,_,_,_,_=>none
  | k+1,a0_0,a0_1,l0_2,a1=>if 1+a0_0.size≤9223372036854775807 then(if((⟨#[60]⟩ : ByteArray)++a0_0).size+a1.size≤9223372036854775807 then(if(((⟨#[60]⟩ : ByteArray)++a0_0)++a1).size+1≤9223372036854775807 then((stowageref13_Escape.f k a0_1).bind fun t283=>(if((((⟨#[60]⟩ : ByteArray)++a0_0)++a1)++(⟨#[62]⟩ : ByteArray)).size+t283.size≤9223372036854775807 then(stowageref13_text.l0 k (((((⟨#[60]⟩ : ByteArray)++a0_0)++a1)++(⟨#[62]⟩ : ByteArray))++t283) 0 a0_0 a0_1 l0_2) else(none))) else(none)) else(none)) else(none)
end
theorem stowageref13_text.mono_l:∀ k,(∀ y0 y1 y2 y3,LeO (stowageref13_text.f k y0 y1 y2 y3) (stowageref13_text.f (k+1) y0 y1 y2 y3))∧(∀ y0 y1 y2 y3 y4,LeO (stowageref13_text.l0 k y0 y1 y2 y3 y4) (stowageref13_text.l0 (k+1) y0 y1 y2 y3 y4))
  | 0=>⟨fun _ _ _ _ r h=>by simp [stowageref13_text.f] at h,fun _ _ _ _ _ r h=>by simp [stowageref13_text.l0] at h⟩
  | k+1=>by
    obtain⟨ih0,ih1⟩:=stowageref13_text.mono_l k
    refine⟨?_,?_⟩
    · intro y0 y1 y2 y3
      unfold stowageref13_text.f
      with_reducible repeat' first|exact ih0 _ _ _ _|exact ih1 _ _ _ _ _|exact stowageref13_Escape.mono _ _|exact LeO.refl _|exact LeO.none _|refine LeO.ite ?_ ?_|refine LeO.bind ?_ (fun _=>?_)
    · intro y0 y1 y2 y3 y4
      unfold stowageref13_text.l0
      with_reducible repeat' first|exact ih0 _ _ _ _|exact ih1 _ _ _ _ _|exact stowageref13_Escape.mono _ _|exact LeO.refl _|exact LeO.none _|refine LeO.ite ?_ ?_|refine LeO.bind ?_ (fun _=>?_)
theorem stowageref13_text.mono:∀ a0 a1 a2 a3 k,LeO (stowageref13_text.f k a0 a1 a2 a3) (stowageref13_text.f (k+1) a0 a1 a2 a3):=by
 intro a0 a1 a2 a3 k
 obtain⟨ih0,ih1⟩:=stowageref13_text.mono_l k
 exact ih0 a0 a1 a2 a3
theorem stowageref13_text.calls (k:Nat):∀ (a0_0:ByteArray) (a0_1:ByteArray) (A0_2:Option Addr) (c0_2:Nat) (l0_2:List (S30)) (a1:ByteArray) (r:ByteArray) (w:World) (hr0_2:Kd.C k30 w A0_2 l0_2.length l0_2) (hc0_2:l0_2.length≤c0_2) (h:stowageref13_text.f k a0_0 a0_1 l0_2 a1=some r),
    Calls Tryd.prog 51 #[.agg #[.string a0_0,.string a0_1,.slice A0_2 l0_2.length c0_2],.string a1] w fun e w'=>e = .returned (.string r)∧Below w.heap.size w w':=by
 induction k using Nat.strongRecOn with
 | _ k ih=>
 intro a0_0 a0_1 A0_2 c0_2 l0_2 a1 r w hr0_2 hc0_2 h
 cases k with
 | zero=>exact absurd h (by simp [stowageref13_text.f])
 | succ k=>
 simp only [stowageref13_text.f] at h
 have hu30:=Tryd.underlying30
 have HR0_2:=Aside0.mk hr0_2
 have HC0_2:=Aside0.mk hc0_2
 clear hr0_2 hc0_2
 have HB:=Aside0.mk (Below.refl w.heap.size w)
 have H:(if 1+a0_0.size≤9223372036854775807 then(if((⟨#[60]⟩ : ByteArray)++a0_0).size+a1.size≤9223372036854775807 then(if(((⟨#[60]⟩ : ByteArray)++a0_0)++a1).size+1≤9223372036854775807 then((stowageref13_Escape.f k a0_1).bind fun t283=>(if((((⟨#[60]⟩ : ByteArray)++a0_0)++a1)++(⟨#[62]⟩ : ByteArray)).size+t283.size≤9223372036854775807 then(stowageref13_text.l0 k (((((⟨#[60]⟩ : ByteArray)++a0_0)++a1)++(⟨#[62]⟩ : ByteArray))++t283) 0 a0_0 a0_1 l0_2) else(none))) else(none)) else(none)) else(none))=some r:=h
 clear h
 replace H:=itO H
 rcases H with⟨c3,H⟩|⟨c3,H⟩
 {
 have c3b0:=eq_true c3
 try have c3b2:=eq_false (Nat.not_lt.2 c3)
 try (have c3n:1+a0_0.size≤9223372036854775807:=by have h_:=c3;simp only [ByteArray.size_append,ByteArray.size_extract] at h_;exact h_)
 try have c3f:(9223372036854775807<1+a0_0.size)=False:=eq_false (by first|omega|(simp only [eq_iff_iff,iff_true] at *;omega))
 replace H:=itO H
 rcases H with⟨c4,H⟩|⟨c4,H⟩
 {
 have c4b0:=eq_true c4
 try have c4b2:=eq_false (Nat.not_lt.2 c4)
 try (have c4n:1+a0_0.size+a1.size≤9223372036854775807:=by have h_:=c4;simp only [ByteArray.size_append,ByteArray.size_extract] at h_;exact h_)
 try have c4f:(9223372036854775807<1+a0_0.size+a1.size)=False:=eq_false (by first|omega|(simp only [eq_iff_iff,iff_true] at *;omega))
 replace H:=itO H
 rcases H with⟨c5,H⟩|⟨c5,H⟩
 {
 have c5b0:=eq_true c5
 try have c5b2:=eq_false (Nat.not_lt.2 c5)
 try (have c5n:1+a0_0.size+a1.size+1≤9223372036854775807:=by have h_:=c5;simp only [ByteArray.size_append,ByteArray.size_extract] at h_;exact h_)
 try have c5f:(9223372036854775807<1+a0_0.size+a1.size+1)=False:=eq_false (by first|omega|(simp only [eq_iff_iff,iff_true] at *;omega))
 replace H:=bndO H
 obtain⟨t283,A60,H⟩:=H
 have A6:=Aside0.mk A60
 clear A60
 replace H:=itO H
 rcases H with⟨c7,H⟩|⟨c7,H⟩
 {
 have c7b0:=eq_true c7
 try have c7b2:=eq_false (Nat.not_lt.2 c7)
 try (have c7n:1+a0_0.size+a1.size+1+t283.size≤9223372036854775807:=by have h_:=c7;simp only [ByteArray.size_append,ByteArray.size_extract] at h_;exact h_)
 try have c7f:(9223372036854775807<1+a0_0.size+a1.size+1+t283.size)=False:=eq_false (by first|omega|(simp only [eq_iff_iff,iff_true] at *;omega))
 have H':=Aside0.mk H
 clear H
 go_enter Tryd.func51,Tryd.ntmps51
 go_wp2_with (first|((with_reducible refine gate_dst (N:=2) rfl ?_);refine box_event ?hg (N:=2) ?hd (cs:=#[.string a0_0,.string a0_1,.slice A0_2 l0_2.length c0_2]) (t:=30) ?hr ?_;(case hd=>rfl);(case hg=>rfl);(case hr=>first|(go_simp;done)|(go_simp;rfl));intro gb282 hg w8 hbox hb;have BK282:=Aside0.mk (hbox);have GW282:=Aside0.mk ((by rw [hg];exact(below_size bl):w.heap.size≤gb282));have GE282:=Aside0.mk ((by rw [hg];exact(below_size bl):w.heap.size≤gb282));replace HB:=Aside0.mk (below_step bl hb);clear hb hbox hg;obtain⟨_,_,_,_,_,_⟩:=bc3 BK282.out)|(go_at_call 20;(with_reducible refine(stowageref13_Escape.calls k a0_1 t283 _ A6.out).mono ?_);rintro e w' ⟨rfl,⟨nd,rfl⟩⟩;(try exact dd)))
 repeat (go_quiet (first|((with_reducible refine gate_dst (N:=2) rfl ?_);refine box_event ?hg (N:=2) ?hd (cs:=#[.string a0_0,.string a0_1,.slice A0_2 l0_2.length c0_2]) (t:=30) ?hr ?_;(case hd=>rfl);(case hg=>rfl);(case hr=>first|(go_simp;done)|(go_simp;rfl));intro gb282 hg w8 hbox hb;have BK282:=Aside0.mk (hbox);have GW282:=Aside0.mk ((by rw [hg];exact(below_size bl):w.heap.size≤gb282));have GE282:=Aside0.mk ((by rw [hg];exact(below_size bl):w.heap.size≤gb282));replace HB:=Aside0.mk (below_step bl hb);clear hb hbox hg;obtain⟨_,_,_,_,_,_⟩:=bc3 BK282.out)|(go_at_call 20;(with_reducible refine(stowageref13_Escape.calls k a0_1 t283 _ A6.out).mono ?_);rintro e w' ⟨rfl,⟨nd,rfl⟩⟩;(try exact dd)));try go_wp2_with (first|((with_reducible refine gate_dst (N:=2) rfl ?_);refine box_event ?hg (N:=2) ?hd (cs:=#[.string a0_0,.string a0_1,.slice A0_2 l0_2.length c0_2]) (t:=30) ?hr ?_;(case hd=>rfl);(case hg=>rfl);(case hr=>first|(go_simp;done)|(go_simp;rfl));intro gb282 hg w8 hbox hb;have BK282:=Aside0.mk (hbox);have GW282:=Aside0.mk ((by rw [hg];exact(below_size bl):w.heap.size≤gb282));have GE282:=Aside0.mk ((by rw [hg];exact(below_size bl):w.heap.size≤gb282));replace HB:=Aside0.mk (below_step bl hb);clear hb hbox hg;obtain⟨_,_,_,_,_,_⟩:=bc3 BK282.out)|(go_at_call 20;(with_reducible refine(stowageref13_Escape.calls k a0_1 t283 _ A6.out).mono ?_);rintro e w' ⟨rfl,⟨nd,rfl⟩⟩;(try exact dd))))
 go_loopg [5,6] k (fun kq v5 v6 w'=>∃ (x5_1:ByteArray) (x6_1:Int),v5 = .string x5_1∧v6 = .int .i64 x6_1∧Aside0 (stowageref13_text.l0 kq x5_1 x6_1 a0_0 a0_1 l0_2=some r)∧Aside0 (kq≤k)∧Aside0 (w'.heap[gb282]? = some (.cells #[.string a0_0,.string a0_1,(.slice A0_2 l0_2.length c0_2)] 30 (0,0)))∧Aside0 (Below w.heap.size w w'))
 case atStart=>exact⟨(((((⟨#[60]⟩ : ByteArray)++a0_0)++a1)++(⟨#[62]⟩ : ByteArray))++t283),(0),rs,rs,H',⟨Nat.le_refl _⟩,⟨kl⟩,⟨bl⟩⟩
 case round=>
  clear H'
  obtain⟨x5_1,x6_1,rfl,rfl,HA,HK1,BK282,HB⟩:=hrel
  cases gk with
  | zero=>exact absurd HA.out (by simp [stowageref13_text.l0])
  | succ k1=>
   have H:=HA.out
   clear HA
   simp only [stowageref13_text.l0] at H
   replace H:=itO H
   rcases H with⟨c10,H⟩|⟨c10,H⟩
   {
   have c10b0:decide (x6_1<(l0_2.length:Int))=true:=decide_eq_true c10
   clear c10
   replace H:=itO H
   rcases H with⟨c11,H⟩|⟨c11,H⟩
   {
   have c11b0:decide (0≤x6_1)=true:=decide_eq_true c11
   clear c11
   replace H:=bndO H
   obtain⟨t285,A120,H⟩:=H
   have A12:=Aside0.mk A120
   clear A120
   replace H:=itO H
   rcases H with⟨c13,H⟩|⟨c13,H⟩
   {
   have c13b0:=eq_true c13
   try have c13b2:=eq_false (Nat.not_lt.2 c13)
   try (have c13n:x5_1.size+t285.size≤9223372036854775807:=by have h_:=c13;simp only [ByteArray.size_append,ByteArray.size_extract] at h_;exact h_)
   try have c13f:(9223372036854775807<x5_1.size+t285.size)=False:=eq_false (by first|omega|(simp only [eq_iff_iff,iff_true] at *;omega))
   have H':=Aside0.mk H
   clear H
   obtain⟨_,_,_,_,_,_⟩:=bc3 BK282.out
   have p284:0≤(x6_1:Int):=of_decide_eq_true asm
   have q284:x6_1<(l0_2.length:Int):=of_decide_eq_true asm
   obtain⟨ad284,A284_2,c284_2,e284,hx284_0,hx284_1,hx284_2,hl284_2,hi284_2⟩:=at_T30 HR0_2.out x6_1 p284 q284
   cases e284
   replace hx284_0:=(HB.out.cell (World.block_lt_of_cell? w _ hx284_0)).trans hx284_0
   replace hx284_1:=(HB.out.cell (World.block_lt_of_cell? w _ hx284_1)).trans hx284_1
   replace hx284_2:=(HB.out.cell (World.block_lt_of_cell? w _ hx284_2)).trans hx284_2
   have HR284_2:=Aside0.mk hi284_2
   have HC284_2:=Aside0.mk hl284_2
   clear hi284_2 hl284_2
   replace p284:=eq_true p284
   replace q284:=eq_true q284
   go_wp2_with (first|(go_at_call 51;(with_reducible refine(ih k1 (by have:=HK1.out;omega) ((rd_T30 l0_2 x6_1).f0) ((rd_T30 l0_2 x6_1).f1) _ _ ((rd_T30 l0_2 x6_1).f2) (⟨#[]⟩ : ByteArray) t285 _ ?side1 ?side2 A12.out).mono ?_);(case side1=>repeat (first|exact(Kd.C_below HR284_2.out HB.out)|(with_reducible refine Kd.C_alloc ?_ _)|(with_reducible refine Kd.C_drewN ?_ _)|(with_reducible refine Kd.C_drew ?_)));(case side2=>exact HC284_2.out);rintro e w15 ⟨rfl,hb⟩;replace BK282:=Aside0.mk (blk_below (g:=gb282) (o:=.cells #[.string a0_0,.string a0_1,.slice (some ad284) l0_2.length c0_2] 30 (0,0)) kl hb);replace HB:=Aside0.mk (below_step bl hb)))
   repeat (go_quiet (first|(go_at_call 51;(with_reducible refine(ih k1 (by have:=HK1.out;omega) ((rd_T30 l0_2 x6_1).f0) ((rd_T30 l0_2 x6_1).f1) _ _ ((rd_T30 l0_2 x6_1).f2) (⟨#[]⟩ : ByteArray) t285 _ ?side1 ?side2 A12.out).mono ?_);(case side1=>repeat (first|exact(Kd.C_below HR284_2.out HB.out)|(with_reducible refine Kd.C_alloc ?_ _)|(with_reducible refine Kd.C_drewN ?_ _)|(with_reducible refine Kd.C_drew ?_)));(case side2=>exact HC284_2.out);rintro e w15 ⟨rfl,hb⟩;replace BK282:=Aside0.mk (blk_below (g:=gb282) (o:=.cells #[.string a0_0,.string a0_1,.slice (some ad284) l0_2.length c0_2] 30 (0,0)) kl hb);replace HB:=Aside0.mk (below_step bl hb)));try go_wp2_with (first|(go_at_call 51;(with_reducible refine(ih k1 (by have:=HK1.out;omega) ((rd_T30 l0_2 x6_1).f0) ((rd_T30 l0_2 x6_1).f1) _ _ ((rd_T30 l0_2 x6_1).f2) (⟨#[]⟩ : ByteArray) t285 _ ?side1 ?side2 A12.out).mono ?_);(case side1=>repeat (first|exact(Kd.C_below HR284_2.out HB.out)|(with_reducible refine Kd.C_alloc ?_ _)|(with_reducible refine Kd.C_drewN ?_ _)|(with_reducible refine Kd.C_drew ?_)));(case side2=>exact HC284_2.out);rintro e w15 ⟨rfl,hb⟩;replace BK282:=Aside0.mk (blk_below (g:=gb282) (o:=.cells #[.string a0_0,.string a0_1,.slice (some ad284) l0_2.length c0_2] 30 (0,0)) kl hb);replace HB:=Aside0.mk (below_step bl hb))))
   go_roundg k1
   case measure=>have:=HK1.out;omega
   case rel=>exact⟨(x5_1++t285),(wrap64 (x6_1+1)),rs,rs,H',⟨by have:=HK1.out;omega⟩,⟨kl⟩,⟨bl⟩⟩
   }
   ·exact absurd H (by simp)
   }
   ·exact absurd H (by simp)
   }
   {
   have c10b0:decide (x6_1<(l0_2.length:Int))=false:=decide_eq_false c10
   clear c10
   replace H:=itO H
   rcases H with⟨c16,H⟩|⟨c16,H⟩
   {
   have c16b0:=eq_true c16
   try have c16b2:=eq_false (Nat.not_lt.2 c16)
   try (have c16n:x5_1.size+2≤9223372036854775807:=by have h_:=c16;simp only [ByteArray.size_append,ByteArray.size_extract] at h_;exact h_)
   try have c16f:(9223372036854775807<x5_1.size+2)=False:=eq_false (by first|omega|(simp only [eq_iff_iff,iff_true] at *;omega))
   replace H:=itO H
   rcases H with⟨c17,H⟩|⟨c17,H⟩
   {
   have c17b0:=eq_true c17
   try have c17b2:=eq_false (Nat.not_lt.2 c17)
   try (have c17n:x5_1.size+2+a0_0.size≤9223372036854775807:=by have h_:=c17;simp only [ByteArray.size_append,ByteArray.size_extract] at h_;exact h_)
   try have c17f:(9223372036854775807<x5_1.size+2+a0_0.size)=False:=eq_false (by first|omega|(simp only [eq_iff_iff,iff_true] at *;omega))
   replace H:=itO H
   rcases H with⟨c18,H⟩|⟨c18,H⟩
   {
   have c18b0:=eq_true c18
   try have c18b2:=eq_false (Nat.not_lt.2 c18)
   try (have c18n:x5_1.size+2+a0_0.size+1≤9223372036854775807:=by have h_:=c18;simp only [ByteArray.size_append,ByteArray.size_extract] at h_;exact h_)
   try have c18f:(9223372036854775807<x5_1.size+2+a0_0.size+1)=False:=eq_false (by first|omega|(simp only [eq_iff_iff,iff_true] at *;omega))
   obtain rfl:=Option.some.inj H
   obtain⟨_,_,_,_,_,_⟩:=bc3 BK282.out
   go_wp2
   repeat (go_quiet (fail);try go_wp2)
   go_ret
   exact⟨ew,bl⟩
   }
   ·exact absurd H (by simp)
   }
   ·exact absurd H (by simp)
   }
   ·exact absurd H (by simp)
   }
 }
 ·exact absurd H (by simp)
 }
 ·exact absurd H (by simp)
 }
 ·exact absurd H (by simp)
 }
 ·exact absurd H (by simp)
def stowageref13_Print.f (k:Nat) (a0_0:ByteArray) (a0_1:ByteArray) (l0_2:List (S30)) (a1:Bool):Option (ByteArray×Int):=(stowageref13_fit.f k a0_0 a0_1 l0_2 1).bind fun t287=>(if t287=true then(if a1=true then((stowageref13_text.f k a0_0 a0_1 l0_2 (⟨#[32,120,109,108,110,115,61,34,104,116,116,112,58,47,47,115,51,46,97,109,97,122,111,110,97,119,115,46,99,111,109,47,100,111,99,47,50,48,48,54,45,48,51,45,48,49,47,34]⟩ : ByteArray)).bind fun t288=>(if 39+t288.size≤9223372036854775807 then(if(((⟨#[60,63,120,109,108,32,118,101,114,115,105,111,110,61,34,49,46,48,34,32,101,110,99,111,100,105,110,103,61,34,85,84,70,45,56,34,63,62,10]⟩ : ByteArray)++t288).size:Int)>65536 then(some ((⟨#[]⟩ : ByteArray),2)) else(some ((⟨#[60,63,120,109,108,32,118,101,114,115,105,111,110,61,34,49,46,48,34,32,101,110,99,111,100,105,110,103,61,34,85,84,70,45,56,34,63,62,10]⟩ : ByteArray)++t288,0))) else(none))) else((stowageref13_text.f k a0_0 a0_1 l0_2 (⟨#[]⟩ : ByteArray)).bind fun t289=>(if 39+t289.size≤9223372036854775807 then(if(((⟨#[60,63,120,109,108,32,118,101,114,115,105,111,110,61,34,49,46,48,34,32,101,110,99,111,100,105,110,103,61,34,85,84,70,45,56,34,63,62,10]⟩ : ByteArray)++t289).size:Int)>65536 then(some ((⟨#[]⟩ : ByteArray),2)) else(some ((⟨#[60,63,120,109,108,32,118,101,114,115,105,111,110,61,34,49,46,48,34,32,101,110,99,111,100,105,110,103,61,34,85,84,70,45,56,34,63,62,10]⟩ : ByteArray)++t289,0))) else(none)))) else(some ((⟨#[]⟩ : ByteArray),130)))
theorem stowageref13_Print.mono:∀ a0 a1 a2 a3 k,LeO (stowageref13_Print.f k a0 a1 a2 a3) (stowageref13_Print.f (k+1) a0 a1 a2 a3):=by
 intro a0 a1 a2 a3 k
 unfold stowageref13_Print.f
 with_reducible repeat' first|exact stowageref13_fit.mono _ _ _ _ _|exact stowageref13_text.mono _ _ _ _ _|exact LeO.refl _|exact LeO.none _|refine LeO.ite ?_ ?_|refine LeO.bind ?_ (fun _=>?_)
theorem stowageref13_Print.calls (k:Nat) (a0_0:ByteArray) (a0_1:ByteArray) (A0_2:Option Addr) (c0_2:Nat) (l0_2:List (S30)) (a1:Bool) (r1:ByteArray) (r2:Int) (w:World) (hr0_2:Kd.C k30 w A0_2 l0_2.length l0_2) (hc0_2:l0_2.length≤c0_2) (h:stowageref13_Print.f k a0_0 a0_1 l0_2 a1=some (r1,r2)) :
    Calls Tryd.prog 24 #[.agg #[.string a0_0,.string a0_1,.slice A0_2 l0_2.length c0_2],.bool a1] w fun e w'=>e = .returned (.tuple #[.string r1,.int .i64 r2])∧Below w.heap.size w w':=by
 have hu30:=Tryd.underlying30
 have HR0_2:=Aside0.mk hr0_2
 have HC0_2:=Aside0.mk hc0_2
 clear hr0_2 hc0_2
 have HB:=Aside0.mk (Below.refl w.heap.size w)
 unfold stowageref13_Print.f at h
 have H:=h
 clear h
 replace H:=bndO H
 obtain⟨t287,A30,H⟩:=H
 have A3:=Aside0.mk A30
 clear A30
 by_cases c4:t287=true
 {
 subst c4
 replace H:=itT H
 by_cases c5:a1=true
 {
 subst c5
 replace H:=itT H
 replace H:=bndO H
 obtain⟨t288,A60,H⟩:=H
 have A6:=Aside0.mk A60
 clear A60
 replace H:=itO H
 rcases H with⟨c7,H⟩|⟨c7,H⟩
 {
 have c7b0:=eq_true c7
 try have c7b2:=eq_false (Nat.not_lt.2 c7)
 try (have c7n:39+t288.size≤9223372036854775807:=by have h_:=c7;simp only [ByteArray.size_append,ByteArray.size_extract] at h_;exact h_)
 try have c7f:(9223372036854775807<39+t288.size)=False:=eq_false (by first|omega|(simp only [eq_iff_iff,iff_true] at *;omega))
 replace H:=itO H
 rcases H with⟨c8,H⟩|⟨c8,H⟩
 {
 have c8b0:decide (65536<(((⟨#[60,63,120,109,108,32,118,101,114,115,105,111,110,61,34,49,46,48,34,32,101,110,99,111,100,105,110,103,61,34,85,84,70,45,56,34,63,62,10]⟩ : ByteArray)++t288).size:Int))=true:=decide_eq_true c8
 have c8w:decide ((65536:Int)<39+(t288.size:Int))=true:=by
   have h_:=of_decide_eq_true c8b0
   rw [ByteArray.size_append] at h_
   have e_:((⟨#[60,63,120,109,108,32,118,101,114,115,105,111,110,61,34,49,46,48,34,32,101,110,99,111,100,105,110,103,61,34,85,84,70,45,56,34,63,62,10]⟩ : ByteArray)).size=39:=rfl
   exact decide_eq_true (by omega)
 try (have c8m:=c8;simp only [ByteArray.size_append,Int.natCast_add,Int.not_lt] at c8m)
 clear c8
 simp only [Option.some.injEq,Prod.mk.injEq] at H
 obtain⟨rfl,rfl⟩:=H
 go_enter Tryd.func24,Tryd.ntmps24
 go_wp2_with (first|((with_reducible refine gate_dst (N:=2) rfl ?_);refine box_event ?hg (N:=2) ?hd (cs:=#[.string a0_0,.string a0_1,.slice A0_2 l0_2.length c0_2]) (t:=30) ?hr ?_;(case hd=>rfl);(case hg=>rfl);(case hr=>first|(go_simp;done)|(go_simp;rfl));intro gb286 hg w9 hbox hb;have BK286:=Aside0.mk (hbox);have GW286:=Aside0.mk ((by rw [hg];exact(below_size bl):w.heap.size≤gb286));have GE286:=Aside0.mk ((by rw [hg];exact(below_size bl):w.heap.size≤gb286));replace HB:=Aside0.mk (below_step bl hb);clear hb hbox hg;obtain⟨_,_,_,_,_,_⟩:=bc3 BK286.out)|((with_reducible refine gate_callee (f:=50) rfl ?_);refine goesL_ (some 9) rfl rfl Tryd.func50 kr rfl #[.agg #[.string a0_0,.string a0_1,.slice A0_2 l0_2.length c0_2],.int .i64 1] rfl am ?_;(with_reducible refine(stowageref13_fit.calls k a0_0 a0_1 _ _ l0_2 1 true _ ?side1 ?side2 A3.out).mono ?_);(case side1=>repeat (first|exact(Kd.C_below HR0_2.out HB.out)|(with_reducible refine Kd.C_alloc ?_ _)|(with_reducible refine Kd.C_drewN ?_ _)|(with_reducible refine Kd.C_drew ?_)));(case side2=>exact HC0_2.out);rintro e w11 ⟨rfl,hb⟩;refine⟨_,rfl,?_⟩;replace BK286:=Aside0.mk (blk_below (g:=gb286) (o:=.cells #[.string a0_0,.string a0_1,.slice A0_2 l0_2.length c0_2] 30 (0,0)) kl hb);replace HB:=Aside0.mk (below_step bl hb);obtain⟨_,_,_,_,_,_⟩:=bc3 BK286.out)|((with_reducible refine gate_callee (f:=51) rfl ?_);refine goesL_ (some 14) rfl rfl Tryd.func51 kr rfl #[.agg #[.string a0_0,.string a0_1,.slice A0_2 l0_2.length c0_2],.string (⟨#[32,120,109,108,110,115,61,34,104,116,116,112,58,47,47,115,51,46,97,109,97,122,111,110,97,119,115,46,99,111,109,47,100,111,99,47,50,48,48,54,45,48,51,45,48,49,47,34]⟩ : ByteArray)] rfl am ?_;(with_reducible refine(stowageref13_text.calls k a0_0 a0_1 _ _ l0_2 (⟨#[32,120,109,108,110,115,61,34,104,116,116,112,58,47,47,115,51,46,97,109,97,122,111,110,97,119,115,46,99,111,109,47,100,111,99,47,50,48,48,54,45,48,51,45,48,49,47,34]⟩ : ByteArray) t288 _ ?side1 ?side2 A6.out).mono ?_);(case side1=>repeat (first|exact(Kd.C_below HR0_2.out HB.out)|(with_reducible refine Kd.C_alloc ?_ _)|(with_reducible refine Kd.C_drewN ?_ _)|(with_reducible refine Kd.C_drew ?_)));(case side2=>exact HC0_2.out);rintro e w13 ⟨rfl,hb⟩;refine⟨_,rfl,?_⟩;replace BK286:=Aside0.mk (blk_below (g:=gb286) (o:=.cells #[.string a0_0,.string a0_1,.slice A0_2 l0_2.length c0_2] 30 (0,0)) kl hb);replace HB:=Aside0.mk (below_step bl hb)))
 go_ret2
 exact⟨ew,bl⟩
 }
 {
 have c8b0:decide (65536<(((⟨#[60,63,120,109,108,32,118,101,114,115,105,111,110,61,34,49,46,48,34,32,101,110,99,111,100,105,110,103,61,34,85,84,70,45,56,34,63,62,10]⟩ : ByteArray)++t288).size:Int))=false:=decide_eq_false c8
 have c8w:decide ((65536:Int)<39+(t288.size:Int))=false:=by
   have h_:=of_decide_eq_false c8b0
   rw [ByteArray.size_append] at h_
   have e_:((⟨#[60,63,120,109,108,32,118,101,114,115,105,111,110,61,34,49,46,48,34,32,101,110,99,111,100,105,110,103,61,34,85,84,70,45,56,34,63,62,10]⟩ : ByteArray)).size=39:=rfl
   exact decide_eq_false (by omega)
 try (have c8m:=c8;simp only [ByteArray.size_append,Int.natCast_add,Int.not_lt] at c8m)
 clear c8
 simp only [Option.some.injEq,Prod.mk.injEq] at H
 obtain⟨rfl,rfl⟩:=H
 go_enter Tryd.func24,Tryd.ntmps24
 go_wp2_with (first|((with_reducible refine gate_dst (N:=2) rfl ?_);refine box_event ?hg (N:=2) ?hd (cs:=#[.string a0_0,.string a0_1,.slice A0_2 l0_2.length c0_2]) (t:=30) ?hr ?_;(case hd=>rfl);(case hg=>rfl);(case hr=>first|(go_simp;done)|(go_simp;rfl));intro gb286 hg w14 hbox hb;have BK286:=Aside0.mk (hbox);have GW286:=Aside0.mk ((by rw [hg];exact(below_size bl):w.heap.size≤gb286));have GE286:=Aside0.mk ((by rw [hg];exact(below_size bl):w.heap.size≤gb286));replace HB:=Aside0.mk (below_step bl hb);clear hb hbox hg;obtain⟨_,_,_,_,_,_⟩:=bc3 BK286.out)|((with_reducible refine gate_callee (f:=50) rfl ?_);refine goesL_ (some 9) rfl rfl Tryd.func50 kr rfl #[.agg #[.string a0_0,.string a0_1,.slice A0_2 l0_2.length c0_2],.int .i64 1] rfl am ?_;(with_reducible refine(stowageref13_fit.calls k a0_0 a0_1 _ _ l0_2 1 true _ ?side1 ?side2 A3.out).mono ?_);(case side1=>repeat (first|exact(Kd.C_below HR0_2.out HB.out)|(with_reducible refine Kd.C_alloc ?_ _)|(with_reducible refine Kd.C_drewN ?_ _)|(with_reducible refine Kd.C_drew ?_)));(case side2=>exact HC0_2.out);rintro e w16 ⟨rfl,hb⟩;refine⟨_,rfl,?_⟩;replace BK286:=Aside0.mk (blk_below (g:=gb286) (o:=.cells #[.string a0_0,.string a0_1,.slice A0_2 l0_2.length c0_2] 30 (0,0)) kl hb);replace HB:=Aside0.mk (below_step bl hb);obtain⟨_,_,_,_,_,_⟩:=bc3 BK286.out)|((with_reducible refine gate_callee (f:=51) rfl ?_);refine goesL_ (some 14) rfl rfl Tryd.func51 kr rfl #[.agg #[.string a0_0,.string a0_1,.slice A0_2 l0_2.length c0_2],.string (⟨#[32,120,109,108,110,115,61,34,104,116,116,112,58,47,47,115,51,46,97,109,97,122,111,110,97,119,115,46,99,111,109,47,100,111,99,47,50,48,48,54,45,48,51,45,48,49,47,34]⟩ : ByteArray)] rfl am ?_;(with_reducible refine(stowageref13_text.calls k a0_0 a0_1 _ _ l0_2 (⟨#[32,120,109,108,110,115,61,34,104,116,116,112,58,47,47,115,51,46,97,109,97,122,111,110,97,119,115,46,99,111,109,47,100,111,99,47,50,48,48,54,45,48,51,45,48,49,47,34]⟩ : ByteArray) t288 _ ?side1 ?side2 A6.out).mono ?_);(case side1=>repeat (first|exact(Kd.C_below HR0_2.out HB.out)|(with_reducible refine Kd.C_alloc ?_ _)|(with_reducible refine Kd.C_drewN ?_ _)|(with_reducible refine Kd.C_drew ?_)));(case side2=>exact HC0_2.out);rintro e w18 ⟨rfl,hb⟩;refine⟨_,rfl,?_⟩;replace BK286:=Aside0.mk (blk_below (g:=gb286) (o:=.cells #[.string a0_0,.string a0_1,.slice A0_2 l0_2.length c0_2] 30 (0,0)) kl hb);replace HB:=Aside0.mk (below_step bl hb)))
 go_ret2
 exact⟨ew,bl⟩
 }
 }
 ·exact absurd H (by simp)
 }
 {
 replace c5:=Bool.eq_false_iff.mpr c5
 subst c5
 replace H:=itF H
 replace H:=bndO H
 obtain⟨t289,A190,H⟩:=H
 have A19:=Aside0.mk A190
 clear A190
 replace H:=itO H
 rcases H with⟨c20,H⟩|⟨c20,H⟩
 {
 have c20b0:=eq_true c20
 try have c20b2:=eq_false (Nat.not_lt.2 c20)
 try (have c20n:39+t289.size≤9223372036854775807:=by have h_:=c20;simp only [ByteArray.size_append,ByteArray.size_extract] at h_;exact h_)
 try have c20f:(9223372036854775807<39+t289.size)=False:=eq_false (by first|omega|(simp only [eq_iff_iff,iff_true] at *;omega))
 replace H:=itO H
 rcases H with⟨c21,H⟩|⟨c21,H⟩
 {
 have c21b0:decide (65536<(((⟨#[60,63,120,109,108,32,118,101,114,115,105,111,110,61,34,49,46,48,34,32,101,110,99,111,100,105,110,103,61,34,85,84,70,45,56,34,63,62,10]⟩ : ByteArray)++t289).size:Int))=true:=decide_eq_true c21
 have c21w:decide ((65536:Int)<39+(t289.size:Int))=true:=by
   have h_:=of_decide_eq_true c21b0
   rw [ByteArray.size_append] at h_
   have e_:((⟨#[60,63,120,109,108,32,118,101,114,115,105,111,110,61,34,49,46,48,34,32,101,110,99,111,100,105,110,103,61,34,85,84,70,45,56,34,63,62,10]⟩ : ByteArray)).size=39:=rfl
   exact decide_eq_true (by omega)
 try (have c21m:=c21;simp only [ByteArray.size_append,Int.natCast_add,Int.not_lt] at c21m)
 clear c21
 simp only [Option.some.injEq,Prod.mk.injEq] at H
 obtain⟨rfl,rfl⟩:=H
 go_enter Tryd.func24,Tryd.ntmps24
 go_wp2_with (first|((with_reducible refine gate_dst (N:=2) rfl ?_);refine box_event ?hg (N:=2) ?hd (cs:=#[.string a0_0,.string a0_1,.slice A0_2 l0_2.length c0_2]) (t:=30) ?hr ?_;(case hd=>rfl);(case hg=>rfl);(case hr=>first|(go_simp;done)|(go_simp;rfl));intro gb286 hg w22 hbox hb;have BK286:=Aside0.mk (hbox);have GW286:=Aside0.mk ((by rw [hg];exact(below_size bl):w.heap.size≤gb286));have GE286:=Aside0.mk ((by rw [hg];exact(below_size bl):w.heap.size≤gb286));replace HB:=Aside0.mk (below_step bl hb);clear hb hbox hg;obtain⟨_,_,_,_,_,_⟩:=bc3 BK286.out)|((with_reducible refine gate_callee (f:=50) rfl ?_);refine goesL_ (some 9) rfl rfl Tryd.func50 kr rfl #[.agg #[.string a0_0,.string a0_1,.slice A0_2 l0_2.length c0_2],.int .i64 1] rfl am ?_;(with_reducible refine(stowageref13_fit.calls k a0_0 a0_1 _ _ l0_2 1 true _ ?side1 ?side2 A3.out).mono ?_);(case side1=>repeat (first|exact(Kd.C_below HR0_2.out HB.out)|(with_reducible refine Kd.C_alloc ?_ _)|(with_reducible refine Kd.C_drewN ?_ _)|(with_reducible refine Kd.C_drew ?_)));(case side2=>exact HC0_2.out);rintro e w24 ⟨rfl,hb⟩;refine⟨_,rfl,?_⟩;replace BK286:=Aside0.mk (blk_below (g:=gb286) (o:=.cells #[.string a0_0,.string a0_1,.slice A0_2 l0_2.length c0_2] 30 (0,0)) kl hb);replace HB:=Aside0.mk (below_step bl hb);obtain⟨_,_,_,_,_,_⟩:=bc3 BK286.out)|((with_reducible refine gate_callee (f:=51) rfl ?_);refine goesL_ (some 14) rfl rfl Tryd.func51 kr rfl #[.agg #[.string a0_0,.string a0_1,.slice A0_2 l0_2.length c0_2],.string (⟨#[]⟩ : ByteArray)] rfl am ?_;(with_reducible refine(stowageref13_text.calls k a0_0 a0_1 _ _ l0_2 (⟨#[]⟩ : ByteArray) t289 _ ?side1 ?side2 A19.out).mono ?_);(case side1=>repeat (first|exact(Kd.C_below HR0_2.out HB.out)|(with_reducible refine Kd.C_alloc ?_ _)|(with_reducible refine Kd.C_drewN ?_ _)|(with_reducible refine Kd.C_drew ?_)));(case side2=>exact HC0_2.out);rintro e w26 ⟨rfl,hb⟩;refine⟨_,rfl,?_⟩;replace BK286:=Aside0.mk (blk_below (g:=gb286) (o:=.cells #[.string a0_0,.string a0_1,.slice A0_2 l0_2.length c0_2] 30 (0,0)) kl hb);replace HB:=Aside0.mk (below_step bl hb)))
 go_ret2
 exact⟨ew,bl⟩
 }
 {
 have c21b0:decide (65536<(((⟨#[60,63,120,109,108,32,118,101,114,115,105,111,110,61,34,49,46,48,34,32,101,110,99,111,100,105,110,103,61,34,85,84,70,45,56,34,63,62,10]⟩ : ByteArray)++t289).size:Int))=false:=decide_eq_false c21
 have c21w:decide ((65536:Int)<39+(t289.size:Int))=false:=by
   have h_:=of_decide_eq_false c21b0
   rw [ByteArray.size_append] at h_
   have e_:((⟨#[60,63,120,109,108,32,118,101,114,115,105,111,110,61,34,49,46,48,34,32,101,110,99,111,100,105,110,103,61,34,85,84,70,45,56,34,63,62,10]⟩ : ByteArray)).size=39:=rfl
   exact decide_eq_false (by omega)
 try (have c21m:=c21;simp only [ByteArray.size_append,Int.natCast_add,Int.not_lt] at c21m)
 clear c21
 simp only [Option.some.injEq,Prod.mk.injEq] at H
 obtain⟨rfl,rfl⟩:=H
 go_enter Tryd.func24,Tryd.ntmps24
 go_wp2_with (first|((with_reducible refine gate_dst (N:=2) rfl ?_);refine box_event ?hg (N:=2) ?hd (cs:=#[.string a0_0,.string a0_1,.slice A0_2 l0_2.length c0_2]) (t:=30) ?hr ?_;(case hd=>rfl);(case hg=>rfl);(case hr=>first|(go_simp;done)|(go_simp;rfl));intro gb286 hg w27 hbox hb;have BK286:=Aside0.mk (hbox);have GW286:=Aside0.mk ((by rw [hg];exact(below_size bl):w.heap.size≤gb286));have GE286:=Aside0.mk ((by rw [hg];exact(below_size bl):w.heap.size≤gb286));replace HB:=Aside0.mk (below_step bl hb);clear hb hbox hg;obtain⟨_,_,_,_,_,_⟩:=bc3 BK286.out)|((with_reducible refine gate_callee (f:=50) rfl ?_);refine goesL_ (some 9) rfl rfl Tryd.func50 kr rfl #[.agg #[.string a0_0,.string a0_1,.slice A0_2 l0_2.length c0_2],.int .i64 1] rfl am ?_;(with_reducible refine(stowageref13_fit.calls k a0_0 a0_1 _ _ l0_2 1 true _ ?side1 ?side2 A3.out).mono ?_);(case side1=>repeat (first|exact(Kd.C_below HR0_2.out HB.out)|(with_reducible refine Kd.C_alloc ?_ _)|(with_reducible refine Kd.C_drewN ?_ _)|(with_reducible refine Kd.C_drew ?_)));(case side2=>exact HC0_2.out);rintro e w29 ⟨rfl,hb⟩;refine⟨_,rfl,?_⟩;replace BK286:=Aside0.mk (blk_below (g:=gb286) (o:=.cells #[.string a0_0,.string a0_1,.slice A0_2 l0_2.length c0_2] 30 (0,0)) kl hb);replace HB:=Aside0.mk (below_step bl hb);obtain⟨_,_,_,_,_,_⟩:=bc3 BK286.out)|((with_reducible refine gate_callee (f:=51) rfl ?_);refine goesL_ (some 14) rfl rfl Tryd.func51 kr rfl #[.agg #[.string a0_0,.string a0_1,.slice A0_2 l0_2.length c0_2],.string (⟨#[]⟩ : ByteArray)] rfl am ?_;(with_reducible refine(stowageref13_text.calls k a0_0 a0_1 _ _ l0_2 (⟨#[]⟩ : ByteArray) t289 _ ?side1 ?side2 A19.out).mono ?_);(case side1=>repeat (first|exact(Kd.C_below HR0_2.out HB.out)|(with_reducible refine Kd.C_alloc ?_ _)|(with_reducible refine Kd.C_drewN ?_ _)|(with_reducible refine Kd.C_drew ?_)));(case side2=>exact HC0_2.out);rintro e w31 ⟨rfl,hb⟩;refine⟨_,rfl,?_⟩;replace BK286:=Aside0.mk (blk_below (g:=gb286) (o:=.cells #[.string a0_0,.string a0_1,.slice A0_2 l0_2.length c0_2] 30 (0,0)) kl hb);replace HB:=Aside0.mk (below_step bl hb)))
 go_ret2
 exact⟨ew,bl⟩
 }
 }
 ·exact absurd H (by simp)
 }
 }
 {
 replace c4:=Bool.eq_false_iff.mpr c4
 subst c4
 replace H:=itF H
 simp only [Option.some.injEq,Prod.mk.injEq] at H
 obtain⟨rfl,rfl⟩:=H
 go_enter Tryd.func24,Tryd.ntmps24
 go_wp2_with (first|((with_reducible refine gate_dst (N:=2) rfl ?_);refine box_event ?hg (N:=2) ?hd (cs:=#[.string a0_0,.string a0_1,.slice A0_2 l0_2.length c0_2]) (t:=30) ?hr ?_;(case hd=>rfl);(case hg=>rfl);(case hr=>first|(go_simp;done)|(go_simp;rfl));intro gb286 hg w32 hbox hb;have BK286:=Aside0.mk (hbox);have GW286:=Aside0.mk ((by rw [hg];exact(below_size bl):w.heap.size≤gb286));have GE286:=Aside0.mk ((by rw [hg];exact(below_size bl):w.heap.size≤gb286));replace HB:=Aside0.mk (below_step bl hb);clear hb hbox hg;obtain⟨_,_,_,_,_,_⟩:=bc3 BK286.out)|((with_reducible refine gate_callee (f:=50) rfl ?_);refine goesL_ (some 9) rfl rfl Tryd.func50 kr rfl #[.agg #[.string a0_0,.string a0_1,.slice A0_2 l0_2.length c0_2],.int .i64 1] rfl am ?_;(with_reducible refine(stowageref13_fit.calls k a0_0 a0_1 _ _ l0_2 1 false _ ?side1 ?side2 A3.out).mono ?_);(case side1=>repeat (first|exact(Kd.C_below HR0_2.out HB.out)|(with_reducible refine Kd.C_alloc ?_ _)|(with_reducible refine Kd.C_drewN ?_ _)|(with_reducible refine Kd.C_drew ?_)));(case side2=>exact HC0_2.out);rintro e w34 ⟨rfl,hb⟩;refine⟨_,rfl,?_⟩;replace BK286:=Aside0.mk (blk_below (g:=gb286) (o:=.cells #[.string a0_0,.string a0_1,.slice A0_2 l0_2.length c0_2] 30 (0,0)) kl hb);replace HB:=Aside0.mk (below_step bl hb)))
 go_ret2
 exact⟨ew,bl⟩
 }
mutual
def stowagelaw13_To.l0:Nat→Int→ByteArray→ByteArray→List (S24)→ByteArray→ByteArray→List (S30)→Option (ByteArray×ByteArray×(List (S30)))
  | 0,_,_,_,_,_,_,_=>none
  | k+1,x4,x256000,x256001,x256002,x258000,x258001,x258002=>if x4<(x256002.length:Int) then(if 0≤x4 then((stowagelaw13_To.f k ((rd_T24 x256002 x4).f0) ((rd_T24 x256002 x4).f1) ((rd_T24 x256002 x4).f2)).bind fun bt259=>(if x258002.length<2513169434916 then(stowagelaw13_To.l0 k (wrap64 (x4+1)) x256000 x256001 x256002 x258000 x258001 (x258002 ++ [(⟨bt259.1,bt259.2.1,bt259.2.2⟩ : S30)])) else(none))) else(none)) else(some (x258000,x258001,x258002))
def stowagelaw13_To.f:Nat→ByteArray→ByteArray→List (S24)→Option (ByteArray×ByteArray×(List (S30)))
  | 0,_,_,_=>none
  | k+1,a0_0,a0_1,l0_2=>stowagelaw13_To.l0 k 0 a0_0 a0_1 l0_2 a0_0 a0_1 ([]:List (S30))
end
theorem stowagelaw13_To.mono_l:∀ k,(∀ y0 y1 y2,LeO (stowagelaw13_To.f k y0 y1 y2) (stowagelaw13_To.f (k+1) y0 y1 y2))∧(∀ y0 y1 y2 y3 y4 y5 y6,LeO (stowagelaw13_To.l0 k y0 y1 y2 y3 y4 y5 y6) (stowagelaw13_To.l0 (k+1) y0 y1 y2 y3 y4 y5 y6))
  | 0=>⟨fun _ _ _ r h=>by simp [stowagelaw13_To.f] at h,fun _ _ _ _ _ _ _ r h=>by simp [stowagelaw13_To.l0] at h⟩
  | k+1=>by
    obtain⟨ih0,ih1⟩:=stowagelaw13_To.mono_l k
    refine⟨?_,?_⟩
    · intro y0 y1 y2
      unfold stowagelaw13_To.f
      with_reducible repeat' first|exact ih0 _ _ _|exact ih1 _ _ _ _ _ _ _|exact LeO.refl _|exact LeO.none _|refine LeO.ite ?_ ?_|refine LeO.bind ?_ (fun _=>?_)
    · intro y0 y1 y2 y3 y4 y5 y6
      unfold stowagelaw13_To.l0
      with_reducible repeat' first|exact ih0 _ _ _|exact ih1 _ _ _ _ _ _ _|exact LeO.refl _|exact LeO.none _|refine LeO.ite ?_ ?_|refine LeO.bind ?_ (fun _=>?_)
theorem stowagelaw13_To.mono:∀ a0 a1 a2 k,LeO (stowagelaw13_To.f k a0 a1 a2) (stowagelaw13_To.f (k+1) a0 a1 a2):=by
 intro a0 a1 a2 k
 obtain⟨ih0,ih1⟩:=stowagelaw13_To.mono_l k
 exact ih0 a0 a1 a2
def stowagelaw13_To.T5:Bool×List (List Nat×List Nat):=(true,[([],[]),([0],[0]),([],[]),([2],[2]),([],[]),([3,4],[3,4]),([5],[5]),([6],[6]),([7],[7]),([1,8,7],[1,8]),([0,1,2,3,4,5,6,7,8,9],[]),([10,9,9,0,1,2,3,4,5,6,7,8,9],[9,10])])
def stowagelaw13_To.B5:List Nat:=[0,1,0,4,0,28,60,124,252,511,1023,2047]
theorem stowagelaw13_To.tab5:rtab .any (opsOf Tryd.f13 5)=stowagelaw13_To.T5:=by kernel_rfl
theorem stowagelaw13_To.bits5:waitsOk stowagelaw13_To.T5.2 stowagelaw13_To.B5=true:=by kernel_rfl
theorem stowagelaw13_To.calls (k:Nat):∀ (a0_0:ByteArray) (a0_1:ByteArray) (A0_2:Option Addr) (c0_2:Nat) (l0_2:List (S24)) (r1:ByteArray) (r2:ByteArray) (r3:List (S30)) (w:World) (hr0_2:Kd.C k24 w A0_2 l0_2.length l0_2) (hc0_2:l0_2.length≤c0_2) (h:stowagelaw13_To.f k a0_0 a0_1 l0_2=some (r1,r2,r3)),
    Calls Tryd.prog 13 #[.agg #[.string a0_0,.string a0_1,.slice A0_2 l0_2.length c0_2]] w fun e w'=>∃ v2_:Value,e = .returned (.agg #[.string r1,.string r2,v2_])∧Kd.R k30 30 w' w.heap.size (fun _=>True) v2_ r3∧Below w.heap.size w w':=by
 induction k using Nat.strongRecOn with
 | _ k ih=>
 intro a0_0 a0_1 A0_2 c0_2 l0_2 r1 r2 r3 w hr0_2 hc0_2 h
 cases k with
 | zero=>exact absurd h (by simp [stowagelaw13_To.f])
 | succ k=>
 simp only [stowagelaw13_To.f] at h
 have hu24:=Tryd.underlying24
 have hu30:=Tryd.underlying30
 have HR0_2:=Aside0.mk hr0_2
 have HC0_2:=Aside0.mk hc0_2
 clear hr0_2 hc0_2
 have HB:=Aside0.mk (Below.refl w.heap.size w)
 have H:(stowagelaw13_To.l0 k 0 a0_0 a0_1 l0_2 a0_0 a0_1 ([]:List (S30)))=some (r1,r2,r3):=h
 clear h
 have H':=Aside0.mk H
 clear H
 go_enter Tryd.func13,Tryd.ntmps13
 go_wp2_with (first|((with_reducible refine gate_dst (N:=1) rfl ?_);refine box_event ?hg (N:=1) ?hd (cs:=#[.string a0_0,.string a0_1,.slice A0_2 l0_2.length c0_2]) (t:=24) ?hr ?_;(case hd=>rfl);(case hg=>rfl);(case hr=>first|(go_simp;done)|(go_simp;rfl));intro gb255 hg w2 hbox hb;have n0_:=Aside0.mk (below_step bl hb);have n1_:=Aside0.mk (hbox);have n2_:=Aside0.mk ((by rw [hg];exact(below_size bl):w.heap.size≤gb255));have n3_:=Aside0.mk ((by rw [hg];exact(below_size bl):w.heap.size≤gb255));clear HB;have HB:=n0_;have BK255:=n1_;have GW255:=n2_;have GE255:=n3_;clear n0_ n1_ n2_ n3_;clear hb hbox hg)|((with_reducible refine gate_dst (N:=2) rfl ?_);refine box_event ?hg (N:=2) ?hd (cs:=#[.string (⟨#[]⟩ : ByteArray),.string (⟨#[]⟩ : ByteArray),.slice none 0 0]) (t:=30) ?hr ?_;(case hd=>rfl);(case hg=>rfl);(case hr=>first|(go_simp;done)|(go_simp;rfl));intro gb256 hg w3 hbox hb;have n0_:=Aside0.mk (blk_below (g:=gb255) (o:=.cells #[.string a0_0,.string a0_1,.slice A0_2 l0_2.length c0_2] 24 (0,0)) kl hb);have n1_:=Aside0.mk (below_step bl hb);have n2_:=Aside0.mk (hbox);have n3_:=Aside0.mk ((by rw [hg];exact(below_size bl):w.heap.size≤gb256));have n4_:=Aside0.mk ((by rw [hg];exact(below_size bl):w.heap.size≤gb256));have n5_:=Aside0.mk ((by rw [hg];exact Nat.ne_of_lt (blk_lt (g:=gb255) (o:=.cells #[.string a0_0,.string a0_1,.slice A0_2 l0_2.length c0_2] 24 (0,0)) kl):gb255≠gb256));have n6_:=Aside0.mk ((by rw [hg];exact Nat.ne_of_gt (blk_lt (g:=gb255) (o:=.cells #[.string a0_0,.string a0_1,.slice A0_2 l0_2.length c0_2] 24 (0,0)) kl):gb256≠gb255));clear BK255;clear HB;have BK255:=n0_;have HB:=n1_;have BK256:=n2_;have GW256:=n3_;have GE256:=n4_;have NB255_256:=n5_;have NB256_255:=n6_;clear n0_ n1_ n2_ n3_ n4_ n5_ n6_;clear hb hbox hg;have hnb4:=NB255_256.out;have hnc4:=NB256_255.out;obtain⟨_,_,_,_,_,_⟩:=bc3 BK255.out)|((with_reducible refine gate_dst (N:=3) rfl ?_);refine box_event ?hg (N:=3) ?hd (cs:=#[.string (⟨#[]⟩ : ByteArray),.string (⟨#[]⟩ : ByteArray),.slice none 0 0]) (t:=30) ?hr ?_;(case hd=>rfl);(case hg=>rfl);(case hr=>first|(go_simp;done)|(go_simp;rfl));intro gb257 hg w6 hbox hb;have n0_:=Aside0.mk (blk_below (g:=gb255) (o:=.cells #[.string a0_0,.string a0_1,.slice A0_2 l0_2.length c0_2] 24 (0,0)) kl hb);have n1_:=Aside0.mk (blk_below (g:=gb256) (o:=.cells #[.string (⟨#[]⟩ : ByteArray),.string (⟨#[]⟩ : ByteArray),.slice none 0 0] 30 (0,0)) kl hb);have n2_:=Aside0.mk (below_step bl hb);have n3_:=Aside0.mk (hbox);have n4_:=Aside0.mk ((by rw [hg];exact(below_size bl):w.heap.size≤gb257));have n5_:=Aside0.mk ((by rw [hg];exact(below_size bl):w.heap.size≤gb257));have n6_:=Aside0.mk ((by rw [hg];exact Nat.ne_of_lt (blk_lt (g:=gb255) (o:=.cells #[.string a0_0,.string a0_1,.slice A0_2 l0_2.length c0_2] 24 (0,0)) kl):gb255≠gb257));have n7_:=Aside0.mk ((by rw [hg];exact Nat.ne_of_gt (blk_lt (g:=gb255) (o:=.cells #[.string a0_0,.string a0_1,.slice A0_2 l0_2.length c0_2] 24 (0,0)) kl):gb257≠gb255));have n8_:=Aside0.mk ((by rw [hg];exact Nat.ne_of_lt (blk_lt (g:=gb256) (o:=.cells #[.string (⟨#[]⟩ : ByteArray),.string (⟨#[]⟩ : ByteArray),.slice none 0 0] 30 (0,0)) kl):gb256≠gb257));have n9_:=Aside0.mk ((by rw [hg];exact Nat.ne_of_gt (blk_lt (g:=gb256) (o:=.cells #[.string (⟨#[]⟩ : ByteArray),.string (⟨#[]⟩ : ByteArray),.slice none 0 0] 30 (0,0)) kl):gb257≠gb256));clear BK255;clear BK256;clear HB;have BK255:=n0_;have BK256:=n1_;have HB:=n2_;have BK257:=n3_;have GW257:=n4_;have GE257:=n5_;have NB255_257:=n6_;have NB257_255:=n7_;have NB256_257:=n8_;have NB257_256:=n9_;clear n0_ n1_ n2_ n3_ n4_ n5_ n6_ n7_ n8_ n9_;clear hb hbox hg;have hnb7:=NB257_255.out;have hnc7:=NB255_257.out;have hnb8:=NB257_256.out;have hnc8:=NB256_257.out;obtain⟨_,_,_,_,_,_⟩:=bc3 BK257.out))
 go_loopg [4] k (fun kq v4 w'=>∃ (x4_1:Int) (x258002_1:List (S30)) (u258002:Value),v4 = .int .i64 x4_1∧Aside0 (stowagelaw13_To.l0 kq x4_1 a0_0 a0_1 l0_2 a0_0 a0_1 x258002_1=some (r1,r2,r3))∧Aside0 (kq≤k)∧Aside0 (Kd.R k30 30 w' w.heap.size (fun k_=>k_≠gb256∧k_≠gb257) u258002 x258002_1)∧Aside0 (w'.heap[gb255]? = some (.cells #[.string a0_0,.string a0_1,(.slice A0_2 l0_2.length c0_2)] 24 (0,0)))∧Aside0 (w'.heap[gb256]? = some (.cells #[.string (⟨#[]⟩ : ByteArray),.string (⟨#[]⟩ : ByteArray),(.slice none 0 0)] 30 (0,0)))∧Aside0 (w'.heap[gb257]? = some (.cells #[.string a0_0,.string a0_1,u258002] 30 (0,0)))∧Aside0 (Below w.heap.size w w'))
 case atStart=>exact⟨(0),(([]:List (S30))),(.slice none 0 0),rs,H',⟨Nat.le_refl _⟩,⟨nl⟩,⟨by(with_reducible repeat (first|refine blk_drewN ?_ _|refine blk_drew ?_|refine blk_alloc ?_ _));refine blk_far ?_ NB255_257.out _;(with_reducible repeat (first|refine blk_drewN ?_ _|refine blk_drew ?_|refine blk_alloc ?_ _));refine blk_far ?_ NB255_257.out _;(with_reducible repeat (first|refine blk_drewN ?_ _|refine blk_drew ?_|refine blk_alloc ?_ _));refine blk_far ?_ NB255_257.out _;(with_reducible repeat (first|refine blk_drewN ?_ _|refine blk_drew ?_|refine blk_alloc ?_ _));exact BK255.out⟩,⟨by(with_reducible repeat (first|refine blk_drewN ?_ _|refine blk_drew ?_|refine blk_alloc ?_ _));refine blk_far ?_ NB256_257.out _;(with_reducible repeat (first|refine blk_drewN ?_ _|refine blk_drew ?_|refine blk_alloc ?_ _));refine blk_far ?_ NB256_257.out _;(with_reducible repeat (first|refine blk_drewN ?_ _|refine blk_drew ?_|refine blk_alloc ?_ _));refine blk_far ?_ NB256_257.out _;(with_reducible repeat (first|refine blk_drewN ?_ _|refine blk_drew ?_|refine blk_alloc ?_ _));exact BK256.out⟩,⟨by(with_reducible repeat (first|refine blk_drewN ?_ _|refine blk_drew ?_|refine blk_alloc ?_ _));refine blk_put (cs:=#[.string a0_0,.string a0_1,.slice none 0 0]) ?_ 2 _ rfl;(with_reducible repeat (first|refine blk_drewN ?_ _|refine blk_drew ?_|refine blk_alloc ?_ _));refine blk_put (cs:=#[.string a0_0,.string (⟨#[]⟩ : ByteArray),.slice none 0 0]) ?_ 1 _ rfl;(with_reducible repeat (first|refine blk_drewN ?_ _|refine blk_drew ?_|refine blk_alloc ?_ _));refine blk_put (cs:=#[.string (⟨#[]⟩ : ByteArray),.string (⟨#[]⟩ : ByteArray),.slice none 0 0]) ?_ 0 _ rfl;(with_reducible repeat (first|refine blk_drewN ?_ _|refine blk_drew ?_|refine blk_alloc ?_ _));exact BK257.out⟩,⟨bl⟩⟩
 case round=>
  clear H'
  obtain⟨x4_1,x258002_1,u258002,rfl,HA,HK1,HO_258002,BK255,BK256,BK257,HB⟩:=hrel
  cases gk with
  | zero=>exact absurd HA.out (by simp [stowagelaw13_To.l0])
  | succ k1=>
   have H:=HA.out
   clear HA
   simp only [stowagelaw13_To.l0] at H
   replace H:=itO H
   rcases H with⟨c10,H⟩|⟨c10,H⟩
   {
   have c10b0:decide (x4_1<(l0_2.length:Int))=true:=decide_eq_true c10
   clear c10
   replace H:=itO H
   rcases H with⟨c11,H⟩|⟨c11,H⟩
   {
   have c11b0:decide (0≤x4_1)=true:=decide_eq_true c11
   clear c11
   replace H:=bndO H
   obtain⟨⟨t259,t260,t261⟩,A120,H⟩:=H
   dsimp only at H
   have A12:=Aside0.mk A120
   clear A120
   replace H:=itO H
   rcases H with⟨c13,H⟩|⟨c13,H⟩
   {
   have LMc13:=Aside0.mk c13
   clear c13
   obtain⟨y264,hy264⟩ : ∃ y_:List (S30),y_=(x258002_1 ++ [(⟨t259,t260,t261⟩ : S30)]):=⟨_,rfl⟩
   replace H:(stowagelaw13_To.l0 k1 (wrap64 (x4_1+1)) a0_0 a0_1 l0_2 a0_0 a0_1 y264)=some (r1,r2,r3):=by first|(rw [hy264];with_reducible exact H)|(have H2_:=(Option.bind_some _ _).symm.trans H;rw [hy264];with_reducible exact H2_)|(have H2_:=(Option.bind_some _ _).symm.trans H;with_reducible exact H2_)|with_reducible exact H|(rw [hy264];exact H)|exact H
   have Ny264:=Aside0.mk hy264
   clear hy264
   have H':=Aside0.mk H
   clear H
   have hnb14:=NB255_256.out
   have hnc14:=NB256_255.out
   have hnb15:=NB255_257.out
   have hnc15:=NB257_255.out
   obtain⟨_,_,_,_,_,_⟩:=bc3 BK255.out
   try go_wp2
   have n0_:=Aside0.mk (Kd.R_drew HO_258002.out)
   have n1_:=Aside0.mk (blk_drew BK255.out)
   have n2_:=Aside0.mk (blk_drew BK256.out)
   have n3_:=Aside0.mk (blk_drew BK257.out)
   have n4_:=Aside0.mk (below_drew1 HB.out)
   clear HO_258002
   clear BK255
   clear BK256
   clear BK257
   clear HB
   have HO_258002:=n0_
   have BK255:=n1_
   have BK256:=n2_
   have BK257:=n3_
   have HB:=n4_
   clear n0_ n1_ n2_ n3_ n4_
   have p258:0≤(x4_1:Int):=of_decide_eq_true asm
   have q258:x4_1<(l0_2.length:Int):=of_decide_eq_true asm
   obtain⟨ad258,A258_2,c258_2,e258,hx258_0,hx258_1,hx258_2,hl258_2,hi258_2⟩:=at_T24 HR0_2.out x4_1 p258 q258
   have hw258_2:=hx258_2
   have hw258_1:=hx258_1
   have hw258_0:=hx258_0
   cases e258
   replace hx258_0:=(HB.out.cell (World.block_lt_of_cell? w _ hx258_0)).trans hx258_0
   replace hx258_1:=(HB.out.cell (World.block_lt_of_cell? w _ hx258_1)).trans hx258_1
   replace hx258_2:=(HB.out.cell (World.block_lt_of_cell? w _ hx258_2)).trans hx258_2
   have HR258_2:=Aside0.mk hi258_2
   have HC258_2:=Aside0.mk hl258_2
   clear hi258_2 hl258_2
   replace p258:=eq_true p258
   replace q258:=eq_true q258
   refine start_ (n:=12) (S:=fun w'=>w'.cell? ⟨gb257,0,none⟩=some (.string a0_0)∧w'.cell? ⟨gb257,1,none⟩=some (.string a0_1)∧w'.cell? ⟨gb257,2,none⟩=some (u258002)∧w'.cell? ⟨gb255,0,none⟩=some (.string a0_0)∧w'.cell? ⟨gb255,1,none⟩=some (.string a0_1)∧w'.cell? ⟨gb255,2,none⟩=some (.slice (some ad258) l0_2.length c0_2)∧w'.cell? (ad258.add ((x4_1).toNat*3))=some (.string ((rd_T24 l0_2 x4_1).f0))∧w'.cell? ⟨(ad258.add ((x4_1).toNat*3)).block,(ad258.add ((x4_1).toNat*3)).off+1,none⟩=some (.string ((rd_T24 l0_2 x4_1).f1))∧w'.cell? ⟨(ad258.add ((x4_1).toNat*3)).block,(ad258.add ((x4_1).toNat*3)).off+2,none⟩=some (.slice A258_2 ((rd_T24 l0_2 x4_1).f2).length c258_2)) (ds:=[11]) #[F,F,F,F,F,F,F,F,F,F,F,F] kr rfl rfl ⟨(blk_cell BK257.out 0).trans rfl,(blk_cell BK257.out 1).trans rfl,(blk_cell BK257.out 2).trans rfl,(blk_cell BK255.out 0).trans rfl,(blk_cell BK255.out 1).trans rfl,(blk_cell BK255.out 2).trans rfl,((HB.out.cell (World.block_lt_of_cell? w _ hw258_0)).trans hw258_0),((HB.out.cell (World.block_lt_of_cell? w _ hw258_1)).trans hw258_1),((HB.out.cell (World.block_lt_of_cell? w _ hw258_2)).trans hw258_2)⟩ (fun hHeld=>?_);refine with_tabW stowagelaw13_To.tab5 stowagelaw13_To.bits5 (fun HT_ HW_=>?_)
   generalize wr.drew=w17 at HO_258002 BK255 BK256 BK257 HB HR258_2 hx258_0 hx258_1 hx258_2 hHeld ⊢
   refine pure_ (i:=0) (N:=some 17) (v:=?_) (a':=?_) #[T,F,F,F,F,F,F,F,F,F,F,F] rfl rfl (any_of HT_.out kr) (fun _ _ _ h=>h) (Or.inl ⟨by rfl,?_⟩) ?_ ?_
   rotate_left
   {
   intro w'
   go_simp
   with_reducible rfl
   }
   rotate_left
   {
   simp only [Act.put,l1,l2,l3,i64_w,i32_w]
   rfl
   }
   refine pure_ (i:=2) (N:=some 19) (v:=?_) (a':=?_) #[T,F,T,F,F,F,F,F,F,F,F,F] rfl rfl (any_of HT_.out kr) (fun _ _ _ h=>h) (Or.inl ⟨by rfl,?_⟩) ?_ ?_
   rotate_left
   {
   intro w'
   go_simp
   with_reducible rfl
   }
   rotate_left
   {
   simp only [Act.put,l1,l2,l3,i64_w,i32_w]
   rfl
   }
   refine pure_ (i:=4) (N:=some 21) (v:=?_) (a':=?_) #[T,F,T,F,T,F,F,F,F,F,F,F] rfl rfl (any_of HT_.out kr) (fun _ _ _ h=>h) (Or.inl ⟨by rfl,?_⟩) ?_ ?_
   rotate_left
   {
   intro w'
   go_simp
   with_reducible rfl
   }
   rotate_left
   {
   simp only [Act.put,l1,l2,l3,i64_w,i32_w]
   rfl
   }
   refine take_ (i:=1) (N:=some 18) (v:=?_) (a':=?_) #[T,T,T,F,T,F,F,F,F,F,F,F] rfl rfl (take_ofW HT_.out HW_.out kr) (fun _ _ _ h=>h) (Or.inl ⟨by rfl,?_⟩) hHeld ?_ ?_
   rotate_left
   {
   rintro w' ⟨s0,s1,s2,s3,s4,s5,s6,s7,s8⟩
   go_simp
   with_reducible rfl
   }
   rotate_left
   {
   simp only [Act.put,l1,l2,l3,i64_w,i32_w]
   rfl
   }
   refine take_ (i:=3) (N:=some 20) (v:=?_) (a':=?_) #[T,T,T,T,T,F,F,F,F,F,F,F] rfl rfl (take_ofW HT_.out HW_.out kr) (fun _ _ _ h=>h) (Or.inl ⟨by rfl,?_⟩) hHeld ?_ ?_
   rotate_left
   {
   rintro w' ⟨s0,s1,s2,s3,s4,s5,s6,s7,s8⟩
   go_simp
   with_reducible rfl
   }
   rotate_left
   {
   simp only [Act.put,l1,l2,l3,i64_w,i32_w]
   rfl
   }
   refine pure_ (i:=5) (N:=some 22) (v:=?_) (a':=?_) #[T,T,T,T,T,T,F,F,F,F,F,F] rfl rfl (any_of HT_.out kr) (fun _ _ _ h=>h) (Or.inl ⟨by rfl,?_⟩) ?_ ?_
   rotate_left
   {
   intro w'
   go_simp
   with_reducible rfl
   }
   rotate_left
   {
   simp only [Act.put,l1,l2,l3,i64_w,i32_w]
   rfl
   }
   refine take_ (i:=6) (N:=some 23) (v:=?_) (a':=?_) #[T,T,T,T,T,T,T,F,F,F,F,F] rfl rfl (take_ofW HT_.out HW_.out kr) (fun _ _ _ h=>h) (Or.inl ⟨by rfl,?_⟩) hHeld ?_ ?_
   rotate_left
   {
   rintro w' ⟨s0,s1,s2,s3,s4,s5,s6,s7,s8⟩
   go_simp
   with_reducible rfl
   }
   rotate_left
   {
   simp only [Act.put,l1,l2,l3,i64_w,i32_w]
   rfl
   }
   refine one_ (i:=7) (N:=some 24) #[T,T,T,T,T,T,T,T,F,F,F,F] rfl rfl (one_of HT_.out kr) (by decide) (fun K hK=>?_)
   refine goes_ Tryd.func13 kr rfl #[.agg #[.string ((rd_T24 l0_2 x4_1).f0),.string ((rd_T24 l0_2 x4_1).f1),.slice A258_2 ((rd_T24 l0_2 x4_1).f2).length c258_2]] (by rfl) rfl rfl am ?_
   with_reducible refine(ih k1 (by have:=HK1.out;omega) ((rd_T24 l0_2 x4_1).f0) ((rd_T24 l0_2 x4_1).f1) _ _ ((rd_T24 l0_2 x4_1).f2) t259 t260 t261 _ ?side1 ?side2 A12.out).mono ?_
   (case side1=>repeat (first|exact(Kd.C_below HR258_2.out HB.out)|(with_reducible refine Kd.C_alloc ?_ _)|(with_reducible refine Kd.C_drewN ?_ _)|(with_reducible refine Kd.C_drew ?_)))
   (case side2=>exact HC258_2.out)
   rintro e w18 ⟨v262,rfl,ho0,hb⟩
   refine⟨_,rfl,?_⟩
   have n0_:=Aside0.mk (Kd.R_elder' rl (by first|exact Kd.R_base ho0|exact Kd.R_base ho0) hb)
   have n1_:=Aside0.mk (Kd.R_lower (Kd.R_newB (Kd.R_newB (Kd.R_new' ho0 (Kd.R_lt rl)) (g:=gb256) (o:=.cells #[.string (⟨#[]⟩ : ByteArray),.string (⟨#[]⟩ : ByteArray),.slice none 0 0] 30 (0,0)) kl) (g:=gb257) (o:=.cells #[.string a0_0,.string a0_1,u258002] 30 (0,0)) kl) (below_size bl))
   have n2_:=Aside0.mk (blk_below (g:=gb255) (o:=.cells #[.string a0_0,.string a0_1,.slice (some ad258) l0_2.length c0_2] 24 (0,0)) kl hb)
   have n3_:=Aside0.mk (blk_below (g:=gb256) (o:=.cells #[.string (⟨#[]⟩ : ByteArray),.string (⟨#[]⟩ : ByteArray),.slice none 0 0] 30 (0,0)) kl hb)
   have n4_:=Aside0.mk (blk_below (g:=gb257) (o:=.cells #[.string a0_0,.string a0_1,u258002] 30 (0,0)) kl hb)
   have n5_:=Aside0.mk (below_step bl hb)
   clear HO_258002
   clear BK255
   clear BK256
   clear BK257
   clear HB
   have HO_258002:=n0_
   have HO263:=n1_
   have BK255:=n2_
   have BK256:=n3_
   have BK257:=n4_
   have HB:=n5_
   clear n0_ n1_ n2_ n3_ n4_ n5_
   (try clear hb)
   (try clear hb2)
   (try clear hk)
   (try clear hi)
   (try clear ho0)
   obtain⟨Ao20,co20,eo20⟩:=Kd.R_slice HO263.out
   (first|subst eo20|(injection eo20 with f1_ f2_ f3_;have f4_:=f1_.symm;have f5_:=f3_.symm;clear f1_ f2_ f3_;subst f4_;subst f5_))
   refine hK.out _ _ ⟨(blk_cell BK257.out 0).trans rfl,(blk_cell BK257.out 1).trans rfl,(blk_cell BK257.out 2).trans rfl,(blk_cell BK255.out 0).trans rfl,(blk_cell BK255.out 1).trans rfl,(blk_cell BK255.out 2).trans rfl,((HB.out.cell (World.block_lt_of_cell? w _ hw258_0)).trans hw258_0),((HB.out.cell (World.block_lt_of_cell? w _ hw258_1)).trans hw258_1),((HB.out.cell (World.block_lt_of_cell? w _ hw258_2)).trans hw258_2)⟩ (fun hHeld=>?_)
   clear hK K
   refine norm_ (a':=?_) ?_ ?_
   rotate_left
   {
   show Act.put _ (some 24) _=_
   simp only [Act.put,l1,l2,l3,i64_w,i32_w]
   rfl
   }
   refine one_ (i:=8) (N:=some 25) #[T,T,T,T,T,T,T,T,T,F,F,F] rfl rfl (one_of HT_.out kr) (by decide) (fun K hK=>?_)
   refine value_ (w1:=?_) (v:=?_) (by rfl) rfl ?_ ?_
   rotate_left 2
   {
   go_simp
   constructor
   ·rfl
   ·rfl
   }
   refine hK.out _ _ ⟨(blk_cell (blk_alloc BK257.out _) 0).trans rfl,(blk_cell (blk_alloc BK257.out _) 1).trans rfl,(blk_cell (blk_alloc BK257.out _) 2).trans rfl,(blk_cell (blk_alloc BK255.out _) 0).trans rfl,(blk_cell (blk_alloc BK255.out _) 1).trans rfl,(blk_cell (blk_alloc BK255.out _) 2).trans rfl,(World.cell?_alloc_lt _ _ _ (World.block_lt_of_cell? _ _ (((HB.out.cell (World.block_lt_of_cell? w _ hw258_0)).trans hw258_0)))).trans (((HB.out.cell (World.block_lt_of_cell? w _ hw258_0)).trans hw258_0)),(World.cell?_alloc_lt _ _ _ (World.block_lt_of_cell? _ _ (((HB.out.cell (World.block_lt_of_cell? w _ hw258_1)).trans hw258_1)))).trans (((HB.out.cell (World.block_lt_of_cell? w _ hw258_1)).trans hw258_1)),(World.cell?_alloc_lt _ _ _ (World.block_lt_of_cell? _ _ (((HB.out.cell (World.block_lt_of_cell? w _ hw258_2)).trans hw258_2)))).trans (((HB.out.cell (World.block_lt_of_cell? w _ hw258_2)).trans hw258_2))⟩ (fun hHeld=>?_)
   clear hK K
   refine norm_ (a':=?_) ?_ ?_
   rotate_left
   {
   show Act.put _ (some 25) _=_
   simp only [Act.put,l1,l2,l3,i64_w,i32_w]
   rfl
   }
   refine one_ (i:=9) (N:=some 26) #[T,T,T,T,T,T,T,T,T,T,F,F] rfl rfl (one_of HT_.out kr) (by decide) (fun K hK=>?_)
   refine Kd.R_append_step k30 (w0:=w) w.heap.size (by rfl) (.tmp 18) (.tmp 25) 28 30 (.agg #[(.string ⟨#[]⟩),(.string ⟨#[]⟩),(.slice none 0 0)]) 56 rfl Tryd.underlying28 info30 rfl (by decide) (by omega) u258002 x258002_1 (⟨t259,t260,t261⟩ : S30) [.string t259,.string t260,.slice Ao20 t261.length co20] (fun k_=>k_≠gb256∧k_≠gb257) (fun k_=>((fun k_=>k_≠gb256∧k_≠gb257)) k_∧some k_≠(u258002:Value).ownBlock) rfl rfl ?aP (fun _ hk=>hk) ?aF ?aO ?aB ?aS ?aL ?_
   (case aP=>exact k30_mkM _ _ _ (⟨t259,t260,t261⟩ : S30) (Kd.R_mono (HO263.out) (fun k_ hk=>⟨⟨hk.1.2,hk.2⟩,hk.1.1.2⟩)))
   (case aB=>exact bl)
   (case aF=>exact(fun k_ hk=>⟨Kd.freshB (g:=gb256) (o:=.cells #[.string (⟨#[]⟩ : ByteArray),.string (⟨#[]⟩ : ByteArray),.slice none 0 0] 30 (0,0)) kl k_ hk,Kd.freshB (g:=gb257) (o:=.cells #[.string a0_0,.string a0_1,u258002] 30 (0,0)) kl k_ hk⟩))
   (case aO=>exact(by(with_reducible repeat (first|apply Kd.R_alloc|apply Kd.R_drewN|apply Kd.R_drew));exact Kd.R_mono HO_258002.out (fun _ hk=>⟨hk.1.1,hk.1.2⟩)))
   (case aS=>exact(below_size bl))
   (case aL=>have:=LMc13.out;omega)
   intro v265 w19 ho hb hg hat
   rw [← Ny264.out] at ho
   have n0_:=Aside0.mk (blk_grown (g:=gb255) (o:=.cells #[.string a0_0,.string a0_1,.slice (some ad258) l0_2.length c0_2] 24 (0,0)) kl hg (Kd.R_ne HO_258002.out BK255.out (by decide)))
   have n1_:=Aside0.mk (blk_grown (g:=gb256) (o:=.cells #[.string (⟨#[]⟩ : ByteArray),.string (⟨#[]⟩ : ByteArray),.slice none 0 0] 30 (0,0)) kl hg (Kd.R_away HO_258002.out (fun _ hk=>hk.1.1)))
   have n2_:=Aside0.mk (blk_grown (g:=gb257) (o:=.cells #[.string a0_0,.string a0_1,u258002] 30 (0,0)) kl hg (Kd.R_away HO_258002.out (fun _ hk=>hk.1.2)))
   have n3_:=Aside0.mk (hb)
   have n4_:=Aside0.mk (ho)
   clear BK255
   clear BK256
   clear BK257
   clear HB
   clear HO_258002
   clear HO263
   have BK255:=n0_
   have BK256:=n1_
   have BK257:=n2_
   have HB:=n3_
   have HO266:=n4_
   clear n0_ n1_ n2_ n3_ n4_
   clear ho hb hg hat
   obtain⟨Ao21,co21,eo21⟩:=Kd.R_slice HO266.out
   (first|subst eo21|(injection eo21 with f1_ f2_ f3_;have f4_:=f1_.symm;have f5_:=f3_.symm;clear f1_ f2_ f3_;subst f4_;subst f5_))
   refine hK.out _ _ ⟨(blk_cell BK257.out 0).trans rfl,(blk_cell BK257.out 1).trans rfl,(blk_cell BK257.out 2).trans rfl,(blk_cell BK255.out 0).trans rfl,(blk_cell BK255.out 1).trans rfl,(blk_cell BK255.out 2).trans rfl,((HB.out.cell (World.block_lt_of_cell? w _ hw258_0)).trans hw258_0),((HB.out.cell (World.block_lt_of_cell? w _ hw258_1)).trans hw258_1),((HB.out.cell (World.block_lt_of_cell? w _ hw258_2)).trans hw258_2)⟩ (fun hHeld=>?_)
   clear hK K
   refine norm_ (a':=?_) ?_ ?_
   rotate_left
   {
   show Act.put _ (some 26) _=_
   simp only [Act.put,l1,l2,l3,i64_w,i32_w]
   rfl
   }
   refine pure_ (i:=10) (N:=some 27) (v:=?_) (a':=?_) #[T,T,T,T,T,T,T,T,T,T,T,F] rfl rfl (any_of HT_.out kr) (fun _ _ _ h=>h) (Or.inl ⟨by rfl,?_⟩) ?_ ?_
   rotate_left
   {
   intro w'
   go_simp
   with_reducible rfl
   }
   rotate_left
   {
   simp only [Act.put,l1,l2,l3,i64_w,i32_w]
   rfl
   }
   refine last_ (i:=11) (N:=none) #[T,T,T,T,T,T,T,T,T,T,T,T] rfl rfl (one_of HT_.out kr) (by decide) (fun K hK=>?_)
   have hs22:w19.cell? ⟨gb257,2,none⟩=some (u258002):=(blk_cell BK257.out 2).trans rfl
   have hfs22:=blk_frozen BK257.out 2
   have hns22_0:=NB255_257.out
   have hns22_1:=NB256_257.out
   have hms22_0:=NB257_255.out
   have hms22_1:=NB257_256.out
   refine skip_ (w1:=?_) (by rfl) rfl ?_ ?_
   rotate_left
   {
   go_simp
   rfl
   }
   refine hK.out _ _ ?_
   clear hK K
   refine done_ (done_of HT_.out kr) ?_
   try go_wp2
   go_roundg k1
   case measure=>have:=HK1.out;omega
   case rel=>exact⟨(wrap64 (x4_1+1)),(y264),(.slice Ao21 y264.length co21),rs,H',⟨by have:=HK1.out;omega⟩,⟨by(with_reducible repeat (first|apply Kd.R_alloc|apply Kd.R_drewN|apply Kd.R_drew));exact Kd.R_mono (Kd.R_far (p:=⟨gb257,2,none⟩) (Kd.R_mono HO266.out (fun k_ hk=>(⟨hk,hk.2⟩ : _∧k_≠gb257))) (fun _ hk=>hk.2) (.slice Ao21 y264.length co21)) (fun _ hk=>⟨hk.1.1,hk.1.2⟩)⟩,⟨by(with_reducible repeat (first|refine blk_drewN ?_ _|refine blk_drew ?_|refine blk_alloc ?_ _));refine blk_far ?_ NB255_257.out _;(with_reducible repeat (first|refine blk_drewN ?_ _|refine blk_drew ?_|refine blk_alloc ?_ _));exact BK255.out⟩,⟨by(with_reducible repeat (first|refine blk_drewN ?_ _|refine blk_drew ?_|refine blk_alloc ?_ _));refine blk_far ?_ NB256_257.out _;(with_reducible repeat (first|refine blk_drewN ?_ _|refine blk_drew ?_|refine blk_alloc ?_ _));exact BK256.out⟩,⟨by(with_reducible repeat (first|refine blk_drewN ?_ _|refine blk_drew ?_|refine blk_alloc ?_ _));refine blk_put (cs:=#[.string a0_0,.string a0_1,u258002]) ?_ 2 _ rfl;(with_reducible repeat (first|refine blk_drewN ?_ _|refine blk_drew ?_|refine blk_alloc ?_ _));exact BK257.out⟩,⟨bl⟩⟩
   }
   ·exact absurd H (by simp)
   }
   ·exact absurd H (by simp)
   }
   {
   have c10b0:decide (x4_1<(l0_2.length:Int))=false:=decide_eq_false c10
   clear c10
   simp only [Option.some.injEq,Prod.mk.injEq] at H
   obtain⟨rfl,rfl,rfl⟩:=H
   have hnb23:=NB255_256.out
   have hnc23:=NB256_255.out
   have hnb24:=NB255_257.out
   have hnc24:=NB257_255.out
   obtain⟨_,_,_,_,_,_⟩:=bc3 BK255.out
   have hnb26:=NB257_256.out
   have hnc26:=NB256_257.out
   obtain⟨_,_,_,_,_,_⟩:=bc3 BK257.out
   obtain⟨_,_,_,_,_,_⟩:=bc3 BK256.out
   obtain⟨Ao29,co29,eo29⟩:=Kd.R_slice HO_258002.out
   subst eo29
   go_wp2
   refine bodyPost_ret (results_cell_row rfl _ _ gb256 30 #[.string a0_0,.string a0_1,.slice Ao29 x258002_1.length co29] (0,0) _ rfl (by(with_reducible repeat (first|refine blk_drewN ?_ _|refine blk_drew ?_|refine blk_alloc ?_ _));refine blk_put (cs:=#[.string a0_0,.string a0_1,.slice none 0 0]) ?_ 2 _ rfl;(with_reducible repeat (first|refine blk_drewN ?_ _|refine blk_drew ?_|refine blk_alloc ?_ _));refine blk_put (cs:=#[.string a0_0,.string (⟨#[]⟩ : ByteArray),.slice none 0 0]) ?_ 1 _ rfl;(with_reducible repeat (first|refine blk_drewN ?_ _|refine blk_drew ?_|refine blk_alloc ?_ _));refine blk_put (cs:=#[.string (⟨#[]⟩ : ByteArray),.string (⟨#[]⟩ : ByteArray),.slice none 0 0]) ?_ 0 _ rfl;(with_reducible repeat (first|refine blk_drewN ?_ _|refine blk_drew ?_|refine blk_alloc ?_ _));exact BK256.out) Tryd.underlying30 rfl kr) rfl ?_
   exact⟨_,ew,by(with_reducible repeat (first|apply Kd.R_alloc|apply Kd.R_drewN|apply Kd.R_drew));exact Kd.R_mono (Kd.R_far (p:=⟨gb256,2,none⟩) (Kd.R_far (p:=⟨gb256,1,none⟩) (Kd.R_far (p:=⟨gb256,0,none⟩) (Kd.R_mono HO_258002.out (fun k_ hk=>(⟨hk,hk.1⟩ : _∧k_≠gb256))) (fun _ hk=>hk.2) (.string a0_0)) (fun _ hk=>hk.2) (.string a0_1)) (fun _ hk=>hk.2) (.slice Ao29 x258002_1.length co29)) (fun _ hk=>trivial),bl⟩
   }
mutual
def stowagelaw13_Deep.l0:Nat→Int→Int→Int→ByteArray→ByteArray→List (S24)→Option (Int)
 | 0,_,_,_,_,_,_=>none
 | k+1,x1,x5,x6,x275000,x275001,x275002=>if x6<(x275002.length:Int) then(if x1>0 then(if 0≤x6 then((stowagelaw13_Deep.f k ((rd_T24 x275002 x6).f0) ((rd_T24 x275002 x6).f1) ((rd_T24 x275002 x6).f2) (wrap64 (x1-1))).bind fun t276=>(stowagelaw13_Deep.l0 k x1 (mx x5 t276) (wrap64 (x6+1)) x275000 x275001 x275002)) else(none)) else(some (wrap64 (x5+1)))) else(some (wrap64 (x5+1)))
def stowagelaw13_Deep.f:Nat→ByteArray→ByteArray→List (S24)→Int→Option (Int)
 | 0,_,_,_,_=>none
 | k+1,a0_0,a0_1,l0_2,a1=>stowagelaw13_Deep.l0 k a1 0 0 a0_0 a0_1 l0_2
end
theorem stowagelaw13_Deep.mono_l:∀ k,(∀ y0 y1 y2 y3,LeO (stowagelaw13_Deep.f k y0 y1 y2 y3) (stowagelaw13_Deep.f (k+1) y0 y1 y2 y3))∧(∀ y0 y1 y2 y3 y4 y5,LeO (stowagelaw13_Deep.l0 k y0 y1 y2 y3 y4 y5) (stowagelaw13_Deep.l0 (k+1) y0 y1 y2 y3 y4 y5))
 | 0=>⟨fun _ _ _ _ r h=>by simp [stowagelaw13_Deep.f] at h,fun _ _ _ _ _ _ r h=>by simp [stowagelaw13_Deep.l0] at h⟩
 | k+1=>by
  obtain⟨ih0,ih1⟩:=stowagelaw13_Deep.mono_l k
  refine⟨?_,?_⟩
  ·intro y0 y1 y2 y3
   unfold stowagelaw13_Deep.f
   repeat' first
   | (with_reducible exact ih0 _ _ _ _)
   | (with_reducible exact ih1 _ _ _ _ _ _)
   | (with_reducible exact LeO.refl _)
   | (with_reducible exact LeO.none _)
   | (with_reducible refine LeO.ite ?_ ?_)
   | (with_reducible refine LeO.bind ?_ (fun _=>?_))
   | exact ih0 _ _ _ _
   | exact ih1 _ _ _ _ _ _
   | exact LeO.none _
   | refine LeO.ite ?_ ?_
   | refine LeO.bind ?_ (fun _=>?_)
  ·intro y0 y1 y2 y3 y4 y5
   unfold stowagelaw13_Deep.l0
   repeat' first
   | (with_reducible exact ih0 _ _ _ _)
   | (with_reducible exact ih1 _ _ _ _ _ _)
   | (with_reducible exact LeO.refl _)
   | (with_reducible exact LeO.none _)
   | (with_reducible refine LeO.ite ?_ ?_)
   | (with_reducible refine LeO.bind ?_ (fun _=>?_))
   | exact ih0 _ _ _ _
   | exact ih1 _ _ _ _ _ _
   | exact LeO.none _
   | refine LeO.ite ?_ ?_
   | refine LeO.bind ?_ (fun _=>?_)
theorem stowagelaw13_Deep.mono:∀ a0 a1 a2 a3 k,LeO (stowagelaw13_Deep.f k a0 a1 a2 a3) (stowagelaw13_Deep.f (k+1) a0 a1 a2 a3):=by
 intro a0 a1 a2 a3 k
 obtain⟨ih0,ih1⟩:=stowagelaw13_Deep.mono_l k
 exact ih0 a0 a1 a2 a3
theorem stowagelaw13_Deep.calls (k:Nat):∀ (a0_0:ByteArray) (a0_1:ByteArray) (A0_2:Option Addr) (c0_2:Nat) (l0_2:List (S24)) (a1:Int) (r:Int) (w:World) (hr0_2:Kd.C k24 w A0_2 l0_2.length l0_2) (hc0_2:l0_2.length≤c0_2) (h:stowagelaw13_Deep.f k a0_0 a0_1 l0_2 a1=some r),
  Calls Tryd.prog 21 #[.agg #[.string a0_0,.string a0_1,.slice A0_2 l0_2.length c0_2],.int .i64 a1] w fun e w'=>e = .returned (.int .i64 r)∧Below w.heap.size w w':=by
 induction k using Nat.strongRecOn with
 | _ k ih=>
 intro a0_0 a0_1 A0_2 c0_2 l0_2 a1 r w hr0_2 hc0_2 h
 cases k with
 | zero=>exact absurd h (by simp [stowagelaw13_Deep.f])
 | succ k=>
 simp only [stowagelaw13_Deep.f] at h
 have hu24:=Tryd.underlying24
 have HR0_2:=Aside0.mk hr0_2
 have HC0_2:=Aside0.mk hc0_2
 clear hr0_2 hc0_2
 have HB:=Aside0.mk (Below.refl w.heap.size w)
 have H:(stowagelaw13_Deep.l0 k a1 0 0 a0_0 a0_1 l0_2)=some r:=h
 clear h
 have H':=Aside0.mk H
 clear H
 go_enter Tryd.func21,Tryd.ntmps21
 go_wp2_with (first|((with_reducible refine gate_dst (N:=2) rfl ?_);refine box_event ?hg (N:=2) ?hd (cs:=#[.string a0_0,.string a0_1,.slice A0_2 l0_2.length c0_2]) (t:=24) ?hr ?_;(case hd=>rfl);(case hg=>rfl);(case hr=>first|(go_simp;done)|(go_simp;rfl));intro gb274 hg w3 hbox hb;have n0_:=Aside0.mk (below_step (by repeat (first|(with_reducible first|exact HB.out|apply below_alloc|apply pw_below_drewN|apply below_drew1)|exact HB.out)) hb);have n1_:=Aside0.mk (hbox);have n2_:=Aside0.mk ((by rw [hg];exact(below_size (by repeat (first|(with_reducible first|exact HB.out|apply below_alloc|apply pw_below_drewN|apply below_drew1)|exact HB.out))):w.heap.size≤gb274));have n3_:=Aside0.mk ((by rw [hg];exact(below_size (by repeat (first|(with_reducible first|exact HB.out|apply below_alloc|apply pw_below_drewN|apply below_drew1)|exact HB.out))):w.heap.size≤gb274));clear HB;have HB:=n0_;have BK274:=n1_;have GW274:=n2_;have GE274:=n3_;clear n0_ n1_ n2_ n3_;clear hb hbox hg))
 go_loopg [5,6] k (fun kq v5 v6 w'=>∃ (x5_1:Int) (x6_1:Int),v5 = .int .i64 x5_1∧v6 = .int .i64 x6_1∧Aside0 (stowagelaw13_Deep.l0 kq a1 x5_1 x6_1 a0_0 a0_1 l0_2=some r)∧Aside0 (kq≤k)∧Aside0 (w'.heap[gb274]? = some (.cells #[.string a0_0,.string a0_1,(.slice A0_2 l0_2.length c0_2)] 24 (0,0)))∧Aside0 (Below w.heap.size w w'))
 case atStart=>exact⟨(0),(0),(by first|rfl|(simp;done)|(simp [*];done)),(by first|rfl|(simp;done)|(simp [*];done)),H',⟨Nat.le_refl _⟩,⟨by(with_reducible repeat (first|refine blk_drewN ?_ _|refine blk_drew ?_|refine blk_alloc ?_ _));exact BK274.out⟩,⟨by repeat (first|(with_reducible first|exact HB.out|apply below_alloc|apply pw_below_drewN|apply below_drew1|refine below_set ?_ GE274.out)|exact HB.out)⟩⟩
 case round=>
  clear H'
  try clear c2
  try clear p2
  obtain⟨x5_1,x6_1,rfl,rfl,HA,HK1,BK274,HB⟩:=hrel
  cases gk with
  | zero=>exact absurd HA.out (by simp [stowagelaw13_Deep.l0])
  | succ k1=>
   have H:=HA.out
   clear HA
   simp only [stowagelaw13_Deep.l0] at H
   replace H:=itO H
   rcases H with⟨c4,H⟩|⟨c4,H⟩
   ·skip
    have c4b0:decide (x6_1<(l0_2.length:Int))=true:=decide_eq_true c4
    clear c4
    replace H:=itO H
    rcases H with⟨c5,H⟩|⟨c5,H⟩
    ·skip
     have c5b0:decide (0<a1)=true:=decide_eq_true c5
     clear c5
     replace H:=itO H
     rcases H with⟨c6,H⟩|⟨c6,H⟩
     ·skip
      have c6b0:decide (0≤x6_1)=true:=decide_eq_true c6
      clear c6
      replace H:=bndO H
      obtain⟨t276,A70,H⟩:=H
      have A7:=Aside0.mk A70
      clear A70
      obtain⟨ji8,hji8⟩ : ∃ j_:Int,(mx x5_1 t276)=j_:=⟨_,rfl⟩
      first|rw [hji8] at H|simp only [hji8] at H
      (try rw [hji8] at A7)
      have hji8_:(if x5_1<t276 then t276 else x5_1)=ji8:=hji8
      have H':=Aside0.mk H
      clear H
      have hcz9_0:wr.cell? ⟨gb274,0,none⟩=some (.string a0_0):=(blk_cell BK274.out 0).trans rfl
      have hcz9_1:wr.cell? ⟨gb274,1,none⟩=some (.string a0_1):=(blk_cell BK274.out 1).trans rfl
      have hcz9_2:wr.cell? ⟨gb274,2,none⟩=some (.slice A0_2 l0_2.length c0_2):=(blk_cell BK274.out 2).trans rfl
      have hfz9_0:=blk_frozen BK274.out 0
      have hfz9_1:=blk_frozen BK274.out 1
      have hfz9_2:=blk_frozen BK274.out 2
      have p275:0≤(x6_1:Int):=of_decide_eq_true (by first|(with_reducible assumption)|assumption)
      have q275:x6_1<(l0_2.length:Int):=of_decide_eq_true (by first|(with_reducible assumption)|assumption)
      obtain⟨ad275,A275_2,c275_2,e275,hx275_0,hx275_1,hx275_2,hl275_2,hi275_2⟩:=at_T24 HR0_2.out x6_1 p275 q275
      cases e275
      replace hx275_0:=(HB.out.cell (World.block_lt_of_cell? w _ hx275_0)).trans hx275_0
      replace hx275_1:=(HB.out.cell (World.block_lt_of_cell? w _ hx275_1)).trans hx275_1
      replace hx275_2:=(HB.out.cell (World.block_lt_of_cell? w _ hx275_2)).trans hx275_2
      have HR275_2:=Aside0.mk hi275_2
      have HC275_2:=Aside0.mk hl275_2
      clear hi275_2 hl275_2
      replace p275:=eq_true p275
      replace q275:=eq_true q275
      go_wp2_with (first|((with_reducible refine gate_callee (f:=21) rfl ?_);refine goesL_ (some 26) rfl rfl Tryd.func21 (by kernel_rfl) rfl #[.agg #[.string ((rd_T24 l0_2 x6_1).f0),.string ((rd_T24 l0_2 x6_1).f1),.slice A275_2 ((rd_T24 l0_2 x6_1).f2).length c275_2],.int .i64 (wrap64 (a1-1))] rfl (by(try simp only [List.map_toArray,List.map_cons,List.map_nil]);first|done|rfl|(simp only [List.length_drop,List.length_take];rfl)) ?_;(with_reducible refine(ih k1 (by have:=HK1.out;omega) ((rd_T24 l0_2 x6_1).f0) ((rd_T24 l0_2 x6_1).f1) _ _ ((rd_T24 l0_2 x6_1).f2) (wrap64 (a1-1)) t276 _ ?side1 ?side2 A7.out).mono ?_);(case side1=>repeat (first|exact(Kd.C_below HR275_2.out HB.out)|(with_reducible refine Kd.C_alloc ?_ _)|(with_reducible refine Kd.C_drewN ?_ _)|(with_reducible refine Kd.C_drew ?_)));(case side2=>exact HC275_2.out);rintro e w10 ⟨rfl,hb⟩;refine⟨_,rfl,?_⟩;have n0_:=Aside0.mk (blk_below (g:=gb274) (o:=.cells #[.string a0_0,.string a0_1,.slice (some ad275) l0_2.length c0_2] 24 (0,0)) (by(with_reducible repeat (first|refine blk_drewN ?_ _|refine blk_drew ?_|refine blk_alloc ?_ _));exact BK274.out) hb);have n1_:=Aside0.mk (below_step (by repeat (first|(with_reducible first|exact HB.out|apply below_alloc|apply pw_below_drewN|apply below_drew1|refine below_set ?_ GE274.out)|exact HB.out)) hb);clear BK274;clear HB;have BK274:=n0_;have HB:=n1_;clear n0_ n1_;(try clear hb);(try clear hb2);(try clear hk);(try clear hi)))
      go_roundg k1
      case measure=>have:=HK1.out;omega
      case rel=>exact⟨(ji8),(wrap64 (x6_1+1)),(by first|rfl|(simp;done)|(simp only [← hji8] <;> (first|rfl|simp))|(simp [*];done)),(by first|rfl|(simp;done)|(simp [*];done)),H',⟨by have:=HK1.out;omega⟩,⟨by(with_reducible repeat (first|refine blk_drewN ?_ _|refine blk_drew ?_|refine blk_alloc ?_ _));exact BK274.out⟩,⟨by repeat (first|(with_reducible first|exact HB.out|apply below_alloc|apply pw_below_drewN|apply below_drew1|refine below_set ?_ GE274.out)|exact HB.out)⟩⟩
     ·exact absurd H (by simp)
    ·skip
     have c5b0:decide (0<a1)=false:=decide_eq_false c5
     clear c5
     obtain rfl:=Option.some.inj H
     have hcz11_0:wr.cell? ⟨gb274,0,none⟩=some (.string a0_0):=(blk_cell BK274.out 0).trans rfl
     have hcz11_1:wr.cell? ⟨gb274,1,none⟩=some (.string a0_1):=(blk_cell BK274.out 1).trans rfl
     have hcz11_2:wr.cell? ⟨gb274,2,none⟩=some (.slice A0_2 l0_2.length c0_2):=(blk_cell BK274.out 2).trans rfl
     have hfz11_0:=blk_frozen BK274.out 0
     have hfz11_1:=blk_frozen BK274.out 1
     have hfz11_2:=blk_frozen BK274.out 2
     go_wp2
     go_ret
     exact⟨by first|rfl|(simp [errW_none,errW_some] <;> rfl)|(simp [*,errW_none,errW_some] <;> rfl),by repeat (first|(with_reducible first|exact HB.out|apply below_alloc|apply pw_below_drewN|apply below_drew1|refine below_set ?_ GE274.out)|exact HB.out)⟩
   ·skip
    have c4b0:decide (x6_1<(l0_2.length:Int))=false:=decide_eq_false c4
    clear c4
    obtain rfl:=Option.some.inj H
    have hcz12_0:wr.cell? ⟨gb274,0,none⟩=some (.string a0_0):=(blk_cell BK274.out 0).trans rfl
    have hcz12_1:wr.cell? ⟨gb274,1,none⟩=some (.string a0_1):=(blk_cell BK274.out 1).trans rfl
    have hcz12_2:wr.cell? ⟨gb274,2,none⟩=some (.slice A0_2 l0_2.length c0_2):=(blk_cell BK274.out 2).trans rfl
    have hfz12_0:=blk_frozen BK274.out 0
    have hfz12_1:=blk_frozen BK274.out 1
    have hfz12_2:=blk_frozen BK274.out 2
    go_wp2
    go_ret
    exact⟨by first|rfl|(simp [errW_none,errW_some] <;> rfl)|(simp [*,errW_none,errW_some] <;> rfl),by repeat (first|(with_reducible first|exact HB.out|apply below_alloc|apply pw_below_drewN|apply below_drew1|refine below_set ?_ GE274.out)|exact HB.out)⟩
def xml_number.step (b n c:Int):Option Int:=if 48≤c∧c≤57 then some (wrap32 (wrap32 (wrap32 (n*b)+c)-48)) else if b=16∧97≤c∧c≤102 then some (wrap32 (wrap32 (wrap32 (wrap32 (n*b)+c)-97)+10)) else if b=16∧65≤c∧c≤70 then some (wrap32 (wrap32 (wrap32 (wrap32 (n*b)+c)-65)+10)) else none
def xml_number.g (s:ByteArray) (b:Int):Nat→Nat→Int→Option Int
 | 0,_,n=>some n
 | k+1,pos,n=>if pos<s.size then(xml_number.step b n ((Utf8.decode s pos).1:Int)).bind fun m=>xml_number.g s b k (pos+(Utf8.decode s pos).2) m else some n
def xml_number.fin (n:Int):Option (Int×Bool):=if n≤1114111 then(chars_Legal.f (Utf8.encode n)).bind fun l=>(if l=true then(if(Utf8.encode n).toList = [239,191,189] then some (n,n == 65533) else some (n,true)) else some (n,n == 65533)) else some (n,n == 65533)
def xml_number.r (s:ByteArray) (b:Int):Option (Int×Bool):=if s.size<1 then some (0,false) else if 7<s.size then some (0,false) else match xml_number.g s b s.size 0 0 with
 | none=>some (0,false)
 | some n=>xml_number.fin n
def xml_number.f (a0:ByteArray):Option (Int×Bool):=(strings_HasPrefix.f a0 ⟨#[120]⟩).bind fun p=>(if p=true then(if 1≤a0.size then xml_number.r (a0.extract 1 a0.size) 16 else none) else xml_number.r a0 10)
theorem xml_number.g_bad {s:ByteArray} {b:Int} {k pos:Nat} {n:Int} (h:pos<s.size) (hd:xml_number.step b n ((Utf8.decode s pos).1:Int)=none):xml_number.g s b (k+1) pos n=none:=by
 rw [xml_number.g,if_pos h,hd];rfl
theorem xml_number.g_on {s:ByteArray} {b:Int} {k pos:Nat} {n m:Int} (h:pos<s.size) (hd:xml_number.step b n ((Utf8.decode s pos).1:Int)=some m):xml_number.g s b (k+1) pos n=xml_number.g s b k (pos+(Utf8.decode s pos).2) m:=by
 rw [xml_number.g,if_pos h,hd];rfl
theorem xml_number.g_end {s:ByteArray} {b:Int} {k pos:Nat} {n:Int} (h:¬ pos<s.size):xml_number.g s b k pos n=some n:=by
 cases k with
 | zero=>rfl
 | succ k=>rw [xml_number.g,if_neg h]
theorem xml_number.calls (a0:ByteArray) (r1:Int) (r2:Bool) (w:World) (h:xml_number.f a0=some (r1,r2)) :
  Calls Tryd.prog 73 #[.string a0] w fun e w'=>e = .returned (.tuple #[.int .i32 r1,.bool r2])∧Below w.heap.size w w':=by
 unfold xml_number.f at h
 obtain⟨p,hp0,h⟩:=bndO h
 have hp:=Aside0.mk hp0
 clear hp0
 cases p with
 | true=>
  rw [if_pos rfl] at h
  rcases itO h with⟨g0,h⟩|⟨_,h⟩
  case inr=>exact absurd h (by simp)
  have q0:=eq_true (show(1:Int)≤(a0.size:Int) by omega)
  have q1:=eq_true g0
  have q2:=decide_eq_true (show(1:Int)≤(a0.size:Int) by omega)
  clear g0
  have hz:(a0.extract 1 a0.size).size=a0.size-1:=by rw [ByteArray.size_extract];omega
  unfold xml_number.r at h
  rcases itO h with⟨g1,h⟩|⟨g1,h⟩
  ·have t1:=eq_true (show((a0.size-1:Nat):Int)<1 by omega)
   have t2:=decide_eq_true (show((a0.size-1:Nat):Int)<1 by omega)
   clear g1
   simp only [Option.some.injEq,Prod.mk.injEq] at h
   obtain⟨rfl,rfl⟩:=h
   go_enter Tryd.func73,Tryd.ntmps73
   go_wp2_with (first|(go_at_call 55;with_reducible refine(strings_HasPrefix.calls a0 (⟨#[120]⟩ : ByteArray) true _ hp.out).mono ?_;rintro e1 w1 ⟨rfl,⟨⟨nd,rfl⟩⟩⟩;have HB0:=Aside0.mk (pw_below_drewN (Below.refl w.heap.size w) nd)))
   go_quiet (fail)
   replace HB0:=Aside0.mk (pw_below_drewN (Below.refl w.heap.size w) (nd+nq))
   go_wp2_with (first|(go_at_call 55;with_reducible refine(strings_HasPrefix.calls a0 (⟨#[120]⟩ : ByteArray) true _ hp.out).mono ?_;rintro e1 w1 ⟨rfl,⟨⟨nd,rfl⟩⟩⟩;have HB0:=Aside0.mk (pw_below_drewN (Below.refl w.heap.size w) nd)))
   go_ret2
   exact⟨rfl,by first|exact HB0.out|exact pw_below_drewN HB0.out _⟩
  have t1:=eq_false (show ¬ ((a0.size-1:Nat):Int)<1 by omega)
  have t2:=decide_eq_false (show ¬ ((a0.size-1:Nat):Int)<1 by omega)
  rcases itO h with⟨g2,h⟩|⟨g2,h⟩
  ·have t3:=eq_true (show(7:Int)<((a0.size-1:Nat):Int) by omega)
   have t4:=decide_eq_true (show(7:Int)<((a0.size-1:Nat):Int) by omega)
   clear g1 g2
   simp only [Option.some.injEq,Prod.mk.injEq] at h
   obtain⟨rfl,rfl⟩:=h
   go_enter Tryd.func73,Tryd.ntmps73
   go_wp2_with (first|(go_at_call 55;with_reducible refine(strings_HasPrefix.calls a0 (⟨#[120]⟩ : ByteArray) true _ hp.out).mono ?_;rintro e1 w1 ⟨rfl,⟨⟨nd,rfl⟩⟩⟩;have HB0:=Aside0.mk (pw_below_drewN (Below.refl w.heap.size w) nd)))
   go_quiet (fail)
   replace HB0:=Aside0.mk (pw_below_drewN (Below.refl w.heap.size w) (nd+nq))
   go_wp2_with (first|(go_at_call 55;with_reducible refine(strings_HasPrefix.calls a0 (⟨#[120]⟩ : ByteArray) true _ hp.out).mono ?_;rintro e1 w1 ⟨rfl,⟨⟨nd,rfl⟩⟩⟩;have HB0:=Aside0.mk (pw_below_drewN (Below.refl w.heap.size w) nd)))
   go_ret2
   exact⟨rfl,by first|exact HB0.out|exact pw_below_drewN HB0.out _⟩
  have t3:=eq_false (show ¬ (7:Int)<((a0.size-1:Nat):Int) by omega)
  have t4:=decide_eq_false (show ¬ (7:Int)<((a0.size-1:Nat):Int) by omega)
  clear g1 g2
  have hR:Hid ((xml_number.g (a0.extract 1 a0.size) 16 ((a0.extract 1 a0.size).size) 0 0=none→r1=0∧r2=false) ∧ ∀ n,xml_number.g (a0.extract 1 a0.size) 16 ((a0.extract 1 a0.size).size) 0 0=some n→xml_number.fin n=some (r1,r2)):=by
   refine Lib.hid ⟨fun hv=>?_,fun n hv=>?_⟩
   ·rw [hv] at h;simp only [Option.some.injEq,Prod.mk.injEq] at h;exact⟨h.1.symm,h.2.symm⟩
   ·rw [hv] at h;exact h
  clear h
  go_enter Tryd.func73,Tryd.ntmps73
  go_wp2_with (first|(go_at_call 55;with_reducible refine(strings_HasPrefix.calls a0 (⟨#[120]⟩ : ByteArray) true _ hp.out).mono ?_;rintro e1 w1 ⟨rfl,⟨⟨nd,rfl⟩⟩⟩;have HB0:=Aside0.mk (pw_below_drewN (Below.refl w.heap.size w) nd)))
  go_quiet (fail)
  replace HB0:=Aside0.mk (pw_below_drewN (Below.refl w.heap.size w) (nd+nq))
  go_wp2_with (first|(go_at_call 55;with_reducible refine(strings_HasPrefix.calls a0 (⟨#[120]⟩ : ByteArray) true _ hp.out).mono ?_;rintro e1 w1 ⟨rfl,⟨⟨nd,rfl⟩⟩⟩;have HB0:=Aside0.mk (pw_below_drewN (Below.refl w.heap.size w) nd)))
  obtain⟨s,hs_⟩ : ∃ s,a0.extract 1 a0.size=s:=⟨_,rfl⟩
  simp only [hs_] at hR ⊢
  go_loopw [5] (fun v5 wr=>∃ (pos fuel:Nat) (n:Int),v5 = .int .i32 n∧Hid (wr.heap[w.heap.size]? = some (.stringIter s pos)∧Below w.heap.size w wr∧xml_number.g s 16 fuel pos n=xml_number.g s 16 s.size 0 0∧s.size≤pos+fuel)) (fun _ wr=>s.size-wr.iterPos w.heap.size)
  case atStart=>
   exact⟨0,s.size,0,rfl,Lib.hid ⟨World.iter_heap _ s 0,HB0.out.alloc (Nat.le_refl _) _,rfl,by omega⟩⟩
  case round=>
   obtain⟨pos,fuel,n,rfl,hI⟩:=hrel
   by_cases hp_:pos<s.size
   ·have hit:=hI.out.1
    have hnx:∀ ty,(Instr.next (.pointer (some ⟨w.heap.size,0,none⟩)) true ty).run Tryd.prog wr=_:=fun ty=>Lib.run_next_any_at wr w.heap.size s pos ty hit hp_
    have hwd:=chars_Count.width_pos s pos hp_
    have hB2:=Lib.below_iterAt hI.out.2.1 (k:=w.heap.size) (Nat.le_refl _) s (pos+(Utf8.decode s pos).2)
    have hit2:=Lib.iterAt_heap wr w.heap.size s pos (pos+(Utf8.decode s pos).2) hit
    obtain⟨W2,hW2⟩ : ∃ W2,wr.iterAt w.heap.size s (pos+(Utf8.decode s pos).2)=W2:=⟨_,rfl⟩
    rw [hW2] at hB2 hit2
    simp only [hW2] at hnx
    obtain⟨f,rfl⟩ : ∃ f,fuel=f+1:=⟨fuel-1,by have:=hI.out.2.2.2;omega⟩
    have hmeas:s.size-W2.iterPos w.heap.size<s.size-wr.iterPos w.heap.size:=by simp only [World.iterPos,hit2,hit];omega
    have hpos:=Lib.hid (And.intro hp_ hwd)
    have hkeep:=Lib.hid (And.intro hB2 (And.intro hit2 hmeas))
    have hfr:Hid (s.size≤pos+(f+1)):=Lib.hid hI.out.2.2.2
    clear hW2 hB2 hit2 hmeas hwd hit hp_
    obtain⟨c,hcc⟩ : ∃ c:Int,((Utf8.decode s pos).1:Int)=c:=⟨_,rfl⟩
    simp only [hcc] at hnx
    have hcs:(c<48)∨(48≤c∧c≤57)∨(58≤c∧c≤64)∨(65≤c∧c≤70)∨(71≤c∧c≤96)∨(97≤c∧c≤102)∨(103≤c):=by omega
    rcases hcs with hcs|hcs|hcs|hcs|hcs|hcs|hcs
    ·have hst':=Lib.hid (show xml_number.step 16 n ((Utf8.decode s pos).1:Int)=none by rw [hcc,xml_number.step,if_neg (by omega),if_neg (by omega),if_neg (by omega)])
     have:=c;first|(have t_:=eq_true (show 48≤c by omega);have u_:=decide_eq_true (show 48≤c by omega))|(have t_:=eq_false (show ¬ (48≤c) by omega);have u_:=decide_eq_false (show ¬ (48≤c) by omega))
     have:=c;first|(have t_:=eq_true (show c≤57 by omega);have u_:=decide_eq_true (show c≤57 by omega))|(have t_:=eq_false (show ¬ (c≤57) by omega);have u_:=decide_eq_false (show ¬ (c≤57) by omega))
     have:=c;first|(have t_:=eq_true (show 97≤c by omega);have u_:=decide_eq_true (show 97≤c by omega))|(have t_:=eq_false (show ¬ (97≤c) by omega);have u_:=decide_eq_false (show ¬ (97≤c) by omega))
     have:=c;first|(have t_:=eq_true (show c≤102 by omega);have u_:=decide_eq_true (show c≤102 by omega))|(have t_:=eq_false (show ¬ (c≤102) by omega);have u_:=decide_eq_false (show ¬ (c≤102) by omega))
     have:=c;first|(have t_:=eq_true (show 65≤c by omega);have u_:=decide_eq_true (show 65≤c by omega))|(have t_:=eq_false (show ¬ (65≤c) by omega);have u_:=decide_eq_false (show ¬ (65≤c) by omega))
     have:=c;first|(have t_:=eq_true (show c≤70 by omega);have u_:=decide_eq_true (show c≤70 by omega))|(have t_:=eq_false (show ¬ (c≤70) by omega);have u_:=decide_eq_false (show ¬ (c≤70) by omega))
     clear hcs
     go_wp2
     go_ret2
     obtain⟨rfl,rfl⟩:=hR.out.1 (hI.out.2.2.1.symm.trans (xml_number.g_bad hpos.out.1 hst'.out))
     exact⟨rfl,hkeep.out.1⟩
    ·have hst':=Lib.hid (show xml_number.step 16 n ((Utf8.decode s pos).1:Int)=some (wrap32 (wrap32 (wrap32 (n*16)+c)-48)) by rw [hcc,xml_number.step,if_pos (by omega)])
     have:=c;first|(have t_:=eq_true (show 48≤c by omega);have u_:=decide_eq_true (show 48≤c by omega))|(have t_:=eq_false (show ¬ (48≤c) by omega);have u_:=decide_eq_false (show ¬ (48≤c) by omega))
     have:=c;first|(have t_:=eq_true (show c≤57 by omega);have u_:=decide_eq_true (show c≤57 by omega))|(have t_:=eq_false (show ¬ (c≤57) by omega);have u_:=decide_eq_false (show ¬ (c≤57) by omega))
     have:=c;first|(have t_:=eq_true (show 97≤c by omega);have u_:=decide_eq_true (show 97≤c by omega))|(have t_:=eq_false (show ¬ (97≤c) by omega);have u_:=decide_eq_false (show ¬ (97≤c) by omega))
     have:=c;first|(have t_:=eq_true (show c≤102 by omega);have u_:=decide_eq_true (show c≤102 by omega))|(have t_:=eq_false (show ¬ (c≤102) by omega);have u_:=decide_eq_false (show ¬ (c≤102) by omega))
     have:=c;first|(have t_:=eq_true (show 65≤c by omega);have u_:=decide_eq_true (show 65≤c by omega))|(have t_:=eq_false (show ¬ (65≤c) by omega);have u_:=decide_eq_false (show ¬ (65≤c) by omega))
     have:=c;first|(have t_:=eq_true (show c≤70 by omega);have u_:=decide_eq_true (show c≤70 by omega))|(have t_:=eq_false (show ¬ (c≤70) by omega);have u_:=decide_eq_false (show ¬ (c≤70) by omega))
     clear hcs
     go_wp2
     go_roundw
     case rel=>exact⟨pos+(Utf8.decode s pos).2,f,_,rfl,Lib.hid ⟨hkeep.out.2.1,hkeep.out.1,(xml_number.g_on hpos.out.1 (by first|exact hst'.out|simpa only [i32_w] using hst'.out)).symm.trans hI.out.2.2.1,by have:=hfr.out;have:=hpos.out.2;omega⟩⟩
     case measure=>exact hkeep.out.2.2
    ·have hst':=Lib.hid (show xml_number.step 16 n ((Utf8.decode s pos).1:Int)=none by rw [hcc,xml_number.step,if_neg (by omega),if_neg (by omega),if_neg (by omega)])
     have:=c;first|(have t_:=eq_true (show 48≤c by omega);have u_:=decide_eq_true (show 48≤c by omega))|(have t_:=eq_false (show ¬ (48≤c) by omega);have u_:=decide_eq_false (show ¬ (48≤c) by omega))
     have:=c;first|(have t_:=eq_true (show c≤57 by omega);have u_:=decide_eq_true (show c≤57 by omega))|(have t_:=eq_false (show ¬ (c≤57) by omega);have u_:=decide_eq_false (show ¬ (c≤57) by omega))
     have:=c;first|(have t_:=eq_true (show 97≤c by omega);have u_:=decide_eq_true (show 97≤c by omega))|(have t_:=eq_false (show ¬ (97≤c) by omega);have u_:=decide_eq_false (show ¬ (97≤c) by omega))
     have:=c;first|(have t_:=eq_true (show c≤102 by omega);have u_:=decide_eq_true (show c≤102 by omega))|(have t_:=eq_false (show ¬ (c≤102) by omega);have u_:=decide_eq_false (show ¬ (c≤102) by omega))
     have:=c;first|(have t_:=eq_true (show 65≤c by omega);have u_:=decide_eq_true (show 65≤c by omega))|(have t_:=eq_false (show ¬ (65≤c) by omega);have u_:=decide_eq_false (show ¬ (65≤c) by omega))
     have:=c;first|(have t_:=eq_true (show c≤70 by omega);have u_:=decide_eq_true (show c≤70 by omega))|(have t_:=eq_false (show ¬ (c≤70) by omega);have u_:=decide_eq_false (show ¬ (c≤70) by omega))
     clear hcs
     go_wp2
     go_ret2
     obtain⟨rfl,rfl⟩:=hR.out.1 (hI.out.2.2.1.symm.trans (xml_number.g_bad hpos.out.1 hst'.out))
     exact⟨rfl,hkeep.out.1⟩
    ·have hst':=Lib.hid (show xml_number.step 16 n ((Utf8.decode s pos).1:Int)=some (wrap32 (wrap32 (wrap32 (wrap32 (n*16)+c)-65)+10)) by rw [hcc,xml_number.step,if_neg (by omega),if_neg (by omega),if_pos (by omega)])
     have:=c;first|(have t_:=eq_true (show 48≤c by omega);have u_:=decide_eq_true (show 48≤c by omega))|(have t_:=eq_false (show ¬ (48≤c) by omega);have u_:=decide_eq_false (show ¬ (48≤c) by omega))
     have:=c;first|(have t_:=eq_true (show c≤57 by omega);have u_:=decide_eq_true (show c≤57 by omega))|(have t_:=eq_false (show ¬ (c≤57) by omega);have u_:=decide_eq_false (show ¬ (c≤57) by omega))
     have:=c;first|(have t_:=eq_true (show 97≤c by omega);have u_:=decide_eq_true (show 97≤c by omega))|(have t_:=eq_false (show ¬ (97≤c) by omega);have u_:=decide_eq_false (show ¬ (97≤c) by omega))
     have:=c;first|(have t_:=eq_true (show c≤102 by omega);have u_:=decide_eq_true (show c≤102 by omega))|(have t_:=eq_false (show ¬ (c≤102) by omega);have u_:=decide_eq_false (show ¬ (c≤102) by omega))
     have:=c;first|(have t_:=eq_true (show 65≤c by omega);have u_:=decide_eq_true (show 65≤c by omega))|(have t_:=eq_false (show ¬ (65≤c) by omega);have u_:=decide_eq_false (show ¬ (65≤c) by omega))
     have:=c;first|(have t_:=eq_true (show c≤70 by omega);have u_:=decide_eq_true (show c≤70 by omega))|(have t_:=eq_false (show ¬ (c≤70) by omega);have u_:=decide_eq_false (show ¬ (c≤70) by omega))
     clear hcs
     go_wp2
     go_roundw
     case rel=>exact⟨pos+(Utf8.decode s pos).2,f,_,rfl,Lib.hid ⟨hkeep.out.2.1,hkeep.out.1,(xml_number.g_on hpos.out.1 (by first|exact hst'.out|simpa only [i32_w] using hst'.out)).symm.trans hI.out.2.2.1,by have:=hfr.out;have:=hpos.out.2;omega⟩⟩
     case measure=>exact hkeep.out.2.2
    ·have hst':=Lib.hid (show xml_number.step 16 n ((Utf8.decode s pos).1:Int)=none by rw [hcc,xml_number.step,if_neg (by omega),if_neg (by omega),if_neg (by omega)])
     have:=c;first|(have t_:=eq_true (show 48≤c by omega);have u_:=decide_eq_true (show 48≤c by omega))|(have t_:=eq_false (show ¬ (48≤c) by omega);have u_:=decide_eq_false (show ¬ (48≤c) by omega))
     have:=c;first|(have t_:=eq_true (show c≤57 by omega);have u_:=decide_eq_true (show c≤57 by omega))|(have t_:=eq_false (show ¬ (c≤57) by omega);have u_:=decide_eq_false (show ¬ (c≤57) by omega))
     have:=c;first|(have t_:=eq_true (show 97≤c by omega);have u_:=decide_eq_true (show 97≤c by omega))|(have t_:=eq_false (show ¬ (97≤c) by omega);have u_:=decide_eq_false (show ¬ (97≤c) by omega))
     have:=c;first|(have t_:=eq_true (show c≤102 by omega);have u_:=decide_eq_true (show c≤102 by omega))|(have t_:=eq_false (show ¬ (c≤102) by omega);have u_:=decide_eq_false (show ¬ (c≤102) by omega))
     have:=c;first|(have t_:=eq_true (show 65≤c by omega);have u_:=decide_eq_true (show 65≤c by omega))|(have t_:=eq_false (show ¬ (65≤c) by omega);have u_:=decide_eq_false (show ¬ (65≤c) by omega))
     have:=c;first|(have t_:=eq_true (show c≤70 by omega);have u_:=decide_eq_true (show c≤70 by omega))|(have t_:=eq_false (show ¬ (c≤70) by omega);have u_:=decide_eq_false (show ¬ (c≤70) by omega))
     clear hcs
     go_wp2
     go_ret2
     obtain⟨rfl,rfl⟩:=hR.out.1 (hI.out.2.2.1.symm.trans (xml_number.g_bad hpos.out.1 hst'.out))
     exact⟨rfl,hkeep.out.1⟩
    ·have hst':=Lib.hid (show xml_number.step 16 n ((Utf8.decode s pos).1:Int)=some (wrap32 (wrap32 (wrap32 (wrap32 (n*16)+c)-97)+10)) by rw [hcc,xml_number.step,if_neg (by omega),if_pos (by omega)])
     have:=c;first|(have t_:=eq_true (show 48≤c by omega);have u_:=decide_eq_true (show 48≤c by omega))|(have t_:=eq_false (show ¬ (48≤c) by omega);have u_:=decide_eq_false (show ¬ (48≤c) by omega))
     have:=c;first|(have t_:=eq_true (show c≤57 by omega);have u_:=decide_eq_true (show c≤57 by omega))|(have t_:=eq_false (show ¬ (c≤57) by omega);have u_:=decide_eq_false (show ¬ (c≤57) by omega))
     have:=c;first|(have t_:=eq_true (show 97≤c by omega);have u_:=decide_eq_true (show 97≤c by omega))|(have t_:=eq_false (show ¬ (97≤c) by omega);have u_:=decide_eq_false (show ¬ (97≤c) by omega))
     have:=c;first|(have t_:=eq_true (show c≤102 by omega);have u_:=decide_eq_true (show c≤102 by omega))|(have t_:=eq_false (show ¬ (c≤102) by omega);have u_:=decide_eq_false (show ¬ (c≤102) by omega))
     have:=c;first|(have t_:=eq_true (show 65≤c by omega);have u_:=decide_eq_true (show 65≤c by omega))|(have t_:=eq_false (show ¬ (65≤c) by omega);have u_:=decide_eq_false (show ¬ (65≤c) by omega))
     have:=c;first|(have t_:=eq_true (show c≤70 by omega);have u_:=decide_eq_true (show c≤70 by omega))|(have t_:=eq_false (show ¬ (c≤70) by omega);have u_:=decide_eq_false (show ¬ (c≤70) by omega))
     clear hcs
     go_wp2
     go_roundw
     case rel=>exact⟨pos+(Utf8.decode s pos).2,f,_,rfl,Lib.hid ⟨hkeep.out.2.1,hkeep.out.1,(xml_number.g_on hpos.out.1 (by first|exact hst'.out|simpa only [i32_w] using hst'.out)).symm.trans hI.out.2.2.1,by have:=hfr.out;have:=hpos.out.2;omega⟩⟩
     case measure=>exact hkeep.out.2.2
    ·have hst':=Lib.hid (show xml_number.step 16 n ((Utf8.decode s pos).1:Int)=none by rw [hcc,xml_number.step,if_neg (by omega),if_neg (by omega),if_neg (by omega)])
     have:=c;first|(have t_:=eq_true (show 48≤c by omega);have u_:=decide_eq_true (show 48≤c by omega))|(have t_:=eq_false (show ¬ (48≤c) by omega);have u_:=decide_eq_false (show ¬ (48≤c) by omega))
     have:=c;first|(have t_:=eq_true (show c≤57 by omega);have u_:=decide_eq_true (show c≤57 by omega))|(have t_:=eq_false (show ¬ (c≤57) by omega);have u_:=decide_eq_false (show ¬ (c≤57) by omega))
     have:=c;first|(have t_:=eq_true (show 97≤c by omega);have u_:=decide_eq_true (show 97≤c by omega))|(have t_:=eq_false (show ¬ (97≤c) by omega);have u_:=decide_eq_false (show ¬ (97≤c) by omega))
     have:=c;first|(have t_:=eq_true (show c≤102 by omega);have u_:=decide_eq_true (show c≤102 by omega))|(have t_:=eq_false (show ¬ (c≤102) by omega);have u_:=decide_eq_false (show ¬ (c≤102) by omega))
     have:=c;first|(have t_:=eq_true (show 65≤c by omega);have u_:=decide_eq_true (show 65≤c by omega))|(have t_:=eq_false (show ¬ (65≤c) by omega);have u_:=decide_eq_false (show ¬ (65≤c) by omega))
     have:=c;first|(have t_:=eq_true (show c≤70 by omega);have u_:=decide_eq_true (show c≤70 by omega))|(have t_:=eq_false (show ¬ (c≤70) by omega);have u_:=decide_eq_false (show ¬ (c≤70) by omega))
     clear hcs
     go_wp2
     go_ret2
     obtain⟨rfl,rfl⟩:=hR.out.1 (hI.out.2.2.1.symm.trans (xml_number.g_bad hpos.out.1 hst'.out))
     exact⟨rfl,hkeep.out.1⟩
   ·have hnx:∀ ty,(Instr.next (.pointer (some ⟨w.heap.size,0,none⟩)) true ty).run Tryd.prog wr=_:=fun ty=>Lib.run_next_end_at wr w.heap.size s pos ty hI.out.1 hp_
    have hF:=hR.out.2 n (hI.out.2.2.1.symm.trans (xml_number.g_end hp_))
    have hB2:=Lib.hid hI.out.2.1
    clear hp_ hI hR
    unfold xml_number.fin at hF
    rcases itO hF with⟨g3,hF⟩|⟨g3,hF⟩
    ·have t5:=eq_true g3
     have t6:=decide_eq_true g3
     clear g3
     obtain⟨l,hl0,hF⟩:=bndO hF
     have hl:=Aside0.mk hl0
     clear hl0
     cases l with
     | false=>
      rw [if_neg Bool.false_ne_true] at hF
      simp only [Option.some.injEq,Prod.mk.injEq] at hF
      obtain⟨rfl,rfl⟩:=hF
      go_wp2_with (go_at_call 27;with_reducible refine(chars_Legal.calls (Utf8.encode n) false _ hl.out).mono ?_;rintro e9 w9 ⟨rfl,hb9⟩;have HB9:=Aside0.mk (below_step hB2.out hb9);clear hb9)
      go_ret2
      exact⟨rfl,HB9.out⟩
     | true=>
      rw [if_pos rfl] at hF
      rcases itO hF with⟨g4,hF⟩|⟨g4,hF⟩
      ·have t7:((Utf8.encode n).toList != ([239,191,189]:List UInt8))=false:=bne_eq_false_iff_eq.mpr g4
       have t8:=eq_true g4
       have t9:((Utf8.encode n).toList == ([239,191,189]:List UInt8))=true:=beq_iff_eq.mpr g4
       clear g4
       simp only [Option.some.injEq,Prod.mk.injEq] at hF
       obtain⟨rfl,rfl⟩:=hF
       go_wp2_with (go_at_call 27;with_reducible refine(chars_Legal.calls (Utf8.encode n) true _ hl.out).mono ?_;rintro e9 w9 ⟨rfl,hb9⟩;have HB9:=Aside0.mk (below_step hB2.out hb9);clear hb9)
       go_ret2
       exact⟨rfl,HB9.out⟩
      ·have t7:((Utf8.encode n).toList != ([239,191,189]:List UInt8))=true:=bne_iff_ne.mpr g4
       have t8:=eq_false g4
       clear g4
       simp only [Option.some.injEq,Prod.mk.injEq] at hF
       obtain⟨rfl,rfl⟩:=hF
       go_wp2_with (go_at_call 27;with_reducible refine(chars_Legal.calls (Utf8.encode n) true _ hl.out).mono ?_;rintro e9 w9 ⟨rfl,hb9⟩;have HB9:=Aside0.mk (below_step hB2.out hb9);clear hb9)
       go_ret2
       exact⟨rfl,HB9.out⟩
    ·have t5:=eq_false g3
     have t6:=decide_eq_false g3
     clear g3
     simp only [Option.some.injEq,Prod.mk.injEq] at hF
     obtain⟨rfl,rfl⟩:=hF
     go_wp2
     go_ret2
     exact⟨rfl,hB2.out⟩
 | false=>
  rw [if_neg Bool.false_ne_true] at h
  unfold xml_number.r at h
  rcases itO h with⟨g1,h⟩|⟨g1,h⟩
  ·have t1:=eq_true (show(((a0).size:Nat):Int)<1 by omega)
   have t2:=decide_eq_true (show(((a0).size:Nat):Int)<1 by omega)
   clear g1
   simp only [Option.some.injEq,Prod.mk.injEq] at h
   obtain⟨rfl,rfl⟩:=h
   go_enter Tryd.func73,Tryd.ntmps73
   go_wp2_with (first|(go_at_call 55;with_reducible refine(strings_HasPrefix.calls a0 (⟨#[120]⟩ : ByteArray) false _ hp.out).mono ?_;rintro e1 w1 ⟨rfl,⟨⟨nd,rfl⟩⟩⟩;have HB0:=Aside0.mk (pw_below_drewN (Below.refl w.heap.size w) nd)))
   go_ret2
   exact⟨rfl,by first|exact HB0.out|exact pw_below_drewN HB0.out _⟩
  have t1:=eq_false (show ¬ (((a0).size:Nat):Int)<1 by omega)
  have t2:=decide_eq_false (show ¬ (((a0).size:Nat):Int)<1 by omega)
  rcases itO h with⟨g2,h⟩|⟨g2,h⟩
  ·have t3:=eq_true (show(7:Int)<(((a0).size:Nat):Int) by omega)
   have t4:=decide_eq_true (show(7:Int)<(((a0).size:Nat):Int) by omega)
   clear g1 g2
   simp only [Option.some.injEq,Prod.mk.injEq] at h
   obtain⟨rfl,rfl⟩:=h
   go_enter Tryd.func73,Tryd.ntmps73
   go_wp2_with (first|(go_at_call 55;with_reducible refine(strings_HasPrefix.calls a0 (⟨#[120]⟩ : ByteArray) false _ hp.out).mono ?_;rintro e1 w1 ⟨rfl,⟨⟨nd,rfl⟩⟩⟩;have HB0:=Aside0.mk (pw_below_drewN (Below.refl w.heap.size w) nd)))
   go_ret2
   exact⟨rfl,by first|exact HB0.out|exact pw_below_drewN HB0.out _⟩
  have t3:=eq_false (show ¬ (7:Int)<(((a0).size:Nat):Int) by omega)
  have t4:=decide_eq_false (show ¬ (7:Int)<(((a0).size:Nat):Int) by omega)
  clear g1 g2
  have hR:Hid ((xml_number.g (a0) 10 ((a0).size) 0 0=none→r1=0∧r2=false) ∧ ∀ n,xml_number.g (a0) 10 ((a0).size) 0 0=some n→xml_number.fin n=some (r1,r2)):=by
   refine Lib.hid ⟨fun hv=>?_,fun n hv=>?_⟩
   ·rw [hv] at h;simp only [Option.some.injEq,Prod.mk.injEq] at h;exact⟨h.1.symm,h.2.symm⟩
   ·rw [hv] at h;exact h
  clear h
  go_enter Tryd.func73,Tryd.ntmps73
  go_wp2_with (first|(go_at_call 55;with_reducible refine(strings_HasPrefix.calls a0 (⟨#[120]⟩ : ByteArray) false _ hp.out).mono ?_;rintro e1 w1 ⟨rfl,⟨⟨nd,rfl⟩⟩⟩;have HB0:=Aside0.mk (pw_below_drewN (Below.refl w.heap.size w) nd)))
  go_loopw [5] (fun v5 wr=>∃ (pos fuel:Nat) (n:Int),v5 = .int .i32 n∧Hid (wr.heap[w.heap.size]? = some (.stringIter a0 pos)∧Below w.heap.size w wr∧xml_number.g a0 10 fuel pos n=xml_number.g a0 10 a0.size 0 0∧a0.size≤pos+fuel)) (fun _ wr=>a0.size-wr.iterPos w.heap.size)
  case atStart=>
   exact⟨0,a0.size,0,rfl,Lib.hid ⟨World.iter_heap _ a0 0,HB0.out.alloc (Nat.le_refl _) _,rfl,by omega⟩⟩
  case round=>
   obtain⟨pos,fuel,n,rfl,hI⟩:=hrel
   by_cases hp_:pos<a0.size
   ·have hit:=hI.out.1
    have hnx:∀ ty,(Instr.next (.pointer (some ⟨w.heap.size,0,none⟩)) true ty).run Tryd.prog wr=_:=fun ty=>Lib.run_next_any_at wr w.heap.size a0 pos ty hit hp_
    have hwd:=chars_Count.width_pos a0 pos hp_
    have hB2:=Lib.below_iterAt hI.out.2.1 (k:=w.heap.size) (Nat.le_refl _) a0 (pos+(Utf8.decode a0 pos).2)
    have hit2:=Lib.iterAt_heap wr w.heap.size a0 pos (pos+(Utf8.decode a0 pos).2) hit
    obtain⟨W2,hW2⟩ : ∃ W2,wr.iterAt w.heap.size a0 (pos+(Utf8.decode a0 pos).2)=W2:=⟨_,rfl⟩
    rw [hW2] at hB2 hit2
    simp only [hW2] at hnx
    obtain⟨f,rfl⟩ : ∃ f,fuel=f+1:=⟨fuel-1,by have:=hI.out.2.2.2;omega⟩
    have hmeas:a0.size-W2.iterPos w.heap.size<a0.size-wr.iterPos w.heap.size:=by simp only [World.iterPos,hit2,hit];omega
    have hpos:=Lib.hid (And.intro hp_ hwd)
    have hkeep:=Lib.hid (And.intro hB2 (And.intro hit2 hmeas))
    have hfr:Hid (a0.size≤pos+(f+1)):=Lib.hid hI.out.2.2.2
    clear hW2 hB2 hit2 hmeas hwd hit hp_
    obtain⟨c,hcc⟩ : ∃ c:Int,((Utf8.decode a0 pos).1:Int)=c:=⟨_,rfl⟩
    simp only [hcc] at hnx
    have hcs:(c<48)∨(48≤c∧c≤57)∨(58≤c∧c≤64)∨(65≤c∧c≤70)∨(71≤c∧c≤96)∨(97≤c∧c≤102)∨(103≤c):=by omega
    rcases hcs with hcs|hcs|hcs|hcs|hcs|hcs|hcs
    ·have hst':=Lib.hid (show xml_number.step 10 n ((Utf8.decode a0 pos).1:Int)=none by rw [hcc,xml_number.step,if_neg (by omega),if_neg (by omega),if_neg (by omega)])
     have:=c;first|(have t_:=eq_true (show 48≤c by omega);have u_:=decide_eq_true (show 48≤c by omega))|(have t_:=eq_false (show ¬ (48≤c) by omega);have u_:=decide_eq_false (show ¬ (48≤c) by omega))
     have:=c;first|(have t_:=eq_true (show c≤57 by omega);have u_:=decide_eq_true (show c≤57 by omega))|(have t_:=eq_false (show ¬ (c≤57) by omega);have u_:=decide_eq_false (show ¬ (c≤57) by omega))
     have:=c;first|(have t_:=eq_true (show 97≤c by omega);have u_:=decide_eq_true (show 97≤c by omega))|(have t_:=eq_false (show ¬ (97≤c) by omega);have u_:=decide_eq_false (show ¬ (97≤c) by omega))
     have:=c;first|(have t_:=eq_true (show c≤102 by omega);have u_:=decide_eq_true (show c≤102 by omega))|(have t_:=eq_false (show ¬ (c≤102) by omega);have u_:=decide_eq_false (show ¬ (c≤102) by omega))
     have:=c;first|(have t_:=eq_true (show 65≤c by omega);have u_:=decide_eq_true (show 65≤c by omega))|(have t_:=eq_false (show ¬ (65≤c) by omega);have u_:=decide_eq_false (show ¬ (65≤c) by omega))
     have:=c;first|(have t_:=eq_true (show c≤70 by omega);have u_:=decide_eq_true (show c≤70 by omega))|(have t_:=eq_false (show ¬ (c≤70) by omega);have u_:=decide_eq_false (show ¬ (c≤70) by omega))
     clear hcs
     go_wp2
     go_ret2
     obtain⟨rfl,rfl⟩:=hR.out.1 (hI.out.2.2.1.symm.trans (xml_number.g_bad hpos.out.1 hst'.out))
     exact⟨rfl,hkeep.out.1⟩
    ·have hst':=Lib.hid (show xml_number.step 10 n ((Utf8.decode a0 pos).1:Int)=some (wrap32 (wrap32 (wrap32 (n*10)+c)-48)) by rw [hcc,xml_number.step,if_pos (by omega)])
     have:=c;first|(have t_:=eq_true (show 48≤c by omega);have u_:=decide_eq_true (show 48≤c by omega))|(have t_:=eq_false (show ¬ (48≤c) by omega);have u_:=decide_eq_false (show ¬ (48≤c) by omega))
     have:=c;first|(have t_:=eq_true (show c≤57 by omega);have u_:=decide_eq_true (show c≤57 by omega))|(have t_:=eq_false (show ¬ (c≤57) by omega);have u_:=decide_eq_false (show ¬ (c≤57) by omega))
     have:=c;first|(have t_:=eq_true (show 97≤c by omega);have u_:=decide_eq_true (show 97≤c by omega))|(have t_:=eq_false (show ¬ (97≤c) by omega);have u_:=decide_eq_false (show ¬ (97≤c) by omega))
     have:=c;first|(have t_:=eq_true (show c≤102 by omega);have u_:=decide_eq_true (show c≤102 by omega))|(have t_:=eq_false (show ¬ (c≤102) by omega);have u_:=decide_eq_false (show ¬ (c≤102) by omega))
     have:=c;first|(have t_:=eq_true (show 65≤c by omega);have u_:=decide_eq_true (show 65≤c by omega))|(have t_:=eq_false (show ¬ (65≤c) by omega);have u_:=decide_eq_false (show ¬ (65≤c) by omega))
     have:=c;first|(have t_:=eq_true (show c≤70 by omega);have u_:=decide_eq_true (show c≤70 by omega))|(have t_:=eq_false (show ¬ (c≤70) by omega);have u_:=decide_eq_false (show ¬ (c≤70) by omega))
     clear hcs
     go_wp2
     go_roundw
     case rel=>exact⟨pos+(Utf8.decode a0 pos).2,f,_,rfl,Lib.hid ⟨hkeep.out.2.1,hkeep.out.1,(xml_number.g_on hpos.out.1 (by first|exact hst'.out|simpa only [i32_w] using hst'.out)).symm.trans hI.out.2.2.1,by have:=hfr.out;have:=hpos.out.2;omega⟩⟩
     case measure=>exact hkeep.out.2.2
    ·have hst':=Lib.hid (show xml_number.step 10 n ((Utf8.decode a0 pos).1:Int)=none by rw [hcc,xml_number.step,if_neg (by omega),if_neg (by omega),if_neg (by omega)])
     have:=c;first|(have t_:=eq_true (show 48≤c by omega);have u_:=decide_eq_true (show 48≤c by omega))|(have t_:=eq_false (show ¬ (48≤c) by omega);have u_:=decide_eq_false (show ¬ (48≤c) by omega))
     have:=c;first|(have t_:=eq_true (show c≤57 by omega);have u_:=decide_eq_true (show c≤57 by omega))|(have t_:=eq_false (show ¬ (c≤57) by omega);have u_:=decide_eq_false (show ¬ (c≤57) by omega))
     have:=c;first|(have t_:=eq_true (show 97≤c by omega);have u_:=decide_eq_true (show 97≤c by omega))|(have t_:=eq_false (show ¬ (97≤c) by omega);have u_:=decide_eq_false (show ¬ (97≤c) by omega))
     have:=c;first|(have t_:=eq_true (show c≤102 by omega);have u_:=decide_eq_true (show c≤102 by omega))|(have t_:=eq_false (show ¬ (c≤102) by omega);have u_:=decide_eq_false (show ¬ (c≤102) by omega))
     have:=c;first|(have t_:=eq_true (show 65≤c by omega);have u_:=decide_eq_true (show 65≤c by omega))|(have t_:=eq_false (show ¬ (65≤c) by omega);have u_:=decide_eq_false (show ¬ (65≤c) by omega))
     have:=c;first|(have t_:=eq_true (show c≤70 by omega);have u_:=decide_eq_true (show c≤70 by omega))|(have t_:=eq_false (show ¬ (c≤70) by omega);have u_:=decide_eq_false (show ¬ (c≤70) by omega))
     clear hcs
     go_wp2
     go_ret2
     obtain⟨rfl,rfl⟩:=hR.out.1 (hI.out.2.2.1.symm.trans (xml_number.g_bad hpos.out.1 hst'.out))
     exact⟨rfl,hkeep.out.1⟩
    ·have hst':=Lib.hid (show xml_number.step 10 n ((Utf8.decode a0 pos).1:Int)=none by rw [hcc,xml_number.step,if_neg (by omega),if_neg (by omega),if_neg (by omega)])
     have:=c;first|(have t_:=eq_true (show 48≤c by omega);have u_:=decide_eq_true (show 48≤c by omega))|(have t_:=eq_false (show ¬ (48≤c) by omega);have u_:=decide_eq_false (show ¬ (48≤c) by omega))
     have:=c;first|(have t_:=eq_true (show c≤57 by omega);have u_:=decide_eq_true (show c≤57 by omega))|(have t_:=eq_false (show ¬ (c≤57) by omega);have u_:=decide_eq_false (show ¬ (c≤57) by omega))
     have:=c;first|(have t_:=eq_true (show 97≤c by omega);have u_:=decide_eq_true (show 97≤c by omega))|(have t_:=eq_false (show ¬ (97≤c) by omega);have u_:=decide_eq_false (show ¬ (97≤c) by omega))
     have:=c;first|(have t_:=eq_true (show c≤102 by omega);have u_:=decide_eq_true (show c≤102 by omega))|(have t_:=eq_false (show ¬ (c≤102) by omega);have u_:=decide_eq_false (show ¬ (c≤102) by omega))
     have:=c;first|(have t_:=eq_true (show 65≤c by omega);have u_:=decide_eq_true (show 65≤c by omega))|(have t_:=eq_false (show ¬ (65≤c) by omega);have u_:=decide_eq_false (show ¬ (65≤c) by omega))
     have:=c;first|(have t_:=eq_true (show c≤70 by omega);have u_:=decide_eq_true (show c≤70 by omega))|(have t_:=eq_false (show ¬ (c≤70) by omega);have u_:=decide_eq_false (show ¬ (c≤70) by omega))
     clear hcs
     go_wp2
     go_ret2
     obtain⟨rfl,rfl⟩:=hR.out.1 (hI.out.2.2.1.symm.trans (xml_number.g_bad hpos.out.1 hst'.out))
     exact⟨rfl,hkeep.out.1⟩
    ·have hst':=Lib.hid (show xml_number.step 10 n ((Utf8.decode a0 pos).1:Int)=none by rw [hcc,xml_number.step,if_neg (by omega),if_neg (by omega),if_neg (by omega)])
     have:=c;first|(have t_:=eq_true (show 48≤c by omega);have u_:=decide_eq_true (show 48≤c by omega))|(have t_:=eq_false (show ¬ (48≤c) by omega);have u_:=decide_eq_false (show ¬ (48≤c) by omega))
     have:=c;first|(have t_:=eq_true (show c≤57 by omega);have u_:=decide_eq_true (show c≤57 by omega))|(have t_:=eq_false (show ¬ (c≤57) by omega);have u_:=decide_eq_false (show ¬ (c≤57) by omega))
     have:=c;first|(have t_:=eq_true (show 97≤c by omega);have u_:=decide_eq_true (show 97≤c by omega))|(have t_:=eq_false (show ¬ (97≤c) by omega);have u_:=decide_eq_false (show ¬ (97≤c) by omega))
     have:=c;first|(have t_:=eq_true (show c≤102 by omega);have u_:=decide_eq_true (show c≤102 by omega))|(have t_:=eq_false (show ¬ (c≤102) by omega);have u_:=decide_eq_false (show ¬ (c≤102) by omega))
     have:=c;first|(have t_:=eq_true (show 65≤c by omega);have u_:=decide_eq_true (show 65≤c by omega))|(have t_:=eq_false (show ¬ (65≤c) by omega);have u_:=decide_eq_false (show ¬ (65≤c) by omega))
     have:=c;first|(have t_:=eq_true (show c≤70 by omega);have u_:=decide_eq_true (show c≤70 by omega))|(have t_:=eq_false (show ¬ (c≤70) by omega);have u_:=decide_eq_false (show ¬ (c≤70) by omega))
     clear hcs
     go_wp2
     go_ret2
     obtain⟨rfl,rfl⟩:=hR.out.1 (hI.out.2.2.1.symm.trans (xml_number.g_bad hpos.out.1 hst'.out))
     exact⟨rfl,hkeep.out.1⟩
    ·have hst':=Lib.hid (show xml_number.step 10 n ((Utf8.decode a0 pos).1:Int)=none by rw [hcc,xml_number.step,if_neg (by omega),if_neg (by omega),if_neg (by omega)])
     have:=c;first|(have t_:=eq_true (show 48≤c by omega);have u_:=decide_eq_true (show 48≤c by omega))|(have t_:=eq_false (show ¬ (48≤c) by omega);have u_:=decide_eq_false (show ¬ (48≤c) by omega))
     have:=c;first|(have t_:=eq_true (show c≤57 by omega);have u_:=decide_eq_true (show c≤57 by omega))|(have t_:=eq_false (show ¬ (c≤57) by omega);have u_:=decide_eq_false (show ¬ (c≤57) by omega))
     have:=c;first|(have t_:=eq_true (show 97≤c by omega);have u_:=decide_eq_true (show 97≤c by omega))|(have t_:=eq_false (show ¬ (97≤c) by omega);have u_:=decide_eq_false (show ¬ (97≤c) by omega))
     have:=c;first|(have t_:=eq_true (show c≤102 by omega);have u_:=decide_eq_true (show c≤102 by omega))|(have t_:=eq_false (show ¬ (c≤102) by omega);have u_:=decide_eq_false (show ¬ (c≤102) by omega))
     have:=c;first|(have t_:=eq_true (show 65≤c by omega);have u_:=decide_eq_true (show 65≤c by omega))|(have t_:=eq_false (show ¬ (65≤c) by omega);have u_:=decide_eq_false (show ¬ (65≤c) by omega))
     have:=c;first|(have t_:=eq_true (show c≤70 by omega);have u_:=decide_eq_true (show c≤70 by omega))|(have t_:=eq_false (show ¬ (c≤70) by omega);have u_:=decide_eq_false (show ¬ (c≤70) by omega))
     clear hcs
     go_wp2
     go_ret2
     obtain⟨rfl,rfl⟩:=hR.out.1 (hI.out.2.2.1.symm.trans (xml_number.g_bad hpos.out.1 hst'.out))
     exact⟨rfl,hkeep.out.1⟩
    ·have hst':=Lib.hid (show xml_number.step 10 n ((Utf8.decode a0 pos).1:Int)=none by rw [hcc,xml_number.step,if_neg (by omega),if_neg (by omega),if_neg (by omega)])
     have:=c;first|(have t_:=eq_true (show 48≤c by omega);have u_:=decide_eq_true (show 48≤c by omega))|(have t_:=eq_false (show ¬ (48≤c) by omega);have u_:=decide_eq_false (show ¬ (48≤c) by omega))
     have:=c;first|(have t_:=eq_true (show c≤57 by omega);have u_:=decide_eq_true (show c≤57 by omega))|(have t_:=eq_false (show ¬ (c≤57) by omega);have u_:=decide_eq_false (show ¬ (c≤57) by omega))
     have:=c;first|(have t_:=eq_true (show 97≤c by omega);have u_:=decide_eq_true (show 97≤c by omega))|(have t_:=eq_false (show ¬ (97≤c) by omega);have u_:=decide_eq_false (show ¬ (97≤c) by omega))
     have:=c;first|(have t_:=eq_true (show c≤102 by omega);have u_:=decide_eq_true (show c≤102 by omega))|(have t_:=eq_false (show ¬ (c≤102) by omega);have u_:=decide_eq_false (show ¬ (c≤102) by omega))
     have:=c;first|(have t_:=eq_true (show 65≤c by omega);have u_:=decide_eq_true (show 65≤c by omega))|(have t_:=eq_false (show ¬ (65≤c) by omega);have u_:=decide_eq_false (show ¬ (65≤c) by omega))
     have:=c;first|(have t_:=eq_true (show c≤70 by omega);have u_:=decide_eq_true (show c≤70 by omega))|(have t_:=eq_false (show ¬ (c≤70) by omega);have u_:=decide_eq_false (show ¬ (c≤70) by omega))
     clear hcs
     go_wp2
     go_ret2
     obtain⟨rfl,rfl⟩:=hR.out.1 (hI.out.2.2.1.symm.trans (xml_number.g_bad hpos.out.1 hst'.out))
     exact⟨rfl,hkeep.out.1⟩
   ·have hnx:∀ ty,(Instr.next (.pointer (some ⟨w.heap.size,0,none⟩)) true ty).run Tryd.prog wr=_:=fun ty=>Lib.run_next_end_at wr w.heap.size a0 pos ty hI.out.1 hp_
    have hF:=hR.out.2 n (hI.out.2.2.1.symm.trans (xml_number.g_end hp_))
    have hB2:=Lib.hid hI.out.2.1
    clear hp_ hI hR
    unfold xml_number.fin at hF
    rcases itO hF with⟨g3,hF⟩|⟨g3,hF⟩
    ·have t5:=eq_true g3
     have t6:=decide_eq_true g3
     clear g3
     obtain⟨l,hl0,hF⟩:=bndO hF
     have hl:=Aside0.mk hl0
     clear hl0
     cases l with
     | false=>
      rw [if_neg Bool.false_ne_true] at hF
      simp only [Option.some.injEq,Prod.mk.injEq] at hF
      obtain⟨rfl,rfl⟩:=hF
      go_wp2_with (go_at_call 27;with_reducible refine(chars_Legal.calls (Utf8.encode n) false _ hl.out).mono ?_;rintro e9 w9 ⟨rfl,hb9⟩;have HB9:=Aside0.mk (below_step hB2.out hb9);clear hb9)
      go_ret2
      exact⟨rfl,HB9.out⟩
     | true=>
      rw [if_pos rfl] at hF
      rcases itO hF with⟨g4,hF⟩|⟨g4,hF⟩
      ·have t7:((Utf8.encode n).toList != ([239,191,189]:List UInt8))=false:=bne_eq_false_iff_eq.mpr g4
       have t8:=eq_true g4
       have t9:((Utf8.encode n).toList == ([239,191,189]:List UInt8))=true:=beq_iff_eq.mpr g4
       clear g4
       simp only [Option.some.injEq,Prod.mk.injEq] at hF
       obtain⟨rfl,rfl⟩:=hF
       go_wp2_with (go_at_call 27;with_reducible refine(chars_Legal.calls (Utf8.encode n) true _ hl.out).mono ?_;rintro e9 w9 ⟨rfl,hb9⟩;have HB9:=Aside0.mk (below_step hB2.out hb9);clear hb9)
       go_ret2
       exact⟨rfl,HB9.out⟩
      ·have t7:((Utf8.encode n).toList != ([239,191,189]:List UInt8))=true:=bne_iff_ne.mpr g4
       have t8:=eq_false g4
       clear g4
       simp only [Option.some.injEq,Prod.mk.injEq] at hF
       obtain⟨rfl,rfl⟩:=hF
       go_wp2_with (go_at_call 27;with_reducible refine(chars_Legal.calls (Utf8.encode n) true _ hl.out).mono ?_;rintro e9 w9 ⟨rfl,hb9⟩;have HB9:=Aside0.mk (below_step hB2.out hb9);clear hb9)
       go_ret2
       exact⟨rfl,HB9.out⟩
    ·have t5:=eq_false g3
     have t6:=decide_eq_false g3
     clear g3
     simp only [Option.some.injEq,Prod.mk.injEq] at hF
     obtain⟨rfl,rfl⟩:=hF
     go_wp2
     go_ret2
     exact⟨rfl,hB2.out⟩
end Go.Proofs.YtklcgncaclggcaaDoor.Q
