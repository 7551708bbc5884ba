/- A part of the proof of the seat's laws. No condition beyond those in the theorems. -/
import Derived.Test.YtfjidcmegacibaaDoorZSqzB
import Derived.Test.YtfjidcmegacibaaDoorZQ0g11
import Derived.Test.YtfjidcmegacibaaDoorZQ11
import Derived.Test.YtfjidcmegacibaaDoorZQ17
import Derived.Test.YtfjidcmegacibaaDoorZQ12g5
open Bool renaming true→T,false→F

namespace Go.Proofs.YtfjidcmegacibaaDoor.Q
open Go.RowKit Go.Proofs.YtfjidcmegacibaaDoorW.PrintWords Go.Proofs.YtfjidcmegacibaaDoorW.PrintLast Go.Proofs.YtfjidcmegacibaaDoorW.PrintMore
set_option linter.unusedVariables false
set_option linter.unusedSimpArgs false
set_option maxHeartbeats 8000000
set_option maxRecDepth 100000
attribute [local go_sem] max2_int min2_int max_two min_two max_three min_three max_four min_four   
def stowageref4_number.l0:Nat→ByteArray→Int→Int→Option (Int)
  | 0,_,_,_=>none
  | k+1,x0,x3,x4=>if x4<(x0.size:Int) then(if 0≤x4 then(if(bt x0 x4)<48 then(some (-1)) else(if(bt x0 x4)>57 then(some (-1)) else(stowageref4_number.l0 k x0 (wrap64 ((wrap64 (10*x3))+(((bt x0 x4)-48) % 256))) (wrap64 (x4+1))))) else(none)) else(some x3)
def stowageref4_number.f (k:Nat) (a0:ByteArray):Option (Int):=stowageref4_number.l0 k a0 0 0
theorem stowageref4_number.mono_l:∀ k,(∀ y0 y1 y2,LeO (stowageref4_number.l0 k y0 y1 y2) (stowageref4_number.l0 (k+1) y0 y1 y2))
  | 0=>fun _ _ _ r h=>by simp [stowageref4_number.l0] at h
  | k+1=>by
    have ih0:=stowageref4_number.mono_l k
    · intro y0 y1 y2
      unfold stowageref4_number.l0
      with_reducible repeat' first|exact ih0 _ _ _|exact LeO.refl _|exact LeO.none _|refine LeO.ite ?_ ?_|refine LeO.bind ?_ (fun _=>?_)
theorem stowageref4_number.mono:∀ a0 k,LeO (stowageref4_number.f k a0) (stowageref4_number.f (k+1) a0):=by
 intro a0 k
 have ih0:=stowageref4_number.mono_l k
 unfold stowageref4_number.f
 with_reducible repeat' first|exact ih0 _ _ _|exact LeO.refl _|exact LeO.none _|refine LeO.ite ?_ ?_|refine LeO.bind ?_ (fun _=>?_)
theorem stowageref4_number.calls (k:Nat) (a0:ByteArray) (r:Int) (w:World) (h:stowageref4_number.f k a0=some r) :
    Calls Tryd.prog 66 #[.string a0] w fun e w'=>e = .returned (.int .i64 r)∧Drawn0 w w':=by
 unfold stowageref4_number.f at h
 have H:=h
 clear h
 have H':=Aside0.mk H
 clear H
 go_enter Tryd.func66,Tryd.ntmps66
 go_wp2
 go_loopg [3,4] k (fun kq v3 v4 w'=>∃ (x3_1:Int) (x4_1:Int),v3 = .int .i64 x3_1∧v4 = .int .i64 x4_1∧Aside0 (stowageref4_number.l0 kq a0 x3_1 x4_1=some r)∧Aside0 (kq≤k)∧Drawn0 w w')
 case atStart=>exact⟨(0),(0),rs,rs,H',⟨Nat.le_refl _⟩,by repeat (first|exact Drawn0.refl _|apply Drawn0.step)⟩
 case round=>
  clear H'
  obtain⟨x3_1,x4_1,rfl,rfl,HA,HK1,⟨m1,rfl⟩⟩:=hrel
  cases gk with
  | zero=>exact absurd HA.out (by simp [stowageref4_number.l0])
  | succ k1=>
   have H:=HA.out
   clear HA
   simp only [stowageref4_number.l0] at H
   replace H:=itO H
   rcases H with⟨c2,H⟩|⟨c2,H⟩
   {
   have c2b0:decide (x4_1<(a0.size:Int))=true:=decide_eq_true c2
   clear c2
   replace H:=itO H
   rcases H with⟨c3,H⟩|⟨c3,H⟩
   {
   have c3b0:decide (0≤x4_1)=true:=decide_eq_true c3
   clear c3
   replace H:=itO H
   rcases H with⟨c5,H⟩|⟨c5,H⟩
   {
   have c5b0:decide ((bt a0 x4_1)<48)=true:=decide_eq_true c5
   clear c5
   obtain rfl:=Option.some.inj H
   have p4:0≤(x4_1:Int):=of_decide_eq_true asm
   have q4:x4_1<(a0.size:Int):=of_decide_eq_true asm
   have hx4:=bt_at a0 x4_1
   replace p4:=eq_true p4
   replace q4:=eq_true q4
   go_wp2
   go_ret
   exact⟨rs,dr⟩
   }
   {
   have c5b0:decide ((bt a0 x4_1)<48)=false:=decide_eq_false c5
   clear c5
   replace H:=itO H
   rcases H with⟨c7,H⟩|⟨c7,H⟩
   {
   have c7b0:decide (57<(bt a0 x4_1))=true:=decide_eq_true c7
   clear c7
   obtain rfl:=Option.some.inj H
   have p4:0≤(x4_1:Int):=of_decide_eq_true asm
   have q4:x4_1<(a0.size:Int):=of_decide_eq_true asm
   have hx4:=bt_at a0 x4_1
   replace p4:=eq_true p4
   replace q4:=eq_true q4
   have p6:0≤(x4_1:Int):=of_decide_eq_true asm
   have q6:x4_1<(a0.size:Int):=of_decide_eq_true asm
   have hx6:=bt_at a0 x4_1
   replace p6:=eq_true p6
   replace q6:=eq_true q6
   go_wp2
   go_ret
   exact⟨rs,dr⟩
   }
   {
   have c7b0:decide (57<(bt a0 x4_1))=false:=decide_eq_false c7
   clear c7
   have H':=Aside0.mk H
   clear H
   have p4:0≤(x4_1:Int):=of_decide_eq_true asm
   have q4:x4_1<(a0.size:Int):=of_decide_eq_true asm
   have hx4:=bt_at a0 x4_1
   replace p4:=eq_true p4
   replace q4:=eq_true q4
   have p6:0≤(x4_1:Int):=of_decide_eq_true asm
   have q6:x4_1<(a0.size:Int):=of_decide_eq_true asm
   have hx6:=bt_at a0 x4_1
   replace p6:=eq_true p6
   replace q6:=eq_true q6
   have p8:0≤(x4_1:Int):=of_decide_eq_true asm
   have q8:x4_1<(a0.size:Int):=of_decide_eq_true asm
   have hx8:=bt_at a0 x4_1
   replace p8:=eq_true p8
   replace q8:=eq_true q8
   go_wp2
   go_roundg k1
   case measure=>have:=HK1.out;omega
   case rel=>exact⟨(wrap64 ((wrap64 (10*x3_1))+(((bt a0 x4_1)-48) % 256))),(wrap64 (x4_1+1)),rs,rs,H',⟨by have:=HK1.out;omega⟩,by repeat (first|exact Drawn0.refl _|apply Drawn0.step)⟩
   }
   }
   }
   ·exact absurd H (by simp)
   }
   {
   have c2b0:decide (x4_1<(a0.size:Int))=false:=decide_eq_false c2
   clear c2
   obtain rfl:=Option.some.inj H
   go_wp2
   go_ret
   exact⟨rs,dr⟩
   }
def stowageref4_ParseHttp.l0:Nat→ByteArray→Int→Option (Int×Bool)
  | 0,_,_=>none
  | k+1,x0,x4=>if x4≤12 then(if 12≤16 then(if 16≤(x0.size:Int) then((stowageref4_number.f k (x0.extract 12 16)).bind fun t163=>(if 5≤7 then(if 7≤(x0.size:Int) then((stowageref4_number.f k (x0.extract 5 7)).bind fun t164=>(if 17≤19 then(if 19≤(x0.size:Int) then((stowageref4_number.f k (x0.extract 17 19)).bind fun t165=>(if 20≤22 then(if 22≤(x0.size:Int) then((stowageref4_number.f k (x0.extract 20 22)).bind fun t166=>(if 23≤25 then(if 25≤(x0.size:Int) then((stowageref4_number.f k (x0.extract 23 25)).bind fun t167=>((stowageref4_Of.f k t163 x4 t164 t165 t166 t167).bind fun bt168=>(if bt168.2=true then((stowageref4_Http.f k bt168.1).bind fun t170=>(if t170.toList=x0.toList then(some (bt168.1,true)) else(stowageref4_ParseHttp.l0 k x0 (wrap64 (x4+1))))) else(stowageref4_ParseHttp.l0 k x0 (wrap64 (x4+1)))))) else(none)) else(none))) else(none)) else(none))) else(none)) else(none))) else(none)) else(none))) else(none)) else(none)) else(some (0,false))
def stowageref4_ParseHttp.f (k:Nat) (a0:ByteArray):Option (Int×Bool):=if(a0.size:Int)=29 then(stowageref4_ParseHttp.l0 k a0 1) else(some (0,false))
theorem stowageref4_ParseHttp.mono_l:∀ k,(∀ y0 y1,LeO (stowageref4_ParseHttp.l0 k y0 y1) (stowageref4_ParseHttp.l0 (k+1) y0 y1))
  | 0=>fun _ _ r h=>by simp [stowageref4_ParseHttp.l0] at h
  | k+1=>by
    have ih0:=stowageref4_ParseHttp.mono_l k
    · intro y0 y1
      unfold stowageref4_ParseHttp.l0
      with_reducible repeat' first|exact ih0 _ _|exact stowageref4_Http.mono _ _|exact stowageref4_Of.mono _ _ _ _ _ _ _|exact stowageref4_number.mono _ _|exact LeO.refl _|exact LeO.none _|refine LeO.ite ?_ ?_|refine LeO.bind ?_ (fun _=>?_)
theorem stowageref4_ParseHttp.mono:∀ a0 k,LeO (stowageref4_ParseHttp.f k a0) (stowageref4_ParseHttp.f (k+1) a0):=by
 intro a0 k
 have ih0:=stowageref4_ParseHttp.mono_l k
 unfold stowageref4_ParseHttp.f
 with_reducible repeat' first|exact ih0 _ _|exact stowageref4_Http.mono _ _|exact stowageref4_Of.mono _ _ _ _ _ _ _|exact stowageref4_number.mono _ _|exact LeO.refl _|exact LeO.none _|refine LeO.ite ?_ ?_|refine LeO.bind ?_ (fun _=>?_)
def stowageref4_ParseHttp.T6:Bool×List (List Nat×List Nat):=(true,[([],[]),([0],[0]),([1],[1]),([],[]),([],[]),([4],[4]),([5,2],[5]),([],[]),([7],[7]),([8,6],[8]),([],[]),([10],[10]),([11,9],[11]),([],[]),([13],[13]),([14,12],[14]),([2,3,6,9,12,15],[2,3,6,9,12,15]),([16,15],[16]),([17],[17]),([18],[18]),([18],[18]),([19,17,0,1,2,3,4,5,6,7,8,9,10,11,12,13,14,15,16,17,18,19],[19]),([20,21,0,1,2,3,4,5,6,7,8,9,10,11,12,13,14,15,16,17,18,19,20,21],[20])])
def stowageref4_ParseHttp.B6:List Nat:=[0,1,3,0,0,16,55,0,128,503,0,1024,4087,0,8192,32759,65535,131071,262143,524287,524287,1048575,4194303]
theorem stowageref4_ParseHttp.tab6:rtab .any (opsOf Tryd.f42 6)=stowageref4_ParseHttp.T6:=by kernel_rfl
theorem stowageref4_ParseHttp.bits6:waitsOk stowageref4_ParseHttp.T6.2 stowageref4_ParseHttp.B6=true:=by kernel_rfl
theorem stowageref4_ParseHttp.calls (k:Nat) (a0:ByteArray) (r1:Int) (r2:Bool) (w:World) (h:stowageref4_ParseHttp.f k a0=some (r1,r2)) :
    Calls Tryd.prog 42 #[.string a0] w fun e w'=>e = .returned (.tuple #[.int .i64 r1,.bool r2])∧Below w.heap.size w w':=by
 have hu85:=Tryd.underlying85
 have HB:=Aside0.mk (Below.refl w.heap.size w)
 unfold stowageref4_ParseHttp.f at h
 have H:=h
 clear h
 replace H:=itO H
 rcases H with⟨c2,H⟩|⟨c2,H⟩
 {
 have c2b0:((a0.size:Int) == 29)=true:=beq_iff_eq.mpr c2
 have c2b1:((a0.size:Int) != 29)=false:=bne_eq_false_iff_eq.mpr c2
 clear c2
 have H':=Aside0.mk H
 clear H
 go_enter Tryd.func42,Tryd.ntmps42
 go_wp2
 go_loopg [4] k (fun kq v4 w'=>∃ (x4_1:Int),v4 = .int .i64 x4_1∧Aside0 (stowageref4_ParseHttp.l0 kq a0 x4_1=some (r1,r2))∧Aside0 (kq≤k)∧Aside0 (Below w.heap.size w w'))
 case atStart=>exact⟨(1),rs,H',⟨Nat.le_refl _⟩,⟨bl⟩⟩
 case round=>
  clear H'
  obtain⟨x4_1,rfl,HA,HK1,HB⟩:=hrel
  cases gk with
  | zero=>exact absurd HA.out (by simp [stowageref4_ParseHttp.l0])
  | succ k1=>
   have H:=HA.out
   clear HA
   simp only [stowageref4_ParseHttp.l0] at H
   replace H:=itO H
   rcases H with⟨c3,H⟩|⟨c3,H⟩
   {
   have c3b0:decide (x4_1≤12)=true:=decide_eq_true c3
   clear c3
   replace H:=itO H
   rcases H with⟨c4,H⟩|⟨c4,H⟩
   {
   have c4b0:=eq_true c4
   have c4b1:=decide_eq_true c4
   clear c4
   replace H:=itO H
   rcases H with⟨c5,H⟩|⟨c5,H⟩
   {
   have c5b0:=eq_true c5
   have c5b1:=decide_eq_true c5
   clear c5
   replace H:=bndO H
   obtain⟨t163,A60,H⟩:=H
   have A6:=Aside0.mk A60
   clear A60
   replace H:=itO H
   rcases H with⟨c7,H⟩|⟨c7,H⟩
   {
   have c7b0:=eq_true c7
   have c7b1:=decide_eq_true c7
   clear c7
   replace H:=itO H
   rcases H with⟨c8,H⟩|⟨c8,H⟩
   {
   have c8b0:=eq_true c8
   have c8b1:=decide_eq_true c8
   clear c8
   replace H:=bndO H
   obtain⟨t164,A90,H⟩:=H
   have A9:=Aside0.mk A90
   clear A90
   replace H:=itO H
   rcases H with⟨c10,H⟩|⟨c10,H⟩
   {
   have c10b0:=eq_true c10
   have c10b1:=decide_eq_true c10
   clear c10
   replace H:=itO H
   rcases H with⟨c11,H⟩|⟨c11,H⟩
   {
   have c11b0:=eq_true c11
   have c11b1:=decide_eq_true c11
   clear c11
   replace H:=bndO H
   obtain⟨t165,A120,H⟩:=H
   have A12:=Aside0.mk A120
   clear A120
   replace H:=itO H
   rcases H with⟨c13,H⟩|⟨c13,H⟩
   {
   have c13b0:=eq_true c13
   have c13b1:=decide_eq_true c13
   clear c13
   replace H:=itO H
   rcases H with⟨c14,H⟩|⟨c14,H⟩
   {
   have c14b0:=eq_true c14
   have c14b1:=decide_eq_true c14
   clear c14
   replace H:=bndO H
   obtain⟨t166,A150,H⟩:=H
   have A15:=Aside0.mk A150
   clear A150
   replace H:=itO H
   rcases H with⟨c16,H⟩|⟨c16,H⟩
   {
   have c16b0:=eq_true c16
   have c16b1:=decide_eq_true c16
   clear c16
   replace H:=itO H
   rcases H with⟨c17,H⟩|⟨c17,H⟩
   {
   have c17b0:=eq_true c17
   have c17b1:=decide_eq_true c17
   clear c17
   replace H:=bndO H
   obtain⟨t167,A180,H⟩:=H
   have A18:=Aside0.mk A180
   clear A180
   replace H:=bndO H
   obtain⟨⟨t168,t169⟩,A190,H⟩:=H
   dsimp only at H
   have A19:=Aside0.mk A190
   clear A190
   by_cases c20:t169=true
   {
   subst c20
   replace H:=itT H
   replace H:=bndO H
   obtain⟨t170,A210,H⟩:=H
   have A21:=Aside0.mk A210
   clear A210
   replace H:=itO H
   rcases H with⟨c22,H⟩|⟨c22,H⟩
   {
   have c22b0:(t170.toList == a0.toList)=true:=beq_iff_eq.mpr c22
   have c22b1:(t170.toList != a0.toList)=false:=bne_eq_false_iff_eq.mpr c22
   clear c22
   simp only [Option.some.injEq,Prod.mk.injEq] at H
   obtain⟨rfl,rfl⟩:=H
   try go_wp2
   have n0_:=Aside0.mk (below_drew1 HB.out)
   clear HB
   have HB:=n0_
   clear n0_
   refine start_ (n:=23) (S:=fun w'=>True) (ds:=[]) #[F,F,F,F,F,F,F,F,F,F,F,F,F,F,F,F,F,F,F,F,F,F,F] kr rfl rfl trivial (fun hHeld=>?_);refine with_tabW stowageref4_ParseHttp.tab6 stowageref4_ParseHttp.bits6 (fun HT_ HW_=>?_)
   generalize wr.drew=w23 at HB hHeld ⊢
   refine pure_ (i:=0) (N:=some 15) (v:=?_) (a':=?_) #[T,F,F,F,F,F,F,F,F,F,F,F,F,F,F,F,F,F,F,F,F,F,F] rfl rfl (any_of HT_.out kr) (fun _ _ _ h=>h) (Or.inl ⟨by rfl,?_⟩) ?_ ?_
   rotate_left
   {
   intro w'
   go_simp
   with_reducible rfl
   }
   rotate_left
   {
   simp only [Act.put,l1,l2,l3,i64_w,i32_w]
   rfl
   }
   refine pure_ (i:=1) (N:=some 16) (v:=?_) (a':=?_) #[T,T,F,F,F,F,F,F,F,F,F,F,F,F,F,F,F,F,F,F,F,F,F] rfl rfl (any_of HT_.out kr) (fun _ _ _ h=>h) (Or.inl ⟨by rfl,?_⟩) ?_ ?_
   rotate_left
   {
   intro w'
   go_simp
   with_reducible rfl
   }
   rotate_left
   {
   simp only [Act.put,l1,l2,l3,i64_w,i32_w]
   rfl
   }
   refine pure_ (i:=3) (N:=some 18) (v:=?_) (a':=?_) #[T,T,F,T,F,F,F,F,F,F,F,F,F,F,F,F,F,F,F,F,F,F,F] rfl rfl (any_of HT_.out kr) (fun _ _ _ h=>h) (Or.inl ⟨by rfl,?_⟩) ?_ ?_
   rotate_left
   {
   intro w'
   go_simp
   with_reducible rfl
   }
   rotate_left
   {
   simp only [Act.put,l1,l2,l3,i64_w,i32_w]
   rfl
   }
   refine pure_ (i:=4) (N:=some 19) (v:=?_) (a':=?_) #[T,T,F,T,T,F,F,F,F,F,F,F,F,F,F,F,F,F,F,F,F,F,F] rfl rfl (any_of HT_.out kr) (fun _ _ _ h=>h) (Or.inl ⟨by rfl,?_⟩) ?_ ?_
   rotate_left
   {
   intro w'
   go_simp
   with_reducible rfl
   }
   rotate_left
   {
   simp only [Act.put,l1,l2,l3,i64_w,i32_w]
   rfl
   }
   refine pure_ (i:=5) (N:=some 20) (v:=?_) (a':=?_) #[T,T,F,T,T,T,F,F,F,F,F,F,F,F,F,F,F,F,F,F,F,F,F] rfl rfl (any_of HT_.out kr) (fun _ _ _ h=>h) (Or.inl ⟨by rfl,?_⟩) ?_ ?_
   rotate_left
   {
   intro w'
   go_simp
   with_reducible rfl
   }
   rotate_left
   {
   simp only [Act.put,l1,l2,l3,i64_w,i32_w]
   rfl
   }
   refine pure_ (i:=7) (N:=some 22) (v:=?_) (a':=?_) #[T,T,F,T,T,T,F,T,F,F,F,F,F,F,F,F,F,F,F,F,F,F,F] rfl rfl (any_of HT_.out kr) (fun _ _ _ h=>h) (Or.inl ⟨by rfl,?_⟩) ?_ ?_
   rotate_left
   {
   intro w'
   go_simp
   with_reducible rfl
   }
   rotate_left
   {
   simp only [Act.put,l1,l2,l3,i64_w,i32_w]
   rfl
   }
   refine pure_ (i:=8) (N:=some 23) (v:=?_) (a':=?_) #[T,T,F,T,T,T,F,T,T,F,F,F,F,F,F,F,F,F,F,F,F,F,F] rfl rfl (any_of HT_.out kr) (fun _ _ _ h=>h) (Or.inl ⟨by rfl,?_⟩) ?_ ?_
   rotate_left
   {
   intro w'
   go_simp
   with_reducible rfl
   }
   rotate_left
   {
   simp only [Act.put,l1,l2,l3,i64_w,i32_w]
   rfl
   }
   refine pure_ (i:=10) (N:=some 25) (v:=?_) (a':=?_) #[T,T,F,T,T,T,F,T,T,F,T,F,F,F,F,F,F,F,F,F,F,F,F] rfl rfl (any_of HT_.out kr) (fun _ _ _ h=>h) (Or.inl ⟨by rfl,?_⟩) ?_ ?_
   rotate_left
   {
   intro w'
   go_simp
   with_reducible rfl
   }
   rotate_left
   {
   simp only [Act.put,l1,l2,l3,i64_w,i32_w]
   rfl
   }
   refine pure_ (i:=11) (N:=some 26) (v:=?_) (a':=?_) #[T,T,F,T,T,T,F,T,T,F,T,T,F,F,F,F,F,F,F,F,F,F,F] rfl rfl (any_of HT_.out kr) (fun _ _ _ h=>h) (Or.inl ⟨by rfl,?_⟩) ?_ ?_
   rotate_left
   {
   intro w'
   go_simp
   with_reducible rfl
   }
   rotate_left
   {
   simp only [Act.put,l1,l2,l3,i64_w,i32_w]
   rfl
   }
   refine pure_ (i:=13) (N:=some 28) (v:=?_) (a':=?_) #[T,T,F,T,T,T,F,T,T,F,T,T,F,T,F,F,F,F,F,F,F,F,F] rfl rfl (any_of HT_.out kr) (fun _ _ _ h=>h) (Or.inl ⟨by rfl,?_⟩) ?_ ?_
   rotate_left
   {
   intro w'
   go_simp
   with_reducible rfl
   }
   rotate_left
   {
   simp only [Act.put,l1,l2,l3,i64_w,i32_w]
   rfl
   }
   refine pure_ (i:=14) (N:=some 29) (v:=?_) (a':=?_) #[T,T,F,T,T,T,F,T,T,F,T,T,F,T,T,F,F,F,F,F,F,F,F] rfl rfl (any_of HT_.out kr) (fun _ _ _ h=>h) (Or.inl ⟨by rfl,?_⟩) ?_ ?_
   rotate_left
   {
   intro w'
   go_simp
   with_reducible rfl
   }
   rotate_left
   {
   simp only [Act.put,l1,l2,l3,i64_w,i32_w]
   rfl
   }
   refine one_ (i:=2) (N:=some 17) #[T,T,T,T,T,T,F,T,T,F,T,T,F,T,T,F,F,F,F,F,F,F,F] rfl rfl (one_of HT_.out kr) (by decide) (fun K hK=>?_)
   refine goes_ Tryd.func66 kr rfl #[.string (a0.extract 12 16)] (by rfl) rfl rfl am ?_
   with_reducible refine(stowageref4_number.calls k1 (a0.extract 12 16) t163 _ A6.out).mono ?_
   rintro e w' ⟨rfl,⟨nd,rfl⟩⟩
   refine⟨_,rfl,?_⟩
   refine hK.out _ _ trivial (fun hHeld=>?_)
   clear hK K
   refine norm_ (a':=?_) ?_ ?_
   rotate_left
   {
   show Act.put _ (some 17) _=_
   simp only [Act.put,l1,l2,l3,i64_w,i32_w]
   rfl
   }
   refine one_ (i:=6) (N:=some 21) #[T,T,T,T,T,T,T,T,T,F,T,T,F,T,T,F,F,F,F,F,F,F,F] rfl rfl (one_of HT_.out kr) (by decide) (fun K hK=>?_)
   refine goes_ Tryd.func66 kr rfl #[.string (a0.extract 5 7)] (by rfl) rfl rfl am ?_
   with_reducible refine(stowageref4_number.calls k1 (a0.extract 5 7) t164 _ A9.out).mono ?_
   rintro e w' ⟨rfl,⟨nd,rfl⟩⟩
   refine⟨_,rfl,?_⟩
   refine hK.out _ _ trivial (fun hHeld=>?_)
   clear hK K
   refine norm_ (a':=?_) ?_ ?_
   rotate_left
   {
   show Act.put _ (some 21) _=_
   simp only [Act.put,l1,l2,l3,i64_w,i32_w]
   rfl
   }
   refine one_ (i:=9) (N:=some 24) #[T,T,T,T,T,T,T,T,T,T,T,T,F,T,T,F,F,F,F,F,F,F,F] rfl rfl (one_of HT_.out kr) (by decide) (fun K hK=>?_)
   refine goes_ Tryd.func66 kr rfl #[.string (a0.extract 17 19)] (by rfl) rfl rfl am ?_
   with_reducible refine(stowageref4_number.calls k1 (a0.extract 17 19) t165 _ A12.out).mono ?_
   rintro e w' ⟨rfl,⟨nd,rfl⟩⟩
   refine⟨_,rfl,?_⟩
   refine hK.out _ _ trivial (fun hHeld=>?_)
   clear hK K
   refine norm_ (a':=?_) ?_ ?_
   rotate_left
   {
   show Act.put _ (some 24) _=_
   simp only [Act.put,l1,l2,l3,i64_w,i32_w]
   rfl
   }
   refine one_ (i:=12) (N:=some 27) #[T,T,T,T,T,T,T,T,T,T,T,T,T,T,T,F,F,F,F,F,F,F,F] rfl rfl (one_of HT_.out kr) (by decide) (fun K hK=>?_)
   refine goes_ Tryd.func66 kr rfl #[.string (a0.extract 20 22)] (by rfl) rfl rfl am ?_
   with_reducible refine(stowageref4_number.calls k1 (a0.extract 20 22) t166 _ A15.out).mono ?_
   rintro e w' ⟨rfl,⟨nd,rfl⟩⟩
   refine⟨_,rfl,?_⟩
   refine hK.out _ _ trivial (fun hHeld=>?_)
   clear hK K
   refine norm_ (a':=?_) ?_ ?_
   rotate_left
   {
   show Act.put _ (some 27) _=_
   simp only [Act.put,l1,l2,l3,i64_w,i32_w]
   rfl
   }
   refine one_ (i:=15) (N:=some 30) #[T,T,T,T,T,T,T,T,T,T,T,T,T,T,T,T,F,F,F,F,F,F,F] rfl rfl (one_of HT_.out kr) (by decide) (fun K hK=>?_)
   refine goes_ Tryd.func66 kr rfl #[.string (a0.extract 23 25)] (by rfl) rfl rfl am ?_
   with_reducible refine(stowageref4_number.calls k1 (a0.extract 23 25) t167 _ A18.out).mono ?_
   rintro e w' ⟨rfl,⟨nd,rfl⟩⟩
   refine⟨_,rfl,?_⟩
   refine hK.out _ _ trivial (fun hHeld=>?_)
   clear hK K
   refine norm_ (a':=?_) ?_ ?_
   rotate_left
   {
   show Act.put _ (some 30) _=_
   simp only [Act.put,l1,l2,l3,i64_w,i32_w]
   rfl
   }
   refine pure_ (i:=16) (N:=some 31) (v:=?_) (a':=?_) #[T,T,T,T,T,T,T,T,T,T,T,T,T,T,T,T,T,F,F,F,F,F,F] rfl rfl (any_of HT_.out kr) (fun _ _ _ h=>h) (Or.inl ⟨by rfl,?_⟩) ?_ ?_
   rotate_left
   {
   intro w'
   go_simp
   with_reducible rfl
   }
   rotate_left
   {
   simp only [Act.put,l1,l2,l3,i64_w,i32_w]
   rfl
   }
   refine one_ (i:=17) (N:=some 32) #[T,T,T,T,T,T,T,T,T,T,T,T,T,T,T,T,T,T,F,F,F,F,F] rfl rfl (one_of HT_.out kr) (by decide) (fun K hK=>?_)
   refine goes_ Tryd.func65 kr rfl #[.agg #[.int .i64 t163,.int .i64 x4_1,.int .i64 t164,.int .i64 t165,.int .i64 t166,.int .i64 t167]] (by rfl) rfl rfl am ?_
   with_reducible refine(stowageref4_Of.calls k1 t163 x4_1 t164 t165 t166 t167 t168 true _ A19.out).mono ?_
   rintro e w24 ⟨rfl,hb⟩
   refine⟨_,rfl,?_⟩
   have n0_:=Aside0.mk (below_step bl hb)
   clear HB
   have HB:=n0_
   clear n0_
   (try clear hb)
   (try clear hb2)
   (try clear hk)
   (try clear hi)
   refine hK.out _ _ trivial (fun hHeld=>?_)
   clear hK K
   refine norm_ (a':=?_) ?_ ?_
   rotate_left
   {
   show Act.put _ (some 32) _=_
   simp only [Act.put,l1,l2,l3,i64_w,i32_w]
   rfl
   }
   refine pure_ (i:=18) (N:=some 14) (v:=?_) (a':=?_) #[T,T,T,T,T,T,T,T,T,T,T,T,T,T,T,T,T,T,T,F,F,F,F] rfl rfl (any_of HT_.out kr) (fun _ _ _ h=>h) (Or.inl ⟨by rfl,?_⟩) ?_ ?_
   rotate_left
   {
   intro w'
   go_simp
   with_reducible rfl
   }
   rotate_left
   {
   simp only [Act.put,l1,l2,l3,i64_w,i32_w]
   rfl
   }
   refine pure_ (i:=19) (N:=some 33) (v:=?_) (a':=?_) #[T,T,T,T,T,T,T,T,T,T,T,T,T,T,T,T,T,T,T,T,F,F,F] rfl rfl (any_of HT_.out kr) (fun _ _ _ h=>h) (Or.inl ⟨by rfl,?_⟩) ?_ ?_
   rotate_left
   {
   intro w'
   go_simp
   with_reducible rfl
   }
   rotate_left
   {
   simp only [Act.put,l1,l2,l3,i64_w,i32_w]
   rfl
   }
   refine pure_ (i:=20) (N:=some 34) (v:=?_) (a':=?_) #[T,T,T,T,T,T,T,T,T,T,T,T,T,T,T,T,T,T,T,T,T,F,F] rfl rfl (any_of HT_.out kr) (fun _ _ _ h=>h) (Or.inl ⟨by rfl,?_⟩) ?_ ?_
   rotate_left
   {
   intro w'
   go_simp
   with_reducible rfl
   }
   rotate_left
   {
   simp only [Act.put,l1,l2,l3,i64_w,i32_w]
   rfl
   }
   refine pure_ (i:=21) (N:=some 5) (v:=?_) (a':=?_) #[T,T,T,T,T,T,T,T,T,T,T,T,T,T,T,T,T,T,T,T,T,T,F] rfl rfl (any_of HT_.out kr) (fun _ _ _ h=>h) (Or.inl ⟨by rfl,?_⟩) ?_ ?_
   rotate_left
   {
   intro w'
   go_simp
   with_reducible rfl
   }
   rotate_left
   {
   simp only [Act.put,l1,l2,l3,i64_w,i32_w]
   rfl
   }
   refine pure_ (i:=22) (N:=some 6) (v:=?_) (a':=?_) #[T,T,T,T,T,T,T,T,T,T,T,T,T,T,T,T,T,T,T,T,T,T,T] rfl rfl (any_of HT_.out kr) (fun _ _ _ h=>h) (Or.inl ⟨by rfl,?_⟩) ?_ ?_
   rotate_left
   {
   intro w'
   go_simp
   with_reducible rfl
   }
   rotate_left
   {
   simp only [Act.put,l1,l2,l3,i64_w,i32_w]
   rfl
   }
   refine done_ (done_of HT_.out kr) ?_
   try go_wp2_with (first|(go_at_call 22;(with_reducible refine(stowageref4_Http.calls k1 t168 t170 _ A21.out).mono ?_);rintro e w25 ⟨rfl,hb⟩;replace HB:=Aside0.mk (below_step bl hb)))
   go_ret2
   exact⟨ew,bl⟩
   }
   {
   have c22b0:(t170.toList == a0.toList)=false:=beq_eq_false_iff_ne.mpr c22
   have c22b1:(t170.toList != a0.toList)=true:=bne_iff_ne.mpr c22
   have H':=Aside0.mk H
   clear H
   try go_wp2
   have n0_:=Aside0.mk (below_drew1 HB.out)
   clear HB
   have HB:=n0_
   clear n0_
   refine start_ (n:=23) (S:=fun w'=>True) (ds:=[]) #[F,F,F,F,F,F,F,F,F,F,F,F,F,F,F,F,F,F,F,F,F,F,F] kr rfl rfl trivial (fun hHeld=>?_);refine with_tabW stowageref4_ParseHttp.tab6 stowageref4_ParseHttp.bits6 (fun HT_ HW_=>?_)
   generalize wr.drew=w26 at HB hHeld ⊢
   refine pure_ (i:=0) (N:=some 15) (v:=?_) (a':=?_) #[T,F,F,F,F,F,F,F,F,F,F,F,F,F,F,F,F,F,F,F,F,F,F] rfl rfl (any_of HT_.out kr) (fun _ _ _ h=>h) (Or.inl ⟨by rfl,?_⟩) ?_ ?_
   rotate_left
   {
   intro w'
   go_simp
   with_reducible rfl
   }
   rotate_left
   {
   simp only [Act.put,l1,l2,l3,i64_w,i32_w]
   rfl
   }
   refine pure_ (i:=1) (N:=some 16) (v:=?_) (a':=?_) #[T,T,F,F,F,F,F,F,F,F,F,F,F,F,F,F,F,F,F,F,F,F,F] rfl rfl (any_of HT_.out kr) (fun _ _ _ h=>h) (Or.inl ⟨by rfl,?_⟩) ?_ ?_
   rotate_left
   {
   intro w'
   go_simp
   with_reducible rfl
   }
   rotate_left
   {
   simp only [Act.put,l1,l2,l3,i64_w,i32_w]
   rfl
   }
   refine pure_ (i:=3) (N:=some 18) (v:=?_) (a':=?_) #[T,T,F,T,F,F,F,F,F,F,F,F,F,F,F,F,F,F,F,F,F,F,F] rfl rfl (any_of HT_.out kr) (fun _ _ _ h=>h) (Or.inl ⟨by rfl,?_⟩) ?_ ?_
   rotate_left
   {
   intro w'
   go_simp
   with_reducible rfl
   }
   rotate_left
   {
   simp only [Act.put,l1,l2,l3,i64_w,i32_w]
   rfl
   }
   refine pure_ (i:=4) (N:=some 19) (v:=?_) (a':=?_) #[T,T,F,T,T,F,F,F,F,F,F,F,F,F,F,F,F,F,F,F,F,F,F] rfl rfl (any_of HT_.out kr) (fun _ _ _ h=>h) (Or.inl ⟨by rfl,?_⟩) ?_ ?_
   rotate_left
   {
   intro w'
   go_simp
   with_reducible rfl
   }
   rotate_left
   {
   simp only [Act.put,l1,l2,l3,i64_w,i32_w]
   rfl
   }
   refine pure_ (i:=5) (N:=some 20) (v:=?_) (a':=?_) #[T,T,F,T,T,T,F,F,F,F,F,F,F,F,F,F,F,F,F,F,F,F,F] rfl rfl (any_of HT_.out kr) (fun _ _ _ h=>h) (Or.inl ⟨by rfl,?_⟩) ?_ ?_
   rotate_left
   {
   intro w'
   go_simp
   with_reducible rfl
   }
   rotate_left
   {
   simp only [Act.put,l1,l2,l3,i64_w,i32_w]
   rfl
   }
   refine pure_ (i:=7) (N:=some 22) (v:=?_) (a':=?_) #[T,T,F,T,T,T,F,T,F,F,F,F,F,F,F,F,F,F,F,F,F,F,F] rfl rfl (any_of HT_.out kr) (fun _ _ _ h=>h) (Or.inl ⟨by rfl,?_⟩) ?_ ?_
   rotate_left
   {
   intro w'
   go_simp
   with_reducible rfl
   }
   rotate_left
   {
   simp only [Act.put,l1,l2,l3,i64_w,i32_w]
   rfl
   }
   refine pure_ (i:=8) (N:=some 23) (v:=?_) (a':=?_) #[T,T,F,T,T,T,F,T,T,F,F,F,F,F,F,F,F,F,F,F,F,F,F] rfl rfl (any_of HT_.out kr) (fun _ _ _ h=>h) (Or.inl ⟨by rfl,?_⟩) ?_ ?_
   rotate_left
   {
   intro w'
   go_simp
   with_reducible rfl
   }
   rotate_left
   {
   simp only [Act.put,l1,l2,l3,i64_w,i32_w]
   rfl
   }
   refine pure_ (i:=10) (N:=some 25) (v:=?_) (a':=?_) #[T,T,F,T,T,T,F,T,T,F,T,F,F,F,F,F,F,F,F,F,F,F,F] rfl rfl (any_of HT_.out kr) (fun _ _ _ h=>h) (Or.inl ⟨by rfl,?_⟩) ?_ ?_
   rotate_left
   {
   intro w'
   go_simp
   with_reducible rfl
   }
   rotate_left
   {
   simp only [Act.put,l1,l2,l3,i64_w,i32_w]
   rfl
   }
   refine pure_ (i:=11) (N:=some 26) (v:=?_) (a':=?_) #[T,T,F,T,T,T,F,T,T,F,T,T,F,F,F,F,F,F,F,F,F,F,F] rfl rfl (any_of HT_.out kr) (fun _ _ _ h=>h) (Or.inl ⟨by rfl,?_⟩) ?_ ?_
   rotate_left
   {
   intro w'
   go_simp
   with_reducible rfl
   }
   rotate_left
   {
   simp only [Act.put,l1,l2,l3,i64_w,i32_w]
   rfl
   }
   refine pure_ (i:=13) (N:=some 28) (v:=?_) (a':=?_) #[T,T,F,T,T,T,F,T,T,F,T,T,F,T,F,F,F,F,F,F,F,F,F] rfl rfl (any_of HT_.out kr) (fun _ _ _ h=>h) (Or.inl ⟨by rfl,?_⟩) ?_ ?_
   rotate_left
   {
   intro w'
   go_simp
   with_reducible rfl
   }
   rotate_left
   {
   simp only [Act.put,l1,l2,l3,i64_w,i32_w]
   rfl
   }
   refine pure_ (i:=14) (N:=some 29) (v:=?_) (a':=?_) #[T,T,F,T,T,T,F,T,T,F,T,T,F,T,T,F,F,F,F,F,F,F,F] rfl rfl (any_of HT_.out kr) (fun _ _ _ h=>h) (Or.inl ⟨by rfl,?_⟩) ?_ ?_
   rotate_left
   {
   intro w'
   go_simp
   with_reducible rfl
   }
   rotate_left
   {
   simp only [Act.put,l1,l2,l3,i64_w,i32_w]
   rfl
   }
   refine one_ (i:=2) (N:=some 17) #[T,T,T,T,T,T,F,T,T,F,T,T,F,T,T,F,F,F,F,F,F,F,F] rfl rfl (one_of HT_.out kr) (by decide) (fun K hK=>?_)
   refine goes_ Tryd.func66 kr rfl #[.string (a0.extract 12 16)] (by rfl) rfl rfl am ?_
   with_reducible refine(stowageref4_number.calls k1 (a0.extract 12 16) t163 _ A6.out).mono ?_
   rintro e w' ⟨rfl,⟨nd,rfl⟩⟩
   refine⟨_,rfl,?_⟩
   refine hK.out _ _ trivial (fun hHeld=>?_)
   clear hK K
   refine norm_ (a':=?_) ?_ ?_
   rotate_left
   {
   show Act.put _ (some 17) _=_
   simp only [Act.put,l1,l2,l3,i64_w,i32_w]
   rfl
   }
   refine one_ (i:=6) (N:=some 21) #[T,T,T,T,T,T,T,T,T,F,T,T,F,T,T,F,F,F,F,F,F,F,F] rfl rfl (one_of HT_.out kr) (by decide) (fun K hK=>?_)
   refine goes_ Tryd.func66 kr rfl #[.string (a0.extract 5 7)] (by rfl) rfl rfl am ?_
   with_reducible refine(stowageref4_number.calls k1 (a0.extract 5 7) t164 _ A9.out).mono ?_
   rintro e w' ⟨rfl,⟨nd,rfl⟩⟩
   refine⟨_,rfl,?_⟩
   refine hK.out _ _ trivial (fun hHeld=>?_)
   clear hK K
   refine norm_ (a':=?_) ?_ ?_
   rotate_left
   {
   show Act.put _ (some 21) _=_
   simp only [Act.put,l1,l2,l3,i64_w,i32_w]
   rfl
   }
   refine one_ (i:=9) (N:=some 24) #[T,T,T,T,T,T,T,T,T,T,T,T,F,T,T,F,F,F,F,F,F,F,F] rfl rfl (one_of HT_.out kr) (by decide) (fun K hK=>?_)
   refine goes_ Tryd.func66 kr rfl #[.string (a0.extract 17 19)] (by rfl) rfl rfl am ?_
   with_reducible refine(stowageref4_number.calls k1 (a0.extract 17 19) t165 _ A12.out).mono ?_
   rintro e w' ⟨rfl,⟨nd,rfl⟩⟩
   refine⟨_,rfl,?_⟩
   refine hK.out _ _ trivial (fun hHeld=>?_)
   clear hK K
   refine norm_ (a':=?_) ?_ ?_
   rotate_left
   {
   show Act.put _ (some 24) _=_
   simp only [Act.put,l1,l2,l3,i64_w,i32_w]
   rfl
   }
   refine one_ (i:=12) (N:=some 27) #[T,T,T,T,T,T,T,T,T,T,T,T,T,T,T,F,F,F,F,F,F,F,F] rfl rfl (one_of HT_.out kr) (by decide) (fun K hK=>?_)
   refine goes_ Tryd.func66 kr rfl #[.string (a0.extract 20 22)] (by rfl) rfl rfl am ?_
   with_reducible refine(stowageref4_number.calls k1 (a0.extract 20 22) t166 _ A15.out).mono ?_
   rintro e w' ⟨rfl,⟨nd,rfl⟩⟩
   refine⟨_,rfl,?_⟩
   refine hK.out _ _ trivial (fun hHeld=>?_)
   clear hK K
   refine norm_ (a':=?_) ?_ ?_
   rotate_left
   {
   show Act.put _ (some 27) _=_
   simp only [Act.put,l1,l2,l3,i64_w,i32_w]
   rfl
   }
   refine one_ (i:=15) (N:=some 30) #[T,T,T,T,T,T,T,T,T,T,T,T,T,T,T,T,F,F,F,F,F,F,F] rfl rfl (one_of HT_.out kr) (by decide) (fun K hK=>?_)
   refine goes_ Tryd.func66 kr rfl #[.string (a0.extract 23 25)] (by rfl) rfl rfl am ?_
   with_reducible refine(stowageref4_number.calls k1 (a0.extract 23 25) t167 _ A18.out).mono ?_
   rintro e w' ⟨rfl,⟨nd,rfl⟩⟩
   refine⟨_,rfl,?_⟩
   refine hK.out _ _ trivial (fun hHeld=>?_)
   clear hK K
   refine norm_ (a':=?_) ?_ ?_
   rotate_left
   {
   show Act.put _ (some 30) _=_
   simp only [Act.put,l1,l2,l3,i64_w,i32_w]
   rfl
   }
   refine pure_ (i:=16) (N:=some 31) (v:=?_) (a':=?_) #[T,T,T,T,T,T,T,T,T,T,T,T,T,T,T,T,T,F,F,F,F,F,F] rfl rfl (any_of HT_.out kr) (fun _ _ _ h=>h) (Or.inl ⟨by rfl,?_⟩) ?_ ?_
   rotate_left
   {
   intro w'
   go_simp
   with_reducible rfl
   }
   rotate_left
   {
   simp only [Act.put,l1,l2,l3,i64_w,i32_w]
   rfl
   }
   refine one_ (i:=17) (N:=some 32) #[T,T,T,T,T,T,T,T,T,T,T,T,T,T,T,T,T,T,F,F,F,F,F] rfl rfl (one_of HT_.out kr) (by decide) (fun K hK=>?_)
   refine goes_ Tryd.func65 kr rfl #[.agg #[.int .i64 t163,.int .i64 x4_1,.int .i64 t164,.int .i64 t165,.int .i64 t166,.int .i64 t167]] (by rfl) rfl rfl am ?_
   with_reducible refine(stowageref4_Of.calls k1 t163 x4_1 t164 t165 t166 t167 t168 true _ A19.out).mono ?_
   rintro e w27 ⟨rfl,hb⟩
   refine⟨_,rfl,?_⟩
   have n0_:=Aside0.mk (below_step bl hb)
   clear HB
   have HB:=n0_
   clear n0_
   (try clear hb)
   (try clear hb2)
   (try clear hk)
   (try clear hi)
   refine hK.out _ _ trivial (fun hHeld=>?_)
   clear hK K
   refine norm_ (a':=?_) ?_ ?_
   rotate_left
   {
   show Act.put _ (some 32) _=_
   simp only [Act.put,l1,l2,l3,i64_w,i32_w]
   rfl
   }
   refine pure_ (i:=18) (N:=some 14) (v:=?_) (a':=?_) #[T,T,T,T,T,T,T,T,T,T,T,T,T,T,T,T,T,T,T,F,F,F,F] rfl rfl (any_of HT_.out kr) (fun _ _ _ h=>h) (Or.inl ⟨by rfl,?_⟩) ?_ ?_
   rotate_left
   {
   intro w'
   go_simp
   with_reducible rfl
   }
   rotate_left
   {
   simp only [Act.put,l1,l2,l3,i64_w,i32_w]
   rfl
   }
   refine pure_ (i:=19) (N:=some 33) (v:=?_) (a':=?_) #[T,T,T,T,T,T,T,T,T,T,T,T,T,T,T,T,T,T,T,T,F,F,F] rfl rfl (any_of HT_.out kr) (fun _ _ _ h=>h) (Or.inl ⟨by rfl,?_⟩) ?_ ?_
   rotate_left
   {
   intro w'
   go_simp
   with_reducible rfl
   }
   rotate_left
   {
   simp only [Act.put,l1,l2,l3,i64_w,i32_w]
   rfl
   }
   refine pure_ (i:=20) (N:=some 34) (v:=?_) (a':=?_) #[T,T,T,T,T,T,T,T,T,T,T,T,T,T,T,T,T,T,T,T,T,F,F] rfl rfl (any_of HT_.out kr) (fun _ _ _ h=>h) (Or.inl ⟨by rfl,?_⟩) ?_ ?_
   rotate_left
   {
   intro w'
   go_simp
   with_reducible rfl
   }
   rotate_left
   {
   simp only [Act.put,l1,l2,l3,i64_w,i32_w]
   rfl
   }
   refine pure_ (i:=21) (N:=some 5) (v:=?_) (a':=?_) #[T,T,T,T,T,T,T,T,T,T,T,T,T,T,T,T,T,T,T,T,T,T,F] rfl rfl (any_of HT_.out kr) (fun _ _ _ h=>h) (Or.inl ⟨by rfl,?_⟩) ?_ ?_
   rotate_left
   {
   intro w'
   go_simp
   with_reducible rfl
   }
   rotate_left
   {
   simp only [Act.put,l1,l2,l3,i64_w,i32_w]
   rfl
   }
   refine pure_ (i:=22) (N:=some 6) (v:=?_) (a':=?_) #[T,T,T,T,T,T,T,T,T,T,T,T,T,T,T,T,T,T,T,T,T,T,T] rfl rfl (any_of HT_.out kr) (fun _ _ _ h=>h) (Or.inl ⟨by rfl,?_⟩) ?_ ?_
   rotate_left
   {
   intro w'
   go_simp
   with_reducible rfl
   }
   rotate_left
   {
   simp only [Act.put,l1,l2,l3,i64_w,i32_w]
   rfl
   }
   refine done_ (done_of HT_.out kr) ?_
   try go_wp2_with (first|(go_at_call 22;(with_reducible refine(stowageref4_Http.calls k1 t168 t170 _ A21.out).mono ?_);rintro e w28 ⟨rfl,hb⟩;replace HB:=Aside0.mk (below_step bl hb)))
   go_roundg k1
   case measure=>have:=HK1.out;omega
   case rel=>exact⟨(wrap64 (x4_1+1)),rs,H',⟨by have:=HK1.out;omega⟩,⟨bl⟩⟩
   }
   }
   {
   replace c20:=Bool.eq_false_iff.mpr c20
   subst c20
   replace H:=itF H
   have H':=Aside0.mk H
   clear H
   try go_wp2
   have n0_:=Aside0.mk (below_drew1 HB.out)
   clear HB
   have HB:=n0_
   clear n0_
   refine start_ (n:=23) (S:=fun w'=>True) (ds:=[]) #[F,F,F,F,F,F,F,F,F,F,F,F,F,F,F,F,F,F,F,F,F,F,F] kr rfl rfl trivial (fun hHeld=>?_);refine with_tabW stowageref4_ParseHttp.tab6 stowageref4_ParseHttp.bits6 (fun HT_ HW_=>?_)
   generalize wr.drew=w29 at HB hHeld ⊢
   refine pure_ (i:=0) (N:=some 15) (v:=?_) (a':=?_) #[T,F,F,F,F,F,F,F,F,F,F,F,F,F,F,F,F,F,F,F,F,F,F] rfl rfl (any_of HT_.out kr) (fun _ _ _ h=>h) (Or.inl ⟨by rfl,?_⟩) ?_ ?_
   rotate_left
   {
   intro w'
   go_simp
   with_reducible rfl
   }
   rotate_left
   {
   simp only [Act.put,l1,l2,l3,i64_w,i32_w]
   rfl
   }
   refine pure_ (i:=1) (N:=some 16) (v:=?_) (a':=?_) #[T,T,F,F,F,F,F,F,F,F,F,F,F,F,F,F,F,F,F,F,F,F,F] rfl rfl (any_of HT_.out kr) (fun _ _ _ h=>h) (Or.inl ⟨by rfl,?_⟩) ?_ ?_
   rotate_left
   {
   intro w'
   go_simp
   with_reducible rfl
   }
   rotate_left
   {
   simp only [Act.put,l1,l2,l3,i64_w,i32_w]
   rfl
   }
   refine pure_ (i:=3) (N:=some 18) (v:=?_) (a':=?_) #[T,T,F,T,F,F,F,F,F,F,F,F,F,F,F,F,F,F,F,F,F,F,F] rfl rfl (any_of HT_.out kr) (fun _ _ _ h=>h) (Or.inl ⟨by rfl,?_⟩) ?_ ?_
   rotate_left
   {
   intro w'
   go_simp
   with_reducible rfl
   }
   rotate_left
   {
   simp only [Act.put,l1,l2,l3,i64_w,i32_w]
   rfl
   }
   refine pure_ (i:=4) (N:=some 19) (v:=?_) (a':=?_) #[T,T,F,T,T,F,F,F,F,F,F,F,F,F,F,F,F,F,F,F,F,F,F] rfl rfl (any_of HT_.out kr) (fun _ _ _ h=>h) (Or.inl ⟨by rfl,?_⟩) ?_ ?_
   rotate_left
   {
   intro w'
   go_simp
   with_reducible rfl
   }
   rotate_left
   {
   simp only [Act.put,l1,l2,l3,i64_w,i32_w]
   rfl
   }
   refine pure_ (i:=5) (N:=some 20) (v:=?_) (a':=?_) #[T,T,F,T,T,T,F,F,F,F,F,F,F,F,F,F,F,F,F,F,F,F,F] rfl rfl (any_of HT_.out kr) (fun _ _ _ h=>h) (Or.inl ⟨by rfl,?_⟩) ?_ ?_
   rotate_left
   {
   intro w'
   go_simp
   with_reducible rfl
   }
   rotate_left
   {
   simp only [Act.put,l1,l2,l3,i64_w,i32_w]
   rfl
   }
   refine pure_ (i:=7) (N:=some 22) (v:=?_) (a':=?_) #[T,T,F,T,T,T,F,T,F,F,F,F,F,F,F,F,F,F,F,F,F,F,F] rfl rfl (any_of HT_.out kr) (fun _ _ _ h=>h) (Or.inl ⟨by rfl,?_⟩) ?_ ?_
   rotate_left
   {
   intro w'
   go_simp
   with_reducible rfl
   }
   rotate_left
   {
   simp only [Act.put,l1,l2,l3,i64_w,i32_w]
   rfl
   }
   refine pure_ (i:=8) (N:=some 23) (v:=?_) (a':=?_) #[T,T,F,T,T,T,F,T,T,F,F,F,F,F,F,F,F,F,F,F,F,F,F] rfl rfl (any_of HT_.out kr) (fun _ _ _ h=>h) (Or.inl ⟨by rfl,?_⟩) ?_ ?_
   rotate_left
   {
   intro w'
   go_simp
   with_reducible rfl
   }
   rotate_left
   {
   simp only [Act.put,l1,l2,l3,i64_w,i32_w]
   rfl
   }
   refine pure_ (i:=10) (N:=some 25) (v:=?_) (a':=?_) #[T,T,F,T,T,T,F,T,T,F,T,F,F,F,F,F,F,F,F,F,F,F,F] rfl rfl (any_of HT_.out kr) (fun _ _ _ h=>h) (Or.inl ⟨by rfl,?_⟩) ?_ ?_
   rotate_left
   {
   intro w'
   go_simp
   with_reducible rfl
   }
   rotate_left
   {
   simp only [Act.put,l1,l2,l3,i64_w,i32_w]
   rfl
   }
   refine pure_ (i:=11) (N:=some 26) (v:=?_) (a':=?_) #[T,T,F,T,T,T,F,T,T,F,T,T,F,F,F,F,F,F,F,F,F,F,F] rfl rfl (any_of HT_.out kr) (fun _ _ _ h=>h) (Or.inl ⟨by rfl,?_⟩) ?_ ?_
   rotate_left
   {
   intro w'
   go_simp
   with_reducible rfl
   }
   rotate_left
   {
   simp only [Act.put,l1,l2,l3,i64_w,i32_w]
   rfl
   }
   refine pure_ (i:=13) (N:=some 28) (v:=?_) (a':=?_) #[T,T,F,T,T,T,F,T,T,F,T,T,F,T,F,F,F,F,F,F,F,F,F] rfl rfl (any_of HT_.out kr) (fun _ _ _ h=>h) (Or.inl ⟨by rfl,?_⟩) ?_ ?_
   rotate_left
   {
   intro w'
   go_simp
   with_reducible rfl
   }
   rotate_left
   {
   simp only [Act.put,l1,l2,l3,i64_w,i32_w]
   rfl
   }
   refine pure_ (i:=14) (N:=some 29) (v:=?_) (a':=?_) #[T,T,F,T,T,T,F,T,T,F,T,T,F,T,T,F,F,F,F,F,F,F,F] rfl rfl (any_of HT_.out kr) (fun _ _ _ h=>h) (Or.inl ⟨by rfl,?_⟩) ?_ ?_
   rotate_left
   {
   intro w'
   go_simp
   with_reducible rfl
   }
   rotate_left
   {
   simp only [Act.put,l1,l2,l3,i64_w,i32_w]
   rfl
   }
   refine one_ (i:=2) (N:=some 17) #[T,T,T,T,T,T,F,T,T,F,T,T,F,T,T,F,F,F,F,F,F,F,F] rfl rfl (one_of HT_.out kr) (by decide) (fun K hK=>?_)
   refine goes_ Tryd.func66 kr rfl #[.string (a0.extract 12 16)] (by rfl) rfl rfl am ?_
   with_reducible refine(stowageref4_number.calls k1 (a0.extract 12 16) t163 _ A6.out).mono ?_
   rintro e w' ⟨rfl,⟨nd,rfl⟩⟩
   refine⟨_,rfl,?_⟩
   refine hK.out _ _ trivial (fun hHeld=>?_)
   clear hK K
   refine norm_ (a':=?_) ?_ ?_
   rotate_left
   {
   show Act.put _ (some 17) _=_
   simp only [Act.put,l1,l2,l3,i64_w,i32_w]
   rfl
   }
   refine one_ (i:=6) (N:=some 21) #[T,T,T,T,T,T,T,T,T,F,T,T,F,T,T,F,F,F,F,F,F,F,F] rfl rfl (one_of HT_.out kr) (by decide) (fun K hK=>?_)
   refine goes_ Tryd.func66 kr rfl #[.string (a0.extract 5 7)] (by rfl) rfl rfl am ?_
   with_reducible refine(stowageref4_number.calls k1 (a0.extract 5 7) t164 _ A9.out).mono ?_
   rintro e w' ⟨rfl,⟨nd,rfl⟩⟩
   refine⟨_,rfl,?_⟩
   refine hK.out _ _ trivial (fun hHeld=>?_)
   clear hK K
   refine norm_ (a':=?_) ?_ ?_
   rotate_left
   {
   show Act.put _ (some 21) _=_
   simp only [Act.put,l1,l2,l3,i64_w,i32_w]
   rfl
   }
   refine one_ (i:=9) (N:=some 24) #[T,T,T,T,T,T,T,T,T,T,T,T,F,T,T,F,F,F,F,F,F,F,F] rfl rfl (one_of HT_.out kr) (by decide) (fun K hK=>?_)
   refine goes_ Tryd.func66 kr rfl #[.string (a0.extract 17 19)] (by rfl) rfl rfl am ?_
   with_reducible refine(stowageref4_number.calls k1 (a0.extract 17 19) t165 _ A12.out).mono ?_
   rintro e w' ⟨rfl,⟨nd,rfl⟩⟩
   refine⟨_,rfl,?_⟩
   refine hK.out _ _ trivial (fun hHeld=>?_)
   clear hK K
   refine norm_ (a':=?_) ?_ ?_
   rotate_left
   {
   show Act.put _ (some 24) _=_
   simp only [Act.put,l1,l2,l3,i64_w,i32_w]
   rfl
   }
   refine one_ (i:=12) (N:=some 27) #[T,T,T,T,T,T,T,T,T,T,T,T,T,T,T,F,F,F,F,F,F,F,F] rfl rfl (one_of HT_.out kr) (by decide) (fun K hK=>?_)
   refine goes_ Tryd.func66 kr rfl #[.string (a0.extract 20 22)] (by rfl) rfl rfl am ?_
   with_reducible refine(stowageref4_number.calls k1 (a0.extract 20 22) t166 _ A15.out).mono ?_
   rintro e w' ⟨rfl,⟨nd,rfl⟩⟩
   refine⟨_,rfl,?_⟩
   refine hK.out _ _ trivial (fun hHeld=>?_)
   clear hK K
   refine norm_ (a':=?_) ?_ ?_
   rotate_left
   {
   show Act.put _ (some 27) _=_
   simp only [Act.put,l1,l2,l3,i64_w,i32_w]
   rfl
   }
   refine one_ (i:=15) (N:=some 30) #[T,T,T,T,T,T,T,T,T,T,T,T,T,T,T,T,F,F,F,F,F,F,F] rfl rfl (one_of HT_.out kr) (by decide) (fun K hK=>?_)
   refine goes_ Tryd.func66 kr rfl #[.string (a0.extract 23 25)] (by rfl) rfl rfl am ?_
   with_reducible refine(stowageref4_number.calls k1 (a0.extract 23 25) t167 _ A18.out).mono ?_
   rintro e w' ⟨rfl,⟨nd,rfl⟩⟩
   refine⟨_,rfl,?_⟩
   refine hK.out _ _ trivial (fun hHeld=>?_)
   clear hK K
   refine norm_ (a':=?_) ?_ ?_
   rotate_left
   {
   show Act.put _ (some 30) _=_
   simp only [Act.put,l1,l2,l3,i64_w,i32_w]
   rfl
   }
   refine pure_ (i:=16) (N:=some 31) (v:=?_) (a':=?_) #[T,T,T,T,T,T,T,T,T,T,T,T,T,T,T,T,T,F,F,F,F,F,F] rfl rfl (any_of HT_.out kr) (fun _ _ _ h=>h) (Or.inl ⟨by rfl,?_⟩) ?_ ?_
   rotate_left
   {
   intro w'
   go_simp
   with_reducible rfl
   }
   rotate_left
   {
   simp only [Act.put,l1,l2,l3,i64_w,i32_w]
   rfl
   }
   refine one_ (i:=17) (N:=some 32) #[T,T,T,T,T,T,T,T,T,T,T,T,T,T,T,T,T,T,F,F,F,F,F] rfl rfl (one_of HT_.out kr) (by decide) (fun K hK=>?_)
   refine goes_ Tryd.func65 kr rfl #[.agg #[.int .i64 t163,.int .i64 x4_1,.int .i64 t164,.int .i64 t165,.int .i64 t166,.int .i64 t167]] (by rfl) rfl rfl am ?_
   with_reducible refine(stowageref4_Of.calls k1 t163 x4_1 t164 t165 t166 t167 t168 false _ A19.out).mono ?_
   rintro e w30 ⟨rfl,hb⟩
   refine⟨_,rfl,?_⟩
   have n0_:=Aside0.mk (below_step bl hb)
   clear HB
   have HB:=n0_
   clear n0_
   (try clear hb)
   (try clear hb2)
   (try clear hk)
   (try clear hi)
   refine hK.out _ _ trivial (fun hHeld=>?_)
   clear hK K
   refine norm_ (a':=?_) ?_ ?_
   rotate_left
   {
   show Act.put _ (some 32) _=_
   simp only [Act.put,l1,l2,l3,i64_w,i32_w]
   rfl
   }
   refine pure_ (i:=18) (N:=some 14) (v:=?_) (a':=?_) #[T,T,T,T,T,T,T,T,T,T,T,T,T,T,T,T,T,T,T,F,F,F,F] rfl rfl (any_of HT_.out kr) (fun _ _ _ h=>h) (Or.inl ⟨by rfl,?_⟩) ?_ ?_
   rotate_left
   {
   intro w'
   go_simp
   with_reducible rfl
   }
   rotate_left
   {
   simp only [Act.put,l1,l2,l3,i64_w,i32_w]
   rfl
   }
   refine pure_ (i:=19) (N:=some 33) (v:=?_) (a':=?_) #[T,T,T,T,T,T,T,T,T,T,T,T,T,T,T,T,T,T,T,T,F,F,F] rfl rfl (any_of HT_.out kr) (fun _ _ _ h=>h) (Or.inl ⟨by rfl,?_⟩) ?_ ?_
   rotate_left
   {
   intro w'
   go_simp
   with_reducible rfl
   }
   rotate_left
   {
   simp only [Act.put,l1,l2,l3,i64_w,i32_w]
   rfl
   }
   refine pure_ (i:=20) (N:=some 34) (v:=?_) (a':=?_) #[T,T,T,T,T,T,T,T,T,T,T,T,T,T,T,T,T,T,T,T,T,F,F] rfl rfl (any_of HT_.out kr) (fun _ _ _ h=>h) (Or.inl ⟨by rfl,?_⟩) ?_ ?_
   rotate_left
   {
   intro w'
   go_simp
   with_reducible rfl
   }
   rotate_left
   {
   simp only [Act.put,l1,l2,l3,i64_w,i32_w]
   rfl
   }
   refine pure_ (i:=21) (N:=some 5) (v:=?_) (a':=?_) #[T,T,T,T,T,T,T,T,T,T,T,T,T,T,T,T,T,T,T,T,T,T,F] rfl rfl (any_of HT_.out kr) (fun _ _ _ h=>h) (Or.inl ⟨by rfl,?_⟩) ?_ ?_
   rotate_left
   {
   intro w'
   go_simp
   with_reducible rfl
   }
   rotate_left
   {
   simp only [Act.put,l1,l2,l3,i64_w,i32_w]
   rfl
   }
   refine pure_ (i:=22) (N:=some 6) (v:=?_) (a':=?_) #[T,T,T,T,T,T,T,T,T,T,T,T,T,T,T,T,T,T,T,T,T,T,T] rfl rfl (any_of HT_.out kr) (fun _ _ _ h=>h) (Or.inl ⟨by rfl,?_⟩) ?_ ?_
   rotate_left
   {
   intro w'
   go_simp
   with_reducible rfl
   }
   rotate_left
   {
   simp only [Act.put,l1,l2,l3,i64_w,i32_w]
   rfl
   }
   refine done_ (done_of HT_.out kr) ?_
   try go_wp2
   go_roundg k1
   case measure=>have:=HK1.out;omega
   case rel=>exact⟨(wrap64 (x4_1+1)),rs,H',⟨by have:=HK1.out;omega⟩,⟨bl⟩⟩
   }
   }
   ·exact absurd H (by simp)
   }
   ·exact absurd H (by simp)
   }
   ·exact absurd H (by simp)
   }
   ·exact absurd H (by simp)
   }
   ·exact absurd H (by simp)
   }
   ·exact absurd H (by simp)
   }
   ·exact absurd H (by simp)
   }
   ·exact absurd H (by simp)
   }
   ·exact absurd H (by simp)
   }
   ·exact absurd H (by simp)
   }
   {
   have c3b0:decide (x4_1≤12)=false:=decide_eq_false c3
   clear c3
   simp only [Option.some.injEq,Prod.mk.injEq] at H
   obtain⟨rfl,rfl⟩:=H
   go_wp2
   go_ret2
   exact⟨ew,bl⟩
   }
 }
 {
 have c2b0:((a0.size:Int) == 29)=false:=beq_eq_false_iff_ne.mpr c2
 have c2b1:((a0.size:Int) != 29)=true:=bne_iff_ne.mpr c2
 simp only [Option.some.injEq,Prod.mk.injEq] at H
 obtain⟨rfl,rfl⟩:=H
 go_enter Tryd.func42,Tryd.ntmps42
 go_wp2
 go_ret2
 exact⟨ew,bl⟩
 }
def stowageref3_Value.l0:Nat→ByteArray→Int→Option (Bool)
  | 0,_,_=>none
  | k+1,x0,x3=>if x3<(x0.size:Int) then(if 0≤x3 then(if(bt x0 x3)=9 then(stowageref3_Value.l0 k x0 (wrap64 (x3+1))) else(if(bt x0 x3)<32 then(some false) else(if(bt x0 x3)=127 then(some false) else(stowageref3_Value.l0 k x0 (wrap64 (x3+1)))))) else(none)) else(some true)
def stowageref3_Value.f (k:Nat) (a0:ByteArray):Option (Bool):=stowageref3_Value.l0 k a0 0
theorem stowageref3_Value.mono_l:∀ k,(∀ y0 y1,LeO (stowageref3_Value.l0 k y0 y1) (stowageref3_Value.l0 (k+1) y0 y1))
  | 0=>fun _ _ r h=>by simp [stowageref3_Value.l0] at h
  | k+1=>by
    have ih0:=stowageref3_Value.mono_l k
    · intro y0 y1
      unfold stowageref3_Value.l0
      with_reducible repeat' first|exact ih0 _ _|exact LeO.refl _|exact LeO.none _|refine LeO.ite ?_ ?_|refine LeO.bind ?_ (fun _=>?_)
theorem stowageref3_Value.mono:∀ a0 k,LeO (stowageref3_Value.f k a0) (stowageref3_Value.f (k+1) a0):=by
 intro a0 k
 have ih0:=stowageref3_Value.mono_l k
 unfold stowageref3_Value.f
 with_reducible repeat' first|exact ih0 _ _|exact LeO.refl _|exact LeO.none _|refine LeO.ite ?_ ?_|refine LeO.bind ?_ (fun _=>?_)
theorem stowageref3_Value.calls (k:Nat) (a0:ByteArray) (r:Bool) (w:World) (h:stowageref3_Value.f k a0=some r) :
    Calls Tryd.prog 67 #[.string a0] w fun e w'=>e = .returned (.bool r)∧Drawn0 w w':=by
 unfold stowageref3_Value.f at h
 have H:=h
 clear h
 have H':=Aside0.mk H
 clear H
 go_enter Tryd.func67,Tryd.ntmps67
 go_wp2
 go_loopg [3] k (fun kq v3 w'=>∃ (x3_1:Int),v3 = .int .i64 x3_1∧Aside0 (stowageref3_Value.l0 kq a0 x3_1=some r)∧Aside0 (kq≤k)∧Drawn0 w w')
 case atStart=>exact⟨(0),rs,H',⟨Nat.le_refl _⟩,by repeat (first|exact Drawn0.refl _|apply Drawn0.step)⟩
 case round=>
  clear H'
  obtain⟨x3_1,rfl,HA,HK1,⟨m1,rfl⟩⟩:=hrel
  cases gk with
  | zero=>exact absurd HA.out (by simp [stowageref3_Value.l0])
  | succ k1=>
   have H:=HA.out
   clear HA
   simp only [stowageref3_Value.l0] at H
   replace H:=itO H
   rcases H with⟨c2,H⟩|⟨c2,H⟩
   {
   have c2b0:decide (x3_1<(a0.size:Int))=true:=decide_eq_true c2
   clear c2
   replace H:=itO H
   rcases H with⟨c3,H⟩|⟨c3,H⟩
   {
   have c3b0:decide (0≤x3_1)=true:=decide_eq_true c3
   clear c3
   replace H:=itO H
   rcases H with⟨c5,H⟩|⟨c5,H⟩
   {
   have c5b0:((bt a0 x3_1) == 9)=true:=beq_iff_eq.mpr c5
   have c5b1:((bt a0 x3_1) != 9)=false:=bne_eq_false_iff_eq.mpr c5
   clear c5
   have H':=Aside0.mk H
   clear H
   have p4:0≤(x3_1:Int):=of_decide_eq_true asm
   have q4:x3_1<(a0.size:Int):=of_decide_eq_true asm
   have hx4:=bt_at a0 x3_1
   replace p4:=eq_true p4
   replace q4:=eq_true q4
   go_wp2
   go_roundg k1
   case measure=>have:=HK1.out;omega
   case rel=>exact⟨(wrap64 (x3_1+1)),rs,H',⟨by have:=HK1.out;omega⟩,by repeat (first|exact Drawn0.refl _|apply Drawn0.step)⟩
   }
   {
   have c5b0:((bt a0 x3_1) == 9)=false:=beq_eq_false_iff_ne.mpr c5
   have c5b1:((bt a0 x3_1) != 9)=true:=bne_iff_ne.mpr c5
   replace H:=itO H
   rcases H with⟨c7,H⟩|⟨c7,H⟩
   {
   have c7b0:decide ((bt a0 x3_1)<32)=true:=decide_eq_true c7
   clear c7
   obtain rfl:=Option.some.inj H
   have p4:0≤(x3_1:Int):=of_decide_eq_true asm
   have q4:x3_1<(a0.size:Int):=of_decide_eq_true asm
   have hx4:=bt_at a0 x3_1
   replace p4:=eq_true p4
   replace q4:=eq_true q4
   have p6:0≤(x3_1:Int):=of_decide_eq_true asm
   have q6:x3_1<(a0.size:Int):=of_decide_eq_true asm
   have hx6:=bt_at a0 x3_1
   replace p6:=eq_true p6
   replace q6:=eq_true q6
   go_wp2
   go_ret
   exact⟨rs,dr⟩
   }
   {
   have c7b0:decide ((bt a0 x3_1)<32)=false:=decide_eq_false c7
   clear c7
   replace H:=itO H
   rcases H with⟨c9,H⟩|⟨c9,H⟩
   {
   have c9b0:((bt a0 x3_1) == 127)=true:=beq_iff_eq.mpr c9
   have c9b1:((bt a0 x3_1) != 127)=false:=bne_eq_false_iff_eq.mpr c9
   clear c9
   obtain rfl:=Option.some.inj H
   have p4:0≤(x3_1:Int):=of_decide_eq_true asm
   have q4:x3_1<(a0.size:Int):=of_decide_eq_true asm
   have hx4:=bt_at a0 x3_1
   replace p4:=eq_true p4
   replace q4:=eq_true q4
   have p6:0≤(x3_1:Int):=of_decide_eq_true asm
   have q6:x3_1<(a0.size:Int):=of_decide_eq_true asm
   have hx6:=bt_at a0 x3_1
   replace p6:=eq_true p6
   replace q6:=eq_true q6
   have p8:0≤(x3_1:Int):=of_decide_eq_true asm
   have q8:x3_1<(a0.size:Int):=of_decide_eq_true asm
   have hx8:=bt_at a0 x3_1
   replace p8:=eq_true p8
   replace q8:=eq_true q8
   go_wp2
   go_ret
   exact⟨rs,dr⟩
   }
   {
   have c9b0:((bt a0 x3_1) == 127)=false:=beq_eq_false_iff_ne.mpr c9
   have c9b1:((bt a0 x3_1) != 127)=true:=bne_iff_ne.mpr c9
   have H':=Aside0.mk H
   clear H
   have p4:0≤(x3_1:Int):=of_decide_eq_true asm
   have q4:x3_1<(a0.size:Int):=of_decide_eq_true asm
   have hx4:=bt_at a0 x3_1
   replace p4:=eq_true p4
   replace q4:=eq_true q4
   have p6:0≤(x3_1:Int):=of_decide_eq_true asm
   have q6:x3_1<(a0.size:Int):=of_decide_eq_true asm
   have hx6:=bt_at a0 x3_1
   replace p6:=eq_true p6
   replace q6:=eq_true q6
   have p8:0≤(x3_1:Int):=of_decide_eq_true asm
   have q8:x3_1<(a0.size:Int):=of_decide_eq_true asm
   have hx8:=bt_at a0 x3_1
   replace p8:=eq_true p8
   replace q8:=eq_true q8
   go_wp2
   go_roundg k1
   case measure=>have:=HK1.out;omega
   case rel=>exact⟨(wrap64 (x3_1+1)),rs,H',⟨by have:=HK1.out;omega⟩,by repeat (first|exact Drawn0.refl _|apply Drawn0.step)⟩
   }
   }
   }
   }
   ·exact absurd H (by simp)
   }
   {
   have c2b0:decide (x3_1<(a0.size:Int))=false:=decide_eq_false c2
   clear c2
   obtain rfl:=Option.some.inj H
   go_wp2
   go_ret
   exact⟨rs,dr⟩
   }
mutual
def stowageref3_Trim.j1:Nat→ByteArray→Option (ByteArray)
  | 0,_=>none
  | k+1,x0=>stowageref3_Trim.l1 k x0
def stowageref3_Trim.l1:Nat→ByteArray→Option (ByteArray)
  | 0,_=>none
  | k+1,x0=>if(x0.size:Int)>0 then(if 0≤(wrap64 ((x0.size:Int)-1)) then(if(wrap64 ((x0.size:Int)-1))<(x0.size:Int) then(if(bt x0 (wrap64 ((x0.size:Int)-1)))=32 then(if(wrap64 ((x0.size:Int)-1))≤(x0.size:Int) then(stowageref3_Trim.l1 k (x0.extract 0 ((wrap64 ((x0.size:Int)-1)):Int).toNat)) else(none)) else(if(bt x0 (wrap64 ((x0.size:Int)-1)))=9 then(if(wrap64 ((x0.size:Int)-1))≤(x0.size:Int) then(stowageref3_Trim.l1 k (x0.extract 0 ((wrap64 ((x0.size:Int)-1)):Int).toNat)) else(none)) else(some x0))) else(none)) else(none)) else(some x0)
def stowageref3_Trim.l0:Nat→ByteArray→Option (ByteArray)
  | 0,_=>none
  | k+1,x0=>if(x0.size:Int)>0 then(if 0<(x0.size:Int) then(if(bt x0 0)=32 then(if 1≤(x0.size:Int) then(stowageref3_Trim.l0 k (x0.extract 1 x0.size)) else(none)) else(if(bt x0 0)=9 then(if 1≤(x0.size:Int) then(stowageref3_Trim.l0 k (x0.extract 1 x0.size)) else(none)) else(stowageref3_Trim.j1 k x0))) else(none)) else(stowageref3_Trim.j1 k x0)
end
def stowageref3_Trim.f (k:Nat) (a0:ByteArray):Option (ByteArray):=stowageref3_Trim.l0 k a0
theorem stowageref3_Trim.mono_l:∀ k,(∀ y0,LeO (stowageref3_Trim.j1 k y0) (stowageref3_Trim.j1 (k+1) y0))∧(∀ y0,LeO (stowageref3_Trim.l1 k y0) (stowageref3_Trim.l1 (k+1) y0))∧(∀ y0,LeO (stowageref3_Trim.l0 k y0) (stowageref3_Trim.l0 (k+1) y0))
  | 0=>⟨fun _ r h=>by simp [stowageref3_Trim.j1] at h,fun _ r h=>by simp [stowageref3_Trim.l1] at h,fun _ r h=>by simp [stowageref3_Trim.l0] at h⟩
  | k+1=>by
    obtain⟨ih0,ih1,ih2⟩:=stowageref3_Trim.mono_l k
    refine⟨?_,?_,?_⟩
    · intro y0
      unfold stowageref3_Trim.j1
      with_reducible repeat' first|exact ih0 _|exact ih1 _|exact ih2 _|exact LeO.refl _|exact LeO.none _|refine LeO.ite ?_ ?_|refine LeO.bind ?_ (fun _=>?_)
    · intro y0
      unfold stowageref3_Trim.l1
      with_reducible repeat' first|exact ih0 _|exact ih1 _|exact ih2 _|exact LeO.refl _|exact LeO.none _|refine LeO.ite ?_ ?_|refine LeO.bind ?_ (fun _=>?_)
    · intro y0
      unfold stowageref3_Trim.l0
      with_reducible repeat' first|exact ih0 _|exact ih1 _|exact ih2 _|exact LeO.refl _|exact LeO.none _|refine LeO.ite ?_ ?_|refine LeO.bind ?_ (fun _=>?_)
theorem stowageref3_Trim.mono:∀ a0 k,LeO (stowageref3_Trim.f k a0) (stowageref3_Trim.f (k+1) a0):=by
 intro a0 k
 obtain⟨ih0,ih1,ih2⟩:=stowageref3_Trim.mono_l k
 unfold stowageref3_Trim.f
 with_reducible repeat' first|exact ih0 _|exact ih1 _|exact ih2 _|exact LeO.refl _|exact LeO.none _|refine LeO.ite ?_ ?_|refine LeO.bind ?_ (fun _=>?_)
theorem stowageref3_Trim.calls (k:Nat) (a0:ByteArray) (r:ByteArray) (w:World) (h:stowageref3_Trim.f k a0=some r) :
    Calls Tryd.prog 68 #[.string a0] w fun e w'=>e = .returned (.string r)∧Drawn0 w w':=by
 unfold stowageref3_Trim.f at h
 have H:=h
 clear h
 have HC2:=Aside0.mk H
 clear H
 go_enter Tryd.func68,Tryd.ntmps68
 go_upto_block 0 with(fail)
 go_cut [0] (fun v0 wc=>∃ (kq:Nat) (x0_1:ByteArray),v0 = .string x0_1∧Aside0 (stowageref3_Trim.j1 kq x0_1=some r)∧Aside0 (kq≤k)∧Drawn0 w wc)
 case first=>
  have H:=HC2.out
  clear HC2
  have H':=Aside0.mk H
  clear H
  go_wp2
  go_loopg [0] k (fun kq v0 w'=>∃ (x0_1:ByteArray),v0 = .string x0_1∧Aside0 (stowageref3_Trim.l0 kq x0_1=some r)∧Aside0 (kq≤k)∧Drawn0 w w')
  case atStart=>exact⟨(a0),rs,H',⟨Nat.le_refl _⟩,by repeat (first|exact Drawn0.refl _|apply Drawn0.step)⟩
  case round=>
   clear H'
   obtain⟨x0_1,rfl,HA,HK1,⟨m1,rfl⟩⟩:=hrel
   cases gk with
   | zero=>exact absurd HA.out (by simp [stowageref3_Trim.l0])
   | succ k1=>
    have H:=HA.out
    clear HA
    simp only [stowageref3_Trim.l0] at H
    replace H:=itO H
    rcases H with⟨c3,H⟩|⟨c3,H⟩
    {
    have c3b0:decide (0<(x0_1.size:Int))=true:=decide_eq_true c3
    have c3b1:decide (0<x0_1.size)=true:=decide_eq_true (by omega)
    clear c3
    (first|rw [c3b0]|(simp only [i64_w,i32_w];rw [c3b0])|skip)
    replace H:=itO H
    rcases H with⟨c4,H⟩|⟨c4,H⟩
    {
    have c4b0:decide (0<(x0_1.size:Int))=true:=decide_eq_true c4
    have c4b1:decide (0<x0_1.size)=true:=decide_eq_true (by omega)
    clear c4
    replace H:=itO H
    rcases H with⟨c6,H⟩|⟨c6,H⟩
    {
    have c6b0:((bt x0_1 0) == 32)=true:=beq_iff_eq.mpr c6
    have c6b1:((bt x0_1 0) != 32)=false:=bne_eq_false_iff_eq.mpr c6
    clear c6
    replace H:=itO H
    rcases H with⟨c7,H⟩|⟨c7,H⟩
    {
    have c7b0:=eq_true c7
    have c7b1:=decide_eq_true c7
    clear c7
    have H':=Aside0.mk H
    clear H
    have p5:0≤(0:Int):=(by omega)
    have q5:0<x0_1.size:=(by have:(0:Int)<(x0_1.size:Int):=of_decide_eq_true asm;omega)
    have hx5:∀ h:0<x0_1.size,((x0_1[0]'h).toNat:Int)=bt x0_1 0:=bt_at x0_1 0
    clear p5
    have qi5:(0<(x0_1.size:Int))=True:=eq_true (of_decide_eq_true asm)
    replace q5:=eq_true q5
    go_wp2
    go_roundg k1
    case measure=>have:=HK1.out;omega
    case rel=>exact⟨(x0_1.extract 1 x0_1.size),rs,H',⟨by have:=HK1.out;omega⟩,by repeat (first|exact Drawn0.refl _|apply Drawn0.step)⟩
    }
    ·exact absurd H (by simp)
    }
    {
    have c6b0:((bt x0_1 0) == 32)=false:=beq_eq_false_iff_ne.mpr c6
    have c6b1:((bt x0_1 0) != 32)=true:=bne_iff_ne.mpr c6
    replace H:=itO H
    rcases H with⟨c9,H⟩|⟨c9,H⟩
    {
    have c9b0:((bt x0_1 0) == 9)=true:=beq_iff_eq.mpr c9
    have c9b1:((bt x0_1 0) != 9)=false:=bne_eq_false_iff_eq.mpr c9
    clear c9
    replace H:=itO H
    rcases H with⟨c10,H⟩|⟨c10,H⟩
    {
    have c10b0:=eq_true c10
    have c10b1:=decide_eq_true c10
    clear c10
    have H':=Aside0.mk H
    clear H
    have p5:0≤(0:Int):=(by omega)
    have q5:0<x0_1.size:=(by have:(0:Int)<(x0_1.size:Int):=of_decide_eq_true asm;omega)
    have hx5:∀ h:0<x0_1.size,((x0_1[0]'h).toNat:Int)=bt x0_1 0:=bt_at x0_1 0
    clear p5
    have qi5:(0<(x0_1.size:Int))=True:=eq_true (of_decide_eq_true asm)
    replace q5:=eq_true q5
    have p8:0≤(0:Int):=(by omega)
    have q8:0<x0_1.size:=(by have:(0:Int)<(x0_1.size:Int):=of_decide_eq_true asm;omega)
    have hx8:∀ h:0<x0_1.size,((x0_1[0]'h).toNat:Int)=bt x0_1 0:=bt_at x0_1 0
    clear p8
    have qi8:(0<(x0_1.size:Int))=True:=eq_true (of_decide_eq_true asm)
    replace q8:=eq_true q8
    go_wp2
    go_roundg k1
    case measure=>have:=HK1.out;omega
    case rel=>exact⟨(x0_1.extract 1 x0_1.size),rs,H',⟨by have:=HK1.out;omega⟩,by repeat (first|exact Drawn0.refl _|apply Drawn0.step)⟩
    }
    ·exact absurd H (by simp)
    }
    {
    have c9b0:((bt x0_1 0) == 9)=false:=beq_eq_false_iff_ne.mpr c9
    have c9b1:((bt x0_1 0) != 9)=true:=bne_iff_ne.mpr c9
    have H':=Aside0.mk H
    clear H
    have p5:0≤(0:Int):=(by omega)
    have q5:0<x0_1.size:=(by have:(0:Int)<(x0_1.size:Int):=of_decide_eq_true asm;omega)
    have hx5:∀ h:0<x0_1.size,((x0_1[0]'h).toNat:Int)=bt x0_1 0:=bt_at x0_1 0
    clear p5
    have qi5:(0<(x0_1.size:Int))=True:=eq_true (of_decide_eq_true asm)
    replace q5:=eq_true q5
    have p8:0≤(0:Int):=(by omega)
    have q8:0<x0_1.size:=(by have:(0:Int)<(x0_1.size:Int):=of_decide_eq_true asm;omega)
    have hx8:∀ h:0<x0_1.size,((x0_1[0]'h).toNat:Int)=bt x0_1 0:=bt_at x0_1 0
    clear p8
    have qi8:(0<(x0_1.size:Int))=True:=eq_true (of_decide_eq_true asm)
    replace q8:=eq_true q8
    go_wp2
    go_meet
    case rel=>exact⟨_,(x0_1),rs,H',⟨by have:=HK1.out;first|omega|exact Nat.le_refl _⟩,by repeat (first|exact Drawn0.refl _|apply Drawn0.step)⟩
    }
    }
    }
    ·exact absurd H (by simp)
    }
    {
    have c3b0:decide (0<(x0_1.size:Int))=false:=decide_eq_false c3
    have c3b1:decide (0<x0_1.size)=false:=decide_eq_false (by omega)
    clear c3
    (first|rw [c3b0]|(simp only [i64_w,i32_w];rw [c3b0])|skip)
    have H':=Aside0.mk H
    clear H
    go_wp2
    go_meet
    case rel=>exact⟨_,(x0_1),rs,H',⟨by have:=HK1.out;first|omega|exact Nat.le_refl _⟩,by repeat (first|exact Drawn0.refl _|apply Drawn0.step)⟩
    }
 case rest=>
  clear HC2
  obtain⟨kq,x0_1,rfl,HA,HJ1,⟨mc1,rfl⟩⟩:=hcut
  cases kq with
  | zero=>exact absurd HA.out (by simp [stowageref3_Trim.j1])
  | succ kj1=>
   have H:=HA.out
   clear HA
   simp only [stowageref3_Trim.j1] at H
   have H':=Aside0.mk H
   clear H
   go_wp2
   go_loopg [0] kj1 (fun kq v0 w'=>∃ (x0_2:ByteArray),v0 = .string x0_2∧Aside0 (stowageref3_Trim.l1 kq x0_2=some r)∧Aside0 (kq≤kj1)∧Drawn0 w w')
   case atStart=>exact⟨(x0_1),rs,H',⟨Nat.le_refl _⟩,by repeat (first|exact Drawn0.refl _|apply Drawn0.step)⟩
   case round=>
    clear H'
    obtain⟨x0_2,rfl,HA,HK2,⟨m2,rfl⟩⟩:=hrel
    cases gk with
    | zero=>exact absurd HA.out (by simp [stowageref3_Trim.l1])
    | succ k2=>
     have H:=HA.out
     clear HA
     simp only [stowageref3_Trim.l1] at H
     replace H:=itO H
     rcases H with⟨c11,H⟩|⟨c11,H⟩
     {
     have c11b0:decide (0<(x0_2.size:Int))=true:=decide_eq_true c11
     have c11b1:decide (0<x0_2.size)=true:=decide_eq_true (by omega)
     clear c11
     obtain⟨ji12,hji12⟩ : ∃ j_:Int,(wrap64 ((x0_2.size:Int)-1))=j_:=⟨_,rfl⟩
     first|rw [hji12] at H|simp only [hji12] at H
     have hji12w:(IntKind.i64.wrap ((x0_2.size:Int)-1))=ji12:=(i64_w _).trans hji12
     replace H:=itO H
     rcases H with⟨c13,H⟩|⟨c13,H⟩
     {
     have c13b0:decide (0≤(ji12))=true:=decide_eq_true c13
     clear c13
     replace H:=itO H
     rcases H with⟨c14,H⟩|⟨c14,H⟩
     {
     have c14b0:decide ((ji12)<(x0_2.size:Int))=true:=decide_eq_true c14
     clear c14
     replace H:=itO H
     rcases H with⟨c16,H⟩|⟨c16,H⟩
     {
     have c16b0:((bt x0_2 (ji12)) == 32)=true:=beq_iff_eq.mpr c16
     have c16b1:((bt x0_2 (ji12)) != 32)=false:=bne_eq_false_iff_eq.mpr c16
     clear c16
     have c17b0:=eq_true (of_decide_eq_true asm:0≤(ji12))
     replace H:=itO H
     rcases H with⟨c18,H⟩|⟨c18,H⟩
     {
     have c18b0:=eq_true c18
     have c18b1:=decide_eq_true c18
     clear c18
     have H':=Aside0.mk H
     clear H
     have p15:0≤((ji12):Int):=of_decide_eq_true asm
     have q15:(ji12)<(x0_2.size:Int):=of_decide_eq_true asm
     have hx15:=bt_at x0_2 (ji12)
     replace p15:=eq_true p15
     replace q15:=eq_true q15
     go_wp2
     go_roundg k2
     case measure=>have:=HJ1.out;have:=HK2.out;omega
     case rel=>exact⟨(x0_2.extract 0 ((ji12):Int).toNat),(by first|rfl|(simp;done)|(simp only [← hji12] <;> (first|rfl|simp))|(simp [*];done)),H',⟨by have:=HJ1.out;have:=HK2.out;omega⟩,by repeat (first|exact Drawn0.refl _|apply Drawn0.step)⟩
     }
     ·exact absurd H (by simp)
     }
     {
     have c16b0:((bt x0_2 (ji12)) == 32)=false:=beq_eq_false_iff_ne.mpr c16
     have c16b1:((bt x0_2 (ji12)) != 32)=true:=bne_iff_ne.mpr c16
     replace H:=itO H
     rcases H with⟨c20,H⟩|⟨c20,H⟩
     {
     have c20b0:((bt x0_2 (ji12)) == 9)=true:=beq_iff_eq.mpr c20
     have c20b1:((bt x0_2 (ji12)) != 9)=false:=bne_eq_false_iff_eq.mpr c20
     clear c20
     have c21b0:=eq_true (of_decide_eq_true asm:0≤(ji12))
     replace H:=itO H
     rcases H with⟨c22,H⟩|⟨c22,H⟩
     {
     have c22b0:=eq_true c22
     have c22b1:=decide_eq_true c22
     clear c22
     have H':=Aside0.mk H
     clear H
     have p15:0≤((ji12):Int):=of_decide_eq_true asm
     have q15:(ji12)<(x0_2.size:Int):=of_decide_eq_true asm
     have hx15:=bt_at x0_2 (ji12)
     replace p15:=eq_true p15
     replace q15:=eq_true q15
     have p19:0≤((ji12):Int):=of_decide_eq_true asm
     have q19:(ji12)<(x0_2.size:Int):=of_decide_eq_true asm
     have hx19:=bt_at x0_2 (ji12)
     replace p19:=eq_true p19
     replace q19:=eq_true q19
     go_wp2
     go_roundg k2
     case measure=>have:=HJ1.out;have:=HK2.out;omega
     case rel=>exact⟨(x0_2.extract 0 ((ji12):Int).toNat),(by first|rfl|(simp;done)|(simp only [← hji12] <;> (first|rfl|simp))|(simp [*];done)),H',⟨by have:=HJ1.out;have:=HK2.out;omega⟩,by repeat (first|exact Drawn0.refl _|apply Drawn0.step)⟩
     }
     ·exact absurd H (by simp)
     }
     {
     have c20b0:((bt x0_2 (ji12)) == 9)=false:=beq_eq_false_iff_ne.mpr c20
     have c20b1:((bt x0_2 (ji12)) != 9)=true:=bne_iff_ne.mpr c20
     obtain rfl:=Option.some.inj H
     have p15:0≤((ji12):Int):=of_decide_eq_true asm
     have q15:(ji12)<(x0_2.size:Int):=of_decide_eq_true asm
     have hx15:=bt_at x0_2 (ji12)
     replace p15:=eq_true p15
     replace q15:=eq_true q15
     have p19:0≤((ji12):Int):=of_decide_eq_true asm
     have q19:(ji12)<(x0_2.size:Int):=of_decide_eq_true asm
     have hx19:=bt_at x0_2 (ji12)
     replace p19:=eq_true p19
     replace q19:=eq_true q19
     go_wp2
     go_ret
     exact⟨by first|rfl|(simp;done)|(simp only [← hji12] <;> (first|rfl|simp))|(simp [*];done),by repeat (first|exact Drawn0.refl _|apply Drawn0.step)⟩
     }
     }
     }
     ·exact absurd H (by simp)
     }
     ·exact absurd H (by simp)
     }
     {
     have c11b0:decide (0<(x0_2.size:Int))=false:=decide_eq_false c11
     have c11b1:decide (0<x0_2.size)=false:=decide_eq_false (by omega)
     clear c11
     obtain rfl:=Option.some.inj H
     go_wp2
     go_ret
     exact⟨rs,dr⟩
     }
def stowageref17_fit.f (k:Nat) (a0:ByteArray):Option (Bool):=(stowageref3_Value.f k a0).bind fun t171=>(if t171=true then((stowageref3_Trim.f k a0).bind fun t172=>(some (t172.toList == a0.toList))) else(some false))
theorem stowageref17_fit.mono:∀ a0 k,LeO (stowageref17_fit.f k a0) (stowageref17_fit.f (k+1) a0):=by
 intro a0 k
 unfold stowageref17_fit.f
 with_reducible repeat' first|exact stowageref3_Trim.mono _ _|exact stowageref3_Value.mono _ _|exact LeO.refl _|exact LeO.none _|refine LeO.ite ?_ ?_|refine LeO.bind ?_ (fun _=>?_)
theorem stowageref17_fit.calls (k:Nat) (a0:ByteArray) (r:Bool) (w:World) (h:stowageref17_fit.f k a0=some r) :
    Calls Tryd.prog 43 #[.string a0] w fun e w'=>e = .returned (.bool r)∧Drawn0 w w':=by
 unfold stowageref17_fit.f at h
 have H:=h
 clear h
 replace H:=bndO H
 obtain⟨t171,A20,H⟩:=H
 have A2:=Aside0.mk A20
 clear A20
 by_cases c3:t171=true
 {
 subst c3
 replace H:=itT H
 replace H:=bndO H
 obtain⟨t172,A40,H⟩:=H
 have A4:=Aside0.mk A40
 clear A40
 obtain rfl:=Option.some.inj H
 go_enter Tryd.func43,Tryd.ntmps43
 go_wp2_with (first|((with_reducible refine gate_callee (f:=67) rfl ?_);refine goesL_ (some 4) rfl rfl Tryd.func67 kr rfl #[.string a0] rfl am ?_;(with_reducible refine(stowageref3_Value.calls k a0 true _ A2.out).mono ?_);rintro e w' ⟨rfl,⟨nd,rfl⟩⟩;refine⟨_,rfl,?_⟩)|(go_at_call 68;(with_reducible refine(stowageref3_Trim.calls k a0 t172 _ A4.out).mono ?_);rintro e w' ⟨rfl,⟨nd,rfl⟩⟩))
 go_ret
 exact⟨rs,dr⟩
 }
 {
 replace c3:=Bool.eq_false_iff.mpr c3
 subst c3
 replace H:=itF H
 obtain rfl:=Option.some.inj H
 go_enter Tryd.func43,Tryd.ntmps43
 go_wp2_with (first|((with_reducible refine gate_callee (f:=67) rfl ?_);refine goesL_ (some 4) rfl rfl Tryd.func67 kr rfl #[.string a0] rfl am ?_;(with_reducible refine(stowageref3_Value.calls k a0 false _ A2.out).mono ?_);rintro e w' ⟨rfl,⟨nd,rfl⟩⟩;refine⟨_,rfl,?_⟩))
 go_ret
 exact⟨rs,dr⟩
 }
def stowageref17_Reader_begun.j0:Nat→Int→ByteArray→ByteArray→Bool→ByteArray→Int→Bool→Option (Int×ByteArray×Int×Bool)
  | 0,_,_,_,_,_,_,_=>none
  | k+1,x3,x5,x6,x39,x1000,x1001,x1002=>if x39=true then(some (0,x1000,x1001,x1002)) else(if 6≤(x5.size:Int) then((stowageref4_ParseHttp.f k (x5.extract 6 x5.size)).bind fun bt192=>(if bt192.2=true then(if 18≤(x6.size:Int) then((stowageref17_fit.f k (x6.extract 18 x6.size)).bind fun t194=>(if t194=true then(some (x3,x1000,x1001,x1002)) else(some (0,x1000,x1001,x1002)))) else(none)) else(some (0,x1000,x1001,x1002)))) else(none))
def stowageref17_Reader_begun.f (k:Nat) (s0_0:ByteArray) (s0_1:Int) (s0_2:Bool):Option (Int×ByteArray×Int×Bool):=(stowageref17_Reader_line.f k s0_0 s0_1 s0_2).bind fun bt173=>((stowageref17_status.f k bt173.1).bind fun t177=>((stowageref17_Reader_line.f k bt173.2.1 bt173.2.2.1 bt173.2.2.2).bind fun bt178=>((stowageref17_Reader_line.f k bt178.2.1 bt178.2.2.1 bt178.2.2.2).bind fun bt182=>((stowageref17_Reader_line.f k bt182.2.1 bt182.2.2.1 bt182.2.2.2).bind fun bt186=>(if bt186.2.2.2=true then(stowageref17_Reader_begun.j0 k t177 bt182.1 bt186.1 true bt186.2.1 bt186.2.2.1 bt186.2.2.2) else(if t177=0 then(stowageref17_Reader_begun.j0 k t177 bt182.1 bt186.1 true bt186.2.1 bt186.2.2.1 bt186.2.2.2) else(if bt178.1.toList=([83,101,114,118,101,114,58,32,115,116,111,119,97,103,101]:List UInt8) then((stowageref3_Begins.f bt182.1 (⟨#[68,97,116,101,58,32]⟩ : ByteArray)).bind fun t190=>(if t190=true then((stowageref3_Begins.f bt186.1 (⟨#[120,45,97,109,122,45,114,101,113,117,101,115,116,45,105,100,58,32]⟩ : ByteArray)).bind fun t191=>(stowageref17_Reader_begun.j0 k t177 bt182.1 bt186.1 (!t191) bt186.2.1 bt186.2.2.1 bt186.2.2.2)) else(stowageref17_Reader_begun.j0 k t177 bt182.1 bt186.1 true bt186.2.1 bt186.2.2.1 bt186.2.2.2))) else(stowageref17_Reader_begun.j0 k t177 bt182.1 bt186.1 true bt186.2.1 bt186.2.2.1 bt186.2.2.2))))))))
theorem stowageref17_Reader_begun.mono_l:∀ k,(∀ y0 y1 y2 y3 y4 y5 y6,LeO (stowageref17_Reader_begun.j0 k y0 y1 y2 y3 y4 y5 y6) (stowageref17_Reader_begun.j0 (k+1) y0 y1 y2 y3 y4 y5 y6))
  | 0=>fun _ _ _ _ _ _ _ r h=>by simp [stowageref17_Reader_begun.j0] at h
  | k+1=>by
    have ih0:=stowageref17_Reader_begun.mono_l k
    · intro y0 y1 y2 y3 y4 y5 y6
      unfold stowageref17_Reader_begun.j0
      with_reducible repeat' first|exact ih0 _ _ _ _ _ _ _|exact stowageref17_Reader_line.mono _ _ _ _|exact stowageref17_fit.mono _ _|exact stowageref17_status.mono _ _|exact stowageref4_ParseHttp.mono _ _|exact LeO.refl _|exact LeO.none _|refine LeO.ite ?_ ?_|refine LeO.bind ?_ (fun _=>?_)
theorem stowageref17_Reader_begun.mono:∀ a0 a1 a2 k,LeO (stowageref17_Reader_begun.f k a0 a1 a2) (stowageref17_Reader_begun.f (k+1) a0 a1 a2):=by
 intro a0 a1 a2 k
 have ih0:=stowageref17_Reader_begun.mono_l k
 unfold stowageref17_Reader_begun.f
 with_reducible repeat' first|exact ih0 _ _ _ _ _ _ _|exact stowageref17_Reader_line.mono _ _ _ _|exact stowageref17_fit.mono _ _|exact stowageref17_status.mono _ _|exact stowageref4_ParseHttp.mono _ _|exact LeO.refl _|exact LeO.none _|refine LeO.ite ?_ ?_|refine LeO.bind ?_ (fun _=>?_)
theorem stowageref17_Reader_begun.calls (k:Nat) (g:Nat) (s0_0:ByteArray) (s0_1:Int) (s0_2:Bool) (r1:Int) (r2:ByteArray) (r3:Int) (r4:Bool) (w0 w:World) (hI:IsS55 w0 w g s0_0 s0_1 s0_2) (hB:Below w0.heap.size w0 w) (h:stowageref17_Reader_begun.f k s0_0 s0_1 s0_2=some (r1,r2,r3,r4)) :
    Calls Tryd.prog 23 #[.pointer (some ⟨g,0,none⟩)] w fun e w'=>e = .returned (.int .i64 r1)∧IsS55 w0 w' g r2 r3 r4∧Below w0.heap.size w0 w'∧KeepBut w w' g none:=by
 have HI0:=Aside0.mk hI
 have HK:=Aside0.mk (KeepBut.refl w g none)
 have HL:=Aside0.mk hB.size
 clear hI
 have HW0:=Aside0.mk hB.size
 have HB:=Aside0.mk hB
 clear hB
 unfold stowageref17_Reader_begun.f at h
 have H:=h
 clear h
 replace H:=bndO H
 obtain⟨⟨t173,t174,t175,t176⟩,A20,H⟩:=H
 dsimp only at H
 have A2:=Aside0.mk A20
 clear A20
 replace H:=bndO H
 obtain⟨t177,A30,H⟩:=H
 have A3:=Aside0.mk A30
 clear A30
 replace H:=bndO H
 obtain⟨⟨t178,t179,t180,t181⟩,A40,H⟩:=H
 dsimp only at H
 have A4:=Aside0.mk A40
 clear A40
 replace H:=bndO H
 obtain⟨⟨t182,t183,t184,t185⟩,A50,H⟩:=H
 dsimp only at H
 have A5:=Aside0.mk A50
 clear A50
 replace H:=bndO H
 obtain⟨⟨t186,t187,t188,t189⟩,A60,H⟩:=H
 dsimp only at H
 have A6:=Aside0.mk A60
 clear A60
 have HC7:=Aside0.mk H
 clear H
 go_enter Tryd.func23,Tryd.ntmps23
 go_upto_region 5 with(first|((with_reducible refine gate_callee (f:=24) rfl ?_);refine goesL_ (some 10) rfl rfl Tryd.func24 kr rfl #[.pointer (some ⟨g,0,none⟩)] rfl am ?_;(with_reducible refine(stowageref17_Reader_line.calls k g s0_0 s0_1 s0_2 t173 t174 t175 t176 w0 _ ?side1 ?side2 A2.out).mono ?_);(case side1=>repeat (first|(with_reducible first|exact HI0.out|apply IsS55.alloc|apply IsS55.drewN|apply IsS55.drew|apply IsS55.set_0|apply IsS55.set_1|apply IsS55.set_2)|exact HI0.out));(case side2=>repeat (first|(with_reducible first|exact HB.out|apply below_alloc|apply pw_below_drewN|apply below_drew1|refine below_set ?_ (IsS55.ge HI0.out))|exact HB.out));rintro e w8 ⟨rfl,hi,hb,hk⟩;refine⟨_,rfl,?_⟩;replace HK:=Aside0.mk (KeepBut.trans kk hk (.inl rfl));replace HI0:=Aside0.mk (hi);replace HB:=Aside0.mk (hb))|((with_reducible refine gate_callee (f:=40) rfl ?_);refine goesL_ (some 11) rfl rfl Tryd.func40 kr rfl #[.string t173] rfl am ?_;(with_reducible refine(stowageref17_status.calls k t173 t177 _ A3.out).mono ?_);rintro e w9 ⟨rfl,hb⟩;refine⟨_,rfl,?_⟩;replace HI0:=Aside0.mk (IsS55.below isl55 hb);replace HK:=Aside0.mk (KeepBut.trans kk (KeepBut.of_below hb g none) (.inl rfl));replace HB:=Aside0.mk (below_step bl hb))|((with_reducible refine gate_callee (f:=24) rfl ?_);refine goesL_ (some 13) rfl rfl Tryd.func24 kr rfl #[.pointer (some ⟨g,0,none⟩)] rfl am ?_;(with_reducible refine(stowageref17_Reader_line.calls k g t174 t175 t176 t178 t179 t180 t181 w0 _ ?side1 ?side2 A4.out).mono ?_);(case side1=>repeat (first|(with_reducible first|exact HI0.out|apply IsS55.alloc|apply IsS55.drewN|apply IsS55.drew|apply IsS55.set_0|apply IsS55.set_1|apply IsS55.set_2)|exact HI0.out));(case side2=>repeat (first|(with_reducible first|exact HB.out|apply below_alloc|apply pw_below_drewN|apply below_drew1|refine below_set ?_ (IsS55.ge HI0.out))|exact HB.out));rintro e w10 ⟨rfl,hi,hb,hk⟩;refine⟨_,rfl,?_⟩;replace HK:=Aside0.mk (KeepBut.trans kk hk (.inl rfl));replace HI0:=Aside0.mk (hi);replace HB:=Aside0.mk (hb))|((with_reducible refine gate_callee (f:=24) rfl ?_);refine goesL_ (some 15) rfl rfl Tryd.func24 kr rfl #[.pointer (some ⟨g,0,none⟩)] rfl am ?_;(with_reducible refine(stowageref17_Reader_line.calls k g t179 t180 t181 t182 t183 t184 t185 w0 _ ?side1 ?side2 A5.out).mono ?_);(case side1=>repeat (first|(with_reducible first|exact HI0.out|apply IsS55.alloc|apply IsS55.drewN|apply IsS55.drew|apply IsS55.set_0|apply IsS55.set_1|apply IsS55.set_2)|exact HI0.out));(case side2=>repeat (first|(with_reducible first|exact HB.out|apply below_alloc|apply pw_below_drewN|apply below_drew1|refine below_set ?_ (IsS55.ge HI0.out))|exact HB.out));rintro e w11 ⟨rfl,hi,hb,hk⟩;refine⟨_,rfl,?_⟩;replace HK:=Aside0.mk (KeepBut.trans kk hk (.inl rfl));replace HI0:=Aside0.mk (hi);replace HB:=Aside0.mk (hb))|((with_reducible refine gate_callee (f:=24) rfl ?_);refine goesL_ (some 17) rfl rfl Tryd.func24 kr rfl #[.pointer (some ⟨g,0,none⟩)] rfl am ?_;(with_reducible refine(stowageref17_Reader_line.calls k g t183 t184 t185 t186 t187 t188 t189 w0 _ ?side1 ?side2 A6.out).mono ?_);(case side1=>repeat (first|(with_reducible first|exact HI0.out|apply IsS55.alloc|apply IsS55.drewN|apply IsS55.drew|apply IsS55.set_0|apply IsS55.set_1|apply IsS55.set_2)|exact HI0.out));(case side2=>repeat (first|(with_reducible first|exact HB.out|apply below_alloc|apply pw_below_drewN|apply below_drew1|refine below_set ?_ (IsS55.ge HI0.out))|exact HB.out));rintro e w12 ⟨rfl,hi,hb,hk⟩;refine⟨_,rfl,?_⟩;replace HK:=Aside0.mk (KeepBut.trans kk hk (.inl rfl));replace HI0:=Aside0.mk (hi);replace HB:=Aside0.mk (hb)))
 (try simp only [Act.put,l1,l2,l3])
 go_cut [39] (fun v39 wc=>∃ (kq:Nat) (x39_6:Bool),v39 = .bool x39_6∧Aside0 (stowageref17_Reader_begun.j0 kq t177 t182 t186 x39_6 t187 t188 t189=some (r1,r2,r3,r4))∧Aside0 (kq≤k)∧Aside0 (IsS55 w0 wc g t187 t188 t189)∧Aside0 (KeepBut w wc g none)∧Aside0 (Below w0.heap.size w0 wc))
 case first=>
  have H:=HC7.out
  clear HC7
  by_cases c13:t189=true
  {
  subst c13
  replace H:=itT H
  have H':=Aside0.mk H
  clear H
  obtain⟨HGz14,hgz14⟩:=HI0.out
  have hcz14_0:=cellS55_0 HGz14
  have hcz14_1:=cellS55_1 HGz14
  have hcz14_2:=cellS55_2 HGz14
  have hfz14_0:=blk_frozen HGz14 0
  have hfz14_1:=blk_frozen HGz14 1
  have hfz14_2:=blk_frozen HGz14 2
  clear HGz14 hgz14
  go_wp2
  go_meet
  case rel=>exact⟨_,(true),rs,H',⟨by first|omega|exact Nat.le_refl _⟩,⟨isl55⟩,⟨kk⟩,⟨bl⟩⟩
  }
  {
  replace c13:=Bool.eq_false_iff.mpr c13
  subst c13
  replace H:=itF H
  replace H:=itO H
  rcases H with⟨c15,H⟩|⟨c15,H⟩
  {
  have c15b0:(t177 == 0)=true:=beq_iff_eq.mpr c15
  clear c15
  (first|rw [c15b0]|(simp only [i64_w,i32_w];rw [c15b0])|skip)
  have H':=Aside0.mk H
  clear H
  obtain⟨HGz16,hgz16⟩:=HI0.out
  have hcz16_0:=cellS55_0 HGz16
  have hcz16_1:=cellS55_1 HGz16
  have hcz16_2:=cellS55_2 HGz16
  have hfz16_0:=blk_frozen HGz16 0
  have hfz16_1:=blk_frozen HGz16 1
  have hfz16_2:=blk_frozen HGz16 2
  clear HGz16 hgz16
  go_wp2
  go_meet
  case rel=>exact⟨_,(true),rs,H',⟨by first|omega|exact Nat.le_refl _⟩,⟨isl55⟩,⟨kk⟩,⟨bl⟩⟩
  }
  {
  have c15b0:(t177 == 0)=false:=beq_eq_false_iff_ne.mpr c15
  (first|rw [c15b0]|(simp only [i64_w,i32_w];rw [c15b0])|skip)
  replace H:=itO H
  rcases H with⟨c17,H⟩|⟨c17,H⟩
  {
  have c17b0:(t178.toList == ([83,101,114,118,101,114,58,32,115,116,111,119,97,103,101]:List UInt8))=true:=beq_iff_eq.mpr c17
  clear c17
  replace H:=bndO H
  obtain⟨t190,A180,H⟩:=H
  have A18:=Aside0.mk A180
  clear A180
  by_cases c19:t190=true
  {
  subst c19
  replace H:=itT H
  replace H:=bndO H
  obtain⟨t191,A200,H⟩:=H
  have A20:=Aside0.mk A200
  clear A200
  have H':=Aside0.mk H
  clear H
  obtain⟨HGz21,hgz21⟩:=HI0.out
  have hcz21_0:=cellS55_0 HGz21
  have hcz21_1:=cellS55_1 HGz21
  have hcz21_2:=cellS55_2 HGz21
  have hfz21_0:=blk_frozen HGz21 0
  have hfz21_1:=blk_frozen HGz21 1
  have hfz21_2:=blk_frozen HGz21 2
  clear HGz21 hgz21
  go_wp2_with (first|(go_at_call 41;(with_reducible refine(stowageref3_Begins.calls t182 (⟨#[68,97,116,101,58,32]⟩ : ByteArray) true _ A18.out).mono ?_);rintro e w' ⟨rfl,⟨nd,rfl⟩⟩)|(go_at_call 41;(with_reducible refine(stowageref3_Begins.calls t186 (⟨#[120,45,97,109,122,45,114,101,113,117,101,115,116,45,105,100,58,32]⟩ : ByteArray) t191 _ A20.out).mono ?_);rintro e w' ⟨rfl,⟨nd,rfl⟩⟩))
  go_meet
  case rel=>exact⟨_,(!t191),rs,H',⟨by first|omega|exact Nat.le_refl _⟩,⟨isl55⟩,⟨kk⟩,⟨bl⟩⟩
  }
  {
  replace c19:=Bool.eq_false_iff.mpr c19
  subst c19
  replace H:=itF H
  have H':=Aside0.mk H
  clear H
  obtain⟨HGz22,hgz22⟩:=HI0.out
  have hcz22_0:=cellS55_0 HGz22
  have hcz22_1:=cellS55_1 HGz22
  have hcz22_2:=cellS55_2 HGz22
  have hfz22_0:=blk_frozen HGz22 0
  have hfz22_1:=blk_frozen HGz22 1
  have hfz22_2:=blk_frozen HGz22 2
  clear HGz22 hgz22
  go_wp2_with (first|(go_at_call 41;(with_reducible refine(stowageref3_Begins.calls t182 (⟨#[68,97,116,101,58,32]⟩ : ByteArray) false _ A18.out).mono ?_);rintro e w' ⟨rfl,⟨nd,rfl⟩⟩))
  go_meet
  case rel=>exact⟨_,(true),rs,H',⟨by first|omega|exact Nat.le_refl _⟩,⟨isl55⟩,⟨kk⟩,⟨bl⟩⟩
  }
  }
  {
  have c17b0:(t178.toList == ([83,101,114,118,101,114,58,32,115,116,111,119,97,103,101]:List UInt8))=false:=beq_eq_false_iff_ne.mpr c17
  have H':=Aside0.mk H
  clear H
  obtain⟨HGz23,hgz23⟩:=HI0.out
  have hcz23_0:=cellS55_0 HGz23
  have hcz23_1:=cellS55_1 HGz23
  have hcz23_2:=cellS55_2 HGz23
  have hfz23_0:=blk_frozen HGz23 0
  have hfz23_1:=blk_frozen HGz23 1
  have hfz23_2:=blk_frozen HGz23 2
  clear HGz23 hgz23
  go_wp2
  go_meet
  case rel=>exact⟨_,(true),rs,H',⟨by first|omega|exact Nat.le_refl _⟩,⟨isl55⟩,⟨kk⟩,⟨bl⟩⟩
  }
  }
  }
 case rest=>
  clear HC7
  obtain⟨kq,x39_6,rfl,HA,HJ6,HI0,HK,HB⟩:=hcut
  cases kq with
  | zero=>exact absurd HA.out (by simp [stowageref17_Reader_begun.j0])
  | succ kj6=>
   have H:=HA.out
   clear HA
   simp only [stowageref17_Reader_begun.j0] at H
   by_cases c24:x39_6=true
   {
   subst c24
   replace H:=itT H
   simp only [Option.some.injEq,Prod.mk.injEq] at H
   obtain⟨rfl,rfl,rfl,rfl⟩:=H
   go_wp2
   go_ret
   exact⟨ew,isl55,bl,kk⟩
   }
   {
   replace c24:=Bool.eq_false_iff.mpr c24
   subst c24
   replace H:=itF H
   replace H:=itO H
   rcases H with⟨c25,H⟩|⟨c25,H⟩
   {
   have c25b0:=eq_true c25
   clear c25
   replace H:=bndO H
   obtain⟨⟨t192,t193⟩,A260,H⟩:=H
   dsimp only at H
   have A26:=Aside0.mk A260
   clear A260
   by_cases c27:t193=true
   {
   subst c27
   replace H:=itT H
   replace H:=itO H
   rcases H with⟨c28,H⟩|⟨c28,H⟩
   {
   have c28b0:=eq_true c28
   clear c28
   replace H:=bndO H
   obtain⟨t194,A290,H⟩:=H
   have A29:=Aside0.mk A290
   clear A290
   by_cases c30:t194=true
   {
   subst c30
   replace H:=itT H
   simp only [Option.some.injEq,Prod.mk.injEq] at H
   obtain⟨rfl,rfl,rfl,rfl⟩:=H
   go_wp2_with (first|((with_reducible refine gate_callee (f:=42) rfl ?_);refine goesL_ (some 43) rfl rfl Tryd.func42 kr rfl #[.string (t182.extract 6 t182.size)] rfl am ?_;(with_reducible refine(stowageref4_ParseHttp.calls kj6 (t182.extract 6 t182.size) t192 true _ A26.out).mono ?_);rintro e w31 ⟨rfl,hb⟩;refine⟨_,rfl,?_⟩;replace HI0:=Aside0.mk (IsS55.below isl55 hb);replace HK:=Aside0.mk (KeepBut.trans kk (KeepBut.of_below hb g none) (.inl rfl));replace HB:=Aside0.mk (below_step bl hb))|(go_at_call 43;(with_reducible refine(stowageref17_fit.calls kj6 (t186.extract 18 t186.size) true _ A29.out).mono ?_);rintro e w' ⟨rfl,⟨nd,rfl⟩⟩))
   go_ret
   exact⟨ew,isl55,bl,kk⟩
   }
   {
   replace c30:=Bool.eq_false_iff.mpr c30
   subst c30
   replace H:=itF H
   simp only [Option.some.injEq,Prod.mk.injEq] at H
   obtain⟨rfl,rfl,rfl,rfl⟩:=H
   go_wp2_with (first|((with_reducible refine gate_callee (f:=42) rfl ?_);refine goesL_ (some 43) rfl rfl Tryd.func42 kr rfl #[.string (t182.extract 6 t182.size)] rfl am ?_;(with_reducible refine(stowageref4_ParseHttp.calls kj6 (t182.extract 6 t182.size) t192 true _ A26.out).mono ?_);rintro e w32 ⟨rfl,hb⟩;refine⟨_,rfl,?_⟩;replace HI0:=Aside0.mk (IsS55.below isl55 hb);replace HK:=Aside0.mk (KeepBut.trans kk (KeepBut.of_below hb g none) (.inl rfl));replace HB:=Aside0.mk (below_step bl hb))|(go_at_call 43;(with_reducible refine(stowageref17_fit.calls kj6 (t186.extract 18 t186.size) false _ A29.out).mono ?_);rintro e w' ⟨rfl,⟨nd,rfl⟩⟩))
   go_ret
   exact⟨ew,isl55,bl,kk⟩
   }
   }
   ·exact absurd H (by simp)
   }
   {
   replace c27:=Bool.eq_false_iff.mpr c27
   subst c27
   replace H:=itF H
   simp only [Option.some.injEq,Prod.mk.injEq] at H
   obtain⟨rfl,rfl,rfl,rfl⟩:=H
   go_wp2_with (first|((with_reducible refine gate_callee (f:=42) rfl ?_);refine goesL_ (some 43) rfl rfl Tryd.func42 kr rfl #[.string (t182.extract 6 t182.size)] rfl am ?_;(with_reducible refine(stowageref4_ParseHttp.calls kj6 (t182.extract 6 t182.size) t192 false _ A26.out).mono ?_);rintro e w33 ⟨rfl,hb⟩;refine⟨_,rfl,?_⟩;replace HI0:=Aside0.mk (IsS55.below isl55 hb);replace HK:=Aside0.mk (KeepBut.trans kk (KeepBut.of_below hb g none) (.inl rfl));replace HB:=Aside0.mk (below_step bl hb)))
   go_ret
   exact⟨ew,isl55,bl,kk⟩
   }
   }
   ·exact absurd H (by simp)
   }
def stowageref3_Cut.l0:Nat→ByteArray→Int→Int→Option (ByteArray×ByteArray×Bool)
  | 0,_,_,_=>none
  | k+1,x0,x1,x7=>if x7<(x0.size:Int) then(if 0≤x7 then(if(bt x0 x7)=x1 then(if x7≤(x0.size:Int) then(if 0≤(wrap64 (x7+1)) then(if(wrap64 (x7+1))≤(x0.size:Int) then(some (x0.extract 0 (x7:Int).toNat,x0.extract ((wrap64 (x7+1)):Int).toNat x0.size,true)) else(none)) else(none)) else(none)) else(stowageref3_Cut.l0 k x0 x1 (wrap64 (x7+1)))) else(none)) else(some (x0,(⟨#[]⟩ : ByteArray),false))
def stowageref3_Cut.f (k:Nat) (a0:ByteArray) (a1:Int):Option (ByteArray×ByteArray×Bool):=stowageref3_Cut.l0 k a0 a1 0
theorem stowageref3_Cut.mono_l:∀ k,(∀ y0 y1 y2,LeO (stowageref3_Cut.l0 k y0 y1 y2) (stowageref3_Cut.l0 (k+1) y0 y1 y2))
  | 0=>fun _ _ _ r h=>by simp [stowageref3_Cut.l0] at h
  | k+1=>by
    have ih0:=stowageref3_Cut.mono_l k
    · intro y0 y1 y2
      unfold stowageref3_Cut.l0
      with_reducible repeat' first|exact ih0 _ _ _|exact LeO.refl _|exact LeO.none _|refine LeO.ite ?_ ?_|refine LeO.bind ?_ (fun _=>?_)
theorem stowageref3_Cut.mono:∀ a0 a1 k,LeO (stowageref3_Cut.f k a0 a1) (stowageref3_Cut.f (k+1) a0 a1):=by
 intro a0 a1 k
 have ih0:=stowageref3_Cut.mono_l k
 unfold stowageref3_Cut.f
 with_reducible repeat' first|exact ih0 _ _ _|exact LeO.refl _|exact LeO.none _|refine LeO.ite ?_ ?_|refine LeO.bind ?_ (fun _=>?_)
theorem stowageref3_Cut.calls (k:Nat) (a0:ByteArray) (a1:Int) (r1:ByteArray) (r2:ByteArray) (r3:Bool) (w:World) (h:stowageref3_Cut.f k a0 a1=some (r1,r2,r3)) :
    Calls Tryd.prog 44 #[.string a0,.int .u8 a1] w fun e w'=>e = .returned (.tuple #[.string r1,.string r2,.bool r3])∧Drawn0 w w':=by
 unfold stowageref3_Cut.f at h
 have H:=h
 clear h
 have H':=Aside0.mk H
 clear H
 go_enter Tryd.func44,Tryd.ntmps44
 go_wp2
 repeat (go_quiet (fail);try go_wp2)
 go_loopg [7] k (fun kq v7 w'=>∃ (x7_1:Int),v7 = .int .i64 x7_1∧Aside0 (stowageref3_Cut.l0 kq a0 a1 x7_1=some (r1,r2,r3))∧Aside0 (kq≤k)∧Drawn0 w w')
 case atStart=>exact⟨(0),rs,H',⟨Nat.le_refl _⟩,by repeat (first|exact Drawn0.refl _|apply Drawn0.step)⟩
 case round=>
  clear H'
  obtain⟨x7_1,rfl,HA,HK1,⟨m1,rfl⟩⟩:=hrel
  cases gk with
  | zero=>exact absurd HA.out (by simp [stowageref3_Cut.l0])
  | succ k1=>
   have H:=HA.out
   clear HA
   simp only [stowageref3_Cut.l0] at H
   replace H:=itO H
   rcases H with⟨c3,H⟩|⟨c3,H⟩
   {
   have c3b0:decide (x7_1<(a0.size:Int))=true:=decide_eq_true c3
   clear c3
   replace H:=itO H
   rcases H with⟨c4,H⟩|⟨c4,H⟩
   {
   have c4b0:decide (0≤x7_1)=true:=decide_eq_true c4
   clear c4
   replace H:=itO H
   rcases H with⟨c6,H⟩|⟨c6,H⟩
   {
   have c6b0:((bt a0 x7_1) == a1)=true:=beq_iff_eq.mpr c6
   have c6b1:((bt a0 x7_1) != a1)=false:=bne_eq_false_iff_eq.mpr c6
   clear c6
   have c7b0:=eq_true (of_decide_eq_true asm:0≤x7_1)
   replace H:=itO H
   rcases H with⟨c8,H⟩|⟨c8,H⟩
   {
   have c8b0:=eq_true c8
   have c8b1:=decide_eq_true c8
   clear c8
   obtain⟨ji9,hji9⟩ : ∃ j_:Int,(wrap64 (x7_1+1))=j_:=⟨_,rfl⟩
   first|rw [hji9] at H|simp only [hji9] at H
   have hji9w:(IntKind.i64.wrap (x7_1+1))=ji9:=(i64_w _).trans hji9
   replace H:=itO H
   rcases H with⟨c10,H⟩|⟨c10,H⟩
   {
   have c10b0:=eq_true c10
   have c10b1:=decide_eq_true c10
   clear c10
   replace H:=itO H
   rcases H with⟨c11,H⟩|⟨c11,H⟩
   {
   have c11b0:=eq_true c11
   have c11b1:=decide_eq_true c11
   clear c11
   simp only [Option.some.injEq,Prod.mk.injEq] at H
   obtain⟨rfl,rfl,rfl⟩:=H
   have p5:0≤(x7_1:Int):=of_decide_eq_true asm
   have q5:x7_1<(a0.size:Int):=of_decide_eq_true asm
   have hx5:=bt_at a0 x7_1
   replace p5:=eq_true p5
   replace q5:=eq_true q5
   go_wp2
   repeat (go_quiet (fail);try go_wp2)
   go_ret3
   exact⟨by first|rfl|(simp;done)|(simp only [← hji9] <;> (first|rfl|simp))|(simp [*];done),by repeat (first|exact Drawn0.refl _|apply Drawn0.step)⟩
   }
   ·exact absurd H (by simp)
   }
   ·exact absurd H (by simp)
   }
   ·exact absurd H (by simp)
   }
   {
   have c6b0:((bt a0 x7_1) == a1)=false:=beq_eq_false_iff_ne.mpr c6
   have c6b1:((bt a0 x7_1) != a1)=true:=bne_iff_ne.mpr c6
   have H':=Aside0.mk H
   clear H
   have p5:0≤(x7_1:Int):=of_decide_eq_true asm
   have q5:x7_1<(a0.size:Int):=of_decide_eq_true asm
   have hx5:=bt_at a0 x7_1
   replace p5:=eq_true p5
   replace q5:=eq_true q5
   go_wp2
   repeat (go_quiet (fail);try go_wp2)
   go_roundg k1
   case measure=>have:=HK1.out;omega
   case rel=>exact⟨(wrap64 (x7_1+1)),rs,H',⟨by have:=HK1.out;omega⟩,by repeat (first|exact Drawn0.refl _|apply Drawn0.step)⟩
   }
   }
   ·exact absurd H (by simp)
   }
   {
   have c3b0:decide (x7_1<(a0.size:Int))=false:=decide_eq_false c3
   clear c3
   simp only [Option.some.injEq,Prod.mk.injEq] at H
   obtain⟨rfl,rfl,rfl⟩:=H
   go_wp2
   repeat (go_quiet (fail);try go_wp2)
   go_ret3
   exact⟨rs,dr⟩
   }
def stowageref3_Alnum.f (a0:Int):Option (Bool):=if a0 ≥ 65 then(if a0≤90 then(some true) else(if a0 ≥ 97 then(if a0≤122 then(some true) else(if a0 ≥ 48 then(some (decide (a0≤57))) else(some false))) else(if a0 ≥ 48 then(some (decide (a0≤57))) else(some false)))) else(if a0 ≥ 97 then(if a0≤122 then(some true) else(if a0 ≥ 48 then(some (decide (a0≤57))) else(some false))) else(if a0 ≥ 48 then(some (decide (a0≤57))) else(some false)))
theorem stowageref3_Alnum.calls (a0:Int) (r:Bool) (w:World) (h:stowageref3_Alnum.f a0=some r) :
    Calls Tryd.prog 69 #[.int .u8 a0] w fun e w'=>e = .returned (.bool r)∧Drawn0 w w':=by
 unfold stowageref3_Alnum.f at h
 have H:=h
 clear h
 replace H:=itO H
 rcases H with⟨c2,H⟩|⟨c2,H⟩
 {
 have c2b0:decide (65≤a0)=true:=decide_eq_true c2
 clear c2
 replace H:=itO H
 rcases H with⟨c3,H⟩|⟨c3,H⟩
 {
 have c3b0:decide (a0≤90)=true:=decide_eq_true c3
 clear c3
 obtain rfl:=Option.some.inj H
 go_enter Tryd.func69,Tryd.ntmps69
 go_wp2
 go_ret
 exact⟨rs,dr⟩
 }
 {
 have c3b0:decide (a0≤90)=false:=decide_eq_false c3
 clear c3
 replace H:=itO H
 rcases H with⟨c4,H⟩|⟨c4,H⟩
 {
 have c4b0:decide (97≤a0)=true:=decide_eq_true c4
 clear c4
 replace H:=itO H
 rcases H with⟨c5,H⟩|⟨c5,H⟩
 {
 have c5b0:decide (a0≤122)=true:=decide_eq_true c5
 clear c5
 obtain rfl:=Option.some.inj H
 go_enter Tryd.func69,Tryd.ntmps69
 go_wp2
 go_ret
 exact⟨rs,dr⟩
 }
 {
 have c5b0:decide (a0≤122)=false:=decide_eq_false c5
 clear c5
 replace H:=itO H
 rcases H with⟨c6,H⟩|⟨c6,H⟩
 {
 have c6b0:decide (48≤a0)=true:=decide_eq_true c6
 clear c6
 obtain rfl:=Option.some.inj H
 go_enter Tryd.func69,Tryd.ntmps69
 go_wp2
 go_ret
 exact⟨rs,dr⟩
 }
 {
 have c6b0:decide (48≤a0)=false:=decide_eq_false c6
 clear c6
 obtain rfl:=Option.some.inj H
 go_enter Tryd.func69,Tryd.ntmps69
 go_wp2
 go_ret
 exact⟨rs,dr⟩
 }
 }
 }
 {
 have c4b0:decide (97≤a0)=false:=decide_eq_false c4
 clear c4
 replace H:=itO H
 rcases H with⟨c7,H⟩|⟨c7,H⟩
 {
 have c7b0:decide (48≤a0)=true:=decide_eq_true c7
 clear c7
 obtain rfl:=Option.some.inj H
 go_enter Tryd.func69,Tryd.ntmps69
 go_wp2
 go_ret
 exact⟨rs,dr⟩
 }
 {
 have c7b0:decide (48≤a0)=false:=decide_eq_false c7
 clear c7
 obtain rfl:=Option.some.inj H
 go_enter Tryd.func69,Tryd.ntmps69
 go_wp2
 go_ret
 exact⟨rs,dr⟩
 }
 }
 }
 }
 {
 have c2b0:decide (65≤a0)=false:=decide_eq_false c2
 clear c2
 replace H:=itO H
 rcases H with⟨c8,H⟩|⟨c8,H⟩
 {
 have c8b0:decide (97≤a0)=true:=decide_eq_true c8
 clear c8
 replace H:=itO H
 rcases H with⟨c9,H⟩|⟨c9,H⟩
 {
 have c9b0:decide (a0≤122)=true:=decide_eq_true c9
 clear c9
 obtain rfl:=Option.some.inj H
 go_enter Tryd.func69,Tryd.ntmps69
 go_wp2
 go_ret
 exact⟨rs,dr⟩
 }
 {
 have c9b0:decide (a0≤122)=false:=decide_eq_false c9
 clear c9
 replace H:=itO H
 rcases H with⟨c10,H⟩|⟨c10,H⟩
 {
 have c10b0:decide (48≤a0)=true:=decide_eq_true c10
 clear c10
 obtain rfl:=Option.some.inj H
 go_enter Tryd.func69,Tryd.ntmps69
 go_wp2
 go_ret
 exact⟨rs,dr⟩
 }
 {
 have c10b0:decide (48≤a0)=false:=decide_eq_false c10
 clear c10
 obtain rfl:=Option.some.inj H
 go_enter Tryd.func69,Tryd.ntmps69
 go_wp2
 go_ret
 exact⟨rs,dr⟩
 }
 }
 }
 {
 have c8b0:decide (97≤a0)=false:=decide_eq_false c8
 clear c8
 replace H:=itO H
 rcases H with⟨c11,H⟩|⟨c11,H⟩
 {
 have c11b0:decide (48≤a0)=true:=decide_eq_true c11
 clear c11
 obtain rfl:=Option.some.inj H
 go_enter Tryd.func69,Tryd.ntmps69
 go_wp2
 go_ret
 exact⟨rs,dr⟩
 }
 {
 have c11b0:decide (48≤a0)=false:=decide_eq_false c11
 clear c11
 obtain rfl:=Option.some.inj H
 go_enter Tryd.func69,Tryd.ntmps69
 go_wp2
 go_ret
 exact⟨rs,dr⟩
 }
 }
 }
def stowageref3_in.l0:Nat→ByteArray→Int→Int→Option (Bool)
  | 0,_,_,_=>none
  | k+1,x0,x1,x5=>if x5<(x0.size:Int) then(if 0≤x5 then(if(bt x0 x5)=x1 then(some true) else(stowageref3_in.l0 k x0 x1 (wrap64 (x5+1)))) else(none)) else(some false)
def stowageref3_in.f (k:Nat) (a0:ByteArray) (a1:Int):Option (Bool):=stowageref3_in.l0 k a0 a1 0
theorem stowageref3_in.mono_l:∀ k,(∀ y0 y1 y2,LeO (stowageref3_in.l0 k y0 y1 y2) (stowageref3_in.l0 (k+1) y0 y1 y2))
  | 0=>fun _ _ _ r h=>by simp [stowageref3_in.l0] at h
  | k+1=>by
    have ih0:=stowageref3_in.mono_l k
    · intro y0 y1 y2
      unfold stowageref3_in.l0
      with_reducible repeat' first|exact ih0 _ _ _|exact LeO.refl _|exact LeO.none _|refine LeO.ite ?_ ?_|refine LeO.bind ?_ (fun _=>?_)
theorem stowageref3_in.mono:∀ a0 a1 k,LeO (stowageref3_in.f k a0 a1) (stowageref3_in.f (k+1) a0 a1):=by
 intro a0 a1 k
 have ih0:=stowageref3_in.mono_l k
 unfold stowageref3_in.f
 with_reducible repeat' first|exact ih0 _ _ _|exact LeO.refl _|exact LeO.none _|refine LeO.ite ?_ ?_|refine LeO.bind ?_ (fun _=>?_)
theorem stowageref3_in.calls (k:Nat) (a0:ByteArray) (a1:Int) (r:Bool) (w:World) (h:stowageref3_in.f k a0 a1=some r) :
    Calls Tryd.prog 70 #[.string a0,.int .u8 a1] w fun e w'=>e = .returned (.bool r)∧Drawn0 w w':=by
 unfold stowageref3_in.f at h
 have H:=h
 clear h
 have H':=Aside0.mk H
 clear H
 go_enter Tryd.func70,Tryd.ntmps70
 go_wp2
 go_loopg [5] k (fun kq v5 w'=>∃ (x5_1:Int),v5 = .int .i64 x5_1∧Aside0 (stowageref3_in.l0 kq a0 a1 x5_1=some r)∧Aside0 (kq≤k)∧Drawn0 w w')
 case atStart=>exact⟨(0),rs,H',⟨Nat.le_refl _⟩,by repeat (first|exact Drawn0.refl _|apply Drawn0.step)⟩
 case round=>
  clear H'
  obtain⟨x5_1,rfl,HA,HK1,⟨m1,rfl⟩⟩:=hrel
  cases gk with
  | zero=>exact absurd HA.out (by simp [stowageref3_in.l0])
  | succ k1=>
   have H:=HA.out
   clear HA
   simp only [stowageref3_in.l0] at H
   replace H:=itO H
   rcases H with⟨c3,H⟩|⟨c3,H⟩
   {
   have c3b0:decide (x5_1<(a0.size:Int))=true:=decide_eq_true c3
   clear c3
   replace H:=itO H
   rcases H with⟨c4,H⟩|⟨c4,H⟩
   {
   have c4b0:decide (0≤x5_1)=true:=decide_eq_true c4
   clear c4
   replace H:=itO H
   rcases H with⟨c6,H⟩|⟨c6,H⟩
   {
   have c6b0:((bt a0 x5_1) == a1)=true:=beq_iff_eq.mpr c6
   have c6b1:((bt a0 x5_1) != a1)=false:=bne_eq_false_iff_eq.mpr c6
   clear c6
   obtain rfl:=Option.some.inj H
   have p5:0≤(x5_1:Int):=of_decide_eq_true asm
   have q5:x5_1<(a0.size:Int):=of_decide_eq_true asm
   have hx5:=bt_at a0 x5_1
   replace p5:=eq_true p5
   replace q5:=eq_true q5
   go_wp2
   go_ret
   exact⟨rs,dr⟩
   }
   {
   have c6b0:((bt a0 x5_1) == a1)=false:=beq_eq_false_iff_ne.mpr c6
   have c6b1:((bt a0 x5_1) != a1)=true:=bne_iff_ne.mpr c6
   have H':=Aside0.mk H
   clear H
   have p5:0≤(x5_1:Int):=of_decide_eq_true asm
   have q5:x5_1<(a0.size:Int):=of_decide_eq_true asm
   have hx5:=bt_at a0 x5_1
   replace p5:=eq_true p5
   replace q5:=eq_true q5
   go_wp2
   go_roundg k1
   case measure=>have:=HK1.out;omega
   case rel=>exact⟨(wrap64 (x5_1+1)),rs,H',⟨by have:=HK1.out;omega⟩,by repeat (first|exact Drawn0.refl _|apply Drawn0.step)⟩
   }
   }
   ·exact absurd H (by simp)
   }
   {
   have c3b0:decide (x5_1<(a0.size:Int))=false:=decide_eq_false c3
   clear c3
   obtain rfl:=Option.some.inj H
   go_wp2
   go_ret
   exact⟨rs,dr⟩
   }
def stowageref3_Token.l0:Nat→ByteArray→Int→Option (Bool)
  | 0,_,_=>none
  | k+1,x0,x3=>if x3<(x0.size:Int) then(if 0≤x3 then((stowageref3_Alnum.f (bt x0 x3)).bind fun t195=>(if t195=true then(stowageref3_Token.l0 k x0 (wrap64 (x3+1))) else((stowageref3_in.f k (⟨#[33,35,36,37,38,39,42,43,45,46,94,95,96,124,126]⟩ : ByteArray) (bt x0 x3)).bind fun t196=>(if t196=true then(stowageref3_Token.l0 k x0 (wrap64 (x3+1))) else(some false))))) else(none)) else(some (decide ((x0.size:Int)>0)))
def stowageref3_Token.f (k:Nat) (a0:ByteArray):Option (Bool):=stowageref3_Token.l0 k a0 0
theorem stowageref3_Token.mono_l:∀ k,(∀ y0 y1,LeO (stowageref3_Token.l0 k y0 y1) (stowageref3_Token.l0 (k+1) y0 y1))
  | 0=>fun _ _ r h=>by simp [stowageref3_Token.l0] at h
  | k+1=>by
    have ih0:=stowageref3_Token.mono_l k
    · intro y0 y1
      unfold stowageref3_Token.l0
      with_reducible repeat' first|exact ih0 _ _|exact stowageref3_in.mono _ _ _|exact LeO.refl _|exact LeO.none _|refine LeO.ite ?_ ?_|refine LeO.bind ?_ (fun _=>?_)
theorem stowageref3_Token.mono:∀ a0 k,LeO (stowageref3_Token.f k a0) (stowageref3_Token.f (k+1) a0):=by
 intro a0 k
 have ih0:=stowageref3_Token.mono_l k
 unfold stowageref3_Token.f
 with_reducible repeat' first|exact ih0 _ _|exact stowageref3_in.mono _ _ _|exact LeO.refl _|exact LeO.none _|refine LeO.ite ?_ ?_|refine LeO.bind ?_ (fun _=>?_)
theorem stowageref3_Token.calls (k:Nat) (a0:ByteArray) (r:Bool) (w:World) (h:stowageref3_Token.f k a0=some r) :
    Calls Tryd.prog 45 #[.string a0] w fun e w'=>e = .returned (.bool r)∧Drawn0 w w':=by
 unfold stowageref3_Token.f at h
 have H:=h
 clear h
 have H':=Aside0.mk H
 clear H
 go_enter Tryd.func45,Tryd.ntmps45
 go_wp2
 go_loopg [3] k (fun kq v3 w'=>∃ (x3_1:Int),v3 = .int .i64 x3_1∧Aside0 (stowageref3_Token.l0 kq a0 x3_1=some r)∧Aside0 (kq≤k)∧Drawn0 w w')
 case atStart=>exact⟨(0),rs,H',⟨Nat.le_refl _⟩,by repeat (first|exact Drawn0.refl _|apply Drawn0.step)⟩
 case round=>
  clear H'
  obtain⟨x3_1,rfl,HA,HK1,⟨m1,rfl⟩⟩:=hrel
  cases gk with
  | zero=>exact absurd HA.out (by simp [stowageref3_Token.l0])
  | succ k1=>
   have H:=HA.out
   clear HA
   simp only [stowageref3_Token.l0] at H
   replace H:=itO H
   rcases H with⟨c2,H⟩|⟨c2,H⟩
   {
   have c2b0:decide (x3_1<(a0.size:Int))=true:=decide_eq_true c2
   clear c2
   replace H:=itO H
   rcases H with⟨c3,H⟩|⟨c3,H⟩
   {
   have c3b0:decide (0≤x3_1)=true:=decide_eq_true c3
   clear c3
   replace H:=bndO H
   obtain⟨t195,A50,H⟩:=H
   have A5:=Aside0.mk A50
   clear A50
   by_cases c6:t195=true
   {
   subst c6
   replace H:=itT H
   have H':=Aside0.mk H
   clear H
   have p4:0≤(x3_1:Int):=of_decide_eq_true asm
   have q4:x3_1<(a0.size:Int):=of_decide_eq_true asm
   have hx4:=bt_at a0 x3_1
   replace p4:=eq_true p4
   replace q4:=eq_true q4
   go_wp2_with (first|((with_reducible refine gate_callee (f:=69) rfl ?_);refine goesL_ (some 13) rfl rfl Tryd.func69 kr rfl #[.int .u8 (bt a0 x3_1)] rfl am ?_;(with_reducible refine(stowageref3_Alnum.calls (bt a0 x3_1) true _ A5.out).mono ?_);rintro e w' ⟨rfl,⟨nd,rfl⟩⟩;refine⟨_,rfl,?_⟩))
   go_roundg k1
   case measure=>have:=HK1.out;omega
   case rel=>exact⟨(wrap64 (x3_1+1)),rs,H',⟨by have:=HK1.out;omega⟩,by repeat (first|exact Drawn0.refl _|apply Drawn0.step)⟩
   }
   {
   replace c6:=Bool.eq_false_iff.mpr c6
   subst c6
   replace H:=itF H
   replace H:=bndO H
   obtain⟨t196,A80,H⟩:=H
   have A8:=Aside0.mk A80
   clear A80
   by_cases c9:t196=true
   {
   subst c9
   replace H:=itT H
   have H':=Aside0.mk H
   clear H
   have p4:0≤(x3_1:Int):=of_decide_eq_true asm
   have q4:x3_1<(a0.size:Int):=of_decide_eq_true asm
   have hx4:=bt_at a0 x3_1
   replace p4:=eq_true p4
   replace q4:=eq_true q4
   go_wp2_with (first|((with_reducible refine gate_callee (f:=69) rfl ?_);refine goesL_ (some 13) rfl rfl Tryd.func69 kr rfl #[.int .u8 (bt a0 x3_1)] rfl am ?_;(with_reducible refine(stowageref3_Alnum.calls (bt a0 x3_1) false _ A5.out).mono ?_);rintro e w' ⟨rfl,⟨nd,rfl⟩⟩;refine⟨_,rfl,?_⟩;have p7:0≤(x3_1:Int):=of_decide_eq_true asm;have q7:x3_1<(a0.size:Int):=of_decide_eq_true asm;have hx7:=bt_at a0 x3_1;replace p7:=eq_true p7;replace q7:=eq_true q7)|(go_at_call 70;(with_reducible refine(stowageref3_in.calls k1 (⟨#[33,35,36,37,38,39,42,43,45,46,94,95,96,124,126]⟩ : ByteArray) (bt a0 x3_1) true _ A8.out).mono ?_);rintro e w' ⟨rfl,⟨nd,rfl⟩⟩))
   go_roundg k1
   case measure=>have:=HK1.out;omega
   case rel=>exact⟨(wrap64 (x3_1+1)),rs,H',⟨by have:=HK1.out;omega⟩,by repeat (first|exact Drawn0.refl _|apply Drawn0.step)⟩
   }
   {
   replace c9:=Bool.eq_false_iff.mpr c9
   subst c9
   replace H:=itF H
   obtain rfl:=Option.some.inj H
   have p4:0≤(x3_1:Int):=of_decide_eq_true asm
   have q4:x3_1<(a0.size:Int):=of_decide_eq_true asm
   have hx4:=bt_at a0 x3_1
   replace p4:=eq_true p4
   replace q4:=eq_true q4
   go_wp2_with (first|((with_reducible refine gate_callee (f:=69) rfl ?_);refine goesL_ (some 13) rfl rfl Tryd.func69 kr rfl #[.int .u8 (bt a0 x3_1)] rfl am ?_;(with_reducible refine(stowageref3_Alnum.calls (bt a0 x3_1) false _ A5.out).mono ?_);rintro e w' ⟨rfl,⟨nd,rfl⟩⟩;refine⟨_,rfl,?_⟩;have p7:0≤(x3_1:Int):=of_decide_eq_true asm;have q7:x3_1<(a0.size:Int):=of_decide_eq_true asm;have hx7:=bt_at a0 x3_1;replace p7:=eq_true p7;replace q7:=eq_true q7)|(go_at_call 70;(with_reducible refine(stowageref3_in.calls k1 (⟨#[33,35,36,37,38,39,42,43,45,46,94,95,96,124,126]⟩ : ByteArray) (bt a0 x3_1) false _ A8.out).mono ?_);rintro e w' ⟨rfl,⟨nd,rfl⟩⟩))
   go_ret
   exact⟨rs,dr⟩
   }
   }
   }
   ·exact absurd H (by simp)
   }
   {
   have c2b0:decide (x3_1<(a0.size:Int))=false:=decide_eq_false c2
   clear c2
   obtain rfl:=Option.some.inj H
   go_wp2
   go_ret
   exact⟨rs,dr⟩
   }
def stowageref17_header.f (k:Nat) (a0:ByteArray):Option (ByteArray×ByteArray×Bool):=(stowageref3_Cut.f k a0 58).bind fun bt198=>(if bt198.2.2=true then((stowageref3_Begins.f bt198.2.1 (⟨#[32]⟩ : ByteArray)).bind fun t201=>(if t201=true then((stowageref3_Token.f k bt198.1).bind fun t202=>(if t202=true then(if 1≤(bt198.2.1.size:Int) then((stowageref17_fit.f k (bt198.2.1.extract 1 bt198.2.1.size)).bind fun t203=>(if t203=true then(some (bt198.1,bt198.2.1.extract 1 bt198.2.1.size,true)) else(some ((⟨#[]⟩ : ByteArray),(⟨#[]⟩ : ByteArray),false)))) else(none)) else(some ((⟨#[]⟩ : ByteArray),(⟨#[]⟩ : ByteArray),false)))) else(some ((⟨#[]⟩ : ByteArray),(⟨#[]⟩ : ByteArray),false)))) else(some ((⟨#[]⟩ : ByteArray),(⟨#[]⟩ : ByteArray),false)))
theorem stowageref17_header.mono:∀ a0 k,LeO (stowageref17_header.f k a0) (stowageref17_header.f (k+1) a0):=by
 intro a0 k
 unfold stowageref17_header.f
 with_reducible repeat' first|exact stowageref17_fit.mono _ _|exact stowageref3_Cut.mono _ _ _|exact stowageref3_Token.mono _ _|exact LeO.refl _|exact LeO.none _|refine LeO.ite ?_ ?_|refine LeO.bind ?_ (fun _=>?_)
theorem stowageref17_header.calls (k:Nat) (a0:ByteArray) (r1:ByteArray) (r2:ByteArray) (r3:Bool) (w:World) (h:stowageref17_header.f k a0=some (r1,r2,r3)) :
    Calls Tryd.prog 25 #[.string a0] w fun e w'=>e = .returned (.tuple #[.agg #[.string r1,.string r2],.bool r3])∧Below w.heap.size w w':=by
 have hu52:=Tryd.underlying52
 have HB:=Aside0.mk (Below.refl w.heap.size w)
 unfold stowageref17_header.f at h
 have H:=h
 clear h
 replace H:=bndO H
 obtain⟨⟨t198,t199,t200⟩,A20,H⟩:=H
 dsimp only at H
 have A2:=Aside0.mk A20
 clear A20
 by_cases c3:t200=true
 {
 subst c3
 replace H:=itT H
 replace H:=bndO H
 obtain⟨t201,A40,H⟩:=H
 have A4:=Aside0.mk A40
 clear A40
 by_cases c5:t201=true
 {
 subst c5
 replace H:=itT H
 replace H:=bndO H
 obtain⟨t202,A60,H⟩:=H
 have A6:=Aside0.mk A60
 clear A60
 by_cases c7:t202=true
 {
 subst c7
 replace H:=itT H
 replace H:=itO H
 rcases H with⟨c8,H⟩|⟨c8,H⟩
 {
 have c8b0:=eq_true c8
 have c8b1:=decide_eq_true c8
 clear c8
 replace H:=bndO H
 obtain⟨t203,A90,H⟩:=H
 have A9:=Aside0.mk A90
 clear A90
 by_cases c10:t203=true
 {
 subst c10
 replace H:=itT H
 have c11b0:=eq_true (of_decide_eq_true asm:1≤(t199.size:Int))
 simp only [Option.some.injEq,Prod.mk.injEq] at H
 obtain⟨rfl,rfl,rfl⟩:=H
 go_enter Tryd.func25,Tryd.ntmps25
 go_wp2_with (first|((with_reducible refine gate_dst (N:=2) rfl ?_);refine box_event ?hg (N:=2) ?hd (cs:=#[.string (⟨#[]⟩ : ByteArray),.string (⟨#[]⟩ : ByteArray)]) (t:=52) ?hr ?_;(case hd=>rfl);(case hg=>rfl);(case hr=>first|(go_simp;done)|(go_simp;rfl));intro gb197 hg w12 hbox hb;have BK197:=Aside0.mk (hbox);have GW197:=Aside0.mk ((by rw [hg];exact(below_size bl):w.heap.size≤gb197));have GE197:=Aside0.mk ((by rw [hg];exact(below_size bl):w.heap.size≤gb197));replace HB:=Aside0.mk (below_step bl hb);clear hb hbox hg)|((with_reducible refine gate_callee (f:=44) rfl ?_);refine goesL_ (some 9) rfl rfl Tryd.func44 kr rfl #[.string a0,.int .u8 58] rfl am ?_;(with_reducible refine(stowageref3_Cut.calls k a0 58 t198 t199 true _ A2.out).mono ?_);rintro e w' ⟨rfl,⟨nd,rfl⟩⟩;refine⟨_,rfl,?_⟩;(try (rw [drewN_self w12];generalize hq_:World.drewN w12 _=w12;have n0_:Aside0 (w12.heap[gb197]? = some (.cells #[.string (⟨#[]⟩ : ByteArray),.string (⟨#[]⟩ : ByteArray)] 52 (0,0))):=⟨by rw [← hq_];exact kl⟩;have n1_:Aside0 (Below w.heap.size w w12):=⟨by rw [← hq_];exact bl⟩;clear BK197 HB hq_;have BK197:=n0_;have HB:=n1_;clear n0_ n1_));(try (have hcu197_0:w12.cell? ⟨gb197,0,none⟩=some (.string (⟨#[]⟩ : ByteArray)):=(blk_cell BK197.out 0).trans rfl));(try (have hfu197_0:=blk_frozen BK197.out 0));(try (have hcu197_1:w12.cell? ⟨gb197,1,none⟩=some (.string (⟨#[]⟩ : ByteArray)):=(blk_cell BK197.out 1).trans rfl));(try (have hfu197_1:=blk_frozen BK197.out 1)))|(go_at_call 41;(with_reducible refine(stowageref3_Begins.calls t199 (⟨#[32]⟩ : ByteArray) true _ A4.out).mono ?_);rintro e w' ⟨rfl,⟨nd,rfl⟩⟩;(try (rw [drewN_self w12];generalize hq_:World.drewN w12 _=w12;have n0_:Aside0 (w12.heap[gb197]? = some (.cells #[.string (⟨#[]⟩ : ByteArray),.string (⟨#[]⟩ : ByteArray)] 52 (0,0))):=⟨by rw [← hq_];exact kl⟩;have n1_:Aside0 (Below w.heap.size w w12):=⟨by rw [← hq_];exact bl⟩;clear BK197 HB hq_;have BK197:=n0_;have HB:=n1_;clear n0_ n1_));(try (have hcu197_0:w12.cell? ⟨gb197,0,none⟩=some (.string (⟨#[]⟩ : ByteArray)):=(blk_cell BK197.out 0).trans rfl));(try (have hfu197_0:=blk_frozen BK197.out 0));(try (have hcu197_1:w12.cell? ⟨gb197,1,none⟩=some (.string (⟨#[]⟩ : ByteArray)):=(blk_cell BK197.out 1).trans rfl));(try (have hfu197_1:=blk_frozen BK197.out 1)))|(go_at_call 45;(with_reducible refine(stowageref3_Token.calls k t198 true _ A6.out).mono ?_);rintro e w' ⟨rfl,⟨nd,rfl⟩⟩;(try (rw [drewN_self w12];generalize hq_:World.drewN w12 _=w12;have n0_:Aside0 (w12.heap[gb197]? = some (.cells #[.string (⟨#[]⟩ : ByteArray),.string (⟨#[]⟩ : ByteArray)] 52 (0,0))):=⟨by rw [← hq_];exact kl⟩;have n1_:Aside0 (Below w.heap.size w w12):=⟨by rw [← hq_];exact bl⟩;clear BK197 HB hq_;have BK197:=n0_;have HB:=n1_;clear n0_ n1_));(try (have hcu197_0:w12.cell? ⟨gb197,0,none⟩=some (.string (⟨#[]⟩ : ByteArray)):=(blk_cell BK197.out 0).trans rfl));(try (have hfu197_0:=blk_frozen BK197.out 0));(try (have hcu197_1:w12.cell? ⟨gb197,1,none⟩=some (.string (⟨#[]⟩ : ByteArray)):=(blk_cell BK197.out 1).trans rfl));(try (have hfu197_1:=blk_frozen BK197.out 1)))|(go_at_call 43;(with_reducible refine(stowageref17_fit.calls k (t199.extract 1 t199.size) true _ A9.out).mono ?_);rintro e w' ⟨rfl,⟨nd,rfl⟩⟩;(try (rw [drewN_self w12];generalize hq_:World.drewN w12 _=w12;have n0_:Aside0 (w12.heap[gb197]? = some (.cells #[.string (⟨#[]⟩ : ByteArray),.string (⟨#[]⟩ : ByteArray)] 52 (0,0))):=⟨by rw [← hq_];exact kl⟩;have n1_:Aside0 (Below w.heap.size w w12):=⟨by rw [← hq_];exact bl⟩;clear BK197 HB hq_;have BK197:=n0_;have HB:=n1_;clear n0_ n1_));(try (have hcu197_0:w12.cell? ⟨gb197,0,none⟩=some (.string (⟨#[]⟩ : ByteArray)):=(blk_cell BK197.out 0).trans rfl));(try (have hfu197_0:=blk_frozen BK197.out 0));(try (have hcu197_1:w12.cell? ⟨gb197,1,none⟩=some (.string (⟨#[]⟩ : ByteArray)):=(blk_cell BK197.out 1).trans rfl));(try (have hfu197_1:=blk_frozen BK197.out 1));obtain⟨_,_,_,_⟩:=bc2 BK197.out))
 refine bodyPost_ret (results_ct rfl _ _ gb197 52 #[.string t198,.string (t199.extract 1 t199.size)] (0,0) _ rfl (by(with_reducible repeat (first|refine blk_drewN ?_ _|refine blk_drew ?_|refine blk_alloc ?_ _));refine blk_put (cs:=#[.string t198,.string (⟨#[]⟩ : ByteArray)]) ?_ 1 _ rfl;(with_reducible repeat (first|refine blk_drewN ?_ _|refine blk_drew ?_|refine blk_alloc ?_ _));refine blk_put (cs:=#[.string (⟨#[]⟩ : ByteArray),.string (⟨#[]⟩ : ByteArray)]) ?_ 0 _ rfl;(with_reducible repeat (first|refine blk_drewN ?_ _|refine blk_drew ?_|refine blk_alloc ?_ _));exact BK197.out) Tryd.underlying52 rfl kr) rfl ?_
 exact⟨ew,bl⟩
 }
 {
 replace c10:=Bool.eq_false_iff.mpr c10
 subst c10
 replace H:=itF H
 simp only [Option.some.injEq,Prod.mk.injEq] at H
 obtain⟨rfl,rfl,rfl⟩:=H
 go_enter Tryd.func25,Tryd.ntmps25
 go_wp2_with (first|((with_reducible refine gate_dst (N:=2) rfl ?_);refine box_event ?hg (N:=2) ?hd (cs:=#[.string (⟨#[]⟩ : ByteArray),.string (⟨#[]⟩ : ByteArray)]) (t:=52) ?hr ?_;(case hd=>rfl);(case hg=>rfl);(case hr=>first|(go_simp;done)|(go_simp;rfl));intro gb197 hg w14 hbox hb;have BK197:=Aside0.mk (hbox);have GW197:=Aside0.mk ((by rw [hg];exact(below_size bl):w.heap.size≤gb197));have GE197:=Aside0.mk ((by rw [hg];exact(below_size bl):w.heap.size≤gb197));replace HB:=Aside0.mk (below_step bl hb);clear hb hbox hg)|((with_reducible refine gate_callee (f:=44) rfl ?_);refine goesL_ (some 9) rfl rfl Tryd.func44 kr rfl #[.string a0,.int .u8 58] rfl am ?_;(with_reducible refine(stowageref3_Cut.calls k a0 58 t198 t199 true _ A2.out).mono ?_);rintro e w' ⟨rfl,⟨nd,rfl⟩⟩;refine⟨_,rfl,?_⟩;(try (rw [drewN_self w14];generalize hq_:World.drewN w14 _=w14;have n0_:Aside0 (w14.heap[gb197]? = some (.cells #[.string (⟨#[]⟩ : ByteArray),.string (⟨#[]⟩ : ByteArray)] 52 (0,0))):=⟨by rw [← hq_];exact kl⟩;have n1_:Aside0 (Below w.heap.size w w14):=⟨by rw [← hq_];exact bl⟩;clear BK197 HB hq_;have BK197:=n0_;have HB:=n1_;clear n0_ n1_));(try (have hcu197_0:w14.cell? ⟨gb197,0,none⟩=some (.string (⟨#[]⟩ : ByteArray)):=(blk_cell BK197.out 0).trans rfl));(try (have hfu197_0:=blk_frozen BK197.out 0));(try (have hcu197_1:w14.cell? ⟨gb197,1,none⟩=some (.string (⟨#[]⟩ : ByteArray)):=(blk_cell BK197.out 1).trans rfl));(try (have hfu197_1:=blk_frozen BK197.out 1)))|(go_at_call 41;(with_reducible refine(stowageref3_Begins.calls t199 (⟨#[32]⟩ : ByteArray) true _ A4.out).mono ?_);rintro e w' ⟨rfl,⟨nd,rfl⟩⟩;(try (rw [drewN_self w14];generalize hq_:World.drewN w14 _=w14;have n0_:Aside0 (w14.heap[gb197]? = some (.cells #[.string (⟨#[]⟩ : ByteArray),.string (⟨#[]⟩ : ByteArray)] 52 (0,0))):=⟨by rw [← hq_];exact kl⟩;have n1_:Aside0 (Below w.heap.size w w14):=⟨by rw [← hq_];exact bl⟩;clear BK197 HB hq_;have BK197:=n0_;have HB:=n1_;clear n0_ n1_));(try (have hcu197_0:w14.cell? ⟨gb197,0,none⟩=some (.string (⟨#[]⟩ : ByteArray)):=(blk_cell BK197.out 0).trans rfl));(try (have hfu197_0:=blk_frozen BK197.out 0));(try (have hcu197_1:w14.cell? ⟨gb197,1,none⟩=some (.string (⟨#[]⟩ : ByteArray)):=(blk_cell BK197.out 1).trans rfl));(try (have hfu197_1:=blk_frozen BK197.out 1)))|(go_at_call 45;(with_reducible refine(stowageref3_Token.calls k t198 true _ A6.out).mono ?_);rintro e w' ⟨rfl,⟨nd,rfl⟩⟩;(try (rw [drewN_self w14];generalize hq_:World.drewN w14 _=w14;have n0_:Aside0 (w14.heap[gb197]? = some (.cells #[.string (⟨#[]⟩ : ByteArray),.string (⟨#[]⟩ : ByteArray)] 52 (0,0))):=⟨by rw [← hq_];exact kl⟩;have n1_:Aside0 (Below w.heap.size w w14):=⟨by rw [← hq_];exact bl⟩;clear BK197 HB hq_;have BK197:=n0_;have HB:=n1_;clear n0_ n1_));(try (have hcu197_0:w14.cell? ⟨gb197,0,none⟩=some (.string (⟨#[]⟩ : ByteArray)):=(blk_cell BK197.out 0).trans rfl));(try (have hfu197_0:=blk_frozen BK197.out 0));(try (have hcu197_1:w14.cell? ⟨gb197,1,none⟩=some (.string (⟨#[]⟩ : ByteArray)):=(blk_cell BK197.out 1).trans rfl));(try (have hfu197_1:=blk_frozen BK197.out 1)))|(go_at_call 43;(with_reducible refine(stowageref17_fit.calls k (t199.extract 1 t199.size) false _ A9.out).mono ?_);rintro e w' ⟨rfl,⟨nd,rfl⟩⟩;(try (rw [drewN_self w14];generalize hq_:World.drewN w14 _=w14;have n0_:Aside0 (w14.heap[gb197]? = some (.cells #[.string (⟨#[]⟩ : ByteArray),.string (⟨#[]⟩ : ByteArray)] 52 (0,0))):=⟨by rw [← hq_];exact kl⟩;have n1_:Aside0 (Below w.heap.size w w14):=⟨by rw [← hq_];exact bl⟩;clear BK197 HB hq_;have BK197:=n0_;have HB:=n1_;clear n0_ n1_));(try (have hcu197_0:w14.cell? ⟨gb197,0,none⟩=some (.string (⟨#[]⟩ : ByteArray)):=(blk_cell BK197.out 0).trans rfl));(try (have hfu197_0:=blk_frozen BK197.out 0));(try (have hcu197_1:w14.cell? ⟨gb197,1,none⟩=some (.string (⟨#[]⟩ : ByteArray)):=(blk_cell BK197.out 1).trans rfl));(try (have hfu197_1:=blk_frozen BK197.out 1));obtain⟨_,_,_,_⟩:=bc2 BK197.out))
 refine bodyPost_ret (results_ct rfl _ _ gb197 52 #[.string (⟨#[]⟩ : ByteArray),.string (⟨#[]⟩ : ByteArray)] (0,0) _ rfl (by(with_reducible repeat (first|refine blk_drewN ?_ _|refine blk_drew ?_|refine blk_alloc ?_ _));refine blk_put (cs:=#[.string (⟨#[]⟩ : ByteArray),.string (⟨#[]⟩ : ByteArray)]) ?_ 1 _ rfl;(with_reducible repeat (first|refine blk_drewN ?_ _|refine blk_drew ?_|refine blk_alloc ?_ _));refine blk_put (cs:=#[.string (⟨#[]⟩ : ByteArray),.string (⟨#[]⟩ : ByteArray)]) ?_ 0 _ rfl;(with_reducible repeat (first|refine blk_drewN ?_ _|refine blk_drew ?_|refine blk_alloc ?_ _));exact BK197.out) Tryd.underlying52 rfl kr) rfl ?_
 exact⟨ew,bl⟩
 }
 }
 ·exact absurd H (by simp)
 }
 {
 replace c7:=Bool.eq_false_iff.mpr c7
 subst c7
 replace H:=itF H
 simp only [Option.some.injEq,Prod.mk.injEq] at H
 obtain⟨rfl,rfl,rfl⟩:=H
 go_enter Tryd.func25,Tryd.ntmps25
 go_wp2_with (first|((with_reducible refine gate_dst (N:=2) rfl ?_);refine box_event ?hg (N:=2) ?hd (cs:=#[.string (⟨#[]⟩ : ByteArray),.string (⟨#[]⟩ : ByteArray)]) (t:=52) ?hr ?_;(case hd=>rfl);(case hg=>rfl);(case hr=>first|(go_simp;done)|(go_simp;rfl));intro gb197 hg w16 hbox hb;have BK197:=Aside0.mk (hbox);have GW197:=Aside0.mk ((by rw [hg];exact(below_size bl):w.heap.size≤gb197));have GE197:=Aside0.mk ((by rw [hg];exact(below_size bl):w.heap.size≤gb197));replace HB:=Aside0.mk (below_step bl hb);clear hb hbox hg)|((with_reducible refine gate_callee (f:=44) rfl ?_);refine goesL_ (some 9) rfl rfl Tryd.func44 kr rfl #[.string a0,.int .u8 58] rfl am ?_;(with_reducible refine(stowageref3_Cut.calls k a0 58 t198 t199 true _ A2.out).mono ?_);rintro e w' ⟨rfl,⟨nd,rfl⟩⟩;refine⟨_,rfl,?_⟩;(try (rw [drewN_self w16];generalize hq_:World.drewN w16 _=w16;have n0_:Aside0 (w16.heap[gb197]? = some (.cells #[.string (⟨#[]⟩ : ByteArray),.string (⟨#[]⟩ : ByteArray)] 52 (0,0))):=⟨by rw [← hq_];exact kl⟩;have n1_:Aside0 (Below w.heap.size w w16):=⟨by rw [← hq_];exact bl⟩;clear BK197 HB hq_;have BK197:=n0_;have HB:=n1_;clear n0_ n1_));(try (have hcu197_0:w16.cell? ⟨gb197,0,none⟩=some (.string (⟨#[]⟩ : ByteArray)):=(blk_cell BK197.out 0).trans rfl));(try (have hfu197_0:=blk_frozen BK197.out 0));(try (have hcu197_1:w16.cell? ⟨gb197,1,none⟩=some (.string (⟨#[]⟩ : ByteArray)):=(blk_cell BK197.out 1).trans rfl));(try (have hfu197_1:=blk_frozen BK197.out 1)))|(go_at_call 41;(with_reducible refine(stowageref3_Begins.calls t199 (⟨#[32]⟩ : ByteArray) true _ A4.out).mono ?_);rintro e w' ⟨rfl,⟨nd,rfl⟩⟩;(try (rw [drewN_self w16];generalize hq_:World.drewN w16 _=w16;have n0_:Aside0 (w16.heap[gb197]? = some (.cells #[.string (⟨#[]⟩ : ByteArray),.string (⟨#[]⟩ : ByteArray)] 52 (0,0))):=⟨by rw [← hq_];exact kl⟩;have n1_:Aside0 (Below w.heap.size w w16):=⟨by rw [← hq_];exact bl⟩;clear BK197 HB hq_;have BK197:=n0_;have HB:=n1_;clear n0_ n1_));(try (have hcu197_0:w16.cell? ⟨gb197,0,none⟩=some (.string (⟨#[]⟩ : ByteArray)):=(blk_cell BK197.out 0).trans rfl));(try (have hfu197_0:=blk_frozen BK197.out 0));(try (have hcu197_1:w16.cell? ⟨gb197,1,none⟩=some (.string (⟨#[]⟩ : ByteArray)):=(blk_cell BK197.out 1).trans rfl));(try (have hfu197_1:=blk_frozen BK197.out 1)))|(go_at_call 45;(with_reducible refine(stowageref3_Token.calls k t198 false _ A6.out).mono ?_);rintro e w' ⟨rfl,⟨nd,rfl⟩⟩;(try (rw [drewN_self w16];generalize hq_:World.drewN w16 _=w16;have n0_:Aside0 (w16.heap[gb197]? = some (.cells #[.string (⟨#[]⟩ : ByteArray),.string (⟨#[]⟩ : ByteArray)] 52 (0,0))):=⟨by rw [← hq_];exact kl⟩;have n1_:Aside0 (Below w.heap.size w w16):=⟨by rw [← hq_];exact bl⟩;clear BK197 HB hq_;have BK197:=n0_;have HB:=n1_;clear n0_ n1_));(try (have hcu197_0:w16.cell? ⟨gb197,0,none⟩=some (.string (⟨#[]⟩ : ByteArray)):=(blk_cell BK197.out 0).trans rfl));(try (have hfu197_0:=blk_frozen BK197.out 0));(try (have hcu197_1:w16.cell? ⟨gb197,1,none⟩=some (.string (⟨#[]⟩ : ByteArray)):=(blk_cell BK197.out 1).trans rfl));(try (have hfu197_1:=blk_frozen BK197.out 1));obtain⟨_,_,_,_⟩:=bc2 BK197.out))
 refine bodyPost_ret (results_ct rfl _ _ gb197 52 #[.string (⟨#[]⟩ : ByteArray),.string (⟨#[]⟩ : ByteArray)] (0,0) _ rfl (by(with_reducible repeat (first|refine blk_drewN ?_ _|refine blk_drew ?_|refine blk_alloc ?_ _));refine blk_put (cs:=#[.string (⟨#[]⟩ : ByteArray),.string (⟨#[]⟩ : ByteArray)]) ?_ 1 _ rfl;(with_reducible repeat (first|refine blk_drewN ?_ _|refine blk_drew ?_|refine blk_alloc ?_ _));refine blk_put (cs:=#[.string (⟨#[]⟩ : ByteArray),.string (⟨#[]⟩ : ByteArray)]) ?_ 0 _ rfl;(with_reducible repeat (first|refine blk_drewN ?_ _|refine blk_drew ?_|refine blk_alloc ?_ _));exact BK197.out) Tryd.underlying52 rfl kr) rfl ?_
 exact⟨ew,bl⟩
 }
 }
 {
 replace c5:=Bool.eq_false_iff.mpr c5
 subst c5
 replace H:=itF H
 simp only [Option.some.injEq,Prod.mk.injEq] at H
 obtain⟨rfl,rfl,rfl⟩:=H
 go_enter Tryd.func25,Tryd.ntmps25
 go_wp2_with (first|((with_reducible refine gate_dst (N:=2) rfl ?_);refine box_event ?hg (N:=2) ?hd (cs:=#[.string (⟨#[]⟩ : ByteArray),.string (⟨#[]⟩ : ByteArray)]) (t:=52) ?hr ?_;(case hd=>rfl);(case hg=>rfl);(case hr=>first|(go_simp;done)|(go_simp;rfl));intro gb197 hg w18 hbox hb;have BK197:=Aside0.mk (hbox);have GW197:=Aside0.mk ((by rw [hg];exact(below_size bl):w.heap.size≤gb197));have GE197:=Aside0.mk ((by rw [hg];exact(below_size bl):w.heap.size≤gb197));replace HB:=Aside0.mk (below_step bl hb);clear hb hbox hg)|((with_reducible refine gate_callee (f:=44) rfl ?_);refine goesL_ (some 9) rfl rfl Tryd.func44 kr rfl #[.string a0,.int .u8 58] rfl am ?_;(with_reducible refine(stowageref3_Cut.calls k a0 58 t198 t199 true _ A2.out).mono ?_);rintro e w' ⟨rfl,⟨nd,rfl⟩⟩;refine⟨_,rfl,?_⟩;(try (rw [drewN_self w18];generalize hq_:World.drewN w18 _=w18;have n0_:Aside0 (w18.heap[gb197]? = some (.cells #[.string (⟨#[]⟩ : ByteArray),.string (⟨#[]⟩ : ByteArray)] 52 (0,0))):=⟨by rw [← hq_];exact kl⟩;have n1_:Aside0 (Below w.heap.size w w18):=⟨by rw [← hq_];exact bl⟩;clear BK197 HB hq_;have BK197:=n0_;have HB:=n1_;clear n0_ n1_));(try (have hcu197_0:w18.cell? ⟨gb197,0,none⟩=some (.string (⟨#[]⟩ : ByteArray)):=(blk_cell BK197.out 0).trans rfl));(try (have hfu197_0:=blk_frozen BK197.out 0));(try (have hcu197_1:w18.cell? ⟨gb197,1,none⟩=some (.string (⟨#[]⟩ : ByteArray)):=(blk_cell BK197.out 1).trans rfl));(try (have hfu197_1:=blk_frozen BK197.out 1)))|(go_at_call 41;(with_reducible refine(stowageref3_Begins.calls t199 (⟨#[32]⟩ : ByteArray) false _ A4.out).mono ?_);rintro e w' ⟨rfl,⟨nd,rfl⟩⟩;(try (rw [drewN_self w18];generalize hq_:World.drewN w18 _=w18;have n0_:Aside0 (w18.heap[gb197]? = some (.cells #[.string (⟨#[]⟩ : ByteArray),.string (⟨#[]⟩ : ByteArray)] 52 (0,0))):=⟨by rw [← hq_];exact kl⟩;have n1_:Aside0 (Below w.heap.size w w18):=⟨by rw [← hq_];exact bl⟩;clear BK197 HB hq_;have BK197:=n0_;have HB:=n1_;clear n0_ n1_));(try (have hcu197_0:w18.cell? ⟨gb197,0,none⟩=some (.string (⟨#[]⟩ : ByteArray)):=(blk_cell BK197.out 0).trans rfl));(try (have hfu197_0:=blk_frozen BK197.out 0));(try (have hcu197_1:w18.cell? ⟨gb197,1,none⟩=some (.string (⟨#[]⟩ : ByteArray)):=(blk_cell BK197.out 1).trans rfl));(try (have hfu197_1:=blk_frozen BK197.out 1));obtain⟨_,_,_,_⟩:=bc2 BK197.out))
 refine bodyPost_ret (results_ct rfl _ _ gb197 52 #[.string (⟨#[]⟩ : ByteArray),.string (⟨#[]⟩ : ByteArray)] (0,0) _ rfl (by(with_reducible repeat (first|refine blk_drewN ?_ _|refine blk_drew ?_|refine blk_alloc ?_ _));refine blk_put (cs:=#[.string (⟨#[]⟩ : ByteArray),.string (⟨#[]⟩ : ByteArray)]) ?_ 1 _ rfl;(with_reducible repeat (first|refine blk_drewN ?_ _|refine blk_drew ?_|refine blk_alloc ?_ _));refine blk_put (cs:=#[.string (⟨#[]⟩ : ByteArray),.string (⟨#[]⟩ : ByteArray)]) ?_ 0 _ rfl;(with_reducible repeat (first|refine blk_drewN ?_ _|refine blk_drew ?_|refine blk_alloc ?_ _));exact BK197.out) Tryd.underlying52 rfl kr) rfl ?_
 exact⟨ew,bl⟩
 }
 }
 {
 replace c3:=Bool.eq_false_iff.mpr c3
 subst c3
 replace H:=itF H
 simp only [Option.some.injEq,Prod.mk.injEq] at H
 obtain⟨rfl,rfl,rfl⟩:=H
 go_enter Tryd.func25,Tryd.ntmps25
 go_wp2_with (first|((with_reducible refine gate_dst (N:=2) rfl ?_);refine box_event ?hg (N:=2) ?hd (cs:=#[.string (⟨#[]⟩ : ByteArray),.string (⟨#[]⟩ : ByteArray)]) (t:=52) ?hr ?_;(case hd=>rfl);(case hg=>rfl);(case hr=>first|(go_simp;done)|(go_simp;rfl));intro gb197 hg w20 hbox hb;have BK197:=Aside0.mk (hbox);have GW197:=Aside0.mk ((by rw [hg];exact(below_size bl):w.heap.size≤gb197));have GE197:=Aside0.mk ((by rw [hg];exact(below_size bl):w.heap.size≤gb197));replace HB:=Aside0.mk (below_step bl hb);clear hb hbox hg)|((with_reducible refine gate_callee (f:=44) rfl ?_);refine goesL_ (some 9) rfl rfl Tryd.func44 kr rfl #[.string a0,.int .u8 58] rfl am ?_;(with_reducible refine(stowageref3_Cut.calls k a0 58 t198 t199 false _ A2.out).mono ?_);rintro e w' ⟨rfl,⟨nd,rfl⟩⟩;refine⟨_,rfl,?_⟩;(try (rw [drewN_self w20];generalize hq_:World.drewN w20 _=w20;have n0_:Aside0 (w20.heap[gb197]? = some (.cells #[.string (⟨#[]⟩ : ByteArray),.string (⟨#[]⟩ : ByteArray)] 52 (0,0))):=⟨by rw [← hq_];exact kl⟩;have n1_:Aside0 (Below w.heap.size w w20):=⟨by rw [← hq_];exact bl⟩;clear BK197 HB hq_;have BK197:=n0_;have HB:=n1_;clear n0_ n1_));(try (have hcu197_0:w20.cell? ⟨gb197,0,none⟩=some (.string (⟨#[]⟩ : ByteArray)):=(blk_cell BK197.out 0).trans rfl));(try (have hfu197_0:=blk_frozen BK197.out 0));(try (have hcu197_1:w20.cell? ⟨gb197,1,none⟩=some (.string (⟨#[]⟩ : ByteArray)):=(blk_cell BK197.out 1).trans rfl));(try (have hfu197_1:=blk_frozen BK197.out 1));obtain⟨_,_,_,_⟩:=bc2 BK197.out))
 refine bodyPost_ret (results_ct rfl _ _ gb197 52 #[.string (⟨#[]⟩ : ByteArray),.string (⟨#[]⟩ : ByteArray)] (0,0) _ rfl (by(with_reducible repeat (first|refine blk_drewN ?_ _|refine blk_drew ?_|refine blk_alloc ?_ _));refine blk_put (cs:=#[.string (⟨#[]⟩ : ByteArray),.string (⟨#[]⟩ : ByteArray)]) ?_ 1 _ rfl;(with_reducible repeat (first|refine blk_drewN ?_ _|refine blk_drew ?_|refine blk_alloc ?_ _));refine blk_put (cs:=#[.string (⟨#[]⟩ : ByteArray),.string (⟨#[]⟩ : ByteArray)]) ?_ 0 _ rfl;(with_reducible repeat (first|refine blk_drewN ?_ _|refine blk_drew ?_|refine blk_alloc ?_ _));exact BK197.out) Tryd.underlying52 rfl kr) rfl ?_
 exact⟨ew,bl⟩
 }
def stowageref17_own.f (a0:ByteArray):Option (Bool):=if a0.toList=([83,101,114,118,101,114]:List UInt8) then(some true) else(if a0.toList=([68,97,116,101]:List UInt8) then(some true) else(if a0.toList=([120,45,97,109,122,45,114,101,113,117,101,115,116,45,105,100]:List UInt8) then(some true) else(if a0.toList=([67,111,110,116,101,110,116,45,76,101,110,103,116,104]:List UInt8) then(some true) else(some (a0.toList == ([67,111,110,110,101,99,116,105,111,110]:List UInt8))))))
theorem stowageref17_own.calls (a0:ByteArray) (r:Bool) (w:World) (h:stowageref17_own.f a0=some r) :
    Calls Tryd.prog 27 #[.string a0] w fun e w'=>e = .returned (.bool r)∧Drawn0 w w':=by
 unfold stowageref17_own.f at h
 have H:=h
 clear h
 replace H:=itO H
 rcases H with⟨c2,H⟩|⟨c2,H⟩
 {
 have c2b0:(a0.toList == ([83,101,114,118,101,114]:List UInt8))=true:=beq_iff_eq.mpr c2
 clear c2
 obtain rfl:=Option.some.inj H
 go_enter Tryd.func27,Tryd.ntmps27
 go_wp2
 go_ret
 exact⟨rs,dr⟩
 }
 {
 have c2b0:(a0.toList == ([83,101,114,118,101,114]:List UInt8))=false:=beq_eq_false_iff_ne.mpr c2
 replace H:=itO H
 rcases H with⟨c3,H⟩|⟨c3,H⟩
 {
 have c3b0:(a0.toList == ([68,97,116,101]:List UInt8))=true:=beq_iff_eq.mpr c3
 clear c3
 obtain rfl:=Option.some.inj H
 go_enter Tryd.func27,Tryd.ntmps27
 go_wp2
 go_ret
 exact⟨rs,dr⟩
 }
 {
 have c3b0:(a0.toList == ([68,97,116,101]:List UInt8))=false:=beq_eq_false_iff_ne.mpr c3
 replace H:=itO H
 rcases H with⟨c4,H⟩|⟨c4,H⟩
 {
 have c4b0:(a0.toList == ([120,45,97,109,122,45,114,101,113,117,101,115,116,45,105,100]:List UInt8))=true:=beq_iff_eq.mpr c4
 clear c4
 obtain rfl:=Option.some.inj H
 go_enter Tryd.func27,Tryd.ntmps27
 go_wp2
 go_ret
 exact⟨rs,dr⟩
 }
 {
 have c4b0:(a0.toList == ([120,45,97,109,122,45,114,101,113,117,101,115,116,45,105,100]:List UInt8))=false:=beq_eq_false_iff_ne.mpr c4
 replace H:=itO H
 rcases H with⟨c5,H⟩|⟨c5,H⟩
 {
 have c5b0:(a0.toList == ([67,111,110,116,101,110,116,45,76,101,110,103,116,104]:List UInt8))=true:=beq_iff_eq.mpr c5
 clear c5
 obtain rfl:=Option.some.inj H
 go_enter Tryd.func27,Tryd.ntmps27
 go_wp2
 go_ret
 exact⟨rs,dr⟩
 }
 {
 have c5b0:(a0.toList == ([67,111,110,116,101,110,116,45,76,101,110,103,116,104]:List UInt8))=false:=beq_eq_false_iff_ne.mpr c5
 obtain rfl:=Option.some.inj H
 go_enter Tryd.func27,Tryd.ntmps27
 go_wp2
 go_ret
 exact⟨rs,dr⟩
 }
 }
 }
 }
end Go.Proofs.YtfjidcmegacibaaDoor.Q
