/- A part of the proof of the seat's laws. No condition beyond those in the theorems. -/
import Derived.Test.YtfjidcmegacibaaDoorZSqzB
import Derived.Test.YtfjidcmegacibaaDoorZQ0g11
import Derived.Test.YtfjidcmegacibaaDoorZBase
import Derived.Lib.ItoaLen

namespace Go.Proofs.YtfjidcmegacibaaDoor.Q
open Go.RowKit Go.Proofs.YtfjidcmegacibaaDoorW.PrintWords Go.Proofs.YtfjidcmegacibaaDoorW.PrintLast Go.Proofs.YtfjidcmegacibaaDoorW.PrintMore
set_option linter.unusedVariables false
set_option linter.unusedSimpArgs false
set_option maxHeartbeats 8000000
set_option maxRecDepth 100000
attribute [local go_sem] max2_int min2_int max_two min_two max_three min_three max_four min_four   
def reply_Phrase.f (a0:Int):Option (ByteArray):=if a0=100 then(some (⟨#[67,111,110,116,105,110,117,101]⟩ : ByteArray)) else(if a0=200 then(some (⟨#[79,75]⟩ : ByteArray)) else(if a0=204 then(some (⟨#[78,111,32,67,111,110,116,101,110,116]⟩ : ByteArray)) else(if a0=206 then(some (⟨#[80,97,114,116,105,97,108,32,67,111,110,116,101,110,116]⟩ : ByteArray)) else(if a0=304 then(some (⟨#[78,111,116,32,77,111,100,105,102,105,101,100]⟩ : ByteArray)) else(if a0=400 then(some (⟨#[66,97,100,32,82,101,113,117,101,115,116]⟩ : ByteArray)) else(if a0=403 then(some (⟨#[70,111,114,98,105,100,100,101,110]⟩ : ByteArray)) else(if a0=404 then(some (⟨#[78,111,116,32,70,111,117,110,100]⟩ : ByteArray)) else(if a0=405 then(some (⟨#[77,101,116,104,111,100,32,78,111,116,32,65,108,108,111,119,101,100]⟩ : ByteArray)) else(if a0=409 then(some (⟨#[67,111,110,102,108,105,99,116]⟩ : ByteArray)) else(if a0=412 then(some (⟨#[80,114,101,99,111,110,100,105,116,105,111,110,32,70,97,105,108,101,100]⟩ : ByteArray)) else(if a0=414 then(some (⟨#[85,82,73,32,84,111,111,32,76,111,110,103]⟩ : ByteArray)) else(if a0=416 then(some (⟨#[82,97,110,103,101,32,78,111,116,32,83,97,116,105,115,102,105,97,98,108,101]⟩ : ByteArray)) else(if a0=417 then(some (⟨#[69,120,112,101,99,116,97,116,105,111,110,32,70,97,105,108,101,100]⟩ : ByteArray)) else(if a0=431 then(some (⟨#[82,101,113,117,101,115,116,32,72,101,97,100,101,114,32,70,105,101,108,100,115,32,84,111,111,32,76,97,114,103,101]⟩ : ByteArray)) else(if a0=500 then(some (⟨#[73,110,116,101,114,110,97,108,32,83,101,114,118,101,114,32,69,114,114,111,114]⟩ : ByteArray)) else(if a0=501 then(some (⟨#[78,111,116,32,73,109,112,108,101,109,101,110,116,101,100]⟩ : ByteArray)) else(if a0=503 then(some (⟨#[83,101,114,118,105,99,101,32,85,110,97,118,97,105,108,97,98,108,101]⟩ : ByteArray)) else(if a0=505 then(some (⟨#[72,84,84,80,32,86,101,114,115,105,111,110,32,78,111,116,32,83,117,112,112,111,114,116,101,100]⟩ : ByteArray)) else(some (⟨#[85,110,107,110,111,119,110]⟩ : ByteArray))))))))))))))))))))
theorem reply_Phrase.calls (a0:Int) (r:ByteArray) (w:World) (h:reply_Phrase.f a0=some r) :
    Calls Tryd.prog 13 #[.int .i64 a0] w fun e w'=>e = .returned (.string r)∧Drawn0 w w':=by
 unfold reply_Phrase.f at h
 have H:=h
 clear h
 replace H:=itO H
 rcases H with⟨c2,H⟩|⟨c2,H⟩
 {
 have c2b0:(a0 == 100)=true:=beq_iff_eq.mpr c2
 clear c2
 obtain rfl:=Option.some.inj H
 go_enter Tryd.func13,Tryd.ntmps13
 go_wp2
 go_ret
 exact⟨rs,dr⟩
 }
 {
 have c2b0:(a0 == 100)=false:=beq_eq_false_iff_ne.mpr c2
 replace H:=itO H
 rcases H with⟨c3,H⟩|⟨c3,H⟩
 {
 have c3b0:(a0 == 200)=true:=beq_iff_eq.mpr c3
 clear c3
 obtain rfl:=Option.some.inj H
 go_enter Tryd.func13,Tryd.ntmps13
 go_wp2
 go_ret
 exact⟨rs,dr⟩
 }
 {
 have c3b0:(a0 == 200)=false:=beq_eq_false_iff_ne.mpr c3
 replace H:=itO H
 rcases H with⟨c4,H⟩|⟨c4,H⟩
 {
 have c4b0:(a0 == 204)=true:=beq_iff_eq.mpr c4
 clear c4
 obtain rfl:=Option.some.inj H
 go_enter Tryd.func13,Tryd.ntmps13
 go_wp2
 go_ret
 exact⟨rs,dr⟩
 }
 {
 have c4b0:(a0 == 204)=false:=beq_eq_false_iff_ne.mpr c4
 replace H:=itO H
 rcases H with⟨c5,H⟩|⟨c5,H⟩
 {
 have c5b0:(a0 == 206)=true:=beq_iff_eq.mpr c5
 clear c5
 obtain rfl:=Option.some.inj H
 go_enter Tryd.func13,Tryd.ntmps13
 go_wp2
 go_ret
 exact⟨rs,dr⟩
 }
 {
 have c5b0:(a0 == 206)=false:=beq_eq_false_iff_ne.mpr c5
 replace H:=itO H
 rcases H with⟨c6,H⟩|⟨c6,H⟩
 {
 have c6b0:(a0 == 304)=true:=beq_iff_eq.mpr c6
 clear c6
 obtain rfl:=Option.some.inj H
 go_enter Tryd.func13,Tryd.ntmps13
 go_wp2
 go_ret
 exact⟨rs,dr⟩
 }
 {
 have c6b0:(a0 == 304)=false:=beq_eq_false_iff_ne.mpr c6
 replace H:=itO H
 rcases H with⟨c7,H⟩|⟨c7,H⟩
 {
 have c7b0:(a0 == 400)=true:=beq_iff_eq.mpr c7
 clear c7
 obtain rfl:=Option.some.inj H
 go_enter Tryd.func13,Tryd.ntmps13
 go_wp2
 go_ret
 exact⟨rs,dr⟩
 }
 {
 have c7b0:(a0 == 400)=false:=beq_eq_false_iff_ne.mpr c7
 replace H:=itO H
 rcases H with⟨c8,H⟩|⟨c8,H⟩
 {
 have c8b0:(a0 == 403)=true:=beq_iff_eq.mpr c8
 clear c8
 obtain rfl:=Option.some.inj H
 go_enter Tryd.func13,Tryd.ntmps13
 go_wp2
 go_ret
 exact⟨rs,dr⟩
 }
 {
 have c8b0:(a0 == 403)=false:=beq_eq_false_iff_ne.mpr c8
 replace H:=itO H
 rcases H with⟨c9,H⟩|⟨c9,H⟩
 {
 have c9b0:(a0 == 404)=true:=beq_iff_eq.mpr c9
 clear c9
 obtain rfl:=Option.some.inj H
 go_enter Tryd.func13,Tryd.ntmps13
 go_wp2
 go_ret
 exact⟨rs,dr⟩
 }
 {
 have c9b0:(a0 == 404)=false:=beq_eq_false_iff_ne.mpr c9
 replace H:=itO H
 rcases H with⟨c10,H⟩|⟨c10,H⟩
 {
 have c10b0:(a0 == 405)=true:=beq_iff_eq.mpr c10
 clear c10
 obtain rfl:=Option.some.inj H
 go_enter Tryd.func13,Tryd.ntmps13
 go_wp2
 go_ret
 exact⟨rs,dr⟩
 }
 {
 have c10b0:(a0 == 405)=false:=beq_eq_false_iff_ne.mpr c10
 replace H:=itO H
 rcases H with⟨c11,H⟩|⟨c11,H⟩
 {
 have c11b0:(a0 == 409)=true:=beq_iff_eq.mpr c11
 clear c11
 obtain rfl:=Option.some.inj H
 go_enter Tryd.func13,Tryd.ntmps13
 go_wp2
 go_ret
 exact⟨rs,dr⟩
 }
 {
 have c11b0:(a0 == 409)=false:=beq_eq_false_iff_ne.mpr c11
 replace H:=itO H
 rcases H with⟨c12,H⟩|⟨c12,H⟩
 {
 have c12b0:(a0 == 412)=true:=beq_iff_eq.mpr c12
 clear c12
 obtain rfl:=Option.some.inj H
 go_enter Tryd.func13,Tryd.ntmps13
 go_wp2
 go_ret
 exact⟨rs,dr⟩
 }
 {
 have c12b0:(a0 == 412)=false:=beq_eq_false_iff_ne.mpr c12
 replace H:=itO H
 rcases H with⟨c13,H⟩|⟨c13,H⟩
 {
 have c13b0:(a0 == 414)=true:=beq_iff_eq.mpr c13
 clear c13
 obtain rfl:=Option.some.inj H
 go_enter Tryd.func13,Tryd.ntmps13
 go_wp2
 go_ret
 exact⟨rs,dr⟩
 }
 {
 have c13b0:(a0 == 414)=false:=beq_eq_false_iff_ne.mpr c13
 replace H:=itO H
 rcases H with⟨c14,H⟩|⟨c14,H⟩
 {
 have c14b0:(a0 == 416)=true:=beq_iff_eq.mpr c14
 clear c14
 obtain rfl:=Option.some.inj H
 go_enter Tryd.func13,Tryd.ntmps13
 go_wp2
 go_ret
 exact⟨rs,dr⟩
 }
 {
 have c14b0:(a0 == 416)=false:=beq_eq_false_iff_ne.mpr c14
 replace H:=itO H
 rcases H with⟨c15,H⟩|⟨c15,H⟩
 {
 have c15b0:(a0 == 417)=true:=beq_iff_eq.mpr c15
 clear c15
 obtain rfl:=Option.some.inj H
 go_enter Tryd.func13,Tryd.ntmps13
 go_wp2
 go_ret
 exact⟨rs,dr⟩
 }
 {
 have c15b0:(a0 == 417)=false:=beq_eq_false_iff_ne.mpr c15
 replace H:=itO H
 rcases H with⟨c16,H⟩|⟨c16,H⟩
 {
 have c16b0:(a0 == 431)=true:=beq_iff_eq.mpr c16
 clear c16
 obtain rfl:=Option.some.inj H
 go_enter Tryd.func13,Tryd.ntmps13
 go_wp2
 go_ret
 exact⟨rs,dr⟩
 }
 {
 have c16b0:(a0 == 431)=false:=beq_eq_false_iff_ne.mpr c16
 replace H:=itO H
 rcases H with⟨c17,H⟩|⟨c17,H⟩
 {
 have c17b0:(a0 == 500)=true:=beq_iff_eq.mpr c17
 clear c17
 obtain rfl:=Option.some.inj H
 go_enter Tryd.func13,Tryd.ntmps13
 go_wp2
 go_ret
 exact⟨rs,dr⟩
 }
 {
 have c17b0:(a0 == 500)=false:=beq_eq_false_iff_ne.mpr c17
 replace H:=itO H
 rcases H with⟨c18,H⟩|⟨c18,H⟩
 {
 have c18b0:(a0 == 501)=true:=beq_iff_eq.mpr c18
 clear c18
 obtain rfl:=Option.some.inj H
 go_enter Tryd.func13,Tryd.ntmps13
 go_wp2
 go_ret
 exact⟨rs,dr⟩
 }
 {
 have c18b0:(a0 == 501)=false:=beq_eq_false_iff_ne.mpr c18
 replace H:=itO H
 rcases H with⟨c19,H⟩|⟨c19,H⟩
 {
 have c19b0:(a0 == 503)=true:=beq_iff_eq.mpr c19
 clear c19
 obtain rfl:=Option.some.inj H
 go_enter Tryd.func13,Tryd.ntmps13
 go_wp2
 go_ret
 exact⟨rs,dr⟩
 }
 {
 have c19b0:(a0 == 503)=false:=beq_eq_false_iff_ne.mpr c19
 replace H:=itO H
 rcases H with⟨c20,H⟩|⟨c20,H⟩
 {
 have c20b0:(a0 == 505)=true:=beq_iff_eq.mpr c20
 clear c20
 obtain rfl:=Option.some.inj H
 go_enter Tryd.func13,Tryd.ntmps13
 go_wp2
 go_ret
 exact⟨rs,dr⟩
 }
 {
 have c20b0:(a0 == 505)=false:=beq_eq_false_iff_ne.mpr c20
 obtain rfl:=Option.some.inj H
 go_enter Tryd.func13,Tryd.ntmps13
 go_wp2
 go_ret
 exact⟨rs,dr⟩
 }
 }
 }
 }
 }
 }
 }
 }
 }
 }
 }
 }
 }
 }
 }
 }
 }
 }
 }
def reply_Bare.f (a0:Int):Option (Bool):=if a0=100 then(some true) else(if a0=204 then(some true) else(some (a0 == 304)))
theorem reply_Bare.calls (a0:Int) (r:Bool) (w:World) (h:reply_Bare.f a0=some r) :
    Calls Tryd.prog 15 #[.int .i64 a0] w fun e w'=>e = .returned (.bool r)∧Drawn0 w w':=by
 unfold reply_Bare.f at h
 have H:=h
 clear h
 replace H:=itO H
 rcases H with⟨c2,H⟩|⟨c2,H⟩
 {
 have c2b0:(a0 == 100)=true:=beq_iff_eq.mpr c2
 have c2b1:(a0 != 100)=false:=bne_eq_false_iff_eq.mpr c2
 clear c2
 obtain rfl:=Option.some.inj H
 go_enter Tryd.func15,Tryd.ntmps15
 go_wp2
 go_ret
 exact⟨rs,dr⟩
 }
 {
 have c2b0:(a0 == 100)=false:=beq_eq_false_iff_ne.mpr c2
 have c2b1:(a0 != 100)=true:=bne_iff_ne.mpr c2
 replace H:=itO H
 rcases H with⟨c3,H⟩|⟨c3,H⟩
 {
 have c3b0:(a0 == 204)=true:=beq_iff_eq.mpr c3
 have c3b1:(a0 != 204)=false:=bne_eq_false_iff_eq.mpr c3
 clear c3
 obtain rfl:=Option.some.inj H
 go_enter Tryd.func15,Tryd.ntmps15
 go_wp2
 go_ret
 exact⟨rs,dr⟩
 }
 {
 have c3b0:(a0 == 204)=false:=beq_eq_false_iff_ne.mpr c3
 have c3b1:(a0 != 204)=true:=bne_iff_ne.mpr c3
 obtain rfl:=Option.some.inj H
 go_enter Tryd.func15,Tryd.ntmps15
 go_wp2
 go_ret
 exact⟨rs,dr⟩
 }
 }
def enc_Text.f (a0:Int):Option ByteArray:=if -9223372036854775808≤a0∧a0≤9223372036854775807 then some ⟨(Lib.itoa a0).toArray⟩ else none
theorem enc_Text.calls (a0:Int) (r:ByteArray) (w:World) (hG:GOk w) (h:enc_Text.f a0=some r) :
    Calls Tryd.prog 30 #[.int .i64 a0] w fun e w'=>e = .returned (.string r)∧Below w.heap.size w w':=by
 unfold enc_Text.f at h
 by_cases c:-9223372036854775808≤a0∧a0≤9223372036854775807
 {
 rw [if_pos c] at h
 obtain rfl:=Option.some.inj h
 go_enter Tryd.func30,Tryd.ntmps30
 go_wp2_with (first|(go_at_call 47;(with_reducible refine(Tryd.strconv_Itoa a0 c.1 c.2 _ (gok_tab hG)).mono ?_);rintro e w9 ⟨rfl,⟨k,os,rfl⟩⟩))
 go_ret
 exact⟨rfl,rfl,rfl,rfl,by show w.heap.size≤(w.heap++os).size;rw [Array.size_append];omega,fun i hi=>by show(w.heap++os)[i]? = _;rw [Array.getElem?_append_left hi]⟩
 }
 ·rw [if_neg c] at h;cases h
def when_is.f (a0:Int):Option (Bool):=if a0 ≥ 0 then(some (decide (a0≤253402300799))) else(some false)
theorem when_is.calls (a0:Int) (r:Bool) (w:World) (h:when_is.f a0=some r) :
    Calls Tryd.prog 73 #[.int .i64 a0] w fun e w'=>e = .returned (.bool r)∧Drawn0 w w':=by
 unfold when_is.f at h
 have H:=h
 clear h
 replace H:=itO H
 rcases H with⟨c2,H⟩|⟨c2,H⟩
 {
 have c2b0:decide (0≤a0)=true:=decide_eq_true c2
 clear c2
 obtain rfl:=Option.some.inj H
 go_enter Tryd.func73,Tryd.ntmps73
 go_wp2
 go_ret
 exact⟨rs,dr⟩
 }
 {
 have c2b0:decide (0≤a0)=false:=decide_eq_false c2
 clear c2
 obtain rfl:=Option.some.inj H
 go_enter Tryd.func73,Tryd.ntmps73
 go_wp2
 go_ret
 exact⟨rs,dr⟩
 }
def when_before.f (a0:Int):Option (Int):=some (wrap64 ((wrap64 ((wrap64 ((wrap64 ((wrap64 ((wrap64 (a0-1))*365))+(wrap64 (Int.tdiv (wrap64 (a0-1)) 4))))-(wrap64 (Int.tdiv (wrap64 (a0-1)) 100))))+(wrap64 (Int.tdiv (wrap64 (a0-1)) 400))))-719162))
theorem when_before.calls (a0:Int) (r:Int) (w:World) (h:when_before.f a0=some r) :
    Calls Tryd.prog 74 #[.int .i64 a0] w fun e w'=>e = .returned (.int .i64 r)∧Drawn0 w w':=by
 unfold when_before.f at h
 have H:=h
 clear h
 obtain rfl:=Option.some.inj H
 go_enter Tryd.func74,Tryd.ntmps74
 go_wp2
 go_ret
 exact⟨rs,dr⟩
def when_size.j0:Nat→Int→Int→Bool→Option (Int)
  | 0,_,_,_=>none
  | k+1,x0,x5,x6=>if x6=true then(some 30) else(if x5=11 then(some 30) else(if x5=2 then(if(Int.tmod x0 4)=0 then(if(Int.tmod x0 100)=0 then(if(Int.tmod x0 400)=0 then(some 29) else(some 28)) else(some 29)) else(some 28)) else(some 31)))
def when_size.f (k:Nat) (a0:Int) (a1:Int):Option (Int):=if a1=4 then(when_size.j0 k a0 a1 (a1 == 4)) else(if a1=6 then(when_size.j0 k a0 a1 (a1 == 6)) else(when_size.j0 k a0 a1 (a1 == 9)))
theorem when_size.mono_l:∀ k,(∀ y0 y1 y2,LeO (when_size.j0 k y0 y1 y2) (when_size.j0 (k+1) y0 y1 y2))
  | 0=>fun _ _ _ r h=>by simp [when_size.j0] at h
  | k+1=>by
    have ih0:=when_size.mono_l k
    · intro y0 y1 y2
      unfold when_size.j0
      with_reducible repeat' first|exact ih0 _ _ _|exact LeO.refl _|exact LeO.none _|refine LeO.ite ?_ ?_|refine LeO.bind ?_ (fun _=>?_)
theorem when_size.mono:∀ a0 a1 k,LeO (when_size.f k a0 a1) (when_size.f (k+1) a0 a1):=by
 intro a0 a1 k
 have ih0:=when_size.mono_l k
 unfold when_size.f
 with_reducible repeat' first|exact ih0 _ _ _|exact LeO.refl _|exact LeO.none _|refine LeO.ite ?_ ?_|refine LeO.bind ?_ (fun _=>?_)
theorem when_size.calls (k:Nat) (a0:Int) (a1:Int) (r:Int) (w:World) (h:when_size.f k a0 a1=some r) :
    Calls Tryd.prog 75 #[.int .i64 a0,.int .i64 a1] w fun e w'=>e = .returned (.int .i64 r)∧Drawn0 w w':=by
 unfold when_size.f at h
 have H:=h
 clear h
 have HC3:=Aside0.mk H
 clear H
 go_enter Tryd.func75,Tryd.ntmps75
 go_upto_if 6 with(fail)
 go_cut [6] (fun v6 wc=>∃ (kq:Nat) (x6_2:Bool),v6 = .bool x6_2∧Aside0 (when_size.j0 kq a0 a1 x6_2=some r)∧Aside0 (kq≤k)∧Drawn0 w wc)
 case first=>
  have H:=HC3.out
  clear HC3
  replace H:=itO H
  rcases H with⟨c4,H⟩|⟨c4,H⟩
  {
  have c4b0:(a1 == 4)=true:=beq_iff_eq.mpr c4
  have c4b1:(a1 != 4)=false:=bne_eq_false_iff_eq.mpr c4
  clear c4
  (first|rw [c4b0]|(simp only [i64_w,i32_w];rw [c4b0])|skip)
  have H':=Aside0.mk H
  clear H
  go_wp2
  go_meet
  case rel=>exact⟨_,((a1 == 4)),rs,H',⟨by first|omega|exact Nat.le_refl _⟩,by repeat (first|exact Drawn0.refl _|apply Drawn0.step)⟩
  }
  {
  have c4b0:(a1 == 4)=false:=beq_eq_false_iff_ne.mpr c4
  have c4b1:(a1 != 4)=true:=bne_iff_ne.mpr c4
  (first|rw [c4b0]|(simp only [i64_w,i32_w];rw [c4b0])|skip)
  replace H:=itO H
  rcases H with⟨c5,H⟩|⟨c5,H⟩
  {
  have c5b0:(a1 == 6)=true:=beq_iff_eq.mpr c5
  have c5b1:(a1 != 6)=false:=bne_eq_false_iff_eq.mpr c5
  clear c5
  have H':=Aside0.mk H
  clear H
  go_wp2
  go_meet
  case rel=>exact⟨_,((a1 == 6)),rs,H',⟨by first|omega|exact Nat.le_refl _⟩,by repeat (first|exact Drawn0.refl _|apply Drawn0.step)⟩
  }
  {
  have c5b0:(a1 == 6)=false:=beq_eq_false_iff_ne.mpr c5
  have c5b1:(a1 != 6)=true:=bne_iff_ne.mpr c5
  have H':=Aside0.mk H
  clear H
  go_wp2
  go_meet
  case rel=>exact⟨_,((a1 == 9)),rs,H',⟨by first|omega|exact Nat.le_refl _⟩,by repeat (first|exact Drawn0.refl _|apply Drawn0.step)⟩
  }
  }
 case rest=>
  clear HC3
  obtain⟨kq,x6_2,rfl,HA,HJ2,⟨mc2,rfl⟩⟩:=hcut
  cases kq with
  | zero=>exact absurd HA.out (by simp [when_size.j0])
  | succ kj2=>
   have H:=HA.out
   clear HA
   simp only [when_size.j0] at H
   by_cases c6:x6_2=true
   {
   subst c6
   replace H:=itT H
   obtain rfl:=Option.some.inj H
   go_wp2
   go_ret
   exact⟨rs,dr⟩
   }
   {
   replace c6:=Bool.eq_false_iff.mpr c6
   subst c6
   replace H:=itF H
   replace H:=itO H
   rcases H with⟨c7,H⟩|⟨c7,H⟩
   {
   have c7b0:(a1 == 11)=true:=beq_iff_eq.mpr c7
   have c7b1:(a1 != 11)=false:=bne_eq_false_iff_eq.mpr c7
   clear c7
   obtain rfl:=Option.some.inj H
   go_wp2
   go_ret
   exact⟨rs,dr⟩
   }
   {
   have c7b0:(a1 == 11)=false:=beq_eq_false_iff_ne.mpr c7
   have c7b1:(a1 != 11)=true:=bne_iff_ne.mpr c7
   replace H:=itO H
   rcases H with⟨c8,H⟩|⟨c8,H⟩
   {
   have c8b0:(a1 == 2)=true:=beq_iff_eq.mpr c8
   have c8b1:(a1 != 2)=false:=bne_eq_false_iff_eq.mpr c8
   clear c8
   replace H:=itO H
   rcases H with⟨c9,H⟩|⟨c9,H⟩
   {
   have c9b0:((Int.tmod a0 4) == 0)=true:=beq_iff_eq.mpr c9
   have c9b1:((Int.tmod a0 4) != 0)=false:=bne_eq_false_iff_eq.mpr c9
   clear c9
   replace H:=itO H
   rcases H with⟨c10,H⟩|⟨c10,H⟩
   {
   have c10b0:((Int.tmod a0 100) == 0)=true:=beq_iff_eq.mpr c10
   have c10b1:((Int.tmod a0 100) != 0)=false:=bne_eq_false_iff_eq.mpr c10
   clear c10
   replace H:=itO H
   rcases H with⟨c11,H⟩|⟨c11,H⟩
   {
   have c11b0:((Int.tmod a0 400) == 0)=true:=beq_iff_eq.mpr c11
   have c11b1:((Int.tmod a0 400) != 0)=false:=bne_eq_false_iff_eq.mpr c11
   clear c11
   obtain rfl:=Option.some.inj H
   go_wp2
   go_ret
   exact⟨rs,dr⟩
   }
   {
   have c11b0:((Int.tmod a0 400) == 0)=false:=beq_eq_false_iff_ne.mpr c11
   have c11b1:((Int.tmod a0 400) != 0)=true:=bne_iff_ne.mpr c11
   obtain rfl:=Option.some.inj H
   go_wp2
   go_ret
   exact⟨rs,dr⟩
   }
   }
   {
   have c10b0:((Int.tmod a0 100) == 0)=false:=beq_eq_false_iff_ne.mpr c10
   have c10b1:((Int.tmod a0 100) != 0)=true:=bne_iff_ne.mpr c10
   obtain rfl:=Option.some.inj H
   go_wp2
   go_ret
   exact⟨rs,dr⟩
   }
   }
   {
   have c9b0:((Int.tmod a0 4) == 0)=false:=beq_eq_false_iff_ne.mpr c9
   have c9b1:((Int.tmod a0 4) != 0)=true:=bne_iff_ne.mpr c9
   obtain rfl:=Option.some.inj H
   go_wp2
   go_ret
   exact⟨rs,dr⟩
   }
   }
   {
   have c8b0:(a1 == 2)=false:=beq_eq_false_iff_ne.mpr c8
   have c8b1:(a1 != 2)=true:=bne_iff_ne.mpr c8
   obtain rfl:=Option.some.inj H
   go_wp2
   go_ret
   exact⟨rs,dr⟩
   }
   }
   }
mutual
def when_Civil.l0:Nat→Int→Int→Int→Option (Int×Int×Int×Int×Int×Int×Bool)
  | 0,_,_,_=>none
  | k+1,x0,x2,x9=>(when_before.f (wrap64 (x2+1))).bind fun t264=>(if t264≤x9 then(when_Civil.l0 k x0 (wrap64 (x2+1)) x9) else((when_before.f x2).bind fun t265=>(when_Civil.l1 k x0 x2 1 (wrap64 (x9-t265)))))
def when_Civil.l1:Nat→Int→Int→Int→Int→Option (Int×Int×Int×Int×Int×Int×Bool)
  | 0,_,_,_,_=>none
  | k+1,x0,x2,x3,x9=>(when_size.f k x2 x3).bind fun t266=>(if x9 ≥ t266 then((when_size.f k x2 x3).bind fun t267=>(when_Civil.l1 k x0 x2 (wrap64 (x3+1)) (wrap64 (x9-t267)))) else(some (x2,x3,wrap64 (x9+1),Int.tmod (wrap64 (Int.tdiv x0 3600)) 24,Int.tmod (wrap64 (Int.tdiv x0 60)) 60,Int.tmod x0 60,true)))
end
def when_Civil.f (k:Nat) (a0:Int):Option (Int×Int×Int×Int×Int×Int×Bool):=(when_is.f a0).bind fun t263=>(if t263=true then(when_Civil.l0 k a0 (wrap64 (1970+(wrap64 (Int.tdiv (wrap64 (Int.tdiv a0 86400)) 366)))) (wrap64 (Int.tdiv a0 86400))) else(some (0,0,0,0,0,0,false)))
theorem when_Civil.mono_l:∀ k,(∀ y0 y1 y2,LeO (when_Civil.l0 k y0 y1 y2) (when_Civil.l0 (k+1) y0 y1 y2))∧(∀ y0 y1 y2 y3,LeO (when_Civil.l1 k y0 y1 y2 y3) (when_Civil.l1 (k+1) y0 y1 y2 y3))
  | 0=>⟨fun _ _ _ r h=>by simp [when_Civil.l0] at h,fun _ _ _ _ r h=>by simp [when_Civil.l1] at h⟩
  | k+1=>by
    obtain⟨ih0,ih1⟩:=when_Civil.mono_l k
    refine⟨?_,?_⟩
    · intro y0 y1 y2
      unfold when_Civil.l0
      with_reducible repeat' first|exact ih0 _ _ _|exact ih1 _ _ _ _|exact when_size.mono _ _ _|exact LeO.refl _|exact LeO.none _|refine LeO.ite ?_ ?_|refine LeO.bind ?_ (fun _=>?_)
    · intro y0 y1 y2 y3
      unfold when_Civil.l1
      with_reducible repeat' first|exact ih0 _ _ _|exact ih1 _ _ _ _|exact when_size.mono _ _ _|exact LeO.refl _|exact LeO.none _|refine LeO.ite ?_ ?_|refine LeO.bind ?_ (fun _=>?_)
theorem when_Civil.mono:∀ a0 k,LeO (when_Civil.f k a0) (when_Civil.f (k+1) a0):=by
 intro a0 k
 obtain⟨ih0,ih1⟩:=when_Civil.mono_l k
 unfold when_Civil.f
 with_reducible repeat' first|exact ih0 _ _ _|exact ih1 _ _ _ _|exact when_size.mono _ _ _|exact LeO.refl _|exact LeO.none _|refine LeO.ite ?_ ?_|refine LeO.bind ?_ (fun _=>?_)
theorem when_Civil.calls (k:Nat) (a0:Int) (r1:Int) (r2:Int) (r3:Int) (r4:Int) (r5:Int) (r6:Int) (r7:Bool) (w:World) (h:when_Civil.f k a0=some (r1,r2,r3,r4,r5,r6,r7)) :
    Calls Tryd.prog 48 #[.int .i64 a0] w fun e w'=>e = .returned (.tuple #[.int .i64 r1,.int .i64 r2,.int .i64 r3,.int .i64 r4,.int .i64 r5,.int .i64 r6,.bool r7])∧Drawn0 w w':=by
 unfold when_Civil.f at h
 have H:=h
 clear h
 replace H:=bndO H
 obtain⟨t263,A20,H⟩:=H
 have A2:=Aside0.mk A20
 clear A20
 by_cases c3:t263=true
 {
 subst c3
 replace H:=itT H
 have H':=Aside0.mk H
 clear H
 go_enter Tryd.func48,Tryd.ntmps48
 go_wp2_with (first|((with_reducible refine gate_callee (f:=73) rfl ?_);refine goesL_ (some 11) rfl rfl Tryd.func73 kr rfl #[.int .i64 a0] rfl am ?_;(with_reducible refine(when_is.calls a0 true _ A2.out).mono ?_);rintro e w' ⟨rfl,⟨nd,rfl⟩⟩;refine⟨_,rfl,?_⟩))
 go_loopg [2] k (fun kq v2 w'=>∃ (x2_1:Int),v2 = .int .i64 x2_1∧Aside0 (when_Civil.l0 kq a0 x2_1 (wrap64 (Int.tdiv a0 86400))=some (r1,r2,r3,r4,r5,r6,r7))∧Aside0 (kq≤k)∧Drawn0 w w')
 case atStart=>exact⟨(wrap64 (1970+(wrap64 (Int.tdiv (wrap64 (Int.tdiv a0 86400)) 366)))),rs,H',⟨Nat.le_refl _⟩,by repeat (first|exact Drawn0.refl _|apply Drawn0.step)⟩
 case round=>
  clear H'
  obtain⟨x2_1,rfl,HA,HK1,⟨m1,rfl⟩⟩:=hrel
  cases gk with
  | zero=>exact absurd HA.out (by simp [when_Civil.l0])
  | succ k1=>
   have H:=HA.out
   clear HA
   simp only [when_Civil.l0] at H
   replace H:=bndO H
   obtain⟨t264,A40,H⟩:=H
   have A4:=Aside0.mk A40
   clear A40
   replace H:=itO H
   rcases H with⟨c5,H⟩|⟨c5,H⟩
   {
   have c5b0:decide (t264≤(wrap64 (Int.tdiv a0 86400)))=true:=decide_eq_true c5
   clear c5
   have H':=Aside0.mk H
   clear H
   go_wp2_with (first|((with_reducible refine gate_callee (f:=74) rfl ?_);refine goesL_ (some 20) rfl rfl Tryd.func74 kr rfl #[.int .i64 (wrap64 (x2_1+1))] rfl am ?_;(with_reducible refine(when_before.calls (wrap64 (x2_1+1)) t264 _ A4.out).mono ?_);rintro e w' ⟨rfl,⟨nd,rfl⟩⟩;refine⟨_,rfl,?_⟩))
   go_roundg k1
   case measure=>have:=HK1.out;omega
   case rel=>exact⟨(wrap64 (x2_1+1)),rs,H',⟨by have:=HK1.out;omega⟩,by repeat (first|exact Drawn0.refl _|apply Drawn0.step)⟩
   }
   {
   have c5b0:decide (t264≤(wrap64 (Int.tdiv a0 86400)))=false:=decide_eq_false c5
   clear c5
   replace H:=bndO H
   obtain⟨t265,A60,H⟩:=H
   have A6:=Aside0.mk A60
   clear A60
   have H':=Aside0.mk H
   clear H
   go_wp2_with (first|((with_reducible refine gate_callee (f:=74) rfl ?_);refine goesL_ (some 20) rfl rfl Tryd.func74 kr rfl #[.int .i64 (wrap64 (x2_1+1))] rfl am ?_;(with_reducible refine(when_before.calls (wrap64 (x2_1+1)) t264 _ A4.out).mono ?_);rintro e w' ⟨rfl,⟨nd,rfl⟩⟩;refine⟨_,rfl,?_⟩)|((with_reducible refine gate_callee (f:=74) rfl ?_);refine goesL_ (some 27) rfl rfl Tryd.func74 kr rfl #[.int .i64 x2_1] rfl am ?_;(with_reducible refine(when_before.calls x2_1 t265 _ A6.out).mono ?_);rintro e w' ⟨rfl,⟨nd,rfl⟩⟩;refine⟨_,rfl,?_⟩))
   go_loopg [3,9] k1 (fun kq v3 v9 w'=>∃ (x3_2:Int) (x9_2:Int),v3 = .int .i64 x3_2∧v9 = .int .i64 x9_2∧Aside0 (when_Civil.l1 kq a0 x2_1 x3_2 x9_2=some (r1,r2,r3,r4,r5,r6,r7))∧Aside0 (kq≤k1)∧Drawn0 w w')
   case atStart=>exact⟨(1),(wrap64 ((wrap64 (Int.tdiv a0 86400))-t265)),rs,rs,H',⟨Nat.le_refl _⟩,by repeat (first|exact Drawn0.refl _|apply Drawn0.step)⟩
   case round=>
    clear H'
    obtain⟨x3_2,x9_2,rfl,rfl,HA,HK2,⟨m2,rfl⟩⟩:=hrel
    cases gk with
    | zero=>exact absurd HA.out (by simp [when_Civil.l1])
    | succ k2=>
     have H:=HA.out
     clear HA
     simp only [when_Civil.l1] at H
     replace H:=bndO H
     obtain⟨t266,A70,H⟩:=H
     have A7:=Aside0.mk A70
     clear A70
     replace H:=itO H
     rcases H with⟨c8,H⟩|⟨c8,H⟩
     {
     have c8b0:decide (t266≤x9_2)=true:=decide_eq_true c8
     clear c8
     replace H:=bndO H
     obtain⟨t267,A90,H⟩:=H
     have A9:=Aside0.mk A90
     clear A90
     have H':=Aside0.mk H
     clear H
     go_wp2_with (first|((with_reducible refine gate_callee (f:=75) rfl ?_);refine goesL_ (some 32) rfl rfl Tryd.func75 kr rfl #[.int .i64 x2_1,.int .i64 x3_2] rfl am ?_;(with_reducible refine(when_size.calls k2 x2_1 x3_2 t266 _ A7.out).mono ?_);rintro e w' ⟨rfl,⟨nd,rfl⟩⟩;refine⟨_,rfl,?_⟩)|((with_reducible refine gate_callee (f:=75) rfl ?_);refine goesL_ (some 37) rfl rfl Tryd.func75 kr rfl #[.int .i64 x2_1,.int .i64 x3_2] rfl am ?_;(with_reducible refine(when_size.calls k2 x2_1 x3_2 t267 _ A9.out).mono ?_);rintro e w' ⟨rfl,⟨nd,rfl⟩⟩;refine⟨_,rfl,?_⟩))
     go_roundg k2
     case measure=>have:=HK1.out;have:=HK2.out;omega
     case rel=>exact⟨(wrap64 (x3_2+1)),(wrap64 (x9_2-t267)),rs,rs,H',⟨by have:=HK1.out;have:=HK2.out;omega⟩,by repeat (first|exact Drawn0.refl _|apply Drawn0.step)⟩
     }
     {
     have c8b0:decide (t266≤x9_2)=false:=decide_eq_false c8
     clear c8
     simp only [Option.some.injEq,Prod.mk.injEq] at H
     obtain⟨rfl,rfl,rfl,rfl,rfl,rfl,rfl⟩:=H
     go_wp2_with (first|((with_reducible refine gate_callee (f:=75) rfl ?_);refine goesL_ (some 32) rfl rfl Tryd.func75 kr rfl #[.int .i64 x2_1,.int .i64 x3_2] rfl am ?_;(with_reducible refine(when_size.calls k2 x2_1 x3_2 t266 _ A7.out).mono ?_);rintro e w' ⟨rfl,⟨nd,rfl⟩⟩;refine⟨_,rfl,?_⟩))
     refine bodyPost_ret (results_list (rs:=[.tmp 2,.tmp 3,.tmp 4,.tmp 5,.tmp 6,.tmp 7,.tmp 8]) rfl (by simp) (.tmp (.tmp (.tmp (.tmp (.tmp (.tmp (.tmp .nil)))))))) rfl ?_
     exact⟨rs,dr⟩
     }
   }
 }
 {
 replace c3:=Bool.eq_false_iff.mpr c3
 subst c3
 replace H:=itF H
 simp only [Option.some.injEq,Prod.mk.injEq] at H
 obtain⟨rfl,rfl,rfl,rfl,rfl,rfl,rfl⟩:=H
 go_enter Tryd.func48,Tryd.ntmps48
 go_wp2_with (first|((with_reducible refine gate_callee (f:=73) rfl ?_);refine goesL_ (some 11) rfl rfl Tryd.func73 kr rfl #[.int .i64 a0] rfl am ?_;(with_reducible refine(when_is.calls a0 false _ A2.out).mono ?_);rintro e w' ⟨rfl,⟨nd,rfl⟩⟩;refine⟨_,rfl,?_⟩))
 refine bodyPost_ret (results_list (rs:=[.tmp 2,.tmp 3,.tmp 4,.tmp 5,.tmp 6,.tmp 7,.tmp 8]) rfl (by simp) (.tmp (.tmp (.tmp (.tmp (.tmp (.tmp (.tmp .nil)))))))) rfl ?_
 exact⟨rs,dr⟩
 }
def when_put.l0:Nat→Int→List Int→Int→Option (ByteArray)
  | 0,_,_,_=>none
  | k+1,x0,x5,x6=>if x6 ≥ 0 then(if 0≤x6 then(if x6<(x5.length:Int) then(when_put.l0 k (wrap64 (Int.tdiv x0 10)) (x5.set (x6:Int).toNat ((48+((Int.tmod x0 10) % 256)) % 256)) (wrap64 (x6-1))) else(none)) else(none)) else(some (strOfNums x5))
def when_put.f (k:Nat) (a0:Int) (a1:Int):Option (ByteArray):=if 0≤a1 then(if(a1:Int).toNat≤281474976710656 then(when_put.l0 k a0 (List.replicate (a1:Int).toNat 0) (wrap64 (a1-1))) else(none)) else(none)
theorem when_put.mono_l:∀ k,(∀ y0 y1 y2,LeO (when_put.l0 k y0 y1 y2) (when_put.l0 (k+1) y0 y1 y2))
  | 0=>fun _ _ _ r h=>by simp [when_put.l0] at h
  | k+1=>by
    have ih0:=when_put.mono_l k
    · intro y0 y1 y2
      unfold when_put.l0
      with_reducible repeat' first|exact ih0 _ _ _|exact LeO.refl _|exact LeO.none _|refine LeO.ite ?_ ?_|refine LeO.bind ?_ (fun _=>?_)
theorem when_put.mono:∀ a0 a1 k,LeO (when_put.f k a0 a1) (when_put.f (k+1) a0 a1):=by
 intro a0 a1 k
 have ih0:=when_put.mono_l k
 unfold when_put.f
 with_reducible repeat' first|exact ih0 _ _ _|exact LeO.refl _|exact LeO.none _|refine LeO.ite ?_ ?_|refine LeO.bind ?_ (fun _=>?_)
theorem when_put.calls (k:Nat) (a0:Int) (a1:Int) (r:ByteArray) (w:World) (h:when_put.f k a0 a1=some r) :
    Calls Tryd.prog 49 #[.int .i64 a0,.int .i64 a1] w fun e w'=>e = .returned (.string r)∧Below w.heap.size w w':=by
 have HB:=Aside0.mk (Below.refl w.heap.size w)
 unfold when_put.f at h
 have H:=h
 clear h
 replace H:=itO H
 rcases H with⟨c3,H⟩|⟨c3,H⟩
 {
 have c3b0:=eq_true c3
 have c3b1:=decide_eq_true c3
 clear c3
 replace H:=itO H
 rcases H with⟨c4,H⟩|⟨c4,H⟩
 {
 have c4b0:=eq_true c4
 have c4b1:=decide_eq_true c4
 clear c4
 obtain⟨y268,hy268⟩ : ∃ y_:List Int,y_=(List.replicate (a1:Int).toNat 0):=⟨_,rfl⟩
 replace H:(when_put.l0 k a0 y268 (wrap64 (a1-1)))=some r:=by first|(rw [hy268];with_reducible exact H)|(have H2_:=(Option.bind_some _ _).symm.trans H;rw [hy268];with_reducible exact H2_)|(have H2_:=(Option.bind_some _ _).symm.trans H;with_reducible exact H2_)|with_reducible exact H|(rw [hy268];exact H)|exact H
 have Ny268:=Aside0.mk hy268
 clear hy268
 have H':=Aside0.mk H
 clear H
 go_enter Tryd.func49,Tryd.ntmps49
 go_wp2_with (first|((with_reducible refine gate_dst (N:=8) rfl ?_);refine Kd.R_make (Kd.int .u8) _ 5 rfl (N:=8) rfl 23 _ _ rfl a1 rfl rfl Tryd.underlying23 (.int .u8 0) 1 info5 rfl (by decide) (by omega) 0 (ok:=fun _=>True) (okp:=fun _=>True) rfl (fun _ hk=>hk) trivial (of_decide_eq_true asm) (Nat.le_trans (Nat.mul_le_mul_right _ (of_decide_eq_true asm:a1.toNat≤281474976710656)) (by omega)) (Below.refl _ _) (Nat.le_refl _) ?_;intro v269 w5 ho6 hb hg_ hnew_;clear hg_ hnew_;(first|rw [← Ny268.out] at ho6|(simp only [Int.reduceToNat] at ho6;rw [← Ny268.out] at ho6));have HO270:=Aside0.mk (Kd.R_lower ho6 (below_size bl));replace HB:=Aside0.mk (below_step bl hb);clear hb ho6))
 go_loopg [0,6] k (fun kq v0 v6 w'=>∃ (x0_1:Int) (x5_1:List Int) (x6_1:Int),v0 = .int .i64 x0_1∧v6 = .int .i64 x6_1∧Aside0 (when_put.l0 kq x0_1 x5_1 x6_1=some r)∧Aside0 (kq≤k)∧Aside0 (Kd.R (Kd.int .u8) 5 w' w.heap.size (fun _=>True) v269 x5_1)∧Aside0 (Below w.heap.size w w'))
 case atStart=>exact⟨(a0),(y268),(wrap64 (a1-1)),rs,rs,H',⟨Nat.le_refl _⟩,⟨rl⟩,⟨bl⟩⟩
 case round=>
  clear H'
  obtain⟨x0_1,x5_1,x6_1,rfl,rfl,HA,HK1,HO_5,HB⟩:=hrel
  cases gk with
  | zero=>exact absurd HA.out (by simp [when_put.l0])
  | succ k1=>
   have H:=HA.out
   clear HA
   simp only [when_put.l0] at H
   replace H:=itO H
   rcases H with⟨c7,H⟩|⟨c7,H⟩
   {
   have c7b0:decide (0≤x6_1)=true:=decide_eq_true c7
   clear c7
   replace H:=itO H
   rcases H with⟨c8,H⟩|⟨c8,H⟩
   {
   have c8b0:decide (0≤x6_1)=true:=decide_eq_true c8
   clear c8
   replace H:=itO H
   rcases H with⟨c9,H⟩|⟨c9,H⟩
   {
   have c9b0:decide (x6_1<(x5_1.length:Int))=true:=decide_eq_true c9
   clear c9
   obtain⟨y271,hy271⟩ : ∃ y_:List Int,y_=(x5_1.set (x6_1:Int).toNat ((48+((Int.tmod x0_1 10) % 256)) % 256)):=⟨_,rfl⟩
   replace H:(when_put.l0 k1 (wrap64 (Int.tdiv x0_1 10)) y271 (wrap64 (x6_1-1)))=some r:=by first|(rw [hy271];with_reducible exact H)|(have H2_:=(Option.bind_some _ _).symm.trans H;rw [hy271];with_reducible exact H2_)|(have H2_:=(Option.bind_some _ _).symm.trans H;with_reducible exact H2_)|with_reducible exact H|(rw [hy271];exact H)|exact H
   have Ny271:=Aside0.mk hy271
   clear hy271
   have H':=Aside0.mk H
   clear H
   have p10:0≤(x6_1:Int):=of_decide_eq_true asm
   have q10:(x6_1:Int)<((x5_1.length:Int):Int):=of_decide_eq_true asm
   obtain⟨go10,co10,eo10,gb10,gl10,cl10,HG10⟩:=Kd.R_form HO_5.out (by omega)
   (first|cases eo10|(injection eo10 with ea_ en_ ec_;(first|subst ea_|(injection ea_ with ea_;subst ea_));subst ec_;clear en_))
   have GB10:=Aside0.mk gb10
   have GG10:=Aside0.mk HG10
   clear gb10 gl10 HG10
   obtain⟨hx10_0,hf10_0⟩:=Kd.R_celln 0 HO_5.out (x6_1:Int) p10 q10
   replace p10:=eq_true p10
   replace q10:=eq_true q10
   have HP11:=Kd.R_putg HO_5.out (x6_1:Int) ((48+((Int.tmod x0_1 10) % 256)) % 256)
   go_wp2_with (first|((with_reducible refine gate_store (t:=5) (p:=21) rfl ?_);refine store_event (t:=5) (p:=21) (v:=?vo_w12) (w1:=(wr.setCell ⟨go10,(x6_1:Int).toNat,none⟩ (.int .u8 ((48+((Int.tmod x0_1 10) % 256)) % 256)))) ?hg ?ho ?hn ?hr ?_;(case ho=>rfl);(case hg=>rfl);(case hn=>rfl);(case hr=>first|(go_simp;done)|(go_simp;rfl));intro w12 hw;have hg:wr.grownBy w12 (some go10):=(by rw [hw];exact HP11.2);have hp_:Kd.R (Kd.int .u8) 5 w12 w.heap.size (fun _=>True) (.slice (some ⟨go10,0,none⟩) x5_1.length co10) y271:=(by rw [hw,Ny271.out];exact HP11.1);clear HP11;replace HO_5:=Aside0.mk (hp_);replace HB:=Aside0.mk ((by rw [hw];exact below_set (HB.out) GB10.out:Below w.heap.size w w12));clear hg hw hp_))
   go_roundg k1
   case measure=>have:=HK1.out;omega
   case rel=>exact⟨(wrap64 (Int.tdiv x0_1 10)),(y271),(wrap64 (x6_1-1)),rs,rs,H',⟨by have:=HK1.out;omega⟩,⟨rl⟩,⟨bl⟩⟩
   }
   ·exact absurd H (by simp)
   }
   ·exact absurd H (by simp)
   }
   {
   have c7b0:decide (0≤x6_1)=false:=decide_eq_false c7
   clear c7
   obtain rfl:=Option.some.inj H
   have hcv13:=own_string (P:=Tryd.prog) Tryd.underlying23 Tryd.underlying5 Tryd.underlying9 (Kd.own_of_R HO_5.out)
   go_wp2
   go_ret
   exact⟨ew,bl⟩
   }
 }
 ·exact absurd H (by simp)
 }
 ·exact absurd H (by simp)
end Go.Proofs.YtfjidcmegacibaaDoor.Q
