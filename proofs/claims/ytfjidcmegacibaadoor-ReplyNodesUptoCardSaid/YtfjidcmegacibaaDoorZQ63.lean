/- A part of the proof of the seat's laws. No condition beyond those in the theorems. -/
import Derived.Test.YtfjidcmegacibaaDoorZBase
import Derived.Lib.Hide
import Derived.BigRegion
import Derived.Test.YtfjidcmegacibaaDoorZQ54g8
import Derived.Test.YtfjidcmegacibaaDoorZQ62
import Derived.Test.YtfjidcmegacibaaDoorZQ0g11

namespace Go.Proofs.YtfjidcmegacibaaDoor.Q
open Go.RowKit Go.Proofs.YtfjidcmegacibaaDoorW.PrintWords Go.Proofs.YtfjidcmegacibaaDoorW.PrintLast Go.Proofs.YtfjidcmegacibaaDoorW.PrintMore
set_option linter.unusedVariables false
set_option linter.unusedSimpArgs false
set_option maxHeartbeats 8000000
set_option maxRecDepth 100000
attribute [local go_sem] max2_int min2_int max_two min_two max_three min_three max_four min_four   
def reply_Parse.many (head bare:Bool) (n:Int):Int:=if head=true then 0 else if bare=true then 0 else n
def reply_Parse.f (k:Nat) (l0:List Int) (a1:Bool):Option (Int×List S52×List Int×Int×Bool):=
 (reply_reader_begin.f k (strOfNums l0) 0).bind fun b=>if b.2.1=true then(reply_Bare.f b.1).bind fun br=>(reply_reader_headers.f k b.2.2.1 b.2.2.2 br).bind fun h=>(if h.2.2.1=true then
   (if 0≤h.2.2.2.2 then(if h.2.2.2.2≤(l0.length:Int) then(if 0≤reply_Parse.many a1 br h.2.1 then(if reply_Parse.many a1 br h.2.1≤9000000000000000000 then(if(l0.length:Int)-h.2.2.2.2<reply_Parse.many a1 br h.2.1 then some (0,[],[],0,false)
    else if h.2.2.2.2+reply_Parse.many a1 br h.2.1≤(h.2.2.2.1.size:Int) then(if h.2.2.2.1.size≤140737488355328 then some (b.1,h.1,bytesOf (h.2.2.2.1.extract h.2.2.2.2.toNat (h.2.2.2.2+reply_Parse.many a1 br h.2.1).toNat),h.2.2.2.2+reply_Parse.many a1 br h.2.1,true) else none) else none) else none) else none) else none) else none)
   else some (0,[],[],0,false)) else some (0,[],[],0,false)
theorem reply_Parse.mono:∀ a0 a1 k,LeO (reply_Parse.f k a0 a1) (reply_Parse.f (k+1) a0 a1):=by
 intro a0 a1 k
 unfold reply_Parse.f
 exact LeO.bind (reply_reader_begin.mono _ _ _) fun _=>LeO.ite (LeO.bind (LeO.refl _) fun _=>LeO.bind (reply_reader_headers.mono _ _ _ _) fun _=>LeO.refl _) (LeO.refl _)
theorem reply_Parse.calls (k:Nat) (A0:Option Addr) (c0:Nat) (l0:List Int) (a1:Bool) (r1:Int) (r2:List S52) (r3:List Int) (r4:Int) (r5:Bool) (w:World) (hr0:Kd.C (Kd.int .u8) w A0 l0.length l0) (hc0:l0.length≤c0) (hG:GOk w) (h:reply_Parse.f k l0 a1=some (r1,r2,r3,r4,r5)) :
  Calls Tryd.prog 10 #[.slice A0 l0.length c0,.bool a1] w fun e w'=>∃ v0_ v1_:Value,e = .returned (.tuple #[.agg #[.int .i64 r1,v0_,v1_],.int .i64 r4,.bool r5])∧Kd.V k52 52 w' w.heap.size (fun k_=>(w.heap.size≤k_)) v0_ r2∧Kd.V (Kd.int .u8) 5 w' w.heap.size (fun k_=>(w.heap.size≤k_)) v1_ r3∧Below w.heap.size w w':=by
 have hu27:=Tryd.underlying27
 have hln:l0.length≤9223372036854775807:=hr0.2.1
 unfold reply_Parse.f at h
 obtain⟨⟨b1,b2,b3,b4⟩,hb,h⟩:=bndO h
 have hC0:=Lib.hid hr0
 have hG1:GOk (w.alloc (.cells #[.int .i64 0,.slice none 0 0,.slice none 0 0] 27)):=gok_below hG (below_alloc (Below.refl _ _) _)
 have hstr:=Kd.C_string (P:=Tryd.prog) (c:=c0) Tryd.underlying23 Tryd.underlying5 Tryd.underlying9 (Kd.C_alloc hr0 (.cells #[.int .i64 0,.slice none 0 0,.slice none 0 0] 27))
 obtain⟨w1,hw1⟩ : ∃ w1,w1=w.alloc (.cells #[.int .i64 0,.slice none 0 0,.slice none 0 0] 27):=⟨_,rfl⟩
 have hx1:w1.heap[w.heap.size]? = some (.cells #[.int .i64 0,.slice none 0 0,.slice none 0 0] 27 (0,0)):=by rw [hw1];exact blk_new _ _
 have hB1:Below w.heap.size w w1:=by rw [hw1];exact below_alloc (Below.refl _ _) _
 have hs1:w1.heap.size=w.heap.size+1:=by rw [hw1];simp
 rw [← hw1] at hG1 hstr
 have hHH:=Lib.hid (And.intro hx1 (And.intro hB1 (And.intro hs1 (And.intro hG1 hb))))
 clear hx1 hB1 hs1 hG1 hb hG hr0
 go_enter Tryd.func10,Tryd.ntmps10
 go_wp2
 rw [← hw1,hstr]
 simp only [Result.andThen]
 rw [Oper.upon_value]
 clear hw1 hstr
 have hB2:=Lib.hid (Below.refl w1.heap.size w1)
 go_wp2_with fail
 refine(reply_reader_begin.calls k w1.heap.size (strOfNums l0) 0 b1 b2 b3 b4 w1 (w1.alloc (.cells #[.string (strOfNums l0),.int .i64 0] 73)) ⟨blk_new _ _,Nat.le_refl _⟩ (below_alloc (Below.refl _ _) _) hHH.out.2.2.2.1 hHH.out.2.2.2.2).mono ?_
 rintro e w3 ⟨rfl,HI3,HB3,HK3⟩
 have J3:=Lib.hid (And.intro HI3 (And.intro HB3 HK3))
 clear HI3 HB3 HK3 hB2
 have hX3:w3.heap[w.heap.size]? = some (.cells #[.int .i64 0,.slice none 0 0,.slice none 0 0] 27 (0,0)):=by
  rw [J3.out.2.1.block _ (by have:=hHH.out.2.2.1;omega)];exact hHH.out.1
 have hX3':=Lib.hid hX3
 have hB3:=Lib.hid (show Below w.heap.size w w3 from hHH.out.2.1.trans (J3.out.2.1.mono (by have:=hHH.out.2.2.1;omega)))
 clear hX3
 cases b2
 ·simp only [Bool.false_eq_true,if_false,Option.some.injEq,Prod.mk.injEq] at h
  obtain⟨rfl,rfl,rfl,rfl,rfl⟩:=h
  go_wp2_with (first|((with_reducible refine gate_store (t:=27) (p:=4) rfl ?_);have zc0:=(blk_cell hX3'.out 0).trans rfl;have zf0:=blk_frozen hX3'.out 0;have zc1:=(blk_cell hX3'.out 1).trans rfl;have zf1:=blk_frozen hX3'.out 1;have zc2:=(blk_cell hX3'.out 2).trans rfl;have zf2:=blk_frozen hX3'.out 2;refine store_event (t:=27) (p:=4) (v:=?vo1) (w1:=?wn1) ?hg ?ho ?hn ?hr ?_;(case ho=>rfl);(case hg=>rfl);(case hn=>rfl);(case hr=>first|(go_simp;done)|(go_simp;rfl));intro w8 hw;have F8:=Lib.hid (And.intro (show w8.heap[w.heap.size]? = some (.cells #[.int .i64 0,.slice none 0 0,.slice none 0 0] 27 (0,0)) by rw [hw];exact blk_put (blk_put (blk_put hX3'.out 0 _ rfl) 1 _ rfl) 2 _ rfl) (show Below w.heap.size w w8 by rw [hw];exact below_set (below_set (below_set hB3.out (Nat.le_refl _)) (Nat.le_refl _)) (Nat.le_refl _)));clear hw;clear zc0 zf0 zc1 zf1 zc2 zf2))
  refine bodyPost_ret (results_ctt rfl _ _ w.heap.size 27 #[.int .i64 0,.slice none 0 0,.slice none 0 0] (0,0) _ rfl F8.out.1 Tryd.underlying27 rfl (by kernel_rfl)) rfl ?_
  exact⟨_,_,rfl,Kd.V_nil _ _ _ _ _,Kd.V_nil _ _ _ _ _,F8.out.2⟩
 ·replace h:=itT h
  obtain⟨br,hbr,h⟩:=bndO h
  obtain⟨⟨l,n,ok,s2,at2⟩,hh,h⟩:=bndO h
  have hbr':=Lib.hid hbr
  have hh':=Lib.hid hh
  clear hbr hh
  dsimp only at h
  go_wp2_with (first|(go_at_call 15;(with_reducible refine(reply_Bare.calls _ _ _ hbr'.out).mono ?_);rintro e w9 ⟨rfl,⟨⟨nd,rfl⟩⟩⟩)|fail)
  refine(reply_reader_headers.calls k w1.heap.size b3 b4 br l n ok s2 at2 w1 (w3.drewN nd) (J3.out.1.drewN _) (pw_below_drewN J3.out.2.1 _) hHH.out.2.2.2.1 hh'.out).mono ?_
  rintro e w4 ⟨v0,rfl,hR4,HI4,HB4,HK4⟩
  have J4:=Lib.hid (And.intro HI4 (And.intro HB4 hR4))
  have hsz3:w1.heap.size≤(w3.drewN nd).heap.size:=J3.out.2.1.size
  have hsz3':=Lib.hid hsz3
  clear HI4 HB4 HK4 hR4 hsz3
  have hX4:=Lib.hid (show w4.heap[w.heap.size]? = some (.cells #[.int .i64 0,.slice none 0 0,.slice none 0 0] 27 (0,0)) from by
   rw [J4.out.2.1.block _ (by have:=hHH.out.2.2.1;omega)];exact hHH.out.1)
  have hB4:=Lib.hid (show Below w.heap.size w w4 from hHH.out.2.1.trans (J4.out.2.1.mono (by have:=hHH.out.2.2.1;omega)))
  cases ok
  ·simp only [Bool.false_eq_true,if_false,Option.some.injEq,Prod.mk.injEq] at h
   obtain⟨rfl,rfl,rfl,rfl,rfl⟩:=h
   go_wp2_with (first|((with_reducible refine gate_store (t:=27) (p:=4) rfl ?_);have zc0:=(blk_cell hX4.out 0).trans rfl;have zf0:=blk_frozen hX4.out 0;have zc1:=(blk_cell hX4.out 1).trans rfl;have zf1:=blk_frozen hX4.out 1;have zc2:=(blk_cell hX4.out 2).trans rfl;have zf2:=blk_frozen hX4.out 2;refine store_event (t:=27) (p:=4) (v:=?vo2) (w1:=?wn2) ?hg ?ho ?hn ?hr ?_;(case ho=>rfl);(case hg=>rfl);(case hn=>rfl);(case hr=>first|(go_simp;done)|(go_simp;rfl));intro w8 hw;have F8:=Lib.hid (And.intro (show w8.heap[w.heap.size]? = some (.cells #[.int .i64 0,.slice none 0 0,.slice none 0 0] 27 (0,0)) by rw [hw];exact blk_put (blk_put (blk_put hX4.out 0 _ rfl) 1 _ rfl) 2 _ rfl) (show Below w.heap.size w w8 by rw [hw];exact below_set (below_set (below_set hB4.out (Nat.le_refl _)) (Nat.le_refl _)) (Nat.le_refl _)));clear hw;clear zc0 zf0 zc1 zf1 zc2 zf2))
   refine bodyPost_ret (results_ctt rfl _ _ w.heap.size 27 #[.int .i64 0,.slice none 0 0,.slice none 0 0] (0,0) _ rfl F8.out.1 Tryd.underlying27 rfl (by kernel_rfl)) rfl ?_
   exact⟨_,_,rfl,Kd.V_nil _ _ _ _ _,Kd.V_nil _ _ _ _ _,F8.out.2⟩
  ·replace h:=itT h
   obtain⟨M,hM⟩ : ∃ M,reply_Parse.many a1 br n=M:=⟨_,rfl⟩
   rw [hM] at h
   have hMc:(a1=true∧M=0)∨(a1=false∧br=true∧M=0)∨(a1=false∧br=false∧M=n):=by
    unfold reply_Parse.many at hM
    cases a1 <;> cases br <;> simp_all
   clear hM
   have hR4:=J4.out.2.2
   obtain⟨Ah,ch,rfl⟩:=Kd.R_slice hR4
   have hlc:l.length≤ch:=(Kd.R_reads' hR4).2.1
   have hFh:=Lib.hid (Kd.R_F (Kd.R_mono (Kd.R_bound hR4) (ok':=fun k_=>w.heap.size<k_) (fun k_ hk=>Nat.lt_of_lt_of_le (by have:=hHH.out.2.2.1;have:=hsz3'.out;omega) hk.2.1)))
   clear hR4
   obtain⟨HG4,hg4⟩:=J4.out.1
   have rc0:=(blk_cell HG4 0).trans rfl
   have rc1:=(blk_cell HG4 1).trans rfl
   have rf0:=blk_frozen HG4 0
   have rf1:=blk_frozen HG4 1
   clear HG4 hg4
   replace h:=itO h
   rcases h with⟨k1,h⟩|⟨_,h⟩
   rotate_left
   ·exact absurd h (by simp)
   replace h:=itO h
   rcases h with⟨k2,h⟩|⟨_,h⟩
   rotate_left
   ·exact absurd h (by simp)
   replace h:=itO h
   rcases h with⟨k3,h⟩|⟨_,h⟩
   rotate_left
   ·exact absurd h (by simp)
   replace h:=itO h
   rcases h with⟨k4,h⟩|⟨_,h⟩
   rotate_left
   ·exact absurd h (by simp)
   have hwl:wrap64 ((l0.length:Int)-at2)=(l0.length:Int)-at2:=by unfold wrap64;omega
   have hwl':=Lib.hid hwl
   clear hwl
   replace h:=itO h
   rcases h with⟨k5,h⟩|⟨k5,h⟩
   ·simp only [Option.some.injEq,Prod.mk.injEq] at h
    obtain⟨rfl,rfl,rfl,rfl,rfl⟩:=h
    have k5':decide (M>(l0.length:Int)-at2)=true:=decide_eq_true k5
    rcases hMc with⟨rfl,rfl⟩|⟨rfl,rfl,rfl⟩|⟨rfl,rfl,rfl⟩
    ·exact absurd k5 (by omega)
    ·exact absurd k5 (by omega)
    ·have hwl:=hwl'.out
     go_wp2_with (first|((with_reducible refine gate_store (t:=27) (p:=4) rfl ?_);have zc0:=(blk_cell hX4.out 0).trans rfl;have zf0:=blk_frozen hX4.out 0;have zc1:=(blk_cell hX4.out 1).trans rfl;have zf1:=blk_frozen hX4.out 1;have zc2:=(blk_cell hX4.out 2).trans rfl;have zf2:=blk_frozen hX4.out 2;refine store_event (t:=27) (p:=4) (v:=?vo3) (w1:=?wn3) ?hg ?ho ?hn ?hr ?_;(case ho=>rfl);(case hg=>rfl);(case hn=>rfl);(case hr=>first|(go_simp;done)|(go_simp;rfl));intro w8 hw;have F8:=Lib.hid (And.intro (show w8.heap[w.heap.size]? = some (.cells #[.int .i64 0,.slice none 0 0,.slice none 0 0] 27 (0,0)) by rw [hw];exact blk_put (blk_put (blk_put hX4.out 0 _ rfl) 1 _ rfl) 2 _ rfl) (show Below w.heap.size w w8 by rw [hw];exact below_set (below_set (below_set hB4.out (Nat.le_refl _)) (Nat.le_refl _)) (Nat.le_refl _)));clear hw;clear zc0 zf0 zc1 zf1 zc2 zf2))
     refine bodyPost_ret (results_ctt rfl _ _ w.heap.size 27 #[.int .i64 0,.slice none 0 0,.slice none 0 0] (0,0) _ rfl F8.out.1 Tryd.underlying27 rfl (by kernel_rfl)) rfl ?_
     exact⟨_,_,rfl,Kd.V_nil _ _ _ _ _,Kd.V_nil _ _ _ _ _,F8.out.2⟩
   ·replace h:=itO h
    rcases h with⟨k6,h⟩|⟨_,h⟩
    rotate_left
    ·exact absurd h (by simp)
    replace h:=itO h
    rcases h with⟨k7,h⟩|⟨_,h⟩
    rotate_left
    ·exact absurd h (by simp)
    simp only [Option.some.injEq,Prod.mk.injEq] at h
    obtain⟨rfl,rfl,rfl,rfl,rfl⟩:=h
    have hwj:wrap64 (at2+M)=at2+M:=by unfold wrap64;omega
    obtain⟨i04,hi04,_,_,_⟩:=info_parts info52
    have hcut:=cut_to_max (P:=Tryd.prog) 25 52 .i64 .i64 Tryd.underlying25 hi04 Ah l.length ch (l.length:Int) (by omega) (Int.le_refl _) hlc
    have hcut':=Lib.hid hcut
    have q1:at2≤at2+M:=by omega
    have k5':decide (M>(l0.length:Int)-at2)=false:=decide_eq_false (by omega)
    have hXB:=Lib.hid (show(Lib.bytesWorld w4.drew 5 (s2.extract at2.toNat (at2+M).toNat)).heap[w.heap.size]? = some (.cells #[.int .i64 0,.slice none 0 0,.slice none 0 0] 27 (0,0)) from blk_below hX4.out (bytes_below (below_drew1 (Below.refl w4.heap.size w4)) (Nat.le_refl _) 5 _))
    have rB:=Lib.hid (blk_below J4.out.1.1 (bytes_below (below_drew1 (Below.refl w4.heap.size w4)) (Nat.le_refl _) 5 (s2.extract at2.toNat (at2+M).toNat)))
    have hFb:=Lib.hid (bytes_foot w4.drew 5 (s2.extract at2.toNat (at2+M).toNat) (fun k_=>w.heap.size<k_∧w4.heap.size≤k_) ⟨by have:=hHH.out.2.2.1;have:=J4.out.2.1.size;show w.heap.size<w4.heap.size;omega,Nat.le_refl _⟩ (by have hms:=Nat.min_le_right (at2+M).toNat s2.size;rw [ByteArray.size_extract];omega))
    have hBb:=Lib.hid (bytes_below (e:=5) (s:=s2.extract at2.toNat (at2+M).toNat) (below_drew1 hB4.out) (Nat.le_trans (by have:=hHH.out.2.2.1;omega) (show w1.heap.size≤w4.drew.heap.size from J4.out.2.1.size)))
    have hFh2:=Lib.hid (Kd.F_below (Kd.F_drew hFh.out) (bytes_below (Below.refl w4.drew.heap.size w4.drew) (Nat.le_refl _) 5 (s2.extract at2.toNat (at2+M).toNat)))
    obtain⟨S,hS⟩ : ∃ S,s2.extract at2.toNat (at2+M).toNat=S:=⟨_,rfl⟩
    have hlenS:=Lib.hid (show bytesOf S=bytesOf S from rfl)
    rw [hS] at hXB rB hFb hBb hFh2
    have hconv:=fun W=>print_bytes (P:=Tryd.prog) 9 23 5 Tryd.underlying9 Tryd.underlying23 Tryd.underlying5 S W
    have yc0:=(blk_cell hXB.out 0).trans rfl;have yf0:=blk_frozen hXB.out 0;have yc1:=(blk_cell hXB.out 1).trans rfl;have yf1:=blk_frozen hXB.out 1;have yc2:=(blk_cell hXB.out 2).trans rfl;have yf2:=blk_frozen hXB.out 2
    have yne:w1.heap.size≠w.heap.size:=by have:=hHH.out.2.2.1;omega
    have rB1:=(blk_cell rB.out 1).trans rfl
    have rS1:=(blk_cell (blk_far (blk_far (blk_far rB.out (p:=⟨w.heap.size,0,none⟩) yne (.int .i64 b1)) (p:=⟨w.heap.size,1,none⟩) yne (.slice Ah l.length l.length)) (p:=⟨w.heap.size,2,none⟩) yne (.slice (some ⟨w4.heap.size,0,none⟩) S.size (grownCap w4.drew S.size 0 5))) 1).trans rfl
    clear yne
    have hwl:=hwl'.out
    rcases hMc with⟨rfl,rfl⟩|⟨rfl,rfl,rfl⟩|⟨rfl,rfl,rfl⟩
    rotate_left
    rotate_left
    ·skip
     go_wp2_with fail
     go_region
     go_wp2
     refine bodyPost_ret (results_ctt rfl _ _ w.heap.size 27 _ (0,0) _ rfl (blk_put (blk_put (blk_put hXB.out 0 _ rfl) 1 _ rfl) 2 _ rfl) Tryd.underlying27 rfl (by kernel_rfl)) rfl ?_
     refine⟨_,_,rfl,Kd.V_mk (Nat.le_refl _) (Kd.F_mono (Kd.F_far (Kd.F_far (Kd.F_far hFh2.out (fun k_ hk=>Nat.ne_of_gt hk) _) (fun k_ hk=>Nat.ne_of_gt hk) _) (fun k_ hk=>Nat.ne_of_gt hk) _) (fun k_ hk=>Nat.le_of_lt hk)),?_,below_set (below_set (below_set hBb.out (Nat.le_refl _)) (Nat.le_refl _)) (Nat.le_refl _)⟩
     rw [hS]
     exact⟨_,_,by rw [bytesOf_length];rfl,by rw [bytesOf_length];exact grownCap_ge _ _ _ _,Kd.F_mono (Kd.F_far (Kd.F_far (Kd.F_far hFb.out (fun k_ hk=>Nat.ne_of_gt hk.1) _) (fun k_ hk=>Nat.ne_of_gt hk.1) _) (fun k_ hk=>Nat.ne_of_gt hk.1) _) (fun k_ hk=>Nat.le_of_lt hk.1)⟩
    all_goals
     rw [Int.add_zero] at hS
     obtain rfl:S=ByteArray.empty:=by rw [← hS];simp
     simp only [Int.add_zero] at k6 q1 hwj
     simp only [ByteArray.size_empty] at rS1 hconv
     go_wp2_with fail
     go_region
     go_wp2
     refine bodyPost_ret (results_ctt rfl _ _ w.heap.size 27 _ (0,0) _ rfl (blk_put (blk_put (blk_put hXB.out 0 _ rfl) 1 _ rfl) 2 _ rfl) Tryd.underlying27 rfl (by kernel_rfl)) rfl ?_
     refine⟨_,_,by rw [Int.add_zero];rfl,Kd.V_mk (Nat.le_refl _) (Kd.F_mono (Kd.F_far (Kd.F_far (Kd.F_far hFh2.out (fun k_ hk=>Nat.ne_of_gt hk) _) (fun k_ hk=>Nat.ne_of_gt hk) _) (fun k_ hk=>Nat.ne_of_gt hk) _) (fun k_ hk=>Nat.le_of_lt hk)),?_,below_set (below_set (below_set hBb.out (Nat.le_refl _)) (Nat.le_refl _)) (Nat.le_refl _)⟩
     rw [Int.add_zero]
     rw [hS]
     exact⟨_,_,by rw [bytesOf_length];rfl,by rw [bytesOf_length];exact grownCap_ge _ _ _ _,Kd.F_mono (Kd.F_far (Kd.F_far (Kd.F_far hFb.out (fun k_ hk=>Nat.ne_of_gt hk.1) _) (fun k_ hk=>Nat.ne_of_gt hk.1) _) (fun k_ hk=>Nat.ne_of_gt hk.1) _) (fun k_ hk=>Nat.le_of_lt hk.1)⟩
end Go.Proofs.YtfjidcmegacibaaDoor.Q
