/- A part of the proof of the seat's laws. No condition beyond those in the theorems. -/
import Derived.Test.YtklcgncaclggcaaDoorZQ0g15
import Derived.Test.YtklcgncaclggcaaDoorZQ72g6
import Derived.Test.YtklcgncaclggcaaDoorZBase
import Derived.Test.YtklcgncaclggcaaDoorZRepS
import Derived.Test.YtklcgncaclggcaaDoorZBld
import Derived.Lib.Hide
import Derived.Lib.OthersKept
import Derived.Test.YtklcgncaclggcaaDoorZQ59g5
import Derived.Test.YtklcgncaclggcaaDoorZSqzB

namespace Go.Proofs.YtklcgncaclggcaaDoor.Q
open Go.RowKit Go.Proofs.YtklcgncaclggcaaDoorW.PrintWords Go.Proofs.YtklcgncaclggcaaDoorW.PrintLast Go.Proofs.YtklcgncaclggcaaDoorW.PrintMore
set_option linter.unusedVariables false
set_option linter.unusedSimpArgs false
set_option maxHeartbeats 8000000
set_option maxRecDepth 100000
attribute [local go_sem] max2_int min2_int max_two min_two max_three min_three max_four min_four   
def stowageref13_utf8.f (a0:Int):Option (ByteArray):=if a0<128 then(some (strOfNums (([(a0) % 256]:List Int)))) else(if a0<2048 then(some (strOfNums (([(wrap64 (192+(wrap64 (Int.tdiv a0 64)))) % 256,(wrap64 (128+(Int.tmod a0 64))) % 256]:List Int)))) else(if a0<65536 then(some (strOfNums (([(wrap64 (224+(wrap64 (Int.tdiv a0 4096)))) % 256,(wrap64 (128+(Int.tmod (wrap64 (Int.tdiv a0 64)) 64))) % 256,(wrap64 (128+(Int.tmod a0 64))) % 256]:List Int)))) else(some (strOfNums (([(wrap64 (240+(wrap64 (Int.tdiv a0 262144)))) % 256,(wrap64 (128+(Int.tmod (wrap64 (Int.tdiv a0 4096)) 64))) % 256,(wrap64 (128+(Int.tmod (wrap64 (Int.tdiv a0 64)) 64))) % 256,(wrap64 (128+(Int.tmod a0 64))) % 256]:List Int))))))
theorem stowageref13_utf8.calls (a0:Int) (r:ByteArray) (w:World) (h:stowageref13_utf8.f a0=some r) :
  Calls Tryd.prog 75 #[.int .i64 a0] w fun e w'=>e = .returned (.string r)∧Below w.heap.size w w':=by
 have HB:=Aside0.mk (Below.refl w.heap.size w)
 unfold stowageref13_utf8.f at h
 have H:=h
 clear h
 replace H:=itO H
 rcases H with⟨c2,H⟩|⟨c2,H⟩
 ·skip
  have c2b0:decide (a0<128)=true:=decide_eq_true c2
  clear c2
  obtain⟨y143,hy143⟩ : ∃ y_:List Int,y_=(([(a0) % 256]:List Int)):=⟨_,rfl⟩
  replace H:(some (strOfNums y143))=some r:=by first|(rw [hy143];with_reducible exact H)|(have H2_:=(Option.bind_some _ _).symm.trans H;rw [hy143];with_reducible exact H2_)|(have H2_:=(Option.bind_some _ _).symm.trans H;with_reducible exact H2_)|with_reducible exact H|(rw [hy143];exact H)|exact H
  have Ny143:=Aside0.mk hy143
  clear hy143
  obtain rfl:=Option.some.inj H
  go_enter Tryd.func75,Tryd.ntmps75
  go_wp2_with (first|((with_reducible refine gate_dst (N:=8) rfl ?_);refine Kd.R_lit (Kd.int .u8) _ 5 ?hg (N:=8) ?hd (xs:=([(a0) % 256]:List Int)) (inner:=[.int .u8 ((a0) % 256)]) (ok:=fun _=>True) (okp:=fun _=>True) ?hr ?hp (fun _ hk=>hk) trivial (Below.refl _ _) (Nat.le_refl _) (by simp) ?_;(case hd=>rfl);(case hg=>rfl);(case hr=>first|(go_simp;done)|(go_simp;rfl));(case hp=>exact(Reps.one (show Kd.M (Kd.int .u8) _ _ _ ((a0) % 256) [.int .u8 ((a0) % 256)] from rfl) (Reps.none _ _)));intro v144 w3 ho4 hb hg_ hnew_;clear hg_ hnew_;(first|rw [← Ny143.out] at ho4|(simp only [Int.reduceToNat] at ho4;rw [← Ny143.out] at ho4));have n0_:=Aside0.mk (Kd.R_lower ho4 (below_size (by repeat (first|(with_reducible first|exact HB.out|apply below_alloc|apply pw_below_drewN|apply below_drew1)|exact HB.out))));have n1_:=Aside0.mk (below_step (by repeat (first|(with_reducible first|exact HB.out|apply below_alloc|apply pw_below_drewN|apply below_drew1)|exact HB.out)) hb);clear HB;have HO145:=n0_;have HB:=n1_;clear n0_ n1_;clear hb ho4;have hcv5:=own_string (P:=Tryd.prog) Tryd.underlying66 Tryd.underlying5 Tryd.underlying9 (Kd.own_of_R HO145.out)))
  go_ret
  exact⟨by first|rfl|(simp [errW_none,errW_some] <;> rfl)|(simp [*,errW_none,errW_some] <;> rfl),by repeat (first|(with_reducible first|exact HB.out|apply below_alloc|apply pw_below_drewN|apply below_drew1)|exact HB.out)⟩
 ·skip
  have c2b0:decide (a0<128)=false:=decide_eq_false c2
  clear c2
  replace H:=itO H
  rcases H with⟨c6,H⟩|⟨c6,H⟩
  ·skip
   have c6b0:decide (a0<2048)=true:=decide_eq_true c6
   clear c6
   obtain⟨y146,hy146⟩ : ∃ y_:List Int,y_=(([(wrap64 (192+(wrap64 (Int.tdiv a0 64)))) % 256,(wrap64 (128+(Int.tmod a0 64))) % 256]:List Int)):=⟨_,rfl⟩
   replace H:(some (strOfNums y146))=some r:=by first|(rw [hy146];with_reducible exact H)|(have H2_:=(Option.bind_some _ _).symm.trans H;rw [hy146];with_reducible exact H2_)|(have H2_:=(Option.bind_some _ _).symm.trans H;with_reducible exact H2_)|with_reducible exact H|(rw [hy146];exact H)|exact H
   have Ny146:=Aside0.mk hy146
   clear hy146
   obtain rfl:=Option.some.inj H
   go_enter Tryd.func75,Tryd.ntmps75
   go_wp2_with (first|((with_reducible refine gate_dst (N:=21) rfl ?_);refine Kd.R_lit (Kd.int .u8) _ 5 ?hg (N:=21) ?hd (xs:=([(wrap64 (192+(wrap64 (Int.tdiv a0 64)))) % 256,(wrap64 (128+(Int.tmod a0 64))) % 256]:List Int)) (inner:=[.int .u8 ((wrap64 (192+(wrap64 (Int.tdiv a0 64)))) % 256),.int .u8 ((wrap64 (128+(Int.tmod a0 64))) % 256)]) (ok:=fun _=>True) (okp:=fun _=>True) ?hr ?hp (fun _ hk=>hk) trivial (Below.refl _ _) (Nat.le_refl _) (by simp) ?_;(case hd=>rfl);(case hg=>rfl);(case hr=>first|(go_simp;done)|(go_simp;rfl));(case hp=>exact(Reps.one (show Kd.M (Kd.int .u8) _ _ _ ((wrap64 (192+(wrap64 (Int.tdiv a0 64)))) % 256) [.int .u8 ((wrap64 (192+(wrap64 (Int.tdiv a0 64)))) % 256)] from rfl) (Reps.one (show Kd.M (Kd.int .u8) _ _ _ ((wrap64 (128+(Int.tmod a0 64))) % 256) [.int .u8 ((wrap64 (128+(Int.tmod a0 64))) % 256)] from rfl) (Reps.none _ _))));intro v147 w7 ho8 hb hg_ hnew_;clear hg_ hnew_;(first|rw [← Ny146.out] at ho8|(simp only [Int.reduceToNat] at ho8;rw [← Ny146.out] at ho8));have n0_:=Aside0.mk (Kd.R_lower ho8 (below_size (by repeat (first|(with_reducible first|exact HB.out|apply below_alloc|apply pw_below_drewN|apply below_drew1)|exact HB.out))));have n1_:=Aside0.mk (below_step (by repeat (first|(with_reducible first|exact HB.out|apply below_alloc|apply pw_below_drewN|apply below_drew1)|exact HB.out)) hb);clear HB;have HO148:=n0_;have HB:=n1_;clear n0_ n1_;clear hb ho8;have hcv9:=own_string (P:=Tryd.prog) Tryd.underlying66 Tryd.underlying5 Tryd.underlying9 (Kd.own_of_R HO148.out)))
   go_ret
   exact⟨by first|rfl|(simp [errW_none,errW_some] <;> rfl)|(simp [*,errW_none,errW_some] <;> rfl),by repeat (first|(with_reducible first|exact HB.out|apply below_alloc|apply pw_below_drewN|apply below_drew1)|exact HB.out)⟩
  ·skip
   have c6b0:decide (a0<2048)=false:=decide_eq_false c6
   clear c6
   replace H:=itO H
   rcases H with⟨c10,H⟩|⟨c10,H⟩
   ·skip
    have c10b0:decide (a0<65536)=true:=decide_eq_true c10
    clear c10
    obtain⟨y149,hy149⟩ : ∃ y_:List Int,y_=(([(wrap64 (224+(wrap64 (Int.tdiv a0 4096)))) % 256,(wrap64 (128+(Int.tmod (wrap64 (Int.tdiv a0 64)) 64))) % 256,(wrap64 (128+(Int.tmod a0 64))) % 256]:List Int)):=⟨_,rfl⟩
    replace H:(some (strOfNums y149))=some r:=by first|(rw [hy149];with_reducible exact H)|(have H2_:=(Option.bind_some _ _).symm.trans H;rw [hy149];with_reducible exact H2_)|(have H2_:=(Option.bind_some _ _).symm.trans H;with_reducible exact H2_)|with_reducible exact H|(rw [hy149];exact H)|exact H
    have Ny149:=Aside0.mk hy149
    clear hy149
    obtain rfl:=Option.some.inj H
    go_enter Tryd.func75,Tryd.ntmps75
    go_wp2_with (first|((with_reducible refine gate_dst (N:=39) rfl ?_);refine Kd.R_lit (Kd.int .u8) _ 5 ?hg (N:=39) ?hd (xs:=([(wrap64 (224+(wrap64 (Int.tdiv a0 4096)))) % 256,(wrap64 (128+(Int.tmod (wrap64 (Int.tdiv a0 64)) 64))) % 256,(wrap64 (128+(Int.tmod a0 64))) % 256]:List Int)) (inner:=[.int .u8 ((wrap64 (224+(wrap64 (Int.tdiv a0 4096)))) % 256),.int .u8 ((wrap64 (128+(Int.tmod (wrap64 (Int.tdiv a0 64)) 64))) % 256),.int .u8 ((wrap64 (128+(Int.tmod a0 64))) % 256)]) (ok:=fun _=>True) (okp:=fun _=>True) ?hr ?hp (fun _ hk=>hk) trivial (Below.refl _ _) (Nat.le_refl _) (by simp) ?_;(case hd=>rfl);(case hg=>rfl);(case hr=>first|(go_simp;done)|(go_simp;rfl));(case hp=>exact(Reps.one (show Kd.M (Kd.int .u8) _ _ _ ((wrap64 (224+(wrap64 (Int.tdiv a0 4096)))) % 256) [.int .u8 ((wrap64 (224+(wrap64 (Int.tdiv a0 4096)))) % 256)] from rfl) (Reps.one (show Kd.M (Kd.int .u8) _ _ _ ((wrap64 (128+(Int.tmod (wrap64 (Int.tdiv a0 64)) 64))) % 256) [.int .u8 ((wrap64 (128+(Int.tmod (wrap64 (Int.tdiv a0 64)) 64))) % 256)] from rfl) (Reps.one (show Kd.M (Kd.int .u8) _ _ _ ((wrap64 (128+(Int.tmod a0 64))) % 256) [.int .u8 ((wrap64 (128+(Int.tmod a0 64))) % 256)] from rfl) (Reps.none _ _)))));intro v150 w11 ho12 hb hg_ hnew_;clear hg_ hnew_;(first|rw [← Ny149.out] at ho12|(simp only [Int.reduceToNat] at ho12;rw [← Ny149.out] at ho12));have n0_:=Aside0.mk (Kd.R_lower ho12 (below_size (by repeat (first|(with_reducible first|exact HB.out|apply below_alloc|apply pw_below_drewN|apply below_drew1)|exact HB.out))));have n1_:=Aside0.mk (below_step (by repeat (first|(with_reducible first|exact HB.out|apply below_alloc|apply pw_below_drewN|apply below_drew1)|exact HB.out)) hb);clear HB;have HO151:=n0_;have HB:=n1_;clear n0_ n1_;clear hb ho12;have hcv13:=own_string (P:=Tryd.prog) Tryd.underlying66 Tryd.underlying5 Tryd.underlying9 (Kd.own_of_R HO151.out)))
    go_ret
    exact⟨by first|rfl|(simp [errW_none,errW_some] <;> rfl)|(simp [*,errW_none,errW_some] <;> rfl),by repeat (first|(with_reducible first|exact HB.out|apply below_alloc|apply pw_below_drewN|apply below_drew1)|exact HB.out)⟩
   ·skip
    have c10b0:decide (a0<65536)=false:=decide_eq_false c10
    clear c10
    obtain⟨y152,hy152⟩ : ∃ y_:List Int,y_=(([(wrap64 (240+(wrap64 (Int.tdiv a0 262144)))) % 256,(wrap64 (128+(Int.tmod (wrap64 (Int.tdiv a0 4096)) 64))) % 256,(wrap64 (128+(Int.tmod (wrap64 (Int.tdiv a0 64)) 64))) % 256,(wrap64 (128+(Int.tmod a0 64))) % 256]:List Int)):=⟨_,rfl⟩
    replace H:(some (strOfNums y152))=some r:=by first|(rw [hy152];with_reducible exact H)|(have H2_:=(Option.bind_some _ _).symm.trans H;rw [hy152];with_reducible exact H2_)|(have H2_:=(Option.bind_some _ _).symm.trans H;with_reducible exact H2_)|with_reducible exact H|(rw [hy152];exact H)|exact H
    have Ny152:=Aside0.mk hy152
    clear hy152
    obtain rfl:=Option.some.inj H
    go_enter Tryd.func75,Tryd.ntmps75
    go_wp2_with (first|((with_reducible refine gate_dst (N:=59) rfl ?_);refine Kd.R_lit (Kd.int .u8) _ 5 ?hg (N:=59) ?hd (xs:=([(wrap64 (240+(wrap64 (Int.tdiv a0 262144)))) % 256,(wrap64 (128+(Int.tmod (wrap64 (Int.tdiv a0 4096)) 64))) % 256,(wrap64 (128+(Int.tmod (wrap64 (Int.tdiv a0 64)) 64))) % 256,(wrap64 (128+(Int.tmod a0 64))) % 256]:List Int)) (inner:=[.int .u8 ((wrap64 (240+(wrap64 (Int.tdiv a0 262144)))) % 256),.int .u8 ((wrap64 (128+(Int.tmod (wrap64 (Int.tdiv a0 4096)) 64))) % 256),.int .u8 ((wrap64 (128+(Int.tmod (wrap64 (Int.tdiv a0 64)) 64))) % 256),.int .u8 ((wrap64 (128+(Int.tmod a0 64))) % 256)]) (ok:=fun _=>True) (okp:=fun _=>True) ?hr ?hp (fun _ hk=>hk) trivial (Below.refl _ _) (Nat.le_refl _) (by simp) ?_;(case hd=>rfl);(case hg=>rfl);(case hr=>first|(go_simp;done)|(go_simp;rfl));(case hp=>exact(Reps.one (show Kd.M (Kd.int .u8) _ _ _ ((wrap64 (240+(wrap64 (Int.tdiv a0 262144)))) % 256) [.int .u8 ((wrap64 (240+(wrap64 (Int.tdiv a0 262144)))) % 256)] from rfl) (Reps.one (show Kd.M (Kd.int .u8) _ _ _ ((wrap64 (128+(Int.tmod (wrap64 (Int.tdiv a0 4096)) 64))) % 256) [.int .u8 ((wrap64 (128+(Int.tmod (wrap64 (Int.tdiv a0 4096)) 64))) % 256)] from rfl) (Reps.one (show Kd.M (Kd.int .u8) _ _ _ ((wrap64 (128+(Int.tmod (wrap64 (Int.tdiv a0 64)) 64))) % 256) [.int .u8 ((wrap64 (128+(Int.tmod (wrap64 (Int.tdiv a0 64)) 64))) % 256)] from rfl) (Reps.one (show Kd.M (Kd.int .u8) _ _ _ ((wrap64 (128+(Int.tmod a0 64))) % 256) [.int .u8 ((wrap64 (128+(Int.tmod a0 64))) % 256)] from rfl) (Reps.none _ _))))));intro v153 w14 ho15 hb hg_ hnew_;clear hg_ hnew_;(first|rw [← Ny152.out] at ho15|(simp only [Int.reduceToNat] at ho15;rw [← Ny152.out] at ho15));have n0_:=Aside0.mk (Kd.R_lower ho15 (below_size (by repeat (first|(with_reducible first|exact HB.out|apply below_alloc|apply pw_below_drewN|apply below_drew1)|exact HB.out))));have n1_:=Aside0.mk (below_step (by repeat (first|(with_reducible first|exact HB.out|apply below_alloc|apply pw_below_drewN|apply below_drew1)|exact HB.out)) hb);clear HB;have HO154:=n0_;have HB:=n1_;clear n0_ n1_;clear hb ho15;have hcv16:=own_string (P:=Tryd.prog) Tryd.underlying66 Tryd.underlying5 Tryd.underlying9 (Kd.own_of_R HO154.out)))
    go_ret
    exact⟨by first|rfl|(simp [errW_none,errW_some] <;> rfl)|(simp [*,errW_none,errW_some] <;> rfl),by repeat (first|(with_reducible first|exact HB.out|apply below_alloc|apply pw_below_drewN|apply below_drew1)|exact HB.out)⟩
def xml_sign.f (a0:ByteArray):Option (ByteArray×Bool):=if a0.toList = [97,109,112] then some (⟨#[38]⟩,true) else if a0.toList = [108,116] then some (⟨#[60]⟩,true) else if a0.toList = [103,116] then some (⟨#[62]⟩,true) else if a0.toList = [113,117,111,116] then some (⟨#[34]⟩,true) else if a0.toList = [97,112,111,115] then some (⟨#[39]⟩,true) else(strings_HasPrefix.f a0 ⟨#[35]⟩).bind fun b=>(if b=true then(if 1≤a0.size then(xml_number.f (a0.extract 1 a0.size)).bind fun t=>some (Utf8.encode t.1,t.2) else none) else some (⟨#[]⟩,false))
theorem xml_sign.calls (a0:ByteArray) (r1:ByteArray) (r2:Bool) (w:World) (h:xml_sign.f a0=some (r1,r2)) :
  Calls Tryd.prog 39 #[.string a0] w fun e w'=>e = .returned (.tuple #[.string r1,.bool r2])∧Below w.heap.size w w':=by
 unfold xml_sign.f at h
 by_cases g0:a0.toList = [97,109,112]
 ·rw [if_pos g0] at h
  simp only [Option.some.injEq,Prod.mk.injEq] at h
  obtain⟨rfl,rfl⟩:=h
  have b0:(a0.toList == ([97,109,112]:List UInt8))=true:=beq_iff_eq.mpr g0
  clear g0
  go_enter Tryd.func39,Tryd.ntmps39
  go_wp2
  go_ret2
  exact⟨rfl,Below.refl _ _⟩
 rw [if_neg g0] at h
 have b0:(a0.toList == ([97,109,112]:List UInt8))=false:=beq_eq_false_iff_ne.mpr g0
 clear g0
 by_cases g1:a0.toList = [108,116]
 ·rw [if_pos g1] at h
  simp only [Option.some.injEq,Prod.mk.injEq] at h
  obtain⟨rfl,rfl⟩:=h
  have b1:(a0.toList == ([108,116]:List UInt8))=true:=beq_iff_eq.mpr g1
  clear g1
  go_enter Tryd.func39,Tryd.ntmps39
  go_wp2
  go_ret2
  exact⟨rfl,Below.refl _ _⟩
 rw [if_neg g1] at h
 have b1:(a0.toList == ([108,116]:List UInt8))=false:=beq_eq_false_iff_ne.mpr g1
 clear g1
 by_cases g2:a0.toList = [103,116]
 ·rw [if_pos g2] at h
  simp only [Option.some.injEq,Prod.mk.injEq] at h
  obtain⟨rfl,rfl⟩:=h
  have b2:(a0.toList == ([103,116]:List UInt8))=true:=beq_iff_eq.mpr g2
  clear g2
  go_enter Tryd.func39,Tryd.ntmps39
  go_wp2
  go_ret2
  exact⟨rfl,Below.refl _ _⟩
 rw [if_neg g2] at h
 have b2:(a0.toList == ([103,116]:List UInt8))=false:=beq_eq_false_iff_ne.mpr g2
 clear g2
 by_cases g3:a0.toList = [113,117,111,116]
 ·rw [if_pos g3] at h
  simp only [Option.some.injEq,Prod.mk.injEq] at h
  obtain⟨rfl,rfl⟩:=h
  have b3:(a0.toList == ([113,117,111,116]:List UInt8))=true:=beq_iff_eq.mpr g3
  clear g3
  go_enter Tryd.func39,Tryd.ntmps39
  go_wp2
  go_ret2
  exact⟨rfl,Below.refl _ _⟩
 rw [if_neg g3] at h
 have b3:(a0.toList == ([113,117,111,116]:List UInt8))=false:=beq_eq_false_iff_ne.mpr g3
 clear g3
 by_cases g4:a0.toList = [97,112,111,115]
 ·rw [if_pos g4] at h
  simp only [Option.some.injEq,Prod.mk.injEq] at h
  obtain⟨rfl,rfl⟩:=h
  have b4:(a0.toList == ([97,112,111,115]:List UInt8))=true:=beq_iff_eq.mpr g4
  clear g4
  go_enter Tryd.func39,Tryd.ntmps39
  go_wp2
  go_ret2
  exact⟨rfl,Below.refl _ _⟩
 rw [if_neg g4] at h
 have b4:(a0.toList == ([97,112,111,115]:List UInt8))=false:=beq_eq_false_iff_ne.mpr g4
 clear g4
 obtain⟨b,hb0,h⟩:=bndO h
 have hb:=Aside0.mk hb0
 clear hb0
 cases b with
 | true=>
  rw [if_pos rfl] at h
  rcases itO h with⟨g5,h⟩|⟨_,h⟩
  case inr=>exact absurd h (by simp)
  obtain⟨t,ht0,h⟩:=bndO h
  obtain⟨t1,t2⟩:=t
  have ht:=Aside0.mk ht0
  clear ht0
  simp only [Option.some.injEq,Prod.mk.injEq] at h
  obtain⟨rfl,rfl⟩:=h
  have q0:=eq_true (show(1:Int)≤(a0.size:Int) by omega)
  have q1:=eq_true g5
  have q2:=decide_eq_true (show(1:Int)≤(a0.size:Int) by omega)
  clear g5
  go_enter Tryd.func39,Tryd.ntmps39
  go_wp2_with (first|(go_at_call 55;refine(strings_HasPrefix.calls _ _ _ _ hb.out).mono ?_;rintro e w1 ⟨rfl,⟨⟨nd,rfl⟩⟩⟩;have HB0:=Aside0.mk (pw_below_drewN (Below.refl w.heap.size w) nd))|(go_at_call 73;with_reducible refine(xml_number.calls (a0.extract 1 a0.size) t1 t2 _ ht.out).mono ?_;rintro e w2 ⟨rfl,hb2⟩;have HB2:=Aside0.mk (below_step HB0.out hb2);clear hb2))
  go_ret2
  exact⟨rfl,HB2.out⟩
 | false=>
  rw [if_neg (by decide)] at h
  simp only [Option.some.injEq,Prod.mk.injEq] at h
  obtain⟨rfl,rfl⟩:=h
  go_enter Tryd.func39,Tryd.ntmps39
  go_wp2_with (go_at_call 55;refine(strings_HasPrefix.calls _ _ _ _ hb.out).mono ?_;rintro e w1 ⟨rfl,⟨⟨nd,rfl⟩⟩⟩)
  go_ret2
  exact⟨rfl,pw_below_drewN (Below.refl _ _) _⟩
def stowageref3_Begins.f (a0:ByteArray) (a1:ByteArray):Option (Bool):=if(a0.size:Int) ≥ (a1.size:Int) then(if 0≤(a1.size:Int) then(if(a1.size:Int)≤(a0.size:Int) then(some ((a0.extract 0 a1.size).toList == a1.toList)) else(none)) else(none)) else(some false)
theorem stowageref3_Begins.calls (a0:ByteArray) (a1:ByteArray) (r:Bool) (w:World) (h:stowageref3_Begins.f a0 a1=some r) :
  Calls Tryd.prog 64 #[.string a0,.string a1] w fun e w'=>e = .returned (.bool r)∧Drawn0 w w':=by
 unfold stowageref3_Begins.f at h
 have H:=h
 clear h
 replace H:=itO H
 rcases H with⟨c3,H⟩|⟨c3,H⟩
 ·skip
  have c3b0:decide ((a1.size:Int)≤(a0.size:Int))=true:=decide_eq_true c3
  have c3b1:decide (a1.size≤a0.size)=true:=decide_eq_true (Int.ofNat_le.mp c3)
  clear c3
  replace H:=itO H
  rcases H with⟨c4,H⟩|⟨c4,H⟩
  ·skip
   have c4b0:=eq_true c4
   have c4b1:=decide_eq_true c4
   clear c4
   replace H:=itO H
   rcases H with⟨c5,H⟩|⟨c5,H⟩
   ·skip
    have c5b0:=eq_true c5
    have c5b1:=decide_eq_true c5
    clear c5
    obtain rfl:=Option.some.inj H
    go_enter Tryd.func64,Tryd.ntmps64
    go_wp2
    go_ret
    exact⟨by first|rfl|(simp;done)|(simp [*];done),by repeat (first|exact Drawn0.refl _|apply Drawn0.step)⟩
   ·exact absurd H (by simp)
  ·exact absurd H (by simp)
 ·skip
  have c3b0:decide ((a1.size:Int)≤(a0.size:Int))=false:=decide_eq_false c3
  have c3b1:decide (a1.size≤a0.size)=false:=decide_eq_false (fun h=>c3 (Int.ofNat_le.mpr h))
  clear c3
  obtain rfl:=Option.some.inj H
  go_enter Tryd.func64,Tryd.ntmps64
  go_wp2
  go_ret
  exact⟨by first|rfl|(simp;done)|(simp [*];done),by repeat (first|exact Drawn0.refl _|apply Drawn0.step)⟩
mutual
def stowageref3_Digit.j0:Nat→Int→Bool→Option (Int)
 | 0,_,_=>none
 | k+1,x0,x3=>if x3=true then(some ((x0-48) % 256)) else(if x0 ≥ 97 then(stowageref3_Digit.j1 k x0 (decide (x0≤102))) else(stowageref3_Digit.j1 k x0 false))
def stowageref3_Digit.j1:Nat→Int→Bool→Option (Int)
 | 0,_,_=>none
 | k+1,x0,x13=>if x13=true then(some (((x0-97) % 256)+10)) else(if x0 ≥ 65 then(if x0≤70 then(some (((x0-65) % 256)+10)) else(some (-1))) else(some (-1)))
end
def stowageref3_Digit.f (k:Nat) (a0:Int):Option (Int):=if a0 ≥ 48 then(stowageref3_Digit.j0 k a0 (decide (a0≤57))) else(stowageref3_Digit.j0 k a0 false)
theorem stowageref3_Digit.mono_l:∀ k,(∀ y0 y1,LeO (stowageref3_Digit.j0 k y0 y1) (stowageref3_Digit.j0 (k+1) y0 y1))∧(∀ y0 y1,LeO (stowageref3_Digit.j1 k y0 y1) (stowageref3_Digit.j1 (k+1) y0 y1))
 | 0=>⟨fun _ _ r h=>by simp [stowageref3_Digit.j0] at h,fun _ _ r h=>by simp [stowageref3_Digit.j1] at h⟩
 | k+1=>by
  obtain⟨ih0,ih1⟩:=stowageref3_Digit.mono_l k
  refine⟨?_,?_⟩
  ·intro y0 y1
   unfold stowageref3_Digit.j0
   repeat' first
   | (with_reducible exact ih0 _ _)
   | (with_reducible exact ih1 _ _)
   | (with_reducible exact LeO.refl _)
   | (with_reducible exact LeO.none _)
   | (with_reducible refine LeO.ite ?_ ?_)
   | (with_reducible refine LeO.bind ?_ (fun _=>?_))
   | exact ih0 _ _
   | exact ih1 _ _
   | exact LeO.none _
   | refine LeO.ite ?_ ?_
   | refine LeO.bind ?_ (fun _=>?_)
  ·intro y0 y1
   unfold stowageref3_Digit.j1
   repeat' first
   | (with_reducible exact ih0 _ _)
   | (with_reducible exact ih1 _ _)
   | (with_reducible exact LeO.refl _)
   | (with_reducible exact LeO.none _)
   | (with_reducible refine LeO.ite ?_ ?_)
   | (with_reducible refine LeO.bind ?_ (fun _=>?_))
   | exact ih0 _ _
   | exact ih1 _ _
   | exact LeO.none _
   | refine LeO.ite ?_ ?_
   | refine LeO.bind ?_ (fun _=>?_)
theorem stowageref3_Digit.mono:∀ a0 k,LeO (stowageref3_Digit.f k a0) (stowageref3_Digit.f (k+1) a0):=by
 intro a0 k
 obtain⟨ih0,ih1⟩:=stowageref3_Digit.mono_l k
 unfold stowageref3_Digit.f
 repeat' first
   | (with_reducible exact ih0 _ _)
   | (with_reducible exact ih1 _ _)
   | (with_reducible exact LeO.refl _)
   | (with_reducible exact LeO.none _)
   | (with_reducible refine LeO.ite ?_ ?_)
   | (with_reducible refine LeO.bind ?_ (fun _=>?_))
   | exact ih0 _ _
   | exact ih1 _ _
   | exact LeO.none _
   | refine LeO.ite ?_ ?_
   | refine LeO.bind ?_ (fun _=>?_)
theorem stowageref3_Digit.calls (k:Nat) (a0:Int) (r:Int) (w:World) (h:stowageref3_Digit.f k a0=some r) :
  Calls Tryd.prog 74 #[.int .u8 a0] w fun e w'=>e = .returned (.int .i64 r)∧Drawn0 w w':=by
 unfold stowageref3_Digit.f at h
 have H:=h
 clear h
 have HC2:=Aside0.mk H
 clear H
 go_enter Tryd.func74,Tryd.ntmps74
 go_upto_region 1 with(fail)
 go_cut [3] (fun v3 wc=>∃ (kq:Nat) (x3_1:Bool),v3 = .bool x3_1∧Aside0 (stowageref3_Digit.j0 kq a0 x3_1=some r)∧Aside0 (kq≤k)∧Drawn0 w wc)
 case first=>
  have H:=HC2.out
  clear HC2
  replace H:=itO H
  rcases H with⟨c3,H⟩|⟨c3,H⟩
  ·skip
   have c3b0:decide (48≤a0)=true:=decide_eq_true c3
   clear c3
   (first|rw [c3b0]|(simp only [i64_w,i32_w];rw [c3b0])|skip)
   have H':=Aside0.mk H
   clear H
   go_wp2
   go_meet
   case rel=>exact⟨_,(decide (a0≤57)),(by first|rfl|(simp;done)|(simp [*];done)),H',⟨by first|omega|exact Nat.le_refl _⟩,by repeat (first|exact Drawn0.refl _|apply Drawn0.step)⟩
  ·skip
   have c3b0:decide (48≤a0)=false:=decide_eq_false c3
   clear c3
   (first|rw [c3b0]|(simp only [i64_w,i32_w];rw [c3b0])|skip)
   have H':=Aside0.mk H
   clear H
   go_wp2
   go_meet
   case rel=>exact⟨_,(false),(by first|rfl|(simp;done)|(simp [*];done)),H',⟨by first|omega|exact Nat.le_refl _⟩,by repeat (first|exact Drawn0.refl _|apply Drawn0.step)⟩
 case rest=>
  clear HC2
  try clear p2
  try clear c3
  try clear c3b0
  obtain⟨kq,x3_1,rfl,HA,HJ1,⟨mc1,rfl⟩⟩:=hcut
  cases kq with
  | zero=>exact absurd HA.out (by simp [stowageref3_Digit.j0])
  | succ kj1=>
   have H:=HA.out
   clear HA
   simp only [stowageref3_Digit.j0] at H
   by_cases c4:x3_1=true
   ·subst c4
    replace H:=itT H
    obtain rfl:=Option.some.inj H
    go_wp2
    go_ret
    exact⟨by first|rfl|(simp;done)|(simp [*];done),by repeat (first|exact Drawn0.refl _|apply Drawn0.step)⟩
   ·replace c4:=Bool.eq_false_iff.mpr c4
    subst c4
    replace H:=itF H
    have HC5:=Aside0.mk H
    clear H
    go_upto_region 3 with(fail)
    go_cut [13] (fun v13 wc=>∃ (kq:Nat) (x13_4:Bool),v13 = .bool x13_4∧Aside0 (stowageref3_Digit.j1 kq a0 x13_4=some r)∧Aside0 (kq≤kj1)∧Drawn0 w wc)
    case first=>
     have H:=HC5.out
     clear HC5
     replace H:=itO H
     rcases H with⟨c6,H⟩|⟨c6,H⟩
     ·skip
      have c6b0:decide (97≤a0)=true:=decide_eq_true c6
      clear c6
      (first|rw [c6b0]|(simp only [i64_w,i32_w];rw [c6b0])|skip)
      have H':=Aside0.mk H
      clear H
      go_wp2
      go_meet
      case rel=>exact⟨_,(decide (a0≤102)),(by first|rfl|(simp;done)|(simp [*];done)),H',⟨by have:=HJ1.out;first|omega|exact Nat.le_refl _⟩,by repeat (first|exact Drawn0.refl _|apply Drawn0.step)⟩
     ·skip
      have c6b0:decide (97≤a0)=false:=decide_eq_false c6
      clear c6
      (first|rw [c6b0]|(simp only [i64_w,i32_w];rw [c6b0])|skip)
      have H':=Aside0.mk H
      clear H
      go_wp2
      go_meet
      case rel=>exact⟨_,(false),(by first|rfl|(simp;done)|(simp [*];done)),H',⟨by have:=HJ1.out;first|omega|exact Nat.le_refl _⟩,by repeat (first|exact Drawn0.refl _|apply Drawn0.step)⟩
    case rest=>
     clear HC5
     try clear c1
     try clear p2
     try clear c3
     try clear c3b0
     try clear c4
     try clear c6
     try clear c6b0
     try clear p2
     obtain⟨kq,x13_4,rfl,HA,HJ4,⟨mc4,rfl⟩⟩:=hcut
     cases kq with
     | zero=>exact absurd HA.out (by simp [stowageref3_Digit.j1])
     | succ kj4=>
      have H:=HA.out
      clear HA
      simp only [stowageref3_Digit.j1] at H
      by_cases c7:x13_4=true
      ·subst c7
       replace H:=itT H
       obtain rfl:=Option.some.inj H
       go_wp2
       go_ret
       exact⟨by first|rfl|(simp;done)|(simp [*];done),by repeat (first|exact Drawn0.refl _|apply Drawn0.step)⟩
      ·replace c7:=Bool.eq_false_iff.mpr c7
       subst c7
       replace H:=itF H
       replace H:=itO H
       rcases H with⟨c8,H⟩|⟨c8,H⟩
       ·skip
        have c8b0:decide (65≤a0)=true:=decide_eq_true c8
        clear c8
        replace H:=itO H
        rcases H with⟨c9,H⟩|⟨c9,H⟩
        ·skip
         have c9b0:decide (a0≤70)=true:=decide_eq_true c9
         clear c9
         obtain rfl:=Option.some.inj H
         go_wp2
         go_ret
         exact⟨by first|rfl|(simp;done)|(simp [*];done),by repeat (first|exact Drawn0.refl _|apply Drawn0.step)⟩
        ·skip
         have c9b0:decide (a0≤70)=false:=decide_eq_false c9
         clear c9
         obtain rfl:=Option.some.inj H
         go_wp2
         go_ret
         exact⟨by first|rfl|(simp;done)|(simp [*];done),by repeat (first|exact Drawn0.refl _|apply Drawn0.step)⟩
       ·skip
        have c8b0:decide (65≤a0)=false:=decide_eq_false c8
        clear c8
        obtain rfl:=Option.some.inj H
        go_wp2
        go_ret
        exact⟨by first|rfl|(simp;done)|(simp [*];done),by repeat (first|exact Drawn0.refl _|apply Drawn0.step)⟩
mutual
def stowageref13_entity.j0:Nat→ByteArray→Int→Option (ByteArray×Bool)
 | 0,_,_=>none
 | k+1,x0,x4=>if(x0.size:Int)<1 then(stowageref13_entity.j1 k x0 x4 true) else(stowageref13_entity.j1 k x0 x4 (decide ((x0.size:Int)>7)))
def stowageref13_entity.j1:Nat→ByteArray→Int→Bool→Option (ByteArray×Bool)
 | 0,_,_,_=>none
 | k+1,x0,x4,x34=>if x34=true then(some ((⟨#[]⟩ : ByteArray),false)) else(stowageref13_entity.l0 k x0 x4 0 0)
def stowageref13_entity.l0:Nat→ByteArray→Int→Int→Int→Option (ByteArray×Bool)
 | 0,_,_,_,_=>none
 | k+1,x0,x4,x5,x6=>if x6<(x0.size:Int) then(if 0≤x6 then((stowageref3_Digit.f k (bt x0 x6)).bind fun t157=>(if t157<0 then(some ((⟨#[]⟩ : ByteArray),false)) else(if t157 ≥ x4 then(some ((⟨#[]⟩ : ByteArray),false)) else(stowageref13_entity.l0 k x0 x4 (wrap64 ((wrap64 (x4*x5))+t157)) (wrap64 (x6+1)))))) else(none)) else((stowageref3_Char.f x5).bind fun t158=>(if t158=true then((stowageref13_utf8.f x5).bind fun t159=>(some (t159,true))) else(some ((⟨#[]⟩ : ByteArray),false))))
end
def stowageref13_entity.f (k:Nat) (a0:ByteArray):Option (ByteArray×Bool):=if a0.toList=([97,109,112]:List UInt8) then(some ((⟨#[38]⟩ : ByteArray),true)) else(if a0.toList=([108,116]:List UInt8) then(some ((⟨#[60]⟩ : ByteArray),true)) else(if a0.toList=([103,116]:List UInt8) then(some ((⟨#[62]⟩ : ByteArray),true)) else(if a0.toList=([113,117,111,116]:List UInt8) then(some ((⟨#[34]⟩ : ByteArray),true)) else(if a0.toList=([97,112,111,115]:List UInt8) then(some ((⟨#[39]⟩ : ByteArray),true)) else((stowageref3_Begins.f a0 (⟨#[35,120]⟩ : ByteArray)).bind fun t155=>(if t155=true then(if 2≤(a0.size:Int) then(stowageref13_entity.j0 k (a0.extract 2 a0.size) 16) else(none)) else((stowageref3_Begins.f a0 (⟨#[35]⟩ : ByteArray)).bind fun t156=>(if t156=true then(if 1≤(a0.size:Int) then(stowageref13_entity.j0 k (a0.extract 1 a0.size) 10) else(none)) else(some ((⟨#[]⟩ : ByteArray),false))))))))))
theorem stowageref13_entity.mono_l:∀ k,(∀ y0 y1,LeO (stowageref13_entity.j0 k y0 y1) (stowageref13_entity.j0 (k+1) y0 y1))∧(∀ y0 y1 y2,LeO (stowageref13_entity.j1 k y0 y1 y2) (stowageref13_entity.j1 (k+1) y0 y1 y2))∧(∀ y0 y1 y2 y3,LeO (stowageref13_entity.l0 k y0 y1 y2 y3) (stowageref13_entity.l0 (k+1) y0 y1 y2 y3))
 | 0=>⟨fun _ _ r h=>by simp [stowageref13_entity.j0] at h,fun _ _ _ r h=>by simp [stowageref13_entity.j1] at h,fun _ _ _ _ r h=>by simp [stowageref13_entity.l0] at h⟩
 | k+1=>by
  obtain⟨ih0,ih1,ih2⟩:=stowageref13_entity.mono_l k
  refine⟨?_,?_,?_⟩
  ·intro y0 y1
   unfold stowageref13_entity.j0
   repeat' first
   | (with_reducible exact ih0 _ _)
   | (with_reducible exact ih1 _ _ _)
   | (with_reducible exact ih2 _ _ _ _)
   | (with_reducible exact stowageref3_Digit.mono _ _)
   | (with_reducible exact LeO.refl _)
   | (with_reducible exact LeO.none _)
   | (with_reducible refine LeO.ite ?_ ?_)
   | (with_reducible refine LeO.bind ?_ (fun _=>?_))
   | exact ih0 _ _
   | exact ih1 _ _ _
   | exact ih2 _ _ _ _
   | exact stowageref3_Digit.mono _ _
   | exact LeO.none _
   | refine LeO.ite ?_ ?_
   | refine LeO.bind ?_ (fun _=>?_)
  ·intro y0 y1 y2
   unfold stowageref13_entity.j1
   repeat' first
   | (with_reducible exact ih0 _ _)
   | (with_reducible exact ih1 _ _ _)
   | (with_reducible exact ih2 _ _ _ _)
   | (with_reducible exact stowageref3_Digit.mono _ _)
   | (with_reducible exact LeO.refl _)
   | (with_reducible exact LeO.none _)
   | (with_reducible refine LeO.ite ?_ ?_)
   | (with_reducible refine LeO.bind ?_ (fun _=>?_))
   | exact ih0 _ _
   | exact ih1 _ _ _
   | exact ih2 _ _ _ _
   | exact stowageref3_Digit.mono _ _
   | exact LeO.none _
   | refine LeO.ite ?_ ?_
   | refine LeO.bind ?_ (fun _=>?_)
  ·intro y0 y1 y2 y3
   unfold stowageref13_entity.l0
   repeat' first
   | (with_reducible exact ih0 _ _)
   | (with_reducible exact ih1 _ _ _)
   | (with_reducible exact ih2 _ _ _ _)
   | (with_reducible exact stowageref3_Digit.mono _ _)
   | (with_reducible exact LeO.refl _)
   | (with_reducible exact LeO.none _)
   | (with_reducible refine LeO.ite ?_ ?_)
   | (with_reducible refine LeO.bind ?_ (fun _=>?_))
   | exact ih0 _ _
   | exact ih1 _ _ _
   | exact ih2 _ _ _ _
   | exact stowageref3_Digit.mono _ _
   | exact LeO.none _
   | refine LeO.ite ?_ ?_
   | refine LeO.bind ?_ (fun _=>?_)
theorem stowageref13_entity.mono:∀ a0 k,LeO (stowageref13_entity.f k a0) (stowageref13_entity.f (k+1) a0):=by
 intro a0 k
 obtain⟨ih0,ih1,ih2⟩:=stowageref13_entity.mono_l k
 unfold stowageref13_entity.f
 repeat' first
   | (with_reducible exact ih0 _ _)
   | (with_reducible exact ih1 _ _ _)
   | (with_reducible exact ih2 _ _ _ _)
   | (with_reducible exact stowageref3_Digit.mono _ _)
   | (with_reducible exact LeO.refl _)
   | (with_reducible exact LeO.none _)
   | (with_reducible refine LeO.ite ?_ ?_)
   | (with_reducible refine LeO.bind ?_ (fun _=>?_))
   | exact ih0 _ _
   | exact ih1 _ _ _
   | exact ih2 _ _ _ _
   | exact stowageref3_Digit.mono _ _
   | exact LeO.none _
   | refine LeO.ite ?_ ?_
   | refine LeO.bind ?_ (fun _=>?_)
theorem stowageref13_entity.calls (k:Nat) (a0:ByteArray) (r1:ByteArray) (r2:Bool) (w:World) (h:stowageref13_entity.f k a0=some (r1,r2)) :
  Calls Tryd.prog 41 #[.string a0] w fun e w'=>e = .returned (.tuple #[.string r1,.bool r2])∧Below w.heap.size w w':=by
 have HB:=Aside0.mk (Below.refl w.heap.size w)
 unfold stowageref13_entity.f at h
 have H:=h
 clear h
 replace H:=itO H
 rcases H with⟨c2,H⟩|⟨c2,H⟩
 ·skip
  have c2b0:(a0.toList == ([97,109,112]:List UInt8))=true:=beq_iff_eq.mpr c2
  have c2b1:(a0.toList != ([97,109,112]:List UInt8))=false:=bne_eq_false_iff_eq.mpr c2
  clear c2
  simp only [Option.some.injEq,Prod.mk.injEq] at H
  obtain⟨rfl,rfl⟩:=H
  go_enter Tryd.func41,Tryd.ntmps41
  go_wp2
  go_ret2
  exact⟨by first|rfl|(simp [errW_none,errW_some] <;> rfl)|(simp [*,errW_none,errW_some] <;> rfl),by repeat (first|(with_reducible first|exact HB.out|apply below_alloc|apply pw_below_drewN|apply below_drew1)|exact HB.out)⟩
 ·skip
  have c2b0:(a0.toList == ([97,109,112]:List UInt8))=false:=beq_eq_false_iff_ne.mpr c2
  have c2b1:(a0.toList != ([97,109,112]:List UInt8))=true:=bne_iff_ne.mpr c2
  replace H:=itO H
  rcases H with⟨c3,H⟩|⟨c3,H⟩
  ·skip
   have c3b0:(a0.toList == ([108,116]:List UInt8))=true:=beq_iff_eq.mpr c3
   have c3b1:(a0.toList != ([108,116]:List UInt8))=false:=bne_eq_false_iff_eq.mpr c3
   clear c3
   simp only [Option.some.injEq,Prod.mk.injEq] at H
   obtain⟨rfl,rfl⟩:=H
   go_enter Tryd.func41,Tryd.ntmps41
   go_wp2
   go_ret2
   exact⟨by first|rfl|(simp [errW_none,errW_some] <;> rfl)|(simp [*,errW_none,errW_some] <;> rfl),by repeat (first|(with_reducible first|exact HB.out|apply below_alloc|apply pw_below_drewN|apply below_drew1)|exact HB.out)⟩
  ·skip
   have c3b0:(a0.toList == ([108,116]:List UInt8))=false:=beq_eq_false_iff_ne.mpr c3
   have c3b1:(a0.toList != ([108,116]:List UInt8))=true:=bne_iff_ne.mpr c3
   replace H:=itO H
   rcases H with⟨c4,H⟩|⟨c4,H⟩
   ·skip
    have c4b0:(a0.toList == ([103,116]:List UInt8))=true:=beq_iff_eq.mpr c4
    have c4b1:(a0.toList != ([103,116]:List UInt8))=false:=bne_eq_false_iff_eq.mpr c4
    clear c4
    simp only [Option.some.injEq,Prod.mk.injEq] at H
    obtain⟨rfl,rfl⟩:=H
    go_enter Tryd.func41,Tryd.ntmps41
    go_wp2
    go_ret2
    exact⟨by first|rfl|(simp [errW_none,errW_some] <;> rfl)|(simp [*,errW_none,errW_some] <;> rfl),by repeat (first|(with_reducible first|exact HB.out|apply below_alloc|apply pw_below_drewN|apply below_drew1)|exact HB.out)⟩
   ·skip
    have c4b0:(a0.toList == ([103,116]:List UInt8))=false:=beq_eq_false_iff_ne.mpr c4
    have c4b1:(a0.toList != ([103,116]:List UInt8))=true:=bne_iff_ne.mpr c4
    replace H:=itO H
    rcases H with⟨c5,H⟩|⟨c5,H⟩
    ·skip
     have c5b0:(a0.toList == ([113,117,111,116]:List UInt8))=true:=beq_iff_eq.mpr c5
     have c5b1:(a0.toList != ([113,117,111,116]:List UInt8))=false:=bne_eq_false_iff_eq.mpr c5
     clear c5
     simp only [Option.some.injEq,Prod.mk.injEq] at H
     obtain⟨rfl,rfl⟩:=H
     go_enter Tryd.func41,Tryd.ntmps41
     go_wp2
     go_ret2
     exact⟨by first|rfl|(simp [errW_none,errW_some] <;> rfl)|(simp [*,errW_none,errW_some] <;> rfl),by repeat (first|(with_reducible first|exact HB.out|apply below_alloc|apply pw_below_drewN|apply below_drew1)|exact HB.out)⟩
    ·skip
     have c5b0:(a0.toList == ([113,117,111,116]:List UInt8))=false:=beq_eq_false_iff_ne.mpr c5
     have c5b1:(a0.toList != ([113,117,111,116]:List UInt8))=true:=bne_iff_ne.mpr c5
     replace H:=itO H
     rcases H with⟨c6,H⟩|⟨c6,H⟩
     ·skip
      have c6b0:(a0.toList == ([97,112,111,115]:List UInt8))=true:=beq_iff_eq.mpr c6
      have c6b1:(a0.toList != ([97,112,111,115]:List UInt8))=false:=bne_eq_false_iff_eq.mpr c6
      clear c6
      simp only [Option.some.injEq,Prod.mk.injEq] at H
      obtain⟨rfl,rfl⟩:=H
      go_enter Tryd.func41,Tryd.ntmps41
      go_wp2
      go_ret2
      exact⟨by first|rfl|(simp [errW_none,errW_some] <;> rfl)|(simp [*,errW_none,errW_some] <;> rfl),by repeat (first|(with_reducible first|exact HB.out|apply below_alloc|apply pw_below_drewN|apply below_drew1)|exact HB.out)⟩
     ·skip
      have c6b0:(a0.toList == ([97,112,111,115]:List UInt8))=false:=beq_eq_false_iff_ne.mpr c6
      have c6b1:(a0.toList != ([97,112,111,115]:List UInt8))=true:=bne_iff_ne.mpr c6
      replace H:=bndO H
      obtain⟨t155,A70,H⟩:=H
      have A7:=Aside0.mk A70
      clear A70
      have HC8:=Aside0.mk H
      clear H
      go_enter Tryd.func41,Tryd.ntmps41
      go_upto_if 20 with(first|((with_reducible refine gate_callee (f:=64) rfl ?_);refine goesL_ (some 20) rfl rfl Tryd.func64 (by kernel_rfl) rfl #[.string a0,.string (⟨#[35,120]⟩ : ByteArray)] rfl (by(try simp only [List.map_toArray,List.map_cons,List.map_nil]);first|done|rfl|(simp only [List.length_drop,List.length_take];rfl)) ?_;(with_reducible refine(stowageref3_Begins.calls a0 (⟨#[35,120]⟩ : ByteArray) t155 _ A7.out).mono ?_);rintro e w' ⟨rfl,⟨nd,rfl⟩⟩;refine⟨_,rfl,?_⟩))
      (try simp only [Act.put,List.setIfInBounds_toArray,List.set_cons_zero,List.set_cons_succ])
      go_cut [0,4] (fun v0 v4 wc=>∃ (kq:Nat) (x0_7:ByteArray) (x4_7:Int),v0 = .string x0_7∧v4 = .int .i64 x4_7∧Aside0 (stowageref13_entity.j0 kq x0_7 x4_7=some (r1,r2))∧Aside0 (kq≤k)∧Aside0 (Below w.heap.size w wc))
      case first=>
       have H:=HC8.out
       clear HC8
       by_cases c9:t155=true
       ·subst c9
        replace H:=itT H
        replace H:=itO H
        rcases H with⟨c10,H⟩|⟨c10,H⟩
        ·skip
         have c10b0:=eq_true c10
         have c10b1:=decide_eq_true c10
         clear c10
         have H':=Aside0.mk H
         clear H
         go_wp2
         go_meet
         case rel=>exact⟨_,(a0.extract 2 a0.size),(16),(by first|rfl|(simp;done)|(simp [*];done)),(by first|rfl|(simp;done)|(simp [*];done)),H',⟨by first|omega|exact Nat.le_refl _⟩,⟨by repeat (first|(with_reducible first|exact HB.out|apply below_alloc|apply pw_below_drewN|apply below_drew1)|exact HB.out)⟩⟩
        ·exact absurd H (by simp)
       ·replace c9:=Bool.eq_false_iff.mpr c9
        subst c9
        replace H:=itF H
        replace H:=bndO H
        obtain⟨t156,A110,H⟩:=H
        have A11:=Aside0.mk A110
        clear A110
        by_cases c12:t156=true
        ·subst c12
         replace H:=itT H
         replace H:=itO H
         rcases H with⟨c13,H⟩|⟨c13,H⟩
         ·skip
          have c13b0:=eq_true c13
          have c13b1:=decide_eq_true c13
          clear c13
          have H':=Aside0.mk H
          clear H
          go_wp2_with (first|((with_reducible refine gate_callee (f:=64) rfl ?_);refine goesL_ (some 24) rfl rfl Tryd.func64 (by kernel_rfl) rfl #[.string a0,.string (⟨#[35]⟩ : ByteArray)] rfl (by(try simp only [List.map_toArray,List.map_cons,List.map_nil]);first|done|rfl|(simp only [List.length_drop,List.length_take];rfl)) ?_;(with_reducible refine(stowageref3_Begins.calls a0 (⟨#[35]⟩ : ByteArray) true _ A11.out).mono ?_);rintro e w' ⟨rfl,⟨nd,rfl⟩⟩;refine⟨_,rfl,?_⟩))
          go_meet
          case rel=>exact⟨_,(a0.extract 1 a0.size),(10),(by first|rfl|(simp;done)|(simp [*];done)),(by first|rfl|(simp;done)|(simp [*];done)),H',⟨by first|omega|exact Nat.le_refl _⟩,⟨by repeat (first|(with_reducible first|exact HB.out|apply below_alloc|apply pw_below_drewN|apply below_drew1)|exact HB.out)⟩⟩
         ·exact absurd H (by simp)
        ·replace c12:=Bool.eq_false_iff.mpr c12
         subst c12
         replace H:=itF H
         simp only [Option.some.injEq,Prod.mk.injEq] at H
         obtain⟨rfl,rfl⟩:=H
         go_wp2_with (first|((with_reducible refine gate_callee (f:=64) rfl ?_);refine goesL_ (some 24) rfl rfl Tryd.func64 (by kernel_rfl) rfl #[.string a0,.string (⟨#[35]⟩ : ByteArray)] rfl (by(try simp only [List.map_toArray,List.map_cons,List.map_nil]);first|done|rfl|(simp only [List.length_drop,List.length_take];rfl)) ?_;(with_reducible refine(stowageref3_Begins.calls a0 (⟨#[35]⟩ : ByteArray) false _ A11.out).mono ?_);rintro e w' ⟨rfl,⟨nd,rfl⟩⟩;refine⟨_,rfl,?_⟩))
         go_ret2
         exact⟨by first|rfl|(simp [errW_none,errW_some] <;> rfl)|(simp [*,errW_none,errW_some] <;> rfl),by repeat (first|(with_reducible first|exact HB.out|apply below_alloc|apply pw_below_drewN|apply below_drew1)|exact HB.out)⟩
      case rest=>
       clear HC8
       try clear c1
       try clear c2
       try clear c2b0
       try clear c2b1
       try clear p2
       try clear c3
       try clear c3b0
       try clear c3b1
       try clear c4
       try clear c4b0
       try clear c4b1
       try clear c5
       try clear c5b0
       try clear c5b1
       try clear c6
       try clear c6b0
       try clear c6b1
       try clear c9
       try clear c10
       try clear c10b0
       try clear c10b1
       try clear c12
       try clear c13
       try clear c13b0
       try clear c13b1
       obtain⟨kq,x0_7,x4_7,rfl,rfl,HA,HJ7,HB⟩:=hcut
       cases kq with
       | zero=>exact absurd HA.out (by simp [stowageref13_entity.j0])
       | succ kj7=>
        have H:=HA.out
        clear HA
        simp only [stowageref13_entity.j0] at H
        have HC14:=Aside0.mk H
        clear H
        go_upto_region 19 with(fail)
        go_cut [34] (fun v34 wc=>∃ (kq:Nat) (x34_13:Bool),v34 = .bool x34_13∧Aside0 (stowageref13_entity.j1 kq x0_7 x4_7 x34_13=some (r1,r2))∧Aside0 (kq≤kj7)∧Aside0 (Below w.heap.size w wc))
        case first=>
         have H:=HC14.out
         clear HC14
         replace H:=itO H
         rcases H with⟨c15,H⟩|⟨c15,H⟩
         ·skip
          have c15b0:decide ((x0_7.size:Int)<1)=true:=decide_eq_true c15
          have c15b1:decide (x0_7.size<1)=true:=decide_eq_true (by omega)
          clear c15
          (first|rw [c15b0]|(simp only [i64_w,i32_w];rw [c15b0])|skip)
          have H':=Aside0.mk H
          clear H
          go_wp2
          go_meet
          case rel=>exact⟨_,(true),(by first|rfl|(simp;done)|(simp [*];done)),H',⟨by have:=HJ7.out;first|omega|exact Nat.le_refl _⟩,⟨by repeat (first|(with_reducible first|exact HB.out|apply below_alloc|apply pw_below_drewN|apply below_drew1)|exact HB.out)⟩⟩
         ·skip
          have c15b0:decide ((x0_7.size:Int)<1)=false:=decide_eq_false c15
          have c15b1:decide (x0_7.size<1)=false:=decide_eq_false (by omega)
          clear c15
          (first|rw [c15b0]|(simp only [i64_w,i32_w];rw [c15b0])|skip)
          have H':=Aside0.mk H
          clear H
          go_wp2
          go_meet
          case rel=>exact⟨_,(decide ((x0_7.size:Int)>7)),(by first|rfl|(simp;done)|(simp [*];done)),H',⟨by have:=HJ7.out;first|omega|exact Nat.le_refl _⟩,⟨by repeat (first|(with_reducible first|exact HB.out|apply below_alloc|apply pw_below_drewN|apply below_drew1)|exact HB.out)⟩⟩
        case rest=>
         clear HC14
         try clear c1
         try clear c2
         try clear c2b0
         try clear c2b1
         try clear p2
         try clear c3
         try clear c3b0
         try clear c3b1
         try clear c4
         try clear c4b0
         try clear c4b1
         try clear c5
         try clear c5b0
         try clear c5b1
         try clear c6
         try clear c6b0
         try clear c6b1
         try clear c9
         try clear c10
         try clear c10b0
         try clear c10b1
         try clear c12
         try clear c13
         try clear c13b0
         try clear c13b1
         try clear c15
         try clear c15b0
         try clear c15b1
         try clear p2
         obtain⟨kq,x34_13,rfl,HA,HJ13,HB⟩:=hcut
         cases kq with
         | zero=>exact absurd HA.out (by simp [stowageref13_entity.j1])
         | succ kj13=>
          have H:=HA.out
          clear HA
          simp only [stowageref13_entity.j1] at H
          by_cases c16:x34_13=true
          ·subst c16
           replace H:=itT H
           simp only [Option.some.injEq,Prod.mk.injEq] at H
           obtain⟨rfl,rfl⟩:=H
           go_wp2
           go_ret2
           exact⟨by first|rfl|(simp [errW_none,errW_some] <;> rfl)|(simp [*,errW_none,errW_some] <;> rfl),by repeat (first|(with_reducible first|exact HB.out|apply below_alloc|apply pw_below_drewN|apply below_drew1)|exact HB.out)⟩
          ·replace c16:=Bool.eq_false_iff.mpr c16
           subst c16
           replace H:=itF H
           have H':=Aside0.mk H
           clear H
           go_wp2
           go_loopg [5,6] kj13 (fun kq v5 v6 w'=>∃ (x5_3:Int) (x6_3:Int),v5 = .int .i64 x5_3∧v6 = .int .i64 x6_3∧Aside0 (stowageref13_entity.l0 kq x0_7 x4_7 x5_3 x6_3=some (r1,r2))∧Aside0 (kq≤kj13)∧Aside0 (Below w.heap.size w w'))
           case atStart=>exact⟨(0),(0),(by first|rfl|(simp;done)|(simp [*];done)),(by first|rfl|(simp;done)|(simp [*];done)),H',⟨Nat.le_refl _⟩,⟨by repeat (first|(with_reducible first|exact HB.out|apply below_alloc|apply pw_below_drewN|apply below_drew1)|exact HB.out)⟩⟩
           case round=>
            clear H'
            try clear c1
            try clear c2
            try clear c2b0
            try clear c2b1
            try clear p2
            try clear c3
            try clear c3b0
            try clear c3b1
            try clear c4
            try clear c4b0
            try clear c4b1
            try clear c5
            try clear c5b0
            try clear c5b1
            try clear c6
            try clear c6b0
            try clear c6b1
            try clear c9
            try clear c10
            try clear c10b0
            try clear c10b1
            try clear c12
            try clear c13
            try clear c13b0
            try clear c13b1
            try clear c15
            try clear c15b0
            try clear c15b1
            try clear c16
            try clear p2
            obtain⟨x5_3,x6_3,rfl,rfl,HA,HK3,HB⟩:=hrel
            cases gk with
            | zero=>exact absurd HA.out (by simp [stowageref13_entity.l0])
            | succ k3=>
             have H:=HA.out
             clear HA
             simp only [stowageref13_entity.l0] at H
             replace H:=itO H
             rcases H with⟨c17,H⟩|⟨c17,H⟩
             ·skip
              have c17b0:decide (x6_3<(x0_7.size:Int))=true:=decide_eq_true c17
              clear c17
              replace H:=itO H
              rcases H with⟨c18,H⟩|⟨c18,H⟩
              ·skip
               have c18b0:decide (0≤x6_3)=true:=decide_eq_true c18
               clear c18
               replace H:=bndO H
               obtain⟨t157,A200,H⟩:=H
               have A20:=Aside0.mk A200
               clear A200
               replace H:=itO H
               rcases H with⟨c21,H⟩|⟨c21,H⟩
               ·skip
                have c21b0:decide (t157<0)=true:=decide_eq_true c21
                clear c21
                simp only [Option.some.injEq,Prod.mk.injEq] at H
                obtain⟨rfl,rfl⟩:=H
                have p19:0≤(x6_3:Int):=of_decide_eq_true (by first|(with_reducible assumption)|assumption)
                have q19:x6_3<(x0_7.size:Int):=of_decide_eq_true (by first|(with_reducible assumption)|assumption)
                have hx19:=bt_at x0_7 x6_3
                replace p19:=eq_true p19
                replace q19:=eq_true q19
                go_wp2_with (first|((with_reducible refine gate_callee (f:=74) rfl ?_);refine goesL_ (some 44) rfl rfl Tryd.func74 (by kernel_rfl) rfl #[.int .u8 (bt x0_7 x6_3)] rfl (by(try simp only [List.map_toArray,List.map_cons,List.map_nil]);first|done|rfl|(simp only [List.length_drop,List.length_take];rfl)) ?_;(with_reducible refine(stowageref3_Digit.calls k3 (bt x0_7 x6_3) t157 _ A20.out).mono ?_);rintro e w' ⟨rfl,⟨nd,rfl⟩⟩;refine⟨_,rfl,?_⟩))
                go_ret2
                exact⟨by first|rfl|(simp [errW_none,errW_some] <;> rfl)|(simp [*,errW_none,errW_some] <;> rfl),by repeat (first|(with_reducible first|exact HB.out|apply below_alloc|apply pw_below_drewN|apply below_drew1)|exact HB.out)⟩
               ·skip
                have c21b0:decide (t157<0)=false:=decide_eq_false c21
                clear c21
                replace H:=itO H
                rcases H with⟨c22,H⟩|⟨c22,H⟩
                ·skip
                 have c22b0:decide (x4_7≤t157)=true:=decide_eq_true c22
                 clear c22
                 simp only [Option.some.injEq,Prod.mk.injEq] at H
                 obtain⟨rfl,rfl⟩:=H
                 have p19:0≤(x6_3:Int):=of_decide_eq_true (by first|(with_reducible assumption)|assumption)
                 have q19:x6_3<(x0_7.size:Int):=of_decide_eq_true (by first|(with_reducible assumption)|assumption)
                 have hx19:=bt_at x0_7 x6_3
                 replace p19:=eq_true p19
                 replace q19:=eq_true q19
                 go_wp2_with (first|((with_reducible refine gate_callee (f:=74) rfl ?_);refine goesL_ (some 44) rfl rfl Tryd.func74 (by kernel_rfl) rfl #[.int .u8 (bt x0_7 x6_3)] rfl (by(try simp only [List.map_toArray,List.map_cons,List.map_nil]);first|done|rfl|(simp only [List.length_drop,List.length_take];rfl)) ?_;(with_reducible refine(stowageref3_Digit.calls k3 (bt x0_7 x6_3) t157 _ A20.out).mono ?_);rintro e w' ⟨rfl,⟨nd,rfl⟩⟩;refine⟨_,rfl,?_⟩))
                 go_ret2
                 exact⟨by first|rfl|(simp [errW_none,errW_some] <;> rfl)|(simp [*,errW_none,errW_some] <;> rfl),by repeat (first|(with_reducible first|exact HB.out|apply below_alloc|apply pw_below_drewN|apply below_drew1)|exact HB.out)⟩
                ·skip
                 have c22b0:decide (x4_7≤t157)=false:=decide_eq_false c22
                 clear c22
                 have H':=Aside0.mk H
                 clear H
                 have p19:0≤(x6_3:Int):=of_decide_eq_true (by first|(with_reducible assumption)|assumption)
                 have q19:x6_3<(x0_7.size:Int):=of_decide_eq_true (by first|(with_reducible assumption)|assumption)
                 have hx19:=bt_at x0_7 x6_3
                 replace p19:=eq_true p19
                 replace q19:=eq_true q19
                 go_wp2_with (first|((with_reducible refine gate_callee (f:=74) rfl ?_);refine goesL_ (some 44) rfl rfl Tryd.func74 (by kernel_rfl) rfl #[.int .u8 (bt x0_7 x6_3)] rfl (by(try simp only [List.map_toArray,List.map_cons,List.map_nil]);first|done|rfl|(simp only [List.length_drop,List.length_take];rfl)) ?_;(with_reducible refine(stowageref3_Digit.calls k3 (bt x0_7 x6_3) t157 _ A20.out).mono ?_);rintro e w' ⟨rfl,⟨nd,rfl⟩⟩;refine⟨_,rfl,?_⟩))
                 go_roundg k3
                 case measure=>have:=HJ7.out;have:=HJ13.out;have:=HK3.out;omega
                 case rel=>exact⟨(wrap64 ((wrap64 (x4_7*x5_3))+t157)),(wrap64 (x6_3+1)),(by first|rfl|(simp;done)|(simp [*];done)),(by first|rfl|(simp;done)|(simp [*];done)),H',⟨by have:=HJ7.out;have:=HJ13.out;have:=HK3.out;omega⟩,⟨by repeat (first|(with_reducible first|exact HB.out|apply below_alloc|apply pw_below_drewN|apply below_drew1)|exact HB.out)⟩⟩
              ·exact absurd H (by simp)
             ·skip
              have c17b0:decide (x6_3<(x0_7.size:Int))=false:=decide_eq_false c17
              clear c17
              replace H:=bndO H
              obtain⟨t158,A230,H⟩:=H
              have A23:=Aside0.mk A230
              clear A230
              by_cases c24:t158=true
              ·subst c24
               replace H:=itT H
               replace H:=bndO H
               obtain⟨t159,A250,H⟩:=H
               have A25:=Aside0.mk A250
               clear A250
               simp only [Option.some.injEq,Prod.mk.injEq] at H
               obtain⟨rfl,rfl⟩:=H
               go_wp2_with (first|((with_reducible refine gate_callee (f:=63) rfl ?_);refine goesL_ (some 58) rfl rfl Tryd.func63 (by kernel_rfl) rfl #[.int .i64 x5_3] rfl (by(try simp only [List.map_toArray,List.map_cons,List.map_nil]);first|done|rfl|(simp only [List.length_drop,List.length_take];rfl)) ?_;(with_reducible refine(stowageref3_Char.calls x5_3 true _ A23.out).mono ?_);rintro e w' ⟨rfl,⟨nd,rfl⟩⟩;refine⟨_,rfl,?_⟩)|((with_reducible refine gate_callee (f:=75) rfl ?_);refine goesL_ (some 61) rfl rfl Tryd.func75 (by kernel_rfl) rfl #[.int .i64 x5_3] rfl (by(try simp only [List.map_toArray,List.map_cons,List.map_nil]);first|done|rfl|(simp only [List.length_drop,List.length_take];rfl)) ?_;(with_reducible refine(stowageref13_utf8.calls x5_3 t159 _ A25.out).mono ?_);rintro e w26 ⟨rfl,hb⟩;refine⟨_,rfl,?_⟩;have n0_:=Aside0.mk (below_step (by repeat (first|(with_reducible first|exact HB.out|apply below_alloc|apply pw_below_drewN|apply below_drew1)|exact HB.out)) hb);clear HB;have HB:=n0_;clear n0_;(try clear hb);(try clear hb2);(try clear hk);(try clear hi)))
               go_ret2
               exact⟨by first|rfl|(simp [errW_none,errW_some] <;> rfl)|(simp [*,errW_none,errW_some] <;> rfl),by repeat (first|(with_reducible first|exact HB.out|apply below_alloc|apply pw_below_drewN|apply below_drew1)|exact HB.out)⟩
              ·replace c24:=Bool.eq_false_iff.mpr c24
               subst c24
               replace H:=itF H
               simp only [Option.some.injEq,Prod.mk.injEq] at H
               obtain⟨rfl,rfl⟩:=H
               go_wp2_with (first|((with_reducible refine gate_callee (f:=63) rfl ?_);refine goesL_ (some 58) rfl rfl Tryd.func63 (by kernel_rfl) rfl #[.int .i64 x5_3] rfl (by(try simp only [List.map_toArray,List.map_cons,List.map_nil]);first|done|rfl|(simp only [List.length_drop,List.length_take];rfl)) ?_;(with_reducible refine(stowageref3_Char.calls x5_3 false _ A23.out).mono ?_);rintro e w' ⟨rfl,⟨nd,rfl⟩⟩;refine⟨_,rfl,?_⟩))
               go_ret2
               exact⟨by first|rfl|(simp [errW_none,errW_some] <;> rfl)|(simp [*,errW_none,errW_some] <;> rfl),by repeat (first|(with_reducible first|exact HB.out|apply below_alloc|apply pw_below_drewN|apply below_drew1)|exact HB.out)⟩
def stowageref3_Cut.l0:Nat→ByteArray→Int→Int→Option (ByteArray×ByteArray×Bool)
 | 0,_,_,_=>none
 | k+1,x0,x1,x7=>if x7<(x0.size:Int) then(if 0≤x7 then(if(bt x0 x7)=x1 then(if x7≤(x0.size:Int) then(if 0≤(wrap64 (x7+1)) then(if(wrap64 (x7+1))≤(x0.size:Int) then(some (x0.extract 0 (x7:Int).toNat,x0.extract ((wrap64 (x7+1)):Int).toNat x0.size,true)) else(none)) else(none)) else(none)) else(stowageref3_Cut.l0 k x0 x1 (wrap64 (x7+1)))) else(none)) else(some (x0,(⟨#[]⟩ : ByteArray),false))
def stowageref3_Cut.f (k:Nat) (a0:ByteArray) (a1:Int):Option (ByteArray×ByteArray×Bool):=stowageref3_Cut.l0 k a0 a1 0
theorem stowageref3_Cut.mono_l:∀ k,(∀ y0 y1 y2,LeO (stowageref3_Cut.l0 k y0 y1 y2) (stowageref3_Cut.l0 (k+1) y0 y1 y2))
 | 0=>fun _ _ _ r h=>by simp [stowageref3_Cut.l0] at h
 | k+1=>by
  have ih0:=stowageref3_Cut.mono_l k
  ·intro y0 y1 y2
   unfold stowageref3_Cut.l0
   repeat' first
   | (with_reducible exact ih0 _ _ _)
   | (with_reducible exact LeO.refl _)
   | (with_reducible exact LeO.none _)
   | (with_reducible refine LeO.ite ?_ ?_)
   | (with_reducible refine LeO.bind ?_ (fun _=>?_))
   | exact ih0 _ _ _
   | exact LeO.none _
   | refine LeO.ite ?_ ?_
   | refine LeO.bind ?_ (fun _=>?_)
theorem stowageref3_Cut.mono:∀ a0 a1 k,LeO (stowageref3_Cut.f k a0 a1) (stowageref3_Cut.f (k+1) a0 a1):=by
 intro a0 a1 k
 have ih0:=stowageref3_Cut.mono_l k
 unfold stowageref3_Cut.f
 repeat' first
   | (with_reducible exact ih0 _ _ _)
   | (with_reducible exact LeO.refl _)
   | (with_reducible exact LeO.none _)
   | (with_reducible refine LeO.ite ?_ ?_)
   | (with_reducible refine LeO.bind ?_ (fun _=>?_))
   | exact ih0 _ _ _
   | exact LeO.none _
   | refine LeO.ite ?_ ?_
   | refine LeO.bind ?_ (fun _=>?_)
theorem stowageref3_Cut.calls (k:Nat) (a0:ByteArray) (a1:Int) (r1:ByteArray) (r2:ByteArray) (r3:Bool) (w:World) (h:stowageref3_Cut.f k a0 a1=some (r1,r2,r3)) :
  Calls Tryd.prog 40 #[.string a0,.int .u8 a1] w fun e w'=>e = .returned (.tuple #[.string r1,.string r2,.bool r3])∧Drawn0 w w':=by
 unfold stowageref3_Cut.f at h
 have H:=h
 clear h
 have H':=Aside0.mk H
 clear H
 go_enter Tryd.func40,Tryd.ntmps40
 go_wp2
 repeat (go_quiet (fail);try go_wp2)
 go_loopg [7] k (fun kq v7 w'=>∃ (x7_1:Int),v7 = .int .i64 x7_1∧Aside0 (stowageref3_Cut.l0 kq a0 a1 x7_1=some (r1,r2,r3))∧Aside0 (kq≤k)∧Drawn0 w w')
 case atStart=>exact⟨(0),(by first|rfl|(simp;done)|(simp [*];done)),H',⟨Nat.le_refl _⟩,by repeat (first|exact Drawn0.refl _|apply Drawn0.step)⟩
 case round=>
  clear H'
  try clear p2
  obtain⟨x7_1,rfl,HA,HK1,⟨m1,rfl⟩⟩:=hrel
  cases gk with
  | zero=>exact absurd HA.out (by simp [stowageref3_Cut.l0])
  | succ k1=>
   have H:=HA.out
   clear HA
   simp only [stowageref3_Cut.l0] at H
   replace H:=itO H
   rcases H with⟨c3,H⟩|⟨c3,H⟩
   ·skip
    have c3b0:decide (x7_1<(a0.size:Int))=true:=decide_eq_true c3
    clear c3
    replace H:=itO H
    rcases H with⟨c4,H⟩|⟨c4,H⟩
    ·skip
     have c4b0:decide (0≤x7_1)=true:=decide_eq_true c4
     clear c4
     replace H:=itO H
     rcases H with⟨c6,H⟩|⟨c6,H⟩
     ·skip
      have c6b0:((bt a0 x7_1) == a1)=true:=beq_iff_eq.mpr c6
      have c6b1:((bt a0 x7_1) != a1)=false:=bne_eq_false_iff_eq.mpr c6
      clear c6
      have c7b0:=eq_true (of_decide_eq_true (by first|(with_reducible assumption)|assumption):0≤x7_1)
      replace H:=itO H
      rcases H with⟨c8,H⟩|⟨c8,H⟩
      ·skip
       have c8b0:=eq_true c8
       have c8b1:=decide_eq_true c8
       clear c8
       obtain⟨ji9,hji9⟩ : ∃ j_:Int,(wrap64 (x7_1+1))=j_:=⟨_,rfl⟩
       first|rw [hji9] at H|simp only [hji9] at H
       have hji9w:(IntKind.i64.wrap (x7_1+1))=ji9:=(i64_w _).trans hji9
       replace H:=itO H
       rcases H with⟨c10,H⟩|⟨c10,H⟩
       ·skip
        have c10b0:=eq_true c10
        have c10b1:=decide_eq_true c10
        clear c10
        replace H:=itO H
        rcases H with⟨c11,H⟩|⟨c11,H⟩
        ·skip
         have c11b0:=eq_true c11
         have c11b1:=decide_eq_true c11
         clear c11
         simp only [Option.some.injEq,Prod.mk.injEq] at H
         obtain⟨rfl,rfl,rfl⟩:=H
         have p5:0≤(x7_1:Int):=of_decide_eq_true (by first|(with_reducible assumption)|assumption)
         have q5:x7_1<(a0.size:Int):=of_decide_eq_true (by first|(with_reducible assumption)|assumption)
         have hx5:=bt_at a0 x7_1
         replace p5:=eq_true p5
         replace q5:=eq_true q5
         go_wp2
         repeat (go_quiet (fail);try go_wp2)
         go_ret3
         exact⟨by first|rfl|(simp;done)|(simp only [← hji9] <;> (first|rfl|simp))|(simp [*];done),by repeat (first|exact Drawn0.refl _|apply Drawn0.step)⟩
        ·exact absurd H (by simp)
       ·exact absurd H (by simp)
      ·exact absurd H (by simp)
     ·skip
      have c6b0:((bt a0 x7_1) == a1)=false:=beq_eq_false_iff_ne.mpr c6
      have c6b1:((bt a0 x7_1) != a1)=true:=bne_iff_ne.mpr c6
      have H':=Aside0.mk H
      clear H
      have p5:0≤(x7_1:Int):=of_decide_eq_true (by first|(with_reducible assumption)|assumption)
      have q5:x7_1<(a0.size:Int):=of_decide_eq_true (by first|(with_reducible assumption)|assumption)
      have hx5:=bt_at a0 x7_1
      replace p5:=eq_true p5
      replace q5:=eq_true q5
      go_wp2
      repeat (go_quiet (fail);try go_wp2)
      go_roundg k1
      case measure=>have:=HK1.out;omega
      case rel=>exact⟨(wrap64 (x7_1+1)),(by first|rfl|(simp;done)|(simp [*];done)),H',⟨by have:=HK1.out;omega⟩,by repeat (first|exact Drawn0.refl _|apply Drawn0.step)⟩
    ·exact absurd H (by simp)
   ·skip
    have c3b0:decide (x7_1<(a0.size:Int))=false:=decide_eq_false c3
    clear c3
    simp only [Option.some.injEq,Prod.mk.injEq] at H
    obtain⟨rfl,rfl,rfl⟩:=H
    go_wp2
    repeat (go_quiet (fail);try go_wp2)
    go_ret3
    exact⟨by first|rfl|(simp;done)|(simp [*];done),by repeat (first|exact Drawn0.refl _|apply Drawn0.step)⟩
def stringslite_Index.f (a0 a1:ByteArray):Option Int:=if a0.size<4294967281 then some (Lib.index a0.data.toList a1.data.toList) else none
theorem stringslite_Index.calls (a0 a1:ByteArray) (r:Int) (w:World) (hG:GOk w) (h:stringslite_Index.f a0 a1=some r) :
  Calls Tryd.prog 78 #[.string a0,.string a1] w fun e w'=>e = .returned (.int .i64 r)∧Drawn0 w w':=by
 unfold stringslite_Index.f at h
 by_cases c:a0.size<4294967281
 ·rw [if_pos c] at h
  obtain rfl:=Option.some.inj h
  obtain⟨m,hm⟩:=gok_max hG
  exact(Tryd.stringslite_Index a0 a1 m w c hm).mono fun e w' ⟨he,hw⟩=>⟨he,by rw [hw];exact Drawn0.refl _⟩
 ·rw [if_neg c] at h
  exact absurd h (by simp)
def stringslite_Cut.f (a0:ByteArray) (a1:ByteArray):Option (ByteArray×ByteArray×Bool):=(stringslite_Index.f a0 a1).bind fun t117=>(if t117 ≥ 0 then(if 0≤t117 then(if t117≤(a0.size:Int) then(if 0≤(wrap64 (t117+(a1.size:Int))) then(if(wrap64 (t117+(a1.size:Int)))≤(a0.size:Int) then(some (a0.extract 0 (t117:Int).toNat,a0.extract ((wrap64 (t117+(a1.size:Int))):Int).toNat a0.size,true)) else(none)) else(none)) else(none)) else(none)) else(some (a0,(⟨#[]⟩ : ByteArray),false)))
theorem stringslite_Cut.calls (a0:ByteArray) (a1:ByteArray) (r1:ByteArray) (r2:ByteArray) (r3:Bool) (w:World) (hG:GOk w) (h:stringslite_Cut.f a0 a1=some (r1,r2,r3)) :
  Calls Tryd.prog 71 #[.string a0,.string a1] w fun e w'=>e = .returned (.tuple #[.string r1,.string r2,.bool r3])∧Drawn0 w w':=by
 unfold stringslite_Cut.f at h
 have H:=h
 clear h
 replace H:=bndO H
 obtain⟨t117,A30,H⟩:=H
 have A3:=Aside0.mk A30
 clear A30
 replace H:=itO H
 rcases H with⟨c4,H⟩|⟨c4,H⟩
 ·skip
  have c4b0:decide (0≤t117)=true:=decide_eq_true c4
  clear c4
  replace H:=itO H
  rcases H with⟨c5,H⟩|⟨c5,H⟩
  ·skip
   have c5b0:=eq_true c5
   have c5b1:=decide_eq_true c5
   clear c5
   replace H:=itO H
   rcases H with⟨c6,H⟩|⟨c6,H⟩
   ·skip
    have c6b0:=eq_true c6
    have c6b1:=decide_eq_true c6
    clear c6
    obtain⟨ji7,hji7⟩ : ∃ j_:Int,(wrap64 (t117+(a1.size:Int)))=j_:=⟨_,rfl⟩
    first|rw [hji7] at H|simp only [hji7] at H
    (try rw [hji7] at A3)
    have hji7w:(IntKind.i64.wrap (t117+(a1.size:Int)))=ji7:=(i64_w _).trans hji7
    replace H:=itO H
    rcases H with⟨c8,H⟩|⟨c8,H⟩
    ·skip
     have c8b0:=eq_true c8
     have c8b1:=decide_eq_true c8
     clear c8
     replace H:=itO H
     rcases H with⟨c9,H⟩|⟨c9,H⟩
     ·skip
      have c9b0:=eq_true c9
      have c9b1:=decide_eq_true c9
      clear c9
      simp only [Option.some.injEq,Prod.mk.injEq] at H
      obtain⟨rfl,rfl,rfl⟩:=H
      go_enter Tryd.func71,Tryd.ntmps71
      go_wp2_with (first|(go_at_call 78;(with_reducible refine(stringslite_Index.calls a0 a1 t117 _ (by first|exact hG|exact gok_below hG (by repeat (first|(with_reducible first|exact HB.out|apply below_alloc|apply pw_below_drewN|apply below_drew1)|exact HB.out))|exact gok_heap hG rfl|exact gok_drewN hG _|exact gok_below hG (by repeat (first|exact HB.out|exact HBW.out|exact Below.refl _ _|apply below_alloc|apply pw_below_drewN|apply below_drew1))) A3.out).mono ?_);rintro e w' ⟨rfl,⟨nd,rfl⟩⟩;(try first|exact⟨rfl,_,World.drewN_drewN _ _ _⟩|exact⟨rfl,_,Eq.trans (World.drewN_drewN _ _ _) (congrArg (World.drewN _) (Nat.add_assoc _ _ _))⟩)))
      repeat (go_quiet (first|(go_at_call 78;(with_reducible refine(stringslite_Index.calls a0 a1 t117 _ (by first|exact hG|exact gok_below hG (by repeat (first|(with_reducible first|exact HB.out|apply below_alloc|apply pw_below_drewN|apply below_drew1)|exact HB.out))|exact gok_heap hG rfl|exact gok_drewN hG _|exact gok_below hG (by repeat (first|exact HB.out|exact HBW.out|exact Below.refl _ _|apply below_alloc|apply pw_below_drewN|apply below_drew1))) A3.out).mono ?_);rintro e w' ⟨rfl,⟨nd,rfl⟩⟩;(try first|exact⟨rfl,_,World.drewN_drewN _ _ _⟩|exact⟨rfl,_,Eq.trans (World.drewN_drewN _ _ _) (congrArg (World.drewN _) (Nat.add_assoc _ _ _))⟩)));try go_wp2_with (first|(go_at_call 78;(with_reducible refine(stringslite_Index.calls a0 a1 t117 _ (by first|exact hG|exact gok_below hG (by repeat (first|(with_reducible first|exact HB.out|apply below_alloc|apply pw_below_drewN|apply below_drew1)|exact HB.out))|exact gok_heap hG rfl|exact gok_drewN hG _|exact gok_below hG (by repeat (first|exact HB.out|exact HBW.out|exact Below.refl _ _|apply below_alloc|apply pw_below_drewN|apply below_drew1))) A3.out).mono ?_);rintro e w' ⟨rfl,⟨nd,rfl⟩⟩;(try first|exact⟨rfl,_,World.drewN_drewN _ _ _⟩|exact⟨rfl,_,Eq.trans (World.drewN_drewN _ _ _) (congrArg (World.drewN _) (Nat.add_assoc _ _ _))⟩))))
      go_ret3
      exact⟨by first|rfl|(simp;done)|(simp only [← hji7] <;> (first|rfl|simp))|(simp [*];done),by repeat (first|exact Drawn0.refl _|apply Drawn0.step)⟩
     ·exact absurd H (by simp)
    ·exact absurd H (by simp)
   ·exact absurd H (by simp)
  ·exact absurd H (by simp)
 ·skip
  have c4b0:decide (0≤t117)=false:=decide_eq_false c4
  clear c4
  simp only [Option.some.injEq,Prod.mk.injEq] at H
  obtain⟨rfl,rfl,rfl⟩:=H
  go_enter Tryd.func71,Tryd.ntmps71
  go_wp2_with (first|(go_at_call 78;(with_reducible refine(stringslite_Index.calls a0 a1 t117 _ (by first|exact hG|exact gok_below hG (by repeat (first|(with_reducible first|exact HB.out|apply below_alloc|apply pw_below_drewN|apply below_drew1)|exact HB.out))|exact gok_heap hG rfl|exact gok_drewN hG _|exact gok_below hG (by repeat (first|exact HB.out|exact HBW.out|exact Below.refl _ _|apply below_alloc|apply pw_below_drewN|apply below_drew1))) A3.out).mono ?_);rintro e w' ⟨rfl,⟨nd,rfl⟩⟩;(try first|exact⟨rfl,_,World.drewN_drewN _ _ _⟩|exact⟨rfl,_,Eq.trans (World.drewN_drewN _ _ _) (congrArg (World.drewN _) (Nat.add_assoc _ _ _))⟩)))
  repeat (go_quiet (first|(go_at_call 78;(with_reducible refine(stringslite_Index.calls a0 a1 t117 _ (by first|exact hG|exact gok_below hG (by repeat (first|(with_reducible first|exact HB.out|apply below_alloc|apply pw_below_drewN|apply below_drew1)|exact HB.out))|exact gok_heap hG rfl|exact gok_drewN hG _|exact gok_below hG (by repeat (first|exact HB.out|exact HBW.out|exact Below.refl _ _|apply below_alloc|apply pw_below_drewN|apply below_drew1))) A3.out).mono ?_);rintro e w' ⟨rfl,⟨nd,rfl⟩⟩;(try first|exact⟨rfl,_,World.drewN_drewN _ _ _⟩|exact⟨rfl,_,Eq.trans (World.drewN_drewN _ _ _) (congrArg (World.drewN _) (Nat.add_assoc _ _ _))⟩)));try go_wp2_with (first|(go_at_call 78;(with_reducible refine(stringslite_Index.calls a0 a1 t117 _ (by first|exact hG|exact gok_below hG (by repeat (first|(with_reducible first|exact HB.out|apply below_alloc|apply pw_below_drewN|apply below_drew1)|exact HB.out))|exact gok_heap hG rfl|exact gok_drewN hG _|exact gok_below hG (by repeat (first|exact HB.out|exact HBW.out|exact Below.refl _ _|apply below_alloc|apply pw_below_drewN|apply below_drew1))) A3.out).mono ?_);rintro e w' ⟨rfl,⟨nd,rfl⟩⟩;(try first|exact⟨rfl,_,World.drewN_drewN _ _ _⟩|exact⟨rfl,_,Eq.trans (World.drewN_drewN _ _ _) (congrArg (World.drewN _) (Nat.add_assoc _ _ _))⟩))))
  go_ret3
  exact⟨by first|rfl|(simp;done)|(simp [*];done),by repeat (first|exact Drawn0.refl _|apply Drawn0.step)⟩
def strings_Cut.f (a0:ByteArray) (a1:ByteArray):Option (ByteArray×ByteArray×Bool):=(stringslite_Cut.f a0 a1).bind fun bt118=>(some (bt118.1,bt118.2.1,bt118.2.2))
theorem strings_Cut.calls (a0:ByteArray) (a1:ByteArray) (r1:ByteArray) (r2:ByteArray) (r3:Bool) (w:World) (hG:GOk w) (h:strings_Cut.f a0 a1=some (r1,r2,r3)) :
  Calls Tryd.prog 36 #[.string a0,.string a1] w fun e w'=>e = .returned (.tuple #[.string r1,.string r2,.bool r3])∧Drawn0 w w':=by
 unfold strings_Cut.f at h
 have H:=h
 clear h
 replace H:=bndO H
 obtain⟨⟨t118,t119,t120⟩,A30,H⟩:=H
 dsimp only at H
 have A3:=Aside0.mk A30
 clear A30
 simp only [Option.some.injEq,Prod.mk.injEq] at H
 obtain⟨rfl,rfl,rfl⟩:=H
 go_enter Tryd.func36,Tryd.ntmps36
 go_wp2_with (first|((with_reducible refine gate_callee (f:=71) rfl ?_);refine goesL_ (some 9) rfl rfl Tryd.func71 (by kernel_rfl) rfl #[.string a0,.string a1] rfl (by(try simp only [List.map_toArray,List.map_cons,List.map_nil]);first|done|rfl|(simp only [List.length_drop,List.length_take];rfl)) ?_;(with_reducible refine(stringslite_Cut.calls a0 a1 t118 t119 t120 _ (by first|exact hG|exact gok_below hG (by repeat (first|(with_reducible first|exact HB.out|apply below_alloc|apply pw_below_drewN|apply below_drew1)|exact HB.out))|exact gok_heap hG rfl|exact gok_drewN hG _|exact gok_below hG (by repeat (first|exact HB.out|exact HBW.out|exact Below.refl _ _|apply below_alloc|apply pw_below_drewN|apply below_drew1))) A3.out).mono ?_);rintro e w' ⟨rfl,⟨nd,rfl⟩⟩;refine⟨_,rfl,?_⟩))
 go_ret3
 exact⟨by first|rfl|(simp;done)|(simp [*];done),by repeat (first|exact Drawn0.refl _|apply Drawn0.step)⟩
def strings_ReplaceAll.f (a0 a1 a2:ByteArray):Option ByteArray:=if a0.size<4294967281∧1≤a1.size∧a0.size+Lib.countB a0 a1*a2.size≤140737488355328 then some ⟨(Lib.replaceAll a0.data.toList a1.data.toList a2.data.toList).toArray⟩ else none
theorem strings_ReplaceAll.calls (a0 a1 a2:ByteArray) (r:ByteArray) (w:World) (hG:GOk w) (h:strings_ReplaceAll.f a0 a1 a2=some r) :
  Calls Tryd.prog 35 #[.string a0,.string a1,.string a2] w fun e w'=>e = .returned (.string r)∧Below w.heap.size w w':=by
 unfold strings_ReplaceAll.f at h
 by_cases c:a0.size<4294967281∧1≤a1.size∧a0.size+Lib.countB a0 a1*a2.size≤140737488355328
 ·rw [if_pos c] at h
  obtain rfl:=Option.some.inj h
  obtain⟨m,hm⟩:=gok_max hG
  exact Tryd.strings_ReplaceAll a0 a1 a2 m w c.1 hm c.2.1 c.2.2
 ·rw [if_neg c] at h
  exact absurd h (by simp)
theorem xml_Unescape.atB_below {T e:TypeId} {B b:Nat} {p:Value} {bs:List Value} {w w':World} (h:Lib.BuilderAtF T e B b p bs w) (hb:Below w.heap.size w w'):Lib.BuilderAtF T e B b p bs w':=by
 have hlt:=h.lt
 obtain⟨hB,v,hbk,hown,hne⟩:=h
 refine⟨hB,v,(hb.block b hlt).trans hbk,⟨hown.1,?_⟩,hne⟩
 rcases hown.2 with hn|⟨g,cap,cur,fz,hv,hbg,hg,rest⟩
 ·exact .inl hn
 ·exact .inr ⟨g,cap,cur,fz,hv,hbg,(hb.block g (Classical.byContradiction fun c=>by rw [Array.getElem?_eq_none (Nat.le_of_not_lt c)] at hg;cases hg)).trans hg,rest⟩
theorem xml_Unescape.isB_below {T e:TypeId} {B b:Nat} {bs:List Value} {w w':World} (h:Lib.IsBuilderF T e B b bs w) (hb:Below w.heap.size w w'):Lib.IsBuilderF T e B b bs w':=
 h.elim (fun x=>.inl (xml_Unescape.atB_below x hb)) (fun x=>.inr (xml_Unescape.atB_below x hb))
def xml_Unescape.l0:Nat→ByteArray→ByteArray→Option (ByteArray×Bool)
 | 0,_,_=>none
 | k+1,acc,s=>(strings_Cut.f s (⟨#[38]⟩ : ByteArray)).bind fun p=>(if acc.size+p.1.size≤140737488355328 then(if p.2.2=true then((strings_Cut.f p.2.1 (⟨#[59]⟩ : ByteArray)).bind fun q=>(if q.2.2=true then((xml_sign.f q.1).bind fun t=>(if t.2=true then(if(acc++p.1).size+t.1.size≤140737488355328 then xml_Unescape.l0 k (acc++p.1++t.1) q.2.1 else none) else some ((⟨#[]⟩ : ByteArray),false))) else some ((⟨#[]⟩ : ByteArray),false))) else some (acc++p.1,true)) else none)
theorem xml_Unescape.mono_l:∀ k y0 y1,LeO (xml_Unescape.l0 k y0 y1) (xml_Unescape.l0 (k+1) y0 y1)
 | 0=>fun _ _ r h=>by simp [xml_Unescape.l0] at h
 | k+1=>by
  have ih0:=xml_Unescape.mono_l k
  intro y0 y1
  unfold xml_Unescape.l0
  with_reducible repeat' first|exact ih0 _ _|exact LeO.refl _|exact LeO.none _|refine LeO.ite ?_ ?_|refine LeO.bind ?_ (fun _=>?_)
def xml_Unescape.f (k:Nat) (a0:ByteArray):Option (ByteArray×Bool):=(strings_ReplaceAll.f a0 (⟨#[13,10]⟩ : ByteArray) (⟨#[10]⟩ : ByteArray)).bind fun a=>(strings_ReplaceAll.f a (⟨#[13]⟩ : ByteArray) (⟨#[10]⟩ : ByteArray)).bind fun b=>xml_Unescape.l0 k (⟨#[]⟩ : ByteArray) b
theorem xml_Unescape.mono:∀ a0 k,LeO (xml_Unescape.f k a0) (xml_Unescape.f (k+1) a0):=by
 intro a0 k
 have ih0:=xml_Unescape.mono_l k
 unfold xml_Unescape.f
 with_reducible repeat' first|exact ih0 _ _|exact LeO.refl _|exact LeO.none _|refine LeO.ite ?_ ?_|refine LeO.bind ?_ (fun _=>?_)
theorem xml_Unescape.calls (k:Nat) (a0:ByteArray) (r1:ByteArray) (r2:Bool) (w:World) (hG:GOk w) (h:xml_Unescape.f k a0=some (r1,r2)) :
  Calls Tryd.prog 15 #[.string a0] w fun e w'=>e = .returned (.tuple #[.string r1,.bool r2])∧Below w.heap.size w w':=by
 unfold xml_Unescape.f at h
 obtain⟨a,hA0,h⟩:=bndO h
 obtain⟨b,hB0,h⟩:=bndO h
 have hRA:=Aside0.mk hA0
 have hRB:=Aside0.mk hB0
 have hH:=Aside0.mk h
 clear hA0 hB0 h
 go_enter Tryd.func15,Tryd.ntmps15
 go_wp2_with (first
  | (go_at_call 35;with_reducible refine(strings_ReplaceAll.calls a0 (⟨#[13,10]⟩ : ByteArray) (⟨#[10]⟩ : ByteArray) a w hG hRA.out).mono ?_;rintro e1 w1 ⟨rfl,hb1⟩;have HA1:=Aside0.mk hb1;clear hb1)
  | (go_at_call 35;with_reducible refine(strings_ReplaceAll.calls a (⟨#[13]⟩ : ByteArray) (⟨#[10]⟩ : ByteArray) b _ (gok_below hG HA1.out) hRB.out).mono ?_;rintro e2 wB ⟨rfl,hb2⟩;have HA2:=Aside0.mk (below_step HA1.out hb2);clear hb2))
 go_loopg [0] k (fun kq v0 w'=>∃ (acc s:ByteArray),v0 = .string s∧Aside0 (xml_Unescape.l0 kq acc s=some (r1,r2))∧Aside0 (kq≤k)∧Aside0 (Lib.IsBuilderF 68 5 w.heap.size wB.heap.size (Lib.byteCells acc.data.toList) w')∧Aside0 (Below w.heap.size w w'))
 case atStart=>
  exact⟨⟨#[]⟩,b,rfl,hH,⟨Nat.le_refl _⟩,⟨xml_print.isB_made 68 5 _ HA2.out.size⟩,⟨by repeat (first|exact HA2.out|apply below_alloc|apply pw_below_drewN)⟩⟩
 case round=>
  clear hH hRA hRB HA1
  obtain⟨acc,s,rfl,HA,HK1,HIr,HWr⟩:=hrel
  cases gk with
  | zero=>exact absurd HA.out (by simp [xml_Unescape.l0])
  | succ k1=>
   have H:=HA.out
   clear HA
   simp only [xml_Unescape.l0] at H
   obtain⟨p,hA0,H⟩:=bndO H
   obtain⟨p1,p2,p3⟩:=p
   have hA:=Aside0.mk hA0
   clear hA0
   rcases itO H with⟨c1,H1⟩|⟨c1,H1⟩
   ·have C1:=Aside0.mk c1
    clear c1 H
    cases p3 with
    | false=>
     dsimp only at H1
     rw [if_neg Bool.false_ne_true] at H1
     simp only [Option.some.injEq,Prod.mk.injEq] at H1
     obtain⟨rfl,rfl⟩:=H1
     go_wp2_with (first|(go_at_call 36;with_reducible refine(strings_Cut.calls s (⟨#[38]⟩ : ByteArray) p1 p2 false wr (gok_below hG HWr.out) hA.out).mono ?_;rintro e1 w1 ⟨rfl,⟨⟨n1,rfl⟩⟩⟩;have HI1:=Aside0.mk (Bld.IsB_drewN HIr.out n1);have HW1:=Aside0.mk (pw_below_drewN HWr.out n1))|(go_at_call 37;have hcall:=Bld.WriteString w.heap.size wB.heap.size _ p1 _ HI1.out (by rw [xml_print.cells_size];exact C1.out) HW1.out.size;with_reducible refine hcall.mono ?_;clear hcall;rintro e2 w2 ⟨rfl,hi2,hb2,_⟩;have HI2:=Aside0.mk ((xml_print.cells_app acc p1).symm▸hi2);have HW2:=Aside0.mk (HW1.out.trans hb2);clear hi2 hb2)|(go_at_call 38;have hcall:=Bld.String_ w.heap.size wB.heap.size _ w2 HI2.out HW2.out.size;with_reducible refine hcall.mono ?_;clear hcall;rintro e3 w3 ⟨rfl,hb3⟩;have HW3:=Aside0.mk (HW2.out.trans hb3);clear hb3))
     go_ret2
     exact⟨rfl,HW3.out⟩
    | true=>
     rw [if_pos rfl] at H1
     obtain⟨q,hB0,H2⟩:=bndO H1
     obtain⟨q1,q2,q3⟩:=q
     have hB:=Aside0.mk hB0
     clear hB0 H1
     cases q3 with
     | false=>
      dsimp only at H2
      rw [if_neg Bool.false_ne_true] at H2
      simp only [Option.some.injEq,Prod.mk.injEq] at H2
      obtain⟨rfl,rfl⟩:=H2
      go_wp2_with (first|(go_at_call 36;with_reducible refine(strings_Cut.calls s (⟨#[38]⟩ : ByteArray) p1 p2 true wr (gok_below hG HWr.out) hA.out).mono ?_;rintro e1 w1 ⟨rfl,⟨⟨n1,rfl⟩⟩⟩;have HI1:=Aside0.mk (Bld.IsB_drewN HIr.out n1);have HW1:=Aside0.mk (pw_below_drewN HWr.out n1))|(go_at_call 37;have hcall:=Bld.WriteString w.heap.size wB.heap.size _ p1 _ HI1.out (by rw [xml_print.cells_size];exact C1.out) HW1.out.size;with_reducible refine hcall.mono ?_;clear hcall;rintro e2 w2 ⟨rfl,hi2,hb2,_⟩;have HI2:=Aside0.mk ((xml_print.cells_app acc p1).symm▸hi2);have HW2:=Aside0.mk (HW1.out.trans hb2);clear hi2 hb2)|(go_at_call 36;with_reducible refine(strings_Cut.calls p2 (⟨#[59]⟩ : ByteArray) q1 q2 false w2 (gok_below hG HW2.out) hB.out).mono ?_;rintro e3 w3 ⟨rfl,⟨⟨n3,rfl⟩⟩⟩;have HI3:=Aside0.mk (Bld.IsB_drewN HI2.out n3);have HW3:=Aside0.mk (pw_below_drewN HW2.out n3)))
      go_ret2
      exact⟨rfl,HW3.out⟩
     | true=>
      rw [if_pos rfl] at H2
      obtain⟨t,hS0,H3⟩:=bndO H2
      obtain⟨t1,t2⟩:=t
      have hS:=Aside0.mk hS0
      clear hS0 H2
      cases t2 with
      | false=>
       dsimp only at H3
       rw [if_neg Bool.false_ne_true] at H3
       simp only [Option.some.injEq,Prod.mk.injEq] at H3
       obtain⟨rfl,rfl⟩:=H3
       go_wp2_with (first|(go_at_call 36;with_reducible refine(strings_Cut.calls s (⟨#[38]⟩ : ByteArray) p1 p2 true wr (gok_below hG HWr.out) hA.out).mono ?_;rintro e1 w1 ⟨rfl,⟨⟨n1,rfl⟩⟩⟩;have HI1:=Aside0.mk (Bld.IsB_drewN HIr.out n1);have HW1:=Aside0.mk (pw_below_drewN HWr.out n1))|(go_at_call 37;have hcall:=Bld.WriteString w.heap.size wB.heap.size _ p1 _ HI1.out (by rw [xml_print.cells_size];exact C1.out) HW1.out.size;with_reducible refine hcall.mono ?_;clear hcall;rintro e2 w2 ⟨rfl,hi2,hb2,_⟩;have HI2:=Aside0.mk ((xml_print.cells_app acc p1).symm▸hi2);have HW2:=Aside0.mk (HW1.out.trans hb2);clear hi2 hb2)|(go_at_call 36;with_reducible refine(strings_Cut.calls p2 (⟨#[59]⟩ : ByteArray) q1 q2 true w2 (gok_below hG HW2.out) hB.out).mono ?_;rintro e3 w3 ⟨rfl,⟨⟨n3,rfl⟩⟩⟩;have HI3:=Aside0.mk (Bld.IsB_drewN HI2.out n3);have HW3:=Aside0.mk (pw_below_drewN HW2.out n3))|(go_at_call 39;with_reducible refine(xml_sign.calls q1 t1 false _ hS.out).mono ?_;rintro e4 w4 ⟨rfl,hb4⟩;have HI4:=Aside0.mk (xml_Unescape.isB_below HI3.out hb4);have HW4:=Aside0.mk (below_step HW3.out hb4);clear hb4))
       go_ret2
       exact⟨rfl,HW4.out⟩
      | true=>
       rw [if_pos rfl] at H3
       rcases itO H3 with⟨c2,H4⟩|⟨c2,H4⟩
       ·have C2:=Aside0.mk c2
        have H':=Aside0.mk H4
        clear c2 H3 H4
        go_wp2_with (first|(go_at_call 36;with_reducible refine(strings_Cut.calls s (⟨#[38]⟩ : ByteArray) p1 p2 true wr (gok_below hG HWr.out) hA.out).mono ?_;rintro e1 w1 ⟨rfl,⟨⟨n1,rfl⟩⟩⟩;have HI1:=Aside0.mk (Bld.IsB_drewN HIr.out n1);have HW1:=Aside0.mk (pw_below_drewN HWr.out n1))|(go_at_call 37;have hcall:=Bld.WriteString w.heap.size wB.heap.size _ p1 _ HI1.out (by rw [xml_print.cells_size];exact C1.out) HW1.out.size;with_reducible refine hcall.mono ?_;clear hcall;rintro e2 w2 ⟨rfl,hi2,hb2,_⟩;have HI2:=Aside0.mk ((xml_print.cells_app acc p1).symm▸hi2);have HW2:=Aside0.mk (HW1.out.trans hb2);clear hi2 hb2)|(go_at_call 36;with_reducible refine(strings_Cut.calls p2 (⟨#[59]⟩ : ByteArray) q1 q2 true w2 (gok_below hG HW2.out) hB.out).mono ?_;rintro e3 w3 ⟨rfl,⟨⟨n3,rfl⟩⟩⟩;have HI3:=Aside0.mk (Bld.IsB_drewN HI2.out n3);have HW3:=Aside0.mk (pw_below_drewN HW2.out n3))|(go_at_call 39;with_reducible refine(xml_sign.calls q1 t1 true _ hS.out).mono ?_;rintro e4 w4 ⟨rfl,hb4⟩;have HI4:=Aside0.mk (xml_Unescape.isB_below HI3.out hb4);have HW4:=Aside0.mk (below_step HW3.out hb4);clear hb4)|(go_at_call 37;have hcall:=Bld.WriteString w.heap.size wB.heap.size _ t1 _ HI4.out (by rw [xml_print.cells_size];exact C2.out) HW4.out.size;with_reducible refine hcall.mono ?_;clear hcall;rintro e5 w5 ⟨rfl,hi5,hb5,_⟩;have HI5:=Aside0.mk ((xml_print.cells_app (acc++p1) t1).symm▸hi5);have HW5:=Aside0.mk (HW4.out.trans hb5);clear hi5 hb5))
        go_roundg k1
        case measure=>have:=HK1.out;omega
        case rel=>exact⟨acc++p1++t1,q2,rfl,H',⟨by have:=HK1.out;omega⟩,HI5,HW5⟩
       ·exact absurd H4 (by simp)
   ·exact absurd H1 (by simp)
def stowageref13_Unescape.l0:Nat→ByteArray→ByteArray→Int→Option (ByteArray×Bool)
 | 0,_,_,_=>none
 | k+1,x0,x4,x5=>if x5<(x0.size:Int) then(if 0≤x5 then(if(bt x0 x5)=13 then(if x4.size+1≤9223372036854775807 then(if(wrap64 (x5+1))<(x0.size:Int) then(if 0≤(wrap64 (x5+1)) then(if(bt x0 (wrap64 (x5+1)))=10 then(stowageref13_Unescape.l0 k x0 (x4++(⟨#[10]⟩ : ByteArray)) (wrap64 ((wrap64 (x5+1))+1))) else(stowageref13_Unescape.l0 k x0 (x4++(⟨#[10]⟩ : ByteArray)) (wrap64 (x5+1)))) else(none)) else(stowageref13_Unescape.l0 k x0 (x4++(⟨#[10]⟩ : ByteArray)) (wrap64 (x5+1)))) else(none)) else(if(bt x0 x5)=38 then(if 0≤(wrap64 (x5+1)) then(if(wrap64 (x5+1))≤(x0.size:Int) then((stowageref3_Cut.f k (x0.extract ((wrap64 (x5+1)):Int).toNat x0.size) 59).bind fun bt160=>((stowageref13_entity.f k bt160.1).bind fun bt163=>(if bt160.2.2=true then(if bt163.2=true then(if x4.size+bt163.1.size≤9223372036854775807 then(stowageref13_Unescape.l0 k x0 (x4++bt163.1) (wrap64 ((wrap64 ((wrap64 (x5+1))+(bt160.1.size:Int)))+1))) else(none)) else(some ((⟨#[]⟩ : ByteArray),false))) else(some ((⟨#[]⟩ : ByteArray),false))))) else(none)) else(none)) else(if x5≤(wrap64 (x5+1)) then(if(wrap64 (x5+1))≤(x0.size:Int) then(if x4.size+(x0.extract (x5:Int).toNat ((wrap64 (x5+1)):Int).toNat).size≤9223372036854775807 then(stowageref13_Unescape.l0 k x0 (x4++(x0.extract (x5:Int).toNat ((wrap64 (x5+1)):Int).toNat)) (wrap64 (x5+1))) else(none)) else(none)) else(none)))) else(none)) else(some (x4,true))
def stowageref13_Unescape.f (k:Nat) (a0:ByteArray):Option (ByteArray×Bool):=stowageref13_Unescape.l0 k a0 (⟨#[]⟩ : ByteArray) 0
theorem stowageref13_Unescape.mono_l:∀ k,(∀ y0 y1 y2,LeO (stowageref13_Unescape.l0 k y0 y1 y2) (stowageref13_Unescape.l0 (k+1) y0 y1 y2))
 | 0=>fun _ _ _ r h=>by simp [stowageref13_Unescape.l0] at h
 | k+1=>by
  have ih0:=stowageref13_Unescape.mono_l k
  ·intro y0 y1 y2
   unfold stowageref13_Unescape.l0
   repeat' first
   | (with_reducible exact ih0 _ _ _)
   | (with_reducible exact stowageref13_entity.mono _ _)
   | (with_reducible exact stowageref3_Cut.mono _ _ _)
   | (with_reducible exact LeO.refl _)
   | (with_reducible exact LeO.none _)
   | (with_reducible refine LeO.ite ?_ ?_)
   | (with_reducible refine LeO.bind ?_ (fun _=>?_))
   | exact ih0 _ _ _
   | exact stowageref13_entity.mono _ _
   | exact stowageref3_Cut.mono _ _ _
   | exact LeO.none _
   | refine LeO.ite ?_ ?_
   | refine LeO.bind ?_ (fun _=>?_)
theorem stowageref13_Unescape.mono:∀ a0 k,LeO (stowageref13_Unescape.f k a0) (stowageref13_Unescape.f (k+1) a0):=by
 intro a0 k
 have ih0:=stowageref13_Unescape.mono_l k
 unfold stowageref13_Unescape.f
 repeat' first
   | (with_reducible exact ih0 _ _ _)
   | (with_reducible exact stowageref13_entity.mono _ _)
   | (with_reducible exact stowageref3_Cut.mono _ _ _)
   | (with_reducible exact LeO.refl _)
   | (with_reducible exact LeO.none _)
   | (with_reducible refine LeO.ite ?_ ?_)
   | (with_reducible refine LeO.bind ?_ (fun _=>?_))
   | exact ih0 _ _ _
   | exact stowageref13_entity.mono _ _
   | exact stowageref3_Cut.mono _ _ _
   | exact LeO.none _
   | refine LeO.ite ?_ ?_
   | refine LeO.bind ?_ (fun _=>?_)
theorem stowageref13_Unescape.calls (k:Nat) (a0:ByteArray) (r1:ByteArray) (r2:Bool) (w:World) (h:stowageref13_Unescape.f k a0=some (r1,r2)) :
  Calls Tryd.prog 16 #[.string a0] w fun e w'=>e = .returned (.tuple #[.string r1,.bool r2])∧Below w.heap.size w w':=by
 have HB:=Aside0.mk (Below.refl w.heap.size w)
 unfold stowageref13_Unescape.f at h
 have H:=h
 clear h
 have H':=Aside0.mk H
 clear H
 go_enter Tryd.func16,Tryd.ntmps16
 go_wp2
 go_loopg [4,5] k (fun kq v4 v5 w'=>∃ (x4_1:ByteArray) (x5_1:Int),v4 = .string x4_1∧v5 = .int .i64 x5_1∧Aside0 (stowageref13_Unescape.l0 kq a0 x4_1 x5_1=some (r1,r2))∧Aside0 (kq≤k)∧Aside0 (Below w.heap.size w w'))
 case atStart=>exact⟨((⟨#[]⟩ : ByteArray)),(0),(by first|rfl|(simp;done)|(simp [*];done)),(by first|rfl|(simp;done)|(simp [*];done)),H',⟨Nat.le_refl _⟩,⟨by repeat (first|(with_reducible first|exact HB.out|apply below_alloc|apply pw_below_drewN|apply below_drew1)|exact HB.out)⟩⟩
 case round=>
  clear H'
  try clear c1
  obtain⟨x4_1,x5_1,rfl,rfl,HA,HK1,HB⟩:=hrel
  cases gk with
  | zero=>exact absurd HA.out (by simp [stowageref13_Unescape.l0])
  | succ k1=>
   have H:=HA.out
   clear HA
   simp only [stowageref13_Unescape.l0] at H
   replace H:=itO H
   rcases H with⟨c2,H⟩|⟨c2,H⟩
   ·skip
    have c2b0:decide (x5_1<(a0.size:Int))=true:=decide_eq_true c2
    clear c2
    replace H:=itO H
    rcases H with⟨c3,H⟩|⟨c3,H⟩
    ·skip
     have c3b0:decide (0≤x5_1)=true:=decide_eq_true c3
     clear c3
     replace H:=itO H
     rcases H with⟨c5,H⟩|⟨c5,H⟩
     ·skip
      have c5b0:((bt a0 x5_1) == 13)=true:=beq_iff_eq.mpr c5
      have c5b1:((bt a0 x5_1) != 13)=false:=bne_eq_false_iff_eq.mpr c5
      clear c5
      replace H:=itO H
      rcases H with⟨c6,H⟩|⟨c6,H⟩
      ·skip
       have c6b0:=eq_true c6
       have c6b1:=decide_eq_true c6
       try have c6b2:=eq_false (Nat.not_lt.2 c6)
       try (have c6n:x4_1.size+1≤9223372036854775807:=by have h_:=c6;simp only [ByteArray.size_append,ByteArray.size_extract] at h_;exact h_)
       try have c6f:(9223372036854775807<x4_1.size+1)=False:=eq_false (by first|omega|(simp only [eq_iff_iff,iff_true] at *;omega))
       replace H:=itO H
       rcases H with⟨c7,H⟩|⟨c7,H⟩
       ·skip
        have c7b0:decide ((wrap64 (x5_1+1))<(a0.size:Int))=true:=decide_eq_true c7
        clear c7
        obtain⟨ji8,hji8⟩ : ∃ j_:Int,(wrap64 (x5_1+1))=j_:=⟨_,rfl⟩
        first|rw [hji8] at H|simp only [hji8] at H
        (try rw [hji8] at c7b0)
        have hji8w:(IntKind.i64.wrap (x5_1+1))=ji8:=(i64_w _).trans hji8
        replace H:=itO H
        rcases H with⟨c9,H⟩|⟨c9,H⟩
        ·skip
         have c9b0:decide (0≤(ji8))=true:=decide_eq_true c9
         clear c9
         replace H:=itO H
         rcases H with⟨c11,H⟩|⟨c11,H⟩
         ·skip
          have c11b0:((bt a0 (ji8)) == 10)=true:=beq_iff_eq.mpr c11
          have c11b1:((bt a0 (ji8)) != 10)=false:=bne_eq_false_iff_eq.mpr c11
          clear c11
          have H':=Aside0.mk H
          clear H
          have p4:0≤(x5_1:Int):=of_decide_eq_true (by first|(with_reducible assumption)|assumption)
          have q4:x5_1<(a0.size:Int):=of_decide_eq_true (by first|(with_reducible assumption)|assumption)
          have hx4:=bt_at a0 x5_1
          replace p4:=eq_true p4
          replace q4:=eq_true q4
          have p10:0≤((ji8):Int):=of_decide_eq_true (by first|(with_reducible assumption)|assumption)
          have q10:(ji8)<(a0.size:Int):=of_decide_eq_true (by first|(with_reducible assumption)|assumption)
          have hx10:=bt_at a0 (ji8)
          replace p10:=eq_true p10
          replace q10:=eq_true q10
          go_wp2
          go_roundg k1
          case measure=>have:=HK1.out;omega
          case rel=>exact⟨(x4_1++(⟨#[10]⟩ : ByteArray)),(wrap64 ((ji8)+1)),(by first|rfl|(simp;done)|(simp [*];done)),(by first|rfl|(simp;done)|(simp only [← hji8] <;> (first|rfl|simp))|(simp [*];done)),H',⟨by have:=HK1.out;omega⟩,⟨by repeat (first|(with_reducible first|exact HB.out|apply below_alloc|apply pw_below_drewN|apply below_drew1)|exact HB.out)⟩⟩
         ·skip
          have c11b0:((bt a0 (ji8)) == 10)=false:=beq_eq_false_iff_ne.mpr c11
          have c11b1:((bt a0 (ji8)) != 10)=true:=bne_iff_ne.mpr c11
          have H':=Aside0.mk H
          clear H
          have p4:0≤(x5_1:Int):=of_decide_eq_true (by first|(with_reducible assumption)|assumption)
          have q4:x5_1<(a0.size:Int):=of_decide_eq_true (by first|(with_reducible assumption)|assumption)
          have hx4:=bt_at a0 x5_1
          replace p4:=eq_true p4
          replace q4:=eq_true q4
          have p10:0≤((ji8):Int):=of_decide_eq_true (by first|(with_reducible assumption)|assumption)
          have q10:(ji8)<(a0.size:Int):=of_decide_eq_true (by first|(with_reducible assumption)|assumption)
          have hx10:=bt_at a0 (ji8)
          replace p10:=eq_true p10
          replace q10:=eq_true q10
          go_wp2
          go_roundg k1
          case measure=>have:=HK1.out;omega
          case rel=>exact⟨(x4_1++(⟨#[10]⟩ : ByteArray)),(ji8),(by first|rfl|(simp;done)|(simp [*];done)),(by first|rfl|(simp;done)|(simp only [← hji8] <;> (first|rfl|simp))|(simp [*];done)),H',⟨by have:=HK1.out;omega⟩,⟨by repeat (first|(with_reducible first|exact HB.out|apply below_alloc|apply pw_below_drewN|apply below_drew1)|exact HB.out)⟩⟩
        ·exact absurd H (by simp)
       ·skip
        have c7b0:decide ((wrap64 (x5_1+1))<(a0.size:Int))=false:=decide_eq_false c7
        clear c7
        have H':=Aside0.mk H
        clear H
        have p4:0≤(x5_1:Int):=of_decide_eq_true (by first|(with_reducible assumption)|assumption)
        have q4:x5_1<(a0.size:Int):=of_decide_eq_true (by first|(with_reducible assumption)|assumption)
        have hx4:=bt_at a0 x5_1
        replace p4:=eq_true p4
        replace q4:=eq_true q4
        go_wp2
        go_roundg k1
        case measure=>have:=HK1.out;omega
        case rel=>exact⟨(x4_1++(⟨#[10]⟩ : ByteArray)),(wrap64 (x5_1+1)),(by first|rfl|(simp;done)|(simp [*];done)),(by first|rfl|(simp;done)|(simp [*];done)),H',⟨by have:=HK1.out;omega⟩,⟨by repeat (first|(with_reducible first|exact HB.out|apply below_alloc|apply pw_below_drewN|apply below_drew1)|exact HB.out)⟩⟩
      ·exact absurd H (by simp)
     ·skip
      have c5b0:((bt a0 x5_1) == 13)=false:=beq_eq_false_iff_ne.mpr c5
      have c5b1:((bt a0 x5_1) != 13)=true:=bne_iff_ne.mpr c5
      replace H:=itO H
      rcases H with⟨c13,H⟩|⟨c13,H⟩
      ·skip
       have c13b0:((bt a0 x5_1) == 38)=true:=beq_iff_eq.mpr c13
       have c13b1:((bt a0 x5_1) != 38)=false:=bne_eq_false_iff_eq.mpr c13
       clear c13
       obtain⟨ji14,hji14⟩ : ∃ j_:Int,(wrap64 (x5_1+1))=j_:=⟨_,rfl⟩
       first|rw [hji14] at H|simp only [hji14] at H
       have hji14w:(IntKind.i64.wrap (x5_1+1))=ji14:=(i64_w _).trans hji14
       replace H:=itO H
       rcases H with⟨c15,H⟩|⟨c15,H⟩
       ·skip
        have c15b0:=eq_true c15
        have c15b1:=decide_eq_true c15
        clear c15
        replace H:=itO H
        rcases H with⟨c16,H⟩|⟨c16,H⟩
        ·skip
         have c16b0:=eq_true c16
         have c16b1:=decide_eq_true c16
         clear c16
         replace H:=bndO H
         obtain⟨⟨t160,t161,t162⟩,A170,H⟩:=H
         dsimp only at H
         have A17:=Aside0.mk A170
         clear A170
         replace H:=bndO H
         obtain⟨⟨t163,t164⟩,A180,H⟩:=H
         dsimp only at H
         have A18:=Aside0.mk A180
         clear A180
         by_cases c19:t162=true
         ·subst c19
          replace H:=itT H
          by_cases c20:t164=true
          ·subst c20
           replace H:=itT H
           replace H:=itO H
           rcases H with⟨c21,H⟩|⟨c21,H⟩
           ·skip
            have c21b0:=eq_true c21
            have c21b1:=decide_eq_true c21
            try have c21b2:=eq_false (Nat.not_lt.2 c21)
            try (have c21n:x4_1.size+t163.size≤9223372036854775807:=by have h_:=c21;simp only [ByteArray.size_append,ByteArray.size_extract] at h_;exact h_)
            try have c21f:(9223372036854775807<x4_1.size+t163.size)=False:=eq_false (by first|omega|(simp only [eq_iff_iff,iff_true] at *;omega))
            have H':=Aside0.mk H
            clear H
            have p4:0≤(x5_1:Int):=of_decide_eq_true (by first|(with_reducible assumption)|assumption)
            have q4:x5_1<(a0.size:Int):=of_decide_eq_true (by first|(with_reducible assumption)|assumption)
            have hx4:=bt_at a0 x5_1
            replace p4:=eq_true p4
            replace q4:=eq_true q4
            have p12:0≤(x5_1:Int):=of_decide_eq_true (by first|(with_reducible assumption)|assumption)
            have q12:x5_1<(a0.size:Int):=of_decide_eq_true (by first|(with_reducible assumption)|assumption)
            have hx12:=bt_at a0 x5_1
            replace p12:=eq_true p12
            replace q12:=eq_true q12
            go_wp2_with (first|((with_reducible refine gate_callee (f:=40) rfl ?_);refine goesL_ (some 55) rfl rfl Tryd.func40 (by kernel_rfl) rfl #[.string (a0.extract ((ji14):Int).toNat a0.size),.int .u8 59] rfl (by(try simp only [List.map_toArray,List.map_cons,List.map_nil]);first|done|(simp only [hji14];rfl)|rfl|(simp only [List.length_drop,List.length_take];rfl)) ?_;(with_reducible refine(stowageref3_Cut.calls k1 (a0.extract ((ji14):Int).toNat a0.size) 59 t160 t161 true _ A17.out).mono ?_);rintro e w' ⟨rfl,⟨nd,rfl⟩⟩;refine⟨_,rfl,?_⟩)|((with_reducible refine gate_callee (f:=41) rfl ?_);refine goesL_ (some 61) rfl rfl Tryd.func41 (by kernel_rfl) rfl #[.string t160] rfl (by(try simp only [List.map_toArray,List.map_cons,List.map_nil]);first|done|rfl|(simp only [List.length_drop,List.length_take];rfl)) ?_;(with_reducible refine(stowageref13_entity.calls k1 t160 t163 true _ A18.out).mono ?_);rintro e w22 ⟨rfl,hb⟩;refine⟨_,rfl,?_⟩;have n0_:=Aside0.mk (below_step (by repeat (first|(with_reducible first|exact HB.out|apply below_alloc|apply pw_below_drewN|apply below_drew1)|exact HB.out)) hb);clear HB;have HB:=n0_;clear n0_;(try clear hb);(try clear hb2);(try clear hk);(try clear hi)))
            go_roundg k1
            case measure=>have:=HK1.out;omega
            case rel=>exact⟨(x4_1++t163),(wrap64 ((wrap64 ((ji14)+(t160.size:Int)))+1)),(by first|rfl|(simp;done)|(simp [*];done)),(by first|rfl|(simp;done)|(simp only [← hji14] <;> (first|rfl|simp))|(simp [*];done)),H',⟨by have:=HK1.out;omega⟩,⟨by repeat (first|(with_reducible first|exact HB.out|apply below_alloc|apply pw_below_drewN|apply below_drew1)|exact HB.out)⟩⟩
           ·exact absurd H (by simp)
          ·replace c20:=Bool.eq_false_iff.mpr c20
           subst c20
           replace H:=itF H
           simp only [Option.some.injEq,Prod.mk.injEq] at H
           obtain⟨rfl,rfl⟩:=H
           have p4:0≤(x5_1:Int):=of_decide_eq_true (by first|(with_reducible assumption)|assumption)
           have q4:x5_1<(a0.size:Int):=of_decide_eq_true (by first|(with_reducible assumption)|assumption)
           have hx4:=bt_at a0 x5_1
           replace p4:=eq_true p4
           replace q4:=eq_true q4
           have p12:0≤(x5_1:Int):=of_decide_eq_true (by first|(with_reducible assumption)|assumption)
           have q12:x5_1<(a0.size:Int):=of_decide_eq_true (by first|(with_reducible assumption)|assumption)
           have hx12:=bt_at a0 x5_1
           replace p12:=eq_true p12
           replace q12:=eq_true q12
           go_wp2_with (first|((with_reducible refine gate_callee (f:=40) rfl ?_);refine goesL_ (some 55) rfl rfl Tryd.func40 (by kernel_rfl) rfl #[.string (a0.extract ((ji14):Int).toNat a0.size),.int .u8 59] rfl (by(try simp only [List.map_toArray,List.map_cons,List.map_nil]);first|done|(simp only [hji14];rfl)|rfl|(simp only [List.length_drop,List.length_take];rfl)) ?_;(with_reducible refine(stowageref3_Cut.calls k1 (a0.extract ((ji14):Int).toNat a0.size) 59 t160 t161 true _ A17.out).mono ?_);rintro e w' ⟨rfl,⟨nd,rfl⟩⟩;refine⟨_,rfl,?_⟩)|((with_reducible refine gate_callee (f:=41) rfl ?_);refine goesL_ (some 61) rfl rfl Tryd.func41 (by kernel_rfl) rfl #[.string t160] rfl (by(try simp only [List.map_toArray,List.map_cons,List.map_nil]);first|done|rfl|(simp only [List.length_drop,List.length_take];rfl)) ?_;(with_reducible refine(stowageref13_entity.calls k1 t160 t163 false _ A18.out).mono ?_);rintro e w23 ⟨rfl,hb⟩;refine⟨_,rfl,?_⟩;have n0_:=Aside0.mk (below_step (by repeat (first|(with_reducible first|exact HB.out|apply below_alloc|apply pw_below_drewN|apply below_drew1)|exact HB.out)) hb);clear HB;have HB:=n0_;clear n0_;(try clear hb);(try clear hb2);(try clear hk);(try clear hi)))
           go_ret2
           exact⟨by first|rfl|(simp [errW_none,errW_some] <;> rfl)|(simp only [← hji14];first|rfl|(simp [errW_none,errW_some] <;> rfl))|(simp [*,errW_none,errW_some] <;> rfl),by repeat (first|(with_reducible first|exact HB.out|apply below_alloc|apply pw_below_drewN|apply below_drew1)|exact HB.out)⟩
         ·replace c19:=Bool.eq_false_iff.mpr c19
          subst c19
          replace H:=itF H
          simp only [Option.some.injEq,Prod.mk.injEq] at H
          obtain⟨rfl,rfl⟩:=H
          have p4:0≤(x5_1:Int):=of_decide_eq_true (by first|(with_reducible assumption)|assumption)
          have q4:x5_1<(a0.size:Int):=of_decide_eq_true (by first|(with_reducible assumption)|assumption)
          have hx4:=bt_at a0 x5_1
          replace p4:=eq_true p4
          replace q4:=eq_true q4
          have p12:0≤(x5_1:Int):=of_decide_eq_true (by first|(with_reducible assumption)|assumption)
          have q12:x5_1<(a0.size:Int):=of_decide_eq_true (by first|(with_reducible assumption)|assumption)
          have hx12:=bt_at a0 x5_1
          replace p12:=eq_true p12
          replace q12:=eq_true q12
          go_wp2_with (first|((with_reducible refine gate_callee (f:=40) rfl ?_);refine goesL_ (some 55) rfl rfl Tryd.func40 (by kernel_rfl) rfl #[.string (a0.extract ((ji14):Int).toNat a0.size),.int .u8 59] rfl (by(try simp only [List.map_toArray,List.map_cons,List.map_nil]);first|done|(simp only [hji14];rfl)|rfl|(simp only [List.length_drop,List.length_take];rfl)) ?_;(with_reducible refine(stowageref3_Cut.calls k1 (a0.extract ((ji14):Int).toNat a0.size) 59 t160 t161 false _ A17.out).mono ?_);rintro e w' ⟨rfl,⟨nd,rfl⟩⟩;refine⟨_,rfl,?_⟩)|((with_reducible refine gate_callee (f:=41) rfl ?_);refine goesL_ (some 61) rfl rfl Tryd.func41 (by kernel_rfl) rfl #[.string t160] rfl (by(try simp only [List.map_toArray,List.map_cons,List.map_nil]);first|done|rfl|(simp only [List.length_drop,List.length_take];rfl)) ?_;(with_reducible refine(stowageref13_entity.calls k1 t160 t163 t164 _ A18.out).mono ?_);rintro e w24 ⟨rfl,hb⟩;refine⟨_,rfl,?_⟩;have n0_:=Aside0.mk (below_step (by repeat (first|(with_reducible first|exact HB.out|apply below_alloc|apply pw_below_drewN|apply below_drew1)|exact HB.out)) hb);clear HB;have HB:=n0_;clear n0_;(try clear hb);(try clear hb2);(try clear hk);(try clear hi)))
          go_ret2
          exact⟨by first|rfl|(simp [errW_none,errW_some] <;> rfl)|(simp only [← hji14];first|rfl|(simp [errW_none,errW_some] <;> rfl))|(simp [*,errW_none,errW_some] <;> rfl),by repeat (first|(with_reducible first|exact HB.out|apply below_alloc|apply pw_below_drewN|apply below_drew1)|exact HB.out)⟩
        ·exact absurd H (by simp)
       ·exact absurd H (by simp)
      ·skip
       have c13b0:((bt a0 x5_1) == 38)=false:=beq_eq_false_iff_ne.mpr c13
       have c13b1:((bt a0 x5_1) != 38)=true:=bne_iff_ne.mpr c13
       have c25b0:=eq_true (of_decide_eq_true (by first|(with_reducible assumption)|assumption):0≤x5_1)
       replace H:=itO H
       rcases H with⟨c26,H⟩|⟨c26,H⟩
       ·skip
        have c26b0:=eq_true c26
        have c26b1:=decide_eq_true c26
        replace H:=itO H
        rcases H with⟨c27,H⟩|⟨c27,H⟩
        ·skip
         have c27b0:=eq_true c27
         have c27b1:=decide_eq_true c27
         replace H:=itO H
         rcases H with⟨c28,H⟩|⟨c28,H⟩
         ·skip
          have c28b0:=eq_true c28
          have c28b1:=decide_eq_true c28
          try have c28b2:=eq_false (Nat.not_lt.2 c28)
          try (have c28n:x4_1.size+(min (((wrap64 (x5_1+1)):Int).toNat) a0.size-((x5_1:Int).toNat))≤9223372036854775807:=by have h_:=c28;simp only [ByteArray.size_append,ByteArray.size_extract] at h_;exact h_)
          try have c28f:(9223372036854775807<x4_1.size+(((wrap64 (x5_1+1)):Int).toNat-(x5_1:Int).toNat))=False:=eq_false (by first|omega|(simp only [eq_iff_iff,iff_true] at *;omega))
          have H':=Aside0.mk H
          clear H
          have p4:0≤(x5_1:Int):=of_decide_eq_true (by first|(with_reducible assumption)|assumption)
          have q4:x5_1<(a0.size:Int):=of_decide_eq_true (by first|(with_reducible assumption)|assumption)
          have hx4:=bt_at a0 x5_1
          replace p4:=eq_true p4
          replace q4:=eq_true q4
          have p12:0≤(x5_1:Int):=of_decide_eq_true (by first|(with_reducible assumption)|assumption)
          have q12:x5_1<(a0.size:Int):=of_decide_eq_true (by first|(with_reducible assumption)|assumption)
          have hx12:=bt_at a0 x5_1
          replace p12:=eq_true p12
          replace q12:=eq_true q12
          go_wp2
          go_roundg k1
          case measure=>have:=HK1.out;omega
          case rel=>exact⟨(x4_1++(a0.extract (x5_1:Int).toNat ((wrap64 (x5_1+1)):Int).toNat)),(wrap64 (x5_1+1)),(by first|rfl|(simp;done)|(simp [*];done)),(by first|rfl|(simp;done)|(simp [*];done)),H',⟨by have:=HK1.out;omega⟩,⟨by repeat (first|(with_reducible first|exact HB.out|apply below_alloc|apply pw_below_drewN|apply below_drew1)|exact HB.out)⟩⟩
         ·exact absurd H (by simp)
        ·exact absurd H (by simp)
       ·exact absurd H (by simp)
    ·exact absurd H (by simp)
   ·skip
    have c2b0:decide (x5_1<(a0.size:Int))=false:=decide_eq_false c2
    clear c2
    simp only [Option.some.injEq,Prod.mk.injEq] at H
    obtain⟨rfl,rfl⟩:=H
    go_wp2
    go_ret2
    exact⟨by first|rfl|(simp [errW_none,errW_some] <;> rfl)|(simp [*,errW_none,errW_some] <;> rfl),by repeat (first|(with_reducible first|exact HB.out|apply below_alloc|apply pw_below_drewN|apply below_drew1)|exact HB.out)⟩
def strings_Index.f (a0 a1:ByteArray):Option Int:=if a0.size<4294967281 then some (Lib.index a0.data.toList a1.data.toList) else none
theorem strings_Index.calls (a0 a1:ByteArray) (r:Int) (w:World) (hG:GOk w) (h:strings_Index.f a0 a1=some r) :
  Calls Tryd.prog 56 #[.string a0,.string a1] w fun e w'=>e = .returned (.int .i64 r)∧Drawn0 w w':=by
 unfold strings_Index.f at h
 by_cases c:a0.size<4294967281
 ·rw [if_pos c] at h
  obtain rfl:=Option.some.inj h
  obtain⟨m,hm⟩:=gok_max hG
  exact(Tryd.strings_Index a0 a1 m w c hm).mono fun e w' ⟨he,hw⟩=>⟨he,by rw [hw];exact Drawn0.refl _⟩
 ·rw [if_neg c] at h
  exact absurd h (by simp)
def xml_white.f (a0:Int):Option (Bool):=if a0=32 then(some true) else(if a0=9 then(some true) else(if a0=10 then(some true) else(some (a0 == 13))))
theorem xml_white.calls (a0:Int) (r:Bool) (w:World) (h:xml_white.f a0=some r) :
  Calls Tryd.prog 57 #[.int .u8 a0] w fun e w'=>e = .returned (.bool r)∧Drawn0 w w':=by
 unfold xml_white.f at h
 have H:=h
 clear h
 replace H:=itO H
 rcases H with⟨c2,H⟩|⟨c2,H⟩
 ·skip
  have c2b0:(a0 == 32)=true:=beq_iff_eq.mpr c2
  have c2b1:(a0 != 32)=false:=bne_eq_false_iff_eq.mpr c2
  clear c2
  obtain rfl:=Option.some.inj H
  go_enter Tryd.func57,Tryd.ntmps57
  go_wp2
  go_ret
  exact⟨by first|rfl|(simp;done)|(simp [*];done),by repeat (first|exact Drawn0.refl _|apply Drawn0.step)⟩
 ·skip
  have c2b0:(a0 == 32)=false:=beq_eq_false_iff_ne.mpr c2
  have c2b1:(a0 != 32)=true:=bne_iff_ne.mpr c2
  replace H:=itO H
  rcases H with⟨c3,H⟩|⟨c3,H⟩
  ·skip
   have c3b0:(a0 == 9)=true:=beq_iff_eq.mpr c3
   have c3b1:(a0 != 9)=false:=bne_eq_false_iff_eq.mpr c3
   clear c3
   obtain rfl:=Option.some.inj H
   go_enter Tryd.func57,Tryd.ntmps57
   go_wp2
   go_ret
   exact⟨by first|rfl|(simp;done)|(simp [*];done),by repeat (first|exact Drawn0.refl _|apply Drawn0.step)⟩
  ·skip
   have c3b0:(a0 == 9)=false:=beq_eq_false_iff_ne.mpr c3
   have c3b1:(a0 != 9)=true:=bne_iff_ne.mpr c3
   replace H:=itO H
   rcases H with⟨c4,H⟩|⟨c4,H⟩
   ·skip
    have c4b0:(a0 == 10)=true:=beq_iff_eq.mpr c4
    have c4b1:(a0 != 10)=false:=bne_eq_false_iff_eq.mpr c4
    clear c4
    obtain rfl:=Option.some.inj H
    go_enter Tryd.func57,Tryd.ntmps57
    go_wp2
    go_ret
    exact⟨by first|rfl|(simp;done)|(simp [*];done),by repeat (first|exact Drawn0.refl _|apply Drawn0.step)⟩
   ·skip
    have c4b0:(a0 == 10)=false:=beq_eq_false_iff_ne.mpr c4
    have c4b1:(a0 != 10)=true:=bne_iff_ne.mpr c4
    obtain rfl:=Option.some.inj H
    go_enter Tryd.func57,Tryd.ntmps57
    go_wp2
    go_ret
    exact⟨by first|rfl|(simp;done)|(simp [*];done),by repeat (first|exact Drawn0.refl _|apply Drawn0.step)⟩
def IsS57 (w0 W:World) (g:Nat) (f0:ByteArray) (f1:Int):Prop:=W.heap[g]? = some (.cells #[.string f0,.int .i64 f1] 57 (0,0))∧w0.heap.size≤g
theorem IsS57.grown {w0 W:World} {g:Nat} {f0:ByteArray} {f1:Int} {W1:World} {row:Option Nat} (h:IsS57 w0 W g f0 f1) (hw:W.grownBy W1 row) (hne:some g≠row):IsS57 w0 W1 g f0 f1:=by
 obtain⟨hb,hg⟩:=h
 exact⟨blk_grown hb hw hne,hg⟩
theorem IsS57.own_neN {w0 W:World} {g:Nat} {f0:ByteArray} {f1:Int} {α:Type} {d:Kd α} {e:Nat} {base:Nat} {ok:Nat→Prop} {v:Value} {xs:List α} (h:IsS57 w0 W g f0 f1) (ho:Kd.N d e W base ok v xs) (ht:e≠57):some g≠v.ownBlock:=by
 obtain⟨hb,hg⟩:=h
 exact Kd.N_ne ho hb ht
theorem IsS57.fresh {w0 W:World} {g:Nat} {f0:ByteArray} {f1:Int} (h:IsS57 w0 W g f0 f1):∀ k,W.heap.size≤k→k≠g:=by
 obtain⟨hb,hg⟩:=h
 exact Kd.freshB hb
theorem IsS57.kept {w0 W:World} {g:Nat} {f0:ByteArray} {f1:Int} {W1:World} {S:Nat→Prop} (h:IsS57 w0 W g f0 f1) (hk:Kept W W1 S) (hne:¬ S g):IsS57 w0 W1 g f0 f1:=by
 obtain⟨hb,hg⟩:=h
 exact⟨blk_kept hb hk hne,hg⟩
theorem IsS57.below {w0 W:World} {g:Nat} {f0:ByteArray} {f1:Int} {W1:World} (h:IsS57 w0 W g f0 f1) (hw:Below W.heap.size W W1):IsS57 w0 W1 g f0 f1:=h.grown (grown_of_below hw none) (by simp)
theorem IsS57.alloc {w0 W:World} {g:Nat} {f0:ByteArray} {f1:Int} (h:IsS57 w0 W g f0 f1) (o:Obj):IsS57 w0 (W.alloc o) g f0 f1:=h.below (below_alloc (Below.refl _ _) o)
theorem IsS57.drewN {w0 W:World} {g:Nat} {f0:ByteArray} {f1:Int} (h:IsS57 w0 W g f0 f1) (m:Nat):IsS57 w0 (W.drewN m) g f0 f1:=h
theorem IsS57.drew {w0 W:World} {g:Nat} {f0:ByteArray} {f1:Int} (h:IsS57 w0 W g f0 f1):IsS57 w0 W.drew g f0 f1:=h
theorem IsS57.at_ {w0 W:World} {g:Nat} {f0:ByteArray} {f1:Int} {w':World} {m:Nat} (hq:W.drewN m=w') (h:IsS57 w0 W g f0 f1):IsS57 w0 w' g f0 f1:=by subst hq;exact IsS57.drewN h m
theorem IsS57.apart {w0 W:World} {g:Nat} {f0:ByteArray} {f1:Int} {α:Type} {d:Kd α} {e:Nat} {base:Nat} {ok:Nat→Prop} {v:Value} {xs:List α} (h:IsS57 w0 W g f0 f1) (ho:d.R e W base ok v xs) (ht:∀ q,q∈e :: d.E→q≠57):d.R e W base (fun k=>ok k∧k≠g) v xs:=by
 obtain⟨hb,hg⟩:=h
 exact Kd.R_types ho hb ht
theorem IsS57.own_ne {w0 W:World} {g:Nat} {f0:ByteArray} {f1:Int} {α:Type} {d:Kd α} {e:Nat} {base:Nat} {ok:Nat→Prop} {v:Value} {xs:List α} (h:IsS57 w0 W g f0 f1) (ho:d.R e W base ok v xs) (ht:e≠57):some g≠v.ownBlock:=by
 obtain⟨hb,hg⟩:=h
 exact Kd.R_ne ho hb ht
theorem IsS57.apartQ {w0 W:World} {g:Nat} {f0:ByteArray} {f1:Int} {α:Type} {d:Kd α} {e:Nat} {base:Nat} {ok:Nat→Prop} {v:Value} {xs:List α} (h:IsS57 w0 W g f0 f1) (ho:d.Q e W base ok v xs) (ht:∀ q,q∈e :: d.E→q≠57):d.Q e W base (fun k=>ok k∧k≠g) v xs:=by
 obtain⟨hb,hg⟩:=h
 exact Kd.Q_types ho hb ht
theorem IsS57.own_neQ {w0 W:World} {g:Nat} {f0:ByteArray} {f1:Int} {α:Type} {d:Kd α} {e:Nat} {base:Nat} {ok:Nat→Prop} {v:Value} {xs:List α} (h:IsS57 w0 W g f0 f1) (ho:d.Q e W base ok v xs) (ht:e≠57):some g≠v.ownBlock:=by
 obtain⟨hb,hg⟩:=h
 exact Kd.Q_ne ho hb ht
theorem IsS57.apartS {w0 W:World} {g:Nat} {f0:ByteArray} {f1:Int} {α:Type} {d:Kd α} {e:Nat} {base:Nat} {ok:Nat→Prop} {v:Value} {xs:List α} (h:IsS57 w0 W g f0 f1) (ho:d.S e W base ok v xs) (ht:∀ q,q∈e :: d.E→q≠57):d.S e W base (fun k=>ok k∧k≠g) v xs:=by
 obtain⟨hb,hg⟩:=h
 exact Kd.S_types ho hb ht
theorem IsS57.own_neS {w0 W:World} {g:Nat} {f0:ByteArray} {f1:Int} {α:Type} {d:Kd α} {e:Nat} {base:Nat} {ok:Nat→Prop} {v:Value} {xs:List α} (h:IsS57 w0 W g f0 f1) (ho:d.S e W base ok v xs) (ht:e≠57):some g≠v.ownBlock:=by
 obtain⟨hb,hg⟩:=h
 exact Kd.S_ne ho hb ht
theorem IsS57.lt {w0 W:World} {g:Nat} {f0:ByteArray} {f1:Int} (h:IsS57 w0 W g f0 f1):g<W.heap.size:=by
 obtain⟨hb,hg⟩:=h
 exact blk_lt hb
theorem IsS57.ge {w0 W:World} {g:Nat} {f0:ByteArray} {f1:Int} (h:IsS57 w0 W g f0 f1):w0.heap.size≤g:=by
 obtain⟨hb,hg⟩:=h
 exact hg
theorem IsS57.ne_blk {w0 W:World} {g:Nat} {f0:ByteArray} {f1:Int} {a:Nat} {cs:Array Value} {t:TypeId} {fr:Nat×Nat} (h:IsS57 w0 W g f0 f1) (hb2:W.heap[a]? = some (.cells cs t fr)) (ht:t≠57):g≠a:=by
 obtain⟨hb,hg⟩:=h
 rintro rfl
 rw [hb] at hb2
 injection hb2 with hb2
 injection hb2 with _ ht2
 exact ht ht2.symm
theorem IsS57.far {w0 W:World} {g:Nat} {f0:ByteArray} {f1:Int} {p:Addr} (h:IsS57 w0 W g f0 f1) (hne:g≠p.block) (u:Value):IsS57 w0 (W.setCell p u) g f0 f1:=by
 obtain⟨hb,hg⟩:=h
 exact⟨blk_far hb hne u,hg⟩
theorem cellS57_0 {W:World} {g:Nat} {f0:ByteArray} {f1:Int} (h:W.heap[g]? = some (.cells #[.string f0,.int .i64 f1] 57 (0,0))):W.cell? ⟨g,0,none⟩=some (.string f0):=(blk_cell h 0).trans rfl
theorem IsS57.set_0 {w0 W:World} {g:Nat} {f0:ByteArray} {f1:Int} (h:IsS57 w0 W g f0 f1) (x:ByteArray):IsS57 w0 (W.setCell ⟨g,0,none⟩ (.string x)) g x f1:=by
 obtain⟨hb,hg⟩:=h
 exact⟨by simpa using blk_set hb 0 (.string x),hg⟩
theorem cellS57_1 {W:World} {g:Nat} {f0:ByteArray} {f1:Int} (h:W.heap[g]? = some (.cells #[.string f0,.int .i64 f1] 57 (0,0))):W.cell? ⟨g,1,none⟩=some (.int .i64 f1):=(blk_cell h 1).trans rfl
theorem IsS57.set_1 {w0 W:World} {g:Nat} {f0:ByteArray} {f1:Int} (h:IsS57 w0 W g f0 f1) (x:Int):IsS57 w0 (W.setCell ⟨g,1,none⟩ (.int .i64 x)) g f0 x:=by
 obtain⟨hb,hg⟩:=h
 exact⟨by simpa using blk_set hb 1 (.int .i64 x),hg⟩
theorem IsS57.new (w0 W:World) (f0:ByteArray) (f1:Int) (hB:Below w0.heap.size w0 W):IsS57 w0 (W.alloc (.cells #[.string f0,.int .i64 f1] 57)) W.heap.size f0 f1:=⟨by simpa using heap_alloc_new W _,hB.size⟩
theorem isl57 {w0 W:World} {g:Nat} {f0:ByteArray} {f1:Int} (h:IsS57 w0 W g f0 f1:=by repeat (first|(with_reducible first|exact Aside0.out (by assumption)|apply IsS57.alloc|apply IsS57.drewN|apply IsS57.drew|apply IsS57.set_0|apply IsS57.set_1|refine IsS57.far ?_ (Aside0.out (by assumption)) _)|exact Aside0.out (by assumption))):IsS57 w0 W g f0 f1:=h
def xml_reader_begin.f (s0_0:ByteArray) (s0_1:Int):Option (Bool×ByteArray×Int):=(strings_HasPrefix.f s0_0 (⟨#[60,63,120,109,108]⟩ : ByteArray)).bind fun t106=>(if t106=true then(if 5≤(s0_0.size:Int) then((strings_Index.f (s0_0.extract 5 s0_0.size) (⟨#[63,62]⟩ : ByteArray)).bind fun t107=>(if t107<0 then(some (false,s0_0,s0_1)) else(if t107>0 then(if 5<(s0_0.size:Int) then((xml_white.f (bt s0_0 5)).bind fun t108=>(if t108=true then(some (true,s0_0,wrap64 ((wrap64 (5+t107))+2))) else(if(bt s0_0 5)=63 then(some (true,s0_0,wrap64 ((wrap64 (5+t107))+2))) else(some (false,s0_0,s0_1))))) else(none)) else(some (true,s0_0,wrap64 ((wrap64 (5+t107))+2)))))) else(none)) else(some (true,s0_0,s0_1)))
theorem xml_reader_begin.calls (g:Nat) (s0_0:ByteArray) (s0_1:Int) (r1:Bool) (r2:ByteArray) (r3:Int) (w0 w:World) (hI:IsS57 w0 w g s0_0 s0_1) (hB:Below w0.heap.size w0 w) (hG:GOk w0) (h:xml_reader_begin.f s0_0 s0_1=some (r1,r2,r3)) :
  Calls Tryd.prog 28 #[.pointer (some ⟨g,0,none⟩)] w fun e w'=>e = .returned (.bool r1)∧IsS57 w0 w' g r2 r3∧Below w0.heap.size w0 w'∧KeepBut w w' g none:=by
 have HI0:=Aside0.mk hI
 have HK:=Aside0.mk (KeepBut.refl w g none)
 have HL:=Aside0.mk hB.size
 clear hI
 have HW0:=Aside0.mk hB.size
 have HB:=Aside0.mk hB
 clear hB
 unfold xml_reader_begin.f at h
 have H:=h
 clear h
 replace H:=bndO H
 obtain⟨t106,A20,H⟩:=H
 have A2:=Aside0.mk A20
 clear A20
 by_cases c3:t106=true
 ·subst c3
  replace H:=itT H
  replace H:=itO H
  rcases H with⟨c4,H⟩|⟨c4,H⟩
  ·skip
   have c4b0:=eq_true c4
   have c4b1:=decide_eq_true c4
   clear c4
   replace H:=bndO H
   obtain⟨t107,A50,H⟩:=H
   have A5:=Aside0.mk A50
   clear A50
   replace H:=itO H
   rcases H with⟨c6,H⟩|⟨c6,H⟩
   ·skip
    have c6b0:decide (t107<0)=true:=decide_eq_true c6
    clear c6
    simp only [Option.some.injEq,Prod.mk.injEq] at H
    obtain⟨rfl,rfl,rfl⟩:=H
    obtain⟨HGz7,hgz7⟩:=HI0.out
    have hcz7_0:=cellS57_0 HGz7
    have hcz7_1:=cellS57_1 HGz7
    have hfz7_0:=blk_frozen HGz7 0
    have hfz7_1:=blk_frozen HGz7 1
    clear HGz7 hgz7
    go_enter Tryd.func28,Tryd.ntmps28
    go_wp2_with (first|((with_reducible refine gate_callee (f:=55) rfl ?_);refine goesL_ (some 8) rfl rfl Tryd.func55 (by kernel_rfl) rfl #[.string s0_0,.string (⟨#[60,63,120,109,108]⟩ : ByteArray)] rfl (by(try simp only [List.map_toArray,List.map_cons,List.map_nil]);first|done|rfl|(simp only [List.length_drop,List.length_take];rfl)) ?_;(with_reducible refine(strings_HasPrefix.calls s0_0 (⟨#[60,63,120,109,108]⟩ : ByteArray) true _ A2.out).mono ?_);rintro e w' ⟨rfl,⟨nd,rfl⟩⟩;refine⟨_,rfl,?_⟩)|((with_reducible refine gate_callee (f:=56) rfl ?_);refine goesL_ (some 15) rfl rfl Tryd.func56 (by kernel_rfl) rfl #[.string (s0_0.extract 5 s0_0.size),.string (⟨#[63,62]⟩ : ByteArray)] rfl (by(try simp only [List.map_toArray,List.map_cons,List.map_nil]);first|done|rfl|(simp only [List.length_drop,List.length_take];rfl)) ?_;(with_reducible refine(strings_Index.calls (s0_0.extract 5 s0_0.size) (⟨#[63,62]⟩ : ByteArray) t107 _ (by first|exact hG|exact gok_below hG (by repeat (first|(with_reducible first|exact HB.out|apply below_alloc|apply pw_below_drewN|apply below_drew1|refine below_set ?_ (IsS57.ge HI0.out))|exact HB.out))|exact gok_heap hG rfl|exact gok_drewN hG _|exact gok_below hG (by repeat (first|exact HB.out|exact HBW.out|exact Below.refl _ _|apply below_alloc|apply pw_below_drewN|apply below_drew1))) A5.out).mono ?_);rintro e w' ⟨rfl,⟨nd,rfl⟩⟩;refine⟨_,rfl,?_⟩))
    go_ret
    exact⟨by first|rfl|(simp [errW_none,errW_some] <;> rfl)|(simp [*,errW_none,errW_some] <;> rfl),by repeat (first|(with_reducible first|exact HI0.out|apply IsS57.alloc|apply IsS57.drewN|apply IsS57.drew|apply IsS57.set_0|apply IsS57.set_1)|exact HI0.out),by repeat (first|(with_reducible first|exact HB.out|apply below_alloc|apply pw_below_drewN|apply below_drew1|refine below_set ?_ (IsS57.ge HI0.out))|exact HB.out),kk⟩
   ·skip
    have c6b0:decide (t107<0)=false:=decide_eq_false c6
    clear c6
    replace H:=itO H
    rcases H with⟨c8,H⟩|⟨c8,H⟩
    ·skip
     have c8b0:decide (0<t107)=true:=decide_eq_true c8
     clear c8
     replace H:=itO H
     rcases H with⟨c9,H⟩|⟨c9,H⟩
     ·skip
      have c9b0:decide (5<(s0_0.size:Int))=true:=decide_eq_true c9
      have c9b1:decide (5<s0_0.size)=true:=decide_eq_true (by omega)
      clear c9
      replace H:=bndO H
      obtain⟨t108,A110,H⟩:=H
      have A11:=Aside0.mk A110
      clear A110
      by_cases c12:t108=true
      ·subst c12
       replace H:=itT H
       simp only [Option.some.injEq,Prod.mk.injEq] at H
       obtain⟨rfl,rfl,rfl⟩:=H
       obtain⟨HGz13,hgz13⟩:=HI0.out
       have hcz13_0:=cellS57_0 HGz13
       have hcz13_1:=cellS57_1 HGz13
       have hfz13_0:=blk_frozen HGz13 0
       have hfz13_1:=blk_frozen HGz13 1
       clear HGz13 hgz13
       go_enter Tryd.func28,Tryd.ntmps28
       go_wp2_with (first|((with_reducible refine gate_callee (f:=55) rfl ?_);refine goesL_ (some 8) rfl rfl Tryd.func55 (by kernel_rfl) rfl #[.string s0_0,.string (⟨#[60,63,120,109,108]⟩ : ByteArray)] rfl (by(try simp only [List.map_toArray,List.map_cons,List.map_nil]);first|done|rfl|(simp only [List.length_drop,List.length_take];rfl)) ?_;(with_reducible refine(strings_HasPrefix.calls s0_0 (⟨#[60,63,120,109,108]⟩ : ByteArray) true _ A2.out).mono ?_);rintro e w' ⟨rfl,⟨nd,rfl⟩⟩;refine⟨_,rfl,?_⟩)|((with_reducible refine gate_callee (f:=56) rfl ?_);refine goesL_ (some 15) rfl rfl Tryd.func56 (by kernel_rfl) rfl #[.string (s0_0.extract 5 s0_0.size),.string (⟨#[63,62]⟩ : ByteArray)] rfl (by(try simp only [List.map_toArray,List.map_cons,List.map_nil]);first|done|rfl|(simp only [List.length_drop,List.length_take];rfl)) ?_;(with_reducible refine(strings_Index.calls (s0_0.extract 5 s0_0.size) (⟨#[63,62]⟩ : ByteArray) t107 _ (by first|exact hG|exact gok_below hG (by repeat (first|(with_reducible first|exact HB.out|apply below_alloc|apply pw_below_drewN|apply below_drew1|refine below_set ?_ (IsS57.ge HI0.out))|exact HB.out))|exact gok_heap hG rfl|exact gok_drewN hG _|exact gok_below hG (by repeat (first|exact HB.out|exact HBW.out|exact Below.refl _ _|apply below_alloc|apply pw_below_drewN|apply below_drew1))) A5.out).mono ?_);rintro e w' ⟨rfl,⟨nd,rfl⟩⟩;refine⟨_,rfl,?_⟩;have p10:0≤(5:Int):=(by omega);have q10:5<s0_0.size:=(by have:(5:Int)<(s0_0.size:Int):=of_decide_eq_true (by first|(with_reducible assumption)|assumption);omega);have hx10:∀ h:5<s0_0.size,((s0_0[5]'h).toNat:Int)=bt s0_0 5:=bt_at s0_0 5;clear p10;have qi10:(5<(s0_0.size:Int))=True:=eq_true (of_decide_eq_true (by first|(with_reducible assumption)|assumption));replace q10:=eq_true q10)|(go_at_call 57;(with_reducible refine(xml_white.calls (bt s0_0 5) true _ A11.out).mono ?_);rintro e w' ⟨rfl,⟨nd,rfl⟩⟩))
       go_ret
       exact⟨by first|rfl|(simp [errW_none,errW_some] <;> rfl)|(simp [*,errW_none,errW_some] <;> rfl),by repeat (first|(with_reducible first|exact HI0.out|apply IsS57.alloc|apply IsS57.drewN|apply IsS57.drew|apply IsS57.set_0|apply IsS57.set_1)|exact HI0.out),by repeat (first|(with_reducible first|exact HB.out|apply below_alloc|apply pw_below_drewN|apply below_drew1|refine below_set ?_ (IsS57.ge HI0.out))|exact HB.out),kk⟩
      ·replace c12:=Bool.eq_false_iff.mpr c12
       subst c12
       replace H:=itF H
       replace H:=itO H
       rcases H with⟨c15,H⟩|⟨c15,H⟩
       ·skip
        have c15b0:((bt s0_0 5) == 63)=true:=beq_iff_eq.mpr c15
        have c15b1:((bt s0_0 5) != 63)=false:=bne_eq_false_iff_eq.mpr c15
        clear c15
        simp only [Option.some.injEq,Prod.mk.injEq] at H
        obtain⟨rfl,rfl,rfl⟩:=H
        obtain⟨HGz16,hgz16⟩:=HI0.out
        have hcz16_0:=cellS57_0 HGz16
        have hcz16_1:=cellS57_1 HGz16
        have hfz16_0:=blk_frozen HGz16 0
        have hfz16_1:=blk_frozen HGz16 1
        clear HGz16 hgz16
        go_enter Tryd.func28,Tryd.ntmps28
        go_wp2_with (first|((with_reducible refine gate_callee (f:=55) rfl ?_);refine goesL_ (some 8) rfl rfl Tryd.func55 (by kernel_rfl) rfl #[.string s0_0,.string (⟨#[60,63,120,109,108]⟩ : ByteArray)] rfl (by(try simp only [List.map_toArray,List.map_cons,List.map_nil]);first|done|rfl|(simp only [List.length_drop,List.length_take];rfl)) ?_;(with_reducible refine(strings_HasPrefix.calls s0_0 (⟨#[60,63,120,109,108]⟩ : ByteArray) true _ A2.out).mono ?_);rintro e w' ⟨rfl,⟨nd,rfl⟩⟩;refine⟨_,rfl,?_⟩)|((with_reducible refine gate_callee (f:=56) rfl ?_);refine goesL_ (some 15) rfl rfl Tryd.func56 (by kernel_rfl) rfl #[.string (s0_0.extract 5 s0_0.size),.string (⟨#[63,62]⟩ : ByteArray)] rfl (by(try simp only [List.map_toArray,List.map_cons,List.map_nil]);first|done|rfl|(simp only [List.length_drop,List.length_take];rfl)) ?_;(with_reducible refine(strings_Index.calls (s0_0.extract 5 s0_0.size) (⟨#[63,62]⟩ : ByteArray) t107 _ (by first|exact hG|exact gok_below hG (by repeat (first|(with_reducible first|exact HB.out|apply below_alloc|apply pw_below_drewN|apply below_drew1|refine below_set ?_ (IsS57.ge HI0.out))|exact HB.out))|exact gok_heap hG rfl|exact gok_drewN hG _|exact gok_below hG (by repeat (first|exact HB.out|exact HBW.out|exact Below.refl _ _|apply below_alloc|apply pw_below_drewN|apply below_drew1))) A5.out).mono ?_);rintro e w' ⟨rfl,⟨nd,rfl⟩⟩;refine⟨_,rfl,?_⟩;have p10:0≤(5:Int):=(by omega);have q10:5<s0_0.size:=(by have:(5:Int)<(s0_0.size:Int):=of_decide_eq_true (by first|(with_reducible assumption)|assumption);omega);have hx10:∀ h:5<s0_0.size,((s0_0[5]'h).toNat:Int)=bt s0_0 5:=bt_at s0_0 5;clear p10;have qi10:(5<(s0_0.size:Int))=True:=eq_true (of_decide_eq_true (by first|(with_reducible assumption)|assumption));replace q10:=eq_true q10)|(go_at_call 57;(with_reducible refine(xml_white.calls (bt s0_0 5) false _ A11.out).mono ?_);rintro e w' ⟨rfl,⟨nd,rfl⟩⟩;have p14:0≤(5:Int):=(by omega);have q14:5<s0_0.size:=(by have:(5:Int)<(s0_0.size:Int):=of_decide_eq_true (by first|(with_reducible assumption)|assumption);omega);have hx14:∀ h:5<s0_0.size,((s0_0[5]'h).toNat:Int)=bt s0_0 5:=bt_at s0_0 5;clear p14;have qi14:(5<(s0_0.size:Int))=True:=eq_true (of_decide_eq_true (by first|(with_reducible assumption)|assumption));replace q14:=eq_true q14))
        go_ret
        exact⟨by first|rfl|(simp [errW_none,errW_some] <;> rfl)|(simp [*,errW_none,errW_some] <;> rfl),by repeat (first|(with_reducible first|exact HI0.out|apply IsS57.alloc|apply IsS57.drewN|apply IsS57.drew|apply IsS57.set_0|apply IsS57.set_1)|exact HI0.out),by repeat (first|(with_reducible first|exact HB.out|apply below_alloc|apply pw_below_drewN|apply below_drew1|refine below_set ?_ (IsS57.ge HI0.out))|exact HB.out),kk⟩
       ·skip
        have c15b0:((bt s0_0 5) == 63)=false:=beq_eq_false_iff_ne.mpr c15
        have c15b1:((bt s0_0 5) != 63)=true:=bne_iff_ne.mpr c15
        simp only [Option.some.injEq,Prod.mk.injEq] at H
        obtain⟨rfl,rfl,rfl⟩:=H
        obtain⟨HGz17,hgz17⟩:=HI0.out
        have hcz17_0:=cellS57_0 HGz17
        have hcz17_1:=cellS57_1 HGz17
        have hfz17_0:=blk_frozen HGz17 0
        have hfz17_1:=blk_frozen HGz17 1
        clear HGz17 hgz17
        go_enter Tryd.func28,Tryd.ntmps28
        go_wp2_with (first|((with_reducible refine gate_callee (f:=55) rfl ?_);refine goesL_ (some 8) rfl rfl Tryd.func55 (by kernel_rfl) rfl #[.string s0_0,.string (⟨#[60,63,120,109,108]⟩ : ByteArray)] rfl (by(try simp only [List.map_toArray,List.map_cons,List.map_nil]);first|done|rfl|(simp only [List.length_drop,List.length_take];rfl)) ?_;(with_reducible refine(strings_HasPrefix.calls s0_0 (⟨#[60,63,120,109,108]⟩ : ByteArray) true _ A2.out).mono ?_);rintro e w' ⟨rfl,⟨nd,rfl⟩⟩;refine⟨_,rfl,?_⟩)|((with_reducible refine gate_callee (f:=56) rfl ?_);refine goesL_ (some 15) rfl rfl Tryd.func56 (by kernel_rfl) rfl #[.string (s0_0.extract 5 s0_0.size),.string (⟨#[63,62]⟩ : ByteArray)] rfl (by(try simp only [List.map_toArray,List.map_cons,List.map_nil]);first|done|rfl|(simp only [List.length_drop,List.length_take];rfl)) ?_;(with_reducible refine(strings_Index.calls (s0_0.extract 5 s0_0.size) (⟨#[63,62]⟩ : ByteArray) t107 _ (by first|exact hG|exact gok_below hG (by repeat (first|(with_reducible first|exact HB.out|apply below_alloc|apply pw_below_drewN|apply below_drew1|refine below_set ?_ (IsS57.ge HI0.out))|exact HB.out))|exact gok_heap hG rfl|exact gok_drewN hG _|exact gok_below hG (by repeat (first|exact HB.out|exact HBW.out|exact Below.refl _ _|apply below_alloc|apply pw_below_drewN|apply below_drew1))) A5.out).mono ?_);rintro e w' ⟨rfl,⟨nd,rfl⟩⟩;refine⟨_,rfl,?_⟩;have p10:0≤(5:Int):=(by omega);have q10:5<s0_0.size:=(by have:(5:Int)<(s0_0.size:Int):=of_decide_eq_true (by first|(with_reducible assumption)|assumption);omega);have hx10:∀ h:5<s0_0.size,((s0_0[5]'h).toNat:Int)=bt s0_0 5:=bt_at s0_0 5;clear p10;have qi10:(5<(s0_0.size:Int))=True:=eq_true (of_decide_eq_true (by first|(with_reducible assumption)|assumption));replace q10:=eq_true q10)|(go_at_call 57;(with_reducible refine(xml_white.calls (bt s0_0 5) false _ A11.out).mono ?_);rintro e w' ⟨rfl,⟨nd,rfl⟩⟩;have p14:0≤(5:Int):=(by omega);have q14:5<s0_0.size:=(by have:(5:Int)<(s0_0.size:Int):=of_decide_eq_true (by first|(with_reducible assumption)|assumption);omega);have hx14:∀ h:5<s0_0.size,((s0_0[5]'h).toNat:Int)=bt s0_0 5:=bt_at s0_0 5;clear p14;have qi14:(5<(s0_0.size:Int))=True:=eq_true (of_decide_eq_true (by first|(with_reducible assumption)|assumption));replace q14:=eq_true q14))
        go_ret
        exact⟨by first|rfl|(simp [errW_none,errW_some] <;> rfl)|(simp [*,errW_none,errW_some] <;> rfl),by repeat (first|(with_reducible first|exact HI0.out|apply IsS57.alloc|apply IsS57.drewN|apply IsS57.drew|apply IsS57.set_0|apply IsS57.set_1)|exact HI0.out),by repeat (first|(with_reducible first|exact HB.out|apply below_alloc|apply pw_below_drewN|apply below_drew1|refine below_set ?_ (IsS57.ge HI0.out))|exact HB.out),kk⟩
     ·exact absurd H (by simp)
    ·skip
     have c8b0:decide (0<t107)=false:=decide_eq_false c8
     clear c8
     simp only [Option.some.injEq,Prod.mk.injEq] at H
     obtain⟨rfl,rfl,rfl⟩:=H
     obtain⟨HGz18,hgz18⟩:=HI0.out
     have hcz18_0:=cellS57_0 HGz18
     have hcz18_1:=cellS57_1 HGz18
     have hfz18_0:=blk_frozen HGz18 0
     have hfz18_1:=blk_frozen HGz18 1
     clear HGz18 hgz18
     go_enter Tryd.func28,Tryd.ntmps28
     go_wp2_with (first|((with_reducible refine gate_callee (f:=55) rfl ?_);refine goesL_ (some 8) rfl rfl Tryd.func55 (by kernel_rfl) rfl #[.string s0_0,.string (⟨#[60,63,120,109,108]⟩ : ByteArray)] rfl (by(try simp only [List.map_toArray,List.map_cons,List.map_nil]);first|done|rfl|(simp only [List.length_drop,List.length_take];rfl)) ?_;(with_reducible refine(strings_HasPrefix.calls s0_0 (⟨#[60,63,120,109,108]⟩ : ByteArray) true _ A2.out).mono ?_);rintro e w' ⟨rfl,⟨nd,rfl⟩⟩;refine⟨_,rfl,?_⟩)|((with_reducible refine gate_callee (f:=56) rfl ?_);refine goesL_ (some 15) rfl rfl Tryd.func56 (by kernel_rfl) rfl #[.string (s0_0.extract 5 s0_0.size),.string (⟨#[63,62]⟩ : ByteArray)] rfl (by(try simp only [List.map_toArray,List.map_cons,List.map_nil]);first|done|rfl|(simp only [List.length_drop,List.length_take];rfl)) ?_;(with_reducible refine(strings_Index.calls (s0_0.extract 5 s0_0.size) (⟨#[63,62]⟩ : ByteArray) t107 _ (by first|exact hG|exact gok_below hG (by repeat (first|(with_reducible first|exact HB.out|apply below_alloc|apply pw_below_drewN|apply below_drew1|refine below_set ?_ (IsS57.ge HI0.out))|exact HB.out))|exact gok_heap hG rfl|exact gok_drewN hG _|exact gok_below hG (by repeat (first|exact HB.out|exact HBW.out|exact Below.refl _ _|apply below_alloc|apply pw_below_drewN|apply below_drew1))) A5.out).mono ?_);rintro e w' ⟨rfl,⟨nd,rfl⟩⟩;refine⟨_,rfl,?_⟩))
     go_ret
     exact⟨by first|rfl|(simp [errW_none,errW_some] <;> rfl)|(simp [*,errW_none,errW_some] <;> rfl),by repeat (first|(with_reducible first|exact HI0.out|apply IsS57.alloc|apply IsS57.drewN|apply IsS57.drew|apply IsS57.set_0|apply IsS57.set_1)|exact HI0.out),by repeat (first|(with_reducible first|exact HB.out|apply below_alloc|apply pw_below_drewN|apply below_drew1|refine below_set ?_ (IsS57.ge HI0.out))|exact HB.out),kk⟩
  ·exact absurd H (by simp)
 ·replace c3:=Bool.eq_false_iff.mpr c3
  subst c3
  replace H:=itF H
  simp only [Option.some.injEq,Prod.mk.injEq] at H
  obtain⟨rfl,rfl,rfl⟩:=H
  obtain⟨HGz19,hgz19⟩:=HI0.out
  have hcz19_0:=cellS57_0 HGz19
  have hcz19_1:=cellS57_1 HGz19
  have hfz19_0:=blk_frozen HGz19 0
  have hfz19_1:=blk_frozen HGz19 1
  clear HGz19 hgz19
  go_enter Tryd.func28,Tryd.ntmps28
  go_wp2_with (first|((with_reducible refine gate_callee (f:=55) rfl ?_);refine goesL_ (some 8) rfl rfl Tryd.func55 (by kernel_rfl) rfl #[.string s0_0,.string (⟨#[60,63,120,109,108]⟩ : ByteArray)] rfl (by(try simp only [List.map_toArray,List.map_cons,List.map_nil]);first|done|rfl|(simp only [List.length_drop,List.length_take];rfl)) ?_;(with_reducible refine(strings_HasPrefix.calls s0_0 (⟨#[60,63,120,109,108]⟩ : ByteArray) false _ A2.out).mono ?_);rintro e w' ⟨rfl,⟨nd,rfl⟩⟩;refine⟨_,rfl,?_⟩))
  go_ret
  exact⟨by first|rfl|(simp [errW_none,errW_some] <;> rfl)|(simp [*,errW_none,errW_some] <;> rfl),by repeat (first|(with_reducible first|exact HI0.out|apply IsS57.alloc|apply IsS57.drewN|apply IsS57.drew|apply IsS57.set_0|apply IsS57.set_1)|exact HI0.out),by repeat (first|(with_reducible first|exact HB.out|apply below_alloc|apply pw_below_drewN|apply below_drew1|refine below_set ?_ (IsS57.ge HI0.out))|exact HB.out),kk⟩
end Go.Proofs.YtklcgncaclggcaaDoor.Q
