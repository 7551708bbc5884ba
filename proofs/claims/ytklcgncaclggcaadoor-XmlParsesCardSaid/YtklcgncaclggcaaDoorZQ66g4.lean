/- A part of the proof of the seat's laws. No condition beyond those in the theorems. -/
import Derived.Test.YtklcgncaclggcaaDoorZSqzB
import Derived.Test.YtklcgncaclggcaaDoorZQ0g18
import Derived.Test.YtklcgncaclggcaaDoorZQ80g5
import Derived.Test.YtklcgncaclggcaaDoorZQ53g10
import Derived.Deep.RegionWith
import Derived.WalkMore
import Derived.Test.YtklcgncaclggcaaDoorZStepW

namespace Go.Proofs.YtklcgncaclggcaaDoor.Q
open Go.RowKit Go.Proofs.YtklcgncaclggcaaDoorW.PrintWords Go.Proofs.YtklcgncaclggcaaDoorW.PrintLast Go.Proofs.YtklcgncaclggcaaDoorW.PrintMore
set_option linter.unusedVariables false
set_option linter.unusedSimpArgs false
set_option maxHeartbeats 8000000
set_option maxRecDepth 100000
attribute [local go_sem] max2_int min2_int max_two min_two max_three min_three max_four min_four   
def stowageref13_utf8.f (a0:Int):Option (ByteArray):=if a0<128 then(some (strOfNums (([(a0) % 256]:List Int)))) else(if a0<2048 then(some (strOfNums (([(wrap64 (192+(wrap64 (Int.tdiv a0 64)))) % 256,(wrap64 (128+(Int.tmod a0 64))) % 256]:List Int)))) else(if a0<65536 then(some (strOfNums (([(wrap64 (224+(wrap64 (Int.tdiv a0 4096)))) % 256,(wrap64 (128+(Int.tmod (wrap64 (Int.tdiv a0 64)) 64))) % 256,(wrap64 (128+(Int.tmod a0 64))) % 256]:List Int)))) else(some (strOfNums (([(wrap64 (240+(wrap64 (Int.tdiv a0 262144)))) % 256,(wrap64 (128+(Int.tmod (wrap64 (Int.tdiv a0 4096)) 64))) % 256,(wrap64 (128+(Int.tmod (wrap64 (Int.tdiv a0 64)) 64))) % 256,(wrap64 (128+(Int.tmod a0 64))) % 256]:List Int))))))
theorem stowageref13_utf8.calls (a0:Int) (r:ByteArray) (w:World) (h:stowageref13_utf8.f a0=some r) :
    Calls Tryd.prog 75 #[.int .i64 a0] w fun e w'=>e = .returned (.string r)∧Below w.heap.size w w':=by
 have HB:=Aside0.mk (Below.refl w.heap.size w)
 unfold stowageref13_utf8.f at h
 have H:=h
 clear h
 replace H:=itO H
 rcases H with⟨c2,H⟩|⟨c2,H⟩
 {
 have c2b0:decide (a0<128)=true:=decide_eq_true c2
 clear c2
 obtain⟨y143,hy143⟩ : ∃ y_:List Int,y_=(([(a0) % 256]:List Int)):=⟨_,rfl⟩
 replace H:(some (strOfNums y143))=some r:=by first|(rw [hy143];with_reducible exact H)|(have H2_:=(Option.bind_some _ _).symm.trans H;rw [hy143];with_reducible exact H2_)|(have H2_:=(Option.bind_some _ _).symm.trans H;with_reducible exact H2_)|with_reducible exact H|(rw [hy143];exact H)|exact H
 have Ny143:=Aside0.mk hy143
 clear hy143
 obtain rfl:=Option.some.inj H
 go_enter Tryd.func75,Tryd.ntmps75
 go_wp2_with (first|((with_reducible refine gate_dst (N:=8) rfl ?_);refine Kd.R_lit (Kd.int .u8) _ 5 ?hg (N:=8) ?hd (xs:=([(a0) % 256]:List Int)) (inner:=[.int .u8 ((a0) % 256)]) (ok:=fun _=>True) (okp:=fun _=>True) ?hr ?hp (fun _ hk=>hk) trivial (Below.refl _ _) (Nat.le_refl _) (by simp) ?_;(case hd=>rfl);(case hg=>rfl);(case hr=>first|(go_simp;done)|(go_simp;rfl));(case hp=>exact(Reps.one (show Kd.M (Kd.int .u8) _ _ _ ((a0) % 256) [.int .u8 ((a0) % 256)] from rfl) (Reps.none _ _)));intro v144 w3 ho4 hb hg_ hnew_;clear hg_ hnew_;(first|rw [← Ny143.out] at ho4|(simp only [Int.reduceToNat] at ho4;rw [← Ny143.out] at ho4));have HO145:=Aside0.mk (Kd.R_lower ho4 (below_size bl));replace HB:=Aside0.mk (below_step bl hb);clear hb ho4;have hcv5:=own_string (P:=Tryd.prog) Tryd.underlying66 Tryd.underlying5 Tryd.underlying9 (Kd.own_of_R HO145.out)))
 go_ret
 exact⟨ew,bl⟩
 }
 {
 have c2b0:decide (a0<128)=false:=decide_eq_false c2
 clear c2
 replace H:=itO H
 rcases H with⟨c6,H⟩|⟨c6,H⟩
 {
 have c6b0:decide (a0<2048)=true:=decide_eq_true c6
 clear c6
 obtain⟨y146,hy146⟩ : ∃ y_:List Int,y_=(([(wrap64 (192+(wrap64 (Int.tdiv a0 64)))) % 256,(wrap64 (128+(Int.tmod a0 64))) % 256]:List Int)):=⟨_,rfl⟩
 replace H:(some (strOfNums y146))=some r:=by first|(rw [hy146];with_reducible exact H)|(have H2_:=(Option.bind_some _ _).symm.trans H;rw [hy146];with_reducible exact H2_)|(have H2_:=(Option.bind_some _ _).symm.trans H;with_reducible exact H2_)|with_reducible exact H|(rw [hy146];exact H)|exact H
 have Ny146:=Aside0.mk hy146
 clear hy146
 obtain rfl:=Option.some.inj H
 go_enter Tryd.func75,Tryd.ntmps75
 go_wp2_with (first|((with_reducible refine gate_dst (N:=21) rfl ?_);refine Kd.R_lit (Kd.int .u8) _ 5 ?hg (N:=21) ?hd (xs:=([(wrap64 (192+(wrap64 (Int.tdiv a0 64)))) % 256,(wrap64 (128+(Int.tmod a0 64))) % 256]:List Int)) (inner:=[.int .u8 ((wrap64 (192+(wrap64 (Int.tdiv a0 64)))) % 256),.int .u8 ((wrap64 (128+(Int.tmod a0 64))) % 256)]) (ok:=fun _=>True) (okp:=fun _=>True) ?hr ?hp (fun _ hk=>hk) trivial (Below.refl _ _) (Nat.le_refl _) (by simp) ?_;(case hd=>rfl);(case hg=>rfl);(case hr=>first|(go_simp;done)|(go_simp;rfl));(case hp=>exact(Reps.one (show Kd.M (Kd.int .u8) _ _ _ ((wrap64 (192+(wrap64 (Int.tdiv a0 64)))) % 256) [.int .u8 ((wrap64 (192+(wrap64 (Int.tdiv a0 64)))) % 256)] from rfl) (Reps.one (show Kd.M (Kd.int .u8) _ _ _ ((wrap64 (128+(Int.tmod a0 64))) % 256) [.int .u8 ((wrap64 (128+(Int.tmod a0 64))) % 256)] from rfl) (Reps.none _ _))));intro v147 w7 ho8 hb hg_ hnew_;clear hg_ hnew_;(first|rw [← Ny146.out] at ho8|(simp only [Int.reduceToNat] at ho8;rw [← Ny146.out] at ho8));have HO148:=Aside0.mk (Kd.R_lower ho8 (below_size bl));replace HB:=Aside0.mk (below_step bl hb);clear hb ho8;have hcv9:=own_string (P:=Tryd.prog) Tryd.underlying66 Tryd.underlying5 Tryd.underlying9 (Kd.own_of_R HO148.out)))
 go_ret
 exact⟨ew,bl⟩
 }
 {
 have c6b0:decide (a0<2048)=false:=decide_eq_false c6
 clear c6
 replace H:=itO H
 rcases H with⟨c10,H⟩|⟨c10,H⟩
 {
 have c10b0:decide (a0<65536)=true:=decide_eq_true c10
 clear c10
 obtain⟨y149,hy149⟩ : ∃ y_:List Int,y_=(([(wrap64 (224+(wrap64 (Int.tdiv a0 4096)))) % 256,(wrap64 (128+(Int.tmod (wrap64 (Int.tdiv a0 64)) 64))) % 256,(wrap64 (128+(Int.tmod a0 64))) % 256]:List Int)):=⟨_,rfl⟩
 replace H:(some (strOfNums y149))=some r:=by first|(rw [hy149];with_reducible exact H)|(have H2_:=(Option.bind_some _ _).symm.trans H;rw [hy149];with_reducible exact H2_)|(have H2_:=(Option.bind_some _ _).symm.trans H;with_reducible exact H2_)|with_reducible exact H|(rw [hy149];exact H)|exact H
 have Ny149:=Aside0.mk hy149
 clear hy149
 obtain rfl:=Option.some.inj H
 go_enter Tryd.func75,Tryd.ntmps75
 go_wp2_with (first|((with_reducible refine gate_dst (N:=39) rfl ?_);refine Kd.R_lit (Kd.int .u8) _ 5 ?hg (N:=39) ?hd (xs:=([(wrap64 (224+(wrap64 (Int.tdiv a0 4096)))) % 256,(wrap64 (128+(Int.tmod (wrap64 (Int.tdiv a0 64)) 64))) % 256,(wrap64 (128+(Int.tmod a0 64))) % 256]:List Int)) (inner:=[.int .u8 ((wrap64 (224+(wrap64 (Int.tdiv a0 4096)))) % 256),.int .u8 ((wrap64 (128+(Int.tmod (wrap64 (Int.tdiv a0 64)) 64))) % 256),.int .u8 ((wrap64 (128+(Int.tmod a0 64))) % 256)]) (ok:=fun _=>True) (okp:=fun _=>True) ?hr ?hp (fun _ hk=>hk) trivial (Below.refl _ _) (Nat.le_refl _) (by simp) ?_;(case hd=>rfl);(case hg=>rfl);(case hr=>first|(go_simp;done)|(go_simp;rfl));(case hp=>exact(Reps.one (show Kd.M (Kd.int .u8) _ _ _ ((wrap64 (224+(wrap64 (Int.tdiv a0 4096)))) % 256) [.int .u8 ((wrap64 (224+(wrap64 (Int.tdiv a0 4096)))) % 256)] from rfl) (Reps.one (show Kd.M (Kd.int .u8) _ _ _ ((wrap64 (128+(Int.tmod (wrap64 (Int.tdiv a0 64)) 64))) % 256) [.int .u8 ((wrap64 (128+(Int.tmod (wrap64 (Int.tdiv a0 64)) 64))) % 256)] from rfl) (Reps.one (show Kd.M (Kd.int .u8) _ _ _ ((wrap64 (128+(Int.tmod a0 64))) % 256) [.int .u8 ((wrap64 (128+(Int.tmod a0 64))) % 256)] from rfl) (Reps.none _ _)))));intro v150 w11 ho12 hb hg_ hnew_;clear hg_ hnew_;(first|rw [← Ny149.out] at ho12|(simp only [Int.reduceToNat] at ho12;rw [← Ny149.out] at ho12));have HO151:=Aside0.mk (Kd.R_lower ho12 (below_size bl));replace HB:=Aside0.mk (below_step bl hb);clear hb ho12;have hcv13:=own_string (P:=Tryd.prog) Tryd.underlying66 Tryd.underlying5 Tryd.underlying9 (Kd.own_of_R HO151.out)))
 go_ret
 exact⟨ew,bl⟩
 }
 {
 have c10b0:decide (a0<65536)=false:=decide_eq_false c10
 clear c10
 obtain⟨y152,hy152⟩ : ∃ y_:List Int,y_=(([(wrap64 (240+(wrap64 (Int.tdiv a0 262144)))) % 256,(wrap64 (128+(Int.tmod (wrap64 (Int.tdiv a0 4096)) 64))) % 256,(wrap64 (128+(Int.tmod (wrap64 (Int.tdiv a0 64)) 64))) % 256,(wrap64 (128+(Int.tmod a0 64))) % 256]:List Int)):=⟨_,rfl⟩
 replace H:(some (strOfNums y152))=some r:=by first|(rw [hy152];with_reducible exact H)|(have H2_:=(Option.bind_some _ _).symm.trans H;rw [hy152];with_reducible exact H2_)|(have H2_:=(Option.bind_some _ _).symm.trans H;with_reducible exact H2_)|with_reducible exact H|(rw [hy152];exact H)|exact H
 have Ny152:=Aside0.mk hy152
 clear hy152
 obtain rfl:=Option.some.inj H
 go_enter Tryd.func75,Tryd.ntmps75
 go_wp2_with (first|((with_reducible refine gate_dst (N:=59) rfl ?_);refine Kd.R_lit (Kd.int .u8) _ 5 ?hg (N:=59) ?hd (xs:=([(wrap64 (240+(wrap64 (Int.tdiv a0 262144)))) % 256,(wrap64 (128+(Int.tmod (wrap64 (Int.tdiv a0 4096)) 64))) % 256,(wrap64 (128+(Int.tmod (wrap64 (Int.tdiv a0 64)) 64))) % 256,(wrap64 (128+(Int.tmod a0 64))) % 256]:List Int)) (inner:=[.int .u8 ((wrap64 (240+(wrap64 (Int.tdiv a0 262144)))) % 256),.int .u8 ((wrap64 (128+(Int.tmod (wrap64 (Int.tdiv a0 4096)) 64))) % 256),.int .u8 ((wrap64 (128+(Int.tmod (wrap64 (Int.tdiv a0 64)) 64))) % 256),.int .u8 ((wrap64 (128+(Int.tmod a0 64))) % 256)]) (ok:=fun _=>True) (okp:=fun _=>True) ?hr ?hp (fun _ hk=>hk) trivial (Below.refl _ _) (Nat.le_refl _) (by simp) ?_;(case hd=>rfl);(case hg=>rfl);(case hr=>first|(go_simp;done)|(go_simp;rfl));(case hp=>exact(Reps.one (show Kd.M (Kd.int .u8) _ _ _ ((wrap64 (240+(wrap64 (Int.tdiv a0 262144)))) % 256) [.int .u8 ((wrap64 (240+(wrap64 (Int.tdiv a0 262144)))) % 256)] from rfl) (Reps.one (show Kd.M (Kd.int .u8) _ _ _ ((wrap64 (128+(Int.tmod (wrap64 (Int.tdiv a0 4096)) 64))) % 256) [.int .u8 ((wrap64 (128+(Int.tmod (wrap64 (Int.tdiv a0 4096)) 64))) % 256)] from rfl) (Reps.one (show Kd.M (Kd.int .u8) _ _ _ ((wrap64 (128+(Int.tmod (wrap64 (Int.tdiv a0 64)) 64))) % 256) [.int .u8 ((wrap64 (128+(Int.tmod (wrap64 (Int.tdiv a0 64)) 64))) % 256)] from rfl) (Reps.one (show Kd.M (Kd.int .u8) _ _ _ ((wrap64 (128+(Int.tmod a0 64))) % 256) [.int .u8 ((wrap64 (128+(Int.tmod a0 64))) % 256)] from rfl) (Reps.none _ _))))));intro v153 w14 ho15 hb hg_ hnew_;clear hg_ hnew_;(first|rw [← Ny152.out] at ho15|(simp only [Int.reduceToNat] at ho15;rw [← Ny152.out] at ho15));have HO154:=Aside0.mk (Kd.R_lower ho15 (below_size bl));replace HB:=Aside0.mk (below_step bl hb);clear hb ho15;have hcv16:=own_string (P:=Tryd.prog) Tryd.underlying66 Tryd.underlying5 Tryd.underlying9 (Kd.own_of_R HO154.out)))
 go_ret
 exact⟨ew,bl⟩
 }
 }
 }
mutual
def stowageref13_entity.j0:Nat→ByteArray→Int→Option (ByteArray×Bool)
  | 0,_,_=>none
  | k+1,x0,x4=>if(x0.size:Int)<1 then(stowageref13_entity.j1 k x0 x4 true) else(stowageref13_entity.j1 k x0 x4 (decide ((x0.size:Int)>7)))
def stowageref13_entity.j1:Nat→ByteArray→Int→Bool→Option (ByteArray×Bool)
  | 0,_,_,_=>none
  | k+1,x0,x4,x34=>if x34=true then(some ((⟨#[]⟩ : ByteArray),false)) else(stowageref13_entity.l0 k x0 x4 0 0)
def stowageref13_entity.l0:Nat→ByteArray→Int→Int→Int→Option (ByteArray×Bool)
  | 0,_,_,_,_=>none
  | k+1,x0,x4,x5,x6=>if x6<(x0.size:Int) then(if 0≤x6 then((stowageref3_Digit.f k (bt x0 x6)).bind fun t157=>(if t157<0 then(some ((⟨#[]⟩ : ByteArray),false)) else(if t157 ≥ x4 then(some ((⟨#[]⟩ : ByteArray),false)) else(stowageref13_entity.l0 k x0 x4 (wrap64 ((wrap64 (x4*x5))+t157)) (wrap64 (x6+1)))))) else(none)) else((stowageref3_Char.f x5).bind fun t158=>(if t158=true then((stowageref13_utf8.f x5).bind fun t159=>(some (t159,true))) else(some ((⟨#[]⟩ : ByteArray),false))))
end
def stowageref13_entity.f (k:Nat) (a0:ByteArray):Option (ByteArray×Bool):=if a0.toList=([97,109,112]:List UInt8) then(some ((⟨#[38]⟩ : ByteArray),true)) else(if a0.toList=([108,116]:List UInt8) then(some ((⟨#[60]⟩ : ByteArray),true)) else(if a0.toList=([103,116]:List UInt8) then(some ((⟨#[62]⟩ : ByteArray),true)) else(if a0.toList=([113,117,111,116]:List UInt8) then(some ((⟨#[34]⟩ : ByteArray),true)) else(if a0.toList=([97,112,111,115]:List UInt8) then(some ((⟨#[39]⟩ : ByteArray),true)) else((stowageref3_Begins.f a0 (⟨#[35,120]⟩ : ByteArray)).bind fun t155=>(if t155=true then(if 2≤(a0.size:Int) then(stowageref13_entity.j0 k (a0.extract 2 a0.size) 16) else(none)) else((stowageref3_Begins.f a0 (⟨#[35]⟩ : ByteArray)).bind fun t156=>(if t156=true then(if 1≤(a0.size:Int) then(stowageref13_entity.j0 k (a0.extract 1 a0.size) 10) else(none)) else(some ((⟨#[]⟩ : ByteArray),false))))))))))
theorem stowageref13_entity.mono_l:∀ k,(∀ y0 y1,LeO (stowageref13_entity.j0 k y0 y1) (stowageref13_entity.j0 (k+1) y0 y1))∧(∀ y0 y1 y2,LeO (stowageref13_entity.j1 k y0 y1 y2) (stowageref13_entity.j1 (k+1) y0 y1 y2))∧(∀ y0 y1 y2 y3,LeO (stowageref13_entity.l0 k y0 y1 y2 y3) (stowageref13_entity.l0 (k+1) y0 y1 y2 y3))
  | 0=>⟨fun _ _ r h=>by simp [stowageref13_entity.j0] at h,fun _ _ _ r h=>by simp [stowageref13_entity.j1] at h,fun _ _ _ _ r h=>by simp [stowageref13_entity.l0] at h⟩
  | k+1=>by
    obtain⟨ih0,ih1,ih2⟩:=stowageref13_entity.mono_l k
    refine⟨?_,?_,?_⟩
    · intro y0 y1
      unfold stowageref13_entity.j0
      with_reducible repeat' first|exact ih0 _ _|exact ih1 _ _ _|exact ih2 _ _ _ _|exact stowageref3_Digit.mono _ _|exact LeO.refl _|exact LeO.none _|refine LeO.ite ?_ ?_|refine LeO.bind ?_ (fun _=>?_)
    · intro y0 y1 y2
      unfold stowageref13_entity.j1
      with_reducible repeat' first|exact ih0 _ _|exact ih1 _ _ _|exact ih2 _ _ _ _|exact stowageref3_Digit.mono _ _|exact LeO.refl _|exact LeO.none _|refine LeO.ite ?_ ?_|refine LeO.bind ?_ (fun _=>?_)
    · intro y0 y1 y2 y3
      unfold stowageref13_entity.l0
      with_reducible repeat' first|exact ih0 _ _|exact ih1 _ _ _|exact ih2 _ _ _ _|exact stowageref3_Digit.mono _ _|exact LeO.refl _|exact LeO.none _|refine LeO.ite ?_ ?_|refine LeO.bind ?_ (fun _=>?_)
theorem stowageref13_entity.mono:∀ a0 k,LeO (stowageref13_entity.f k a0) (stowageref13_entity.f (k+1) a0):=by
 intro a0 k
 obtain⟨ih0,ih1,ih2⟩:=stowageref13_entity.mono_l k
 unfold stowageref13_entity.f
 with_reducible repeat' first|exact ih0 _ _|exact ih1 _ _ _|exact ih2 _ _ _ _|exact stowageref3_Digit.mono _ _|exact LeO.refl _|exact LeO.none _|refine LeO.ite ?_ ?_|refine LeO.bind ?_ (fun _=>?_)
theorem stowageref13_entity.calls (k:Nat) (a0:ByteArray) (r1:ByteArray) (r2:Bool) (w:World) (h:stowageref13_entity.f k a0=some (r1,r2)) :
    Calls Tryd.prog 41 #[.string a0] w fun e w'=>e = .returned (.tuple #[.string r1,.bool r2])∧Below w.heap.size w w':=by
 have HB:=Aside0.mk (Below.refl w.heap.size w)
 unfold stowageref13_entity.f at h
 have H:=h
 clear h
 replace H:=itO H
 rcases H with⟨c2,H⟩|⟨c2,H⟩
 {
 have c2b0:(a0.toList == ([97,109,112]:List UInt8))=true:=beq_iff_eq.mpr c2
 clear c2
 simp only [Option.some.injEq,Prod.mk.injEq] at H
 obtain⟨rfl,rfl⟩:=H
 go_enter Tryd.func41,Tryd.ntmps41
 go_wp2
 go_ret2
 exact⟨ew,bl⟩
 }
 {
 have c2b0:(a0.toList == ([97,109,112]:List UInt8))=false:=beq_eq_false_iff_ne.mpr c2
 replace H:=itO H
 rcases H with⟨c3,H⟩|⟨c3,H⟩
 {
 have c3b0:(a0.toList == ([108,116]:List UInt8))=true:=beq_iff_eq.mpr c3
 clear c3
 simp only [Option.some.injEq,Prod.mk.injEq] at H
 obtain⟨rfl,rfl⟩:=H
 go_enter Tryd.func41,Tryd.ntmps41
 go_wp2
 go_ret2
 exact⟨ew,bl⟩
 }
 {
 have c3b0:(a0.toList == ([108,116]:List UInt8))=false:=beq_eq_false_iff_ne.mpr c3
 replace H:=itO H
 rcases H with⟨c4,H⟩|⟨c4,H⟩
 {
 have c4b0:(a0.toList == ([103,116]:List UInt8))=true:=beq_iff_eq.mpr c4
 clear c4
 simp only [Option.some.injEq,Prod.mk.injEq] at H
 obtain⟨rfl,rfl⟩:=H
 go_enter Tryd.func41,Tryd.ntmps41
 go_wp2
 go_ret2
 exact⟨ew,bl⟩
 }
 {
 have c4b0:(a0.toList == ([103,116]:List UInt8))=false:=beq_eq_false_iff_ne.mpr c4
 replace H:=itO H
 rcases H with⟨c5,H⟩|⟨c5,H⟩
 {
 have c5b0:(a0.toList == ([113,117,111,116]:List UInt8))=true:=beq_iff_eq.mpr c5
 clear c5
 simp only [Option.some.injEq,Prod.mk.injEq] at H
 obtain⟨rfl,rfl⟩:=H
 go_enter Tryd.func41,Tryd.ntmps41
 go_wp2
 go_ret2
 exact⟨ew,bl⟩
 }
 {
 have c5b0:(a0.toList == ([113,117,111,116]:List UInt8))=false:=beq_eq_false_iff_ne.mpr c5
 replace H:=itO H
 rcases H with⟨c6,H⟩|⟨c6,H⟩
 {
 have c6b0:(a0.toList == ([97,112,111,115]:List UInt8))=true:=beq_iff_eq.mpr c6
 clear c6
 simp only [Option.some.injEq,Prod.mk.injEq] at H
 obtain⟨rfl,rfl⟩:=H
 go_enter Tryd.func41,Tryd.ntmps41
 go_wp2
 go_ret2
 exact⟨ew,bl⟩
 }
 {
 have c6b0:(a0.toList == ([97,112,111,115]:List UInt8))=false:=beq_eq_false_iff_ne.mpr c6
 replace H:=bndO H
 obtain⟨t155,A70,H⟩:=H
 have A7:=Aside0.mk A70
 clear A70
 have HC8:=Aside0.mk H
 clear H
 go_enter Tryd.func41,Tryd.ntmps41
 go_upto_if 20 with(first|((with_reducible refine gate_callee (f:=64) rfl ?_);refine goesL_ (some 20) rfl rfl Tryd.func64 kr rfl #[.string a0,.string (⟨#[35,120]⟩ : ByteArray)] rfl am ?_;(with_reducible refine(stowageref3_Begins.calls a0 (⟨#[35,120]⟩ : ByteArray) t155 _ A7.out).mono ?_);rintro e w' ⟨rfl,⟨nd,rfl⟩⟩;refine⟨_,rfl,?_⟩))
 (try simp only [Act.put,l1,l2,l3])
 go_cut [0,4] (fun v0 v4 wc=>∃ (kq:Nat) (x0_7:ByteArray) (x4_7:Int),v0 = .string x0_7∧v4 = .int .i64 x4_7∧Aside0 (stowageref13_entity.j0 kq x0_7 x4_7=some (r1,r2))∧Aside0 (kq≤k)∧Aside0 (Below w.heap.size w wc))
 case first=>
  have H:=HC8.out
  clear HC8
  by_cases c9:t155=true
  {
  subst c9
  replace H:=itT H
  replace H:=itO H
  rcases H with⟨c10,H⟩|⟨c10,H⟩
  {
  have c10b0:=eq_true c10
  clear c10
  have H':=Aside0.mk H
  clear H
  go_wp2
  go_meet
  case rel=>exact⟨_,(a0.extract 2 a0.size),(16),rs,rs,H',⟨by first|omega|exact Nat.le_refl _⟩,⟨bl⟩⟩
  }
  ·exact absurd H (by simp)
  }
  {
  replace c9:=Bool.eq_false_iff.mpr c9
  subst c9
  replace H:=itF H
  replace H:=bndO H
  obtain⟨t156,A110,H⟩:=H
  have A11:=Aside0.mk A110
  clear A110
  by_cases c12:t156=true
  {
  subst c12
  replace H:=itT H
  replace H:=itO H
  rcases H with⟨c13,H⟩|⟨c13,H⟩
  {
  have c13b0:=eq_true c13
  clear c13
  have H':=Aside0.mk H
  clear H
  go_wp2_with (first|((with_reducible refine gate_callee (f:=64) rfl ?_);refine goesL_ (some 24) rfl rfl Tryd.func64 kr rfl #[.string a0,.string (⟨#[35]⟩ : ByteArray)] rfl am ?_;(with_reducible refine(stowageref3_Begins.calls a0 (⟨#[35]⟩ : ByteArray) true _ A11.out).mono ?_);rintro e w' ⟨rfl,⟨nd,rfl⟩⟩;refine⟨_,rfl,?_⟩))
  go_meet
  case rel=>exact⟨_,(a0.extract 1 a0.size),(10),rs,rs,H',⟨by first|omega|exact Nat.le_refl _⟩,⟨bl⟩⟩
  }
  ·exact absurd H (by simp)
  }
  {
  replace c12:=Bool.eq_false_iff.mpr c12
  subst c12
  replace H:=itF H
  simp only [Option.some.injEq,Prod.mk.injEq] at H
  obtain⟨rfl,rfl⟩:=H
  go_wp2_with (first|((with_reducible refine gate_callee (f:=64) rfl ?_);refine goesL_ (some 24) rfl rfl Tryd.func64 kr rfl #[.string a0,.string (⟨#[35]⟩ : ByteArray)] rfl am ?_;(with_reducible refine(stowageref3_Begins.calls a0 (⟨#[35]⟩ : ByteArray) false _ A11.out).mono ?_);rintro e w' ⟨rfl,⟨nd,rfl⟩⟩;refine⟨_,rfl,?_⟩))
  go_ret2
  exact⟨ew,bl⟩
  }
  }
 case rest=>
  clear HC8
  obtain⟨kq,x0_7,x4_7,rfl,rfl,HA,HJ7,HB⟩:=hcut
  cases kq with
  | zero=>exact absurd HA.out (by simp [stowageref13_entity.j0])
  | succ kj7=>
   have H:=HA.out
   clear HA
   simp only [stowageref13_entity.j0] at H
   have HC14:=Aside0.mk H
   clear H
   go_upto_region 19 with(fail)
   go_cut [34] (fun v34 wc=>∃ (kq:Nat) (x34_13:Bool),v34 = .bool x34_13∧Aside0 (stowageref13_entity.j1 kq x0_7 x4_7 x34_13=some (r1,r2))∧Aside0 (kq≤kj7)∧Aside0 (Below w.heap.size w wc))
   case first=>
    have H:=HC14.out
    clear HC14
    replace H:=itO H
    rcases H with⟨c15,H⟩|⟨c15,H⟩
    {
    have c15b0:decide ((x0_7.size:Int)<1)=true:=decide_eq_true c15
    clear c15
    (first|rw [c15b0]|(simp only [i64_w,i32_w];rw [c15b0])|skip)
    have H':=Aside0.mk H
    clear H
    go_wp2
    go_meet
    case rel=>exact⟨_,(true),rs,H',⟨by have:=HJ7.out;first|omega|exact Nat.le_refl _⟩,⟨bl⟩⟩
    }
    {
    have c15b0:decide ((x0_7.size:Int)<1)=false:=decide_eq_false c15
    clear c15
    (first|rw [c15b0]|(simp only [i64_w,i32_w];rw [c15b0])|skip)
    have H':=Aside0.mk H
    clear H
    go_wp2
    go_meet
    case rel=>exact⟨_,(decide ((x0_7.size:Int)>7)),rs,H',⟨by have:=HJ7.out;first|omega|exact Nat.le_refl _⟩,⟨bl⟩⟩
    }
   case rest=>
    clear HC14
    obtain⟨kq,x34_13,rfl,HA,HJ13,HB⟩:=hcut
    cases kq with
    | zero=>exact absurd HA.out (by simp [stowageref13_entity.j1])
    | succ kj13=>
     have H:=HA.out
     clear HA
     simp only [stowageref13_entity.j1] at H
     by_cases c16:x34_13=true
     {
     subst c16
     replace H:=itT H
     simp only [Option.some.injEq,Prod.mk.injEq] at H
     obtain⟨rfl,rfl⟩:=H
     go_wp2
     go_ret2
     exact⟨ew,bl⟩
     }
     {
     replace c16:=Bool.eq_false_iff.mpr c16
     subst c16
     replace H:=itF H
     have H':=Aside0.mk H
     clear H
     go_wp2
     go_loopg [5,6] kj13 (fun kq v5 v6 w'=>∃ (x5_3:Int) (x6_3:Int),v5 = .int .i64 x5_3∧v6 = .int .i64 x6_3∧Aside0 (stowageref13_entity.l0 kq x0_7 x4_7 x5_3 x6_3=some (r1,r2))∧Aside0 (kq≤kj13)∧Aside0 (Below w.heap.size w w'))
     case atStart=>exact⟨(0),(0),rs,rs,H',⟨Nat.le_refl _⟩,⟨bl⟩⟩
     case round=>
      clear H'
      obtain⟨x5_3,x6_3,rfl,rfl,HA,HK3,HB⟩:=hrel
      cases gk with
      | zero=>exact absurd HA.out (by simp [stowageref13_entity.l0])
      | succ k3=>
       have H:=HA.out
       clear HA
       simp only [stowageref13_entity.l0] at H
       replace H:=itO H
       rcases H with⟨c17,H⟩|⟨c17,H⟩
       {
       have c17b0:decide (x6_3<(x0_7.size:Int))=true:=decide_eq_true c17
       clear c17
       replace H:=itO H
       rcases H with⟨c18,H⟩|⟨c18,H⟩
       {
       have c18b0:decide (0≤x6_3)=true:=decide_eq_true c18
       clear c18
       replace H:=bndO H
       obtain⟨t157,A200,H⟩:=H
       have A20:=Aside0.mk A200
       clear A200
       replace H:=itO H
       rcases H with⟨c21,H⟩|⟨c21,H⟩
       {
       have c21b0:decide (t157<0)=true:=decide_eq_true c21
       clear c21
       simp only [Option.some.injEq,Prod.mk.injEq] at H
       obtain⟨rfl,rfl⟩:=H
       have p19:0≤(x6_3:Int):=of_decide_eq_true asm
       have q19:x6_3<(x0_7.size:Int):=of_decide_eq_true asm
       have hx19:=bt_at x0_7 x6_3
       replace p19:=eq_true p19
       replace q19:=eq_true q19
       go_wp2_with (first|((with_reducible refine gate_callee (f:=74) rfl ?_);refine goesL_ (some 44) rfl rfl Tryd.func74 kr rfl #[.int .u8 (bt x0_7 x6_3)] rfl am ?_;(with_reducible refine(stowageref3_Digit.calls k3 (bt x0_7 x6_3) t157 _ A20.out).mono ?_);rintro e w' ⟨rfl,⟨nd,rfl⟩⟩;refine⟨_,rfl,?_⟩))
       go_ret2
       exact⟨ew,bl⟩
       }
       {
       have c21b0:decide (t157<0)=false:=decide_eq_false c21
       clear c21
       replace H:=itO H
       rcases H with⟨c22,H⟩|⟨c22,H⟩
       {
       have c22b0:decide (x4_7≤t157)=true:=decide_eq_true c22
       clear c22
       simp only [Option.some.injEq,Prod.mk.injEq] at H
       obtain⟨rfl,rfl⟩:=H
       have p19:0≤(x6_3:Int):=of_decide_eq_true asm
       have q19:x6_3<(x0_7.size:Int):=of_decide_eq_true asm
       have hx19:=bt_at x0_7 x6_3
       replace p19:=eq_true p19
       replace q19:=eq_true q19
       go_wp2_with (first|((with_reducible refine gate_callee (f:=74) rfl ?_);refine goesL_ (some 44) rfl rfl Tryd.func74 kr rfl #[.int .u8 (bt x0_7 x6_3)] rfl am ?_;(with_reducible refine(stowageref3_Digit.calls k3 (bt x0_7 x6_3) t157 _ A20.out).mono ?_);rintro e w' ⟨rfl,⟨nd,rfl⟩⟩;refine⟨_,rfl,?_⟩))
       go_ret2
       exact⟨ew,bl⟩
       }
       {
       have c22b0:decide (x4_7≤t157)=false:=decide_eq_false c22
       clear c22
       have H':=Aside0.mk H
       clear H
       have p19:0≤(x6_3:Int):=of_decide_eq_true asm
       have q19:x6_3<(x0_7.size:Int):=of_decide_eq_true asm
       have hx19:=bt_at x0_7 x6_3
       replace p19:=eq_true p19
       replace q19:=eq_true q19
       go_wp2_with (first|((with_reducible refine gate_callee (f:=74) rfl ?_);refine goesL_ (some 44) rfl rfl Tryd.func74 kr rfl #[.int .u8 (bt x0_7 x6_3)] rfl am ?_;(with_reducible refine(stowageref3_Digit.calls k3 (bt x0_7 x6_3) t157 _ A20.out).mono ?_);rintro e w' ⟨rfl,⟨nd,rfl⟩⟩;refine⟨_,rfl,?_⟩))
       go_roundg k3
       case measure=>have:=HJ7.out;have:=HJ13.out;have:=HK3.out;omega
       case rel=>exact⟨(wrap64 ((wrap64 (x4_7*x5_3))+t157)),(wrap64 (x6_3+1)),rs,rs,H',⟨by have:=HJ7.out;have:=HJ13.out;have:=HK3.out;omega⟩,⟨bl⟩⟩
       }
       }
       }
       ·exact absurd H (by simp)
       }
       {
       have c17b0:decide (x6_3<(x0_7.size:Int))=false:=decide_eq_false c17
       clear c17
       replace H:=bndO H
       obtain⟨t158,A230,H⟩:=H
       have A23:=Aside0.mk A230
       clear A230
       by_cases c24:t158=true
       {
       subst c24
       replace H:=itT H
       replace H:=bndO H
       obtain⟨t159,A250,H⟩:=H
       have A25:=Aside0.mk A250
       clear A250
       simp only [Option.some.injEq,Prod.mk.injEq] at H
       obtain⟨rfl,rfl⟩:=H
       go_wp2_with (first|((with_reducible refine gate_callee (f:=63) rfl ?_);refine goesL_ (some 58) rfl rfl Tryd.func63 kr rfl #[.int .i64 x5_3] rfl am ?_;(with_reducible refine(stowageref3_Char.calls x5_3 true _ A23.out).mono ?_);rintro e w' ⟨rfl,⟨nd,rfl⟩⟩;refine⟨_,rfl,?_⟩)|((with_reducible refine gate_callee (f:=75) rfl ?_);refine goesL_ (some 61) rfl rfl Tryd.func75 kr rfl #[.int .i64 x5_3] rfl am ?_;(with_reducible refine(stowageref13_utf8.calls x5_3 t159 _ A25.out).mono ?_);rintro e w26 ⟨rfl,hb⟩;refine⟨_,rfl,?_⟩;replace HB:=Aside0.mk (below_step bl hb)))
       go_ret2
       exact⟨ew,bl⟩
       }
       {
       replace c24:=Bool.eq_false_iff.mpr c24
       subst c24
       replace H:=itF H
       simp only [Option.some.injEq,Prod.mk.injEq] at H
       obtain⟨rfl,rfl⟩:=H
       go_wp2_with (first|((with_reducible refine gate_callee (f:=63) rfl ?_);refine goesL_ (some 58) rfl rfl Tryd.func63 kr rfl #[.int .i64 x5_3] rfl am ?_;(with_reducible refine(stowageref3_Char.calls x5_3 false _ A23.out).mono ?_);rintro e w' ⟨rfl,⟨nd,rfl⟩⟩;refine⟨_,rfl,?_⟩))
       go_ret2
       exact⟨ew,bl⟩
       }
       }
     }
 }
 }
 }
 }
 }
def stowageref13_Unescape.l0:Nat→ByteArray→ByteArray→Int→Option (ByteArray×Bool)
  | 0,_,_,_=>none
  | k+1,x0,x4,x5=>if x5<(x0.size:Int) then(if 0≤x5 then(if(bt x0 x5)=13 then(if x4.size+1≤9223372036854775807 then(if(wrap64 (x5+1))<(x0.size:Int) then(if 0≤(wrap64 (x5+1)) then(if(bt x0 (wrap64 (x5+1)))=10 then(stowageref13_Unescape.l0 k x0 (x4++(⟨#[10]⟩ : ByteArray)) (wrap64 ((wrap64 (x5+1))+1))) else(stowageref13_Unescape.l0 k x0 (x4++(⟨#[10]⟩ : ByteArray)) (wrap64 (x5+1)))) else(none)) else(stowageref13_Unescape.l0 k x0 (x4++(⟨#[10]⟩ : ByteArray)) (wrap64 (x5+1)))) else(none)) else(if(bt x0 x5)=38 then(if 0≤(wrap64 (x5+1)) then(if(wrap64 (x5+1))≤(x0.size:Int) then((stowageref3_Cut.f k (x0.extract ((wrap64 (x5+1)):Int).toNat x0.size) 59).bind fun bt160=>((stowageref13_entity.f k bt160.1).bind fun bt163=>(if bt160.2.2=true then(if bt163.2=true then(if x4.size+bt163.1.size≤9223372036854775807 then(stowageref13_Unescape.l0 k x0 (x4++bt163.1) (wrap64 ((wrap64 ((wrap64 (x5+1))+(bt160.1.size:Int)))+1))) else(none)) else(some ((⟨#[]⟩ : ByteArray),false))) else(some ((⟨#[]⟩ : ByteArray),false))))) else(none)) else(none)) else(if x5≤(wrap64 (x5+1)) then(if(wrap64 (x5+1))≤(x0.size:Int) then(if x4.size+(x0.extract (x5:Int).toNat ((wrap64 (x5+1)):Int).toNat).size≤9223372036854775807 then(stowageref13_Unescape.l0 k x0 (x4++(x0.extract (x5:Int).toNat ((wrap64 (x5+1)):Int).toNat)) (wrap64 (x5+1))) else(none)) else(none)) else(none)))) else(none)) else(some (x4,true))
def stowageref13_Unescape.f (k:Nat) (a0:ByteArray):Option (ByteArray×Bool):=stowageref13_Unescape.l0 k a0 (⟨#[]⟩ : ByteArray) 0
theorem stowageref13_Unescape.mono_l:∀ k,(∀ y0 y1 y2,LeO (stowageref13_Unescape.l0 k y0 y1 y2) (stowageref13_Unescape.l0 (k+1) y0 y1 y2))
  | 0=>fun _ _ _ r h=>by simp [stowageref13_Unescape.l0] at h
  | k+1=>by
    have ih0:=stowageref13_Unescape.mono_l k
    · intro y0 y1 y2
      unfold stowageref13_Unescape.l0
      with_reducible repeat' first|exact ih0 _ _ _|exact stowageref13_entity.mono _ _|exact stowageref3_Cut.mono _ _ _|exact LeO.refl _|exact LeO.none _|refine LeO.ite ?_ ?_|refine LeO.bind ?_ (fun _=>?_)
theorem stowageref13_Unescape.mono:∀ a0 k,LeO (stowageref13_Unescape.f k a0) (stowageref13_Unescape.f (k+1) a0):=by
 intro a0 k
 have ih0:=stowageref13_Unescape.mono_l k
 unfold stowageref13_Unescape.f
 with_reducible repeat' first|exact ih0 _ _ _|exact stowageref13_entity.mono _ _|exact stowageref3_Cut.mono _ _ _|exact LeO.refl _|exact LeO.none _|refine LeO.ite ?_ ?_|refine LeO.bind ?_ (fun _=>?_)
theorem stowageref13_Unescape.calls (k:Nat) (a0:ByteArray) (r1:ByteArray) (r2:Bool) (w:World) (h:stowageref13_Unescape.f k a0=some (r1,r2)) :
    Calls Tryd.prog 16 #[.string a0] w fun e w'=>e = .returned (.tuple #[.string r1,.bool r2])∧Below w.heap.size w w':=by
 have HB:=Aside0.mk (Below.refl w.heap.size w)
 unfold stowageref13_Unescape.f at h
 have H:=h
 clear h
 have H':=Aside0.mk H
 clear H
 go_enter Tryd.func16,Tryd.ntmps16
 go_wp2
 go_loopg [4,5] k (fun kq v4 v5 w'=>∃ (x4_1:ByteArray) (x5_1:Int),v4 = .string x4_1∧v5 = .int .i64 x5_1∧Aside0 (stowageref13_Unescape.l0 kq a0 x4_1 x5_1=some (r1,r2))∧Aside0 (kq≤k)∧Aside0 (Below w.heap.size w w'))
 case atStart=>exact⟨((⟨#[]⟩ : ByteArray)),(0),rs,rs,H',⟨Nat.le_refl _⟩,⟨bl⟩⟩
 case round=>
  clear H'
  obtain⟨x4_1,x5_1,rfl,rfl,HA,HK1,HB⟩:=hrel
  cases gk with
  | zero=>exact absurd HA.out (by simp [stowageref13_Unescape.l0])
  | succ k1=>
   have H:=HA.out
   clear HA
   simp only [stowageref13_Unescape.l0] at H
   replace H:=itO H
   rcases H with⟨c2,H⟩|⟨c2,H⟩
   {
   have c2b0:decide (x5_1<(a0.size:Int))=true:=decide_eq_true c2
   clear c2
   replace H:=itO H
   rcases H with⟨c3,H⟩|⟨c3,H⟩
   {
   have c3b0:decide (0≤x5_1)=true:=decide_eq_true c3
   clear c3
   replace H:=itO H
   rcases H with⟨c5,H⟩|⟨c5,H⟩
   {
   have c5b0:((bt a0 x5_1) == 13)=true:=beq_iff_eq.mpr c5
   clear c5
   replace H:=itO H
   rcases H with⟨c6,H⟩|⟨c6,H⟩
   {
   have c6b0:=eq_true c6
   try have c6b2:=eq_false (Nat.not_lt.2 c6)
   try (have c6n:x4_1.size+1≤9223372036854775807:=by have h_:=c6;simp only [ByteArray.size_append,ByteArray.size_extract] at h_;exact h_)
   try have c6f:(9223372036854775807<x4_1.size+1)=False:=eq_false (by first|omega|(simp only [eq_iff_iff,iff_true] at *;omega))
   replace H:=itO H
   rcases H with⟨c7,H⟩|⟨c7,H⟩
   {
   have c7b0:decide ((wrap64 (x5_1+1))<(a0.size:Int))=true:=decide_eq_true c7
   clear c7
   obtain⟨ji8,hji8⟩ : ∃ j_:Int,(wrap64 (x5_1+1))=j_:=⟨_,rfl⟩
   first|rw [hji8] at H|simp only [hji8] at H
   (try rw [hji8] at c7b0)
   have hji8w:(IntKind.i64.wrap (x5_1+1))=ji8:=(i64_w _).trans hji8
   replace H:=itO H
   rcases H with⟨c9,H⟩|⟨c9,H⟩
   {
   have c9b0:decide (0≤(ji8))=true:=decide_eq_true c9
   clear c9
   replace H:=itO H
   rcases H with⟨c11,H⟩|⟨c11,H⟩
   {
   have c11b0:((bt a0 (ji8)) == 10)=true:=beq_iff_eq.mpr c11
   clear c11
   have H':=Aside0.mk H
   clear H
   have p4:0≤(x5_1:Int):=of_decide_eq_true asm
   have q4:x5_1<(a0.size:Int):=of_decide_eq_true asm
   have hx4:=bt_at a0 x5_1
   replace p4:=eq_true p4
   replace q4:=eq_true q4
   have p10:0≤((ji8):Int):=of_decide_eq_true asm
   have q10:(ji8)<(a0.size:Int):=of_decide_eq_true asm
   have hx10:=bt_at a0 (ji8)
   replace p10:=eq_true p10
   replace q10:=eq_true q10
   go_wp2
   go_roundg k1
   case measure=>have:=HK1.out;omega
   case rel=>exact⟨(x4_1++(⟨#[10]⟩ : ByteArray)),(wrap64 ((ji8)+1)),rs,(by first|rfl|(simp;done)|(simp only [← hji8] <;> (first|rfl|simp))|(simp [*];done)),H',⟨by have:=HK1.out;omega⟩,⟨bl⟩⟩
   }
   {
   have c11b0:((bt a0 (ji8)) == 10)=false:=beq_eq_false_iff_ne.mpr c11
   have H':=Aside0.mk H
   clear H
   have p4:0≤(x5_1:Int):=of_decide_eq_true asm
   have q4:x5_1<(a0.size:Int):=of_decide_eq_true asm
   have hx4:=bt_at a0 x5_1
   replace p4:=eq_true p4
   replace q4:=eq_true q4
   have p10:0≤((ji8):Int):=of_decide_eq_true asm
   have q10:(ji8)<(a0.size:Int):=of_decide_eq_true asm
   have hx10:=bt_at a0 (ji8)
   replace p10:=eq_true p10
   replace q10:=eq_true q10
   go_wp2
   go_roundg k1
   case measure=>have:=HK1.out;omega
   case rel=>exact⟨(x4_1++(⟨#[10]⟩ : ByteArray)),(ji8),rs,(by first|rfl|(simp;done)|(simp only [← hji8] <;> (first|rfl|simp))|(simp [*];done)),H',⟨by have:=HK1.out;omega⟩,⟨bl⟩⟩
   }
   }
   ·exact absurd H (by simp)
   }
   {
   have c7b0:decide ((wrap64 (x5_1+1))<(a0.size:Int))=false:=decide_eq_false c7
   clear c7
   have H':=Aside0.mk H
   clear H
   have p4:0≤(x5_1:Int):=of_decide_eq_true asm
   have q4:x5_1<(a0.size:Int):=of_decide_eq_true asm
   have hx4:=bt_at a0 x5_1
   replace p4:=eq_true p4
   replace q4:=eq_true q4
   go_wp2
   go_roundg k1
   case measure=>have:=HK1.out;omega
   case rel=>exact⟨(x4_1++(⟨#[10]⟩ : ByteArray)),(wrap64 (x5_1+1)),rs,rs,H',⟨by have:=HK1.out;omega⟩,⟨bl⟩⟩
   }
   }
   ·exact absurd H (by simp)
   }
   {
   have c5b0:((bt a0 x5_1) == 13)=false:=beq_eq_false_iff_ne.mpr c5
   replace H:=itO H
   rcases H with⟨c13,H⟩|⟨c13,H⟩
   {
   have c13b0:((bt a0 x5_1) == 38)=true:=beq_iff_eq.mpr c13
   clear c13
   obtain⟨ji14,hji14⟩ : ∃ j_:Int,(wrap64 (x5_1+1))=j_:=⟨_,rfl⟩
   first|rw [hji14] at H|simp only [hji14] at H
   have hji14w:(IntKind.i64.wrap (x5_1+1))=ji14:=(i64_w _).trans hji14
   replace H:=itO H
   rcases H with⟨c15,H⟩|⟨c15,H⟩
   {
   have c15b0:=eq_true c15
   clear c15
   replace H:=itO H
   rcases H with⟨c16,H⟩|⟨c16,H⟩
   {
   have c16b0:=eq_true c16
   clear c16
   replace H:=bndO H
   obtain⟨⟨t160,t161,t162⟩,A170,H⟩:=H
   dsimp only at H
   have A17:=Aside0.mk A170
   clear A170
   replace H:=bndO H
   obtain⟨⟨t163,t164⟩,A180,H⟩:=H
   dsimp only at H
   have A18:=Aside0.mk A180
   clear A180
   by_cases c19:t162=true
   {
   subst c19
   replace H:=itT H
   by_cases c20:t164=true
   {
   subst c20
   replace H:=itT H
   replace H:=itO H
   rcases H with⟨c21,H⟩|⟨c21,H⟩
   {
   have c21b0:=eq_true c21
   try have c21b2:=eq_false (Nat.not_lt.2 c21)
   try (have c21n:x4_1.size+t163.size≤9223372036854775807:=by have h_:=c21;simp only [ByteArray.size_append,ByteArray.size_extract] at h_;exact h_)
   try have c21f:(9223372036854775807<x4_1.size+t163.size)=False:=eq_false (by first|omega|(simp only [eq_iff_iff,iff_true] at *;omega))
   have H':=Aside0.mk H
   clear H
   have p4:0≤(x5_1:Int):=of_decide_eq_true asm
   have q4:x5_1<(a0.size:Int):=of_decide_eq_true asm
   have hx4:=bt_at a0 x5_1
   replace p4:=eq_true p4
   replace q4:=eq_true q4
   have p12:0≤(x5_1:Int):=of_decide_eq_true asm
   have q12:x5_1<(a0.size:Int):=of_decide_eq_true asm
   have hx12:=bt_at a0 x5_1
   replace p12:=eq_true p12
   replace q12:=eq_true q12
   go_wp2_with (first|((with_reducible refine gate_callee (f:=40) rfl ?_);refine goesL_ (some 55) rfl rfl Tryd.func40 kr rfl #[.string (a0.extract ((ji14):Int).toNat a0.size),.int .u8 59] rfl (by(try simp only [List.map_toArray,List.map_cons,List.map_nil]);first|done|(simp only [hji14];rfl)|rfl|(simp only [List.length_drop,List.length_take];rfl)) ?_;(with_reducible refine(stowageref3_Cut.calls k1 (a0.extract ((ji14):Int).toNat a0.size) 59 t160 t161 true _ A17.out).mono ?_);rintro e w' ⟨rfl,⟨nd,rfl⟩⟩;refine⟨_,rfl,?_⟩)|((with_reducible refine gate_callee (f:=41) rfl ?_);refine goesL_ (some 61) rfl rfl Tryd.func41 kr rfl #[.string t160] rfl am ?_;(with_reducible refine(stowageref13_entity.calls k1 t160 t163 true _ A18.out).mono ?_);rintro e w22 ⟨rfl,hb⟩;refine⟨_,rfl,?_⟩;replace HB:=Aside0.mk (below_step bl hb)))
   go_roundg k1
   case measure=>have:=HK1.out;omega
   case rel=>exact⟨(x4_1++t163),(wrap64 ((wrap64 ((ji14)+(t160.size:Int)))+1)),rs,(by first|rfl|(simp;done)|(simp only [← hji14] <;> (first|rfl|simp))|(simp [*];done)),H',⟨by have:=HK1.out;omega⟩,⟨bl⟩⟩
   }
   ·exact absurd H (by simp)
   }
   {
   replace c20:=Bool.eq_false_iff.mpr c20
   subst c20
   replace H:=itF H
   simp only [Option.some.injEq,Prod.mk.injEq] at H
   obtain⟨rfl,rfl⟩:=H
   have p4:0≤(x5_1:Int):=of_decide_eq_true asm
   have q4:x5_1<(a0.size:Int):=of_decide_eq_true asm
   have hx4:=bt_at a0 x5_1
   replace p4:=eq_true p4
   replace q4:=eq_true q4
   have p12:0≤(x5_1:Int):=of_decide_eq_true asm
   have q12:x5_1<(a0.size:Int):=of_decide_eq_true asm
   have hx12:=bt_at a0 x5_1
   replace p12:=eq_true p12
   replace q12:=eq_true q12
   go_wp2_with (first|((with_reducible refine gate_callee (f:=40) rfl ?_);refine goesL_ (some 55) rfl rfl Tryd.func40 kr rfl #[.string (a0.extract ((ji14):Int).toNat a0.size),.int .u8 59] rfl (by(try simp only [List.map_toArray,List.map_cons,List.map_nil]);first|done|(simp only [hji14];rfl)|rfl|(simp only [List.length_drop,List.length_take];rfl)) ?_;(with_reducible refine(stowageref3_Cut.calls k1 (a0.extract ((ji14):Int).toNat a0.size) 59 t160 t161 true _ A17.out).mono ?_);rintro e w' ⟨rfl,⟨nd,rfl⟩⟩;refine⟨_,rfl,?_⟩)|((with_reducible refine gate_callee (f:=41) rfl ?_);refine goesL_ (some 61) rfl rfl Tryd.func41 kr rfl #[.string t160] rfl am ?_;(with_reducible refine(stowageref13_entity.calls k1 t160 t163 false _ A18.out).mono ?_);rintro e w23 ⟨rfl,hb⟩;refine⟨_,rfl,?_⟩;replace HB:=Aside0.mk (below_step bl hb)))
   go_ret2
   exact⟨by first|rfl|(simp [errW_none,errW_some] <;> rfl)|(simp only [← hji14];first|rfl|(simp [errW_none,errW_some] <;> rfl))|(simp [*,errW_none,errW_some] <;> rfl),bl⟩
   }
   }
   {
   replace c19:=Bool.eq_false_iff.mpr c19
   subst c19
   replace H:=itF H
   simp only [Option.some.injEq,Prod.mk.injEq] at H
   obtain⟨rfl,rfl⟩:=H
   have p4:0≤(x5_1:Int):=of_decide_eq_true asm
   have q4:x5_1<(a0.size:Int):=of_decide_eq_true asm
   have hx4:=bt_at a0 x5_1
   replace p4:=eq_true p4
   replace q4:=eq_true q4
   have p12:0≤(x5_1:Int):=of_decide_eq_true asm
   have q12:x5_1<(a0.size:Int):=of_decide_eq_true asm
   have hx12:=bt_at a0 x5_1
   replace p12:=eq_true p12
   replace q12:=eq_true q12
   go_wp2_with (first|((with_reducible refine gate_callee (f:=40) rfl ?_);refine goesL_ (some 55) rfl rfl Tryd.func40 kr rfl #[.string (a0.extract ((ji14):Int).toNat a0.size),.int .u8 59] rfl (by(try simp only [List.map_toArray,List.map_cons,List.map_nil]);first|done|(simp only [hji14];rfl)|rfl|(simp only [List.length_drop,List.length_take];rfl)) ?_;(with_reducible refine(stowageref3_Cut.calls k1 (a0.extract ((ji14):Int).toNat a0.size) 59 t160 t161 false _ A17.out).mono ?_);rintro e w' ⟨rfl,⟨nd,rfl⟩⟩;refine⟨_,rfl,?_⟩)|((with_reducible refine gate_callee (f:=41) rfl ?_);refine goesL_ (some 61) rfl rfl Tryd.func41 kr rfl #[.string t160] rfl am ?_;(with_reducible refine(stowageref13_entity.calls k1 t160 t163 t164 _ A18.out).mono ?_);rintro e w24 ⟨rfl,hb⟩;refine⟨_,rfl,?_⟩;replace HB:=Aside0.mk (below_step bl hb)))
   go_ret2
   exact⟨by first|rfl|(simp [errW_none,errW_some] <;> rfl)|(simp only [← hji14];first|rfl|(simp [errW_none,errW_some] <;> rfl))|(simp [*,errW_none,errW_some] <;> rfl),bl⟩
   }
   }
   ·exact absurd H (by simp)
   }
   ·exact absurd H (by simp)
   }
   {
   have c13b0:((bt a0 x5_1) == 38)=false:=beq_eq_false_iff_ne.mpr c13
   have c25b0:=eq_true (of_decide_eq_true asm:0≤x5_1)
   replace H:=itO H
   rcases H with⟨c26,H⟩|⟨c26,H⟩
   {
   have c26b0:=eq_true c26
   replace H:=itO H
   rcases H with⟨c27,H⟩|⟨c27,H⟩
   {
   have c27b0:=eq_true c27
   replace H:=itO H
   rcases H with⟨c28,H⟩|⟨c28,H⟩
   {
   have c28b0:=eq_true c28
   try have c28b2:=eq_false (Nat.not_lt.2 c28)
   try (have c28n:x4_1.size+(min (((wrap64 (x5_1+1)):Int).toNat) a0.size-((x5_1:Int).toNat))≤9223372036854775807:=by have h_:=c28;simp only [ByteArray.size_append,ByteArray.size_extract] at h_;exact h_)
   try have c28f:(9223372036854775807<x4_1.size+(((wrap64 (x5_1+1)):Int).toNat-(x5_1:Int).toNat))=False:=eq_false (by first|omega|(simp only [eq_iff_iff,iff_true] at *;omega))
   have H':=Aside0.mk H
   clear H
   have p4:0≤(x5_1:Int):=of_decide_eq_true asm
   have q4:x5_1<(a0.size:Int):=of_decide_eq_true asm
   have hx4:=bt_at a0 x5_1
   replace p4:=eq_true p4
   replace q4:=eq_true q4
   have p12:0≤(x5_1:Int):=of_decide_eq_true asm
   have q12:x5_1<(a0.size:Int):=of_decide_eq_true asm
   have hx12:=bt_at a0 x5_1
   replace p12:=eq_true p12
   replace q12:=eq_true q12
   go_wp2
   go_roundg k1
   case measure=>have:=HK1.out;omega
   case rel=>exact⟨(x4_1++(a0.extract (x5_1:Int).toNat ((wrap64 (x5_1+1)):Int).toNat)),(wrap64 (x5_1+1)),rs,rs,H',⟨by have:=HK1.out;omega⟩,⟨bl⟩⟩
   }
   ·exact absurd H (by simp)
   }
   ·exact absurd H (by simp)
   }
   ·exact absurd H (by simp)
   }
   }
   }
   ·exact absurd H (by simp)
   }
   {
   have c2b0:decide (x5_1<(a0.size:Int))=false:=decide_eq_false c2
   clear c2
   simp only [Option.some.injEq,Prod.mk.injEq] at H
   obtain⟨rfl,rfl⟩:=H
   go_wp2
   go_ret2
   exact⟨ew,bl⟩
   }
def rel.at_:Nat→ByteArray→Int→Bool→Option (Nat×ByteArray×Int×Bool)
 | 0,_,_,_=>none
 | k+1,s,p,b=>(stowageref13_Reader_skip.f k s p b).bind fun a=>(stowageref13_Reader_eat.f a.2.1 a.2.2.1 a.2.2.2 (⟨#[47,62]⟩ : ByteArray)).bind fun x=>(if x.1=true then some (0,x.2.1,x.2.2.1,x.2.2.2) else((stowageref13_Reader_eat.f x.2.1 x.2.2.1 x.2.2.2 (⟨#[62]⟩ : ByteArray)).bind fun y=>(if y.1=true then some (1,y.2.1,y.2.2.1,y.2.2.2) else(if a.1=0 then some (2,y.2.1,y.2.2.1,y.2.2.2) else((stowageref13_Reader_attribute.f k y.2.1 y.2.2.1 y.2.2.2).bind fun t=>(if t.1=true then rel.at_ k t.2.1 t.2.2.1 t.2.2.2 else some (2,t.2.1,t.2.2.1,t.2.2.2)))))))
def rco.to:Nat→ByteArray→Int→Bool→Option (ByteArray×Int×Bool)
 | 0,_,_,_=>none
 | k+1,s,p,b=>(if p<(s.size:Int) then(if 0≤p then(if bt s p=60 then some (s,p,b) else rco.to k s (wrap64 (p+1)) b) else none) else some (s,p,b))
def rco.out (k:Nat) (nm tx:ByteArray) (kids:List S30) (s:ByteArray) (p:Int) (b:Bool):Option (S30×ByteArray×Int×Bool):=(if b=true then some (⟨nm,tx,kids⟩,s,p,true) else((stowageref13_Reader_eat.f s p b (⟨#[60,47]⟩ : ByteArray)).bind fun y=>(if y.1=true then((stowageref13_Reader_name.f k y.2.1 y.2.2.1 y.2.2.2).bind fun z=>(if z.1.toList=nm.toList then((stowageref13_Reader_skip.f k z.2.1 z.2.2.1 z.2.2.2).bind fun u=>(stowageref13_Reader_eat.f u.2.1 u.2.2.1 u.2.2.2 (⟨#[62]⟩ : ByteArray)).bind fun t=>some (⟨nm,tx,kids⟩,t.2.1,t.2.2.1,!t.1)) else some (⟨nm,tx,kids⟩,z.2.1,z.2.2.1,true))) else some (⟨nm,tx,kids⟩,y.2.1,y.2.2.1,true))))
def rco.is (s:ByteArray) (p:Int):Option Bool:=(if wrap64 (p+1)<(s.size:Int) then(if 0≤p then(if p<(s.size:Int) then(if bt s p=60 then(if 0≤wrap64 (p+1) then(if bt s (wrap64 (p+1))=47 then some false else some true) else none) else some false) else none) else none) else some false)
mutual
def rel.f:Nat→ByteArray→Int→Bool→Int→Option (S30×ByteArray×Int×Bool)
 | 0,_,_,_,_=>none
 | k+1,s,p,b,d=>(if d>16 then some ((⟨(⟨#[]⟩ : ByteArray),(⟨#[]⟩ : ByteArray),[]⟩ : S30),s,p,true) else((stowageref13_Reader_eat.f s p b (⟨#[60]⟩ : ByteArray)).bind fun e=>(if e.1=true then((stowageref13_Reader_name.f k e.2.1 e.2.2.1 e.2.2.2).bind fun n=>(if n.1.toList=([]:List UInt8) then some (⟨n.1,⟨#[]⟩,[]⟩,n.2.1,n.2.2.1,true) else((rel.at_ k n.2.1 n.2.2.1 n.2.2.2).bind fun a=>(if a.1=0 then some (⟨n.1,⟨#[]⟩,[]⟩,a.2.1,a.2.2.1,a.2.2.2) else(if a.1=1 then rco.f k n.1 a.2.1 a.2.2.1 a.2.2.2 d else some (⟨n.1,⟨#[]⟩,[]⟩,a.2.1,a.2.2.1,true)))))) else some ((⟨(⟨#[]⟩ : ByteArray),(⟨#[]⟩ : ByteArray),[]⟩ : S30),e.2.1,e.2.2.1,true))))
def rco.lp:Nat→ByteArray→Int→Bool→Int→List S30→Option (List S30×ByteArray×Int×Bool)
 | 0,_,_,_,_,_=>none
 | k+1,s,p,b,d,kids=>(if b=true then some (kids,s,p,b) else(if p<(s.size:Int) then(if 0≤p then((stowageref3_Begins.f (s.extract (p:Int).toNat s.size) (⟨#[60,47]⟩ : ByteArray)).bind fun x=>(if x=true then some (kids,s,p,b) else((rel.f k s p b (wrap64 (d+1))).bind fun e=>(if kids.length<2513169434916 then((stowageref13_Reader_skip.f k e.2.1 e.2.2.1 e.2.2.2).bind fun a=>rco.lp k a.2.1 a.2.2.1 a.2.2.2 d (kids ++ [e.1])) else none)))) else none) else some (kids,s,p,b)))
def rco.f:Nat→ByteArray→ByteArray→Int→Bool→Int→Option (S30×ByteArray×Int×Bool)
 | 0,_,_,_,_,_=>none
 | k+1,nm,s,p,b,d=>(stowageref13_Reader_skip.f k s p b).bind fun a=>(rco.is a.2.1 a.2.2.1).bind fun q=>(if q=true then((rco.lp k a.2.1 a.2.2.1 a.2.2.2 d []).bind fun r=>rco.out k nm ⟨#[]⟩ r.1 r.2.1 r.2.2.1 r.2.2.2) else((rco.to k a.2.1 a.2.2.1 a.2.2.2).bind fun r=>(if 0≤p then(if p≤r.2.1 then(if r.2.1≤(r.1.size:Int) then((stowageref13_Unescape.f k (r.1.extract (p:Int).toNat (r.2.1:Int).toNat)).bind fun t=>rco.out k nm t.1 [] r.1 r.2.1 (r.2.2 || !t.2)) else none) else none) else none)))
end
structure rel.In0 (w0 w W:World) (g c:Nat) (s:ByteArray) (p:Int) (bd:Bool):Prop where
 i:IsS61 w0 W g s p bd
 bel:Below w0.heap.size w0 W
 keep:KeepBut w W g none
 res:W.heap[c]? = some (.cells #[.string (⟨#[]⟩ : ByteArray),.string (⟨#[]⟩ : ByteArray),.slice none 0 0] 30 (0,0))
 gec:w.heap.size≤c
 gl:g<w.heap.size
 sz:w0.heap.size≤w.heap.size
structure rel.In (w0 w W:World) (g b c:Nat) (s:ByteArray) (p:Int) (bd:Bool) (nm tx:ByteArray) (v:Value) (kids:List S30):Prop where
 z:rel.In0 w0 w W g c s p bd
 blk:W.heap[b]? = some (.cells #[.string nm,.string tx,v] 30 (0,0))
 geb:w.heap.size≤b
 bc:b≠c
 row:Kd.R k30 30 W w.heap.size (fun k_=>k_≠b∧k_≠c∧k_≠g) v kids
section
variable {w0 w W W1:World} {g b c:Nat} {s s1:ByteArray} {p p1:Int} {bd bd1:Bool} {nm tx:ByteArray} {v:Value} {kids:List S30}
theorem rel.In0.grew (h:rel.In0 w0 w W g c s p bd):w.heap.size≤W.heap.size:=h.keep.1
theorem rel.In0.cg (h:rel.In0 w0 w W g c s p bd):c≠g:=by have:=h.gec;have:=h.gl;omega
theorem rel.In0.c0 (h:rel.In0 w0 w W g c s p bd):W.cell? ⟨g,0,none⟩=some (.string s):=(blk_cell h.i.1 0).trans rfl
theorem rel.In0.c1 (h:rel.In0 w0 w W g c s p bd):W.cell? ⟨g,1,none⟩=some (.int .i64 p):=(blk_cell h.i.1 1).trans rfl
theorem rel.In0.c2 (h:rel.In0 w0 w W g c s p bd):W.cell? ⟨g,2,none⟩=some (.bool bd):=(blk_cell h.i.1 2).trans rfl
theorem rel.In0.f0 (h:rel.In0 w0 w W g c s p bd):W.frozen? ⟨g,0,none⟩=false:=blk_frozen h.i.1 0
theorem rel.In0.f1 (h:rel.In0 w0 w W g c s p bd):W.frozen? ⟨g,1,none⟩=false:=blk_frozen h.i.1 1
theorem rel.In0.f2 (h:rel.In0 w0 w W g c s p bd):W.frozen? ⟨g,2,none⟩=false:=blk_frozen h.i.1 2
theorem rel.In0.all (h:rel.In0 w0 w W g c s p bd):W.cell? ⟨g,0,none⟩=some (.string s)∧W.cell? ⟨g,1,none⟩=some (.int .i64 p)∧W.cell? ⟨g,2,none⟩=some (.bool bd)∧W.frozen? ⟨g,0,none⟩=false∧W.frozen? ⟨g,1,none⟩=false∧W.frozen? ⟨g,2,none⟩=false∧W.cell? ⟨c,0,none⟩=some (.string (⟨#[]⟩ : ByteArray))∧W.cell? ⟨c,1,none⟩=some (.string (⟨#[]⟩ : ByteArray))∧W.cell? ⟨c,2,none⟩=some (.slice none 0 0)∧W.frozen? ⟨c,0,none⟩=false∧W.frozen? ⟨c,1,none⟩=false∧W.frozen? ⟨c,2,none⟩=false∧c≠g∧g≠c:=
 ⟨h.c0,h.c1,h.c2,h.f0,h.f1,h.f2,(blk_cell h.res 0).trans rfl,(blk_cell h.res 1).trans rfl,(blk_cell h.res 2).trans rfl,blk_frozen h.res 0,blk_frozen h.res 1,blk_frozen h.res 2,h.cg,h.cg.symm⟩
theorem rel.In0.drewN (h:rel.In0 w0 w W g c s p bd) (n:Nat):rel.In0 w0 w (W.drewN n) g c s p bd:=⟨h.i.drewN n,pw_below_drewN h.bel n,keep_drewN h.keep n,blk_drewN h.res n,h.gec,h.gl,h.sz⟩
theorem rel.In0.drew (h:rel.In0 w0 w W g c s p bd):rel.In0 w0 w W.drew g c s p bd:=⟨h.i.drew,below_drew h.bel,keep_drew h.keep,blk_drew h.res,h.gec,h.gl,h.sz⟩
theorem rel.In0.call (h:rel.In0 w0 w W g c s p bd) (hi:IsS61 w0 W1 g s1 p1 bd1) (hb:Below w0.heap.size w0 W1) (hk:KeepBut W W1 g none):rel.In0 w0 w W1 g c s1 p1 bd1:=⟨hi,hb,h.keep.trans hk (.inl rfl),hk.blk h.res h.cg (by simp),h.gec,h.gl,h.sz⟩
theorem rel.In0.below (h:rel.In0 w0 w W g c s p bd) (hb:Below W.heap.size W W1):rel.In0 w0 w W1 g c s p bd:=⟨h.i.below hb,below_step h.bel hb,h.keep.trans (Go.Proofs.YtklcgncaclggcaaDoorW.PrintWords.KeepBut.of_below hb g none) (.inl rfl),blk_below h.res hb,h.gec,h.gl,h.sz⟩
theorem rel.In0.far (h:rel.In0 w0 w W g c s p bd) {q:Nat} (hq:w.heap.size≤q) (hc:c≠q) (j:Nat) (u:Value):rel.In0 w0 w (W.setCell ⟨q,j,none⟩ u) g c s p bd:=
 ⟨h.i.far (p:=⟨q,j,none⟩) (by have:=h.gl;show g≠q;omega) u,below_set h.bel (Nat.le_trans h.sz hq),keep_far h.keep (p:=⟨q,j,none⟩) hq u,blk_far h.res (p:=⟨q,j,none⟩) hc u,h.gec,h.gl,h.sz⟩
theorem rel.In0.setB (h:rel.In0 w0 w W g c s p bd) (x:Bool):rel.In0 w0 w (W.setCell ⟨g,2,none⟩ (.bool x)) g c s p x:=⟨h.i.set_2 x,below_set h.bel h.i.2,h.keep.set_ 2 _,blk_far h.res (p:=⟨g,2,none⟩) h.cg _,h.gec,h.gl,h.sz⟩
theorem rel.In0.setA (h:rel.In0 w0 w W g c s p bd) (x:Int):rel.In0 w0 w (W.setCell ⟨g,1,none⟩ (.int .i64 x)) g c s x bd:=⟨h.i.set_1 x,below_set h.bel h.i.2,h.keep.set_ 1 _,blk_far h.res (p:=⟨g,1,none⟩) h.cg _,h.gec,h.gl,h.sz⟩
theorem rel.In0.grown (h:rel.In0 w0 w W g c s p bd) {r:Option Nat} (hg:W.grownBy W1 r) (hr:∀ k,r=some k→w.heap.size≤k∧k≠c):rel.In0 w0 w W1 g c s p bd:=by
 have hgl:=h.gl
 have hsz:=h.sz
 have hk1:=h.keep.1
 have h1:some g≠r:=fun he=>by have:=(hr g he.symm).1;omega
 have h2:some c≠r:=fun he=>(hr c he.symm).2 rfl
 have hb:Below w0.heap.size w0 W1:=h.bel.trans ⟨hg.os,hg.tape,hg.output,hg.size,fun k hk=>hg.block k (by omega) (fun he=>by have:=(hr k he.symm).1;omega)⟩
 have h3:KeepBut w W1 g none:=by
  refine⟨Nat.le_trans h.keep.1 hg.size,fun i hi hig _=>?_⟩
  refine(hg.block i (Nat.lt_of_lt_of_le hi h.keep.1) (fun he=>?_)).trans (h.keep.2 i hi hig (by simp))
  have:=(hr i he.symm).1
  omega
 exact⟨h.i.grown hg h1,hb,h3,(hg.block c (blk_lt h.res) h2).trans h.res,h.gec,h.gl,h.sz⟩
theorem rel.In0.fin (h:rel.In0 w0 w W g c s p bd) (hR:Kd.R k30 30 W w.heap.size (fun k_=>k_≠c) v kids) :
  (((W.setCell ⟨c,0,none⟩ (.string nm)).setCell ⟨c,1,none⟩ (.string tx)).setCell ⟨c,2,none⟩ v).heap[c]? = some (.cells #[.string nm,.string tx,v] 30 (0,0)) ∧
  Kd.R k30 30 (((W.setCell ⟨c,0,none⟩ (.string nm)).setCell ⟨c,1,none⟩ (.string tx)).setCell ⟨c,2,none⟩ v) w.heap.size (fun _=>True) v kids ∧
  IsS61 w0 (((W.setCell ⟨c,0,none⟩ (.string nm)).setCell ⟨c,1,none⟩ (.string tx)).setCell ⟨c,2,none⟩ v) g s p bd ∧
  Below w0.heap.size w0 (((W.setCell ⟨c,0,none⟩ (.string nm)).setCell ⟨c,1,none⟩ (.string tx)).setCell ⟨c,2,none⟩ v) ∧
  KeepBut w (((W.setCell ⟨c,0,none⟩ (.string nm)).setCell ⟨c,1,none⟩ (.string tx)).setCell ⟨c,2,none⟩ v) g none:=by
 have hs:=Nat.le_trans h.sz h.gec
 exact⟨blk_put (blk_put (blk_put h.res 0 (.string nm) (cs':=#[.string nm,.string (⟨#[]⟩ : ByteArray),.slice none 0 0]) rfl) 1 (.string tx) (cs':=#[.string nm,.string tx,.slice none 0 0]) rfl) 2 v rfl,
  Kd.R_mono (Kd.R_far (p:=⟨c,2,none⟩) (Kd.R_far (p:=⟨c,1,none⟩) (Kd.R_far (p:=⟨c,0,none⟩) hR (fun _ hk=>hk) _) (fun _ hk=>hk) _) (fun _ hk=>hk) _) (fun _ _=>trivial),
  ((h.i.far (p:=⟨c,0,none⟩) h.cg.symm _).far (p:=⟨c,1,none⟩) h.cg.symm _).far (p:=⟨c,2,none⟩) h.cg.symm _,
  below_set (below_set (below_set h.bel hs) hs) hs,
  keep_far (keep_far (keep_far h.keep (p:=⟨c,0,none⟩) h.gec _) (p:=⟨c,1,none⟩) h.gec _) (p:=⟨c,2,none⟩) h.gec _⟩
theorem rel.In.bg (h:rel.In w0 w W g b c s p bd nm tx v kids):b≠g:=by have:=h.geb;have:=h.z.gl;omega
theorem rel.In.d0 (h:rel.In w0 w W g b c s p bd nm tx v kids):W.cell? ⟨b,0,none⟩=some (.string nm):=(blk_cell h.blk 0).trans rfl
theorem rel.In.d1 (h:rel.In w0 w W g b c s p bd nm tx v kids):W.cell? ⟨b,1,none⟩=some (.string tx):=(blk_cell h.blk 1).trans rfl
theorem rel.In.d2 (h:rel.In w0 w W g b c s p bd nm tx v kids):W.cell? ⟨b,2,none⟩=some v:=(blk_cell h.blk 2).trans rfl
theorem rel.In.all (h:rel.In w0 w W g b c s p bd nm tx v kids):W.cell? ⟨b,0,none⟩=some (.string nm)∧W.cell? ⟨b,1,none⟩=some (.string tx)∧W.cell? ⟨b,2,none⟩=some v∧W.frozen? ⟨b,0,none⟩=false∧W.frozen? ⟨b,1,none⟩=false∧W.frozen? ⟨b,2,none⟩=false∧b≠g∧g≠b∧b≠c∧c≠b:=
 ⟨h.d0,h.d1,h.d2,blk_frozen h.blk 0,blk_frozen h.blk 1,blk_frozen h.blk 2,h.bg,h.bg.symm,h.bc,h.bc.symm⟩
theorem rel.In.drewN (h:rel.In w0 w W g b c s p bd nm tx v kids) (n:Nat):rel.In w0 w (W.drewN n) g b c s p bd nm tx v kids:=⟨h.z.drewN n,blk_drewN h.blk n,h.geb,h.bc,Kd.R_drewN h.row n⟩
theorem rel.In.drew (h:rel.In w0 w W g b c s p bd nm tx v kids):rel.In w0 w W.drew g b c s p bd nm tx v kids:=⟨h.z.drew,blk_drew h.blk,h.geb,h.bc,Kd.R_drew h.row⟩
theorem rel.In.call (h:rel.In w0 w W g b c s p bd nm tx v kids) (hi:IsS61 w0 W1 g s1 p1 bd1) (hb:Below w0.heap.size w0 W1) (hk:KeepBut W W1 g none):rel.In w0 w W1 g b c s1 p1 bd1 nm tx v kids:=⟨h.z.call hi hb hk,hk.blk h.blk h.bg (by simp),h.geb,h.bc,Kd.R_keep h.row hk (fun _ hk_=>hk_.2.2)⟩
theorem rel.In.below (h:rel.In w0 w W g b c s p bd nm tx v kids) (hb:Below W.heap.size W W1):rel.In w0 w W1 g b c s p bd nm tx v kids:=⟨h.z.below hb,blk_below h.blk hb,h.geb,h.bc,Kd.R_below h.row hb⟩
theorem rel.In.setB (h:rel.In w0 w W g b c s p bd nm tx v kids) (x:Bool):rel.In w0 w (W.setCell ⟨g,2,none⟩ (.bool x)) g b c s p x nm tx v kids:=⟨h.z.setB x,blk_far h.blk (p:=⟨g,2,none⟩) h.bg _,h.geb,h.bc,Kd.R_far (p:=⟨g,2,none⟩) h.row (fun _ hk_=>hk_.2.2) _⟩
theorem rel.In.setA (h:rel.In w0 w W g b c s p bd nm tx v kids) (x:Int):rel.In w0 w (W.setCell ⟨g,1,none⟩ (.int .i64 x)) g b c s x bd nm tx v kids:=⟨h.z.setA x,blk_far h.blk (p:=⟨g,1,none⟩) h.bg _,h.geb,h.bc,Kd.R_far (p:=⟨g,1,none⟩) h.row (fun _ hk_=>hk_.2.2) _⟩
theorem rel.In.put (h:rel.In w0 w W g b c s p bd nm tx v kids) (j:Nat) (u:Value) {nm1 tx1:ByteArray} (he:(#[.string nm,.string tx,v]:Array Value).setIfInBounds j u=#[.string nm1,.string tx1,v]):rel.In w0 w (W.setCell ⟨b,j,none⟩ u) g b c s p bd nm1 tx1 v kids:=
 ⟨h.z.far h.geb h.bc.symm j u,blk_put h.blk j u he,h.geb,h.bc,Kd.R_far (p:=⟨b,j,none⟩) h.row (fun _ hk_=>hk_.1) _⟩
theorem rel.In0.start (h:rel.In0 w0 w W g c s p bd) (hb:Below W.heap.size W W1) (hbox:W1.heap[b]? = some (.cells #[.string nm,.string tx,.slice none 0 0] 30 (0,0))) (hg:b=W.heap.size):rel.In w0 w W1 g b c s p bd nm tx (.slice none 0 0) []:=
 ⟨h.below hb,hbox,by rw [hg];exact h.grew,by have:=blk_lt h.res;omega,Kd.R_nil _ _ _ _ _⟩
theorem rel.begin (hI:IsS61 w0 w g s p bd) (hB:Below w0.heap.size w0 w) (hb:Below w.heap.size w W1) (hbox:W1.heap[c]? = some (.cells #[.string (⟨#[]⟩ : ByteArray),.string (⟨#[]⟩ : ByteArray),.slice none 0 0] 30 (0,0))) (hg:c=w.heap.size):rel.In0 w0 w W1 g c s p bd:=
 ⟨hI.below hb,below_step hB hb,Go.Proofs.YtklcgncaclggcaaDoorW.PrintWords.KeepBut.of_below hb g none,hbox,Nat.le_of_eq hg.symm,hI.lt,hB.size⟩
theorem rel.In.own (h:rel.In w0 w W g b c s p bd nm tx v kids):Kd.R k30 30 W w.heap.size (fun k_=>k_≠c) v kids:=Kd.R_mono h.row (fun _ hk=>hk.2.1)
theorem rel.In.alloc (h:rel.In w0 w W g b c s p bd nm tx v kids) (o:Obj):rel.In w0 w (W.alloc o) g b c s p bd nm tx v kids:=h.below (below_alloc (Below.refl _ _) o)
theorem rel.In.blk1 (h:rel.In w0 w W g b c s p bd nm tx v kids) (hg:W.grownBy W1 v.ownBlock):W1.heap[b]? = some (.cells #[.string nm,.string tx,v] 30 (0,0)):=(hg.block b (blk_lt h.blk) (fun e=>(h.row.1 b e.symm).1 rfl)).trans h.blk
theorem rel.In.kid {u:Value} {xs:List S30} (h:rel.In w0 w W g b c s p bd nm tx v kids) (hR:Kd.R k30 30 W1 W.heap.size (fun _=>True) u xs):Kd.R k30 30 W1 w.heap.size (fun k_=>(k_≠b∧k_≠c∧k_≠g)∧some k_≠v.ownBlock) u xs:=
 Kd.R_lower (Kd.R_mono (Kd.R_bound hR) (fun k hk=>by
  have h1:=hk.2.1
  have h2:=blk_lt h.blk
  have h3:=blk_lt h.z.res
  have h4:=h.z.i.lt
  exact⟨⟨by omega,by omega,by omega⟩,fun e=>by have:=Kd.R_lt h.row k e.symm;omega⟩)) h.z.grew
theorem rel.In.append {v1:Value} {ys:List S30} (h:rel.In w0 w W g b c s p bd nm tx v kids) (hR:Kd.R k30 30 W1 w.heap.size (fun k_=>k_≠b∧k_≠c∧k_≠g) v1 ys) (hg:W.grownBy W1 v.ownBlock):rel.In w0 w (W1.setCell ⟨b,2,none⟩ v1) g b c s p bd nm tx v1 ys:=
 ⟨(h.z.grown hg (fun k hk=>⟨Kd.R_base h.row k hk,(h.row.1 k hk).2.1⟩)).far h.geb h.bc.symm 2 v1,blk_put (h.blk1 hg) 2 v1 rfl,h.geb,h.bc,Kd.R_far (p:=⟨b,2,none⟩) hR (fun _ hk=>hk.1) _⟩
theorem rco.begin {W4:World} (hI:IsS61 w0 w g s p bd) (hB:Below w0.heap.size w0 w) (hb4:Below w.heap.size w W4) (hx4:W4.heap[b]? = some (.cells #[.string nm,.string (⟨#[]⟩ : ByteArray),.slice none 0 0] 30 (0,0))) (hg4:b=w.heap.size) (hb5:Below W4.heap.size W4 W1) (hx5:W1.heap[c]? = some (.cells #[.string (⟨#[]⟩ : ByteArray),.string (⟨#[]⟩ : ByteArray),.slice none 0 0] 30 (0,0))) (hg5:c=W4.heap.size):rel.In w0 w W1 g b c s p bd nm (⟨#[]⟩ : ByteArray) (.slice none 0 0) []:=
 ⟨⟨(hI.below hb4).below hb5,below_step (below_step hB hb4) hb5,(Go.Proofs.YtklcgncaclggcaaDoorW.PrintWords.KeepBut.of_below hb4 g none).trans (Go.Proofs.YtklcgncaclggcaaDoorW.PrintWords.KeepBut.of_below hb5 g none) (.inl rfl),hx5,by rw [hg5];exact hb4.size,hI.lt,hB.size⟩,blk_below hx4 hb5,Nat.le_of_eq hg4.symm,by have:=blk_lt hx4;omega,Kd.R_nil _ _ _ _ _⟩
theorem rel.eat_bad {s:ByteArray} {p:Int} {b:Bool} {l:ByteArray} {r:Bool×ByteArray×Int×Bool} (h:stowageref13_Reader_eat.f s p b l=some r):r.2.2.2=b:=by
 unfold stowageref13_Reader_eat.f at h
 rcases itO h with⟨_,h⟩|⟨_,h⟩
 case inr=>cases h
 rcases itO h with⟨_,h⟩|⟨_,h⟩
 case inr=>cases h
 obtain⟨t,_,h⟩:=bndO h
 rcases itO h with⟨_,h⟩|⟨_,h⟩ <;> (cases h;rfl)
theorem rel.name_l0:∀ (k:Nat) (x:Int) (s:ByteArray) (p:Int) (b:Bool) (r:ByteArray×ByteArray×Int×Bool),stowageref13_Reader_name.l0 k x s p b=some r→r.2.2.2=b
 | 0,_,_,_,_,_,h=>by simp [stowageref13_Reader_name.l0] at h
 | k+1,x,s,p,b,r,h=>by
  simp only [stowageref13_Reader_name.l0] at h
  have fin:(if 0≤x then(if x≤p then(if p≤(s.size:Int) then(some (s.extract (x:Int).toNat (p:Int).toNat,s,p,b)) else none) else none) else none)=some r→r.2.2.2=b:=by
   intro h
   rcases itO h with⟨_,h⟩|⟨_,h⟩
   case inr=>cases h
   rcases itO h with⟨_,h⟩|⟨_,h⟩
   case inr=>cases h
   rcases itO h with⟨_,h⟩|⟨_,h⟩
   case inr=>cases h
   cases h;rfl
  rcases itO h with⟨_,h⟩|⟨_,h⟩
  ·rcases itO h with⟨_,h⟩|⟨_,h⟩
   case inr=>cases h
   obtain⟨t,_,h⟩:=bndO h
   rcases itO h with⟨_,h⟩|⟨_,h⟩
   ·exact rel.name_l0 k x s _ b r h
   ·exact fin h
  ·exact fin h
theorem rel.name_bad {k:Nat} {s:ByteArray} {p:Int} {b:Bool} {r:ByteArray×ByteArray×Int×Bool} (h:stowageref13_Reader_name.f k s p b=some r):r.2.2.2=b:=by
 have j:∀ (k:Nat) (x:Int) (q:Bool),stowageref13_Reader_name.j0 k x q s p b=some r→r.2.2.2=b:=by
  intro k x q h
  cases k with
  | zero=>simp [stowageref13_Reader_name.j0] at h
  | succ k=>
   simp only [stowageref13_Reader_name.j0] at h
   rcases itO h with⟨_,h⟩|⟨_,h⟩
   ·exact rel.name_l0 k x s p b r h
   ·rcases itO h with⟨_,h⟩|⟨_,h⟩
    case inr=>cases h
    rcases itO h with⟨_,h⟩|⟨_,h⟩
    case inr=>cases h
    rcases itO h with⟨_,h⟩|⟨_,h⟩
    case inr=>cases h
    cases h;rfl
 unfold stowageref13_Reader_name.f at h
 rcases itO h with⟨_,h⟩|⟨_,h⟩
 ·rcases itO h with⟨_,h⟩|⟨_,h⟩
  case inr=>cases h
  obtain⟨t,_,h⟩:=bndO h
  exact j _ _ _ h
 ·exact j _ _ _ h
theorem rel.nilR:Kd.R k30 30 W w.heap.size (fun k_=>k_≠c) (.slice none 0 0) []:=Kd.R_nil _ _ _ _ _
theorem rel.In0.got (h:rel.In0 w0 w W g c s p bd) (hR:Kd.R k30 30 W1 W.heap.size (fun _=>True) v kids):Kd.R k30 30 W1 w.heap.size (fun k_=>k_≠c) v kids:=
 Kd.R_lower (Kd.R_mono (Kd.R_newB hR h.res) (fun _ hk=>hk.2)) h.grew
end
theorem rel.c {P:Prop} (h:P:=by first|exact HV.out|exact(HV.out.drewN _)|exact((HV.out.drewN _).drewN _)|exact HV.out.drew|exact(HV.out.drew.drewN _)|exact(HV.out.drewN _).drew):P:=h
theorem rel.ci {P:Prop} (h:P:=by first|exact HV.out.i|exact(HV.out.drewN _).i|exact((HV.out.drewN _).drewN _).i|exact HV.out.drew.i|exact(HV.out.drew.drewN _).i|exact(HV.out.drewN _).drew.i):P:=h
theorem rel.cb {P:Prop} (h:P:=by first|exact HV.out.bel|exact(HV.out.drewN _).bel|exact((HV.out.drewN _).drewN _).bel|exact HV.out.drew.bel|exact(HV.out.drew.drewN _).bel|exact(HV.out.drewN _).drew.bel):P:=h
theorem rel.zi {P:Prop} (h:P:=by first|exact HV.out.z.i|exact(HV.out.drewN _).z.i|exact((HV.out.drewN _).drewN _).z.i|exact HV.out.drew.z.i|exact(HV.out.drew.drewN _).z.i|exact(HV.out.drewN _).drew.z.i):P:=h
theorem rel.zb {P:Prop} (h:P:=by first|exact HV.out.z.bel|exact(HV.out.drewN _).z.bel|exact((HV.out.drewN _).drewN _).z.bel|exact HV.out.drew.z.bel|exact(HV.out.drew.drewN _).z.bel|exact(HV.out.drewN _).drew.z.bel):P:=h
theorem rel.cs {P:Prop} (h:P:=by first|exact HV.out.setB _|exact(HV.out.drewN _).setB _|exact((HV.out.drewN _).drewN _).setB _|exact HV.out.drew.setB _|exact(HV.out.drew.drewN _).setB _|exact(HV.out.drewN _).drew.setB _):P:=h
theorem rel.ca {P:Prop} (h:P:=by first|exact HV.out.setA _|exact(HV.out.drewN _).setA _|exact((HV.out.drewN _).drewN _).setA _|exact HV.out.drew.setA _|exact(HV.out.drew.drewN _).setA _|exact(HV.out.drewN _).drew.setA _):P:=h
theorem rel.d2_ {P:Prop} (h:P:=by first|exact HV.out.d2|exact(HV.out.drewN _).d2|exact((HV.out.drewN _).drewN _).d2|exact HV.out.drew.d2|exact(HV.out.drew.drewN _).d2|exact(HV.out.drewN _).drew.d2):P:=h
theorem rel.p12 {P:Prop} (h:P:=by first|exact⟨HV.out.z.c2,HV.out.d0⟩|exact⟨(HV.out.drewN _).z.c2,(HV.out.drewN _).d0⟩|exact⟨((HV.out.drewN _).drewN _).z.c2,((HV.out.drewN _).drewN _).d0⟩|exact⟨HV.out.drew.z.c2,HV.out.drew.d0⟩|exact⟨(HV.out.drew.drewN _).z.c2,(HV.out.drew.drewN _).d0⟩|exact⟨(HV.out.drewN _).drew.z.c2,(HV.out.drewN _).drew.d0⟩):P:=h
theorem rel.p9 {P:Prop} (h:P:=by first|exact⟨HV.out.z.c0,HV.out.z.c1⟩|exact⟨(HV.out.drewN _).z.c0,(HV.out.drewN _).z.c1⟩|exact⟨((HV.out.drewN _).drewN _).z.c0,((HV.out.drewN _).drewN _).z.c1⟩|exact⟨HV.out.drew.z.c0,HV.out.drew.z.c1⟩|exact⟨(HV.out.drew.drewN _).z.c0,(HV.out.drew.drewN _).z.c1⟩|exact⟨(HV.out.drewN _).drew.z.c0,(HV.out.drewN _).drew.z.c1⟩):P:=h
abbrev rco.Does (m:Nat):Prop:=∀ (nm s:ByteArray) (p:Int) (bd:Bool) (d:Int) (r:S30×ByteArray×Int×Bool) (w0 w:World) (g:Nat),IsS61 w0 w g s p bd→Below w0.heap.size w0 w→rco.f m nm s p bd d=some r →
  Calls Tryd.prog 69 #[.pointer (some ⟨g,0,none⟩),.agg #[.string nm,.string (⟨#[]⟩ : ByteArray),.slice none 0 0],.int .i64 d] w fun e w'=>∃ v,e = .returned (.agg #[.string r.1.f0,.string r.1.f1,v])∧Kd.R k30 30 w' w.heap.size (fun _=>True) v r.1.f2∧IsS61 w0 w' g r.2.1 r.2.2.1 r.2.2.2∧Below w0.heap.size w0 w'∧KeepBut w w' g none
abbrev rel.Does (m:Nat):Prop:=∀ (s:ByteArray) (p:Int) (bd:Bool) (d:Int) (r:S30×ByteArray×Int×Bool) (w0 w:World) (g:Nat),IsS61 w0 w g s p bd→Below w0.heap.size w0 w→rel.f m s p bd d=some r →
  Calls Tryd.prog 34 #[.pointer (some ⟨g,0,none⟩),.int .i64 d] w fun e w'=>∃ v,e = .returned (.agg #[.string r.1.f0,.string r.1.f1,v])∧Kd.R k30 30 w' w.heap.size (fun _=>True) v r.1.f2∧IsS61 w0 w' g r.2.1 r.2.2.1 r.2.2.2∧Below w0.heap.size w0 w'∧KeepBut w w' g none
theorem rel.calls_ (k:Nat) (ih:∀ m,m<k→rco.Does m):rel.Does k:=by
 intro s p bd d r w0 w g hI0 hB0 h
 have hI:=Aside0.mk hI0
 have hB:=Aside0.mk hB0
 clear hI0 hB0
 cases k with
 | zero=>exact absurd h (by simp [rel.f])
 | succ k=>
 simp only [rel.f] at h
 have hu30:=Tryd.underlying30
 go_enter Tryd.func34,Tryd.ntmps34
 rcases itO h with⟨c1,h⟩|⟨c1,h⟩
 ·have t1:=eq_true c1
  have t2:=decide_eq_true c1
  clear c1
  obtain rfl:=Option.some.inj h
  go_wp2_with (first|((with_reducible refine gate_dst (N:=4) rfl ?_);(try (refine gate_guard (by rfl) ?_;dsimp only));refine box_event ?hg4 (N:=4) ?hd4 (cs:=#[.string (⟨#[]⟩ : ByteArray),.string (⟨#[]⟩ : ByteArray),.slice none 0 0]) (t:=30) ?hr4 ?_;(case hd4=>rfl);(case hg4=>rfl);(case hr4=>first|(go_simp;done)|(go_simp;rfl));intro c hgc w4 hbox hb;have HV:=Aside0.mk (rel.begin hI.out hB.out hb hbox hgc);clear hb hbox hgc;obtain⟨hc0,hc1,hc2,hf0,hf1,hf2,hr0,hr1,hr2,hs0,hs1,hs2,hcg,hgc⟩:=HV.out.all))
  try simp only [Exit.jump]
  have HZ:=rel.In0.fin (nm:=(⟨#[]⟩ : ByteArray)) (tx:=(⟨#[]⟩ : ByteArray)) (by first|exact(HV.out.setB true)|exact((HV.out.drewN _).setB true)|exact(((HV.out.drewN _).drewN _).setB true)|exact(HV.out.drew.setB true)|exact((HV.out.drew.drewN _).setB true)|exact((HV.out.drewN _).drew.setB true)) (rel.nilR)
  refine bodyPost_ret (results_cell_row rfl _ _ c 30 #[.string (⟨#[]⟩ : ByteArray),.string (⟨#[]⟩ : ByteArray),.slice none 0 0] (0,0) _ rfl HZ.1 Tryd.underlying30 rfl (by kernel_rfl)) rfl ?_
  exact⟨.slice none 0 0,rfl,HZ.2⟩
 have t1:=eq_false c1
 have t2:=decide_eq_false c1
 clear c1
 obtain⟨e_,hq_,h⟩:=bndO h
 obtain⟨e1,e2,e3,e4⟩:=e_
 have hE:=Aside0.mk hq_
 clear hq_
 dsimp only at h
 cases e1 with
 | false=>
  rw [if_neg Bool.false_ne_true] at h
  obtain rfl:=Option.some.inj h
  go_wp2_with (first|((with_reducible refine gate_dst (N:=4) rfl ?_);(try (refine gate_guard (by rfl) ?_;dsimp only));refine box_event ?hg4 (N:=4) ?hd4 (cs:=#[.string (⟨#[]⟩ : ByteArray),.string (⟨#[]⟩ : ByteArray),.slice none 0 0]) (t:=30) ?hr4 ?_;(case hd4=>rfl);(case hg4=>rfl);(case hr4=>first|(go_simp;done)|(go_simp;rfl));intro c hgc w4 hbox hb;have HV:=Aside0.mk (rel.begin hI.out hB.out hb hbox hgc);clear hb hbox hgc;obtain⟨hc0,hc1,hc2,hf0,hf1,hf2,hr0,hr1,hr2,hs0,hs1,hs2,hcg,hgc⟩:=HV.out.all)|(go_at_call 66;with_reducible refine(stowageref13_Reader_eat.calls g s p bd (⟨#[60]⟩ : ByteArray) false e2 e3 e4 w0 _ ?s1 ?s2 hE.out).mono ?_;(case s1=>exact rel.ci);(case s2=>exact rel.cb);rintro e_ w_ ⟨rfl,hi,hb,hk⟩;replace HV:=Aside0.mk (rel.In0.call rel.c hi hb hk);clear hi hb hk;obtain⟨hc0,hc1,hc2,hf0,hf1,hf2,hr0,hr1,hr2,hs0,hs1,hs2,hcg,hgc⟩:=HV.out.all))
  try simp only [Exit.jump]
  have HZ:=rel.In0.fin (nm:=(⟨#[]⟩ : ByteArray)) (tx:=(⟨#[]⟩ : ByteArray)) (by first|exact(HV.out.setB true)|exact((HV.out.drewN _).setB true)|exact(((HV.out.drewN _).drewN _).setB true)|exact(HV.out.drew.setB true)|exact((HV.out.drew.drewN _).setB true)|exact((HV.out.drewN _).drew.setB true)) (rel.nilR)
  refine bodyPost_ret (results_cell_row rfl _ _ c 30 #[.string (⟨#[]⟩ : ByteArray),.string (⟨#[]⟩ : ByteArray),.slice none 0 0] (0,0) _ rfl HZ.1 Tryd.underlying30 rfl (by kernel_rfl)) rfl ?_
  exact⟨.slice none 0 0,rfl,HZ.2⟩
 | true=>
  rw [if_pos rfl] at h
  obtain⟨n_,hq_,h⟩:=bndO h
  obtain⟨n1,n2,n3,n4⟩:=n_
  have hN:=Aside0.mk hq_
  clear hq_
  dsimp only at h
  go_upto_region 5 with(first|((with_reducible refine gate_dst (N:=4) rfl ?_);(try (refine gate_guard (by rfl) ?_;dsimp only));refine box_event ?hg4 (N:=4) ?hd4 (cs:=#[.string (⟨#[]⟩ : ByteArray),.string (⟨#[]⟩ : ByteArray),.slice none 0 0]) (t:=30) ?hr4 ?_;(case hd4=>rfl);(case hg4=>rfl);(case hr4=>first|(go_simp;done)|(go_simp;rfl));intro c hgc w4 hbox hb;have HV:=Aside0.mk (rel.begin hI.out hB.out hb hbox hgc);clear hb hbox hgc;obtain⟨hc0,hc1,hc2,hf0,hf1,hf2,hr0,hr1,hr2,hs0,hs1,hs2,hcg,hgc⟩:=HV.out.all)|(go_at_call 66;with_reducible refine(stowageref13_Reader_eat.calls g s p bd (⟨#[60]⟩ : ByteArray) true e2 e3 e4 w0 _ ?s1 ?s2 hE.out).mono ?_;(case s1=>exact rel.ci);(case s2=>exact rel.cb);rintro e_ w_ ⟨rfl,hi,hb,hk⟩;replace HV:=Aside0.mk (rel.In0.call rel.c hi hb hk);clear hi hb hk;obtain⟨hc0,hc1,hc2,hf0,hf1,hf2,hr0,hr1,hr2,hs0,hs1,hs2,hcg,hgc⟩:=HV.out.all)|(go_at_call 67;with_reducible refine(stowageref13_Reader_name.calls k g e2 e3 e4 n1 n2 n3 n4 w0 _ ?s1 ?s2 hN.out).mono ?_;(case s1=>exact rel.ci);(case s2=>exact rel.cb);rintro e_ w_ ⟨rfl,hi,hb,hk⟩;replace HV:=Aside0.mk (rel.In0.call rel.c hi hb hk);clear hi hb hk;obtain⟨hc0,hc1,hc2,hf0,hf1,hf2,hr0,hr1,hr2,hs0,hs1,hs2,hcg,hgc⟩:=HV.out.all)|((with_reducible refine gate_dst (N:=5) rfl ?_);(try (refine gate_guard (by rfl) ?_;dsimp only));refine box_event ?hg5 (N:=5) ?hd5 (cs:=#[.string (⟨#[]⟩ : ByteArray),.string (⟨#[]⟩ : ByteArray),.slice none 0 0]) (t:=30) ?hr5 ?_;(case hd5=>rfl);(case hg5=>rfl);(case hr5=>first|(go_simp;done)|(go_simp;rfl));intro b hgb w5 hbox hb;(first|replace HV:=Aside0.mk (rel.In0.start HV.out hb hbox hgb)|replace HV:=Aside0.mk (rel.In0.start (HV.out.drewN _) hb hbox hgb)|replace HV:=Aside0.mk (rel.In0.start ((HV.out.drewN _).drewN _) hb hbox hgb)|replace HV:=Aside0.mk (rel.In0.start HV.out.drew hb hbox hgb)|replace HV:=Aside0.mk (rel.In0.start (HV.out.drew.drewN _) hb hbox hgb)|replace HV:=Aside0.mk (rel.In0.start (HV.out.drewN _).drew hb hbox hgb));clear hb hbox hgb;obtain⟨hc0,hc1,hc2,hf0,hf1,hf2,hr0,hr1,hr2,hs0,hs1,hs2,hcg,hgc⟩:=HV.out.z.all;obtain⟨hd0,hd1,hd2,he0,he1,he2,hbg,hgb,hbc,hcb⟩:=HV.out.all))
  have HV2:=Aside0.mk (((HV.out.put 0 (.string n1) rfl).put 1 (.string (⟨#[]⟩ : ByteArray)) rfl).put 2 (.slice none 0 0) rfl)
  clear HV hc0 hc1 hc2 hf0 hf1 hf2 hr0 hr1 hr2 hs0 hs1 hs2 hcg hgc hd0 hd1 hd2 he0 he1 he2 hbg hgb hbc hcb
  generalize World.setCell _ _ _=W2 at HV2 ⊢
  have HV:=HV2
  clear HV2
  obtain⟨hc0,hc1,hc2,hf0,hf1,hf2,hr0,hr1,hr2,hs0,hs1,hs2,hcg,hgc⟩:=HV.out.z.all
  obtain⟨hd0,hd1,hd2,he0,he1,he2,hbg,hgb,hbc,hcb⟩:=HV.out.all
  rcases itO h with⟨c3,h⟩|⟨c3,h⟩
  ·have f1:(n1.toList == ([]:List UInt8))=true:=beq_iff_eq.mpr c3
   have f2:(n1.toList != ([]:List UInt8))=false:=bne_eq_false_iff_eq.mpr c3
   clear c3
   obtain rfl:=Option.some.inj h
   go_wp2_with (fail)
   try simp only [Exit.jump]
   have HZ:=rel.In0.fin (nm:=n1) (tx:=(⟨#[]⟩ : ByteArray)) (by first|exact(HV.out.setB true).z|exact((HV.out.drewN _).setB true).z|exact(((HV.out.drewN _).drewN _).setB true).z|exact(HV.out.drew.setB true).z|exact((HV.out.drew.drewN _).setB true).z|exact((HV.out.drewN _).drew.setB true).z) (rel.nilR)
   refine bodyPost_ret (results_cell_row rfl _ _ c 30 #[.string n1,.string (⟨#[]⟩ : ByteArray),.slice none 0 0] (0,0) _ rfl HZ.1 Tryd.underlying30 rfl (by kernel_rfl)) rfl ?_
   exact⟨.slice none 0 0,rfl,HZ.2⟩
  have f1:(n1.toList == ([]:List UInt8))=false:=beq_eq_false_iff_ne.mpr c3
  have f2:(n1.toList != ([]:List UInt8))=true:=bne_iff_ne.mpr c3
  clear c3
  obtain⟨a_,hq_,h⟩:=bndO h
  obtain⟨a1,a2,a3,a4⟩:=a_
  have hA:=Aside0.mk hq_
  clear hq_
  dsimp only at h
  have hH:=Aside0.mk h
  clear h
  go_wp2_with (fail)
  go_loopg [] k (fun kq w'=>∃ (s':ByteArray) (p':Int) (b':Bool),Aside0 (rel.at_ kq s' p' b'=some (a1,a2,a3,a4))∧Aside0 (kq≤k)∧Aside0 (rel.In w0 w w' g b c s' p' b' n1 (⟨#[]⟩ : ByteArray) (.slice none 0 0) []))
  case atStart=>exact⟨n2,n3,n4,hA,⟨Nat.le_refl _⟩,⟨rel.c⟩⟩
  case round=>
   clear hA HV
   obtain⟨s',p',b',HA,HK1,HV⟩:=hrel
   obtain⟨hc0,hc1,hc2,hf0,hf1,hf2,hr0,hr1,hr2,hs0,hs1,hs2,hcg,hgc⟩:=HV.out.z.all
   obtain⟨hd0,hd1,hd2,he0,he1,he2,hbg,hgb,hbc,hcb⟩:=HV.out.all
   cases gk with
   | zero=>exact absurd HA.out (by simp [rel.at_])
   | succ k1=>
    have H:=HA.out
    clear HA
    simp only [rel.at_] at H
    obtain⟨u_,hq_,H⟩:=bndO H
    obtain⟨u1,u2,u3,u4⟩:=u_
    have hU:=Aside0.mk hq_
    clear hq_
    dsimp only at H
    obtain⟨x_,hq_,H⟩:=bndO H
    obtain⟨x1,x2,x3,x4⟩:=x_
    have hX:=Aside0.mk hq_
    clear hq_
    dsimp only at H
    cases x1 with
    | true=>
     rw [if_pos rfl] at H
     simp only [Option.some.injEq,Prod.mk.injEq] at H
     obtain⟨rfl,rfl,rfl,rfl⟩:=H
     have h:=hH.out
     rw [if_pos rfl] at h
     obtain rfl:=Option.some.inj h
     go_wp2_with (first|(go_at_call 33;with_reducible refine(stowageref13_Reader_skip.calls k1 g s' p' b' u1 u2 u3 u4 w0 _ ?s1 ?s2 hU.out).mono ?_;(case s1=>exact rel.zi);(case s2=>exact rel.zb);rintro e_ w_ ⟨rfl,hi,hb,hk⟩;replace HV:=Aside0.mk (rel.In.call rel.c hi hb hk);clear hi hb hk;obtain⟨hc0,hc1,hc2,hf0,hf1,hf2,hr0,hr1,hr2,hs0,hs1,hs2,hcg,hgc⟩:=HV.out.z.all;obtain⟨hd0,hd1,hd2,he0,he1,he2,hbg,hgb,hbc,hcb⟩:=HV.out.all)|(go_at_call 66;with_reducible refine(stowageref13_Reader_eat.calls g u2 u3 u4 (⟨#[47,62]⟩ : ByteArray) true x2 x3 x4 w0 _ ?s1 ?s2 hX.out).mono ?_;(case s1=>exact rel.zi);(case s2=>exact rel.zb);rintro e_ w_ ⟨rfl,hi,hb,hk⟩;replace HV:=Aside0.mk (rel.In.call rel.c hi hb hk);clear hi hb hk;obtain⟨hc0,hc1,hc2,hf0,hf1,hf2,hr0,hr1,hr2,hs0,hs1,hs2,hcg,hgc⟩:=HV.out.z.all;obtain⟨hd0,hd1,hd2,he0,he1,he2,hbg,hgb,hbc,hcb⟩:=HV.out.all))
     try simp only [Exit.jump]
     have HZ:=rel.In0.fin (nm:=n1) (tx:=(⟨#[]⟩ : ByteArray)) (by first|exact HV.out.z|exact(HV.out.drewN _).z|exact((HV.out.drewN _).drewN _).z|exact HV.out.drew.z|exact(HV.out.drew.drewN _).z|exact(HV.out.drewN _).drew.z) (rel.nilR)
     refine bodyPost_ret (results_cell_row rfl _ _ c 30 #[.string n1,.string (⟨#[]⟩ : ByteArray),.slice none 0 0] (0,0) _ rfl HZ.1 Tryd.underlying30 rfl (by kernel_rfl)) rfl ?_
     exact⟨.slice none 0 0,rfl,HZ.2⟩
    | false=>
     rw [if_neg Bool.false_ne_true] at H
     obtain⟨y_,hq_,H⟩:=bndO H
     obtain⟨y1,y2,y3,y4⟩:=y_
     have hY:=Aside0.mk hq_
     clear hq_
     dsimp only at H
     cases y1 with
     | true=>
      rw [if_pos rfl] at H
      simp only [Option.some.injEq,Prod.mk.injEq] at H
      obtain⟨rfl,rfl,rfl,rfl⟩:=H
      have h:=hH.out
      rw [if_neg (by decide),if_pos rfl] at h
      obtain⟨⟨q0,q1,q2⟩,q3,q4,q5⟩:=r
      have hQ:=Aside0.mk h
      clear h hH
      go_wp2_with (first|(go_at_call 33;with_reducible refine(stowageref13_Reader_skip.calls k1 g s' p' b' u1 u2 u3 u4 w0 _ ?s1 ?s2 hU.out).mono ?_;(case s1=>exact rel.zi);(case s2=>exact rel.zb);rintro e_ w_ ⟨rfl,hi,hb,hk⟩;replace HV:=Aside0.mk (rel.In.call rel.c hi hb hk);clear hi hb hk;obtain⟨hc0,hc1,hc2,hf0,hf1,hf2,hr0,hr1,hr2,hs0,hs1,hs2,hcg,hgc⟩:=HV.out.z.all;obtain⟨hd0,hd1,hd2,he0,he1,he2,hbg,hgb,hbc,hcb⟩:=HV.out.all)|(go_at_call 66;with_reducible refine(stowageref13_Reader_eat.calls g u2 u3 u4 (⟨#[47,62]⟩ : ByteArray) false x2 x3 x4 w0 _ ?s1 ?s2 hX.out).mono ?_;(case s1=>exact rel.zi);(case s2=>exact rel.zb);rintro e_ w_ ⟨rfl,hi,hb,hk⟩;replace HV:=Aside0.mk (rel.In.call rel.c hi hb hk);clear hi hb hk;obtain⟨hc0,hc1,hc2,hf0,hf1,hf2,hr0,hr1,hr2,hs0,hs1,hs2,hcg,hgc⟩:=HV.out.z.all;obtain⟨hd0,hd1,hd2,he0,he1,he2,hbg,hgb,hbc,hcb⟩:=HV.out.all)|(go_at_call 66;with_reducible refine(stowageref13_Reader_eat.calls g x2 x3 x4 (⟨#[62]⟩ : ByteArray) true y2 y3 y4 w0 _ ?s1 ?s2 hY.out).mono ?_;(case s1=>exact rel.zi);(case s2=>exact rel.zb);rintro e_ w_ ⟨rfl,hi,hb,hk⟩;replace HV:=Aside0.mk (rel.In.call rel.c hi hb hk);clear hi hb hk;obtain⟨hc0,hc1,hc2,hf0,hf1,hf2,hr0,hr1,hr2,hs0,hs1,hs2,hcg,hgc⟩:=HV.out.z.all;obtain⟨hd0,hd1,hd2,he0,he1,he2,hbg,hgb,hbc,hcb⟩:=HV.out.all)|(go_at_call 69;with_reducible refine(ih k (Nat.lt_succ_self k) n1 y2 y3 y4 d _ w0 _ g ?s1 ?s2 hQ.out).mono ?_;(case s1=>exact rel.zi);(case s2=>exact rel.zb);rintro e_ w_ ⟨v,he_,hVV,hi,hb,hk⟩;dsimp only at he_ hVV hi;obtain⟨vA,vc,rfl⟩:=Kd.R_slice hVV;subst he_;(first|have HR:=Aside0.mk (rel.In0.got HV.out.z hVV)|have HR:=Aside0.mk (rel.In0.got (HV.out.drewN _).z hVV)|have HR:=Aside0.mk (rel.In0.got ((HV.out.drewN _).drewN _).z hVV)|have HR:=Aside0.mk (rel.In0.got HV.out.drew.z hVV)|have HR:=Aside0.mk (rel.In0.got (HV.out.drew.drewN _).z hVV)|have HR:=Aside0.mk (rel.In0.got (HV.out.drewN _).drew.z hVV));(first|replace HV:=Aside0.mk (rel.In.call HV.out hi hb hk)|replace HV:=Aside0.mk (rel.In.call (HV.out.drewN _) hi hb hk)|replace HV:=Aside0.mk (rel.In.call ((HV.out.drewN _).drewN _) hi hb hk)|replace HV:=Aside0.mk (rel.In.call HV.out.drew hi hb hk)|replace HV:=Aside0.mk (rel.In.call (HV.out.drew.drewN _) hi hb hk)|replace HV:=Aside0.mk (rel.In.call (HV.out.drewN _).drew hi hb hk));clear hi hb hk hVV;obtain⟨hc0,hc1,hc2,hf0,hf1,hf2,hr0,hr1,hr2,hs0,hs1,hs2,hcg,hgc⟩:=HV.out.z.all;obtain⟨hd0,hd1,hd2,he0,he1,he2,hbg,hgb,hbc,hcb⟩:=HV.out.all))
      try simp only [Exit.jump]
      have HZ:=rel.In0.fin (nm:=q0) (tx:=q1) (by first|exact HV.out.z|exact(HV.out.drewN _).z|exact((HV.out.drewN _).drewN _).z|exact HV.out.drew.z|exact(HV.out.drew.drewN _).z|exact(HV.out.drewN _).drew.z) (by first|exact HR.out|exact Kd.R_drewN HR.out _)
      refine bodyPost_ret (results_cell_row rfl _ _ c 30 #[.string q0,.string q1,.slice vA q2.length vc] (0,0) _ rfl HZ.1 Tryd.underlying30 rfl (by kernel_rfl)) rfl ?_
      exact⟨.slice vA q2.length vc,rfl,HZ.2⟩
     | false=>
      rw [if_neg Bool.false_ne_true] at H
      rcases itO H with⟨c4,H⟩|⟨c4,H⟩
      ·have f3:(u1 == (0:Int))=true:=beq_iff_eq.mpr c4
       have f4:(u1 != (0:Int))=false:=bne_eq_false_iff_eq.mpr c4
       have f5:=decide_eq_true c4
       have f6:=eq_true c4
       clear c4
       simp only [Option.some.injEq,Prod.mk.injEq] at H
       obtain⟨rfl,rfl,rfl,rfl⟩:=H
       have h:=hH.out
       rw [if_neg (by decide),if_neg (by decide)] at h
       obtain rfl:=Option.some.inj h
       go_wp2_with (first|(go_at_call 33;with_reducible refine(stowageref13_Reader_skip.calls k1 g s' p' b' u1 u2 u3 u4 w0 _ ?s1 ?s2 hU.out).mono ?_;(case s1=>exact rel.zi);(case s2=>exact rel.zb);rintro e_ w_ ⟨rfl,hi,hb,hk⟩;replace HV:=Aside0.mk (rel.In.call rel.c hi hb hk);clear hi hb hk;obtain⟨hc0,hc1,hc2,hf0,hf1,hf2,hr0,hr1,hr2,hs0,hs1,hs2,hcg,hgc⟩:=HV.out.z.all;obtain⟨hd0,hd1,hd2,he0,he1,he2,hbg,hgb,hbc,hcb⟩:=HV.out.all)|(go_at_call 66;with_reducible refine(stowageref13_Reader_eat.calls g u2 u3 u4 (⟨#[47,62]⟩ : ByteArray) false x2 x3 x4 w0 _ ?s1 ?s2 hX.out).mono ?_;(case s1=>exact rel.zi);(case s2=>exact rel.zb);rintro e_ w_ ⟨rfl,hi,hb,hk⟩;replace HV:=Aside0.mk (rel.In.call rel.c hi hb hk);clear hi hb hk;obtain⟨hc0,hc1,hc2,hf0,hf1,hf2,hr0,hr1,hr2,hs0,hs1,hs2,hcg,hgc⟩:=HV.out.z.all;obtain⟨hd0,hd1,hd2,he0,he1,he2,hbg,hgb,hbc,hcb⟩:=HV.out.all)|(go_at_call 66;with_reducible refine(stowageref13_Reader_eat.calls g x2 x3 x4 (⟨#[62]⟩ : ByteArray) false y2 y3 y4 w0 _ ?s1 ?s2 hY.out).mono ?_;(case s1=>exact rel.zi);(case s2=>exact rel.zb);rintro e_ w_ ⟨rfl,hi,hb,hk⟩;replace HV:=Aside0.mk (rel.In.call rel.c hi hb hk);clear hi hb hk;obtain⟨hc0,hc1,hc2,hf0,hf1,hf2,hr0,hr1,hr2,hs0,hs1,hs2,hcg,hgc⟩:=HV.out.z.all;obtain⟨hd0,hd1,hd2,he0,he1,he2,hbg,hgb,hbc,hcb⟩:=HV.out.all))
       try simp only [Exit.jump]
       have HZ:=rel.In0.fin (nm:=n1) (tx:=(⟨#[]⟩ : ByteArray)) (by first|exact(HV.out.setB true).z|exact((HV.out.drewN _).setB true).z|exact(((HV.out.drewN _).drewN _).setB true).z|exact(HV.out.drew.setB true).z|exact((HV.out.drew.drewN _).setB true).z|exact((HV.out.drewN _).drew.setB true).z) (rel.nilR)
       refine bodyPost_ret (results_cell_row rfl _ _ c 30 #[.string n1,.string (⟨#[]⟩ : ByteArray),.slice none 0 0] (0,0) _ rfl HZ.1 Tryd.underlying30 rfl (by kernel_rfl)) rfl ?_
       exact⟨.slice none 0 0,rfl,HZ.2⟩
      have f3:(u1 == (0:Int))=false:=beq_eq_false_iff_ne.mpr c4
      have f4:(u1 != (0:Int))=true:=bne_iff_ne.mpr c4
      have f5:=decide_eq_false c4
      have f6:=eq_false c4
      clear c4
      obtain⟨t_,hq_,H⟩:=bndO H
      obtain⟨m1,m2,m3,m4⟩:=t_
      have hT:=Aside0.mk hq_
      clear hq_
      dsimp only at H
      cases m1 with
      | false=>
       rw [if_neg Bool.false_ne_true] at H
       simp only [Option.some.injEq,Prod.mk.injEq] at H
       obtain⟨rfl,rfl,rfl,rfl⟩:=H
       have h:=hH.out
       rw [if_neg (by decide),if_neg (by decide)] at h
       obtain rfl:=Option.some.inj h
       go_wp2_with (first|(go_at_call 33;with_reducible refine(stowageref13_Reader_skip.calls k1 g s' p' b' u1 u2 u3 u4 w0 _ ?s1 ?s2 hU.out).mono ?_;(case s1=>exact rel.zi);(case s2=>exact rel.zb);rintro e_ w_ ⟨rfl,hi,hb,hk⟩;replace HV:=Aside0.mk (rel.In.call rel.c hi hb hk);clear hi hb hk;obtain⟨hc0,hc1,hc2,hf0,hf1,hf2,hr0,hr1,hr2,hs0,hs1,hs2,hcg,hgc⟩:=HV.out.z.all;obtain⟨hd0,hd1,hd2,he0,he1,he2,hbg,hgb,hbc,hcb⟩:=HV.out.all)|(go_at_call 66;with_reducible refine(stowageref13_Reader_eat.calls g u2 u3 u4 (⟨#[47,62]⟩ : ByteArray) false x2 x3 x4 w0 _ ?s1 ?s2 hX.out).mono ?_;(case s1=>exact rel.zi);(case s2=>exact rel.zb);rintro e_ w_ ⟨rfl,hi,hb,hk⟩;replace HV:=Aside0.mk (rel.In.call rel.c hi hb hk);clear hi hb hk;obtain⟨hc0,hc1,hc2,hf0,hf1,hf2,hr0,hr1,hr2,hs0,hs1,hs2,hcg,hgc⟩:=HV.out.z.all;obtain⟨hd0,hd1,hd2,he0,he1,he2,hbg,hgb,hbc,hcb⟩:=HV.out.all)|(go_at_call 66;with_reducible refine(stowageref13_Reader_eat.calls g x2 x3 x4 (⟨#[62]⟩ : ByteArray) false y2 y3 y4 w0 _ ?s1 ?s2 hY.out).mono ?_;(case s1=>exact rel.zi);(case s2=>exact rel.zb);rintro e_ w_ ⟨rfl,hi,hb,hk⟩;replace HV:=Aside0.mk (rel.In.call rel.c hi hb hk);clear hi hb hk;obtain⟨hc0,hc1,hc2,hf0,hf1,hf2,hr0,hr1,hr2,hs0,hs1,hs2,hcg,hgc⟩:=HV.out.z.all;obtain⟨hd0,hd1,hd2,he0,he1,he2,hbg,hgb,hbc,hcb⟩:=HV.out.all)|(go_at_call 68;with_reducible refine(stowageref13_Reader_attribute.calls k1 g y2 y3 y4 false m2 m3 m4 w0 _ ?s1 ?s2 hT.out).mono ?_;(case s1=>exact rel.zi);(case s2=>exact rel.zb);rintro e_ w_ ⟨rfl,hi,hb,hk⟩;replace HV:=Aside0.mk (rel.In.call rel.c hi hb hk);clear hi hb hk;obtain⟨hc0,hc1,hc2,hf0,hf1,hf2,hr0,hr1,hr2,hs0,hs1,hs2,hcg,hgc⟩:=HV.out.z.all;obtain⟨hd0,hd1,hd2,he0,he1,he2,hbg,hgb,hbc,hcb⟩:=HV.out.all))
       try simp only [Exit.jump]
       have HZ:=rel.In0.fin (nm:=n1) (tx:=(⟨#[]⟩ : ByteArray)) (by first|exact(HV.out.setB true).z|exact((HV.out.drewN _).setB true).z|exact(((HV.out.drewN _).drewN _).setB true).z|exact(HV.out.drew.setB true).z|exact((HV.out.drew.drewN _).setB true).z|exact((HV.out.drewN _).drew.setB true).z) (rel.nilR)
       refine bodyPost_ret (results_cell_row rfl _ _ c 30 #[.string n1,.string (⟨#[]⟩ : ByteArray),.slice none 0 0] (0,0) _ rfl HZ.1 Tryd.underlying30 rfl (by kernel_rfl)) rfl ?_
       exact⟨.slice none 0 0,rfl,HZ.2⟩
      | true=>
       rw [if_pos rfl] at H
       have H':=Aside0.mk H
       clear H
       go_wp2_with (first|(go_at_call 33;with_reducible refine(stowageref13_Reader_skip.calls k1 g s' p' b' u1 u2 u3 u4 w0 _ ?s1 ?s2 hU.out).mono ?_;(case s1=>exact rel.zi);(case s2=>exact rel.zb);rintro e_ w_ ⟨rfl,hi,hb,hk⟩;replace HV:=Aside0.mk (rel.In.call rel.c hi hb hk);clear hi hb hk;obtain⟨hc0,hc1,hc2,hf0,hf1,hf2,hr0,hr1,hr2,hs0,hs1,hs2,hcg,hgc⟩:=HV.out.z.all;obtain⟨hd0,hd1,hd2,he0,he1,he2,hbg,hgb,hbc,hcb⟩:=HV.out.all)|(go_at_call 66;with_reducible refine(stowageref13_Reader_eat.calls g u2 u3 u4 (⟨#[47,62]⟩ : ByteArray) false x2 x3 x4 w0 _ ?s1 ?s2 hX.out).mono ?_;(case s1=>exact rel.zi);(case s2=>exact rel.zb);rintro e_ w_ ⟨rfl,hi,hb,hk⟩;replace HV:=Aside0.mk (rel.In.call rel.c hi hb hk);clear hi hb hk;obtain⟨hc0,hc1,hc2,hf0,hf1,hf2,hr0,hr1,hr2,hs0,hs1,hs2,hcg,hgc⟩:=HV.out.z.all;obtain⟨hd0,hd1,hd2,he0,he1,he2,hbg,hgb,hbc,hcb⟩:=HV.out.all)|(go_at_call 66;with_reducible refine(stowageref13_Reader_eat.calls g x2 x3 x4 (⟨#[62]⟩ : ByteArray) false y2 y3 y4 w0 _ ?s1 ?s2 hY.out).mono ?_;(case s1=>exact rel.zi);(case s2=>exact rel.zb);rintro e_ w_ ⟨rfl,hi,hb,hk⟩;replace HV:=Aside0.mk (rel.In.call rel.c hi hb hk);clear hi hb hk;obtain⟨hc0,hc1,hc2,hf0,hf1,hf2,hr0,hr1,hr2,hs0,hs1,hs2,hcg,hgc⟩:=HV.out.z.all;obtain⟨hd0,hd1,hd2,he0,he1,he2,hbg,hgb,hbc,hcb⟩:=HV.out.all)|(go_at_call 68;with_reducible refine(stowageref13_Reader_attribute.calls k1 g y2 y3 y4 true m2 m3 m4 w0 _ ?s1 ?s2 hT.out).mono ?_;(case s1=>exact rel.zi);(case s2=>exact rel.zb);rintro e_ w_ ⟨rfl,hi,hb,hk⟩;replace HV:=Aside0.mk (rel.In.call rel.c hi hb hk);clear hi hb hk;obtain⟨hc0,hc1,hc2,hf0,hf1,hf2,hr0,hr1,hr2,hs0,hs1,hs2,hcg,hgc⟩:=HV.out.z.all;obtain⟨hd0,hd1,hd2,he0,he1,he2,hbg,hgb,hbc,hcb⟩:=HV.out.all))
       go_roundg k1
       case measure=>have:=HK1.out;omega
       case rel=>exact⟨m2,m3,m4,H',⟨by have:=HK1.out;omega⟩,⟨rel.c⟩⟩
end Go.Proofs.YtklcgncaclggcaaDoor.Q
