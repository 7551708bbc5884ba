/- A part of the proof of the seat's laws. No condition beyond those in the theorems. -/
import Derived.Test.YtklcgncaclggcaaDoorZBase
import Derived.WalkMore
import Derived.Test.YtklcgncaclggcaaDoorZQ51
import Derived.Test.YtklcgncaclggcaaDoorZQ16g7
import Derived.Test.YtklcgncaclggcaaDoorZQ0g15
import Derived.Test.YtklcgncaclggcaaDoorZQ31
import Derived.Test.YtklcgncaclggcaaDoorZQ45g6
import Derived.Test.YtklcgncaclggcaaDoorZQ52
import Derived.Test.YtklcgncaclggcaaDoorZSqzB
import Derived.Test.YtklcgncaclggcaaDoorZQ59g6
import Derived.Test.YtklcgncaclggcaaDoorZQ90g10
open Bool renaming true→T,false→F

namespace Go.Proofs.YtklcgncaclggcaaDoor.Q
open Go.RowKit Go.Proofs.YtklcgncaclggcaaDoorW.PrintWords Go.Proofs.YtklcgncaclggcaaDoorW.PrintLast Go.Proofs.YtklcgncaclggcaaDoorW.PrintMore
set_option linter.unusedVariables false
set_option linter.unusedSimpArgs false
set_option maxHeartbeats 8000000
set_option maxRecDepth 100000
attribute [local go_sem] max2_int min2_int max_two min_two max_three min_three max_four min_four   
def xml_Parse.f (k:Nat) (s:ByteArray):Option (ByteArray×ByteArray×List S24×Int):=(if(65536:Int)<(s.size:Int) then some (⟨#[]⟩,⟨#[]⟩,[],2) else((chars_Legal.f s).bind fun lg=>(if lg=true then((xml_reader_begin.f s 0).bind fun b=>(if b.1=true then((xml_reader_space.f k b.2.1 b.2.2).bind fun a=>(xml_el.f k a.2.1 a.2.2 1).bind fun e=>(xml_reader_space.f k e.2.2.1 e.2.2.2).bind fun z=>(if e.2.1=true then(if z.2.2=(s.size:Int) then some (e.1.f0,e.1.f1,e.1.f2,0) else some (⟨#[]⟩,⟨#[]⟩,[],130)) else some (⟨#[]⟩,⟨#[]⟩,[],130))) else some (⟨#[]⟩,⟨#[]⟩,[],130))) else some (⟨#[]⟩,⟨#[]⟩,[],130))))
theorem xml_el.at_mono:∀ k s p,LeO (xml_el.at_ k s p) (xml_el.at_ (k+1) s p)
 | 0=>fun _ _ r h=>by simp [xml_el.at_] at h
 | k+1=>by
  have ih:=xml_el.at_mono k
  intro s p
  unfold xml_el.at_
  with_reducible repeat' first|exact ih _ _|exact xml_reader_space.mono _ _ _|exact xml_reader_attribute.mono _ _ _|exact LeO.refl _|exact LeO.none _|refine LeO.ite ?_ ?_|refine LeO.bind ?_ (fun _=>?_)
theorem xml_el.out_mono:∀ nm tx kids s p k,LeO (xml_el.out k nm tx kids s p) (xml_el.out (k+1) nm tx kids s p):=by
 intro nm tx kids s p k
 unfold xml_el.out
 with_reducible repeat' first|exact xml_reader_space.mono _ _ _|exact xml_reader_name.mono _ _ _|exact LeO.refl _|exact LeO.none _|refine LeO.ite ?_ ?_|refine LeO.bind ?_ (fun _=>?_)
theorem xml_el.mono_l:∀ k,(∀ s p d,LeO (xml_el.f k s p d) (xml_el.f (k+1) s p d))∧(∀ s p d kids,LeO (xml_co.lp k s p d kids) (xml_co.lp (k+1) s p d kids))∧(∀ s p d,LeO (xml_co.f k s p d) (xml_co.f (k+1) s p d))
 | 0=>⟨fun _ _ _ r h=>by simp [xml_el.f] at h,fun _ _ _ _ r h=>by simp [xml_co.lp] at h,fun _ _ _ r h=>by simp [xml_co.f] at h⟩
 | k+1=>by
  obtain⟨ih0,ih1,ih2⟩:=xml_el.mono_l k
  refine⟨?_,?_,?_⟩
  ·intro s p d
   unfold xml_el.f
   with_reducible repeat' first|exact ih2 _ _ _|exact xml_el.at_mono _ _ _|exact xml_el.out_mono _ _ _ _ _ _|exact xml_Name.mono _ _|exact xml_reader_name.mono _ _ _|exact LeO.refl _|exact LeO.none _|refine LeO.ite ?_ ?_|refine LeO.bind ?_ (fun _=>?_)
  ·intro s p d kids
   unfold xml_co.lp
   with_reducible repeat' first|exact ih0 _ _ _|exact ih1 _ _ _ _|exact xml_reader_space.mono _ _ _|exact LeO.refl _|exact LeO.none _|refine LeO.ite ?_ ?_|refine LeO.bind ?_ (fun _=>?_)
  ·intro s p d
   unfold xml_co.f
   with_reducible repeat' first|exact ih1 _ _ _ _|exact xml_reader_space.mono _ _ _|exact xml_Unescape.mono _ _|exact LeO.refl _|exact LeO.none _|refine LeO.ite ?_ ?_|refine LeO.bind ?_ (fun _=>?_)
theorem xml_Parse.mono:∀ a0 k,LeO (xml_Parse.f k a0) (xml_Parse.f (k+1) a0):=by
 intro a0 k
 unfold xml_Parse.f
 with_reducible repeat' first|exact(xml_el.mono_l k).1 _ _ _|exact xml_reader_space.mono _ _ _|exact LeO.refl _|exact LeO.none _|refine LeO.ite ?_ ?_|refine LeO.bind ?_ (fun _=>?_)
def xml_pa.Inv (w W:World) (g b:Nat) (s:ByteArray) (p:Int):Prop:=IsS57 w W g s p∧Below w.heap.size w W∧W.heap[b]? = some (.cells #[.string (⟨#[]⟩ : ByteArray),.string (⟨#[]⟩ : ByteArray),.slice none 0 0] 24 (0,0))∧b≠g∧w.heap.size≤b
section
variable {w W W1:World} {g b:Nat} {s s1:ByteArray} {p p1:Int}
theorem xml_pa.Inv.i (h:xml_pa.Inv w W g b s p):IsS57 w W g s p:=h.1
theorem xml_pa.Inv.bel (h:xml_pa.Inv w W g b s p):Below w.heap.size w W:=h.2.1
theorem xml_pa.Inv.blk (h:xml_pa.Inv w W g b s p):W.heap[b]? = some (.cells #[.string (⟨#[]⟩ : ByteArray),.string (⟨#[]⟩ : ByteArray),.slice none 0 0] 24 (0,0)):=h.2.2.1
theorem xml_pa.Inv.ne (h:xml_pa.Inv w W g b s p):b≠g:=h.2.2.2.1
theorem xml_pa.Inv.ge (h:xml_pa.Inv w W g b s p):w.heap.size≤b:=h.2.2.2.2
theorem xml_pa.Inv.drewN (h:xml_pa.Inv w W g b s p) (n:Nat):xml_pa.Inv w (W.drewN n) g b s p:=⟨h.1.drewN n,pw_below_drewN h.2.1 n,blk_drewN h.2.2.1 n,h.2.2.2⟩
theorem xml_pa.Inv.drew (h:xml_pa.Inv w W g b s p):xml_pa.Inv w W.drew g b s p:=⟨h.1.drew,below_drew h.2.1,blk_drew h.2.2.1,h.2.2.2⟩
theorem xml_pa.Inv.call (h:xml_pa.Inv w W g b s p) (hi:IsS57 w W1 g s1 p1) (hb:Below w.heap.size w W1) (hk:KeepBut W W1 g none):xml_pa.Inv w W1 g b s1 p1:=⟨hi,hb,hk.blk h.2.2.1 h.2.2.2.1 (by simp),h.2.2.2⟩
theorem xml_pa.Inv.below (h:xml_pa.Inv w W g b s p) (hb:Below W.heap.size W W1):xml_pa.Inv w W1 g b s p:=⟨h.1.below hb,below_step h.2.1 hb,blk_below h.2.2.1 hb,h.2.2.2⟩
theorem xml_pa.Inv.far (h:xml_pa.Inv w W g b s p) {q:Nat} (hq:w.heap.size≤q) (hg:q≠g) (hb:q≠b) (j:Nat) (u:Value):xml_pa.Inv w (W.setCell ⟨q,j,none⟩ u) g b s p:=
 ⟨h.1.far (p:=⟨q,j,none⟩) (fun e=>hg e.symm) u,below_set h.2.1 hq,blk_far h.2.2.1 (p:=⟨q,j,none⟩) (fun e=>hb e.symm) u,h.2.2.2⟩
theorem xml_pa.start {w4 w5:World} (h1:Below w.heap.size w w4) (h2:w4.heap[b]? = some (.cells #[.string (⟨#[]⟩ : ByteArray),.string (⟨#[]⟩ : ByteArray),.slice none 0 0] 24 (0,0))) (h3:b=w.heap.size) (h4:Below w4.heap.size w4 w5) (h5:w5.heap[g]? = some (.cells #[.string s,.int .i64 0] 57 (0,0))) (h6:g=w4.heap.size):xml_pa.Inv w w5 g b s 0:=
 ⟨⟨h5,by rw [h6];exact h1.size⟩,below_step h1 h4,blk_below h2 h4,by have:=blk_lt h2;omega,Nat.le_of_eq h3.symm⟩
theorem xml_pa.el {n:Nat} {u:Value} {xs:List S24} (h:xml_pa.Inv w W g b s p) (hV:Kd.V k24 24 W1 n (fun k_=>W.heap.size≤k_) u xs):Kd.V k24 24 W1 n (fun k_=>w.heap.size≤k_∧k_≠g∧k_≠b) u xs:=
 Kd.V_mono hV (fun k_ (hk:W.heap.size≤k_)=>⟨Nat.le_trans h.2.1.size hk,by have:=h.1.lt;omega,by have:=blk_lt h.2.2.1;omega⟩)
theorem xml_pa.vkeep {n:Nat} {u:Value} {xs:List S24} (h:Kd.V k24 24 W n (fun k_=>w.heap.size≤k_∧k_≠g∧k_≠b) u xs) (hk:KeepBut W W1 g none):Kd.V k24 24 W1 n (fun k_=>w.heap.size≤k_∧k_≠g∧k_≠b) u xs:=Kd.V_keep h hk (fun k_ (h_:w.heap.size≤k_∧k_≠g∧k_≠b)=>h_.2.1)
theorem xml_pa.vput {n:Nat} {u:Value} {xs:List S24} (h:Kd.V k24 24 W n (fun k_=>w.heap.size≤k_∧k_≠g∧k_≠b) u xs) (x y z:Value):Kd.V k24 24 (((W.setCell ⟨b,0,none⟩ x).setCell ⟨b,1,none⟩ y).setCell ⟨b,2,none⟩ z) n (fun k_=>w.heap.size≤k_) u xs:=
 Kd.V_mono (Kd.V_far (p:=⟨b,2,none⟩) (Kd.V_far (p:=⟨b,1,none⟩) (Kd.V_far (p:=⟨b,0,none⟩) h (fun _ hk=>hk.2.2) x) (fun _ hk=>hk.2.2) y) (fun _ hk=>hk.2.2) z) (fun _ hk=>hk.1)
theorem xml_pa.ne5 {w4:World} {q:Nat} (h:xml_pa.Inv w W g b s p) (hq:q=W.heap.size):w.heap.size≤q∧q≠g∧q≠b:=⟨by rw [hq];exact h.2.1.size,by have:=h.1.lt;omega,by have:=blk_lt h.2.2.1;omega⟩
theorem xml_pa.ends {nm tx:ByteArray} {v:Value} {xs:List S24} (h:xml_pa.Inv w W g b s p) (hV:Kd.V k24 24 W w.heap.size (fun k_=>w.heap.size≤k_∧k_≠g∧k_≠b) v xs) :
  (((W.setCell ⟨b,0,none⟩ (.string nm)).setCell ⟨b,1,none⟩ (.string tx)).setCell ⟨b,2,none⟩ v).heap[b]? = some (.cells #[.string nm,.string tx,v] 24 (0,0))∧Kd.V k24 24 (((W.setCell ⟨b,0,none⟩ (.string nm)).setCell ⟨b,1,none⟩ (.string tx)).setCell ⟨b,2,none⟩ v) w.heap.size (fun k_=>w.heap.size≤k_) v xs∧Below w.heap.size w (((W.setCell ⟨b,0,none⟩ (.string nm)).setCell ⟨b,1,none⟩ (.string tx)).setCell ⟨b,2,none⟩ v):=
 ⟨blk_put (blk_put (blk_put h.2.2.1 0 (.string nm) (cs':=#[.string nm,.string (⟨#[]⟩ : ByteArray),.slice none 0 0]) rfl) 1 (.string tx) (cs':=#[.string nm,.string tx,.slice none 0 0]) rfl) 2 v rfl,xml_pa.vput hV _ _ _,below_set (below_set (below_set h.2.1 h.2.2.2.2) h.2.2.2.2) h.2.2.2.2⟩
end
theorem xml_Parse.calls (k:Nat) (a0:ByteArray) (r1 r2:ByteArray) (r3:List S24) (r4:Int) (w:World) (hG:GOk w) (h:xml_Parse.f k a0=some (r1,r2,r3,r4)) :
  Calls Tryd.prog 10 #[.string a0] w fun e w'=>∃ v0_:Value,e = .returned (.tuple #[.agg #[.string r1,.string r2,v0_],.int .i64 r4])∧Kd.V k24 24 w' w.heap.size (fun k_=>(w.heap.size≤k_)) v0_ r3∧Below w.heap.size w w':=by
 unfold xml_Parse.f at h
 have hu24:=Tryd.underlying24
 go_enter Tryd.func10,Tryd.ntmps10
 rcases itO h with⟨c1,h⟩|⟨c1,h⟩
 ·have t1:=eq_true c1
  have t2:=decide_eq_true c1
  have t3:decide (65536<a0.size)=true:=decide_eq_true (by omega)
  have t4:(65536<a0.size)=True:=eq_true (by omega)
  clear c1
  simp only [Option.some.injEq,Prod.mk.injEq] at h
  obtain⟨rfl,rfl,rfl,rfl⟩:=h
  go_wp2_with (first|((with_reducible refine gate_dst (N:=2) rfl ?_);(try (refine gate_guard (by rfl) ?_;dsimp only));refine box_event ?hg2 (N:=2) ?hd2 (cs:=#[.string (⟨#[]⟩ : ByteArray),.string (⟨#[]⟩ : ByteArray),.slice none 0 0]) (t:=24) ?hr2 ?_;(case hd2=>rfl);(case hg2=>rfl);(case hr2=>first|(go_simp;done)|(go_simp;rfl));intro b hgb w4 hbox hb;have HB1:=Aside0.mk hb;have HB2:=Aside0.mk hbox;have HB3:=Aside0.mk hgb;have hd0:=(blk_cell HB2.out 0).trans rfl;have hd1:=(blk_cell HB2.out 1).trans rfl;have hd2:=(blk_cell HB2.out 2).trans rfl;have he0:=blk_frozen HB2.out 0;have he1:=blk_frozen HB2.out 1;have he2:=blk_frozen HB2.out 2;clear hb hbox hgb))
  try simp only [Exit.jump]
  have HZ:=blk_put (blk_put (blk_put HB2.out 0 (.string (⟨#[]⟩ : ByteArray)) (cs':=#[.string (⟨#[]⟩ : ByteArray),.string (⟨#[]⟩ : ByteArray),.slice none 0 0]) rfl) 1 (.string (⟨#[]⟩ : ByteArray)) (cs':=#[.string (⟨#[]⟩ : ByteArray),.string (⟨#[]⟩ : ByteArray),.slice none 0 0]) rfl) 2 (.slice none 0 0) (cs':=#[.string (⟨#[]⟩ : ByteArray),.string (⟨#[]⟩ : ByteArray),.slice none 0 0]) rfl
  refine bodyPost_ret (results_ct rfl _ _ b 24 #[.string (⟨#[]⟩ : ByteArray),.string (⟨#[]⟩ : ByteArray),.slice none 0 0] (0,0) _ rfl HZ Tryd.underlying24 rfl (by kernel_rfl)) rfl ?_
  exact⟨.slice none 0 0,rfl,Kd.V_nil _ _ _ _ _,below_set (below_set (below_set HB1.out (Nat.le_of_eq HB3.out.symm)) (Nat.le_of_eq HB3.out.symm)) (Nat.le_of_eq HB3.out.symm)⟩
 have t1:=eq_false c1
 have t2:=decide_eq_false c1
 have t3:decide (65536<a0.size)=false:=decide_eq_false (by omega)
 have t4:(65536<a0.size)=False:=eq_false (by omega)
 clear c1
 obtain⟨lg,hlg,h⟩:=bndO h
 have hLg:=Aside0.mk hlg
 clear hlg
 cases lg with
 | false=>
  rw [if_neg Bool.false_ne_true] at h
  simp only [Option.some.injEq,Prod.mk.injEq] at h
  obtain⟨rfl,rfl,rfl,rfl⟩:=h
  go_wp2_with (first|((with_reducible refine gate_dst (N:=2) rfl ?_);(try (refine gate_guard (by rfl) ?_;dsimp only));refine box_event ?hg2 (N:=2) ?hd2 (cs:=#[.string (⟨#[]⟩ : ByteArray),.string (⟨#[]⟩ : ByteArray),.slice none 0 0]) (t:=24) ?hr2 ?_;(case hd2=>rfl);(case hg2=>rfl);(case hr2=>first|(go_simp;done)|(go_simp;rfl));intro b hgb w4 hbox hb;have HB1:=Aside0.mk hb;have HB2:=Aside0.mk hbox;have HB3:=Aside0.mk hgb;have hd0:=(blk_cell HB2.out 0).trans rfl;have hd1:=(blk_cell HB2.out 1).trans rfl;have hd2:=(blk_cell HB2.out 2).trans rfl;have he0:=blk_frozen HB2.out 0;have he1:=blk_frozen HB2.out 1;have he2:=blk_frozen HB2.out 2;clear hb hbox hgb)|((with_reducible refine gate_dst (N:=13) rfl ?_);(try (refine gate_guard (by rfl) ?_;dsimp only));refine box_event ?hg13 (N:=13) ?hd13 (cs:=#[.string a0,.int .i64 0]) (t:=57) ?hr13 ?_;(case hd13=>rfl);(case hg13=>rfl);(case hr13=>first|(go_simp;done)|(go_simp;rfl));intro g hgg w5 hbox hb;have HV:=Aside0.mk (xml_pa.start HB1.out HB2.out HB3.out hb hbox hgg);clear hb hbox hgg;have hc0:=xml_reader_attribute.c0 HV.out.i;have hc1:=xml_reader_attribute.c1 HV.out.i;have hd0:=(blk_cell HV.out.blk 0).trans rfl;have hd1:=(blk_cell HV.out.blk 1).trans rfl;have hd2:=(blk_cell HV.out.blk 2).trans rfl;have he0:=blk_frozen HV.out.blk 0;have he1:=blk_frozen HV.out.blk 1;have he2:=blk_frozen HV.out.blk 2;have hne:=HV.out.ne;have hen:=HV.out.ne.symm)|(go_at_call 27;with_reducible refine(chars_Legal.calls a0 false _ hLg.out).mono ?_;rintro e_ w_ ⟨rfl,hb⟩;(first|replace HV:=Aside0.mk (xml_pa.Inv.below HV.out hb)|replace HV:=Aside0.mk (xml_pa.Inv.below (HV.out.drewN _) hb)|replace HV:=Aside0.mk (xml_pa.Inv.below ((HV.out.drewN _).drewN _) hb)|replace HV:=Aside0.mk (xml_pa.Inv.below HV.out.drew hb));clear hb;have hc0:=xml_reader_attribute.c0 HV.out.i;have hc1:=xml_reader_attribute.c1 HV.out.i;have hd0:=(blk_cell HV.out.blk 0).trans rfl;have hd1:=(blk_cell HV.out.blk 1).trans rfl;have hd2:=(blk_cell HV.out.blk 2).trans rfl;have he0:=blk_frozen HV.out.blk 0;have he1:=blk_frozen HV.out.blk 1;have he2:=blk_frozen HV.out.blk 2;have hne:=HV.out.ne;have hen:=HV.out.ne.symm))
  try simp only [Exit.jump]
  have HZ:=xml_pa.ends (nm:=(⟨#[]⟩ : ByteArray)) (tx:=(⟨#[]⟩ : ByteArray)) (by first|exact HV.out|exact(HV.out.drewN _)|exact((HV.out.drewN _).drewN _)|exact HV.out.drew) (Kd.V_nil k24 24 _ _ _)
  refine bodyPost_ret (results_ct rfl _ _ b 24 #[.string (⟨#[]⟩ : ByteArray),.string (⟨#[]⟩ : ByteArray),.slice none 0 0] (0,0) _ rfl HZ.1 Tryd.underlying24 rfl (by kernel_rfl)) rfl ?_
  exact⟨.slice none 0 0,rfl,HZ.2.1,HZ.2.2⟩
 | true=>
  rw [if_pos rfl] at h
  obtain⟨b0,hb0,h⟩:=bndO h
  obtain⟨b1,b2,b3⟩:=b0
  have hBg:=Aside0.mk hb0
  clear hb0
  dsimp only at h
  cases b1 with
  | false=>
   rw [if_neg Bool.false_ne_true] at h
   simp only [Option.some.injEq,Prod.mk.injEq] at h
   obtain⟨rfl,rfl,rfl,rfl⟩:=h
   go_wp2_with (first|((with_reducible refine gate_dst (N:=2) rfl ?_);(try (refine gate_guard (by rfl) ?_;dsimp only));refine box_event ?hg2 (N:=2) ?hd2 (cs:=#[.string (⟨#[]⟩ : ByteArray),.string (⟨#[]⟩ : ByteArray),.slice none 0 0]) (t:=24) ?hr2 ?_;(case hd2=>rfl);(case hg2=>rfl);(case hr2=>first|(go_simp;done)|(go_simp;rfl));intro b hgb w4 hbox hb;have HB1:=Aside0.mk hb;have HB2:=Aside0.mk hbox;have HB3:=Aside0.mk hgb;have hd0:=(blk_cell HB2.out 0).trans rfl;have hd1:=(blk_cell HB2.out 1).trans rfl;have hd2:=(blk_cell HB2.out 2).trans rfl;have he0:=blk_frozen HB2.out 0;have he1:=blk_frozen HB2.out 1;have he2:=blk_frozen HB2.out 2;clear hb hbox hgb)|((with_reducible refine gate_dst (N:=13) rfl ?_);(try (refine gate_guard (by rfl) ?_;dsimp only));refine box_event ?hg13 (N:=13) ?hd13 (cs:=#[.string a0,.int .i64 0]) (t:=57) ?hr13 ?_;(case hd13=>rfl);(case hg13=>rfl);(case hr13=>first|(go_simp;done)|(go_simp;rfl));intro g hgg w5 hbox hb;have HV:=Aside0.mk (xml_pa.start HB1.out HB2.out HB3.out hb hbox hgg);clear hb hbox hgg;have hc0:=xml_reader_attribute.c0 HV.out.i;have hc1:=xml_reader_attribute.c1 HV.out.i;have hd0:=(blk_cell HV.out.blk 0).trans rfl;have hd1:=(blk_cell HV.out.blk 1).trans rfl;have hd2:=(blk_cell HV.out.blk 2).trans rfl;have he0:=blk_frozen HV.out.blk 0;have he1:=blk_frozen HV.out.blk 1;have he2:=blk_frozen HV.out.blk 2;have hne:=HV.out.ne;have hen:=HV.out.ne.symm)|(go_at_call 27;with_reducible refine(chars_Legal.calls a0 true _ hLg.out).mono ?_;rintro e_ w_ ⟨rfl,hb⟩;(first|replace HV:=Aside0.mk (xml_pa.Inv.below HV.out hb)|replace HV:=Aside0.mk (xml_pa.Inv.below (HV.out.drewN _) hb)|replace HV:=Aside0.mk (xml_pa.Inv.below ((HV.out.drewN _).drewN _) hb)|replace HV:=Aside0.mk (xml_pa.Inv.below HV.out.drew hb));clear hb;have hc0:=xml_reader_attribute.c0 HV.out.i;have hc1:=xml_reader_attribute.c1 HV.out.i;have hd0:=(blk_cell HV.out.blk 0).trans rfl;have hd1:=(blk_cell HV.out.blk 1).trans rfl;have hd2:=(blk_cell HV.out.blk 2).trans rfl;have he0:=blk_frozen HV.out.blk 0;have he1:=blk_frozen HV.out.blk 1;have he2:=blk_frozen HV.out.blk 2;have hne:=HV.out.ne;have hen:=HV.out.ne.symm)|(go_at_call 28;with_reducible refine(xml_reader_begin.calls g a0 0 false b2 b3 w _ ?s1 ?s2 hG hBg.out).mono ?_;(case s1=>exact(by first|exact HV.out.i|exact(HV.out.drewN _).i|exact((HV.out.drewN _).drewN _).i|exact HV.out.drew.i));(case s2=>exact(by first|exact HV.out.bel|exact(HV.out.drewN _).bel|exact((HV.out.drewN _).drewN _).bel|exact HV.out.drew.bel));rintro e_ w_ ⟨rfl,hi,hb,hk⟩;(first|replace HV:=Aside0.mk (xml_pa.Inv.call HV.out hi hb hk)|replace HV:=Aside0.mk (xml_pa.Inv.call (HV.out.drewN _) hi hb hk)|replace HV:=Aside0.mk (xml_pa.Inv.call ((HV.out.drewN _).drewN _) hi hb hk)|replace HV:=Aside0.mk (xml_pa.Inv.call HV.out.drew hi hb hk));clear hi hb hk;have hc0:=xml_reader_attribute.c0 HV.out.i;have hc1:=xml_reader_attribute.c1 HV.out.i;have hd0:=(blk_cell HV.out.blk 0).trans rfl;have hd1:=(blk_cell HV.out.blk 1).trans rfl;have hd2:=(blk_cell HV.out.blk 2).trans rfl;have he0:=blk_frozen HV.out.blk 0;have he1:=blk_frozen HV.out.blk 1;have he2:=blk_frozen HV.out.blk 2;have hne:=HV.out.ne;have hen:=HV.out.ne.symm))
   try simp only [Exit.jump]
   have HZ:=xml_pa.ends (nm:=(⟨#[]⟩ : ByteArray)) (tx:=(⟨#[]⟩ : ByteArray)) (by first|exact HV.out|exact(HV.out.drewN _)|exact((HV.out.drewN _).drewN _)|exact HV.out.drew) (Kd.V_nil k24 24 _ _ _)
   refine bodyPost_ret (results_ct rfl _ _ b 24 #[.string (⟨#[]⟩ : ByteArray),.string (⟨#[]⟩ : ByteArray),.slice none 0 0] (0,0) _ rfl HZ.1 Tryd.underlying24 rfl (by kernel_rfl)) rfl ?_
   exact⟨.slice none 0 0,rfl,HZ.2.1,HZ.2.2⟩
  | true=>
   rw [if_pos rfl] at h
   obtain⟨a,ha,h⟩:=bndO h
   obtain⟨s1,s2,s3⟩:=a
   have hS1:=Aside0.mk ha
   clear ha
   dsimp only at h
   obtain⟨e,he,h⟩:=bndO h
   obtain⟨⟨x0,x1,x2⟩,e2,e3,e4⟩:=e
   have hE:=Aside0.mk he
   clear he
   dsimp only at h
   obtain⟨z,hz,h⟩:=bndO h
   obtain⟨z1,z2,z3⟩:=z
   have hS2:=Aside0.mk hz
   clear hz
   dsimp only at h
   go_upto_region 8 with(first|((with_reducible refine gate_dst (N:=2) rfl ?_);(try (refine gate_guard (by rfl) ?_;dsimp only));refine box_event ?hg2 (N:=2) ?hd2 (cs:=#[.string (⟨#[]⟩ : ByteArray),.string (⟨#[]⟩ : ByteArray),.slice none 0 0]) (t:=24) ?hr2 ?_;(case hd2=>rfl);(case hg2=>rfl);(case hr2=>first|(go_simp;done)|(go_simp;rfl));intro b hgb w4 hbox hb;have HB1:=Aside0.mk hb;have HB2:=Aside0.mk hbox;have HB3:=Aside0.mk hgb;have hd0:=(blk_cell HB2.out 0).trans rfl;have hd1:=(blk_cell HB2.out 1).trans rfl;have hd2:=(blk_cell HB2.out 2).trans rfl;have he0:=blk_frozen HB2.out 0;have he1:=blk_frozen HB2.out 1;have he2:=blk_frozen HB2.out 2;clear hb hbox hgb)|((with_reducible refine gate_dst (N:=13) rfl ?_);(try (refine gate_guard (by rfl) ?_;dsimp only));refine box_event ?hg13 (N:=13) ?hd13 (cs:=#[.string a0,.int .i64 0]) (t:=57) ?hr13 ?_;(case hd13=>rfl);(case hg13=>rfl);(case hr13=>first|(go_simp;done)|(go_simp;rfl));intro g hgg w5 hbox hb;have HV:=Aside0.mk (xml_pa.start HB1.out HB2.out HB3.out hb hbox hgg);clear hb hbox hgg;have hc0:=xml_reader_attribute.c0 HV.out.i;have hc1:=xml_reader_attribute.c1 HV.out.i;have hd0:=(blk_cell HV.out.blk 0).trans rfl;have hd1:=(blk_cell HV.out.blk 1).trans rfl;have hd2:=(blk_cell HV.out.blk 2).trans rfl;have he0:=blk_frozen HV.out.blk 0;have he1:=blk_frozen HV.out.blk 1;have he2:=blk_frozen HV.out.blk 2;have hne:=HV.out.ne;have hen:=HV.out.ne.symm)|(go_at_call 27;with_reducible refine(chars_Legal.calls a0 true _ hLg.out).mono ?_;rintro e_ w_ ⟨rfl,hb⟩;(first|replace HV:=Aside0.mk (xml_pa.Inv.below HV.out hb)|replace HV:=Aside0.mk (xml_pa.Inv.below (HV.out.drewN _) hb)|replace HV:=Aside0.mk (xml_pa.Inv.below ((HV.out.drewN _).drewN _) hb)|replace HV:=Aside0.mk (xml_pa.Inv.below HV.out.drew hb));clear hb;have hc0:=xml_reader_attribute.c0 HV.out.i;have hc1:=xml_reader_attribute.c1 HV.out.i;have hd0:=(blk_cell HV.out.blk 0).trans rfl;have hd1:=(blk_cell HV.out.blk 1).trans rfl;have hd2:=(blk_cell HV.out.blk 2).trans rfl;have he0:=blk_frozen HV.out.blk 0;have he1:=blk_frozen HV.out.blk 1;have he2:=blk_frozen HV.out.blk 2;have hne:=HV.out.ne;have hen:=HV.out.ne.symm)|(go_at_call 28;with_reducible refine(xml_reader_begin.calls g a0 0 true b2 b3 w _ ?s1 ?s2 hG hBg.out).mono ?_;(case s1=>exact(by first|exact HV.out.i|exact(HV.out.drewN _).i|exact((HV.out.drewN _).drewN _).i|exact HV.out.drew.i));(case s2=>exact(by first|exact HV.out.bel|exact(HV.out.drewN _).bel|exact((HV.out.drewN _).drewN _).bel|exact HV.out.drew.bel));rintro e_ w_ ⟨rfl,hi,hb,hk⟩;(first|replace HV:=Aside0.mk (xml_pa.Inv.call HV.out hi hb hk)|replace HV:=Aside0.mk (xml_pa.Inv.call (HV.out.drewN _) hi hb hk)|replace HV:=Aside0.mk (xml_pa.Inv.call ((HV.out.drewN _).drewN _) hi hb hk)|replace HV:=Aside0.mk (xml_pa.Inv.call HV.out.drew hi hb hk));clear hi hb hk;have hc0:=xml_reader_attribute.c0 HV.out.i;have hc1:=xml_reader_attribute.c1 HV.out.i;have hd0:=(blk_cell HV.out.blk 0).trans rfl;have hd1:=(blk_cell HV.out.blk 1).trans rfl;have hd2:=(blk_cell HV.out.blk 2).trans rfl;have he0:=blk_frozen HV.out.blk 0;have he1:=blk_frozen HV.out.blk 1;have he2:=blk_frozen HV.out.blk 2;have hne:=HV.out.ne;have hen:=HV.out.ne.symm)|(go_at_call 29;with_reducible refine(xml_reader_space.calls k g b2 b3 s1 s2 s3 w _ ?s1 ?s2 hS1.out).mono ?_;(case s1=>exact(by first|exact HV.out.i|exact(HV.out.drewN _).i|exact((HV.out.drewN _).drewN _).i|exact HV.out.drew.i));(case s2=>exact(by first|exact HV.out.bel|exact(HV.out.drewN _).bel|exact((HV.out.drewN _).drewN _).bel|exact HV.out.drew.bel));rintro e_ w_ ⟨rfl,hi,hb,hk⟩;(first|replace HV:=Aside0.mk (xml_pa.Inv.call HV.out hi hb hk)|replace HV:=Aside0.mk (xml_pa.Inv.call (HV.out.drewN _) hi hb hk)|replace HV:=Aside0.mk (xml_pa.Inv.call ((HV.out.drewN _).drewN _) hi hb hk)|replace HV:=Aside0.mk (xml_pa.Inv.call HV.out.drew hi hb hk));clear hi hb hk;have hc0:=xml_reader_attribute.c0 HV.out.i;have hc1:=xml_reader_attribute.c1 HV.out.i;have hd0:=(blk_cell HV.out.blk 0).trans rfl;have hd1:=(blk_cell HV.out.blk 1).trans rfl;have hd2:=(blk_cell HV.out.blk 2).trans rfl;have he0:=blk_frozen HV.out.blk 0;have he1:=blk_frozen HV.out.blk 1;have he2:=blk_frozen HV.out.blk 2;have hne:=HV.out.ne;have hen:=HV.out.ne.symm)|(go_at_call 30;with_reducible refine((xml_both k).1 s2 s3 1 _ w _ g ?s1 ?s2 hG hE.out).mono ?_;(case s1=>exact(by first|exact HV.out.i|exact(HV.out.drewN _).i|exact((HV.out.drewN _).drewN _).i|exact HV.out.drew.i));(case s2=>exact(by first|exact HV.out.bel|exact(HV.out.drewN _).bel|exact((HV.out.drewN _).drewN _).bel|exact HV.out.drew.bel));rintro e_ w_ ⟨v,he_,hVV,hi,hb,hk⟩;dsimp only at he_ hVV hi;obtain⟨eA,ec,rfl⟩:=Kd.V_slice hVV;subst he_;(first|have HE:=Aside0.mk (xml_pa.el HV.out hVV)|have HE:=Aside0.mk (xml_pa.el (HV.out.drewN _) hVV)|have HE:=Aside0.mk (xml_pa.el ((HV.out.drewN _).drewN _) hVV)|have HE:=Aside0.mk (xml_pa.el HV.out.drew hVV));(first|replace HV:=Aside0.mk (xml_pa.Inv.call HV.out hi hb hk)|replace HV:=Aside0.mk (xml_pa.Inv.call (HV.out.drewN _) hi hb hk)|replace HV:=Aside0.mk (xml_pa.Inv.call ((HV.out.drewN _).drewN _) hi hb hk)|replace HV:=Aside0.mk (xml_pa.Inv.call HV.out.drew hi hb hk));clear hi hb hk hVV;have hc0:=xml_reader_attribute.c0 HV.out.i;have hc1:=xml_reader_attribute.c1 HV.out.i;have hd0:=(blk_cell HV.out.blk 0).trans rfl;have hd1:=(blk_cell HV.out.blk 1).trans rfl;have hd2:=(blk_cell HV.out.blk 2).trans rfl;have he0:=blk_frozen HV.out.blk 0;have he1:=blk_frozen HV.out.blk 1;have he2:=blk_frozen HV.out.blk 2;have hne:=HV.out.ne;have hen:=HV.out.ne.symm)|((with_reducible refine gate_dst (N:=5) rfl ?_);(try (refine gate_guard (by rfl) ?_;dsimp only));refine box_event ?hg5 (N:=5) ?hd5 (cs:=#[.string (⟨#[]⟩ : ByteArray),.string (⟨#[]⟩ : ByteArray),.slice none 0 0]) (t:=24) ?hr5 ?_;(case hd5=>rfl);(case hg5=>rfl);(case hr5=>first|(go_simp;done)|(go_simp;rfl));intro g5 hg5 w6 hbox hb;have HX:=Aside0.mk hbox;have HB4:=Aside0.mk hb;have HG4:=Aside0.mk hg5;clear hb hbox hg5;have hk0:=(blk_cell HX.out 0).trans rfl;have hk1:=(blk_cell HX.out 1).trans rfl;have hk2:=(blk_cell HX.out 2).trans rfl;have hz0:=blk_frozen HX.out 0;have hz1:=blk_frozen HX.out 1;have hz2:=blk_frozen HX.out 2))
   have HN5:=Aside0.mk (xml_pa.ne5 (w4:=w6) HV.out HG4.out)
   have HV2:=Aside0.mk ((((HV.out.below HB4.out).far HN5.out.1 HN5.out.2.1 HN5.out.2.2 0 (.string x0)).far HN5.out.1 HN5.out.2.1 HN5.out.2.2 1 (.string x1)).far HN5.out.1 HN5.out.2.1 HN5.out.2.2 2 (.slice eA x2.length ec))
   have HE2:=Aside0.mk (xml_co.vbox HE.out HB4.out HG4.out (.string x0) (.string x1) (.slice eA x2.length ec))
   have HX2:=Aside0.mk (blk_put (blk_put (blk_put HX.out 0 (.string x0) (cs':=#[.string x0,.string (⟨#[]⟩ : ByteArray),.slice none 0 0]) rfl) 1 (.string x1) (cs':=#[.string x0,.string x1,.slice none 0 0]) rfl) 2 (.slice eA x2.length ec) (cs':=#[.string x0,.string x1,.slice eA x2.length ec]) rfl)
   clear HV HE HX HB4 HG4 hc0 hc1 hd0 hd1 hd2 he0 he1 he2 hk0 hk1 hk2 hz0 hz1 hz2
   generalize World.setCell _ _ _=W2 at HV2 HE2 HX2 ⊢
   have HV:=HV2
   clear HV2
   have HE:=HE2
   clear HE2
   have HX:=HX2
   clear HX2
   have hc0:=xml_reader_attribute.c0 HV.out.i
   have hc1:=xml_reader_attribute.c1 HV.out.i
   have hd0:=(blk_cell HV.out.blk 0).trans rfl
   have hd1:=(blk_cell HV.out.blk 1).trans rfl
   have hd2:=(blk_cell HV.out.blk 2).trans rfl
   have he0:=blk_frozen HV.out.blk 0
   have he1:=blk_frozen HV.out.blk 1
   have he2:=blk_frozen HV.out.blk 2
   have hne:=HV.out.ne
   have hen:=HV.out.ne.symm
   cases e2 with
   | false=>
    rw [if_neg Bool.false_ne_true] at h
    simp only [Option.some.injEq,Prod.mk.injEq] at h
    obtain⟨rfl,rfl,rfl,rfl⟩:=h
    go_wp2_with (first|(go_at_call 29;with_reducible refine(xml_reader_space.calls k g e3 e4 z1 z2 z3 w _ ?s1 ?s2 hS2.out).mono ?_;(case s1=>exact(by first|exact HV.out.i|exact(HV.out.drewN _).i|exact((HV.out.drewN _).drewN _).i|exact HV.out.drew.i));(case s2=>exact(by first|exact HV.out.bel|exact(HV.out.drewN _).bel|exact((HV.out.drewN _).drewN _).bel|exact HV.out.drew.bel));rintro e_ w_ ⟨rfl,hi,hb,hk⟩;(first|replace HE:=Aside0.mk (xml_pa.vkeep HE.out hk)|replace HE:=Aside0.mk (xml_pa.vkeep (Kd.V_drewN HE.out _) hk));have h5n:=HN5.out;have HX2:=Aside0.mk (hk.blk (by first|exact HX.out|exact blk_drewN HX.out _) h5n.2.1 (by simp));clear HX;have HX:=HX2;clear HX2;have hk0:=(blk_cell HX.out 0).trans rfl;have hk1:=(blk_cell HX.out 1).trans rfl;have hk2:=(blk_cell HX.out 2).trans rfl;(first|replace HV:=Aside0.mk (xml_pa.Inv.call HV.out hi hb hk)|replace HV:=Aside0.mk (xml_pa.Inv.call (HV.out.drewN _) hi hb hk)|replace HV:=Aside0.mk (xml_pa.Inv.call ((HV.out.drewN _).drewN _) hi hb hk)|replace HV:=Aside0.mk (xml_pa.Inv.call HV.out.drew hi hb hk));clear hi hb hk;have hc0:=xml_reader_attribute.c0 HV.out.i;have hc1:=xml_reader_attribute.c1 HV.out.i;have hd0:=(blk_cell HV.out.blk 0).trans rfl;have hd1:=(blk_cell HV.out.blk 1).trans rfl;have hd2:=(blk_cell HV.out.blk 2).trans rfl;have he0:=blk_frozen HV.out.blk 0;have he1:=blk_frozen HV.out.blk 1;have he2:=blk_frozen HV.out.blk 2;have hne:=HV.out.ne;have hen:=HV.out.ne.symm))
    try simp only [Exit.jump]
    have HZ:=xml_pa.ends (nm:=(⟨#[]⟩ : ByteArray)) (tx:=(⟨#[]⟩ : ByteArray)) (by first|exact HV.out|exact(HV.out.drewN _)|exact((HV.out.drewN _).drewN _)|exact HV.out.drew) (Kd.V_nil k24 24 _ _ _)
    refine bodyPost_ret (results_ct rfl _ _ b 24 #[.string (⟨#[]⟩ : ByteArray),.string (⟨#[]⟩ : ByteArray),.slice none 0 0] (0,0) _ rfl HZ.1 Tryd.underlying24 rfl (by kernel_rfl)) rfl ?_
    exact⟨.slice none 0 0,rfl,HZ.2.1,HZ.2.2⟩
   | true=>
    rw [if_pos rfl] at h
    rcases itO h with⟨c2,h⟩|⟨c2,h⟩
    ·have u1:(z3 != (a0.size:Int))=false:=bne_eq_false_iff_eq.mpr c2
     have u2:(z3 == (a0.size:Int))=true:=beq_iff_eq.mpr c2
     have u3:=eq_true c2
     have u4:=decide_eq_true c2
     clear c2
     simp only [Option.some.injEq,Prod.mk.injEq] at h
     obtain⟨rfl,rfl,rfl,rfl⟩:=h
     go_wp2_with (first|(go_at_call 29;with_reducible refine(xml_reader_space.calls k g e3 e4 z1 z2 z3 w _ ?s1 ?s2 hS2.out).mono ?_;(case s1=>exact(by first|exact HV.out.i|exact(HV.out.drewN _).i|exact((HV.out.drewN _).drewN _).i|exact HV.out.drew.i));(case s2=>exact(by first|exact HV.out.bel|exact(HV.out.drewN _).bel|exact((HV.out.drewN _).drewN _).bel|exact HV.out.drew.bel));rintro e_ w_ ⟨rfl,hi,hb,hk⟩;(first|replace HE:=Aside0.mk (xml_pa.vkeep HE.out hk)|replace HE:=Aside0.mk (xml_pa.vkeep (Kd.V_drewN HE.out _) hk));have h5n:=HN5.out;have HX2:=Aside0.mk (hk.blk (by first|exact HX.out|exact blk_drewN HX.out _) h5n.2.1 (by simp));clear HX;have HX:=HX2;clear HX2;have hk0:=(blk_cell HX.out 0).trans rfl;have hk1:=(blk_cell HX.out 1).trans rfl;have hk2:=(blk_cell HX.out 2).trans rfl;(first|replace HV:=Aside0.mk (xml_pa.Inv.call HV.out hi hb hk)|replace HV:=Aside0.mk (xml_pa.Inv.call (HV.out.drewN _) hi hb hk)|replace HV:=Aside0.mk (xml_pa.Inv.call ((HV.out.drewN _).drewN _) hi hb hk)|replace HV:=Aside0.mk (xml_pa.Inv.call HV.out.drew hi hb hk));clear hi hb hk;have hc0:=xml_reader_attribute.c0 HV.out.i;have hc1:=xml_reader_attribute.c1 HV.out.i;have hd0:=(blk_cell HV.out.blk 0).trans rfl;have hd1:=(blk_cell HV.out.blk 1).trans rfl;have hd2:=(blk_cell HV.out.blk 2).trans rfl;have he0:=blk_frozen HV.out.blk 0;have he1:=blk_frozen HV.out.blk 1;have he2:=blk_frozen HV.out.blk 2;have hne:=HV.out.ne;have hen:=HV.out.ne.symm))
     try simp only [Exit.jump]
     have HZ:=xml_pa.ends (nm:=x0) (tx:=x1) (by first|exact HV.out|exact(HV.out.drewN _)|exact((HV.out.drewN _).drewN _)|exact HV.out.drew) (by first|exact Kd.V_mono HE.out (fun _ h_=>h_)|exact Kd.V_drewN HE.out _)
     refine bodyPost_ret (results_ct rfl _ _ b 24 #[.string x0,.string x1,.slice eA x2.length ec] (0,0) _ rfl HZ.1 Tryd.underlying24 rfl (by kernel_rfl)) rfl ?_
     exact⟨.slice eA x2.length ec,rfl,HZ.2.1,HZ.2.2⟩
    have u1:(z3 != (a0.size:Int))=true:=bne_iff_ne.mpr c2
    have u2:(z3 == (a0.size:Int))=false:=beq_eq_false_iff_ne.mpr c2
    have u3:=eq_false c2
    have u4:=decide_eq_false c2
    simp only [Option.some.injEq,Prod.mk.injEq] at h
    obtain⟨rfl,rfl,rfl,rfl⟩:=h
    go_wp2_with (first|(go_at_call 29;with_reducible refine(xml_reader_space.calls k g e3 e4 z1 z2 z3 w _ ?s1 ?s2 hS2.out).mono ?_;(case s1=>exact(by first|exact HV.out.i|exact(HV.out.drewN _).i|exact((HV.out.drewN _).drewN _).i|exact HV.out.drew.i));(case s2=>exact(by first|exact HV.out.bel|exact(HV.out.drewN _).bel|exact((HV.out.drewN _).drewN _).bel|exact HV.out.drew.bel));rintro e_ w_ ⟨rfl,hi,hb,hk⟩;(first|replace HE:=Aside0.mk (xml_pa.vkeep HE.out hk)|replace HE:=Aside0.mk (xml_pa.vkeep (Kd.V_drewN HE.out _) hk));have h5n:=HN5.out;have HX2:=Aside0.mk (hk.blk (by first|exact HX.out|exact blk_drewN HX.out _) h5n.2.1 (by simp));clear HX;have HX:=HX2;clear HX2;have hk0:=(blk_cell HX.out 0).trans rfl;have hk1:=(blk_cell HX.out 1).trans rfl;have hk2:=(blk_cell HX.out 2).trans rfl;(first|replace HV:=Aside0.mk (xml_pa.Inv.call HV.out hi hb hk)|replace HV:=Aside0.mk (xml_pa.Inv.call (HV.out.drewN _) hi hb hk)|replace HV:=Aside0.mk (xml_pa.Inv.call ((HV.out.drewN _).drewN _) hi hb hk)|replace HV:=Aside0.mk (xml_pa.Inv.call HV.out.drew hi hb hk));clear hi hb hk;have hc0:=xml_reader_attribute.c0 HV.out.i;have hc1:=xml_reader_attribute.c1 HV.out.i;have hd0:=(blk_cell HV.out.blk 0).trans rfl;have hd1:=(blk_cell HV.out.blk 1).trans rfl;have hd2:=(blk_cell HV.out.blk 2).trans rfl;have he0:=blk_frozen HV.out.blk 0;have he1:=blk_frozen HV.out.blk 1;have he2:=blk_frozen HV.out.blk 2;have hne:=HV.out.ne;have hen:=HV.out.ne.symm))
    try simp only [Exit.jump]
    have HZ:=xml_pa.ends (nm:=(⟨#[]⟩ : ByteArray)) (tx:=(⟨#[]⟩ : ByteArray)) (by first|exact HV.out|exact(HV.out.drewN _)|exact((HV.out.drewN _).drewN _)|exact HV.out.drew) (Kd.V_nil k24 24 _ _ _)
    refine bodyPost_ret (results_ct rfl _ _ b 24 #[.string (⟨#[]⟩ : ByteArray),.string (⟨#[]⟩ : ByteArray),.slice none 0 0] (0,0) _ rfl HZ.1 Tryd.underlying24 rfl (by kernel_rfl)) rfl ?_
    exact⟨.slice none 0 0,rfl,HZ.2.1,HZ.2.2⟩
def xml_Of.f (a0:ByteArray) (a1:ByteArray):Option (ByteArray×ByteArray×(List (S24))):=some (a0,a1,([]:List (S24)))
theorem xml_Of.calls (a0:ByteArray) (a1:ByteArray) (r1:ByteArray) (r2:ByteArray) (r3:List (S24)) (w:World) (h:xml_Of.f a0 a1=some (r1,r2,r3)) :
  Calls Tryd.prog 23 #[.string a0,.string a1] w fun e w'=>∃ v2_:Value,e = .returned (.agg #[.string r1,.string r2,v2_])∧Kd.R k24 24 w' w.heap.size (fun _=>True) v2_ r3∧Below w.heap.size w w':=by
 have hu24:=Tryd.underlying24
 have HB:=Aside0.mk (Below.refl w.heap.size w)
 unfold xml_Of.f at h
 have H:=h
 clear h
 simp only [Option.some.injEq,Prod.mk.injEq] at H
 obtain⟨rfl,rfl,rfl⟩:=H
 go_enter Tryd.func23,Tryd.ntmps23
 go_wp2_with (first|((with_reducible refine gate_dst (N:=4) rfl ?_);refine box_event ?hg (N:=4) ?hd (cs:=#[.string (⟨#[]⟩ : ByteArray),.string (⟨#[]⟩ : ByteArray),.slice none 0 0]) (t:=24) ?hr ?_;(case hd=>rfl);(case hg=>rfl);(case hr=>first|(go_simp;done)|(go_simp;rfl));intro gb128 hg w3 hbox hb;have n0_:=Aside0.mk (below_step (by repeat (first|(with_reducible first|exact HB.out|apply below_alloc|apply pw_below_drewN|apply below_drew1)|exact HB.out)) hb);have n1_:=Aside0.mk (hbox);have n2_:=Aside0.mk ((by rw [hg];exact(below_size (by repeat (first|(with_reducible first|exact HB.out|apply below_alloc|apply pw_below_drewN|apply below_drew1)|exact HB.out))):w.heap.size≤gb128));have n3_:=Aside0.mk ((by rw [hg];exact(below_size (by repeat (first|(with_reducible first|exact HB.out|apply below_alloc|apply pw_below_drewN|apply below_drew1)|exact HB.out))):w.heap.size≤gb128));clear HB;have HB:=n0_;have BK128:=n1_;have GW128:=n2_;have GE128:=n3_;clear n0_ n1_ n2_ n3_;clear hb hbox hg;have hcz4_0:w3.cell? ⟨gb128,0,none⟩=some (.string (⟨#[]⟩ : ByteArray)):=(blk_cell BK128.out 0).trans rfl;have hcz4_1:w3.cell? ⟨gb128,1,none⟩=some (.string (⟨#[]⟩ : ByteArray)):=(blk_cell BK128.out 1).trans rfl;have hcz4_2:w3.cell? ⟨gb128,2,none⟩=some (.slice none 0 0):=(blk_cell BK128.out 2).trans rfl;have hfz4_0:=blk_frozen BK128.out 0;have hfz4_1:=blk_frozen BK128.out 1;have hfz4_2:=blk_frozen BK128.out 2))
 refine bodyPost_ret (results_cell_row rfl _ _ gb128 24 #[.string a0,.string a1,.slice none 0 0] (0,0) _ rfl (by(with_reducible repeat (first|refine blk_drewN ?_ _|refine blk_drew ?_|refine blk_alloc ?_ _));refine blk_put (cs:=#[.string a0,.string a1,.slice none 0 0]) ?_ 2 _ rfl;(with_reducible repeat (first|refine blk_drewN ?_ _|refine blk_drew ?_|refine blk_alloc ?_ _));refine blk_put (cs:=#[.string a0,.string (⟨#[]⟩ : ByteArray),.slice none 0 0]) ?_ 1 _ rfl;(with_reducible repeat (first|refine blk_drewN ?_ _|refine blk_drew ?_|refine blk_alloc ?_ _));refine blk_put (cs:=#[.string (⟨#[]⟩ : ByteArray),.string (⟨#[]⟩ : ByteArray),.slice none 0 0]) ?_ 0 _ rfl;(with_reducible repeat (first|refine blk_drewN ?_ _|refine blk_drew ?_|refine blk_alloc ?_ _));exact BK128.out) Tryd.underlying24 rfl (by kernel_rfl)) rfl ?_
 exact⟨_,by first|rfl|(simp [errW_none,errW_some] <;> rfl)|(simp [*,errW_none,errW_some] <;> rfl),by first|exact Kd.R_nil _ _ _ _ _|exact Kd.N_nil _ _ _ _ _|exact Kd.V_nil _ _ _ _ _|exact Kd.Q_nil _ _ _ _ _|exact Kd.S_nil _ _ _ _ _,by repeat (first|(with_reducible first|exact HB.out|apply below_alloc|apply pw_below_drewN|apply below_drew1|refine below_set ?_ GE128.out)|exact HB.out)⟩
def stowagelaw13_awake.f (k:Nat)  : Option (Bool):=(xml_Parse.f k (⟨#[60,97,32,120,61,34,49,34,62,32,60,98,62,49,32,38,108,116,59,32,50,60,47,98,62,60,99,47,62,60,47,97,62]⟩ : ByteArray)).bind fun bt129=>((xml_Of.f (⟨#[97]⟩ : ByteArray) (⟨#[120,38,121]⟩ : ByteArray)).bind fun bt136=>((xml_Print.f k bt136.1 bt136.2.1 bt136.2.2 false).bind fun bt141=>(if bt129.2.2.2=0 then(if bt141.2=0 then(if bt129.1.toList=([97]:List UInt8) then(if(bt129.2.2.1.length:Int)=2 then(if 0<(bt129.2.2.1.length:Int) then(if((rd_T24 bt129.2.2.1 0).f1).toList=([49,32,60,32,50]:List UInt8) then(some (bt141.1.toList == ([60,63,120,109,108,32,118,101,114,115,105,111,110,61,34,49,46,48,34,32,101,110,99,111,100,105,110,103,61,34,85,84,70,45,56,34,63,62,10,60,97,62,120,38,97,109,112,59,121,60,47,97,62]:List UInt8))) else(some false)) else(none)) else(some false)) else(some false)) else(some false)) else(some false))))
theorem stowagelaw13_awake.mono:∀ k,LeO (stowagelaw13_awake.f k) (stowagelaw13_awake.f (k+1)):=by
 intro  k
 unfold stowagelaw13_awake.f
 with_reducible repeat' first|exact xml_Parse.mono _ _|exact xml_Print.mono _ _ _ _ _|exact LeO.refl _|exact LeO.none _|refine LeO.ite ?_ ?_|refine LeO.bind ?_ (fun _=>?_)
theorem stowagelaw13_awake.calls (k:Nat)  (r:Bool) (w:World) (hG:GOk w) (h:stowagelaw13_awake.f k  = some r) :
    Calls Tryd.prog 14 #[] w fun e w'=>e = .returned (.bool r)∧Below w.heap.size w w':=by
 have hu24:=Tryd.underlying24
 have HB:=Aside0.mk (Below.refl w.heap.size w)
 unfold stowagelaw13_awake.f at h
 have H:=h
 clear h
 replace H:=bndO H
 obtain⟨⟨t129,t130,t131,t134⟩,A10,H⟩:=H
 dsimp only at H
 have A1:=Aside0.mk A10
 clear A10
 replace H:=bndO H
 obtain⟨⟨t136,t137,t138⟩,A20,H⟩:=H
 dsimp only at H
 have A2:=Aside0.mk A20
 clear A20
 replace H:=bndO H
 obtain⟨⟨t141,t142⟩,A30,H⟩:=H
 dsimp only at H
 have A3:=Aside0.mk A30
 clear A30
 replace H:=itO H
 rcases H with⟨c4,H⟩|⟨c4,H⟩
 {
 have c4b0:(t134 == 0)=true:=beq_iff_eq.mpr c4
 clear c4
 replace H:=itO H
 rcases H with⟨c5,H⟩|⟨c5,H⟩
 {
 have c5b0:(t142 == 0)=true:=beq_iff_eq.mpr c5
 clear c5
 replace H:=itO H
 rcases H with⟨c6,H⟩|⟨c6,H⟩
 {
 have c6b0:(t129.toList == ([97]:List UInt8))=true:=beq_iff_eq.mpr c6
 clear c6
 replace H:=itO H
 rcases H with⟨c7,H⟩|⟨c7,H⟩
 {
 have c7b0:((t131.length:Int) == 2)=true:=beq_iff_eq.mpr c7
 clear c7
 replace H:=itO H
 rcases H with⟨c8,H⟩|⟨c8,H⟩
 {
 have c8b0:decide (0<(t131.length:Int))=true:=decide_eq_true c8
 clear c8
 replace H:=itO H
 rcases H with⟨c9,H⟩|⟨c9,H⟩
 {
 have c9b0:(((rd_T24 t131 0).f1).toList == ([49,32,60,32,50]:List UInt8))=true:=beq_iff_eq.mpr c9
 clear c9
 obtain rfl:=Option.some.inj H
 go_enter Tryd.func14,Tryd.ntmps14
 go_wp2_with (first|((with_reducible refine gate_callee (f:=10) rfl ?_);refine goesL_ (some 6) rfl rfl Tryd.func10 kr rfl #[.string (⟨#[60,97,32,120,61,34,49,34,62,32,60,98,62,49,32,38,108,116,59,32,50,60,47,98,62,60,99,47,62,60,47,97,62]⟩ : ByteArray)] rfl am ?_;(with_reducible refine(xml_Parse.calls k (⟨#[60,97,32,120,61,34,49,34,62,32,60,98,62,49,32,38,108,116,59,32,50,60,47,98,62,60,99,47,62,60,47,97,62]⟩ : ByteArray) t129 t130 t131 t134 _ gk A1.out).mono ?_);rintro e w10 ⟨v132,rfl,ho0,hb⟩;refine⟨_,rfl,?_⟩;have HO133:=Aside0.mk (Kd.V_lower (Kd.V_mono (ok':=fun k_=>True) ho0 (fun k_ hk_=>trivial)) (below_size bl));replace HB:=Aside0.mk (below_step bl hb))|((with_reducible refine gate_dst (N:=1) rfl ?_);(try (refine gate_guard (by rfl) ?_;dsimp only));refine box_event ?hg (N:=1) ?hd (cs:=#[.string (⟨#[]⟩ : ByteArray),.string (⟨#[]⟩ : ByteArray),.slice none 0 0]) (t:=24) ?hr ?_;(case hd=>rfl);(case hg=>rfl);(case hr=>first|(go_simp;done)|(go_simp;rfl));intro gb135 hg w11 hbox hb;replace HO133:=Aside0.mk (Kd.V_below (Kd.V_elderB (by(with_reducible repeat (first|apply Kd.V_alloc|apply Kd.V_drewN|apply Kd.V_drew));exact HO133.out) gb135 (Nat.le_of_eq hg.symm)) hb);have BK135:=Aside0.mk (hbox);have GW135:=Aside0.mk ((by rw [hg];exact(below_size bl):w.heap.size≤gb135));have GE135:=Aside0.mk ((by rw [hg];exact(below_size bl):w.heap.size≤gb135));replace HB:=Aside0.mk (below_step bl hb);clear hb hbox hg;obtain⟨_,_,_,_,_,_⟩:=bc3 BK135.out;obtain⟨Ao13,co13,eo13⟩:=Kd.V_slice HO133.out;subst eo13)|((with_reducible refine gate_callee (f:=23) rfl ?_);refine goesL_ (some 10) rfl rfl Tryd.func23 kr rfl #[.string (⟨#[97]⟩ : ByteArray),.string (⟨#[120,38,121]⟩ : ByteArray)] rfl am ?_;(with_reducible refine(xml_Of.calls (⟨#[97]⟩ : ByteArray) (⟨#[120,38,121]⟩ : ByteArray) t136 t137 t138 _ A2.out).mono ?_);rintro e w14 ⟨v139,rfl,ho0,hb⟩;refine⟨_,rfl,?_⟩;replace HO133:=Aside0.mk (Kd.V_elder' (by(with_reducible repeat (first|apply Kd.V_alloc|apply Kd.V_drewN|apply Kd.V_drew));exact(Kd.V_mono (Kd.V_far (p:=⟨gb135,2,none⟩) (Kd.V_far (p:=⟨gb135,1,none⟩) (Kd.V_far (p:=⟨gb135,0,none⟩) (Kd.V_mono HO133.out (fun k_ hk=>(⟨hk,hk.2⟩ : _∧k_≠gb135))) (fun _ hk=>hk.2) (.string t129)) (fun _ hk=>hk.2) (.string t130)) (fun _ hk=>hk.2) (.slice Ao13 t131.length co13)) (fun _ h_=>h_.1))) (by first|exact Kd.R_base ho0|exact Kd.R_base ho0) hb);have HO140:=Aside0.mk (Kd.R_lower (Kd.R_newB ho0 (g:=gb135) (o:=.cells #[.string t129,.string t130,.slice Ao13 t131.length co13] 24 (0,0)) (by(with_reducible repeat (first|refine blk_drewN ?_ _|refine blk_drew ?_|refine blk_alloc ?_ _));refine blk_put (cs:=#[.string t129,.string t130,.slice none 0 0]) ?_ 2 _ rfl;(with_reducible repeat (first|refine blk_drewN ?_ _|refine blk_drew ?_|refine blk_alloc ?_ _));refine blk_put (cs:=#[.string t129,.string (⟨#[]⟩ : ByteArray),.slice none 0 0]) ?_ 1 _ rfl;(with_reducible repeat (first|refine blk_drewN ?_ _|refine blk_drew ?_|refine blk_alloc ?_ _));refine blk_put (cs:=#[.string (⟨#[]⟩ : ByteArray),.string (⟨#[]⟩ : ByteArray),.slice none 0 0]) ?_ 0 _ rfl;(with_reducible repeat (first|refine blk_drewN ?_ _|refine blk_drew ?_|refine blk_alloc ?_ _));exact BK135.out)) (below_size bl));replace BK135:=Aside0.mk (blk_below (g:=gb135) (o:=.cells #[.string t129,.string t130,.slice Ao13 t131.length co13] 24 (0,0)) (by(with_reducible repeat (first|refine blk_drewN ?_ _|refine blk_drew ?_|refine blk_alloc ?_ _));refine blk_put (cs:=#[.string t129,.string t130,.slice none 0 0]) ?_ 2 _ rfl;(with_reducible repeat (first|refine blk_drewN ?_ _|refine blk_drew ?_|refine blk_alloc ?_ _));refine blk_put (cs:=#[.string t129,.string (⟨#[]⟩ : ByteArray),.slice none 0 0]) ?_ 1 _ rfl;(with_reducible repeat (first|refine blk_drewN ?_ _|refine blk_drew ?_|refine blk_alloc ?_ _));refine blk_put (cs:=#[.string (⟨#[]⟩ : ByteArray),.string (⟨#[]⟩ : ByteArray),.slice none 0 0]) ?_ 0 _ rfl;(with_reducible repeat (first|refine blk_drewN ?_ _|refine blk_drew ?_|refine blk_alloc ?_ _));exact BK135.out) hb);replace HB:=Aside0.mk (below_step bl hb);obtain⟨Ao15,co15,eo15⟩:=Kd.R_slice HO140.out;subst eo15)|((with_reducible refine gate_callee (f:=22) rfl ?_);refine goesL_ (some 11) rfl rfl Tryd.func22 kr rfl #[.agg #[.string t136,.string t137,.slice Ao15 t138.length co15],.bool false] rfl am ?_;(with_reducible refine(xml_Print.calls k t136 t137 _ _ t138 false t141 t142 _ ?side1 ?side2 A3.out).mono ?_);(case side1=>repeat (first|exact(Kd.R_reads' HO140.out).2.2|(with_reducible refine Kd.C_alloc ?_ _)|(with_reducible refine Kd.C_drewN ?_ _)|(with_reducible refine Kd.C_drew ?_)));(case side2=>exact(Kd.R_reads' HO140.out).2.1);rintro e w16 ⟨rfl,hb⟩;refine⟨_,rfl,?_⟩;replace HO133:=Aside0.mk (Kd.V_below (by(with_reducible repeat (first|apply Kd.V_alloc|apply Kd.V_drewN|apply Kd.V_drew));exact HO133.out) hb);replace HO140:=Aside0.mk (Kd.R_below rl hb);replace BK135:=Aside0.mk (blk_below (g:=gb135) (o:=.cells #[.string t129,.string t130,.slice Ao13 t131.length co13] 24 (0,0)) kl hb);replace HB:=Aside0.mk (below_step bl hb);obtain⟨_,_,_,_,_,_⟩:=bc3 BK135.out;have p143:0≤(0:Int):=(by omega);have q143:0<(t131.length:Int):=of_decide_eq_true asm;obtain⟨ad143,A143_2,c143_2,e143,hx143_0,hx143_1,hx143_2,hl143_2,hi143_2⟩:=at_T24 (Kd.V_reads' HO133.out).2.2 0 p143 q143;cases e143;obtain⟨ce143,hce143,hMe143,hcc143⟩:=Kd.V_get HO133.out z24 0 p143 (by first|exact q143|exact of_decide_eq_true asm|(have e_:=(Kd.V_reads' HO133.out).1;omega));obtain⟨ua143_2,uc143_2,rfl,ul143_2,ge143_2⟩:=k24_openF hMe143;have hv143_2:=hcc143 2 _ rfl;rw [add_field _ _ 2 (by omega)] at hv143_2;replace hv143_2:=Option.some.inj (hv143_2.symm.trans hx143_2);injection hv143_2 with hva_ hvn_ hvc_;rw [hva_] at ge143_2;rw [hvc_] at ul143_2;have HL143_2:=Aside0.mk (show Kd.V k24 24 _ w.heap.size _ _ ((rd_T24 t131 0).f2) from Kd.V_mk ul143_2 ge143_2);clear hva_ hvn_ hvc_ ge143_2 ul143_2;clear hcc143 hce143;have qi143:(0<t131.length)=True:=eq_true (by omega);(try rw [show((0:Int)).toNat=0 from rfl] at hx143_0);(try rw [show 0*3=0 from rfl] at hx143_0);(try rw [Addr.add_zero'] at hx143_0);(try rw [show((0:Int)).toNat=0 from rfl] at hx143_1);(try rw [show 0*3=0 from rfl] at hx143_1);(try rw [Addr.add_zero'] at hx143_1);(try rw [show((0:Int)).toNat=0 from rfl] at hx143_2);(try rw [show 0*3=0 from rfl] at hx143_2);(try rw [Addr.add_zero'] at hx143_2);have HR143_2:=Aside0.mk hi143_2;have HC143_2:=Aside0.mk hl143_2;clear hi143_2 hl143_2;replace p143:=eq_true p143;replace q143:=eq_true q143))
 go_ret
 exact⟨ew,bl⟩
 }
 {
 have c9b0:(((rd_T24 t131 0).f1).toList == ([49,32,60,32,50]:List UInt8))=false:=beq_eq_false_iff_ne.mpr c9
 obtain rfl:=Option.some.inj H
 go_enter Tryd.func14,Tryd.ntmps14
 go_wp2_with (first|((with_reducible refine gate_callee (f:=10) rfl ?_);refine goesL_ (some 6) rfl rfl Tryd.func10 kr rfl #[.string (⟨#[60,97,32,120,61,34,49,34,62,32,60,98,62,49,32,38,108,116,59,32,50,60,47,98,62,60,99,47,62,60,47,97,62]⟩ : ByteArray)] rfl am ?_;(with_reducible refine(xml_Parse.calls k (⟨#[60,97,32,120,61,34,49,34,62,32,60,98,62,49,32,38,108,116,59,32,50,60,47,98,62,60,99,47,62,60,47,97,62]⟩ : ByteArray) t129 t130 t131 t134 _ gk A1.out).mono ?_);rintro e w18 ⟨v132,rfl,ho0,hb⟩;refine⟨_,rfl,?_⟩;have HO133:=Aside0.mk (Kd.V_lower (Kd.V_mono (ok':=fun k_=>True) ho0 (fun k_ hk_=>trivial)) (below_size bl));replace HB:=Aside0.mk (below_step bl hb))|((with_reducible refine gate_dst (N:=1) rfl ?_);(try (refine gate_guard (by rfl) ?_;dsimp only));refine box_event ?hg (N:=1) ?hd (cs:=#[.string (⟨#[]⟩ : ByteArray),.string (⟨#[]⟩ : ByteArray),.slice none 0 0]) (t:=24) ?hr ?_;(case hd=>rfl);(case hg=>rfl);(case hr=>first|(go_simp;done)|(go_simp;rfl));intro gb135 hg w19 hbox hb;replace HO133:=Aside0.mk (Kd.V_below (Kd.V_elderB (by(with_reducible repeat (first|apply Kd.V_alloc|apply Kd.V_drewN|apply Kd.V_drew));exact HO133.out) gb135 (Nat.le_of_eq hg.symm)) hb);have BK135:=Aside0.mk (hbox);have GW135:=Aside0.mk ((by rw [hg];exact(below_size bl):w.heap.size≤gb135));have GE135:=Aside0.mk ((by rw [hg];exact(below_size bl):w.heap.size≤gb135));replace HB:=Aside0.mk (below_step bl hb);clear hb hbox hg;obtain⟨_,_,_,_,_,_⟩:=bc3 BK135.out;obtain⟨Ao21,co21,eo21⟩:=Kd.V_slice HO133.out;subst eo21)|((with_reducible refine gate_callee (f:=23) rfl ?_);refine goesL_ (some 10) rfl rfl Tryd.func23 kr rfl #[.string (⟨#[97]⟩ : ByteArray),.string (⟨#[120,38,121]⟩ : ByteArray)] rfl am ?_;(with_reducible refine(xml_Of.calls (⟨#[97]⟩ : ByteArray) (⟨#[120,38,121]⟩ : ByteArray) t136 t137 t138 _ A2.out).mono ?_);rintro e w22 ⟨v139,rfl,ho0,hb⟩;refine⟨_,rfl,?_⟩;replace HO133:=Aside0.mk (Kd.V_elder' (by(with_reducible repeat (first|apply Kd.V_alloc|apply Kd.V_drewN|apply Kd.V_drew));exact(Kd.V_mono (Kd.V_far (p:=⟨gb135,2,none⟩) (Kd.V_far (p:=⟨gb135,1,none⟩) (Kd.V_far (p:=⟨gb135,0,none⟩) (Kd.V_mono HO133.out (fun k_ hk=>(⟨hk,hk.2⟩ : _∧k_≠gb135))) (fun _ hk=>hk.2) (.string t129)) (fun _ hk=>hk.2) (.string t130)) (fun _ hk=>hk.2) (.slice Ao21 t131.length co21)) (fun _ h_=>h_.1))) (by first|exact Kd.R_base ho0|exact Kd.R_base ho0) hb);have HO140:=Aside0.mk (Kd.R_lower (Kd.R_newB ho0 (g:=gb135) (o:=.cells #[.string t129,.string t130,.slice Ao21 t131.length co21] 24 (0,0)) (by(with_reducible repeat (first|refine blk_drewN ?_ _|refine blk_drew ?_|refine blk_alloc ?_ _));refine blk_put (cs:=#[.string t129,.string t130,.slice none 0 0]) ?_ 2 _ rfl;(with_reducible repeat (first|refine blk_drewN ?_ _|refine blk_drew ?_|refine blk_alloc ?_ _));refine blk_put (cs:=#[.string t129,.string (⟨#[]⟩ : ByteArray),.slice none 0 0]) ?_ 1 _ rfl;(with_reducible repeat (first|refine blk_drewN ?_ _|refine blk_drew ?_|refine blk_alloc ?_ _));refine blk_put (cs:=#[.string (⟨#[]⟩ : ByteArray),.string (⟨#[]⟩ : ByteArray),.slice none 0 0]) ?_ 0 _ rfl;(with_reducible repeat (first|refine blk_drewN ?_ _|refine blk_drew ?_|refine blk_alloc ?_ _));exact BK135.out)) (below_size bl));replace BK135:=Aside0.mk (blk_below (g:=gb135) (o:=.cells #[.string t129,.string t130,.slice Ao21 t131.length co21] 24 (0,0)) (by(with_reducible repeat (first|refine blk_drewN ?_ _|refine blk_drew ?_|refine blk_alloc ?_ _));refine blk_put (cs:=#[.string t129,.string t130,.slice none 0 0]) ?_ 2 _ rfl;(with_reducible repeat (first|refine blk_drewN ?_ _|refine blk_drew ?_|refine blk_alloc ?_ _));refine blk_put (cs:=#[.string t129,.string (⟨#[]⟩ : ByteArray),.slice none 0 0]) ?_ 1 _ rfl;(with_reducible repeat (first|refine blk_drewN ?_ _|refine blk_drew ?_|refine blk_alloc ?_ _));refine blk_put (cs:=#[.string (⟨#[]⟩ : ByteArray),.string (⟨#[]⟩ : ByteArray),.slice none 0 0]) ?_ 0 _ rfl;(with_reducible repeat (first|refine blk_drewN ?_ _|refine blk_drew ?_|refine blk_alloc ?_ _));exact BK135.out) hb);replace HB:=Aside0.mk (below_step bl hb);obtain⟨Ao23,co23,eo23⟩:=Kd.R_slice HO140.out;subst eo23)|((with_reducible refine gate_callee (f:=22) rfl ?_);refine goesL_ (some 11) rfl rfl Tryd.func22 kr rfl #[.agg #[.string t136,.string t137,.slice Ao23 t138.length co23],.bool false] rfl am ?_;(with_reducible refine(xml_Print.calls k t136 t137 _ _ t138 false t141 t142 _ ?side1 ?side2 A3.out).mono ?_);(case side1=>repeat (first|exact(Kd.R_reads' HO140.out).2.2|(with_reducible refine Kd.C_alloc ?_ _)|(with_reducible refine Kd.C_drewN ?_ _)|(with_reducible refine Kd.C_drew ?_)));(case side2=>exact(Kd.R_reads' HO140.out).2.1);rintro e w24 ⟨rfl,hb⟩;refine⟨_,rfl,?_⟩;replace HO133:=Aside0.mk (Kd.V_below (by(with_reducible repeat (first|apply Kd.V_alloc|apply Kd.V_drewN|apply Kd.V_drew));exact HO133.out) hb);replace HO140:=Aside0.mk (Kd.R_below rl hb);replace BK135:=Aside0.mk (blk_below (g:=gb135) (o:=.cells #[.string t129,.string t130,.slice Ao21 t131.length co21] 24 (0,0)) kl hb);replace HB:=Aside0.mk (below_step bl hb);obtain⟨_,_,_,_,_,_⟩:=bc3 BK135.out;have p143:0≤(0:Int):=(by omega);have q143:0<(t131.length:Int):=of_decide_eq_true asm;obtain⟨ad143,A143_2,c143_2,e143,hx143_0,hx143_1,hx143_2,hl143_2,hi143_2⟩:=at_T24 (Kd.V_reads' HO133.out).2.2 0 p143 q143;cases e143;obtain⟨ce143,hce143,hMe143,hcc143⟩:=Kd.V_get HO133.out z24 0 p143 (by first|exact q143|exact of_decide_eq_true asm|(have e_:=(Kd.V_reads' HO133.out).1;omega));obtain⟨ua143_2,uc143_2,rfl,ul143_2,ge143_2⟩:=k24_openF hMe143;have hv143_2:=hcc143 2 _ rfl;rw [add_field _ _ 2 (by omega)] at hv143_2;replace hv143_2:=Option.some.inj (hv143_2.symm.trans hx143_2);injection hv143_2 with hva_ hvn_ hvc_;rw [hva_] at ge143_2;rw [hvc_] at ul143_2;have HL143_2:=Aside0.mk (show Kd.V k24 24 _ w.heap.size _ _ ((rd_T24 t131 0).f2) from Kd.V_mk ul143_2 ge143_2);clear hva_ hvn_ hvc_ ge143_2 ul143_2;clear hcc143 hce143;have qi143:(0<t131.length)=True:=eq_true (by omega);(try rw [show((0:Int)).toNat=0 from rfl] at hx143_0);(try rw [show 0*3=0 from rfl] at hx143_0);(try rw [Addr.add_zero'] at hx143_0);(try rw [show((0:Int)).toNat=0 from rfl] at hx143_1);(try rw [show 0*3=0 from rfl] at hx143_1);(try rw [Addr.add_zero'] at hx143_1);(try rw [show((0:Int)).toNat=0 from rfl] at hx143_2);(try rw [show 0*3=0 from rfl] at hx143_2);(try rw [Addr.add_zero'] at hx143_2);have HR143_2:=Aside0.mk hi143_2;have HC143_2:=Aside0.mk hl143_2;clear hi143_2 hl143_2;replace p143:=eq_true p143;replace q143:=eq_true q143))
 go_ret
 exact⟨ew,bl⟩
 }
 }
 ·exact absurd H (by simp)
 }
 {
 have c7b0:((t131.length:Int) == 2)=false:=beq_eq_false_iff_ne.mpr c7
 obtain rfl:=Option.some.inj H
 go_enter Tryd.func14,Tryd.ntmps14
 go_wp2_with (first|((with_reducible refine gate_callee (f:=10) rfl ?_);refine goesL_ (some 6) rfl rfl Tryd.func10 kr rfl #[.string (⟨#[60,97,32,120,61,34,49,34,62,32,60,98,62,49,32,38,108,116,59,32,50,60,47,98,62,60,99,47,62,60,47,97,62]⟩ : ByteArray)] rfl am ?_;(with_reducible refine(xml_Parse.calls k (⟨#[60,97,32,120,61,34,49,34,62,32,60,98,62,49,32,38,108,116,59,32,50,60,47,98,62,60,99,47,62,60,47,97,62]⟩ : ByteArray) t129 t130 t131 t134 _ gk A1.out).mono ?_);rintro e w26 ⟨v132,rfl,ho0,hb⟩;refine⟨_,rfl,?_⟩;have HO133:=Aside0.mk (Kd.V_lower (Kd.V_mono (ok':=fun k_=>True) ho0 (fun k_ hk_=>trivial)) (below_size bl));replace HB:=Aside0.mk (below_step bl hb))|((with_reducible refine gate_dst (N:=1) rfl ?_);(try (refine gate_guard (by rfl) ?_;dsimp only));refine box_event ?hg (N:=1) ?hd (cs:=#[.string (⟨#[]⟩ : ByteArray),.string (⟨#[]⟩ : ByteArray),.slice none 0 0]) (t:=24) ?hr ?_;(case hd=>rfl);(case hg=>rfl);(case hr=>first|(go_simp;done)|(go_simp;rfl));intro gb135 hg w27 hbox hb;replace HO133:=Aside0.mk (Kd.V_below (Kd.V_elderB (by(with_reducible repeat (first|apply Kd.V_alloc|apply Kd.V_drewN|apply Kd.V_drew));exact HO133.out) gb135 (Nat.le_of_eq hg.symm)) hb);have BK135:=Aside0.mk (hbox);have GW135:=Aside0.mk ((by rw [hg];exact(below_size bl):w.heap.size≤gb135));have GE135:=Aside0.mk ((by rw [hg];exact(below_size bl):w.heap.size≤gb135));replace HB:=Aside0.mk (below_step bl hb);clear hb hbox hg;obtain⟨_,_,_,_,_,_⟩:=bc3 BK135.out;obtain⟨Ao29,co29,eo29⟩:=Kd.V_slice HO133.out;subst eo29)|((with_reducible refine gate_callee (f:=23) rfl ?_);refine goesL_ (some 10) rfl rfl Tryd.func23 kr rfl #[.string (⟨#[97]⟩ : ByteArray),.string (⟨#[120,38,121]⟩ : ByteArray)] rfl am ?_;(with_reducible refine(xml_Of.calls (⟨#[97]⟩ : ByteArray) (⟨#[120,38,121]⟩ : ByteArray) t136 t137 t138 _ A2.out).mono ?_);rintro e w30 ⟨v139,rfl,ho0,hb⟩;refine⟨_,rfl,?_⟩;replace HO133:=Aside0.mk (Kd.V_elder' (by(with_reducible repeat (first|apply Kd.V_alloc|apply Kd.V_drewN|apply Kd.V_drew));exact(Kd.V_mono (Kd.V_far (p:=⟨gb135,2,none⟩) (Kd.V_far (p:=⟨gb135,1,none⟩) (Kd.V_far (p:=⟨gb135,0,none⟩) (Kd.V_mono HO133.out (fun k_ hk=>(⟨hk,hk.2⟩ : _∧k_≠gb135))) (fun _ hk=>hk.2) (.string t129)) (fun _ hk=>hk.2) (.string t130)) (fun _ hk=>hk.2) (.slice Ao29 t131.length co29)) (fun _ h_=>h_.1))) (by first|exact Kd.R_base ho0|exact Kd.R_base ho0) hb);have HO140:=Aside0.mk (Kd.R_lower (Kd.R_newB ho0 (g:=gb135) (o:=.cells #[.string t129,.string t130,.slice Ao29 t131.length co29] 24 (0,0)) (by(with_reducible repeat (first|refine blk_drewN ?_ _|refine blk_drew ?_|refine blk_alloc ?_ _));refine blk_put (cs:=#[.string t129,.string t130,.slice none 0 0]) ?_ 2 _ rfl;(with_reducible repeat (first|refine blk_drewN ?_ _|refine blk_drew ?_|refine blk_alloc ?_ _));refine blk_put (cs:=#[.string t129,.string (⟨#[]⟩ : ByteArray),.slice none 0 0]) ?_ 1 _ rfl;(with_reducible repeat (first|refine blk_drewN ?_ _|refine blk_drew ?_|refine blk_alloc ?_ _));refine blk_put (cs:=#[.string (⟨#[]⟩ : ByteArray),.string (⟨#[]⟩ : ByteArray),.slice none 0 0]) ?_ 0 _ rfl;(with_reducible repeat (first|refine blk_drewN ?_ _|refine blk_drew ?_|refine blk_alloc ?_ _));exact BK135.out)) (below_size bl));replace BK135:=Aside0.mk (blk_below (g:=gb135) (o:=.cells #[.string t129,.string t130,.slice Ao29 t131.length co29] 24 (0,0)) (by(with_reducible repeat (first|refine blk_drewN ?_ _|refine blk_drew ?_|refine blk_alloc ?_ _));refine blk_put (cs:=#[.string t129,.string t130,.slice none 0 0]) ?_ 2 _ rfl;(with_reducible repeat (first|refine blk_drewN ?_ _|refine blk_drew ?_|refine blk_alloc ?_ _));refine blk_put (cs:=#[.string t129,.string (⟨#[]⟩ : ByteArray),.slice none 0 0]) ?_ 1 _ rfl;(with_reducible repeat (first|refine blk_drewN ?_ _|refine blk_drew ?_|refine blk_alloc ?_ _));refine blk_put (cs:=#[.string (⟨#[]⟩ : ByteArray),.string (⟨#[]⟩ : ByteArray),.slice none 0 0]) ?_ 0 _ rfl;(with_reducible repeat (first|refine blk_drewN ?_ _|refine blk_drew ?_|refine blk_alloc ?_ _));exact BK135.out) hb);replace HB:=Aside0.mk (below_step bl hb);obtain⟨Ao31,co31,eo31⟩:=Kd.R_slice HO140.out;subst eo31)|((with_reducible refine gate_callee (f:=22) rfl ?_);refine goesL_ (some 11) rfl rfl Tryd.func22 kr rfl #[.agg #[.string t136,.string t137,.slice Ao31 t138.length co31],.bool false] rfl am ?_;(with_reducible refine(xml_Print.calls k t136 t137 _ _ t138 false t141 t142 _ ?side1 ?side2 A3.out).mono ?_);(case side1=>repeat (first|exact(Kd.R_reads' HO140.out).2.2|(with_reducible refine Kd.C_alloc ?_ _)|(with_reducible refine Kd.C_drewN ?_ _)|(with_reducible refine Kd.C_drew ?_)));(case side2=>exact(Kd.R_reads' HO140.out).2.1);rintro e w32 ⟨rfl,hb⟩;refine⟨_,rfl,?_⟩;replace HO133:=Aside0.mk (Kd.V_below (by(with_reducible repeat (first|apply Kd.V_alloc|apply Kd.V_drewN|apply Kd.V_drew));exact HO133.out) hb);replace HO140:=Aside0.mk (Kd.R_below rl hb);replace BK135:=Aside0.mk (blk_below (g:=gb135) (o:=.cells #[.string t129,.string t130,.slice Ao29 t131.length co29] 24 (0,0)) kl hb);replace HB:=Aside0.mk (below_step bl hb);obtain⟨_,_,_,_,_,_⟩:=bc3 BK135.out))
 go_ret
 exact⟨ew,bl⟩
 }
 }
 {
 have c6b0:(t129.toList == ([97]:List UInt8))=false:=beq_eq_false_iff_ne.mpr c6
 obtain rfl:=Option.some.inj H
 go_enter Tryd.func14,Tryd.ntmps14
 go_wp2_with (first|((with_reducible refine gate_callee (f:=10) rfl ?_);refine goesL_ (some 6) rfl rfl Tryd.func10 kr rfl #[.string (⟨#[60,97,32,120,61,34,49,34,62,32,60,98,62,49,32,38,108,116,59,32,50,60,47,98,62,60,99,47,62,60,47,97,62]⟩ : ByteArray)] rfl am ?_;(with_reducible refine(xml_Parse.calls k (⟨#[60,97,32,120,61,34,49,34,62,32,60,98,62,49,32,38,108,116,59,32,50,60,47,98,62,60,99,47,62,60,47,97,62]⟩ : ByteArray) t129 t130 t131 t134 _ gk A1.out).mono ?_);rintro e w34 ⟨v132,rfl,ho0,hb⟩;refine⟨_,rfl,?_⟩;have HO133:=Aside0.mk (Kd.V_lower (Kd.V_mono (ok':=fun k_=>True) ho0 (fun k_ hk_=>trivial)) (below_size bl));replace HB:=Aside0.mk (below_step bl hb))|((with_reducible refine gate_dst (N:=1) rfl ?_);(try (refine gate_guard (by rfl) ?_;dsimp only));refine box_event ?hg (N:=1) ?hd (cs:=#[.string (⟨#[]⟩ : ByteArray),.string (⟨#[]⟩ : ByteArray),.slice none 0 0]) (t:=24) ?hr ?_;(case hd=>rfl);(case hg=>rfl);(case hr=>first|(go_simp;done)|(go_simp;rfl));intro gb135 hg w35 hbox hb;replace HO133:=Aside0.mk (Kd.V_below (Kd.V_elderB (by(with_reducible repeat (first|apply Kd.V_alloc|apply Kd.V_drewN|apply Kd.V_drew));exact HO133.out) gb135 (Nat.le_of_eq hg.symm)) hb);have BK135:=Aside0.mk (hbox);have GW135:=Aside0.mk ((by rw [hg];exact(below_size bl):w.heap.size≤gb135));have GE135:=Aside0.mk ((by rw [hg];exact(below_size bl):w.heap.size≤gb135));replace HB:=Aside0.mk (below_step bl hb);clear hb hbox hg;obtain⟨_,_,_,_,_,_⟩:=bc3 BK135.out;obtain⟨Ao37,co37,eo37⟩:=Kd.V_slice HO133.out;subst eo37)|((with_reducible refine gate_callee (f:=23) rfl ?_);refine goesL_ (some 10) rfl rfl Tryd.func23 kr rfl #[.string (⟨#[97]⟩ : ByteArray),.string (⟨#[120,38,121]⟩ : ByteArray)] rfl am ?_;(with_reducible refine(xml_Of.calls (⟨#[97]⟩ : ByteArray) (⟨#[120,38,121]⟩ : ByteArray) t136 t137 t138 _ A2.out).mono ?_);rintro e w38 ⟨v139,rfl,ho0,hb⟩;refine⟨_,rfl,?_⟩;replace HO133:=Aside0.mk (Kd.V_elder' (by(with_reducible repeat (first|apply Kd.V_alloc|apply Kd.V_drewN|apply Kd.V_drew));exact(Kd.V_mono (Kd.V_far (p:=⟨gb135,2,none⟩) (Kd.V_far (p:=⟨gb135,1,none⟩) (Kd.V_far (p:=⟨gb135,0,none⟩) (Kd.V_mono HO133.out (fun k_ hk=>(⟨hk,hk.2⟩ : _∧k_≠gb135))) (fun _ hk=>hk.2) (.string t129)) (fun _ hk=>hk.2) (.string t130)) (fun _ hk=>hk.2) (.slice Ao37 t131.length co37)) (fun _ h_=>h_.1))) (by first|exact Kd.R_base ho0|exact Kd.R_base ho0) hb);have HO140:=Aside0.mk (Kd.R_lower (Kd.R_newB ho0 (g:=gb135) (o:=.cells #[.string t129,.string t130,.slice Ao37 t131.length co37] 24 (0,0)) (by(with_reducible repeat (first|refine blk_drewN ?_ _|refine blk_drew ?_|refine blk_alloc ?_ _));refine blk_put (cs:=#[.string t129,.string t130,.slice none 0 0]) ?_ 2 _ rfl;(with_reducible repeat (first|refine blk_drewN ?_ _|refine blk_drew ?_|refine blk_alloc ?_ _));refine blk_put (cs:=#[.string t129,.string (⟨#[]⟩ : ByteArray),.slice none 0 0]) ?_ 1 _ rfl;(with_reducible repeat (first|refine blk_drewN ?_ _|refine blk_drew ?_|refine blk_alloc ?_ _));refine blk_put (cs:=#[.string (⟨#[]⟩ : ByteArray),.string (⟨#[]⟩ : ByteArray),.slice none 0 0]) ?_ 0 _ rfl;(with_reducible repeat (first|refine blk_drewN ?_ _|refine blk_drew ?_|refine blk_alloc ?_ _));exact BK135.out)) (below_size bl));replace BK135:=Aside0.mk (blk_below (g:=gb135) (o:=.cells #[.string t129,.string t130,.slice Ao37 t131.length co37] 24 (0,0)) (by(with_reducible repeat (first|refine blk_drewN ?_ _|refine blk_drew ?_|refine blk_alloc ?_ _));refine blk_put (cs:=#[.string t129,.string t130,.slice none 0 0]) ?_ 2 _ rfl;(with_reducible repeat (first|refine blk_drewN ?_ _|refine blk_drew ?_|refine blk_alloc ?_ _));refine blk_put (cs:=#[.string t129,.string (⟨#[]⟩ : ByteArray),.slice none 0 0]) ?_ 1 _ rfl;(with_reducible repeat (first|refine blk_drewN ?_ _|refine blk_drew ?_|refine blk_alloc ?_ _));refine blk_put (cs:=#[.string (⟨#[]⟩ : ByteArray),.string (⟨#[]⟩ : ByteArray),.slice none 0 0]) ?_ 0 _ rfl;(with_reducible repeat (first|refine blk_drewN ?_ _|refine blk_drew ?_|refine blk_alloc ?_ _));exact BK135.out) hb);replace HB:=Aside0.mk (below_step bl hb);obtain⟨Ao39,co39,eo39⟩:=Kd.R_slice HO140.out;subst eo39)|((with_reducible refine gate_callee (f:=22) rfl ?_);refine goesL_ (some 11) rfl rfl Tryd.func22 kr rfl #[.agg #[.string t136,.string t137,.slice Ao39 t138.length co39],.bool false] rfl am ?_;(with_reducible refine(xml_Print.calls k t136 t137 _ _ t138 false t141 t142 _ ?side1 ?side2 A3.out).mono ?_);(case side1=>repeat (first|exact(Kd.R_reads' HO140.out).2.2|(with_reducible refine Kd.C_alloc ?_ _)|(with_reducible refine Kd.C_drewN ?_ _)|(with_reducible refine Kd.C_drew ?_)));(case side2=>exact(Kd.R_reads' HO140.out).2.1);rintro e w40 ⟨rfl,hb⟩;refine⟨_,rfl,?_⟩;replace HO133:=Aside0.mk (Kd.V_below (by(with_reducible repeat (first|apply Kd.V_alloc|apply Kd.V_drewN|apply Kd.V_drew));exact HO133.out) hb);replace HO140:=Aside0.mk (Kd.R_below rl hb);replace BK135:=Aside0.mk (blk_below (g:=gb135) (o:=.cells #[.string t129,.string t130,.slice Ao37 t131.length co37] 24 (0,0)) kl hb);replace HB:=Aside0.mk (below_step bl hb);obtain⟨_,_,_,_,_,_⟩:=bc3 BK135.out))
 go_ret
 exact⟨ew,bl⟩
 }
 }
 {
 have c5b0:(t142 == 0)=false:=beq_eq_false_iff_ne.mpr c5
 obtain rfl:=Option.some.inj H
 go_enter Tryd.func14,Tryd.ntmps14
 go_wp2_with (first|((with_reducible refine gate_callee (f:=10) rfl ?_);refine goesL_ (some 6) rfl rfl Tryd.func10 kr rfl #[.string (⟨#[60,97,32,120,61,34,49,34,62,32,60,98,62,49,32,38,108,116,59,32,50,60,47,98,62,60,99,47,62,60,47,97,62]⟩ : ByteArray)] rfl am ?_;(with_reducible refine(xml_Parse.calls k (⟨#[60,97,32,120,61,34,49,34,62,32,60,98,62,49,32,38,108,116,59,32,50,60,47,98,62,60,99,47,62,60,47,97,62]⟩ : ByteArray) t129 t130 t131 t134 _ gk A1.out).mono ?_);rintro e w42 ⟨v132,rfl,ho0,hb⟩;refine⟨_,rfl,?_⟩;have HO133:=Aside0.mk (Kd.V_lower (Kd.V_mono (ok':=fun k_=>True) ho0 (fun k_ hk_=>trivial)) (below_size bl));replace HB:=Aside0.mk (below_step bl hb))|((with_reducible refine gate_dst (N:=1) rfl ?_);(try (refine gate_guard (by rfl) ?_;dsimp only));refine box_event ?hg (N:=1) ?hd (cs:=#[.string (⟨#[]⟩ : ByteArray),.string (⟨#[]⟩ : ByteArray),.slice none 0 0]) (t:=24) ?hr ?_;(case hd=>rfl);(case hg=>rfl);(case hr=>first|(go_simp;done)|(go_simp;rfl));intro gb135 hg w43 hbox hb;replace HO133:=Aside0.mk (Kd.V_below (Kd.V_elderB (by(with_reducible repeat (first|apply Kd.V_alloc|apply Kd.V_drewN|apply Kd.V_drew));exact HO133.out) gb135 (Nat.le_of_eq hg.symm)) hb);have BK135:=Aside0.mk (hbox);have GW135:=Aside0.mk ((by rw [hg];exact(below_size bl):w.heap.size≤gb135));have GE135:=Aside0.mk ((by rw [hg];exact(below_size bl):w.heap.size≤gb135));replace HB:=Aside0.mk (below_step bl hb);clear hb hbox hg;obtain⟨_,_,_,_,_,_⟩:=bc3 BK135.out;obtain⟨Ao45,co45,eo45⟩:=Kd.V_slice HO133.out;subst eo45)|((with_reducible refine gate_callee (f:=23) rfl ?_);refine goesL_ (some 10) rfl rfl Tryd.func23 kr rfl #[.string (⟨#[97]⟩ : ByteArray),.string (⟨#[120,38,121]⟩ : ByteArray)] rfl am ?_;(with_reducible refine(xml_Of.calls (⟨#[97]⟩ : ByteArray) (⟨#[120,38,121]⟩ : ByteArray) t136 t137 t138 _ A2.out).mono ?_);rintro e w46 ⟨v139,rfl,ho0,hb⟩;refine⟨_,rfl,?_⟩;replace HO133:=Aside0.mk (Kd.V_elder' (by(with_reducible repeat (first|apply Kd.V_alloc|apply Kd.V_drewN|apply Kd.V_drew));exact(Kd.V_mono (Kd.V_far (p:=⟨gb135,2,none⟩) (Kd.V_far (p:=⟨gb135,1,none⟩) (Kd.V_far (p:=⟨gb135,0,none⟩) (Kd.V_mono HO133.out (fun k_ hk=>(⟨hk,hk.2⟩ : _∧k_≠gb135))) (fun _ hk=>hk.2) (.string t129)) (fun _ hk=>hk.2) (.string t130)) (fun _ hk=>hk.2) (.slice Ao45 t131.length co45)) (fun _ h_=>h_.1))) (by first|exact Kd.R_base ho0|exact Kd.R_base ho0) hb);have HO140:=Aside0.mk (Kd.R_lower (Kd.R_newB ho0 (g:=gb135) (o:=.cells #[.string t129,.string t130,.slice Ao45 t131.length co45] 24 (0,0)) (by(with_reducible repeat (first|refine blk_drewN ?_ _|refine blk_drew ?_|refine blk_alloc ?_ _));refine blk_put (cs:=#[.string t129,.string t130,.slice none 0 0]) ?_ 2 _ rfl;(with_reducible repeat (first|refine blk_drewN ?_ _|refine blk_drew ?_|refine blk_alloc ?_ _));refine blk_put (cs:=#[.string t129,.string (⟨#[]⟩ : ByteArray),.slice none 0 0]) ?_ 1 _ rfl;(with_reducible repeat (first|refine blk_drewN ?_ _|refine blk_drew ?_|refine blk_alloc ?_ _));refine blk_put (cs:=#[.string (⟨#[]⟩ : ByteArray),.string (⟨#[]⟩ : ByteArray),.slice none 0 0]) ?_ 0 _ rfl;(with_reducible repeat (first|refine blk_drewN ?_ _|refine blk_drew ?_|refine blk_alloc ?_ _));exact BK135.out)) (below_size bl));replace BK135:=Aside0.mk (blk_below (g:=gb135) (o:=.cells #[.string t129,.string t130,.slice Ao45 t131.length co45] 24 (0,0)) (by(with_reducible repeat (first|refine blk_drewN ?_ _|refine blk_drew ?_|refine blk_alloc ?_ _));refine blk_put (cs:=#[.string t129,.string t130,.slice none 0 0]) ?_ 2 _ rfl;(with_reducible repeat (first|refine blk_drewN ?_ _|refine blk_drew ?_|refine blk_alloc ?_ _));refine blk_put (cs:=#[.string t129,.string (⟨#[]⟩ : ByteArray),.slice none 0 0]) ?_ 1 _ rfl;(with_reducible repeat (first|refine blk_drewN ?_ _|refine blk_drew ?_|refine blk_alloc ?_ _));refine blk_put (cs:=#[.string (⟨#[]⟩ : ByteArray),.string (⟨#[]⟩ : ByteArray),.slice none 0 0]) ?_ 0 _ rfl;(with_reducible repeat (first|refine blk_drewN ?_ _|refine blk_drew ?_|refine blk_alloc ?_ _));exact BK135.out) hb);replace HB:=Aside0.mk (below_step bl hb);obtain⟨Ao47,co47,eo47⟩:=Kd.R_slice HO140.out;subst eo47)|((with_reducible refine gate_callee (f:=22) rfl ?_);refine goesL_ (some 11) rfl rfl Tryd.func22 kr rfl #[.agg #[.string t136,.string t137,.slice Ao47 t138.length co47],.bool false] rfl am ?_;(with_reducible refine(xml_Print.calls k t136 t137 _ _ t138 false t141 t142 _ ?side1 ?side2 A3.out).mono ?_);(case side1=>repeat (first|exact(Kd.R_reads' HO140.out).2.2|(with_reducible refine Kd.C_alloc ?_ _)|(with_reducible refine Kd.C_drewN ?_ _)|(with_reducible refine Kd.C_drew ?_)));(case side2=>exact(Kd.R_reads' HO140.out).2.1);rintro e w48 ⟨rfl,hb⟩;refine⟨_,rfl,?_⟩;replace HO133:=Aside0.mk (Kd.V_below (by(with_reducible repeat (first|apply Kd.V_alloc|apply Kd.V_drewN|apply Kd.V_drew));exact HO133.out) hb);replace HO140:=Aside0.mk (Kd.R_below rl hb);replace BK135:=Aside0.mk (blk_below (g:=gb135) (o:=.cells #[.string t129,.string t130,.slice Ao45 t131.length co45] 24 (0,0)) kl hb);replace HB:=Aside0.mk (below_step bl hb)))
 go_ret
 exact⟨ew,bl⟩
 }
 }
 {
 have c4b0:(t134 == 0)=false:=beq_eq_false_iff_ne.mpr c4
 obtain rfl:=Option.some.inj H
 go_enter Tryd.func14,Tryd.ntmps14
 go_wp2_with (first|((with_reducible refine gate_callee (f:=10) rfl ?_);refine goesL_ (some 6) rfl rfl Tryd.func10 kr rfl #[.string (⟨#[60,97,32,120,61,34,49,34,62,32,60,98,62,49,32,38,108,116,59,32,50,60,47,98,62,60,99,47,62,60,47,97,62]⟩ : ByteArray)] rfl am ?_;(with_reducible refine(xml_Parse.calls k (⟨#[60,97,32,120,61,34,49,34,62,32,60,98,62,49,32,38,108,116,59,32,50,60,47,98,62,60,99,47,62,60,47,97,62]⟩ : ByteArray) t129 t130 t131 t134 _ gk A1.out).mono ?_);rintro e w49 ⟨v132,rfl,ho0,hb⟩;refine⟨_,rfl,?_⟩;have HO133:=Aside0.mk (Kd.V_lower (Kd.V_mono (ok':=fun k_=>True) ho0 (fun k_ hk_=>trivial)) (below_size bl));replace HB:=Aside0.mk (below_step bl hb))|((with_reducible refine gate_dst (N:=1) rfl ?_);(try (refine gate_guard (by rfl) ?_;dsimp only));refine box_event ?hg (N:=1) ?hd (cs:=#[.string (⟨#[]⟩ : ByteArray),.string (⟨#[]⟩ : ByteArray),.slice none 0 0]) (t:=24) ?hr ?_;(case hd=>rfl);(case hg=>rfl);(case hr=>first|(go_simp;done)|(go_simp;rfl));intro gb135 hg w50 hbox hb;replace HO133:=Aside0.mk (Kd.V_below (Kd.V_elderB (by(with_reducible repeat (first|apply Kd.V_alloc|apply Kd.V_drewN|apply Kd.V_drew));exact HO133.out) gb135 (Nat.le_of_eq hg.symm)) hb);have BK135:=Aside0.mk (hbox);have GW135:=Aside0.mk ((by rw [hg];exact(below_size bl):w.heap.size≤gb135));have GE135:=Aside0.mk ((by rw [hg];exact(below_size bl):w.heap.size≤gb135));replace HB:=Aside0.mk (below_step bl hb);clear hb hbox hg;obtain⟨_,_,_,_,_,_⟩:=bc3 BK135.out;obtain⟨Ao52,co52,eo52⟩:=Kd.V_slice HO133.out;subst eo52)|((with_reducible refine gate_callee (f:=23) rfl ?_);refine goesL_ (some 10) rfl rfl Tryd.func23 kr rfl #[.string (⟨#[97]⟩ : ByteArray),.string (⟨#[120,38,121]⟩ : ByteArray)] rfl am ?_;(with_reducible refine(xml_Of.calls (⟨#[97]⟩ : ByteArray) (⟨#[120,38,121]⟩ : ByteArray) t136 t137 t138 _ A2.out).mono ?_);rintro e w53 ⟨v139,rfl,ho0,hb⟩;refine⟨_,rfl,?_⟩;replace HO133:=Aside0.mk (Kd.V_elder' (by(with_reducible repeat (first|apply Kd.V_alloc|apply Kd.V_drewN|apply Kd.V_drew));exact(Kd.V_mono (Kd.V_far (p:=⟨gb135,2,none⟩) (Kd.V_far (p:=⟨gb135,1,none⟩) (Kd.V_far (p:=⟨gb135,0,none⟩) (Kd.V_mono HO133.out (fun k_ hk=>(⟨hk,hk.2⟩ : _∧k_≠gb135))) (fun _ hk=>hk.2) (.string t129)) (fun _ hk=>hk.2) (.string t130)) (fun _ hk=>hk.2) (.slice Ao52 t131.length co52)) (fun _ h_=>h_.1))) (by first|exact Kd.R_base ho0|exact Kd.R_base ho0) hb);have HO140:=Aside0.mk (Kd.R_lower (Kd.R_newB ho0 (g:=gb135) (o:=.cells #[.string t129,.string t130,.slice Ao52 t131.length co52] 24 (0,0)) (by(with_reducible repeat (first|refine blk_drewN ?_ _|refine blk_drew ?_|refine blk_alloc ?_ _));refine blk_put (cs:=#[.string t129,.string t130,.slice none 0 0]) ?_ 2 _ rfl;(with_reducible repeat (first|refine blk_drewN ?_ _|refine blk_drew ?_|refine blk_alloc ?_ _));refine blk_put (cs:=#[.string t129,.string (⟨#[]⟩ : ByteArray),.slice none 0 0]) ?_ 1 _ rfl;(with_reducible repeat (first|refine blk_drewN ?_ _|refine blk_drew ?_|refine blk_alloc ?_ _));refine blk_put (cs:=#[.string (⟨#[]⟩ : ByteArray),.string (⟨#[]⟩ : ByteArray),.slice none 0 0]) ?_ 0 _ rfl;(with_reducible repeat (first|refine blk_drewN ?_ _|refine blk_drew ?_|refine blk_alloc ?_ _));exact BK135.out)) (below_size bl));replace BK135:=Aside0.mk (blk_below (g:=gb135) (o:=.cells #[.string t129,.string t130,.slice Ao52 t131.length co52] 24 (0,0)) (by(with_reducible repeat (first|refine blk_drewN ?_ _|refine blk_drew ?_|refine blk_alloc ?_ _));refine blk_put (cs:=#[.string t129,.string t130,.slice none 0 0]) ?_ 2 _ rfl;(with_reducible repeat (first|refine blk_drewN ?_ _|refine blk_drew ?_|refine blk_alloc ?_ _));refine blk_put (cs:=#[.string t129,.string (⟨#[]⟩ : ByteArray),.slice none 0 0]) ?_ 1 _ rfl;(with_reducible repeat (first|refine blk_drewN ?_ _|refine blk_drew ?_|refine blk_alloc ?_ _));refine blk_put (cs:=#[.string (⟨#[]⟩ : ByteArray),.string (⟨#[]⟩ : ByteArray),.slice none 0 0]) ?_ 0 _ rfl;(with_reducible repeat (first|refine blk_drewN ?_ _|refine blk_drew ?_|refine blk_alloc ?_ _));exact BK135.out) hb);replace HB:=Aside0.mk (below_step bl hb);obtain⟨Ao54,co54,eo54⟩:=Kd.R_slice HO140.out;subst eo54)|((with_reducible refine gate_callee (f:=22) rfl ?_);refine goesL_ (some 11) rfl rfl Tryd.func22 kr rfl #[.agg #[.string t136,.string t137,.slice Ao54 t138.length co54],.bool false] rfl am ?_;(with_reducible refine(xml_Print.calls k t136 t137 _ _ t138 false t141 t142 _ ?side1 ?side2 A3.out).mono ?_);(case side1=>repeat (first|exact(Kd.R_reads' HO140.out).2.2|(with_reducible refine Kd.C_alloc ?_ _)|(with_reducible refine Kd.C_drewN ?_ _)|(with_reducible refine Kd.C_drew ?_)));(case side2=>exact(Kd.R_reads' HO140.out).2.1);rintro e w55 ⟨rfl,hb⟩;refine⟨_,rfl,?_⟩;replace HO133:=Aside0.mk (Kd.V_below (by(with_reducible repeat (first|apply Kd.V_alloc|apply Kd.V_drewN|apply Kd.V_drew));exact HO133.out) hb);replace HO140:=Aside0.mk (Kd.R_below rl hb);replace BK135:=Aside0.mk (blk_below (g:=gb135) (o:=.cells #[.string t129,.string t130,.slice Ao52 t131.length co52] 24 (0,0)) kl hb);replace HB:=Aside0.mk (below_step bl hb)))
 go_ret
 exact⟨ew,bl⟩
 }
def stowagelaw13_XmlPrints.f (k:Nat) (a0_0:ByteArray) (a0_1:ByteArray) (l0_2:List (S24)) (a1:Bool) (a2:ByteArray):Option (Bool):=(stowagelaw13_Deep.f k a0_0 a0_1 l0_2 40).bind fun t322=>(if t322>40 then((stowagelaw13_awake.f k).bind fun t323=>(some t323)) else((xml_Print.f k a0_0 a0_1 l0_2 a1).bind fun bt324=>((stowagelaw13_To.f k a0_0 a0_1 l0_2).bind fun bt326=>((stowageref13_Print.f k bt326.1 bt326.2.1 bt326.2.2 a1).bind fun bt331=>((xml_Kid.f k a0_0 a0_1 l0_2 a2).bind fun bt333=>((stowagelaw13_To.f k a0_0 a0_1 l0_2).bind fun bt340=>((stowageref13_Kid.f k bt340.1 bt340.2.1 bt340.2.2 a2).bind fun bt345=>((xml_Of.f a2 bt324.1).bind fun bt352=>(if bt324.1.toList=bt331.1.toList then(if bt324.2=bt331.2 then((stowagelaw13_To.f k bt333.1 bt333.2.1 bt333.2.2.1).bind fun bt358=>((stowageref13_Same.f k bt358.1 bt358.2.1 bt358.2.2 bt345.1 bt345.2.1 bt345.2.2.1).bind fun t363=>(if t363=true then(if(bt333.2.2.2 == bt345.2.2.2)=true then(if bt352.1.toList=a2.toList then(if bt352.2.1.toList=bt324.1.toList then(if(bt352.2.2.length:Int)=0 then((stowagelaw13_awake.f k).bind fun t364=>(some t364)) else(some false)) else(some false)) else(some false)) else(some false)) else(some false)))) else(some false)) else(some false))))))))))
theorem stowagelaw13_XmlPrints.mono:∀ a0 a1 a2 a3 a4 k,LeO (stowagelaw13_XmlPrints.f k a0 a1 a2 a3 a4) (stowagelaw13_XmlPrints.f (k+1) a0 a1 a2 a3 a4):=by
 intro a0 a1 a2 a3 a4 k
 unfold stowagelaw13_XmlPrints.f
 repeat' first
   | (with_reducible exact stowagelaw13_Deep.mono _ _ _ _ _)
   | (with_reducible exact stowagelaw13_To.mono _ _ _ _)
   | (with_reducible exact stowagelaw13_awake.mono _)
   | (with_reducible exact stowageref13_Kid.mono _ _ _ _ _)
   | (with_reducible exact stowageref13_Print.mono _ _ _ _ _)
   | (with_reducible exact stowageref13_Same.mono _ _ _ _ _ _ _)
   | (with_reducible exact xml_Kid.mono _ _ _ _ _)
   | (with_reducible exact xml_Print.mono _ _ _ _ _)
   | (with_reducible exact LeO.refl _)
   | (with_reducible exact LeO.none _)
   | (with_reducible refine LeO.ite ?_ ?_)
   | (with_reducible refine LeO.bind ?_ (fun _=>?_))
   | exact stowagelaw13_Deep.mono _ _ _ _ _
   | exact stowagelaw13_To.mono _ _ _ _
   | exact stowagelaw13_awake.mono _
   | exact stowageref13_Kid.mono _ _ _ _ _
   | exact stowageref13_Print.mono _ _ _ _ _
   | exact stowageref13_Same.mono _ _ _ _ _ _ _
   | exact xml_Kid.mono _ _ _ _ _
   | exact xml_Print.mono _ _ _ _ _
   | exact LeO.none _
   | refine LeO.ite ?_ ?_
   | refine LeO.bind ?_ (fun _=>?_)
def stowagelaw13_XmlPrints.T8:Bool×List (List Nat×List Nat):=(true,[([],[]),([],[]),([0,1],[0,1]),([2],[2]),([3],[3]),([3],[3]),([4,5,3],[3,4,5]),([3,6],[3,6]),([7,3],[7]),([8],[8]),([9,8,8],[8,9]),([8],[8]),([10,11,10,8],[8,10,11]),([8,12],[8,12]),([13,12],[13]),([14],[14]),([14],[14]),([15,16,14],[14,15,16]),([14,17],[14,17]),([18,14],[18]),([19],[19]),([20,19],[19,20]),([19],[19]),([21,22,19],[19,21,22]),([19,23],[19,23]),([24,19],[24]),([25],[25]),([26,25],[25,26]),([25],[25]),([27,28,25],[25,27,28]),([25,29],[25,29]),([30,25],[30]),([31],[31]),([32,31],[31,32]),([33,31],[31,33]),([34,31],[31,34]),([31,35],[31,35]),([36,31],[36]),([37,37],[37]),([37,38],[37,38]),([39,38,0,1,2,3,4,5,6,7,8,9,10,11,12,13,14,15,16,17,18,19,20,21,22,23,24,25,26,27,28,29,30,31,32,33,34,35,36,37,38,39],[39])])
def stowagelaw13_XmlPrints.B8:List Nat:=[0,0,3,7,15,15,63,127,255,511,1023,511,4095,8191,16383,32767,32767,131071,262143,524287,1048575,2097151,1048575,8388607,16777215,33554431,67108863,134217727,67108863,536870911,1073741823,2147483647,4294967295,8589934591,17179869183,34359738367,68719476735,137438953471,274877906943,549755813887,1099511627775]
theorem stowagelaw13_XmlPrints.tab8:rtab .any (opsOf Tryd.f9 8)=stowagelaw13_XmlPrints.T8:=by kernel_rfl
theorem stowagelaw13_XmlPrints.bits8:waitsOk stowagelaw13_XmlPrints.T8.2 stowagelaw13_XmlPrints.B8=true:=by kernel_rfl
theorem stowagelaw13_XmlPrints.calls (k:Nat) (a0_0:ByteArray) (a0_1:ByteArray) (A0_2:Option Addr) (c0_2:Nat) (l0_2:List (S24)) (a1:Bool) (a2:ByteArray) (r:Bool) (w:World) (hr0_2:Kd.C k24 w A0_2 l0_2.length l0_2) (hc0_2:l0_2.length≤c0_2) (hG:GOk w) (h:stowagelaw13_XmlPrints.f k a0_0 a0_1 l0_2 a1 a2=some r) (hr:r=true) :
  Calls Tryd.prog 9 #[.agg #[.string a0_0,.string a0_1,.slice A0_2 l0_2.length c0_2],.bool a1,.string a2] w fun e w'=>e = .returned (.bool r)∧Below w.heap.size w w':=by
 have hu24:=Tryd.underlying24
 have hu30:=Tryd.underlying30
 have HR0_2:=Aside0.mk hr0_2
 have HC0_2:=Aside0.mk hc0_2
 clear hr0_2 hc0_2
 have HB:=Aside0.mk (Below.refl w.heap.size w)
 unfold stowagelaw13_XmlPrints.f at h
 have H:=h
 clear h
 replace H:=bndO H
 obtain⟨t322,A40,H⟩:=H
 have A4:=Aside0.mk A40
 clear A40
 replace H:=itO H
 rcases H with⟨c5,H⟩|⟨c5,H⟩
 ·skip
  have c5b0:decide (40<t322)=true:=decide_eq_true c5
  clear c5
  replace H:=bndO H
  obtain⟨t323,A60,H⟩:=H
  have A6:=Aside0.mk A60
  clear A60
  clear hr
  obtain rfl:=Option.some.inj H
  go_enter Tryd.func9,Tryd.ntmps9
  go_wp2_with (first|((with_reducible refine gate_dst (N:=3) rfl ?_);(try (refine gate_guard (by rfl) ?_;dsimp only));refine box_event ?hg (N:=3) ?hd (cs:=#[.string a0_0,.string a0_1,.slice A0_2 l0_2.length c0_2]) (t:=24) ?hr ?_;(case hd=>rfl);(case hg=>rfl);(case hr=>first|(go_simp;done)|(go_simp;rfl));intro gb321 hg w7 hbox hb;have n0_:=Aside0.mk (below_step (by repeat (first|(with_reducible first|exact HB.out|apply below_alloc|apply pw_below_drewN|apply below_drew1)|exact HB.out)) hb);have n1_:=Aside0.mk (hbox);have n2_:=Aside0.mk ((by rw [hg];exact(below_size (by repeat (first|(with_reducible first|exact HB.out|apply below_alloc|apply pw_below_drewN|apply below_drew1)|exact HB.out))):w.heap.size≤gb321));have n3_:=Aside0.mk ((by rw [hg];exact(below_size (by repeat (first|(with_reducible first|exact HB.out|apply below_alloc|apply pw_below_drewN|apply below_drew1)|exact HB.out))):w.heap.size≤gb321));clear HB;have HB:=n0_;have BK321:=n1_;have GW321:=n2_;have GE321:=n3_;clear n0_ n1_ n2_ n3_;clear hb hbox hg;have hcz8_0:w7.cell? ⟨gb321,0,none⟩=some (.string a0_0):=(blk_cell BK321.out 0).trans rfl;have hcz8_1:w7.cell? ⟨gb321,1,none⟩=some (.string a0_1):=(blk_cell BK321.out 1).trans rfl;have hcz8_2:w7.cell? ⟨gb321,2,none⟩=some (.slice A0_2 l0_2.length c0_2):=(blk_cell BK321.out 2).trans rfl;have hfz8_0:=blk_frozen BK321.out 0;have hfz8_1:=blk_frozen BK321.out 1;have hfz8_2:=blk_frozen BK321.out 2)|((with_reducible refine gate_callee (f:=21) rfl ?_);refine goesL_ (some 17) rfl rfl Tryd.func21 (by kernel_rfl) rfl #[.agg #[.string a0_0,.string a0_1,.slice A0_2 l0_2.length c0_2],.int .i64 40] rfl (by(try simp only [List.map_toArray,List.map_cons,List.map_nil]);first|done|rfl|(simp only [List.length_drop,List.length_take];rfl)) ?_;(with_reducible refine(stowagelaw13_Deep.calls k a0_0 a0_1 _ _ l0_2 40 t322 _ ?side1 ?side2 A4.out).mono ?_);(case side1=>repeat (first|exact(Kd.C_below HR0_2.out HB.out)|(with_reducible refine Kd.C_alloc ?_ _)|(with_reducible refine Kd.C_drewN ?_ _)|(with_reducible refine Kd.C_drew ?_)));(case side2=>exact HC0_2.out);rintro e w9 ⟨rfl,hb⟩;refine⟨_,rfl,?_⟩;have n0_:=Aside0.mk (blk_below (g:=gb321) (o:=.cells #[.string a0_0,.string a0_1,.slice A0_2 l0_2.length c0_2] 24 (0,0)) (by(with_reducible repeat (first|refine blk_drewN ?_ _|refine blk_drew ?_|refine blk_alloc ?_ _));exact BK321.out) hb);have n1_:=Aside0.mk (below_step (by repeat (first|(with_reducible first|exact HB.out|apply below_alloc|apply pw_below_drewN|apply below_drew1|refine below_set ?_ GE321.out)|exact HB.out)) hb);clear BK321;clear HB;have BK321:=n0_;have HB:=n1_;clear n0_ n1_;(try clear hb);(try clear hb2);(try clear hk);(try clear hi))|((with_reducible refine gate_callee (f:=14) rfl ?_);refine goesL_ (some 19) rfl rfl Tryd.func14 (by kernel_rfl) rfl #[] rfl (by(try simp only [List.map_toArray,List.map_cons,List.map_nil]);first|done|rfl|(simp only [List.length_drop,List.length_take];rfl)) ?_;(with_reducible refine(stowagelaw13_awake.calls k  t323 _ (by first|exact hG|exact gok_below hG (by repeat (first|(with_reducible first|exact HB.out|apply below_alloc|apply pw_below_drewN|apply below_drew1|refine below_set ?_ GE321.out)|exact HB.out))|exact gok_heap hG rfl|exact gok_drewN hG _|exact gok_below hG (by repeat (first|exact HB.out|exact HBW.out|exact Below.refl _ _|apply below_alloc|apply pw_below_drewN|apply below_drew1))) A6.out).mono ?_);rintro e w10 ⟨rfl,hb⟩;refine⟨_,rfl,?_⟩;have n0_:=Aside0.mk (blk_below (g:=gb321) (o:=.cells #[.string a0_0,.string a0_1,.slice A0_2 l0_2.length c0_2] 24 (0,0)) (by(with_reducible repeat (first|refine blk_drewN ?_ _|refine blk_drew ?_|refine blk_alloc ?_ _));exact BK321.out) hb);have n1_:=Aside0.mk (below_step (by repeat (first|(with_reducible first|exact HB.out|apply below_alloc|apply pw_below_drewN|apply below_drew1|refine below_set ?_ GE321.out)|exact HB.out)) hb);clear BK321;clear HB;have BK321:=n0_;have HB:=n1_;clear n0_ n1_;(try clear hb);(try clear hb2);(try clear hk);(try clear hi)))
  go_ret
  exact⟨by first|rfl|(simp [errW_none,errW_some] <;> rfl)|(simp [*,errW_none,errW_some] <;> rfl),by repeat (first|(with_reducible first|exact HB.out|apply below_alloc|apply pw_below_drewN|apply below_drew1|refine below_set ?_ GE321.out)|exact HB.out)⟩
 ·skip
  have c5b0:decide (40<t322)=false:=decide_eq_false c5
  clear c5
  replace H:=bndO H
  obtain⟨⟨t324,t325⟩,A110,H⟩:=H
  dsimp only at H
  have A11:=Aside0.mk A110
  clear A110
  replace H:=bndO H
  obtain⟨⟨t326,t327,t328⟩,A120,H⟩:=H
  dsimp only at H
  have A12:=Aside0.mk A120
  clear A120
  replace H:=bndO H
  obtain⟨⟨t331,t332⟩,A130,H⟩:=H
  dsimp only at H
  have A13:=Aside0.mk A130
  clear A130
  replace H:=bndO H
  obtain⟨⟨t333,t334,t335,t338⟩,A140,H⟩:=H
  dsimp only at H
  have A14:=Aside0.mk A140
  clear A140
  replace H:=bndO H
  obtain⟨⟨t340,t341,t342⟩,A150,H⟩:=H
  dsimp only at H
  have A15:=Aside0.mk A150
  clear A150
  replace H:=bndO H
  obtain⟨⟨t345,t346,t347,t350⟩,A160,H⟩:=H
  dsimp only at H
  have A16:=Aside0.mk A160
  clear A160
  replace H:=bndO H
  obtain⟨⟨t352,t353,t354⟩,A170,H⟩:=H
  dsimp only at H
  have A17:=Aside0.mk A170
  clear A170
  replace H:=itO H
  rcases H with⟨c18,H⟩|⟨c18,H⟩
  ·skip
   have c18b0:(t324.toList == t331.toList)=true:=beq_iff_eq.mpr c18
   have c18b1:(t324.toList != t331.toList)=false:=bne_eq_false_iff_eq.mpr c18
   clear c18
   replace H:=itO H
   rcases H with⟨c19,H⟩|⟨c19,H⟩
   ·skip
    have c19b0:(t325 == t332)=true:=beq_iff_eq.mpr c19
    have c19b1:(t325 != t332)=false:=bne_eq_false_iff_eq.mpr c19
    clear c19
    replace H:=bndO H
    obtain⟨⟨t358,t359,t360⟩,A200,H⟩:=H
    dsimp only at H
    have A20:=Aside0.mk A200
    clear A200
    replace H:=bndO H
    obtain⟨t363,A210,H⟩:=H
    have A21:=Aside0.mk A210
    clear A210
    by_cases c22:t363=true
    ·subst c22
     replace H:=itT H
     replace H:=itO H
     rcases H with⟨c23,H⟩|⟨c23,H⟩
     ·skip
      have c23b0:(t338 == t350)=true:=c23
      (try (have c23b1:decide (t338=t350)=true:=by simpa using c23))
      (try (have c23b2:(t338 == t350)=true:=by simpa using c23))
      clear c23
      replace H:=itO H
      rcases H with⟨c24,H⟩|⟨c24,H⟩
      ·skip
       have c24b0:(t352.toList == a2.toList)=true:=beq_iff_eq.mpr c24
       have c24b1:(t352.toList != a2.toList)=false:=bne_eq_false_iff_eq.mpr c24
       clear c24
       replace H:=itO H
       rcases H with⟨c25,H⟩|⟨c25,H⟩
       ·skip
        have c25b0:(t353.toList == t324.toList)=true:=beq_iff_eq.mpr c25
        have c25b1:(t353.toList != t324.toList)=false:=bne_eq_false_iff_eq.mpr c25
        clear c25
        replace H:=itO H
        rcases H with⟨c26,H⟩|⟨c26,H⟩
        ·skip
         have c26b0:((t354.length:Int) == 0)=true:=beq_iff_eq.mpr c26
         have c26b1:((t354.length:Int) != 0)=false:=bne_eq_false_iff_eq.mpr c26
         clear c26
         replace H:=bndO H
         obtain⟨t364,A270,H⟩:=H
         have A27:=Aside0.mk A270
         clear A270
         clear hr
         obtain rfl:=Option.some.inj H
         go_enter Tryd.func9,Tryd.ntmps9
         try go_wp2_with (first|((with_reducible refine gate_dst (N:=3) rfl ?_);(try (refine gate_guard (by rfl) ?_;dsimp only));refine box_event ?hg (N:=3) ?hd (cs:=#[.string a0_0,.string a0_1,.slice A0_2 l0_2.length c0_2]) (t:=24) ?hr ?_;(case hd=>rfl);(case hg=>rfl);(case hr=>first|(go_simp;done)|(go_simp;rfl));intro gb321 hg w28 hbox hb;have n0_:=Aside0.mk (below_step (by repeat (first|(with_reducible first|exact HB.out|apply below_alloc|apply pw_below_drewN|apply below_drew1)|exact HB.out)) hb);have n1_:=Aside0.mk (hbox);have n2_:=Aside0.mk ((by rw [hg];exact(below_size (by repeat (first|(with_reducible first|exact HB.out|apply below_alloc|apply pw_below_drewN|apply below_drew1)|exact HB.out))):w.heap.size≤gb321));have n3_:=Aside0.mk ((by rw [hg];exact(below_size (by repeat (first|(with_reducible first|exact HB.out|apply below_alloc|apply pw_below_drewN|apply below_drew1)|exact HB.out))):w.heap.size≤gb321));clear HB;have HB:=n0_;have BK321:=n1_;have GW321:=n2_;have GE321:=n3_;clear n0_ n1_ n2_ n3_;clear hb hbox hg;have hcz29_0:w28.cell? ⟨gb321,0,none⟩=some (.string a0_0):=(blk_cell BK321.out 0).trans rfl;have hcz29_1:w28.cell? ⟨gb321,1,none⟩=some (.string a0_1):=(blk_cell BK321.out 1).trans rfl;have hcz29_2:w28.cell? ⟨gb321,2,none⟩=some (.slice A0_2 l0_2.length c0_2):=(blk_cell BK321.out 2).trans rfl;have hfz29_0:=blk_frozen BK321.out 0;have hfz29_1:=blk_frozen BK321.out 1;have hfz29_2:=blk_frozen BK321.out 2)|((with_reducible refine gate_callee (f:=21) rfl ?_);refine goesL_ (some 17) rfl rfl Tryd.func21 (by kernel_rfl) rfl #[.agg #[.string a0_0,.string a0_1,.slice A0_2 l0_2.length c0_2],.int .i64 40] rfl (by(try simp only [List.map_toArray,List.map_cons,List.map_nil]);first|done|rfl|(simp only [List.length_drop,List.length_take];rfl)) ?_;(with_reducible refine(stowagelaw13_Deep.calls k a0_0 a0_1 _ _ l0_2 40 t322 _ ?side1 ?side2 A4.out).mono ?_);(case side1=>repeat (first|exact(Kd.C_below HR0_2.out HB.out)|(with_reducible refine Kd.C_alloc ?_ _)|(with_reducible refine Kd.C_drewN ?_ _)|(with_reducible refine Kd.C_drew ?_)));(case side2=>exact HC0_2.out);rintro e w30 ⟨rfl,hb⟩;refine⟨_,rfl,?_⟩;have n0_:=Aside0.mk (blk_below (g:=gb321) (o:=.cells #[.string a0_0,.string a0_1,.slice A0_2 l0_2.length c0_2] 24 (0,0)) (by(with_reducible repeat (first|refine blk_drewN ?_ _|refine blk_drew ?_|refine blk_alloc ?_ _));exact BK321.out) hb);have n1_:=Aside0.mk (below_step (by repeat (first|(with_reducible first|exact HB.out|apply below_alloc|apply pw_below_drewN|apply below_drew1|refine below_set ?_ GE321.out)|exact HB.out)) hb);clear BK321;clear HB;have BK321:=n0_;have HB:=n1_;clear n0_ n1_;(try clear hb);(try clear hb2);(try clear hk);(try clear hi);have hcz31_0:w30.cell? ⟨gb321,0,none⟩=some (.string a0_0):=(blk_cell BK321.out 0).trans rfl;have hcz31_1:w30.cell? ⟨gb321,1,none⟩=some (.string a0_1):=(blk_cell BK321.out 1).trans rfl;have hcz31_2:w30.cell? ⟨gb321,2,none⟩=some (.slice A0_2 l0_2.length c0_2):=(blk_cell BK321.out 2).trans rfl;have hfz31_0:=blk_frozen BK321.out 0;have hfz31_1:=blk_frozen BK321.out 1;have hfz31_2:=blk_frozen BK321.out 2)|((with_reducible refine gate_callee (f:=22) rfl ?_);refine goesL_ (some 23) rfl rfl Tryd.func22 (by kernel_rfl) rfl #[.agg #[.string a0_0,.string a0_1,.slice A0_2 l0_2.length c0_2],.bool a1] rfl (by(try simp only [List.map_toArray,List.map_cons,List.map_nil]);first|done|rfl|(simp only [List.length_drop,List.length_take];rfl)) ?_;(with_reducible refine(xml_Print.calls k a0_0 a0_1 _ _ l0_2 a1 t324 t325 _ ?side1 ?side2 A11.out).mono ?_);(case side1=>repeat (first|exact(Kd.C_below HR0_2.out HB.out)|(with_reducible refine Kd.C_alloc ?_ _)|(with_reducible refine Kd.C_drewN ?_ _)|(with_reducible refine Kd.C_drew ?_)));(case side2=>exact HC0_2.out);rintro e w32 ⟨rfl,hb⟩;refine⟨_,rfl,?_⟩;have n0_:=Aside0.mk (blk_below (g:=gb321) (o:=.cells #[.string a0_0,.string a0_1,.slice A0_2 l0_2.length c0_2] 24 (0,0)) (by(with_reducible repeat (first|refine blk_drewN ?_ _|refine blk_drew ?_|refine blk_alloc ?_ _));exact BK321.out) hb);have n1_:=Aside0.mk (below_step (by repeat (first|(with_reducible first|exact HB.out|apply below_alloc|apply pw_below_drewN|apply below_drew1|refine below_set ?_ GE321.out)|exact HB.out)) hb);clear BK321;clear HB;have BK321:=n0_;have HB:=n1_;clear n0_ n1_;(try clear hb);(try clear hb2);(try clear hk);(try clear hi);have hcz33_0:w32.cell? ⟨gb321,0,none⟩=some (.string a0_0):=(blk_cell BK321.out 0).trans rfl;have hcz33_1:w32.cell? ⟨gb321,1,none⟩=some (.string a0_1):=(blk_cell BK321.out 1).trans rfl;have hcz33_2:w32.cell? ⟨gb321,2,none⟩=some (.slice A0_2 l0_2.length c0_2):=(blk_cell BK321.out 2).trans rfl;have hfz33_0:=blk_frozen BK321.out 0;have hfz33_1:=blk_frozen BK321.out 1;have hfz33_2:=blk_frozen BK321.out 2)|((with_reducible refine gate_callee (f:=13) rfl ?_);refine goesL_ (some 28) rfl rfl Tryd.func13 (by kernel_rfl) rfl #[.agg #[.string a0_0,.string a0_1,.slice A0_2 l0_2.length c0_2]] rfl (by(try simp only [List.map_toArray,List.map_cons,List.map_nil]);first|done|rfl|(simp only [List.length_drop,List.length_take];rfl)) ?_;(with_reducible refine(stowagelaw13_To.calls k a0_0 a0_1 _ _ l0_2 t326 t327 t328 _ ?side1 ?side2 A12.out).mono ?_);(case side1=>repeat (first|exact(Kd.C_below HR0_2.out HB.out)|(with_reducible refine Kd.C_alloc ?_ _)|(with_reducible refine Kd.C_drewN ?_ _)|(with_reducible refine Kd.C_drew ?_)));(case side2=>exact HC0_2.out);rintro e w34 ⟨v329,rfl,ho0,hb⟩;refine⟨_,rfl,?_⟩;have n0_:=Aside0.mk (Kd.R_lower ho0 (below_size (by repeat (first|(with_reducible first|exact HB.out|apply below_alloc|apply pw_below_drewN|apply below_drew1|refine below_set ?_ GE321.out)|exact HB.out))));have n1_:=Aside0.mk (blk_below (g:=gb321) (o:=.cells #[.string a0_0,.string a0_1,.slice A0_2 l0_2.length c0_2] 24 (0,0)) (by(with_reducible repeat (first|refine blk_drewN ?_ _|refine blk_drew ?_|refine blk_alloc ?_ _));exact BK321.out) hb);have n2_:=Aside0.mk (below_step (by repeat (first|(with_reducible first|exact HB.out|apply below_alloc|apply pw_below_drewN|apply below_drew1|refine below_set ?_ GE321.out)|exact HB.out)) hb);clear BK321;clear HB;have HO330:=n0_;have BK321:=n1_;have HB:=n2_;clear n0_ n1_ n2_;(try clear hb);(try clear hb2);(try clear hk);(try clear hi);(try clear ho0);(try clear A12);obtain⟨Ao35,co35,eo35⟩:=Kd.R_slice HO330.out;subst eo35)|((with_reducible refine gate_callee (f:=24) rfl ?_);refine goesL_ (some 30) rfl rfl Tryd.func24 (by kernel_rfl) rfl #[.agg #[.string t326,.string t327,.slice Ao35 t328.length co35],.bool a1] rfl (by(try simp only [List.map_toArray,List.map_cons,List.map_nil]);first|done|rfl|(simp only [List.length_drop,List.length_take];rfl)) ?_;(with_reducible refine(stowageref13_Print.calls k t326 t327 _ _ t328 a1 t331 t332 _ ?side1 ?side2 A13.out).mono ?_);(case side1=>repeat (first|exact(Kd.R_reads' HO330.out).2.2|(with_reducible refine Kd.C_alloc ?_ _)|(with_reducible refine Kd.C_drewN ?_ _)|(with_reducible refine Kd.C_drew ?_)));(case side2=>exact(Kd.R_reads' HO330.out).2.1);rintro e w36 ⟨rfl,hb⟩;refine⟨_,rfl,?_⟩;have n0_:=Aside0.mk (Kd.R_below (by(with_reducible repeat (first|apply Kd.R_alloc|apply Kd.R_drewN|apply Kd.R_drew));exact HO330.out) hb);have n1_:=Aside0.mk (blk_below (g:=gb321) (o:=.cells #[.string a0_0,.string a0_1,.slice A0_2 l0_2.length c0_2] 24 (0,0)) (by(with_reducible repeat (first|refine blk_drewN ?_ _|refine blk_drew ?_|refine blk_alloc ?_ _));exact BK321.out) hb);have n2_:=Aside0.mk (below_step (by repeat (first|(with_reducible first|exact HB.out|apply below_alloc|apply pw_below_drewN|apply below_drew1|refine below_set ?_ GE321.out)|exact HB.out)) hb);clear HO330;clear BK321;clear HB;have HO330:=n0_;have BK321:=n1_;have HB:=n2_;clear n0_ n1_ n2_;(try clear hb);(try clear hb2);(try clear hk);(try clear hi);have hcz37_0:w36.cell? ⟨gb321,0,none⟩=some (.string a0_0):=(blk_cell BK321.out 0).trans rfl;have hcz37_1:w36.cell? ⟨gb321,1,none⟩=some (.string a0_1):=(blk_cell BK321.out 1).trans rfl;have hcz37_2:w36.cell? ⟨gb321,2,none⟩=some (.slice A0_2 l0_2.length c0_2):=(blk_cell BK321.out 2).trans rfl;have hfz37_0:=blk_frozen BK321.out 0;have hfz37_1:=blk_frozen BK321.out 1;have hfz37_2:=blk_frozen BK321.out 2)|((with_reducible refine gate_callee (f:=25) rfl ?_);refine goesL_ (some 36) rfl rfl Tryd.func25 (by kernel_rfl) rfl #[.agg #[.string a0_0,.string a0_1,.slice A0_2 l0_2.length c0_2],.string a2] rfl (by(try simp only [List.map_toArray,List.map_cons,List.map_nil]);first|done|rfl|(simp only [List.length_drop,List.length_take];rfl)) ?_;(with_reducible refine(xml_Kid.calls k a0_0 a0_1 _ _ l0_2 a2 t333 t334 t335 t338 _ ?side1 ?side2 A14.out).mono ?_);(case side1=>repeat (first|exact(Kd.C_below HR0_2.out HB.out)|(with_reducible refine Kd.C_alloc ?_ _)|(with_reducible refine Kd.C_drewN ?_ _)|(with_reducible refine Kd.C_drew ?_)));(case side2=>exact HC0_2.out);rintro e w38 ⟨v336,rfl,ho0,hb⟩;refine⟨_,rfl,?_⟩;have n0_:=Aside0.mk (Kd.R_below (by(with_reducible repeat (first|apply Kd.R_alloc|apply Kd.R_drewN|apply Kd.R_drew));exact HO330.out) hb);have n1_:=Aside0.mk (Kd.V_lower (Kd.V_mono (ok':=fun k_=>some k_≠(.slice Ao35 t328.length co35:Value).ownBlock∧k_≠gb321) ho0 (fun k_ hk_=>⟨(Kd.fresh' (Kd.R_lt (by(with_reducible repeat (first|apply Kd.R_alloc|apply Kd.R_drewN|apply Kd.R_drew));exact HO330.out)) k_ hk_),(Kd.freshB (g:=gb321) (o:=.cells #[.string a0_0,.string a0_1,.slice A0_2 l0_2.length c0_2] 24 (0,0)) (by(with_reducible repeat (first|refine blk_drewN ?_ _|refine blk_drew ?_|refine blk_alloc ?_ _));exact BK321.out) k_ hk_)⟩)) (below_size (by repeat (first|(with_reducible first|exact HB.out|apply below_alloc|apply pw_below_drewN|apply below_drew1|refine below_set ?_ GE321.out)|exact HB.out))));have n2_:=Aside0.mk (blk_below (g:=gb321) (o:=.cells #[.string a0_0,.string a0_1,.slice A0_2 l0_2.length c0_2] 24 (0,0)) (by(with_reducible repeat (first|refine blk_drewN ?_ _|refine blk_drew ?_|refine blk_alloc ?_ _));exact BK321.out) hb);have n3_:=Aside0.mk (below_step (by repeat (first|(with_reducible first|exact HB.out|apply below_alloc|apply pw_below_drewN|apply below_drew1|refine below_set ?_ GE321.out)|exact HB.out)) hb);clear HO330;clear BK321;clear HB;have HO330:=n0_;have HO337:=n1_;have BK321:=n2_;have HB:=n3_;clear n0_ n1_ n2_ n3_;(try clear hb);(try clear hb2);(try clear hk);(try clear hi);(try clear ho0))|((with_reducible refine gate_dst (N:=11) rfl ?_);(try (refine gate_guard (by rfl) ?_;dsimp only));refine box_event ?hg (N:=11) ?hd (cs:=#[.string (⟨#[]⟩ : ByteArray),.string (⟨#[]⟩ : ByteArray),.slice none 0 0]) (t:=24) ?hr ?_;(case hd=>rfl);(case hg=>rfl);(case hr=>first|(go_simp;done)|(go_simp;rfl));intro gb339 hg w39 hbox hb;have n0_:=Aside0.mk (Kd.R_below (by(with_reducible repeat (first|apply Kd.R_alloc|apply Kd.R_drewN|apply Kd.R_drew));exact HO330.out) hb);have n1_:=Aside0.mk (Kd.V_below (Kd.V_elderB (by(with_reducible repeat (first|apply Kd.V_alloc|apply Kd.V_drewN|apply Kd.V_drew));exact HO337.out) gb339 (Nat.le_of_eq hg.symm)) hb);have n2_:=Aside0.mk (blk_below (g:=gb321) (o:=.cells #[.string a0_0,.string a0_1,.slice A0_2 l0_2.length c0_2] 24 (0,0)) (by(with_reducible repeat (first|refine blk_drewN ?_ _|refine blk_drew ?_|refine blk_alloc ?_ _));exact BK321.out) hb);have n3_:=Aside0.mk (below_step (by repeat (first|(with_reducible first|exact HB.out|apply below_alloc|apply pw_below_drewN|apply below_drew1|refine below_set ?_ GE321.out)|exact HB.out)) hb);have n4_:=Aside0.mk (hbox);have n5_:=Aside0.mk ((by rw [hg];exact(below_size (by repeat (first|(with_reducible first|exact HB.out|apply below_alloc|apply pw_below_drewN|apply below_drew1|refine below_set ?_ GE321.out)|exact HB.out))):w.heap.size≤gb339));have n6_:=Aside0.mk ((by rw [hg];exact(below_size (by repeat (first|(with_reducible first|exact HB.out|apply below_alloc|apply pw_below_drewN|apply below_drew1|refine below_set ?_ GE321.out)|exact HB.out))):w.heap.size≤gb339));have n7_:=Aside0.mk ((by rw [hg];exact Nat.ne_of_lt (blk_lt (g:=gb321) (o:=.cells #[.string a0_0,.string a0_1,.slice A0_2 l0_2.length c0_2] 24 (0,0)) (by(with_reducible repeat (first|refine blk_drewN ?_ _|refine blk_drew ?_|refine blk_alloc ?_ _));exact BK321.out)):gb321≠gb339));have n8_:=Aside0.mk ((by rw [hg];exact Nat.ne_of_gt (blk_lt (g:=gb321) (o:=.cells #[.string a0_0,.string a0_1,.slice A0_2 l0_2.length c0_2] 24 (0,0)) (by(with_reducible repeat (first|refine blk_drewN ?_ _|refine blk_drew ?_|refine blk_alloc ?_ _));exact BK321.out)):gb339≠gb321));clear HO330;clear HO337;clear BK321;clear HB;have HO330:=n0_;have HO337:=n1_;have BK321:=n2_;have HB:=n3_;have BK339:=n4_;have GW339:=n5_;have GE339:=n6_;have NB321_339:=n7_;have NB339_321:=n8_;clear n0_ n1_ n2_ n3_ n4_ n5_ n6_ n7_ n8_;clear hb hbox hg;have hnb40:=NB339_321.out;have hnc40:=NB321_339.out;have hcz41_0:w39.cell? ⟨gb339,0,none⟩=some (.string (⟨#[]⟩ : ByteArray)):=(blk_cell BK339.out 0).trans rfl;have hcz41_1:w39.cell? ⟨gb339,1,none⟩=some (.string (⟨#[]⟩ : ByteArray)):=(blk_cell BK339.out 1).trans rfl;have hcz41_2:w39.cell? ⟨gb339,2,none⟩=some (.slice none 0 0):=(blk_cell BK339.out 2).trans rfl;have hfz41_0:=blk_frozen BK339.out 0;have hfz41_1:=blk_frozen BK339.out 1;have hfz41_2:=blk_frozen BK339.out 2;obtain⟨Ao42,co42,eo42⟩:=Kd.V_slice HO337.out;subst eo42;have hcz43_0:w39.cell? ⟨gb321,0,none⟩=some (.string a0_0):=(blk_cell BK321.out 0).trans rfl;have hcz43_1:w39.cell? ⟨gb321,1,none⟩=some (.string a0_1):=(blk_cell BK321.out 1).trans rfl;have hcz43_2:w39.cell? ⟨gb321,2,none⟩=some (.slice A0_2 l0_2.length c0_2):=(blk_cell BK321.out 2).trans rfl;have hfz43_0:=blk_frozen BK321.out 0;have hfz43_1:=blk_frozen BK321.out 1;have hfz43_2:=blk_frozen BK321.out 2)|((with_reducible refine gate_callee (f:=13) rfl ?_);refine goesL_ (some 41) rfl rfl Tryd.func13 (by kernel_rfl) rfl #[.agg #[.string a0_0,.string a0_1,.slice A0_2 l0_2.length c0_2]] rfl (by(try simp only [List.map_toArray,List.map_cons,List.map_nil]);first|done|rfl|(simp only [List.length_drop,List.length_take];rfl)) ?_;(with_reducible refine(stowagelaw13_To.calls k a0_0 a0_1 _ _ l0_2 t340 t341 t342 _ ?side1 ?side2 A15.out).mono ?_);(case side1=>exact Kd.C_below HR0_2.out (by repeat (first|(with_reducible first|exact HB.out|apply below_alloc|apply pw_below_drewN|apply below_drew1|refine below_set ?_ GE321.out|refine below_set ?_ GE339.out)|exact HB.out)));(case side2=>exact HC0_2.out);rintro e w44 ⟨v343,rfl,ho0,hb⟩;refine⟨_,rfl,?_⟩;have n0_:=Aside0.mk (Kd.R_elder' (by(with_reducible repeat (first|apply Kd.R_alloc|apply Kd.R_drewN|apply Kd.R_drew));exact(Kd.R_mono (Kd.R_far (p:=⟨gb339,2,none⟩) (Kd.R_far (p:=⟨gb339,1,none⟩) (Kd.R_far (p:=⟨gb339,0,none⟩) (Kd.R_types HO330.out BK339.out (by decide)) (fun _ hk=>hk.2) (.string t333)) (fun _ hk=>hk.2) (.string t334)) (fun _ hk=>hk.2) (.slice Ao42 t335.length co42)) (fun _ h_=>h_.1))) (by first|exact Kd.R_base ho0|exact Kd.R_base ho0) hb);have n1_:=Aside0.mk (Kd.V_elder' (by(with_reducible repeat (first|apply Kd.V_alloc|apply Kd.V_drewN|apply Kd.V_drew));exact(Kd.V_mono (Kd.V_far (p:=⟨gb339,2,none⟩) (Kd.V_far (p:=⟨gb339,1,none⟩) (Kd.V_far (p:=⟨gb339,0,none⟩) (Kd.V_mono HO337.out (fun k_ hk=>(⟨hk,hk.2⟩ : _∧k_≠gb339))) (fun _ hk=>hk.2) (.string t333)) (fun _ hk=>hk.2) (.string t334)) (fun _ hk=>hk.2) (.slice Ao42 t335.length co42)) (fun _ h_=>h_.1))) (by first|exact Kd.R_base ho0|exact Kd.R_base ho0) hb);have n2_:=Aside0.mk (Kd.R_lower (Kd.R_new' ho0 (Kd.R_lt (by(with_reducible repeat (first|apply Kd.R_alloc|apply Kd.R_drewN|apply Kd.R_drew));exact(Kd.R_mono (Kd.R_far (p:=⟨gb339,2,none⟩) (Kd.R_far (p:=⟨gb339,1,none⟩) (Kd.R_far (p:=⟨gb339,0,none⟩) (Kd.R_types HO330.out BK339.out (by decide)) (fun _ hk=>hk.2) (.string t333)) (fun _ hk=>hk.2) (.string t334)) (fun _ hk=>hk.2) (.slice Ao42 t335.length co42)) (fun _ h_=>h_.1))))) (below_size (by repeat (first|(with_reducible first|exact HB.out|apply below_alloc|apply pw_below_drewN|apply below_drew1|refine below_set ?_ GE321.out|refine below_set ?_ GE339.out)|exact HB.out))));have n3_:=Aside0.mk (blk_below (g:=gb321) (o:=.cells #[.string a0_0,.string a0_1,.slice A0_2 l0_2.length c0_2] 24 (0,0)) (by(with_reducible repeat (first|refine blk_drewN ?_ _|refine blk_drew ?_|refine blk_alloc ?_ _));refine blk_far ?_ NB321_339.out _;(with_reducible repeat (first|refine blk_drewN ?_ _|refine blk_drew ?_|refine blk_alloc ?_ _));refine blk_far ?_ NB321_339.out _;(with_reducible repeat (first|refine blk_drewN ?_ _|refine blk_drew ?_|refine blk_alloc ?_ _));refine blk_far ?_ NB321_339.out _;(with_reducible repeat (first|refine blk_drewN ?_ _|refine blk_drew ?_|refine blk_alloc ?_ _));exact BK321.out) hb);have n4_:=Aside0.mk (blk_below (g:=gb339) (o:=.cells #[.string t333,.string t334,.slice Ao42 t335.length co42] 24 (0,0)) (by(with_reducible repeat (first|refine blk_drewN ?_ _|refine blk_drew ?_|refine blk_alloc ?_ _));refine blk_put (cs:=#[.string t333,.string t334,.slice none 0 0]) ?_ 2 _ rfl;(with_reducible repeat (first|refine blk_drewN ?_ _|refine blk_drew ?_|refine blk_alloc ?_ _));refine blk_put (cs:=#[.string t333,.string (⟨#[]⟩ : ByteArray),.slice none 0 0]) ?_ 1 _ rfl;(with_reducible repeat (first|refine blk_drewN ?_ _|refine blk_drew ?_|refine blk_alloc ?_ _));refine blk_put (cs:=#[.string (⟨#[]⟩ : ByteArray),.string (⟨#[]⟩ : ByteArray),.slice none 0 0]) ?_ 0 _ rfl;(with_reducible repeat (first|refine blk_drewN ?_ _|refine blk_drew ?_|refine blk_alloc ?_ _));exact BK339.out) hb);have n5_:=Aside0.mk (below_step (by repeat (first|(with_reducible first|exact HB.out|apply below_alloc|apply pw_below_drewN|apply below_drew1|refine below_set ?_ GE321.out|refine below_set ?_ GE339.out)|exact HB.out)) hb);clear HO330;clear HO337;clear BK321;clear BK339;clear HB;have HO330:=n0_;have HO337:=n1_;have HO344:=n2_;have BK321:=n3_;have BK339:=n4_;have HB:=n5_;clear n0_ n1_ n2_ n3_ n4_ n5_;(try clear hb);(try clear hb2);(try clear hk);(try clear hi);(try clear ho0);(try clear A15);obtain⟨Ao45,co45,eo45⟩:=Kd.R_slice HO344.out;subst eo45)|((with_reducible refine gate_callee (f:=26) rfl ?_);refine goesL_ (some 43) rfl rfl Tryd.func26 (by kernel_rfl) rfl #[.agg #[.string t340,.string t341,.slice Ao45 t342.length co45],.string a2] rfl (by(try simp only [List.map_toArray,List.map_cons,List.map_nil]);first|done|rfl|(simp only [List.length_drop,List.length_take];rfl)) ?_;(with_reducible refine(stowageref13_Kid.calls k t340 t341 (fun k_=>(((True∧some k_≠(.slice Ao35 t328.length co35:Value).ownBlock)∧k_≠gb321)∧k_≠gb339)) _ _ t342 a2 t345 t346 t347 t350 _ ?side1 A16.out).mono ?_);(case side1=>exact Kd.R_V (Kd.R_types (Kd.R_types (HO344.out) BK321.out (by decide)) BK339.out (by decide)));rintro e w46 ⟨v348,rfl,ho0,hb⟩;refine⟨_,rfl,?_⟩;have n0_:=Aside0.mk (Kd.R_below (by(with_reducible repeat (first|apply Kd.R_alloc|apply Kd.R_drewN|apply Kd.R_drew));exact HO330.out) hb);have n1_:=Aside0.mk (Kd.V_below (by(with_reducible repeat (first|apply Kd.V_alloc|apply Kd.V_drewN|apply Kd.V_drew));exact HO337.out) hb);have n2_:=Aside0.mk (Kd.R_below (by(with_reducible repeat (first|apply Kd.R_alloc|apply Kd.R_drewN|apply Kd.R_drew));exact HO344.out) hb);have n3_:=Aside0.mk (Kd.V_lower (Kd.V_mono (ok':=fun k_=>some k_≠(.slice Ao35 t328.length co35:Value).ownBlock∧k_≠gb321∧k_≠gb339) ho0 (fun k_ hk_=>⟨Or.elim hk_ (fun hs_=>hs_.1.1.2) (fun hn_=>(Kd.fresh' (Kd.R_lt (by(with_reducible repeat (first|apply Kd.R_alloc|apply Kd.R_drewN|apply Kd.R_drew));exact HO330.out)) k_ hn_)),Or.elim hk_ (fun hs_=>hs_.1.2) (fun hn_=>(Kd.freshB (g:=gb321) (o:=.cells #[.string a0_0,.string a0_1,.slice A0_2 l0_2.length c0_2] 24 (0,0)) (by(with_reducible repeat (first|refine blk_drewN ?_ _|refine blk_drew ?_|refine blk_alloc ?_ _));exact BK321.out) k_ hn_)),Or.elim hk_ (fun hs_=>hs_.2) (fun hn_=>(Kd.freshB (g:=gb339) (o:=.cells #[.string t333,.string t334,.slice Ao42 t335.length co42] 24 (0,0)) (by(with_reducible repeat (first|refine blk_drewN ?_ _|refine blk_drew ?_|refine blk_alloc ?_ _));exact BK339.out) k_ hn_))⟩)) (below_size (by repeat (first|(with_reducible first|exact HB.out|apply below_alloc|apply pw_below_drewN|apply below_drew1|refine below_set ?_ GE321.out|refine below_set ?_ GE339.out)|exact HB.out))));have n4_:=Aside0.mk (blk_below (g:=gb321) (o:=.cells #[.string a0_0,.string a0_1,.slice A0_2 l0_2.length c0_2] 24 (0,0)) (by(with_reducible repeat (first|refine blk_drewN ?_ _|refine blk_drew ?_|refine blk_alloc ?_ _));exact BK321.out) hb);have n5_:=Aside0.mk (blk_below (g:=gb339) (o:=.cells #[.string t333,.string t334,.slice Ao42 t335.length co42] 24 (0,0)) (by(with_reducible repeat (first|refine blk_drewN ?_ _|refine blk_drew ?_|refine blk_alloc ?_ _));exact BK339.out) hb);have n6_:=Aside0.mk (below_step (by repeat (first|(with_reducible first|exact HB.out|apply below_alloc|apply pw_below_drewN|apply below_drew1|refine below_set ?_ GE321.out|refine below_set ?_ GE339.out)|exact HB.out)) hb);clear HO330;clear HO337;clear HO344;clear BK321;clear BK339;clear HB;have HO330:=n0_;have HO337:=n1_;have HO344:=n2_;have HO349:=n3_;have BK321:=n4_;have BK339:=n5_;have HB:=n6_;clear n0_ n1_ n2_ n3_ n4_ n5_ n6_;(try clear hb);(try clear hb2);(try clear hk);(try clear hi);(try clear ho0))|((with_reducible refine gate_dst (N:=13) rfl ?_);(try (refine gate_guard (by rfl) ?_;dsimp only));refine box_event ?hg (N:=13) ?hd (cs:=#[.string (⟨#[]⟩ : ByteArray),.string (⟨#[]⟩ : ByteArray),.slice none 0 0]) (t:=30) ?hr ?_;(case hd=>rfl);(case hg=>rfl);(case hr=>first|(go_simp;done)|(go_simp;rfl));intro gb351 hg w47 hbox hb;have n0_:=Aside0.mk (Kd.R_below (Kd.R_elderB (by(with_reducible repeat (first|apply Kd.R_alloc|apply Kd.R_drewN|apply Kd.R_drew));exact HO330.out) gb351 (Nat.le_of_eq hg.symm)) hb);have n1_:=Aside0.mk (Kd.V_below (Kd.V_elderB (by(with_reducible repeat (first|apply Kd.V_alloc|apply Kd.V_drewN|apply Kd.V_drew));exact HO337.out) gb351 (Nat.le_of_eq hg.symm)) hb);have n2_:=Aside0.mk (Kd.R_below (Kd.R_elderB (by(with_reducible repeat (first|apply Kd.R_alloc|apply Kd.R_drewN|apply Kd.R_drew));exact HO344.out) gb351 (Nat.le_of_eq hg.symm)) hb);have n3_:=Aside0.mk (Kd.V_below (Kd.V_elderB (by(with_reducible repeat (first|apply Kd.V_alloc|apply Kd.V_drewN|apply Kd.V_drew));exact HO349.out) gb351 (Nat.le_of_eq hg.symm)) hb);have n4_:=Aside0.mk (blk_below (g:=gb321) (o:=.cells #[.string a0_0,.string a0_1,.slice A0_2 l0_2.length c0_2] 24 (0,0)) (by(with_reducible repeat (first|refine blk_drewN ?_ _|refine blk_drew ?_|refine blk_alloc ?_ _));exact BK321.out) hb);have n5_:=Aside0.mk (blk_below (g:=gb339) (o:=.cells #[.string t333,.string t334,.slice Ao42 t335.length co42] 24 (0,0)) (by(with_reducible repeat (first|refine blk_drewN ?_ _|refine blk_drew ?_|refine blk_alloc ?_ _));exact BK339.out) hb);have n6_:=Aside0.mk (below_step (by repeat (first|(with_reducible first|exact HB.out|apply below_alloc|apply pw_below_drewN|apply below_drew1|refine below_set ?_ GE321.out|refine below_set ?_ GE339.out)|exact HB.out)) hb);have n7_:=Aside0.mk (hbox);have n8_:=Aside0.mk ((by rw [hg];exact(below_size (by repeat (first|(with_reducible first|exact HB.out|apply below_alloc|apply pw_below_drewN|apply below_drew1|refine below_set ?_ GE321.out|refine below_set ?_ GE339.out)|exact HB.out))):w.heap.size≤gb351));have n9_:=Aside0.mk ((by rw [hg];exact(below_size (by repeat (first|(with_reducible first|exact HB.out|apply below_alloc|apply pw_below_drewN|apply below_drew1|refine below_set ?_ GE321.out|refine below_set ?_ GE339.out)|exact HB.out))):w.heap.size≤gb351));have n10_:=Aside0.mk ((by rw [hg];exact Nat.ne_of_lt (blk_lt (g:=gb321) (o:=.cells #[.string a0_0,.string a0_1,.slice A0_2 l0_2.length c0_2] 24 (0,0)) (by(with_reducible repeat (first|refine blk_drewN ?_ _|refine blk_drew ?_|refine blk_alloc ?_ _));exact BK321.out)):gb321≠gb351));have n11_:=Aside0.mk ((by rw [hg];exact Nat.ne_of_gt (blk_lt (g:=gb321) (o:=.cells #[.string a0_0,.string a0_1,.slice A0_2 l0_2.length c0_2] 24 (0,0)) (by(with_reducible repeat (first|refine blk_drewN ?_ _|refine blk_drew ?_|refine blk_alloc ?_ _));exact BK321.out)):gb351≠gb321));have n12_:=Aside0.mk ((by rw [hg];exact Nat.ne_of_lt (blk_lt (g:=gb339) (o:=.cells #[.string t333,.string t334,.slice Ao42 t335.length co42] 24 (0,0)) (by(with_reducible repeat (first|refine blk_drewN ?_ _|refine blk_drew ?_|refine blk_alloc ?_ _));exact BK339.out)):gb339≠gb351));have n13_:=Aside0.mk ((by rw [hg];exact Nat.ne_of_gt (blk_lt (g:=gb339) (o:=.cells #[.string t333,.string t334,.slice Ao42 t335.length co42] 24 (0,0)) (by(with_reducible repeat (first|refine blk_drewN ?_ _|refine blk_drew ?_|refine blk_alloc ?_ _));exact BK339.out)):gb351≠gb339));clear HO330;clear HO337;clear HO344;clear HO349;clear BK321;clear BK339;clear HB;have HO330:=n0_;have HO337:=n1_;have HO344:=n2_;have HO349:=n3_;have BK321:=n4_;have BK339:=n5_;have HB:=n6_;have BK351:=n7_;have GW351:=n8_;have GE351:=n9_;have NB321_351:=n10_;have NB351_321:=n11_;have NB339_351:=n12_;have NB351_339:=n13_;clear n0_ n1_ n2_ n3_ n4_ n5_ n6_ n7_ n8_ n9_ n10_ n11_ n12_ n13_;clear hb hbox hg;have hnb48:=NB351_321.out;have hnc48:=NB321_351.out;have hnb49:=NB351_339.out;have hnc49:=NB339_351.out;have hcz50_0:w47.cell? ⟨gb351,0,none⟩=some (.string (⟨#[]⟩ : ByteArray)):=(blk_cell BK351.out 0).trans rfl;have hcz50_1:w47.cell? ⟨gb351,1,none⟩=some (.string (⟨#[]⟩ : ByteArray)):=(blk_cell BK351.out 1).trans rfl;have hcz50_2:w47.cell? ⟨gb351,2,none⟩=some (.slice none 0 0):=(blk_cell BK351.out 2).trans rfl;have hfz50_0:=blk_frozen BK351.out 0;have hfz50_1:=blk_frozen BK351.out 1;have hfz50_2:=blk_frozen BK351.out 2;obtain⟨Ao51,co51,eo51⟩:=Kd.V_slice HO349.out;subst eo51)|((with_reducible refine gate_callee (f:=23) rfl ?_);refine goesL_ (some 48) rfl rfl Tryd.func23 (by kernel_rfl) rfl #[.string a2,.string t324] rfl (by(try simp only [List.map_toArray,List.map_cons,List.map_nil]);first|done|rfl|(simp only [List.length_drop,List.length_take];rfl)) ?_;(with_reducible refine(xml_Of.calls a2 t324 t352 t353 t354 _ A17.out).mono ?_);rintro e w52 ⟨v355,rfl,ho0,hb⟩;refine⟨_,rfl,?_⟩;have n0_:=Aside0.mk (Kd.R_below (by(with_reducible repeat (first|apply Kd.R_alloc|apply Kd.R_drewN|apply Kd.R_drew));exact(Kd.R_mono (Kd.R_far (p:=⟨gb351,2,none⟩) (Kd.R_far (p:=⟨gb351,1,none⟩) (Kd.R_far (p:=⟨gb351,0,none⟩) (Kd.R_mono HO330.out (fun k_ hk=>(⟨hk,hk.2⟩ : _∧k_≠gb351))) (fun _ hk=>hk.2) (.string t345)) (fun _ hk=>hk.2) (.string t346)) (fun _ hk=>hk.2) (.slice Ao51 t347.length co51)) (fun _ h_=>h_.1))) hb);have n1_:=Aside0.mk (Kd.V_elder' (by(with_reducible repeat (first|apply Kd.V_alloc|apply Kd.V_drewN|apply Kd.V_drew));exact(Kd.V_mono (Kd.V_far (p:=⟨gb351,2,none⟩) (Kd.V_far (p:=⟨gb351,1,none⟩) (Kd.V_far (p:=⟨gb351,0,none⟩) (Kd.V_mono HO337.out (fun k_ hk=>(⟨hk,hk.2⟩ : _∧k_≠gb351))) (fun _ hk=>hk.2) (.string t345)) (fun _ hk=>hk.2) (.string t346)) (fun _ hk=>hk.2) (.slice Ao51 t347.length co51)) (fun _ h_=>h_.1))) (by first|exact Kd.R_base ho0|exact Kd.R_base ho0) hb);have n2_:=Aside0.mk (Kd.R_below (by(with_reducible repeat (first|apply Kd.R_alloc|apply Kd.R_drewN|apply Kd.R_drew));exact(Kd.R_mono (Kd.R_far (p:=⟨gb351,2,none⟩) (Kd.R_far (p:=⟨gb351,1,none⟩) (Kd.R_far (p:=⟨gb351,0,none⟩) (Kd.R_mono HO344.out (fun k_ hk=>(⟨hk,hk.2⟩ : _∧k_≠gb351))) (fun _ hk=>hk.2) (.string t345)) (fun _ hk=>hk.2) (.string t346)) (fun _ hk=>hk.2) (.slice Ao51 t347.length co51)) (fun _ h_=>h_.1))) hb);have n3_:=Aside0.mk (Kd.V_elder' (by(with_reducible repeat (first|apply Kd.V_alloc|apply Kd.V_drewN|apply Kd.V_drew));exact(Kd.V_mono (Kd.V_far (p:=⟨gb351,2,none⟩) (Kd.V_far (p:=⟨gb351,1,none⟩) (Kd.V_far (p:=⟨gb351,0,none⟩) (Kd.V_mono HO349.out (fun k_ hk=>(⟨hk,hk.2⟩ : _∧k_≠gb351))) (fun _ hk=>hk.2) (.string t345)) (fun _ hk=>hk.2) (.string t346)) (fun _ hk=>hk.2) (.slice Ao51 t347.length co51)) (fun _ h_=>h_.1))) (by first|exact Kd.R_base ho0|exact Kd.R_base ho0) hb);have n4_:=Aside0.mk (Kd.R_lower (Kd.R_newB (Kd.R_newB ho0 (g:=gb321) (o:=.cells #[.string a0_0,.string a0_1,.slice A0_2 l0_2.length c0_2] 24 (0,0)) (by(with_reducible repeat (first|refine blk_drewN ?_ _|refine blk_drew ?_|refine blk_alloc ?_ _));refine blk_far ?_ NB321_351.out _;(with_reducible repeat (first|refine blk_drewN ?_ _|refine blk_drew ?_|refine blk_alloc ?_ _));refine blk_far ?_ NB321_351.out _;(with_reducible repeat (first|refine blk_drewN ?_ _|refine blk_drew ?_|refine blk_alloc ?_ _));refine blk_far ?_ NB321_351.out _;(with_reducible repeat (first|refine blk_drewN ?_ _|refine blk_drew ?_|refine blk_alloc ?_ _));exact BK321.out)) (g:=gb339) (o:=.cells #[.string t333,.string t334,.slice Ao42 t335.length co42] 24 (0,0)) (by(with_reducible repeat (first|refine blk_drewN ?_ _|refine blk_drew ?_|refine blk_alloc ?_ _));refine blk_far ?_ NB339_351.out _;(with_reducible repeat (first|refine blk_drewN ?_ _|refine blk_drew ?_|refine blk_alloc ?_ _));refine blk_far ?_ NB339_351.out _;(with_reducible repeat (first|refine blk_drewN ?_ _|refine blk_drew ?_|refine blk_alloc ?_ _));refine blk_far ?_ NB339_351.out _;(with_reducible repeat (first|refine blk_drewN ?_ _|refine blk_drew ?_|refine blk_alloc ?_ _));exact BK339.out)) (below_size (by repeat (first|(with_reducible first|exact HB.out|apply below_alloc|apply pw_below_drewN|apply below_drew1|refine below_set ?_ GE321.out|refine below_set ?_ GE339.out|refine below_set ?_ GE351.out)|exact HB.out))));have n5_:=Aside0.mk (blk_below (g:=gb321) (o:=.cells #[.string a0_0,.string a0_1,.slice A0_2 l0_2.length c0_2] 24 (0,0)) (by(with_reducible repeat (first|refine blk_drewN ?_ _|refine blk_drew ?_|refine blk_alloc ?_ _));refine blk_far ?_ NB321_351.out _;(with_reducible repeat (first|refine blk_drewN ?_ _|refine blk_drew ?_|refine blk_alloc ?_ _));refine blk_far ?_ NB321_351.out _;(with_reducible repeat (first|refine blk_drewN ?_ _|refine blk_drew ?_|refine blk_alloc ?_ _));refine blk_far ?_ NB321_351.out _;(with_reducible repeat (first|refine blk_drewN ?_ _|refine blk_drew ?_|refine blk_alloc ?_ _));exact BK321.out) hb);have n6_:=Aside0.mk (blk_below (g:=gb339) (o:=.cells #[.string t333,.string t334,.slice Ao42 t335.length co42] 24 (0,0)) (by(with_reducible repeat (first|refine blk_drewN ?_ _|refine blk_drew ?_|refine blk_alloc ?_ _));refine blk_far ?_ NB339_351.out _;(with_reducible repeat (first|refine blk_drewN ?_ _|refine blk_drew ?_|refine blk_alloc ?_ _));refine blk_far ?_ NB339_351.out _;(with_reducible repeat (first|refine blk_drewN ?_ _|refine blk_drew ?_|refine blk_alloc ?_ _));refine blk_far ?_ NB339_351.out _;(with_reducible repeat (first|refine blk_drewN ?_ _|refine blk_drew ?_|refine blk_alloc ?_ _));exact BK339.out) hb);have n7_:=Aside0.mk (blk_below (g:=gb351) (o:=.cells #[.string t345,.string t346,.slice Ao51 t347.length co51] 30 (0,0)) (by(with_reducible repeat (first|refine blk_drewN ?_ _|refine blk_drew ?_|refine blk_alloc ?_ _));refine blk_put (cs:=#[.string t345,.string t346,.slice none 0 0]) ?_ 2 _ rfl;(with_reducible repeat (first|refine blk_drewN ?_ _|refine blk_drew ?_|refine blk_alloc ?_ _));refine blk_put (cs:=#[.string t345,.string (⟨#[]⟩ : ByteArray),.slice none 0 0]) ?_ 1 _ rfl;(with_reducible repeat (first|refine blk_drewN ?_ _|refine blk_drew ?_|refine blk_alloc ?_ _));refine blk_put (cs:=#[.string (⟨#[]⟩ : ByteArray),.string (⟨#[]⟩ : ByteArray),.slice none 0 0]) ?_ 0 _ rfl;(with_reducible repeat (first|refine blk_drewN ?_ _|refine blk_drew ?_|refine blk_alloc ?_ _));exact BK351.out) hb);have n8_:=Aside0.mk (below_step (by repeat (first|(with_reducible first|exact HB.out|apply below_alloc|apply pw_below_drewN|apply below_drew1|refine below_set ?_ GE321.out|refine below_set ?_ GE339.out|refine below_set ?_ GE351.out)|exact HB.out)) hb);clear HO330;clear HO337;clear HO344;clear HO349;clear BK321;clear BK339;clear BK351;clear HB;have HO330:=n0_;have HO337:=n1_;have HO344:=n2_;have HO349:=n3_;have HO356:=n4_;have BK321:=n5_;have BK339:=n6_;have BK351:=n7_;have HB:=n8_;clear n0_ n1_ n2_ n3_ n4_ n5_ n6_ n7_ n8_;(try clear hb);(try clear hb2);(try clear hk);(try clear hi);(try clear ho0))|((with_reducible refine gate_dst (N:=15) rfl ?_);(try (refine gate_guard (by rfl) ?_;dsimp only));refine box_event ?hg (N:=15) ?hd (cs:=#[.string (⟨#[]⟩ : ByteArray),.string (⟨#[]⟩ : ByteArray),.slice none 0 0]) (t:=24) ?hr ?_;(case hd=>rfl);(case hg=>rfl);(case hr=>first|(go_simp;done)|(go_simp;rfl));intro gb357 hg w53 hbox hb;have n0_:=Aside0.mk (Kd.R_below (by(with_reducible repeat (first|apply Kd.R_alloc|apply Kd.R_drewN|apply Kd.R_drew));exact HO330.out) hb);have n1_:=Aside0.mk (Kd.V_below (Kd.V_elderB (by(with_reducible repeat (first|apply Kd.V_alloc|apply Kd.V_drewN|apply Kd.V_drew));exact HO337.out) gb357 (Nat.le_of_eq hg.symm)) hb);have n2_:=Aside0.mk (Kd.R_below (by(with_reducible repeat (first|apply Kd.R_alloc|apply Kd.R_drewN|apply Kd.R_drew));exact HO344.out) hb);have n3_:=Aside0.mk (Kd.V_below (Kd.V_elderB (by(with_reducible repeat (first|apply Kd.V_alloc|apply Kd.V_drewN|apply Kd.V_drew));exact HO349.out) gb357 (Nat.le_of_eq hg.symm)) hb);have n4_:=Aside0.mk (Kd.R_below (Kd.R_elderB (by(with_reducible repeat (first|apply Kd.R_alloc|apply Kd.R_drewN|apply Kd.R_drew));exact HO356.out) gb357 (Nat.le_of_eq hg.symm)) hb);have n5_:=Aside0.mk (blk_below (g:=gb321) (o:=.cells #[.string a0_0,.string a0_1,.slice A0_2 l0_2.length c0_2] 24 (0,0)) (by(with_reducible repeat (first|refine blk_drewN ?_ _|refine blk_drew ?_|refine blk_alloc ?_ _));exact BK321.out) hb);have n6_:=Aside0.mk (blk_below (g:=gb339) (o:=.cells #[.string t333,.string t334,.slice Ao42 t335.length co42] 24 (0,0)) (by(with_reducible repeat (first|refine blk_drewN ?_ _|refine blk_drew ?_|refine blk_alloc ?_ _));exact BK339.out) hb);have n7_:=Aside0.mk (blk_below (g:=gb351) (o:=.cells #[.string t345,.string t346,.slice Ao51 t347.length co51] 30 (0,0)) (by(with_reducible repeat (first|refine blk_drewN ?_ _|refine blk_drew ?_|refine blk_alloc ?_ _));exact BK351.out) hb);have n8_:=Aside0.mk (below_step (by repeat (first|(with_reducible first|exact HB.out|apply below_alloc|apply pw_below_drewN|apply below_drew1|refine below_set ?_ GE321.out|refine below_set ?_ GE339.out|refine below_set ?_ GE351.out)|exact HB.out)) hb);have n9_:=Aside0.mk (hbox);have n10_:=Aside0.mk ((by rw [hg];exact(below_size (by repeat (first|(with_reducible first|exact HB.out|apply below_alloc|apply pw_below_drewN|apply below_drew1|refine below_set ?_ GE321.out|refine below_set ?_ GE339.out|refine below_set ?_ GE351.out)|exact HB.out))):w.heap.size≤gb357));have n11_:=Aside0.mk ((by rw [hg];exact(below_size (by repeat (first|(with_reducible first|exact HB.out|apply below_alloc|apply pw_below_drewN|apply below_drew1|refine below_set ?_ GE321.out|refine below_set ?_ GE339.out|refine below_set ?_ GE351.out)|exact HB.out))):w.heap.size≤gb357));have n12_:=Aside0.mk ((by rw [hg];exact Nat.ne_of_lt (blk_lt (g:=gb321) (o:=.cells #[.string a0_0,.string a0_1,.slice A0_2 l0_2.length c0_2] 24 (0,0)) (by(with_reducible repeat (first|refine blk_drewN ?_ _|refine blk_drew ?_|refine blk_alloc ?_ _));exact BK321.out)):gb321≠gb357));have n13_:=Aside0.mk ((by rw [hg];exact Nat.ne_of_gt (blk_lt (g:=gb321) (o:=.cells #[.string a0_0,.string a0_1,.slice A0_2 l0_2.length c0_2] 24 (0,0)) (by(with_reducible repeat (first|refine blk_drewN ?_ _|refine blk_drew ?_|refine blk_alloc ?_ _));exact BK321.out)):gb357≠gb321));have n14_:=Aside0.mk ((by rw [hg];exact Nat.ne_of_lt (blk_lt (g:=gb339) (o:=.cells #[.string t333,.string t334,.slice Ao42 t335.length co42] 24 (0,0)) (by(with_reducible repeat (first|refine blk_drewN ?_ _|refine blk_drew ?_|refine blk_alloc ?_ _));exact BK339.out)):gb339≠gb357));have n15_:=Aside0.mk ((by rw [hg];exact Nat.ne_of_gt (blk_lt (g:=gb339) (o:=.cells #[.string t333,.string t334,.slice Ao42 t335.length co42] 24 (0,0)) (by(with_reducible repeat (first|refine blk_drewN ?_ _|refine blk_drew ?_|refine blk_alloc ?_ _));exact BK339.out)):gb357≠gb339));have n16_:=Aside0.mk ((by rw [hg];exact Nat.ne_of_lt (blk_lt (g:=gb351) (o:=.cells #[.string t345,.string t346,.slice Ao51 t347.length co51] 30 (0,0)) (by(with_reducible repeat (first|refine blk_drewN ?_ _|refine blk_drew ?_|refine blk_alloc ?_ _));exact BK351.out)):gb351≠gb357));have n17_:=Aside0.mk ((by rw [hg];exact Nat.ne_of_gt (blk_lt (g:=gb351) (o:=.cells #[.string t345,.string t346,.slice Ao51 t347.length co51] 30 (0,0)) (by(with_reducible repeat (first|refine blk_drewN ?_ _|refine blk_drew ?_|refine blk_alloc ?_ _));exact BK351.out)):gb357≠gb351));clear HO330;clear HO337;clear HO344;clear HO349;clear HO356;clear BK321;clear BK339;clear BK351;clear HB;have HO330:=n0_;have HO337:=n1_;have HO344:=n2_;have HO349:=n3_;have HO356:=n4_;have BK321:=n5_;have BK339:=n6_;have BK351:=n7_;have HB:=n8_;have BK357:=n9_;have GW357:=n10_;have GE357:=n11_;have NB321_357:=n12_;have NB357_321:=n13_;have NB339_357:=n14_;have NB357_339:=n15_;have NB351_357:=n16_;have NB357_351:=n17_;clear n0_ n1_ n2_ n3_ n4_ n5_ n6_ n7_ n8_ n9_ n10_ n11_ n12_ n13_ n14_ n15_ n16_ n17_;clear hb hbox hg;have hnb54:=NB357_321.out;have hnc54:=NB321_357.out;have hnb55:=NB357_339.out;have hnc55:=NB339_357.out;have hnb56:=NB357_351.out;have hnc56:=NB351_357.out;have hcz57_0:w53.cell? ⟨gb357,0,none⟩=some (.string (⟨#[]⟩ : ByteArray)):=(blk_cell BK357.out 0).trans rfl;have hcz57_1:w53.cell? ⟨gb357,1,none⟩=some (.string (⟨#[]⟩ : ByteArray)):=(blk_cell BK357.out 1).trans rfl;have hcz57_2:w53.cell? ⟨gb357,2,none⟩=some (.slice none 0 0):=(blk_cell BK357.out 2).trans rfl;have hfz57_0:=blk_frozen BK357.out 0;have hfz57_1:=blk_frozen BK357.out 1;have hfz57_2:=blk_frozen BK357.out 2;obtain⟨Ao58,co58,eo58⟩:=Kd.R_slice HO356.out;subst eo58))
         have n0_:Aside0 (Kd.R k30 30 (((w53.setCell ⟨gb357,0,none⟩ (.string t352)).setCell ⟨gb357,1,none⟩ (.string t353)).setCell ⟨gb357,2,none⟩ (.slice Ao58 t354.length co58)) w.heap.size (fun k_=>some k_≠(.slice Ao45 t342.length co45:Value).ownBlock∧k_≠gb351) (.slice Ao35 t328.length co35) t328):=⟨by(with_reducible repeat (first|apply Kd.R_alloc|apply Kd.R_drewN|apply Kd.R_drew));exact Kd.R_mono (Kd.R_far (p:=⟨gb357,2,none⟩) (Kd.R_far (p:=⟨gb357,1,none⟩) (Kd.R_far (p:=⟨gb357,0,none⟩) (Kd.R_types HO330.out BK357.out (by decide)) (fun _ hk=>hk.2) (.string t352)) (fun _ hk=>hk.2) (.string t353)) (fun _ hk=>hk.2) (.slice Ao58 t354.length co58)) (fun _ hk=>⟨hk.1.1.2,hk.1.2⟩)⟩
         have n1_:Aside0 (Kd.V k24 24 (((w53.setCell ⟨gb357,0,none⟩ (.string t352)).setCell ⟨gb357,1,none⟩ (.string t353)).setCell ⟨gb357,2,none⟩ (.slice Ao58 t354.length co58)) w.heap.size (fun k_=>some k_≠(.slice Ao35 t328.length co35:Value).ownBlock∧some k_≠(.slice Ao45 t342.length co45:Value).ownBlock∧some k_≠(.slice Ao58 t354.length co58:Value).ownBlock∧k_≠gb321∧k_≠gb339∧k_≠gb351∧k_≠gb357) (.slice Ao42 t335.length co42) t335):=⟨by(with_reducible repeat (first|apply Kd.V_alloc|apply Kd.V_drewN|apply Kd.V_drew));exact Kd.V_mono (Kd.V_far (p:=⟨gb357,2,none⟩) (Kd.V_far (p:=⟨gb357,1,none⟩) (Kd.V_far (p:=⟨gb357,0,none⟩) (Kd.V_mono HO337.out (fun k_ hk=>(⟨hk,hk.2⟩ : _∧k_≠gb357))) (fun _ hk=>hk.2) (.string t352)) (fun _ hk=>hk.2) (.string t353)) (fun _ hk=>hk.2) (.slice Ao58 t354.length co58)) (fun _ hk=>⟨hk.1.1.1.1.1.1.1,⟨hk.1.1.1.1.2,⟨hk.1.1.2,⟨hk.1.1.1.1.1.1.2,⟨hk.1.1.1.1.1.2,⟨hk.1.1.1.2,hk.1.2⟩⟩⟩⟩⟩⟩)⟩
         have n2_:Aside0 (Kd.R k30 30 (((w53.setCell ⟨gb357,0,none⟩ (.string t352)).setCell ⟨gb357,1,none⟩ (.string t353)).setCell ⟨gb357,2,none⟩ (.slice Ao58 t354.length co58)) w.heap.size (fun k_=>some k_≠(.slice Ao35 t328.length co35:Value).ownBlock∧k_≠gb351) (.slice Ao45 t342.length co45) t342):=⟨by(with_reducible repeat (first|apply Kd.R_alloc|apply Kd.R_drewN|apply Kd.R_drew));exact Kd.R_mono (Kd.R_far (p:=⟨gb357,2,none⟩) (Kd.R_far (p:=⟨gb357,1,none⟩) (Kd.R_far (p:=⟨gb357,0,none⟩) (Kd.R_types HO344.out BK357.out (by decide)) (fun _ hk=>hk.2) (.string t352)) (fun _ hk=>hk.2) (.string t353)) (fun _ hk=>hk.2) (.slice Ao58 t354.length co58)) (fun _ hk=>⟨hk.1.1.2,hk.1.2⟩)⟩
         have n3_:Aside0 (Kd.V k30 30 (((w53.setCell ⟨gb357,0,none⟩ (.string t352)).setCell ⟨gb357,1,none⟩ (.string t353)).setCell ⟨gb357,2,none⟩ (.slice Ao58 t354.length co58)) w.heap.size (fun k_=>some k_≠(.slice Ao35 t328.length co35:Value).ownBlock∧some k_≠(.slice Ao58 t354.length co58:Value).ownBlock∧k_≠gb321∧k_≠gb339∧k_≠gb351∧k_≠gb357) (.slice Ao51 t347.length co51) t347):=⟨by(with_reducible repeat (first|apply Kd.V_alloc|apply Kd.V_drewN|apply Kd.V_drew));exact Kd.V_mono (Kd.V_far (p:=⟨gb357,2,none⟩) (Kd.V_far (p:=⟨gb357,1,none⟩) (Kd.V_far (p:=⟨gb357,0,none⟩) (Kd.V_mono HO349.out (fun k_ hk=>(⟨hk,hk.2⟩ : _∧k_≠gb357))) (fun _ hk=>hk.2) (.string t352)) (fun _ hk=>hk.2) (.string t353)) (fun _ hk=>hk.2) (.slice Ao58 t354.length co58)) (fun _ hk=>⟨hk.1.1.1.1.1,⟨hk.1.1.2,⟨hk.1.1.1.1.2.1,⟨hk.1.1.1.1.2.2,⟨hk.1.1.1.2,hk.1.2⟩⟩⟩⟩⟩)⟩
         have n4_:Aside0 (Kd.R k24 24 (((w53.setCell ⟨gb357,0,none⟩ (.string t352)).setCell ⟨gb357,1,none⟩ (.string t353)).setCell ⟨gb357,2,none⟩ (.slice Ao58 t354.length co58)) w.heap.size (fun k_=>k_≠gb321∧k_≠gb339∧k_≠gb357) (.slice Ao58 t354.length co58) t354):=⟨by(with_reducible repeat (first|apply Kd.R_alloc|apply Kd.R_drewN|apply Kd.R_drew));exact Kd.R_mono (Kd.R_far (p:=⟨gb357,2,none⟩) (Kd.R_far (p:=⟨gb357,1,none⟩) (Kd.R_far (p:=⟨gb357,0,none⟩) (Kd.R_mono HO356.out (fun k_ hk=>(⟨hk,hk.2⟩ : _∧k_≠gb357))) (fun _ hk=>hk.2) (.string t352)) (fun _ hk=>hk.2) (.string t353)) (fun _ hk=>hk.2) (.slice Ao58 t354.length co58)) (fun _ hk=>⟨hk.1.1.1.2,⟨hk.1.1.2,hk.1.2⟩⟩)⟩
         have n5_:Aside0 ((((w53.setCell ⟨gb357,0,none⟩ (.string t352)).setCell ⟨gb357,1,none⟩ (.string t353)).setCell ⟨gb357,2,none⟩ (.slice Ao58 t354.length co58)).heap[gb321]? = some (.cells #[.string a0_0,.string a0_1,.slice A0_2 l0_2.length c0_2] 24 (0,0))):=⟨by(with_reducible repeat (first|refine blk_drewN ?_ _|refine blk_drew ?_|refine blk_alloc ?_ _));refine blk_far ?_ NB321_357.out _;(with_reducible repeat (first|refine blk_drewN ?_ _|refine blk_drew ?_|refine blk_alloc ?_ _));refine blk_far ?_ NB321_357.out _;(with_reducible repeat (first|refine blk_drewN ?_ _|refine blk_drew ?_|refine blk_alloc ?_ _));refine blk_far ?_ NB321_357.out _;(with_reducible repeat (first|refine blk_drewN ?_ _|refine blk_drew ?_|refine blk_alloc ?_ _));exact BK321.out⟩
         have n6_:Aside0 ((((w53.setCell ⟨gb357,0,none⟩ (.string t352)).setCell ⟨gb357,1,none⟩ (.string t353)).setCell ⟨gb357,2,none⟩ (.slice Ao58 t354.length co58)).heap[gb339]? = some (.cells #[.string t333,.string t334,.slice Ao42 t335.length co42] 24 (0,0))):=⟨by(with_reducible repeat (first|refine blk_drewN ?_ _|refine blk_drew ?_|refine blk_alloc ?_ _));refine blk_far ?_ NB339_357.out _;(with_reducible repeat (first|refine blk_drewN ?_ _|refine blk_drew ?_|refine blk_alloc ?_ _));refine blk_far ?_ NB339_357.out _;(with_reducible repeat (first|refine blk_drewN ?_ _|refine blk_drew ?_|refine blk_alloc ?_ _));refine blk_far ?_ NB339_357.out _;(with_reducible repeat (first|refine blk_drewN ?_ _|refine blk_drew ?_|refine blk_alloc ?_ _));exact BK339.out⟩
         have n7_:Aside0 ((((w53.setCell ⟨gb357,0,none⟩ (.string t352)).setCell ⟨gb357,1,none⟩ (.string t353)).setCell ⟨gb357,2,none⟩ (.slice Ao58 t354.length co58)).heap[gb351]? = some (.cells #[.string t345,.string t346,.slice Ao51 t347.length co51] 30 (0,0))):=⟨by(with_reducible repeat (first|refine blk_drewN ?_ _|refine blk_drew ?_|refine blk_alloc ?_ _));refine blk_far ?_ NB351_357.out _;(with_reducible repeat (first|refine blk_drewN ?_ _|refine blk_drew ?_|refine blk_alloc ?_ _));refine blk_far ?_ NB351_357.out _;(with_reducible repeat (first|refine blk_drewN ?_ _|refine blk_drew ?_|refine blk_alloc ?_ _));refine blk_far ?_ NB351_357.out _;(with_reducible repeat (first|refine blk_drewN ?_ _|refine blk_drew ?_|refine blk_alloc ?_ _));exact BK351.out⟩
         have n8_:Aside0 ((((w53.setCell ⟨gb357,0,none⟩ (.string t352)).setCell ⟨gb357,1,none⟩ (.string t353)).setCell ⟨gb357,2,none⟩ (.slice Ao58 t354.length co58)).heap[gb357]? = some (.cells #[.string t352,.string t353,.slice Ao58 t354.length co58] 24 (0,0))):=⟨by(with_reducible repeat (first|refine blk_drewN ?_ _|refine blk_drew ?_|refine blk_alloc ?_ _));refine blk_put (cs:=#[.string t352,.string t353,.slice none 0 0]) ?_ 2 _ rfl;(with_reducible repeat (first|refine blk_drewN ?_ _|refine blk_drew ?_|refine blk_alloc ?_ _));refine blk_put (cs:=#[.string t352,.string (⟨#[]⟩ : ByteArray),.slice none 0 0]) ?_ 1 _ rfl;(with_reducible repeat (first|refine blk_drewN ?_ _|refine blk_drew ?_|refine blk_alloc ?_ _));refine blk_put (cs:=#[.string (⟨#[]⟩ : ByteArray),.string (⟨#[]⟩ : ByteArray),.slice none 0 0]) ?_ 0 _ rfl;(with_reducible repeat (first|refine blk_drewN ?_ _|refine blk_drew ?_|refine blk_alloc ?_ _));exact BK357.out⟩
         have n9_:Aside0 (Below w.heap.size w (((w53.setCell ⟨gb357,0,none⟩ (.string t352)).setCell ⟨gb357,1,none⟩ (.string t353)).setCell ⟨gb357,2,none⟩ (.slice Ao58 t354.length co58))):=⟨by repeat (first|(with_reducible first|exact HB.out|apply below_alloc|apply pw_below_drewN|apply below_drew1|refine below_set ?_ GE321.out|refine below_set ?_ GE339.out|refine below_set ?_ GE351.out|refine below_set ?_ GE357.out)|exact HB.out)⟩
         (try clear HO330)
         (try clear HO337)
         (try clear HO344)
         (try clear HO349)
         (try clear HO356)
         (try clear BK321)
         (try clear BK339)
         (try clear BK351)
         (try clear BK357)
         (try clear HB)
         generalize (((w53.setCell ⟨gb357,0,none⟩ (.string t352)).setCell ⟨gb357,1,none⟩ (.string t353)).setCell ⟨gb357,2,none⟩ (.slice Ao58 t354.length co58))=w59 at n0_ n1_ n2_ n3_ n4_ n5_ n6_ n7_ n8_ n9_ ⊢
         have HO330:=n0_
         have HO337:=n1_
         have HO344:=n2_
         have HO349:=n3_
         have HO356:=n4_
         have BK321:=n5_
         have BK339:=n6_
         have BK351:=n7_
         have BK357:=n8_
         have HB:=n9_
         clear n0_ n1_ n2_ n3_ n4_ n5_ n6_ n7_ n8_ n9_
         have n0_:=Aside0.mk (Kd.R_drew HO330.out)
         have n1_:=Aside0.mk (Kd.V_drew HO337.out)
         have n2_:=Aside0.mk (Kd.R_drew HO344.out)
         have n3_:=Aside0.mk (Kd.V_drew HO349.out)
         have n4_:=Aside0.mk (Kd.R_drew HO356.out)
         have n5_:=Aside0.mk (blk_drew BK321.out)
         have n6_:=Aside0.mk (blk_drew BK339.out)
         have n7_:=Aside0.mk (blk_drew BK351.out)
         have n8_:=Aside0.mk (blk_drew BK357.out)
         have n9_:=Aside0.mk (below_drew1 HB.out)
         clear HO330
         clear HO337
         clear HO344
         clear HO349
         clear HO356
         clear BK321
         clear BK339
         clear BK351
         clear BK357
         clear HB
         have HO330:=n0_
         have HO337:=n1_
         have HO344:=n2_
         have HO349:=n3_
         have HO356:=n4_
         have BK321:=n5_
         have BK339:=n6_
         have BK351:=n7_
         have BK357:=n8_
         have HB:=n9_
         clear n0_ n1_ n2_ n3_ n4_ n5_ n6_ n7_ n8_ n9_
         refine start_ (n:=41) (S:=fun w'=>w'.cell? ⟨gb339,0,none⟩=some (.string t333)∧w'.cell? ⟨gb339,1,none⟩=some (.string t334)∧w'.cell? ⟨gb339,2,none⟩=some (.slice Ao42 t335.length co42)∧w'.cell? ⟨gb351,0,none⟩=some (.string t345)∧w'.cell? ⟨gb351,1,none⟩=some (.string t346)∧w'.cell? ⟨gb351,2,none⟩=some (.slice Ao51 t347.length co51)∧w'.cell? ⟨gb357,0,none⟩=some (.string t352)∧w'.cell? ⟨gb357,1,none⟩=some (.string t353)∧w'.cell? ⟨gb357,2,none⟩=some (.slice Ao58 t354.length co58)) (ds:=[]) #[F,F,F,F,F,F,F,F,F,F,F,F,F,F,F,F,F,F,F,F,F,F,F,F,F,F,F,F,F,F,F,F,F,F,F,F,F,F,F,F,F] (by kernel_rfl) rfl rfl ⟨(blk_cell BK339.out 0).trans rfl,(blk_cell BK339.out 1).trans rfl,(blk_cell BK339.out 2).trans rfl,(blk_cell BK351.out 0).trans rfl,(blk_cell BK351.out 1).trans rfl,(blk_cell BK351.out 2).trans rfl,(blk_cell BK357.out 0).trans rfl,(blk_cell BK357.out 1).trans rfl,(blk_cell BK357.out 2).trans rfl⟩ (fun hHeld=>?_);refine with_tabW stowagelaw13_XmlPrints.tab8 stowagelaw13_XmlPrints.bits8 (fun HT_ HW_=>?_)
         generalize w59.drew=w60 at HO330 HO337 HO344 HO349 HO356 BK321 BK339 BK351 BK357 HB hHeld ⊢
         refine pure_ (i:=0) (N:=some 49) (v:=?_) (a':=?_) #[T,F,F,F,F,F,F,F,F,F,F,F,F,F,F,F,F,F,F,F,F,F,F,F,F,F,F,F,F,F,F,F,F,F,F,F,F,F,F,F,F] rfl rfl (any_of HT_.out (by kernel_rfl)) (fun _ _ _ h=>h) (Or.inl ⟨by rfl,?_⟩) ?_ ?_
         rotate_left
         ·intro w'
          go_simp
          with_reducible rfl
         rotate_left
         ·simp only [Act.put,List.setIfInBounds_toArray,List.set_cons_zero,List.set_cons_succ,i64_w,i32_w]
          rfl
         refine pure_ (i:=1) (N:=some 50) (v:=?_) (a':=?_) #[T,T,F,F,F,F,F,F,F,F,F,F,F,F,F,F,F,F,F,F,F,F,F,F,F,F,F,F,F,F,F,F,F,F,F,F,F,F,F,F,F] rfl rfl (any_of HT_.out (by kernel_rfl)) (fun _ _ _ h=>h) (Or.inl ⟨by rfl,?_⟩) ?_ ?_
         rotate_left
         ·intro w'
          go_simp
          with_reducible rfl
         rotate_left
         ·simp only [Act.put,List.setIfInBounds_toArray,List.set_cons_zero,List.set_cons_succ,i64_w,i32_w]
          rfl
         refine pure_ (i:=2) (N:=some 51) (v:=?_) (a':=?_) #[T,T,T,F,F,F,F,F,F,F,F,F,F,F,F,F,F,F,F,F,F,F,F,F,F,F,F,F,F,F,F,F,F,F,F,F,F,F,F,F,F] rfl rfl (any_of HT_.out (by kernel_rfl)) (fun _ _ _ h=>h) (Or.inl ⟨by rfl,?_⟩) ?_ ?_
         rotate_left
         ·intro w'
          go_simp
          with_reducible rfl
         rotate_left
         ·simp only [Act.put,List.setIfInBounds_toArray,List.set_cons_zero,List.set_cons_succ,i64_w,i32_w]
          rfl
         refine pure_ (i:=3) (N:=some 52) (v:=?_) (a':=?_) #[T,T,T,T,F,F,F,F,F,F,F,F,F,F,F,F,F,F,F,F,F,F,F,F,F,F,F,F,F,F,F,F,F,F,F,F,F,F,F,F,F] rfl rfl (any_of HT_.out (by kernel_rfl)) (fun _ _ _ h=>h) (Or.inl ⟨by rfl,?_⟩) ?_ ?_
         rotate_left
         ·intro w'
          go_simp
          with_reducible rfl
         rotate_left
         ·simp only [Act.put,List.setIfInBounds_toArray,List.set_cons_zero,List.set_cons_succ,i64_w,i32_w]
          rfl
         refine pure_ (i:=4) (N:=some 53) (v:=?_) (a':=?_) #[T,T,T,T,T,F,F,F,F,F,F,F,F,F,F,F,F,F,F,F,F,F,F,F,F,F,F,F,F,F,F,F,F,F,F,F,F,F,F,F,F] rfl rfl (any_of HT_.out (by kernel_rfl)) (fun _ _ _ h=>h) (Or.inl ⟨by rfl,?_⟩) ?_ ?_
         rotate_left
         ·intro w'
          go_simp
          with_reducible rfl
         rotate_left
         ·simp only [Act.put,List.setIfInBounds_toArray,List.set_cons_zero,List.set_cons_succ,i64_w,i32_w]
          rfl
         refine pure_ (i:=5) (N:=some 54) (v:=?_) (a':=?_) #[T,T,T,T,T,T,F,F,F,F,F,F,F,F,F,F,F,F,F,F,F,F,F,F,F,F,F,F,F,F,F,F,F,F,F,F,F,F,F,F,F] rfl rfl (any_of HT_.out (by kernel_rfl)) (fun _ _ _ h=>h) (Or.inl ⟨by rfl,?_⟩) ?_ ?_
         rotate_left
         ·intro w'
          go_simp
          with_reducible rfl
         rotate_left
         ·simp only [Act.put,List.setIfInBounds_toArray,List.set_cons_zero,List.set_cons_succ,i64_w,i32_w]
          rfl
         refine pure_ (i:=6) (N:=some 55) (v:=?_) (a':=?_) #[T,T,T,T,T,T,T,F,F,F,F,F,F,F,F,F,F,F,F,F,F,F,F,F,F,F,F,F,F,F,F,F,F,F,F,F,F,F,F,F,F] rfl rfl (any_of HT_.out (by kernel_rfl)) (fun _ _ _ h=>h) (Or.inl ⟨by rfl,?_⟩) ?_ ?_
         rotate_left
         ·intro w'
          go_simp
          with_reducible rfl
         rotate_left
         ·simp only [Act.put,List.setIfInBounds_toArray,List.set_cons_zero,List.set_cons_succ,i64_w,i32_w]
          rfl
         refine pure_ (i:=7) (N:=some 56) (v:=?_) (a':=?_) #[T,T,T,T,T,T,T,T,F,F,F,F,F,F,F,F,F,F,F,F,F,F,F,F,F,F,F,F,F,F,F,F,F,F,F,F,F,F,F,F,F] rfl rfl (any_of HT_.out (by kernel_rfl)) (fun _ _ _ h=>h) (Or.inl ⟨by rfl,?_⟩) ?_ ?_
         rotate_left
         ·intro w'
          go_simp
          with_reducible rfl
         rotate_left
         ·simp only [Act.put,List.setIfInBounds_toArray,List.set_cons_zero,List.set_cons_succ,i64_w,i32_w]
          rfl
         refine pure_ (i:=8) (N:=some 57) (v:=?_) (a':=?_) #[T,T,T,T,T,T,T,T,T,F,F,F,F,F,F,F,F,F,F,F,F,F,F,F,F,F,F,F,F,F,F,F,F,F,F,F,F,F,F,F,F] rfl rfl (any_of HT_.out (by kernel_rfl)) (fun _ _ _ h=>h) (Or.inl ⟨by rfl,?_⟩) ?_ ?_
         rotate_left
         ·intro w'
          go_simp
          with_reducible rfl
         rotate_left
         ·simp only [Act.put,List.setIfInBounds_toArray,List.set_cons_zero,List.set_cons_succ,i64_w,i32_w]
          rfl
         refine take_ (i:=9) (N:=some 58) (v:=?_) (a':=?_) #[T,T,T,T,T,T,T,T,T,T,F,F,F,F,F,F,F,F,F,F,F,F,F,F,F,F,F,F,F,F,F,F,F,F,F,F,F,F,F,F,F] rfl rfl (take_ofW HT_.out HW_.out (by kernel_rfl)) (fun _ _ _ h=>h) (Or.inl ⟨by rfl,?_⟩) hHeld ?_ ?_
         rotate_left
         ·rintro w' ⟨s0,s1,s2,s3,s4,s5,s6,s7,s8⟩
          go_simp
          with_reducible rfl
         rotate_left
         ·simp only [Act.put,List.setIfInBounds_toArray,List.set_cons_zero,List.set_cons_succ,i64_w,i32_w]
          rfl
         refine take_ (i:=11) (N:=some 60) (v:=?_) (a':=?_) #[T,T,T,T,T,T,T,T,T,T,F,T,F,F,F,F,F,F,F,F,F,F,F,F,F,F,F,F,F,F,F,F,F,F,F,F,F,F,F,F,F] rfl rfl (take_ofW HT_.out HW_.out (by kernel_rfl)) (fun _ _ _ h=>h) (Or.inl ⟨by rfl,?_⟩) hHeld ?_ ?_
         rotate_left
         ·rintro w' ⟨s0,s1,s2,s3,s4,s5,s6,s7,s8⟩
          go_simp
          with_reducible rfl
         rotate_left
         ·simp only [Act.put,List.setIfInBounds_toArray,List.set_cons_zero,List.set_cons_succ,i64_w,i32_w]
          rfl
         refine one_ (i:=10) (N:=some 59) #[T,T,T,T,T,T,T,T,T,T,T,T,F,F,F,F,F,F,F,F,F,F,F,F,F,F,F,F,F,F,F,F,F,F,F,F,F,F,F,F,F] rfl rfl (one_of HT_.out (by kernel_rfl)) (by decide) (fun K hK=>?_)
         refine goes_ Tryd.func13 (by kernel_rfl) rfl #[.agg #[.string t333,.string t334,.slice Ao42 t335.length co42]] (by rfl) rfl rfl (by(try simp only [List.map_toArray,List.map_cons,List.map_nil]);first|done|rfl|(simp only [List.length_drop,List.length_take];rfl)) ?_
         with_reducible refine(stowagelaw13_To.calls k t333 t334 _ _ t335 t358 t359 t360 _ ?side1 ?side2 A20.out).mono ?_
         (case side1=>repeat (first|exact(Kd.V_reads' HO337.out).2.2|(with_reducible refine Kd.C_alloc ?_ _)|(with_reducible refine Kd.C_drewN ?_ _)|(with_reducible refine Kd.C_drew ?_)))
         (case side2=>exact(Kd.V_reads' HO337.out).2.1)
         rintro e w61 ⟨v361,rfl,ho0,hb⟩
         refine⟨_,rfl,?_⟩
         have n0_:=Aside0.mk (Kd.R_elder' (by(with_reducible repeat (first|apply Kd.R_alloc|apply Kd.R_drewN|apply Kd.R_drew));exact HO330.out) (by first|exact Kd.R_base ho0|exact Kd.R_base ho0) hb)
         have n1_:=Aside0.mk (Kd.V_elder' (by(with_reducible repeat (first|apply Kd.V_alloc|apply Kd.V_drewN|apply Kd.V_drew));exact HO337.out) (by first|exact Kd.R_base ho0|exact Kd.R_base ho0) hb)
         have n2_:=Aside0.mk (Kd.R_elder' (by(with_reducible repeat (first|apply Kd.R_alloc|apply Kd.R_drewN|apply Kd.R_drew));exact HO344.out) (by first|exact Kd.R_base ho0|exact Kd.R_base ho0) hb)
         have n3_:=Aside0.mk (Kd.V_elder' (by(with_reducible repeat (first|apply Kd.V_alloc|apply Kd.V_drewN|apply Kd.V_drew));exact HO349.out) (by first|exact Kd.R_base ho0|exact Kd.R_base ho0) hb)
         have n4_:=Aside0.mk (Kd.R_below (by(with_reducible repeat (first|apply Kd.R_alloc|apply Kd.R_drewN|apply Kd.R_drew));exact HO356.out) hb)
         have n5_:=Aside0.mk (Kd.R_lower (Kd.R_newB (Kd.R_new' (Kd.R_new' ho0 (Kd.R_lt (by(with_reducible repeat (first|apply Kd.R_alloc|apply Kd.R_drewN|apply Kd.R_drew));exact HO330.out))) (Kd.R_lt (by(with_reducible repeat (first|apply Kd.R_alloc|apply Kd.R_drewN|apply Kd.R_drew));exact HO344.out))) (g:=gb351) (o:=.cells #[.string t345,.string t346,.slice Ao51 t347.length co51] 30 (0,0)) (by(with_reducible repeat (first|refine blk_drewN ?_ _|refine blk_drew ?_|refine blk_alloc ?_ _));exact BK351.out)) (below_size (by repeat (first|(with_reducible first|exact HB.out|apply below_alloc|apply pw_below_drewN|apply below_drew1|refine below_set ?_ GE321.out|refine below_set ?_ GE339.out|refine below_set ?_ GE351.out|refine below_set ?_ GE357.out)|exact HB.out))))
         have n6_:=Aside0.mk (blk_below (g:=gb321) (o:=.cells #[.string a0_0,.string a0_1,.slice A0_2 l0_2.length c0_2] 24 (0,0)) (by(with_reducible repeat (first|refine blk_drewN ?_ _|refine blk_drew ?_|refine blk_alloc ?_ _));exact BK321.out) hb)
         have n7_:=Aside0.mk (blk_below (g:=gb339) (o:=.cells #[.string t333,.string t334,.slice Ao42 t335.length co42] 24 (0,0)) (by(with_reducible repeat (first|refine blk_drewN ?_ _|refine blk_drew ?_|refine blk_alloc ?_ _));exact BK339.out) hb)
         have n8_:=Aside0.mk (blk_below (g:=gb351) (o:=.cells #[.string t345,.string t346,.slice Ao51 t347.length co51] 30 (0,0)) (by(with_reducible repeat (first|refine blk_drewN ?_ _|refine blk_drew ?_|refine blk_alloc ?_ _));exact BK351.out) hb)
         have n9_:=Aside0.mk (blk_below (g:=gb357) (o:=.cells #[.string t352,.string t353,.slice Ao58 t354.length co58] 24 (0,0)) (by(with_reducible repeat (first|refine blk_drewN ?_ _|refine blk_drew ?_|refine blk_alloc ?_ _));exact BK357.out) hb)
         have n10_:=Aside0.mk (below_step (by repeat (first|(with_reducible first|exact HB.out|apply below_alloc|apply pw_below_drewN|apply below_drew1|refine below_set ?_ GE321.out|refine below_set ?_ GE339.out|refine below_set ?_ GE351.out|refine below_set ?_ GE357.out)|exact HB.out)) hb)
         clear HO330
         clear HO337
         clear HO344
         clear HO349
         clear HO356
         clear BK321
         clear BK339
         clear BK351
         clear BK357
         clear HB
         have HO330:=n0_
         have HO337:=n1_
         have HO344:=n2_
         have HO349:=n3_
         have HO356:=n4_
         have HO362:=n5_
         have BK321:=n6_
         have BK339:=n7_
         have BK351:=n8_
         have BK357:=n9_
         have HB:=n10_
         clear n0_ n1_ n2_ n3_ n4_ n5_ n6_ n7_ n8_ n9_ n10_
         (try clear hb)
         (try clear hb2)
         (try clear hk)
         (try clear hi)
         (try clear ho0)
         obtain⟨Ao62,co62,eo62⟩:=Kd.R_slice HO362.out
         (first|subst eo62|(injection eo62 with f1_ f2_ f3_;have f4_:=f1_.symm;have f5_:=f3_.symm;clear f1_ f2_ f3_;subst f4_;subst f5_))
         refine hK.out _ _ ⟨(blk_cell BK339.out 0).trans rfl,(blk_cell BK339.out 1).trans rfl,(blk_cell BK339.out 2).trans rfl,(blk_cell BK351.out 0).trans rfl,(blk_cell BK351.out 1).trans rfl,(blk_cell BK351.out 2).trans rfl,(blk_cell BK357.out 0).trans rfl,(blk_cell BK357.out 1).trans rfl,(blk_cell BK357.out 2).trans rfl⟩ (fun hHeld=>?_)
         clear hK K
         refine norm_ (a':=?_) ?_ ?_
         rotate_left
         ·show Act.put _ (some 59) _=_
          simp only [Act.put,List.setIfInBounds_toArray,List.set_cons_zero,List.set_cons_succ,i64_w,i32_w]
          rfl
         refine one_ (i:=12) (N:=some 61) #[T,T,T,T,T,T,T,T,T,T,T,T,T,F,F,F,F,F,F,F,F,F,F,F,F,F,F,F,F,F,F,F,F,F,F,F,F,F,F,F,F] rfl rfl (one_of HT_.out (by kernel_rfl)) (by decide) (fun K hK=>?_)
         refine goes_ Tryd.func12 (by kernel_rfl) rfl #[.agg #[.string t358,.string t359,.slice Ao62 t360.length co62],.agg #[.string t345,.string t346,.slice Ao51 t347.length co51]] (by rfl) rfl rfl (by(try simp only [List.map_toArray,List.map_cons,List.map_nil]);first|done|rfl|(simp only [List.length_drop,List.length_take];rfl)) ?_
         with_reducible refine(stowageref13_Same.calls k t358 t359 _ _ t360 t345 t346 _ _ t347 true _ ?side1 ?side2 ?side3 ?side4 A21.out).mono ?_
         (case side1=>repeat (first|exact(Kd.R_reads' HO362.out).2.2|(with_reducible refine Kd.C_alloc ?_ _)|(with_reducible refine Kd.C_drewN ?_ _)|(with_reducible refine Kd.C_drew ?_)))
         (case side2=>exact(Kd.R_reads' HO362.out).2.1)
         (case side3=>repeat (first|exact(Kd.V_reads' HO349.out).2.2|(with_reducible refine Kd.C_alloc ?_ _)|(with_reducible refine Kd.C_drewN ?_ _)|(with_reducible refine Kd.C_drew ?_)))
         (case side4=>exact(Kd.V_reads' HO349.out).2.1)
         rintro e w63 ⟨rfl,hb⟩
         refine⟨_,rfl,?_⟩
         have n0_:=Aside0.mk (Kd.R_below (by(with_reducible repeat (first|apply Kd.R_alloc|apply Kd.R_drewN|apply Kd.R_drew));exact HO330.out) hb)
         have n1_:=Aside0.mk (Kd.V_below (by(with_reducible repeat (first|apply Kd.V_alloc|apply Kd.V_drewN|apply Kd.V_drew));exact HO337.out) hb)
         have n2_:=Aside0.mk (Kd.R_below (by(with_reducible repeat (first|apply Kd.R_alloc|apply Kd.R_drewN|apply Kd.R_drew));exact HO344.out) hb)
         have n3_:=Aside0.mk (Kd.V_below (by(with_reducible repeat (first|apply Kd.V_alloc|apply Kd.V_drewN|apply Kd.V_drew));exact HO349.out) hb)
         have n4_:=Aside0.mk (Kd.R_below (by(with_reducible repeat (first|apply Kd.R_alloc|apply Kd.R_drewN|apply Kd.R_drew));exact HO356.out) hb)
         have n5_:=Aside0.mk (Kd.R_below (by(with_reducible repeat (first|apply Kd.R_alloc|apply Kd.R_drewN|apply Kd.R_drew));exact HO362.out) hb)
         have n6_:=Aside0.mk (blk_below (g:=gb321) (o:=.cells #[.string a0_0,.string a0_1,.slice A0_2 l0_2.length c0_2] 24 (0,0)) (by(with_reducible repeat (first|refine blk_drewN ?_ _|refine blk_drew ?_|refine blk_alloc ?_ _));exact BK321.out) hb)
         have n7_:=Aside0.mk (blk_below (g:=gb339) (o:=.cells #[.string t333,.string t334,.slice Ao42 t335.length co42] 24 (0,0)) (by(with_reducible repeat (first|refine blk_drewN ?_ _|refine blk_drew ?_|refine blk_alloc ?_ _));exact BK339.out) hb)
         have n8_:=Aside0.mk (blk_below (g:=gb351) (o:=.cells #[.string t345,.string t346,.slice Ao51 t347.length co51] 30 (0,0)) (by(with_reducible repeat (first|refine blk_drewN ?_ _|refine blk_drew ?_|refine blk_alloc ?_ _));exact BK351.out) hb)
         have n9_:=Aside0.mk (blk_below (g:=gb357) (o:=.cells #[.string t352,.string t353,.slice Ao58 t354.length co58] 24 (0,0)) (by(with_reducible repeat (first|refine blk_drewN ?_ _|refine blk_drew ?_|refine blk_alloc ?_ _));exact BK357.out) hb)
         have n10_:=Aside0.mk (below_step (by repeat (first|(with_reducible first|exact HB.out|apply below_alloc|apply pw_below_drewN|apply below_drew1|refine below_set ?_ GE321.out|refine below_set ?_ GE339.out|refine below_set ?_ GE351.out|refine below_set ?_ GE357.out)|exact HB.out)) hb)
         clear HO330
         clear HO337
         clear HO344
         clear HO349
         clear HO356
         clear HO362
         clear BK321
         clear BK339
         clear BK351
         clear BK357
         clear HB
         have HO330:=n0_
         have HO337:=n1_
         have HO344:=n2_
         have HO349:=n3_
         have HO356:=n4_
         have HO362:=n5_
         have BK321:=n6_
         have BK339:=n7_
         have BK351:=n8_
         have BK357:=n9_
         have HB:=n10_
         clear n0_ n1_ n2_ n3_ n4_ n5_ n6_ n7_ n8_ n9_ n10_
         (try clear hb)
         (try clear hb2)
         (try clear hk)
         (try clear hi)
         refine hK.out _ _ ⟨(blk_cell BK339.out 0).trans rfl,(blk_cell BK339.out 1).trans rfl,(blk_cell BK339.out 2).trans rfl,(blk_cell BK351.out 0).trans rfl,(blk_cell BK351.out 1).trans rfl,(blk_cell BK351.out 2).trans rfl,(blk_cell BK357.out 0).trans rfl,(blk_cell BK357.out 1).trans rfl,(blk_cell BK357.out 2).trans rfl⟩ (fun hHeld=>?_)
         clear hK K
         refine norm_ (a':=?_) ?_ ?_
         rotate_left
         ·show Act.put _ (some 61) _=_
          simp only [Act.put,List.setIfInBounds_toArray,List.set_cons_zero,List.set_cons_succ,i64_w,i32_w]
          rfl
         refine pure_ (i:=13) (N:=some 62) (v:=?_) (a':=?_) #[T,T,T,T,T,T,T,T,T,T,T,T,T,T,F,F,F,F,F,F,F,F,F,F,F,F,F,F,F,F,F,F,F,F,F,F,F,F,F,F,F] rfl rfl (any_of HT_.out (by kernel_rfl)) (fun _ _ _ h=>h) (Or.inl ⟨by rfl,?_⟩) ?_ ?_
         rotate_left
         ·intro w'
          go_simp
          with_reducible rfl
         rotate_left
         ·simp only [Act.put,List.setIfInBounds_toArray,List.set_cons_zero,List.set_cons_succ,i64_w,i32_w]
          rfl
         refine pure_ (i:=14) (N:=some 63) (v:=?_) (a':=?_) #[T,T,T,T,T,T,T,T,T,T,T,T,T,T,T,F,F,F,F,F,F,F,F,F,F,F,F,F,F,F,F,F,F,F,F,F,F,F,F,F,F] rfl rfl (any_of HT_.out (by kernel_rfl)) (fun _ _ _ h=>h) (Or.inl ⟨by rfl,?_⟩) ?_ ?_
         rotate_left
         ·intro w'
          go_simp
          with_reducible rfl
         rotate_left
         ·simp only [Act.put,List.setIfInBounds_toArray,List.set_cons_zero,List.set_cons_succ,i64_w,i32_w]
          rfl
         refine pure_ (i:=15) (N:=some 64) (v:=?_) (a':=?_) #[T,T,T,T,T,T,T,T,T,T,T,T,T,T,T,T,F,F,F,F,F,F,F,F,F,F,F,F,F,F,F,F,F,F,F,F,F,F,F,F,F] rfl rfl (any_of HT_.out (by kernel_rfl)) (fun _ _ _ h=>h) (Or.inl ⟨by rfl,?_⟩) ?_ ?_
         rotate_left
         ·intro w'
          go_simp
          with_reducible rfl
         rotate_left
         ·simp only [Act.put,List.setIfInBounds_toArray,List.set_cons_zero,List.set_cons_succ,i64_w,i32_w]
          rfl
         refine pure_ (i:=16) (N:=some 65) (v:=?_) (a':=?_) #[T,T,T,T,T,T,T,T,T,T,T,T,T,T,T,T,T,F,F,F,F,F,F,F,F,F,F,F,F,F,F,F,F,F,F,F,F,F,F,F,F] rfl rfl (any_of HT_.out (by kernel_rfl)) (fun _ _ _ h=>h) (Or.inl ⟨by rfl,?_⟩) ?_ ?_
         rotate_left
         ·intro w'
          go_simp
          with_reducible rfl
         rotate_left
         ·simp only [Act.put,List.setIfInBounds_toArray,List.set_cons_zero,List.set_cons_succ,i64_w,i32_w]
          rfl
         refine pure_ (i:=17) (N:=some 66) (v:=?_) (a':=?_) #[T,T,T,T,T,T,T,T,T,T,T,T,T,T,T,T,T,T,F,F,F,F,F,F,F,F,F,F,F,F,F,F,F,F,F,F,F,F,F,F,F] rfl rfl (any_of HT_.out (by kernel_rfl)) (fun _ _ _ h=>h) (Or.inl ⟨by rfl,?_⟩) ?_ ?_
         rotate_left
         ·intro w'
          go_simp
          with_reducible rfl
         rotate_left
         ·simp only [Act.put,List.setIfInBounds_toArray,List.set_cons_zero,List.set_cons_succ,i64_w,i32_w]
          rfl
         refine pure_ (i:=18) (N:=some 67) (v:=?_) (a':=?_) #[T,T,T,T,T,T,T,T,T,T,T,T,T,T,T,T,T,T,T,F,F,F,F,F,F,F,F,F,F,F,F,F,F,F,F,F,F,F,F,F,F] rfl rfl (any_of HT_.out (by kernel_rfl)) (fun _ _ _ h=>h) (Or.inl ⟨by rfl,?_⟩) ?_ ?_
         rotate_left
         ·intro w'
          go_simp
          with_reducible rfl
         rotate_left
         ·simp only [Act.put,List.setIfInBounds_toArray,List.set_cons_zero,List.set_cons_succ,i64_w,i32_w]
          rfl
         refine pure_ (i:=19) (N:=some 68) (v:=?_) (a':=?_) #[T,T,T,T,T,T,T,T,T,T,T,T,T,T,T,T,T,T,T,T,F,F,F,F,F,F,F,F,F,F,F,F,F,F,F,F,F,F,F,F,F] rfl rfl (any_of HT_.out (by kernel_rfl)) (fun _ _ _ h=>h) (Or.inl ⟨by rfl,?_⟩) ?_ ?_
         rotate_left
         ·intro w'
          go_simp
          with_reducible rfl
         rotate_left
         ·simp only [Act.put,List.setIfInBounds_toArray,List.set_cons_zero,List.set_cons_succ,i64_w,i32_w]
          rfl
         refine pure_ (i:=20) (N:=some 69) (v:=?_) (a':=?_) #[T,T,T,T,T,T,T,T,T,T,T,T,T,T,T,T,T,T,T,T,T,F,F,F,F,F,F,F,F,F,F,F,F,F,F,F,F,F,F,F,F] rfl rfl (any_of HT_.out (by kernel_rfl)) (fun _ _ _ h=>h) (Or.inl ⟨by rfl,?_⟩) ?_ ?_
         rotate_left
         ·intro w'
          go_simp
          with_reducible rfl
         rotate_left
         ·simp only [Act.put,List.setIfInBounds_toArray,List.set_cons_zero,List.set_cons_succ,i64_w,i32_w]
          rfl
         refine pure_ (i:=22) (N:=some 71) (v:=?_) (a':=?_) #[T,T,T,T,T,T,T,T,T,T,T,T,T,T,T,T,T,T,T,T,T,F,T,F,F,F,F,F,F,F,F,F,F,F,F,F,F,F,F,F,F] rfl rfl (any_of HT_.out (by kernel_rfl)) (fun _ _ _ h=>h) (Or.inl ⟨by rfl,?_⟩) ?_ ?_
         rotate_left
         ·intro w'
          go_simp
          with_reducible rfl
         rotate_left
         ·simp only [Act.put,List.setIfInBounds_toArray,List.set_cons_zero,List.set_cons_succ,i64_w,i32_w]
          rfl
         refine take_ (i:=21) (N:=some 70) (v:=?_) (a':=?_) #[T,T,T,T,T,T,T,T,T,T,T,T,T,T,T,T,T,T,T,T,T,T,T,F,F,F,F,F,F,F,F,F,F,F,F,F,F,F,F,F,F] rfl rfl (take_ofW HT_.out HW_.out (by kernel_rfl)) (fun _ _ _ h=>h) (Or.inl ⟨by rfl,?_⟩) hHeld ?_ ?_
         rotate_left
         ·rintro w' ⟨s0,s1,s2,s3,s4,s5,s6,s7,s8⟩
          go_simp
          with_reducible rfl
         rotate_left
         ·simp only [Act.put,List.setIfInBounds_toArray,List.set_cons_zero,List.set_cons_succ,i64_w,i32_w]
          rfl
         refine pure_ (i:=23) (N:=some 72) (v:=?_) (a':=?_) #[T,T,T,T,T,T,T,T,T,T,T,T,T,T,T,T,T,T,T,T,T,T,T,T,F,F,F,F,F,F,F,F,F,F,F,F,F,F,F,F,F] rfl rfl (any_of HT_.out (by kernel_rfl)) (fun _ _ _ h=>h) (Or.inl ⟨by rfl,?_⟩) ?_ ?_
         rotate_left
         ·intro w'
          go_simp
          with_reducible rfl
         rotate_left
         ·simp only [Act.put,List.setIfInBounds_toArray,List.set_cons_zero,List.set_cons_succ,i64_w,i32_w]
          rfl
         refine pure_ (i:=24) (N:=some 73) (v:=?_) (a':=?_) #[T,T,T,T,T,T,T,T,T,T,T,T,T,T,T,T,T,T,T,T,T,T,T,T,T,F,F,F,F,F,F,F,F,F,F,F,F,F,F,F,F] rfl rfl (any_of HT_.out (by kernel_rfl)) (fun _ _ _ h=>h) (Or.inl ⟨by rfl,?_⟩) ?_ ?_
         rotate_left
         ·intro w'
          go_simp
          with_reducible rfl
         rotate_left
         ·simp only [Act.put,List.setIfInBounds_toArray,List.set_cons_zero,List.set_cons_succ,i64_w,i32_w]
          rfl
         refine pure_ (i:=25) (N:=some 74) (v:=?_) (a':=?_) #[T,T,T,T,T,T,T,T,T,T,T,T,T,T,T,T,T,T,T,T,T,T,T,T,T,T,F,F,F,F,F,F,F,F,F,F,F,F,F,F,F] rfl rfl (any_of HT_.out (by kernel_rfl)) (fun _ _ _ h=>h) (Or.inl ⟨by rfl,?_⟩) ?_ ?_
         rotate_left
         ·intro w'
          go_simp
          with_reducible rfl
         rotate_left
         ·simp only [Act.put,List.setIfInBounds_toArray,List.set_cons_zero,List.set_cons_succ,i64_w,i32_w]
          rfl
         refine pure_ (i:=26) (N:=some 75) (v:=?_) (a':=?_) #[T,T,T,T,T,T,T,T,T,T,T,T,T,T,T,T,T,T,T,T,T,T,T,T,T,T,T,F,F,F,F,F,F,F,F,F,F,F,F,F,F] rfl rfl (any_of HT_.out (by kernel_rfl)) (fun _ _ _ h=>h) (Or.inl ⟨by rfl,?_⟩) ?_ ?_
         rotate_left
         ·intro w'
          go_simp
          with_reducible rfl
         rotate_left
         ·simp only [Act.put,List.setIfInBounds_toArray,List.set_cons_zero,List.set_cons_succ,i64_w,i32_w]
          rfl
         refine pure_ (i:=28) (N:=some 77) (v:=?_) (a':=?_) #[T,T,T,T,T,T,T,T,T,T,T,T,T,T,T,T,T,T,T,T,T,T,T,T,T,T,T,F,T,F,F,F,F,F,F,F,F,F,F,F,F] rfl rfl (any_of HT_.out (by kernel_rfl)) (fun _ _ _ h=>h) (Or.inl ⟨by rfl,?_⟩) ?_ ?_
         rotate_left
         ·intro w'
          go_simp
          with_reducible rfl
         rotate_left
         ·simp only [Act.put,List.setIfInBounds_toArray,List.set_cons_zero,List.set_cons_succ,i64_w,i32_w]
          rfl
         refine take_ (i:=27) (N:=some 76) (v:=?_) (a':=?_) #[T,T,T,T,T,T,T,T,T,T,T,T,T,T,T,T,T,T,T,T,T,T,T,T,T,T,T,T,T,F,F,F,F,F,F,F,F,F,F,F,F] rfl rfl (take_ofW HT_.out HW_.out (by kernel_rfl)) (fun _ _ _ h=>h) (Or.inl ⟨by rfl,?_⟩) hHeld ?_ ?_
         rotate_left
         ·rintro w' ⟨s0,s1,s2,s3,s4,s5,s6,s7,s8⟩
          go_simp
          with_reducible rfl
         rotate_left
         ·simp only [Act.put,List.setIfInBounds_toArray,List.set_cons_zero,List.set_cons_succ,i64_w,i32_w]
          rfl
         refine pure_ (i:=29) (N:=some 78) (v:=?_) (a':=?_) #[T,T,T,T,T,T,T,T,T,T,T,T,T,T,T,T,T,T,T,T,T,T,T,T,T,T,T,T,T,T,F,F,F,F,F,F,F,F,F,F,F] rfl rfl (any_of HT_.out (by kernel_rfl)) (fun _ _ _ h=>h) (Or.inl ⟨by rfl,?_⟩) ?_ ?_
         rotate_left
         ·intro w'
          go_simp
          with_reducible rfl
         rotate_left
         ·simp only [Act.put,List.setIfInBounds_toArray,List.set_cons_zero,List.set_cons_succ,i64_w,i32_w]
          rfl
         refine pure_ (i:=30) (N:=some 79) (v:=?_) (a':=?_) #[T,T,T,T,T,T,T,T,T,T,T,T,T,T,T,T,T,T,T,T,T,T,T,T,T,T,T,T,T,T,T,F,F,F,F,F,F,F,F,F,F] rfl rfl (any_of HT_.out (by kernel_rfl)) (fun _ _ _ h=>h) (Or.inl ⟨by rfl,?_⟩) ?_ ?_
         rotate_left
         ·intro w'
          go_simp
          with_reducible rfl
         rotate_left
         ·simp only [Act.put,List.setIfInBounds_toArray,List.set_cons_zero,List.set_cons_succ,i64_w,i32_w]
          rfl
         refine pure_ (i:=31) (N:=some 80) (v:=?_) (a':=?_) #[T,T,T,T,T,T,T,T,T,T,T,T,T,T,T,T,T,T,T,T,T,T,T,T,T,T,T,T,T,T,T,T,F,F,F,F,F,F,F,F,F] rfl rfl (any_of HT_.out (by kernel_rfl)) (fun _ _ _ h=>h) (Or.inl ⟨by rfl,?_⟩) ?_ ?_
         rotate_left
         ·intro w'
          go_simp
          with_reducible rfl
         rotate_left
         ·simp only [Act.put,List.setIfInBounds_toArray,List.set_cons_zero,List.set_cons_succ,i64_w,i32_w]
          rfl
         refine pure_ (i:=32) (N:=some 81) (v:=?_) (a':=?_) #[T,T,T,T,T,T,T,T,T,T,T,T,T,T,T,T,T,T,T,T,T,T,T,T,T,T,T,T,T,T,T,T,T,F,F,F,F,F,F,F,F] rfl rfl (any_of HT_.out (by kernel_rfl)) (fun _ _ _ h=>h) (Or.inl ⟨by rfl,?_⟩) ?_ ?_
         rotate_left
         ·intro w'
          go_simp
          with_reducible rfl
         rotate_left
         ·simp only [Act.put,List.setIfInBounds_toArray,List.set_cons_zero,List.set_cons_succ,i64_w,i32_w]
          rfl
         refine take_ (i:=33) (N:=some 82) (v:=?_) (a':=?_) #[T,T,T,T,T,T,T,T,T,T,T,T,T,T,T,T,T,T,T,T,T,T,T,T,T,T,T,T,T,T,T,T,T,T,F,F,F,F,F,F,F] rfl rfl (take_ofW HT_.out HW_.out (by kernel_rfl)) (fun _ _ _ h=>h) (Or.inl ⟨by rfl,?_⟩) hHeld ?_ ?_
         rotate_left
         ·rintro w' ⟨s0,s1,s2,s3,s4,s5,s6,s7,s8⟩
          go_simp
          with_reducible rfl
         rotate_left
         ·simp only [Act.put,List.setIfInBounds_toArray,List.set_cons_zero,List.set_cons_succ,i64_w,i32_w]
          rfl
         refine pure_ (i:=34) (N:=some 83) (v:=?_) (a':=?_) #[T,T,T,T,T,T,T,T,T,T,T,T,T,T,T,T,T,T,T,T,T,T,T,T,T,T,T,T,T,T,T,T,T,T,T,F,F,F,F,F,F] rfl rfl (any_of HT_.out (by kernel_rfl)) (fun _ _ _ h=>h) (Or.inl ⟨by rfl,?_⟩) ?_ ?_
         rotate_left
         ·intro w'
          go_simp
          with_reducible rfl
         rotate_left
         ·simp only [Act.put,List.setIfInBounds_toArray,List.set_cons_zero,List.set_cons_succ,i64_w,i32_w]
          rfl
         refine pure_ (i:=35) (N:=some 84) (v:=?_) (a':=?_) #[T,T,T,T,T,T,T,T,T,T,T,T,T,T,T,T,T,T,T,T,T,T,T,T,T,T,T,T,T,T,T,T,T,T,T,T,F,F,F,F,F] rfl rfl (any_of HT_.out (by kernel_rfl)) (fun _ _ _ h=>h) (Or.inl ⟨by rfl,?_⟩) ?_ ?_
         rotate_left
         ·intro w'
          go_simp
          with_reducible rfl
         rotate_left
         ·simp only [Act.put,List.setIfInBounds_toArray,List.set_cons_zero,List.set_cons_succ,i64_w,i32_w]
          rfl
         refine pure_ (i:=36) (N:=some 85) (v:=?_) (a':=?_) #[T,T,T,T,T,T,T,T,T,T,T,T,T,T,T,T,T,T,T,T,T,T,T,T,T,T,T,T,T,T,T,T,T,T,T,T,T,F,F,F,F] rfl rfl (any_of HT_.out (by kernel_rfl)) (fun _ _ _ h=>h) (Or.inl ⟨by rfl,?_⟩) ?_ ?_
         rotate_left
         ·intro w'
          go_simp
          with_reducible rfl
         rotate_left
         ·simp only [Act.put,List.setIfInBounds_toArray,List.set_cons_zero,List.set_cons_succ,i64_w,i32_w]
          rfl
         refine pure_ (i:=37) (N:=some 86) (v:=?_) (a':=?_) #[T,T,T,T,T,T,T,T,T,T,T,T,T,T,T,T,T,T,T,T,T,T,T,T,T,T,T,T,T,T,T,T,T,T,T,T,T,T,F,F,F] rfl rfl (any_of HT_.out (by kernel_rfl)) (fun _ _ _ h=>h) (Or.inl ⟨by rfl,?_⟩) ?_ ?_
         rotate_left
         ·intro w'
          go_simp
          with_reducible rfl
         rotate_left
         ·simp only [Act.put,List.setIfInBounds_toArray,List.set_cons_zero,List.set_cons_succ,i64_w,i32_w]
          rfl
         refine one_ (i:=38) (N:=some 87) #[T,T,T,T,T,T,T,T,T,T,T,T,T,T,T,T,T,T,T,T,T,T,T,T,T,T,T,T,T,T,T,T,T,T,T,T,T,T,T,F,F] rfl rfl (one_of HT_.out (by kernel_rfl)) (by decide) (fun K hK=>?_)
         refine goes_ Tryd.func14 (by kernel_rfl) rfl #[] (by rfl) rfl rfl (by(try simp only [List.map_toArray,List.map_cons,List.map_nil]);first|done|rfl|(simp only [List.length_drop,List.length_take];rfl)) ?_
         with_reducible refine(stowagelaw13_awake.calls k  t364 _ (by first|exact hG|exact gok_below hG (by repeat (first|(with_reducible first|exact HB.out|apply below_alloc|apply pw_below_drewN|apply below_drew1|refine below_set ?_ GE321.out|refine below_set ?_ GE339.out|refine below_set ?_ GE351.out|refine below_set ?_ GE357.out)|exact HB.out))|exact gok_heap hG rfl|exact gok_drewN hG _|exact gok_below hG (by repeat (first|exact HB.out|exact HBW.out|exact Below.refl _ _|apply below_alloc|apply pw_below_drewN|apply below_drew1))) A27.out).mono ?_
         rintro e w64 ⟨rfl,hb⟩
         refine⟨_,rfl,?_⟩
         have n0_:=Aside0.mk (Kd.R_below (by(with_reducible repeat (first|apply Kd.R_alloc|apply Kd.R_drewN|apply Kd.R_drew));exact HO330.out) hb)
         have n1_:=Aside0.mk (Kd.V_below (by(with_reducible repeat (first|apply Kd.V_alloc|apply Kd.V_drewN|apply Kd.V_drew));exact HO337.out) hb)
         have n2_:=Aside0.mk (Kd.R_below (by(with_reducible repeat (first|apply Kd.R_alloc|apply Kd.R_drewN|apply Kd.R_drew));exact HO344.out) hb)
         have n3_:=Aside0.mk (Kd.V_below (by(with_reducible repeat (first|apply Kd.V_alloc|apply Kd.V_drewN|apply Kd.V_drew));exact HO349.out) hb)
         have n4_:=Aside0.mk (Kd.R_below (by(with_reducible repeat (first|apply Kd.R_alloc|apply Kd.R_drewN|apply Kd.R_drew));exact HO356.out) hb)
         have n5_:=Aside0.mk (Kd.R_below (by(with_reducible repeat (first|apply Kd.R_alloc|apply Kd.R_drewN|apply Kd.R_drew));exact HO362.out) hb)
         have n6_:=Aside0.mk (blk_below (g:=gb321) (o:=.cells #[.string a0_0,.string a0_1,.slice A0_2 l0_2.length c0_2] 24 (0,0)) (by(with_reducible repeat (first|refine blk_drewN ?_ _|refine blk_drew ?_|refine blk_alloc ?_ _));exact BK321.out) hb)
         have n7_:=Aside0.mk (blk_below (g:=gb339) (o:=.cells #[.string t333,.string t334,.slice Ao42 t335.length co42] 24 (0,0)) (by(with_reducible repeat (first|refine blk_drewN ?_ _|refine blk_drew ?_|refine blk_alloc ?_ _));exact BK339.out) hb)
         have n8_:=Aside0.mk (blk_below (g:=gb351) (o:=.cells #[.string t345,.string t346,.slice Ao51 t347.length co51] 30 (0,0)) (by(with_reducible repeat (first|refine blk_drewN ?_ _|refine blk_drew ?_|refine blk_alloc ?_ _));exact BK351.out) hb)
         have n9_:=Aside0.mk (blk_below (g:=gb357) (o:=.cells #[.string t352,.string t353,.slice Ao58 t354.length co58] 24 (0,0)) (by(with_reducible repeat (first|refine blk_drewN ?_ _|refine blk_drew ?_|refine blk_alloc ?_ _));exact BK357.out) hb)
         have n10_:=Aside0.mk (below_step (by repeat (first|(with_reducible first|exact HB.out|apply below_alloc|apply pw_below_drewN|apply below_drew1|refine below_set ?_ GE321.out|refine below_set ?_ GE339.out|refine below_set ?_ GE351.out|refine below_set ?_ GE357.out)|exact HB.out)) hb)
         clear HO330
         clear HO337
         clear HO344
         clear HO349
         clear HO356
         clear HO362
         clear BK321
         clear BK339
         clear BK351
         clear BK357
         clear HB
         have HO330:=n0_
         have HO337:=n1_
         have HO344:=n2_
         have HO349:=n3_
         have HO356:=n4_
         have HO362:=n5_
         have BK321:=n6_
         have BK339:=n7_
         have BK351:=n8_
         have BK357:=n9_
         have HB:=n10_
         clear n0_ n1_ n2_ n3_ n4_ n5_ n6_ n7_ n8_ n9_ n10_
         (try clear hb)
         (try clear hb2)
         (try clear hk)
         (try clear hi)
         refine hK.out _ _ ⟨(blk_cell BK339.out 0).trans rfl,(blk_cell BK339.out 1).trans rfl,(blk_cell BK339.out 2).trans rfl,(blk_cell BK351.out 0).trans rfl,(blk_cell BK351.out 1).trans rfl,(blk_cell BK351.out 2).trans rfl,(blk_cell BK357.out 0).trans rfl,(blk_cell BK357.out 1).trans rfl,(blk_cell BK357.out 2).trans rfl⟩ (fun hHeld=>?_)
         clear hK K
         refine norm_ (a':=?_) ?_ ?_
         rotate_left
         ·show Act.put _ (some 87) _=_
          simp only [Act.put,List.setIfInBounds_toArray,List.set_cons_zero,List.set_cons_succ,i64_w,i32_w]
          rfl
         refine pure_ (i:=39) (N:=some 88) (v:=?_) (a':=?_) #[T,T,T,T,T,T,T,T,T,T,T,T,T,T,T,T,T,T,T,T,T,T,T,T,T,T,T,T,T,T,T,T,T,T,T,T,T,T,T,T,F] rfl rfl (any_of HT_.out (by kernel_rfl)) (fun _ _ _ h=>h) (Or.inl ⟨by rfl,?_⟩) ?_ ?_
         rotate_left
         ·intro w'
          go_simp
          with_reducible rfl
         rotate_left
         ·simp only [Act.put,List.setIfInBounds_toArray,List.set_cons_zero,List.set_cons_succ,i64_w,i32_w]
          rfl
         refine pure_ (i:=40) (N:=some 6) (v:=?_) (a':=?_) #[T,T,T,T,T,T,T,T,T,T,T,T,T,T,T,T,T,T,T,T,T,T,T,T,T,T,T,T,T,T,T,T,T,T,T,T,T,T,T,T,T] rfl rfl (any_of HT_.out (by kernel_rfl)) (fun _ _ _ h=>h) (Or.inl ⟨by rfl,?_⟩) ?_ ?_
         rotate_left
         ·intro w'
          go_simp
          with_reducible rfl
         rotate_left
         ·simp only [Act.put,List.setIfInBounds_toArray,List.set_cons_zero,List.set_cons_succ,i64_w,i32_w]
          rfl
         refine done_ (done_of HT_.out (by kernel_rfl)) ?_
         try go_wp2
         go_ret
         exact⟨by first|rfl|(simp [errW_none,errW_some] <;> rfl)|(simp [*,errW_none,errW_some] <;> rfl),by repeat (first|(with_reducible first|exact HB.out|apply below_alloc|apply pw_below_drewN|apply below_drew1|refine below_set ?_ GE321.out|refine below_set ?_ GE339.out|refine below_set ?_ GE351.out|refine below_set ?_ GE357.out)|exact HB.out)⟩
        ·skip
         have c26b0:((t354.length:Int) == 0)=false:=beq_eq_false_iff_ne.mpr c26
         have c26b1:((t354.length:Int) != 0)=true:=bne_iff_ne.mpr c26
         have c26b2:¬ (t354 = []):=fun h_=>c26 (by rw [h_];rfl)
         rw [hr] at H
         exact absurd H (by simp)
       ·skip
        have c25b0:(t353.toList == t324.toList)=false:=beq_eq_false_iff_ne.mpr c25
        have c25b1:(t353.toList != t324.toList)=true:=bne_iff_ne.mpr c25
        rw [hr] at H
        exact absurd H (by simp)
      ·skip
       have c24b0:(t352.toList == a2.toList)=false:=beq_eq_false_iff_ne.mpr c24
       have c24b1:(t352.toList != a2.toList)=true:=bne_iff_ne.mpr c24
       rw [hr] at H
       exact absurd H (by simp)
     ·skip
      have c23b0:(t338 == t350)=false:=by simpa using c23
      (try (have c23b1:decide (t338=t350)=false:=by simpa using c23))
      (try (have c23b2:(t338 == t350)=false:=by simpa using c23))
      (try (have c23b3:¬ (t338=t350):=by simpa using c23))
      clear c23
      rw [hr] at H
      exact absurd H (by simp)
    ·replace c22:=Bool.eq_false_iff.mpr c22
     subst c22
     replace H:=itF H
     rw [hr] at H
     exact absurd H (by simp)
   ·skip
    have c19b0:(t325 == t332)=false:=beq_eq_false_iff_ne.mpr c19
    have c19b1:(t325 != t332)=true:=bne_iff_ne.mpr c19
    rw [hr] at H
    exact absurd H (by simp)
  ·skip
   have c18b0:(t324.toList == t331.toList)=false:=beq_eq_false_iff_ne.mpr c18
   have c18b1:(t324.toList != t331.toList)=true:=bne_iff_ne.mpr c18
   rw [hr] at H
   exact absurd H (by simp)
end Go.Proofs.YtklcgncaclggcaaDoor.Q
