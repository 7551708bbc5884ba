/- A part of the proof of the seat's laws. No condition beyond those in the theorems. -/
import Derived.Test.YtklcgncaclggcaaDoorZBase
import Derived.WalkMore
import Derived.Test.YtklcgncaclggcaaDoorZQ51
import Derived.Test.YtklcgncaclggcaaDoorZQ0g15
import Derived.Test.YtklcgncaclggcaaDoorZQ45g12
import Derived.Test.YtklcgncaclggcaaDoorZQ31
import Derived.Test.YtklcgncaclggcaaDoorZQ59g2
import Derived.Test.YtklcgncaclggcaaDoorZQ52
import Derived.Test.YtklcgncaclggcaaDoorZSqzB

namespace Go.Proofs.YtklcgncaclggcaaDoor.Q
open Go.RowKit Go.Proofs.YtklcgncaclggcaaDoorW.PrintWords Go.Proofs.YtklcgncaclggcaaDoorW.PrintLast Go.Proofs.YtklcgncaclggcaaDoorW.PrintMore
set_option linter.unusedVariables false
set_option linter.unusedSimpArgs false
set_option maxHeartbeats 8000000
set_option maxRecDepth 100000
attribute [local go_sem] max2_int min2_int max_two min_two max_three min_three max_four min_four   
def xml_Parse.f (k:Nat) (s:ByteArray):Option (ByteArray×ByteArray×List S24×Int):=(if(65536:Int)<(s.size:Int) then some (⟨#[]⟩,⟨#[]⟩,[],2) else((chars_Legal.f s).bind fun lg=>(if lg=true then((xml_reader_begin.f s 0).bind fun b=>(if b.1=true then((xml_reader_space.f k b.2.1 b.2.2).bind fun a=>(xml_el.f k a.2.1 a.2.2 1).bind fun e=>(xml_reader_space.f k e.2.2.1 e.2.2.2).bind fun z=>(if e.2.1=true then(if z.2.2=(s.size:Int) then some (e.1.f0,e.1.f1,e.1.f2,0) else some (⟨#[]⟩,⟨#[]⟩,[],130)) else some (⟨#[]⟩,⟨#[]⟩,[],130))) else some (⟨#[]⟩,⟨#[]⟩,[],130))) else some (⟨#[]⟩,⟨#[]⟩,[],130))))
theorem xml_el.at_mono:∀ k s p,LeO (xml_el.at_ k s p) (xml_el.at_ (k+1) s p)
 | 0=>fun _ _ r h=>by simp [xml_el.at_] at h
 | k+1=>by
  have ih:=xml_el.at_mono k
  intro s p
  unfold xml_el.at_
  with_reducible repeat' first|exact ih _ _|exact xml_reader_space.mono _ _ _|exact xml_reader_attribute.mono _ _ _|exact LeO.refl _|exact LeO.none _|refine LeO.ite ?_ ?_|refine LeO.bind ?_ (fun _=>?_)
theorem xml_el.out_mono:∀ nm tx kids s p k,LeO (xml_el.out k nm tx kids s p) (xml_el.out (k+1) nm tx kids s p):=by
 intro nm tx kids s p k
 unfold xml_el.out
 with_reducible repeat' first|exact xml_reader_space.mono _ _ _|exact xml_reader_name.mono _ _ _|exact LeO.refl _|exact LeO.none _|refine LeO.ite ?_ ?_|refine LeO.bind ?_ (fun _=>?_)
theorem xml_el.mono_l:∀ k,(∀ s p d,LeO (xml_el.f k s p d) (xml_el.f (k+1) s p d))∧(∀ s p d kids,LeO (xml_co.lp k s p d kids) (xml_co.lp (k+1) s p d kids))∧(∀ s p d,LeO (xml_co.f k s p d) (xml_co.f (k+1) s p d))
 | 0=>⟨fun _ _ _ r h=>by simp [xml_el.f] at h,fun _ _ _ _ r h=>by simp [xml_co.lp] at h,fun _ _ _ r h=>by simp [xml_co.f] at h⟩
 | k+1=>by
  obtain⟨ih0,ih1,ih2⟩:=xml_el.mono_l k
  refine⟨?_,?_,?_⟩
  ·intro s p d
   unfold xml_el.f
   with_reducible repeat' first|exact ih2 _ _ _|exact xml_el.at_mono _ _ _|exact xml_el.out_mono _ _ _ _ _ _|exact xml_Name.mono _ _|exact xml_reader_name.mono _ _ _|exact LeO.refl _|exact LeO.none _|refine LeO.ite ?_ ?_|refine LeO.bind ?_ (fun _=>?_)
  ·intro s p d kids
   unfold xml_co.lp
   with_reducible repeat' first|exact ih0 _ _ _|exact ih1 _ _ _ _|exact xml_reader_space.mono _ _ _|exact LeO.refl _|exact LeO.none _|refine LeO.ite ?_ ?_|refine LeO.bind ?_ (fun _=>?_)
  ·intro s p d
   unfold xml_co.f
   with_reducible repeat' first|exact ih1 _ _ _ _|exact xml_reader_space.mono _ _ _|exact xml_Unescape.mono _ _|exact LeO.refl _|exact LeO.none _|refine LeO.ite ?_ ?_|refine LeO.bind ?_ (fun _=>?_)
theorem xml_Parse.mono:∀ a0 k,LeO (xml_Parse.f k a0) (xml_Parse.f (k+1) a0):=by
 intro a0 k
 unfold xml_Parse.f
 with_reducible repeat' first|exact(xml_el.mono_l k).1 _ _ _|exact xml_reader_space.mono _ _ _|exact LeO.refl _|exact LeO.none _|refine LeO.ite ?_ ?_|refine LeO.bind ?_ (fun _=>?_)
def xml_pa.Inv (w W:World) (g b:Nat) (s:ByteArray) (p:Int):Prop:=IsS57 w W g s p∧Below w.heap.size w W∧W.heap[b]? = some (.cells #[.string (⟨#[]⟩ : ByteArray),.string (⟨#[]⟩ : ByteArray),.slice none 0 0] 24 (0,0))∧b≠g∧w.heap.size≤b
section
variable {w W W1:World} {g b:Nat} {s s1:ByteArray} {p p1:Int}
theorem xml_pa.Inv.i (h:xml_pa.Inv w W g b s p):IsS57 w W g s p:=h.1
theorem xml_pa.Inv.bel (h:xml_pa.Inv w W g b s p):Below w.heap.size w W:=h.2.1
theorem xml_pa.Inv.blk (h:xml_pa.Inv w W g b s p):W.heap[b]? = some (.cells #[.string (⟨#[]⟩ : ByteArray),.string (⟨#[]⟩ : ByteArray),.slice none 0 0] 24 (0,0)):=h.2.2.1
theorem xml_pa.Inv.ne (h:xml_pa.Inv w W g b s p):b≠g:=h.2.2.2.1
theorem xml_pa.Inv.ge (h:xml_pa.Inv w W g b s p):w.heap.size≤b:=h.2.2.2.2
theorem xml_pa.Inv.drewN (h:xml_pa.Inv w W g b s p) (n:Nat):xml_pa.Inv w (W.drewN n) g b s p:=⟨h.1.drewN n,pw_below_drewN h.2.1 n,blk_drewN h.2.2.1 n,h.2.2.2⟩
theorem xml_pa.Inv.drew (h:xml_pa.Inv w W g b s p):xml_pa.Inv w W.drew g b s p:=⟨h.1.drew,below_drew h.2.1,blk_drew h.2.2.1,h.2.2.2⟩
theorem xml_pa.Inv.call (h:xml_pa.Inv w W g b s p) (hi:IsS57 w W1 g s1 p1) (hb:Below w.heap.size w W1) (hk:KeepBut W W1 g none):xml_pa.Inv w W1 g b s1 p1:=⟨hi,hb,hk.blk h.2.2.1 h.2.2.2.1 (by simp),h.2.2.2⟩
theorem xml_pa.Inv.below (h:xml_pa.Inv w W g b s p) (hb:Below W.heap.size W W1):xml_pa.Inv w W1 g b s p:=⟨h.1.below hb,below_step h.2.1 hb,blk_below h.2.2.1 hb,h.2.2.2⟩
theorem xml_pa.Inv.far (h:xml_pa.Inv w W g b s p) {q:Nat} (hq:w.heap.size≤q) (hg:q≠g) (hb:q≠b) (j:Nat) (u:Value):xml_pa.Inv w (W.setCell ⟨q,j,none⟩ u) g b s p:=
 ⟨h.1.far (p:=⟨q,j,none⟩) (fun e=>hg e.symm) u,below_set h.2.1 hq,blk_far h.2.2.1 (p:=⟨q,j,none⟩) (fun e=>hb e.symm) u,h.2.2.2⟩
theorem xml_pa.start {w4 w5:World} (h1:Below w.heap.size w w4) (h2:w4.heap[b]? = some (.cells #[.string (⟨#[]⟩ : ByteArray),.string (⟨#[]⟩ : ByteArray),.slice none 0 0] 24 (0,0))) (h3:b=w.heap.size) (h4:Below w4.heap.size w4 w5) (h5:w5.heap[g]? = some (.cells #[.string s,.int .i64 0] 57 (0,0))) (h6:g=w4.heap.size):xml_pa.Inv w w5 g b s 0:=
 ⟨⟨h5,by rw [h6];exact h1.size⟩,below_step h1 h4,blk_below h2 h4,by have:=blk_lt h2;omega,Nat.le_of_eq h3.symm⟩
theorem xml_pa.el {n:Nat} {u:Value} {xs:List S24} (h:xml_pa.Inv w W g b s p) (hV:Kd.V k24 24 W1 n (fun k_=>W.heap.size≤k_) u xs):Kd.V k24 24 W1 n (fun k_=>w.heap.size≤k_∧k_≠g∧k_≠b) u xs:=
 Kd.V_mono hV (fun k_ (hk:W.heap.size≤k_)=>⟨Nat.le_trans h.2.1.size hk,by have:=h.1.lt;omega,by have:=blk_lt h.2.2.1;omega⟩)
theorem xml_pa.vkeep {n:Nat} {u:Value} {xs:List S24} (h:Kd.V k24 24 W n (fun k_=>w.heap.size≤k_∧k_≠g∧k_≠b) u xs) (hk:KeepBut W W1 g none):Kd.V k24 24 W1 n (fun k_=>w.heap.size≤k_∧k_≠g∧k_≠b) u xs:=Kd.V_keep h hk (fun k_ (h_:w.heap.size≤k_∧k_≠g∧k_≠b)=>h_.2.1)
theorem xml_pa.vput {n:Nat} {u:Value} {xs:List S24} (h:Kd.V k24 24 W n (fun k_=>w.heap.size≤k_∧k_≠g∧k_≠b) u xs) (x y z:Value):Kd.V k24 24 (((W.setCell ⟨b,0,none⟩ x).setCell ⟨b,1,none⟩ y).setCell ⟨b,2,none⟩ z) n (fun k_=>w.heap.size≤k_) u xs:=
 Kd.V_mono (Kd.V_far (p:=⟨b,2,none⟩) (Kd.V_far (p:=⟨b,1,none⟩) (Kd.V_far (p:=⟨b,0,none⟩) h (fun _ hk=>hk.2.2) x) (fun _ hk=>hk.2.2) y) (fun _ hk=>hk.2.2) z) (fun _ hk=>hk.1)
theorem xml_pa.ne5 {w4:World} {q:Nat} (h:xml_pa.Inv w W g b s p) (hq:q=W.heap.size):w.heap.size≤q∧q≠g∧q≠b:=⟨by rw [hq];exact h.2.1.size,by have:=h.1.lt;omega,by have:=blk_lt h.2.2.1;omega⟩
theorem xml_pa.ends {nm tx:ByteArray} {v:Value} {xs:List S24} (h:xml_pa.Inv w W g b s p) (hV:Kd.V k24 24 W w.heap.size (fun k_=>w.heap.size≤k_∧k_≠g∧k_≠b) v xs) :
  (((W.setCell ⟨b,0,none⟩ (.string nm)).setCell ⟨b,1,none⟩ (.string tx)).setCell ⟨b,2,none⟩ v).heap[b]? = some (.cells #[.string nm,.string tx,v] 24 (0,0))∧Kd.V k24 24 (((W.setCell ⟨b,0,none⟩ (.string nm)).setCell ⟨b,1,none⟩ (.string tx)).setCell ⟨b,2,none⟩ v) w.heap.size (fun k_=>w.heap.size≤k_) v xs∧Below w.heap.size w (((W.setCell ⟨b,0,none⟩ (.string nm)).setCell ⟨b,1,none⟩ (.string tx)).setCell ⟨b,2,none⟩ v):=
 ⟨blk_put (blk_put (blk_put h.2.2.1 0 (.string nm) (cs':=#[.string nm,.string (⟨#[]⟩ : ByteArray),.slice none 0 0]) rfl) 1 (.string tx) (cs':=#[.string nm,.string tx,.slice none 0 0]) rfl) 2 v rfl,xml_pa.vput hV _ _ _,below_set (below_set (below_set h.2.1 h.2.2.2.2) h.2.2.2.2) h.2.2.2.2⟩
end
theorem xml_Parse.calls (k:Nat) (a0:ByteArray) (r1 r2:ByteArray) (r3:List S24) (r4:Int) (w:World) (hG:GOk w) (h:xml_Parse.f k a0=some (r1,r2,r3,r4)) :
  Calls Tryd.prog 10 #[.string a0] w fun e w'=>∃ v0_:Value,e = .returned (.tuple #[.agg #[.string r1,.string r2,v0_],.int .i64 r4])∧Kd.V k24 24 w' w.heap.size (fun k_=>(w.heap.size≤k_)) v0_ r3∧Below w.heap.size w w':=by
 unfold xml_Parse.f at h
 have hu24:=Tryd.underlying24
 go_enter Tryd.func10,Tryd.ntmps10
 rcases itO h with⟨c1,h⟩|⟨c1,h⟩
 ·have t1:=eq_true c1
  have t2:=decide_eq_true c1
  have t3:decide (65536<a0.size)=true:=decide_eq_true (by omega)
  have t4:(65536<a0.size)=True:=eq_true (by omega)
  clear c1
  simp only [Option.some.injEq,Prod.mk.injEq] at h
  obtain⟨rfl,rfl,rfl,rfl⟩:=h
  go_wp2_with (first|((with_reducible refine gate_dst (N:=2) rfl ?_);(try (refine gate_guard (by rfl) ?_;dsimp only));refine box_event ?hg2 (N:=2) ?hd2 (cs:=#[.string (⟨#[]⟩ : ByteArray),.string (⟨#[]⟩ : ByteArray),.slice none 0 0]) (t:=24) ?hr2 ?_;(case hd2=>rfl);(case hg2=>rfl);(case hr2=>first|(go_simp;done)|(go_simp;rfl));intro b hgb w4 hbox hb;have HB1:=Aside0.mk hb;have HB2:=Aside0.mk hbox;have HB3:=Aside0.mk hgb;have hd0:=(blk_cell HB2.out 0).trans rfl;have hd1:=(blk_cell HB2.out 1).trans rfl;have hd2:=(blk_cell HB2.out 2).trans rfl;have he0:=blk_frozen HB2.out 0;have he1:=blk_frozen HB2.out 1;have he2:=blk_frozen HB2.out 2;clear hb hbox hgb))
  try simp only [Exit.jump]
  have HZ:=blk_put (blk_put (blk_put HB2.out 0 (.string (⟨#[]⟩ : ByteArray)) (cs':=#[.string (⟨#[]⟩ : ByteArray),.string (⟨#[]⟩ : ByteArray),.slice none 0 0]) rfl) 1 (.string (⟨#[]⟩ : ByteArray)) (cs':=#[.string (⟨#[]⟩ : ByteArray),.string (⟨#[]⟩ : ByteArray),.slice none 0 0]) rfl) 2 (.slice none 0 0) (cs':=#[.string (⟨#[]⟩ : ByteArray),.string (⟨#[]⟩ : ByteArray),.slice none 0 0]) rfl
  refine bodyPost_ret (results_ct rfl _ _ b 24 #[.string (⟨#[]⟩ : ByteArray),.string (⟨#[]⟩ : ByteArray),.slice none 0 0] (0,0) _ rfl HZ Tryd.underlying24 rfl (by kernel_rfl)) rfl ?_
  exact⟨.slice none 0 0,rfl,Kd.V_nil _ _ _ _ _,below_set (below_set (below_set HB1.out (Nat.le_of_eq HB3.out.symm)) (Nat.le_of_eq HB3.out.symm)) (Nat.le_of_eq HB3.out.symm)⟩
 have t1:=eq_false c1
 have t2:=decide_eq_false c1
 have t3:decide (65536<a0.size)=false:=decide_eq_false (by omega)
 have t4:(65536<a0.size)=False:=eq_false (by omega)
 clear c1
 obtain⟨lg,hlg,h⟩:=bndO h
 have hLg:=Aside0.mk hlg
 clear hlg
 cases lg with
 | false=>
  rw [if_neg Bool.false_ne_true] at h
  simp only [Option.some.injEq,Prod.mk.injEq] at h
  obtain⟨rfl,rfl,rfl,rfl⟩:=h
  go_wp2_with (first|((with_reducible refine gate_dst (N:=2) rfl ?_);(try (refine gate_guard (by rfl) ?_;dsimp only));refine box_event ?hg2 (N:=2) ?hd2 (cs:=#[.string (⟨#[]⟩ : ByteArray),.string (⟨#[]⟩ : ByteArray),.slice none 0 0]) (t:=24) ?hr2 ?_;(case hd2=>rfl);(case hg2=>rfl);(case hr2=>first|(go_simp;done)|(go_simp;rfl));intro b hgb w4 hbox hb;have HB1:=Aside0.mk hb;have HB2:=Aside0.mk hbox;have HB3:=Aside0.mk hgb;have hd0:=(blk_cell HB2.out 0).trans rfl;have hd1:=(blk_cell HB2.out 1).trans rfl;have hd2:=(blk_cell HB2.out 2).trans rfl;have he0:=blk_frozen HB2.out 0;have he1:=blk_frozen HB2.out 1;have he2:=blk_frozen HB2.out 2;clear hb hbox hgb)|((with_reducible refine gate_dst (N:=13) rfl ?_);(try (refine gate_guard (by rfl) ?_;dsimp only));refine box_event ?hg13 (N:=13) ?hd13 (cs:=#[.string a0,.int .i64 0]) (t:=57) ?hr13 ?_;(case hd13=>rfl);(case hg13=>rfl);(case hr13=>first|(go_simp;done)|(go_simp;rfl));intro g hgg w5 hbox hb;have HV:=Aside0.mk (xml_pa.start HB1.out HB2.out HB3.out hb hbox hgg);clear hb hbox hgg;have hc0:=xml_reader_attribute.c0 HV.out.i;have hc1:=xml_reader_attribute.c1 HV.out.i;have hd0:=(blk_cell HV.out.blk 0).trans rfl;have hd1:=(blk_cell HV.out.blk 1).trans rfl;have hd2:=(blk_cell HV.out.blk 2).trans rfl;have he0:=blk_frozen HV.out.blk 0;have he1:=blk_frozen HV.out.blk 1;have he2:=blk_frozen HV.out.blk 2;have hne:=HV.out.ne;have hen:=HV.out.ne.symm)|(go_at_call 27;with_reducible refine(chars_Legal.calls a0 false _ hLg.out).mono ?_;rintro e_ w_ ⟨rfl,hb⟩;(first|replace HV:=Aside0.mk (xml_pa.Inv.below HV.out hb)|replace HV:=Aside0.mk (xml_pa.Inv.below (HV.out.drewN _) hb)|replace HV:=Aside0.mk (xml_pa.Inv.below ((HV.out.drewN _).drewN _) hb)|replace HV:=Aside0.mk (xml_pa.Inv.below HV.out.drew hb));clear hb;have hc0:=xml_reader_attribute.c0 HV.out.i;have hc1:=xml_reader_attribute.c1 HV.out.i;have hd0:=(blk_cell HV.out.blk 0).trans rfl;have hd1:=(blk_cell HV.out.blk 1).trans rfl;have hd2:=(blk_cell HV.out.blk 2).trans rfl;have he0:=blk_frozen HV.out.blk 0;have he1:=blk_frozen HV.out.blk 1;have he2:=blk_frozen HV.out.blk 2;have hne:=HV.out.ne;have hen:=HV.out.ne.symm))
  try simp only [Exit.jump]
  have HZ:=xml_pa.ends (nm:=(⟨#[]⟩ : ByteArray)) (tx:=(⟨#[]⟩ : ByteArray)) (by first|exact HV.out|exact(HV.out.drewN _)|exact((HV.out.drewN _).drewN _)|exact HV.out.drew) (Kd.V_nil k24 24 _ _ _)
  refine bodyPost_ret (results_ct rfl _ _ b 24 #[.string (⟨#[]⟩ : ByteArray),.string (⟨#[]⟩ : ByteArray),.slice none 0 0] (0,0) _ rfl HZ.1 Tryd.underlying24 rfl (by kernel_rfl)) rfl ?_
  exact⟨.slice none 0 0,rfl,HZ.2.1,HZ.2.2⟩
 | true=>
  rw [if_pos rfl] at h
  obtain⟨b0,hb0,h⟩:=bndO h
  obtain⟨b1,b2,b3⟩:=b0
  have hBg:=Aside0.mk hb0
  clear hb0
  dsimp only at h
  cases b1 with
  | false=>
   rw [if_neg Bool.false_ne_true] at h
   simp only [Option.some.injEq,Prod.mk.injEq] at h
   obtain⟨rfl,rfl,rfl,rfl⟩:=h
   go_wp2_with (first|((with_reducible refine gate_dst (N:=2) rfl ?_);(try (refine gate_guard (by rfl) ?_;dsimp only));refine box_event ?hg2 (N:=2) ?hd2 (cs:=#[.string (⟨#[]⟩ : ByteArray),.string (⟨#[]⟩ : ByteArray),.slice none 0 0]) (t:=24) ?hr2 ?_;(case hd2=>rfl);(case hg2=>rfl);(case hr2=>first|(go_simp;done)|(go_simp;rfl));intro b hgb w4 hbox hb;have HB1:=Aside0.mk hb;have HB2:=Aside0.mk hbox;have HB3:=Aside0.mk hgb;have hd0:=(blk_cell HB2.out 0).trans rfl;have hd1:=(blk_cell HB2.out 1).trans rfl;have hd2:=(blk_cell HB2.out 2).trans rfl;have he0:=blk_frozen HB2.out 0;have he1:=blk_frozen HB2.out 1;have he2:=blk_frozen HB2.out 2;clear hb hbox hgb)|((with_reducible refine gate_dst (N:=13) rfl ?_);(try (refine gate_guard (by rfl) ?_;dsimp only));refine box_event ?hg13 (N:=13) ?hd13 (cs:=#[.string a0,.int .i64 0]) (t:=57) ?hr13 ?_;(case hd13=>rfl);(case hg13=>rfl);(case hr13=>first|(go_simp;done)|(go_simp;rfl));intro g hgg w5 hbox hb;have HV:=Aside0.mk (xml_pa.start HB1.out HB2.out HB3.out hb hbox hgg);clear hb hbox hgg;have hc0:=xml_reader_attribute.c0 HV.out.i;have hc1:=xml_reader_attribute.c1 HV.out.i;have hd0:=(blk_cell HV.out.blk 0).trans rfl;have hd1:=(blk_cell HV.out.blk 1).trans rfl;have hd2:=(blk_cell HV.out.blk 2).trans rfl;have he0:=blk_frozen HV.out.blk 0;have he1:=blk_frozen HV.out.blk 1;have he2:=blk_frozen HV.out.blk 2;have hne:=HV.out.ne;have hen:=HV.out.ne.symm)|(go_at_call 27;with_reducible refine(chars_Legal.calls a0 true _ hLg.out).mono ?_;rintro e_ w_ ⟨rfl,hb⟩;(first|replace HV:=Aside0.mk (xml_pa.Inv.below HV.out hb)|replace HV:=Aside0.mk (xml_pa.Inv.below (HV.out.drewN _) hb)|replace HV:=Aside0.mk (xml_pa.Inv.below ((HV.out.drewN _).drewN _) hb)|replace HV:=Aside0.mk (xml_pa.Inv.below HV.out.drew hb));clear hb;have hc0:=xml_reader_attribute.c0 HV.out.i;have hc1:=xml_reader_attribute.c1 HV.out.i;have hd0:=(blk_cell HV.out.blk 0).trans rfl;have hd1:=(blk_cell HV.out.blk 1).trans rfl;have hd2:=(blk_cell HV.out.blk 2).trans rfl;have he0:=blk_frozen HV.out.blk 0;have he1:=blk_frozen HV.out.blk 1;have he2:=blk_frozen HV.out.blk 2;have hne:=HV.out.ne;have hen:=HV.out.ne.symm)|(go_at_call 28;with_reducible refine(xml_reader_begin.calls g a0 0 false b2 b3 w _ ?s1 ?s2 hG hBg.out).mono ?_;(case s1=>exact(by first|exact HV.out.i|exact(HV.out.drewN _).i|exact((HV.out.drewN _).drewN _).i|exact HV.out.drew.i));(case s2=>exact(by first|exact HV.out.bel|exact(HV.out.drewN _).bel|exact((HV.out.drewN _).drewN _).bel|exact HV.out.drew.bel));rintro e_ w_ ⟨rfl,hi,hb,hk⟩;(first|replace HV:=Aside0.mk (xml_pa.Inv.call HV.out hi hb hk)|replace HV:=Aside0.mk (xml_pa.Inv.call (HV.out.drewN _) hi hb hk)|replace HV:=Aside0.mk (xml_pa.Inv.call ((HV.out.drewN _).drewN _) hi hb hk)|replace HV:=Aside0.mk (xml_pa.Inv.call HV.out.drew hi hb hk));clear hi hb hk;have hc0:=xml_reader_attribute.c0 HV.out.i;have hc1:=xml_reader_attribute.c1 HV.out.i;have hd0:=(blk_cell HV.out.blk 0).trans rfl;have hd1:=(blk_cell HV.out.blk 1).trans rfl;have hd2:=(blk_cell HV.out.blk 2).trans rfl;have he0:=blk_frozen HV.out.blk 0;have he1:=blk_frozen HV.out.blk 1;have he2:=blk_frozen HV.out.blk 2;have hne:=HV.out.ne;have hen:=HV.out.ne.symm))
   try simp only [Exit.jump]
   have HZ:=xml_pa.ends (nm:=(⟨#[]⟩ : ByteArray)) (tx:=(⟨#[]⟩ : ByteArray)) (by first|exact HV.out|exact(HV.out.drewN _)|exact((HV.out.drewN _).drewN _)|exact HV.out.drew) (Kd.V_nil k24 24 _ _ _)
   refine bodyPost_ret (results_ct rfl _ _ b 24 #[.string (⟨#[]⟩ : ByteArray),.string (⟨#[]⟩ : ByteArray),.slice none 0 0] (0,0) _ rfl HZ.1 Tryd.underlying24 rfl (by kernel_rfl)) rfl ?_
   exact⟨.slice none 0 0,rfl,HZ.2.1,HZ.2.2⟩
  | true=>
   rw [if_pos rfl] at h
   obtain⟨a,ha,h⟩:=bndO h
   obtain⟨s1,s2,s3⟩:=a
   have hS1:=Aside0.mk ha
   clear ha
   dsimp only at h
   obtain⟨e,he,h⟩:=bndO h
   obtain⟨⟨x0,x1,x2⟩,e2,e3,e4⟩:=e
   have hE:=Aside0.mk he
   clear he
   dsimp only at h
   obtain⟨z,hz,h⟩:=bndO h
   obtain⟨z1,z2,z3⟩:=z
   have hS2:=Aside0.mk hz
   clear hz
   dsimp only at h
   go_upto_region 8 with(first|((with_reducible refine gate_dst (N:=2) rfl ?_);(try (refine gate_guard (by rfl) ?_;dsimp only));refine box_event ?hg2 (N:=2) ?hd2 (cs:=#[.string (⟨#[]⟩ : ByteArray),.string (⟨#[]⟩ : ByteArray),.slice none 0 0]) (t:=24) ?hr2 ?_;(case hd2=>rfl);(case hg2=>rfl);(case hr2=>first|(go_simp;done)|(go_simp;rfl));intro b hgb w4 hbox hb;have HB1:=Aside0.mk hb;have HB2:=Aside0.mk hbox;have HB3:=Aside0.mk hgb;have hd0:=(blk_cell HB2.out 0).trans rfl;have hd1:=(blk_cell HB2.out 1).trans rfl;have hd2:=(blk_cell HB2.out 2).trans rfl;have he0:=blk_frozen HB2.out 0;have he1:=blk_frozen HB2.out 1;have he2:=blk_frozen HB2.out 2;clear hb hbox hgb)|((with_reducible refine gate_dst (N:=13) rfl ?_);(try (refine gate_guard (by rfl) ?_;dsimp only));refine box_event ?hg13 (N:=13) ?hd13 (cs:=#[.string a0,.int .i64 0]) (t:=57) ?hr13 ?_;(case hd13=>rfl);(case hg13=>rfl);(case hr13=>first|(go_simp;done)|(go_simp;rfl));intro g hgg w5 hbox hb;have HV:=Aside0.mk (xml_pa.start HB1.out HB2.out HB3.out hb hbox hgg);clear hb hbox hgg;have hc0:=xml_reader_attribute.c0 HV.out.i;have hc1:=xml_reader_attribute.c1 HV.out.i;have hd0:=(blk_cell HV.out.blk 0).trans rfl;have hd1:=(blk_cell HV.out.blk 1).trans rfl;have hd2:=(blk_cell HV.out.blk 2).trans rfl;have he0:=blk_frozen HV.out.blk 0;have he1:=blk_frozen HV.out.blk 1;have he2:=blk_frozen HV.out.blk 2;have hne:=HV.out.ne;have hen:=HV.out.ne.symm)|(go_at_call 27;with_reducible refine(chars_Legal.calls a0 true _ hLg.out).mono ?_;rintro e_ w_ ⟨rfl,hb⟩;(first|replace HV:=Aside0.mk (xml_pa.Inv.below HV.out hb)|replace HV:=Aside0.mk (xml_pa.Inv.below (HV.out.drewN _) hb)|replace HV:=Aside0.mk (xml_pa.Inv.below ((HV.out.drewN _).drewN _) hb)|replace HV:=Aside0.mk (xml_pa.Inv.below HV.out.drew hb));clear hb;have hc0:=xml_reader_attribute.c0 HV.out.i;have hc1:=xml_reader_attribute.c1 HV.out.i;have hd0:=(blk_cell HV.out.blk 0).trans rfl;have hd1:=(blk_cell HV.out.blk 1).trans rfl;have hd2:=(blk_cell HV.out.blk 2).trans rfl;have he0:=blk_frozen HV.out.blk 0;have he1:=blk_frozen HV.out.blk 1;have he2:=blk_frozen HV.out.blk 2;have hne:=HV.out.ne;have hen:=HV.out.ne.symm)|(go_at_call 28;with_reducible refine(xml_reader_begin.calls g a0 0 true b2 b3 w _ ?s1 ?s2 hG hBg.out).mono ?_;(case s1=>exact(by first|exact HV.out.i|exact(HV.out.drewN _).i|exact((HV.out.drewN _).drewN _).i|exact HV.out.drew.i));(case s2=>exact(by first|exact HV.out.bel|exact(HV.out.drewN _).bel|exact((HV.out.drewN _).drewN _).bel|exact HV.out.drew.bel));rintro e_ w_ ⟨rfl,hi,hb,hk⟩;(first|replace HV:=Aside0.mk (xml_pa.Inv.call HV.out hi hb hk)|replace HV:=Aside0.mk (xml_pa.Inv.call (HV.out.drewN _) hi hb hk)|replace HV:=Aside0.mk (xml_pa.Inv.call ((HV.out.drewN _).drewN _) hi hb hk)|replace HV:=Aside0.mk (xml_pa.Inv.call HV.out.drew hi hb hk));clear hi hb hk;have hc0:=xml_reader_attribute.c0 HV.out.i;have hc1:=xml_reader_attribute.c1 HV.out.i;have hd0:=(blk_cell HV.out.blk 0).trans rfl;have hd1:=(blk_cell HV.out.blk 1).trans rfl;have hd2:=(blk_cell HV.out.blk 2).trans rfl;have he0:=blk_frozen HV.out.blk 0;have he1:=blk_frozen HV.out.blk 1;have he2:=blk_frozen HV.out.blk 2;have hne:=HV.out.ne;have hen:=HV.out.ne.symm)|(go_at_call 29;with_reducible refine(xml_reader_space.calls k g b2 b3 s1 s2 s3 w _ ?s1 ?s2 hS1.out).mono ?_;(case s1=>exact(by first|exact HV.out.i|exact(HV.out.drewN _).i|exact((HV.out.drewN _).drewN _).i|exact HV.out.drew.i));(case s2=>exact(by first|exact HV.out.bel|exact(HV.out.drewN _).bel|exact((HV.out.drewN _).drewN _).bel|exact HV.out.drew.bel));rintro e_ w_ ⟨rfl,hi,hb,hk⟩;(first|replace HV:=Aside0.mk (xml_pa.Inv.call HV.out hi hb hk)|replace HV:=Aside0.mk (xml_pa.Inv.call (HV.out.drewN _) hi hb hk)|replace HV:=Aside0.mk (xml_pa.Inv.call ((HV.out.drewN _).drewN _) hi hb hk)|replace HV:=Aside0.mk (xml_pa.Inv.call HV.out.drew hi hb hk));clear hi hb hk;have hc0:=xml_reader_attribute.c0 HV.out.i;have hc1:=xml_reader_attribute.c1 HV.out.i;have hd0:=(blk_cell HV.out.blk 0).trans rfl;have hd1:=(blk_cell HV.out.blk 1).trans rfl;have hd2:=(blk_cell HV.out.blk 2).trans rfl;have he0:=blk_frozen HV.out.blk 0;have he1:=blk_frozen HV.out.blk 1;have he2:=blk_frozen HV.out.blk 2;have hne:=HV.out.ne;have hen:=HV.out.ne.symm)|(go_at_call 30;with_reducible refine((xml_both k).1 s2 s3 1 _ w _ g ?s1 ?s2 hG hE.out).mono ?_;(case s1=>exact(by first|exact HV.out.i|exact(HV.out.drewN _).i|exact((HV.out.drewN _).drewN _).i|exact HV.out.drew.i));(case s2=>exact(by first|exact HV.out.bel|exact(HV.out.drewN _).bel|exact((HV.out.drewN _).drewN _).bel|exact HV.out.drew.bel));rintro e_ w_ ⟨v,he_,hVV,hi,hb,hk⟩;dsimp only at he_ hVV hi;obtain⟨eA,ec,rfl⟩:=Kd.V_slice hVV;subst he_;(first|have HE:=Aside0.mk (xml_pa.el HV.out hVV)|have HE:=Aside0.mk (xml_pa.el (HV.out.drewN _) hVV)|have HE:=Aside0.mk (xml_pa.el ((HV.out.drewN _).drewN _) hVV)|have HE:=Aside0.mk (xml_pa.el HV.out.drew hVV));(first|replace HV:=Aside0.mk (xml_pa.Inv.call HV.out hi hb hk)|replace HV:=Aside0.mk (xml_pa.Inv.call (HV.out.drewN _) hi hb hk)|replace HV:=Aside0.mk (xml_pa.Inv.call ((HV.out.drewN _).drewN _) hi hb hk)|replace HV:=Aside0.mk (xml_pa.Inv.call HV.out.drew hi hb hk));clear hi hb hk hVV;have hc0:=xml_reader_attribute.c0 HV.out.i;have hc1:=xml_reader_attribute.c1 HV.out.i;have hd0:=(blk_cell HV.out.blk 0).trans rfl;have hd1:=(blk_cell HV.out.blk 1).trans rfl;have hd2:=(blk_cell HV.out.blk 2).trans rfl;have he0:=blk_frozen HV.out.blk 0;have he1:=blk_frozen HV.out.blk 1;have he2:=blk_frozen HV.out.blk 2;have hne:=HV.out.ne;have hen:=HV.out.ne.symm)|((with_reducible refine gate_dst (N:=5) rfl ?_);(try (refine gate_guard (by rfl) ?_;dsimp only));refine box_event ?hg5 (N:=5) ?hd5 (cs:=#[.string (⟨#[]⟩ : ByteArray),.string (⟨#[]⟩ : ByteArray),.slice none 0 0]) (t:=24) ?hr5 ?_;(case hd5=>rfl);(case hg5=>rfl);(case hr5=>first|(go_simp;done)|(go_simp;rfl));intro g5 hg5 w6 hbox hb;have HX:=Aside0.mk hbox;have HB4:=Aside0.mk hb;have HG4:=Aside0.mk hg5;clear hb hbox hg5;have hk0:=(blk_cell HX.out 0).trans rfl;have hk1:=(blk_cell HX.out 1).trans rfl;have hk2:=(blk_cell HX.out 2).trans rfl;have hz0:=blk_frozen HX.out 0;have hz1:=blk_frozen HX.out 1;have hz2:=blk_frozen HX.out 2))
   have HN5:=Aside0.mk (xml_pa.ne5 (w4:=w6) HV.out HG4.out)
   have HV2:=Aside0.mk ((((HV.out.below HB4.out).far HN5.out.1 HN5.out.2.1 HN5.out.2.2 0 (.string x0)).far HN5.out.1 HN5.out.2.1 HN5.out.2.2 1 (.string x1)).far HN5.out.1 HN5.out.2.1 HN5.out.2.2 2 (.slice eA x2.length ec))
   have HE2:=Aside0.mk (xml_co.vbox HE.out HB4.out HG4.out (.string x0) (.string x1) (.slice eA x2.length ec))
   have HX2:=Aside0.mk (blk_put (blk_put (blk_put HX.out 0 (.string x0) (cs':=#[.string x0,.string (⟨#[]⟩ : ByteArray),.slice none 0 0]) rfl) 1 (.string x1) (cs':=#[.string x0,.string x1,.slice none 0 0]) rfl) 2 (.slice eA x2.length ec) (cs':=#[.string x0,.string x1,.slice eA x2.length ec]) rfl)
   clear HV HE HX HB4 HG4 hc0 hc1 hd0 hd1 hd2 he0 he1 he2 hk0 hk1 hk2 hz0 hz1 hz2
   generalize World.setCell _ _ _=W2 at HV2 HE2 HX2 ⊢
   have HV:=HV2
   clear HV2
   have HE:=HE2
   clear HE2
   have HX:=HX2
   clear HX2
   have hc0:=xml_reader_attribute.c0 HV.out.i
   have hc1:=xml_reader_attribute.c1 HV.out.i
   have hd0:=(blk_cell HV.out.blk 0).trans rfl
   have hd1:=(blk_cell HV.out.blk 1).trans rfl
   have hd2:=(blk_cell HV.out.blk 2).trans rfl
   have he0:=blk_frozen HV.out.blk 0
   have he1:=blk_frozen HV.out.blk 1
   have he2:=blk_frozen HV.out.blk 2
   have hne:=HV.out.ne
   have hen:=HV.out.ne.symm
   cases e2 with
   | false=>
    rw [if_neg Bool.false_ne_true] at h
    simp only [Option.some.injEq,Prod.mk.injEq] at h
    obtain⟨rfl,rfl,rfl,rfl⟩:=h
    go_wp2_with (first|(go_at_call 29;with_reducible refine(xml_reader_space.calls k g e3 e4 z1 z2 z3 w _ ?s1 ?s2 hS2.out).mono ?_;(case s1=>exact(by first|exact HV.out.i|exact(HV.out.drewN _).i|exact((HV.out.drewN _).drewN _).i|exact HV.out.drew.i));(case s2=>exact(by first|exact HV.out.bel|exact(HV.out.drewN _).bel|exact((HV.out.drewN _).drewN _).bel|exact HV.out.drew.bel));rintro e_ w_ ⟨rfl,hi,hb,hk⟩;(first|replace HE:=Aside0.mk (xml_pa.vkeep HE.out hk)|replace HE:=Aside0.mk (xml_pa.vkeep (Kd.V_drewN HE.out _) hk));have h5n:=HN5.out;have HX2:=Aside0.mk (hk.blk (by first|exact HX.out|exact blk_drewN HX.out _) h5n.2.1 (by simp));clear HX;have HX:=HX2;clear HX2;have hk0:=(blk_cell HX.out 0).trans rfl;have hk1:=(blk_cell HX.out 1).trans rfl;have hk2:=(blk_cell HX.out 2).trans rfl;(first|replace HV:=Aside0.mk (xml_pa.Inv.call HV.out hi hb hk)|replace HV:=Aside0.mk (xml_pa.Inv.call (HV.out.drewN _) hi hb hk)|replace HV:=Aside0.mk (xml_pa.Inv.call ((HV.out.drewN _).drewN _) hi hb hk)|replace HV:=Aside0.mk (xml_pa.Inv.call HV.out.drew hi hb hk));clear hi hb hk;have hc0:=xml_reader_attribute.c0 HV.out.i;have hc1:=xml_reader_attribute.c1 HV.out.i;have hd0:=(blk_cell HV.out.blk 0).trans rfl;have hd1:=(blk_cell HV.out.blk 1).trans rfl;have hd2:=(blk_cell HV.out.blk 2).trans rfl;have he0:=blk_frozen HV.out.blk 0;have he1:=blk_frozen HV.out.blk 1;have he2:=blk_frozen HV.out.blk 2;have hne:=HV.out.ne;have hen:=HV.out.ne.symm))
    try simp only [Exit.jump]
    have HZ:=xml_pa.ends (nm:=(⟨#[]⟩ : ByteArray)) (tx:=(⟨#[]⟩ : ByteArray)) (by first|exact HV.out|exact(HV.out.drewN _)|exact((HV.out.drewN _).drewN _)|exact HV.out.drew) (Kd.V_nil k24 24 _ _ _)
    refine bodyPost_ret (results_ct rfl _ _ b 24 #[.string (⟨#[]⟩ : ByteArray),.string (⟨#[]⟩ : ByteArray),.slice none 0 0] (0,0) _ rfl HZ.1 Tryd.underlying24 rfl (by kernel_rfl)) rfl ?_
    exact⟨.slice none 0 0,rfl,HZ.2.1,HZ.2.2⟩
   | true=>
    rw [if_pos rfl] at h
    rcases itO h with⟨c2,h⟩|⟨c2,h⟩
    ·have u1:(z3 != (a0.size:Int))=false:=bne_eq_false_iff_eq.mpr c2
     have u2:(z3 == (a0.size:Int))=true:=beq_iff_eq.mpr c2
     have u3:=eq_true c2
     have u4:=decide_eq_true c2
     clear c2
     simp only [Option.some.injEq,Prod.mk.injEq] at h
     obtain⟨rfl,rfl,rfl,rfl⟩:=h
     go_wp2_with (first|(go_at_call 29;with_reducible refine(xml_reader_space.calls k g e3 e4 z1 z2 z3 w _ ?s1 ?s2 hS2.out).mono ?_;(case s1=>exact(by first|exact HV.out.i|exact(HV.out.drewN _).i|exact((HV.out.drewN _).drewN _).i|exact HV.out.drew.i));(case s2=>exact(by first|exact HV.out.bel|exact(HV.out.drewN _).bel|exact((HV.out.drewN _).drewN _).bel|exact HV.out.drew.bel));rintro e_ w_ ⟨rfl,hi,hb,hk⟩;(first|replace HE:=Aside0.mk (xml_pa.vkeep HE.out hk)|replace HE:=Aside0.mk (xml_pa.vkeep (Kd.V_drewN HE.out _) hk));have h5n:=HN5.out;have HX2:=Aside0.mk (hk.blk (by first|exact HX.out|exact blk_drewN HX.out _) h5n.2.1 (by simp));clear HX;have HX:=HX2;clear HX2;have hk0:=(blk_cell HX.out 0).trans rfl;have hk1:=(blk_cell HX.out 1).trans rfl;have hk2:=(blk_cell HX.out 2).trans rfl;(first|replace HV:=Aside0.mk (xml_pa.Inv.call HV.out hi hb hk)|replace HV:=Aside0.mk (xml_pa.Inv.call (HV.out.drewN _) hi hb hk)|replace HV:=Aside0.mk (xml_pa.Inv.call ((HV.out.drewN _).drewN _) hi hb hk)|replace HV:=Aside0.mk (xml_pa.Inv.call HV.out.drew hi hb hk));clear hi hb hk;have hc0:=xml_reader_attribute.c0 HV.out.i;have hc1:=xml_reader_attribute.c1 HV.out.i;have hd0:=(blk_cell HV.out.blk 0).trans rfl;have hd1:=(blk_cell HV.out.blk 1).trans rfl;have hd2:=(blk_cell HV.out.blk 2).trans rfl;have he0:=blk_frozen HV.out.blk 0;have he1:=blk_frozen HV.out.blk 1;have he2:=blk_frozen HV.out.blk 2;have hne:=HV.out.ne;have hen:=HV.out.ne.symm))
     try simp only [Exit.jump]
     have HZ:=xml_pa.ends (nm:=x0) (tx:=x1) (by first|exact HV.out|exact(HV.out.drewN _)|exact((HV.out.drewN _).drewN _)|exact HV.out.drew) (by first|exact Kd.V_mono HE.out (fun _ h_=>h_)|exact Kd.V_drewN HE.out _)
     refine bodyPost_ret (results_ct rfl _ _ b 24 #[.string x0,.string x1,.slice eA x2.length ec] (0,0) _ rfl HZ.1 Tryd.underlying24 rfl (by kernel_rfl)) rfl ?_
     exact⟨.slice eA x2.length ec,rfl,HZ.2.1,HZ.2.2⟩
    have u1:(z3 != (a0.size:Int))=true:=bne_iff_ne.mpr c2
    have u2:(z3 == (a0.size:Int))=false:=beq_eq_false_iff_ne.mpr c2
    have u3:=eq_false c2
    have u4:=decide_eq_false c2
    simp only [Option.some.injEq,Prod.mk.injEq] at h
    obtain⟨rfl,rfl,rfl,rfl⟩:=h
    go_wp2_with (first|(go_at_call 29;with_reducible refine(xml_reader_space.calls k g e3 e4 z1 z2 z3 w _ ?s1 ?s2 hS2.out).mono ?_;(case s1=>exact(by first|exact HV.out.i|exact(HV.out.drewN _).i|exact((HV.out.drewN _).drewN _).i|exact HV.out.drew.i));(case s2=>exact(by first|exact HV.out.bel|exact(HV.out.drewN _).bel|exact((HV.out.drewN _).drewN _).bel|exact HV.out.drew.bel));rintro e_ w_ ⟨rfl,hi,hb,hk⟩;(first|replace HE:=Aside0.mk (xml_pa.vkeep HE.out hk)|replace HE:=Aside0.mk (xml_pa.vkeep (Kd.V_drewN HE.out _) hk));have h5n:=HN5.out;have HX2:=Aside0.mk (hk.blk (by first|exact HX.out|exact blk_drewN HX.out _) h5n.2.1 (by simp));clear HX;have HX:=HX2;clear HX2;have hk0:=(blk_cell HX.out 0).trans rfl;have hk1:=(blk_cell HX.out 1).trans rfl;have hk2:=(blk_cell HX.out 2).trans rfl;(first|replace HV:=Aside0.mk (xml_pa.Inv.call HV.out hi hb hk)|replace HV:=Aside0.mk (xml_pa.Inv.call (HV.out.drewN _) hi hb hk)|replace HV:=Aside0.mk (xml_pa.Inv.call ((HV.out.drewN _).drewN _) hi hb hk)|replace HV:=Aside0.mk (xml_pa.Inv.call HV.out.drew hi hb hk));clear hi hb hk;have hc0:=xml_reader_attribute.c0 HV.out.i;have hc1:=xml_reader_attribute.c1 HV.out.i;have hd0:=(blk_cell HV.out.blk 0).trans rfl;have hd1:=(blk_cell HV.out.blk 1).trans rfl;have hd2:=(blk_cell HV.out.blk 2).trans rfl;have he0:=blk_frozen HV.out.blk 0;have he1:=blk_frozen HV.out.blk 1;have he2:=blk_frozen HV.out.blk 2;have hne:=HV.out.ne;have hen:=HV.out.ne.symm))
    try simp only [Exit.jump]
    have HZ:=xml_pa.ends (nm:=(⟨#[]⟩ : ByteArray)) (tx:=(⟨#[]⟩ : ByteArray)) (by first|exact HV.out|exact(HV.out.drewN _)|exact((HV.out.drewN _).drewN _)|exact HV.out.drew) (Kd.V_nil k24 24 _ _ _)
    refine bodyPost_ret (results_ct rfl _ _ b 24 #[.string (⟨#[]⟩ : ByteArray),.string (⟨#[]⟩ : ByteArray),.slice none 0 0] (0,0) _ rfl HZ.1 Tryd.underlying24 rfl (by kernel_rfl)) rfl ?_
    exact⟨.slice none 0 0,rfl,HZ.2.1,HZ.2.2⟩
def xml_Of.f (a0:ByteArray) (a1:ByteArray):Option (ByteArray×ByteArray×(List (S24))):=some (a0,a1,([]:List (S24)))
theorem xml_Of.calls (a0:ByteArray) (a1:ByteArray) (r1:ByteArray) (r2:ByteArray) (r3:List (S24)) (w:World) (h:xml_Of.f a0 a1=some (r1,r2,r3)) :
  Calls Tryd.prog 23 #[.string a0,.string a1] w fun e w'=>∃ v2_:Value,e = .returned (.agg #[.string r1,.string r2,v2_])∧Kd.R k24 24 w' w.heap.size (fun _=>True) v2_ r3∧Below w.heap.size w w':=by
 have hu24:=Tryd.underlying24
 have HB:=Aside0.mk (Below.refl w.heap.size w)
 unfold xml_Of.f at h
 have H:=h
 clear h
 simp only [Option.some.injEq,Prod.mk.injEq] at H
 obtain⟨rfl,rfl,rfl⟩:=H
 go_enter Tryd.func23,Tryd.ntmps23
 go_wp2_with (first|((with_reducible refine gate_dst (N:=4) rfl ?_);refine box_event ?hg (N:=4) ?hd (cs:=#[.string (⟨#[]⟩ : ByteArray),.string (⟨#[]⟩ : ByteArray),.slice none 0 0]) (t:=24) ?hr ?_;(case hd=>rfl);(case hg=>rfl);(case hr=>first|(go_simp;done)|(go_simp;rfl));intro gb127 hg w3 hbox hb;have n0_:=Aside0.mk (below_step (by repeat (first|(with_reducible first|exact HB.out|apply below_alloc|apply pw_below_drewN|apply below_drew1)|exact HB.out)) hb);have n1_:=Aside0.mk (hbox);have n2_:=Aside0.mk ((by rw [hg];exact(below_size (by repeat (first|(with_reducible first|exact HB.out|apply below_alloc|apply pw_below_drewN|apply below_drew1)|exact HB.out))):w.heap.size≤gb127));have n3_:=Aside0.mk ((by rw [hg];exact(below_size (by repeat (first|(with_reducible first|exact HB.out|apply below_alloc|apply pw_below_drewN|apply below_drew1)|exact HB.out))):w.heap.size≤gb127));clear HB;have HB:=n0_;have BK127:=n1_;have GW127:=n2_;have GE127:=n3_;clear n0_ n1_ n2_ n3_;clear hb hbox hg;have hcz4_0:w3.cell? ⟨gb127,0,none⟩=some (.string (⟨#[]⟩ : ByteArray)):=(blk_cell BK127.out 0).trans rfl;have hcz4_1:w3.cell? ⟨gb127,1,none⟩=some (.string (⟨#[]⟩ : ByteArray)):=(blk_cell BK127.out 1).trans rfl;have hcz4_2:w3.cell? ⟨gb127,2,none⟩=some (.slice none 0 0):=(blk_cell BK127.out 2).trans rfl;have hfz4_0:=blk_frozen BK127.out 0;have hfz4_1:=blk_frozen BK127.out 1;have hfz4_2:=blk_frozen BK127.out 2))
 refine bodyPost_ret (results_cell_row rfl _ _ gb127 24 #[.string a0,.string a1,.slice none 0 0] (0,0) _ rfl (by(with_reducible repeat (first|refine blk_drewN ?_ _|refine blk_drew ?_|refine blk_alloc ?_ _));refine blk_put (cs:=#[.string a0,.string a1,.slice none 0 0]) ?_ 2 _ rfl;(with_reducible repeat (first|refine blk_drewN ?_ _|refine blk_drew ?_|refine blk_alloc ?_ _));refine blk_put (cs:=#[.string a0,.string (⟨#[]⟩ : ByteArray),.slice none 0 0]) ?_ 1 _ rfl;(with_reducible repeat (first|refine blk_drewN ?_ _|refine blk_drew ?_|refine blk_alloc ?_ _));refine blk_put (cs:=#[.string (⟨#[]⟩ : ByteArray),.string (⟨#[]⟩ : ByteArray),.slice none 0 0]) ?_ 0 _ rfl;(with_reducible repeat (first|refine blk_drewN ?_ _|refine blk_drew ?_|refine blk_alloc ?_ _));exact BK127.out) Tryd.underlying24 rfl (by kernel_rfl)) rfl ?_
 exact⟨_,by first|rfl|(simp [errW_none,errW_some] <;> rfl)|(simp [*,errW_none,errW_some] <;> rfl),by first|exact Kd.R_nil _ _ _ _ _|exact Kd.N_nil _ _ _ _ _|exact Kd.V_nil _ _ _ _ _|exact Kd.Q_nil _ _ _ _ _|exact Kd.S_nil _ _ _ _ _,by repeat (first|(with_reducible first|exact HB.out|apply below_alloc|apply pw_below_drewN|apply below_drew1|refine below_set ?_ GE127.out)|exact HB.out)⟩
def stowagelaw13_awake.f (k:Nat)  : Option (Bool):=(xml_Parse.f k (⟨#[60,97,32,120,61,34,49,34,62,32,60,98,62,49,32,38,108,116,59,32,50,60,47,98,62,60,99,47,62,60,47,97,62]⟩ : ByteArray)).bind fun bt128=>((xml_Of.f (⟨#[97]⟩ : ByteArray) (⟨#[120,38,121]⟩ : ByteArray)).bind fun bt135=>((xml_Print.f k bt135.1 bt135.2.1 bt135.2.2 false).bind fun bt140=>(if bt128.2.2.2=0 then(if bt140.2=0 then(if bt128.1.toList=([97]:List UInt8) then(if(bt128.2.2.1.length:Int)=2 then(if 0<(bt128.2.2.1.length:Int) then(if((rd_T24 bt128.2.2.1 0).f1).toList=([49,32,60,32,50]:List UInt8) then(some (bt140.1.toList == ([60,63,120,109,108,32,118,101,114,115,105,111,110,61,34,49,46,48,34,32,101,110,99,111,100,105,110,103,61,34,85,84,70,45,56,34,63,62,10,60,97,62,120,38,97,109,112,59,121,60,47,97,62]:List UInt8))) else(some false)) else(none)) else(some false)) else(some false)) else(some false)) else(some false))))
theorem stowagelaw13_awake.mono:∀ k,LeO (stowagelaw13_awake.f k) (stowagelaw13_awake.f (k+1)):=by
 intro  k
 unfold stowagelaw13_awake.f
 with_reducible repeat' first|exact xml_Parse.mono _ _|exact xml_Print.mono _ _ _ _ _|exact LeO.refl _|exact LeO.none _|refine LeO.ite ?_ ?_|refine LeO.bind ?_ (fun _=>?_)
theorem stowagelaw13_awake.calls (k:Nat)  (r:Bool) (w:World) (hG:GOk w) (h:stowagelaw13_awake.f k  = some r) :
    Calls Tryd.prog 14 #[] w fun e w'=>e = .returned (.bool r)∧Below w.heap.size w w':=by
 have hu24:=Tryd.underlying24
 have HB:=Aside0.mk (Below.refl w.heap.size w)
 unfold stowagelaw13_awake.f at h
 have H:=h
 clear h
 replace H:=bndO H
 obtain⟨⟨t128,t129,t130,t133⟩,A10,H⟩:=H
 dsimp only at H
 have A1:=Aside0.mk A10
 clear A10
 replace H:=bndO H
 obtain⟨⟨t135,t136,t137⟩,A20,H⟩:=H
 dsimp only at H
 have A2:=Aside0.mk A20
 clear A20
 replace H:=bndO H
 obtain⟨⟨t140,t141⟩,A30,H⟩:=H
 dsimp only at H
 have A3:=Aside0.mk A30
 clear A30
 replace H:=itO H
 rcases H with⟨c4,H⟩|⟨c4,H⟩
 {
 have c4b0:(t133 == 0)=true:=beq_iff_eq.mpr c4
 clear c4
 replace H:=itO H
 rcases H with⟨c5,H⟩|⟨c5,H⟩
 {
 have c5b0:(t141 == 0)=true:=beq_iff_eq.mpr c5
 clear c5
 replace H:=itO H
 rcases H with⟨c6,H⟩|⟨c6,H⟩
 {
 have c6b0:(t128.toList == ([97]:List UInt8))=true:=beq_iff_eq.mpr c6
 clear c6
 replace H:=itO H
 rcases H with⟨c7,H⟩|⟨c7,H⟩
 {
 have c7b0:((t130.length:Int) == 2)=true:=beq_iff_eq.mpr c7
 clear c7
 replace H:=itO H
 rcases H with⟨c8,H⟩|⟨c8,H⟩
 {
 have c8b0:decide (0<(t130.length:Int))=true:=decide_eq_true c8
 clear c8
 replace H:=itO H
 rcases H with⟨c9,H⟩|⟨c9,H⟩
 {
 have c9b0:(((rd_T24 t130 0).f1).toList == ([49,32,60,32,50]:List UInt8))=true:=beq_iff_eq.mpr c9
 clear c9
 obtain rfl:=Option.some.inj H
 go_enter Tryd.func14,Tryd.ntmps14
 go_wp2_with (first|((with_reducible refine gate_callee (f:=10) rfl ?_);refine goesL_ (some 6) rfl rfl Tryd.func10 kr rfl #[.string (⟨#[60,97,32,120,61,34,49,34,62,32,60,98,62,49,32,38,108,116,59,32,50,60,47,98,62,60,99,47,62,60,47,97,62]⟩ : ByteArray)] rfl am ?_;(with_reducible refine(xml_Parse.calls k (⟨#[60,97,32,120,61,34,49,34,62,32,60,98,62,49,32,38,108,116,59,32,50,60,47,98,62,60,99,47,62,60,47,97,62]⟩ : ByteArray) t128 t129 t130 t133 _ gk A1.out).mono ?_);rintro e w10 ⟨v131,rfl,ho0,hb⟩;refine⟨_,rfl,?_⟩;have HO132:=Aside0.mk (Kd.V_lower (Kd.V_mono (ok':=fun k_=>True) ho0 (fun k_ hk_=>trivial)) (below_size bl));replace HB:=Aside0.mk (below_step bl hb))|((with_reducible refine gate_dst (N:=1) rfl ?_);(try (refine gate_guard (by rfl) ?_;dsimp only));refine box_event ?hg (N:=1) ?hd (cs:=#[.string (⟨#[]⟩ : ByteArray),.string (⟨#[]⟩ : ByteArray),.slice none 0 0]) (t:=24) ?hr ?_;(case hd=>rfl);(case hg=>rfl);(case hr=>first|(go_simp;done)|(go_simp;rfl));intro gb134 hg w11 hbox hb;replace HO132:=Aside0.mk (Kd.V_below (Kd.V_elderB (by(with_reducible repeat (first|apply Kd.V_alloc|apply Kd.V_drewN|apply Kd.V_drew));exact HO132.out) gb134 (Nat.le_of_eq hg.symm)) hb);have BK134:=Aside0.mk (hbox);have GW134:=Aside0.mk ((by rw [hg];exact(below_size bl):w.heap.size≤gb134));have GE134:=Aside0.mk ((by rw [hg];exact(below_size bl):w.heap.size≤gb134));replace HB:=Aside0.mk (below_step bl hb);clear hb hbox hg;obtain⟨_,_,_,_,_,_⟩:=bc3 BK134.out;obtain⟨Ao13,co13,eo13⟩:=Kd.V_slice HO132.out;subst eo13)|((with_reducible refine gate_callee (f:=23) rfl ?_);refine goesL_ (some 10) rfl rfl Tryd.func23 kr rfl #[.string (⟨#[97]⟩ : ByteArray),.string (⟨#[120,38,121]⟩ : ByteArray)] rfl am ?_;(with_reducible refine(xml_Of.calls (⟨#[97]⟩ : ByteArray) (⟨#[120,38,121]⟩ : ByteArray) t135 t136 t137 _ A2.out).mono ?_);rintro e w14 ⟨v138,rfl,ho0,hb⟩;refine⟨_,rfl,?_⟩;replace HO132:=Aside0.mk (Kd.V_elder' (by(with_reducible repeat (first|apply Kd.V_alloc|apply Kd.V_drewN|apply Kd.V_drew));exact(Kd.V_mono (Kd.V_far (p:=⟨gb134,2,none⟩) (Kd.V_far (p:=⟨gb134,1,none⟩) (Kd.V_far (p:=⟨gb134,0,none⟩) (Kd.V_mono HO132.out (fun k_ hk=>(⟨hk,hk.2⟩ : _∧k_≠gb134))) (fun _ hk=>hk.2) (.string t128)) (fun _ hk=>hk.2) (.string t129)) (fun _ hk=>hk.2) (.slice Ao13 t130.length co13)) (fun _ h_=>h_.1))) (by first|exact Kd.R_base ho0|exact Kd.R_base ho0) hb);have HO139:=Aside0.mk (Kd.R_lower (Kd.R_newB ho0 (g:=gb134) (o:=.cells #[.string t128,.string t129,.slice Ao13 t130.length co13] 24 (0,0)) (by(with_reducible repeat (first|refine blk_drewN ?_ _|refine blk_drew ?_|refine blk_alloc ?_ _));refine blk_put (cs:=#[.string t128,.string t129,.slice none 0 0]) ?_ 2 _ rfl;(with_reducible repeat (first|refine blk_drewN ?_ _|refine blk_drew ?_|refine blk_alloc ?_ _));refine blk_put (cs:=#[.string t128,.string (⟨#[]⟩ : ByteArray),.slice none 0 0]) ?_ 1 _ rfl;(with_reducible repeat (first|refine blk_drewN ?_ _|refine blk_drew ?_|refine blk_alloc ?_ _));refine blk_put (cs:=#[.string (⟨#[]⟩ : ByteArray),.string (⟨#[]⟩ : ByteArray),.slice none 0 0]) ?_ 0 _ rfl;(with_reducible repeat (first|refine blk_drewN ?_ _|refine blk_drew ?_|refine blk_alloc ?_ _));exact BK134.out)) (below_size bl));replace BK134:=Aside0.mk (blk_below (g:=gb134) (o:=.cells #[.string t128,.string t129,.slice Ao13 t130.length co13] 24 (0,0)) (by(with_reducible repeat (first|refine blk_drewN ?_ _|refine blk_drew ?_|refine blk_alloc ?_ _));refine blk_put (cs:=#[.string t128,.string t129,.slice none 0 0]) ?_ 2 _ rfl;(with_reducible repeat (first|refine blk_drewN ?_ _|refine blk_drew ?_|refine blk_alloc ?_ _));refine blk_put (cs:=#[.string t128,.string (⟨#[]⟩ : ByteArray),.slice none 0 0]) ?_ 1 _ rfl;(with_reducible repeat (first|refine blk_drewN ?_ _|refine blk_drew ?_|refine blk_alloc ?_ _));refine blk_put (cs:=#[.string (⟨#[]⟩ : ByteArray),.string (⟨#[]⟩ : ByteArray),.slice none 0 0]) ?_ 0 _ rfl;(with_reducible repeat (first|refine blk_drewN ?_ _|refine blk_drew ?_|refine blk_alloc ?_ _));exact BK134.out) hb);replace HB:=Aside0.mk (below_step bl hb);obtain⟨Ao15,co15,eo15⟩:=Kd.R_slice HO139.out;subst eo15)|((with_reducible refine gate_callee (f:=22) rfl ?_);refine goesL_ (some 11) rfl rfl Tryd.func22 kr rfl #[.agg #[.string t135,.string t136,.slice Ao15 t137.length co15],.bool false] rfl am ?_;(with_reducible refine(xml_Print.calls k t135 t136 _ _ t137 false t140 t141 _ ?side1 ?side2 A3.out).mono ?_);(case side1=>repeat (first|exact(Kd.R_reads' HO139.out).2.2|(with_reducible refine Kd.C_alloc ?_ _)|(with_reducible refine Kd.C_drewN ?_ _)|(with_reducible refine Kd.C_drew ?_)));(case side2=>exact(Kd.R_reads' HO139.out).2.1);rintro e w16 ⟨rfl,hb⟩;refine⟨_,rfl,?_⟩;replace HO132:=Aside0.mk (Kd.V_below (by(with_reducible repeat (first|apply Kd.V_alloc|apply Kd.V_drewN|apply Kd.V_drew));exact HO132.out) hb);replace HO139:=Aside0.mk (Kd.R_below rl hb);replace BK134:=Aside0.mk (blk_below (g:=gb134) (o:=.cells #[.string t128,.string t129,.slice Ao13 t130.length co13] 24 (0,0)) kl hb);replace HB:=Aside0.mk (below_step bl hb);obtain⟨_,_,_,_,_,_⟩:=bc3 BK134.out;have p142:0≤(0:Int):=(by omega);have q142:0<(t130.length:Int):=of_decide_eq_true asm;obtain⟨ad142,A142_2,c142_2,e142,hx142_0,hx142_1,hx142_2,hl142_2,hi142_2⟩:=at_T24 (Kd.V_reads' HO132.out).2.2 0 p142 q142;cases e142;obtain⟨ce142,hce142,hMe142,hcc142⟩:=Kd.V_get HO132.out z24 0 p142 (by first|exact q142|exact of_decide_eq_true asm|(have e_:=(Kd.V_reads' HO132.out).1;omega));obtain⟨ua142_2,uc142_2,rfl,ul142_2,ge142_2⟩:=k24_openF hMe142;have hv142_2:=hcc142 2 _ rfl;rw [add_field _ _ 2 (by omega)] at hv142_2;replace hv142_2:=Option.some.inj (hv142_2.symm.trans hx142_2);injection hv142_2 with hva_ hvn_ hvc_;rw [hva_] at ge142_2;rw [hvc_] at ul142_2;have HL142_2:=Aside0.mk (show Kd.V k24 24 _ w.heap.size _ _ ((rd_T24 t130 0).f2) from Kd.V_mk ul142_2 ge142_2);clear hva_ hvn_ hvc_ ge142_2 ul142_2;clear hcc142 hce142;have qi142:(0<t130.length)=True:=eq_true (by omega);(try rw [show((0:Int)).toNat=0 from rfl] at hx142_0);(try rw [show 0*3=0 from rfl] at hx142_0);(try rw [Addr.add_zero'] at hx142_0);(try rw [show((0:Int)).toNat=0 from rfl] at hx142_1);(try rw [show 0*3=0 from rfl] at hx142_1);(try rw [Addr.add_zero'] at hx142_1);(try rw [show((0:Int)).toNat=0 from rfl] at hx142_2);(try rw [show 0*3=0 from rfl] at hx142_2);(try rw [Addr.add_zero'] at hx142_2);have HR142_2:=Aside0.mk hi142_2;have HC142_2:=Aside0.mk hl142_2;clear hi142_2 hl142_2;replace p142:=eq_true p142;replace q142:=eq_true q142))
 go_ret
 exact⟨ew,bl⟩
 }
 {
 have c9b0:(((rd_T24 t130 0).f1).toList == ([49,32,60,32,50]:List UInt8))=false:=beq_eq_false_iff_ne.mpr c9
 obtain rfl:=Option.some.inj H
 go_enter Tryd.func14,Tryd.ntmps14
 go_wp2_with (first|((with_reducible refine gate_callee (f:=10) rfl ?_);refine goesL_ (some 6) rfl rfl Tryd.func10 kr rfl #[.string (⟨#[60,97,32,120,61,34,49,34,62,32,60,98,62,49,32,38,108,116,59,32,50,60,47,98,62,60,99,47,62,60,47,97,62]⟩ : ByteArray)] rfl am ?_;(with_reducible refine(xml_Parse.calls k (⟨#[60,97,32,120,61,34,49,34,62,32,60,98,62,49,32,38,108,116,59,32,50,60,47,98,62,60,99,47,62,60,47,97,62]⟩ : ByteArray) t128 t129 t130 t133 _ gk A1.out).mono ?_);rintro e w18 ⟨v131,rfl,ho0,hb⟩;refine⟨_,rfl,?_⟩;have HO132:=Aside0.mk (Kd.V_lower (Kd.V_mono (ok':=fun k_=>True) ho0 (fun k_ hk_=>trivial)) (below_size bl));replace HB:=Aside0.mk (below_step bl hb))|((with_reducible refine gate_dst (N:=1) rfl ?_);(try (refine gate_guard (by rfl) ?_;dsimp only));refine box_event ?hg (N:=1) ?hd (cs:=#[.string (⟨#[]⟩ : ByteArray),.string (⟨#[]⟩ : ByteArray),.slice none 0 0]) (t:=24) ?hr ?_;(case hd=>rfl);(case hg=>rfl);(case hr=>first|(go_simp;done)|(go_simp;rfl));intro gb134 hg w19 hbox hb;replace HO132:=Aside0.mk (Kd.V_below (Kd.V_elderB (by(with_reducible repeat (first|apply Kd.V_alloc|apply Kd.V_drewN|apply Kd.V_drew));exact HO132.out) gb134 (Nat.le_of_eq hg.symm)) hb);have BK134:=Aside0.mk (hbox);have GW134:=Aside0.mk ((by rw [hg];exact(below_size bl):w.heap.size≤gb134));have GE134:=Aside0.mk ((by rw [hg];exact(below_size bl):w.heap.size≤gb134));replace HB:=Aside0.mk (below_step bl hb);clear hb hbox hg;obtain⟨_,_,_,_,_,_⟩:=bc3 BK134.out;obtain⟨Ao21,co21,eo21⟩:=Kd.V_slice HO132.out;subst eo21)|((with_reducible refine gate_callee (f:=23) rfl ?_);refine goesL_ (some 10) rfl rfl Tryd.func23 kr rfl #[.string (⟨#[97]⟩ : ByteArray),.string (⟨#[120,38,121]⟩ : ByteArray)] rfl am ?_;(with_reducible refine(xml_Of.calls (⟨#[97]⟩ : ByteArray) (⟨#[120,38,121]⟩ : ByteArray) t135 t136 t137 _ A2.out).mono ?_);rintro e w22 ⟨v138,rfl,ho0,hb⟩;refine⟨_,rfl,?_⟩;replace HO132:=Aside0.mk (Kd.V_elder' (by(with_reducible repeat (first|apply Kd.V_alloc|apply Kd.V_drewN|apply Kd.V_drew));exact(Kd.V_mono (Kd.V_far (p:=⟨gb134,2,none⟩) (Kd.V_far (p:=⟨gb134,1,none⟩) (Kd.V_far (p:=⟨gb134,0,none⟩) (Kd.V_mono HO132.out (fun k_ hk=>(⟨hk,hk.2⟩ : _∧k_≠gb134))) (fun _ hk=>hk.2) (.string t128)) (fun _ hk=>hk.2) (.string t129)) (fun _ hk=>hk.2) (.slice Ao21 t130.length co21)) (fun _ h_=>h_.1))) (by first|exact Kd.R_base ho0|exact Kd.R_base ho0) hb);have HO139:=Aside0.mk (Kd.R_lower (Kd.R_newB ho0 (g:=gb134) (o:=.cells #[.string t128,.string t129,.slice Ao21 t130.length co21] 24 (0,0)) (by(with_reducible repeat (first|refine blk_drewN ?_ _|refine blk_drew ?_|refine blk_alloc ?_ _));refine blk_put (cs:=#[.string t128,.string t129,.slice none 0 0]) ?_ 2 _ rfl;(with_reducible repeat (first|refine blk_drewN ?_ _|refine blk_drew ?_|refine blk_alloc ?_ _));refine blk_put (cs:=#[.string t128,.string (⟨#[]⟩ : ByteArray),.slice none 0 0]) ?_ 1 _ rfl;(with_reducible repeat (first|refine blk_drewN ?_ _|refine blk_drew ?_|refine blk_alloc ?_ _));refine blk_put (cs:=#[.string (⟨#[]⟩ : ByteArray),.string (⟨#[]⟩ : ByteArray),.slice none 0 0]) ?_ 0 _ rfl;(with_reducible repeat (first|refine blk_drewN ?_ _|refine blk_drew ?_|refine blk_alloc ?_ _));exact BK134.out)) (below_size bl));replace BK134:=Aside0.mk (blk_below (g:=gb134) (o:=.cells #[.string t128,.string t129,.slice Ao21 t130.length co21] 24 (0,0)) (by(with_reducible repeat (first|refine blk_drewN ?_ _|refine blk_drew ?_|refine blk_alloc ?_ _));refine blk_put (cs:=#[.string t128,.string t129,.slice none 0 0]) ?_ 2 _ rfl;(with_reducible repeat (first|refine blk_drewN ?_ _|refine blk_drew ?_|refine blk_alloc ?_ _));refine blk_put (cs:=#[.string t128,.string (⟨#[]⟩ : ByteArray),.slice none 0 0]) ?_ 1 _ rfl;(with_reducible repeat (first|refine blk_drewN ?_ _|refine blk_drew ?_|refine blk_alloc ?_ _));refine blk_put (cs:=#[.string (⟨#[]⟩ : ByteArray),.string (⟨#[]⟩ : ByteArray),.slice none 0 0]) ?_ 0 _ rfl;(with_reducible repeat (first|refine blk_drewN ?_ _|refine blk_drew ?_|refine blk_alloc ?_ _));exact BK134.out) hb);replace HB:=Aside0.mk (below_step bl hb);obtain⟨Ao23,co23,eo23⟩:=Kd.R_slice HO139.out;subst eo23)|((with_reducible refine gate_callee (f:=22) rfl ?_);refine goesL_ (some 11) rfl rfl Tryd.func22 kr rfl #[.agg #[.string t135,.string t136,.slice Ao23 t137.length co23],.bool false] rfl am ?_;(with_reducible refine(xml_Print.calls k t135 t136 _ _ t137 false t140 t141 _ ?side1 ?side2 A3.out).mono ?_);(case side1=>repeat (first|exact(Kd.R_reads' HO139.out).2.2|(with_reducible refine Kd.C_alloc ?_ _)|(with_reducible refine Kd.C_drewN ?_ _)|(with_reducible refine Kd.C_drew ?_)));(case side2=>exact(Kd.R_reads' HO139.out).2.1);rintro e w24 ⟨rfl,hb⟩;refine⟨_,rfl,?_⟩;replace HO132:=Aside0.mk (Kd.V_below (by(with_reducible repeat (first|apply Kd.V_alloc|apply Kd.V_drewN|apply Kd.V_drew));exact HO132.out) hb);replace HO139:=Aside0.mk (Kd.R_below rl hb);replace BK134:=Aside0.mk (blk_below (g:=gb134) (o:=.cells #[.string t128,.string t129,.slice Ao21 t130.length co21] 24 (0,0)) kl hb);replace HB:=Aside0.mk (below_step bl hb);obtain⟨_,_,_,_,_,_⟩:=bc3 BK134.out;have p142:0≤(0:Int):=(by omega);have q142:0<(t130.length:Int):=of_decide_eq_true asm;obtain⟨ad142,A142_2,c142_2,e142,hx142_0,hx142_1,hx142_2,hl142_2,hi142_2⟩:=at_T24 (Kd.V_reads' HO132.out).2.2 0 p142 q142;cases e142;obtain⟨ce142,hce142,hMe142,hcc142⟩:=Kd.V_get HO132.out z24 0 p142 (by first|exact q142|exact of_decide_eq_true asm|(have e_:=(Kd.V_reads' HO132.out).1;omega));obtain⟨ua142_2,uc142_2,rfl,ul142_2,ge142_2⟩:=k24_openF hMe142;have hv142_2:=hcc142 2 _ rfl;rw [add_field _ _ 2 (by omega)] at hv142_2;replace hv142_2:=Option.some.inj (hv142_2.symm.trans hx142_2);injection hv142_2 with hva_ hvn_ hvc_;rw [hva_] at ge142_2;rw [hvc_] at ul142_2;have HL142_2:=Aside0.mk (show Kd.V k24 24 _ w.heap.size _ _ ((rd_T24 t130 0).f2) from Kd.V_mk ul142_2 ge142_2);clear hva_ hvn_ hvc_ ge142_2 ul142_2;clear hcc142 hce142;have qi142:(0<t130.length)=True:=eq_true (by omega);(try rw [show((0:Int)).toNat=0 from rfl] at hx142_0);(try rw [show 0*3=0 from rfl] at hx142_0);(try rw [Addr.add_zero'] at hx142_0);(try rw [show((0:Int)).toNat=0 from rfl] at hx142_1);(try rw [show 0*3=0 from rfl] at hx142_1);(try rw [Addr.add_zero'] at hx142_1);(try rw [show((0:Int)).toNat=0 from rfl] at hx142_2);(try rw [show 0*3=0 from rfl] at hx142_2);(try rw [Addr.add_zero'] at hx142_2);have HR142_2:=Aside0.mk hi142_2;have HC142_2:=Aside0.mk hl142_2;clear hi142_2 hl142_2;replace p142:=eq_true p142;replace q142:=eq_true q142))
 go_ret
 exact⟨ew,bl⟩
 }
 }
 ·exact absurd H (by simp)
 }
 {
 have c7b0:((t130.length:Int) == 2)=false:=beq_eq_false_iff_ne.mpr c7
 obtain rfl:=Option.some.inj H
 go_enter Tryd.func14,Tryd.ntmps14
 go_wp2_with (first|((with_reducible refine gate_callee (f:=10) rfl ?_);refine goesL_ (some 6) rfl rfl Tryd.func10 kr rfl #[.string (⟨#[60,97,32,120,61,34,49,34,62,32,60,98,62,49,32,38,108,116,59,32,50,60,47,98,62,60,99,47,62,60,47,97,62]⟩ : ByteArray)] rfl am ?_;(with_reducible refine(xml_Parse.calls k (⟨#[60,97,32,120,61,34,49,34,62,32,60,98,62,49,32,38,108,116,59,32,50,60,47,98,62,60,99,47,62,60,47,97,62]⟩ : ByteArray) t128 t129 t130 t133 _ gk A1.out).mono ?_);rintro e w26 ⟨v131,rfl,ho0,hb⟩;refine⟨_,rfl,?_⟩;have HO132:=Aside0.mk (Kd.V_lower (Kd.V_mono (ok':=fun k_=>True) ho0 (fun k_ hk_=>trivial)) (below_size bl));replace HB:=Aside0.mk (below_step bl hb))|((with_reducible refine gate_dst (N:=1) rfl ?_);(try (refine gate_guard (by rfl) ?_;dsimp only));refine box_event ?hg (N:=1) ?hd (cs:=#[.string (⟨#[]⟩ : ByteArray),.string (⟨#[]⟩ : ByteArray),.slice none 0 0]) (t:=24) ?hr ?_;(case hd=>rfl);(case hg=>rfl);(case hr=>first|(go_simp;done)|(go_simp;rfl));intro gb134 hg w27 hbox hb;replace HO132:=Aside0.mk (Kd.V_below (Kd.V_elderB (by(with_reducible repeat (first|apply Kd.V_alloc|apply Kd.V_drewN|apply Kd.V_drew));exact HO132.out) gb134 (Nat.le_of_eq hg.symm)) hb);have BK134:=Aside0.mk (hbox);have GW134:=Aside0.mk ((by rw [hg];exact(below_size bl):w.heap.size≤gb134));have GE134:=Aside0.mk ((by rw [hg];exact(below_size bl):w.heap.size≤gb134));replace HB:=Aside0.mk (below_step bl hb);clear hb hbox hg;obtain⟨_,_,_,_,_,_⟩:=bc3 BK134.out;obtain⟨Ao29,co29,eo29⟩:=Kd.V_slice HO132.out;subst eo29)|((with_reducible refine gate_callee (f:=23) rfl ?_);refine goesL_ (some 10) rfl rfl Tryd.func23 kr rfl #[.string (⟨#[97]⟩ : ByteArray),.string (⟨#[120,38,121]⟩ : ByteArray)] rfl am ?_;(with_reducible refine(xml_Of.calls (⟨#[97]⟩ : ByteArray) (⟨#[120,38,121]⟩ : ByteArray) t135 t136 t137 _ A2.out).mono ?_);rintro e w30 ⟨v138,rfl,ho0,hb⟩;refine⟨_,rfl,?_⟩;replace HO132:=Aside0.mk (Kd.V_elder' (by(with_reducible repeat (first|apply Kd.V_alloc|apply Kd.V_drewN|apply Kd.V_drew));exact(Kd.V_mono (Kd.V_far (p:=⟨gb134,2,none⟩) (Kd.V_far (p:=⟨gb134,1,none⟩) (Kd.V_far (p:=⟨gb134,0,none⟩) (Kd.V_mono HO132.out (fun k_ hk=>(⟨hk,hk.2⟩ : _∧k_≠gb134))) (fun _ hk=>hk.2) (.string t128)) (fun _ hk=>hk.2) (.string t129)) (fun _ hk=>hk.2) (.slice Ao29 t130.length co29)) (fun _ h_=>h_.1))) (by first|exact Kd.R_base ho0|exact Kd.R_base ho0) hb);have HO139:=Aside0.mk (Kd.R_lower (Kd.R_newB ho0 (g:=gb134) (o:=.cells #[.string t128,.string t129,.slice Ao29 t130.length co29] 24 (0,0)) (by(with_reducible repeat (first|refine blk_drewN ?_ _|refine blk_drew ?_|refine blk_alloc ?_ _));refine blk_put (cs:=#[.string t128,.string t129,.slice none 0 0]) ?_ 2 _ rfl;(with_reducible repeat (first|refine blk_drewN ?_ _|refine blk_drew ?_|refine blk_alloc ?_ _));refine blk_put (cs:=#[.string t128,.string (⟨#[]⟩ : ByteArray),.slice none 0 0]) ?_ 1 _ rfl;(with_reducible repeat (first|refine blk_drewN ?_ _|refine blk_drew ?_|refine blk_alloc ?_ _));refine blk_put (cs:=#[.string (⟨#[]⟩ : ByteArray),.string (⟨#[]⟩ : ByteArray),.slice none 0 0]) ?_ 0 _ rfl;(with_reducible repeat (first|refine blk_drewN ?_ _|refine blk_drew ?_|refine blk_alloc ?_ _));exact BK134.out)) (below_size bl));replace BK134:=Aside0.mk (blk_below (g:=gb134) (o:=.cells #[.string t128,.string t129,.slice Ao29 t130.length co29] 24 (0,0)) (by(with_reducible repeat (first|refine blk_drewN ?_ _|refine blk_drew ?_|refine blk_alloc ?_ _));refine blk_put (cs:=#[.string t128,.string t129,.slice none 0 0]) ?_ 2 _ rfl;(with_reducible repeat (first|refine blk_drewN ?_ _|refine blk_drew ?_|refine blk_alloc ?_ _));refine blk_put (cs:=#[.string t128,.string (⟨#[]⟩ : ByteArray),.slice none 0 0]) ?_ 1 _ rfl;(with_reducible repeat (first|refine blk_drewN ?_ _|refine blk_drew ?_|refine blk_alloc ?_ _));refine blk_put (cs:=#[.string (⟨#[]⟩ : ByteArray),.string (⟨#[]⟩ : ByteArray),.slice none 0 0]) ?_ 0 _ rfl;(with_reducible repeat (first|refine blk_drewN ?_ _|refine blk_drew ?_|refine blk_alloc ?_ _));exact BK134.out) hb);replace HB:=Aside0.mk (below_step bl hb);obtain⟨Ao31,co31,eo31⟩:=Kd.R_slice HO139.out;subst eo31)|((with_reducible refine gate_callee (f:=22) rfl ?_);refine goesL_ (some 11) rfl rfl Tryd.func22 kr rfl #[.agg #[.string t135,.string t136,.slice Ao31 t137.length co31],.bool false] rfl am ?_;(with_reducible refine(xml_Print.calls k t135 t136 _ _ t137 false t140 t141 _ ?side1 ?side2 A3.out).mono ?_);(case side1=>repeat (first|exact(Kd.R_reads' HO139.out).2.2|(with_reducible refine Kd.C_alloc ?_ _)|(with_reducible refine Kd.C_drewN ?_ _)|(with_reducible refine Kd.C_drew ?_)));(case side2=>exact(Kd.R_reads' HO139.out).2.1);rintro e w32 ⟨rfl,hb⟩;refine⟨_,rfl,?_⟩;replace HO132:=Aside0.mk (Kd.V_below (by(with_reducible repeat (first|apply Kd.V_alloc|apply Kd.V_drewN|apply Kd.V_drew));exact HO132.out) hb);replace HO139:=Aside0.mk (Kd.R_below rl hb);replace BK134:=Aside0.mk (blk_below (g:=gb134) (o:=.cells #[.string t128,.string t129,.slice Ao29 t130.length co29] 24 (0,0)) kl hb);replace HB:=Aside0.mk (below_step bl hb);obtain⟨_,_,_,_,_,_⟩:=bc3 BK134.out))
 go_ret
 exact⟨ew,bl⟩
 }
 }
 {
 have c6b0:(t128.toList == ([97]:List UInt8))=false:=beq_eq_false_iff_ne.mpr c6
 obtain rfl:=Option.some.inj H
 go_enter Tryd.func14,Tryd.ntmps14
 go_wp2_with (first|((with_reducible refine gate_callee (f:=10) rfl ?_);refine goesL_ (some 6) rfl rfl Tryd.func10 kr rfl #[.string (⟨#[60,97,32,120,61,34,49,34,62,32,60,98,62,49,32,38,108,116,59,32,50,60,47,98,62,60,99,47,62,60,47,97,62]⟩ : ByteArray)] rfl am ?_;(with_reducible refine(xml_Parse.calls k (⟨#[60,97,32,120,61,34,49,34,62,32,60,98,62,49,32,38,108,116,59,32,50,60,47,98,62,60,99,47,62,60,47,97,62]⟩ : ByteArray) t128 t129 t130 t133 _ gk A1.out).mono ?_);rintro e w34 ⟨v131,rfl,ho0,hb⟩;refine⟨_,rfl,?_⟩;have HO132:=Aside0.mk (Kd.V_lower (Kd.V_mono (ok':=fun k_=>True) ho0 (fun k_ hk_=>trivial)) (below_size bl));replace HB:=Aside0.mk (below_step bl hb))|((with_reducible refine gate_dst (N:=1) rfl ?_);(try (refine gate_guard (by rfl) ?_;dsimp only));refine box_event ?hg (N:=1) ?hd (cs:=#[.string (⟨#[]⟩ : ByteArray),.string (⟨#[]⟩ : ByteArray),.slice none 0 0]) (t:=24) ?hr ?_;(case hd=>rfl);(case hg=>rfl);(case hr=>first|(go_simp;done)|(go_simp;rfl));intro gb134 hg w35 hbox hb;replace HO132:=Aside0.mk (Kd.V_below (Kd.V_elderB (by(with_reducible repeat (first|apply Kd.V_alloc|apply Kd.V_drewN|apply Kd.V_drew));exact HO132.out) gb134 (Nat.le_of_eq hg.symm)) hb);have BK134:=Aside0.mk (hbox);have GW134:=Aside0.mk ((by rw [hg];exact(below_size bl):w.heap.size≤gb134));have GE134:=Aside0.mk ((by rw [hg];exact(below_size bl):w.heap.size≤gb134));replace HB:=Aside0.mk (below_step bl hb);clear hb hbox hg;obtain⟨_,_,_,_,_,_⟩:=bc3 BK134.out;obtain⟨Ao37,co37,eo37⟩:=Kd.V_slice HO132.out;subst eo37)|((with_reducible refine gate_callee (f:=23) rfl ?_);refine goesL_ (some 10) rfl rfl Tryd.func23 kr rfl #[.string (⟨#[97]⟩ : ByteArray),.string (⟨#[120,38,121]⟩ : ByteArray)] rfl am ?_;(with_reducible refine(xml_Of.calls (⟨#[97]⟩ : ByteArray) (⟨#[120,38,121]⟩ : ByteArray) t135 t136 t137 _ A2.out).mono ?_);rintro e w38 ⟨v138,rfl,ho0,hb⟩;refine⟨_,rfl,?_⟩;replace HO132:=Aside0.mk (Kd.V_elder' (by(with_reducible repeat (first|apply Kd.V_alloc|apply Kd.V_drewN|apply Kd.V_drew));exact(Kd.V_mono (Kd.V_far (p:=⟨gb134,2,none⟩) (Kd.V_far (p:=⟨gb134,1,none⟩) (Kd.V_far (p:=⟨gb134,0,none⟩) (Kd.V_mono HO132.out (fun k_ hk=>(⟨hk,hk.2⟩ : _∧k_≠gb134))) (fun _ hk=>hk.2) (.string t128)) (fun _ hk=>hk.2) (.string t129)) (fun _ hk=>hk.2) (.slice Ao37 t130.length co37)) (fun _ h_=>h_.1))) (by first|exact Kd.R_base ho0|exact Kd.R_base ho0) hb);have HO139:=Aside0.mk (Kd.R_lower (Kd.R_newB ho0 (g:=gb134) (o:=.cells #[.string t128,.string t129,.slice Ao37 t130.length co37] 24 (0,0)) (by(with_reducible repeat (first|refine blk_drewN ?_ _|refine blk_drew ?_|refine blk_alloc ?_ _));refine blk_put (cs:=#[.string t128,.string t129,.slice none 0 0]) ?_ 2 _ rfl;(with_reducible repeat (first|refine blk_drewN ?_ _|refine blk_drew ?_|refine blk_alloc ?_ _));refine blk_put (cs:=#[.string t128,.string (⟨#[]⟩ : ByteArray),.slice none 0 0]) ?_ 1 _ rfl;(with_reducible repeat (first|refine blk_drewN ?_ _|refine blk_drew ?_|refine blk_alloc ?_ _));refine blk_put (cs:=#[.string (⟨#[]⟩ : ByteArray),.string (⟨#[]⟩ : ByteArray),.slice none 0 0]) ?_ 0 _ rfl;(with_reducible repeat (first|refine blk_drewN ?_ _|refine blk_drew ?_|refine blk_alloc ?_ _));exact BK134.out)) (below_size bl));replace BK134:=Aside0.mk (blk_below (g:=gb134) (o:=.cells #[.string t128,.string t129,.slice Ao37 t130.length co37] 24 (0,0)) (by(with_reducible repeat (first|refine blk_drewN ?_ _|refine blk_drew ?_|refine blk_alloc ?_ _));refine blk_put (cs:=#[.string t128,.string t129,.slice none 0 0]) ?_ 2 _ rfl;(with_reducible repeat (first|refine blk_drewN ?_ _|refine blk_drew ?_|refine blk_alloc ?_ _));refine blk_put (cs:=#[.string t128,.string (⟨#[]⟩ : ByteArray),.slice none 0 0]) ?_ 1 _ rfl;(with_reducible repeat (first|refine blk_drewN ?_ _|refine blk_drew ?_|refine blk_alloc ?_ _));refine blk_put (cs:=#[.string (⟨#[]⟩ : ByteArray),.string (⟨#[]⟩ : ByteArray),.slice none 0 0]) ?_ 0 _ rfl;(with_reducible repeat (first|refine blk_drewN ?_ _|refine blk_drew ?_|refine blk_alloc ?_ _));exact BK134.out) hb);replace HB:=Aside0.mk (below_step bl hb);obtain⟨Ao39,co39,eo39⟩:=Kd.R_slice HO139.out;subst eo39)|((with_reducible refine gate_callee (f:=22) rfl ?_);refine goesL_ (some 11) rfl rfl Tryd.func22 kr rfl #[.agg #[.string t135,.string t136,.slice Ao39 t137.length co39],.bool false] rfl am ?_;(with_reducible refine(xml_Print.calls k t135 t136 _ _ t137 false t140 t141 _ ?side1 ?side2 A3.out).mono ?_);(case side1=>repeat (first|exact(Kd.R_reads' HO139.out).2.2|(with_reducible refine Kd.C_alloc ?_ _)|(with_reducible refine Kd.C_drewN ?_ _)|(with_reducible refine Kd.C_drew ?_)));(case side2=>exact(Kd.R_reads' HO139.out).2.1);rintro e w40 ⟨rfl,hb⟩;refine⟨_,rfl,?_⟩;replace HO132:=Aside0.mk (Kd.V_below (by(with_reducible repeat (first|apply Kd.V_alloc|apply Kd.V_drewN|apply Kd.V_drew));exact HO132.out) hb);replace HO139:=Aside0.mk (Kd.R_below rl hb);replace BK134:=Aside0.mk (blk_below (g:=gb134) (o:=.cells #[.string t128,.string t129,.slice Ao37 t130.length co37] 24 (0,0)) kl hb);replace HB:=Aside0.mk (below_step bl hb);obtain⟨_,_,_,_,_,_⟩:=bc3 BK134.out))
 go_ret
 exact⟨ew,bl⟩
 }
 }
 {
 have c5b0:(t141 == 0)=false:=beq_eq_false_iff_ne.mpr c5
 obtain rfl:=Option.some.inj H
 go_enter Tryd.func14,Tryd.ntmps14
 go_wp2_with (first|((with_reducible refine gate_callee (f:=10) rfl ?_);refine goesL_ (some 6) rfl rfl Tryd.func10 kr rfl #[.string (⟨#[60,97,32,120,61,34,49,34,62,32,60,98,62,49,32,38,108,116,59,32,50,60,47,98,62,60,99,47,62,60,47,97,62]⟩ : ByteArray)] rfl am ?_;(with_reducible refine(xml_Parse.calls k (⟨#[60,97,32,120,61,34,49,34,62,32,60,98,62,49,32,38,108,116,59,32,50,60,47,98,62,60,99,47,62,60,47,97,62]⟩ : ByteArray) t128 t129 t130 t133 _ gk A1.out).mono ?_);rintro e w42 ⟨v131,rfl,ho0,hb⟩;refine⟨_,rfl,?_⟩;have HO132:=Aside0.mk (Kd.V_lower (Kd.V_mono (ok':=fun k_=>True) ho0 (fun k_ hk_=>trivial)) (below_size bl));replace HB:=Aside0.mk (below_step bl hb))|((with_reducible refine gate_dst (N:=1) rfl ?_);(try (refine gate_guard (by rfl) ?_;dsimp only));refine box_event ?hg (N:=1) ?hd (cs:=#[.string (⟨#[]⟩ : ByteArray),.string (⟨#[]⟩ : ByteArray),.slice none 0 0]) (t:=24) ?hr ?_;(case hd=>rfl);(case hg=>rfl);(case hr=>first|(go_simp;done)|(go_simp;rfl));intro gb134 hg w43 hbox hb;replace HO132:=Aside0.mk (Kd.V_below (Kd.V_elderB (by(with_reducible repeat (first|apply Kd.V_alloc|apply Kd.V_drewN|apply Kd.V_drew));exact HO132.out) gb134 (Nat.le_of_eq hg.symm)) hb);have BK134:=Aside0.mk (hbox);have GW134:=Aside0.mk ((by rw [hg];exact(below_size bl):w.heap.size≤gb134));have GE134:=Aside0.mk ((by rw [hg];exact(below_size bl):w.heap.size≤gb134));replace HB:=Aside0.mk (below_step bl hb);clear hb hbox hg;obtain⟨_,_,_,_,_,_⟩:=bc3 BK134.out;obtain⟨Ao45,co45,eo45⟩:=Kd.V_slice HO132.out;subst eo45)|((with_reducible refine gate_callee (f:=23) rfl ?_);refine goesL_ (some 10) rfl rfl Tryd.func23 kr rfl #[.string (⟨#[97]⟩ : ByteArray),.string (⟨#[120,38,121]⟩ : ByteArray)] rfl am ?_;(with_reducible refine(xml_Of.calls (⟨#[97]⟩ : ByteArray) (⟨#[120,38,121]⟩ : ByteArray) t135 t136 t137 _ A2.out).mono ?_);rintro e w46 ⟨v138,rfl,ho0,hb⟩;refine⟨_,rfl,?_⟩;replace HO132:=Aside0.mk (Kd.V_elder' (by(with_reducible repeat (first|apply Kd.V_alloc|apply Kd.V_drewN|apply Kd.V_drew));exact(Kd.V_mono (Kd.V_far (p:=⟨gb134,2,none⟩) (Kd.V_far (p:=⟨gb134,1,none⟩) (Kd.V_far (p:=⟨gb134,0,none⟩) (Kd.V_mono HO132.out (fun k_ hk=>(⟨hk,hk.2⟩ : _∧k_≠gb134))) (fun _ hk=>hk.2) (.string t128)) (fun _ hk=>hk.2) (.string t129)) (fun _ hk=>hk.2) (.slice Ao45 t130.length co45)) (fun _ h_=>h_.1))) (by first|exact Kd.R_base ho0|exact Kd.R_base ho0) hb);have HO139:=Aside0.mk (Kd.R_lower (Kd.R_newB ho0 (g:=gb134) (o:=.cells #[.string t128,.string t129,.slice Ao45 t130.length co45] 24 (0,0)) (by(with_reducible repeat (first|refine blk_drewN ?_ _|refine blk_drew ?_|refine blk_alloc ?_ _));refine blk_put (cs:=#[.string t128,.string t129,.slice none 0 0]) ?_ 2 _ rfl;(with_reducible repeat (first|refine blk_drewN ?_ _|refine blk_drew ?_|refine blk_alloc ?_ _));refine blk_put (cs:=#[.string t128,.string (⟨#[]⟩ : ByteArray),.slice none 0 0]) ?_ 1 _ rfl;(with_reducible repeat (first|refine blk_drewN ?_ _|refine blk_drew ?_|refine blk_alloc ?_ _));refine blk_put (cs:=#[.string (⟨#[]⟩ : ByteArray),.string (⟨#[]⟩ : ByteArray),.slice none 0 0]) ?_ 0 _ rfl;(with_reducible repeat (first|refine blk_drewN ?_ _|refine blk_drew ?_|refine blk_alloc ?_ _));exact BK134.out)) (below_size bl));replace BK134:=Aside0.mk (blk_below (g:=gb134) (o:=.cells #[.string t128,.string t129,.slice Ao45 t130.length co45] 24 (0,0)) (by(with_reducible repeat (first|refine blk_drewN ?_ _|refine blk_drew ?_|refine blk_alloc ?_ _));refine blk_put (cs:=#[.string t128,.string t129,.slice none 0 0]) ?_ 2 _ rfl;(with_reducible repeat (first|refine blk_drewN ?_ _|refine blk_drew ?_|refine blk_alloc ?_ _));refine blk_put (cs:=#[.string t128,.string (⟨#[]⟩ : ByteArray),.slice none 0 0]) ?_ 1 _ rfl;(with_reducible repeat (first|refine blk_drewN ?_ _|refine blk_drew ?_|refine blk_alloc ?_ _));refine blk_put (cs:=#[.string (⟨#[]⟩ : ByteArray),.string (⟨#[]⟩ : ByteArray),.slice none 0 0]) ?_ 0 _ rfl;(with_reducible repeat (first|refine blk_drewN ?_ _|refine blk_drew ?_|refine blk_alloc ?_ _));exact BK134.out) hb);replace HB:=Aside0.mk (below_step bl hb);obtain⟨Ao47,co47,eo47⟩:=Kd.R_slice HO139.out;subst eo47)|((with_reducible refine gate_callee (f:=22) rfl ?_);refine goesL_ (some 11) rfl rfl Tryd.func22 kr rfl #[.agg #[.string t135,.string t136,.slice Ao47 t137.length co47],.bool false] rfl am ?_;(with_reducible refine(xml_Print.calls k t135 t136 _ _ t137 false t140 t141 _ ?side1 ?side2 A3.out).mono ?_);(case side1=>repeat (first|exact(Kd.R_reads' HO139.out).2.2|(with_reducible refine Kd.C_alloc ?_ _)|(with_reducible refine Kd.C_drewN ?_ _)|(with_reducible refine Kd.C_drew ?_)));(case side2=>exact(Kd.R_reads' HO139.out).2.1);rintro e w48 ⟨rfl,hb⟩;refine⟨_,rfl,?_⟩;replace HO132:=Aside0.mk (Kd.V_below (by(with_reducible repeat (first|apply Kd.V_alloc|apply Kd.V_drewN|apply Kd.V_drew));exact HO132.out) hb);replace HO139:=Aside0.mk (Kd.R_below rl hb);replace BK134:=Aside0.mk (blk_below (g:=gb134) (o:=.cells #[.string t128,.string t129,.slice Ao45 t130.length co45] 24 (0,0)) kl hb);replace HB:=Aside0.mk (below_step bl hb)))
 go_ret
 exact⟨ew,bl⟩
 }
 }
 {
 have c4b0:(t133 == 0)=false:=beq_eq_false_iff_ne.mpr c4
 obtain rfl:=Option.some.inj H
 go_enter Tryd.func14,Tryd.ntmps14
 go_wp2_with (first|((with_reducible refine gate_callee (f:=10) rfl ?_);refine goesL_ (some 6) rfl rfl Tryd.func10 kr rfl #[.string (⟨#[60,97,32,120,61,34,49,34,62,32,60,98,62,49,32,38,108,116,59,32,50,60,47,98,62,60,99,47,62,60,47,97,62]⟩ : ByteArray)] rfl am ?_;(with_reducible refine(xml_Parse.calls k (⟨#[60,97,32,120,61,34,49,34,62,32,60,98,62,49,32,38,108,116,59,32,50,60,47,98,62,60,99,47,62,60,47,97,62]⟩ : ByteArray) t128 t129 t130 t133 _ gk A1.out).mono ?_);rintro e w49 ⟨v131,rfl,ho0,hb⟩;refine⟨_,rfl,?_⟩;have HO132:=Aside0.mk (Kd.V_lower (Kd.V_mono (ok':=fun k_=>True) ho0 (fun k_ hk_=>trivial)) (below_size bl));replace HB:=Aside0.mk (below_step bl hb))|((with_reducible refine gate_dst (N:=1) rfl ?_);(try (refine gate_guard (by rfl) ?_;dsimp only));refine box_event ?hg (N:=1) ?hd (cs:=#[.string (⟨#[]⟩ : ByteArray),.string (⟨#[]⟩ : ByteArray),.slice none 0 0]) (t:=24) ?hr ?_;(case hd=>rfl);(case hg=>rfl);(case hr=>first|(go_simp;done)|(go_simp;rfl));intro gb134 hg w50 hbox hb;replace HO132:=Aside0.mk (Kd.V_below (Kd.V_elderB (by(with_reducible repeat (first|apply Kd.V_alloc|apply Kd.V_drewN|apply Kd.V_drew));exact HO132.out) gb134 (Nat.le_of_eq hg.symm)) hb);have BK134:=Aside0.mk (hbox);have GW134:=Aside0.mk ((by rw [hg];exact(below_size bl):w.heap.size≤gb134));have GE134:=Aside0.mk ((by rw [hg];exact(below_size bl):w.heap.size≤gb134));replace HB:=Aside0.mk (below_step bl hb);clear hb hbox hg;obtain⟨_,_,_,_,_,_⟩:=bc3 BK134.out;obtain⟨Ao52,co52,eo52⟩:=Kd.V_slice HO132.out;subst eo52)|((with_reducible refine gate_callee (f:=23) rfl ?_);refine goesL_ (some 10) rfl rfl Tryd.func23 kr rfl #[.string (⟨#[97]⟩ : ByteArray),.string (⟨#[120,38,121]⟩ : ByteArray)] rfl am ?_;(with_reducible refine(xml_Of.calls (⟨#[97]⟩ : ByteArray) (⟨#[120,38,121]⟩ : ByteArray) t135 t136 t137 _ A2.out).mono ?_);rintro e w53 ⟨v138,rfl,ho0,hb⟩;refine⟨_,rfl,?_⟩;replace HO132:=Aside0.mk (Kd.V_elder' (by(with_reducible repeat (first|apply Kd.V_alloc|apply Kd.V_drewN|apply Kd.V_drew));exact(Kd.V_mono (Kd.V_far (p:=⟨gb134,2,none⟩) (Kd.V_far (p:=⟨gb134,1,none⟩) (Kd.V_far (p:=⟨gb134,0,none⟩) (Kd.V_mono HO132.out (fun k_ hk=>(⟨hk,hk.2⟩ : _∧k_≠gb134))) (fun _ hk=>hk.2) (.string t128)) (fun _ hk=>hk.2) (.string t129)) (fun _ hk=>hk.2) (.slice Ao52 t130.length co52)) (fun _ h_=>h_.1))) (by first|exact Kd.R_base ho0|exact Kd.R_base ho0) hb);have HO139:=Aside0.mk (Kd.R_lower (Kd.R_newB ho0 (g:=gb134) (o:=.cells #[.string t128,.string t129,.slice Ao52 t130.length co52] 24 (0,0)) (by(with_reducible repeat (first|refine blk_drewN ?_ _|refine blk_drew ?_|refine blk_alloc ?_ _));refine blk_put (cs:=#[.string t128,.string t129,.slice none 0 0]) ?_ 2 _ rfl;(with_reducible repeat (first|refine blk_drewN ?_ _|refine blk_drew ?_|refine blk_alloc ?_ _));refine blk_put (cs:=#[.string t128,.string (⟨#[]⟩ : ByteArray),.slice none 0 0]) ?_ 1 _ rfl;(with_reducible repeat (first|refine blk_drewN ?_ _|refine blk_drew ?_|refine blk_alloc ?_ _));refine blk_put (cs:=#[.string (⟨#[]⟩ : ByteArray),.string (⟨#[]⟩ : ByteArray),.slice none 0 0]) ?_ 0 _ rfl;(with_reducible repeat (first|refine blk_drewN ?_ _|refine blk_drew ?_|refine blk_alloc ?_ _));exact BK134.out)) (below_size bl));replace BK134:=Aside0.mk (blk_below (g:=gb134) (o:=.cells #[.string t128,.string t129,.slice Ao52 t130.length co52] 24 (0,0)) (by(with_reducible repeat (first|refine blk_drewN ?_ _|refine blk_drew ?_|refine blk_alloc ?_ _));refine blk_put (cs:=#[.string t128,.string t129,.slice none 0 0]) ?_ 2 _ rfl;(with_reducible repeat (first|refine blk_drewN ?_ _|refine blk_drew ?_|refine blk_alloc ?_ _));refine blk_put (cs:=#[.string t128,.string (⟨#[]⟩ : ByteArray),.slice none 0 0]) ?_ 1 _ rfl;(with_reducible repeat (first|refine blk_drewN ?_ _|refine blk_drew ?_|refine blk_alloc ?_ _));refine blk_put (cs:=#[.string (⟨#[]⟩ : ByteArray),.string (⟨#[]⟩ : ByteArray),.slice none 0 0]) ?_ 0 _ rfl;(with_reducible repeat (first|refine blk_drewN ?_ _|refine blk_drew ?_|refine blk_alloc ?_ _));exact BK134.out) hb);replace HB:=Aside0.mk (below_step bl hb);obtain⟨Ao54,co54,eo54⟩:=Kd.R_slice HO139.out;subst eo54)|((with_reducible refine gate_callee (f:=22) rfl ?_);refine goesL_ (some 11) rfl rfl Tryd.func22 kr rfl #[.agg #[.string t135,.string t136,.slice Ao54 t137.length co54],.bool false] rfl am ?_;(with_reducible refine(xml_Print.calls k t135 t136 _ _ t137 false t140 t141 _ ?side1 ?side2 A3.out).mono ?_);(case side1=>repeat (first|exact(Kd.R_reads' HO139.out).2.2|(with_reducible refine Kd.C_alloc ?_ _)|(with_reducible refine Kd.C_drewN ?_ _)|(with_reducible refine Kd.C_drew ?_)));(case side2=>exact(Kd.R_reads' HO139.out).2.1);rintro e w55 ⟨rfl,hb⟩;refine⟨_,rfl,?_⟩;replace HO132:=Aside0.mk (Kd.V_below (by(with_reducible repeat (first|apply Kd.V_alloc|apply Kd.V_drewN|apply Kd.V_drew));exact HO132.out) hb);replace HO139:=Aside0.mk (Kd.R_below rl hb);replace BK134:=Aside0.mk (blk_below (g:=gb134) (o:=.cells #[.string t128,.string t129,.slice Ao52 t130.length co52] 24 (0,0)) kl hb);replace HB:=Aside0.mk (below_step bl hb)))
 go_ret
 exact⟨ew,bl⟩
 }
mutual
def stowagelaw13_Deep.l0:Nat→Int→Int→Int→ByteArray→ByteArray→List (S24)→Option (Int)
  | 0,_,_,_,_,_,_=>none
  | k+1,x1,x5,x6,x275000,x275001,x275002=>if x6<(x275002.length:Int) then(if x1>0 then(if 0≤x6 then((stowagelaw13_Deep.f k ((rd_T24 x275002 x6).f0) ((rd_T24 x275002 x6).f1) ((rd_T24 x275002 x6).f2) (wrap64 (x1-1))).bind fun t276=>(stowagelaw13_Deep.l0 k x1 (mx x5 t276) (wrap64 (x6+1)) x275000 x275001 x275002)) else(none)) else(some (wrap64 (x5+1)))) else(some (wrap64 (x5+1)))
def stowagelaw13_Deep.f:Nat→ByteArray→ByteArray→List (S24)→Int→Option (Int)
  | 0,_,_,_,_=>none
  | k+1,a0_0,a0_1,l0_2,a1=>stowagelaw13_Deep.l0 k a1 0 0 a0_0 a0_1 l0_2
end
theorem stowagelaw13_Deep.mono_l:∀ k,(∀ y0 y1 y2 y3,LeO (stowagelaw13_Deep.f k y0 y1 y2 y3) (stowagelaw13_Deep.f (k+1) y0 y1 y2 y3))∧(∀ y0 y1 y2 y3 y4 y5,LeO (stowagelaw13_Deep.l0 k y0 y1 y2 y3 y4 y5) (stowagelaw13_Deep.l0 (k+1) y0 y1 y2 y3 y4 y5))
  | 0=>⟨fun _ _ _ _ r h=>by simp [stowagelaw13_Deep.f] at h,fun _ _ _ _ _ _ r h=>by simp [stowagelaw13_Deep.l0] at h⟩
  | k+1=>by
    obtain⟨ih0,ih1⟩:=stowagelaw13_Deep.mono_l k
    refine⟨?_,?_⟩
    · intro y0 y1 y2 y3
      unfold stowagelaw13_Deep.f
      with_reducible repeat' first|exact ih0 _ _ _ _|exact ih1 _ _ _ _ _ _|exact LeO.refl _|exact LeO.none _|refine LeO.ite ?_ ?_|refine LeO.bind ?_ (fun _=>?_)
    · intro y0 y1 y2 y3 y4 y5
      unfold stowagelaw13_Deep.l0
      with_reducible repeat' first|exact ih0 _ _ _ _|exact ih1 _ _ _ _ _ _|exact LeO.refl _|exact LeO.none _|refine LeO.ite ?_ ?_|refine LeO.bind ?_ (fun _=>?_)
theorem stowagelaw13_Deep.mono:∀ a0 a1 a2 a3 k,LeO (stowagelaw13_Deep.f k a0 a1 a2 a3) (stowagelaw13_Deep.f (k+1) a0 a1 a2 a3):=by
 intro a0 a1 a2 a3 k
 obtain⟨ih0,ih1⟩:=stowagelaw13_Deep.mono_l k
 exact ih0 a0 a1 a2 a3
theorem stowagelaw13_Deep.calls (k:Nat):∀ (a0_0:ByteArray) (a0_1:ByteArray) (A0_2:Option Addr) (c0_2:Nat) (l0_2:List (S24)) (a1:Int) (r:Int) (w:World) (hr0_2:Kd.C k24 w A0_2 l0_2.length l0_2) (hc0_2:l0_2.length≤c0_2) (h:stowagelaw13_Deep.f k a0_0 a0_1 l0_2 a1=some r),
    Calls Tryd.prog 21 #[.agg #[.string a0_0,.string a0_1,.slice A0_2 l0_2.length c0_2],.int .i64 a1] w fun e w'=>e = .returned (.int .i64 r)∧Below w.heap.size w w':=by
 induction k using Nat.strongRecOn with
 | _ k ih=>
 intro a0_0 a0_1 A0_2 c0_2 l0_2 a1 r w hr0_2 hc0_2 h
 cases k with
 | zero=>exact absurd h (by simp [stowagelaw13_Deep.f])
 | succ k=>
 simp only [stowagelaw13_Deep.f] at h
 have hu24:=Tryd.underlying24
 have HR0_2:=Aside0.mk hr0_2
 have HC0_2:=Aside0.mk hc0_2
 clear hr0_2 hc0_2
 have HB:=Aside0.mk (Below.refl w.heap.size w)
 have H:(stowagelaw13_Deep.l0 k a1 0 0 a0_0 a0_1 l0_2)=some r:=h
 clear h
 have H':=Aside0.mk H
 clear H
 go_enter Tryd.func21,Tryd.ntmps21
 go_wp2_with (first|((with_reducible refine gate_dst (N:=2) rfl ?_);refine box_event ?hg (N:=2) ?hd (cs:=#[.string a0_0,.string a0_1,.slice A0_2 l0_2.length c0_2]) (t:=24) ?hr ?_;(case hd=>rfl);(case hg=>rfl);(case hr=>first|(go_simp;done)|(go_simp;rfl));intro gb274 hg w3 hbox hb;have BK274:=Aside0.mk (hbox);have GW274:=Aside0.mk ((by rw [hg];exact(below_size bl):w.heap.size≤gb274));have GE274:=Aside0.mk ((by rw [hg];exact(below_size bl):w.heap.size≤gb274));replace HB:=Aside0.mk (below_step bl hb);clear hb hbox hg))
 go_loopg [5,6] k (fun kq v5 v6 w'=>∃ (x5_1:Int) (x6_1:Int),v5 = .int .i64 x5_1∧v6 = .int .i64 x6_1∧Aside0 (stowagelaw13_Deep.l0 kq a1 x5_1 x6_1 a0_0 a0_1 l0_2=some r)∧Aside0 (kq≤k)∧Aside0 (w'.heap[gb274]? = some (.cells #[.string a0_0,.string a0_1,(.slice A0_2 l0_2.length c0_2)] 24 (0,0)))∧Aside0 (Below w.heap.size w w'))
 case atStart=>exact⟨(0),(0),rs,rs,H',⟨Nat.le_refl _⟩,⟨kl⟩,⟨bl⟩⟩
 case round=>
  clear H'
  obtain⟨x5_1,x6_1,rfl,rfl,HA,HK1,BK274,HB⟩:=hrel
  cases gk with
  | zero=>exact absurd HA.out (by simp [stowagelaw13_Deep.l0])
  | succ k1=>
   have H:=HA.out
   clear HA
   simp only [stowagelaw13_Deep.l0] at H
   replace H:=itO H
   rcases H with⟨c4,H⟩|⟨c4,H⟩
   {
   have c4b0:decide (x6_1<(l0_2.length:Int))=true:=decide_eq_true c4
   clear c4
   replace H:=itO H
   rcases H with⟨c5,H⟩|⟨c5,H⟩
   {
   have c5b0:decide (0<a1)=true:=decide_eq_true c5
   clear c5
   replace H:=itO H
   rcases H with⟨c6,H⟩|⟨c6,H⟩
   {
   have c6b0:decide (0≤x6_1)=true:=decide_eq_true c6
   clear c6
   replace H:=bndO H
   obtain⟨t276,A70,H⟩:=H
   have A7:=Aside0.mk A70
   clear A70
   obtain⟨ji8,hji8⟩ : ∃ j_:Int,(mx x5_1 t276)=j_:=⟨_,rfl⟩
   first|rw [hji8] at H|simp only [hji8] at H
   (try rw [hji8] at A7)
   have hji8_:(if x5_1<t276 then t276 else x5_1)=ji8:=hji8
   have H':=Aside0.mk H
   clear H
   obtain⟨_,_,_,_,_,_⟩:=bc3 BK274.out
   have p275:0≤(x6_1:Int):=of_decide_eq_true asm
   have q275:x6_1<(l0_2.length:Int):=of_decide_eq_true asm
   obtain⟨ad275,A275_2,c275_2,e275,hx275_0,hx275_1,hx275_2,hl275_2,hi275_2⟩:=at_T24 HR0_2.out x6_1 p275 q275
   cases e275
   replace hx275_0:=(HB.out.cell (World.block_lt_of_cell? w _ hx275_0)).trans hx275_0
   replace hx275_1:=(HB.out.cell (World.block_lt_of_cell? w _ hx275_1)).trans hx275_1
   replace hx275_2:=(HB.out.cell (World.block_lt_of_cell? w _ hx275_2)).trans hx275_2
   have HR275_2:=Aside0.mk hi275_2
   have HC275_2:=Aside0.mk hl275_2
   clear hi275_2 hl275_2
   replace p275:=eq_true p275
   replace q275:=eq_true q275
   go_wp2_with (first|((with_reducible refine gate_callee (f:=21) rfl ?_);refine goesL_ (some 26) rfl rfl Tryd.func21 kr rfl #[.agg #[.string ((rd_T24 l0_2 x6_1).f0),.string ((rd_T24 l0_2 x6_1).f1),.slice A275_2 ((rd_T24 l0_2 x6_1).f2).length c275_2],.int .i64 (wrap64 (a1-1))] rfl am ?_;(with_reducible refine(ih k1 (by have:=HK1.out;omega) ((rd_T24 l0_2 x6_1).f0) ((rd_T24 l0_2 x6_1).f1) _ _ ((rd_T24 l0_2 x6_1).f2) (wrap64 (a1-1)) t276 _ ?side1 ?side2 A7.out).mono ?_);(case side1=>repeat (first|exact(Kd.C_below HR275_2.out HB.out)|(with_reducible refine Kd.C_alloc ?_ _)|(with_reducible refine Kd.C_drewN ?_ _)|(with_reducible refine Kd.C_drew ?_)));(case side2=>exact HC275_2.out);rintro e w10 ⟨rfl,hb⟩;refine⟨_,rfl,?_⟩;replace BK274:=Aside0.mk (blk_below (g:=gb274) (o:=.cells #[.string a0_0,.string a0_1,.slice (some ad275) l0_2.length c0_2] 24 (0,0)) kl hb);replace HB:=Aside0.mk (below_step bl hb)))
   go_roundg k1
   case measure=>have:=HK1.out;omega
   case rel=>exact⟨(ji8),(wrap64 (x6_1+1)),(by first|rfl|(simp;done)|(simp only [← hji8] <;> (first|rfl|simp))|(simp [*];done)),rs,H',⟨by have:=HK1.out;omega⟩,⟨kl⟩,⟨bl⟩⟩
   }
   ·exact absurd H (by simp)
   }
   {
   have c5b0:decide (0<a1)=false:=decide_eq_false c5
   clear c5
   obtain rfl:=Option.some.inj H
   obtain⟨_,_,_,_,_,_⟩:=bc3 BK274.out
   go_wp2
   go_ret
   exact⟨ew,bl⟩
   }
   }
   {
   have c4b0:decide (x6_1<(l0_2.length:Int))=false:=decide_eq_false c4
   clear c4
   obtain rfl:=Option.some.inj H
   obtain⟨_,_,_,_,_,_⟩:=bc3 BK274.out
   go_wp2
   go_ret
   exact⟨ew,bl⟩
   }
mutual
def stowagelaw13_XmlDepths.j0:Nat→Int→ByteArray→Bool→Option (Bool)
  | 0,_,_,_=>none
  | k+1,x0,x1,x25=>if x25=true then((stowagelaw13_awake.f k).bind fun t389=>(some t389)) else((xml_Of.f (⟨#[97]⟩ : ByteArray) x1).bind fun bt390=>(stowagelaw13_XmlDepths.l0 k x0 (⟨#[60,97,62]⟩ : ByteArray) (⟨#[60,47,97,62]⟩ : ByteArray) 1 bt390.1 bt390.2.1 bt390.2.2))
def stowagelaw13_XmlDepths.l0:Nat→Int→ByteArray→ByteArray→Int→ByteArray→ByteArray→List (S24)→Option (Bool)
  | 0,_,_,_,_,_,_,_=>none
  | k+1,x0,x6,x7,x8,x396000,x396001,x396002=>if x8<x0 then(if x6.size+3≤9223372036854775807 then(if x7.size+4≤9223372036854775807 then(stowagelaw13_XmlDepths.l0 k x0 (x6++(⟨#[60,97,62]⟩ : ByteArray)) (x7++(⟨#[60,47,97,62]⟩ : ByteArray)) (wrap64 (x8+1)) (⟨#[97]⟩ : ByteArray) (⟨#[]⟩ : ByteArray) (([(⟨x396000,x396001,x396002⟩ : S24)]:List (S24)))) else(none)) else(none)) else(if x6.size+x7.size≤9223372036854775807 then((xml_Parse.f k (x6++x7)).bind fun bt399=>((xml_Print.f k x396000 x396001 x396002 false).bind fun bt406=>(if((bt399.2.2.2 == 0) != (decide (x0≤16)))=true then(some false) else(if bt406.2=0 then((xml_Parse.f k bt406.1).bind fun bt408=>(if x0≤16 then(if bt408.2.2.2=0 then((stowagelaw13_Deep.f k bt408.1 bt408.2.1 bt408.2.2.1 40).bind fun t415=>(if t415=x0 then((stowagelaw13_awake.f k).bind fun t416=>(some t416)) else(some false))) else(some false)) else(some false))) else(if bt406.2=130 then(if bt406.1.toList=([]:List UInt8) then((stowagelaw13_awake.f k).bind fun t417=>(some t417)) else(some false)) else(some false)))))) else(none))
end
def stowagelaw13_XmlDepths.f (k:Nat) (a0:Int) (a1:ByteArray):Option (Bool):=if a0<1 then(stowagelaw13_XmlDepths.j0 k a0 a1 true) else(if a0>40 then(stowagelaw13_XmlDepths.j0 k a0 a1 true) else(stowagelaw13_XmlDepths.j0 k a0 a1 (decide ((a1.size:Int)>100))))
theorem stowagelaw13_XmlDepths.mono_l:∀ k,(∀ y0 y1 y2,LeO (stowagelaw13_XmlDepths.j0 k y0 y1 y2) (stowagelaw13_XmlDepths.j0 (k+1) y0 y1 y2))∧(∀ y0 y1 y2 y3 y4 y5 y6,LeO (stowagelaw13_XmlDepths.l0 k y0 y1 y2 y3 y4 y5 y6) (stowagelaw13_XmlDepths.l0 (k+1) y0 y1 y2 y3 y4 y5 y6))
  | 0=>⟨fun _ _ _ r h=>by simp [stowagelaw13_XmlDepths.j0] at h,fun _ _ _ _ _ _ _ r h=>by simp [stowagelaw13_XmlDepths.l0] at h⟩
  | k+1=>by
    obtain⟨ih0,ih1⟩:=stowagelaw13_XmlDepths.mono_l k
    refine⟨?_,?_⟩
    · intro y0 y1 y2
      unfold stowagelaw13_XmlDepths.j0
      with_reducible repeat' first|exact ih0 _ _ _|exact ih1 _ _ _ _ _ _ _|exact stowagelaw13_Deep.mono _ _ _ _ _|exact stowagelaw13_awake.mono _|exact xml_Parse.mono _ _|exact xml_Print.mono _ _ _ _ _|exact LeO.refl _|exact LeO.none _|refine LeO.ite ?_ ?_|refine LeO.bind ?_ (fun _=>?_)
    · intro y0 y1 y2 y3 y4 y5 y6
      unfold stowagelaw13_XmlDepths.l0
      with_reducible repeat' first|exact ih0 _ _ _|exact ih1 _ _ _ _ _ _ _|exact stowagelaw13_Deep.mono _ _ _ _ _|exact stowagelaw13_awake.mono _|exact xml_Parse.mono _ _|exact xml_Print.mono _ _ _ _ _|exact LeO.refl _|exact LeO.none _|refine LeO.ite ?_ ?_|refine LeO.bind ?_ (fun _=>?_)
theorem stowagelaw13_XmlDepths.mono:∀ a0 a1 k,LeO (stowagelaw13_XmlDepths.f k a0 a1) (stowagelaw13_XmlDepths.f (k+1) a0 a1):=by
 intro a0 a1 k
 obtain⟨ih0,ih1⟩:=stowagelaw13_XmlDepths.mono_l k
 unfold stowagelaw13_XmlDepths.f
 with_reducible repeat' first|exact ih0 _ _ _|exact ih1 _ _ _ _ _ _ _|exact stowagelaw13_Deep.mono _ _ _ _ _|exact stowagelaw13_awake.mono _|exact xml_Parse.mono _ _|exact xml_Print.mono _ _ _ _ _|exact LeO.refl _|exact LeO.none _|refine LeO.ite ?_ ?_|refine LeO.bind ?_ (fun _=>?_)
theorem stowagelaw13_XmlDepths.calls (k:Nat) (a0:Int) (a1:ByteArray) (r:Bool) (w:World) (hG:GOk w) (h:stowagelaw13_XmlDepths.f k a0 a1=some r) (hr:r=true) :
    Calls Tryd.prog 7 #[.int .i64 a0,.string a1] w fun e w'=>e = .returned (.bool r)∧Below w.heap.size w w':=by
 have hu24:=Tryd.underlying24
 have HB:=Aside0.mk (Below.refl w.heap.size w)
 unfold stowagelaw13_XmlDepths.f at h
 have H:=h
 clear h
 have HC3:=Aside0.mk H
 clear H
 go_enter Tryd.func7,Tryd.ntmps7
 go_upto_region 1 with(fail)
 go_cut [25] (fun v25 wc=>∃ (kq:Nat) (x25_2:Bool),v25 = .bool x25_2∧Aside0 (stowagelaw13_XmlDepths.j0 kq a0 a1 x25_2=some r)∧Aside0 (kq≤k)∧Aside0 (Below w.heap.size w wc))
 case first=>
  have H:=HC3.out
  clear HC3
  replace H:=itO H
  rcases H with⟨c4,H⟩|⟨c4,H⟩
  {
  have c4b0:decide (a0<1)=true:=decide_eq_true c4
  clear c4
  (first|rw [c4b0]|(simp only [i64_w,i32_w];rw [c4b0])|skip)
  have H':=Aside0.mk H
  clear H
  go_wp2
  go_meet
  case rel=>exact⟨_,(true),rs,H',⟨by first|omega|exact Nat.le_refl _⟩,⟨bl⟩⟩
  }
  {
  have c4b0:decide (a0<1)=false:=decide_eq_false c4
  clear c4
  (first|rw [c4b0]|(simp only [i64_w,i32_w];rw [c4b0])|skip)
  replace H:=itO H
  rcases H with⟨c5,H⟩|⟨c5,H⟩
  {
  have c5b0:decide (40<a0)=true:=decide_eq_true c5
  clear c5
  have H':=Aside0.mk H
  clear H
  go_wp2
  go_meet
  case rel=>exact⟨_,(true),rs,H',⟨by first|omega|exact Nat.le_refl _⟩,⟨bl⟩⟩
  }
  {
  have c5b0:decide (40<a0)=false:=decide_eq_false c5
  clear c5
  have H':=Aside0.mk H
  clear H
  go_wp2
  go_meet
  case rel=>exact⟨_,(decide ((a1.size:Int)>100)),rs,H',⟨by first|omega|exact Nat.le_refl _⟩,⟨bl⟩⟩
  }
  }
 case rest=>
  clear HC3
  obtain⟨kq,x25_2,rfl,HA,HJ2,HB⟩:=hcut
  cases kq with
  | zero=>exact absurd HA.out (by simp [stowagelaw13_XmlDepths.j0])
  | succ kj2=>
   have H:=HA.out
   clear HA
   simp only [stowagelaw13_XmlDepths.j0] at H
   by_cases c6:x25_2=true
   {
   subst c6
   replace H:=itT H
   replace H:=bndO H
   obtain⟨t389,A70,H⟩:=H
   have A7:=Aside0.mk A70
   clear A70
   clear hr
   obtain rfl:=Option.some.inj H
   go_wp2_with (first|((with_reducible refine gate_callee (f:=14) rfl ?_);refine goesL_ (some 26) rfl rfl Tryd.func14 kr rfl #[] rfl am ?_;(with_reducible refine(stowagelaw13_awake.calls kj2  t389 _ gk A7.out).mono ?_);rintro e w8 ⟨rfl,hb⟩;refine⟨_,rfl,?_⟩;have n0_:=Aside0.mk (below_step bl hb);clear HB;have HB:=n0_;clear n0_))
   go_ret
   exact⟨ew,bl⟩
   }
   {
   replace c6:=Bool.eq_false_iff.mpr c6
   subst c6
   replace H:=itF H
   replace H:=bndO H
   obtain⟨⟨t390,t391,t392⟩,A90,H⟩:=H
   dsimp only at H
   have A9:=Aside0.mk A90
   clear A90
   have H':=Aside0.mk H
   clear H
   go_wp2_with (first|((with_reducible refine gate_callee (f:=23) rfl ?_);refine goesL_ (some 28) rfl rfl Tryd.func23 kr rfl #[.string (⟨#[97]⟩ : ByteArray),.string a1] rfl am ?_;(with_reducible refine(xml_Of.calls (⟨#[97]⟩ : ByteArray) a1 t390 t391 t392 _ A9.out).mono ?_);rintro e w10 ⟨v393,rfl,ho0,hb⟩;refine⟨_,rfl,?_⟩;have n0_:=Aside0.mk (Kd.N_lower (Kd.N_mono (ok':=fun k_=>True) (Kd.R_N (Kd.R_bound ho0)) (fun k_ hk_=>trivial)) (below_size bl));have n1_:=Aside0.mk (below_step bl hb);clear HB;have HO394:=n0_;have HB:=n1_;clear n0_ n1_)|((with_reducible refine gate_dst (N:=5) rfl ?_);(try (refine gate_guard (by rfl) ?_;dsimp only));refine box_event ?hg (N:=5) ?hd (cs:=#[.string (⟨#[]⟩ : ByteArray),.string (⟨#[]⟩ : ByteArray),.slice none 0 0]) (t:=24) ?hr ?_;(case hd=>rfl);(case hg=>rfl);(case hr=>first|(go_simp;done)|(go_simp;rfl));intro gb395 hg w11 hbox hb;have n0_:=Aside0.mk (Kd.N_below (Kd.N_elderB (by(with_reducible repeat (first|apply Kd.N_alloc|apply Kd.N_drewN|apply Kd.N_drew));exact HO394.out) gb395 (Nat.le_of_eq hg.symm)) hb);have n1_:=Aside0.mk (below_step bl hb);have n2_:=Aside0.mk (hbox);have n3_:=Aside0.mk ((by rw [hg];exact(below_size bl):w.heap.size≤gb395));have n4_:=Aside0.mk ((by rw [hg];exact(below_size bl):w.heap.size≤gb395));clear HO394;clear HB;have HO394:=n0_;have HB:=n1_;have BK395:=n2_;have GW395:=n3_;have GE395:=n4_;clear n0_ n1_ n2_ n3_ n4_;clear hb hbox hg;obtain⟨_,_,_,_,_,_⟩:=bc3 BK395.out;obtain⟨Ao13,co13,eo13⟩:=Kd.N_slice HO394.out;subst eo13))
   go_loopg [6,7,8] kj2 (fun kq v6 v7 v8 w'=>∃ (x6_2:ByteArray) (x7_2:ByteArray) (x8_2:Int) (x396000_2:ByteArray) (x396001_2:ByteArray) (x396002_2:List (S24)) (u396002:Value),v6 = .string x6_2∧v7 = .string x7_2∧v8 = .int .i64 x8_2∧Aside0 (stowagelaw13_XmlDepths.l0 kq a0 x6_2 x7_2 x8_2 x396000_2 x396001_2 x396002_2=some r)∧Aside0 (kq≤kj2)∧Aside0 (Kd.N k24 24 w' w.heap.size (fun k_=>k_≠gb395) u396002 x396002_2)∧Aside0 (w'.heap[gb395]? = some (.cells #[.string x396000_2,.string x396001_2,u396002] 24 (0,0)))∧Aside0 (Below w.heap.size w w'))
   case atStart=>exact⟨((⟨#[60,97,62]⟩ : ByteArray)),((⟨#[60,47,97,62]⟩ : ByteArray)),(1),(t390),(t391),(t392),(.slice Ao13 t392.length co13),rs,rs,rs,H',⟨Nat.le_refl _⟩,⟨by(with_reducible repeat (first|apply Kd.N_alloc|apply Kd.N_drewN|apply Kd.N_drew));exact Kd.N_mono (Kd.N_far (p:=⟨gb395,2,none⟩) (Kd.N_far (p:=⟨gb395,1,none⟩) (Kd.N_far (p:=⟨gb395,0,none⟩) (Kd.N_mono HO394.out (fun k_ hk=>(⟨hk,hk.2⟩ : _∧k_≠gb395))) (fun _ hk=>hk.2) (.string t390)) (fun _ hk=>hk.2) (.string t391)) (fun _ hk=>hk.2) (.slice Ao13 t392.length co13)) (fun _ hk=>hk.1.2)⟩,⟨by(with_reducible repeat (first|refine blk_drewN ?_ _|refine blk_drew ?_|refine blk_alloc ?_ _));refine blk_put (cs:=#[.string t390,.string t391,.slice none 0 0]) ?_ 2 _ rfl;(with_reducible repeat (first|refine blk_drewN ?_ _|refine blk_drew ?_|refine blk_alloc ?_ _));refine blk_put (cs:=#[.string t390,.string (⟨#[]⟩ : ByteArray),.slice none 0 0]) ?_ 1 _ rfl;(with_reducible repeat (first|refine blk_drewN ?_ _|refine blk_drew ?_|refine blk_alloc ?_ _));refine blk_put (cs:=#[.string (⟨#[]⟩ : ByteArray),.string (⟨#[]⟩ : ByteArray),.slice none 0 0]) ?_ 0 _ rfl;(with_reducible repeat (first|refine blk_drewN ?_ _|refine blk_drew ?_|refine blk_alloc ?_ _));exact BK395.out⟩,⟨bl⟩⟩
   case round=>
    clear H'
    obtain⟨x6_2,x7_2,x8_2,x396000_2,x396001_2,x396002_2,u396002,rfl,rfl,rfl,HA,HK2,HO_396002,BK395,HB⟩:=hrel
    cases gk with
    | zero=>exact absurd HA.out (by simp [stowagelaw13_XmlDepths.l0])
    | succ k2=>
     have H:=HA.out
     clear HA
     simp only [stowagelaw13_XmlDepths.l0] at H
     replace H:=itO H
     rcases H with⟨c14,H⟩|⟨c14,H⟩
     {
     have c14b0:decide (x8_2<a0)=true:=decide_eq_true c14
     clear c14
     obtain⟨y396,hy396⟩ : ∃ y_:List (S24),y_=(([(⟨x396000_2,x396001_2,x396002_2⟩ : S24)]:List (S24))):=⟨_,rfl⟩
     replace H:(if x6_2.size+3≤9223372036854775807 then(if x7_2.size+4≤9223372036854775807 then(stowagelaw13_XmlDepths.l0 k2 a0 (x6_2++(⟨#[60,97,62]⟩ : ByteArray)) (x7_2++(⟨#[60,47,97,62]⟩ : ByteArray)) (wrap64 (x8_2+1)) (⟨#[97]⟩ : ByteArray) (⟨#[]⟩ : ByteArray) y396) else(none)) else(none))=some r:=by first|(rw [hy396];with_reducible exact H)|(have H2_:=(Option.bind_some _ _).symm.trans H;rw [hy396];with_reducible exact H2_)|(have H2_:=(Option.bind_some _ _).symm.trans H;with_reducible exact H2_)|with_reducible exact H|(rw [hy396];exact H)|exact H
     have Ny396:=Aside0.mk hy396
     clear hy396
     replace H:=itO H
     rcases H with⟨c15,H⟩|⟨c15,H⟩
     {
     have c15b0:=eq_true c15
     try have c15b2:=eq_false (Nat.not_lt.2 c15)
     try (have c15n:x6_2.size+3≤9223372036854775807:=by have h_:=c15;simp only [ByteArray.size_append,ByteArray.size_extract] at h_;exact h_)
     try have c15f:(9223372036854775807<x6_2.size+3)=False:=eq_false (by first|omega|(simp only [eq_iff_iff,iff_true] at *;omega))
     replace H:=itO H
     rcases H with⟨c16,H⟩|⟨c16,H⟩
     {
     have c16b0:=eq_true c16
     try have c16b2:=eq_false (Nat.not_lt.2 c16)
     try (have c16n:x7_2.size+4≤9223372036854775807:=by have h_:=c16;simp only [ByteArray.size_append,ByteArray.size_extract] at h_;exact h_)
     try have c16f:(9223372036854775807<x7_2.size+4)=False:=eq_false (by first|omega|(simp only [eq_iff_iff,iff_true] at *;omega))
     have H':=Aside0.mk H
     clear H
     obtain⟨_,_,_,_,_,_⟩:=bc3 BK395.out
     obtain⟨Ao18,co18,eo18⟩:=Kd.N_slice HO_396002.out
     subst eo18
     go_wp2_with (first|((with_reducible refine gate_dst (N:=35) rfl ?_);(try (refine gate_guard (by rfl) ?_;dsimp only));refine Kd.N_lit k24 _ 24 ?hg (N':=35) ?hd (xs:=([(⟨x396000_2,x396001_2,x396002_2⟩ : S24)]:List (S24))) (inner:=[.string x396000_2,.string x396001_2,.slice Ao18 x396002_2.length co18]) (ok:=(fun k_=>k_≠gb395)) (okp:=(fun k_=>k_≠gb395)) ?hr ?hp (fun _ hk=>hk) ((show ∀ k_,wr.heap.size≤k_→(fun k_=>k_≠gb395) k_ from fun k_ hk=>Kd.freshB (g:=gb395) (o:=.cells #[.string x396000_2,.string x396001_2,.slice Ao18 x396002_2.length co18] 24 (0,0)) kl k_ hk) _ (Nat.le_refl _)) (Below.refl _ _) (Nat.le_refl _) (by simp) ?_;(case hd=>rfl);(case hg=>rfl);(case hr=>first|(go_simp;done)|(go_simp;rfl));(case hp=>exact(Reps.c3 (show Kd.FK k24 _ _ (⟨x396000_2,x396001_2,x396002_2⟩ : S24) [.string x396000_2,.string x396001_2,.slice Ao18 x396002_2.length co18] from(k24_mkF _ _ (⟨x396000_2,x396001_2,x396002_2⟩ : S24) (Kd.N_reads' (Kd.N_mono (ok':=(fun k_=>k_≠gb395)) (HO_396002.out) (fun k_ hk=>hk))).2.1 (Kd.N_F (Kd.N_mono (ok':=(fun k_=>k_≠gb395)) (HO_396002.out) (fun k_ hk=>hk))))) (Reps.none _ _)));intro v397 w19 ho20 hb hg_ hnew_;clear hg_ hnew_;(first|rw [← Ny396.out] at ho20|(simp only [Int.reduceToNat] at ho20;rw [← Ny396.out] at ho20));have n0_:=Aside0.mk (Kd.N_lower ho20 (below_size bl));have n1_:=Aside0.mk (blk_below (g:=gb395) (o:=.cells #[.string x396000_2,.string x396001_2,.slice Ao18 x396002_2.length co18] 24 (0,0)) kl hb);have n2_:=Aside0.mk (below_step bl hb);clear BK395;clear HB;clear HO_396002;have HO398:=n0_;have BK395:=n1_;have HB:=n2_;clear n0_ n1_ n2_;clear hb ho20;obtain⟨Ao21,co21,eo21⟩:=Kd.N_slice HO398.out;subst eo21;obtain⟨_,_,_,_,_,_⟩:=bc3 BK395.out))
     go_roundg k2
     case measure=>have:=HJ2.out;have:=HK2.out;omega
     case rel=>exact⟨(x6_2++(⟨#[60,97,62]⟩ : ByteArray)),(x7_2++(⟨#[60,47,97,62]⟩ : ByteArray)),(wrap64 (x8_2+1)),((⟨#[97]⟩ : ByteArray)),((⟨#[]⟩ : ByteArray)),(y396),(.slice Ao21 y396.length co21),rs,rs,rs,H',⟨by have:=HJ2.out;have:=HK2.out;omega⟩,⟨by(with_reducible repeat (first|apply Kd.N_alloc|apply Kd.N_drewN|apply Kd.N_drew));exact Kd.N_mono (Kd.N_far (p:=⟨gb395,2,none⟩) (Kd.N_far (p:=⟨gb395,1,none⟩) (Kd.N_far (p:=⟨gb395,0,none⟩) (Kd.N_mono HO398.out (fun k_ hk=>(⟨hk,hk⟩ : _∧k_≠gb395))) (fun _ hk=>hk.2) (.string (⟨#[97]⟩ : ByteArray))) (fun _ hk=>hk.2) (.string (⟨#[]⟩ : ByteArray))) (fun _ hk=>hk.2) (.slice Ao21 y396.length co21)) (fun _ hk=>hk.1)⟩,⟨by(with_reducible repeat (first|refine blk_drewN ?_ _|refine blk_drew ?_|refine blk_alloc ?_ _));refine blk_put (cs:=#[.string (⟨#[97]⟩ : ByteArray),.string (⟨#[]⟩ : ByteArray),.slice Ao18 x396002_2.length co18]) ?_ 2 _ rfl;(with_reducible repeat (first|refine blk_drewN ?_ _|refine blk_drew ?_|refine blk_alloc ?_ _));refine blk_put (cs:=#[.string (⟨#[97]⟩ : ByteArray),.string x396001_2,.slice Ao18 x396002_2.length co18]) ?_ 1 _ rfl;(with_reducible repeat (first|refine blk_drewN ?_ _|refine blk_drew ?_|refine blk_alloc ?_ _));refine blk_put (cs:=#[.string x396000_2,.string x396001_2,.slice Ao18 x396002_2.length co18]) ?_ 0 _ rfl;(with_reducible repeat (first|refine blk_drewN ?_ _|refine blk_drew ?_|refine blk_alloc ?_ _));exact BK395.out⟩,⟨bl⟩⟩
     }
     ·exact absurd H (by simp)
     }
     ·exact absurd H (by simp)
     }
     {
     have c14b0:decide (x8_2<a0)=false:=decide_eq_false c14
     clear c14
     replace H:=itO H
     rcases H with⟨c23,H⟩|⟨c23,H⟩
     {
     have c23b0:=eq_true c23
     try have c23b2:=eq_false (Nat.not_lt.2 c23)
     try (have c23n:x6_2.size+x7_2.size≤9223372036854775807:=by have h_:=c23;simp only [ByteArray.size_append,ByteArray.size_extract] at h_;exact h_)
     try have c23f:(9223372036854775807<x6_2.size+x7_2.size)=False:=eq_false (by first|omega|(simp only [eq_iff_iff,iff_true] at *;omega))
     replace H:=bndO H
     obtain⟨⟨t399,t400,t401,t404⟩,A240,H⟩:=H
     dsimp only at H
     have A24:=Aside0.mk A240
     clear A240
     replace H:=bndO H
     obtain⟨⟨t406,t407⟩,A250,H⟩:=H
     dsimp only at H
     have A25:=Aside0.mk A250
     clear A250
     replace H:=itO H
     rcases H with⟨c26,H⟩|⟨c26,H⟩
     {
     have c26b0:((t404 == 0) != (decide (a0≤16)))=true:=c26
     (try (have c26b1:decide ((t404 == 0)=(decide (a0≤16)))=false:=by simpa using c26))
     (try (have c26b2:((t404 == 0) == (decide (a0≤16)))=false:=by simpa using c26))
     (try (have c26b3:¬ ((t404 == 0)=(decide (a0≤16))):=by simpa using c26))
     clear c26
     rw [hr] at H
     exact absurd H (by simp)
     }
     {
     have c26b0:((t404 == 0) != (decide (a0≤16)))=false:=by simpa using c26
     (try (have c26b1:decide ((t404 == 0)=(decide (a0≤16)))=true:=by simpa using c26))
     (try (have c26b2:((t404 == 0) == (decide (a0≤16)))=true:=by simpa using c26))
     clear c26
     replace H:=itO H
     rcases H with⟨c27,H⟩|⟨c27,H⟩
     {
     have c27b0:(t407 == 0)=true:=beq_iff_eq.mpr c27
     clear c27
     replace H:=bndO H
     obtain⟨⟨t408,t409,t410,t413⟩,A280,H⟩:=H
     dsimp only at H
     have A28:=Aside0.mk A280
     clear A280
     replace H:=itO H
     rcases H with⟨c29,H⟩|⟨c29,H⟩
     {
     have c29b0:decide (a0≤16)=true:=decide_eq_true c29
     have c29x:(t404 == 0)=true:=by have q_:=c26b0;rw [c29b0] at q_;simpa using q_
     clear c29
     replace H:=itO H
     rcases H with⟨c30,H⟩|⟨c30,H⟩
     {
     have c30b0:(t413 == 0)=true:=beq_iff_eq.mpr c30
     clear c30
     replace H:=bndO H
     obtain⟨t415,A310,H⟩:=H
     have A31:=Aside0.mk A310
     clear A310
     replace H:=itO H
     rcases H with⟨c32,H⟩|⟨c32,H⟩
     {
     have c32b0:(t415 == a0)=true:=beq_iff_eq.mpr c32
     clear c32
     replace H:=bndO H
     obtain⟨t416,A330,H⟩:=H
     have A33:=Aside0.mk A330
     clear A330
     clear hr
     obtain rfl:=Option.some.inj H
     go_wp2_with (first|((with_reducible refine gate_callee (f:=10) rfl ?_);refine goesL_ (some 45) rfl rfl Tryd.func10 kr rfl #[.string (x6_2++x7_2)] rfl am ?_;(with_reducible refine(xml_Parse.calls k2 (x6_2++x7_2) t399 t400 t401 t404 _ gk A24.out).mono ?_);rintro e w34 ⟨v402,rfl,ho0,hb⟩;refine⟨_,rfl,?_⟩;have n0_:=Aside0.mk (Kd.N_below (by(with_reducible repeat (first|apply Kd.N_alloc|apply Kd.N_drewN|apply Kd.N_drew));exact HO_396002.out) hb);have n1_:=Aside0.mk (Kd.V_lower (Kd.V_mono (ok':=fun k_=>some k_≠(u396002:Value).ownBlock∧k_≠gb395) ho0 (fun k_ hk_=>⟨(Kd.fresh' (Kd.N_lt (by(with_reducible repeat (first|apply Kd.N_alloc|apply Kd.N_drewN|apply Kd.N_drew));exact HO_396002.out)) k_ hk_),(Kd.freshB (g:=gb395) (o:=.cells #[.string x396000_2,.string x396001_2,u396002] 24 (0,0)) kl k_ hk_)⟩)) (below_size bl));have n2_:=Aside0.mk (blk_below (g:=gb395) (o:=.cells #[.string x396000_2,.string x396001_2,u396002] 24 (0,0)) kl hb);have n3_:=Aside0.mk (below_step bl hb);clear HO_396002;clear BK395;clear HB;have HO_396002:=n0_;have HO403:=n1_;have BK395:=n2_;have HB:=n3_;clear n0_ n1_ n2_ n3_)|((with_reducible refine gate_dst (N:=9) rfl ?_);(try (refine gate_guard (by rfl) ?_;dsimp only));refine box_event ?hg (N:=9) ?hd (cs:=#[.string (⟨#[]⟩ : ByteArray),.string (⟨#[]⟩ : ByteArray),.slice none 0 0]) (t:=24) ?hr ?_;(case hd=>rfl);(case hg=>rfl);(case hr=>first|(go_simp;done)|(go_simp;rfl));intro gb405 hg w35 hbox hb;have n0_:=Aside0.mk (Kd.N_below (Kd.N_elderB (by(with_reducible repeat (first|apply Kd.N_alloc|apply Kd.N_drewN|apply Kd.N_drew));exact HO_396002.out) gb405 (Nat.le_of_eq hg.symm)) hb);have n1_:=Aside0.mk (Kd.V_below (Kd.V_elderB (by(with_reducible repeat (first|apply Kd.V_alloc|apply Kd.V_drewN|apply Kd.V_drew));exact HO403.out) gb405 (Nat.le_of_eq hg.symm)) hb);have n2_:=Aside0.mk (blk_below (g:=gb395) (o:=.cells #[.string x396000_2,.string x396001_2,u396002] 24 (0,0)) kl hb);have n3_:=Aside0.mk (below_step bl hb);have n4_:=Aside0.mk (hbox);have n5_:=Aside0.mk ((by rw [hg];exact(below_size bl):w.heap.size≤gb405));have n6_:=Aside0.mk ((by rw [hg];exact(below_size bl):w.heap.size≤gb405));have n7_:=Aside0.mk ((by rw [hg];exact Nat.ne_of_lt (blk_lt (g:=gb395) (o:=.cells #[.string x396000_2,.string x396001_2,u396002] 24 (0,0)) kl):gb395≠gb405));have n8_:=Aside0.mk ((by rw [hg];exact Nat.ne_of_gt (blk_lt (g:=gb395) (o:=.cells #[.string x396000_2,.string x396001_2,u396002] 24 (0,0)) kl):gb405≠gb395));clear HO_396002;clear HO403;clear BK395;clear HB;have HO_396002:=n0_;have HO403:=n1_;have BK395:=n2_;have HB:=n3_;have BK405:=n4_;have GW405:=n5_;have GE405:=n6_;have NB395_405:=n7_;have NB405_395:=n8_;clear n0_ n1_ n2_ n3_ n4_ n5_ n6_ n7_ n8_;clear hb hbox hg;have hnb36:=NB405_395.out;have hnc36:=NB395_405.out;obtain⟨_,_,_,_,_,_⟩:=bc3 BK405.out;obtain⟨Ao38,co38,eo38⟩:=Kd.V_slice HO403.out;subst eo38;obtain⟨_,_,_,_,_,_⟩:=bc3 BK395.out;obtain⟨Ao40,co40,eo40⟩:=Kd.N_slice HO_396002.out;subst eo40)|((with_reducible refine gate_callee (f:=22) rfl ?_);refine goesL_ (some 50) rfl rfl Tryd.func22 kr rfl #[.agg #[.string x396000_2,.string x396001_2,.slice Ao40 x396002_2.length co40],.bool false] rfl am ?_;(with_reducible refine(xml_Print.calls k2 x396000_2 x396001_2 _ _ x396002_2 false t406 t407 _ ?side1 ?side2 A25.out).mono ?_);(case side1=>refine(Kd.N_reads' (e:=24) (base:=w.heap.size) (ok:=fun k_=>(k_≠gb395∧k_≠gb405)) (n:=x396002_2.length) (c:=co40) ?_).2.2;exact(by(with_reducible repeat (first|apply Kd.N_alloc|apply Kd.N_drewN|apply Kd.N_drew));exact(Kd.N_mono (Kd.N_far (p:=⟨gb405,2,none⟩) (Kd.N_far (p:=⟨gb405,1,none⟩) (Kd.N_far (p:=⟨gb405,0,none⟩) (Kd.N_mono HO_396002.out (fun k_ hk=>(⟨hk,hk.2⟩ : _∧k_≠gb405))) (fun _ hk=>hk.2) (.string t399)) (fun _ hk=>hk.2) (.string t400)) (fun _ hk=>hk.2) (.slice Ao38 t401.length co38)) (fun _ h_=>h_.1))));(case side2=>exact(Kd.N_reads' HO_396002.out).2.1);rintro e w41 ⟨rfl,hb⟩;refine⟨_,rfl,?_⟩;have n0_:=Aside0.mk (Kd.N_below (by(with_reducible repeat (first|apply Kd.N_alloc|apply Kd.N_drewN|apply Kd.N_drew));exact(Kd.N_mono (Kd.N_far (p:=⟨gb405,2,none⟩) (Kd.N_far (p:=⟨gb405,1,none⟩) (Kd.N_far (p:=⟨gb405,0,none⟩) (Kd.N_mono HO_396002.out (fun k_ hk=>(⟨hk,hk.2⟩ : _∧k_≠gb405))) (fun _ hk=>hk.2) (.string t399)) (fun _ hk=>hk.2) (.string t400)) (fun _ hk=>hk.2) (.slice Ao38 t401.length co38)) (fun _ h_=>h_.1))) hb);have n1_:=Aside0.mk (Kd.V_below (by(with_reducible repeat (first|apply Kd.V_alloc|apply Kd.V_drewN|apply Kd.V_drew));exact(Kd.V_mono (Kd.V_far (p:=⟨gb405,2,none⟩) (Kd.V_far (p:=⟨gb405,1,none⟩) (Kd.V_far (p:=⟨gb405,0,none⟩) (Kd.V_mono HO403.out (fun k_ hk=>(⟨hk,hk.2⟩ : _∧k_≠gb405))) (fun _ hk=>hk.2) (.string t399)) (fun _ hk=>hk.2) (.string t400)) (fun _ hk=>hk.2) (.slice Ao38 t401.length co38)) (fun _ h_=>h_.1))) hb);have n2_:=Aside0.mk (blk_below (g:=gb395) (o:=.cells #[.string x396000_2,.string x396001_2,.slice Ao40 x396002_2.length co40] 24 (0,0)) (by(with_reducible repeat (first|refine blk_drewN ?_ _|refine blk_drew ?_|refine blk_alloc ?_ _));refine blk_far ?_ NB395_405.out _;(with_reducible repeat (first|refine blk_drewN ?_ _|refine blk_drew ?_|refine blk_alloc ?_ _));refine blk_far ?_ NB395_405.out _;(with_reducible repeat (first|refine blk_drewN ?_ _|refine blk_drew ?_|refine blk_alloc ?_ _));refine blk_far ?_ NB395_405.out _;(with_reducible repeat (first|refine blk_drewN ?_ _|refine blk_drew ?_|refine blk_alloc ?_ _));exact BK395.out) hb);have n3_:=Aside0.mk (blk_below (g:=gb405) (o:=.cells #[.string t399,.string t400,.slice Ao38 t401.length co38] 24 (0,0)) (by(with_reducible repeat (first|refine blk_drewN ?_ _|refine blk_drew ?_|refine blk_alloc ?_ _));refine blk_put (cs:=#[.string t399,.string t400,.slice none 0 0]) ?_ 2 _ rfl;(with_reducible repeat (first|refine blk_drewN ?_ _|refine blk_drew ?_|refine blk_alloc ?_ _));refine blk_put (cs:=#[.string t399,.string (⟨#[]⟩ : ByteArray),.slice none 0 0]) ?_ 1 _ rfl;(with_reducible repeat (first|refine blk_drewN ?_ _|refine blk_drew ?_|refine blk_alloc ?_ _));refine blk_put (cs:=#[.string (⟨#[]⟩ : ByteArray),.string (⟨#[]⟩ : ByteArray),.slice none 0 0]) ?_ 0 _ rfl;(with_reducible repeat (first|refine blk_drewN ?_ _|refine blk_drew ?_|refine blk_alloc ?_ _));exact BK405.out) hb);have n4_:=Aside0.mk (below_step bl hb);clear HO_396002;clear HO403;clear BK395;clear BK405;clear HB;have HO_396002:=n0_;have HO403:=n1_;have BK395:=n2_;have BK405:=n3_;have HB:=n4_;clear n0_ n1_ n2_ n3_ n4_)|((with_reducible refine gate_callee (f:=10) rfl ?_);refine goesL_ (some 71) rfl rfl Tryd.func10 kr rfl #[.string t406] rfl am ?_;(with_reducible refine(xml_Parse.calls k2 t406 t408 t409 t410 t413 _ gk A28.out).mono ?_);rintro e w42 ⟨v411,rfl,ho0,hb⟩;refine⟨_,rfl,?_⟩;have n0_:=Aside0.mk (Kd.N_below (by(with_reducible repeat (first|apply Kd.N_alloc|apply Kd.N_drewN|apply Kd.N_drew));exact HO_396002.out) hb);have n1_:=Aside0.mk (Kd.V_below (by(with_reducible repeat (first|apply Kd.V_alloc|apply Kd.V_drewN|apply Kd.V_drew));exact HO403.out) hb);have n2_:=Aside0.mk (Kd.V_lower (Kd.V_mono (ok':=fun k_=>some k_≠(.slice Ao40 x396002_2.length co40:Value).ownBlock∧k_≠gb395∧k_≠gb405) ho0 (fun k_ hk_=>⟨(Kd.fresh' (Kd.N_lt (by(with_reducible repeat (first|apply Kd.N_alloc|apply Kd.N_drewN|apply Kd.N_drew));exact HO_396002.out)) k_ hk_),(Kd.freshB (g:=gb395) (o:=.cells #[.string x396000_2,.string x396001_2,.slice Ao40 x396002_2.length co40] 24 (0,0)) kl k_ hk_),(Kd.freshB (g:=gb405) (o:=.cells #[.string t399,.string t400,.slice Ao38 t401.length co38] 24 (0,0)) kl k_ hk_)⟩)) (below_size bl));have n3_:=Aside0.mk (blk_below (g:=gb395) (o:=.cells #[.string x396000_2,.string x396001_2,.slice Ao40 x396002_2.length co40] 24 (0,0)) kl hb);have n4_:=Aside0.mk (blk_below (g:=gb405) (o:=.cells #[.string t399,.string t400,.slice Ao38 t401.length co38] 24 (0,0)) kl hb);have n5_:=Aside0.mk (below_step bl hb);clear HO_396002;clear HO403;clear BK395;clear BK405;clear HB;have HO_396002:=n0_;have HO403:=n1_;have HO412:=n2_;have BK395:=n3_;have BK405:=n4_;have HB:=n5_;clear n0_ n1_ n2_ n3_ n4_ n5_)|((with_reducible refine gate_dst (N:=13) rfl ?_);(try (refine gate_guard (by rfl) ?_;dsimp only));refine box_event ?hg (N:=13) ?hd (cs:=#[.string (⟨#[]⟩ : ByteArray),.string (⟨#[]⟩ : ByteArray),.slice none 0 0]) (t:=24) ?hr ?_;(case hd=>rfl);(case hg=>rfl);(case hr=>first|(go_simp;done)|(go_simp;rfl));intro gb414 hg w43 hbox hb;have n0_:=Aside0.mk (Kd.N_below (Kd.N_elderB (by(with_reducible repeat (first|apply Kd.N_alloc|apply Kd.N_drewN|apply Kd.N_drew));exact HO_396002.out) gb414 (Nat.le_of_eq hg.symm)) hb);have n1_:=Aside0.mk (Kd.V_below (Kd.V_elderB (by(with_reducible repeat (first|apply Kd.V_alloc|apply Kd.V_drewN|apply Kd.V_drew));exact HO403.out) gb414 (Nat.le_of_eq hg.symm)) hb);have n2_:=Aside0.mk (Kd.V_below (Kd.V_elderB (by(with_reducible repeat (first|apply Kd.V_alloc|apply Kd.V_drewN|apply Kd.V_drew));exact HO412.out) gb414 (Nat.le_of_eq hg.symm)) hb);have n3_:=Aside0.mk (blk_below (g:=gb395) (o:=.cells #[.string x396000_2,.string x396001_2,.slice Ao40 x396002_2.length co40] 24 (0,0)) kl hb);have n4_:=Aside0.mk (blk_below (g:=gb405) (o:=.cells #[.string t399,.string t400,.slice Ao38 t401.length co38] 24 (0,0)) kl hb);have n5_:=Aside0.mk (below_step bl hb);have n6_:=Aside0.mk (hbox);have n7_:=Aside0.mk ((by rw [hg];exact(below_size bl):w.heap.size≤gb414));have n8_:=Aside0.mk ((by rw [hg];exact(below_size bl):w.heap.size≤gb414));have n9_:=Aside0.mk ((by rw [hg];exact Nat.ne_of_lt (blk_lt (g:=gb395) (o:=.cells #[.string x396000_2,.string x396001_2,.slice Ao40 x396002_2.length co40] 24 (0,0)) kl):gb395≠gb414));have n10_:=Aside0.mk ((by rw [hg];exact Nat.ne_of_gt (blk_lt (g:=gb395) (o:=.cells #[.string x396000_2,.string x396001_2,.slice Ao40 x396002_2.length co40] 24 (0,0)) kl):gb414≠gb395));have n11_:=Aside0.mk ((by rw [hg];exact Nat.ne_of_lt (blk_lt (g:=gb405) (o:=.cells #[.string t399,.string t400,.slice Ao38 t401.length co38] 24 (0,0)) kl):gb405≠gb414));have n12_:=Aside0.mk ((by rw [hg];exact Nat.ne_of_gt (blk_lt (g:=gb405) (o:=.cells #[.string t399,.string t400,.slice Ao38 t401.length co38] 24 (0,0)) kl):gb414≠gb405));clear HO_396002;clear HO403;clear HO412;clear BK395;clear BK405;clear HB;have HO_396002:=n0_;have HO403:=n1_;have HO412:=n2_;have BK395:=n3_;have BK405:=n4_;have HB:=n5_;have BK414:=n6_;have GW414:=n7_;have GE414:=n8_;have NB395_414:=n9_;have NB414_395:=n10_;have NB405_414:=n11_;have NB414_405:=n12_;clear n0_ n1_ n2_ n3_ n4_ n5_ n6_ n7_ n8_ n9_ n10_ n11_ n12_;clear hb hbox hg;have hnb44:=NB414_395.out;have hnc44:=NB395_414.out;have hnb45:=NB414_405.out;have hnc45:=NB405_414.out;obtain⟨_,_,_,_,_,_⟩:=bc3 BK414.out;obtain⟨Ao47,co47,eo47⟩:=Kd.V_slice HO412.out;subst eo47)|(go_at_call 21;(with_reducible refine(stowagelaw13_Deep.calls k2 t408 t409 _ _ t410 40 t415 _ ?side1 ?side2 A31.out).mono ?_);(case side1=>refine(Kd.V_reads' (e:=24) (base:=w.heap.size) (ok:=fun k_=>((some k_≠(.slice Ao40 x396002_2.length co40:Value).ownBlock∧(k_≠gb395∧k_≠gb405))∧k_≠gb414)) (n:=t410.length) (c:=co47) ?_).2.2;exact(by(with_reducible repeat (first|apply Kd.V_alloc|apply Kd.V_drewN|apply Kd.V_drew));exact(Kd.V_mono (Kd.V_far (p:=⟨gb414,2,none⟩) (Kd.V_far (p:=⟨gb414,1,none⟩) (Kd.V_far (p:=⟨gb414,0,none⟩) (Kd.V_mono HO412.out (fun k_ hk=>(⟨hk,hk.2⟩ : _∧k_≠gb414))) (fun _ hk=>hk.2) (.string t408)) (fun _ hk=>hk.2) (.string t409)) (fun _ hk=>hk.2) (.slice Ao47 t410.length co47)) (fun _ h_=>h_.1))));(case side2=>exact(Kd.V_reads' HO412.out).2.1);rintro e w48 ⟨rfl,hb⟩;have n0_:=Aside0.mk (Kd.N_below (by(with_reducible repeat (first|apply Kd.N_alloc|apply Kd.N_drewN|apply Kd.N_drew));exact(Kd.N_mono (Kd.N_far (p:=⟨gb414,2,none⟩) (Kd.N_far (p:=⟨gb414,1,none⟩) (Kd.N_far (p:=⟨gb414,0,none⟩) (Kd.N_mono HO_396002.out (fun k_ hk=>(⟨hk,hk.2⟩ : _∧k_≠gb414))) (fun _ hk=>hk.2) (.string t408)) (fun _ hk=>hk.2) (.string t409)) (fun _ hk=>hk.2) (.slice Ao47 t410.length co47)) (fun _ h_=>h_.1))) hb);have n1_:=Aside0.mk (Kd.V_below (by(with_reducible repeat (first|apply Kd.V_alloc|apply Kd.V_drewN|apply Kd.V_drew));exact(Kd.V_mono (Kd.V_far (p:=⟨gb414,2,none⟩) (Kd.V_far (p:=⟨gb414,1,none⟩) (Kd.V_far (p:=⟨gb414,0,none⟩) (Kd.V_mono HO403.out (fun k_ hk=>(⟨hk,hk.2⟩ : _∧k_≠gb414))) (fun _ hk=>hk.2) (.string t408)) (fun _ hk=>hk.2) (.string t409)) (fun _ hk=>hk.2) (.slice Ao47 t410.length co47)) (fun _ h_=>h_.1))) hb);have n2_:=Aside0.mk (Kd.V_below (by(with_reducible repeat (first|apply Kd.V_alloc|apply Kd.V_drewN|apply Kd.V_drew));exact(Kd.V_mono (Kd.V_far (p:=⟨gb414,2,none⟩) (Kd.V_far (p:=⟨gb414,1,none⟩) (Kd.V_far (p:=⟨gb414,0,none⟩) (Kd.V_mono HO412.out (fun k_ hk=>(⟨hk,hk.2⟩ : _∧k_≠gb414))) (fun _ hk=>hk.2) (.string t408)) (fun _ hk=>hk.2) (.string t409)) (fun _ hk=>hk.2) (.slice Ao47 t410.length co47)) (fun _ h_=>h_.1))) hb);have n3_:=Aside0.mk (blk_below (g:=gb395) (o:=.cells #[.string x396000_2,.string x396001_2,.slice Ao40 x396002_2.length co40] 24 (0,0)) (by(with_reducible repeat (first|refine blk_drewN ?_ _|refine blk_drew ?_|refine blk_alloc ?_ _));refine blk_far ?_ NB395_414.out _;(with_reducible repeat (first|refine blk_drewN ?_ _|refine blk_drew ?_|refine blk_alloc ?_ _));refine blk_far ?_ NB395_414.out _;(with_reducible repeat (first|refine blk_drewN ?_ _|refine blk_drew ?_|refine blk_alloc ?_ _));refine blk_far ?_ NB395_414.out _;(with_reducible repeat (first|refine blk_drewN ?_ _|refine blk_drew ?_|refine blk_alloc ?_ _));exact BK395.out) hb);have n4_:=Aside0.mk (blk_below (g:=gb405) (o:=.cells #[.string t399,.string t400,.slice Ao38 t401.length co38] 24 (0,0)) (by(with_reducible repeat (first|refine blk_drewN ?_ _|refine blk_drew ?_|refine blk_alloc ?_ _));refine blk_far ?_ NB405_414.out _;(with_reducible repeat (first|refine blk_drewN ?_ _|refine blk_drew ?_|refine blk_alloc ?_ _));refine blk_far ?_ NB405_414.out _;(with_reducible repeat (first|refine blk_drewN ?_ _|refine blk_drew ?_|refine blk_alloc ?_ _));refine blk_far ?_ NB405_414.out _;(with_reducible repeat (first|refine blk_drewN ?_ _|refine blk_drew ?_|refine blk_alloc ?_ _));exact BK405.out) hb);have n5_:=Aside0.mk (blk_below (g:=gb414) (o:=.cells #[.string t408,.string t409,.slice Ao47 t410.length co47] 24 (0,0)) (by(with_reducible repeat (first|refine blk_drewN ?_ _|refine blk_drew ?_|refine blk_alloc ?_ _));refine blk_put (cs:=#[.string t408,.string t409,.slice none 0 0]) ?_ 2 _ rfl;(with_reducible repeat (first|refine blk_drewN ?_ _|refine blk_drew ?_|refine blk_alloc ?_ _));refine blk_put (cs:=#[.string t408,.string (⟨#[]⟩ : ByteArray),.slice none 0 0]) ?_ 1 _ rfl;(with_reducible repeat (first|refine blk_drewN ?_ _|refine blk_drew ?_|refine blk_alloc ?_ _));refine blk_put (cs:=#[.string (⟨#[]⟩ : ByteArray),.string (⟨#[]⟩ : ByteArray),.slice none 0 0]) ?_ 0 _ rfl;(with_reducible repeat (first|refine blk_drewN ?_ _|refine blk_drew ?_|refine blk_alloc ?_ _));exact BK414.out) hb);have n6_:=Aside0.mk (below_step bl hb);clear HO_396002;clear HO403;clear HO412;clear BK395;clear BK405;clear BK414;clear HB;have HO_396002:=n0_;have HO403:=n1_;have HO412:=n2_;have BK395:=n3_;have BK405:=n4_;have BK414:=n5_;have HB:=n6_;clear n0_ n1_ n2_ n3_ n4_ n5_ n6_)|(go_at_call 14;(with_reducible refine(stowagelaw13_awake.calls k2  t416 _ gk A33.out).mono ?_);rintro e w49 ⟨rfl,hb⟩;have n0_:=Aside0.mk (Kd.N_below (by(with_reducible repeat (first|apply Kd.N_alloc|apply Kd.N_drewN|apply Kd.N_drew));exact HO_396002.out) hb);have n1_:=Aside0.mk (Kd.V_below (by(with_reducible repeat (first|apply Kd.V_alloc|apply Kd.V_drewN|apply Kd.V_drew));exact HO403.out) hb);have n2_:=Aside0.mk (Kd.V_below (by(with_reducible repeat (first|apply Kd.V_alloc|apply Kd.V_drewN|apply Kd.V_drew));exact HO412.out) hb);have n3_:=Aside0.mk (blk_below (g:=gb395) (o:=.cells #[.string x396000_2,.string x396001_2,.slice Ao40 x396002_2.length co40] 24 (0,0)) kl hb);have n4_:=Aside0.mk (blk_below (g:=gb405) (o:=.cells #[.string t399,.string t400,.slice Ao38 t401.length co38] 24 (0,0)) kl hb);have n5_:=Aside0.mk (blk_below (g:=gb414) (o:=.cells #[.string t408,.string t409,.slice Ao47 t410.length co47] 24 (0,0)) kl hb);have n6_:=Aside0.mk (below_step bl hb);clear HO_396002;clear HO403;clear HO412;clear BK395;clear BK405;clear BK414;clear HB;have HO_396002:=n0_;have HO403:=n1_;have HO412:=n2_;have BK395:=n3_;have BK405:=n4_;have BK414:=n5_;have HB:=n6_;clear n0_ n1_ n2_ n3_ n4_ n5_ n6_))
     go_ret
     exact⟨ew,bl⟩
     }
     {
     have c32b0:(t415 == a0)=false:=beq_eq_false_iff_ne.mpr c32
     rw [hr] at H
     exact absurd H (by simp)
     }
     }
     {
     have c30b0:(t413 == 0)=false:=beq_eq_false_iff_ne.mpr c30
     rw [hr] at H
     exact absurd H (by simp)
     }
     }
     {
     have c29b0:decide (a0≤16)=false:=decide_eq_false c29
     clear c29
     rw [hr] at H
     exact absurd H (by simp)
     }
     }
     {
     have c27b0:(t407 == 0)=false:=beq_eq_false_iff_ne.mpr c27
     replace H:=itO H
     rcases H with⟨c50,H⟩|⟨c50,H⟩
     {
     have c50b0:(t407 == 130)=true:=beq_iff_eq.mpr c50
     clear c50
     replace H:=itO H
     rcases H with⟨c51,H⟩|⟨c51,H⟩
     {
     have c51b0:(t406.toList == ([]:List UInt8))=true:=beq_iff_eq.mpr c51
     clear c51
     replace H:=bndO H
     obtain⟨t417,A520,H⟩:=H
     have A52:=Aside0.mk A520
     clear A520
     clear hr
     obtain rfl:=Option.some.inj H
     go_wp2_with (first|((with_reducible refine gate_callee (f:=10) rfl ?_);refine goesL_ (some 45) rfl rfl Tryd.func10 kr rfl #[.string (x6_2++x7_2)] rfl am ?_;(with_reducible refine(xml_Parse.calls k2 (x6_2++x7_2) t399 t400 t401 t404 _ gk A24.out).mono ?_);rintro e w53 ⟨v402,rfl,ho0,hb⟩;refine⟨_,rfl,?_⟩;have n0_:=Aside0.mk (Kd.N_below (by(with_reducible repeat (first|apply Kd.N_alloc|apply Kd.N_drewN|apply Kd.N_drew));exact HO_396002.out) hb);have n1_:=Aside0.mk (Kd.V_lower (Kd.V_mono (ok':=fun k_=>some k_≠(u396002:Value).ownBlock∧k_≠gb395) ho0 (fun k_ hk_=>⟨(Kd.fresh' (Kd.N_lt (by(with_reducible repeat (first|apply Kd.N_alloc|apply Kd.N_drewN|apply Kd.N_drew));exact HO_396002.out)) k_ hk_),(Kd.freshB (g:=gb395) (o:=.cells #[.string x396000_2,.string x396001_2,u396002] 24 (0,0)) kl k_ hk_)⟩)) (below_size bl));have n2_:=Aside0.mk (blk_below (g:=gb395) (o:=.cells #[.string x396000_2,.string x396001_2,u396002] 24 (0,0)) kl hb);have n3_:=Aside0.mk (below_step bl hb);clear HO_396002;clear BK395;clear HB;have HO_396002:=n0_;have HO403:=n1_;have BK395:=n2_;have HB:=n3_;clear n0_ n1_ n2_ n3_)|((with_reducible refine gate_dst (N:=9) rfl ?_);(try (refine gate_guard (by rfl) ?_;dsimp only));refine box_event ?hg (N:=9) ?hd (cs:=#[.string (⟨#[]⟩ : ByteArray),.string (⟨#[]⟩ : ByteArray),.slice none 0 0]) (t:=24) ?hr ?_;(case hd=>rfl);(case hg=>rfl);(case hr=>first|(go_simp;done)|(go_simp;rfl));intro gb405 hg w54 hbox hb;have n0_:=Aside0.mk (Kd.N_below (Kd.N_elderB (by(with_reducible repeat (first|apply Kd.N_alloc|apply Kd.N_drewN|apply Kd.N_drew));exact HO_396002.out) gb405 (Nat.le_of_eq hg.symm)) hb);have n1_:=Aside0.mk (Kd.V_below (Kd.V_elderB (by(with_reducible repeat (first|apply Kd.V_alloc|apply Kd.V_drewN|apply Kd.V_drew));exact HO403.out) gb405 (Nat.le_of_eq hg.symm)) hb);have n2_:=Aside0.mk (blk_below (g:=gb395) (o:=.cells #[.string x396000_2,.string x396001_2,u396002] 24 (0,0)) kl hb);have n3_:=Aside0.mk (below_step bl hb);have n4_:=Aside0.mk (hbox);have n5_:=Aside0.mk ((by rw [hg];exact(below_size bl):w.heap.size≤gb405));have n6_:=Aside0.mk ((by rw [hg];exact(below_size bl):w.heap.size≤gb405));have n7_:=Aside0.mk ((by rw [hg];exact Nat.ne_of_lt (blk_lt (g:=gb395) (o:=.cells #[.string x396000_2,.string x396001_2,u396002] 24 (0,0)) kl):gb395≠gb405));have n8_:=Aside0.mk ((by rw [hg];exact Nat.ne_of_gt (blk_lt (g:=gb395) (o:=.cells #[.string x396000_2,.string x396001_2,u396002] 24 (0,0)) kl):gb405≠gb395));clear HO_396002;clear HO403;clear BK395;clear HB;have HO_396002:=n0_;have HO403:=n1_;have BK395:=n2_;have HB:=n3_;have BK405:=n4_;have GW405:=n5_;have GE405:=n6_;have NB395_405:=n7_;have NB405_395:=n8_;clear n0_ n1_ n2_ n3_ n4_ n5_ n6_ n7_ n8_;clear hb hbox hg;have hnb55:=NB405_395.out;have hnc55:=NB395_405.out;obtain⟨_,_,_,_,_,_⟩:=bc3 BK405.out;obtain⟨Ao57,co57,eo57⟩:=Kd.V_slice HO403.out;subst eo57;obtain⟨_,_,_,_,_,_⟩:=bc3 BK395.out;obtain⟨Ao59,co59,eo59⟩:=Kd.N_slice HO_396002.out;subst eo59)|((with_reducible refine gate_callee (f:=22) rfl ?_);refine goesL_ (some 50) rfl rfl Tryd.func22 kr rfl #[.agg #[.string x396000_2,.string x396001_2,.slice Ao59 x396002_2.length co59],.bool false] rfl am ?_;(with_reducible refine(xml_Print.calls k2 x396000_2 x396001_2 _ _ x396002_2 false t406 t407 _ ?side1 ?side2 A25.out).mono ?_);(case side1=>refine(Kd.N_reads' (e:=24) (base:=w.heap.size) (ok:=fun k_=>(k_≠gb395∧k_≠gb405)) (n:=x396002_2.length) (c:=co59) ?_).2.2;exact(by(with_reducible repeat (first|apply Kd.N_alloc|apply Kd.N_drewN|apply Kd.N_drew));exact(Kd.N_mono (Kd.N_far (p:=⟨gb405,2,none⟩) (Kd.N_far (p:=⟨gb405,1,none⟩) (Kd.N_far (p:=⟨gb405,0,none⟩) (Kd.N_mono HO_396002.out (fun k_ hk=>(⟨hk,hk.2⟩ : _∧k_≠gb405))) (fun _ hk=>hk.2) (.string t399)) (fun _ hk=>hk.2) (.string t400)) (fun _ hk=>hk.2) (.slice Ao57 t401.length co57)) (fun _ h_=>h_.1))));(case side2=>exact(Kd.N_reads' HO_396002.out).2.1);rintro e w60 ⟨rfl,hb⟩;refine⟨_,rfl,?_⟩;have n0_:=Aside0.mk (Kd.N_below (by(with_reducible repeat (first|apply Kd.N_alloc|apply Kd.N_drewN|apply Kd.N_drew));exact(Kd.N_mono (Kd.N_far (p:=⟨gb405,2,none⟩) (Kd.N_far (p:=⟨gb405,1,none⟩) (Kd.N_far (p:=⟨gb405,0,none⟩) (Kd.N_mono HO_396002.out (fun k_ hk=>(⟨hk,hk.2⟩ : _∧k_≠gb405))) (fun _ hk=>hk.2) (.string t399)) (fun _ hk=>hk.2) (.string t400)) (fun _ hk=>hk.2) (.slice Ao57 t401.length co57)) (fun _ h_=>h_.1))) hb);have n1_:=Aside0.mk (Kd.V_below (by(with_reducible repeat (first|apply Kd.V_alloc|apply Kd.V_drewN|apply Kd.V_drew));exact(Kd.V_mono (Kd.V_far (p:=⟨gb405,2,none⟩) (Kd.V_far (p:=⟨gb405,1,none⟩) (Kd.V_far (p:=⟨gb405,0,none⟩) (Kd.V_mono HO403.out (fun k_ hk=>(⟨hk,hk.2⟩ : _∧k_≠gb405))) (fun _ hk=>hk.2) (.string t399)) (fun _ hk=>hk.2) (.string t400)) (fun _ hk=>hk.2) (.slice Ao57 t401.length co57)) (fun _ h_=>h_.1))) hb);have n2_:=Aside0.mk (blk_below (g:=gb395) (o:=.cells #[.string x396000_2,.string x396001_2,.slice Ao59 x396002_2.length co59] 24 (0,0)) (by(with_reducible repeat (first|refine blk_drewN ?_ _|refine blk_drew ?_|refine blk_alloc ?_ _));refine blk_far ?_ NB395_405.out _;(with_reducible repeat (first|refine blk_drewN ?_ _|refine blk_drew ?_|refine blk_alloc ?_ _));refine blk_far ?_ NB395_405.out _;(with_reducible repeat (first|refine blk_drewN ?_ _|refine blk_drew ?_|refine blk_alloc ?_ _));refine blk_far ?_ NB395_405.out _;(with_reducible repeat (first|refine blk_drewN ?_ _|refine blk_drew ?_|refine blk_alloc ?_ _));exact BK395.out) hb);have n3_:=Aside0.mk (blk_below (g:=gb405) (o:=.cells #[.string t399,.string t400,.slice Ao57 t401.length co57] 24 (0,0)) (by(with_reducible repeat (first|refine blk_drewN ?_ _|refine blk_drew ?_|refine blk_alloc ?_ _));refine blk_put (cs:=#[.string t399,.string t400,.slice none 0 0]) ?_ 2 _ rfl;(with_reducible repeat (first|refine blk_drewN ?_ _|refine blk_drew ?_|refine blk_alloc ?_ _));refine blk_put (cs:=#[.string t399,.string (⟨#[]⟩ : ByteArray),.slice none 0 0]) ?_ 1 _ rfl;(with_reducible repeat (first|refine blk_drewN ?_ _|refine blk_drew ?_|refine blk_alloc ?_ _));refine blk_put (cs:=#[.string (⟨#[]⟩ : ByteArray),.string (⟨#[]⟩ : ByteArray),.slice none 0 0]) ?_ 0 _ rfl;(with_reducible repeat (first|refine blk_drewN ?_ _|refine blk_drew ?_|refine blk_alloc ?_ _));exact BK405.out) hb);have n4_:=Aside0.mk (below_step bl hb);clear HO_396002;clear HO403;clear BK395;clear BK405;clear HB;have HO_396002:=n0_;have HO403:=n1_;have BK395:=n2_;have BK405:=n3_;have HB:=n4_;clear n0_ n1_ n2_ n3_ n4_)|(go_at_call 14;(with_reducible refine(stowagelaw13_awake.calls k2  t417 _ gk A52.out).mono ?_);rintro e w61 ⟨rfl,hb⟩;have n0_:=Aside0.mk (Kd.N_below (by(with_reducible repeat (first|apply Kd.N_alloc|apply Kd.N_drewN|apply Kd.N_drew));exact HO_396002.out) hb);have n1_:=Aside0.mk (Kd.V_below (by(with_reducible repeat (first|apply Kd.V_alloc|apply Kd.V_drewN|apply Kd.V_drew));exact HO403.out) hb);have n2_:=Aside0.mk (blk_below (g:=gb395) (o:=.cells #[.string x396000_2,.string x396001_2,.slice Ao59 x396002_2.length co59] 24 (0,0)) kl hb);have n3_:=Aside0.mk (blk_below (g:=gb405) (o:=.cells #[.string t399,.string t400,.slice Ao57 t401.length co57] 24 (0,0)) kl hb);have n4_:=Aside0.mk (below_step bl hb);clear HO_396002;clear HO403;clear BK395;clear BK405;clear HB;have HO_396002:=n0_;have HO403:=n1_;have BK395:=n2_;have BK405:=n3_;have HB:=n4_;clear n0_ n1_ n2_ n3_ n4_))
     go_ret
     exact⟨ew,bl⟩
     }
     {
     have c51b0:(t406.toList == ([]:List UInt8))=false:=beq_eq_false_iff_ne.mpr c51
     rw [hr] at H
     exact absurd H (by simp)
     }
     }
     {
     have c50b0:(t407 == 130)=false:=beq_eq_false_iff_ne.mpr c50
     rw [hr] at H
     exact absurd H (by simp)
     }
     }
     }
     }
     ·exact absurd H (by simp)
     }
   }
def stowagelaw13_XmlDepths.Pure:Prop:=∀ (a0:Int) (a1:ByteArray),(Lit.int .i64 a0).wf=true→a1.size≤140737488351232 → ∃ k,stowagelaw13_XmlDepths.f k a0 a1=some true
theorem stowagelaw13_XmlDepths.walk (P:stowagelaw13_XmlDepths.Pure) (a0:Int) (a1:ByteArray) (w:World) (w0:(Lit.int .i64 a0).wf=true) (w1:a1.size≤140737488351232) (hG:GOk w) :
    Calls Tryd.prog 7 #[.int .i64 a0,.string a1] w fun e w'=>e = .returned (.bool true)∧Below w.heap.size w w':=by
 obtain⟨k,h⟩:=P a0 a1 w0 w1
 refine(stowagelaw13_XmlDepths.calls k a0 a1 true w hG h rfl).mono ?_
 rintro e w' ⟨rfl,hd⟩
 exact⟨rfl,hd⟩
end Go.Proofs.YtklcgncaclggcaaDoor.Q
