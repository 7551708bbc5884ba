/- A part of the proof of the seat's laws. No condition beyond those in the theorems. -/
import Derived.Test.YtklcgncaclggcaaDoorZBase
import Derived.WalkMore
import Derived.Test.YtklcgncaclggcaaDoorZQ51
import Derived.Test.YtklcgncaclggcaaDoorZQ0g18
import Derived.Test.YtklcgncaclggcaaDoorZQ45g11
import Derived.Test.YtklcgncaclggcaaDoorZQ31
import Derived.Test.YtklcgncaclggcaaDoorZQ59g2
import Derived.Test.YtklcgncaclggcaaDoorZQ52
import Derived.Test.YtklcgncaclggcaaDoorZSqzB

namespace Go.Proofs.YtklcgncaclggcaaDoor.Q
open Go.RowKit Go.Proofs.YtklcgncaclggcaaDoorW.PrintWords Go.Proofs.YtklcgncaclggcaaDoorW.PrintLast Go.Proofs.YtklcgncaclggcaaDoorW.PrintMore
set_option linter.unusedVariables false
set_option linter.unusedSimpArgs false
set_option maxHeartbeats 8000000
set_option maxRecDepth 100000
attribute [local go_sem] max2_int min2_int max_two min_two max_three min_three max_four min_four   
def xml_Parse.f (k:Nat) (s:ByteArray):Option (ByteArray×ByteArray×List S24×Int):=(if(65536:Int)<(s.size:Int) then some (⟨#[]⟩,⟨#[]⟩,[],2) else((chars_Legal.f s).bind fun lg=>(if lg=true then((xml_reader_begin.f s 0).bind fun b=>(if b.1=true then((xml_reader_space.f k b.2.1 b.2.2).bind fun a=>(xml_el.f k a.2.1 a.2.2 1).bind fun e=>(xml_reader_space.f k e.2.2.1 e.2.2.2).bind fun z=>(if e.2.1=true then(if z.2.2=(s.size:Int) then some (e.1.f0,e.1.f1,e.1.f2,0) else some (⟨#[]⟩,⟨#[]⟩,[],130)) else some (⟨#[]⟩,⟨#[]⟩,[],130))) else some (⟨#[]⟩,⟨#[]⟩,[],130))) else some (⟨#[]⟩,⟨#[]⟩,[],130))))
theorem xml_el.at_mono:∀ k s p,LeO (xml_el.at_ k s p) (xml_el.at_ (k+1) s p)
 | 0=>fun _ _ r h=>by simp [xml_el.at_] at h
 | k+1=>by
  have ih:=xml_el.at_mono k
  intro s p
  unfold xml_el.at_
  with_reducible repeat' first|exact ih _ _|exact xml_reader_space.mono _ _ _|exact xml_reader_attribute.mono _ _ _|exact LeO.refl _|exact LeO.none _|refine LeO.ite ?_ ?_|refine LeO.bind ?_ (fun _=>?_)
theorem xml_el.out_mono:∀ nm tx kids s p k,LeO (xml_el.out k nm tx kids s p) (xml_el.out (k+1) nm tx kids s p):=by
 intro nm tx kids s p k
 unfold xml_el.out
 with_reducible repeat' first|exact xml_reader_space.mono _ _ _|exact xml_reader_name.mono _ _ _|exact LeO.refl _|exact LeO.none _|refine LeO.ite ?_ ?_|refine LeO.bind ?_ (fun _=>?_)
theorem xml_el.mono_l:∀ k,(∀ s p d,LeO (xml_el.f k s p d) (xml_el.f (k+1) s p d))∧(∀ s p d kids,LeO (xml_co.lp k s p d kids) (xml_co.lp (k+1) s p d kids))∧(∀ s p d,LeO (xml_co.f k s p d) (xml_co.f (k+1) s p d))
 | 0=>⟨fun _ _ _ r h=>by simp [xml_el.f] at h,fun _ _ _ _ r h=>by simp [xml_co.lp] at h,fun _ _ _ r h=>by simp [xml_co.f] at h⟩
 | k+1=>by
  obtain⟨ih0,ih1,ih2⟩:=xml_el.mono_l k
  refine⟨?_,?_,?_⟩
  ·intro s p d
   unfold xml_el.f
   with_reducible repeat' first|exact ih2 _ _ _|exact xml_el.at_mono _ _ _|exact xml_el.out_mono _ _ _ _ _ _|exact xml_Name.mono _ _|exact xml_reader_name.mono _ _ _|exact LeO.refl _|exact LeO.none _|refine LeO.ite ?_ ?_|refine LeO.bind ?_ (fun _=>?_)
  ·intro s p d kids
   unfold xml_co.lp
   with_reducible repeat' first|exact ih0 _ _ _|exact ih1 _ _ _ _|exact xml_reader_space.mono _ _ _|exact LeO.refl _|exact LeO.none _|refine LeO.ite ?_ ?_|refine LeO.bind ?_ (fun _=>?_)
  ·intro s p d
   unfold xml_co.f
   with_reducible repeat' first|exact ih1 _ _ _ _|exact xml_reader_space.mono _ _ _|exact xml_Unescape.mono _ _|exact LeO.refl _|exact LeO.none _|refine LeO.ite ?_ ?_|refine LeO.bind ?_ (fun _=>?_)
theorem xml_Parse.mono:∀ a0 k,LeO (xml_Parse.f k a0) (xml_Parse.f (k+1) a0):=by
 intro a0 k
 unfold xml_Parse.f
 with_reducible repeat' first|exact(xml_el.mono_l k).1 _ _ _|exact xml_reader_space.mono _ _ _|exact LeO.refl _|exact LeO.none _|refine LeO.ite ?_ ?_|refine LeO.bind ?_ (fun _=>?_)
def xml_pa.Inv (w W:World) (g b:Nat) (s:ByteArray) (p:Int):Prop:=IsS57 w W g s p∧Below w.heap.size w W∧W.heap[b]? = some (.cells #[.string (⟨#[]⟩ : ByteArray),.string (⟨#[]⟩ : ByteArray),.slice none 0 0] 24 (0,0))∧b≠g∧w.heap.size≤b
section
variable {w W W1:World} {g b:Nat} {s s1:ByteArray} {p p1:Int}
theorem xml_pa.Inv.i (h:xml_pa.Inv w W g b s p):IsS57 w W g s p:=h.1
theorem xml_pa.Inv.bel (h:xml_pa.Inv w W g b s p):Below w.heap.size w W:=h.2.1
theorem xml_pa.Inv.blk (h:xml_pa.Inv w W g b s p):W.heap[b]? = some (.cells #[.string (⟨#[]⟩ : ByteArray),.string (⟨#[]⟩ : ByteArray),.slice none 0 0] 24 (0,0)):=h.2.2.1
theorem xml_pa.Inv.ne (h:xml_pa.Inv w W g b s p):b≠g:=h.2.2.2.1
theorem xml_pa.Inv.ge (h:xml_pa.Inv w W g b s p):w.heap.size≤b:=h.2.2.2.2
theorem xml_pa.Inv.drewN (h:xml_pa.Inv w W g b s p) (n:Nat):xml_pa.Inv w (W.drewN n) g b s p:=⟨h.1.drewN n,pw_below_drewN h.2.1 n,blk_drewN h.2.2.1 n,h.2.2.2⟩
theorem xml_pa.Inv.drew (h:xml_pa.Inv w W g b s p):xml_pa.Inv w W.drew g b s p:=⟨h.1.drew,below_drew h.2.1,blk_drew h.2.2.1,h.2.2.2⟩
theorem xml_pa.Inv.call (h:xml_pa.Inv w W g b s p) (hi:IsS57 w W1 g s1 p1) (hb:Below w.heap.size w W1) (hk:KeepBut W W1 g none):xml_pa.Inv w W1 g b s1 p1:=⟨hi,hb,hk.blk h.2.2.1 h.2.2.2.1 (by simp),h.2.2.2⟩
theorem xml_pa.Inv.below (h:xml_pa.Inv w W g b s p) (hb:Below W.heap.size W W1):xml_pa.Inv w W1 g b s p:=⟨h.1.below hb,below_step h.2.1 hb,blk_below h.2.2.1 hb,h.2.2.2⟩
theorem xml_pa.Inv.far (h:xml_pa.Inv w W g b s p) {q:Nat} (hq:w.heap.size≤q) (hg:q≠g) (hb:q≠b) (j:Nat) (u:Value):xml_pa.Inv w (W.setCell ⟨q,j,none⟩ u) g b s p:=
 ⟨h.1.far (p:=⟨q,j,none⟩) (fun e=>hg e.symm) u,below_set h.2.1 hq,blk_far h.2.2.1 (p:=⟨q,j,none⟩) (fun e=>hb e.symm) u,h.2.2.2⟩
theorem xml_pa.start {w4 w5:World} (h1:Below w.heap.size w w4) (h2:w4.heap[b]? = some (.cells #[.string (⟨#[]⟩ : ByteArray),.string (⟨#[]⟩ : ByteArray),.slice none 0 0] 24 (0,0))) (h3:b=w.heap.size) (h4:Below w4.heap.size w4 w5) (h5:w5.heap[g]? = some (.cells #[.string s,.int .i64 0] 57 (0,0))) (h6:g=w4.heap.size):xml_pa.Inv w w5 g b s 0:=
 ⟨⟨h5,by rw [h6];exact h1.size⟩,below_step h1 h4,blk_below h2 h4,by have:=blk_lt h2;omega,Nat.le_of_eq h3.symm⟩
theorem xml_pa.el {n:Nat} {u:Value} {xs:List S24} (h:xml_pa.Inv w W g b s p) (hV:Kd.V k24 24 W1 n (fun k_=>W.heap.size≤k_) u xs):Kd.V k24 24 W1 n (fun k_=>w.heap.size≤k_∧k_≠g∧k_≠b) u xs:=
 Kd.V_mono hV (fun k_ (hk:W.heap.size≤k_)=>⟨Nat.le_trans h.2.1.size hk,by have:=h.1.lt;omega,by have:=blk_lt h.2.2.1;omega⟩)
theorem xml_pa.vkeep {n:Nat} {u:Value} {xs:List S24} (h:Kd.V k24 24 W n (fun k_=>w.heap.size≤k_∧k_≠g∧k_≠b) u xs) (hk:KeepBut W W1 g none):Kd.V k24 24 W1 n (fun k_=>w.heap.size≤k_∧k_≠g∧k_≠b) u xs:=Kd.V_keep h hk (fun k_ (h_:w.heap.size≤k_∧k_≠g∧k_≠b)=>h_.2.1)
theorem xml_pa.vput {n:Nat} {u:Value} {xs:List S24} (h:Kd.V k24 24 W n (fun k_=>w.heap.size≤k_∧k_≠g∧k_≠b) u xs) (x y z:Value):Kd.V k24 24 (((W.setCell ⟨b,0,none⟩ x).setCell ⟨b,1,none⟩ y).setCell ⟨b,2,none⟩ z) n (fun k_=>w.heap.size≤k_) u xs:=
 Kd.V_mono (Kd.V_far (p:=⟨b,2,none⟩) (Kd.V_far (p:=⟨b,1,none⟩) (Kd.V_far (p:=⟨b,0,none⟩) h (fun _ hk=>hk.2.2) x) (fun _ hk=>hk.2.2) y) (fun _ hk=>hk.2.2) z) (fun _ hk=>hk.1)
theorem xml_pa.ne5 {w4:World} {q:Nat} (h:xml_pa.Inv w W g b s p) (hq:q=W.heap.size):w.heap.size≤q∧q≠g∧q≠b:=⟨by rw [hq];exact h.2.1.size,by have:=h.1.lt;omega,by have:=blk_lt h.2.2.1;omega⟩
theorem xml_pa.ends {nm tx:ByteArray} {v:Value} {xs:List S24} (h:xml_pa.Inv w W g b s p) (hV:Kd.V k24 24 W w.heap.size (fun k_=>w.heap.size≤k_∧k_≠g∧k_≠b) v xs) :
  (((W.setCell ⟨b,0,none⟩ (.string nm)).setCell ⟨b,1,none⟩ (.string tx)).setCell ⟨b,2,none⟩ v).heap[b]? = some (.cells #[.string nm,.string tx,v] 24 (0,0))∧Kd.V k24 24 (((W.setCell ⟨b,0,none⟩ (.string nm)).setCell ⟨b,1,none⟩ (.string tx)).setCell ⟨b,2,none⟩ v) w.heap.size (fun k_=>w.heap.size≤k_) v xs∧Below w.heap.size w (((W.setCell ⟨b,0,none⟩ (.string nm)).setCell ⟨b,1,none⟩ (.string tx)).setCell ⟨b,2,none⟩ v):=
 ⟨blk_put (blk_put (blk_put h.2.2.1 0 (.string nm) (cs':=#[.string nm,.string (⟨#[]⟩ : ByteArray),.slice none 0 0]) rfl) 1 (.string tx) (cs':=#[.string nm,.string tx,.slice none 0 0]) rfl) 2 v rfl,xml_pa.vput hV _ _ _,below_set (below_set (below_set h.2.1 h.2.2.2.2) h.2.2.2.2) h.2.2.2.2⟩
end
theorem xml_Parse.calls (k:Nat) (a0:ByteArray) (r1 r2:ByteArray) (r3:List S24) (r4:Int) (w:World) (hG:GOk w) (h:xml_Parse.f k a0=some (r1,r2,r3,r4)) :
  Calls Tryd.prog 10 #[.string a0] w fun e w'=>∃ v0_:Value,e = .returned (.tuple #[.agg #[.string r1,.string r2,v0_],.int .i64 r4])∧Kd.V k24 24 w' w.heap.size (fun k_=>(w.heap.size≤k_)) v0_ r3∧Below w.heap.size w w':=by
 unfold xml_Parse.f at h
 have hu24:=Tryd.underlying24
 go_enter Tryd.func10,Tryd.ntmps10
 rcases itO h with⟨c1,h⟩|⟨c1,h⟩
 ·have t1:=eq_true c1
  have t2:=decide_eq_true c1
  have t3:decide (65536<a0.size)=true:=decide_eq_true (by omega)
  have t4:(65536<a0.size)=True:=eq_true (by omega)
  clear c1
  simp only [Option.some.injEq,Prod.mk.injEq] at h
  obtain⟨rfl,rfl,rfl,rfl⟩:=h
  go_wp2_with (first|((with_reducible refine gate_dst (N:=2) rfl ?_);(try (refine gate_guard (by rfl) ?_;dsimp only));refine box_event ?hg2 (N:=2) ?hd2 (cs:=#[.string (⟨#[]⟩ : ByteArray),.string (⟨#[]⟩ : ByteArray),.slice none 0 0]) (t:=24) ?hr2 ?_;(case hd2=>rfl);(case hg2=>rfl);(case hr2=>first|(go_simp;done)|(go_simp;rfl));intro b hgb w4 hbox hb;have HB1:=Aside0.mk hb;have HB2:=Aside0.mk hbox;have HB3:=Aside0.mk hgb;have hd0:=(blk_cell HB2.out 0).trans rfl;have hd1:=(blk_cell HB2.out 1).trans rfl;have hd2:=(blk_cell HB2.out 2).trans rfl;have he0:=blk_frozen HB2.out 0;have he1:=blk_frozen HB2.out 1;have he2:=blk_frozen HB2.out 2;clear hb hbox hgb))
  try simp only [Exit.jump]
  have HZ:=blk_put (blk_put (blk_put HB2.out 0 (.string (⟨#[]⟩ : ByteArray)) (cs':=#[.string (⟨#[]⟩ : ByteArray),.string (⟨#[]⟩ : ByteArray),.slice none 0 0]) rfl) 1 (.string (⟨#[]⟩ : ByteArray)) (cs':=#[.string (⟨#[]⟩ : ByteArray),.string (⟨#[]⟩ : ByteArray),.slice none 0 0]) rfl) 2 (.slice none 0 0) (cs':=#[.string (⟨#[]⟩ : ByteArray),.string (⟨#[]⟩ : ByteArray),.slice none 0 0]) rfl
  refine bodyPost_ret (results_ct rfl _ _ b 24 #[.string (⟨#[]⟩ : ByteArray),.string (⟨#[]⟩ : ByteArray),.slice none 0 0] (0,0) _ rfl HZ Tryd.underlying24 rfl (by kernel_rfl)) rfl ?_
  exact⟨.slice none 0 0,rfl,Kd.V_nil _ _ _ _ _,below_set (below_set (below_set HB1.out (Nat.le_of_eq HB3.out.symm)) (Nat.le_of_eq HB3.out.symm)) (Nat.le_of_eq HB3.out.symm)⟩
 have t1:=eq_false c1
 have t2:=decide_eq_false c1
 have t3:decide (65536<a0.size)=false:=decide_eq_false (by omega)
 have t4:(65536<a0.size)=False:=eq_false (by omega)
 clear c1
 obtain⟨lg,hlg,h⟩:=bndO h
 have hLg:=Aside0.mk hlg
 clear hlg
 cases lg with
 | false=>
  rw [if_neg Bool.false_ne_true] at h
  simp only [Option.some.injEq,Prod.mk.injEq] at h
  obtain⟨rfl,rfl,rfl,rfl⟩:=h
  go_wp2_with (first|((with_reducible refine gate_dst (N:=2) rfl ?_);(try (refine gate_guard (by rfl) ?_;dsimp only));refine box_event ?hg2 (N:=2) ?hd2 (cs:=#[.string (⟨#[]⟩ : ByteArray),.string (⟨#[]⟩ : ByteArray),.slice none 0 0]) (t:=24) ?hr2 ?_;(case hd2=>rfl);(case hg2=>rfl);(case hr2=>first|(go_simp;done)|(go_simp;rfl));intro b hgb w4 hbox hb;have HB1:=Aside0.mk hb;have HB2:=Aside0.mk hbox;have HB3:=Aside0.mk hgb;have hd0:=(blk_cell HB2.out 0).trans rfl;have hd1:=(blk_cell HB2.out 1).trans rfl;have hd2:=(blk_cell HB2.out 2).trans rfl;have he0:=blk_frozen HB2.out 0;have he1:=blk_frozen HB2.out 1;have he2:=blk_frozen HB2.out 2;clear hb hbox hgb)|((with_reducible refine gate_dst (N:=13) rfl ?_);(try (refine gate_guard (by rfl) ?_;dsimp only));refine box_event ?hg13 (N:=13) ?hd13 (cs:=#[.string a0,.int .i64 0]) (t:=57) ?hr13 ?_;(case hd13=>rfl);(case hg13=>rfl);(case hr13=>first|(go_simp;done)|(go_simp;rfl));intro g hgg w5 hbox hb;have HV:=Aside0.mk (xml_pa.start HB1.out HB2.out HB3.out hb hbox hgg);clear hb hbox hgg;have hc0:=xml_reader_attribute.c0 HV.out.i;have hc1:=xml_reader_attribute.c1 HV.out.i;have hd0:=(blk_cell HV.out.blk 0).trans rfl;have hd1:=(blk_cell HV.out.blk 1).trans rfl;have hd2:=(blk_cell HV.out.blk 2).trans rfl;have he0:=blk_frozen HV.out.blk 0;have he1:=blk_frozen HV.out.blk 1;have he2:=blk_frozen HV.out.blk 2;have hne:=HV.out.ne;have hen:=HV.out.ne.symm)|(go_at_call 27;with_reducible refine(chars_Legal.calls a0 false _ hLg.out).mono ?_;rintro e_ w_ ⟨rfl,hb⟩;(first|replace HV:=Aside0.mk (xml_pa.Inv.below HV.out hb)|replace HV:=Aside0.mk (xml_pa.Inv.below (HV.out.drewN _) hb)|replace HV:=Aside0.mk (xml_pa.Inv.below ((HV.out.drewN _).drewN _) hb)|replace HV:=Aside0.mk (xml_pa.Inv.below HV.out.drew hb));clear hb;have hc0:=xml_reader_attribute.c0 HV.out.i;have hc1:=xml_reader_attribute.c1 HV.out.i;have hd0:=(blk_cell HV.out.blk 0).trans rfl;have hd1:=(blk_cell HV.out.blk 1).trans rfl;have hd2:=(blk_cell HV.out.blk 2).trans rfl;have he0:=blk_frozen HV.out.blk 0;have he1:=blk_frozen HV.out.blk 1;have he2:=blk_frozen HV.out.blk 2;have hne:=HV.out.ne;have hen:=HV.out.ne.symm))
  try simp only [Exit.jump]
  have HZ:=xml_pa.ends (nm:=(⟨#[]⟩ : ByteArray)) (tx:=(⟨#[]⟩ : ByteArray)) (by first|exact HV.out|exact(HV.out.drewN _)|exact((HV.out.drewN _).drewN _)|exact HV.out.drew) (Kd.V_nil k24 24 _ _ _)
  refine bodyPost_ret (results_ct rfl _ _ b 24 #[.string (⟨#[]⟩ : ByteArray),.string (⟨#[]⟩ : ByteArray),.slice none 0 0] (0,0) _ rfl HZ.1 Tryd.underlying24 rfl (by kernel_rfl)) rfl ?_
  exact⟨.slice none 0 0,rfl,HZ.2.1,HZ.2.2⟩
 | true=>
  rw [if_pos rfl] at h
  obtain⟨b0,hb0,h⟩:=bndO h
  obtain⟨b1,b2,b3⟩:=b0
  have hBg:=Aside0.mk hb0
  clear hb0
  dsimp only at h
  cases b1 with
  | false=>
   rw [if_neg Bool.false_ne_true] at h
   simp only [Option.some.injEq,Prod.mk.injEq] at h
   obtain⟨rfl,rfl,rfl,rfl⟩:=h
   go_wp2_with (first|((with_reducible refine gate_dst (N:=2) rfl ?_);(try (refine gate_guard (by rfl) ?_;dsimp only));refine box_event ?hg2 (N:=2) ?hd2 (cs:=#[.string (⟨#[]⟩ : ByteArray),.string (⟨#[]⟩ : ByteArray),.slice none 0 0]) (t:=24) ?hr2 ?_;(case hd2=>rfl);(case hg2=>rfl);(case hr2=>first|(go_simp;done)|(go_simp;rfl));intro b hgb w4 hbox hb;have HB1:=Aside0.mk hb;have HB2:=Aside0.mk hbox;have HB3:=Aside0.mk hgb;have hd0:=(blk_cell HB2.out 0).trans rfl;have hd1:=(blk_cell HB2.out 1).trans rfl;have hd2:=(blk_cell HB2.out 2).trans rfl;have he0:=blk_frozen HB2.out 0;have he1:=blk_frozen HB2.out 1;have he2:=blk_frozen HB2.out 2;clear hb hbox hgb)|((with_reducible refine gate_dst (N:=13) rfl ?_);(try (refine gate_guard (by rfl) ?_;dsimp only));refine box_event ?hg13 (N:=13) ?hd13 (cs:=#[.string a0,.int .i64 0]) (t:=57) ?hr13 ?_;(case hd13=>rfl);(case hg13=>rfl);(case hr13=>first|(go_simp;done)|(go_simp;rfl));intro g hgg w5 hbox hb;have HV:=Aside0.mk (xml_pa.start HB1.out HB2.out HB3.out hb hbox hgg);clear hb hbox hgg;have hc0:=xml_reader_attribute.c0 HV.out.i;have hc1:=xml_reader_attribute.c1 HV.out.i;have hd0:=(blk_cell HV.out.blk 0).trans rfl;have hd1:=(blk_cell HV.out.blk 1).trans rfl;have hd2:=(blk_cell HV.out.blk 2).trans rfl;have he0:=blk_frozen HV.out.blk 0;have he1:=blk_frozen HV.out.blk 1;have he2:=blk_frozen HV.out.blk 2;have hne:=HV.out.ne;have hen:=HV.out.ne.symm)|(go_at_call 27;with_reducible refine(chars_Legal.calls a0 true _ hLg.out).mono ?_;rintro e_ w_ ⟨rfl,hb⟩;(first|replace HV:=Aside0.mk (xml_pa.Inv.below HV.out hb)|replace HV:=Aside0.mk (xml_pa.Inv.below (HV.out.drewN _) hb)|replace HV:=Aside0.mk (xml_pa.Inv.below ((HV.out.drewN _).drewN _) hb)|replace HV:=Aside0.mk (xml_pa.Inv.below HV.out.drew hb));clear hb;have hc0:=xml_reader_attribute.c0 HV.out.i;have hc1:=xml_reader_attribute.c1 HV.out.i;have hd0:=(blk_cell HV.out.blk 0).trans rfl;have hd1:=(blk_cell HV.out.blk 1).trans rfl;have hd2:=(blk_cell HV.out.blk 2).trans rfl;have he0:=blk_frozen HV.out.blk 0;have he1:=blk_frozen HV.out.blk 1;have he2:=blk_frozen HV.out.blk 2;have hne:=HV.out.ne;have hen:=HV.out.ne.symm)|(go_at_call 28;with_reducible refine(xml_reader_begin.calls g a0 0 false b2 b3 w _ ?s1 ?s2 hG hBg.out).mono ?_;(case s1=>exact(by first|exact HV.out.i|exact(HV.out.drewN _).i|exact((HV.out.drewN _).drewN _).i|exact HV.out.drew.i));(case s2=>exact(by first|exact HV.out.bel|exact(HV.out.drewN _).bel|exact((HV.out.drewN _).drewN _).bel|exact HV.out.drew.bel));rintro e_ w_ ⟨rfl,hi,hb,hk⟩;(first|replace HV:=Aside0.mk (xml_pa.Inv.call HV.out hi hb hk)|replace HV:=Aside0.mk (xml_pa.Inv.call (HV.out.drewN _) hi hb hk)|replace HV:=Aside0.mk (xml_pa.Inv.call ((HV.out.drewN _).drewN _) hi hb hk)|replace HV:=Aside0.mk (xml_pa.Inv.call HV.out.drew hi hb hk));clear hi hb hk;have hc0:=xml_reader_attribute.c0 HV.out.i;have hc1:=xml_reader_attribute.c1 HV.out.i;have hd0:=(blk_cell HV.out.blk 0).trans rfl;have hd1:=(blk_cell HV.out.blk 1).trans rfl;have hd2:=(blk_cell HV.out.blk 2).trans rfl;have he0:=blk_frozen HV.out.blk 0;have he1:=blk_frozen HV.out.blk 1;have he2:=blk_frozen HV.out.blk 2;have hne:=HV.out.ne;have hen:=HV.out.ne.symm))
   try simp only [Exit.jump]
   have HZ:=xml_pa.ends (nm:=(⟨#[]⟩ : ByteArray)) (tx:=(⟨#[]⟩ : ByteArray)) (by first|exact HV.out|exact(HV.out.drewN _)|exact((HV.out.drewN _).drewN _)|exact HV.out.drew) (Kd.V_nil k24 24 _ _ _)
   refine bodyPost_ret (results_ct rfl _ _ b 24 #[.string (⟨#[]⟩ : ByteArray),.string (⟨#[]⟩ : ByteArray),.slice none 0 0] (0,0) _ rfl HZ.1 Tryd.underlying24 rfl (by kernel_rfl)) rfl ?_
   exact⟨.slice none 0 0,rfl,HZ.2.1,HZ.2.2⟩
  | true=>
   rw [if_pos rfl] at h
   obtain⟨a,ha,h⟩:=bndO h
   obtain⟨s1,s2,s3⟩:=a
   have hS1:=Aside0.mk ha
   clear ha
   dsimp only at h
   obtain⟨e,he,h⟩:=bndO h
   obtain⟨⟨x0,x1,x2⟩,e2,e3,e4⟩:=e
   have hE:=Aside0.mk he
   clear he
   dsimp only at h
   obtain⟨z,hz,h⟩:=bndO h
   obtain⟨z1,z2,z3⟩:=z
   have hS2:=Aside0.mk hz
   clear hz
   dsimp only at h
   go_upto_region 8 with(first|((with_reducible refine gate_dst (N:=2) rfl ?_);(try (refine gate_guard (by rfl) ?_;dsimp only));refine box_event ?hg2 (N:=2) ?hd2 (cs:=#[.string (⟨#[]⟩ : ByteArray),.string (⟨#[]⟩ : ByteArray),.slice none 0 0]) (t:=24) ?hr2 ?_;(case hd2=>rfl);(case hg2=>rfl);(case hr2=>first|(go_simp;done)|(go_simp;rfl));intro b hgb w4 hbox hb;have HB1:=Aside0.mk hb;have HB2:=Aside0.mk hbox;have HB3:=Aside0.mk hgb;have hd0:=(blk_cell HB2.out 0).trans rfl;have hd1:=(blk_cell HB2.out 1).trans rfl;have hd2:=(blk_cell HB2.out 2).trans rfl;have he0:=blk_frozen HB2.out 0;have he1:=blk_frozen HB2.out 1;have he2:=blk_frozen HB2.out 2;clear hb hbox hgb)|((with_reducible refine gate_dst (N:=13) rfl ?_);(try (refine gate_guard (by rfl) ?_;dsimp only));refine box_event ?hg13 (N:=13) ?hd13 (cs:=#[.string a0,.int .i64 0]) (t:=57) ?hr13 ?_;(case hd13=>rfl);(case hg13=>rfl);(case hr13=>first|(go_simp;done)|(go_simp;rfl));intro g hgg w5 hbox hb;have HV:=Aside0.mk (xml_pa.start HB1.out HB2.out HB3.out hb hbox hgg);clear hb hbox hgg;have hc0:=xml_reader_attribute.c0 HV.out.i;have hc1:=xml_reader_attribute.c1 HV.out.i;have hd0:=(blk_cell HV.out.blk 0).trans rfl;have hd1:=(blk_cell HV.out.blk 1).trans rfl;have hd2:=(blk_cell HV.out.blk 2).trans rfl;have he0:=blk_frozen HV.out.blk 0;have he1:=blk_frozen HV.out.blk 1;have he2:=blk_frozen HV.out.blk 2;have hne:=HV.out.ne;have hen:=HV.out.ne.symm)|(go_at_call 27;with_reducible refine(chars_Legal.calls a0 true _ hLg.out).mono ?_;rintro e_ w_ ⟨rfl,hb⟩;(first|replace HV:=Aside0.mk (xml_pa.Inv.below HV.out hb)|replace HV:=Aside0.mk (xml_pa.Inv.below (HV.out.drewN _) hb)|replace HV:=Aside0.mk (xml_pa.Inv.below ((HV.out.drewN _).drewN _) hb)|replace HV:=Aside0.mk (xml_pa.Inv.below HV.out.drew hb));clear hb;have hc0:=xml_reader_attribute.c0 HV.out.i;have hc1:=xml_reader_attribute.c1 HV.out.i;have hd0:=(blk_cell HV.out.blk 0).trans rfl;have hd1:=(blk_cell HV.out.blk 1).trans rfl;have hd2:=(blk_cell HV.out.blk 2).trans rfl;have he0:=blk_frozen HV.out.blk 0;have he1:=blk_frozen HV.out.blk 1;have he2:=blk_frozen HV.out.blk 2;have hne:=HV.out.ne;have hen:=HV.out.ne.symm)|(go_at_call 28;with_reducible refine(xml_reader_begin.calls g a0 0 true b2 b3 w _ ?s1 ?s2 hG hBg.out).mono ?_;(case s1=>exact(by first|exact HV.out.i|exact(HV.out.drewN _).i|exact((HV.out.drewN _).drewN _).i|exact HV.out.drew.i));(case s2=>exact(by first|exact HV.out.bel|exact(HV.out.drewN _).bel|exact((HV.out.drewN _).drewN _).bel|exact HV.out.drew.bel));rintro e_ w_ ⟨rfl,hi,hb,hk⟩;(first|replace HV:=Aside0.mk (xml_pa.Inv.call HV.out hi hb hk)|replace HV:=Aside0.mk (xml_pa.Inv.call (HV.out.drewN _) hi hb hk)|replace HV:=Aside0.mk (xml_pa.Inv.call ((HV.out.drewN _).drewN _) hi hb hk)|replace HV:=Aside0.mk (xml_pa.Inv.call HV.out.drew hi hb hk));clear hi hb hk;have hc0:=xml_reader_attribute.c0 HV.out.i;have hc1:=xml_reader_attribute.c1 HV.out.i;have hd0:=(blk_cell HV.out.blk 0).trans rfl;have hd1:=(blk_cell HV.out.blk 1).trans rfl;have hd2:=(blk_cell HV.out.blk 2).trans rfl;have he0:=blk_frozen HV.out.blk 0;have he1:=blk_frozen HV.out.blk 1;have he2:=blk_frozen HV.out.blk 2;have hne:=HV.out.ne;have hen:=HV.out.ne.symm)|(go_at_call 29;with_reducible refine(xml_reader_space.calls k g b2 b3 s1 s2 s3 w _ ?s1 ?s2 hS1.out).mono ?_;(case s1=>exact(by first|exact HV.out.i|exact(HV.out.drewN _).i|exact((HV.out.drewN _).drewN _).i|exact HV.out.drew.i));(case s2=>exact(by first|exact HV.out.bel|exact(HV.out.drewN _).bel|exact((HV.out.drewN _).drewN _).bel|exact HV.out.drew.bel));rintro e_ w_ ⟨rfl,hi,hb,hk⟩;(first|replace HV:=Aside0.mk (xml_pa.Inv.call HV.out hi hb hk)|replace HV:=Aside0.mk (xml_pa.Inv.call (HV.out.drewN _) hi hb hk)|replace HV:=Aside0.mk (xml_pa.Inv.call ((HV.out.drewN _).drewN _) hi hb hk)|replace HV:=Aside0.mk (xml_pa.Inv.call HV.out.drew hi hb hk));clear hi hb hk;have hc0:=xml_reader_attribute.c0 HV.out.i;have hc1:=xml_reader_attribute.c1 HV.out.i;have hd0:=(blk_cell HV.out.blk 0).trans rfl;have hd1:=(blk_cell HV.out.blk 1).trans rfl;have hd2:=(blk_cell HV.out.blk 2).trans rfl;have he0:=blk_frozen HV.out.blk 0;have he1:=blk_frozen HV.out.blk 1;have he2:=blk_frozen HV.out.blk 2;have hne:=HV.out.ne;have hen:=HV.out.ne.symm)|(go_at_call 30;with_reducible refine((xml_both k).1 s2 s3 1 _ w _ g ?s1 ?s2 hG hE.out).mono ?_;(case s1=>exact(by first|exact HV.out.i|exact(HV.out.drewN _).i|exact((HV.out.drewN _).drewN _).i|exact HV.out.drew.i));(case s2=>exact(by first|exact HV.out.bel|exact(HV.out.drewN _).bel|exact((HV.out.drewN _).drewN _).bel|exact HV.out.drew.bel));rintro e_ w_ ⟨v,he_,hVV,hi,hb,hk⟩;dsimp only at he_ hVV hi;obtain⟨eA,ec,rfl⟩:=Kd.V_slice hVV;subst he_;(first|have HE:=Aside0.mk (xml_pa.el HV.out hVV)|have HE:=Aside0.mk (xml_pa.el (HV.out.drewN _) hVV)|have HE:=Aside0.mk (xml_pa.el ((HV.out.drewN _).drewN _) hVV)|have HE:=Aside0.mk (xml_pa.el HV.out.drew hVV));(first|replace HV:=Aside0.mk (xml_pa.Inv.call HV.out hi hb hk)|replace HV:=Aside0.mk (xml_pa.Inv.call (HV.out.drewN _) hi hb hk)|replace HV:=Aside0.mk (xml_pa.Inv.call ((HV.out.drewN _).drewN _) hi hb hk)|replace HV:=Aside0.mk (xml_pa.Inv.call HV.out.drew hi hb hk));clear hi hb hk hVV;have hc0:=xml_reader_attribute.c0 HV.out.i;have hc1:=xml_reader_attribute.c1 HV.out.i;have hd0:=(blk_cell HV.out.blk 0).trans rfl;have hd1:=(blk_cell HV.out.blk 1).trans rfl;have hd2:=(blk_cell HV.out.blk 2).trans rfl;have he0:=blk_frozen HV.out.blk 0;have he1:=blk_frozen HV.out.blk 1;have he2:=blk_frozen HV.out.blk 2;have hne:=HV.out.ne;have hen:=HV.out.ne.symm)|((with_reducible refine gate_dst (N:=5) rfl ?_);(try (refine gate_guard (by rfl) ?_;dsimp only));refine box_event ?hg5 (N:=5) ?hd5 (cs:=#[.string (⟨#[]⟩ : ByteArray),.string (⟨#[]⟩ : ByteArray),.slice none 0 0]) (t:=24) ?hr5 ?_;(case hd5=>rfl);(case hg5=>rfl);(case hr5=>first|(go_simp;done)|(go_simp;rfl));intro g5 hg5 w6 hbox hb;have HX:=Aside0.mk hbox;have HB4:=Aside0.mk hb;have HG4:=Aside0.mk hg5;clear hb hbox hg5;have hk0:=(blk_cell HX.out 0).trans rfl;have hk1:=(blk_cell HX.out 1).trans rfl;have hk2:=(blk_cell HX.out 2).trans rfl;have hz0:=blk_frozen HX.out 0;have hz1:=blk_frozen HX.out 1;have hz2:=blk_frozen HX.out 2))
   have HN5:=Aside0.mk (xml_pa.ne5 (w4:=w6) HV.out HG4.out)
   have HV2:=Aside0.mk ((((HV.out.below HB4.out).far HN5.out.1 HN5.out.2.1 HN5.out.2.2 0 (.string x0)).far HN5.out.1 HN5.out.2.1 HN5.out.2.2 1 (.string x1)).far HN5.out.1 HN5.out.2.1 HN5.out.2.2 2 (.slice eA x2.length ec))
   have HE2:=Aside0.mk (xml_co.vbox HE.out HB4.out HG4.out (.string x0) (.string x1) (.slice eA x2.length ec))
   have HX2:=Aside0.mk (blk_put (blk_put (blk_put HX.out 0 (.string x0) (cs':=#[.string x0,.string (⟨#[]⟩ : ByteArray),.slice none 0 0]) rfl) 1 (.string x1) (cs':=#[.string x0,.string x1,.slice none 0 0]) rfl) 2 (.slice eA x2.length ec) (cs':=#[.string x0,.string x1,.slice eA x2.length ec]) rfl)
   clear HV HE HX HB4 HG4 hc0 hc1 hd0 hd1 hd2 he0 he1 he2 hk0 hk1 hk2 hz0 hz1 hz2
   generalize World.setCell _ _ _=W2 at HV2 HE2 HX2 ⊢
   have HV:=HV2
   clear HV2
   have HE:=HE2
   clear HE2
   have HX:=HX2
   clear HX2
   have hc0:=xml_reader_attribute.c0 HV.out.i
   have hc1:=xml_reader_attribute.c1 HV.out.i
   have hd0:=(blk_cell HV.out.blk 0).trans rfl
   have hd1:=(blk_cell HV.out.blk 1).trans rfl
   have hd2:=(blk_cell HV.out.blk 2).trans rfl
   have he0:=blk_frozen HV.out.blk 0
   have he1:=blk_frozen HV.out.blk 1
   have he2:=blk_frozen HV.out.blk 2
   have hne:=HV.out.ne
   have hen:=HV.out.ne.symm
   cases e2 with
   | false=>
    rw [if_neg Bool.false_ne_true] at h
    simp only [Option.some.injEq,Prod.mk.injEq] at h
    obtain⟨rfl,rfl,rfl,rfl⟩:=h
    go_wp2_with (first|(go_at_call 29;with_reducible refine(xml_reader_space.calls k g e3 e4 z1 z2 z3 w _ ?s1 ?s2 hS2.out).mono ?_;(case s1=>exact(by first|exact HV.out.i|exact(HV.out.drewN _).i|exact((HV.out.drewN _).drewN _).i|exact HV.out.drew.i));(case s2=>exact(by first|exact HV.out.bel|exact(HV.out.drewN _).bel|exact((HV.out.drewN _).drewN _).bel|exact HV.out.drew.bel));rintro e_ w_ ⟨rfl,hi,hb,hk⟩;(first|replace HE:=Aside0.mk (xml_pa.vkeep HE.out hk)|replace HE:=Aside0.mk (xml_pa.vkeep (Kd.V_drewN HE.out _) hk));have h5n:=HN5.out;have HX2:=Aside0.mk (hk.blk (by first|exact HX.out|exact blk_drewN HX.out _) h5n.2.1 (by simp));clear HX;have HX:=HX2;clear HX2;have hk0:=(blk_cell HX.out 0).trans rfl;have hk1:=(blk_cell HX.out 1).trans rfl;have hk2:=(blk_cell HX.out 2).trans rfl;(first|replace HV:=Aside0.mk (xml_pa.Inv.call HV.out hi hb hk)|replace HV:=Aside0.mk (xml_pa.Inv.call (HV.out.drewN _) hi hb hk)|replace HV:=Aside0.mk (xml_pa.Inv.call ((HV.out.drewN _).drewN _) hi hb hk)|replace HV:=Aside0.mk (xml_pa.Inv.call HV.out.drew hi hb hk));clear hi hb hk;have hc0:=xml_reader_attribute.c0 HV.out.i;have hc1:=xml_reader_attribute.c1 HV.out.i;have hd0:=(blk_cell HV.out.blk 0).trans rfl;have hd1:=(blk_cell HV.out.blk 1).trans rfl;have hd2:=(blk_cell HV.out.blk 2).trans rfl;have he0:=blk_frozen HV.out.blk 0;have he1:=blk_frozen HV.out.blk 1;have he2:=blk_frozen HV.out.blk 2;have hne:=HV.out.ne;have hen:=HV.out.ne.symm))
    try simp only [Exit.jump]
    have HZ:=xml_pa.ends (nm:=(⟨#[]⟩ : ByteArray)) (tx:=(⟨#[]⟩ : ByteArray)) (by first|exact HV.out|exact(HV.out.drewN _)|exact((HV.out.drewN _).drewN _)|exact HV.out.drew) (Kd.V_nil k24 24 _ _ _)
    refine bodyPost_ret (results_ct rfl _ _ b 24 #[.string (⟨#[]⟩ : ByteArray),.string (⟨#[]⟩ : ByteArray),.slice none 0 0] (0,0) _ rfl HZ.1 Tryd.underlying24 rfl (by kernel_rfl)) rfl ?_
    exact⟨.slice none 0 0,rfl,HZ.2.1,HZ.2.2⟩
   | true=>
    rw [if_pos rfl] at h
    rcases itO h with⟨c2,h⟩|⟨c2,h⟩
    ·have u1:(z3 != (a0.size:Int))=false:=bne_eq_false_iff_eq.mpr c2
     have u2:(z3 == (a0.size:Int))=true:=beq_iff_eq.mpr c2
     have u3:=eq_true c2
     have u4:=decide_eq_true c2
     clear c2
     simp only [Option.some.injEq,Prod.mk.injEq] at h
     obtain⟨rfl,rfl,rfl,rfl⟩:=h
     go_wp2_with (first|(go_at_call 29;with_reducible refine(xml_reader_space.calls k g e3 e4 z1 z2 z3 w _ ?s1 ?s2 hS2.out).mono ?_;(case s1=>exact(by first|exact HV.out.i|exact(HV.out.drewN _).i|exact((HV.out.drewN _).drewN _).i|exact HV.out.drew.i));(case s2=>exact(by first|exact HV.out.bel|exact(HV.out.drewN _).bel|exact((HV.out.drewN _).drewN _).bel|exact HV.out.drew.bel));rintro e_ w_ ⟨rfl,hi,hb,hk⟩;(first|replace HE:=Aside0.mk (xml_pa.vkeep HE.out hk)|replace HE:=Aside0.mk (xml_pa.vkeep (Kd.V_drewN HE.out _) hk));have h5n:=HN5.out;have HX2:=Aside0.mk (hk.blk (by first|exact HX.out|exact blk_drewN HX.out _) h5n.2.1 (by simp));clear HX;have HX:=HX2;clear HX2;have hk0:=(blk_cell HX.out 0).trans rfl;have hk1:=(blk_cell HX.out 1).trans rfl;have hk2:=(blk_cell HX.out 2).trans rfl;(first|replace HV:=Aside0.mk (xml_pa.Inv.call HV.out hi hb hk)|replace HV:=Aside0.mk (xml_pa.Inv.call (HV.out.drewN _) hi hb hk)|replace HV:=Aside0.mk (xml_pa.Inv.call ((HV.out.drewN _).drewN _) hi hb hk)|replace HV:=Aside0.mk (xml_pa.Inv.call HV.out.drew hi hb hk));clear hi hb hk;have hc0:=xml_reader_attribute.c0 HV.out.i;have hc1:=xml_reader_attribute.c1 HV.out.i;have hd0:=(blk_cell HV.out.blk 0).trans rfl;have hd1:=(blk_cell HV.out.blk 1).trans rfl;have hd2:=(blk_cell HV.out.blk 2).trans rfl;have he0:=blk_frozen HV.out.blk 0;have he1:=blk_frozen HV.out.blk 1;have he2:=blk_frozen HV.out.blk 2;have hne:=HV.out.ne;have hen:=HV.out.ne.symm))
     try simp only [Exit.jump]
     have HZ:=xml_pa.ends (nm:=x0) (tx:=x1) (by first|exact HV.out|exact(HV.out.drewN _)|exact((HV.out.drewN _).drewN _)|exact HV.out.drew) (by first|exact Kd.V_mono HE.out (fun _ h_=>h_)|exact Kd.V_drewN HE.out _)
     refine bodyPost_ret (results_ct rfl _ _ b 24 #[.string x0,.string x1,.slice eA x2.length ec] (0,0) _ rfl HZ.1 Tryd.underlying24 rfl (by kernel_rfl)) rfl ?_
     exact⟨.slice eA x2.length ec,rfl,HZ.2.1,HZ.2.2⟩
    have u1:(z3 != (a0.size:Int))=true:=bne_iff_ne.mpr c2
    have u2:(z3 == (a0.size:Int))=false:=beq_eq_false_iff_ne.mpr c2
    have u3:=eq_false c2
    have u4:=decide_eq_false c2
    simp only [Option.some.injEq,Prod.mk.injEq] at h
    obtain⟨rfl,rfl,rfl,rfl⟩:=h
    go_wp2_with (first|(go_at_call 29;with_reducible refine(xml_reader_space.calls k g e3 e4 z1 z2 z3 w _ ?s1 ?s2 hS2.out).mono ?_;(case s1=>exact(by first|exact HV.out.i|exact(HV.out.drewN _).i|exact((HV.out.drewN _).drewN _).i|exact HV.out.drew.i));(case s2=>exact(by first|exact HV.out.bel|exact(HV.out.drewN _).bel|exact((HV.out.drewN _).drewN _).bel|exact HV.out.drew.bel));rintro e_ w_ ⟨rfl,hi,hb,hk⟩;(first|replace HE:=Aside0.mk (xml_pa.vkeep HE.out hk)|replace HE:=Aside0.mk (xml_pa.vkeep (Kd.V_drewN HE.out _) hk));have h5n:=HN5.out;have HX2:=Aside0.mk (hk.blk (by first|exact HX.out|exact blk_drewN HX.out _) h5n.2.1 (by simp));clear HX;have HX:=HX2;clear HX2;have hk0:=(blk_cell HX.out 0).trans rfl;have hk1:=(blk_cell HX.out 1).trans rfl;have hk2:=(blk_cell HX.out 2).trans rfl;(first|replace HV:=Aside0.mk (xml_pa.Inv.call HV.out hi hb hk)|replace HV:=Aside0.mk (xml_pa.Inv.call (HV.out.drewN _) hi hb hk)|replace HV:=Aside0.mk (xml_pa.Inv.call ((HV.out.drewN _).drewN _) hi hb hk)|replace HV:=Aside0.mk (xml_pa.Inv.call HV.out.drew hi hb hk));clear hi hb hk;have hc0:=xml_reader_attribute.c0 HV.out.i;have hc1:=xml_reader_attribute.c1 HV.out.i;have hd0:=(blk_cell HV.out.blk 0).trans rfl;have hd1:=(blk_cell HV.out.blk 1).trans rfl;have hd2:=(blk_cell HV.out.blk 2).trans rfl;have he0:=blk_frozen HV.out.blk 0;have he1:=blk_frozen HV.out.blk 1;have he2:=blk_frozen HV.out.blk 2;have hne:=HV.out.ne;have hen:=HV.out.ne.symm))
    try simp only [Exit.jump]
    have HZ:=xml_pa.ends (nm:=(⟨#[]⟩ : ByteArray)) (tx:=(⟨#[]⟩ : ByteArray)) (by first|exact HV.out|exact(HV.out.drewN _)|exact((HV.out.drewN _).drewN _)|exact HV.out.drew) (Kd.V_nil k24 24 _ _ _)
    refine bodyPost_ret (results_ct rfl _ _ b 24 #[.string (⟨#[]⟩ : ByteArray),.string (⟨#[]⟩ : ByteArray),.slice none 0 0] (0,0) _ rfl HZ.1 Tryd.underlying24 rfl (by kernel_rfl)) rfl ?_
    exact⟨.slice none 0 0,rfl,HZ.2.1,HZ.2.2⟩
def xml_Of.f (a0:ByteArray) (a1:ByteArray):Option (ByteArray×ByteArray×(List (S24))):=some (a0,a1,([]:List (S24)))
theorem xml_Of.calls (a0:ByteArray) (a1:ByteArray) (r1:ByteArray) (r2:ByteArray) (r3:List (S24)) (w:World) (h:xml_Of.f a0 a1=some (r1,r2,r3)) :
  Calls Tryd.prog 23 #[.string a0,.string a1] w fun e w'=>∃ v2_:Value,e = .returned (.agg #[.string r1,.string r2,v2_])∧Kd.R k24 24 w' w.heap.size (fun _=>True) v2_ r3∧Below w.heap.size w w':=by
 have hu24:=Tryd.underlying24
 have HB:=Aside0.mk (Below.refl w.heap.size w)
 unfold xml_Of.f at h
 have H:=h
 clear h
 simp only [Option.some.injEq,Prod.mk.injEq] at H
 obtain⟨rfl,rfl,rfl⟩:=H
 go_enter Tryd.func23,Tryd.ntmps23
 go_wp2_with (first|((with_reducible refine gate_dst (N:=4) rfl ?_);refine box_event ?hg (N:=4) ?hd (cs:=#[.string (⟨#[]⟩ : ByteArray),.string (⟨#[]⟩ : ByteArray),.slice none 0 0]) (t:=24) ?hr ?_;(case hd=>rfl);(case hg=>rfl);(case hr=>first|(go_simp;done)|(go_simp;rfl));intro gb127 hg w3 hbox hb;have n0_:=Aside0.mk (below_step (by repeat (first|(with_reducible first|exact HB.out|apply below_alloc|apply pw_below_drewN|apply below_drew1)|exact HB.out)) hb);have n1_:=Aside0.mk (hbox);have n2_:=Aside0.mk ((by rw [hg];exact(below_size (by repeat (first|(with_reducible first|exact HB.out|apply below_alloc|apply pw_below_drewN|apply below_drew1)|exact HB.out))):w.heap.size≤gb127));have n3_:=Aside0.mk ((by rw [hg];exact(below_size (by repeat (first|(with_reducible first|exact HB.out|apply below_alloc|apply pw_below_drewN|apply below_drew1)|exact HB.out))):w.heap.size≤gb127));clear HB;have HB:=n0_;have BK127:=n1_;have GW127:=n2_;have GE127:=n3_;clear n0_ n1_ n2_ n3_;clear hb hbox hg;have hcz4_0:w3.cell? ⟨gb127,0,none⟩=some (.string (⟨#[]⟩ : ByteArray)):=(blk_cell BK127.out 0).trans rfl;have hcz4_1:w3.cell? ⟨gb127,1,none⟩=some (.string (⟨#[]⟩ : ByteArray)):=(blk_cell BK127.out 1).trans rfl;have hcz4_2:w3.cell? ⟨gb127,2,none⟩=some (.slice none 0 0):=(blk_cell BK127.out 2).trans rfl;have hfz4_0:=blk_frozen BK127.out 0;have hfz4_1:=blk_frozen BK127.out 1;have hfz4_2:=blk_frozen BK127.out 2))
 refine bodyPost_ret (results_cell_row rfl _ _ gb127 24 #[.string a0,.string a1,.slice none 0 0] (0,0) _ rfl (by(with_reducible repeat (first|refine blk_drewN ?_ _|refine blk_drew ?_|refine blk_alloc ?_ _));refine blk_put (cs:=#[.string a0,.string a1,.slice none 0 0]) ?_ 2 _ rfl;(with_reducible repeat (first|refine blk_drewN ?_ _|refine blk_drew ?_|refine blk_alloc ?_ _));refine blk_put (cs:=#[.string a0,.string (⟨#[]⟩ : ByteArray),.slice none 0 0]) ?_ 1 _ rfl;(with_reducible repeat (first|refine blk_drewN ?_ _|refine blk_drew ?_|refine blk_alloc ?_ _));refine blk_put (cs:=#[.string (⟨#[]⟩ : ByteArray),.string (⟨#[]⟩ : ByteArray),.slice none 0 0]) ?_ 0 _ rfl;(with_reducible repeat (first|refine blk_drewN ?_ _|refine blk_drew ?_|refine blk_alloc ?_ _));exact BK127.out) Tryd.underlying24 rfl (by kernel_rfl)) rfl ?_
 exact⟨_,by first|rfl|(simp [errW_none,errW_some] <;> rfl)|(simp [*,errW_none,errW_some] <;> rfl),by first|exact Kd.R_nil _ _ _ _ _|exact Kd.N_nil _ _ _ _ _|exact Kd.V_nil _ _ _ _ _|exact Kd.Q_nil _ _ _ _ _|exact Kd.S_nil _ _ _ _ _,by repeat (first|(with_reducible first|exact HB.out|apply below_alloc|apply pw_below_drewN|apply below_drew1|refine below_set ?_ GE127.out)|exact HB.out)⟩
def stowagelaw13_awake.f (k:Nat)  : Option (Bool):=(xml_Parse.f k (⟨#[60,97,32,120,61,34,49,34,62,32,60,98,62,49,32,38,108,116,59,32,50,60,47,98,62,60,99,47,62,60,47,97,62]⟩ : ByteArray)).bind fun bt128=>((xml_Of.f (⟨#[97]⟩ : ByteArray) (⟨#[120,38,121]⟩ : ByteArray)).bind fun bt135=>((xml_Print.f k bt135.1 bt135.2.1 bt135.2.2 false).bind fun bt140=>(if bt128.2.2.2=0 then(if bt140.2=0 then(if bt128.1.toList=([97]:List UInt8) then(if(bt128.2.2.1.length:Int)=2 then(if 0<(bt128.2.2.1.length:Int) then(if((rd_T24 bt128.2.2.1 0).f1).toList=([49,32,60,32,50]:List UInt8) then(some (bt140.1.toList == ([60,63,120,109,108,32,118,101,114,115,105,111,110,61,34,49,46,48,34,32,101,110,99,111,100,105,110,103,61,34,85,84,70,45,56,34,63,62,10,60,97,62,120,38,97,109,112,59,121,60,47,97,62]:List UInt8))) else(some false)) else(none)) else(some false)) else(some false)) else(some false)) else(some false))))
theorem stowagelaw13_awake.mono:∀ k,LeO (stowagelaw13_awake.f k) (stowagelaw13_awake.f (k+1)):=by
 intro  k
 unfold stowagelaw13_awake.f
 with_reducible repeat' first|exact xml_Parse.mono _ _|exact xml_Print.mono _ _ _ _ _|exact LeO.refl _|exact LeO.none _|refine LeO.ite ?_ ?_|refine LeO.bind ?_ (fun _=>?_)
theorem stowagelaw13_awake.calls (k:Nat)  (r:Bool) (w:World) (hG:GOk w) (h:stowagelaw13_awake.f k  = some r) :
    Calls Tryd.prog 14 #[] w fun e w'=>e = .returned (.bool r)∧Below w.heap.size w w':=by
 have hu24:=Tryd.underlying24
 have HB:=Aside0.mk (Below.refl w.heap.size w)
 unfold stowagelaw13_awake.f at h
 have H:=h
 clear h
 replace H:=bndO H
 obtain⟨⟨t128,t129,t130,t133⟩,A10,H⟩:=H
 dsimp only at H
 have A1:=Aside0.mk A10
 clear A10
 replace H:=bndO H
 obtain⟨⟨t135,t136,t137⟩,A20,H⟩:=H
 dsimp only at H
 have A2:=Aside0.mk A20
 clear A20
 replace H:=bndO H
 obtain⟨⟨t140,t141⟩,A30,H⟩:=H
 dsimp only at H
 have A3:=Aside0.mk A30
 clear A30
 replace H:=itO H
 rcases H with⟨c4,H⟩|⟨c4,H⟩
 {
 have c4b0:(t133 == 0)=true:=beq_iff_eq.mpr c4
 clear c4
 replace H:=itO H
 rcases H with⟨c5,H⟩|⟨c5,H⟩
 {
 have c5b0:(t141 == 0)=true:=beq_iff_eq.mpr c5
 clear c5
 replace H:=itO H
 rcases H with⟨c6,H⟩|⟨c6,H⟩
 {
 have c6b0:(t128.toList == ([97]:List UInt8))=true:=beq_iff_eq.mpr c6
 clear c6
 replace H:=itO H
 rcases H with⟨c7,H⟩|⟨c7,H⟩
 {
 have c7b0:((t130.length:Int) == 2)=true:=beq_iff_eq.mpr c7
 clear c7
 replace H:=itO H
 rcases H with⟨c8,H⟩|⟨c8,H⟩
 {
 have c8b0:decide (0<(t130.length:Int))=true:=decide_eq_true c8
 clear c8
 replace H:=itO H
 rcases H with⟨c9,H⟩|⟨c9,H⟩
 {
 have c9b0:(((rd_T24 t130 0).f1).toList == ([49,32,60,32,50]:List UInt8))=true:=beq_iff_eq.mpr c9
 clear c9
 obtain rfl:=Option.some.inj H
 go_enter Tryd.func14,Tryd.ntmps14
 go_wp2_with (first|((with_reducible refine gate_callee (f:=10) rfl ?_);refine goesL_ (some 6) rfl rfl Tryd.func10 kr rfl #[.string (⟨#[60,97,32,120,61,34,49,34,62,32,60,98,62,49,32,38,108,116,59,32,50,60,47,98,62,60,99,47,62,60,47,97,62]⟩ : ByteArray)] rfl am ?_;(with_reducible refine(xml_Parse.calls k (⟨#[60,97,32,120,61,34,49,34,62,32,60,98,62,49,32,38,108,116,59,32,50,60,47,98,62,60,99,47,62,60,47,97,62]⟩ : ByteArray) t128 t129 t130 t133 _ gk A1.out).mono ?_);rintro e w10 ⟨v131,rfl,ho0,hb⟩;refine⟨_,rfl,?_⟩;have HO132:=Aside0.mk (Kd.V_lower (Kd.V_mono (ok':=fun k_=>True) ho0 (fun k_ hk_=>trivial)) (below_size bl));replace HB:=Aside0.mk (below_step bl hb))|((with_reducible refine gate_dst (N:=1) rfl ?_);(try (refine gate_guard (by rfl) ?_;dsimp only));refine box_event ?hg (N:=1) ?hd (cs:=#[.string (⟨#[]⟩ : ByteArray),.string (⟨#[]⟩ : ByteArray),.slice none 0 0]) (t:=24) ?hr ?_;(case hd=>rfl);(case hg=>rfl);(case hr=>first|(go_simp;done)|(go_simp;rfl));intro gb134 hg w11 hbox hb;replace HO132:=Aside0.mk (Kd.V_below (Kd.V_elderB (by(with_reducible repeat (first|apply Kd.V_alloc|apply Kd.V_drewN|apply Kd.V_drew));exact HO132.out) gb134 (Nat.le_of_eq hg.symm)) hb);have BK134:=Aside0.mk (hbox);have GW134:=Aside0.mk ((by rw [hg];exact(below_size bl):w.heap.size≤gb134));have GE134:=Aside0.mk ((by rw [hg];exact(below_size bl):w.heap.size≤gb134));replace HB:=Aside0.mk (below_step bl hb);clear hb hbox hg;obtain⟨_,_,_,_,_,_⟩:=bc3 BK134.out;obtain⟨Ao13,co13,eo13⟩:=Kd.V_slice HO132.out;subst eo13)|((with_reducible refine gate_callee (f:=23) rfl ?_);refine goesL_ (some 10) rfl rfl Tryd.func23 kr rfl #[.string (⟨#[97]⟩ : ByteArray),.string (⟨#[120,38,121]⟩ : ByteArray)] rfl am ?_;(with_reducible refine(xml_Of.calls (⟨#[97]⟩ : ByteArray) (⟨#[120,38,121]⟩ : ByteArray) t135 t136 t137 _ A2.out).mono ?_);rintro e w14 ⟨v138,rfl,ho0,hb⟩;refine⟨_,rfl,?_⟩;replace HO132:=Aside0.mk (Kd.V_elder' (by(with_reducible repeat (first|apply Kd.V_alloc|apply Kd.V_drewN|apply Kd.V_drew));exact(Kd.V_mono (Kd.V_far (p:=⟨gb134,2,none⟩) (Kd.V_far (p:=⟨gb134,1,none⟩) (Kd.V_far (p:=⟨gb134,0,none⟩) (Kd.V_mono HO132.out (fun k_ hk=>(⟨hk,hk.2⟩ : _∧k_≠gb134))) (fun _ hk=>hk.2) (.string t128)) (fun _ hk=>hk.2) (.string t129)) (fun _ hk=>hk.2) (.slice Ao13 t130.length co13)) (fun _ h_=>h_.1))) (by first|exact Kd.R_base ho0|exact Kd.R_base ho0) hb);have HO139:=Aside0.mk (Kd.R_lower (Kd.R_newB ho0 (g:=gb134) (o:=.cells #[.string t128,.string t129,.slice Ao13 t130.length co13] 24 (0,0)) (by(with_reducible repeat (first|refine blk_drewN ?_ _|refine blk_drew ?_|refine blk_alloc ?_ _));refine blk_put (cs:=#[.string t128,.string t129,.slice none 0 0]) ?_ 2 _ rfl;(with_reducible repeat (first|refine blk_drewN ?_ _|refine blk_drew ?_|refine blk_alloc ?_ _));refine blk_put (cs:=#[.string t128,.string (⟨#[]⟩ : ByteArray),.slice none 0 0]) ?_ 1 _ rfl;(with_reducible repeat (first|refine blk_drewN ?_ _|refine blk_drew ?_|refine blk_alloc ?_ _));refine blk_put (cs:=#[.string (⟨#[]⟩ : ByteArray),.string (⟨#[]⟩ : ByteArray),.slice none 0 0]) ?_ 0 _ rfl;(with_reducible repeat (first|refine blk_drewN ?_ _|refine blk_drew ?_|refine blk_alloc ?_ _));exact BK134.out)) (below_size bl));replace BK134:=Aside0.mk (blk_below (g:=gb134) (o:=.cells #[.string t128,.string t129,.slice Ao13 t130.length co13] 24 (0,0)) (by(with_reducible repeat (first|refine blk_drewN ?_ _|refine blk_drew ?_|refine blk_alloc ?_ _));refine blk_put (cs:=#[.string t128,.string t129,.slice none 0 0]) ?_ 2 _ rfl;(with_reducible repeat (first|refine blk_drewN ?_ _|refine blk_drew ?_|refine blk_alloc ?_ _));refine blk_put (cs:=#[.string t128,.string (⟨#[]⟩ : ByteArray),.slice none 0 0]) ?_ 1 _ rfl;(with_reducible repeat (first|refine blk_drewN ?_ _|refine blk_drew ?_|refine blk_alloc ?_ _));refine blk_put (cs:=#[.string (⟨#[]⟩ : ByteArray),.string (⟨#[]⟩ : ByteArray),.slice none 0 0]) ?_ 0 _ rfl;(with_reducible repeat (first|refine blk_drewN ?_ _|refine blk_drew ?_|refine blk_alloc ?_ _));exact BK134.out) hb);replace HB:=Aside0.mk (below_step bl hb);obtain⟨Ao15,co15,eo15⟩:=Kd.R_slice HO139.out;subst eo15)|((with_reducible refine gate_callee (f:=22) rfl ?_);refine goesL_ (some 11) rfl rfl Tryd.func22 kr rfl #[.agg #[.string t135,.string t136,.slice Ao15 t137.length co15],.bool false] rfl am ?_;(with_reducible refine(xml_Print.calls k t135 t136 _ _ t137 false t140 t141 _ ?side1 ?side2 A3.out).mono ?_);(case side1=>repeat (first|exact(Kd.R_reads' HO139.out).2.2|(with_reducible refine Kd.C_alloc ?_ _)|(with_reducible refine Kd.C_drewN ?_ _)|(with_reducible refine Kd.C_drew ?_)));(case side2=>exact(Kd.R_reads' HO139.out).2.1);rintro e w16 ⟨rfl,hb⟩;refine⟨_,rfl,?_⟩;replace HO132:=Aside0.mk (Kd.V_below (by(with_reducible repeat (first|apply Kd.V_alloc|apply Kd.V_drewN|apply Kd.V_drew));exact HO132.out) hb);replace HO139:=Aside0.mk (Kd.R_below rl hb);replace BK134:=Aside0.mk (blk_below (g:=gb134) (o:=.cells #[.string t128,.string t129,.slice Ao13 t130.length co13] 24 (0,0)) kl hb);replace HB:=Aside0.mk (below_step bl hb);obtain⟨_,_,_,_,_,_⟩:=bc3 BK134.out;have p142:0≤(0:Int):=(by omega);have q142:0<(t130.length:Int):=of_decide_eq_true asm;obtain⟨ad142,A142_2,c142_2,e142,hx142_0,hx142_1,hx142_2,hl142_2,hi142_2⟩:=at_T24 (Kd.V_reads' HO132.out).2.2 0 p142 q142;cases e142;obtain⟨ce142,hce142,hMe142,hcc142⟩:=Kd.V_get HO132.out z24 0 p142 (by first|exact q142|exact of_decide_eq_true asm|(have e_:=(Kd.V_reads' HO132.out).1;omega));obtain⟨ua142_2,uc142_2,rfl,ul142_2,ge142_2⟩:=k24_openF hMe142;have hv142_2:=hcc142 2 _ rfl;rw [add_field _ _ 2 (by omega)] at hv142_2;replace hv142_2:=Option.some.inj (hv142_2.symm.trans hx142_2);injection hv142_2 with hva_ hvn_ hvc_;rw [hva_] at ge142_2;rw [hvc_] at ul142_2;have HL142_2:=Aside0.mk (show Kd.V k24 24 _ w.heap.size _ _ ((rd_T24 t130 0).f2) from Kd.V_mk ul142_2 ge142_2);clear hva_ hvn_ hvc_ ge142_2 ul142_2;clear hcc142 hce142;have qi142:(0<t130.length)=True:=eq_true (by omega);(try rw [show((0:Int)).toNat=0 from rfl] at hx142_0);(try rw [show 0*3=0 from rfl] at hx142_0);(try rw [Addr.add_zero'] at hx142_0);(try rw [show((0:Int)).toNat=0 from rfl] at hx142_1);(try rw [show 0*3=0 from rfl] at hx142_1);(try rw [Addr.add_zero'] at hx142_1);(try rw [show((0:Int)).toNat=0 from rfl] at hx142_2);(try rw [show 0*3=0 from rfl] at hx142_2);(try rw [Addr.add_zero'] at hx142_2);have HR142_2:=Aside0.mk hi142_2;have HC142_2:=Aside0.mk hl142_2;clear hi142_2 hl142_2;replace p142:=eq_true p142;replace q142:=eq_true q142))
 go_ret
 exact⟨ew,bl⟩
 }
 {
 have c9b0:(((rd_T24 t130 0).f1).toList == ([49,32,60,32,50]:List UInt8))=false:=beq_eq_false_iff_ne.mpr c9
 obtain rfl:=Option.some.inj H
 go_enter Tryd.func14,Tryd.ntmps14
 go_wp2_with (first|((with_reducible refine gate_callee (f:=10) rfl ?_);refine goesL_ (some 6) rfl rfl Tryd.func10 kr rfl #[.string (⟨#[60,97,32,120,61,34,49,34,62,32,60,98,62,49,32,38,108,116,59,32,50,60,47,98,62,60,99,47,62,60,47,97,62]⟩ : ByteArray)] rfl am ?_;(with_reducible refine(xml_Parse.calls k (⟨#[60,97,32,120,61,34,49,34,62,32,60,98,62,49,32,38,108,116,59,32,50,60,47,98,62,60,99,47,62,60,47,97,62]⟩ : ByteArray) t128 t129 t130 t133 _ gk A1.out).mono ?_);rintro e w18 ⟨v131,rfl,ho0,hb⟩;refine⟨_,rfl,?_⟩;have HO132:=Aside0.mk (Kd.V_lower (Kd.V_mono (ok':=fun k_=>True) ho0 (fun k_ hk_=>trivial)) (below_size bl));replace HB:=Aside0.mk (below_step bl hb))|((with_reducible refine gate_dst (N:=1) rfl ?_);(try (refine gate_guard (by rfl) ?_;dsimp only));refine box_event ?hg (N:=1) ?hd (cs:=#[.string (⟨#[]⟩ : ByteArray),.string (⟨#[]⟩ : ByteArray),.slice none 0 0]) (t:=24) ?hr ?_;(case hd=>rfl);(case hg=>rfl);(case hr=>first|(go_simp;done)|(go_simp;rfl));intro gb134 hg w19 hbox hb;replace HO132:=Aside0.mk (Kd.V_below (Kd.V_elderB (by(with_reducible repeat (first|apply Kd.V_alloc|apply Kd.V_drewN|apply Kd.V_drew));exact HO132.out) gb134 (Nat.le_of_eq hg.symm)) hb);have BK134:=Aside0.mk (hbox);have GW134:=Aside0.mk ((by rw [hg];exact(below_size bl):w.heap.size≤gb134));have GE134:=Aside0.mk ((by rw [hg];exact(below_size bl):w.heap.size≤gb134));replace HB:=Aside0.mk (below_step bl hb);clear hb hbox hg;obtain⟨_,_,_,_,_,_⟩:=bc3 BK134.out;obtain⟨Ao21,co21,eo21⟩:=Kd.V_slice HO132.out;subst eo21)|((with_reducible refine gate_callee (f:=23) rfl ?_);refine goesL_ (some 10) rfl rfl Tryd.func23 kr rfl #[.string (⟨#[97]⟩ : ByteArray),.string (⟨#[120,38,121]⟩ : ByteArray)] rfl am ?_;(with_reducible refine(xml_Of.calls (⟨#[97]⟩ : ByteArray) (⟨#[120,38,121]⟩ : ByteArray) t135 t136 t137 _ A2.out).mono ?_);rintro e w22 ⟨v138,rfl,ho0,hb⟩;refine⟨_,rfl,?_⟩;replace HO132:=Aside0.mk (Kd.V_elder' (by(with_reducible repeat (first|apply Kd.V_alloc|apply Kd.V_drewN|apply Kd.V_drew));exact(Kd.V_mono (Kd.V_far (p:=⟨gb134,2,none⟩) (Kd.V_far (p:=⟨gb134,1,none⟩) (Kd.V_far (p:=⟨gb134,0,none⟩) (Kd.V_mono HO132.out (fun k_ hk=>(⟨hk,hk.2⟩ : _∧k_≠gb134))) (fun _ hk=>hk.2) (.string t128)) (fun _ hk=>hk.2) (.string t129)) (fun _ hk=>hk.2) (.slice Ao21 t130.length co21)) (fun _ h_=>h_.1))) (by first|exact Kd.R_base ho0|exact Kd.R_base ho0) hb);have HO139:=Aside0.mk (Kd.R_lower (Kd.R_newB ho0 (g:=gb134) (o:=.cells #[.string t128,.string t129,.slice Ao21 t130.length co21] 24 (0,0)) (by(with_reducible repeat (first|refine blk_drewN ?_ _|refine blk_drew ?_|refine blk_alloc ?_ _));refine blk_put (cs:=#[.string t128,.string t129,.slice none 0 0]) ?_ 2 _ rfl;(with_reducible repeat (first|refine blk_drewN ?_ _|refine blk_drew ?_|refine blk_alloc ?_ _));refine blk_put (cs:=#[.string t128,.string (⟨#[]⟩ : ByteArray),.slice none 0 0]) ?_ 1 _ rfl;(with_reducible repeat (first|refine blk_drewN ?_ _|refine blk_drew ?_|refine blk_alloc ?_ _));refine blk_put (cs:=#[.string (⟨#[]⟩ : ByteArray),.string (⟨#[]⟩ : ByteArray),.slice none 0 0]) ?_ 0 _ rfl;(with_reducible repeat (first|refine blk_drewN ?_ _|refine blk_drew ?_|refine blk_alloc ?_ _));exact BK134.out)) (below_size bl));replace BK134:=Aside0.mk (blk_below (g:=gb134) (o:=.cells #[.string t128,.string t129,.slice Ao21 t130.length co21] 24 (0,0)) (by(with_reducible repeat (first|refine blk_drewN ?_ _|refine blk_drew ?_|refine blk_alloc ?_ _));refine blk_put (cs:=#[.string t128,.string t129,.slice none 0 0]) ?_ 2 _ rfl;(with_reducible repeat (first|refine blk_drewN ?_ _|refine blk_drew ?_|refine blk_alloc ?_ _));refine blk_put (cs:=#[.string t128,.string (⟨#[]⟩ : ByteArray),.slice none 0 0]) ?_ 1 _ rfl;(with_reducible repeat (first|refine blk_drewN ?_ _|refine blk_drew ?_|refine blk_alloc ?_ _));refine blk_put (cs:=#[.string (⟨#[]⟩ : ByteArray),.string (⟨#[]⟩ : ByteArray),.slice none 0 0]) ?_ 0 _ rfl;(with_reducible repeat (first|refine blk_drewN ?_ _|refine blk_drew ?_|refine blk_alloc ?_ _));exact BK134.out) hb);replace HB:=Aside0.mk (below_step bl hb);obtain⟨Ao23,co23,eo23⟩:=Kd.R_slice HO139.out;subst eo23)|((with_reducible refine gate_callee (f:=22) rfl ?_);refine goesL_ (some 11) rfl rfl Tryd.func22 kr rfl #[.agg #[.string t135,.string t136,.slice Ao23 t137.length co23],.bool false] rfl am ?_;(with_reducible refine(xml_Print.calls k t135 t136 _ _ t137 false t140 t141 _ ?side1 ?side2 A3.out).mono ?_);(case side1=>repeat (first|exact(Kd.R_reads' HO139.out).2.2|(with_reducible refine Kd.C_alloc ?_ _)|(with_reducible refine Kd.C_drewN ?_ _)|(with_reducible refine Kd.C_drew ?_)));(case side2=>exact(Kd.R_reads' HO139.out).2.1);rintro e w24 ⟨rfl,hb⟩;refine⟨_,rfl,?_⟩;replace HO132:=Aside0.mk (Kd.V_below (by(with_reducible repeat (first|apply Kd.V_alloc|apply Kd.V_drewN|apply Kd.V_drew));exact HO132.out) hb);replace HO139:=Aside0.mk (Kd.R_below rl hb);replace BK134:=Aside0.mk (blk_below (g:=gb134) (o:=.cells #[.string t128,.string t129,.slice Ao21 t130.length co21] 24 (0,0)) kl hb);replace HB:=Aside0.mk (below_step bl hb);obtain⟨_,_,_,_,_,_⟩:=bc3 BK134.out;have p142:0≤(0:Int):=(by omega);have q142:0<(t130.length:Int):=of_decide_eq_true asm;obtain⟨ad142,A142_2,c142_2,e142,hx142_0,hx142_1,hx142_2,hl142_2,hi142_2⟩:=at_T24 (Kd.V_reads' HO132.out).2.2 0 p142 q142;cases e142;obtain⟨ce142,hce142,hMe142,hcc142⟩:=Kd.V_get HO132.out z24 0 p142 (by first|exact q142|exact of_decide_eq_true asm|(have e_:=(Kd.V_reads' HO132.out).1;omega));obtain⟨ua142_2,uc142_2,rfl,ul142_2,ge142_2⟩:=k24_openF hMe142;have hv142_2:=hcc142 2 _ rfl;rw [add_field _ _ 2 (by omega)] at hv142_2;replace hv142_2:=Option.some.inj (hv142_2.symm.trans hx142_2);injection hv142_2 with hva_ hvn_ hvc_;rw [hva_] at ge142_2;rw [hvc_] at ul142_2;have HL142_2:=Aside0.mk (show Kd.V k24 24 _ w.heap.size _ _ ((rd_T24 t130 0).f2) from Kd.V_mk ul142_2 ge142_2);clear hva_ hvn_ hvc_ ge142_2 ul142_2;clear hcc142 hce142;have qi142:(0<t130.length)=True:=eq_true (by omega);(try rw [show((0:Int)).toNat=0 from rfl] at hx142_0);(try rw [show 0*3=0 from rfl] at hx142_0);(try rw [Addr.add_zero'] at hx142_0);(try rw [show((0:Int)).toNat=0 from rfl] at hx142_1);(try rw [show 0*3=0 from rfl] at hx142_1);(try rw [Addr.add_zero'] at hx142_1);(try rw [show((0:Int)).toNat=0 from rfl] at hx142_2);(try rw [show 0*3=0 from rfl] at hx142_2);(try rw [Addr.add_zero'] at hx142_2);have HR142_2:=Aside0.mk hi142_2;have HC142_2:=Aside0.mk hl142_2;clear hi142_2 hl142_2;replace p142:=eq_true p142;replace q142:=eq_true q142))
 go_ret
 exact⟨ew,bl⟩
 }
 }
 ·exact absurd H (by simp)
 }
 {
 have c7b0:((t130.length:Int) == 2)=false:=beq_eq_false_iff_ne.mpr c7
 obtain rfl:=Option.some.inj H
 go_enter Tryd.func14,Tryd.ntmps14
 go_wp2_with (first|((with_reducible refine gate_callee (f:=10) rfl ?_);refine goesL_ (some 6) rfl rfl Tryd.func10 kr rfl #[.string (⟨#[60,97,32,120,61,34,49,34,62,32,60,98,62,49,32,38,108,116,59,32,50,60,47,98,62,60,99,47,62,60,47,97,62]⟩ : ByteArray)] rfl am ?_;(with_reducible refine(xml_Parse.calls k (⟨#[60,97,32,120,61,34,49,34,62,32,60,98,62,49,32,38,108,116,59,32,50,60,47,98,62,60,99,47,62,60,47,97,62]⟩ : ByteArray) t128 t129 t130 t133 _ gk A1.out).mono ?_);rintro e w26 ⟨v131,rfl,ho0,hb⟩;refine⟨_,rfl,?_⟩;have HO132:=Aside0.mk (Kd.V_lower (Kd.V_mono (ok':=fun k_=>True) ho0 (fun k_ hk_=>trivial)) (below_size bl));replace HB:=Aside0.mk (below_step bl hb))|((with_reducible refine gate_dst (N:=1) rfl ?_);(try (refine gate_guard (by rfl) ?_;dsimp only));refine box_event ?hg (N:=1) ?hd (cs:=#[.string (⟨#[]⟩ : ByteArray),.string (⟨#[]⟩ : ByteArray),.slice none 0 0]) (t:=24) ?hr ?_;(case hd=>rfl);(case hg=>rfl);(case hr=>first|(go_simp;done)|(go_simp;rfl));intro gb134 hg w27 hbox hb;replace HO132:=Aside0.mk (Kd.V_below (Kd.V_elderB (by(with_reducible repeat (first|apply Kd.V_alloc|apply Kd.V_drewN|apply Kd.V_drew));exact HO132.out) gb134 (Nat.le_of_eq hg.symm)) hb);have BK134:=Aside0.mk (hbox);have GW134:=Aside0.mk ((by rw [hg];exact(below_size bl):w.heap.size≤gb134));have GE134:=Aside0.mk ((by rw [hg];exact(below_size bl):w.heap.size≤gb134));replace HB:=Aside0.mk (below_step bl hb);clear hb hbox hg;obtain⟨_,_,_,_,_,_⟩:=bc3 BK134.out;obtain⟨Ao29,co29,eo29⟩:=Kd.V_slice HO132.out;subst eo29)|((with_reducible refine gate_callee (f:=23) rfl ?_);refine goesL_ (some 10) rfl rfl Tryd.func23 kr rfl #[.string (⟨#[97]⟩ : ByteArray),.string (⟨#[120,38,121]⟩ : ByteArray)] rfl am ?_;(with_reducible refine(xml_Of.calls (⟨#[97]⟩ : ByteArray) (⟨#[120,38,121]⟩ : ByteArray) t135 t136 t137 _ A2.out).mono ?_);rintro e w30 ⟨v138,rfl,ho0,hb⟩;refine⟨_,rfl,?_⟩;replace HO132:=Aside0.mk (Kd.V_elder' (by(with_reducible repeat (first|apply Kd.V_alloc|apply Kd.V_drewN|apply Kd.V_drew));exact(Kd.V_mono (Kd.V_far (p:=⟨gb134,2,none⟩) (Kd.V_far (p:=⟨gb134,1,none⟩) (Kd.V_far (p:=⟨gb134,0,none⟩) (Kd.V_mono HO132.out (fun k_ hk=>(⟨hk,hk.2⟩ : _∧k_≠gb134))) (fun _ hk=>hk.2) (.string t128)) (fun _ hk=>hk.2) (.string t129)) (fun _ hk=>hk.2) (.slice Ao29 t130.length co29)) (fun _ h_=>h_.1))) (by first|exact Kd.R_base ho0|exact Kd.R_base ho0) hb);have HO139:=Aside0.mk (Kd.R_lower (Kd.R_newB ho0 (g:=gb134) (o:=.cells #[.string t128,.string t129,.slice Ao29 t130.length co29] 24 (0,0)) (by(with_reducible repeat (first|refine blk_drewN ?_ _|refine blk_drew ?_|refine blk_alloc ?_ _));refine blk_put (cs:=#[.string t128,.string t129,.slice none 0 0]) ?_ 2 _ rfl;(with_reducible repeat (first|refine blk_drewN ?_ _|refine blk_drew ?_|refine blk_alloc ?_ _));refine blk_put (cs:=#[.string t128,.string (⟨#[]⟩ : ByteArray),.slice none 0 0]) ?_ 1 _ rfl;(with_reducible repeat (first|refine blk_drewN ?_ _|refine blk_drew ?_|refine blk_alloc ?_ _));refine blk_put (cs:=#[.string (⟨#[]⟩ : ByteArray),.string (⟨#[]⟩ : ByteArray),.slice none 0 0]) ?_ 0 _ rfl;(with_reducible repeat (first|refine blk_drewN ?_ _|refine blk_drew ?_|refine blk_alloc ?_ _));exact BK134.out)) (below_size bl));replace BK134:=Aside0.mk (blk_below (g:=gb134) (o:=.cells #[.string t128,.string t129,.slice Ao29 t130.length co29] 24 (0,0)) (by(with_reducible repeat (first|refine blk_drewN ?_ _|refine blk_drew ?_|refine blk_alloc ?_ _));refine blk_put (cs:=#[.string t128,.string t129,.slice none 0 0]) ?_ 2 _ rfl;(with_reducible repeat (first|refine blk_drewN ?_ _|refine blk_drew ?_|refine blk_alloc ?_ _));refine blk_put (cs:=#[.string t128,.string (⟨#[]⟩ : ByteArray),.slice none 0 0]) ?_ 1 _ rfl;(with_reducible repeat (first|refine blk_drewN ?_ _|refine blk_drew ?_|refine blk_alloc ?_ _));refine blk_put (cs:=#[.string (⟨#[]⟩ : ByteArray),.string (⟨#[]⟩ : ByteArray),.slice none 0 0]) ?_ 0 _ rfl;(with_reducible repeat (first|refine blk_drewN ?_ _|refine blk_drew ?_|refine blk_alloc ?_ _));exact BK134.out) hb);replace HB:=Aside0.mk (below_step bl hb);obtain⟨Ao31,co31,eo31⟩:=Kd.R_slice HO139.out;subst eo31)|((with_reducible refine gate_callee (f:=22) rfl ?_);refine goesL_ (some 11) rfl rfl Tryd.func22 kr rfl #[.agg #[.string t135,.string t136,.slice Ao31 t137.length co31],.bool false] rfl am ?_;(with_reducible refine(xml_Print.calls k t135 t136 _ _ t137 false t140 t141 _ ?side1 ?side2 A3.out).mono ?_);(case side1=>repeat (first|exact(Kd.R_reads' HO139.out).2.2|(with_reducible refine Kd.C_alloc ?_ _)|(with_reducible refine Kd.C_drewN ?_ _)|(with_reducible refine Kd.C_drew ?_)));(case side2=>exact(Kd.R_reads' HO139.out).2.1);rintro e w32 ⟨rfl,hb⟩;refine⟨_,rfl,?_⟩;replace HO132:=Aside0.mk (Kd.V_below (by(with_reducible repeat (first|apply Kd.V_alloc|apply Kd.V_drewN|apply Kd.V_drew));exact HO132.out) hb);replace HO139:=Aside0.mk (Kd.R_below rl hb);replace BK134:=Aside0.mk (blk_below (g:=gb134) (o:=.cells #[.string t128,.string t129,.slice Ao29 t130.length co29] 24 (0,0)) kl hb);replace HB:=Aside0.mk (below_step bl hb);obtain⟨_,_,_,_,_,_⟩:=bc3 BK134.out))
 go_ret
 exact⟨ew,bl⟩
 }
 }
 {
 have c6b0:(t128.toList == ([97]:List UInt8))=false:=beq_eq_false_iff_ne.mpr c6
 obtain rfl:=Option.some.inj H
 go_enter Tryd.func14,Tryd.ntmps14
 go_wp2_with (first|((with_reducible refine gate_callee (f:=10) rfl ?_);refine goesL_ (some 6) rfl rfl Tryd.func10 kr rfl #[.string (⟨#[60,97,32,120,61,34,49,34,62,32,60,98,62,49,32,38,108,116,59,32,50,60,47,98,62,60,99,47,62,60,47,97,62]⟩ : ByteArray)] rfl am ?_;(with_reducible refine(xml_Parse.calls k (⟨#[60,97,32,120,61,34,49,34,62,32,60,98,62,49,32,38,108,116,59,32,50,60,47,98,62,60,99,47,62,60,47,97,62]⟩ : ByteArray) t128 t129 t130 t133 _ gk A1.out).mono ?_);rintro e w34 ⟨v131,rfl,ho0,hb⟩;refine⟨_,rfl,?_⟩;have HO132:=Aside0.mk (Kd.V_lower (Kd.V_mono (ok':=fun k_=>True) ho0 (fun k_ hk_=>trivial)) (below_size bl));replace HB:=Aside0.mk (below_step bl hb))|((with_reducible refine gate_dst (N:=1) rfl ?_);(try (refine gate_guard (by rfl) ?_;dsimp only));refine box_event ?hg (N:=1) ?hd (cs:=#[.string (⟨#[]⟩ : ByteArray),.string (⟨#[]⟩ : ByteArray),.slice none 0 0]) (t:=24) ?hr ?_;(case hd=>rfl);(case hg=>rfl);(case hr=>first|(go_simp;done)|(go_simp;rfl));intro gb134 hg w35 hbox hb;replace HO132:=Aside0.mk (Kd.V_below (Kd.V_elderB (by(with_reducible repeat (first|apply Kd.V_alloc|apply Kd.V_drewN|apply Kd.V_drew));exact HO132.out) gb134 (Nat.le_of_eq hg.symm)) hb);have BK134:=Aside0.mk (hbox);have GW134:=Aside0.mk ((by rw [hg];exact(below_size bl):w.heap.size≤gb134));have GE134:=Aside0.mk ((by rw [hg];exact(below_size bl):w.heap.size≤gb134));replace HB:=Aside0.mk (below_step bl hb);clear hb hbox hg;obtain⟨_,_,_,_,_,_⟩:=bc3 BK134.out;obtain⟨Ao37,co37,eo37⟩:=Kd.V_slice HO132.out;subst eo37)|((with_reducible refine gate_callee (f:=23) rfl ?_);refine goesL_ (some 10) rfl rfl Tryd.func23 kr rfl #[.string (⟨#[97]⟩ : ByteArray),.string (⟨#[120,38,121]⟩ : ByteArray)] rfl am ?_;(with_reducible refine(xml_Of.calls (⟨#[97]⟩ : ByteArray) (⟨#[120,38,121]⟩ : ByteArray) t135 t136 t137 _ A2.out).mono ?_);rintro e w38 ⟨v138,rfl,ho0,hb⟩;refine⟨_,rfl,?_⟩;replace HO132:=Aside0.mk (Kd.V_elder' (by(with_reducible repeat (first|apply Kd.V_alloc|apply Kd.V_drewN|apply Kd.V_drew));exact(Kd.V_mono (Kd.V_far (p:=⟨gb134,2,none⟩) (Kd.V_far (p:=⟨gb134,1,none⟩) (Kd.V_far (p:=⟨gb134,0,none⟩) (Kd.V_mono HO132.out (fun k_ hk=>(⟨hk,hk.2⟩ : _∧k_≠gb134))) (fun _ hk=>hk.2) (.string t128)) (fun _ hk=>hk.2) (.string t129)) (fun _ hk=>hk.2) (.slice Ao37 t130.length co37)) (fun _ h_=>h_.1))) (by first|exact Kd.R_base ho0|exact Kd.R_base ho0) hb);have HO139:=Aside0.mk (Kd.R_lower (Kd.R_newB ho0 (g:=gb134) (o:=.cells #[.string t128,.string t129,.slice Ao37 t130.length co37] 24 (0,0)) (by(with_reducible repeat (first|refine blk_drewN ?_ _|refine blk_drew ?_|refine blk_alloc ?_ _));refine blk_put (cs:=#[.string t128,.string t129,.slice none 0 0]) ?_ 2 _ rfl;(with_reducible repeat (first|refine blk_drewN ?_ _|refine blk_drew ?_|refine blk_alloc ?_ _));refine blk_put (cs:=#[.string t128,.string (⟨#[]⟩ : ByteArray),.slice none 0 0]) ?_ 1 _ rfl;(with_reducible repeat (first|refine blk_drewN ?_ _|refine blk_drew ?_|refine blk_alloc ?_ _));refine blk_put (cs:=#[.string (⟨#[]⟩ : ByteArray),.string (⟨#[]⟩ : ByteArray),.slice none 0 0]) ?_ 0 _ rfl;(with_reducible repeat (first|refine blk_drewN ?_ _|refine blk_drew ?_|refine blk_alloc ?_ _));exact BK134.out)) (below_size bl));replace BK134:=Aside0.mk (blk_below (g:=gb134) (o:=.cells #[.string t128,.string t129,.slice Ao37 t130.length co37] 24 (0,0)) (by(with_reducible repeat (first|refine blk_drewN ?_ _|refine blk_drew ?_|refine blk_alloc ?_ _));refine blk_put (cs:=#[.string t128,.string t129,.slice none 0 0]) ?_ 2 _ rfl;(with_reducible repeat (first|refine blk_drewN ?_ _|refine blk_drew ?_|refine blk_alloc ?_ _));refine blk_put (cs:=#[.string t128,.string (⟨#[]⟩ : ByteArray),.slice none 0 0]) ?_ 1 _ rfl;(with_reducible repeat (first|refine blk_drewN ?_ _|refine blk_drew ?_|refine blk_alloc ?_ _));refine blk_put (cs:=#[.string (⟨#[]⟩ : ByteArray),.string (⟨#[]⟩ : ByteArray),.slice none 0 0]) ?_ 0 _ rfl;(with_reducible repeat (first|refine blk_drewN ?_ _|refine blk_drew ?_|refine blk_alloc ?_ _));exact BK134.out) hb);replace HB:=Aside0.mk (below_step bl hb);obtain⟨Ao39,co39,eo39⟩:=Kd.R_slice HO139.out;subst eo39)|((with_reducible refine gate_callee (f:=22) rfl ?_);refine goesL_ (some 11) rfl rfl Tryd.func22 kr rfl #[.agg #[.string t135,.string t136,.slice Ao39 t137.length co39],.bool false] rfl am ?_;(with_reducible refine(xml_Print.calls k t135 t136 _ _ t137 false t140 t141 _ ?side1 ?side2 A3.out).mono ?_);(case side1=>repeat (first|exact(Kd.R_reads' HO139.out).2.2|(with_reducible refine Kd.C_alloc ?_ _)|(with_reducible refine Kd.C_drewN ?_ _)|(with_reducible refine Kd.C_drew ?_)));(case side2=>exact(Kd.R_reads' HO139.out).2.1);rintro e w40 ⟨rfl,hb⟩;refine⟨_,rfl,?_⟩;replace HO132:=Aside0.mk (Kd.V_below (by(with_reducible repeat (first|apply Kd.V_alloc|apply Kd.V_drewN|apply Kd.V_drew));exact HO132.out) hb);replace HO139:=Aside0.mk (Kd.R_below rl hb);replace BK134:=Aside0.mk (blk_below (g:=gb134) (o:=.cells #[.string t128,.string t129,.slice Ao37 t130.length co37] 24 (0,0)) kl hb);replace HB:=Aside0.mk (below_step bl hb);obtain⟨_,_,_,_,_,_⟩:=bc3 BK134.out))
 go_ret
 exact⟨ew,bl⟩
 }
 }
 {
 have c5b0:(t141 == 0)=false:=beq_eq_false_iff_ne.mpr c5
 obtain rfl:=Option.some.inj H
 go_enter Tryd.func14,Tryd.ntmps14
 go_wp2_with (first|((with_reducible refine gate_callee (f:=10) rfl ?_);refine goesL_ (some 6) rfl rfl Tryd.func10 kr rfl #[.string (⟨#[60,97,32,120,61,34,49,34,62,32,60,98,62,49,32,38,108,116,59,32,50,60,47,98,62,60,99,47,62,60,47,97,62]⟩ : ByteArray)] rfl am ?_;(with_reducible refine(xml_Parse.calls k (⟨#[60,97,32,120,61,34,49,34,62,32,60,98,62,49,32,38,108,116,59,32,50,60,47,98,62,60,99,47,62,60,47,97,62]⟩ : ByteArray) t128 t129 t130 t133 _ gk A1.out).mono ?_);rintro e w42 ⟨v131,rfl,ho0,hb⟩;refine⟨_,rfl,?_⟩;have HO132:=Aside0.mk (Kd.V_lower (Kd.V_mono (ok':=fun k_=>True) ho0 (fun k_ hk_=>trivial)) (below_size bl));replace HB:=Aside0.mk (below_step bl hb))|((with_reducible refine gate_dst (N:=1) rfl ?_);(try (refine gate_guard (by rfl) ?_;dsimp only));refine box_event ?hg (N:=1) ?hd (cs:=#[.string (⟨#[]⟩ : ByteArray),.string (⟨#[]⟩ : ByteArray),.slice none 0 0]) (t:=24) ?hr ?_;(case hd=>rfl);(case hg=>rfl);(case hr=>first|(go_simp;done)|(go_simp;rfl));intro gb134 hg w43 hbox hb;replace HO132:=Aside0.mk (Kd.V_below (Kd.V_elderB (by(with_reducible repeat (first|apply Kd.V_alloc|apply Kd.V_drewN|apply Kd.V_drew));exact HO132.out) gb134 (Nat.le_of_eq hg.symm)) hb);have BK134:=Aside0.mk (hbox);have GW134:=Aside0.mk ((by rw [hg];exact(below_size bl):w.heap.size≤gb134));have GE134:=Aside0.mk ((by rw [hg];exact(below_size bl):w.heap.size≤gb134));replace HB:=Aside0.mk (below_step bl hb);clear hb hbox hg;obtain⟨_,_,_,_,_,_⟩:=bc3 BK134.out;obtain⟨Ao45,co45,eo45⟩:=Kd.V_slice HO132.out;subst eo45)|((with_reducible refine gate_callee (f:=23) rfl ?_);refine goesL_ (some 10) rfl rfl Tryd.func23 kr rfl #[.string (⟨#[97]⟩ : ByteArray),.string (⟨#[120,38,121]⟩ : ByteArray)] rfl am ?_;(with_reducible refine(xml_Of.calls (⟨#[97]⟩ : ByteArray) (⟨#[120,38,121]⟩ : ByteArray) t135 t136 t137 _ A2.out).mono ?_);rintro e w46 ⟨v138,rfl,ho0,hb⟩;refine⟨_,rfl,?_⟩;replace HO132:=Aside0.mk (Kd.V_elder' (by(with_reducible repeat (first|apply Kd.V_alloc|apply Kd.V_drewN|apply Kd.V_drew));exact(Kd.V_mono (Kd.V_far (p:=⟨gb134,2,none⟩) (Kd.V_far (p:=⟨gb134,1,none⟩) (Kd.V_far (p:=⟨gb134,0,none⟩) (Kd.V_mono HO132.out (fun k_ hk=>(⟨hk,hk.2⟩ : _∧k_≠gb134))) (fun _ hk=>hk.2) (.string t128)) (fun _ hk=>hk.2) (.string t129)) (fun _ hk=>hk.2) (.slice Ao45 t130.length co45)) (fun _ h_=>h_.1))) (by first|exact Kd.R_base ho0|exact Kd.R_base ho0) hb);have HO139:=Aside0.mk (Kd.R_lower (Kd.R_newB ho0 (g:=gb134) (o:=.cells #[.string t128,.string t129,.slice Ao45 t130.length co45] 24 (0,0)) (by(with_reducible repeat (first|refine blk_drewN ?_ _|refine blk_drew ?_|refine blk_alloc ?_ _));refine blk_put (cs:=#[.string t128,.string t129,.slice none 0 0]) ?_ 2 _ rfl;(with_reducible repeat (first|refine blk_drewN ?_ _|refine blk_drew ?_|refine blk_alloc ?_ _));refine blk_put (cs:=#[.string t128,.string (⟨#[]⟩ : ByteArray),.slice none 0 0]) ?_ 1 _ rfl;(with_reducible repeat (first|refine blk_drewN ?_ _|refine blk_drew ?_|refine blk_alloc ?_ _));refine blk_put (cs:=#[.string (⟨#[]⟩ : ByteArray),.string (⟨#[]⟩ : ByteArray),.slice none 0 0]) ?_ 0 _ rfl;(with_reducible repeat (first|refine blk_drewN ?_ _|refine blk_drew ?_|refine blk_alloc ?_ _));exact BK134.out)) (below_size bl));replace BK134:=Aside0.mk (blk_below (g:=gb134) (o:=.cells #[.string t128,.string t129,.slice Ao45 t130.length co45] 24 (0,0)) (by(with_reducible repeat (first|refine blk_drewN ?_ _|refine blk_drew ?_|refine blk_alloc ?_ _));refine blk_put (cs:=#[.string t128,.string t129,.slice none 0 0]) ?_ 2 _ rfl;(with_reducible repeat (first|refine blk_drewN ?_ _|refine blk_drew ?_|refine blk_alloc ?_ _));refine blk_put (cs:=#[.string t128,.string (⟨#[]⟩ : ByteArray),.slice none 0 0]) ?_ 1 _ rfl;(with_reducible repeat (first|refine blk_drewN ?_ _|refine blk_drew ?_|refine blk_alloc ?_ _));refine blk_put (cs:=#[.string (⟨#[]⟩ : ByteArray),.string (⟨#[]⟩ : ByteArray),.slice none 0 0]) ?_ 0 _ rfl;(with_reducible repeat (first|refine blk_drewN ?_ _|refine blk_drew ?_|refine blk_alloc ?_ _));exact BK134.out) hb);replace HB:=Aside0.mk (below_step bl hb);obtain⟨Ao47,co47,eo47⟩:=Kd.R_slice HO139.out;subst eo47)|((with_reducible refine gate_callee (f:=22) rfl ?_);refine goesL_ (some 11) rfl rfl Tryd.func22 kr rfl #[.agg #[.string t135,.string t136,.slice Ao47 t137.length co47],.bool false] rfl am ?_;(with_reducible refine(xml_Print.calls k t135 t136 _ _ t137 false t140 t141 _ ?side1 ?side2 A3.out).mono ?_);(case side1=>repeat (first|exact(Kd.R_reads' HO139.out).2.2|(with_reducible refine Kd.C_alloc ?_ _)|(with_reducible refine Kd.C_drewN ?_ _)|(with_reducible refine Kd.C_drew ?_)));(case side2=>exact(Kd.R_reads' HO139.out).2.1);rintro e w48 ⟨rfl,hb⟩;refine⟨_,rfl,?_⟩;replace HO132:=Aside0.mk (Kd.V_below (by(with_reducible repeat (first|apply Kd.V_alloc|apply Kd.V_drewN|apply Kd.V_drew));exact HO132.out) hb);replace HO139:=Aside0.mk (Kd.R_below rl hb);replace BK134:=Aside0.mk (blk_below (g:=gb134) (o:=.cells #[.string t128,.string t129,.slice Ao45 t130.length co45] 24 (0,0)) kl hb);replace HB:=Aside0.mk (below_step bl hb)))
 go_ret
 exact⟨ew,bl⟩
 }
 }
 {
 have c4b0:(t133 == 0)=false:=beq_eq_false_iff_ne.mpr c4
 obtain rfl:=Option.some.inj H
 go_enter Tryd.func14,Tryd.ntmps14
 go_wp2_with (first|((with_reducible refine gate_callee (f:=10) rfl ?_);refine goesL_ (some 6) rfl rfl Tryd.func10 kr rfl #[.string (⟨#[60,97,32,120,61,34,49,34,62,32,60,98,62,49,32,38,108,116,59,32,50,60,47,98,62,60,99,47,62,60,47,97,62]⟩ : ByteArray)] rfl am ?_;(with_reducible refine(xml_Parse.calls k (⟨#[60,97,32,120,61,34,49,34,62,32,60,98,62,49,32,38,108,116,59,32,50,60,47,98,62,60,99,47,62,60,47,97,62]⟩ : ByteArray) t128 t129 t130 t133 _ gk A1.out).mono ?_);rintro e w49 ⟨v131,rfl,ho0,hb⟩;refine⟨_,rfl,?_⟩;have HO132:=Aside0.mk (Kd.V_lower (Kd.V_mono (ok':=fun k_=>True) ho0 (fun k_ hk_=>trivial)) (below_size bl));replace HB:=Aside0.mk (below_step bl hb))|((with_reducible refine gate_dst (N:=1) rfl ?_);(try (refine gate_guard (by rfl) ?_;dsimp only));refine box_event ?hg (N:=1) ?hd (cs:=#[.string (⟨#[]⟩ : ByteArray),.string (⟨#[]⟩ : ByteArray),.slice none 0 0]) (t:=24) ?hr ?_;(case hd=>rfl);(case hg=>rfl);(case hr=>first|(go_simp;done)|(go_simp;rfl));intro gb134 hg w50 hbox hb;replace HO132:=Aside0.mk (Kd.V_below (Kd.V_elderB (by(with_reducible repeat (first|apply Kd.V_alloc|apply Kd.V_drewN|apply Kd.V_drew));exact HO132.out) gb134 (Nat.le_of_eq hg.symm)) hb);have BK134:=Aside0.mk (hbox);have GW134:=Aside0.mk ((by rw [hg];exact(below_size bl):w.heap.size≤gb134));have GE134:=Aside0.mk ((by rw [hg];exact(below_size bl):w.heap.size≤gb134));replace HB:=Aside0.mk (below_step bl hb);clear hb hbox hg;obtain⟨_,_,_,_,_,_⟩:=bc3 BK134.out;obtain⟨Ao52,co52,eo52⟩:=Kd.V_slice HO132.out;subst eo52)|((with_reducible refine gate_callee (f:=23) rfl ?_);refine goesL_ (some 10) rfl rfl Tryd.func23 kr rfl #[.string (⟨#[97]⟩ : ByteArray),.string (⟨#[120,38,121]⟩ : ByteArray)] rfl am ?_;(with_reducible refine(xml_Of.calls (⟨#[97]⟩ : ByteArray) (⟨#[120,38,121]⟩ : ByteArray) t135 t136 t137 _ A2.out).mono ?_);rintro e w53 ⟨v138,rfl,ho0,hb⟩;refine⟨_,rfl,?_⟩;replace HO132:=Aside0.mk (Kd.V_elder' (by(with_reducible repeat (first|apply Kd.V_alloc|apply Kd.V_drewN|apply Kd.V_drew));exact(Kd.V_mono (Kd.V_far (p:=⟨gb134,2,none⟩) (Kd.V_far (p:=⟨gb134,1,none⟩) (Kd.V_far (p:=⟨gb134,0,none⟩) (Kd.V_mono HO132.out (fun k_ hk=>(⟨hk,hk.2⟩ : _∧k_≠gb134))) (fun _ hk=>hk.2) (.string t128)) (fun _ hk=>hk.2) (.string t129)) (fun _ hk=>hk.2) (.slice Ao52 t130.length co52)) (fun _ h_=>h_.1))) (by first|exact Kd.R_base ho0|exact Kd.R_base ho0) hb);have HO139:=Aside0.mk (Kd.R_lower (Kd.R_newB ho0 (g:=gb134) (o:=.cells #[.string t128,.string t129,.slice Ao52 t130.length co52] 24 (0,0)) (by(with_reducible repeat (first|refine blk_drewN ?_ _|refine blk_drew ?_|refine blk_alloc ?_ _));refine blk_put (cs:=#[.string t128,.string t129,.slice none 0 0]) ?_ 2 _ rfl;(with_reducible repeat (first|refine blk_drewN ?_ _|refine blk_drew ?_|refine blk_alloc ?_ _));refine blk_put (cs:=#[.string t128,.string (⟨#[]⟩ : ByteArray),.slice none 0 0]) ?_ 1 _ rfl;(with_reducible repeat (first|refine blk_drewN ?_ _|refine blk_drew ?_|refine blk_alloc ?_ _));refine blk_put (cs:=#[.string (⟨#[]⟩ : ByteArray),.string (⟨#[]⟩ : ByteArray),.slice none 0 0]) ?_ 0 _ rfl;(with_reducible repeat (first|refine blk_drewN ?_ _|refine blk_drew ?_|refine blk_alloc ?_ _));exact BK134.out)) (below_size bl));replace BK134:=Aside0.mk (blk_below (g:=gb134) (o:=.cells #[.string t128,.string t129,.slice Ao52 t130.length co52] 24 (0,0)) (by(with_reducible repeat (first|refine blk_drewN ?_ _|refine blk_drew ?_|refine blk_alloc ?_ _));refine blk_put (cs:=#[.string t128,.string t129,.slice none 0 0]) ?_ 2 _ rfl;(with_reducible repeat (first|refine blk_drewN ?_ _|refine blk_drew ?_|refine blk_alloc ?_ _));refine blk_put (cs:=#[.string t128,.string (⟨#[]⟩ : ByteArray),.slice none 0 0]) ?_ 1 _ rfl;(with_reducible repeat (first|refine blk_drewN ?_ _|refine blk_drew ?_|refine blk_alloc ?_ _));refine blk_put (cs:=#[.string (⟨#[]⟩ : ByteArray),.string (⟨#[]⟩ : ByteArray),.slice none 0 0]) ?_ 0 _ rfl;(with_reducible repeat (first|refine blk_drewN ?_ _|refine blk_drew ?_|refine blk_alloc ?_ _));exact BK134.out) hb);replace HB:=Aside0.mk (below_step bl hb);obtain⟨Ao54,co54,eo54⟩:=Kd.R_slice HO139.out;subst eo54)|((with_reducible refine gate_callee (f:=22) rfl ?_);refine goesL_ (some 11) rfl rfl Tryd.func22 kr rfl #[.agg #[.string t135,.string t136,.slice Ao54 t137.length co54],.bool false] rfl am ?_;(with_reducible refine(xml_Print.calls k t135 t136 _ _ t137 false t140 t141 _ ?side1 ?side2 A3.out).mono ?_);(case side1=>repeat (first|exact(Kd.R_reads' HO139.out).2.2|(with_reducible refine Kd.C_alloc ?_ _)|(with_reducible refine Kd.C_drewN ?_ _)|(with_reducible refine Kd.C_drew ?_)));(case side2=>exact(Kd.R_reads' HO139.out).2.1);rintro e w55 ⟨rfl,hb⟩;refine⟨_,rfl,?_⟩;replace HO132:=Aside0.mk (Kd.V_below (by(with_reducible repeat (first|apply Kd.V_alloc|apply Kd.V_drewN|apply Kd.V_drew));exact HO132.out) hb);replace HO139:=Aside0.mk (Kd.R_below rl hb);replace BK134:=Aside0.mk (blk_below (g:=gb134) (o:=.cells #[.string t128,.string t129,.slice Ao52 t130.length co52] 24 (0,0)) kl hb);replace HB:=Aside0.mk (below_step bl hb)))
 go_ret
 exact⟨ew,bl⟩
 }
def stowageref3_Begins.f (a0:ByteArray) (a1:ByteArray):Option (Bool):=if(a0.size:Int) ≥ (a1.size:Int) then(if 0≤(a1.size:Int) then(if(a1.size:Int)≤(a0.size:Int) then(some ((a0.extract 0 a1.size).toList == a1.toList)) else(none)) else(none)) else(some false)
theorem stowageref3_Begins.calls (a0:ByteArray) (a1:ByteArray) (r:Bool) (w:World) (h:stowageref3_Begins.f a0 a1=some r) :
  Calls Tryd.prog 64 #[.string a0,.string a1] w fun e w'=>e = .returned (.bool r)∧Drawn0 w w':=by
 unfold stowageref3_Begins.f at h
 have H:=h
 clear h
 replace H:=itO H
 rcases H with⟨c3,H⟩|⟨c3,H⟩
 ·skip
  have c3b0:decide ((a1.size:Int)≤(a0.size:Int))=true:=decide_eq_true c3
  have c3b1:decide (a1.size≤a0.size)=true:=decide_eq_true (Int.ofNat_le.mp c3)
  clear c3
  replace H:=itO H
  rcases H with⟨c4,H⟩|⟨c4,H⟩
  ·skip
   have c4b0:=eq_true c4
   have c4b1:=decide_eq_true c4
   clear c4
   replace H:=itO H
   rcases H with⟨c5,H⟩|⟨c5,H⟩
   ·skip
    have c5b0:=eq_true c5
    have c5b1:=decide_eq_true c5
    clear c5
    obtain rfl:=Option.some.inj H
    go_enter Tryd.func64,Tryd.ntmps64
    go_wp2
    go_ret
    exact⟨by first|rfl|(simp;done)|(simp [*];done),by repeat (first|exact Drawn0.refl _|apply Drawn0.step)⟩
   ·exact absurd H (by simp)
  ·exact absurd H (by simp)
 ·skip
  have c3b0:decide ((a1.size:Int)≤(a0.size:Int))=false:=decide_eq_false c3
  have c3b1:decide (a1.size≤a0.size)=false:=decide_eq_false (fun h=>c3 (Int.ofNat_le.mpr h))
  clear c3
  obtain rfl:=Option.some.inj H
  go_enter Tryd.func64,Tryd.ntmps64
  go_wp2
  go_ret
  exact⟨by first|rfl|(simp;done)|(simp [*];done),by repeat (first|exact Drawn0.refl _|apply Drawn0.step)⟩
def stowageref13_white.f (a0:Int):Option (Bool):=if a0=32 then(some true) else(if a0=9 then(some true) else(if a0=10 then(some true) else(some (a0 == 13))))
theorem stowageref13_white.calls (a0:Int) (r:Bool) (w:World) (h:stowageref13_white.f a0=some r) :
  Calls Tryd.prog 65 #[.int .u8 a0] w fun e w'=>e = .returned (.bool r)∧Drawn0 w w':=by
 unfold stowageref13_white.f at h
 have H:=h
 clear h
 replace H:=itO H
 rcases H with⟨c2,H⟩|⟨c2,H⟩
 ·skip
  have c2b0:(a0 == 32)=true:=beq_iff_eq.mpr c2
  have c2b1:(a0 != 32)=false:=bne_eq_false_iff_eq.mpr c2
  clear c2
  obtain rfl:=Option.some.inj H
  go_enter Tryd.func65,Tryd.ntmps65
  go_wp2
  go_ret
  exact⟨by first|rfl|(simp;done)|(simp [*];done),by repeat (first|exact Drawn0.refl _|apply Drawn0.step)⟩
 ·skip
  have c2b0:(a0 == 32)=false:=beq_eq_false_iff_ne.mpr c2
  have c2b1:(a0 != 32)=true:=bne_iff_ne.mpr c2
  replace H:=itO H
  rcases H with⟨c3,H⟩|⟨c3,H⟩
  ·skip
   have c3b0:(a0 == 9)=true:=beq_iff_eq.mpr c3
   have c3b1:(a0 != 9)=false:=bne_eq_false_iff_eq.mpr c3
   clear c3
   obtain rfl:=Option.some.inj H
   go_enter Tryd.func65,Tryd.ntmps65
   go_wp2
   go_ret
   exact⟨by first|rfl|(simp;done)|(simp [*];done),by repeat (first|exact Drawn0.refl _|apply Drawn0.step)⟩
  ·skip
   have c3b0:(a0 == 9)=false:=beq_eq_false_iff_ne.mpr c3
   have c3b1:(a0 != 9)=true:=bne_iff_ne.mpr c3
   replace H:=itO H
   rcases H with⟨c4,H⟩|⟨c4,H⟩
   ·skip
    have c4b0:(a0 == 10)=true:=beq_iff_eq.mpr c4
    have c4b1:(a0 != 10)=false:=bne_eq_false_iff_eq.mpr c4
    clear c4
    obtain rfl:=Option.some.inj H
    go_enter Tryd.func65,Tryd.ntmps65
    go_wp2
    go_ret
    exact⟨by first|rfl|(simp;done)|(simp [*];done),by repeat (first|exact Drawn0.refl _|apply Drawn0.step)⟩
   ·skip
    have c4b0:(a0 == 10)=false:=beq_eq_false_iff_ne.mpr c4
    have c4b1:(a0 != 10)=true:=bne_iff_ne.mpr c4
    obtain rfl:=Option.some.inj H
    go_enter Tryd.func65,Tryd.ntmps65
    go_wp2
    go_ret
    exact⟨by first|rfl|(simp;done)|(simp [*];done),by repeat (first|exact Drawn0.refl _|apply Drawn0.step)⟩
def IsS61 (w0 W:World) (g:Nat) (f0:ByteArray) (f1:Int) (f2:Bool):Prop:=W.heap[g]? = some (.cells #[.string f0,.int .i64 f1,.bool f2] 61 (0,0))∧w0.heap.size≤g
theorem IsS61.grown {w0 W:World} {g:Nat} {f0:ByteArray} {f1:Int} {f2:Bool} {W1:World} {row:Option Nat} (h:IsS61 w0 W g f0 f1 f2) (hw:W.grownBy W1 row) (hne:some g≠row):IsS61 w0 W1 g f0 f1 f2:=by
 obtain⟨hb,hg⟩:=h
 exact⟨blk_grown hb hw hne,hg⟩
theorem IsS61.own_neN {w0 W:World} {g:Nat} {f0:ByteArray} {f1:Int} {f2:Bool} {α:Type} {d:Kd α} {e:Nat} {base:Nat} {ok:Nat→Prop} {v:Value} {xs:List α} (h:IsS61 w0 W g f0 f1 f2) (ho:Kd.N d e W base ok v xs) (ht:e≠61):some g≠v.ownBlock:=by
 obtain⟨hb,hg⟩:=h
 exact Kd.N_ne ho hb ht
theorem IsS61.fresh {w0 W:World} {g:Nat} {f0:ByteArray} {f1:Int} {f2:Bool} (h:IsS61 w0 W g f0 f1 f2):∀ k,W.heap.size≤k→k≠g:=by
 obtain⟨hb,hg⟩:=h
 exact Kd.freshB hb
theorem IsS61.kept {w0 W:World} {g:Nat} {f0:ByteArray} {f1:Int} {f2:Bool} {W1:World} {S:Nat→Prop} (h:IsS61 w0 W g f0 f1 f2) (hk:Kept W W1 S) (hne:¬ S g):IsS61 w0 W1 g f0 f1 f2:=by
 obtain⟨hb,hg⟩:=h
 exact⟨blk_kept hb hk hne,hg⟩
theorem IsS61.below {w0 W:World} {g:Nat} {f0:ByteArray} {f1:Int} {f2:Bool} {W1:World} (h:IsS61 w0 W g f0 f1 f2) (hw:Below W.heap.size W W1):IsS61 w0 W1 g f0 f1 f2:=h.grown (grown_of_below hw none) (by simp)
theorem IsS61.alloc {w0 W:World} {g:Nat} {f0:ByteArray} {f1:Int} {f2:Bool} (h:IsS61 w0 W g f0 f1 f2) (o:Obj):IsS61 w0 (W.alloc o) g f0 f1 f2:=h.below (below_alloc (Below.refl _ _) o)
theorem IsS61.drewN {w0 W:World} {g:Nat} {f0:ByteArray} {f1:Int} {f2:Bool} (h:IsS61 w0 W g f0 f1 f2) (m:Nat):IsS61 w0 (W.drewN m) g f0 f1 f2:=h
theorem IsS61.drew {w0 W:World} {g:Nat} {f0:ByteArray} {f1:Int} {f2:Bool} (h:IsS61 w0 W g f0 f1 f2):IsS61 w0 W.drew g f0 f1 f2:=h
theorem IsS61.at_ {w0 W:World} {g:Nat} {f0:ByteArray} {f1:Int} {f2:Bool} {w':World} {m:Nat} (hq:W.drewN m=w') (h:IsS61 w0 W g f0 f1 f2):IsS61 w0 w' g f0 f1 f2:=by subst hq;exact IsS61.drewN h m
theorem IsS61.apart {w0 W:World} {g:Nat} {f0:ByteArray} {f1:Int} {f2:Bool} {α:Type} {d:Kd α} {e:Nat} {base:Nat} {ok:Nat→Prop} {v:Value} {xs:List α} (h:IsS61 w0 W g f0 f1 f2) (ho:d.R e W base ok v xs) (ht:∀ q,q∈e :: d.E→q≠61):d.R e W base (fun k=>ok k∧k≠g) v xs:=by
 obtain⟨hb,hg⟩:=h
 exact Kd.R_types ho hb ht
theorem IsS61.own_ne {w0 W:World} {g:Nat} {f0:ByteArray} {f1:Int} {f2:Bool} {α:Type} {d:Kd α} {e:Nat} {base:Nat} {ok:Nat→Prop} {v:Value} {xs:List α} (h:IsS61 w0 W g f0 f1 f2) (ho:d.R e W base ok v xs) (ht:e≠61):some g≠v.ownBlock:=by
 obtain⟨hb,hg⟩:=h
 exact Kd.R_ne ho hb ht
theorem IsS61.apartQ {w0 W:World} {g:Nat} {f0:ByteArray} {f1:Int} {f2:Bool} {α:Type} {d:Kd α} {e:Nat} {base:Nat} {ok:Nat→Prop} {v:Value} {xs:List α} (h:IsS61 w0 W g f0 f1 f2) (ho:d.Q e W base ok v xs) (ht:∀ q,q∈e :: d.E→q≠61):d.Q e W base (fun k=>ok k∧k≠g) v xs:=by
 obtain⟨hb,hg⟩:=h
 exact Kd.Q_types ho hb ht
theorem IsS61.own_neQ {w0 W:World} {g:Nat} {f0:ByteArray} {f1:Int} {f2:Bool} {α:Type} {d:Kd α} {e:Nat} {base:Nat} {ok:Nat→Prop} {v:Value} {xs:List α} (h:IsS61 w0 W g f0 f1 f2) (ho:d.Q e W base ok v xs) (ht:e≠61):some g≠v.ownBlock:=by
 obtain⟨hb,hg⟩:=h
 exact Kd.Q_ne ho hb ht
theorem IsS61.apartS {w0 W:World} {g:Nat} {f0:ByteArray} {f1:Int} {f2:Bool} {α:Type} {d:Kd α} {e:Nat} {base:Nat} {ok:Nat→Prop} {v:Value} {xs:List α} (h:IsS61 w0 W g f0 f1 f2) (ho:d.S e W base ok v xs) (ht:∀ q,q∈e :: d.E→q≠61):d.S e W base (fun k=>ok k∧k≠g) v xs:=by
 obtain⟨hb,hg⟩:=h
 exact Kd.S_types ho hb ht
theorem IsS61.own_neS {w0 W:World} {g:Nat} {f0:ByteArray} {f1:Int} {f2:Bool} {α:Type} {d:Kd α} {e:Nat} {base:Nat} {ok:Nat→Prop} {v:Value} {xs:List α} (h:IsS61 w0 W g f0 f1 f2) (ho:d.S e W base ok v xs) (ht:e≠61):some g≠v.ownBlock:=by
 obtain⟨hb,hg⟩:=h
 exact Kd.S_ne ho hb ht
theorem IsS61.lt {w0 W:World} {g:Nat} {f0:ByteArray} {f1:Int} {f2:Bool} (h:IsS61 w0 W g f0 f1 f2):g<W.heap.size:=by
 obtain⟨hb,hg⟩:=h
 exact blk_lt hb
theorem IsS61.ge {w0 W:World} {g:Nat} {f0:ByteArray} {f1:Int} {f2:Bool} (h:IsS61 w0 W g f0 f1 f2):w0.heap.size≤g:=by
 obtain⟨hb,hg⟩:=h
 exact hg
theorem IsS61.ne_blk {w0 W:World} {g:Nat} {f0:ByteArray} {f1:Int} {f2:Bool} {a:Nat} {cs:Array Value} {t:TypeId} {fr:Nat×Nat} (h:IsS61 w0 W g f0 f1 f2) (hb2:W.heap[a]? = some (.cells cs t fr)) (ht:t≠61):g≠a:=by
 obtain⟨hb,hg⟩:=h
 rintro rfl
 rw [hb] at hb2
 injection hb2 with hb2
 injection hb2 with _ ht2
 exact ht ht2.symm
theorem IsS61.far {w0 W:World} {g:Nat} {f0:ByteArray} {f1:Int} {f2:Bool} {p:Addr} (h:IsS61 w0 W g f0 f1 f2) (hne:g≠p.block) (u:Value):IsS61 w0 (W.setCell p u) g f0 f1 f2:=by
 obtain⟨hb,hg⟩:=h
 exact⟨blk_far hb hne u,hg⟩
theorem cellS61_0 {W:World} {g:Nat} {f0:ByteArray} {f1:Int} {f2:Bool} (h:W.heap[g]? = some (.cells #[.string f0,.int .i64 f1,.bool f2] 61 (0,0))):W.cell? ⟨g,0,none⟩=some (.string f0):=(blk_cell h 0).trans rfl
theorem IsS61.set_0 {w0 W:World} {g:Nat} {f0:ByteArray} {f1:Int} {f2:Bool} (h:IsS61 w0 W g f0 f1 f2) (x:ByteArray):IsS61 w0 (W.setCell ⟨g,0,none⟩ (.string x)) g x f1 f2:=by
 obtain⟨hb,hg⟩:=h
 exact⟨by simpa using blk_set hb 0 (.string x),hg⟩
theorem cellS61_1 {W:World} {g:Nat} {f0:ByteArray} {f1:Int} {f2:Bool} (h:W.heap[g]? = some (.cells #[.string f0,.int .i64 f1,.bool f2] 61 (0,0))):W.cell? ⟨g,1,none⟩=some (.int .i64 f1):=(blk_cell h 1).trans rfl
theorem IsS61.set_1 {w0 W:World} {g:Nat} {f0:ByteArray} {f1:Int} {f2:Bool} (h:IsS61 w0 W g f0 f1 f2) (x:Int):IsS61 w0 (W.setCell ⟨g,1,none⟩ (.int .i64 x)) g f0 x f2:=by
 obtain⟨hb,hg⟩:=h
 exact⟨by simpa using blk_set hb 1 (.int .i64 x),hg⟩
theorem cellS61_2 {W:World} {g:Nat} {f0:ByteArray} {f1:Int} {f2:Bool} (h:W.heap[g]? = some (.cells #[.string f0,.int .i64 f1,.bool f2] 61 (0,0))):W.cell? ⟨g,2,none⟩=some (.bool f2):=(blk_cell h 2).trans rfl
theorem IsS61.set_2 {w0 W:World} {g:Nat} {f0:ByteArray} {f1:Int} {f2:Bool} (h:IsS61 w0 W g f0 f1 f2) (x:Bool):IsS61 w0 (W.setCell ⟨g,2,none⟩ (.bool x)) g f0 f1 x:=by
 obtain⟨hb,hg⟩:=h
 exact⟨by simpa using blk_set hb 2 (.bool x),hg⟩
theorem IsS61.new (w0 W:World) (f0:ByteArray) (f1:Int) (f2:Bool) (hB:Below w0.heap.size w0 W):IsS61 w0 (W.alloc (.cells #[.string f0,.int .i64 f1,.bool f2] 61)) W.heap.size f0 f1 f2:=⟨by simpa using heap_alloc_new W _,hB.size⟩
theorem isl61 {w0 W:World} {g:Nat} {f0:ByteArray} {f1:Int} {f2:Bool} (h:IsS61 w0 W g f0 f1 f2:=by repeat (first|(with_reducible first|exact Aside0.out (by assumption)|apply IsS61.alloc|apply IsS61.drewN|apply IsS61.drew|apply IsS61.set_0|apply IsS61.set_1|apply IsS61.set_2|refine IsS61.far ?_ (Aside0.out (by assumption)) _)|exact Aside0.out (by assumption))):IsS61 w0 W g f0 f1 f2:=h
mutual
def stowageref13_Reader_prolog.j0:Nat→Bool→ByteArray→Int→Bool→Option (Bool×ByteArray×Int×Bool)
  | 0,_,_,_,_=>none
  | k+1,x33,x1000,x1001,x1002=>if x33=true then(some (true,x1000,x1001,x1002)) else(stowageref13_Reader_prolog.l0 k x1000 5 x1002)
def stowageref13_Reader_prolog.l0:Nat→ByteArray→Int→Bool→Option (Bool×ByteArray×Int×Bool)
  | 0,_,_,_=>none
  | k+1,x1000,x1001,x1002=>if(wrap64 (x1001+1))<(x1000.size:Int) then(if 0≤x1001 then(if x1001<(x1000.size:Int) then(if(bt x1000 x1001)=63 then(if 0≤(wrap64 (x1001+1)) then(if(bt x1000 (wrap64 (x1001+1)))=62 then(some (true,x1000,wrap64 (x1001+2),x1002)) else(stowageref13_Reader_prolog.l0 k x1000 (wrap64 (x1001+1)) x1002)) else(none)) else(stowageref13_Reader_prolog.l0 k x1000 (wrap64 (x1001+1)) x1002)) else(none)) else(none)) else(some (false,x1000,x1001,x1002))
end
def stowageref13_Reader_prolog.f (k:Nat) (s0_0:ByteArray) (s0_1:Int) (s0_2:Bool):Option (Bool×ByteArray×Int×Bool):=(stowageref3_Begins.f s0_0 (⟨#[60,63,120,109,108]⟩ : ByteArray)).bind fun t180=>(if t180=true then(if(s0_0.size:Int)<6 then(stowageref13_Reader_prolog.j0 k true s0_0 s0_1 s0_2) else(if 5<(s0_0.size:Int) then((stowageref13_white.f (bt s0_0 5)).bind fun t181=>(if t181=true then(stowageref13_Reader_prolog.j0 k false s0_0 s0_1 s0_2) else(stowageref13_Reader_prolog.j0 k ((bt s0_0 5) != 63) s0_0 s0_1 s0_2))) else(none))) else(stowageref13_Reader_prolog.j0 k true s0_0 s0_1 s0_2))
theorem stowageref13_Reader_prolog.mono_l:∀ k,(∀ y0 y1 y2 y3,LeO (stowageref13_Reader_prolog.j0 k y0 y1 y2 y3) (stowageref13_Reader_prolog.j0 (k+1) y0 y1 y2 y3))∧(∀ y0 y1 y2,LeO (stowageref13_Reader_prolog.l0 k y0 y1 y2) (stowageref13_Reader_prolog.l0 (k+1) y0 y1 y2))
  | 0=>⟨fun _ _ _ _ r h=>by simp [stowageref13_Reader_prolog.j0] at h,fun _ _ _ r h=>by simp [stowageref13_Reader_prolog.l0] at h⟩
  | k+1=>by
    obtain⟨ih0,ih1⟩:=stowageref13_Reader_prolog.mono_l k
    refine⟨?_,?_⟩
    · intro y0 y1 y2 y3
      unfold stowageref13_Reader_prolog.j0
      repeat' first
      | (with_reducible exact ih0 _ _ _ _)
      | (with_reducible exact ih1 _ _ _)
      | (with_reducible exact LeO.refl _)
      | (with_reducible exact LeO.none _)
      | (with_reducible refine LeO.ite ?_ ?_)
      | (with_reducible refine LeO.bind ?_ (fun _=>?_))
      | exact ih0 _ _ _ _
      | exact ih1 _ _ _
      | exact LeO.none _
      | refine LeO.ite ?_ ?_
      | refine LeO.bind ?_ (fun _=>?_)
    · intro y0 y1 y2
      unfold stowageref13_Reader_prolog.l0
      repeat' first
      | (with_reducible exact ih0 _ _ _ _)
      | (with_reducible exact ih1 _ _ _)
      | (with_reducible exact LeO.refl _)
      | (with_reducible exact LeO.none _)
      | (with_reducible refine LeO.ite ?_ ?_)
      | (with_reducible refine LeO.bind ?_ (fun _=>?_))
      | exact ih0 _ _ _ _
      | exact ih1 _ _ _
      | exact LeO.none _
      | refine LeO.ite ?_ ?_
      | refine LeO.bind ?_ (fun _=>?_)
theorem stowageref13_Reader_prolog.mono:∀ a0 a1 a2 k,LeO (stowageref13_Reader_prolog.f k a0 a1 a2) (stowageref13_Reader_prolog.f (k+1) a0 a1 a2):=by
 intro a0 a1 a2 k
 obtain⟨ih0,ih1⟩:=stowageref13_Reader_prolog.mono_l k
 unfold stowageref13_Reader_prolog.f
 repeat' first
     | (with_reducible exact ih0 _ _ _ _)
     | (with_reducible exact ih1 _ _ _)
     | (with_reducible exact LeO.refl _)
     | (with_reducible exact LeO.none _)
     | (with_reducible refine LeO.ite ?_ ?_)
     | (with_reducible refine LeO.bind ?_ (fun _=>?_))
     | exact ih0 _ _ _ _
     | exact ih1 _ _ _
     | exact LeO.none _
     | refine LeO.ite ?_ ?_
     | refine LeO.bind ?_ (fun _=>?_)
theorem stowageref13_Reader_prolog.calls (k:Nat) (g:Nat) (s0_0:ByteArray) (s0_1:Int) (s0_2:Bool) (r1:Bool) (r2:ByteArray) (r3:Int) (r4:Bool) (w0 w:World) (hI:IsS61 w0 w g s0_0 s0_1 s0_2) (hB:Below w0.heap.size w0 w) (h:stowageref13_Reader_prolog.f k s0_0 s0_1 s0_2=some (r1,r2,r3,r4)) :
    Calls Tryd.prog 32 #[.pointer (some ⟨g,0,none⟩)] w fun e w'=>e = .returned (.bool r1)∧IsS61 w0 w' g r2 r3 r4∧Below w0.heap.size w0 w'∧KeepBut w w' g none:=by
 have HI0:=Aside0.mk hI
 have HK:=Aside0.mk (KeepBut.refl w g none)
 have HL:=Aside0.mk hB.size
 clear hI
 have HW0:=Aside0.mk hB.size
 have HB:=Aside0.mk hB
 clear hB
 unfold stowageref13_Reader_prolog.f at h
 have H:=h
 clear h
 have HC2:=Aside0.mk H
 clear H
 go_enter Tryd.func32,Tryd.ntmps32
 go_upto_region 1 with(fail)
 repeat (go_quiet (fail);go_upto_region 1 with(fail))
 go_cut [33] (fun v33 wc=>∃ (kq:Nat) (x33_1:Bool),v33 = .bool x33_1∧Aside0 (stowageref13_Reader_prolog.j0 kq x33_1 s0_0 s0_1 s0_2=some (r1,r2,r3,r4))∧Aside0 (kq≤k)∧Aside0 (IsS61 w0 wc g s0_0 s0_1 s0_2)∧Aside0 (KeepBut w wc g none)∧Aside0 (Below w0.heap.size w0 wc))
 case first=>
  have H:=HC2.out
  clear HC2
  replace H:=bndO H
  obtain⟨t180,A30,H⟩:=H
  have A3:=Aside0.mk A30
  clear A30
  by_cases c4:t180=true
  {
  subst c4
  replace H:=itT H
  replace H:=itO H
  rcases H with⟨c5,H⟩|⟨c5,H⟩
  {
  have c5b0:decide ((s0_0.size:Int)<6)=true:=decide_eq_true c5
  clear c5
  (first|rw [c5b0]|(simp only [i64_w,i32_w];rw [c5b0])|skip)
  have H':=Aside0.mk H
  clear H
  obtain⟨HGz6,hgz6⟩:=HI0.out
  have hcz6_0:=cellS61_0 HGz6
  have hcz6_1:=cellS61_1 HGz6
  have hcz6_2:=cellS61_2 HGz6
  have hfz6_0:=blk_frozen HGz6 0
  have hfz6_1:=blk_frozen HGz6 1
  have hfz6_2:=blk_frozen HGz6 2
  clear HGz6 hgz6
  go_wp2_with (first|(go_at_call 64;(with_reducible refine(stowageref3_Begins.calls s0_0 (⟨#[60,63,120,109,108]⟩ : ByteArray) true _ A3.out).mono ?_);rintro e w' ⟨rfl,⟨nd,rfl⟩⟩;(try exact dd)))
  repeat (go_quiet (first|(go_at_call 64;(with_reducible refine(stowageref3_Begins.calls s0_0 (⟨#[60,63,120,109,108]⟩ : ByteArray) true _ A3.out).mono ?_);rintro e w' ⟨rfl,⟨nd,rfl⟩⟩;(try exact dd)));try go_wp2_with (first|(go_at_call 64;(with_reducible refine(stowageref3_Begins.calls s0_0 (⟨#[60,63,120,109,108]⟩ : ByteArray) true _ A3.out).mono ?_);rintro e w' ⟨rfl,⟨nd,rfl⟩⟩;(try exact dd))))
  go_meet
  case rel=>exact⟨_,(true),rs,H',⟨by first|omega|exact Nat.le_refl _⟩,⟨by repeat (first|(with_reducible first|exact HI0.out|apply IsS61.alloc|apply IsS61.drewN|apply IsS61.drew|apply IsS61.set_0|apply IsS61.set_1|apply IsS61.set_2)|exact HI0.out)⟩,⟨kk⟩,⟨by repeat (first|(with_reducible first|exact HB.out|apply below_alloc|apply pw_below_drewN|apply below_drew1|refine below_set ?_ (IsS61.ge HI0.out))|exact HB.out)⟩⟩
  }
  {
  have c5b0:decide ((s0_0.size:Int)<6)=false:=decide_eq_false c5
  clear c5
  (first|rw [c5b0]|(simp only [i64_w,i32_w];rw [c5b0])|skip)
  replace H:=itO H
  rcases H with⟨c7,H⟩|⟨c7,H⟩
  {
  have c7b0:decide (5<(s0_0.size:Int))=true:=decide_eq_true c7
  clear c7
  replace H:=bndO H
  obtain⟨t181,A90,H⟩:=H
  have A9:=Aside0.mk A90
  clear A90
  by_cases c10:t181=true
  {
  subst c10
  replace H:=itT H
  have H':=Aside0.mk H
  clear H
  obtain⟨HGz11,hgz11⟩:=HI0.out
  have hcz11_0:=cellS61_0 HGz11
  have hcz11_1:=cellS61_1 HGz11
  have hcz11_2:=cellS61_2 HGz11
  have hfz11_0:=blk_frozen HGz11 0
  have hfz11_1:=blk_frozen HGz11 1
  have hfz11_2:=blk_frozen HGz11 2
  clear HGz11 hgz11
  go_wp2_with (first|(go_at_call 64;(with_reducible refine(stowageref3_Begins.calls s0_0 (⟨#[60,63,120,109,108]⟩ : ByteArray) true _ A3.out).mono ?_);rintro e w' ⟨rfl,⟨nd,rfl⟩⟩;(try exact dd);have p8:0≤(5:Int):=(by omega);have q8:5<s0_0.size:=(by have:(5:Int)<(s0_0.size:Int):=of_decide_eq_true asm;omega);have hx8:∀ h:5<s0_0.size,((s0_0[5]'h).toNat:Int)=bt s0_0 5:=bt_at s0_0 5;clear p8;have qi8:(5<(s0_0.size:Int))=True:=eq_true (of_decide_eq_true asm);replace q8:=eq_true q8)|(go_at_call 65;(with_reducible refine(stowageref13_white.calls (bt s0_0 5) true _ A9.out).mono ?_);rintro e w' ⟨rfl,⟨nd,rfl⟩⟩;(try exact dd)))
  repeat (go_quiet (first|(go_at_call 64;(with_reducible refine(stowageref3_Begins.calls s0_0 (⟨#[60,63,120,109,108]⟩ : ByteArray) true _ A3.out).mono ?_);rintro e w' ⟨rfl,⟨nd,rfl⟩⟩;(try exact dd);have p8:0≤(5:Int):=(by omega);have q8:5<s0_0.size:=(by have:(5:Int)<(s0_0.size:Int):=of_decide_eq_true asm;omega);have hx8:∀ h:5<s0_0.size,((s0_0[5]'h).toNat:Int)=bt s0_0 5:=bt_at s0_0 5;clear p8;have qi8:(5<(s0_0.size:Int))=True:=eq_true (of_decide_eq_true asm);replace q8:=eq_true q8)|(go_at_call 65;(with_reducible refine(stowageref13_white.calls (bt s0_0 5) true _ A9.out).mono ?_);rintro e w' ⟨rfl,⟨nd,rfl⟩⟩;(try exact dd)));try go_wp2_with (first|(go_at_call 64;(with_reducible refine(stowageref3_Begins.calls s0_0 (⟨#[60,63,120,109,108]⟩ : ByteArray) true _ A3.out).mono ?_);rintro e w' ⟨rfl,⟨nd,rfl⟩⟩;(try exact dd);have p8:0≤(5:Int):=(by omega);have q8:5<s0_0.size:=(by have:(5:Int)<(s0_0.size:Int):=of_decide_eq_true asm;omega);have hx8:∀ h:5<s0_0.size,((s0_0[5]'h).toNat:Int)=bt s0_0 5:=bt_at s0_0 5;clear p8;have qi8:(5<(s0_0.size:Int))=True:=eq_true (of_decide_eq_true asm);replace q8:=eq_true q8)|(go_at_call 65;(with_reducible refine(stowageref13_white.calls (bt s0_0 5) true _ A9.out).mono ?_);rintro e w' ⟨rfl,⟨nd,rfl⟩⟩;(try exact dd))))
  go_meet
  case rel=>exact⟨_,(false),rs,H',⟨by first|omega|exact Nat.le_refl _⟩,⟨by repeat (first|(with_reducible first|exact HI0.out|apply IsS61.alloc|apply IsS61.drewN|apply IsS61.drew|apply IsS61.set_0|apply IsS61.set_1|apply IsS61.set_2)|exact HI0.out)⟩,⟨kk⟩,⟨by repeat (first|(with_reducible first|exact HB.out|apply below_alloc|apply pw_below_drewN|apply below_drew1|refine below_set ?_ (IsS61.ge HI0.out))|exact HB.out)⟩⟩
  }
  {
  replace c10:=Bool.eq_false_iff.mpr c10
  subst c10
  replace H:=itF H
  have H':=Aside0.mk H
  clear H
  obtain⟨HGz13,hgz13⟩:=HI0.out
  have hcz13_0:=cellS61_0 HGz13
  have hcz13_1:=cellS61_1 HGz13
  have hcz13_2:=cellS61_2 HGz13
  have hfz13_0:=blk_frozen HGz13 0
  have hfz13_1:=blk_frozen HGz13 1
  have hfz13_2:=blk_frozen HGz13 2
  clear HGz13 hgz13
  go_wp2_with (first|(go_at_call 64;(with_reducible refine(stowageref3_Begins.calls s0_0 (⟨#[60,63,120,109,108]⟩ : ByteArray) true _ A3.out).mono ?_);rintro e w' ⟨rfl,⟨nd,rfl⟩⟩;(try exact dd);have p8:0≤(5:Int):=(by omega);have q8:5<s0_0.size:=(by have:(5:Int)<(s0_0.size:Int):=of_decide_eq_true asm;omega);have hx8:∀ h:5<s0_0.size,((s0_0[5]'h).toNat:Int)=bt s0_0 5:=bt_at s0_0 5;clear p8;have qi8:(5<(s0_0.size:Int))=True:=eq_true (of_decide_eq_true asm);replace q8:=eq_true q8)|(go_at_call 65;(with_reducible refine(stowageref13_white.calls (bt s0_0 5) false _ A9.out).mono ?_);rintro e w' ⟨rfl,⟨nd,rfl⟩⟩;(try exact dd);have p12:0≤(5:Int):=(by omega);have q12:5<s0_0.size:=(by have:(5:Int)<(s0_0.size:Int):=of_decide_eq_true asm;omega);have hx12:∀ h:5<s0_0.size,((s0_0[5]'h).toNat:Int)=bt s0_0 5:=bt_at s0_0 5;clear p12;have qi12:(5<(s0_0.size:Int))=True:=eq_true (of_decide_eq_true asm);replace q12:=eq_true q12))
  repeat (go_quiet (first|(go_at_call 64;(with_reducible refine(stowageref3_Begins.calls s0_0 (⟨#[60,63,120,109,108]⟩ : ByteArray) true _ A3.out).mono ?_);rintro e w' ⟨rfl,⟨nd,rfl⟩⟩;(try exact dd);have p8:0≤(5:Int):=(by omega);have q8:5<s0_0.size:=(by have:(5:Int)<(s0_0.size:Int):=of_decide_eq_true asm;omega);have hx8:∀ h:5<s0_0.size,((s0_0[5]'h).toNat:Int)=bt s0_0 5:=bt_at s0_0 5;clear p8;have qi8:(5<(s0_0.size:Int))=True:=eq_true (of_decide_eq_true asm);replace q8:=eq_true q8)|(go_at_call 65;(with_reducible refine(stowageref13_white.calls (bt s0_0 5) false _ A9.out).mono ?_);rintro e w' ⟨rfl,⟨nd,rfl⟩⟩;(try exact dd);have p12:0≤(5:Int):=(by omega);have q12:5<s0_0.size:=(by have:(5:Int)<(s0_0.size:Int):=of_decide_eq_true asm;omega);have hx12:∀ h:5<s0_0.size,((s0_0[5]'h).toNat:Int)=bt s0_0 5:=bt_at s0_0 5;clear p12;have qi12:(5<(s0_0.size:Int))=True:=eq_true (of_decide_eq_true asm);replace q12:=eq_true q12));try go_wp2_with (first|(go_at_call 64;(with_reducible refine(stowageref3_Begins.calls s0_0 (⟨#[60,63,120,109,108]⟩ : ByteArray) true _ A3.out).mono ?_);rintro e w' ⟨rfl,⟨nd,rfl⟩⟩;(try exact dd);have p8:0≤(5:Int):=(by omega);have q8:5<s0_0.size:=(by have:(5:Int)<(s0_0.size:Int):=of_decide_eq_true asm;omega);have hx8:∀ h:5<s0_0.size,((s0_0[5]'h).toNat:Int)=bt s0_0 5:=bt_at s0_0 5;clear p8;have qi8:(5<(s0_0.size:Int))=True:=eq_true (of_decide_eq_true asm);replace q8:=eq_true q8)|(go_at_call 65;(with_reducible refine(stowageref13_white.calls (bt s0_0 5) false _ A9.out).mono ?_);rintro e w' ⟨rfl,⟨nd,rfl⟩⟩;(try exact dd);have p12:0≤(5:Int):=(by omega);have q12:5<s0_0.size:=(by have:(5:Int)<(s0_0.size:Int):=of_decide_eq_true asm;omega);have hx12:∀ h:5<s0_0.size,((s0_0[5]'h).toNat:Int)=bt s0_0 5:=bt_at s0_0 5;clear p12;have qi12:(5<(s0_0.size:Int))=True:=eq_true (of_decide_eq_true asm);replace q12:=eq_true q12)))
  go_meet
  case rel=>exact⟨_,(((bt s0_0 5) != 63)),rs,H',⟨by first|omega|exact Nat.le_refl _⟩,⟨by repeat (first|(with_reducible first|exact HI0.out|apply IsS61.alloc|apply IsS61.drewN|apply IsS61.drew|apply IsS61.set_0|apply IsS61.set_1|apply IsS61.set_2)|exact HI0.out)⟩,⟨kk⟩,⟨by repeat (first|(with_reducible first|exact HB.out|apply below_alloc|apply pw_below_drewN|apply below_drew1|refine below_set ?_ (IsS61.ge HI0.out))|exact HB.out)⟩⟩
  }
  }
  ·exact absurd H (by simp)
  }
  }
  {
  replace c4:=Bool.eq_false_iff.mpr c4
  subst c4
  replace H:=itF H
  have H':=Aside0.mk H
  clear H
  obtain⟨HGz14,hgz14⟩:=HI0.out
  have hcz14_0:=cellS61_0 HGz14
  have hcz14_1:=cellS61_1 HGz14
  have hcz14_2:=cellS61_2 HGz14
  have hfz14_0:=blk_frozen HGz14 0
  have hfz14_1:=blk_frozen HGz14 1
  have hfz14_2:=blk_frozen HGz14 2
  clear HGz14 hgz14
  go_wp2_with (first|(go_at_call 64;(with_reducible refine(stowageref3_Begins.calls s0_0 (⟨#[60,63,120,109,108]⟩ : ByteArray) false _ A3.out).mono ?_);rintro e w' ⟨rfl,⟨nd,rfl⟩⟩;(try exact dd)))
  repeat (go_quiet (first|(go_at_call 64;(with_reducible refine(stowageref3_Begins.calls s0_0 (⟨#[60,63,120,109,108]⟩ : ByteArray) false _ A3.out).mono ?_);rintro e w' ⟨rfl,⟨nd,rfl⟩⟩;(try exact dd)));try go_wp2_with (first|(go_at_call 64;(with_reducible refine(stowageref3_Begins.calls s0_0 (⟨#[60,63,120,109,108]⟩ : ByteArray) false _ A3.out).mono ?_);rintro e w' ⟨rfl,⟨nd,rfl⟩⟩;(try exact dd))))
  go_meet
  case rel=>exact⟨_,(true),rs,H',⟨by first|omega|exact Nat.le_refl _⟩,⟨by repeat (first|(with_reducible first|exact HI0.out|apply IsS61.alloc|apply IsS61.drewN|apply IsS61.drew|apply IsS61.set_0|apply IsS61.set_1|apply IsS61.set_2)|exact HI0.out)⟩,⟨kk⟩,⟨by repeat (first|(with_reducible first|exact HB.out|apply below_alloc|apply pw_below_drewN|apply below_drew1|refine below_set ?_ (IsS61.ge HI0.out))|exact HB.out)⟩⟩
  }
 case rest=>
  clear HC2
  obtain⟨kq,x33_1,rfl,HA,HJ1,HI0,HK,HB⟩:=hcut
  cases kq with
  | zero=>exact absurd HA.out (by simp [stowageref13_Reader_prolog.j0])
  | succ kj1=>
   have H:=HA.out
   clear HA
   simp only [stowageref13_Reader_prolog.j0] at H
   by_cases c15:x33_1=true
   {
   subst c15
   replace H:=itT H
   simp only [Option.some.injEq,Prod.mk.injEq] at H
   obtain⟨rfl,rfl,rfl,rfl⟩:=H
   go_wp2
   repeat (go_quiet (fail);try go_wp2)
   go_ret
   exact⟨ew,by repeat (first|(with_reducible first|exact HI0.out|apply IsS61.alloc|apply IsS61.drewN|apply IsS61.drew|apply IsS61.set_0|apply IsS61.set_1|apply IsS61.set_2)|exact HI0.out),by repeat (first|(with_reducible first|exact HB.out|apply below_alloc|apply pw_below_drewN|apply below_drew1|refine below_set ?_ (IsS61.ge HI0.out))|exact HB.out),kk⟩
   }
   {
   replace c15:=Bool.eq_false_iff.mpr c15
   subst c15
   replace H:=itF H
   have H':=Aside0.mk H
   clear H
   obtain⟨HGz16,hgz16⟩:=HI0.out
   have hcz16_0:=cellS61_0 HGz16
   have hcz16_1:=cellS61_1 HGz16
   have hcz16_2:=cellS61_2 HGz16
   have hfz16_0:=blk_frozen HGz16 0
   have hfz16_1:=blk_frozen HGz16 1
   have hfz16_2:=blk_frozen HGz16 2
   clear HGz16 hgz16
   go_wp2
   repeat (go_quiet (fail);try go_wp2)
   go_loopg [] kj1 (fun kq w'=>∃ (x1001_2:Int),Aside0 (stowageref13_Reader_prolog.l0 kq s0_0 x1001_2 s0_2=some (r1,r2,r3,r4))∧Aside0 (kq≤kj1)∧Aside0 (IsS61 w0 w' g s0_0 x1001_2 s0_2)∧Aside0 (KeepBut w w' g none)∧Aside0 (Below w0.heap.size w0 w'))
   case atStart=>exact⟨(5),H',⟨Nat.le_refl _⟩,⟨by repeat (first|(with_reducible first|exact HI0.out|apply IsS61.alloc|apply IsS61.drewN|apply IsS61.drew|apply IsS61.set_0|apply IsS61.set_1|apply IsS61.set_2)|exact HI0.out)⟩,⟨kk⟩,⟨by repeat (first|(with_reducible first|exact HB.out|apply below_alloc|apply pw_below_drewN|apply below_drew1|refine below_set ?_ (IsS61.ge HI0.out))|exact HB.out)⟩⟩
   case round=>
    clear H'
    obtain⟨x1001_2,HA,HK2,HI0,HK,HB⟩:=hrel
    cases gk with
    | zero=>exact absurd HA.out (by simp [stowageref13_Reader_prolog.l0])
    | succ k2=>
     have H:=HA.out
     clear HA
     simp only [stowageref13_Reader_prolog.l0] at H
     replace H:=itO H
     rcases H with⟨c17,H⟩|⟨c17,H⟩
     {
     have c17b0:decide ((wrap64 (x1001_2+1))<(s0_0.size:Int))=true:=decide_eq_true c17
     clear c17
     replace H:=itO H
     rcases H with⟨c18,H⟩|⟨c18,H⟩
     {
     have c18b0:decide (0≤x1001_2)=true:=decide_eq_true c18
     clear c18
     replace H:=itO H
     rcases H with⟨c19,H⟩|⟨c19,H⟩
     {
     have c19b0:decide (x1001_2<(s0_0.size:Int))=true:=decide_eq_true c19
     clear c19
     replace H:=itO H
     rcases H with⟨c21,H⟩|⟨c21,H⟩
     {
     have c21b0:((bt s0_0 x1001_2) == 63)=true:=beq_iff_eq.mpr c21
     clear c21
     obtain⟨ji22,hji22⟩ : ∃ j_:Int,(wrap64 (x1001_2+1))=j_:=⟨_,rfl⟩
     first|rw [hji22] at H|simp only [hji22] at H
     (try rw [hji22] at c17b0)
     have hji22w:(IntKind.i64.wrap (x1001_2+1))=ji22:=(i64_w _).trans hji22
     replace H:=itO H
     rcases H with⟨c23,H⟩|⟨c23,H⟩
     {
     have c23b0:decide (0≤(ji22))=true:=decide_eq_true c23
     clear c23
     replace H:=itO H
     rcases H with⟨c25,H⟩|⟨c25,H⟩
     {
     have c25b0:((bt s0_0 (ji22)) == 62)=true:=beq_iff_eq.mpr c25
     clear c25
     simp only [Option.some.injEq,Prod.mk.injEq] at H
     obtain⟨rfl,rfl,rfl,rfl⟩:=H
     obtain⟨HGz26,hgz26⟩:=HI0.out
     have hcz26_0:=cellS61_0 HGz26
     have hcz26_1:=cellS61_1 HGz26
     have hcz26_2:=cellS61_2 HGz26
     have hfz26_0:=blk_frozen HGz26 0
     have hfz26_1:=blk_frozen HGz26 1
     have hfz26_2:=blk_frozen HGz26 2
     clear HGz26 hgz26
     have p20:0≤(x1001_2:Int):=of_decide_eq_true asm
     have q20:x1001_2<(s0_0.size:Int):=of_decide_eq_true asm
     have hx20:=bt_at s0_0 x1001_2
     replace p20:=eq_true p20
     replace q20:=eq_true q20
     have p24:0≤((ji22):Int):=of_decide_eq_true asm
     have q24:(ji22)<(s0_0.size:Int):=of_decide_eq_true asm
     have hx24:=bt_at s0_0 (ji22)
     replace p24:=eq_true p24
     replace q24:=eq_true q24
     go_wp2
     repeat (go_quiet (fail);try go_wp2)
     go_ret
     exact⟨by first|rfl|(simp [errW_none,errW_some] <;> rfl)|(simp only [← hji22];first|rfl|(simp [errW_none,errW_some] <;> rfl))|(simp [*,errW_none,errW_some] <;> rfl),by repeat (first|(with_reducible first|exact HI0.out|apply IsS61.alloc|apply IsS61.drewN|apply IsS61.drew|apply IsS61.set_0|apply IsS61.set_1|apply IsS61.set_2)|exact HI0.out),by repeat (first|(with_reducible first|exact HB.out|apply below_alloc|apply pw_below_drewN|apply below_drew1|refine below_set ?_ (IsS61.ge HI0.out))|exact HB.out),kk⟩
     }
     {
     have c25b0:((bt s0_0 (ji22)) == 62)=false:=beq_eq_false_iff_ne.mpr c25
     have H':=Aside0.mk H
     clear H
     obtain⟨HGz27,hgz27⟩:=HI0.out
     have hcz27_0:=cellS61_0 HGz27
     have hcz27_1:=cellS61_1 HGz27
     have hcz27_2:=cellS61_2 HGz27
     have hfz27_0:=blk_frozen HGz27 0
     have hfz27_1:=blk_frozen HGz27 1
     have hfz27_2:=blk_frozen HGz27 2
     clear HGz27 hgz27
     have p20:0≤(x1001_2:Int):=of_decide_eq_true asm
     have q20:x1001_2<(s0_0.size:Int):=of_decide_eq_true asm
     have hx20:=bt_at s0_0 x1001_2
     replace p20:=eq_true p20
     replace q20:=eq_true q20
     have p24:0≤((ji22):Int):=of_decide_eq_true asm
     have q24:(ji22)<(s0_0.size:Int):=of_decide_eq_true asm
     have hx24:=bt_at s0_0 (ji22)
     replace p24:=eq_true p24
     replace q24:=eq_true q24
     go_wp2
     repeat (go_quiet (fail);try go_wp2)
     go_roundg k2
     case measure=>have:=HJ1.out;have:=HK2.out;omega
     case rel=>exact⟨(ji22),H',⟨by have:=HJ1.out;have:=HK2.out;omega⟩,⟨by repeat (first|(with_reducible first|exact HI0.out|apply IsS61.alloc|apply IsS61.drewN|apply IsS61.drew|apply IsS61.set_0|apply IsS61.set_1|apply IsS61.set_2)|exact HI0.out)⟩,⟨kk⟩,⟨by repeat (first|(with_reducible first|exact HB.out|apply below_alloc|apply pw_below_drewN|apply below_drew1|refine below_set ?_ (IsS61.ge HI0.out))|exact HB.out)⟩⟩
     }
     }
     ·exact absurd H (by simp)
     }
     {
     have c21b0:((bt s0_0 x1001_2) == 63)=false:=beq_eq_false_iff_ne.mpr c21
     have H':=Aside0.mk H
     clear H
     obtain⟨HGz28,hgz28⟩:=HI0.out
     have hcz28_0:=cellS61_0 HGz28
     have hcz28_1:=cellS61_1 HGz28
     have hcz28_2:=cellS61_2 HGz28
     have hfz28_0:=blk_frozen HGz28 0
     have hfz28_1:=blk_frozen HGz28 1
     have hfz28_2:=blk_frozen HGz28 2
     clear HGz28 hgz28
     have p20:0≤(x1001_2:Int):=of_decide_eq_true asm
     have q20:x1001_2<(s0_0.size:Int):=of_decide_eq_true asm
     have hx20:=bt_at s0_0 x1001_2
     replace p20:=eq_true p20
     replace q20:=eq_true q20
     go_wp2
     repeat (go_quiet (fail);try go_wp2)
     go_roundg k2
     case measure=>have:=HJ1.out;have:=HK2.out;omega
     case rel=>exact⟨(wrap64 (x1001_2+1)),H',⟨by have:=HJ1.out;have:=HK2.out;omega⟩,⟨by repeat (first|(with_reducible first|exact HI0.out|apply IsS61.alloc|apply IsS61.drewN|apply IsS61.drew|apply IsS61.set_0|apply IsS61.set_1|apply IsS61.set_2)|exact HI0.out)⟩,⟨kk⟩,⟨by repeat (first|(with_reducible first|exact HB.out|apply below_alloc|apply pw_below_drewN|apply below_drew1|refine below_set ?_ (IsS61.ge HI0.out))|exact HB.out)⟩⟩
     }
     }
     ·exact absurd H (by simp)
     }
     ·exact absurd H (by simp)
     }
     {
     have c17b0:decide ((wrap64 (x1001_2+1))<(s0_0.size:Int))=false:=decide_eq_false c17
     clear c17
     simp only [Option.some.injEq,Prod.mk.injEq] at H
     obtain⟨rfl,rfl,rfl,rfl⟩:=H
     obtain⟨HGz29,hgz29⟩:=HI0.out
     have hcz29_0:=cellS61_0 HGz29
     have hcz29_1:=cellS61_1 HGz29
     have hcz29_2:=cellS61_2 HGz29
     have hfz29_0:=blk_frozen HGz29 0
     have hfz29_1:=blk_frozen HGz29 1
     have hfz29_2:=blk_frozen HGz29 2
     clear HGz29 hgz29
     go_wp2
     repeat (go_quiet (fail);try go_wp2)
     go_ret
     exact⟨ew,by repeat (first|(with_reducible first|exact HI0.out|apply IsS61.alloc|apply IsS61.drewN|apply IsS61.drew|apply IsS61.set_0|apply IsS61.set_1|apply IsS61.set_2)|exact HI0.out),by repeat (first|(with_reducible first|exact HB.out|apply below_alloc|apply pw_below_drewN|apply below_drew1|refine below_set ?_ (IsS61.ge HI0.out))|exact HB.out),kk⟩
     }
   }
def stowageref13_Reader_skip.l0:Nat→Int→ByteArray→Int→Bool→Option (Int×ByteArray×Int×Bool)
  | 0,_,_,_,_=>none
  | k+1,x3,x1000,x1001,x1002=>if x1001<(x1000.size:Int) then(if 0≤x1001 then((stowageref13_white.f (bt x1000 x1001)).bind fun t182=>(if t182=true then(stowageref13_Reader_skip.l0 k (wrap64 (x3+1)) x1000 (wrap64 (x1001+1)) x1002) else(some (x3,x1000,x1001,x1002)))) else(none)) else(some (x3,x1000,x1001,x1002))
def stowageref13_Reader_skip.f (k:Nat) (s0_0:ByteArray) (s0_1:Int) (s0_2:Bool):Option (Int×ByteArray×Int×Bool):=stowageref13_Reader_skip.l0 k 0 s0_0 s0_1 s0_2
theorem stowageref13_Reader_skip.mono_l:∀ k,(∀ y0 y1 y2 y3,LeO (stowageref13_Reader_skip.l0 k y0 y1 y2 y3) (stowageref13_Reader_skip.l0 (k+1) y0 y1 y2 y3))
  | 0=>fun _ _ _ _ r h=>by simp [stowageref13_Reader_skip.l0] at h
  | k+1=>by
    have ih0:=stowageref13_Reader_skip.mono_l k
    · intro y0 y1 y2 y3
      unfold stowageref13_Reader_skip.l0
      repeat' first
      | (with_reducible exact ih0 _ _ _ _)
      | (with_reducible exact LeO.refl _)
      | (with_reducible exact LeO.none _)
      | (with_reducible refine LeO.ite ?_ ?_)
      | (with_reducible refine LeO.bind ?_ (fun _=>?_))
      | exact ih0 _ _ _ _
      | exact LeO.none _
      | refine LeO.ite ?_ ?_
      | refine LeO.bind ?_ (fun _=>?_)
theorem stowageref13_Reader_skip.mono:∀ a0 a1 a2 k,LeO (stowageref13_Reader_skip.f k a0 a1 a2) (stowageref13_Reader_skip.f (k+1) a0 a1 a2):=by
 intro a0 a1 a2 k
 have ih0:=stowageref13_Reader_skip.mono_l k
 unfold stowageref13_Reader_skip.f
 repeat' first
     | (with_reducible exact ih0 _ _ _ _)
     | (with_reducible exact LeO.refl _)
     | (with_reducible exact LeO.none _)
     | (with_reducible refine LeO.ite ?_ ?_)
     | (with_reducible refine LeO.bind ?_ (fun _=>?_))
     | exact ih0 _ _ _ _
     | exact LeO.none _
     | refine LeO.ite ?_ ?_
     | refine LeO.bind ?_ (fun _=>?_)
theorem stowageref13_Reader_skip.calls (k:Nat) (g:Nat) (s0_0:ByteArray) (s0_1:Int) (s0_2:Bool) (r1:Int) (r2:ByteArray) (r3:Int) (r4:Bool) (w0 w:World) (hI:IsS61 w0 w g s0_0 s0_1 s0_2) (hB:Below w0.heap.size w0 w) (h:stowageref13_Reader_skip.f k s0_0 s0_1 s0_2=some (r1,r2,r3,r4)) :
    Calls Tryd.prog 33 #[.pointer (some ⟨g,0,none⟩)] w fun e w'=>e = .returned (.int .i64 r1)∧IsS61 w0 w' g r2 r3 r4∧Below w0.heap.size w0 w'∧KeepBut w w' g none:=by
 have HI0:=Aside0.mk hI
 have HK:=Aside0.mk (KeepBut.refl w g none)
 have HL:=Aside0.mk hB.size
 clear hI
 have HW0:=Aside0.mk hB.size
 have HB:=Aside0.mk hB
 clear hB
 unfold stowageref13_Reader_skip.f at h
 have H:=h
 clear h
 have H':=Aside0.mk H
 clear H
 go_enter Tryd.func33,Tryd.ntmps33
 go_wp2
 repeat (go_quiet (fail);try go_wp2)
 go_loopg [3] k (fun kq v3 w'=>∃ (x3_1:Int) (x1001_1:Int),v3 = .int .i64 x3_1∧Aside0 (stowageref13_Reader_skip.l0 kq x3_1 s0_0 x1001_1 s0_2=some (r1,r2,r3,r4))∧Aside0 (kq≤k)∧Aside0 (IsS61 w0 w' g s0_0 x1001_1 s0_2)∧Aside0 (KeepBut w w' g none)∧Aside0 (Below w0.heap.size w0 w'))
 case atStart=>exact⟨(0),(s0_1),rs,H',⟨Nat.le_refl _⟩,⟨by repeat (first|(with_reducible first|exact HI0.out|apply IsS61.alloc|apply IsS61.drewN|apply IsS61.drew|apply IsS61.set_0|apply IsS61.set_1|apply IsS61.set_2)|exact HI0.out)⟩,⟨kk⟩,⟨by repeat (first|(with_reducible first|exact HB.out|apply below_alloc|apply pw_below_drewN|apply below_drew1|refine below_set ?_ (IsS61.ge HI0.out))|exact HB.out)⟩⟩
 case round=>
  clear H'
  obtain⟨x3_1,x1001_1,rfl,HA,HK1,HI0,HK,HB⟩:=hrel
  cases gk with
  | zero=>exact absurd HA.out (by simp [stowageref13_Reader_skip.l0])
  | succ k1=>
   have H:=HA.out
   clear HA
   simp only [stowageref13_Reader_skip.l0] at H
   replace H:=itO H
   rcases H with⟨c2,H⟩|⟨c2,H⟩
   {
   have c2b0:decide (x1001_1<(s0_0.size:Int))=true:=decide_eq_true c2
   clear c2
   replace H:=itO H
   rcases H with⟨c3,H⟩|⟨c3,H⟩
   {
   have c3b0:decide (0≤x1001_1)=true:=decide_eq_true c3
   clear c3
   replace H:=bndO H
   obtain⟨t182,A50,H⟩:=H
   have A5:=Aside0.mk A50
   clear A50
   by_cases c6:t182=true
   {
   subst c6
   replace H:=itT H
   have H':=Aside0.mk H
   clear H
   obtain⟨HGz7,hgz7⟩:=HI0.out
   have hcz7_0:=cellS61_0 HGz7
   have hcz7_1:=cellS61_1 HGz7
   have hcz7_2:=cellS61_2 HGz7
   have hfz7_0:=blk_frozen HGz7 0
   have hfz7_1:=blk_frozen HGz7 1
   have hfz7_2:=blk_frozen HGz7 2
   clear HGz7 hgz7
   have p4:0≤(x1001_1:Int):=of_decide_eq_true asm
   have q4:x1001_1<(s0_0.size:Int):=of_decide_eq_true asm
   have hx4:=bt_at s0_0 x1001_1
   replace p4:=eq_true p4
   replace q4:=eq_true q4
   go_wp2_with (first|(go_at_call 65;(with_reducible refine(stowageref13_white.calls (bt s0_0 x1001_1) true _ A5.out).mono ?_);rintro e w' ⟨rfl,⟨nd,rfl⟩⟩;(try exact dd)))
   repeat (go_quiet (first|(go_at_call 65;(with_reducible refine(stowageref13_white.calls (bt s0_0 x1001_1) true _ A5.out).mono ?_);rintro e w' ⟨rfl,⟨nd,rfl⟩⟩;(try exact dd)));try go_wp2_with (first|(go_at_call 65;(with_reducible refine(stowageref13_white.calls (bt s0_0 x1001_1) true _ A5.out).mono ?_);rintro e w' ⟨rfl,⟨nd,rfl⟩⟩;(try exact dd))))
   go_roundg k1
   case measure=>have:=HK1.out;omega
   case rel=>exact⟨(wrap64 (x3_1+1)),(wrap64 (x1001_1+1)),rs,H',⟨by have:=HK1.out;omega⟩,⟨by repeat (first|(with_reducible first|exact HI0.out|apply IsS61.alloc|apply IsS61.drewN|apply IsS61.drew|apply IsS61.set_0|apply IsS61.set_1|apply IsS61.set_2)|exact HI0.out)⟩,⟨kk⟩,⟨by repeat (first|(with_reducible first|exact HB.out|apply below_alloc|apply pw_below_drewN|apply below_drew1|refine below_set ?_ (IsS61.ge HI0.out))|exact HB.out)⟩⟩
   }
   {
   replace c6:=Bool.eq_false_iff.mpr c6
   subst c6
   replace H:=itF H
   simp only [Option.some.injEq,Prod.mk.injEq] at H
   obtain⟨rfl,rfl,rfl,rfl⟩:=H
   obtain⟨HGz8,hgz8⟩:=HI0.out
   have hcz8_0:=cellS61_0 HGz8
   have hcz8_1:=cellS61_1 HGz8
   have hcz8_2:=cellS61_2 HGz8
   have hfz8_0:=blk_frozen HGz8 0
   have hfz8_1:=blk_frozen HGz8 1
   have hfz8_2:=blk_frozen HGz8 2
   clear HGz8 hgz8
   have p4:0≤(x1001_1:Int):=of_decide_eq_true asm
   have q4:x1001_1<(s0_0.size:Int):=of_decide_eq_true asm
   have hx4:=bt_at s0_0 x1001_1
   replace p4:=eq_true p4
   replace q4:=eq_true q4
   go_wp2_with (first|(go_at_call 65;(with_reducible refine(stowageref13_white.calls (bt s0_0 x1001_1) false _ A5.out).mono ?_);rintro e w' ⟨rfl,⟨nd,rfl⟩⟩;(try exact dd)))
   repeat (go_quiet (first|(go_at_call 65;(with_reducible refine(stowageref13_white.calls (bt s0_0 x1001_1) false _ A5.out).mono ?_);rintro e w' ⟨rfl,⟨nd,rfl⟩⟩;(try exact dd)));try go_wp2_with (first|(go_at_call 65;(with_reducible refine(stowageref13_white.calls (bt s0_0 x1001_1) false _ A5.out).mono ?_);rintro e w' ⟨rfl,⟨nd,rfl⟩⟩;(try exact dd))))
   go_ret
   exact⟨ew,by repeat (first|(with_reducible first|exact HI0.out|apply IsS61.alloc|apply IsS61.drewN|apply IsS61.drew|apply IsS61.set_0|apply IsS61.set_1|apply IsS61.set_2)|exact HI0.out),by repeat (first|(with_reducible first|exact HB.out|apply below_alloc|apply pw_below_drewN|apply below_drew1|refine below_set ?_ (IsS61.ge HI0.out))|exact HB.out),kk⟩
   }
   }
   ·exact absurd H (by simp)
   }
   {
   have c2b0:decide (x1001_1<(s0_0.size:Int))=false:=decide_eq_false c2
   clear c2
   simp only [Option.some.injEq,Prod.mk.injEq] at H
   obtain⟨rfl,rfl,rfl,rfl⟩:=H
   obtain⟨HGz9,hgz9⟩:=HI0.out
   have hcz9_0:=cellS61_0 HGz9
   have hcz9_1:=cellS61_1 HGz9
   have hcz9_2:=cellS61_2 HGz9
   have hfz9_0:=blk_frozen HGz9 0
   have hfz9_1:=blk_frozen HGz9 1
   have hfz9_2:=blk_frozen HGz9 2
   clear HGz9 hgz9
   go_wp2
   repeat (go_quiet (fail);try go_wp2)
   go_ret
   exact⟨ew,by repeat (first|(with_reducible first|exact HI0.out|apply IsS61.alloc|apply IsS61.drewN|apply IsS61.drew|apply IsS61.set_0|apply IsS61.set_1|apply IsS61.set_2)|exact HI0.out),by repeat (first|(with_reducible first|exact HB.out|apply below_alloc|apply pw_below_drewN|apply below_drew1|refine below_set ?_ (IsS61.ge HI0.out))|exact HB.out),kk⟩
   }
def stowageref13_Reader_eat.f (s0_0:ByteArray) (s0_1:Int) (s0_2:Bool) (a1:ByteArray):Option (Bool×ByteArray×Int×Bool):=if 0≤s0_1 then(if s0_1≤(s0_0.size:Int) then((stowageref3_Begins.f (s0_0.extract (s0_1:Int).toNat s0_0.size) a1).bind fun t183=>(if t183=true then(some (true,s0_0,wrap64 (s0_1+(a1.size:Int)),s0_2)) else(some (false,s0_0,s0_1,s0_2)))) else(none)) else(none)
theorem stowageref13_Reader_eat.calls (g:Nat) (s0_0:ByteArray) (s0_1:Int) (s0_2:Bool) (a1:ByteArray) (r1:Bool) (r2:ByteArray) (r3:Int) (r4:Bool) (w0 w:World) (hI:IsS61 w0 w g s0_0 s0_1 s0_2) (hB:Below w0.heap.size w0 w) (h:stowageref13_Reader_eat.f s0_0 s0_1 s0_2 a1=some (r1,r2,r3,r4)) :
  Calls Tryd.prog 66 #[.pointer (some ⟨g,0,none⟩),.string a1] w fun e w'=>e = .returned (.bool r1)∧IsS61 w0 w' g r2 r3 r4∧Below w0.heap.size w0 w'∧KeepBut w w' g none:=by
 have HI0:=Aside0.mk hI
 have HK:=Aside0.mk (KeepBut.refl w g none)
 have HL:=Aside0.mk hB.size
 clear hI
 have HW0:=Aside0.mk hB.size
 have HB:=Aside0.mk hB
 clear hB
 unfold stowageref13_Reader_eat.f at h
 have H:=h
 clear h
 replace H:=itO H
 rcases H with⟨c3,H⟩|⟨c3,H⟩
 ·skip
  have c3b0:=eq_true c3
  have c3b1:=decide_eq_true c3
  clear c3
  replace H:=itO H
  rcases H with⟨c4,H⟩|⟨c4,H⟩
  ·skip
   have c4b0:=eq_true c4
   have c4b1:=decide_eq_true c4
   clear c4
   replace H:=bndO H
   obtain⟨t183,A50,H⟩:=H
   have A5:=Aside0.mk A50
   clear A50
   by_cases c6:t183=true
   ·subst c6
    replace H:=itT H
    simp only [Option.some.injEq,Prod.mk.injEq] at H
    obtain⟨rfl,rfl,rfl,rfl⟩:=H
    obtain⟨HGz7,hgz7⟩:=HI0.out
    have hcz7_0:=cellS61_0 HGz7
    have hcz7_1:=cellS61_1 HGz7
    have hcz7_2:=cellS61_2 HGz7
    have hfz7_0:=blk_frozen HGz7 0
    have hfz7_1:=blk_frozen HGz7 1
    have hfz7_2:=blk_frozen HGz7 2
    clear HGz7 hgz7
    go_enter Tryd.func66,Tryd.ntmps66
    go_wp2_with (first|(go_at_call 64;(with_reducible refine(stowageref3_Begins.calls (s0_0.extract (s0_1:Int).toNat s0_0.size) a1 true _ A5.out).mono ?_);rintro e w' ⟨rfl,⟨nd,rfl⟩⟩;(try first|exact⟨rfl,_,World.drewN_drewN _ _ _⟩|exact⟨rfl,_,Eq.trans (World.drewN_drewN _ _ _) (congrArg (World.drewN _) (Nat.add_assoc _ _ _))⟩)))
    repeat (go_quiet (first|(go_at_call 64;(with_reducible refine(stowageref3_Begins.calls (s0_0.extract (s0_1:Int).toNat s0_0.size) a1 true _ A5.out).mono ?_);rintro e w' ⟨rfl,⟨nd,rfl⟩⟩;(try first|exact⟨rfl,_,World.drewN_drewN _ _ _⟩|exact⟨rfl,_,Eq.trans (World.drewN_drewN _ _ _) (congrArg (World.drewN _) (Nat.add_assoc _ _ _))⟩)));try go_wp2_with (first|(go_at_call 64;(with_reducible refine(stowageref3_Begins.calls (s0_0.extract (s0_1:Int).toNat s0_0.size) a1 true _ A5.out).mono ?_);rintro e w' ⟨rfl,⟨nd,rfl⟩⟩;(try first|exact⟨rfl,_,World.drewN_drewN _ _ _⟩|exact⟨rfl,_,Eq.trans (World.drewN_drewN _ _ _) (congrArg (World.drewN _) (Nat.add_assoc _ _ _))⟩))))
    go_ret
    exact⟨by first|rfl|(simp [errW_none,errW_some] <;> rfl)|(simp [*,errW_none,errW_some] <;> rfl),by repeat (first|(with_reducible first|exact HI0.out|apply IsS61.alloc|apply IsS61.drewN|apply IsS61.drew|apply IsS61.set_0|apply IsS61.set_1|apply IsS61.set_2)|exact HI0.out),by repeat (first|(with_reducible first|exact HB.out|apply below_alloc|apply pw_below_drewN|apply below_drew1|refine below_set ?_ (IsS61.ge HI0.out))|exact HB.out),kk⟩
   ·replace c6:=Bool.eq_false_iff.mpr c6
    subst c6
    replace H:=itF H
    simp only [Option.some.injEq,Prod.mk.injEq] at H
    obtain⟨rfl,rfl,rfl,rfl⟩:=H
    obtain⟨HGz8,hgz8⟩:=HI0.out
    have hcz8_0:=cellS61_0 HGz8
    have hcz8_1:=cellS61_1 HGz8
    have hcz8_2:=cellS61_2 HGz8
    have hfz8_0:=blk_frozen HGz8 0
    have hfz8_1:=blk_frozen HGz8 1
    have hfz8_2:=blk_frozen HGz8 2
    clear HGz8 hgz8
    go_enter Tryd.func66,Tryd.ntmps66
    go_wp2_with (first|(go_at_call 64;(with_reducible refine(stowageref3_Begins.calls (s0_0.extract (s0_1:Int).toNat s0_0.size) a1 false _ A5.out).mono ?_);rintro e w' ⟨rfl,⟨nd,rfl⟩⟩;(try first|exact⟨rfl,_,World.drewN_drewN _ _ _⟩|exact⟨rfl,_,Eq.trans (World.drewN_drewN _ _ _) (congrArg (World.drewN _) (Nat.add_assoc _ _ _))⟩)))
    repeat (go_quiet (first|(go_at_call 64;(with_reducible refine(stowageref3_Begins.calls (s0_0.extract (s0_1:Int).toNat s0_0.size) a1 false _ A5.out).mono ?_);rintro e w' ⟨rfl,⟨nd,rfl⟩⟩;(try first|exact⟨rfl,_,World.drewN_drewN _ _ _⟩|exact⟨rfl,_,Eq.trans (World.drewN_drewN _ _ _) (congrArg (World.drewN _) (Nat.add_assoc _ _ _))⟩)));try go_wp2_with (first|(go_at_call 64;(with_reducible refine(stowageref3_Begins.calls (s0_0.extract (s0_1:Int).toNat s0_0.size) a1 false _ A5.out).mono ?_);rintro e w' ⟨rfl,⟨nd,rfl⟩⟩;(try first|exact⟨rfl,_,World.drewN_drewN _ _ _⟩|exact⟨rfl,_,Eq.trans (World.drewN_drewN _ _ _) (congrArg (World.drewN _) (Nat.add_assoc _ _ _))⟩))))
    go_ret
    exact⟨by first|rfl|(simp [errW_none,errW_some] <;> rfl)|(simp [*,errW_none,errW_some] <;> rfl),by repeat (first|(with_reducible first|exact HI0.out|apply IsS61.alloc|apply IsS61.drewN|apply IsS61.drew|apply IsS61.set_0|apply IsS61.set_1|apply IsS61.set_2)|exact HI0.out),by repeat (first|(with_reducible first|exact HB.out|apply below_alloc|apply pw_below_drewN|apply below_drew1|refine below_set ?_ (IsS61.ge HI0.out))|exact HB.out),kk⟩
  ·exact absurd H (by simp)
 ·exact absurd H (by simp)
def stowageref13_letter.f (a0:Int):Option (Bool):=if a0 ≥ 65 then(if a0≤90 then(some true) else(if a0 ≥ 97 then(if a0≤122 then(some true) else(some (a0 == 95))) else(some (a0 == 95)))) else(if a0 ≥ 97 then(if a0≤122 then(some true) else(some (a0 == 95))) else(some (a0 == 95)))
theorem stowageref13_letter.calls (a0:Int) (r:Bool) (w:World) (h:stowageref13_letter.f a0=some r) :
  Calls Tryd.prog 45 #[.int .u8 a0] w fun e w'=>e = .returned (.bool r)∧Drawn0 w w':=by
 unfold stowageref13_letter.f at h
 have H:=h
 clear h
 replace H:=itO H
 rcases H with⟨c2,H⟩|⟨c2,H⟩
 ·skip
  have c2b0:decide (65≤a0)=true:=decide_eq_true c2
  clear c2
  replace H:=itO H
  rcases H with⟨c3,H⟩|⟨c3,H⟩
  ·skip
   have c3b0:decide (a0≤90)=true:=decide_eq_true c3
   clear c3
   obtain rfl:=Option.some.inj H
   go_enter Tryd.func45,Tryd.ntmps45
   go_wp2
   go_ret
   exact⟨by first|rfl|(simp;done)|(simp [*];done),by repeat (first|exact Drawn0.refl _|apply Drawn0.step)⟩
  ·skip
   have c3b0:decide (a0≤90)=false:=decide_eq_false c3
   clear c3
   replace H:=itO H
   rcases H with⟨c4,H⟩|⟨c4,H⟩
   ·skip
    have c4b0:decide (97≤a0)=true:=decide_eq_true c4
    clear c4
    replace H:=itO H
    rcases H with⟨c5,H⟩|⟨c5,H⟩
    ·skip
     have c5b0:decide (a0≤122)=true:=decide_eq_true c5
     clear c5
     obtain rfl:=Option.some.inj H
     go_enter Tryd.func45,Tryd.ntmps45
     go_wp2
     go_ret
     exact⟨by first|rfl|(simp;done)|(simp [*];done),by repeat (first|exact Drawn0.refl _|apply Drawn0.step)⟩
    ·skip
     have c5b0:decide (a0≤122)=false:=decide_eq_false c5
     clear c5
     obtain rfl:=Option.some.inj H
     go_enter Tryd.func45,Tryd.ntmps45
     go_wp2
     go_ret
     exact⟨by first|rfl|(simp;done)|(simp [*];done),by repeat (first|exact Drawn0.refl _|apply Drawn0.step)⟩
   ·skip
    have c4b0:decide (97≤a0)=false:=decide_eq_false c4
    clear c4
    obtain rfl:=Option.some.inj H
    go_enter Tryd.func45,Tryd.ntmps45
    go_wp2
    go_ret
    exact⟨by first|rfl|(simp;done)|(simp [*];done),by repeat (first|exact Drawn0.refl _|apply Drawn0.step)⟩
 ·skip
  have c2b0:decide (65≤a0)=false:=decide_eq_false c2
  clear c2
  replace H:=itO H
  rcases H with⟨c6,H⟩|⟨c6,H⟩
  ·skip
   have c6b0:decide (97≤a0)=true:=decide_eq_true c6
   clear c6
   replace H:=itO H
   rcases H with⟨c7,H⟩|⟨c7,H⟩
   ·skip
    have c7b0:decide (a0≤122)=true:=decide_eq_true c7
    clear c7
    obtain rfl:=Option.some.inj H
    go_enter Tryd.func45,Tryd.ntmps45
    go_wp2
    go_ret
    exact⟨by first|rfl|(simp;done)|(simp [*];done),by repeat (first|exact Drawn0.refl _|apply Drawn0.step)⟩
   ·skip
    have c7b0:decide (a0≤122)=false:=decide_eq_false c7
    clear c7
    obtain rfl:=Option.some.inj H
    go_enter Tryd.func45,Tryd.ntmps45
    go_wp2
    go_ret
    exact⟨by first|rfl|(simp;done)|(simp [*];done),by repeat (first|exact Drawn0.refl _|apply Drawn0.step)⟩
  ·skip
   have c6b0:decide (97≤a0)=false:=decide_eq_false c6
   clear c6
   obtain rfl:=Option.some.inj H
   go_enter Tryd.func45,Tryd.ntmps45
   go_wp2
   go_ret
   exact⟨by first|rfl|(simp;done)|(simp [*];done),by repeat (first|exact Drawn0.refl _|apply Drawn0.step)⟩
def stowageref13_inner.f (a0:Int):Option (Bool):=(stowageref13_letter.f a0).bind fun t165=>(if t165=true then(some true) else(if a0 ≥ 48 then(if a0≤57 then(some true) else(if a0=45 then(some true) else(some (a0 == 46)))) else(if a0=45 then(some true) else(some (a0 == 46)))))
theorem stowageref13_inner.calls (a0:Int) (r:Bool) (w:World) (h:stowageref13_inner.f a0=some r) :
  Calls Tryd.prog 44 #[.int .u8 a0] w fun e w'=>e = .returned (.bool r)∧Drawn0 w w':=by
 unfold stowageref13_inner.f at h
 have H:=h
 clear h
 replace H:=bndO H
 obtain⟨t165,A20,H⟩:=H
 have A2:=Aside0.mk A20
 clear A20
 by_cases c3:t165=true
 ·subst c3
  replace H:=itT H
  obtain rfl:=Option.some.inj H
  go_enter Tryd.func44,Tryd.ntmps44
  go_wp2_with (first|((with_reducible refine gate_callee (f:=45) rfl ?_);refine goesL_ (some 4) rfl rfl Tryd.func45 (by kernel_rfl) rfl #[.int .u8 a0] rfl (by(try simp only [List.map_toArray,List.map_cons,List.map_nil]);first|done|rfl|(simp only [List.length_drop,List.length_take];rfl)) ?_;(with_reducible refine(stowageref13_letter.calls a0 true _ A2.out).mono ?_);rintro e w' ⟨rfl,⟨nd,rfl⟩⟩;refine⟨_,rfl,?_⟩))
  go_ret
  exact⟨by first|rfl|(simp;done)|(simp [*];done),by repeat (first|exact Drawn0.refl _|apply Drawn0.step)⟩
 ·replace c3:=Bool.eq_false_iff.mpr c3
  subst c3
  replace H:=itF H
  replace H:=itO H
  rcases H with⟨c4,H⟩|⟨c4,H⟩
  ·skip
   have c4b0:decide (48≤a0)=true:=decide_eq_true c4
   clear c4
   replace H:=itO H
   rcases H with⟨c5,H⟩|⟨c5,H⟩
   ·skip
    have c5b0:decide (a0≤57)=true:=decide_eq_true c5
    clear c5
    obtain rfl:=Option.some.inj H
    go_enter Tryd.func44,Tryd.ntmps44
    go_wp2_with (first|((with_reducible refine gate_callee (f:=45) rfl ?_);refine goesL_ (some 4) rfl rfl Tryd.func45 (by kernel_rfl) rfl #[.int .u8 a0] rfl (by(try simp only [List.map_toArray,List.map_cons,List.map_nil]);first|done|rfl|(simp only [List.length_drop,List.length_take];rfl)) ?_;(with_reducible refine(stowageref13_letter.calls a0 false _ A2.out).mono ?_);rintro e w' ⟨rfl,⟨nd,rfl⟩⟩;refine⟨_,rfl,?_⟩))
    go_ret
    exact⟨by first|rfl|(simp;done)|(simp [*];done),by repeat (first|exact Drawn0.refl _|apply Drawn0.step)⟩
   ·skip
    have c5b0:decide (a0≤57)=false:=decide_eq_false c5
    clear c5
    replace H:=itO H
    rcases H with⟨c6,H⟩|⟨c6,H⟩
    ·skip
     have c6b0:(a0 == 45)=true:=beq_iff_eq.mpr c6
     have c6b1:(a0 != 45)=false:=bne_eq_false_iff_eq.mpr c6
     clear c6
     obtain rfl:=Option.some.inj H
     go_enter Tryd.func44,Tryd.ntmps44
     go_wp2_with (first|((with_reducible refine gate_callee (f:=45) rfl ?_);refine goesL_ (some 4) rfl rfl Tryd.func45 (by kernel_rfl) rfl #[.int .u8 a0] rfl (by(try simp only [List.map_toArray,List.map_cons,List.map_nil]);first|done|rfl|(simp only [List.length_drop,List.length_take];rfl)) ?_;(with_reducible refine(stowageref13_letter.calls a0 false _ A2.out).mono ?_);rintro e w' ⟨rfl,⟨nd,rfl⟩⟩;refine⟨_,rfl,?_⟩))
     go_ret
     exact⟨by first|rfl|(simp;done)|(simp [*];done),by repeat (first|exact Drawn0.refl _|apply Drawn0.step)⟩
    ·skip
     have c6b0:(a0 == 45)=false:=beq_eq_false_iff_ne.mpr c6
     have c6b1:(a0 != 45)=true:=bne_iff_ne.mpr c6
     obtain rfl:=Option.some.inj H
     go_enter Tryd.func44,Tryd.ntmps44
     go_wp2_with (first|((with_reducible refine gate_callee (f:=45) rfl ?_);refine goesL_ (some 4) rfl rfl Tryd.func45 (by kernel_rfl) rfl #[.int .u8 a0] rfl (by(try simp only [List.map_toArray,List.map_cons,List.map_nil]);first|done|rfl|(simp only [List.length_drop,List.length_take];rfl)) ?_;(with_reducible refine(stowageref13_letter.calls a0 false _ A2.out).mono ?_);rintro e w' ⟨rfl,⟨nd,rfl⟩⟩;refine⟨_,rfl,?_⟩))
     go_ret
     exact⟨by first|rfl|(simp;done)|(simp [*];done),by repeat (first|exact Drawn0.refl _|apply Drawn0.step)⟩
  ·skip
   have c4b0:decide (48≤a0)=false:=decide_eq_false c4
   clear c4
   replace H:=itO H
   rcases H with⟨c7,H⟩|⟨c7,H⟩
   ·skip
    have c7b0:(a0 == 45)=true:=beq_iff_eq.mpr c7
    have c7b1:(a0 != 45)=false:=bne_eq_false_iff_eq.mpr c7
    clear c7
    obtain rfl:=Option.some.inj H
    go_enter Tryd.func44,Tryd.ntmps44
    go_wp2_with (first|((with_reducible refine gate_callee (f:=45) rfl ?_);refine goesL_ (some 4) rfl rfl Tryd.func45 (by kernel_rfl) rfl #[.int .u8 a0] rfl (by(try simp only [List.map_toArray,List.map_cons,List.map_nil]);first|done|rfl|(simp only [List.length_drop,List.length_take];rfl)) ?_;(with_reducible refine(stowageref13_letter.calls a0 false _ A2.out).mono ?_);rintro e w' ⟨rfl,⟨nd,rfl⟩⟩;refine⟨_,rfl,?_⟩))
    go_ret
    exact⟨by first|rfl|(simp;done)|(simp [*];done),by repeat (first|exact Drawn0.refl _|apply Drawn0.step)⟩
   ·skip
    have c7b0:(a0 == 45)=false:=beq_eq_false_iff_ne.mpr c7
    have c7b1:(a0 != 45)=true:=bne_iff_ne.mpr c7
    obtain rfl:=Option.some.inj H
    go_enter Tryd.func44,Tryd.ntmps44
    go_wp2_with (first|((with_reducible refine gate_callee (f:=45) rfl ?_);refine goesL_ (some 4) rfl rfl Tryd.func45 (by kernel_rfl) rfl #[.int .u8 a0] rfl (by(try simp only [List.map_toArray,List.map_cons,List.map_nil]);first|done|rfl|(simp only [List.length_drop,List.length_take];rfl)) ?_;(with_reducible refine(stowageref13_letter.calls a0 false _ A2.out).mono ?_);rintro e w' ⟨rfl,⟨nd,rfl⟩⟩;refine⟨_,rfl,?_⟩))
    go_ret
    exact⟨by first|rfl|(simp;done)|(simp [*];done),by repeat (first|exact Drawn0.refl _|apply Drawn0.step)⟩
end Go.Proofs.YtklcgncaclggcaaDoor.Q
