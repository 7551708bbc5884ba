/- A part of the proof of the seat's laws. No condition beyond those in the theorems. -/
import Derived.Test.YtklcgncaclggcaaDoorZBase
import Derived.WalkMore
import Derived.Test.YtklcgncaclggcaaDoorZQ51
import Derived.Test.YtklcgncaclggcaaDoorZQ0g17
import Derived.Test.YtklcgncaclggcaaDoorZQ45g11
import Derived.Test.YtklcgncaclggcaaDoorZQ31
import Derived.Test.YtklcgncaclggcaaDoorZQ59g2
import Derived.Test.YtklcgncaclggcaaDoorZQ52
import Derived.Test.YtklcgncaclggcaaDoorZSqzB
open Bool renaming true→T,false→F

namespace Go.Proofs.YtklcgncaclggcaaDoor.Q
open Go.RowKit Go.Proofs.YtklcgncaclggcaaDoorW.PrintWords Go.Proofs.YtklcgncaclggcaaDoorW.PrintLast Go.Proofs.YtklcgncaclggcaaDoorW.PrintMore
set_option linter.unusedVariables false
set_option linter.unusedSimpArgs false
set_option maxHeartbeats 8000000
set_option maxRecDepth 100000
attribute [local go_sem] max2_int min2_int max_two min_two max_three min_three max_four min_four   
def xml_Parse.f (k:Nat) (s:ByteArray):Option (ByteArray×ByteArray×List S24×Int):=(if(65536:Int)<(s.size:Int) then some (⟨#[]⟩,⟨#[]⟩,[],2) else((chars_Legal.f s).bind fun lg=>(if lg=true then((xml_reader_begin.f s 0).bind fun b=>(if b.1=true then((xml_reader_space.f k b.2.1 b.2.2).bind fun a=>(xml_el.f k a.2.1 a.2.2 1).bind fun e=>(xml_reader_space.f k e.2.2.1 e.2.2.2).bind fun z=>(if e.2.1=true then(if z.2.2=(s.size:Int) then some (e.1.f0,e.1.f1,e.1.f2,0) else some (⟨#[]⟩,⟨#[]⟩,[],130)) else some (⟨#[]⟩,⟨#[]⟩,[],130))) else some (⟨#[]⟩,⟨#[]⟩,[],130))) else some (⟨#[]⟩,⟨#[]⟩,[],130))))
theorem xml_el.at_mono:∀ k s p,LeO (xml_el.at_ k s p) (xml_el.at_ (k+1) s p)
 | 0=>fun _ _ r h=>by simp [xml_el.at_] at h
 | k+1=>by
  have ih:=xml_el.at_mono k
  intro s p
  unfold xml_el.at_
  with_reducible repeat' first|exact ih _ _|exact xml_reader_space.mono _ _ _|exact xml_reader_attribute.mono _ _ _|exact LeO.refl _|exact LeO.none _|refine LeO.ite ?_ ?_|refine LeO.bind ?_ (fun _=>?_)
theorem xml_el.out_mono:∀ nm tx kids s p k,LeO (xml_el.out k nm tx kids s p) (xml_el.out (k+1) nm tx kids s p):=by
 intro nm tx kids s p k
 unfold xml_el.out
 with_reducible repeat' first|exact xml_reader_space.mono _ _ _|exact xml_reader_name.mono _ _ _|exact LeO.refl _|exact LeO.none _|refine LeO.ite ?_ ?_|refine LeO.bind ?_ (fun _=>?_)
theorem xml_el.mono_l:∀ k,(∀ s p d,LeO (xml_el.f k s p d) (xml_el.f (k+1) s p d))∧(∀ s p d kids,LeO (xml_co.lp k s p d kids) (xml_co.lp (k+1) s p d kids))∧(∀ s p d,LeO (xml_co.f k s p d) (xml_co.f (k+1) s p d))
 | 0=>⟨fun _ _ _ r h=>by simp [xml_el.f] at h,fun _ _ _ _ r h=>by simp [xml_co.lp] at h,fun _ _ _ r h=>by simp [xml_co.f] at h⟩
 | k+1=>by
  obtain⟨ih0,ih1,ih2⟩:=xml_el.mono_l k
  refine⟨?_,?_,?_⟩
  ·intro s p d
   unfold xml_el.f
   with_reducible repeat' first|exact ih2 _ _ _|exact xml_el.at_mono _ _ _|exact xml_el.out_mono _ _ _ _ _ _|exact xml_Name.mono _ _|exact xml_reader_name.mono _ _ _|exact LeO.refl _|exact LeO.none _|refine LeO.ite ?_ ?_|refine LeO.bind ?_ (fun _=>?_)
  ·intro s p d kids
   unfold xml_co.lp
   with_reducible repeat' first|exact ih0 _ _ _|exact ih1 _ _ _ _|exact xml_reader_space.mono _ _ _|exact LeO.refl _|exact LeO.none _|refine LeO.ite ?_ ?_|refine LeO.bind ?_ (fun _=>?_)
  ·intro s p d
   unfold xml_co.f
   with_reducible repeat' first|exact ih1 _ _ _ _|exact xml_reader_space.mono _ _ _|exact xml_Unescape.mono _ _|exact LeO.refl _|exact LeO.none _|refine LeO.ite ?_ ?_|refine LeO.bind ?_ (fun _=>?_)
theorem xml_Parse.mono:∀ a0 k,LeO (xml_Parse.f k a0) (xml_Parse.f (k+1) a0):=by
 intro a0 k
 unfold xml_Parse.f
 with_reducible repeat' first|exact(xml_el.mono_l k).1 _ _ _|exact xml_reader_space.mono _ _ _|exact LeO.refl _|exact LeO.none _|refine LeO.ite ?_ ?_|refine LeO.bind ?_ (fun _=>?_)
def xml_pa.Inv (w W:World) (g b:Nat) (s:ByteArray) (p:Int):Prop:=IsS57 w W g s p∧Below w.heap.size w W∧W.heap[b]? = some (.cells #[.string (⟨#[]⟩ : ByteArray),.string (⟨#[]⟩ : ByteArray),.slice none 0 0] 24 (0,0))∧b≠g∧w.heap.size≤b
section
variable {w W W1:World} {g b:Nat} {s s1:ByteArray} {p p1:Int}
theorem xml_pa.Inv.i (h:xml_pa.Inv w W g b s p):IsS57 w W g s p:=h.1
theorem xml_pa.Inv.bel (h:xml_pa.Inv w W g b s p):Below w.heap.size w W:=h.2.1
theorem xml_pa.Inv.blk (h:xml_pa.Inv w W g b s p):W.heap[b]? = some (.cells #[.string (⟨#[]⟩ : ByteArray),.string (⟨#[]⟩ : ByteArray),.slice none 0 0] 24 (0,0)):=h.2.2.1
theorem xml_pa.Inv.ne (h:xml_pa.Inv w W g b s p):b≠g:=h.2.2.2.1
theorem xml_pa.Inv.ge (h:xml_pa.Inv w W g b s p):w.heap.size≤b:=h.2.2.2.2
theorem xml_pa.Inv.drewN (h:xml_pa.Inv w W g b s p) (n:Nat):xml_pa.Inv w (W.drewN n) g b s p:=⟨h.1.drewN n,pw_below_drewN h.2.1 n,blk_drewN h.2.2.1 n,h.2.2.2⟩
theorem xml_pa.Inv.drew (h:xml_pa.Inv w W g b s p):xml_pa.Inv w W.drew g b s p:=⟨h.1.drew,below_drew h.2.1,blk_drew h.2.2.1,h.2.2.2⟩
theorem xml_pa.Inv.call (h:xml_pa.Inv w W g b s p) (hi:IsS57 w W1 g s1 p1) (hb:Below w.heap.size w W1) (hk:KeepBut W W1 g none):xml_pa.Inv w W1 g b s1 p1:=⟨hi,hb,hk.blk h.2.2.1 h.2.2.2.1 (by simp),h.2.2.2⟩
theorem xml_pa.Inv.below (h:xml_pa.Inv w W g b s p) (hb:Below W.heap.size W W1):xml_pa.Inv w W1 g b s p:=⟨h.1.below hb,below_step h.2.1 hb,blk_below h.2.2.1 hb,h.2.2.2⟩
theorem xml_pa.Inv.far (h:xml_pa.Inv w W g b s p) {q:Nat} (hq:w.heap.size≤q) (hg:q≠g) (hb:q≠b) (j:Nat) (u:Value):xml_pa.Inv w (W.setCell ⟨q,j,none⟩ u) g b s p:=
 ⟨h.1.far (p:=⟨q,j,none⟩) (fun e=>hg e.symm) u,below_set h.2.1 hq,blk_far h.2.2.1 (p:=⟨q,j,none⟩) (fun e=>hb e.symm) u,h.2.2.2⟩
theorem xml_pa.start {w4 w5:World} (h1:Below w.heap.size w w4) (h2:w4.heap[b]? = some (.cells #[.string (⟨#[]⟩ : ByteArray),.string (⟨#[]⟩ : ByteArray),.slice none 0 0] 24 (0,0))) (h3:b=w.heap.size) (h4:Below w4.heap.size w4 w5) (h5:w5.heap[g]? = some (.cells #[.string s,.int .i64 0] 57 (0,0))) (h6:g=w4.heap.size):xml_pa.Inv w w5 g b s 0:=
 ⟨⟨h5,by rw [h6];exact h1.size⟩,below_step h1 h4,blk_below h2 h4,by have:=blk_lt h2;omega,Nat.le_of_eq h3.symm⟩
theorem xml_pa.el {n:Nat} {u:Value} {xs:List S24} (h:xml_pa.Inv w W g b s p) (hV:Kd.V k24 24 W1 n (fun k_=>W.heap.size≤k_) u xs):Kd.V k24 24 W1 n (fun k_=>w.heap.size≤k_∧k_≠g∧k_≠b) u xs:=
 Kd.V_mono hV (fun k_ (hk:W.heap.size≤k_)=>⟨Nat.le_trans h.2.1.size hk,by have:=h.1.lt;omega,by have:=blk_lt h.2.2.1;omega⟩)
theorem xml_pa.vkeep {n:Nat} {u:Value} {xs:List S24} (h:Kd.V k24 24 W n (fun k_=>w.heap.size≤k_∧k_≠g∧k_≠b) u xs) (hk:KeepBut W W1 g none):Kd.V k24 24 W1 n (fun k_=>w.heap.size≤k_∧k_≠g∧k_≠b) u xs:=Kd.V_keep h hk (fun k_ (h_:w.heap.size≤k_∧k_≠g∧k_≠b)=>h_.2.1)
theorem xml_pa.vput {n:Nat} {u:Value} {xs:List S24} (h:Kd.V k24 24 W n (fun k_=>w.heap.size≤k_∧k_≠g∧k_≠b) u xs) (x y z:Value):Kd.V k24 24 (((W.setCell ⟨b,0,none⟩ x).setCell ⟨b,1,none⟩ y).setCell ⟨b,2,none⟩ z) n (fun k_=>w.heap.size≤k_) u xs:=
 Kd.V_mono (Kd.V_far (p:=⟨b,2,none⟩) (Kd.V_far (p:=⟨b,1,none⟩) (Kd.V_far (p:=⟨b,0,none⟩) h (fun _ hk=>hk.2.2) x) (fun _ hk=>hk.2.2) y) (fun _ hk=>hk.2.2) z) (fun _ hk=>hk.1)
theorem xml_pa.ne5 {w4:World} {q:Nat} (h:xml_pa.Inv w W g b s p) (hq:q=W.heap.size):w.heap.size≤q∧q≠g∧q≠b:=⟨by rw [hq];exact h.2.1.size,by have:=h.1.lt;omega,by have:=blk_lt h.2.2.1;omega⟩
theorem xml_pa.ends {nm tx:ByteArray} {v:Value} {xs:List S24} (h:xml_pa.Inv w W g b s p) (hV:Kd.V k24 24 W w.heap.size (fun k_=>w.heap.size≤k_∧k_≠g∧k_≠b) v xs) :
  (((W.setCell ⟨b,0,none⟩ (.string nm)).setCell ⟨b,1,none⟩ (.string tx)).setCell ⟨b,2,none⟩ v).heap[b]? = some (.cells #[.string nm,.string tx,v] 24 (0,0))∧Kd.V k24 24 (((W.setCell ⟨b,0,none⟩ (.string nm)).setCell ⟨b,1,none⟩ (.string tx)).setCell ⟨b,2,none⟩ v) w.heap.size (fun k_=>w.heap.size≤k_) v xs∧Below w.heap.size w (((W.setCell ⟨b,0,none⟩ (.string nm)).setCell ⟨b,1,none⟩ (.string tx)).setCell ⟨b,2,none⟩ v):=
 ⟨blk_put (blk_put (blk_put h.2.2.1 0 (.string nm) (cs':=#[.string nm,.string (⟨#[]⟩ : ByteArray),.slice none 0 0]) rfl) 1 (.string tx) (cs':=#[.string nm,.string tx,.slice none 0 0]) rfl) 2 v rfl,xml_pa.vput hV _ _ _,below_set (below_set (below_set h.2.1 h.2.2.2.2) h.2.2.2.2) h.2.2.2.2⟩
end
theorem xml_Parse.calls (k:Nat) (a0:ByteArray) (r1 r2:ByteArray) (r3:List S24) (r4:Int) (w:World) (hG:GOk w) (h:xml_Parse.f k a0=some (r1,r2,r3,r4)) :
  Calls Tryd.prog 10 #[.string a0] w fun e w'=>∃ v0_:Value,e = .returned (.tuple #[.agg #[.string r1,.string r2,v0_],.int .i64 r4])∧Kd.V k24 24 w' w.heap.size (fun k_=>(w.heap.size≤k_)) v0_ r3∧Below w.heap.size w w':=by
 unfold xml_Parse.f at h
 have hu24:=Tryd.underlying24
 go_enter Tryd.func10,Tryd.ntmps10
 rcases itO h with⟨c1,h⟩|⟨c1,h⟩
 ·have t1:=eq_true c1
  have t2:=decide_eq_true c1
  have t3:decide (65536<a0.size)=true:=decide_eq_true (by omega)
  have t4:(65536<a0.size)=True:=eq_true (by omega)
  clear c1
  simp only [Option.some.injEq,Prod.mk.injEq] at h
  obtain⟨rfl,rfl,rfl,rfl⟩:=h
  go_wp2_with (first|((with_reducible refine gate_dst (N:=2) rfl ?_);(try (refine gate_guard (by rfl) ?_;dsimp only));refine box_event ?hg2 (N:=2) ?hd2 (cs:=#[.string (⟨#[]⟩ : ByteArray),.string (⟨#[]⟩ : ByteArray),.slice none 0 0]) (t:=24) ?hr2 ?_;(case hd2=>rfl);(case hg2=>rfl);(case hr2=>first|(go_simp;done)|(go_simp;rfl));intro b hgb w4 hbox hb;have HB1:=Aside0.mk hb;have HB2:=Aside0.mk hbox;have HB3:=Aside0.mk hgb;have hd0:=(blk_cell HB2.out 0).trans rfl;have hd1:=(blk_cell HB2.out 1).trans rfl;have hd2:=(blk_cell HB2.out 2).trans rfl;have he0:=blk_frozen HB2.out 0;have he1:=blk_frozen HB2.out 1;have he2:=blk_frozen HB2.out 2;clear hb hbox hgb))
  try simp only [Exit.jump]
  have HZ:=blk_put (blk_put (blk_put HB2.out 0 (.string (⟨#[]⟩ : ByteArray)) (cs':=#[.string (⟨#[]⟩ : ByteArray),.string (⟨#[]⟩ : ByteArray),.slice none 0 0]) rfl) 1 (.string (⟨#[]⟩ : ByteArray)) (cs':=#[.string (⟨#[]⟩ : ByteArray),.string (⟨#[]⟩ : ByteArray),.slice none 0 0]) rfl) 2 (.slice none 0 0) (cs':=#[.string (⟨#[]⟩ : ByteArray),.string (⟨#[]⟩ : ByteArray),.slice none 0 0]) rfl
  refine bodyPost_ret (results_ct rfl _ _ b 24 #[.string (⟨#[]⟩ : ByteArray),.string (⟨#[]⟩ : ByteArray),.slice none 0 0] (0,0) _ rfl HZ Tryd.underlying24 rfl (by kernel_rfl)) rfl ?_
  exact⟨.slice none 0 0,rfl,Kd.V_nil _ _ _ _ _,below_set (below_set (below_set HB1.out (Nat.le_of_eq HB3.out.symm)) (Nat.le_of_eq HB3.out.symm)) (Nat.le_of_eq HB3.out.symm)⟩
 have t1:=eq_false c1
 have t2:=decide_eq_false c1
 have t3:decide (65536<a0.size)=false:=decide_eq_false (by omega)
 have t4:(65536<a0.size)=False:=eq_false (by omega)
 clear c1
 obtain⟨lg,hlg,h⟩:=bndO h
 have hLg:=Aside0.mk hlg
 clear hlg
 cases lg with
 | false=>
  rw [if_neg Bool.false_ne_true] at h
  simp only [Option.some.injEq,Prod.mk.injEq] at h
  obtain⟨rfl,rfl,rfl,rfl⟩:=h
  go_wp2_with (first|((with_reducible refine gate_dst (N:=2) rfl ?_);(try (refine gate_guard (by rfl) ?_;dsimp only));refine box_event ?hg2 (N:=2) ?hd2 (cs:=#[.string (⟨#[]⟩ : ByteArray),.string (⟨#[]⟩ : ByteArray),.slice none 0 0]) (t:=24) ?hr2 ?_;(case hd2=>rfl);(case hg2=>rfl);(case hr2=>first|(go_simp;done)|(go_simp;rfl));intro b hgb w4 hbox hb;have HB1:=Aside0.mk hb;have HB2:=Aside0.mk hbox;have HB3:=Aside0.mk hgb;have hd0:=(blk_cell HB2.out 0).trans rfl;have hd1:=(blk_cell HB2.out 1).trans rfl;have hd2:=(blk_cell HB2.out 2).trans rfl;have he0:=blk_frozen HB2.out 0;have he1:=blk_frozen HB2.out 1;have he2:=blk_frozen HB2.out 2;clear hb hbox hgb)|((with_reducible refine gate_dst (N:=13) rfl ?_);(try (refine gate_guard (by rfl) ?_;dsimp only));refine box_event ?hg13 (N:=13) ?hd13 (cs:=#[.string a0,.int .i64 0]) (t:=57) ?hr13 ?_;(case hd13=>rfl);(case hg13=>rfl);(case hr13=>first|(go_simp;done)|(go_simp;rfl));intro g hgg w5 hbox hb;have HV:=Aside0.mk (xml_pa.start HB1.out HB2.out HB3.out hb hbox hgg);clear hb hbox hgg;have hc0:=xml_reader_attribute.c0 HV.out.i;have hc1:=xml_reader_attribute.c1 HV.out.i;have hd0:=(blk_cell HV.out.blk 0).trans rfl;have hd1:=(blk_cell HV.out.blk 1).trans rfl;have hd2:=(blk_cell HV.out.blk 2).trans rfl;have he0:=blk_frozen HV.out.blk 0;have he1:=blk_frozen HV.out.blk 1;have he2:=blk_frozen HV.out.blk 2;have hne:=HV.out.ne;have hen:=HV.out.ne.symm)|(go_at_call 27;with_reducible refine(chars_Legal.calls a0 false _ hLg.out).mono ?_;rintro e_ w_ ⟨rfl,hb⟩;(first|replace HV:=Aside0.mk (xml_pa.Inv.below HV.out hb)|replace HV:=Aside0.mk (xml_pa.Inv.below (HV.out.drewN _) hb)|replace HV:=Aside0.mk (xml_pa.Inv.below ((HV.out.drewN _).drewN _) hb)|replace HV:=Aside0.mk (xml_pa.Inv.below HV.out.drew hb));clear hb;have hc0:=xml_reader_attribute.c0 HV.out.i;have hc1:=xml_reader_attribute.c1 HV.out.i;have hd0:=(blk_cell HV.out.blk 0).trans rfl;have hd1:=(blk_cell HV.out.blk 1).trans rfl;have hd2:=(blk_cell HV.out.blk 2).trans rfl;have he0:=blk_frozen HV.out.blk 0;have he1:=blk_frozen HV.out.blk 1;have he2:=blk_frozen HV.out.blk 2;have hne:=HV.out.ne;have hen:=HV.out.ne.symm))
  try simp only [Exit.jump]
  have HZ:=xml_pa.ends (nm:=(⟨#[]⟩ : ByteArray)) (tx:=(⟨#[]⟩ : ByteArray)) (by first|exact HV.out|exact(HV.out.drewN _)|exact((HV.out.drewN _).drewN _)|exact HV.out.drew) (Kd.V_nil k24 24 _ _ _)
  refine bodyPost_ret (results_ct rfl _ _ b 24 #[.string (⟨#[]⟩ : ByteArray),.string (⟨#[]⟩ : ByteArray),.slice none 0 0] (0,0) _ rfl HZ.1 Tryd.underlying24 rfl (by kernel_rfl)) rfl ?_
  exact⟨.slice none 0 0,rfl,HZ.2.1,HZ.2.2⟩
 | true=>
  rw [if_pos rfl] at h
  obtain⟨b0,hb0,h⟩:=bndO h
  obtain⟨b1,b2,b3⟩:=b0
  have hBg:=Aside0.mk hb0
  clear hb0
  dsimp only at h
  cases b1 with
  | false=>
   rw [if_neg Bool.false_ne_true] at h
   simp only [Option.some.injEq,Prod.mk.injEq] at h
   obtain⟨rfl,rfl,rfl,rfl⟩:=h
   go_wp2_with (first|((with_reducible refine gate_dst (N:=2) rfl ?_);(try (refine gate_guard (by rfl) ?_;dsimp only));refine box_event ?hg2 (N:=2) ?hd2 (cs:=#[.string (⟨#[]⟩ : ByteArray),.string (⟨#[]⟩ : ByteArray),.slice none 0 0]) (t:=24) ?hr2 ?_;(case hd2=>rfl);(case hg2=>rfl);(case hr2=>first|(go_simp;done)|(go_simp;rfl));intro b hgb w4 hbox hb;have HB1:=Aside0.mk hb;have HB2:=Aside0.mk hbox;have HB3:=Aside0.mk hgb;have hd0:=(blk_cell HB2.out 0).trans rfl;have hd1:=(blk_cell HB2.out 1).trans rfl;have hd2:=(blk_cell HB2.out 2).trans rfl;have he0:=blk_frozen HB2.out 0;have he1:=blk_frozen HB2.out 1;have he2:=blk_frozen HB2.out 2;clear hb hbox hgb)|((with_reducible refine gate_dst (N:=13) rfl ?_);(try (refine gate_guard (by rfl) ?_;dsimp only));refine box_event ?hg13 (N:=13) ?hd13 (cs:=#[.string a0,.int .i64 0]) (t:=57) ?hr13 ?_;(case hd13=>rfl);(case hg13=>rfl);(case hr13=>first|(go_simp;done)|(go_simp;rfl));intro g hgg w5 hbox hb;have HV:=Aside0.mk (xml_pa.start HB1.out HB2.out HB3.out hb hbox hgg);clear hb hbox hgg;have hc0:=xml_reader_attribute.c0 HV.out.i;have hc1:=xml_reader_attribute.c1 HV.out.i;have hd0:=(blk_cell HV.out.blk 0).trans rfl;have hd1:=(blk_cell HV.out.blk 1).trans rfl;have hd2:=(blk_cell HV.out.blk 2).trans rfl;have he0:=blk_frozen HV.out.blk 0;have he1:=blk_frozen HV.out.blk 1;have he2:=blk_frozen HV.out.blk 2;have hne:=HV.out.ne;have hen:=HV.out.ne.symm)|(go_at_call 27;with_reducible refine(chars_Legal.calls a0 true _ hLg.out).mono ?_;rintro e_ w_ ⟨rfl,hb⟩;(first|replace HV:=Aside0.mk (xml_pa.Inv.below HV.out hb)|replace HV:=Aside0.mk (xml_pa.Inv.below (HV.out.drewN _) hb)|replace HV:=Aside0.mk (xml_pa.Inv.below ((HV.out.drewN _).drewN _) hb)|replace HV:=Aside0.mk (xml_pa.Inv.below HV.out.drew hb));clear hb;have hc0:=xml_reader_attribute.c0 HV.out.i;have hc1:=xml_reader_attribute.c1 HV.out.i;have hd0:=(blk_cell HV.out.blk 0).trans rfl;have hd1:=(blk_cell HV.out.blk 1).trans rfl;have hd2:=(blk_cell HV.out.blk 2).trans rfl;have he0:=blk_frozen HV.out.blk 0;have he1:=blk_frozen HV.out.blk 1;have he2:=blk_frozen HV.out.blk 2;have hne:=HV.out.ne;have hen:=HV.out.ne.symm)|(go_at_call 28;with_reducible refine(xml_reader_begin.calls g a0 0 false b2 b3 w _ ?s1 ?s2 hG hBg.out).mono ?_;(case s1=>exact(by first|exact HV.out.i|exact(HV.out.drewN _).i|exact((HV.out.drewN _).drewN _).i|exact HV.out.drew.i));(case s2=>exact(by first|exact HV.out.bel|exact(HV.out.drewN _).bel|exact((HV.out.drewN _).drewN _).bel|exact HV.out.drew.bel));rintro e_ w_ ⟨rfl,hi,hb,hk⟩;(first|replace HV:=Aside0.mk (xml_pa.Inv.call HV.out hi hb hk)|replace HV:=Aside0.mk (xml_pa.Inv.call (HV.out.drewN _) hi hb hk)|replace HV:=Aside0.mk (xml_pa.Inv.call ((HV.out.drewN _).drewN _) hi hb hk)|replace HV:=Aside0.mk (xml_pa.Inv.call HV.out.drew hi hb hk));clear hi hb hk;have hc0:=xml_reader_attribute.c0 HV.out.i;have hc1:=xml_reader_attribute.c1 HV.out.i;have hd0:=(blk_cell HV.out.blk 0).trans rfl;have hd1:=(blk_cell HV.out.blk 1).trans rfl;have hd2:=(blk_cell HV.out.blk 2).trans rfl;have he0:=blk_frozen HV.out.blk 0;have he1:=blk_frozen HV.out.blk 1;have he2:=blk_frozen HV.out.blk 2;have hne:=HV.out.ne;have hen:=HV.out.ne.symm))
   try simp only [Exit.jump]
   have HZ:=xml_pa.ends (nm:=(⟨#[]⟩ : ByteArray)) (tx:=(⟨#[]⟩ : ByteArray)) (by first|exact HV.out|exact(HV.out.drewN _)|exact((HV.out.drewN _).drewN _)|exact HV.out.drew) (Kd.V_nil k24 24 _ _ _)
   refine bodyPost_ret (results_ct rfl _ _ b 24 #[.string (⟨#[]⟩ : ByteArray),.string (⟨#[]⟩ : ByteArray),.slice none 0 0] (0,0) _ rfl HZ.1 Tryd.underlying24 rfl (by kernel_rfl)) rfl ?_
   exact⟨.slice none 0 0,rfl,HZ.2.1,HZ.2.2⟩
  | true=>
   rw [if_pos rfl] at h
   obtain⟨a,ha,h⟩:=bndO h
   obtain⟨s1,s2,s3⟩:=a
   have hS1:=Aside0.mk ha
   clear ha
   dsimp only at h
   obtain⟨e,he,h⟩:=bndO h
   obtain⟨⟨x0,x1,x2⟩,e2,e3,e4⟩:=e
   have hE:=Aside0.mk he
   clear he
   dsimp only at h
   obtain⟨z,hz,h⟩:=bndO h
   obtain⟨z1,z2,z3⟩:=z
   have hS2:=Aside0.mk hz
   clear hz
   dsimp only at h
   go_upto_region 8 with(first|((with_reducible refine gate_dst (N:=2) rfl ?_);(try (refine gate_guard (by rfl) ?_;dsimp only));refine box_event ?hg2 (N:=2) ?hd2 (cs:=#[.string (⟨#[]⟩ : ByteArray),.string (⟨#[]⟩ : ByteArray),.slice none 0 0]) (t:=24) ?hr2 ?_;(case hd2=>rfl);(case hg2=>rfl);(case hr2=>first|(go_simp;done)|(go_simp;rfl));intro b hgb w4 hbox hb;have HB1:=Aside0.mk hb;have HB2:=Aside0.mk hbox;have HB3:=Aside0.mk hgb;have hd0:=(blk_cell HB2.out 0).trans rfl;have hd1:=(blk_cell HB2.out 1).trans rfl;have hd2:=(blk_cell HB2.out 2).trans rfl;have he0:=blk_frozen HB2.out 0;have he1:=blk_frozen HB2.out 1;have he2:=blk_frozen HB2.out 2;clear hb hbox hgb)|((with_reducible refine gate_dst (N:=13) rfl ?_);(try (refine gate_guard (by rfl) ?_;dsimp only));refine box_event ?hg13 (N:=13) ?hd13 (cs:=#[.string a0,.int .i64 0]) (t:=57) ?hr13 ?_;(case hd13=>rfl);(case hg13=>rfl);(case hr13=>first|(go_simp;done)|(go_simp;rfl));intro g hgg w5 hbox hb;have HV:=Aside0.mk (xml_pa.start HB1.out HB2.out HB3.out hb hbox hgg);clear hb hbox hgg;have hc0:=xml_reader_attribute.c0 HV.out.i;have hc1:=xml_reader_attribute.c1 HV.out.i;have hd0:=(blk_cell HV.out.blk 0).trans rfl;have hd1:=(blk_cell HV.out.blk 1).trans rfl;have hd2:=(blk_cell HV.out.blk 2).trans rfl;have he0:=blk_frozen HV.out.blk 0;have he1:=blk_frozen HV.out.blk 1;have he2:=blk_frozen HV.out.blk 2;have hne:=HV.out.ne;have hen:=HV.out.ne.symm)|(go_at_call 27;with_reducible refine(chars_Legal.calls a0 true _ hLg.out).mono ?_;rintro e_ w_ ⟨rfl,hb⟩;(first|replace HV:=Aside0.mk (xml_pa.Inv.below HV.out hb)|replace HV:=Aside0.mk (xml_pa.Inv.below (HV.out.drewN _) hb)|replace HV:=Aside0.mk (xml_pa.Inv.below ((HV.out.drewN _).drewN _) hb)|replace HV:=Aside0.mk (xml_pa.Inv.below HV.out.drew hb));clear hb;have hc0:=xml_reader_attribute.c0 HV.out.i;have hc1:=xml_reader_attribute.c1 HV.out.i;have hd0:=(blk_cell HV.out.blk 0).trans rfl;have hd1:=(blk_cell HV.out.blk 1).trans rfl;have hd2:=(blk_cell HV.out.blk 2).trans rfl;have he0:=blk_frozen HV.out.blk 0;have he1:=blk_frozen HV.out.blk 1;have he2:=blk_frozen HV.out.blk 2;have hne:=HV.out.ne;have hen:=HV.out.ne.symm)|(go_at_call 28;with_reducible refine(xml_reader_begin.calls g a0 0 true b2 b3 w _ ?s1 ?s2 hG hBg.out).mono ?_;(case s1=>exact(by first|exact HV.out.i|exact(HV.out.drewN _).i|exact((HV.out.drewN _).drewN _).i|exact HV.out.drew.i));(case s2=>exact(by first|exact HV.out.bel|exact(HV.out.drewN _).bel|exact((HV.out.drewN _).drewN _).bel|exact HV.out.drew.bel));rintro e_ w_ ⟨rfl,hi,hb,hk⟩;(first|replace HV:=Aside0.mk (xml_pa.Inv.call HV.out hi hb hk)|replace HV:=Aside0.mk (xml_pa.Inv.call (HV.out.drewN _) hi hb hk)|replace HV:=Aside0.mk (xml_pa.Inv.call ((HV.out.drewN _).drewN _) hi hb hk)|replace HV:=Aside0.mk (xml_pa.Inv.call HV.out.drew hi hb hk));clear hi hb hk;have hc0:=xml_reader_attribute.c0 HV.out.i;have hc1:=xml_reader_attribute.c1 HV.out.i;have hd0:=(blk_cell HV.out.blk 0).trans rfl;have hd1:=(blk_cell HV.out.blk 1).trans rfl;have hd2:=(blk_cell HV.out.blk 2).trans rfl;have he0:=blk_frozen HV.out.blk 0;have he1:=blk_frozen HV.out.blk 1;have he2:=blk_frozen HV.out.blk 2;have hne:=HV.out.ne;have hen:=HV.out.ne.symm)|(go_at_call 29;with_reducible refine(xml_reader_space.calls k g b2 b3 s1 s2 s3 w _ ?s1 ?s2 hS1.out).mono ?_;(case s1=>exact(by first|exact HV.out.i|exact(HV.out.drewN _).i|exact((HV.out.drewN _).drewN _).i|exact HV.out.drew.i));(case s2=>exact(by first|exact HV.out.bel|exact(HV.out.drewN _).bel|exact((HV.out.drewN _).drewN _).bel|exact HV.out.drew.bel));rintro e_ w_ ⟨rfl,hi,hb,hk⟩;(first|replace HV:=Aside0.mk (xml_pa.Inv.call HV.out hi hb hk)|replace HV:=Aside0.mk (xml_pa.Inv.call (HV.out.drewN _) hi hb hk)|replace HV:=Aside0.mk (xml_pa.Inv.call ((HV.out.drewN _).drewN _) hi hb hk)|replace HV:=Aside0.mk (xml_pa.Inv.call HV.out.drew hi hb hk));clear hi hb hk;have hc0:=xml_reader_attribute.c0 HV.out.i;have hc1:=xml_reader_attribute.c1 HV.out.i;have hd0:=(blk_cell HV.out.blk 0).trans rfl;have hd1:=(blk_cell HV.out.blk 1).trans rfl;have hd2:=(blk_cell HV.out.blk 2).trans rfl;have he0:=blk_frozen HV.out.blk 0;have he1:=blk_frozen HV.out.blk 1;have he2:=blk_frozen HV.out.blk 2;have hne:=HV.out.ne;have hen:=HV.out.ne.symm)|(go_at_call 30;with_reducible refine((xml_both k).1 s2 s3 1 _ w _ g ?s1 ?s2 hG hE.out).mono ?_;(case s1=>exact(by first|exact HV.out.i|exact(HV.out.drewN _).i|exact((HV.out.drewN _).drewN _).i|exact HV.out.drew.i));(case s2=>exact(by first|exact HV.out.bel|exact(HV.out.drewN _).bel|exact((HV.out.drewN _).drewN _).bel|exact HV.out.drew.bel));rintro e_ w_ ⟨v,he_,hVV,hi,hb,hk⟩;dsimp only at he_ hVV hi;obtain⟨eA,ec,rfl⟩:=Kd.V_slice hVV;subst he_;(first|have HE:=Aside0.mk (xml_pa.el HV.out hVV)|have HE:=Aside0.mk (xml_pa.el (HV.out.drewN _) hVV)|have HE:=Aside0.mk (xml_pa.el ((HV.out.drewN _).drewN _) hVV)|have HE:=Aside0.mk (xml_pa.el HV.out.drew hVV));(first|replace HV:=Aside0.mk (xml_pa.Inv.call HV.out hi hb hk)|replace HV:=Aside0.mk (xml_pa.Inv.call (HV.out.drewN _) hi hb hk)|replace HV:=Aside0.mk (xml_pa.Inv.call ((HV.out.drewN _).drewN _) hi hb hk)|replace HV:=Aside0.mk (xml_pa.Inv.call HV.out.drew hi hb hk));clear hi hb hk hVV;have hc0:=xml_reader_attribute.c0 HV.out.i;have hc1:=xml_reader_attribute.c1 HV.out.i;have hd0:=(blk_cell HV.out.blk 0).trans rfl;have hd1:=(blk_cell HV.out.blk 1).trans rfl;have hd2:=(blk_cell HV.out.blk 2).trans rfl;have he0:=blk_frozen HV.out.blk 0;have he1:=blk_frozen HV.out.blk 1;have he2:=blk_frozen HV.out.blk 2;have hne:=HV.out.ne;have hen:=HV.out.ne.symm)|((with_reducible refine gate_dst (N:=5) rfl ?_);(try (refine gate_guard (by rfl) ?_;dsimp only));refine box_event ?hg5 (N:=5) ?hd5 (cs:=#[.string (⟨#[]⟩ : ByteArray),.string (⟨#[]⟩ : ByteArray),.slice none 0 0]) (t:=24) ?hr5 ?_;(case hd5=>rfl);(case hg5=>rfl);(case hr5=>first|(go_simp;done)|(go_simp;rfl));intro g5 hg5 w6 hbox hb;have HX:=Aside0.mk hbox;have HB4:=Aside0.mk hb;have HG4:=Aside0.mk hg5;clear hb hbox hg5;have hk0:=(blk_cell HX.out 0).trans rfl;have hk1:=(blk_cell HX.out 1).trans rfl;have hk2:=(blk_cell HX.out 2).trans rfl;have hz0:=blk_frozen HX.out 0;have hz1:=blk_frozen HX.out 1;have hz2:=blk_frozen HX.out 2))
   have HN5:=Aside0.mk (xml_pa.ne5 (w4:=w6) HV.out HG4.out)
   have HV2:=Aside0.mk ((((HV.out.below HB4.out).far HN5.out.1 HN5.out.2.1 HN5.out.2.2 0 (.string x0)).far HN5.out.1 HN5.out.2.1 HN5.out.2.2 1 (.string x1)).far HN5.out.1 HN5.out.2.1 HN5.out.2.2 2 (.slice eA x2.length ec))
   have HE2:=Aside0.mk (xml_co.vbox HE.out HB4.out HG4.out (.string x0) (.string x1) (.slice eA x2.length ec))
   have HX2:=Aside0.mk (blk_put (blk_put (blk_put HX.out 0 (.string x0) (cs':=#[.string x0,.string (⟨#[]⟩ : ByteArray),.slice none 0 0]) rfl) 1 (.string x1) (cs':=#[.string x0,.string x1,.slice none 0 0]) rfl) 2 (.slice eA x2.length ec) (cs':=#[.string x0,.string x1,.slice eA x2.length ec]) rfl)
   clear HV HE HX HB4 HG4 hc0 hc1 hd0 hd1 hd2 he0 he1 he2 hk0 hk1 hk2 hz0 hz1 hz2
   generalize World.setCell _ _ _=W2 at HV2 HE2 HX2 ⊢
   have HV:=HV2
   clear HV2
   have HE:=HE2
   clear HE2
   have HX:=HX2
   clear HX2
   have hc0:=xml_reader_attribute.c0 HV.out.i
   have hc1:=xml_reader_attribute.c1 HV.out.i
   have hd0:=(blk_cell HV.out.blk 0).trans rfl
   have hd1:=(blk_cell HV.out.blk 1).trans rfl
   have hd2:=(blk_cell HV.out.blk 2).trans rfl
   have he0:=blk_frozen HV.out.blk 0
   have he1:=blk_frozen HV.out.blk 1
   have he2:=blk_frozen HV.out.blk 2
   have hne:=HV.out.ne
   have hen:=HV.out.ne.symm
   cases e2 with
   | false=>
    rw [if_neg Bool.false_ne_true] at h
    simp only [Option.some.injEq,Prod.mk.injEq] at h
    obtain⟨rfl,rfl,rfl,rfl⟩:=h
    go_wp2_with (first|(go_at_call 29;with_reducible refine(xml_reader_space.calls k g e3 e4 z1 z2 z3 w _ ?s1 ?s2 hS2.out).mono ?_;(case s1=>exact(by first|exact HV.out.i|exact(HV.out.drewN _).i|exact((HV.out.drewN _).drewN _).i|exact HV.out.drew.i));(case s2=>exact(by first|exact HV.out.bel|exact(HV.out.drewN _).bel|exact((HV.out.drewN _).drewN _).bel|exact HV.out.drew.bel));rintro e_ w_ ⟨rfl,hi,hb,hk⟩;(first|replace HE:=Aside0.mk (xml_pa.vkeep HE.out hk)|replace HE:=Aside0.mk (xml_pa.vkeep (Kd.V_drewN HE.out _) hk));have h5n:=HN5.out;have HX2:=Aside0.mk (hk.blk (by first|exact HX.out|exact blk_drewN HX.out _) h5n.2.1 (by simp));clear HX;have HX:=HX2;clear HX2;have hk0:=(blk_cell HX.out 0).trans rfl;have hk1:=(blk_cell HX.out 1).trans rfl;have hk2:=(blk_cell HX.out 2).trans rfl;(first|replace HV:=Aside0.mk (xml_pa.Inv.call HV.out hi hb hk)|replace HV:=Aside0.mk (xml_pa.Inv.call (HV.out.drewN _) hi hb hk)|replace HV:=Aside0.mk (xml_pa.Inv.call ((HV.out.drewN _).drewN _) hi hb hk)|replace HV:=Aside0.mk (xml_pa.Inv.call HV.out.drew hi hb hk));clear hi hb hk;have hc0:=xml_reader_attribute.c0 HV.out.i;have hc1:=xml_reader_attribute.c1 HV.out.i;have hd0:=(blk_cell HV.out.blk 0).trans rfl;have hd1:=(blk_cell HV.out.blk 1).trans rfl;have hd2:=(blk_cell HV.out.blk 2).trans rfl;have he0:=blk_frozen HV.out.blk 0;have he1:=blk_frozen HV.out.blk 1;have he2:=blk_frozen HV.out.blk 2;have hne:=HV.out.ne;have hen:=HV.out.ne.symm))
    try simp only [Exit.jump]
    have HZ:=xml_pa.ends (nm:=(⟨#[]⟩ : ByteArray)) (tx:=(⟨#[]⟩ : ByteArray)) (by first|exact HV.out|exact(HV.out.drewN _)|exact((HV.out.drewN _).drewN _)|exact HV.out.drew) (Kd.V_nil k24 24 _ _ _)
    refine bodyPost_ret (results_ct rfl _ _ b 24 #[.string (⟨#[]⟩ : ByteArray),.string (⟨#[]⟩ : ByteArray),.slice none 0 0] (0,0) _ rfl HZ.1 Tryd.underlying24 rfl (by kernel_rfl)) rfl ?_
    exact⟨.slice none 0 0,rfl,HZ.2.1,HZ.2.2⟩
   | true=>
    rw [if_pos rfl] at h
    rcases itO h with⟨c2,h⟩|⟨c2,h⟩
    ·have u1:(z3 != (a0.size:Int))=false:=bne_eq_false_iff_eq.mpr c2
     have u2:(z3 == (a0.size:Int))=true:=beq_iff_eq.mpr c2
     have u3:=eq_true c2
     have u4:=decide_eq_true c2
     clear c2
     simp only [Option.some.injEq,Prod.mk.injEq] at h
     obtain⟨rfl,rfl,rfl,rfl⟩:=h
     go_wp2_with (first|(go_at_call 29;with_reducible refine(xml_reader_space.calls k g e3 e4 z1 z2 z3 w _ ?s1 ?s2 hS2.out).mono ?_;(case s1=>exact(by first|exact HV.out.i|exact(HV.out.drewN _).i|exact((HV.out.drewN _).drewN _).i|exact HV.out.drew.i));(case s2=>exact(by first|exact HV.out.bel|exact(HV.out.drewN _).bel|exact((HV.out.drewN _).drewN _).bel|exact HV.out.drew.bel));rintro e_ w_ ⟨rfl,hi,hb,hk⟩;(first|replace HE:=Aside0.mk (xml_pa.vkeep HE.out hk)|replace HE:=Aside0.mk (xml_pa.vkeep (Kd.V_drewN HE.out _) hk));have h5n:=HN5.out;have HX2:=Aside0.mk (hk.blk (by first|exact HX.out|exact blk_drewN HX.out _) h5n.2.1 (by simp));clear HX;have HX:=HX2;clear HX2;have hk0:=(blk_cell HX.out 0).trans rfl;have hk1:=(blk_cell HX.out 1).trans rfl;have hk2:=(blk_cell HX.out 2).trans rfl;(first|replace HV:=Aside0.mk (xml_pa.Inv.call HV.out hi hb hk)|replace HV:=Aside0.mk (xml_pa.Inv.call (HV.out.drewN _) hi hb hk)|replace HV:=Aside0.mk (xml_pa.Inv.call ((HV.out.drewN _).drewN _) hi hb hk)|replace HV:=Aside0.mk (xml_pa.Inv.call HV.out.drew hi hb hk));clear hi hb hk;have hc0:=xml_reader_attribute.c0 HV.out.i;have hc1:=xml_reader_attribute.c1 HV.out.i;have hd0:=(blk_cell HV.out.blk 0).trans rfl;have hd1:=(blk_cell HV.out.blk 1).trans rfl;have hd2:=(blk_cell HV.out.blk 2).trans rfl;have he0:=blk_frozen HV.out.blk 0;have he1:=blk_frozen HV.out.blk 1;have he2:=blk_frozen HV.out.blk 2;have hne:=HV.out.ne;have hen:=HV.out.ne.symm))
     try simp only [Exit.jump]
     have HZ:=xml_pa.ends (nm:=x0) (tx:=x1) (by first|exact HV.out|exact(HV.out.drewN _)|exact((HV.out.drewN _).drewN _)|exact HV.out.drew) (by first|exact Kd.V_mono HE.out (fun _ h_=>h_)|exact Kd.V_drewN HE.out _)
     refine bodyPost_ret (results_ct rfl _ _ b 24 #[.string x0,.string x1,.slice eA x2.length ec] (0,0) _ rfl HZ.1 Tryd.underlying24 rfl (by kernel_rfl)) rfl ?_
     exact⟨.slice eA x2.length ec,rfl,HZ.2.1,HZ.2.2⟩
    have u1:(z3 != (a0.size:Int))=true:=bne_iff_ne.mpr c2
    have u2:(z3 == (a0.size:Int))=false:=beq_eq_false_iff_ne.mpr c2
    have u3:=eq_false c2
    have u4:=decide_eq_false c2
    simp only [Option.some.injEq,Prod.mk.injEq] at h
    obtain⟨rfl,rfl,rfl,rfl⟩:=h
    go_wp2_with (first|(go_at_call 29;with_reducible refine(xml_reader_space.calls k g e3 e4 z1 z2 z3 w _ ?s1 ?s2 hS2.out).mono ?_;(case s1=>exact(by first|exact HV.out.i|exact(HV.out.drewN _).i|exact((HV.out.drewN _).drewN _).i|exact HV.out.drew.i));(case s2=>exact(by first|exact HV.out.bel|exact(HV.out.drewN _).bel|exact((HV.out.drewN _).drewN _).bel|exact HV.out.drew.bel));rintro e_ w_ ⟨rfl,hi,hb,hk⟩;(first|replace HE:=Aside0.mk (xml_pa.vkeep HE.out hk)|replace HE:=Aside0.mk (xml_pa.vkeep (Kd.V_drewN HE.out _) hk));have h5n:=HN5.out;have HX2:=Aside0.mk (hk.blk (by first|exact HX.out|exact blk_drewN HX.out _) h5n.2.1 (by simp));clear HX;have HX:=HX2;clear HX2;have hk0:=(blk_cell HX.out 0).trans rfl;have hk1:=(blk_cell HX.out 1).trans rfl;have hk2:=(blk_cell HX.out 2).trans rfl;(first|replace HV:=Aside0.mk (xml_pa.Inv.call HV.out hi hb hk)|replace HV:=Aside0.mk (xml_pa.Inv.call (HV.out.drewN _) hi hb hk)|replace HV:=Aside0.mk (xml_pa.Inv.call ((HV.out.drewN _).drewN _) hi hb hk)|replace HV:=Aside0.mk (xml_pa.Inv.call HV.out.drew hi hb hk));clear hi hb hk;have hc0:=xml_reader_attribute.c0 HV.out.i;have hc1:=xml_reader_attribute.c1 HV.out.i;have hd0:=(blk_cell HV.out.blk 0).trans rfl;have hd1:=(blk_cell HV.out.blk 1).trans rfl;have hd2:=(blk_cell HV.out.blk 2).trans rfl;have he0:=blk_frozen HV.out.blk 0;have he1:=blk_frozen HV.out.blk 1;have he2:=blk_frozen HV.out.blk 2;have hne:=HV.out.ne;have hen:=HV.out.ne.symm))
    try simp only [Exit.jump]
    have HZ:=xml_pa.ends (nm:=(⟨#[]⟩ : ByteArray)) (tx:=(⟨#[]⟩ : ByteArray)) (by first|exact HV.out|exact(HV.out.drewN _)|exact((HV.out.drewN _).drewN _)|exact HV.out.drew) (Kd.V_nil k24 24 _ _ _)
    refine bodyPost_ret (results_ct rfl _ _ b 24 #[.string (⟨#[]⟩ : ByteArray),.string (⟨#[]⟩ : ByteArray),.slice none 0 0] (0,0) _ rfl HZ.1 Tryd.underlying24 rfl (by kernel_rfl)) rfl ?_
    exact⟨.slice none 0 0,rfl,HZ.2.1,HZ.2.2⟩
def xml_Of.f (a0:ByteArray) (a1:ByteArray):Option (ByteArray×ByteArray×(List (S24))):=some (a0,a1,([]:List (S24)))
theorem xml_Of.calls (a0:ByteArray) (a1:ByteArray) (r1:ByteArray) (r2:ByteArray) (r3:List (S24)) (w:World) (h:xml_Of.f a0 a1=some (r1,r2,r3)) :
  Calls Tryd.prog 23 #[.string a0,.string a1] w fun e w'=>∃ v2_:Value,e = .returned (.agg #[.string r1,.string r2,v2_])∧Kd.R k24 24 w' w.heap.size (fun _=>True) v2_ r3∧Below w.heap.size w w':=by
 have hu24:=Tryd.underlying24
 have HB:=Aside0.mk (Below.refl w.heap.size w)
 unfold xml_Of.f at h
 have H:=h
 clear h
 simp only [Option.some.injEq,Prod.mk.injEq] at H
 obtain⟨rfl,rfl,rfl⟩:=H
 go_enter Tryd.func23,Tryd.ntmps23
 go_wp2_with (first|((with_reducible refine gate_dst (N:=4) rfl ?_);refine box_event ?hg (N:=4) ?hd (cs:=#[.string (⟨#[]⟩ : ByteArray),.string (⟨#[]⟩ : ByteArray),.slice none 0 0]) (t:=24) ?hr ?_;(case hd=>rfl);(case hg=>rfl);(case hr=>first|(go_simp;done)|(go_simp;rfl));intro gb127 hg w3 hbox hb;have n0_:=Aside0.mk (below_step (by repeat (first|(with_reducible first|exact HB.out|apply below_alloc|apply pw_below_drewN|apply below_drew1)|exact HB.out)) hb);have n1_:=Aside0.mk (hbox);have n2_:=Aside0.mk ((by rw [hg];exact(below_size (by repeat (first|(with_reducible first|exact HB.out|apply below_alloc|apply pw_below_drewN|apply below_drew1)|exact HB.out))):w.heap.size≤gb127));have n3_:=Aside0.mk ((by rw [hg];exact(below_size (by repeat (first|(with_reducible first|exact HB.out|apply below_alloc|apply pw_below_drewN|apply below_drew1)|exact HB.out))):w.heap.size≤gb127));clear HB;have HB:=n0_;have BK127:=n1_;have GW127:=n2_;have GE127:=n3_;clear n0_ n1_ n2_ n3_;clear hb hbox hg;have hcz4_0:w3.cell? ⟨gb127,0,none⟩=some (.string (⟨#[]⟩ : ByteArray)):=(blk_cell BK127.out 0).trans rfl;have hcz4_1:w3.cell? ⟨gb127,1,none⟩=some (.string (⟨#[]⟩ : ByteArray)):=(blk_cell BK127.out 1).trans rfl;have hcz4_2:w3.cell? ⟨gb127,2,none⟩=some (.slice none 0 0):=(blk_cell BK127.out 2).trans rfl;have hfz4_0:=blk_frozen BK127.out 0;have hfz4_1:=blk_frozen BK127.out 1;have hfz4_2:=blk_frozen BK127.out 2))
 refine bodyPost_ret (results_cell_row rfl _ _ gb127 24 #[.string a0,.string a1,.slice none 0 0] (0,0) _ rfl (by(with_reducible repeat (first|refine blk_drewN ?_ _|refine blk_drew ?_|refine blk_alloc ?_ _));refine blk_put (cs:=#[.string a0,.string a1,.slice none 0 0]) ?_ 2 _ rfl;(with_reducible repeat (first|refine blk_drewN ?_ _|refine blk_drew ?_|refine blk_alloc ?_ _));refine blk_put (cs:=#[.string a0,.string (⟨#[]⟩ : ByteArray),.slice none 0 0]) ?_ 1 _ rfl;(with_reducible repeat (first|refine blk_drewN ?_ _|refine blk_drew ?_|refine blk_alloc ?_ _));refine blk_put (cs:=#[.string (⟨#[]⟩ : ByteArray),.string (⟨#[]⟩ : ByteArray),.slice none 0 0]) ?_ 0 _ rfl;(with_reducible repeat (first|refine blk_drewN ?_ _|refine blk_drew ?_|refine blk_alloc ?_ _));exact BK127.out) Tryd.underlying24 rfl (by kernel_rfl)) rfl ?_
 exact⟨_,by first|rfl|(simp [errW_none,errW_some] <;> rfl)|(simp [*,errW_none,errW_some] <;> rfl),by first|exact Kd.R_nil _ _ _ _ _|exact Kd.N_nil _ _ _ _ _|exact Kd.V_nil _ _ _ _ _|exact Kd.Q_nil _ _ _ _ _|exact Kd.S_nil _ _ _ _ _,by repeat (first|(with_reducible first|exact HB.out|apply below_alloc|apply pw_below_drewN|apply below_drew1|refine below_set ?_ GE127.out)|exact HB.out)⟩
def stowagelaw13_awake.f (k:Nat)  : Option (Bool):=(xml_Parse.f k (⟨#[60,97,32,120,61,34,49,34,62,32,60,98,62,49,32,38,108,116,59,32,50,60,47,98,62,60,99,47,62,60,47,97,62]⟩ : ByteArray)).bind fun bt128=>((xml_Of.f (⟨#[97]⟩ : ByteArray) (⟨#[120,38,121]⟩ : ByteArray)).bind fun bt135=>((xml_Print.f k bt135.1 bt135.2.1 bt135.2.2 false).bind fun bt140=>(if bt128.2.2.2=0 then(if bt140.2=0 then(if bt128.1.toList=([97]:List UInt8) then(if(bt128.2.2.1.length:Int)=2 then(if 0<(bt128.2.2.1.length:Int) then(if((rd_T24 bt128.2.2.1 0).f1).toList=([49,32,60,32,50]:List UInt8) then(some (bt140.1.toList == ([60,63,120,109,108,32,118,101,114,115,105,111,110,61,34,49,46,48,34,32,101,110,99,111,100,105,110,103,61,34,85,84,70,45,56,34,63,62,10,60,97,62,120,38,97,109,112,59,121,60,47,97,62]:List UInt8))) else(some false)) else(none)) else(some false)) else(some false)) else(some false)) else(some false))))
theorem stowagelaw13_awake.mono:∀ k,LeO (stowagelaw13_awake.f k) (stowagelaw13_awake.f (k+1)):=by
 intro  k
 unfold stowagelaw13_awake.f
 with_reducible repeat' first|exact xml_Parse.mono _ _|exact xml_Print.mono _ _ _ _ _|exact LeO.refl _|exact LeO.none _|refine LeO.ite ?_ ?_|refine LeO.bind ?_ (fun _=>?_)
theorem stowagelaw13_awake.calls (k:Nat)  (r:Bool) (w:World) (hG:GOk w) (h:stowagelaw13_awake.f k  = some r) :
    Calls Tryd.prog 14 #[] w fun e w'=>e = .returned (.bool r)∧Below w.heap.size w w':=by
 have hu24:=Tryd.underlying24
 have HB:=Aside0.mk (Below.refl w.heap.size w)
 unfold stowagelaw13_awake.f at h
 have H:=h
 clear h
 replace H:=bndO H
 obtain⟨⟨t128,t129,t130,t133⟩,A10,H⟩:=H
 dsimp only at H
 have A1:=Aside0.mk A10
 clear A10
 replace H:=bndO H
 obtain⟨⟨t135,t136,t137⟩,A20,H⟩:=H
 dsimp only at H
 have A2:=Aside0.mk A20
 clear A20
 replace H:=bndO H
 obtain⟨⟨t140,t141⟩,A30,H⟩:=H
 dsimp only at H
 have A3:=Aside0.mk A30
 clear A30
 replace H:=itO H
 rcases H with⟨c4,H⟩|⟨c4,H⟩
 {
 have c4b0:(t133 == 0)=true:=beq_iff_eq.mpr c4
 clear c4
 replace H:=itO H
 rcases H with⟨c5,H⟩|⟨c5,H⟩
 {
 have c5b0:(t141 == 0)=true:=beq_iff_eq.mpr c5
 clear c5
 replace H:=itO H
 rcases H with⟨c6,H⟩|⟨c6,H⟩
 {
 have c6b0:(t128.toList == ([97]:List UInt8))=true:=beq_iff_eq.mpr c6
 clear c6
 replace H:=itO H
 rcases H with⟨c7,H⟩|⟨c7,H⟩
 {
 have c7b0:((t130.length:Int) == 2)=true:=beq_iff_eq.mpr c7
 clear c7
 replace H:=itO H
 rcases H with⟨c8,H⟩|⟨c8,H⟩
 {
 have c8b0:decide (0<(t130.length:Int))=true:=decide_eq_true c8
 clear c8
 replace H:=itO H
 rcases H with⟨c9,H⟩|⟨c9,H⟩
 {
 have c9b0:(((rd_T24 t130 0).f1).toList == ([49,32,60,32,50]:List UInt8))=true:=beq_iff_eq.mpr c9
 clear c9
 obtain rfl:=Option.some.inj H
 go_enter Tryd.func14,Tryd.ntmps14
 go_wp2_with (first|((with_reducible refine gate_callee (f:=10) rfl ?_);refine goesL_ (some 6) rfl rfl Tryd.func10 kr rfl #[.string (⟨#[60,97,32,120,61,34,49,34,62,32,60,98,62,49,32,38,108,116,59,32,50,60,47,98,62,60,99,47,62,60,47,97,62]⟩ : ByteArray)] rfl am ?_;(with_reducible refine(xml_Parse.calls k (⟨#[60,97,32,120,61,34,49,34,62,32,60,98,62,49,32,38,108,116,59,32,50,60,47,98,62,60,99,47,62,60,47,97,62]⟩ : ByteArray) t128 t129 t130 t133 _ gk A1.out).mono ?_);rintro e w10 ⟨v131,rfl,ho0,hb⟩;refine⟨_,rfl,?_⟩;have HO132:=Aside0.mk (Kd.V_lower (Kd.V_mono (ok':=fun k_=>True) ho0 (fun k_ hk_=>trivial)) (below_size bl));replace HB:=Aside0.mk (below_step bl hb))|((with_reducible refine gate_dst (N:=1) rfl ?_);(try (refine gate_guard (by rfl) ?_;dsimp only));refine box_event ?hg (N:=1) ?hd (cs:=#[.string (⟨#[]⟩ : ByteArray),.string (⟨#[]⟩ : ByteArray),.slice none 0 0]) (t:=24) ?hr ?_;(case hd=>rfl);(case hg=>rfl);(case hr=>first|(go_simp;done)|(go_simp;rfl));intro gb134 hg w11 hbox hb;replace HO132:=Aside0.mk (Kd.V_below (Kd.V_elderB (by(with_reducible repeat (first|apply Kd.V_alloc|apply Kd.V_drewN|apply Kd.V_drew));exact HO132.out) gb134 (Nat.le_of_eq hg.symm)) hb);have BK134:=Aside0.mk (hbox);have GW134:=Aside0.mk ((by rw [hg];exact(below_size bl):w.heap.size≤gb134));have GE134:=Aside0.mk ((by rw [hg];exact(below_size bl):w.heap.size≤gb134));replace HB:=Aside0.mk (below_step bl hb);clear hb hbox hg;obtain⟨_,_,_,_,_,_⟩:=bc3 BK134.out;obtain⟨Ao13,co13,eo13⟩:=Kd.V_slice HO132.out;subst eo13)|((with_reducible refine gate_callee (f:=23) rfl ?_);refine goesL_ (some 10) rfl rfl Tryd.func23 kr rfl #[.string (⟨#[97]⟩ : ByteArray),.string (⟨#[120,38,121]⟩ : ByteArray)] rfl am ?_;(with_reducible refine(xml_Of.calls (⟨#[97]⟩ : ByteArray) (⟨#[120,38,121]⟩ : ByteArray) t135 t136 t137 _ A2.out).mono ?_);rintro e w14 ⟨v138,rfl,ho0,hb⟩;refine⟨_,rfl,?_⟩;replace HO132:=Aside0.mk (Kd.V_elder' (by(with_reducible repeat (first|apply Kd.V_alloc|apply Kd.V_drewN|apply Kd.V_drew));exact(Kd.V_mono (Kd.V_far (p:=⟨gb134,2,none⟩) (Kd.V_far (p:=⟨gb134,1,none⟩) (Kd.V_far (p:=⟨gb134,0,none⟩) (Kd.V_mono HO132.out (fun k_ hk=>(⟨hk,hk.2⟩ : _∧k_≠gb134))) (fun _ hk=>hk.2) (.string t128)) (fun _ hk=>hk.2) (.string t129)) (fun _ hk=>hk.2) (.slice Ao13 t130.length co13)) (fun _ h_=>h_.1))) (by first|exact Kd.R_base ho0|exact Kd.R_base ho0) hb);have HO139:=Aside0.mk (Kd.R_lower (Kd.R_newB ho0 (g:=gb134) (o:=.cells #[.string t128,.string t129,.slice Ao13 t130.length co13] 24 (0,0)) (by(with_reducible repeat (first|refine blk_drewN ?_ _|refine blk_drew ?_|refine blk_alloc ?_ _));refine blk_put (cs:=#[.string t128,.string t129,.slice none 0 0]) ?_ 2 _ rfl;(with_reducible repeat (first|refine blk_drewN ?_ _|refine blk_drew ?_|refine blk_alloc ?_ _));refine blk_put (cs:=#[.string t128,.string (⟨#[]⟩ : ByteArray),.slice none 0 0]) ?_ 1 _ rfl;(with_reducible repeat (first|refine blk_drewN ?_ _|refine blk_drew ?_|refine blk_alloc ?_ _));refine blk_put (cs:=#[.string (⟨#[]⟩ : ByteArray),.string (⟨#[]⟩ : ByteArray),.slice none 0 0]) ?_ 0 _ rfl;(with_reducible repeat (first|refine blk_drewN ?_ _|refine blk_drew ?_|refine blk_alloc ?_ _));exact BK134.out)) (below_size bl));replace BK134:=Aside0.mk (blk_below (g:=gb134) (o:=.cells #[.string t128,.string t129,.slice Ao13 t130.length co13] 24 (0,0)) (by(with_reducible repeat (first|refine blk_drewN ?_ _|refine blk_drew ?_|refine blk_alloc ?_ _));refine blk_put (cs:=#[.string t128,.string t129,.slice none 0 0]) ?_ 2 _ rfl;(with_reducible repeat (first|refine blk_drewN ?_ _|refine blk_drew ?_|refine blk_alloc ?_ _));refine blk_put (cs:=#[.string t128,.string (⟨#[]⟩ : ByteArray),.slice none 0 0]) ?_ 1 _ rfl;(with_reducible repeat (first|refine blk_drewN ?_ _|refine blk_drew ?_|refine blk_alloc ?_ _));refine blk_put (cs:=#[.string (⟨#[]⟩ : ByteArray),.string (⟨#[]⟩ : ByteArray),.slice none 0 0]) ?_ 0 _ rfl;(with_reducible repeat (first|refine blk_drewN ?_ _|refine blk_drew ?_|refine blk_alloc ?_ _));exact BK134.out) hb);replace HB:=Aside0.mk (below_step bl hb);obtain⟨Ao15,co15,eo15⟩:=Kd.R_slice HO139.out;subst eo15)|((with_reducible refine gate_callee (f:=22) rfl ?_);refine goesL_ (some 11) rfl rfl Tryd.func22 kr rfl #[.agg #[.string t135,.string t136,.slice Ao15 t137.length co15],.bool false] rfl am ?_;(with_reducible refine(xml_Print.calls k t135 t136 _ _ t137 false t140 t141 _ ?side1 ?side2 A3.out).mono ?_);(case side1=>repeat (first|exact(Kd.R_reads' HO139.out).2.2|(with_reducible refine Kd.C_alloc ?_ _)|(with_reducible refine Kd.C_drewN ?_ _)|(with_reducible refine Kd.C_drew ?_)));(case side2=>exact(Kd.R_reads' HO139.out).2.1);rintro e w16 ⟨rfl,hb⟩;refine⟨_,rfl,?_⟩;replace HO132:=Aside0.mk (Kd.V_below (by(with_reducible repeat (first|apply Kd.V_alloc|apply Kd.V_drewN|apply Kd.V_drew));exact HO132.out) hb);replace HO139:=Aside0.mk (Kd.R_below rl hb);replace BK134:=Aside0.mk (blk_below (g:=gb134) (o:=.cells #[.string t128,.string t129,.slice Ao13 t130.length co13] 24 (0,0)) kl hb);replace HB:=Aside0.mk (below_step bl hb);obtain⟨_,_,_,_,_,_⟩:=bc3 BK134.out;have p142:0≤(0:Int):=(by omega);have q142:0<(t130.length:Int):=of_decide_eq_true asm;obtain⟨ad142,A142_2,c142_2,e142,hx142_0,hx142_1,hx142_2,hl142_2,hi142_2⟩:=at_T24 (Kd.V_reads' HO132.out).2.2 0 p142 q142;cases e142;obtain⟨ce142,hce142,hMe142,hcc142⟩:=Kd.V_get HO132.out z24 0 p142 (by first|exact q142|exact of_decide_eq_true asm|(have e_:=(Kd.V_reads' HO132.out).1;omega));obtain⟨ua142_2,uc142_2,rfl,ul142_2,ge142_2⟩:=k24_openF hMe142;have hv142_2:=hcc142 2 _ rfl;rw [add_field _ _ 2 (by omega)] at hv142_2;replace hv142_2:=Option.some.inj (hv142_2.symm.trans hx142_2);injection hv142_2 with hva_ hvn_ hvc_;rw [hva_] at ge142_2;rw [hvc_] at ul142_2;have HL142_2:=Aside0.mk (show Kd.V k24 24 _ w.heap.size _ _ ((rd_T24 t130 0).f2) from Kd.V_mk ul142_2 ge142_2);clear hva_ hvn_ hvc_ ge142_2 ul142_2;clear hcc142 hce142;have qi142:(0<t130.length)=True:=eq_true (by omega);(try rw [show((0:Int)).toNat=0 from rfl] at hx142_0);(try rw [show 0*3=0 from rfl] at hx142_0);(try rw [Addr.add_zero'] at hx142_0);(try rw [show((0:Int)).toNat=0 from rfl] at hx142_1);(try rw [show 0*3=0 from rfl] at hx142_1);(try rw [Addr.add_zero'] at hx142_1);(try rw [show((0:Int)).toNat=0 from rfl] at hx142_2);(try rw [show 0*3=0 from rfl] at hx142_2);(try rw [Addr.add_zero'] at hx142_2);have HR142_2:=Aside0.mk hi142_2;have HC142_2:=Aside0.mk hl142_2;clear hi142_2 hl142_2;replace p142:=eq_true p142;replace q142:=eq_true q142))
 go_ret
 exact⟨ew,bl⟩
 }
 {
 have c9b0:(((rd_T24 t130 0).f1).toList == ([49,32,60,32,50]:List UInt8))=false:=beq_eq_false_iff_ne.mpr c9
 obtain rfl:=Option.some.inj H
 go_enter Tryd.func14,Tryd.ntmps14
 go_wp2_with (first|((with_reducible refine gate_callee (f:=10) rfl ?_);refine goesL_ (some 6) rfl rfl Tryd.func10 kr rfl #[.string (⟨#[60,97,32,120,61,34,49,34,62,32,60,98,62,49,32,38,108,116,59,32,50,60,47,98,62,60,99,47,62,60,47,97,62]⟩ : ByteArray)] rfl am ?_;(with_reducible refine(xml_Parse.calls k (⟨#[60,97,32,120,61,34,49,34,62,32,60,98,62,49,32,38,108,116,59,32,50,60,47,98,62,60,99,47,62,60,47,97,62]⟩ : ByteArray) t128 t129 t130 t133 _ gk A1.out).mono ?_);rintro e w18 ⟨v131,rfl,ho0,hb⟩;refine⟨_,rfl,?_⟩;have HO132:=Aside0.mk (Kd.V_lower (Kd.V_mono (ok':=fun k_=>True) ho0 (fun k_ hk_=>trivial)) (below_size bl));replace HB:=Aside0.mk (below_step bl hb))|((with_reducible refine gate_dst (N:=1) rfl ?_);(try (refine gate_guard (by rfl) ?_;dsimp only));refine box_event ?hg (N:=1) ?hd (cs:=#[.string (⟨#[]⟩ : ByteArray),.string (⟨#[]⟩ : ByteArray),.slice none 0 0]) (t:=24) ?hr ?_;(case hd=>rfl);(case hg=>rfl);(case hr=>first|(go_simp;done)|(go_simp;rfl));intro gb134 hg w19 hbox hb;replace HO132:=Aside0.mk (Kd.V_below (Kd.V_elderB (by(with_reducible repeat (first|apply Kd.V_alloc|apply Kd.V_drewN|apply Kd.V_drew));exact HO132.out) gb134 (Nat.le_of_eq hg.symm)) hb);have BK134:=Aside0.mk (hbox);have GW134:=Aside0.mk ((by rw [hg];exact(below_size bl):w.heap.size≤gb134));have GE134:=Aside0.mk ((by rw [hg];exact(below_size bl):w.heap.size≤gb134));replace HB:=Aside0.mk (below_step bl hb);clear hb hbox hg;obtain⟨_,_,_,_,_,_⟩:=bc3 BK134.out;obtain⟨Ao21,co21,eo21⟩:=Kd.V_slice HO132.out;subst eo21)|((with_reducible refine gate_callee (f:=23) rfl ?_);refine goesL_ (some 10) rfl rfl Tryd.func23 kr rfl #[.string (⟨#[97]⟩ : ByteArray),.string (⟨#[120,38,121]⟩ : ByteArray)] rfl am ?_;(with_reducible refine(xml_Of.calls (⟨#[97]⟩ : ByteArray) (⟨#[120,38,121]⟩ : ByteArray) t135 t136 t137 _ A2.out).mono ?_);rintro e w22 ⟨v138,rfl,ho0,hb⟩;refine⟨_,rfl,?_⟩;replace HO132:=Aside0.mk (Kd.V_elder' (by(with_reducible repeat (first|apply Kd.V_alloc|apply Kd.V_drewN|apply Kd.V_drew));exact(Kd.V_mono (Kd.V_far (p:=⟨gb134,2,none⟩) (Kd.V_far (p:=⟨gb134,1,none⟩) (Kd.V_far (p:=⟨gb134,0,none⟩) (Kd.V_mono HO132.out (fun k_ hk=>(⟨hk,hk.2⟩ : _∧k_≠gb134))) (fun _ hk=>hk.2) (.string t128)) (fun _ hk=>hk.2) (.string t129)) (fun _ hk=>hk.2) (.slice Ao21 t130.length co21)) (fun _ h_=>h_.1))) (by first|exact Kd.R_base ho0|exact Kd.R_base ho0) hb);have HO139:=Aside0.mk (Kd.R_lower (Kd.R_newB ho0 (g:=gb134) (o:=.cells #[.string t128,.string t129,.slice Ao21 t130.length co21] 24 (0,0)) (by(with_reducible repeat (first|refine blk_drewN ?_ _|refine blk_drew ?_|refine blk_alloc ?_ _));refine blk_put (cs:=#[.string t128,.string t129,.slice none 0 0]) ?_ 2 _ rfl;(with_reducible repeat (first|refine blk_drewN ?_ _|refine blk_drew ?_|refine blk_alloc ?_ _));refine blk_put (cs:=#[.string t128,.string (⟨#[]⟩ : ByteArray),.slice none 0 0]) ?_ 1 _ rfl;(with_reducible repeat (first|refine blk_drewN ?_ _|refine blk_drew ?_|refine blk_alloc ?_ _));refine blk_put (cs:=#[.string (⟨#[]⟩ : ByteArray),.string (⟨#[]⟩ : ByteArray),.slice none 0 0]) ?_ 0 _ rfl;(with_reducible repeat (first|refine blk_drewN ?_ _|refine blk_drew ?_|refine blk_alloc ?_ _));exact BK134.out)) (below_size bl));replace BK134:=Aside0.mk (blk_below (g:=gb134) (o:=.cells #[.string t128,.string t129,.slice Ao21 t130.length co21] 24 (0,0)) (by(with_reducible repeat (first|refine blk_drewN ?_ _|refine blk_drew ?_|refine blk_alloc ?_ _));refine blk_put (cs:=#[.string t128,.string t129,.slice none 0 0]) ?_ 2 _ rfl;(with_reducible repeat (first|refine blk_drewN ?_ _|refine blk_drew ?_|refine blk_alloc ?_ _));refine blk_put (cs:=#[.string t128,.string (⟨#[]⟩ : ByteArray),.slice none 0 0]) ?_ 1 _ rfl;(with_reducible repeat (first|refine blk_drewN ?_ _|refine blk_drew ?_|refine blk_alloc ?_ _));refine blk_put (cs:=#[.string (⟨#[]⟩ : ByteArray),.string (⟨#[]⟩ : ByteArray),.slice none 0 0]) ?_ 0 _ rfl;(with_reducible repeat (first|refine blk_drewN ?_ _|refine blk_drew ?_|refine blk_alloc ?_ _));exact BK134.out) hb);replace HB:=Aside0.mk (below_step bl hb);obtain⟨Ao23,co23,eo23⟩:=Kd.R_slice HO139.out;subst eo23)|((with_reducible refine gate_callee (f:=22) rfl ?_);refine goesL_ (some 11) rfl rfl Tryd.func22 kr rfl #[.agg #[.string t135,.string t136,.slice Ao23 t137.length co23],.bool false] rfl am ?_;(with_reducible refine(xml_Print.calls k t135 t136 _ _ t137 false t140 t141 _ ?side1 ?side2 A3.out).mono ?_);(case side1=>repeat (first|exact(Kd.R_reads' HO139.out).2.2|(with_reducible refine Kd.C_alloc ?_ _)|(with_reducible refine Kd.C_drewN ?_ _)|(with_reducible refine Kd.C_drew ?_)));(case side2=>exact(Kd.R_reads' HO139.out).2.1);rintro e w24 ⟨rfl,hb⟩;refine⟨_,rfl,?_⟩;replace HO132:=Aside0.mk (Kd.V_below (by(with_reducible repeat (first|apply Kd.V_alloc|apply Kd.V_drewN|apply Kd.V_drew));exact HO132.out) hb);replace HO139:=Aside0.mk (Kd.R_below rl hb);replace BK134:=Aside0.mk (blk_below (g:=gb134) (o:=.cells #[.string t128,.string t129,.slice Ao21 t130.length co21] 24 (0,0)) kl hb);replace HB:=Aside0.mk (below_step bl hb);obtain⟨_,_,_,_,_,_⟩:=bc3 BK134.out;have p142:0≤(0:Int):=(by omega);have q142:0<(t130.length:Int):=of_decide_eq_true asm;obtain⟨ad142,A142_2,c142_2,e142,hx142_0,hx142_1,hx142_2,hl142_2,hi142_2⟩:=at_T24 (Kd.V_reads' HO132.out).2.2 0 p142 q142;cases e142;obtain⟨ce142,hce142,hMe142,hcc142⟩:=Kd.V_get HO132.out z24 0 p142 (by first|exact q142|exact of_decide_eq_true asm|(have e_:=(Kd.V_reads' HO132.out).1;omega));obtain⟨ua142_2,uc142_2,rfl,ul142_2,ge142_2⟩:=k24_openF hMe142;have hv142_2:=hcc142 2 _ rfl;rw [add_field _ _ 2 (by omega)] at hv142_2;replace hv142_2:=Option.some.inj (hv142_2.symm.trans hx142_2);injection hv142_2 with hva_ hvn_ hvc_;rw [hva_] at ge142_2;rw [hvc_] at ul142_2;have HL142_2:=Aside0.mk (show Kd.V k24 24 _ w.heap.size _ _ ((rd_T24 t130 0).f2) from Kd.V_mk ul142_2 ge142_2);clear hva_ hvn_ hvc_ ge142_2 ul142_2;clear hcc142 hce142;have qi142:(0<t130.length)=True:=eq_true (by omega);(try rw [show((0:Int)).toNat=0 from rfl] at hx142_0);(try rw [show 0*3=0 from rfl] at hx142_0);(try rw [Addr.add_zero'] at hx142_0);(try rw [show((0:Int)).toNat=0 from rfl] at hx142_1);(try rw [show 0*3=0 from rfl] at hx142_1);(try rw [Addr.add_zero'] at hx142_1);(try rw [show((0:Int)).toNat=0 from rfl] at hx142_2);(try rw [show 0*3=0 from rfl] at hx142_2);(try rw [Addr.add_zero'] at hx142_2);have HR142_2:=Aside0.mk hi142_2;have HC142_2:=Aside0.mk hl142_2;clear hi142_2 hl142_2;replace p142:=eq_true p142;replace q142:=eq_true q142))
 go_ret
 exact⟨ew,bl⟩
 }
 }
 ·exact absurd H (by simp)
 }
 {
 have c7b0:((t130.length:Int) == 2)=false:=beq_eq_false_iff_ne.mpr c7
 obtain rfl:=Option.some.inj H
 go_enter Tryd.func14,Tryd.ntmps14
 go_wp2_with (first|((with_reducible refine gate_callee (f:=10) rfl ?_);refine goesL_ (some 6) rfl rfl Tryd.func10 kr rfl #[.string (⟨#[60,97,32,120,61,34,49,34,62,32,60,98,62,49,32,38,108,116,59,32,50,60,47,98,62,60,99,47,62,60,47,97,62]⟩ : ByteArray)] rfl am ?_;(with_reducible refine(xml_Parse.calls k (⟨#[60,97,32,120,61,34,49,34,62,32,60,98,62,49,32,38,108,116,59,32,50,60,47,98,62,60,99,47,62,60,47,97,62]⟩ : ByteArray) t128 t129 t130 t133 _ gk A1.out).mono ?_);rintro e w26 ⟨v131,rfl,ho0,hb⟩;refine⟨_,rfl,?_⟩;have HO132:=Aside0.mk (Kd.V_lower (Kd.V_mono (ok':=fun k_=>True) ho0 (fun k_ hk_=>trivial)) (below_size bl));replace HB:=Aside0.mk (below_step bl hb))|((with_reducible refine gate_dst (N:=1) rfl ?_);(try (refine gate_guard (by rfl) ?_;dsimp only));refine box_event ?hg (N:=1) ?hd (cs:=#[.string (⟨#[]⟩ : ByteArray),.string (⟨#[]⟩ : ByteArray),.slice none 0 0]) (t:=24) ?hr ?_;(case hd=>rfl);(case hg=>rfl);(case hr=>first|(go_simp;done)|(go_simp;rfl));intro gb134 hg w27 hbox hb;replace HO132:=Aside0.mk (Kd.V_below (Kd.V_elderB (by(with_reducible repeat (first|apply Kd.V_alloc|apply Kd.V_drewN|apply Kd.V_drew));exact HO132.out) gb134 (Nat.le_of_eq hg.symm)) hb);have BK134:=Aside0.mk (hbox);have GW134:=Aside0.mk ((by rw [hg];exact(below_size bl):w.heap.size≤gb134));have GE134:=Aside0.mk ((by rw [hg];exact(below_size bl):w.heap.size≤gb134));replace HB:=Aside0.mk (below_step bl hb);clear hb hbox hg;obtain⟨_,_,_,_,_,_⟩:=bc3 BK134.out;obtain⟨Ao29,co29,eo29⟩:=Kd.V_slice HO132.out;subst eo29)|((with_reducible refine gate_callee (f:=23) rfl ?_);refine goesL_ (some 10) rfl rfl Tryd.func23 kr rfl #[.string (⟨#[97]⟩ : ByteArray),.string (⟨#[120,38,121]⟩ : ByteArray)] rfl am ?_;(with_reducible refine(xml_Of.calls (⟨#[97]⟩ : ByteArray) (⟨#[120,38,121]⟩ : ByteArray) t135 t136 t137 _ A2.out).mono ?_);rintro e w30 ⟨v138,rfl,ho0,hb⟩;refine⟨_,rfl,?_⟩;replace HO132:=Aside0.mk (Kd.V_elder' (by(with_reducible repeat (first|apply Kd.V_alloc|apply Kd.V_drewN|apply Kd.V_drew));exact(Kd.V_mono (Kd.V_far (p:=⟨gb134,2,none⟩) (Kd.V_far (p:=⟨gb134,1,none⟩) (Kd.V_far (p:=⟨gb134,0,none⟩) (Kd.V_mono HO132.out (fun k_ hk=>(⟨hk,hk.2⟩ : _∧k_≠gb134))) (fun _ hk=>hk.2) (.string t128)) (fun _ hk=>hk.2) (.string t129)) (fun _ hk=>hk.2) (.slice Ao29 t130.length co29)) (fun _ h_=>h_.1))) (by first|exact Kd.R_base ho0|exact Kd.R_base ho0) hb);have HO139:=Aside0.mk (Kd.R_lower (Kd.R_newB ho0 (g:=gb134) (o:=.cells #[.string t128,.string t129,.slice Ao29 t130.length co29] 24 (0,0)) (by(with_reducible repeat (first|refine blk_drewN ?_ _|refine blk_drew ?_|refine blk_alloc ?_ _));refine blk_put (cs:=#[.string t128,.string t129,.slice none 0 0]) ?_ 2 _ rfl;(with_reducible repeat (first|refine blk_drewN ?_ _|refine blk_drew ?_|refine blk_alloc ?_ _));refine blk_put (cs:=#[.string t128,.string (⟨#[]⟩ : ByteArray),.slice none 0 0]) ?_ 1 _ rfl;(with_reducible repeat (first|refine blk_drewN ?_ _|refine blk_drew ?_|refine blk_alloc ?_ _));refine blk_put (cs:=#[.string (⟨#[]⟩ : ByteArray),.string (⟨#[]⟩ : ByteArray),.slice none 0 0]) ?_ 0 _ rfl;(with_reducible repeat (first|refine blk_drewN ?_ _|refine blk_drew ?_|refine blk_alloc ?_ _));exact BK134.out)) (below_size bl));replace BK134:=Aside0.mk (blk_below (g:=gb134) (o:=.cells #[.string t128,.string t129,.slice Ao29 t130.length co29] 24 (0,0)) (by(with_reducible repeat (first|refine blk_drewN ?_ _|refine blk_drew ?_|refine blk_alloc ?_ _));refine blk_put (cs:=#[.string t128,.string t129,.slice none 0 0]) ?_ 2 _ rfl;(with_reducible repeat (first|refine blk_drewN ?_ _|refine blk_drew ?_|refine blk_alloc ?_ _));refine blk_put (cs:=#[.string t128,.string (⟨#[]⟩ : ByteArray),.slice none 0 0]) ?_ 1 _ rfl;(with_reducible repeat (first|refine blk_drewN ?_ _|refine blk_drew ?_|refine blk_alloc ?_ _));refine blk_put (cs:=#[.string (⟨#[]⟩ : ByteArray),.string (⟨#[]⟩ : ByteArray),.slice none 0 0]) ?_ 0 _ rfl;(with_reducible repeat (first|refine blk_drewN ?_ _|refine blk_drew ?_|refine blk_alloc ?_ _));exact BK134.out) hb);replace HB:=Aside0.mk (below_step bl hb);obtain⟨Ao31,co31,eo31⟩:=Kd.R_slice HO139.out;subst eo31)|((with_reducible refine gate_callee (f:=22) rfl ?_);refine goesL_ (some 11) rfl rfl Tryd.func22 kr rfl #[.agg #[.string t135,.string t136,.slice Ao31 t137.length co31],.bool false] rfl am ?_;(with_reducible refine(xml_Print.calls k t135 t136 _ _ t137 false t140 t141 _ ?side1 ?side2 A3.out).mono ?_);(case side1=>repeat (first|exact(Kd.R_reads' HO139.out).2.2|(with_reducible refine Kd.C_alloc ?_ _)|(with_reducible refine Kd.C_drewN ?_ _)|(with_reducible refine Kd.C_drew ?_)));(case side2=>exact(Kd.R_reads' HO139.out).2.1);rintro e w32 ⟨rfl,hb⟩;refine⟨_,rfl,?_⟩;replace HO132:=Aside0.mk (Kd.V_below (by(with_reducible repeat (first|apply Kd.V_alloc|apply Kd.V_drewN|apply Kd.V_drew));exact HO132.out) hb);replace HO139:=Aside0.mk (Kd.R_below rl hb);replace BK134:=Aside0.mk (blk_below (g:=gb134) (o:=.cells #[.string t128,.string t129,.slice Ao29 t130.length co29] 24 (0,0)) kl hb);replace HB:=Aside0.mk (below_step bl hb);obtain⟨_,_,_,_,_,_⟩:=bc3 BK134.out))
 go_ret
 exact⟨ew,bl⟩
 }
 }
 {
 have c6b0:(t128.toList == ([97]:List UInt8))=false:=beq_eq_false_iff_ne.mpr c6
 obtain rfl:=Option.some.inj H
 go_enter Tryd.func14,Tryd.ntmps14
 go_wp2_with (first|((with_reducible refine gate_callee (f:=10) rfl ?_);refine goesL_ (some 6) rfl rfl Tryd.func10 kr rfl #[.string (⟨#[60,97,32,120,61,34,49,34,62,32,60,98,62,49,32,38,108,116,59,32,50,60,47,98,62,60,99,47,62,60,47,97,62]⟩ : ByteArray)] rfl am ?_;(with_reducible refine(xml_Parse.calls k (⟨#[60,97,32,120,61,34,49,34,62,32,60,98,62,49,32,38,108,116,59,32,50,60,47,98,62,60,99,47,62,60,47,97,62]⟩ : ByteArray) t128 t129 t130 t133 _ gk A1.out).mono ?_);rintro e w34 ⟨v131,rfl,ho0,hb⟩;refine⟨_,rfl,?_⟩;have HO132:=Aside0.mk (Kd.V_lower (Kd.V_mono (ok':=fun k_=>True) ho0 (fun k_ hk_=>trivial)) (below_size bl));replace HB:=Aside0.mk (below_step bl hb))|((with_reducible refine gate_dst (N:=1) rfl ?_);(try (refine gate_guard (by rfl) ?_;dsimp only));refine box_event ?hg (N:=1) ?hd (cs:=#[.string (⟨#[]⟩ : ByteArray),.string (⟨#[]⟩ : ByteArray),.slice none 0 0]) (t:=24) ?hr ?_;(case hd=>rfl);(case hg=>rfl);(case hr=>first|(go_simp;done)|(go_simp;rfl));intro gb134 hg w35 hbox hb;replace HO132:=Aside0.mk (Kd.V_below (Kd.V_elderB (by(with_reducible repeat (first|apply Kd.V_alloc|apply Kd.V_drewN|apply Kd.V_drew));exact HO132.out) gb134 (Nat.le_of_eq hg.symm)) hb);have BK134:=Aside0.mk (hbox);have GW134:=Aside0.mk ((by rw [hg];exact(below_size bl):w.heap.size≤gb134));have GE134:=Aside0.mk ((by rw [hg];exact(below_size bl):w.heap.size≤gb134));replace HB:=Aside0.mk (below_step bl hb);clear hb hbox hg;obtain⟨_,_,_,_,_,_⟩:=bc3 BK134.out;obtain⟨Ao37,co37,eo37⟩:=Kd.V_slice HO132.out;subst eo37)|((with_reducible refine gate_callee (f:=23) rfl ?_);refine goesL_ (some 10) rfl rfl Tryd.func23 kr rfl #[.string (⟨#[97]⟩ : ByteArray),.string (⟨#[120,38,121]⟩ : ByteArray)] rfl am ?_;(with_reducible refine(xml_Of.calls (⟨#[97]⟩ : ByteArray) (⟨#[120,38,121]⟩ : ByteArray) t135 t136 t137 _ A2.out).mono ?_);rintro e w38 ⟨v138,rfl,ho0,hb⟩;refine⟨_,rfl,?_⟩;replace HO132:=Aside0.mk (Kd.V_elder' (by(with_reducible repeat (first|apply Kd.V_alloc|apply Kd.V_drewN|apply Kd.V_drew));exact(Kd.V_mono (Kd.V_far (p:=⟨gb134,2,none⟩) (Kd.V_far (p:=⟨gb134,1,none⟩) (Kd.V_far (p:=⟨gb134,0,none⟩) (Kd.V_mono HO132.out (fun k_ hk=>(⟨hk,hk.2⟩ : _∧k_≠gb134))) (fun _ hk=>hk.2) (.string t128)) (fun _ hk=>hk.2) (.string t129)) (fun _ hk=>hk.2) (.slice Ao37 t130.length co37)) (fun _ h_=>h_.1))) (by first|exact Kd.R_base ho0|exact Kd.R_base ho0) hb);have HO139:=Aside0.mk (Kd.R_lower (Kd.R_newB ho0 (g:=gb134) (o:=.cells #[.string t128,.string t129,.slice Ao37 t130.length co37] 24 (0,0)) (by(with_reducible repeat (first|refine blk_drewN ?_ _|refine blk_drew ?_|refine blk_alloc ?_ _));refine blk_put (cs:=#[.string t128,.string t129,.slice none 0 0]) ?_ 2 _ rfl;(with_reducible repeat (first|refine blk_drewN ?_ _|refine blk_drew ?_|refine blk_alloc ?_ _));refine blk_put (cs:=#[.string t128,.string (⟨#[]⟩ : ByteArray),.slice none 0 0]) ?_ 1 _ rfl;(with_reducible repeat (first|refine blk_drewN ?_ _|refine blk_drew ?_|refine blk_alloc ?_ _));refine blk_put (cs:=#[.string (⟨#[]⟩ : ByteArray),.string (⟨#[]⟩ : ByteArray),.slice none 0 0]) ?_ 0 _ rfl;(with_reducible repeat (first|refine blk_drewN ?_ _|refine blk_drew ?_|refine blk_alloc ?_ _));exact BK134.out)) (below_size bl));replace BK134:=Aside0.mk (blk_below (g:=gb134) (o:=.cells #[.string t128,.string t129,.slice Ao37 t130.length co37] 24 (0,0)) (by(with_reducible repeat (first|refine blk_drewN ?_ _|refine blk_drew ?_|refine blk_alloc ?_ _));refine blk_put (cs:=#[.string t128,.string t129,.slice none 0 0]) ?_ 2 _ rfl;(with_reducible repeat (first|refine blk_drewN ?_ _|refine blk_drew ?_|refine blk_alloc ?_ _));refine blk_put (cs:=#[.string t128,.string (⟨#[]⟩ : ByteArray),.slice none 0 0]) ?_ 1 _ rfl;(with_reducible repeat (first|refine blk_drewN ?_ _|refine blk_drew ?_|refine blk_alloc ?_ _));refine blk_put (cs:=#[.string (⟨#[]⟩ : ByteArray),.string (⟨#[]⟩ : ByteArray),.slice none 0 0]) ?_ 0 _ rfl;(with_reducible repeat (first|refine blk_drewN ?_ _|refine blk_drew ?_|refine blk_alloc ?_ _));exact BK134.out) hb);replace HB:=Aside0.mk (below_step bl hb);obtain⟨Ao39,co39,eo39⟩:=Kd.R_slice HO139.out;subst eo39)|((with_reducible refine gate_callee (f:=22) rfl ?_);refine goesL_ (some 11) rfl rfl Tryd.func22 kr rfl #[.agg #[.string t135,.string t136,.slice Ao39 t137.length co39],.bool false] rfl am ?_;(with_reducible refine(xml_Print.calls k t135 t136 _ _ t137 false t140 t141 _ ?side1 ?side2 A3.out).mono ?_);(case side1=>repeat (first|exact(Kd.R_reads' HO139.out).2.2|(with_reducible refine Kd.C_alloc ?_ _)|(with_reducible refine Kd.C_drewN ?_ _)|(with_reducible refine Kd.C_drew ?_)));(case side2=>exact(Kd.R_reads' HO139.out).2.1);rintro e w40 ⟨rfl,hb⟩;refine⟨_,rfl,?_⟩;replace HO132:=Aside0.mk (Kd.V_below (by(with_reducible repeat (first|apply Kd.V_alloc|apply Kd.V_drewN|apply Kd.V_drew));exact HO132.out) hb);replace HO139:=Aside0.mk (Kd.R_below rl hb);replace BK134:=Aside0.mk (blk_below (g:=gb134) (o:=.cells #[.string t128,.string t129,.slice Ao37 t130.length co37] 24 (0,0)) kl hb);replace HB:=Aside0.mk (below_step bl hb);obtain⟨_,_,_,_,_,_⟩:=bc3 BK134.out))
 go_ret
 exact⟨ew,bl⟩
 }
 }
 {
 have c5b0:(t141 == 0)=false:=beq_eq_false_iff_ne.mpr c5
 obtain rfl:=Option.some.inj H
 go_enter Tryd.func14,Tryd.ntmps14
 go_wp2_with (first|((with_reducible refine gate_callee (f:=10) rfl ?_);refine goesL_ (some 6) rfl rfl Tryd.func10 kr rfl #[.string (⟨#[60,97,32,120,61,34,49,34,62,32,60,98,62,49,32,38,108,116,59,32,50,60,47,98,62,60,99,47,62,60,47,97,62]⟩ : ByteArray)] rfl am ?_;(with_reducible refine(xml_Parse.calls k (⟨#[60,97,32,120,61,34,49,34,62,32,60,98,62,49,32,38,108,116,59,32,50,60,47,98,62,60,99,47,62,60,47,97,62]⟩ : ByteArray) t128 t129 t130 t133 _ gk A1.out).mono ?_);rintro e w42 ⟨v131,rfl,ho0,hb⟩;refine⟨_,rfl,?_⟩;have HO132:=Aside0.mk (Kd.V_lower (Kd.V_mono (ok':=fun k_=>True) ho0 (fun k_ hk_=>trivial)) (below_size bl));replace HB:=Aside0.mk (below_step bl hb))|((with_reducible refine gate_dst (N:=1) rfl ?_);(try (refine gate_guard (by rfl) ?_;dsimp only));refine box_event ?hg (N:=1) ?hd (cs:=#[.string (⟨#[]⟩ : ByteArray),.string (⟨#[]⟩ : ByteArray),.slice none 0 0]) (t:=24) ?hr ?_;(case hd=>rfl);(case hg=>rfl);(case hr=>first|(go_simp;done)|(go_simp;rfl));intro gb134 hg w43 hbox hb;replace HO132:=Aside0.mk (Kd.V_below (Kd.V_elderB (by(with_reducible repeat (first|apply Kd.V_alloc|apply Kd.V_drewN|apply Kd.V_drew));exact HO132.out) gb134 (Nat.le_of_eq hg.symm)) hb);have BK134:=Aside0.mk (hbox);have GW134:=Aside0.mk ((by rw [hg];exact(below_size bl):w.heap.size≤gb134));have GE134:=Aside0.mk ((by rw [hg];exact(below_size bl):w.heap.size≤gb134));replace HB:=Aside0.mk (below_step bl hb);clear hb hbox hg;obtain⟨_,_,_,_,_,_⟩:=bc3 BK134.out;obtain⟨Ao45,co45,eo45⟩:=Kd.V_slice HO132.out;subst eo45)|((with_reducible refine gate_callee (f:=23) rfl ?_);refine goesL_ (some 10) rfl rfl Tryd.func23 kr rfl #[.string (⟨#[97]⟩ : ByteArray),.string (⟨#[120,38,121]⟩ : ByteArray)] rfl am ?_;(with_reducible refine(xml_Of.calls (⟨#[97]⟩ : ByteArray) (⟨#[120,38,121]⟩ : ByteArray) t135 t136 t137 _ A2.out).mono ?_);rintro e w46 ⟨v138,rfl,ho0,hb⟩;refine⟨_,rfl,?_⟩;replace HO132:=Aside0.mk (Kd.V_elder' (by(with_reducible repeat (first|apply Kd.V_alloc|apply Kd.V_drewN|apply Kd.V_drew));exact(Kd.V_mono (Kd.V_far (p:=⟨gb134,2,none⟩) (Kd.V_far (p:=⟨gb134,1,none⟩) (Kd.V_far (p:=⟨gb134,0,none⟩) (Kd.V_mono HO132.out (fun k_ hk=>(⟨hk,hk.2⟩ : _∧k_≠gb134))) (fun _ hk=>hk.2) (.string t128)) (fun _ hk=>hk.2) (.string t129)) (fun _ hk=>hk.2) (.slice Ao45 t130.length co45)) (fun _ h_=>h_.1))) (by first|exact Kd.R_base ho0|exact Kd.R_base ho0) hb);have HO139:=Aside0.mk (Kd.R_lower (Kd.R_newB ho0 (g:=gb134) (o:=.cells #[.string t128,.string t129,.slice Ao45 t130.length co45] 24 (0,0)) (by(with_reducible repeat (first|refine blk_drewN ?_ _|refine blk_drew ?_|refine blk_alloc ?_ _));refine blk_put (cs:=#[.string t128,.string t129,.slice none 0 0]) ?_ 2 _ rfl;(with_reducible repeat (first|refine blk_drewN ?_ _|refine blk_drew ?_|refine blk_alloc ?_ _));refine blk_put (cs:=#[.string t128,.string (⟨#[]⟩ : ByteArray),.slice none 0 0]) ?_ 1 _ rfl;(with_reducible repeat (first|refine blk_drewN ?_ _|refine blk_drew ?_|refine blk_alloc ?_ _));refine blk_put (cs:=#[.string (⟨#[]⟩ : ByteArray),.string (⟨#[]⟩ : ByteArray),.slice none 0 0]) ?_ 0 _ rfl;(with_reducible repeat (first|refine blk_drewN ?_ _|refine blk_drew ?_|refine blk_alloc ?_ _));exact BK134.out)) (below_size bl));replace BK134:=Aside0.mk (blk_below (g:=gb134) (o:=.cells #[.string t128,.string t129,.slice Ao45 t130.length co45] 24 (0,0)) (by(with_reducible repeat (first|refine blk_drewN ?_ _|refine blk_drew ?_|refine blk_alloc ?_ _));refine blk_put (cs:=#[.string t128,.string t129,.slice none 0 0]) ?_ 2 _ rfl;(with_reducible repeat (first|refine blk_drewN ?_ _|refine blk_drew ?_|refine blk_alloc ?_ _));refine blk_put (cs:=#[.string t128,.string (⟨#[]⟩ : ByteArray),.slice none 0 0]) ?_ 1 _ rfl;(with_reducible repeat (first|refine blk_drewN ?_ _|refine blk_drew ?_|refine blk_alloc ?_ _));refine blk_put (cs:=#[.string (⟨#[]⟩ : ByteArray),.string (⟨#[]⟩ : ByteArray),.slice none 0 0]) ?_ 0 _ rfl;(with_reducible repeat (first|refine blk_drewN ?_ _|refine blk_drew ?_|refine blk_alloc ?_ _));exact BK134.out) hb);replace HB:=Aside0.mk (below_step bl hb);obtain⟨Ao47,co47,eo47⟩:=Kd.R_slice HO139.out;subst eo47)|((with_reducible refine gate_callee (f:=22) rfl ?_);refine goesL_ (some 11) rfl rfl Tryd.func22 kr rfl #[.agg #[.string t135,.string t136,.slice Ao47 t137.length co47],.bool false] rfl am ?_;(with_reducible refine(xml_Print.calls k t135 t136 _ _ t137 false t140 t141 _ ?side1 ?side2 A3.out).mono ?_);(case side1=>repeat (first|exact(Kd.R_reads' HO139.out).2.2|(with_reducible refine Kd.C_alloc ?_ _)|(with_reducible refine Kd.C_drewN ?_ _)|(with_reducible refine Kd.C_drew ?_)));(case side2=>exact(Kd.R_reads' HO139.out).2.1);rintro e w48 ⟨rfl,hb⟩;refine⟨_,rfl,?_⟩;replace HO132:=Aside0.mk (Kd.V_below (by(with_reducible repeat (first|apply Kd.V_alloc|apply Kd.V_drewN|apply Kd.V_drew));exact HO132.out) hb);replace HO139:=Aside0.mk (Kd.R_below rl hb);replace BK134:=Aside0.mk (blk_below (g:=gb134) (o:=.cells #[.string t128,.string t129,.slice Ao45 t130.length co45] 24 (0,0)) kl hb);replace HB:=Aside0.mk (below_step bl hb)))
 go_ret
 exact⟨ew,bl⟩
 }
 }
 {
 have c4b0:(t133 == 0)=false:=beq_eq_false_iff_ne.mpr c4
 obtain rfl:=Option.some.inj H
 go_enter Tryd.func14,Tryd.ntmps14
 go_wp2_with (first|((with_reducible refine gate_callee (f:=10) rfl ?_);refine goesL_ (some 6) rfl rfl Tryd.func10 kr rfl #[.string (⟨#[60,97,32,120,61,34,49,34,62,32,60,98,62,49,32,38,108,116,59,32,50,60,47,98,62,60,99,47,62,60,47,97,62]⟩ : ByteArray)] rfl am ?_;(with_reducible refine(xml_Parse.calls k (⟨#[60,97,32,120,61,34,49,34,62,32,60,98,62,49,32,38,108,116,59,32,50,60,47,98,62,60,99,47,62,60,47,97,62]⟩ : ByteArray) t128 t129 t130 t133 _ gk A1.out).mono ?_);rintro e w49 ⟨v131,rfl,ho0,hb⟩;refine⟨_,rfl,?_⟩;have HO132:=Aside0.mk (Kd.V_lower (Kd.V_mono (ok':=fun k_=>True) ho0 (fun k_ hk_=>trivial)) (below_size bl));replace HB:=Aside0.mk (below_step bl hb))|((with_reducible refine gate_dst (N:=1) rfl ?_);(try (refine gate_guard (by rfl) ?_;dsimp only));refine box_event ?hg (N:=1) ?hd (cs:=#[.string (⟨#[]⟩ : ByteArray),.string (⟨#[]⟩ : ByteArray),.slice none 0 0]) (t:=24) ?hr ?_;(case hd=>rfl);(case hg=>rfl);(case hr=>first|(go_simp;done)|(go_simp;rfl));intro gb134 hg w50 hbox hb;replace HO132:=Aside0.mk (Kd.V_below (Kd.V_elderB (by(with_reducible repeat (first|apply Kd.V_alloc|apply Kd.V_drewN|apply Kd.V_drew));exact HO132.out) gb134 (Nat.le_of_eq hg.symm)) hb);have BK134:=Aside0.mk (hbox);have GW134:=Aside0.mk ((by rw [hg];exact(below_size bl):w.heap.size≤gb134));have GE134:=Aside0.mk ((by rw [hg];exact(below_size bl):w.heap.size≤gb134));replace HB:=Aside0.mk (below_step bl hb);clear hb hbox hg;obtain⟨_,_,_,_,_,_⟩:=bc3 BK134.out;obtain⟨Ao52,co52,eo52⟩:=Kd.V_slice HO132.out;subst eo52)|((with_reducible refine gate_callee (f:=23) rfl ?_);refine goesL_ (some 10) rfl rfl Tryd.func23 kr rfl #[.string (⟨#[97]⟩ : ByteArray),.string (⟨#[120,38,121]⟩ : ByteArray)] rfl am ?_;(with_reducible refine(xml_Of.calls (⟨#[97]⟩ : ByteArray) (⟨#[120,38,121]⟩ : ByteArray) t135 t136 t137 _ A2.out).mono ?_);rintro e w53 ⟨v138,rfl,ho0,hb⟩;refine⟨_,rfl,?_⟩;replace HO132:=Aside0.mk (Kd.V_elder' (by(with_reducible repeat (first|apply Kd.V_alloc|apply Kd.V_drewN|apply Kd.V_drew));exact(Kd.V_mono (Kd.V_far (p:=⟨gb134,2,none⟩) (Kd.V_far (p:=⟨gb134,1,none⟩) (Kd.V_far (p:=⟨gb134,0,none⟩) (Kd.V_mono HO132.out (fun k_ hk=>(⟨hk,hk.2⟩ : _∧k_≠gb134))) (fun _ hk=>hk.2) (.string t128)) (fun _ hk=>hk.2) (.string t129)) (fun _ hk=>hk.2) (.slice Ao52 t130.length co52)) (fun _ h_=>h_.1))) (by first|exact Kd.R_base ho0|exact Kd.R_base ho0) hb);have HO139:=Aside0.mk (Kd.R_lower (Kd.R_newB ho0 (g:=gb134) (o:=.cells #[.string t128,.string t129,.slice Ao52 t130.length co52] 24 (0,0)) (by(with_reducible repeat (first|refine blk_drewN ?_ _|refine blk_drew ?_|refine blk_alloc ?_ _));refine blk_put (cs:=#[.string t128,.string t129,.slice none 0 0]) ?_ 2 _ rfl;(with_reducible repeat (first|refine blk_drewN ?_ _|refine blk_drew ?_|refine blk_alloc ?_ _));refine blk_put (cs:=#[.string t128,.string (⟨#[]⟩ : ByteArray),.slice none 0 0]) ?_ 1 _ rfl;(with_reducible repeat (first|refine blk_drewN ?_ _|refine blk_drew ?_|refine blk_alloc ?_ _));refine blk_put (cs:=#[.string (⟨#[]⟩ : ByteArray),.string (⟨#[]⟩ : ByteArray),.slice none 0 0]) ?_ 0 _ rfl;(with_reducible repeat (first|refine blk_drewN ?_ _|refine blk_drew ?_|refine blk_alloc ?_ _));exact BK134.out)) (below_size bl));replace BK134:=Aside0.mk (blk_below (g:=gb134) (o:=.cells #[.string t128,.string t129,.slice Ao52 t130.length co52] 24 (0,0)) (by(with_reducible repeat (first|refine blk_drewN ?_ _|refine blk_drew ?_|refine blk_alloc ?_ _));refine blk_put (cs:=#[.string t128,.string t129,.slice none 0 0]) ?_ 2 _ rfl;(with_reducible repeat (first|refine blk_drewN ?_ _|refine blk_drew ?_|refine blk_alloc ?_ _));refine blk_put (cs:=#[.string t128,.string (⟨#[]⟩ : ByteArray),.slice none 0 0]) ?_ 1 _ rfl;(with_reducible repeat (first|refine blk_drewN ?_ _|refine blk_drew ?_|refine blk_alloc ?_ _));refine blk_put (cs:=#[.string (⟨#[]⟩ : ByteArray),.string (⟨#[]⟩ : ByteArray),.slice none 0 0]) ?_ 0 _ rfl;(with_reducible repeat (first|refine blk_drewN ?_ _|refine blk_drew ?_|refine blk_alloc ?_ _));exact BK134.out) hb);replace HB:=Aside0.mk (below_step bl hb);obtain⟨Ao54,co54,eo54⟩:=Kd.R_slice HO139.out;subst eo54)|((with_reducible refine gate_callee (f:=22) rfl ?_);refine goesL_ (some 11) rfl rfl Tryd.func22 kr rfl #[.agg #[.string t135,.string t136,.slice Ao54 t137.length co54],.bool false] rfl am ?_;(with_reducible refine(xml_Print.calls k t135 t136 _ _ t137 false t140 t141 _ ?side1 ?side2 A3.out).mono ?_);(case side1=>repeat (first|exact(Kd.R_reads' HO139.out).2.2|(with_reducible refine Kd.C_alloc ?_ _)|(with_reducible refine Kd.C_drewN ?_ _)|(with_reducible refine Kd.C_drew ?_)));(case side2=>exact(Kd.R_reads' HO139.out).2.1);rintro e w55 ⟨rfl,hb⟩;refine⟨_,rfl,?_⟩;replace HO132:=Aside0.mk (Kd.V_below (by(with_reducible repeat (first|apply Kd.V_alloc|apply Kd.V_drewN|apply Kd.V_drew));exact HO132.out) hb);replace HO139:=Aside0.mk (Kd.R_below rl hb);replace BK134:=Aside0.mk (blk_below (g:=gb134) (o:=.cells #[.string t128,.string t129,.slice Ao52 t130.length co52] 24 (0,0)) kl hb);replace HB:=Aside0.mk (below_step bl hb)))
 go_ret
 exact⟨ew,bl⟩
 }
mutual
def stowageref13_Same.j0:Nat→Bool→ByteArray→ByteArray→List (S30)→ByteArray→ByteArray→List (S30)→Option (Bool)
  | 0,_,_,_,_,_,_,_=>none
  | k+1,x26,x251000,x251001,x251002,x252000,x252001,x252002=>if x26=true then(some false) else(stowageref13_Same.l0 k 0 x251000 x251001 x251002 x252000 x252001 x252002)
def stowageref13_Same.l0:Nat→Int→ByteArray→ByteArray→List (S30)→ByteArray→ByteArray→List (S30)→Option (Bool)
  | 0,_,_,_,_,_,_,_=>none
  | k+1,x5,x251000,x251001,x251002,x252000,x252001,x252002=>if x5<(x251002.length:Int) then(if 0≤x5 then(if x5<(x252002.length:Int) then((stowageref13_Same.f k ((rd_T30 x251002 x5).f0) ((rd_T30 x251002 x5).f1) ((rd_T30 x251002 x5).f2) ((rd_T30 x252002 x5).f0) ((rd_T30 x252002 x5).f1) ((rd_T30 x252002 x5).f2)).bind fun t254=>(if t254=true then(stowageref13_Same.l0 k (wrap64 (x5+1)) x251000 x251001 x251002 x252000 x252001 x252002) else(some false))) else(none)) else(none)) else(some true)
def stowageref13_Same.f:Nat→ByteArray→ByteArray→List (S30)→ByteArray→ByteArray→List (S30)→Option (Bool)
  | 0,_,_,_,_,_,_=>none
  | k+1,a0_0,a0_1,l0_2,a1_0,a1_1,l1_2=>if a0_0.toList=a1_0.toList then(if a0_1.toList=a1_1.toList then(stowageref13_Same.j0 k ((l0_2.length:Int) != (l1_2.length:Int)) a0_0 a0_1 l0_2 a1_0 a1_1 l1_2) else(stowageref13_Same.j0 k true a0_0 a0_1 l0_2 a1_0 a1_1 l1_2)) else(stowageref13_Same.j0 k true a0_0 a0_1 l0_2 a1_0 a1_1 l1_2)
end
theorem stowageref13_Same.mono_l:∀ k,(∀ y0 y1 y2 y3 y4 y5,LeO (stowageref13_Same.f k y0 y1 y2 y3 y4 y5) (stowageref13_Same.f (k+1) y0 y1 y2 y3 y4 y5))∧(∀ y0 y1 y2 y3 y4 y5 y6,LeO (stowageref13_Same.j0 k y0 y1 y2 y3 y4 y5 y6) (stowageref13_Same.j0 (k+1) y0 y1 y2 y3 y4 y5 y6))∧(∀ y0 y1 y2 y3 y4 y5 y6,LeO (stowageref13_Same.l0 k y0 y1 y2 y3 y4 y5 y6) (stowageref13_Same.l0 (k+1) y0 y1 y2 y3 y4 y5 y6))
  | 0=>⟨fun _ _ _ _ _ _ r h=>by simp [stowageref13_Same.f] at h,fun _ _ _ _ _ _ _ r h=>by simp [stowageref13_Same.j0] at h,fun _ _ _ _ _ _ _ r h=>by simp [stowageref13_Same.l0] at h⟩
  | k+1=>by
    obtain⟨ih0,ih1,ih2⟩:=stowageref13_Same.mono_l k
    refine⟨?_,?_,?_⟩
    · intro y0 y1 y2 y3 y4 y5
      unfold stowageref13_Same.f
      with_reducible repeat' first|exact ih0 _ _ _ _ _ _|exact ih1 _ _ _ _ _ _ _|exact ih2 _ _ _ _ _ _ _|exact LeO.refl _|exact LeO.none _|refine LeO.ite ?_ ?_|refine LeO.bind ?_ (fun _=>?_)
    · intro y0 y1 y2 y3 y4 y5 y6
      unfold stowageref13_Same.j0
      with_reducible repeat' first|exact ih0 _ _ _ _ _ _|exact ih1 _ _ _ _ _ _ _|exact ih2 _ _ _ _ _ _ _|exact LeO.refl _|exact LeO.none _|refine LeO.ite ?_ ?_|refine LeO.bind ?_ (fun _=>?_)
    · intro y0 y1 y2 y3 y4 y5 y6
      unfold stowageref13_Same.l0
      with_reducible repeat' first|exact ih0 _ _ _ _ _ _|exact ih1 _ _ _ _ _ _ _|exact ih2 _ _ _ _ _ _ _|exact LeO.refl _|exact LeO.none _|refine LeO.ite ?_ ?_|refine LeO.bind ?_ (fun _=>?_)
theorem stowageref13_Same.mono:∀ a0 a1 a2 a3 a4 a5 k,LeO (stowageref13_Same.f k a0 a1 a2 a3 a4 a5) (stowageref13_Same.f (k+1) a0 a1 a2 a3 a4 a5):=by
 intro a0 a1 a2 a3 a4 a5 k
 obtain⟨ih0,ih1,ih2⟩:=stowageref13_Same.mono_l k
 exact ih0 a0 a1 a2 a3 a4 a5
def stowageref13_Same.T6:Bool×List (List Nat×List Nat):=(true,[([],[]),([0],[0]),([],[]),([1,2],[1,2]),([3],[3]),([],[]),([5],[5]),([],[]),([6,7],[6,7]),([8],[8]),([4,9],[4,9]),([10],[10])])
def stowageref13_Same.B6:List Nat:=[0,1,0,7,15,0,32,0,224,480,1023,2047]
theorem stowageref13_Same.tab6:rtab .any (opsOf Tryd.f12 6)=stowageref13_Same.T6:=by kernel_rfl
theorem stowageref13_Same.bits6:waitsOk stowageref13_Same.T6.2 stowageref13_Same.B6=true:=by kernel_rfl
theorem stowageref13_Same.calls (k:Nat):∀ (a0_0:ByteArray) (a0_1:ByteArray) (A0_2:Option Addr) (c0_2:Nat) (l0_2:List (S30)) (a1_0:ByteArray) (a1_1:ByteArray) (A1_2:Option Addr) (c1_2:Nat) (l1_2:List (S30)) (r:Bool) (w:World) (hr0_2:Kd.C k30 w A0_2 l0_2.length l0_2) (hc0_2:l0_2.length≤c0_2) (hr1_2:Kd.C k30 w A1_2 l1_2.length l1_2) (hc1_2:l1_2.length≤c1_2) (h:stowageref13_Same.f k a0_0 a0_1 l0_2 a1_0 a1_1 l1_2=some r),
    Calls Tryd.prog 12 #[.agg #[.string a0_0,.string a0_1,.slice A0_2 l0_2.length c0_2],.agg #[.string a1_0,.string a1_1,.slice A1_2 l1_2.length c1_2]] w fun e w'=>e = .returned (.bool r)∧Below w.heap.size w w':=by
 induction k using Nat.strongRecOn with
 | _ k ih=>
 intro a0_0 a0_1 A0_2 c0_2 l0_2 a1_0 a1_1 A1_2 c1_2 l1_2 r w hr0_2 hc0_2 hr1_2 hc1_2 h
 cases k with
 | zero=>exact absurd h (by simp [stowageref13_Same.f])
 | succ k=>
 simp only [stowageref13_Same.f] at h
 have hu30:=Tryd.underlying30
 have HR0_2:=Aside0.mk hr0_2
 have HC0_2:=Aside0.mk hc0_2
 clear hr0_2 hc0_2
 have HR1_2:=Aside0.mk hr1_2
 have HC1_2:=Aside0.mk hc1_2
 clear hr1_2 hc1_2
 have HB:=Aside0.mk (Below.refl w.heap.size w)
 have H:(if a0_0.toList=a1_0.toList then(if a0_1.toList=a1_1.toList then(stowageref13_Same.j0 k ((l0_2.length:Int) != (l1_2.length:Int)) a0_0 a0_1 l0_2 a1_0 a1_1 l1_2) else(stowageref13_Same.j0 k true a0_0 a0_1 l0_2 a1_0 a1_1 l1_2)) else(stowageref13_Same.j0 k true a0_0 a0_1 l0_2 a1_0 a1_1 l1_2))=some r:=h
 clear h
 have HC3:=Aside0.mk H
 clear H
 go_enter Tryd.func12,Tryd.ntmps12
 go_upto_region 1 with(first|((with_reducible refine gate_dst (N:=2) rfl ?_);(try (refine gate_guard (by rfl) ?_;dsimp only));refine box_event ?hg (N:=2) ?hd (cs:=#[.string a0_0,.string a0_1,.slice A0_2 l0_2.length c0_2]) (t:=30) ?hr ?_;(case hd=>rfl);(case hg=>rfl);(case hr=>first|(go_simp;done)|(go_simp;rfl));intro gb250 hg w4 hbox hb;have n0_:=Aside0.mk (below_step bl hb);have n1_:=Aside0.mk (hbox);have n2_:=Aside0.mk ((by rw [hg];exact(below_size bl):w.heap.size≤gb250));have n3_:=Aside0.mk ((by rw [hg];exact(below_size bl):w.heap.size≤gb250));clear HB;have HB:=n0_;have BK250:=n1_;have GW250:=n2_;have GE250:=n3_;clear n0_ n1_ n2_ n3_;clear hb hbox hg)|((with_reducible refine gate_dst (N:=3) rfl ?_);(try (refine gate_guard (by rfl) ?_;dsimp only));refine box_event ?hg (N:=3) ?hd (cs:=#[.string a1_0,.string a1_1,.slice A1_2 l1_2.length c1_2]) (t:=30) ?hr ?_;(case hd=>rfl);(case hg=>rfl);(case hr=>first|(go_simp;done)|(go_simp;rfl));intro gb251 hg w5 hbox hb;have n0_:=Aside0.mk (blk_below (g:=gb250) (o:=.cells #[.string a0_0,.string a0_1,.slice A0_2 l0_2.length c0_2] 30 (0,0)) kl hb);have n1_:=Aside0.mk (below_step bl hb);have n2_:=Aside0.mk (hbox);have n3_:=Aside0.mk ((by rw [hg];exact(below_size bl):w.heap.size≤gb251));have n4_:=Aside0.mk ((by rw [hg];exact(below_size bl):w.heap.size≤gb251));have n5_:=Aside0.mk ((by rw [hg];exact Nat.ne_of_lt (blk_lt (g:=gb250) (o:=.cells #[.string a0_0,.string a0_1,.slice A0_2 l0_2.length c0_2] 30 (0,0)) kl):gb250≠gb251));have n6_:=Aside0.mk ((by rw [hg];exact Nat.ne_of_gt (blk_lt (g:=gb250) (o:=.cells #[.string a0_0,.string a0_1,.slice A0_2 l0_2.length c0_2] 30 (0,0)) kl):gb251≠gb250));clear BK250;clear HB;have BK250:=n0_;have HB:=n1_;have BK251:=n2_;have GW251:=n3_;have GE251:=n4_;have NB250_251:=n5_;have NB251_250:=n6_;clear n0_ n1_ n2_ n3_ n4_ n5_ n6_;clear hb hbox hg))
 (try simp only [Act.put,l1,l2,l3])
 go_cut [26] (fun v26 wc=>∃ (kq:Nat) (x26_2:Bool),v26 = .bool x26_2∧Aside0 (stowageref13_Same.j0 kq x26_2 a0_0 a0_1 l0_2 a1_0 a1_1 l1_2=some r)∧Aside0 (kq≤k)∧Aside0 (wc.heap[gb250]? = some (.cells #[.string a0_0,.string a0_1,(.slice A0_2 l0_2.length c0_2)] 30 (0,0)))∧Aside0 (wc.heap[gb251]? = some (.cells #[.string a1_0,.string a1_1,(.slice A1_2 l1_2.length c1_2)] 30 (0,0)))∧Aside0 (Below w.heap.size w wc))
 case first=>
  have H:=HC3.out
  clear HC3
  replace H:=itO H
  rcases H with⟨c6,H⟩|⟨c6,H⟩
  {
  have c6b0:(a0_0.toList == a1_0.toList)=true:=beq_iff_eq.mpr c6
  clear c6
  (first|rw [c6b0]|(simp only [i64_w,i32_w];rw [c6b0])|skip)
  replace H:=itO H
  rcases H with⟨c7,H⟩|⟨c7,H⟩
  {
  have c7b0:(a0_1.toList == a1_1.toList)=true:=beq_iff_eq.mpr c7
  clear c7
  have H':=Aside0.mk H
  clear H
  have hnb8:=NB250_251.out
  have hnc8:=NB251_250.out
  obtain⟨_,_,_,_,_,_⟩:=bc3 BK250.out
  obtain⟨_,_,_,_,_,_⟩:=bc3 BK251.out
  go_wp2
  go_meet
  case rel=>exact⟨_,(((l0_2.length:Int) != (l1_2.length:Int))),rs,H',⟨by first|omega|exact Nat.le_refl _⟩,⟨kl⟩,⟨kl⟩,⟨bl⟩⟩
  }
  {
  have c7b0:(a0_1.toList == a1_1.toList)=false:=beq_eq_false_iff_ne.mpr c7
  have H':=Aside0.mk H
  clear H
  have hnb11:=NB250_251.out
  have hnc11:=NB251_250.out
  obtain⟨_,_,_,_,_,_⟩:=bc3 BK250.out
  obtain⟨_,_,_,_,_,_⟩:=bc3 BK251.out
  go_wp2
  go_meet
  case rel=>exact⟨_,(true),rs,H',⟨by first|omega|exact Nat.le_refl _⟩,⟨kl⟩,⟨kl⟩,⟨bl⟩⟩
  }
  }
  {
  have c6b0:(a0_0.toList == a1_0.toList)=false:=beq_eq_false_iff_ne.mpr c6
  (first|rw [c6b0]|(simp only [i64_w,i32_w];rw [c6b0])|skip)
  have H':=Aside0.mk H
  clear H
  have hnb14:=NB250_251.out
  have hnc14:=NB251_250.out
  obtain⟨_,_,_,_,_,_⟩:=bc3 BK250.out
  obtain⟨_,_,_,_,_,_⟩:=bc3 BK251.out
  go_wp2
  go_meet
  case rel=>exact⟨_,(true),rs,H',⟨by first|omega|exact Nat.le_refl _⟩,⟨kl⟩,⟨kl⟩,⟨bl⟩⟩
  }
 case rest=>
  clear HC3
  obtain⟨kq,x26_2,rfl,HA,HJ2,BK250,BK251,HB⟩:=hcut
  cases kq with
  | zero=>exact absurd HA.out (by simp [stowageref13_Same.j0])
  | succ kj2=>
   have H:=HA.out
   clear HA
   simp only [stowageref13_Same.j0] at H
   by_cases c17:x26_2=true
   {
   subst c17
   replace H:=itT H
   obtain rfl:=Option.some.inj H
   go_wp2
   go_ret
   exact⟨ew,bl⟩
   }
   {
   replace c17:=Bool.eq_false_iff.mpr c17
   subst c17
   replace H:=itF H
   have H':=Aside0.mk H
   clear H
   go_wp2
   go_loopg [5] kj2 (fun kq v5 w'=>∃ (x5_2:Int),v5 = .int .i64 x5_2∧Aside0 (stowageref13_Same.l0 kq x5_2 a0_0 a0_1 l0_2 a1_0 a1_1 l1_2=some r)∧Aside0 (kq≤kj2)∧Aside0 (w'.heap[gb250]? = some (.cells #[.string a0_0,.string a0_1,(.slice A0_2 l0_2.length c0_2)] 30 (0,0)))∧Aside0 (w'.heap[gb251]? = some (.cells #[.string a1_0,.string a1_1,(.slice A1_2 l1_2.length c1_2)] 30 (0,0)))∧Aside0 (Below w.heap.size w w'))
   case atStart=>exact⟨(0),rs,H',⟨Nat.le_refl _⟩,⟨kl⟩,⟨kl⟩,⟨bl⟩⟩
   case round=>
    clear H'
    obtain⟨x5_2,rfl,HA,HK2,BK250,BK251,HB⟩:=hrel
    cases gk with
    | zero=>exact absurd HA.out (by simp [stowageref13_Same.l0])
    | succ k2=>
     have H:=HA.out
     clear HA
     simp only [stowageref13_Same.l0] at H
     replace H:=itO H
     rcases H with⟨c18,H⟩|⟨c18,H⟩
     {
     have c18b0:decide (x5_2<(l0_2.length:Int))=true:=decide_eq_true c18
     clear c18
     replace H:=itO H
     rcases H with⟨c19,H⟩|⟨c19,H⟩
     {
     have c19b0:decide (0≤x5_2)=true:=decide_eq_true c19
     clear c19
     replace H:=itO H
     rcases H with⟨c20,H⟩|⟨c20,H⟩
     {
     have c20b0:decide (x5_2<(l1_2.length:Int))=true:=decide_eq_true c20
     clear c20
     replace H:=bndO H
     obtain⟨t254,A210,H⟩:=H
     have A21:=Aside0.mk A210
     clear A210
     by_cases c22:t254=true
     {
     subst c22
     replace H:=itT H
     have H':=Aside0.mk H
     clear H
     have hnb23:=NB250_251.out
     have hnc23:=NB251_250.out
     obtain⟨_,_,_,_,_,_⟩:=bc3 BK250.out
     try go_wp2
     have n0_:=Aside0.mk (blk_drew BK250.out)
     have n1_:=Aside0.mk (blk_drew BK251.out)
     have n2_:=Aside0.mk (below_drew1 HB.out)
     clear BK250
     clear BK251
     clear HB
     have BK250:=n0_
     have BK251:=n1_
     have HB:=n2_
     clear n0_ n1_ n2_
     have p252:0≤(x5_2:Int):=of_decide_eq_true asm
     have q252:x5_2<(l0_2.length:Int):=of_decide_eq_true asm
     obtain⟨ad252,A252_2,c252_2,e252,hx252_0,hx252_1,hx252_2,hl252_2,hi252_2⟩:=at_T30 HR0_2.out x5_2 p252 q252
     have hw252_2:=hx252_2
     have hw252_1:=hx252_1
     have hw252_0:=hx252_0
     cases e252
     replace hx252_0:=(HB.out.cell (World.block_lt_of_cell? w _ hx252_0)).trans hx252_0
     replace hx252_1:=(HB.out.cell (World.block_lt_of_cell? w _ hx252_1)).trans hx252_1
     replace hx252_2:=(HB.out.cell (World.block_lt_of_cell? w _ hx252_2)).trans hx252_2
     have HR252_2:=Aside0.mk hi252_2
     have HC252_2:=Aside0.mk hl252_2
     clear hi252_2 hl252_2
     replace p252:=eq_true p252
     replace q252:=eq_true q252
     have p253:0≤(x5_2:Int):=of_decide_eq_true asm
     have q253:x5_2<(l1_2.length:Int):=of_decide_eq_true asm
     obtain⟨ad253,A253_2,c253_2,e253,hx253_0,hx253_1,hx253_2,hl253_2,hi253_2⟩:=at_T30 HR1_2.out x5_2 p253 q253
     have hw253_2:=hx253_2
     have hw253_1:=hx253_1
     have hw253_0:=hx253_0
     cases e253
     replace hx253_0:=(HB.out.cell (World.block_lt_of_cell? w _ hx253_0)).trans hx253_0
     replace hx253_1:=(HB.out.cell (World.block_lt_of_cell? w _ hx253_1)).trans hx253_1
     replace hx253_2:=(HB.out.cell (World.block_lt_of_cell? w _ hx253_2)).trans hx253_2
     have HR253_2:=Aside0.mk hi253_2
     have HC253_2:=Aside0.mk hl253_2
     clear hi253_2 hl253_2
     replace p253:=eq_true p253
     replace q253:=eq_true q253
     refine start_ (n:=12) (S:=fun w'=>w'.cell? ⟨gb250,0,none⟩=some (.string a0_0)∧w'.cell? ⟨gb250,1,none⟩=some (.string a0_1)∧w'.cell? ⟨gb250,2,none⟩=some (.slice (some ad252) l0_2.length c0_2)∧w'.cell? ⟨gb251,0,none⟩=some (.string a1_0)∧w'.cell? ⟨gb251,1,none⟩=some (.string a1_1)∧w'.cell? ⟨gb251,2,none⟩=some (.slice (some ad253) l1_2.length c1_2)∧w'.cell? (ad252.add ((x5_2).toNat*3))=some (.string ((rd_T30 l0_2 x5_2).f0))∧w'.cell? ⟨(ad252.add ((x5_2).toNat*3)).block,(ad252.add ((x5_2).toNat*3)).off+1,none⟩=some (.string ((rd_T30 l0_2 x5_2).f1))∧w'.cell? ⟨(ad252.add ((x5_2).toNat*3)).block,(ad252.add ((x5_2).toNat*3)).off+2,none⟩=some (.slice A252_2 ((rd_T30 l0_2 x5_2).f2).length c252_2)∧w'.cell? (ad253.add ((x5_2).toNat*3))=some (.string ((rd_T30 l1_2 x5_2).f0))∧w'.cell? ⟨(ad253.add ((x5_2).toNat*3)).block,(ad253.add ((x5_2).toNat*3)).off+1,none⟩=some (.string ((rd_T30 l1_2 x5_2).f1))∧w'.cell? ⟨(ad253.add ((x5_2).toNat*3)).block,(ad253.add ((x5_2).toNat*3)).off+2,none⟩=some (.slice A253_2 ((rd_T30 l1_2 x5_2).f2).length c253_2)) (ds:=[]) #[F,F,F,F,F,F,F,F,F,F,F,F] kr rfl rfl ⟨(blk_cell BK250.out 0).trans rfl,(blk_cell BK250.out 1).trans rfl,(blk_cell BK250.out 2).trans rfl,(blk_cell BK251.out 0).trans rfl,(blk_cell BK251.out 1).trans rfl,(blk_cell BK251.out 2).trans rfl,((HB.out.cell (World.block_lt_of_cell? w _ hw252_0)).trans hw252_0),((HB.out.cell (World.block_lt_of_cell? w _ hw252_1)).trans hw252_1),((HB.out.cell (World.block_lt_of_cell? w _ hw252_2)).trans hw252_2),((HB.out.cell (World.block_lt_of_cell? w _ hw253_0)).trans hw253_0),((HB.out.cell (World.block_lt_of_cell? w _ hw253_1)).trans hw253_1),((HB.out.cell (World.block_lt_of_cell? w _ hw253_2)).trans hw253_2)⟩ (fun hHeld=>?_);refine with_tabW stowageref13_Same.tab6 stowageref13_Same.bits6 (fun HT_ HW_=>?_)
     generalize wr.drew=w25 at BK250 BK251 HB HR252_2 HR253_2 hx252_0 hx252_1 hx252_2 hx253_0 hx253_1 hx253_2 hHeld ⊢
     refine pure_ (i:=0) (N:=some 34) (v:=?_) (a':=?_) #[T,F,F,F,F,F,F,F,F,F,F,F] rfl rfl (any_of HT_.out kr) (fun _ _ _ h=>h) (Or.inl ⟨by rfl,?_⟩) ?_ ?_
     rotate_left
     {
     intro w'
     go_simp
     with_reducible rfl
     }
     rotate_left
     {
     simp only [Act.put,l1,l2,l3,i64_w,i32_w]
     rfl
     }
     refine pure_ (i:=2) (N:=some 36) (v:=?_) (a':=?_) #[T,F,T,F,F,F,F,F,F,F,F,F] rfl rfl (any_of HT_.out kr) (fun _ _ _ h=>h) (Or.inl ⟨by rfl,?_⟩) ?_ ?_
     rotate_left
     {
     intro w'
     go_simp
     with_reducible rfl
     }
     rotate_left
     {
     simp only [Act.put,l1,l2,l3,i64_w,i32_w]
     rfl
     }
     refine pure_ (i:=5) (N:=some 39) (v:=?_) (a':=?_) #[T,F,T,F,F,T,F,F,F,F,F,F] rfl rfl (any_of HT_.out kr) (fun _ _ _ h=>h) (Or.inl ⟨by rfl,?_⟩) ?_ ?_
     rotate_left
     {
     intro w'
     go_simp
     with_reducible rfl
     }
     rotate_left
     {
     simp only [Act.put,l1,l2,l3,i64_w,i32_w]
     rfl
     }
     refine pure_ (i:=7) (N:=some 41) (v:=?_) (a':=?_) #[T,F,T,F,F,T,F,T,F,F,F,F] rfl rfl (any_of HT_.out kr) (fun _ _ _ h=>h) (Or.inl ⟨by rfl,?_⟩) ?_ ?_
     rotate_left
     {
     intro w'
     go_simp
     with_reducible rfl
     }
     rotate_left
     {
     simp only [Act.put,l1,l2,l3,i64_w,i32_w]
     rfl
     }
     refine take_ (i:=1) (N:=some 35) (v:=?_) (a':=?_) #[T,T,T,F,F,T,F,T,F,F,F,F] rfl rfl (take_ofW HT_.out HW_.out kr) (fun _ _ _ h=>h) (Or.inl ⟨by rfl,?_⟩) hHeld ?_ ?_
     rotate_left
     {
     rintro w' ⟨s0,s1,s2,s3,s4,s5,s6,s7,s8,s9,s10,s11⟩
     go_simp
     with_reducible rfl
     }
     rotate_left
     {
     simp only [Act.put,l1,l2,l3,i64_w,i32_w]
     rfl
     }
     refine pure_ (i:=3) (N:=some 37) (v:=?_) (a':=?_) #[T,T,T,T,F,T,F,T,F,F,F,F] rfl rfl (any_of HT_.out kr) (fun _ _ _ h=>h) (Or.inl ⟨by rfl,?_⟩) ?_ ?_
     rotate_left
     {
     intro w'
     go_simp
     with_reducible rfl
     }
     rotate_left
     {
     simp only [Act.put,l1,l2,l3,i64_w,i32_w]
     rfl
     }
     refine take_ (i:=4) (N:=some 38) (v:=?_) (a':=?_) #[T,T,T,T,T,T,F,T,F,F,F,F] rfl rfl (take_ofW HT_.out HW_.out kr) (fun _ _ _ h=>h) (Or.inl ⟨by rfl,?_⟩) hHeld ?_ ?_
     rotate_left
     {
     rintro w' ⟨s0,s1,s2,s3,s4,s5,s6,s7,s8,s9,s10,s11⟩
     go_simp
     with_reducible rfl
     }
     rotate_left
     {
     simp only [Act.put,l1,l2,l3,i64_w,i32_w]
     rfl
     }
     refine take_ (i:=6) (N:=some 40) (v:=?_) (a':=?_) #[T,T,T,T,T,T,T,T,F,F,F,F] rfl rfl (take_ofW HT_.out HW_.out kr) (fun _ _ _ h=>h) (Or.inl ⟨by rfl,?_⟩) hHeld ?_ ?_
     rotate_left
     {
     rintro w' ⟨s0,s1,s2,s3,s4,s5,s6,s7,s8,s9,s10,s11⟩
     go_simp
     with_reducible rfl
     }
     rotate_left
     {
     simp only [Act.put,l1,l2,l3,i64_w,i32_w]
     rfl
     }
     refine pure_ (i:=8) (N:=some 42) (v:=?_) (a':=?_) #[T,T,T,T,T,T,T,T,T,F,F,F] rfl rfl (any_of HT_.out kr) (fun _ _ _ h=>h) (Or.inl ⟨by rfl,?_⟩) ?_ ?_
     rotate_left
     {
     intro w'
     go_simp
     with_reducible rfl
     }
     rotate_left
     {
     simp only [Act.put,l1,l2,l3,i64_w,i32_w]
     rfl
     }
     refine take_ (i:=9) (N:=some 43) (v:=?_) (a':=?_) #[T,T,T,T,T,T,T,T,T,T,F,F] rfl rfl (take_ofW HT_.out HW_.out kr) (fun _ _ _ h=>h) (Or.inl ⟨by rfl,?_⟩) hHeld ?_ ?_
     rotate_left
     {
     rintro w' ⟨s0,s1,s2,s3,s4,s5,s6,s7,s8,s9,s10,s11⟩
     go_simp
     with_reducible rfl
     }
     rotate_left
     {
     simp only [Act.put,l1,l2,l3,i64_w,i32_w]
     rfl
     }
     refine one_ (i:=10) (N:=some 44) #[T,T,T,T,T,T,T,T,T,T,T,F] rfl rfl (one_of HT_.out kr) (by decide) (fun K hK=>?_)
     refine goes_ Tryd.func12 kr rfl #[.agg #[.string ((rd_T30 l0_2 x5_2).f0),.string ((rd_T30 l0_2 x5_2).f1),.slice A252_2 ((rd_T30 l0_2 x5_2).f2).length c252_2],.agg #[.string ((rd_T30 l1_2 x5_2).f0),.string ((rd_T30 l1_2 x5_2).f1),.slice A253_2 ((rd_T30 l1_2 x5_2).f2).length c253_2]] (by rfl) rfl rfl am ?_
     with_reducible refine(ih k2 (by have:=HJ2.out;have:=HK2.out;omega) ((rd_T30 l0_2 x5_2).f0) ((rd_T30 l0_2 x5_2).f1) _ _ ((rd_T30 l0_2 x5_2).f2) ((rd_T30 l1_2 x5_2).f0) ((rd_T30 l1_2 x5_2).f1) _ _ ((rd_T30 l1_2 x5_2).f2) true _ ?side1 ?side2 ?side3 ?side4 A21.out).mono ?_
     (case side1=>repeat (first|exact(Kd.C_below HR252_2.out HB.out)|(with_reducible refine Kd.C_alloc ?_ _)|(with_reducible refine Kd.C_drewN ?_ _)|(with_reducible refine Kd.C_drew ?_)))
     (case side2=>exact HC252_2.out)
     (case side3=>repeat (first|exact(Kd.C_below HR253_2.out HB.out)|(with_reducible refine Kd.C_alloc ?_ _)|(with_reducible refine Kd.C_drewN ?_ _)|(with_reducible refine Kd.C_drew ?_)))
     (case side4=>exact HC253_2.out)
     rintro e w26 ⟨rfl,hb⟩
     refine⟨_,rfl,?_⟩
     have n0_:=Aside0.mk (blk_below (g:=gb250) (o:=.cells #[.string a0_0,.string a0_1,.slice (some ad252) l0_2.length c0_2] 30 (0,0)) kl hb)
     have n1_:=Aside0.mk (blk_below (g:=gb251) (o:=.cells #[.string a1_0,.string a1_1,.slice (some ad253) l1_2.length c1_2] 30 (0,0)) kl hb)
     have n2_:=Aside0.mk (below_step bl hb)
     clear BK250
     clear BK251
     clear HB
     have BK250:=n0_
     have BK251:=n1_
     have HB:=n2_
     clear n0_ n1_ n2_
     (try clear hb)
     (try clear hb2)
     (try clear hk)
     (try clear hi)
     refine hK.out _ _ ⟨(blk_cell BK250.out 0).trans rfl,(blk_cell BK250.out 1).trans rfl,(blk_cell BK250.out 2).trans rfl,(blk_cell BK251.out 0).trans rfl,(blk_cell BK251.out 1).trans rfl,(blk_cell BK251.out 2).trans rfl,((HB.out.cell (World.block_lt_of_cell? w _ hw252_0)).trans hw252_0),((HB.out.cell (World.block_lt_of_cell? w _ hw252_1)).trans hw252_1),((HB.out.cell (World.block_lt_of_cell? w _ hw252_2)).trans hw252_2),((HB.out.cell (World.block_lt_of_cell? w _ hw253_0)).trans hw253_0),((HB.out.cell (World.block_lt_of_cell? w _ hw253_1)).trans hw253_1),((HB.out.cell (World.block_lt_of_cell? w _ hw253_2)).trans hw253_2)⟩ (fun hHeld=>?_)
     clear hK K
     refine norm_ (a':=?_) ?_ ?_
     rotate_left
     {
     show Act.put _ (some 44) _=_
     simp only [Act.put,l1,l2,l3,i64_w,i32_w]
     rfl
     }
     refine pure_ (i:=11) (N:=some 45) (v:=?_) (a':=?_) #[T,T,T,T,T,T,T,T,T,T,T,T] rfl rfl (any_of HT_.out kr) (fun _ _ _ h=>h) (Or.inl ⟨by rfl,?_⟩) ?_ ?_
     rotate_left
     {
     intro w'
     go_simp
     with_reducible rfl
     }
     rotate_left
     {
     simp only [Act.put,l1,l2,l3,i64_w,i32_w]
     rfl
     }
     refine done_ (done_of HT_.out kr) ?_
     try go_wp2
     go_roundg k2
     case measure=>have:=HJ2.out;have:=HK2.out;omega
     case rel=>exact⟨(wrap64 (x5_2+1)),rs,H',⟨by have:=HJ2.out;have:=HK2.out;omega⟩,⟨kl⟩,⟨kl⟩,⟨bl⟩⟩
     }
     {
     replace c22:=Bool.eq_false_iff.mpr c22
     subst c22
     replace H:=itF H
     obtain rfl:=Option.some.inj H
     have hnb27:=NB250_251.out
     have hnc27:=NB251_250.out
     obtain⟨_,_,_,_,_,_⟩:=bc3 BK250.out
     try go_wp2
     have n0_:=Aside0.mk (blk_drew BK250.out)
     have n1_:=Aside0.mk (blk_drew BK251.out)
     have n2_:=Aside0.mk (below_drew1 HB.out)
     clear BK250
     clear BK251
     clear HB
     have BK250:=n0_
     have BK251:=n1_
     have HB:=n2_
     clear n0_ n1_ n2_
     have p252:0≤(x5_2:Int):=of_decide_eq_true asm
     have q252:x5_2<(l0_2.length:Int):=of_decide_eq_true asm
     obtain⟨ad252,A252_2,c252_2,e252,hx252_0,hx252_1,hx252_2,hl252_2,hi252_2⟩:=at_T30 HR0_2.out x5_2 p252 q252
     have hw252_2:=hx252_2
     have hw252_1:=hx252_1
     have hw252_0:=hx252_0
     cases e252
     replace hx252_0:=(HB.out.cell (World.block_lt_of_cell? w _ hx252_0)).trans hx252_0
     replace hx252_1:=(HB.out.cell (World.block_lt_of_cell? w _ hx252_1)).trans hx252_1
     replace hx252_2:=(HB.out.cell (World.block_lt_of_cell? w _ hx252_2)).trans hx252_2
     have HR252_2:=Aside0.mk hi252_2
     have HC252_2:=Aside0.mk hl252_2
     clear hi252_2 hl252_2
     replace p252:=eq_true p252
     replace q252:=eq_true q252
     have p253:0≤(x5_2:Int):=of_decide_eq_true asm
     have q253:x5_2<(l1_2.length:Int):=of_decide_eq_true asm
     obtain⟨ad253,A253_2,c253_2,e253,hx253_0,hx253_1,hx253_2,hl253_2,hi253_2⟩:=at_T30 HR1_2.out x5_2 p253 q253
     have hw253_2:=hx253_2
     have hw253_1:=hx253_1
     have hw253_0:=hx253_0
     cases e253
     replace hx253_0:=(HB.out.cell (World.block_lt_of_cell? w _ hx253_0)).trans hx253_0
     replace hx253_1:=(HB.out.cell (World.block_lt_of_cell? w _ hx253_1)).trans hx253_1
     replace hx253_2:=(HB.out.cell (World.block_lt_of_cell? w _ hx253_2)).trans hx253_2
     have HR253_2:=Aside0.mk hi253_2
     have HC253_2:=Aside0.mk hl253_2
     clear hi253_2 hl253_2
     replace p253:=eq_true p253
     replace q253:=eq_true q253
     refine start_ (n:=12) (S:=fun w'=>w'.cell? ⟨gb250,0,none⟩=some (.string a0_0)∧w'.cell? ⟨gb250,1,none⟩=some (.string a0_1)∧w'.cell? ⟨gb250,2,none⟩=some (.slice (some ad252) l0_2.length c0_2)∧w'.cell? ⟨gb251,0,none⟩=some (.string a1_0)∧w'.cell? ⟨gb251,1,none⟩=some (.string a1_1)∧w'.cell? ⟨gb251,2,none⟩=some (.slice (some ad253) l1_2.length c1_2)∧w'.cell? (ad252.add ((x5_2).toNat*3))=some (.string ((rd_T30 l0_2 x5_2).f0))∧w'.cell? ⟨(ad252.add ((x5_2).toNat*3)).block,(ad252.add ((x5_2).toNat*3)).off+1,none⟩=some (.string ((rd_T30 l0_2 x5_2).f1))∧w'.cell? ⟨(ad252.add ((x5_2).toNat*3)).block,(ad252.add ((x5_2).toNat*3)).off+2,none⟩=some (.slice A252_2 ((rd_T30 l0_2 x5_2).f2).length c252_2)∧w'.cell? (ad253.add ((x5_2).toNat*3))=some (.string ((rd_T30 l1_2 x5_2).f0))∧w'.cell? ⟨(ad253.add ((x5_2).toNat*3)).block,(ad253.add ((x5_2).toNat*3)).off+1,none⟩=some (.string ((rd_T30 l1_2 x5_2).f1))∧w'.cell? ⟨(ad253.add ((x5_2).toNat*3)).block,(ad253.add ((x5_2).toNat*3)).off+2,none⟩=some (.slice A253_2 ((rd_T30 l1_2 x5_2).f2).length c253_2)) (ds:=[]) #[F,F,F,F,F,F,F,F,F,F,F,F] kr rfl rfl ⟨(blk_cell BK250.out 0).trans rfl,(blk_cell BK250.out 1).trans rfl,(blk_cell BK250.out 2).trans rfl,(blk_cell BK251.out 0).trans rfl,(blk_cell BK251.out 1).trans rfl,(blk_cell BK251.out 2).trans rfl,((HB.out.cell (World.block_lt_of_cell? w _ hw252_0)).trans hw252_0),((HB.out.cell (World.block_lt_of_cell? w _ hw252_1)).trans hw252_1),((HB.out.cell (World.block_lt_of_cell? w _ hw252_2)).trans hw252_2),((HB.out.cell (World.block_lt_of_cell? w _ hw253_0)).trans hw253_0),((HB.out.cell (World.block_lt_of_cell? w _ hw253_1)).trans hw253_1),((HB.out.cell (World.block_lt_of_cell? w _ hw253_2)).trans hw253_2)⟩ (fun hHeld=>?_);refine with_tabW stowageref13_Same.tab6 stowageref13_Same.bits6 (fun HT_ HW_=>?_)
     generalize wr.drew=w29 at BK250 BK251 HB HR252_2 HR253_2 hx252_0 hx252_1 hx252_2 hx253_0 hx253_1 hx253_2 hHeld ⊢
     refine pure_ (i:=0) (N:=some 34) (v:=?_) (a':=?_) #[T,F,F,F,F,F,F,F,F,F,F,F] rfl rfl (any_of HT_.out kr) (fun _ _ _ h=>h) (Or.inl ⟨by rfl,?_⟩) ?_ ?_
     rotate_left
     {
     intro w'
     go_simp
     with_reducible rfl
     }
     rotate_left
     {
     simp only [Act.put,l1,l2,l3,i64_w,i32_w]
     rfl
     }
     refine pure_ (i:=2) (N:=some 36) (v:=?_) (a':=?_) #[T,F,T,F,F,F,F,F,F,F,F,F] rfl rfl (any_of HT_.out kr) (fun _ _ _ h=>h) (Or.inl ⟨by rfl,?_⟩) ?_ ?_
     rotate_left
     {
     intro w'
     go_simp
     with_reducible rfl
     }
     rotate_left
     {
     simp only [Act.put,l1,l2,l3,i64_w,i32_w]
     rfl
     }
     refine pure_ (i:=5) (N:=some 39) (v:=?_) (a':=?_) #[T,F,T,F,F,T,F,F,F,F,F,F] rfl rfl (any_of HT_.out kr) (fun _ _ _ h=>h) (Or.inl ⟨by rfl,?_⟩) ?_ ?_
     rotate_left
     {
     intro w'
     go_simp
     with_reducible rfl
     }
     rotate_left
     {
     simp only [Act.put,l1,l2,l3,i64_w,i32_w]
     rfl
     }
     refine pure_ (i:=7) (N:=some 41) (v:=?_) (a':=?_) #[T,F,T,F,F,T,F,T,F,F,F,F] rfl rfl (any_of HT_.out kr) (fun _ _ _ h=>h) (Or.inl ⟨by rfl,?_⟩) ?_ ?_
     rotate_left
     {
     intro w'
     go_simp
     with_reducible rfl
     }
     rotate_left
     {
     simp only [Act.put,l1,l2,l3,i64_w,i32_w]
     rfl
     }
     refine take_ (i:=1) (N:=some 35) (v:=?_) (a':=?_) #[T,T,T,F,F,T,F,T,F,F,F,F] rfl rfl (take_ofW HT_.out HW_.out kr) (fun _ _ _ h=>h) (Or.inl ⟨by rfl,?_⟩) hHeld ?_ ?_
     rotate_left
     {
     rintro w' ⟨s0,s1,s2,s3,s4,s5,s6,s7,s8,s9,s10,s11⟩
     go_simp
     with_reducible rfl
     }
     rotate_left
     {
     simp only [Act.put,l1,l2,l3,i64_w,i32_w]
     rfl
     }
     refine pure_ (i:=3) (N:=some 37) (v:=?_) (a':=?_) #[T,T,T,T,F,T,F,T,F,F,F,F] rfl rfl (any_of HT_.out kr) (fun _ _ _ h=>h) (Or.inl ⟨by rfl,?_⟩) ?_ ?_
     rotate_left
     {
     intro w'
     go_simp
     with_reducible rfl
     }
     rotate_left
     {
     simp only [Act.put,l1,l2,l3,i64_w,i32_w]
     rfl
     }
     refine take_ (i:=4) (N:=some 38) (v:=?_) (a':=?_) #[T,T,T,T,T,T,F,T,F,F,F,F] rfl rfl (take_ofW HT_.out HW_.out kr) (fun _ _ _ h=>h) (Or.inl ⟨by rfl,?_⟩) hHeld ?_ ?_
     rotate_left
     {
     rintro w' ⟨s0,s1,s2,s3,s4,s5,s6,s7,s8,s9,s10,s11⟩
     go_simp
     with_reducible rfl
     }
     rotate_left
     {
     simp only [Act.put,l1,l2,l3,i64_w,i32_w]
     rfl
     }
     refine take_ (i:=6) (N:=some 40) (v:=?_) (a':=?_) #[T,T,T,T,T,T,T,T,F,F,F,F] rfl rfl (take_ofW HT_.out HW_.out kr) (fun _ _ _ h=>h) (Or.inl ⟨by rfl,?_⟩) hHeld ?_ ?_
     rotate_left
     {
     rintro w' ⟨s0,s1,s2,s3,s4,s5,s6,s7,s8,s9,s10,s11⟩
     go_simp
     with_reducible rfl
     }
     rotate_left
     {
     simp only [Act.put,l1,l2,l3,i64_w,i32_w]
     rfl
     }
     refine pure_ (i:=8) (N:=some 42) (v:=?_) (a':=?_) #[T,T,T,T,T,T,T,T,T,F,F,F] rfl rfl (any_of HT_.out kr) (fun _ _ _ h=>h) (Or.inl ⟨by rfl,?_⟩) ?_ ?_
     rotate_left
     {
     intro w'
     go_simp
     with_reducible rfl
     }
     rotate_left
     {
     simp only [Act.put,l1,l2,l3,i64_w,i32_w]
     rfl
     }
     refine take_ (i:=9) (N:=some 43) (v:=?_) (a':=?_) #[T,T,T,T,T,T,T,T,T,T,F,F] rfl rfl (take_ofW HT_.out HW_.out kr) (fun _ _ _ h=>h) (Or.inl ⟨by rfl,?_⟩) hHeld ?_ ?_
     rotate_left
     {
     rintro w' ⟨s0,s1,s2,s3,s4,s5,s6,s7,s8,s9,s10,s11⟩
     go_simp
     with_reducible rfl
     }
     rotate_left
     {
     simp only [Act.put,l1,l2,l3,i64_w,i32_w]
     rfl
     }
     refine one_ (i:=10) (N:=some 44) #[T,T,T,T,T,T,T,T,T,T,T,F] rfl rfl (one_of HT_.out kr) (by decide) (fun K hK=>?_)
     refine goes_ Tryd.func12 kr rfl #[.agg #[.string ((rd_T30 l0_2 x5_2).f0),.string ((rd_T30 l0_2 x5_2).f1),.slice A252_2 ((rd_T30 l0_2 x5_2).f2).length c252_2],.agg #[.string ((rd_T30 l1_2 x5_2).f0),.string ((rd_T30 l1_2 x5_2).f1),.slice A253_2 ((rd_T30 l1_2 x5_2).f2).length c253_2]] (by rfl) rfl rfl am ?_
     with_reducible refine(ih k2 (by have:=HJ2.out;have:=HK2.out;omega) ((rd_T30 l0_2 x5_2).f0) ((rd_T30 l0_2 x5_2).f1) _ _ ((rd_T30 l0_2 x5_2).f2) ((rd_T30 l1_2 x5_2).f0) ((rd_T30 l1_2 x5_2).f1) _ _ ((rd_T30 l1_2 x5_2).f2) false _ ?side1 ?side2 ?side3 ?side4 A21.out).mono ?_
     (case side1=>repeat (first|exact(Kd.C_below HR252_2.out HB.out)|(with_reducible refine Kd.C_alloc ?_ _)|(with_reducible refine Kd.C_drewN ?_ _)|(with_reducible refine Kd.C_drew ?_)))
     (case side2=>exact HC252_2.out)
     (case side3=>repeat (first|exact(Kd.C_below HR253_2.out HB.out)|(with_reducible refine Kd.C_alloc ?_ _)|(with_reducible refine Kd.C_drewN ?_ _)|(with_reducible refine Kd.C_drew ?_)))
     (case side4=>exact HC253_2.out)
     rintro e w30 ⟨rfl,hb⟩
     refine⟨_,rfl,?_⟩
     have n0_:=Aside0.mk (blk_below (g:=gb250) (o:=.cells #[.string a0_0,.string a0_1,.slice (some ad252) l0_2.length c0_2] 30 (0,0)) kl hb)
     have n1_:=Aside0.mk (blk_below (g:=gb251) (o:=.cells #[.string a1_0,.string a1_1,.slice (some ad253) l1_2.length c1_2] 30 (0,0)) kl hb)
     have n2_:=Aside0.mk (below_step bl hb)
     clear BK250
     clear BK251
     clear HB
     have BK250:=n0_
     have BK251:=n1_
     have HB:=n2_
     clear n0_ n1_ n2_
     (try clear hb)
     (try clear hb2)
     (try clear hk)
     (try clear hi)
     refine hK.out _ _ ⟨(blk_cell BK250.out 0).trans rfl,(blk_cell BK250.out 1).trans rfl,(blk_cell BK250.out 2).trans rfl,(blk_cell BK251.out 0).trans rfl,(blk_cell BK251.out 1).trans rfl,(blk_cell BK251.out 2).trans rfl,((HB.out.cell (World.block_lt_of_cell? w _ hw252_0)).trans hw252_0),((HB.out.cell (World.block_lt_of_cell? w _ hw252_1)).trans hw252_1),((HB.out.cell (World.block_lt_of_cell? w _ hw252_2)).trans hw252_2),((HB.out.cell (World.block_lt_of_cell? w _ hw253_0)).trans hw253_0),((HB.out.cell (World.block_lt_of_cell? w _ hw253_1)).trans hw253_1),((HB.out.cell (World.block_lt_of_cell? w _ hw253_2)).trans hw253_2)⟩ (fun hHeld=>?_)
     clear hK K
     refine norm_ (a':=?_) ?_ ?_
     rotate_left
     {
     show Act.put _ (some 44) _=_
     simp only [Act.put,l1,l2,l3,i64_w,i32_w]
     rfl
     }
     refine pure_ (i:=11) (N:=some 45) (v:=?_) (a':=?_) #[T,T,T,T,T,T,T,T,T,T,T,T] rfl rfl (any_of HT_.out kr) (fun _ _ _ h=>h) (Or.inl ⟨by rfl,?_⟩) ?_ ?_
     rotate_left
     {
     intro w'
     go_simp
     with_reducible rfl
     }
     rotate_left
     {
     simp only [Act.put,l1,l2,l3,i64_w,i32_w]
     rfl
     }
     refine done_ (done_of HT_.out kr) ?_
     try go_wp2
     go_ret
     exact⟨ew,bl⟩
     }
     }
     ·exact absurd H (by simp)
     }
     ·exact absurd H (by simp)
     }
     {
     have c18b0:decide (x5_2<(l0_2.length:Int))=false:=decide_eq_false c18
     clear c18
     obtain rfl:=Option.some.inj H
     have hnb31:=NB250_251.out
     have hnc31:=NB251_250.out
     obtain⟨_,_,_,_,_,_⟩:=bc3 BK250.out
     go_wp2
     go_ret
     exact⟨ew,bl⟩
     }
   }
mutual
def stowagelaw13_To.l0:Nat→Int→ByteArray→ByteArray→List (S24)→ByteArray→ByteArray→List (S30)→Option (ByteArray×ByteArray×(List (S30)))
  | 0,_,_,_,_,_,_,_=>none
  | k+1,x4,x256000,x256001,x256002,x258000,x258001,x258002=>if x4<(x256002.length:Int) then(if 0≤x4 then((stowagelaw13_To.f k ((rd_T24 x256002 x4).f0) ((rd_T24 x256002 x4).f1) ((rd_T24 x256002 x4).f2)).bind fun bt259=>(if x258002.length<2513169434916 then(stowagelaw13_To.l0 k (wrap64 (x4+1)) x256000 x256001 x256002 x258000 x258001 (x258002 ++ [(⟨bt259.1,bt259.2.1,bt259.2.2⟩ : S30)])) else(none))) else(none)) else(some (x258000,x258001,x258002))
def stowagelaw13_To.f:Nat→ByteArray→ByteArray→List (S24)→Option (ByteArray×ByteArray×(List (S30)))
  | 0,_,_,_=>none
  | k+1,a0_0,a0_1,l0_2=>stowagelaw13_To.l0 k 0 a0_0 a0_1 l0_2 a0_0 a0_1 ([]:List (S30))
end
theorem stowagelaw13_To.mono_l:∀ k,(∀ y0 y1 y2,LeO (stowagelaw13_To.f k y0 y1 y2) (stowagelaw13_To.f (k+1) y0 y1 y2))∧(∀ y0 y1 y2 y3 y4 y5 y6,LeO (stowagelaw13_To.l0 k y0 y1 y2 y3 y4 y5 y6) (stowagelaw13_To.l0 (k+1) y0 y1 y2 y3 y4 y5 y6))
  | 0=>⟨fun _ _ _ r h=>by simp [stowagelaw13_To.f] at h,fun _ _ _ _ _ _ _ r h=>by simp [stowagelaw13_To.l0] at h⟩
  | k+1=>by
    obtain⟨ih0,ih1⟩:=stowagelaw13_To.mono_l k
    refine⟨?_,?_⟩
    · intro y0 y1 y2
      unfold stowagelaw13_To.f
      with_reducible repeat' first|exact ih0 _ _ _|exact ih1 _ _ _ _ _ _ _|exact LeO.refl _|exact LeO.none _|refine LeO.ite ?_ ?_|refine LeO.bind ?_ (fun _=>?_)
    · intro y0 y1 y2 y3 y4 y5 y6
      unfold stowagelaw13_To.l0
      with_reducible repeat' first|exact ih0 _ _ _|exact ih1 _ _ _ _ _ _ _|exact LeO.refl _|exact LeO.none _|refine LeO.ite ?_ ?_|refine LeO.bind ?_ (fun _=>?_)
theorem stowagelaw13_To.mono:∀ a0 a1 a2 k,LeO (stowagelaw13_To.f k a0 a1 a2) (stowagelaw13_To.f (k+1) a0 a1 a2):=by
 intro a0 a1 a2 k
 obtain⟨ih0,ih1⟩:=stowagelaw13_To.mono_l k
 exact ih0 a0 a1 a2
def stowagelaw13_To.T5:Bool×List (List Nat×List Nat):=(true,[([],[]),([0],[0]),([],[]),([2],[2]),([],[]),([3,4],[3,4]),([5],[5]),([6],[6]),([7],[7]),([1,8,7],[1,8]),([0,1,2,3,4,5,6,7,8,9],[]),([10,9,9,0,1,2,3,4,5,6,7,8,9],[9,10])])
def stowagelaw13_To.B5:List Nat:=[0,1,0,4,0,28,60,124,252,511,1023,2047]
theorem stowagelaw13_To.tab5:rtab .any (opsOf Tryd.f13 5)=stowagelaw13_To.T5:=by kernel_rfl
theorem stowagelaw13_To.bits5:waitsOk stowagelaw13_To.T5.2 stowagelaw13_To.B5=true:=by kernel_rfl
theorem stowagelaw13_To.calls (k:Nat):∀ (a0_0:ByteArray) (a0_1:ByteArray) (A0_2:Option Addr) (c0_2:Nat) (l0_2:List (S24)) (r1:ByteArray) (r2:ByteArray) (r3:List (S30)) (w:World) (hr0_2:Kd.C k24 w A0_2 l0_2.length l0_2) (hc0_2:l0_2.length≤c0_2) (h:stowagelaw13_To.f k a0_0 a0_1 l0_2=some (r1,r2,r3)),
    Calls Tryd.prog 13 #[.agg #[.string a0_0,.string a0_1,.slice A0_2 l0_2.length c0_2]] w fun e w'=>∃ v2_:Value,e = .returned (.agg #[.string r1,.string r2,v2_])∧Kd.R k30 30 w' w.heap.size (fun _=>True) v2_ r3∧Below w.heap.size w w':=by
 induction k using Nat.strongRecOn with
 | _ k ih=>
 intro a0_0 a0_1 A0_2 c0_2 l0_2 r1 r2 r3 w hr0_2 hc0_2 h
 cases k with
 | zero=>exact absurd h (by simp [stowagelaw13_To.f])
 | succ k=>
 simp only [stowagelaw13_To.f] at h
 have hu24:=Tryd.underlying24
 have hu30:=Tryd.underlying30
 have HR0_2:=Aside0.mk hr0_2
 have HC0_2:=Aside0.mk hc0_2
 clear hr0_2 hc0_2
 have HB:=Aside0.mk (Below.refl w.heap.size w)
 have H:(stowagelaw13_To.l0 k 0 a0_0 a0_1 l0_2 a0_0 a0_1 ([]:List (S30)))=some (r1,r2,r3):=h
 clear h
 have H':=Aside0.mk H
 clear H
 go_enter Tryd.func13,Tryd.ntmps13
 go_wp2_with (first|((with_reducible refine gate_dst (N:=1) rfl ?_);refine box_event ?hg (N:=1) ?hd (cs:=#[.string a0_0,.string a0_1,.slice A0_2 l0_2.length c0_2]) (t:=24) ?hr ?_;(case hd=>rfl);(case hg=>rfl);(case hr=>first|(go_simp;done)|(go_simp;rfl));intro gb255 hg w2 hbox hb;have n0_:=Aside0.mk (below_step bl hb);have n1_:=Aside0.mk (hbox);have n2_:=Aside0.mk ((by rw [hg];exact(below_size bl):w.heap.size≤gb255));have n3_:=Aside0.mk ((by rw [hg];exact(below_size bl):w.heap.size≤gb255));clear HB;have HB:=n0_;have BK255:=n1_;have GW255:=n2_;have GE255:=n3_;clear n0_ n1_ n2_ n3_;clear hb hbox hg)|((with_reducible refine gate_dst (N:=2) rfl ?_);refine box_event ?hg (N:=2) ?hd (cs:=#[.string (⟨#[]⟩ : ByteArray),.string (⟨#[]⟩ : ByteArray),.slice none 0 0]) (t:=30) ?hr ?_;(case hd=>rfl);(case hg=>rfl);(case hr=>first|(go_simp;done)|(go_simp;rfl));intro gb256 hg w3 hbox hb;have n0_:=Aside0.mk (blk_below (g:=gb255) (o:=.cells #[.string a0_0,.string a0_1,.slice A0_2 l0_2.length c0_2] 24 (0,0)) kl hb);have n1_:=Aside0.mk (below_step bl hb);have n2_:=Aside0.mk (hbox);have n3_:=Aside0.mk ((by rw [hg];exact(below_size bl):w.heap.size≤gb256));have n4_:=Aside0.mk ((by rw [hg];exact(below_size bl):w.heap.size≤gb256));have n5_:=Aside0.mk ((by rw [hg];exact Nat.ne_of_lt (blk_lt (g:=gb255) (o:=.cells #[.string a0_0,.string a0_1,.slice A0_2 l0_2.length c0_2] 24 (0,0)) kl):gb255≠gb256));have n6_:=Aside0.mk ((by rw [hg];exact Nat.ne_of_gt (blk_lt (g:=gb255) (o:=.cells #[.string a0_0,.string a0_1,.slice A0_2 l0_2.length c0_2] 24 (0,0)) kl):gb256≠gb255));clear BK255;clear HB;have BK255:=n0_;have HB:=n1_;have BK256:=n2_;have GW256:=n3_;have GE256:=n4_;have NB255_256:=n5_;have NB256_255:=n6_;clear n0_ n1_ n2_ n3_ n4_ n5_ n6_;clear hb hbox hg;have hnb4:=NB255_256.out;have hnc4:=NB256_255.out;obtain⟨_,_,_,_,_,_⟩:=bc3 BK255.out)|((with_reducible refine gate_dst (N:=3) rfl ?_);refine box_event ?hg (N:=3) ?hd (cs:=#[.string (⟨#[]⟩ : ByteArray),.string (⟨#[]⟩ : ByteArray),.slice none 0 0]) (t:=30) ?hr ?_;(case hd=>rfl);(case hg=>rfl);(case hr=>first|(go_simp;done)|(go_simp;rfl));intro gb257 hg w6 hbox hb;have n0_:=Aside0.mk (blk_below (g:=gb255) (o:=.cells #[.string a0_0,.string a0_1,.slice A0_2 l0_2.length c0_2] 24 (0,0)) kl hb);have n1_:=Aside0.mk (blk_below (g:=gb256) (o:=.cells #[.string (⟨#[]⟩ : ByteArray),.string (⟨#[]⟩ : ByteArray),.slice none 0 0] 30 (0,0)) kl hb);have n2_:=Aside0.mk (below_step bl hb);have n3_:=Aside0.mk (hbox);have n4_:=Aside0.mk ((by rw [hg];exact(below_size bl):w.heap.size≤gb257));have n5_:=Aside0.mk ((by rw [hg];exact(below_size bl):w.heap.size≤gb257));have n6_:=Aside0.mk ((by rw [hg];exact Nat.ne_of_lt (blk_lt (g:=gb255) (o:=.cells #[.string a0_0,.string a0_1,.slice A0_2 l0_2.length c0_2] 24 (0,0)) kl):gb255≠gb257));have n7_:=Aside0.mk ((by rw [hg];exact Nat.ne_of_gt (blk_lt (g:=gb255) (o:=.cells #[.string a0_0,.string a0_1,.slice A0_2 l0_2.length c0_2] 24 (0,0)) kl):gb257≠gb255));have n8_:=Aside0.mk ((by rw [hg];exact Nat.ne_of_lt (blk_lt (g:=gb256) (o:=.cells #[.string (⟨#[]⟩ : ByteArray),.string (⟨#[]⟩ : ByteArray),.slice none 0 0] 30 (0,0)) kl):gb256≠gb257));have n9_:=Aside0.mk ((by rw [hg];exact Nat.ne_of_gt (blk_lt (g:=gb256) (o:=.cells #[.string (⟨#[]⟩ : ByteArray),.string (⟨#[]⟩ : ByteArray),.slice none 0 0] 30 (0,0)) kl):gb257≠gb256));clear BK255;clear BK256;clear HB;have BK255:=n0_;have BK256:=n1_;have HB:=n2_;have BK257:=n3_;have GW257:=n4_;have GE257:=n5_;have NB255_257:=n6_;have NB257_255:=n7_;have NB256_257:=n8_;have NB257_256:=n9_;clear n0_ n1_ n2_ n3_ n4_ n5_ n6_ n7_ n8_ n9_;clear hb hbox hg;have hnb7:=NB257_255.out;have hnc7:=NB255_257.out;have hnb8:=NB257_256.out;have hnc8:=NB256_257.out;obtain⟨_,_,_,_,_,_⟩:=bc3 BK257.out))
 go_loopg [4] k (fun kq v4 w'=>∃ (x4_1:Int) (x258002_1:List (S30)) (u258002:Value),v4 = .int .i64 x4_1∧Aside0 (stowagelaw13_To.l0 kq x4_1 a0_0 a0_1 l0_2 a0_0 a0_1 x258002_1=some (r1,r2,r3))∧Aside0 (kq≤k)∧Aside0 (Kd.R k30 30 w' w.heap.size (fun k_=>k_≠gb256∧k_≠gb257) u258002 x258002_1)∧Aside0 (w'.heap[gb255]? = some (.cells #[.string a0_0,.string a0_1,(.slice A0_2 l0_2.length c0_2)] 24 (0,0)))∧Aside0 (w'.heap[gb256]? = some (.cells #[.string (⟨#[]⟩ : ByteArray),.string (⟨#[]⟩ : ByteArray),(.slice none 0 0)] 30 (0,0)))∧Aside0 (w'.heap[gb257]? = some (.cells #[.string a0_0,.string a0_1,u258002] 30 (0,0)))∧Aside0 (Below w.heap.size w w'))
 case atStart=>exact⟨(0),(([]:List (S30))),(.slice none 0 0),rs,H',⟨Nat.le_refl _⟩,⟨nl⟩,⟨by(with_reducible repeat (first|refine blk_drewN ?_ _|refine blk_drew ?_|refine blk_alloc ?_ _));refine blk_far ?_ NB255_257.out _;(with_reducible repeat (first|refine blk_drewN ?_ _|refine blk_drew ?_|refine blk_alloc ?_ _));refine blk_far ?_ NB255_257.out _;(with_reducible repeat (first|refine blk_drewN ?_ _|refine blk_drew ?_|refine blk_alloc ?_ _));refine blk_far ?_ NB255_257.out _;(with_reducible repeat (first|refine blk_drewN ?_ _|refine blk_drew ?_|refine blk_alloc ?_ _));exact BK255.out⟩,⟨by(with_reducible repeat (first|refine blk_drewN ?_ _|refine blk_drew ?_|refine blk_alloc ?_ _));refine blk_far ?_ NB256_257.out _;(with_reducible repeat (first|refine blk_drewN ?_ _|refine blk_drew ?_|refine blk_alloc ?_ _));refine blk_far ?_ NB256_257.out _;(with_reducible repeat (first|refine blk_drewN ?_ _|refine blk_drew ?_|refine blk_alloc ?_ _));refine blk_far ?_ NB256_257.out _;(with_reducible repeat (first|refine blk_drewN ?_ _|refine blk_drew ?_|refine blk_alloc ?_ _));exact BK256.out⟩,⟨by(with_reducible repeat (first|refine blk_drewN ?_ _|refine blk_drew ?_|refine blk_alloc ?_ _));refine blk_put (cs:=#[.string a0_0,.string a0_1,.slice none 0 0]) ?_ 2 _ rfl;(with_reducible repeat (first|refine blk_drewN ?_ _|refine blk_drew ?_|refine blk_alloc ?_ _));refine blk_put (cs:=#[.string a0_0,.string (⟨#[]⟩ : ByteArray),.slice none 0 0]) ?_ 1 _ rfl;(with_reducible repeat (first|refine blk_drewN ?_ _|refine blk_drew ?_|refine blk_alloc ?_ _));refine blk_put (cs:=#[.string (⟨#[]⟩ : ByteArray),.string (⟨#[]⟩ : ByteArray),.slice none 0 0]) ?_ 0 _ rfl;(with_reducible repeat (first|refine blk_drewN ?_ _|refine blk_drew ?_|refine blk_alloc ?_ _));exact BK257.out⟩,⟨bl⟩⟩
 case round=>
  clear H'
  obtain⟨x4_1,x258002_1,u258002,rfl,HA,HK1,HO_258002,BK255,BK256,BK257,HB⟩:=hrel
  cases gk with
  | zero=>exact absurd HA.out (by simp [stowagelaw13_To.l0])
  | succ k1=>
   have H:=HA.out
   clear HA
   simp only [stowagelaw13_To.l0] at H
   replace H:=itO H
   rcases H with⟨c10,H⟩|⟨c10,H⟩
   {
   have c10b0:decide (x4_1<(l0_2.length:Int))=true:=decide_eq_true c10
   clear c10
   replace H:=itO H
   rcases H with⟨c11,H⟩|⟨c11,H⟩
   {
   have c11b0:decide (0≤x4_1)=true:=decide_eq_true c11
   clear c11
   replace H:=bndO H
   obtain⟨⟨t259,t260,t261⟩,A120,H⟩:=H
   dsimp only at H
   have A12:=Aside0.mk A120
   clear A120
   replace H:=itO H
   rcases H with⟨c13,H⟩|⟨c13,H⟩
   {
   have LMc13:=Aside0.mk c13
   clear c13
   obtain⟨y264,hy264⟩ : ∃ y_:List (S30),y_=(x258002_1 ++ [(⟨t259,t260,t261⟩ : S30)]):=⟨_,rfl⟩
   replace H:(stowagelaw13_To.l0 k1 (wrap64 (x4_1+1)) a0_0 a0_1 l0_2 a0_0 a0_1 y264)=some (r1,r2,r3):=by first|(rw [hy264];with_reducible exact H)|(have H2_:=(Option.bind_some _ _).symm.trans H;rw [hy264];with_reducible exact H2_)|(have H2_:=(Option.bind_some _ _).symm.trans H;with_reducible exact H2_)|with_reducible exact H|(rw [hy264];exact H)|exact H
   have Ny264:=Aside0.mk hy264
   clear hy264
   have H':=Aside0.mk H
   clear H
   have hnb14:=NB255_256.out
   have hnc14:=NB256_255.out
   have hnb15:=NB255_257.out
   have hnc15:=NB257_255.out
   obtain⟨_,_,_,_,_,_⟩:=bc3 BK255.out
   try go_wp2
   have n0_:=Aside0.mk (Kd.R_drew HO_258002.out)
   have n1_:=Aside0.mk (blk_drew BK255.out)
   have n2_:=Aside0.mk (blk_drew BK256.out)
   have n3_:=Aside0.mk (blk_drew BK257.out)
   have n4_:=Aside0.mk (below_drew1 HB.out)
   clear HO_258002
   clear BK255
   clear BK256
   clear BK257
   clear HB
   have HO_258002:=n0_
   have BK255:=n1_
   have BK256:=n2_
   have BK257:=n3_
   have HB:=n4_
   clear n0_ n1_ n2_ n3_ n4_
   have p258:0≤(x4_1:Int):=of_decide_eq_true asm
   have q258:x4_1<(l0_2.length:Int):=of_decide_eq_true asm
   obtain⟨ad258,A258_2,c258_2,e258,hx258_0,hx258_1,hx258_2,hl258_2,hi258_2⟩:=at_T24 HR0_2.out x4_1 p258 q258
   have hw258_2:=hx258_2
   have hw258_1:=hx258_1
   have hw258_0:=hx258_0
   cases e258
   replace hx258_0:=(HB.out.cell (World.block_lt_of_cell? w _ hx258_0)).trans hx258_0
   replace hx258_1:=(HB.out.cell (World.block_lt_of_cell? w _ hx258_1)).trans hx258_1
   replace hx258_2:=(HB.out.cell (World.block_lt_of_cell? w _ hx258_2)).trans hx258_2
   have HR258_2:=Aside0.mk hi258_2
   have HC258_2:=Aside0.mk hl258_2
   clear hi258_2 hl258_2
   replace p258:=eq_true p258
   replace q258:=eq_true q258
   refine start_ (n:=12) (S:=fun w'=>w'.cell? ⟨gb257,0,none⟩=some (.string a0_0)∧w'.cell? ⟨gb257,1,none⟩=some (.string a0_1)∧w'.cell? ⟨gb257,2,none⟩=some (u258002)∧w'.cell? ⟨gb255,0,none⟩=some (.string a0_0)∧w'.cell? ⟨gb255,1,none⟩=some (.string a0_1)∧w'.cell? ⟨gb255,2,none⟩=some (.slice (some ad258) l0_2.length c0_2)∧w'.cell? (ad258.add ((x4_1).toNat*3))=some (.string ((rd_T24 l0_2 x4_1).f0))∧w'.cell? ⟨(ad258.add ((x4_1).toNat*3)).block,(ad258.add ((x4_1).toNat*3)).off+1,none⟩=some (.string ((rd_T24 l0_2 x4_1).f1))∧w'.cell? ⟨(ad258.add ((x4_1).toNat*3)).block,(ad258.add ((x4_1).toNat*3)).off+2,none⟩=some (.slice A258_2 ((rd_T24 l0_2 x4_1).f2).length c258_2)) (ds:=[11]) #[F,F,F,F,F,F,F,F,F,F,F,F] kr rfl rfl ⟨(blk_cell BK257.out 0).trans rfl,(blk_cell BK257.out 1).trans rfl,(blk_cell BK257.out 2).trans rfl,(blk_cell BK255.out 0).trans rfl,(blk_cell BK255.out 1).trans rfl,(blk_cell BK255.out 2).trans rfl,((HB.out.cell (World.block_lt_of_cell? w _ hw258_0)).trans hw258_0),((HB.out.cell (World.block_lt_of_cell? w _ hw258_1)).trans hw258_1),((HB.out.cell (World.block_lt_of_cell? w _ hw258_2)).trans hw258_2)⟩ (fun hHeld=>?_);refine with_tabW stowagelaw13_To.tab5 stowagelaw13_To.bits5 (fun HT_ HW_=>?_)
   generalize wr.drew=w17 at HO_258002 BK255 BK256 BK257 HB HR258_2 hx258_0 hx258_1 hx258_2 hHeld ⊢
   refine pure_ (i:=0) (N:=some 17) (v:=?_) (a':=?_) #[T,F,F,F,F,F,F,F,F,F,F,F] rfl rfl (any_of HT_.out kr) (fun _ _ _ h=>h) (Or.inl ⟨by rfl,?_⟩) ?_ ?_
   rotate_left
   {
   intro w'
   go_simp
   with_reducible rfl
   }
   rotate_left
   {
   simp only [Act.put,l1,l2,l3,i64_w,i32_w]
   rfl
   }
   refine pure_ (i:=2) (N:=some 19) (v:=?_) (a':=?_) #[T,F,T,F,F,F,F,F,F,F,F,F] rfl rfl (any_of HT_.out kr) (fun _ _ _ h=>h) (Or.inl ⟨by rfl,?_⟩) ?_ ?_
   rotate_left
   {
   intro w'
   go_simp
   with_reducible rfl
   }
   rotate_left
   {
   simp only [Act.put,l1,l2,l3,i64_w,i32_w]
   rfl
   }
   refine pure_ (i:=4) (N:=some 21) (v:=?_) (a':=?_) #[T,F,T,F,T,F,F,F,F,F,F,F] rfl rfl (any_of HT_.out kr) (fun _ _ _ h=>h) (Or.inl ⟨by rfl,?_⟩) ?_ ?_
   rotate_left
   {
   intro w'
   go_simp
   with_reducible rfl
   }
   rotate_left
   {
   simp only [Act.put,l1,l2,l3,i64_w,i32_w]
   rfl
   }
   refine take_ (i:=1) (N:=some 18) (v:=?_) (a':=?_) #[T,T,T,F,T,F,F,F,F,F,F,F] rfl rfl (take_ofW HT_.out HW_.out kr) (fun _ _ _ h=>h) (Or.inl ⟨by rfl,?_⟩) hHeld ?_ ?_
   rotate_left
   {
   rintro w' ⟨s0,s1,s2,s3,s4,s5,s6,s7,s8⟩
   go_simp
   with_reducible rfl
   }
   rotate_left
   {
   simp only [Act.put,l1,l2,l3,i64_w,i32_w]
   rfl
   }
   refine take_ (i:=3) (N:=some 20) (v:=?_) (a':=?_) #[T,T,T,T,T,F,F,F,F,F,F,F] rfl rfl (take_ofW HT_.out HW_.out kr) (fun _ _ _ h=>h) (Or.inl ⟨by rfl,?_⟩) hHeld ?_ ?_
   rotate_left
   {
   rintro w' ⟨s0,s1,s2,s3,s4,s5,s6,s7,s8⟩
   go_simp
   with_reducible rfl
   }
   rotate_left
   {
   simp only [Act.put,l1,l2,l3,i64_w,i32_w]
   rfl
   }
   refine pure_ (i:=5) (N:=some 22) (v:=?_) (a':=?_) #[T,T,T,T,T,T,F,F,F,F,F,F] rfl rfl (any_of HT_.out kr) (fun _ _ _ h=>h) (Or.inl ⟨by rfl,?_⟩) ?_ ?_
   rotate_left
   {
   intro w'
   go_simp
   with_reducible rfl
   }
   rotate_left
   {
   simp only [Act.put,l1,l2,l3,i64_w,i32_w]
   rfl
   }
   refine take_ (i:=6) (N:=some 23) (v:=?_) (a':=?_) #[T,T,T,T,T,T,T,F,F,F,F,F] rfl rfl (take_ofW HT_.out HW_.out kr) (fun _ _ _ h=>h) (Or.inl ⟨by rfl,?_⟩) hHeld ?_ ?_
   rotate_left
   {
   rintro w' ⟨s0,s1,s2,s3,s4,s5,s6,s7,s8⟩
   go_simp
   with_reducible rfl
   }
   rotate_left
   {
   simp only [Act.put,l1,l2,l3,i64_w,i32_w]
   rfl
   }
   refine one_ (i:=7) (N:=some 24) #[T,T,T,T,T,T,T,T,F,F,F,F] rfl rfl (one_of HT_.out kr) (by decide) (fun K hK=>?_)
   refine goes_ Tryd.func13 kr rfl #[.agg #[.string ((rd_T24 l0_2 x4_1).f0),.string ((rd_T24 l0_2 x4_1).f1),.slice A258_2 ((rd_T24 l0_2 x4_1).f2).length c258_2]] (by rfl) rfl rfl am ?_
   with_reducible refine(ih k1 (by have:=HK1.out;omega) ((rd_T24 l0_2 x4_1).f0) ((rd_T24 l0_2 x4_1).f1) _ _ ((rd_T24 l0_2 x4_1).f2) t259 t260 t261 _ ?side1 ?side2 A12.out).mono ?_
   (case side1=>repeat (first|exact(Kd.C_below HR258_2.out HB.out)|(with_reducible refine Kd.C_alloc ?_ _)|(with_reducible refine Kd.C_drewN ?_ _)|(with_reducible refine Kd.C_drew ?_)))
   (case side2=>exact HC258_2.out)
   rintro e w18 ⟨v262,rfl,ho0,hb⟩
   refine⟨_,rfl,?_⟩
   have n0_:=Aside0.mk (Kd.R_elder' rl (by first|exact Kd.R_base ho0|exact Kd.R_base ho0) hb)
   have n1_:=Aside0.mk (Kd.R_lower (Kd.R_newB (Kd.R_newB (Kd.R_new' ho0 (Kd.R_lt rl)) (g:=gb256) (o:=.cells #[.string (⟨#[]⟩ : ByteArray),.string (⟨#[]⟩ : ByteArray),.slice none 0 0] 30 (0,0)) kl) (g:=gb257) (o:=.cells #[.string a0_0,.string a0_1,u258002] 30 (0,0)) kl) (below_size bl))
   have n2_:=Aside0.mk (blk_below (g:=gb255) (o:=.cells #[.string a0_0,.string a0_1,.slice (some ad258) l0_2.length c0_2] 24 (0,0)) kl hb)
   have n3_:=Aside0.mk (blk_below (g:=gb256) (o:=.cells #[.string (⟨#[]⟩ : ByteArray),.string (⟨#[]⟩ : ByteArray),.slice none 0 0] 30 (0,0)) kl hb)
   have n4_:=Aside0.mk (blk_below (g:=gb257) (o:=.cells #[.string a0_0,.string a0_1,u258002] 30 (0,0)) kl hb)
   have n5_:=Aside0.mk (below_step bl hb)
   clear HO_258002
   clear BK255
   clear BK256
   clear BK257
   clear HB
   have HO_258002:=n0_
   have HO263:=n1_
   have BK255:=n2_
   have BK256:=n3_
   have BK257:=n4_
   have HB:=n5_
   clear n0_ n1_ n2_ n3_ n4_ n5_
   (try clear hb)
   (try clear hb2)
   (try clear hk)
   (try clear hi)
   (try clear ho0)
   obtain⟨Ao20,co20,eo20⟩:=Kd.R_slice HO263.out
   (first|subst eo20|(injection eo20 with f1_ f2_ f3_;have f4_:=f1_.symm;have f5_:=f3_.symm;clear f1_ f2_ f3_;subst f4_;subst f5_))
   refine hK.out _ _ ⟨(blk_cell BK257.out 0).trans rfl,(blk_cell BK257.out 1).trans rfl,(blk_cell BK257.out 2).trans rfl,(blk_cell BK255.out 0).trans rfl,(blk_cell BK255.out 1).trans rfl,(blk_cell BK255.out 2).trans rfl,((HB.out.cell (World.block_lt_of_cell? w _ hw258_0)).trans hw258_0),((HB.out.cell (World.block_lt_of_cell? w _ hw258_1)).trans hw258_1),((HB.out.cell (World.block_lt_of_cell? w _ hw258_2)).trans hw258_2)⟩ (fun hHeld=>?_)
   clear hK K
   refine norm_ (a':=?_) ?_ ?_
   rotate_left
   {
   show Act.put _ (some 24) _=_
   simp only [Act.put,l1,l2,l3,i64_w,i32_w]
   rfl
   }
   refine one_ (i:=8) (N:=some 25) #[T,T,T,T,T,T,T,T,T,F,F,F] rfl rfl (one_of HT_.out kr) (by decide) (fun K hK=>?_)
   refine value_ (w1:=?_) (v:=?_) (by rfl) rfl ?_ ?_
   rotate_left 2
   {
   go_simp
   constructor
   ·rfl
   ·rfl
   }
   refine hK.out _ _ ⟨(blk_cell (blk_alloc BK257.out _) 0).trans rfl,(blk_cell (blk_alloc BK257.out _) 1).trans rfl,(blk_cell (blk_alloc BK257.out _) 2).trans rfl,(blk_cell (blk_alloc BK255.out _) 0).trans rfl,(blk_cell (blk_alloc BK255.out _) 1).trans rfl,(blk_cell (blk_alloc BK255.out _) 2).trans rfl,(World.cell?_alloc_lt _ _ _ (World.block_lt_of_cell? _ _ (((HB.out.cell (World.block_lt_of_cell? w _ hw258_0)).trans hw258_0)))).trans (((HB.out.cell (World.block_lt_of_cell? w _ hw258_0)).trans hw258_0)),(World.cell?_alloc_lt _ _ _ (World.block_lt_of_cell? _ _ (((HB.out.cell (World.block_lt_of_cell? w _ hw258_1)).trans hw258_1)))).trans (((HB.out.cell (World.block_lt_of_cell? w _ hw258_1)).trans hw258_1)),(World.cell?_alloc_lt _ _ _ (World.block_lt_of_cell? _ _ (((HB.out.cell (World.block_lt_of_cell? w _ hw258_2)).trans hw258_2)))).trans (((HB.out.cell (World.block_lt_of_cell? w _ hw258_2)).trans hw258_2))⟩ (fun hHeld=>?_)
   clear hK K
   refine norm_ (a':=?_) ?_ ?_
   rotate_left
   {
   show Act.put _ (some 25) _=_
   simp only [Act.put,l1,l2,l3,i64_w,i32_w]
   rfl
   }
   refine one_ (i:=9) (N:=some 26) #[T,T,T,T,T,T,T,T,T,T,F,F] rfl rfl (one_of HT_.out kr) (by decide) (fun K hK=>?_)
   refine Kd.R_append_step k30 (w0:=w) w.heap.size (by rfl) (.tmp 18) (.tmp 25) 28 30 (.agg #[(.string ⟨#[]⟩),(.string ⟨#[]⟩),(.slice none 0 0)]) 56 rfl Tryd.underlying28 info30 rfl (by decide) (by omega) u258002 x258002_1 (⟨t259,t260,t261⟩ : S30) [.string t259,.string t260,.slice Ao20 t261.length co20] (fun k_=>k_≠gb256∧k_≠gb257) (fun k_=>((fun k_=>k_≠gb256∧k_≠gb257)) k_∧some k_≠(u258002:Value).ownBlock) rfl rfl ?aP (fun _ hk=>hk) ?aF ?aO ?aB ?aS ?aL ?_
   (case aP=>exact k30_mkM _ _ _ (⟨t259,t260,t261⟩ : S30) (Kd.R_mono (HO263.out) (fun k_ hk=>⟨⟨hk.1.2,hk.2⟩,hk.1.1.2⟩)))
   (case aB=>exact bl)
   (case aF=>exact(fun k_ hk=>⟨Kd.freshB (g:=gb256) (o:=.cells #[.string (⟨#[]⟩ : ByteArray),.string (⟨#[]⟩ : ByteArray),.slice none 0 0] 30 (0,0)) kl k_ hk,Kd.freshB (g:=gb257) (o:=.cells #[.string a0_0,.string a0_1,u258002] 30 (0,0)) kl k_ hk⟩))
   (case aO=>exact(by(with_reducible repeat (first|apply Kd.R_alloc|apply Kd.R_drewN|apply Kd.R_drew));exact Kd.R_mono HO_258002.out (fun _ hk=>⟨hk.1.1,hk.1.2⟩)))
   (case aS=>exact(below_size bl))
   (case aL=>have:=LMc13.out;omega)
   intro v265 w19 ho hb hg hat
   rw [← Ny264.out] at ho
   have n0_:=Aside0.mk (blk_grown (g:=gb255) (o:=.cells #[.string a0_0,.string a0_1,.slice (some ad258) l0_2.length c0_2] 24 (0,0)) kl hg (Kd.R_ne HO_258002.out BK255.out (by decide)))
   have n1_:=Aside0.mk (blk_grown (g:=gb256) (o:=.cells #[.string (⟨#[]⟩ : ByteArray),.string (⟨#[]⟩ : ByteArray),.slice none 0 0] 30 (0,0)) kl hg (Kd.R_away HO_258002.out (fun _ hk=>hk.1.1)))
   have n2_:=Aside0.mk (blk_grown (g:=gb257) (o:=.cells #[.string a0_0,.string a0_1,u258002] 30 (0,0)) kl hg (Kd.R_away HO_258002.out (fun _ hk=>hk.1.2)))
   have n3_:=Aside0.mk (hb)
   have n4_:=Aside0.mk (ho)
   clear BK255
   clear BK256
   clear BK257
   clear HB
   clear HO_258002
   clear HO263
   have BK255:=n0_
   have BK256:=n1_
   have BK257:=n2_
   have HB:=n3_
   have HO266:=n4_
   clear n0_ n1_ n2_ n3_ n4_
   clear ho hb hg hat
   obtain⟨Ao21,co21,eo21⟩:=Kd.R_slice HO266.out
   (first|subst eo21|(injection eo21 with f1_ f2_ f3_;have f4_:=f1_.symm;have f5_:=f3_.symm;clear f1_ f2_ f3_;subst f4_;subst f5_))
   refine hK.out _ _ ⟨(blk_cell BK257.out 0).trans rfl,(blk_cell BK257.out 1).trans rfl,(blk_cell BK257.out 2).trans rfl,(blk_cell BK255.out 0).trans rfl,(blk_cell BK255.out 1).trans rfl,(blk_cell BK255.out 2).trans rfl,((HB.out.cell (World.block_lt_of_cell? w _ hw258_0)).trans hw258_0),((HB.out.cell (World.block_lt_of_cell? w _ hw258_1)).trans hw258_1),((HB.out.cell (World.block_lt_of_cell? w _ hw258_2)).trans hw258_2)⟩ (fun hHeld=>?_)
   clear hK K
   refine norm_ (a':=?_) ?_ ?_
   rotate_left
   {
   show Act.put _ (some 26) _=_
   simp only [Act.put,l1,l2,l3,i64_w,i32_w]
   rfl
   }
   refine pure_ (i:=10) (N:=some 27) (v:=?_) (a':=?_) #[T,T,T,T,T,T,T,T,T,T,T,F] rfl rfl (any_of HT_.out kr) (fun _ _ _ h=>h) (Or.inl ⟨by rfl,?_⟩) ?_ ?_
   rotate_left
   {
   intro w'
   go_simp
   with_reducible rfl
   }
   rotate_left
   {
   simp only [Act.put,l1,l2,l3,i64_w,i32_w]
   rfl
   }
   refine last_ (i:=11) (N:=none) #[T,T,T,T,T,T,T,T,T,T,T,T] rfl rfl (one_of HT_.out kr) (by decide) (fun K hK=>?_)
   have hs22:w19.cell? ⟨gb257,2,none⟩=some (u258002):=(blk_cell BK257.out 2).trans rfl
   have hfs22:=blk_frozen BK257.out 2
   have hns22_0:=NB255_257.out
   have hns22_1:=NB256_257.out
   have hms22_0:=NB257_255.out
   have hms22_1:=NB257_256.out
   refine skip_ (w1:=?_) (by rfl) rfl ?_ ?_
   rotate_left
   {
   go_simp
   rfl
   }
   refine hK.out _ _ ?_
   clear hK K
   refine done_ (done_of HT_.out kr) ?_
   try go_wp2
   go_roundg k1
   case measure=>have:=HK1.out;omega
   case rel=>exact⟨(wrap64 (x4_1+1)),(y264),(.slice Ao21 y264.length co21),rs,H',⟨by have:=HK1.out;omega⟩,⟨by(with_reducible repeat (first|apply Kd.R_alloc|apply Kd.R_drewN|apply Kd.R_drew));exact Kd.R_mono (Kd.R_far (p:=⟨gb257,2,none⟩) (Kd.R_mono HO266.out (fun k_ hk=>(⟨hk,hk.2⟩ : _∧k_≠gb257))) (fun _ hk=>hk.2) (.slice Ao21 y264.length co21)) (fun _ hk=>⟨hk.1.1,hk.1.2⟩)⟩,⟨by(with_reducible repeat (first|refine blk_drewN ?_ _|refine blk_drew ?_|refine blk_alloc ?_ _));refine blk_far ?_ NB255_257.out _;(with_reducible repeat (first|refine blk_drewN ?_ _|refine blk_drew ?_|refine blk_alloc ?_ _));exact BK255.out⟩,⟨by(with_reducible repeat (first|refine blk_drewN ?_ _|refine blk_drew ?_|refine blk_alloc ?_ _));refine blk_far ?_ NB256_257.out _;(with_reducible repeat (first|refine blk_drewN ?_ _|refine blk_drew ?_|refine blk_alloc ?_ _));exact BK256.out⟩,⟨by(with_reducible repeat (first|refine blk_drewN ?_ _|refine blk_drew ?_|refine blk_alloc ?_ _));refine blk_put (cs:=#[.string a0_0,.string a0_1,u258002]) ?_ 2 _ rfl;(with_reducible repeat (first|refine blk_drewN ?_ _|refine blk_drew ?_|refine blk_alloc ?_ _));exact BK257.out⟩,⟨bl⟩⟩
   }
   ·exact absurd H (by simp)
   }
   ·exact absurd H (by simp)
   }
   {
   have c10b0:decide (x4_1<(l0_2.length:Int))=false:=decide_eq_false c10
   clear c10
   simp only [Option.some.injEq,Prod.mk.injEq] at H
   obtain⟨rfl,rfl,rfl⟩:=H
   have hnb23:=NB255_256.out
   have hnc23:=NB256_255.out
   have hnb24:=NB255_257.out
   have hnc24:=NB257_255.out
   obtain⟨_,_,_,_,_,_⟩:=bc3 BK255.out
   have hnb26:=NB257_256.out
   have hnc26:=NB256_257.out
   obtain⟨_,_,_,_,_,_⟩:=bc3 BK257.out
   obtain⟨_,_,_,_,_,_⟩:=bc3 BK256.out
   obtain⟨Ao29,co29,eo29⟩:=Kd.R_slice HO_258002.out
   subst eo29
   go_wp2
   refine bodyPost_ret (results_cell_row rfl _ _ gb256 30 #[.string a0_0,.string a0_1,.slice Ao29 x258002_1.length co29] (0,0) _ rfl (by(with_reducible repeat (first|refine blk_drewN ?_ _|refine blk_drew ?_|refine blk_alloc ?_ _));refine blk_put (cs:=#[.string a0_0,.string a0_1,.slice none 0 0]) ?_ 2 _ rfl;(with_reducible repeat (first|refine blk_drewN ?_ _|refine blk_drew ?_|refine blk_alloc ?_ _));refine blk_put (cs:=#[.string a0_0,.string (⟨#[]⟩ : ByteArray),.slice none 0 0]) ?_ 1 _ rfl;(with_reducible repeat (first|refine blk_drewN ?_ _|refine blk_drew ?_|refine blk_alloc ?_ _));refine blk_put (cs:=#[.string (⟨#[]⟩ : ByteArray),.string (⟨#[]⟩ : ByteArray),.slice none 0 0]) ?_ 0 _ rfl;(with_reducible repeat (first|refine blk_drewN ?_ _|refine blk_drew ?_|refine blk_alloc ?_ _));exact BK256.out) Tryd.underlying30 rfl kr) rfl ?_
   exact⟨_,ew,by(with_reducible repeat (first|apply Kd.R_alloc|apply Kd.R_drewN|apply Kd.R_drew));exact Kd.R_mono (Kd.R_far (p:=⟨gb256,2,none⟩) (Kd.R_far (p:=⟨gb256,1,none⟩) (Kd.R_far (p:=⟨gb256,0,none⟩) (Kd.R_mono HO_258002.out (fun k_ hk=>(⟨hk,hk.1⟩ : _∧k_≠gb256))) (fun _ hk=>hk.2) (.string a0_0)) (fun _ hk=>hk.2) (.string a0_1)) (fun _ hk=>hk.2) (.slice Ao29 x258002_1.length co29)) (fun _ hk=>trivial),bl⟩
   }
mutual
def stowagelaw13_Deep.l0:Nat→Int→Int→Int→ByteArray→ByteArray→List (S24)→Option (Int)
  | 0,_,_,_,_,_,_=>none
  | k+1,x1,x5,x6,x275000,x275001,x275002=>if x6<(x275002.length:Int) then(if x1>0 then(if 0≤x6 then((stowagelaw13_Deep.f k ((rd_T24 x275002 x6).f0) ((rd_T24 x275002 x6).f1) ((rd_T24 x275002 x6).f2) (wrap64 (x1-1))).bind fun t276=>(stowagelaw13_Deep.l0 k x1 (mx x5 t276) (wrap64 (x6+1)) x275000 x275001 x275002)) else(none)) else(some (wrap64 (x5+1)))) else(some (wrap64 (x5+1)))
def stowagelaw13_Deep.f:Nat→ByteArray→ByteArray→List (S24)→Int→Option (Int)
  | 0,_,_,_,_=>none
  | k+1,a0_0,a0_1,l0_2,a1=>stowagelaw13_Deep.l0 k a1 0 0 a0_0 a0_1 l0_2
end
theorem stowagelaw13_Deep.mono_l:∀ k,(∀ y0 y1 y2 y3,LeO (stowagelaw13_Deep.f k y0 y1 y2 y3) (stowagelaw13_Deep.f (k+1) y0 y1 y2 y3))∧(∀ y0 y1 y2 y3 y4 y5,LeO (stowagelaw13_Deep.l0 k y0 y1 y2 y3 y4 y5) (stowagelaw13_Deep.l0 (k+1) y0 y1 y2 y3 y4 y5))
  | 0=>⟨fun _ _ _ _ r h=>by simp [stowagelaw13_Deep.f] at h,fun _ _ _ _ _ _ r h=>by simp [stowagelaw13_Deep.l0] at h⟩
  | k+1=>by
    obtain⟨ih0,ih1⟩:=stowagelaw13_Deep.mono_l k
    refine⟨?_,?_⟩
    · intro y0 y1 y2 y3
      unfold stowagelaw13_Deep.f
      with_reducible repeat' first|exact ih0 _ _ _ _|exact ih1 _ _ _ _ _ _|exact LeO.refl _|exact LeO.none _|refine LeO.ite ?_ ?_|refine LeO.bind ?_ (fun _=>?_)
    · intro y0 y1 y2 y3 y4 y5
      unfold stowagelaw13_Deep.l0
      with_reducible repeat' first|exact ih0 _ _ _ _|exact ih1 _ _ _ _ _ _|exact LeO.refl _|exact LeO.none _|refine LeO.ite ?_ ?_|refine LeO.bind ?_ (fun _=>?_)
theorem stowagelaw13_Deep.mono:∀ a0 a1 a2 a3 k,LeO (stowagelaw13_Deep.f k a0 a1 a2 a3) (stowagelaw13_Deep.f (k+1) a0 a1 a2 a3):=by
 intro a0 a1 a2 a3 k
 obtain⟨ih0,ih1⟩:=stowagelaw13_Deep.mono_l k
 exact ih0 a0 a1 a2 a3
theorem stowagelaw13_Deep.calls (k:Nat):∀ (a0_0:ByteArray) (a0_1:ByteArray) (A0_2:Option Addr) (c0_2:Nat) (l0_2:List (S24)) (a1:Int) (r:Int) (w:World) (hr0_2:Kd.C k24 w A0_2 l0_2.length l0_2) (hc0_2:l0_2.length≤c0_2) (h:stowagelaw13_Deep.f k a0_0 a0_1 l0_2 a1=some r),
    Calls Tryd.prog 21 #[.agg #[.string a0_0,.string a0_1,.slice A0_2 l0_2.length c0_2],.int .i64 a1] w fun e w'=>e = .returned (.int .i64 r)∧Below w.heap.size w w':=by
 induction k using Nat.strongRecOn with
 | _ k ih=>
 intro a0_0 a0_1 A0_2 c0_2 l0_2 a1 r w hr0_2 hc0_2 h
 cases k with
 | zero=>exact absurd h (by simp [stowagelaw13_Deep.f])
 | succ k=>
 simp only [stowagelaw13_Deep.f] at h
 have hu24:=Tryd.underlying24
 have HR0_2:=Aside0.mk hr0_2
 have HC0_2:=Aside0.mk hc0_2
 clear hr0_2 hc0_2
 have HB:=Aside0.mk (Below.refl w.heap.size w)
 have H:(stowagelaw13_Deep.l0 k a1 0 0 a0_0 a0_1 l0_2)=some r:=h
 clear h
 have H':=Aside0.mk H
 clear H
 go_enter Tryd.func21,Tryd.ntmps21
 go_wp2_with (first|((with_reducible refine gate_dst (N:=2) rfl ?_);refine box_event ?hg (N:=2) ?hd (cs:=#[.string a0_0,.string a0_1,.slice A0_2 l0_2.length c0_2]) (t:=24) ?hr ?_;(case hd=>rfl);(case hg=>rfl);(case hr=>first|(go_simp;done)|(go_simp;rfl));intro gb274 hg w3 hbox hb;have BK274:=Aside0.mk (hbox);have GW274:=Aside0.mk ((by rw [hg];exact(below_size bl):w.heap.size≤gb274));have GE274:=Aside0.mk ((by rw [hg];exact(below_size bl):w.heap.size≤gb274));replace HB:=Aside0.mk (below_step bl hb);clear hb hbox hg))
 go_loopg [5,6] k (fun kq v5 v6 w'=>∃ (x5_1:Int) (x6_1:Int),v5 = .int .i64 x5_1∧v6 = .int .i64 x6_1∧Aside0 (stowagelaw13_Deep.l0 kq a1 x5_1 x6_1 a0_0 a0_1 l0_2=some r)∧Aside0 (kq≤k)∧Aside0 (w'.heap[gb274]? = some (.cells #[.string a0_0,.string a0_1,(.slice A0_2 l0_2.length c0_2)] 24 (0,0)))∧Aside0 (Below w.heap.size w w'))
 case atStart=>exact⟨(0),(0),rs,rs,H',⟨Nat.le_refl _⟩,⟨kl⟩,⟨bl⟩⟩
 case round=>
  clear H'
  obtain⟨x5_1,x6_1,rfl,rfl,HA,HK1,BK274,HB⟩:=hrel
  cases gk with
  | zero=>exact absurd HA.out (by simp [stowagelaw13_Deep.l0])
  | succ k1=>
   have H:=HA.out
   clear HA
   simp only [stowagelaw13_Deep.l0] at H
   replace H:=itO H
   rcases H with⟨c4,H⟩|⟨c4,H⟩
   {
   have c4b0:decide (x6_1<(l0_2.length:Int))=true:=decide_eq_true c4
   clear c4
   replace H:=itO H
   rcases H with⟨c5,H⟩|⟨c5,H⟩
   {
   have c5b0:decide (0<a1)=true:=decide_eq_true c5
   clear c5
   replace H:=itO H
   rcases H with⟨c6,H⟩|⟨c6,H⟩
   {
   have c6b0:decide (0≤x6_1)=true:=decide_eq_true c6
   clear c6
   replace H:=bndO H
   obtain⟨t276,A70,H⟩:=H
   have A7:=Aside0.mk A70
   clear A70
   obtain⟨ji8,hji8⟩ : ∃ j_:Int,(mx x5_1 t276)=j_:=⟨_,rfl⟩
   first|rw [hji8] at H|simp only [hji8] at H
   (try rw [hji8] at A7)
   have hji8_:(if x5_1<t276 then t276 else x5_1)=ji8:=hji8
   have H':=Aside0.mk H
   clear H
   obtain⟨_,_,_,_,_,_⟩:=bc3 BK274.out
   have p275:0≤(x6_1:Int):=of_decide_eq_true asm
   have q275:x6_1<(l0_2.length:Int):=of_decide_eq_true asm
   obtain⟨ad275,A275_2,c275_2,e275,hx275_0,hx275_1,hx275_2,hl275_2,hi275_2⟩:=at_T24 HR0_2.out x6_1 p275 q275
   cases e275
   replace hx275_0:=(HB.out.cell (World.block_lt_of_cell? w _ hx275_0)).trans hx275_0
   replace hx275_1:=(HB.out.cell (World.block_lt_of_cell? w _ hx275_1)).trans hx275_1
   replace hx275_2:=(HB.out.cell (World.block_lt_of_cell? w _ hx275_2)).trans hx275_2
   have HR275_2:=Aside0.mk hi275_2
   have HC275_2:=Aside0.mk hl275_2
   clear hi275_2 hl275_2
   replace p275:=eq_true p275
   replace q275:=eq_true q275
   go_wp2_with (first|((with_reducible refine gate_callee (f:=21) rfl ?_);refine goesL_ (some 26) rfl rfl Tryd.func21 kr rfl #[.agg #[.string ((rd_T24 l0_2 x6_1).f0),.string ((rd_T24 l0_2 x6_1).f1),.slice A275_2 ((rd_T24 l0_2 x6_1).f2).length c275_2],.int .i64 (wrap64 (a1-1))] rfl am ?_;(with_reducible refine(ih k1 (by have:=HK1.out;omega) ((rd_T24 l0_2 x6_1).f0) ((rd_T24 l0_2 x6_1).f1) _ _ ((rd_T24 l0_2 x6_1).f2) (wrap64 (a1-1)) t276 _ ?side1 ?side2 A7.out).mono ?_);(case side1=>repeat (first|exact(Kd.C_below HR275_2.out HB.out)|(with_reducible refine Kd.C_alloc ?_ _)|(with_reducible refine Kd.C_drewN ?_ _)|(with_reducible refine Kd.C_drew ?_)));(case side2=>exact HC275_2.out);rintro e w10 ⟨rfl,hb⟩;refine⟨_,rfl,?_⟩;replace BK274:=Aside0.mk (blk_below (g:=gb274) (o:=.cells #[.string a0_0,.string a0_1,.slice (some ad275) l0_2.length c0_2] 24 (0,0)) kl hb);replace HB:=Aside0.mk (below_step bl hb)))
   go_roundg k1
   case measure=>have:=HK1.out;omega
   case rel=>exact⟨(ji8),(wrap64 (x6_1+1)),(by first|rfl|(simp;done)|(simp only [← hji8] <;> (first|rfl|simp))|(simp [*];done)),rs,H',⟨by have:=HK1.out;omega⟩,⟨kl⟩,⟨bl⟩⟩
   }
   ·exact absurd H (by simp)
   }
   {
   have c5b0:decide (0<a1)=false:=decide_eq_false c5
   clear c5
   obtain rfl:=Option.some.inj H
   obtain⟨_,_,_,_,_,_⟩:=bc3 BK274.out
   go_wp2
   go_ret
   exact⟨ew,bl⟩
   }
   }
   {
   have c4b0:decide (x6_1<(l0_2.length:Int))=false:=decide_eq_false c4
   clear c4
   obtain rfl:=Option.some.inj H
   obtain⟨_,_,_,_,_,_⟩:=bc3 BK274.out
   go_wp2
   go_ret
   exact⟨ew,bl⟩
   }
end Go.Proofs.YtklcgncaclggcaaDoor.Q
