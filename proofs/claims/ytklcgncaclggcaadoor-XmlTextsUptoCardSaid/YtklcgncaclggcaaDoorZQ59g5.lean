/- A part of the proof of the seat's laws. No condition beyond those in the theorems. -/
import Derived.Test.YtklcgncaclggcaaDoorZBld
import Derived.Lib.Hide
import Derived.Deep.RegionWith
import Derived.Test.YtklcgncaclggcaaDoorZQ0g15
import Derived.Test.YtklcgncaclggcaaDoorZSqzB

namespace Go.Proofs.YtklcgncaclggcaaDoor.Q
open Go.RowKit Go.Proofs.YtklcgncaclggcaaDoorW.PrintWords Go.Proofs.YtklcgncaclggcaaDoorW.PrintLast Go.Proofs.YtklcgncaclggcaaDoorW.PrintMore
set_option linter.unusedVariables false
set_option linter.unusedSimpArgs false
set_option maxHeartbeats 8000000
set_option maxRecDepth 100000
attribute [local go_sem] max2_int min2_int max_two min_two max_three min_three max_four min_four   
mutual
def xml_print.f:Nat→ByteArray→ByteArray→ByteArray→List S24→ByteArray→Option ByteArray
 | 0,_,_,_,_,_=>none
 | k+1,acc,nm,tx,kids,more=>(xml_Escape.f tx).bind fun e=>(if acc.size+(1+nm.size+more.size+1+e.size)≤140737488355328 then((xml_print.l0 k (acc++((((⟨#[60]⟩ : ByteArray)++nm)++more)++⟨#[62]⟩++e)) kids 0).bind fun acc2=>(if acc2.size+(2+nm.size+1)≤140737488355328 then some (acc2++(((⟨#[60,47]⟩ : ByteArray)++nm)++⟨#[62]⟩)) else none)) else none)
def xml_print.l0:Nat→ByteArray→List S24→Int→Option ByteArray
 | 0,_,_,_=>none
 | k+1,acc,kids,i=>(if i<(kids.length:Int) then(if 0≤i then((xml_print.f k acc ((rd_T24 kids i).f0) ((rd_T24 kids i).f1) ((rd_T24 kids i).f2) (⟨#[]⟩ : ByteArray)).bind fun acc2=>xml_print.l0 k acc2 kids (wrap64 (i+1))) else none) else some acc)
end
theorem xml_print.isB_below {T e B b:Nat} {bs:List Value} {w W:World} (h:Lib.IsBuilderF T e B b bs w) (hb:Below w.heap.size w W):Lib.IsBuilderF T e B b bs W:=by
 have key:∀ p,Lib.BuilderAtF T e B b p bs w→Lib.BuilderAtF T e B b p bs W:=by
  rintro p ⟨hB,v,hbk,hown,hne⟩
  refine⟨hB,v,(hb.block b (Array.getElem?_eq_some_iff.1 hbk).1).trans hbk,?_,hne⟩
  obtain⟨h1,h2⟩:=hown
  refine⟨h1,?_⟩
  rcases h2 with h2|⟨g,cap,cur,fz,rfl,hg,hh,r⟩
  ·exact .inl h2
  ·exact .inr ⟨g,cap,cur,fz,rfl,hg,(hb.block g (Array.getElem?_eq_some_iff.1 hh).1).trans hh,r⟩
 rcases h with h|h
 ·exact .inl (key _ h)
 ·exact .inr (key _ h)
theorem xml_print.isB_lt {T e B b:Nat} {bs:List Value} {w:World} (h:Lib.IsBuilderF T e B b bs w):b<w.heap.size:=by
 rcases h with⟨_,v,hbk,_⟩|⟨_,v,hbk,_⟩
 ·exact(Array.getElem?_eq_some_iff.1 hbk).1
 ·exact(Array.getElem?_eq_some_iff.1 hbk).1
theorem xml_print.kept_below {e:TypeId} {b:Option Nat} {a w w':World} (h:Lib.OthersKept e b a w) (hb:Below w.heap.size w w'):Lib.OthersKept e b a w':=by
 intro k x hk hn hx
 have h1:=h k x hk hn hx
 exact(hb.block k (Array.getElem?_eq_some_iff.1 h1).1).trans h1
theorem xml_print.kept_at {e t:TypeId} {b g:Nat} {w w':World} {cs:Array Value} {z:Nat×Nat} (h:Lib.OthersKept e (some b) w w') (hg:w.heap[g]? = some (.cells cs t z)) (hne:g≠b) (ht:t≠e):w'.heap[g]? = some (.cells cs t z):=
 h g _ hg (fun hh=>hne (Option.some.inj hh)) (fun c fz hh=>by
  injection hh with _ hh
  exact ht hh)
theorem xml_print.cells_size (a:ByteArray):(Lib.byteCells a.data.toList).length=a.size:=by
 rw [Lib.byteCells_length,data_length]
theorem xml_print.cells_app (a s:ByteArray):Lib.byteCells (a++s).data.toList=Lib.byteCells a.data.toList++Lib.strCells s:=by
 rw [ByteArray.data_append,Array.toList_append,Lib.byteCells_append]
 rfl
theorem xml_print.sz1 (nm more e:ByteArray):((((⟨#[60]⟩ : ByteArray)++nm)++more)++⟨#[62]⟩++e).size=1+nm.size+more.size+1+e.size:=by
 simp only [ByteArray.size_append]
 rfl
theorem xml_print.sz2 (nm:ByteArray):(((⟨#[60,47]⟩ : ByteArray)++nm)++⟨#[62]⟩).size=2+nm.size+1:=by
 simp only [ByteArray.size_append]
 rfl
theorem xml_print.calls (k:Nat):∀ (acc nm tx:ByteArray) (A:Option Addr) (c:Nat) (l:List S24) (more r:ByteArray) (w0 w:World) (b:Nat) (hr:Kd.C k24 w0 A l.length l) (hc:l.length≤c) (hW:Below w0.heap.size w0 w) (hI:Lib.IsBuilderF 68 5 w0.heap.size b (Lib.byteCells acc.data.toList) w) (h:xml_print.f k acc nm tx l more=some r),
  Calls Tryd.prog 48 #[.pointer (some ⟨b,0,none⟩),.agg #[.string nm,.string tx,.slice A l.length c],.string more] w fun e w'=>e = .returned (.tuple #[])∧Lib.IsBuilderF 68 5 w0.heap.size b (Lib.byteCells r.data.toList) w'∧Below w0.heap.size w0 w'∧Lib.OthersKept 5 (some b) w w':=by
 induction k using Nat.strongRecOn with
 | _ k ih=>
 intro acc nm tx A c l more r w0 w b hr hc hW hI h
 cases k with
 | zero=>exact absurd h (by simp [xml_print.f])
 | succ k=>
 simp only [xml_print.f] at h
 have hu24:=Tryd.underlying24
 obtain⟨e,hE0,h⟩:=bndO h
 have hE:=Aside0.mk hE0
 rcases itO h with⟨c1,h1⟩|⟨c1,h1⟩
 ·obtain⟨acc2,hL0,h2⟩:=bndO h1
  have hL:=Aside0.mk hL0
  rcases itO h2 with⟨c2,h3⟩|⟨c2,h3⟩
  ·have hR:=Aside0.mk (Option.some.inj h3)
   have C1:=Aside0.mk c1
   have C2:=Aside0.mk c2
   have HR:=Aside0.mk hr
   have HC:=Aside0.mk hc
   have HW:=Aside0.mk hW
   have HI:=Aside0.mk hI
   have hlt:=Aside0.mk (xml_print.isB_lt hI)
   have z1:1+nm.size≤9223372036854775807:=by omega
   have z2:1+nm.size+more.size≤9223372036854775807:=by omega
   have z3:1+nm.size+more.size+1≤9223372036854775807:=by omega
   have z4:1+nm.size+more.size+1+e.size≤9223372036854775807:=by omega
   have z5:2+nm.size≤9223372036854775807:=by omega
   have z6:2+nm.size+1≤9223372036854775807:=by omega
   have y1:(9223372036854775807<1+nm.size)=False:=eq_false (by omega)
   have y2:(9223372036854775807<1+nm.size+more.size)=False:=eq_false (by omega)
   have y3:(9223372036854775807<1+nm.size+more.size+1)=False:=eq_false (by omega)
   have y4:(9223372036854775807<1+nm.size+more.size+1+e.size)=False:=eq_false (by omega)
   have y5:(9223372036854775807<2+nm.size)=False:=eq_false (by omega)
   have y6:(9223372036854775807<2+nm.size+1)=False:=eq_false (by omega)
   clear h h1 h2 h3 c1 c2 hr hc hW hI hL0 hE0
   go_enter Tryd.func48,Tryd.ntmps48
   go_upto_region 1 with(first|((with_reducible refine gate_dst (N:=4) rfl ?_);(try (refine gate_guard (by rfl) ?_;dsimp only));refine box_event ?hg (N:=4) ?hd (cs:=#[.string nm,.string tx,.slice A l.length c]) (t:=24) ?hr ?_;(case hd=>rfl);(case hg=>rfl);(case hr=>first|(go_simp;done)|(go_simp;rfl));intro gb hg w4 hbox hb;have BK:=Aside0.mk (hbox);have HI4:=Aside0.mk (xml_print.isB_below HI.out hb);have HW4:=Aside0.mk (below_step HW.out hb);have OK4:=Aside0.mk (xml_print.kept_below (Lib.OthersKept.refl 5 (some b) w) hb);have NB:=Aside0.mk (show gb≠b by rw [hg];exact Nat.ne_of_gt hlt.out);have HS4:=Aside0.mk (show w0.heap.size≤gb by rw [hg];exact HW.out.size);clear hb hbox hg HI HW))
   have hcz0:w4.cell? ⟨gb,0,none⟩=some (.string nm):=(blk_cell BK.out 0).trans rfl
   have hcz1:w4.cell? ⟨gb,1,none⟩=some (.string tx):=(blk_cell BK.out 1).trans rfl
   have hcz2:w4.cell? ⟨gb,2,none⟩=some (.slice A l.length c):=(blk_cell BK.out 2).trans rfl
   have hfz0:=blk_frozen BK.out 0
   have hfz1:=blk_frozen BK.out 1
   have hfz2:=blk_frozen BK.out 2
   go_region_with (first
    | (go_at_call 19;refine(xml_Escape.calls tx e _ hE.out).mono ?_;rintro e9 w9 ⟨rfl,hb9⟩;have BK9:=Aside0.mk (blk_below (g:=gb) (o:=.cells #[.string nm,.string tx,.slice A l.length c] 24 (0,0)) (by(with_reducible repeat (first|refine blk_drewN ?_ _|refine blk_drew ?_));exact BK.out) hb9);have HI9:=Aside0.mk (xml_print.isB_below (by first|exact HI4.out|exact Bld.IsB_drewN HI4.out _) hb9);have HW9:=Aside0.mk (below_step (by first|exact HW4.out|exact pw_below_drewN HW4.out _) hb9);have OK9:=Aside0.mk (xml_print.kept_below (by first|exact OK4.out|exact Lib.OthersKept.drew OK4.out) hb9);have hd0:w9.cell? ⟨gb,0,none⟩=some (.string nm):=(blk_cell BK9.out 0).trans rfl;have hd1:w9.cell? ⟨gb,1,none⟩=some (.string tx):=(blk_cell BK9.out 1).trans rfl;have hd2:w9.cell? ⟨gb,2,none⟩=some (.slice A l.length c):=(blk_cell BK9.out 2).trans rfl;clear hb9)
    | (go_at_call 37;have hcall:=Bld.WriteString w0.heap.size b _ ((((⟨#[60]⟩ : ByteArray)++nm)++more)++⟨#[62]⟩++e) w9 HI9.out (by rw [xml_print.cells_size,xml_print.sz1];exact C1.out) HW9.out.size;with_reducible refine hcall.mono ?_;clear hcall;(rintro e1 w1 ⟨rfl,hi1,hb1,hk1⟩;have HI1:=Aside0.mk hi1;have HW1:=Aside0.mk (HW9.out.trans hb1);have BK1:=Aside0.mk (xml_print.kept_at hk1 BK9.out NB.out (by decide));have OK1:=Aside0.mk (OK9.out.trans hk1);clear hi1 hb1 hk1)))
   all_goals
    have hcy0:w1.cell? ⟨gb,0,none⟩=some (.string nm):=(blk_cell BK1.out 0).trans rfl
    have hcy2:w1.cell? ⟨gb,2,none⟩=some (.slice A l.length c):=(blk_cell BK1.out 2).trans rfl
    go_wp2_with fail
    go_loopg [23] k (fun kq v23 w'=>∃ (i:Int) (acc1:ByteArray),v23 = .int .i64 i∧Aside0 (xml_print.l0 kq acc1 l i=some acc2)∧Aside0 (kq≤k)∧Aside0 (Lib.IsBuilderF 68 5 w0.heap.size b (Lib.byteCells acc1.data.toList) w')∧Aside0 (Below w0.heap.size w0 w')∧Aside0 (Lib.OthersKept 5 (some b) w w')∧Aside0 (w'.heap[gb]? = some (.cells #[.string nm,.string tx,.slice A l.length c] 24 (0,0))))
    case atStart=>exact⟨0,_,rfl,hL,⟨Nat.le_refl _⟩,⟨by rw [xml_print.cells_app];exact HI1.out⟩,HW1,OK1,BK1⟩
    case round=>
     clear hL HI1 HW1 OK1 BK1 hcy0 hcy2
     obtain⟨i,acc1,rfl,HA,HK1,HIr,HWr,OKr,BKr⟩:=hrel
     cases gk with
     | zero=>exact absurd HA.out (by simp [xml_print.l0])
     | succ k1=>
      have H:=HA.out
      clear HA
      simp only [xml_print.l0] at H
      rcases itO H with⟨d1,H1⟩|⟨d1,H1⟩
      ·rcases itO H1 with⟨d2,H2⟩|⟨d2,H2⟩
       ·obtain⟨acc3,A30,H3⟩:=bndO H2
        have A3:=Aside0.mk A30
        have H':=Aside0.mk H3
        clear H H1 H2 A30 H3
        obtain⟨ad,A2,c2,e2,hx0,hx1,hx2,hl2,hi2⟩:=at_T24 HR.out i d2 d1
        cases e2
        replace hx0:=(HWr.out.cell (World.block_lt_of_cell? w0 _ hx0)).trans hx0
        replace hx1:=(HWr.out.cell (World.block_lt_of_cell? w0 _ hx1)).trans hx1
        replace hx2:=(HWr.out.cell (World.block_lt_of_cell? w0 _ hx2)).trans hx2
        have HR2:=Aside0.mk hi2
        have HC2:=Aside0.mk hl2
        clear hi2 hl2
        have d3:decide (i<(l.length:Int))=true:=decide_eq_true d1
        have d4:decide (0≤i)=true:=decide_eq_true d2
        replace d1:=eq_true d1
        replace d2:=eq_true d2
        go_wp2_with (first
         | ((with_reducible refine gate_dst (N:=7) rfl ?_);(try (refine gate_guard (by rfl) ?_;dsimp only));refine box_event ?hg (N:=7) ?hd (cs:=#[.string (⟨#[]⟩ : ByteArray),.string (⟨#[]⟩ : ByteArray),.slice none 0 0]) (t:=24) ?hr ?_;(case hd=>rfl);(case hg=>rfl);(case hr=>first|(go_simp;done)|(go_simp;rfl));intro g2 hg w2 hbox hb;have BK2:=Aside0.mk hbox;have HB2:=Aside0.mk hb;have GE2:=Aside0.mk (show wr.heap.size≤g2 by rw [hg];exact Nat.le_refl _);have hcw0:w2.cell? ⟨g2,0,none⟩=some (.string (⟨#[]⟩ : ByteArray)):=(blk_cell BK2.out 0).trans rfl;have hcw1:w2.cell? ⟨g2,1,none⟩=some (.string (⟨#[]⟩ : ByteArray)):=(blk_cell BK2.out 1).trans rfl;have hcw2:w2.cell? ⟨g2,2,none⟩=some (.slice none 0 0):=(blk_cell BK2.out 2).trans rfl;have hfw0:=blk_frozen BK2.out 0;have hfw1:=blk_frozen BK2.out 1;have hfw2:=blk_frozen BK2.out 2;clear hb hbox hg)
         | ((with_reducible refine gate_callee (f:=48) rfl ?_);refine goesL_ (some 29) rfl rfl Tryd.func48 (by kernel_rfl) rfl #[.pointer (some ⟨b,0,none⟩),.agg #[.string ((rd_T24 l i).f0),.string ((rd_T24 l i).f1),.slice A2 ((rd_T24 l i).f2).length c2],.string (⟨#[]⟩ : ByteArray)] rfl (by(try simp only [List.map_toArray,List.map_cons,List.map_nil]);first|done|rfl|(simp only [List.length_drop,List.length_take];rfl)) ?_;(with_reducible refine(ih k1 (by have:=HK1.out;omega) acc1 ((rd_T24 l i).f0) ((rd_T24 l i).f1) A2 c2 ((rd_T24 l i).f2) (⟨#[]⟩ : ByteArray) acc3 w0 _ b HR2.out HC2.out ?s1 ?s2 A3.out).mono ?_);(case s1=>exact below_step HWr.out (by repeat (first|exact HB2.out|apply pw_below_drewN|apply below_drew1|refine below_set ?_ GE2.out)));(case s2=>exact xml_print.isB_below HIr.out (by repeat (first|exact HB2.out|apply pw_below_drewN|apply below_drew1|refine below_set ?_ GE2.out)));rintro e3 w3 ⟨rfl,hi3,hw3,hk3⟩;refine⟨_,rfl,?_⟩;have HI3:=Aside0.mk hi3;have HW3:=Aside0.mk hw3;have OK3:=Aside0.mk ((xml_print.kept_below OKr.out (by repeat (first|exact HB2.out|apply pw_below_drewN|apply below_drew1|refine below_set ?_ GE2.out))).trans hk3);have BK3:=Aside0.mk (xml_print.kept_at hk3 (blk_below (g:=gb) (o:=.cells #[.string nm,.string tx,.slice (some ad) l.length c] 24 (0,0)) BKr.out (by repeat (first|exact HB2.out|apply pw_below_drewN|apply below_drew1|refine below_set ?_ GE2.out))) NB.out (by decide));clear hi3 hw3 hk3))
        go_roundg k1
        case measure=>have:=HK1.out;omega
        case rel=>exact⟨wrap64 (i+1),acc3,by first|rfl|(simp;done)|(simp [*];done),H',⟨by have:=HK1.out;omega⟩,HI3,HW3,OK3,BK3⟩
       ·exact absurd H2 (by simp)
      ·obtain rfl:=Option.some.inj H1
       clear H H1
       have d3:decide (i<(l.length:Int))=false:=decide_eq_false d1
       clear d1
       have hcy0:wr.cell? ⟨gb,0,none⟩=some (.string nm):=(blk_cell BKr.out 0).trans rfl
       go_wp2_with (go_at_call 37;have hcall:=Bld.WriteString w0.heap.size b _ (((⟨#[60,47]⟩ : ByteArray)++nm)++⟨#[62]⟩) wr HIr.out (by rw [xml_print.cells_size,xml_print.sz2];exact C2.out) HWr.out.size;with_reducible refine hcall.mono ?_;clear hcall;rintro e1 w5 ⟨rfl,hi5,hb5,hk5⟩;have HI5:=Aside0.mk hi5;have HW5:=Aside0.mk (HWr.out.trans hb5);have OK5:=Aside0.mk (OKr.out.trans hk5);clear hi5 hb5 hk5)
       go_end0
       exact⟨rfl,by rw [← hR.out,xml_print.cells_app];exact HI5.out,HW5.out,OK5.out⟩
  ·exact absurd h3 (by simp)
 ·exact absurd h1 (by simp)
theorem xml_print.mono_l:∀ k,(∀ y0 y1 y2 y3 y4,LeO (xml_print.f k y0 y1 y2 y3 y4) (xml_print.f (k+1) y0 y1 y2 y3 y4))∧(∀ y0 y1 y2,LeO (xml_print.l0 k y0 y1 y2) (xml_print.l0 (k+1) y0 y1 y2))
 | 0=>⟨fun _ _ _ _ _ r h=>by simp [xml_print.f] at h,fun _ _ _ r h=>by simp [xml_print.l0] at h⟩
 | k+1=>by
  obtain⟨ih0,ih1⟩:=xml_print.mono_l k
  refine⟨?_,?_⟩
  ·intro y0 y1 y2 y3 y4
   unfold xml_print.f
   with_reducible repeat' first|exact ih0 _ _ _ _ _|exact ih1 _ _ _|exact LeO.refl _|exact LeO.none _|refine LeO.ite ?_ ?_|refine LeO.bind ?_ (fun _=>?_)
  ·intro y0 y1 y2
   unfold xml_print.l0
   with_reducible repeat' first|exact ih0 _ _ _ _ _|exact ih1 _ _ _|exact LeO.refl _|exact LeO.none _|refine LeO.ite ?_ ?_|refine LeO.bind ?_ (fun _=>?_)
theorem xml_print.mono (a0 a1 a2:ByteArray) (a3:List S24) (a4:ByteArray) (k:Nat):LeO (xml_print.f k a0 a1 a2 a3 a4) (xml_print.f (k+1) a0 a1 a2 a3 a4):=(xml_print.mono_l k).1 a0 a1 a2 a3 a4
abbrev xml_Print.head:ByteArray:=⟨#[60,63,120,109,108,32,118,101,114,115,105,111,110,61,34,49,46,48,34,32,101,110,99,111,100,105,110,103,61,34,85,84,70,45,56,34,63,62,10]⟩
abbrev xml_Print.room:ByteArray:=⟨#[32,120,109,108,110,115,61,34,104,116,116,112,58,47,47,115,51,46,97,109,97,122,111,110,97,119,115,46,99,111,109,47,100,111,99,47,50,48,48,54,45,48,51,45,48,49,47,34]⟩
theorem xml_Print.head_len:([]:List Value).length+xml_Print.head.size≤140737488355328:=by decide
def xml_Print.f (k:Nat) (a0_0:ByteArray) (a0_1:ByteArray) (l0_2:List S24) (a1:Bool):Option (ByteArray×Int):=(xml_may.f k a0_0 a0_1 l0_2 1).bind fun m=>(if m=true then((xml_print.f k xml_Print.head a0_0 a0_1 l0_2 (if a1=true then xml_Print.room else(⟨#[]⟩ : ByteArray))).bind fun s=>(if(65536:Int)<(s.size:Int) then some ((⟨#[]⟩ : ByteArray),2) else some (s,0))) else some ((⟨#[]⟩ : ByteArray),130))
theorem xml_Print.mono (a0 a1:ByteArray) (a2:List S24) (a3:Bool) (k:Nat):LeO (xml_Print.f k a0 a1 a2 a3) (xml_Print.f (k+1) a0 a1 a2 a3):=by
 unfold xml_Print.f
 with_reducible repeat' first|exact xml_may.mono _ _ _ _ _|exact xml_print.mono _ _ _ _ _ _|exact LeO.refl _|exact LeO.none _|refine LeO.ite ?_ ?_|refine LeO.bind ?_ (fun _=>?_)
theorem xml_print.isB_made (T e:Nat) {B:Nat} (w:World) (hB:B≤w.heap.size):Lib.IsBuilderF T e B w.heap.size [] (w.alloc (.cells #[.pointer none,.slice none 0 0] T)):=
 .inl ⟨hB,.slice none 0 0,heap_alloc_new w _,⟨rfl,.inl ⟨rfl,rfl⟩⟩,by simp [Value.ownBlock]⟩
theorem xml_Print.calls (k:Nat) (a0_0:ByteArray) (a0_1:ByteArray) (A0_2:Option Addr) (c0_2:Nat) (l0_2:List S24) (a1:Bool) (r1:ByteArray) (r2:Int) (w:World) (hr0_2:Kd.C k24 w A0_2 l0_2.length l0_2) (hc0_2:l0_2.length≤c0_2) (h:xml_Print.f k a0_0 a0_1 l0_2 a1=some (r1,r2)) :
  Calls Tryd.prog 22 #[.agg #[.string a0_0,.string a0_1,.slice A0_2 l0_2.length c0_2],.bool a1] w fun e w'=>e = .returned (.tuple #[.string r1,.int .i64 r2])∧Below w.heap.size w w':=by
 simp only [xml_Print.f] at h
 have hu24:=Tryd.underlying24
 obtain⟨m,hM0,h⟩:=bndO h
 have hM:=Aside0.mk hM0
 have HR:=Aside0.mk hr0_2
 have HC:=Aside0.mk hc0_2
 clear hM0 hr0_2 hc0_2
 cases m with
 | false=>
  rw [if_neg (by decide)] at h
  simp only [Option.some.injEq,Prod.mk.injEq] at h
  obtain⟨rfl,rfl⟩:=h
  go_enter Tryd.func22,Tryd.ntmps22
  go_wp2_with (first
   | ((with_reducible refine gate_dst (N:=2) rfl ?_);(try (refine gate_guard (by rfl) ?_;dsimp only));refine box_event ?hg (N:=2) ?hd (cs:=#[.string a0_0,.string a0_1,.slice A0_2 l0_2.length c0_2]) (t:=24) ?hr ?_;(case hd=>rfl);(case hg=>rfl);(case hr=>first|(go_simp;done)|(go_simp;rfl));intro gb hg w4 hbox hb;have BK:=Aside0.mk hbox;have HB4:=Aside0.mk hb;have HG:=Aside0.mk (show w.heap.size≤gb by rw [hg];exact Nat.le_refl _);have hcz0:w4.cell? ⟨gb,0,none⟩=some (.string a0_0):=(blk_cell BK.out 0).trans rfl;have hcz1:w4.cell? ⟨gb,1,none⟩=some (.string a0_1):=(blk_cell BK.out 1).trans rfl;have hcz2:w4.cell? ⟨gb,2,none⟩=some (.slice A0_2 l0_2.length c0_2):=(blk_cell BK.out 2).trans rfl;clear hb hbox hg)
   | (go_at_call 47;have hcall:=xml_may.calls k a0_0 a0_1 A0_2 c0_2 l0_2 1 false w4 (Kd.C_below HR.out HB4.out) HC.out hM.out;with_reducible refine hcall.mono ?_;clear hcall;rintro e5 w5 ⟨rfl,hb5⟩;have HB5:=Aside0.mk (below_step HB4.out hb5);have BK5:=Aside0.mk (blk_below (g:=gb) (o:=.cells #[.string a0_0,.string a0_1,.slice A0_2 l0_2.length c0_2] 24 (0,0)) BK.out hb5);clear hb5))
  go_ret2
  exact⟨rfl,HB5.out⟩
 | true=>
  rw [if_pos rfl] at h
  obtain⟨s,hP0,h⟩:=bndO h
  have hP:=Aside0.mk hP0
  clear hP0
  by_cases hz:(65536:Int)<(s.size:Int)
  ·rw [if_pos hz] at h
   simp only [Option.some.injEq,Prod.mk.injEq] at h
   obtain⟨rfl,rfl⟩:=h
   have hz':decide ((65536:Int)<(s.size:Int))=true:=decide_eq_true hz
   clear hz
   cases a1 with
   | false=>
    replace hP:=Aside0.mk ((congrArg (fun x=>xml_print.f k xml_Print.head a0_0 a0_1 l0_2 x) (if_neg (by decide))).symm.trans hP.out)
    go_enter Tryd.func22,Tryd.ntmps22
    go_wp2_with (first
     | ((with_reducible refine gate_dst (N:=2) rfl ?_);(try (refine gate_guard (by rfl) ?_;dsimp only));refine box_event ?hg (N:=2) ?hd (cs:=#[.string a0_0,.string a0_1,.slice A0_2 l0_2.length c0_2]) (t:=24) ?hr ?_;(case hd=>rfl);(case hg=>rfl);(case hr=>first|(go_simp;done)|(go_simp;rfl));intro gb hg w4 hbox hb;have BK:=Aside0.mk hbox;have HB4:=Aside0.mk hb;have HG:=Aside0.mk (show w.heap.size≤gb by rw [hg];exact Nat.le_refl _);have hcz0:w4.cell? ⟨gb,0,none⟩=some (.string a0_0):=(blk_cell BK.out 0).trans rfl;have hcz1:w4.cell? ⟨gb,1,none⟩=some (.string a0_1):=(blk_cell BK.out 1).trans rfl;have hcz2:w4.cell? ⟨gb,2,none⟩=some (.slice A0_2 l0_2.length c0_2):=(blk_cell BK.out 2).trans rfl;clear hb hbox hg)
     | (go_at_call 47;have hcall:=xml_may.calls k a0_0 a0_1 A0_2 c0_2 l0_2 1 true w4 (Kd.C_below HR.out HB4.out) HC.out hM.out;with_reducible refine hcall.mono ?_;clear hcall;rintro e5 w5 ⟨rfl,hb5⟩;have HB5:=Aside0.mk (below_step HB4.out hb5);have BK5:=Aside0.mk (blk_below (g:=gb) (o:=.cells #[.string a0_0,.string a0_1,.slice A0_2 l0_2.length c0_2] 24 (0,0)) BK.out hb5);clear hb5)
     | (go_at_call 37;have HB6:=Aside0.mk (below_alloc HB5.out (.cells #[.pointer none,.slice none 0 0] 68));have HI6:=Aside0.mk (xml_print.isB_made 68 5 w5 (below_size HB5.out));have BK6:=Aside0.mk (blk_alloc BK5.out (.cells #[.pointer none,.slice none 0 0] 68));have NB:=Aside0.mk (Nat.ne_of_lt (blk_lt BK5.out));have hcall:=Bld.WriteString w.heap.size w5.heap.size [] xml_Print.head _ HI6.out xml_Print.head_len HB6.out.size;with_reducible refine hcall.mono ?_;clear hcall;rintro e7 w7 ⟨rfl,hi7,hb7,hk7⟩;have HI7:=Aside0.mk hi7;have HB7:=Aside0.mk (HB6.out.trans hb7);have BK7:=Aside0.mk (xml_print.kept_at hk7 BK6.out NB.out (by decide));have hcy0:w7.cell? ⟨gb,0,none⟩=some (.string a0_0):=(blk_cell BK7.out 0).trans rfl;have hcy1:w7.cell? ⟨gb,1,none⟩=some (.string a0_1):=(blk_cell BK7.out 1).trans rfl;have hcy2:w7.cell? ⟨gb,2,none⟩=some (.slice A0_2 l0_2.length c0_2):=(blk_cell BK7.out 2).trans rfl;clear hi7 hb7 hk7)
     | (go_at_call 48;have hcall:=xml_print.calls k xml_Print.head a0_0 a0_1 A0_2 c0_2 l0_2 (⟨#[]⟩ : ByteArray) s w w7 w5.heap.size HR.out HC.out HB7.out HI7.out hP.out;with_reducible refine hcall.mono ?_;clear hcall;rintro e8 w8 ⟨rfl,hi8,hb8,_⟩;have HI8:=Aside0.mk hi8;have HB8:=Aside0.mk hb8;clear hi8 hb8)
     | (go_at_call 49;have hcall:=Tryd.Builder_Len_f w.heap.size w5.heap.size _ w8 HI8.out;rw [xml_print.cells_size] at hcall;with_reducible refine hcall.mono ?_;clear hcall;rintro e9 w9 ⟨rfl,rfl⟩))
    go_ret2
    exact⟨rfl,HB8.out⟩
   | true=>
    replace hP:=Aside0.mk ((congrArg (fun x=>xml_print.f k xml_Print.head a0_0 a0_1 l0_2 x) (if_pos rfl)).symm.trans hP.out)
    go_enter Tryd.func22,Tryd.ntmps22
    go_wp2_with (first
     | ((with_reducible refine gate_dst (N:=2) rfl ?_);(try (refine gate_guard (by rfl) ?_;dsimp only));refine box_event ?hg (N:=2) ?hd (cs:=#[.string a0_0,.string a0_1,.slice A0_2 l0_2.length c0_2]) (t:=24) ?hr ?_;(case hd=>rfl);(case hg=>rfl);(case hr=>first|(go_simp;done)|(go_simp;rfl));intro gb hg w4 hbox hb;have BK:=Aside0.mk hbox;have HB4:=Aside0.mk hb;have HG:=Aside0.mk (show w.heap.size≤gb by rw [hg];exact Nat.le_refl _);have hcz0:w4.cell? ⟨gb,0,none⟩=some (.string a0_0):=(blk_cell BK.out 0).trans rfl;have hcz1:w4.cell? ⟨gb,1,none⟩=some (.string a0_1):=(blk_cell BK.out 1).trans rfl;have hcz2:w4.cell? ⟨gb,2,none⟩=some (.slice A0_2 l0_2.length c0_2):=(blk_cell BK.out 2).trans rfl;clear hb hbox hg)
     | (go_at_call 47;have hcall:=xml_may.calls k a0_0 a0_1 A0_2 c0_2 l0_2 1 true w4 (Kd.C_below HR.out HB4.out) HC.out hM.out;with_reducible refine hcall.mono ?_;clear hcall;rintro e5 w5 ⟨rfl,hb5⟩;have HB5:=Aside0.mk (below_step HB4.out hb5);have BK5:=Aside0.mk (blk_below (g:=gb) (o:=.cells #[.string a0_0,.string a0_1,.slice A0_2 l0_2.length c0_2] 24 (0,0)) BK.out hb5);clear hb5)
     | (go_at_call 37;have HB6:=Aside0.mk (below_alloc HB5.out (.cells #[.pointer none,.slice none 0 0] 68));have HI6:=Aside0.mk (xml_print.isB_made 68 5 w5 (below_size HB5.out));have BK6:=Aside0.mk (blk_alloc BK5.out (.cells #[.pointer none,.slice none 0 0] 68));have NB:=Aside0.mk (Nat.ne_of_lt (blk_lt BK5.out));have hcall:=Bld.WriteString w.heap.size w5.heap.size [] xml_Print.head _ HI6.out xml_Print.head_len HB6.out.size;with_reducible refine hcall.mono ?_;clear hcall;rintro e7 w7 ⟨rfl,hi7,hb7,hk7⟩;have HI7:=Aside0.mk hi7;have HB7:=Aside0.mk (HB6.out.trans hb7);have BK7:=Aside0.mk (xml_print.kept_at hk7 BK6.out NB.out (by decide));have hcy0:w7.cell? ⟨gb,0,none⟩=some (.string a0_0):=(blk_cell BK7.out 0).trans rfl;have hcy1:w7.cell? ⟨gb,1,none⟩=some (.string a0_1):=(blk_cell BK7.out 1).trans rfl;have hcy2:w7.cell? ⟨gb,2,none⟩=some (.slice A0_2 l0_2.length c0_2):=(blk_cell BK7.out 2).trans rfl;clear hi7 hb7 hk7)
     | (go_at_call 48;have hcall:=xml_print.calls k xml_Print.head a0_0 a0_1 A0_2 c0_2 l0_2 xml_Print.room s w w7 w5.heap.size HR.out HC.out HB7.out HI7.out hP.out;with_reducible refine hcall.mono ?_;clear hcall;rintro e8 w8 ⟨rfl,hi8,hb8,_⟩;have HI8:=Aside0.mk hi8;have HB8:=Aside0.mk hb8;clear hi8 hb8)
     | (go_at_call 49;have hcall:=Tryd.Builder_Len_f w.heap.size w5.heap.size _ w8 HI8.out;rw [xml_print.cells_size] at hcall;with_reducible refine hcall.mono ?_;clear hcall;rintro e9 w9 ⟨rfl,rfl⟩))
    go_ret2
    exact⟨rfl,HB8.out⟩
  ·rw [if_neg hz] at h
   simp only [Option.some.injEq,Prod.mk.injEq] at h
   obtain⟨rfl,rfl⟩:=h
   have hz':decide ((65536:Int)<(s.size:Int))=false:=decide_eq_false hz
   clear hz
   cases a1 with
   | false=>
    replace hP:=Aside0.mk ((congrArg (fun x=>xml_print.f k xml_Print.head a0_0 a0_1 l0_2 x) (if_neg (by decide))).symm.trans hP.out)
    go_enter Tryd.func22,Tryd.ntmps22
    go_wp2_with (first
     | ((with_reducible refine gate_dst (N:=2) rfl ?_);(try (refine gate_guard (by rfl) ?_;dsimp only));refine box_event ?hg (N:=2) ?hd (cs:=#[.string a0_0,.string a0_1,.slice A0_2 l0_2.length c0_2]) (t:=24) ?hr ?_;(case hd=>rfl);(case hg=>rfl);(case hr=>first|(go_simp;done)|(go_simp;rfl));intro gb hg w4 hbox hb;have BK:=Aside0.mk hbox;have HB4:=Aside0.mk hb;have HG:=Aside0.mk (show w.heap.size≤gb by rw [hg];exact Nat.le_refl _);have hcz0:w4.cell? ⟨gb,0,none⟩=some (.string a0_0):=(blk_cell BK.out 0).trans rfl;have hcz1:w4.cell? ⟨gb,1,none⟩=some (.string a0_1):=(blk_cell BK.out 1).trans rfl;have hcz2:w4.cell? ⟨gb,2,none⟩=some (.slice A0_2 l0_2.length c0_2):=(blk_cell BK.out 2).trans rfl;clear hb hbox hg)
     | (go_at_call 47;have hcall:=xml_may.calls k a0_0 a0_1 A0_2 c0_2 l0_2 1 true w4 (Kd.C_below HR.out HB4.out) HC.out hM.out;with_reducible refine hcall.mono ?_;clear hcall;rintro e5 w5 ⟨rfl,hb5⟩;have HB5:=Aside0.mk (below_step HB4.out hb5);have BK5:=Aside0.mk (blk_below (g:=gb) (o:=.cells #[.string a0_0,.string a0_1,.slice A0_2 l0_2.length c0_2] 24 (0,0)) BK.out hb5);clear hb5)
     | (go_at_call 37;have HB6:=Aside0.mk (below_alloc HB5.out (.cells #[.pointer none,.slice none 0 0] 68));have HI6:=Aside0.mk (xml_print.isB_made 68 5 w5 (below_size HB5.out));have BK6:=Aside0.mk (blk_alloc BK5.out (.cells #[.pointer none,.slice none 0 0] 68));have NB:=Aside0.mk (Nat.ne_of_lt (blk_lt BK5.out));have hcall:=Bld.WriteString w.heap.size w5.heap.size [] xml_Print.head _ HI6.out xml_Print.head_len HB6.out.size;with_reducible refine hcall.mono ?_;clear hcall;rintro e7 w7 ⟨rfl,hi7,hb7,hk7⟩;have HI7:=Aside0.mk hi7;have HB7:=Aside0.mk (HB6.out.trans hb7);have BK7:=Aside0.mk (xml_print.kept_at hk7 BK6.out NB.out (by decide));have hcy0:w7.cell? ⟨gb,0,none⟩=some (.string a0_0):=(blk_cell BK7.out 0).trans rfl;have hcy1:w7.cell? ⟨gb,1,none⟩=some (.string a0_1):=(blk_cell BK7.out 1).trans rfl;have hcy2:w7.cell? ⟨gb,2,none⟩=some (.slice A0_2 l0_2.length c0_2):=(blk_cell BK7.out 2).trans rfl;clear hi7 hb7 hk7)
     | (go_at_call 48;have hcall:=xml_print.calls k xml_Print.head a0_0 a0_1 A0_2 c0_2 l0_2 (⟨#[]⟩ : ByteArray) s w w7 w5.heap.size HR.out HC.out HB7.out HI7.out hP.out;with_reducible refine hcall.mono ?_;clear hcall;rintro e8 w8 ⟨rfl,hi8,hb8,_⟩;have HI8:=Aside0.mk hi8;have HB8:=Aside0.mk hb8;clear hi8 hb8)
     | (go_at_call 49;have hcall:=Tryd.Builder_Len_f w.heap.size w5.heap.size _ w8 HI8.out;rw [xml_print.cells_size] at hcall;with_reducible refine hcall.mono ?_;clear hcall;rintro e9 w9 ⟨rfl,rfl⟩)
     | (go_at_call 38;have hcall:=Bld.String_ w.heap.size w5.heap.size _ _ HI8.out HB8.out.size;with_reducible refine hcall.mono ?_;clear hcall;rintro e9 w10 ⟨rfl,hb10⟩;have HB10:=Aside0.mk (HB8.out.trans hb10);clear hb10))
    go_ret2
    exact⟨rfl,HB10.out⟩
   | true=>
    replace hP:=Aside0.mk ((congrArg (fun x=>xml_print.f k xml_Print.head a0_0 a0_1 l0_2 x) (if_pos rfl)).symm.trans hP.out)
    go_enter Tryd.func22,Tryd.ntmps22
    go_wp2_with (first
     | ((with_reducible refine gate_dst (N:=2) rfl ?_);(try (refine gate_guard (by rfl) ?_;dsimp only));refine box_event ?hg (N:=2) ?hd (cs:=#[.string a0_0,.string a0_1,.slice A0_2 l0_2.length c0_2]) (t:=24) ?hr ?_;(case hd=>rfl);(case hg=>rfl);(case hr=>first|(go_simp;done)|(go_simp;rfl));intro gb hg w4 hbox hb;have BK:=Aside0.mk hbox;have HB4:=Aside0.mk hb;have HG:=Aside0.mk (show w.heap.size≤gb by rw [hg];exact Nat.le_refl _);have hcz0:w4.cell? ⟨gb,0,none⟩=some (.string a0_0):=(blk_cell BK.out 0).trans rfl;have hcz1:w4.cell? ⟨gb,1,none⟩=some (.string a0_1):=(blk_cell BK.out 1).trans rfl;have hcz2:w4.cell? ⟨gb,2,none⟩=some (.slice A0_2 l0_2.length c0_2):=(blk_cell BK.out 2).trans rfl;clear hb hbox hg)
     | (go_at_call 47;have hcall:=xml_may.calls k a0_0 a0_1 A0_2 c0_2 l0_2 1 true w4 (Kd.C_below HR.out HB4.out) HC.out hM.out;with_reducible refine hcall.mono ?_;clear hcall;rintro e5 w5 ⟨rfl,hb5⟩;have HB5:=Aside0.mk (below_step HB4.out hb5);have BK5:=Aside0.mk (blk_below (g:=gb) (o:=.cells #[.string a0_0,.string a0_1,.slice A0_2 l0_2.length c0_2] 24 (0,0)) BK.out hb5);clear hb5)
     | (go_at_call 37;have HB6:=Aside0.mk (below_alloc HB5.out (.cells #[.pointer none,.slice none 0 0] 68));have HI6:=Aside0.mk (xml_print.isB_made 68 5 w5 (below_size HB5.out));have BK6:=Aside0.mk (blk_alloc BK5.out (.cells #[.pointer none,.slice none 0 0] 68));have NB:=Aside0.mk (Nat.ne_of_lt (blk_lt BK5.out));have hcall:=Bld.WriteString w.heap.size w5.heap.size [] xml_Print.head _ HI6.out xml_Print.head_len HB6.out.size;with_reducible refine hcall.mono ?_;clear hcall;rintro e7 w7 ⟨rfl,hi7,hb7,hk7⟩;have HI7:=Aside0.mk hi7;have HB7:=Aside0.mk (HB6.out.trans hb7);have BK7:=Aside0.mk (xml_print.kept_at hk7 BK6.out NB.out (by decide));have hcy0:w7.cell? ⟨gb,0,none⟩=some (.string a0_0):=(blk_cell BK7.out 0).trans rfl;have hcy1:w7.cell? ⟨gb,1,none⟩=some (.string a0_1):=(blk_cell BK7.out 1).trans rfl;have hcy2:w7.cell? ⟨gb,2,none⟩=some (.slice A0_2 l0_2.length c0_2):=(blk_cell BK7.out 2).trans rfl;clear hi7 hb7 hk7)
     | (go_at_call 48;have hcall:=xml_print.calls k xml_Print.head a0_0 a0_1 A0_2 c0_2 l0_2 xml_Print.room s w w7 w5.heap.size HR.out HC.out HB7.out HI7.out hP.out;with_reducible refine hcall.mono ?_;clear hcall;rintro e8 w8 ⟨rfl,hi8,hb8,_⟩;have HI8:=Aside0.mk hi8;have HB8:=Aside0.mk hb8;clear hi8 hb8)
     | (go_at_call 49;have hcall:=Tryd.Builder_Len_f w.heap.size w5.heap.size _ w8 HI8.out;rw [xml_print.cells_size] at hcall;with_reducible refine hcall.mono ?_;clear hcall;rintro e9 w9 ⟨rfl,rfl⟩)
     | (go_at_call 38;have hcall:=Bld.String_ w.heap.size w5.heap.size _ _ HI8.out HB8.out.size;with_reducible refine hcall.mono ?_;clear hcall;rintro e9 w10 ⟨rfl,hb10⟩;have HB10:=Aside0.mk (HB8.out.trans hb10);clear hb10))
    go_ret2
    exact⟨rfl,HB10.out⟩
def stowageref13_letter.f (a0:Int):Option (Bool):=if a0 ≥ 65 then(if a0≤90 then(some true) else(if a0 ≥ 97 then(if a0≤122 then(some true) else(some (a0 == 95))) else(some (a0 == 95)))) else(if a0 ≥ 97 then(if a0≤122 then(some true) else(some (a0 == 95))) else(some (a0 == 95)))
theorem stowageref13_letter.calls (a0:Int) (r:Bool) (w:World) (h:stowageref13_letter.f a0=some r) :
  Calls Tryd.prog 45 #[.int .u8 a0] w fun e w'=>e = .returned (.bool r)∧Drawn0 w w':=by
 unfold stowageref13_letter.f at h
 have H:=h
 clear h
 replace H:=itO H
 rcases H with⟨c2,H⟩|⟨c2,H⟩
 ·skip
  have c2b0:decide (65≤a0)=true:=decide_eq_true c2
  clear c2
  replace H:=itO H
  rcases H with⟨c3,H⟩|⟨c3,H⟩
  ·skip
   have c3b0:decide (a0≤90)=true:=decide_eq_true c3
   clear c3
   obtain rfl:=Option.some.inj H
   go_enter Tryd.func45,Tryd.ntmps45
   go_wp2
   go_ret
   exact⟨by first|rfl|(simp;done)|(simp [*];done),by repeat (first|exact Drawn0.refl _|apply Drawn0.step)⟩
  ·skip
   have c3b0:decide (a0≤90)=false:=decide_eq_false c3
   clear c3
   replace H:=itO H
   rcases H with⟨c4,H⟩|⟨c4,H⟩
   ·skip
    have c4b0:decide (97≤a0)=true:=decide_eq_true c4
    clear c4
    replace H:=itO H
    rcases H with⟨c5,H⟩|⟨c5,H⟩
    ·skip
     have c5b0:decide (a0≤122)=true:=decide_eq_true c5
     clear c5
     obtain rfl:=Option.some.inj H
     go_enter Tryd.func45,Tryd.ntmps45
     go_wp2
     go_ret
     exact⟨by first|rfl|(simp;done)|(simp [*];done),by repeat (first|exact Drawn0.refl _|apply Drawn0.step)⟩
    ·skip
     have c5b0:decide (a0≤122)=false:=decide_eq_false c5
     clear c5
     obtain rfl:=Option.some.inj H
     go_enter Tryd.func45,Tryd.ntmps45
     go_wp2
     go_ret
     exact⟨by first|rfl|(simp;done)|(simp [*];done),by repeat (first|exact Drawn0.refl _|apply Drawn0.step)⟩
   ·skip
    have c4b0:decide (97≤a0)=false:=decide_eq_false c4
    clear c4
    obtain rfl:=Option.some.inj H
    go_enter Tryd.func45,Tryd.ntmps45
    go_wp2
    go_ret
    exact⟨by first|rfl|(simp;done)|(simp [*];done),by repeat (first|exact Drawn0.refl _|apply Drawn0.step)⟩
 ·skip
  have c2b0:decide (65≤a0)=false:=decide_eq_false c2
  clear c2
  replace H:=itO H
  rcases H with⟨c6,H⟩|⟨c6,H⟩
  ·skip
   have c6b0:decide (97≤a0)=true:=decide_eq_true c6
   clear c6
   replace H:=itO H
   rcases H with⟨c7,H⟩|⟨c7,H⟩
   ·skip
    have c7b0:decide (a0≤122)=true:=decide_eq_true c7
    clear c7
    obtain rfl:=Option.some.inj H
    go_enter Tryd.func45,Tryd.ntmps45
    go_wp2
    go_ret
    exact⟨by first|rfl|(simp;done)|(simp [*];done),by repeat (first|exact Drawn0.refl _|apply Drawn0.step)⟩
   ·skip
    have c7b0:decide (a0≤122)=false:=decide_eq_false c7
    clear c7
    obtain rfl:=Option.some.inj H
    go_enter Tryd.func45,Tryd.ntmps45
    go_wp2
    go_ret
    exact⟨by first|rfl|(simp;done)|(simp [*];done),by repeat (first|exact Drawn0.refl _|apply Drawn0.step)⟩
  ·skip
   have c6b0:decide (97≤a0)=false:=decide_eq_false c6
   clear c6
   obtain rfl:=Option.some.inj H
   go_enter Tryd.func45,Tryd.ntmps45
   go_wp2
   go_ret
   exact⟨by first|rfl|(simp;done)|(simp [*];done),by repeat (first|exact Drawn0.refl _|apply Drawn0.step)⟩
def stowageref13_inner.f (a0:Int):Option (Bool):=(stowageref13_letter.f a0).bind fun t165=>(if t165=true then(some true) else(if a0 ≥ 48 then(if a0≤57 then(some true) else(if a0=45 then(some true) else(some (a0 == 46)))) else(if a0=45 then(some true) else(some (a0 == 46)))))
theorem stowageref13_inner.calls (a0:Int) (r:Bool) (w:World) (h:stowageref13_inner.f a0=some r) :
  Calls Tryd.prog 44 #[.int .u8 a0] w fun e w'=>e = .returned (.bool r)∧Drawn0 w w':=by
 unfold stowageref13_inner.f at h
 have H:=h
 clear h
 replace H:=bndO H
 obtain⟨t165,A20,H⟩:=H
 have A2:=Aside0.mk A20
 clear A20
 by_cases c3:t165=true
 ·subst c3
  replace H:=itT H
  obtain rfl:=Option.some.inj H
  go_enter Tryd.func44,Tryd.ntmps44
  go_wp2_with (first|((with_reducible refine gate_callee (f:=45) rfl ?_);refine goesL_ (some 4) rfl rfl Tryd.func45 (by kernel_rfl) rfl #[.int .u8 a0] rfl (by(try simp only [List.map_toArray,List.map_cons,List.map_nil]);first|done|rfl|(simp only [List.length_drop,List.length_take];rfl)) ?_;(with_reducible refine(stowageref13_letter.calls a0 true _ A2.out).mono ?_);rintro e w' ⟨rfl,⟨nd,rfl⟩⟩;refine⟨_,rfl,?_⟩))
  go_ret
  exact⟨by first|rfl|(simp;done)|(simp [*];done),by repeat (first|exact Drawn0.refl _|apply Drawn0.step)⟩
 ·replace c3:=Bool.eq_false_iff.mpr c3
  subst c3
  replace H:=itF H
  replace H:=itO H
  rcases H with⟨c4,H⟩|⟨c4,H⟩
  ·skip
   have c4b0:decide (48≤a0)=true:=decide_eq_true c4
   clear c4
   replace H:=itO H
   rcases H with⟨c5,H⟩|⟨c5,H⟩
   ·skip
    have c5b0:decide (a0≤57)=true:=decide_eq_true c5
    clear c5
    obtain rfl:=Option.some.inj H
    go_enter Tryd.func44,Tryd.ntmps44
    go_wp2_with (first|((with_reducible refine gate_callee (f:=45) rfl ?_);refine goesL_ (some 4) rfl rfl Tryd.func45 (by kernel_rfl) rfl #[.int .u8 a0] rfl (by(try simp only [List.map_toArray,List.map_cons,List.map_nil]);first|done|rfl|(simp only [List.length_drop,List.length_take];rfl)) ?_;(with_reducible refine(stowageref13_letter.calls a0 false _ A2.out).mono ?_);rintro e w' ⟨rfl,⟨nd,rfl⟩⟩;refine⟨_,rfl,?_⟩))
    go_ret
    exact⟨by first|rfl|(simp;done)|(simp [*];done),by repeat (first|exact Drawn0.refl _|apply Drawn0.step)⟩
   ·skip
    have c5b0:decide (a0≤57)=false:=decide_eq_false c5
    clear c5
    replace H:=itO H
    rcases H with⟨c6,H⟩|⟨c6,H⟩
    ·skip
     have c6b0:(a0 == 45)=true:=beq_iff_eq.mpr c6
     have c6b1:(a0 != 45)=false:=bne_eq_false_iff_eq.mpr c6
     clear c6
     obtain rfl:=Option.some.inj H
     go_enter Tryd.func44,Tryd.ntmps44
     go_wp2_with (first|((with_reducible refine gate_callee (f:=45) rfl ?_);refine goesL_ (some 4) rfl rfl Tryd.func45 (by kernel_rfl) rfl #[.int .u8 a0] rfl (by(try simp only [List.map_toArray,List.map_cons,List.map_nil]);first|done|rfl|(simp only [List.length_drop,List.length_take];rfl)) ?_;(with_reducible refine(stowageref13_letter.calls a0 false _ A2.out).mono ?_);rintro e w' ⟨rfl,⟨nd,rfl⟩⟩;refine⟨_,rfl,?_⟩))
     go_ret
     exact⟨by first|rfl|(simp;done)|(simp [*];done),by repeat (first|exact Drawn0.refl _|apply Drawn0.step)⟩
    ·skip
     have c6b0:(a0 == 45)=false:=beq_eq_false_iff_ne.mpr c6
     have c6b1:(a0 != 45)=true:=bne_iff_ne.mpr c6
     obtain rfl:=Option.some.inj H
     go_enter Tryd.func44,Tryd.ntmps44
     go_wp2_with (first|((with_reducible refine gate_callee (f:=45) rfl ?_);refine goesL_ (some 4) rfl rfl Tryd.func45 (by kernel_rfl) rfl #[.int .u8 a0] rfl (by(try simp only [List.map_toArray,List.map_cons,List.map_nil]);first|done|rfl|(simp only [List.length_drop,List.length_take];rfl)) ?_;(with_reducible refine(stowageref13_letter.calls a0 false _ A2.out).mono ?_);rintro e w' ⟨rfl,⟨nd,rfl⟩⟩;refine⟨_,rfl,?_⟩))
     go_ret
     exact⟨by first|rfl|(simp;done)|(simp [*];done),by repeat (first|exact Drawn0.refl _|apply Drawn0.step)⟩
  ·skip
   have c4b0:decide (48≤a0)=false:=decide_eq_false c4
   clear c4
   replace H:=itO H
   rcases H with⟨c7,H⟩|⟨c7,H⟩
   ·skip
    have c7b0:(a0 == 45)=true:=beq_iff_eq.mpr c7
    have c7b1:(a0 != 45)=false:=bne_eq_false_iff_eq.mpr c7
    clear c7
    obtain rfl:=Option.some.inj H
    go_enter Tryd.func44,Tryd.ntmps44
    go_wp2_with (first|((with_reducible refine gate_callee (f:=45) rfl ?_);refine goesL_ (some 4) rfl rfl Tryd.func45 (by kernel_rfl) rfl #[.int .u8 a0] rfl (by(try simp only [List.map_toArray,List.map_cons,List.map_nil]);first|done|rfl|(simp only [List.length_drop,List.length_take];rfl)) ?_;(with_reducible refine(stowageref13_letter.calls a0 false _ A2.out).mono ?_);rintro e w' ⟨rfl,⟨nd,rfl⟩⟩;refine⟨_,rfl,?_⟩))
    go_ret
    exact⟨by first|rfl|(simp;done)|(simp [*];done),by repeat (first|exact Drawn0.refl _|apply Drawn0.step)⟩
   ·skip
    have c7b0:(a0 == 45)=false:=beq_eq_false_iff_ne.mpr c7
    have c7b1:(a0 != 45)=true:=bne_iff_ne.mpr c7
    obtain rfl:=Option.some.inj H
    go_enter Tryd.func44,Tryd.ntmps44
    go_wp2_with (first|((with_reducible refine gate_callee (f:=45) rfl ?_);refine goesL_ (some 4) rfl rfl Tryd.func45 (by kernel_rfl) rfl #[.int .u8 a0] rfl (by(try simp only [List.map_toArray,List.map_cons,List.map_nil]);first|done|rfl|(simp only [List.length_drop,List.length_take];rfl)) ?_;(with_reducible refine(stowageref13_letter.calls a0 false _ A2.out).mono ?_);rintro e w' ⟨rfl,⟨nd,rfl⟩⟩;refine⟨_,rfl,?_⟩))
    go_ret
    exact⟨by first|rfl|(simp;done)|(simp [*];done),by repeat (first|exact Drawn0.refl _|apply Drawn0.step)⟩
def stowageref13_Name.l0:Nat→ByteArray→Int→Option (Bool)
 | 0,_,_=>none
 | k+1,x0,x3=>if x3<(x0.size:Int) then(if 0≤x3 then((stowageref13_inner.f (bt x0 x3)).bind fun t166=>(if t166=true then(stowageref13_Name.l0 k x0 (wrap64 (x3+1))) else(some false))) else(none)) else(if(x0.size:Int)>0 then(if 0<(x0.size:Int) then((stowageref13_letter.f (bt x0 0)).bind fun t167=>(some t167)) else(none)) else(some false))
def stowageref13_Name.f (k:Nat) (a0:ByteArray):Option (Bool):=stowageref13_Name.l0 k a0 0
theorem stowageref13_Name.mono_l:∀ k,(∀ y0 y1,LeO (stowageref13_Name.l0 k y0 y1) (stowageref13_Name.l0 (k+1) y0 y1))
 | 0=>fun _ _ r h=>by simp [stowageref13_Name.l0] at h
 | k+1=>by
  have ih0:=stowageref13_Name.mono_l k
  ·intro y0 y1
   unfold stowageref13_Name.l0
   repeat' first
   | (with_reducible exact ih0 _ _)
   | (with_reducible exact LeO.refl _)
   | (with_reducible exact LeO.none _)
   | (with_reducible refine LeO.ite ?_ ?_)
   | (with_reducible refine LeO.bind ?_ (fun _=>?_))
   | exact ih0 _ _
   | exact LeO.none _
   | refine LeO.ite ?_ ?_
   | refine LeO.bind ?_ (fun _=>?_)
theorem stowageref13_Name.mono:∀ a0 k,LeO (stowageref13_Name.f k a0) (stowageref13_Name.f (k+1) a0):=by
 intro a0 k
 have ih0:=stowageref13_Name.mono_l k
 unfold stowageref13_Name.f
 repeat' first
   | (with_reducible exact ih0 _ _)
   | (with_reducible exact LeO.refl _)
   | (with_reducible exact LeO.none _)
   | (with_reducible refine LeO.ite ?_ ?_)
   | (with_reducible refine LeO.bind ?_ (fun _=>?_))
   | exact ih0 _ _
   | exact LeO.none _
   | refine LeO.ite ?_ ?_
   | refine LeO.bind ?_ (fun _=>?_)
theorem stowageref13_Name.calls (k:Nat) (a0:ByteArray) (r:Bool) (w:World) (h:stowageref13_Name.f k a0=some r) :
  Calls Tryd.prog 18 #[.string a0] w fun e w'=>e = .returned (.bool r)∧Drawn0 w w':=by
 unfold stowageref13_Name.f at h
 have H:=h
 clear h
 have H':=Aside0.mk H
 clear H
 go_enter Tryd.func18,Tryd.ntmps18
 go_wp2
 go_loopg [3] k (fun kq v3 w'=>∃ (x3_1:Int),v3 = .int .i64 x3_1∧Aside0 (stowageref13_Name.l0 kq a0 x3_1=some r)∧Aside0 (kq≤k)∧Drawn0 w w')
 case atStart=>exact⟨(0),(by first|rfl|(simp;done)|(simp [*];done)),H',⟨Nat.le_refl _⟩,by repeat (first|exact Drawn0.refl _|apply Drawn0.step)⟩
 case round=>
  clear H'
  try clear c1
  obtain⟨x3_1,rfl,HA,HK1,⟨m1,rfl⟩⟩:=hrel
  cases gk with
  | zero=>exact absurd HA.out (by simp [stowageref13_Name.l0])
  | succ k1=>
   have H:=HA.out
   clear HA
   simp only [stowageref13_Name.l0] at H
   replace H:=itO H
   rcases H with⟨c2,H⟩|⟨c2,H⟩
   ·skip
    have c2b0:decide (x3_1<(a0.size:Int))=true:=decide_eq_true c2
    clear c2
    replace H:=itO H
    rcases H with⟨c3,H⟩|⟨c3,H⟩
    ·skip
     have c3b0:decide (0≤x3_1)=true:=decide_eq_true c3
     clear c3
     replace H:=bndO H
     obtain⟨t166,A50,H⟩:=H
     have A5:=Aside0.mk A50
     clear A50
     by_cases c6:t166=true
     ·subst c6
      replace H:=itT H
      have H':=Aside0.mk H
      clear H
      have p4:0≤(x3_1:Int):=of_decide_eq_true (by first|(with_reducible assumption)|assumption)
      have q4:x3_1<(a0.size:Int):=of_decide_eq_true (by first|(with_reducible assumption)|assumption)
      have hx4:=bt_at a0 x3_1
      replace p4:=eq_true p4
      replace q4:=eq_true q4
      go_wp2_with (first|((with_reducible refine gate_callee (f:=44) rfl ?_);refine goesL_ (some 13) rfl rfl Tryd.func44 (by kernel_rfl) rfl #[.int .u8 (bt a0 x3_1)] rfl (by(try simp only [List.map_toArray,List.map_cons,List.map_nil]);first|done|rfl|(simp only [List.length_drop,List.length_take];rfl)) ?_;(with_reducible refine(stowageref13_inner.calls (bt a0 x3_1) true _ A5.out).mono ?_);rintro e w' ⟨rfl,⟨nd,rfl⟩⟩;refine⟨_,rfl,?_⟩))
      go_roundg k1
      case measure=>have:=HK1.out;omega
      case rel=>exact⟨(wrap64 (x3_1+1)),(by first|rfl|(simp;done)|(simp [*];done)),H',⟨by have:=HK1.out;omega⟩,by repeat (first|exact Drawn0.refl _|apply Drawn0.step)⟩
     ·replace c6:=Bool.eq_false_iff.mpr c6
      subst c6
      replace H:=itF H
      obtain rfl:=Option.some.inj H
      have p4:0≤(x3_1:Int):=of_decide_eq_true (by first|(with_reducible assumption)|assumption)
      have q4:x3_1<(a0.size:Int):=of_decide_eq_true (by first|(with_reducible assumption)|assumption)
      have hx4:=bt_at a0 x3_1
      replace p4:=eq_true p4
      replace q4:=eq_true q4
      go_wp2_with (first|((with_reducible refine gate_callee (f:=44) rfl ?_);refine goesL_ (some 13) rfl rfl Tryd.func44 (by kernel_rfl) rfl #[.int .u8 (bt a0 x3_1)] rfl (by(try simp only [List.map_toArray,List.map_cons,List.map_nil]);first|done|rfl|(simp only [List.length_drop,List.length_take];rfl)) ?_;(with_reducible refine(stowageref13_inner.calls (bt a0 x3_1) false _ A5.out).mono ?_);rintro e w' ⟨rfl,⟨nd,rfl⟩⟩;refine⟨_,rfl,?_⟩))
      go_ret
      exact⟨by first|rfl|(simp;done)|(simp [*];done),by repeat (first|exact Drawn0.refl _|apply Drawn0.step)⟩
    ·exact absurd H (by simp)
   ·skip
    have c2b0:decide (x3_1<(a0.size:Int))=false:=decide_eq_false c2
    clear c2
    replace H:=itO H
    rcases H with⟨c7,H⟩|⟨c7,H⟩
    ·skip
     have c7b0:decide (0<(a0.size:Int))=true:=decide_eq_true c7
     have c7b1:decide (0<a0.size)=true:=decide_eq_true (by omega)
     clear c7
     replace H:=itO H
     rcases H with⟨c8,H⟩|⟨c8,H⟩
     ·skip
      have c8b0:decide (0<(a0.size:Int))=true:=decide_eq_true c8
      have c8b1:decide (0<a0.size)=true:=decide_eq_true (by omega)
      clear c8
      replace H:=bndO H
      obtain⟨t167,A100,H⟩:=H
      have A10:=Aside0.mk A100
      clear A100
      obtain rfl:=Option.some.inj H
      have p9:0≤(0:Int):=(by omega)
      have q9:0<a0.size:=(by have:(0:Int)<(a0.size:Int):=of_decide_eq_true (by first|(with_reducible assumption)|assumption);omega)
      have hx9:∀ h:0<a0.size,((a0[0]'h).toNat:Int)=bt a0 0:=bt_at a0 0
      clear p9
      have qi9:(0<(a0.size:Int))=True:=eq_true (of_decide_eq_true (by first|(with_reducible assumption)|assumption))
      replace q9:=eq_true q9
      go_wp2_with (first|(go_at_call 45;(with_reducible refine(stowageref13_letter.calls (bt a0 0) t167 _ A10.out).mono ?_);rintro e w' ⟨rfl,⟨nd,rfl⟩⟩))
      go_ret
      exact⟨by first|rfl|(simp;done)|(simp [*];done),by repeat (first|exact Drawn0.refl _|apply Drawn0.step)⟩
     ·exact absurd H (by simp)
    ·skip
     have c7b0:decide (0<(a0.size:Int))=false:=decide_eq_false c7
     have c7b1:decide (0<a0.size)=false:=decide_eq_false (by omega)
     clear c7
     obtain rfl:=Option.some.inj H
     go_wp2
     go_ret
     exact⟨by first|rfl|(simp;done)|(simp [*];done),by repeat (first|exact Drawn0.refl _|apply Drawn0.step)⟩
mutual
def stowageref13_fit.j0:Nat→Int→Bool→ByteArray→ByteArray→List (S30)→Option (Bool)
  | 0,_,_,_,_,_=>none
  | k+1,x1,x30,x278000,x278001,x278002=>if x30=true then(some false) else(stowageref13_fit.l0 k x1 0 x278000 x278001 x278002)
def stowageref13_fit.l0:Nat→Int→Int→ByteArray→ByteArray→List (S30)→Option (Bool)
  | 0,_,_,_,_,_=>none
  | k+1,x1,x5,x278000,x278001,x278002=>if x5<(x278002.length:Int) then(if 0≤x5 then((stowageref13_fit.f k ((rd_T30 x278002 x5).f0) ((rd_T30 x278002 x5).f1) ((rd_T30 x278002 x5).f2) (wrap64 (x1+1))).bind fun t281=>(if t281=true then(stowageref13_fit.l0 k x1 (wrap64 (x5+1)) x278000 x278001 x278002) else(some false))) else(none)) else(some true)
def stowageref13_fit.f:Nat→ByteArray→ByteArray→List (S30)→Int→Option (Bool)
  | 0,_,_,_,_=>none
  | k+1,a0_0,a0_1,l0_2,a1=>if a1>16 then(stowageref13_fit.j0 k a1 true a0_0 a0_1 l0_2) else((stowageref13_Name.f k a0_0).bind fun t278=>(if t278=true then((stowageref3_Legal.f k a0_1).bind fun t279=>(if t279=true then(if a0_1.toList=([]:List UInt8) then(stowageref13_fit.j0 k a1 false a0_0 a0_1 l0_2) else(stowageref13_fit.j0 k a1 (decide ((l0_2.length:Int)>0)) a0_0 a0_1 l0_2)) else(stowageref13_fit.j0 k a1 true a0_0 a0_1 l0_2))) else(stowageref13_fit.j0 k a1 true a0_0 a0_1 l0_2)))
end
theorem stowageref13_fit.mono_l:∀ k,(∀ y0 y1 y2 y3,LeO (stowageref13_fit.f k y0 y1 y2 y3) (stowageref13_fit.f (k+1) y0 y1 y2 y3))∧(∀ y0 y1 y2 y3 y4,LeO (stowageref13_fit.j0 k y0 y1 y2 y3 y4) (stowageref13_fit.j0 (k+1) y0 y1 y2 y3 y4))∧(∀ y0 y1 y2 y3 y4,LeO (stowageref13_fit.l0 k y0 y1 y2 y3 y4) (stowageref13_fit.l0 (k+1) y0 y1 y2 y3 y4))
  | 0=>⟨fun _ _ _ _ r h=>by simp [stowageref13_fit.f] at h,fun _ _ _ _ _ r h=>by simp [stowageref13_fit.j0] at h,fun _ _ _ _ _ r h=>by simp [stowageref13_fit.l0] at h⟩
  | k+1=>by
    obtain⟨ih0,ih1,ih2⟩:=stowageref13_fit.mono_l k
    refine⟨?_,?_,?_⟩
    · intro y0 y1 y2 y3
      unfold stowageref13_fit.f
      with_reducible repeat' first|exact ih0 _ _ _ _|exact ih1 _ _ _ _ _|exact ih2 _ _ _ _ _|exact stowageref13_Name.mono _ _|exact stowageref3_Legal.mono _ _|exact LeO.refl _|exact LeO.none _|refine LeO.ite ?_ ?_|refine LeO.bind ?_ (fun _=>?_)
    · intro y0 y1 y2 y3 y4
      unfold stowageref13_fit.j0
      with_reducible repeat' first|exact ih0 _ _ _ _|exact ih1 _ _ _ _ _|exact ih2 _ _ _ _ _|exact stowageref13_Name.mono _ _|exact stowageref3_Legal.mono _ _|exact LeO.refl _|exact LeO.none _|refine LeO.ite ?_ ?_|refine LeO.bind ?_ (fun _=>?_)
    · intro y0 y1 y2 y3 y4
      unfold stowageref13_fit.l0
      with_reducible repeat' first|exact ih0 _ _ _ _|exact ih1 _ _ _ _ _|exact ih2 _ _ _ _ _|exact stowageref13_Name.mono _ _|exact stowageref3_Legal.mono _ _|exact LeO.refl _|exact LeO.none _|refine LeO.ite ?_ ?_|refine LeO.bind ?_ (fun _=>?_)
theorem stowageref13_fit.mono:∀ a0 a1 a2 a3 k,LeO (stowageref13_fit.f k a0 a1 a2 a3) (stowageref13_fit.f (k+1) a0 a1 a2 a3):=by
 intro a0 a1 a2 a3 k
 obtain⟨ih0,ih1,ih2⟩:=stowageref13_fit.mono_l k
 exact ih0 a0 a1 a2 a3
theorem stowageref13_fit.calls (k:Nat):∀ (a0_0:ByteArray) (a0_1:ByteArray) (A0_2:Option Addr) (c0_2:Nat) (l0_2:List (S30)) (a1:Int) (r:Bool) (w:World) (hr0_2:Kd.C k30 w A0_2 l0_2.length l0_2) (hc0_2:l0_2.length≤c0_2) (h:stowageref13_fit.f k a0_0 a0_1 l0_2 a1=some r),
    Calls Tryd.prog 50 #[.agg #[.string a0_0,.string a0_1,.slice A0_2 l0_2.length c0_2],.int .i64 a1] w fun e w'=>e = .returned (.bool r)∧Below w.heap.size w w':=by
 induction k using Nat.strongRecOn with
 | _ k ih=>
 intro a0_0 a0_1 A0_2 c0_2 l0_2 a1 r w hr0_2 hc0_2 h
 cases k with
 | zero=>exact absurd h (by simp [stowageref13_fit.f])
 | succ k=>
 simp only [stowageref13_fit.f] at h
 have hu30:=Tryd.underlying30
 have HR0_2:=Aside0.mk hr0_2
 have HC0_2:=Aside0.mk hc0_2
 clear hr0_2 hc0_2
 have HB:=Aside0.mk (Below.refl w.heap.size w)
 have H:(if a1>16 then(stowageref13_fit.j0 k a1 true a0_0 a0_1 l0_2) else((stowageref13_Name.f k a0_0).bind fun t278=>(if t278=true then((stowageref3_Legal.f k a0_1).bind fun t279=>(if t279=true then(if a0_1.toList=([]:List UInt8) then(stowageref13_fit.j0 k a1 false a0_0 a0_1 l0_2) else(stowageref13_fit.j0 k a1 (decide ((l0_2.length:Int)>0)) a0_0 a0_1 l0_2)) else(stowageref13_fit.j0 k a1 true a0_0 a0_1 l0_2))) else(stowageref13_fit.j0 k a1 true a0_0 a0_1 l0_2))))=some r:=h
 clear h
 have HC3:=Aside0.mk H
 clear H
 go_enter Tryd.func50,Tryd.ntmps50
 go_upto_region 1 with(first|((with_reducible refine gate_dst (N:=2) rfl ?_);(try (refine gate_guard (by rfl) ?_;dsimp only));refine box_event ?hg (N:=2) ?hd (cs:=#[.string a0_0,.string a0_1,.slice A0_2 l0_2.length c0_2]) (t:=30) ?hr ?_;(case hd=>rfl);(case hg=>rfl);(case hr=>first|(go_simp;done)|(go_simp;rfl));intro gb277 hg w4 hbox hb;have BK277:=Aside0.mk (hbox);have GW277:=Aside0.mk ((by rw [hg];exact(below_size bl):w.heap.size≤gb277));have GE277:=Aside0.mk ((by rw [hg];exact(below_size bl):w.heap.size≤gb277));replace HB:=Aside0.mk (below_step bl hb);clear hb hbox hg))
 (try simp only [Act.put,l1,l2,l3])
 go_cut [30] (fun v30 wc=>∃ (kq:Nat) (x30_2:Bool),v30 = .bool x30_2∧Aside0 (stowageref13_fit.j0 kq a1 x30_2 a0_0 a0_1 l0_2=some r)∧Aside0 (kq≤k)∧Aside0 (wc.heap[gb277]? = some (.cells #[.string a0_0,.string a0_1,(.slice A0_2 l0_2.length c0_2)] 30 (0,0)))∧Aside0 (Below w.heap.size w wc))
 case first=>
  have H:=HC3.out
  clear HC3
  replace H:=itO H
  rcases H with⟨c5,H⟩|⟨c5,H⟩
  {
  have c5b0:decide (16<a1)=true:=decide_eq_true c5
  clear c5
  (first|rw [c5b0]|(simp only [i64_w,i32_w];rw [c5b0])|skip)
  have H':=Aside0.mk H
  clear H
  go_wp2
  go_meet
  case rel=>exact⟨_,(true),rs,H',⟨by first|omega|exact Nat.le_refl _⟩,⟨kl⟩,⟨bl⟩⟩
  }
  {
  have c5b0:decide (16<a1)=false:=decide_eq_false c5
  clear c5
  (first|rw [c5b0]|(simp only [i64_w,i32_w];rw [c5b0])|skip)
  replace H:=bndO H
  obtain⟨t278,A60,H⟩:=H
  have A6:=Aside0.mk A60
  clear A60
  by_cases c7:t278=true
  {
  subst c7
  replace H:=itT H
  replace H:=bndO H
  obtain⟨t279,A80,H⟩:=H
  have A8:=Aside0.mk A80
  clear A80
  by_cases c9:t279=true
  {
  subst c9
  replace H:=itT H
  replace H:=itO H
  rcases H with⟨c10,H⟩|⟨c10,H⟩
  {
  have c10b0:(a0_1.toList == ([]:List UInt8))=true:=beq_iff_eq.mpr c10
  have c10b1:(a0_1.toList != ([]:List UInt8))=false:=bne_eq_false_iff_eq.mpr c10
  clear c10
  have H':=Aside0.mk H
  clear H
  obtain⟨_,_,_,_,_,_⟩:=bc3 BK277.out
  go_wp2_with (first|(go_at_call 18;(with_reducible refine(stowageref13_Name.calls k a0_0 true _ A6.out).mono ?_);rintro e w' ⟨rfl,⟨nd,rfl⟩⟩)|(go_at_call 31;(with_reducible refine(stowageref3_Legal.calls k a0_1 true _ A8.out).mono ?_);rintro e w' ⟨rfl,⟨nd,rfl⟩⟩))
  go_meet
  case rel=>exact⟨_,(false),rs,H',⟨by first|omega|exact Nat.le_refl _⟩,⟨kl⟩,⟨bl⟩⟩
  }
  {
  have c10b0:(a0_1.toList == ([]:List UInt8))=false:=beq_eq_false_iff_ne.mpr c10
  have c10b1:(a0_1.toList != ([]:List UInt8))=true:=bne_iff_ne.mpr c10
  have H':=Aside0.mk H
  clear H
  obtain⟨_,_,_,_,_,_⟩:=bc3 BK277.out
  go_wp2_with (first|(go_at_call 18;(with_reducible refine(stowageref13_Name.calls k a0_0 true _ A6.out).mono ?_);rintro e w' ⟨rfl,⟨nd,rfl⟩⟩)|(go_at_call 31;(with_reducible refine(stowageref3_Legal.calls k a0_1 true _ A8.out).mono ?_);rintro e w' ⟨rfl,⟨nd,rfl⟩⟩))
  go_meet
  case rel=>exact⟨_,(decide ((l0_2.length:Int)>0)),rs,H',⟨by first|omega|exact Nat.le_refl _⟩,⟨kl⟩,⟨bl⟩⟩
  }
  }
  {
  replace c9:=Bool.eq_false_iff.mpr c9
  subst c9
  replace H:=itF H
  have H':=Aside0.mk H
  clear H
  obtain⟨_,_,_,_,_,_⟩:=bc3 BK277.out
  go_wp2_with (first|(go_at_call 18;(with_reducible refine(stowageref13_Name.calls k a0_0 true _ A6.out).mono ?_);rintro e w' ⟨rfl,⟨nd,rfl⟩⟩)|(go_at_call 31;(with_reducible refine(stowageref3_Legal.calls k a0_1 false _ A8.out).mono ?_);rintro e w' ⟨rfl,⟨nd,rfl⟩⟩))
  go_meet
  case rel=>exact⟨_,(true),rs,H',⟨by first|omega|exact Nat.le_refl _⟩,⟨kl⟩,⟨bl⟩⟩
  }
  }
  {
  replace c7:=Bool.eq_false_iff.mpr c7
  subst c7
  replace H:=itF H
  have H':=Aside0.mk H
  clear H
  obtain⟨_,_,_,_,_,_⟩:=bc3 BK277.out
  go_wp2_with (first|(go_at_call 18;(with_reducible refine(stowageref13_Name.calls k a0_0 false _ A6.out).mono ?_);rintro e w' ⟨rfl,⟨nd,rfl⟩⟩))
  go_meet
  case rel=>exact⟨_,(true),rs,H',⟨by first|omega|exact Nat.le_refl _⟩,⟨kl⟩,⟨bl⟩⟩
  }
  }
 case rest=>
  clear HC3
  obtain⟨kq,x30_2,rfl,HA,HJ2,BK277,HB⟩:=hcut
  cases kq with
  | zero=>exact absurd HA.out (by simp [stowageref13_fit.j0])
  | succ kj2=>
   have H:=HA.out
   clear HA
   simp only [stowageref13_fit.j0] at H
   by_cases c15:x30_2=true
   {
   subst c15
   replace H:=itT H
   obtain rfl:=Option.some.inj H
   go_wp2
   go_ret
   exact⟨ew,bl⟩
   }
   {
   replace c15:=Bool.eq_false_iff.mpr c15
   subst c15
   replace H:=itF H
   have H':=Aside0.mk H
   clear H
   go_wp2
   go_loopg [5] kj2 (fun kq v5 w'=>∃ (x5_2:Int),v5 = .int .i64 x5_2∧Aside0 (stowageref13_fit.l0 kq a1 x5_2 a0_0 a0_1 l0_2=some r)∧Aside0 (kq≤kj2)∧Aside0 (w'.heap[gb277]? = some (.cells #[.string a0_0,.string a0_1,(.slice A0_2 l0_2.length c0_2)] 30 (0,0)))∧Aside0 (Below w.heap.size w w'))
   case atStart=>exact⟨(0),rs,H',⟨Nat.le_refl _⟩,⟨kl⟩,⟨bl⟩⟩
   case round=>
    clear H'
    obtain⟨x5_2,rfl,HA,HK2,BK277,HB⟩:=hrel
    cases gk with
    | zero=>exact absurd HA.out (by simp [stowageref13_fit.l0])
    | succ k2=>
     have H:=HA.out
     clear HA
     simp only [stowageref13_fit.l0] at H
     replace H:=itO H
     rcases H with⟨c16,H⟩|⟨c16,H⟩
     {
     have c16b0:decide (x5_2<(l0_2.length:Int))=true:=decide_eq_true c16
     clear c16
     replace H:=itO H
     rcases H with⟨c17,H⟩|⟨c17,H⟩
     {
     have c17b0:decide (0≤x5_2)=true:=decide_eq_true c17
     clear c17
     replace H:=bndO H
     obtain⟨t281,A180,H⟩:=H
     have A18:=Aside0.mk A180
     clear A180
     by_cases c19:t281=true
     {
     subst c19
     replace H:=itT H
     have H':=Aside0.mk H
     clear H
     obtain⟨_,_,_,_,_,_⟩:=bc3 BK277.out
     have p280:0≤(x5_2:Int):=of_decide_eq_true asm
     have q280:x5_2<(l0_2.length:Int):=of_decide_eq_true asm
     obtain⟨ad280,A280_2,c280_2,e280,hx280_0,hx280_1,hx280_2,hl280_2,hi280_2⟩:=at_T30 HR0_2.out x5_2 p280 q280
     cases e280
     replace hx280_0:=(HB.out.cell (World.block_lt_of_cell? w _ hx280_0)).trans hx280_0
     replace hx280_1:=(HB.out.cell (World.block_lt_of_cell? w _ hx280_1)).trans hx280_1
     replace hx280_2:=(HB.out.cell (World.block_lt_of_cell? w _ hx280_2)).trans hx280_2
     have HR280_2:=Aside0.mk hi280_2
     have HC280_2:=Aside0.mk hl280_2
     clear hi280_2 hl280_2
     replace p280:=eq_true p280
     replace q280:=eq_true q280
     go_wp2_with (first|((with_reducible refine gate_callee (f:=50) rfl ?_);refine goesL_ (some 45) rfl rfl Tryd.func50 kr rfl #[.agg #[.string ((rd_T30 l0_2 x5_2).f0),.string ((rd_T30 l0_2 x5_2).f1),.slice A280_2 ((rd_T30 l0_2 x5_2).f2).length c280_2],.int .i64 (wrap64 (a1+1))] rfl am ?_;(with_reducible refine(ih k2 (by have:=HJ2.out;have:=HK2.out;omega) ((rd_T30 l0_2 x5_2).f0) ((rd_T30 l0_2 x5_2).f1) _ _ ((rd_T30 l0_2 x5_2).f2) (wrap64 (a1+1)) true _ ?side1 ?side2 A18.out).mono ?_);(case side1=>repeat (first|exact(Kd.C_below HR280_2.out HB.out)|(with_reducible refine Kd.C_alloc ?_ _)|(with_reducible refine Kd.C_drewN ?_ _)|(with_reducible refine Kd.C_drew ?_)));(case side2=>exact HC280_2.out);rintro e w21 ⟨rfl,hb⟩;refine⟨_,rfl,?_⟩;replace BK277:=Aside0.mk (blk_below (g:=gb277) (o:=.cells #[.string a0_0,.string a0_1,.slice (some ad280) l0_2.length c0_2] 30 (0,0)) kl hb);replace HB:=Aside0.mk (below_step bl hb)))
     go_roundg k2
     case measure=>have:=HJ2.out;have:=HK2.out;omega
     case rel=>exact⟨(wrap64 (x5_2+1)),rs,H',⟨by have:=HJ2.out;have:=HK2.out;omega⟩,⟨kl⟩,⟨bl⟩⟩
     }
     {
     replace c19:=Bool.eq_false_iff.mpr c19
     subst c19
     replace H:=itF H
     obtain rfl:=Option.some.inj H
     obtain⟨_,_,_,_,_,_⟩:=bc3 BK277.out
     have p280:0≤(x5_2:Int):=of_decide_eq_true asm
     have q280:x5_2<(l0_2.length:Int):=of_decide_eq_true asm
     obtain⟨ad280,A280_2,c280_2,e280,hx280_0,hx280_1,hx280_2,hl280_2,hi280_2⟩:=at_T30 HR0_2.out x5_2 p280 q280
     cases e280
     replace hx280_0:=(HB.out.cell (World.block_lt_of_cell? w _ hx280_0)).trans hx280_0
     replace hx280_1:=(HB.out.cell (World.block_lt_of_cell? w _ hx280_1)).trans hx280_1
     replace hx280_2:=(HB.out.cell (World.block_lt_of_cell? w _ hx280_2)).trans hx280_2
     have HR280_2:=Aside0.mk hi280_2
     have HC280_2:=Aside0.mk hl280_2
     clear hi280_2 hl280_2
     replace p280:=eq_true p280
     replace q280:=eq_true q280
     go_wp2_with (first|((with_reducible refine gate_callee (f:=50) rfl ?_);refine goesL_ (some 45) rfl rfl Tryd.func50 kr rfl #[.agg #[.string ((rd_T30 l0_2 x5_2).f0),.string ((rd_T30 l0_2 x5_2).f1),.slice A280_2 ((rd_T30 l0_2 x5_2).f2).length c280_2],.int .i64 (wrap64 (a1+1))] rfl am ?_;(with_reducible refine(ih k2 (by have:=HJ2.out;have:=HK2.out;omega) ((rd_T30 l0_2 x5_2).f0) ((rd_T30 l0_2 x5_2).f1) _ _ ((rd_T30 l0_2 x5_2).f2) (wrap64 (a1+1)) false _ ?side1 ?side2 A18.out).mono ?_);(case side1=>repeat (first|exact(Kd.C_below HR280_2.out HB.out)|(with_reducible refine Kd.C_alloc ?_ _)|(with_reducible refine Kd.C_drewN ?_ _)|(with_reducible refine Kd.C_drew ?_)));(case side2=>exact HC280_2.out);rintro e w23 ⟨rfl,hb⟩;refine⟨_,rfl,?_⟩;replace BK277:=Aside0.mk (blk_below (g:=gb277) (o:=.cells #[.string a0_0,.string a0_1,.slice (some ad280) l0_2.length c0_2] 30 (0,0)) kl hb);replace HB:=Aside0.mk (below_step bl hb)))
     go_ret
     exact⟨ew,bl⟩
     }
     }
     ·exact absurd H (by simp)
     }
     {
     have c16b0:decide (x5_2<(l0_2.length:Int))=false:=decide_eq_false c16
     clear c16
     obtain rfl:=Option.some.inj H
     obtain⟨_,_,_,_,_,_⟩:=bc3 BK277.out
     go_wp2
     go_ret
     exact⟨ew,bl⟩
     }
   }
end Go.Proofs.YtklcgncaclggcaaDoor.Q
