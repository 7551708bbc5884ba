/- A part of the proof of the seat's laws. No condition beyond those in the theorems. -/
import Derived.Test.YtklcgncaclggcaaDoorZBld
import Derived.Lib.Hide
import Derived.Deep.RegionWith
import Derived.Test.YtklcgncaclggcaaDoorZQ45g11
import Derived.Test.YtklcgncaclggcaaDoorZQ0g18
import Derived.Lib.OthersKept

namespace Go.Proofs.YtklcgncaclggcaaDoor.Q
open Go.RowKit Go.Proofs.YtklcgncaclggcaaDoorW.PrintWords Go.Proofs.YtklcgncaclggcaaDoorW.PrintLast Go.Proofs.YtklcgncaclggcaaDoorW.PrintMore
set_option linter.unusedVariables false
set_option linter.unusedSimpArgs false
set_option maxHeartbeats 8000000
set_option maxRecDepth 100000
attribute [local go_sem] max2_int min2_int max_two min_two max_three min_three max_four min_four   
mutual
def xml_print.f:Nat→ByteArray→ByteArray→ByteArray→List S24→ByteArray→Option ByteArray
 | 0,_,_,_,_,_=>none
 | k+1,acc,nm,tx,kids,more=>(xml_Escape.f tx).bind fun e=>(if acc.size+(1+nm.size+more.size+1+e.size)≤140737488355328 then((xml_print.l0 k (acc++((((⟨#[60]⟩ : ByteArray)++nm)++more)++⟨#[62]⟩++e)) kids 0).bind fun acc2=>(if acc2.size+(2+nm.size+1)≤140737488355328 then some (acc2++(((⟨#[60,47]⟩ : ByteArray)++nm)++⟨#[62]⟩)) else none)) else none)
def xml_print.l0:Nat→ByteArray→List S24→Int→Option ByteArray
 | 0,_,_,_=>none
 | k+1,acc,kids,i=>(if i<(kids.length:Int) then(if 0≤i then((xml_print.f k acc ((rd_T24 kids i).f0) ((rd_T24 kids i).f1) ((rd_T24 kids i).f2) (⟨#[]⟩ : ByteArray)).bind fun acc2=>xml_print.l0 k acc2 kids (wrap64 (i+1))) else none) else some acc)
end
theorem xml_print.isB_below {T e B b:Nat} {bs:List Value} {w W:World} (h:Lib.IsBuilderF T e B b bs w) (hb:Below w.heap.size w W):Lib.IsBuilderF T e B b bs W:=by
 have key:∀ p,Lib.BuilderAtF T e B b p bs w→Lib.BuilderAtF T e B b p bs W:=by
  rintro p ⟨hB,v,hbk,hown,hne⟩
  refine⟨hB,v,(hb.block b (Array.getElem?_eq_some_iff.1 hbk).1).trans hbk,?_,hne⟩
  obtain⟨h1,h2⟩:=hown
  refine⟨h1,?_⟩
  rcases h2 with h2|⟨g,cap,cur,fz,rfl,hg,hh,r⟩
  ·exact .inl h2
  ·exact .inr ⟨g,cap,cur,fz,rfl,hg,(hb.block g (Array.getElem?_eq_some_iff.1 hh).1).trans hh,r⟩
 rcases h with h|h
 ·exact .inl (key _ h)
 ·exact .inr (key _ h)
theorem xml_print.isB_lt {T e B b:Nat} {bs:List Value} {w:World} (h:Lib.IsBuilderF T e B b bs w):b<w.heap.size:=by
 rcases h with⟨_,v,hbk,_⟩|⟨_,v,hbk,_⟩
 ·exact(Array.getElem?_eq_some_iff.1 hbk).1
 ·exact(Array.getElem?_eq_some_iff.1 hbk).1
theorem xml_print.kept_below {e:TypeId} {b:Option Nat} {a w w':World} (h:Lib.OthersKept e b a w) (hb:Below w.heap.size w w'):Lib.OthersKept e b a w':=by
 intro k x hk hn hx
 have h1:=h k x hk hn hx
 exact(hb.block k (Array.getElem?_eq_some_iff.1 h1).1).trans h1
theorem xml_print.kept_at {e t:TypeId} {b g:Nat} {w w':World} {cs:Array Value} {z:Nat×Nat} (h:Lib.OthersKept e (some b) w w') (hg:w.heap[g]? = some (.cells cs t z)) (hne:g≠b) (ht:t≠e):w'.heap[g]? = some (.cells cs t z):=
 h g _ hg (fun hh=>hne (Option.some.inj hh)) (fun c fz hh=>by
  injection hh with _ hh
  exact ht hh)
theorem xml_print.cells_size (a:ByteArray):(Lib.byteCells a.data.toList).length=a.size:=by
 rw [Lib.byteCells_length,data_length]
theorem xml_print.cells_app (a s:ByteArray):Lib.byteCells (a++s).data.toList=Lib.byteCells a.data.toList++Lib.strCells s:=by
 rw [ByteArray.data_append,Array.toList_append,Lib.byteCells_append]
 rfl
theorem xml_print.sz1 (nm more e:ByteArray):((((⟨#[60]⟩ : ByteArray)++nm)++more)++⟨#[62]⟩++e).size=1+nm.size+more.size+1+e.size:=by
 simp only [ByteArray.size_append]
 rfl
theorem xml_print.sz2 (nm:ByteArray):(((⟨#[60,47]⟩ : ByteArray)++nm)++⟨#[62]⟩).size=2+nm.size+1:=by
 simp only [ByteArray.size_append]
 rfl
theorem xml_print.calls (k:Nat):∀ (acc nm tx:ByteArray) (A:Option Addr) (c:Nat) (l:List S24) (more r:ByteArray) (w0 w:World) (b:Nat) (hr:Kd.C k24 w0 A l.length l) (hc:l.length≤c) (hW:Below w0.heap.size w0 w) (hI:Lib.IsBuilderF 68 5 w0.heap.size b (Lib.byteCells acc.data.toList) w) (h:xml_print.f k acc nm tx l more=some r),
  Calls Tryd.prog 48 #[.pointer (some ⟨b,0,none⟩),.agg #[.string nm,.string tx,.slice A l.length c],.string more] w fun e w'=>e = .returned (.tuple #[])∧Lib.IsBuilderF 68 5 w0.heap.size b (Lib.byteCells r.data.toList) w'∧Below w0.heap.size w0 w'∧Lib.OthersKept 5 (some b) w w':=by
 induction k using Nat.strongRecOn with
 | _ k ih=>
 intro acc nm tx A c l more r w0 w b hr hc hW hI h
 cases k with
 | zero=>exact absurd h (by simp [xml_print.f])
 | succ k=>
 simp only [xml_print.f] at h
 have hu24:=Tryd.underlying24
 obtain⟨e,hE0,h⟩:=bndO h
 have hE:=Aside0.mk hE0
 rcases itO h with⟨c1,h1⟩|⟨c1,h1⟩
 ·obtain⟨acc2,hL0,h2⟩:=bndO h1
  have hL:=Aside0.mk hL0
  rcases itO h2 with⟨c2,h3⟩|⟨c2,h3⟩
  ·have hR:=Aside0.mk (Option.some.inj h3)
   have C1:=Aside0.mk c1
   have C2:=Aside0.mk c2
   have HR:=Aside0.mk hr
   have HC:=Aside0.mk hc
   have HW:=Aside0.mk hW
   have HI:=Aside0.mk hI
   have hlt:=Aside0.mk (xml_print.isB_lt hI)
   have z1:1+nm.size≤9223372036854775807:=by omega
   have z2:1+nm.size+more.size≤9223372036854775807:=by omega
   have z3:1+nm.size+more.size+1≤9223372036854775807:=by omega
   have z4:1+nm.size+more.size+1+e.size≤9223372036854775807:=by omega
   have z5:2+nm.size≤9223372036854775807:=by omega
   have z6:2+nm.size+1≤9223372036854775807:=by omega
   have y1:(9223372036854775807<1+nm.size)=False:=eq_false (by omega)
   have y2:(9223372036854775807<1+nm.size+more.size)=False:=eq_false (by omega)
   have y3:(9223372036854775807<1+nm.size+more.size+1)=False:=eq_false (by omega)
   have y4:(9223372036854775807<1+nm.size+more.size+1+e.size)=False:=eq_false (by omega)
   have y5:(9223372036854775807<2+nm.size)=False:=eq_false (by omega)
   have y6:(9223372036854775807<2+nm.size+1)=False:=eq_false (by omega)
   clear h h1 h2 h3 c1 c2 hr hc hW hI hL0 hE0
   go_enter Tryd.func48,Tryd.ntmps48
   go_upto_region 1 with(first|((with_reducible refine gate_dst (N:=4) rfl ?_);(try (refine gate_guard (by rfl) ?_;dsimp only));refine box_event ?hg (N:=4) ?hd (cs:=#[.string nm,.string tx,.slice A l.length c]) (t:=24) ?hr ?_;(case hd=>rfl);(case hg=>rfl);(case hr=>first|(go_simp;done)|(go_simp;rfl));intro gb hg w4 hbox hb;have BK:=Aside0.mk (hbox);have HI4:=Aside0.mk (xml_print.isB_below HI.out hb);have HW4:=Aside0.mk (below_step HW.out hb);have OK4:=Aside0.mk (xml_print.kept_below (Lib.OthersKept.refl 5 (some b) w) hb);have NB:=Aside0.mk (show gb≠b by rw [hg];exact Nat.ne_of_gt hlt.out);have HS4:=Aside0.mk (show w0.heap.size≤gb by rw [hg];exact HW.out.size);clear hb hbox hg HI HW))
   have hcz0:w4.cell? ⟨gb,0,none⟩=some (.string nm):=(blk_cell BK.out 0).trans rfl
   have hcz1:w4.cell? ⟨gb,1,none⟩=some (.string tx):=(blk_cell BK.out 1).trans rfl
   have hcz2:w4.cell? ⟨gb,2,none⟩=some (.slice A l.length c):=(blk_cell BK.out 2).trans rfl
   have hfz0:=blk_frozen BK.out 0
   have hfz1:=blk_frozen BK.out 1
   have hfz2:=blk_frozen BK.out 2
   go_region_with (first
    | (go_at_call 19;refine(xml_Escape.calls tx e _ hE.out).mono ?_;rintro e9 w9 ⟨rfl,hb9⟩;have BK9:=Aside0.mk (blk_below (g:=gb) (o:=.cells #[.string nm,.string tx,.slice A l.length c] 24 (0,0)) (by(with_reducible repeat (first|refine blk_drewN ?_ _|refine blk_drew ?_));exact BK.out) hb9);have HI9:=Aside0.mk (xml_print.isB_below (by first|exact HI4.out|exact Bld.IsB_drewN HI4.out _) hb9);have HW9:=Aside0.mk (below_step (by first|exact HW4.out|exact pw_below_drewN HW4.out _) hb9);have OK9:=Aside0.mk (xml_print.kept_below (by first|exact OK4.out|exact Lib.OthersKept.drew OK4.out) hb9);have hd0:w9.cell? ⟨gb,0,none⟩=some (.string nm):=(blk_cell BK9.out 0).trans rfl;have hd1:w9.cell? ⟨gb,1,none⟩=some (.string tx):=(blk_cell BK9.out 1).trans rfl;have hd2:w9.cell? ⟨gb,2,none⟩=some (.slice A l.length c):=(blk_cell BK9.out 2).trans rfl;clear hb9)
    | (go_at_call 37;have hcall:=Bld.WriteString w0.heap.size b _ ((((⟨#[60]⟩ : ByteArray)++nm)++more)++⟨#[62]⟩++e) w9 HI9.out (by rw [xml_print.cells_size,xml_print.sz1];exact C1.out) HW9.out.size;with_reducible refine hcall.mono ?_;clear hcall;(rintro e1 w1 ⟨rfl,hi1,hb1,hk1⟩;have HI1:=Aside0.mk hi1;have HW1:=Aside0.mk (HW9.out.trans hb1);have BK1:=Aside0.mk (xml_print.kept_at hk1 BK9.out NB.out (by decide));have OK1:=Aside0.mk (OK9.out.trans hk1);clear hi1 hb1 hk1)))
   all_goals
    have hcy0:w1.cell? ⟨gb,0,none⟩=some (.string nm):=(blk_cell BK1.out 0).trans rfl
    have hcy2:w1.cell? ⟨gb,2,none⟩=some (.slice A l.length c):=(blk_cell BK1.out 2).trans rfl
    go_wp2_with fail
    go_loopg [23] k (fun kq v23 w'=>∃ (i:Int) (acc1:ByteArray),v23 = .int .i64 i∧Aside0 (xml_print.l0 kq acc1 l i=some acc2)∧Aside0 (kq≤k)∧Aside0 (Lib.IsBuilderF 68 5 w0.heap.size b (Lib.byteCells acc1.data.toList) w')∧Aside0 (Below w0.heap.size w0 w')∧Aside0 (Lib.OthersKept 5 (some b) w w')∧Aside0 (w'.heap[gb]? = some (.cells #[.string nm,.string tx,.slice A l.length c] 24 (0,0))))
    case atStart=>exact⟨0,_,rfl,hL,⟨Nat.le_refl _⟩,⟨by rw [xml_print.cells_app];exact HI1.out⟩,HW1,OK1,BK1⟩
    case round=>
     clear hL HI1 HW1 OK1 BK1 hcy0 hcy2
     obtain⟨i,acc1,rfl,HA,HK1,HIr,HWr,OKr,BKr⟩:=hrel
     cases gk with
     | zero=>exact absurd HA.out (by simp [xml_print.l0])
     | succ k1=>
      have H:=HA.out
      clear HA
      simp only [xml_print.l0] at H
      rcases itO H with⟨d1,H1⟩|⟨d1,H1⟩
      ·rcases itO H1 with⟨d2,H2⟩|⟨d2,H2⟩
       ·obtain⟨acc3,A30,H3⟩:=bndO H2
        have A3:=Aside0.mk A30
        have H':=Aside0.mk H3
        clear H H1 H2 A30 H3
        obtain⟨ad,A2,c2,e2,hx0,hx1,hx2,hl2,hi2⟩:=at_T24 HR.out i d2 d1
        cases e2
        replace hx0:=(HWr.out.cell (World.block_lt_of_cell? w0 _ hx0)).trans hx0
        replace hx1:=(HWr.out.cell (World.block_lt_of_cell? w0 _ hx1)).trans hx1
        replace hx2:=(HWr.out.cell (World.block_lt_of_cell? w0 _ hx2)).trans hx2
        have HR2:=Aside0.mk hi2
        have HC2:=Aside0.mk hl2
        clear hi2 hl2
        have d3:decide (i<(l.length:Int))=true:=decide_eq_true d1
        have d4:decide (0≤i)=true:=decide_eq_true d2
        replace d1:=eq_true d1
        replace d2:=eq_true d2
        go_wp2_with (first
         | ((with_reducible refine gate_dst (N:=7) rfl ?_);(try (refine gate_guard (by rfl) ?_;dsimp only));refine box_event ?hg (N:=7) ?hd (cs:=#[.string (⟨#[]⟩ : ByteArray),.string (⟨#[]⟩ : ByteArray),.slice none 0 0]) (t:=24) ?hr ?_;(case hd=>rfl);(case hg=>rfl);(case hr=>first|(go_simp;done)|(go_simp;rfl));intro g2 hg w2 hbox hb;have BK2:=Aside0.mk hbox;have HB2:=Aside0.mk hb;have GE2:=Aside0.mk (show wr.heap.size≤g2 by rw [hg];exact Nat.le_refl _);have hcw0:w2.cell? ⟨g2,0,none⟩=some (.string (⟨#[]⟩ : ByteArray)):=(blk_cell BK2.out 0).trans rfl;have hcw1:w2.cell? ⟨g2,1,none⟩=some (.string (⟨#[]⟩ : ByteArray)):=(blk_cell BK2.out 1).trans rfl;have hcw2:w2.cell? ⟨g2,2,none⟩=some (.slice none 0 0):=(blk_cell BK2.out 2).trans rfl;have hfw0:=blk_frozen BK2.out 0;have hfw1:=blk_frozen BK2.out 1;have hfw2:=blk_frozen BK2.out 2;clear hb hbox hg)
         | ((with_reducible refine gate_callee (f:=48) rfl ?_);refine goesL_ (some 29) rfl rfl Tryd.func48 (by kernel_rfl) rfl #[.pointer (some ⟨b,0,none⟩),.agg #[.string ((rd_T24 l i).f0),.string ((rd_T24 l i).f1),.slice A2 ((rd_T24 l i).f2).length c2],.string (⟨#[]⟩ : ByteArray)] rfl (by(try simp only [List.map_toArray,List.map_cons,List.map_nil]);first|done|rfl|(simp only [List.length_drop,List.length_take];rfl)) ?_;(with_reducible refine(ih k1 (by have:=HK1.out;omega) acc1 ((rd_T24 l i).f0) ((rd_T24 l i).f1) A2 c2 ((rd_T24 l i).f2) (⟨#[]⟩ : ByteArray) acc3 w0 _ b HR2.out HC2.out ?s1 ?s2 A3.out).mono ?_);(case s1=>exact below_step HWr.out (by repeat (first|exact HB2.out|apply pw_below_drewN|apply below_drew1|refine below_set ?_ GE2.out)));(case s2=>exact xml_print.isB_below HIr.out (by repeat (first|exact HB2.out|apply pw_below_drewN|apply below_drew1|refine below_set ?_ GE2.out)));rintro e3 w3 ⟨rfl,hi3,hw3,hk3⟩;refine⟨_,rfl,?_⟩;have HI3:=Aside0.mk hi3;have HW3:=Aside0.mk hw3;have OK3:=Aside0.mk ((xml_print.kept_below OKr.out (by repeat (first|exact HB2.out|apply pw_below_drewN|apply below_drew1|refine below_set ?_ GE2.out))).trans hk3);have BK3:=Aside0.mk (xml_print.kept_at hk3 (blk_below (g:=gb) (o:=.cells #[.string nm,.string tx,.slice (some ad) l.length c] 24 (0,0)) BKr.out (by repeat (first|exact HB2.out|apply pw_below_drewN|apply below_drew1|refine below_set ?_ GE2.out))) NB.out (by decide));clear hi3 hw3 hk3))
        go_roundg k1
        case measure=>have:=HK1.out;omega
        case rel=>exact⟨wrap64 (i+1),acc3,by first|rfl|(simp;done)|(simp [*];done),H',⟨by have:=HK1.out;omega⟩,HI3,HW3,OK3,BK3⟩
       ·exact absurd H2 (by simp)
      ·obtain rfl:=Option.some.inj H1
       clear H H1
       have d3:decide (i<(l.length:Int))=false:=decide_eq_false d1
       clear d1
       have hcy0:wr.cell? ⟨gb,0,none⟩=some (.string nm):=(blk_cell BKr.out 0).trans rfl
       go_wp2_with (go_at_call 37;have hcall:=Bld.WriteString w0.heap.size b _ (((⟨#[60,47]⟩ : ByteArray)++nm)++⟨#[62]⟩) wr HIr.out (by rw [xml_print.cells_size,xml_print.sz2];exact C2.out) HWr.out.size;with_reducible refine hcall.mono ?_;clear hcall;rintro e1 w5 ⟨rfl,hi5,hb5,hk5⟩;have HI5:=Aside0.mk hi5;have HW5:=Aside0.mk (HWr.out.trans hb5);have OK5:=Aside0.mk (OKr.out.trans hk5);clear hi5 hb5 hk5)
       go_end0
       exact⟨rfl,by rw [← hR.out,xml_print.cells_app];exact HI5.out,HW5.out,OK5.out⟩
  ·exact absurd h3 (by simp)
 ·exact absurd h1 (by simp)
theorem xml_print.mono_l:∀ k,(∀ y0 y1 y2 y3 y4,LeO (xml_print.f k y0 y1 y2 y3 y4) (xml_print.f (k+1) y0 y1 y2 y3 y4))∧(∀ y0 y1 y2,LeO (xml_print.l0 k y0 y1 y2) (xml_print.l0 (k+1) y0 y1 y2))
 | 0=>⟨fun _ _ _ _ _ r h=>by simp [xml_print.f] at h,fun _ _ _ r h=>by simp [xml_print.l0] at h⟩
 | k+1=>by
  obtain⟨ih0,ih1⟩:=xml_print.mono_l k
  refine⟨?_,?_⟩
  ·intro y0 y1 y2 y3 y4
   unfold xml_print.f
   with_reducible repeat' first|exact ih0 _ _ _ _ _|exact ih1 _ _ _|exact LeO.refl _|exact LeO.none _|refine LeO.ite ?_ ?_|refine LeO.bind ?_ (fun _=>?_)
  ·intro y0 y1 y2
   unfold xml_print.l0
   with_reducible repeat' first|exact ih0 _ _ _ _ _|exact ih1 _ _ _|exact LeO.refl _|exact LeO.none _|refine LeO.ite ?_ ?_|refine LeO.bind ?_ (fun _=>?_)
theorem xml_print.mono (a0 a1 a2:ByteArray) (a3:List S24) (a4:ByteArray) (k:Nat):LeO (xml_print.f k a0 a1 a2 a3 a4) (xml_print.f (k+1) a0 a1 a2 a3 a4):=(xml_print.mono_l k).1 a0 a1 a2 a3 a4
abbrev xml_Print.head:ByteArray:=⟨#[60,63,120,109,108,32,118,101,114,115,105,111,110,61,34,49,46,48,34,32,101,110,99,111,100,105,110,103,61,34,85,84,70,45,56,34,63,62,10]⟩
abbrev xml_Print.room:ByteArray:=⟨#[32,120,109,108,110,115,61,34,104,116,116,112,58,47,47,115,51,46,97,109,97,122,111,110,97,119,115,46,99,111,109,47,100,111,99,47,50,48,48,54,45,48,51,45,48,49,47,34]⟩
theorem xml_Print.head_len:([]:List Value).length+xml_Print.head.size≤140737488355328:=by decide
def xml_Print.f (k:Nat) (a0_0:ByteArray) (a0_1:ByteArray) (l0_2:List S24) (a1:Bool):Option (ByteArray×Int):=(xml_may.f k a0_0 a0_1 l0_2 1).bind fun m=>(if m=true then((xml_print.f k xml_Print.head a0_0 a0_1 l0_2 (if a1=true then xml_Print.room else(⟨#[]⟩ : ByteArray))).bind fun s=>(if(65536:Int)<(s.size:Int) then some ((⟨#[]⟩ : ByteArray),2) else some (s,0))) else some ((⟨#[]⟩ : ByteArray),130))
theorem xml_Print.mono (a0 a1:ByteArray) (a2:List S24) (a3:Bool) (k:Nat):LeO (xml_Print.f k a0 a1 a2 a3) (xml_Print.f (k+1) a0 a1 a2 a3):=by
 unfold xml_Print.f
 with_reducible repeat' first|exact xml_may.mono _ _ _ _ _|exact xml_print.mono _ _ _ _ _ _|exact LeO.refl _|exact LeO.none _|refine LeO.ite ?_ ?_|refine LeO.bind ?_ (fun _=>?_)
theorem xml_print.isB_made (T e:Nat) {B:Nat} (w:World) (hB:B≤w.heap.size):Lib.IsBuilderF T e B w.heap.size [] (w.alloc (.cells #[.pointer none,.slice none 0 0] T)):=
 .inl ⟨hB,.slice none 0 0,heap_alloc_new w _,⟨rfl,.inl ⟨rfl,rfl⟩⟩,by simp [Value.ownBlock]⟩
theorem xml_Print.calls (k:Nat) (a0_0:ByteArray) (a0_1:ByteArray) (A0_2:Option Addr) (c0_2:Nat) (l0_2:List S24) (a1:Bool) (r1:ByteArray) (r2:Int) (w:World) (hr0_2:Kd.C k24 w A0_2 l0_2.length l0_2) (hc0_2:l0_2.length≤c0_2) (h:xml_Print.f k a0_0 a0_1 l0_2 a1=some (r1,r2)) :
  Calls Tryd.prog 22 #[.agg #[.string a0_0,.string a0_1,.slice A0_2 l0_2.length c0_2],.bool a1] w fun e w'=>e = .returned (.tuple #[.string r1,.int .i64 r2])∧Below w.heap.size w w':=by
 simp only [xml_Print.f] at h
 have hu24:=Tryd.underlying24
 obtain⟨m,hM0,h⟩:=bndO h
 have hM:=Aside0.mk hM0
 have HR:=Aside0.mk hr0_2
 have HC:=Aside0.mk hc0_2
 clear hM0 hr0_2 hc0_2
 cases m with
 | false=>
  rw [if_neg (by decide)] at h
  simp only [Option.some.injEq,Prod.mk.injEq] at h
  obtain⟨rfl,rfl⟩:=h
  go_enter Tryd.func22,Tryd.ntmps22
  go_wp2_with (first
   | ((with_reducible refine gate_dst (N:=2) rfl ?_);(try (refine gate_guard (by rfl) ?_;dsimp only));refine box_event ?hg (N:=2) ?hd (cs:=#[.string a0_0,.string a0_1,.slice A0_2 l0_2.length c0_2]) (t:=24) ?hr ?_;(case hd=>rfl);(case hg=>rfl);(case hr=>first|(go_simp;done)|(go_simp;rfl));intro gb hg w4 hbox hb;have BK:=Aside0.mk hbox;have HB4:=Aside0.mk hb;have HG:=Aside0.mk (show w.heap.size≤gb by rw [hg];exact Nat.le_refl _);have hcz0:w4.cell? ⟨gb,0,none⟩=some (.string a0_0):=(blk_cell BK.out 0).trans rfl;have hcz1:w4.cell? ⟨gb,1,none⟩=some (.string a0_1):=(blk_cell BK.out 1).trans rfl;have hcz2:w4.cell? ⟨gb,2,none⟩=some (.slice A0_2 l0_2.length c0_2):=(blk_cell BK.out 2).trans rfl;clear hb hbox hg)
   | (go_at_call 47;have hcall:=xml_may.calls k a0_0 a0_1 A0_2 c0_2 l0_2 1 false w4 (Kd.C_below HR.out HB4.out) HC.out hM.out;with_reducible refine hcall.mono ?_;clear hcall;rintro e5 w5 ⟨rfl,hb5⟩;have HB5:=Aside0.mk (below_step HB4.out hb5);have BK5:=Aside0.mk (blk_below (g:=gb) (o:=.cells #[.string a0_0,.string a0_1,.slice A0_2 l0_2.length c0_2] 24 (0,0)) BK.out hb5);clear hb5))
  go_ret2
  exact⟨rfl,HB5.out⟩
 | true=>
  rw [if_pos rfl] at h
  obtain⟨s,hP0,h⟩:=bndO h
  have hP:=Aside0.mk hP0
  clear hP0
  by_cases hz:(65536:Int)<(s.size:Int)
  ·rw [if_pos hz] at h
   simp only [Option.some.injEq,Prod.mk.injEq] at h
   obtain⟨rfl,rfl⟩:=h
   have hz':decide ((65536:Int)<(s.size:Int))=true:=decide_eq_true hz
   clear hz
   cases a1 with
   | false=>
    replace hP:=Aside0.mk ((congrArg (fun x=>xml_print.f k xml_Print.head a0_0 a0_1 l0_2 x) (if_neg (by decide))).symm.trans hP.out)
    go_enter Tryd.func22,Tryd.ntmps22
    go_wp2_with (first
     | ((with_reducible refine gate_dst (N:=2) rfl ?_);(try (refine gate_guard (by rfl) ?_;dsimp only));refine box_event ?hg (N:=2) ?hd (cs:=#[.string a0_0,.string a0_1,.slice A0_2 l0_2.length c0_2]) (t:=24) ?hr ?_;(case hd=>rfl);(case hg=>rfl);(case hr=>first|(go_simp;done)|(go_simp;rfl));intro gb hg w4 hbox hb;have BK:=Aside0.mk hbox;have HB4:=Aside0.mk hb;have HG:=Aside0.mk (show w.heap.size≤gb by rw [hg];exact Nat.le_refl _);have hcz0:w4.cell? ⟨gb,0,none⟩=some (.string a0_0):=(blk_cell BK.out 0).trans rfl;have hcz1:w4.cell? ⟨gb,1,none⟩=some (.string a0_1):=(blk_cell BK.out 1).trans rfl;have hcz2:w4.cell? ⟨gb,2,none⟩=some (.slice A0_2 l0_2.length c0_2):=(blk_cell BK.out 2).trans rfl;clear hb hbox hg)
     | (go_at_call 47;have hcall:=xml_may.calls k a0_0 a0_1 A0_2 c0_2 l0_2 1 true w4 (Kd.C_below HR.out HB4.out) HC.out hM.out;with_reducible refine hcall.mono ?_;clear hcall;rintro e5 w5 ⟨rfl,hb5⟩;have HB5:=Aside0.mk (below_step HB4.out hb5);have BK5:=Aside0.mk (blk_below (g:=gb) (o:=.cells #[.string a0_0,.string a0_1,.slice A0_2 l0_2.length c0_2] 24 (0,0)) BK.out hb5);clear hb5)
     | (go_at_call 37;have HB6:=Aside0.mk (below_alloc HB5.out (.cells #[.pointer none,.slice none 0 0] 68));have HI6:=Aside0.mk (xml_print.isB_made 68 5 w5 (below_size HB5.out));have BK6:=Aside0.mk (blk_alloc BK5.out (.cells #[.pointer none,.slice none 0 0] 68));have NB:=Aside0.mk (Nat.ne_of_lt (blk_lt BK5.out));have hcall:=Bld.WriteString w.heap.size w5.heap.size [] xml_Print.head _ HI6.out xml_Print.head_len HB6.out.size;with_reducible refine hcall.mono ?_;clear hcall;rintro e7 w7 ⟨rfl,hi7,hb7,hk7⟩;have HI7:=Aside0.mk hi7;have HB7:=Aside0.mk (HB6.out.trans hb7);have BK7:=Aside0.mk (xml_print.kept_at hk7 BK6.out NB.out (by decide));have hcy0:w7.cell? ⟨gb,0,none⟩=some (.string a0_0):=(blk_cell BK7.out 0).trans rfl;have hcy1:w7.cell? ⟨gb,1,none⟩=some (.string a0_1):=(blk_cell BK7.out 1).trans rfl;have hcy2:w7.cell? ⟨gb,2,none⟩=some (.slice A0_2 l0_2.length c0_2):=(blk_cell BK7.out 2).trans rfl;clear hi7 hb7 hk7)
     | (go_at_call 48;have hcall:=xml_print.calls k xml_Print.head a0_0 a0_1 A0_2 c0_2 l0_2 (⟨#[]⟩ : ByteArray) s w w7 w5.heap.size HR.out HC.out HB7.out HI7.out hP.out;with_reducible refine hcall.mono ?_;clear hcall;rintro e8 w8 ⟨rfl,hi8,hb8,_⟩;have HI8:=Aside0.mk hi8;have HB8:=Aside0.mk hb8;clear hi8 hb8)
     | (go_at_call 49;have hcall:=Tryd.Builder_Len_f w.heap.size w5.heap.size _ w8 HI8.out;rw [xml_print.cells_size] at hcall;with_reducible refine hcall.mono ?_;clear hcall;rintro e9 w9 ⟨rfl,rfl⟩))
    go_ret2
    exact⟨rfl,HB8.out⟩
   | true=>
    replace hP:=Aside0.mk ((congrArg (fun x=>xml_print.f k xml_Print.head a0_0 a0_1 l0_2 x) (if_pos rfl)).symm.trans hP.out)
    go_enter Tryd.func22,Tryd.ntmps22
    go_wp2_with (first
     | ((with_reducible refine gate_dst (N:=2) rfl ?_);(try (refine gate_guard (by rfl) ?_;dsimp only));refine box_event ?hg (N:=2) ?hd (cs:=#[.string a0_0,.string a0_1,.slice A0_2 l0_2.length c0_2]) (t:=24) ?hr ?_;(case hd=>rfl);(case hg=>rfl);(case hr=>first|(go_simp;done)|(go_simp;rfl));intro gb hg w4 hbox hb;have BK:=Aside0.mk hbox;have HB4:=Aside0.mk hb;have HG:=Aside0.mk (show w.heap.size≤gb by rw [hg];exact Nat.le_refl _);have hcz0:w4.cell? ⟨gb,0,none⟩=some (.string a0_0):=(blk_cell BK.out 0).trans rfl;have hcz1:w4.cell? ⟨gb,1,none⟩=some (.string a0_1):=(blk_cell BK.out 1).trans rfl;have hcz2:w4.cell? ⟨gb,2,none⟩=some (.slice A0_2 l0_2.length c0_2):=(blk_cell BK.out 2).trans rfl;clear hb hbox hg)
     | (go_at_call 47;have hcall:=xml_may.calls k a0_0 a0_1 A0_2 c0_2 l0_2 1 true w4 (Kd.C_below HR.out HB4.out) HC.out hM.out;with_reducible refine hcall.mono ?_;clear hcall;rintro e5 w5 ⟨rfl,hb5⟩;have HB5:=Aside0.mk (below_step HB4.out hb5);have BK5:=Aside0.mk (blk_below (g:=gb) (o:=.cells #[.string a0_0,.string a0_1,.slice A0_2 l0_2.length c0_2] 24 (0,0)) BK.out hb5);clear hb5)
     | (go_at_call 37;have HB6:=Aside0.mk (below_alloc HB5.out (.cells #[.pointer none,.slice none 0 0] 68));have HI6:=Aside0.mk (xml_print.isB_made 68 5 w5 (below_size HB5.out));have BK6:=Aside0.mk (blk_alloc BK5.out (.cells #[.pointer none,.slice none 0 0] 68));have NB:=Aside0.mk (Nat.ne_of_lt (blk_lt BK5.out));have hcall:=Bld.WriteString w.heap.size w5.heap.size [] xml_Print.head _ HI6.out xml_Print.head_len HB6.out.size;with_reducible refine hcall.mono ?_;clear hcall;rintro e7 w7 ⟨rfl,hi7,hb7,hk7⟩;have HI7:=Aside0.mk hi7;have HB7:=Aside0.mk (HB6.out.trans hb7);have BK7:=Aside0.mk (xml_print.kept_at hk7 BK6.out NB.out (by decide));have hcy0:w7.cell? ⟨gb,0,none⟩=some (.string a0_0):=(blk_cell BK7.out 0).trans rfl;have hcy1:w7.cell? ⟨gb,1,none⟩=some (.string a0_1):=(blk_cell BK7.out 1).trans rfl;have hcy2:w7.cell? ⟨gb,2,none⟩=some (.slice A0_2 l0_2.length c0_2):=(blk_cell BK7.out 2).trans rfl;clear hi7 hb7 hk7)
     | (go_at_call 48;have hcall:=xml_print.calls k xml_Print.head a0_0 a0_1 A0_2 c0_2 l0_2 xml_Print.room s w w7 w5.heap.size HR.out HC.out HB7.out HI7.out hP.out;with_reducible refine hcall.mono ?_;clear hcall;rintro e8 w8 ⟨rfl,hi8,hb8,_⟩;have HI8:=Aside0.mk hi8;have HB8:=Aside0.mk hb8;clear hi8 hb8)
     | (go_at_call 49;have hcall:=Tryd.Builder_Len_f w.heap.size w5.heap.size _ w8 HI8.out;rw [xml_print.cells_size] at hcall;with_reducible refine hcall.mono ?_;clear hcall;rintro e9 w9 ⟨rfl,rfl⟩))
    go_ret2
    exact⟨rfl,HB8.out⟩
  ·rw [if_neg hz] at h
   simp only [Option.some.injEq,Prod.mk.injEq] at h
   obtain⟨rfl,rfl⟩:=h
   have hz':decide ((65536:Int)<(s.size:Int))=false:=decide_eq_false hz
   clear hz
   cases a1 with
   | false=>
    replace hP:=Aside0.mk ((congrArg (fun x=>xml_print.f k xml_Print.head a0_0 a0_1 l0_2 x) (if_neg (by decide))).symm.trans hP.out)
    go_enter Tryd.func22,Tryd.ntmps22
    go_wp2_with (first
     | ((with_reducible refine gate_dst (N:=2) rfl ?_);(try (refine gate_guard (by rfl) ?_;dsimp only));refine box_event ?hg (N:=2) ?hd (cs:=#[.string a0_0,.string a0_1,.slice A0_2 l0_2.length c0_2]) (t:=24) ?hr ?_;(case hd=>rfl);(case hg=>rfl);(case hr=>first|(go_simp;done)|(go_simp;rfl));intro gb hg w4 hbox hb;have BK:=Aside0.mk hbox;have HB4:=Aside0.mk hb;have HG:=Aside0.mk (show w.heap.size≤gb by rw [hg];exact Nat.le_refl _);have hcz0:w4.cell? ⟨gb,0,none⟩=some (.string a0_0):=(blk_cell BK.out 0).trans rfl;have hcz1:w4.cell? ⟨gb,1,none⟩=some (.string a0_1):=(blk_cell BK.out 1).trans rfl;have hcz2:w4.cell? ⟨gb,2,none⟩=some (.slice A0_2 l0_2.length c0_2):=(blk_cell BK.out 2).trans rfl;clear hb hbox hg)
     | (go_at_call 47;have hcall:=xml_may.calls k a0_0 a0_1 A0_2 c0_2 l0_2 1 true w4 (Kd.C_below HR.out HB4.out) HC.out hM.out;with_reducible refine hcall.mono ?_;clear hcall;rintro e5 w5 ⟨rfl,hb5⟩;have HB5:=Aside0.mk (below_step HB4.out hb5);have BK5:=Aside0.mk (blk_below (g:=gb) (o:=.cells #[.string a0_0,.string a0_1,.slice A0_2 l0_2.length c0_2] 24 (0,0)) BK.out hb5);clear hb5)
     | (go_at_call 37;have HB6:=Aside0.mk (below_alloc HB5.out (.cells #[.pointer none,.slice none 0 0] 68));have HI6:=Aside0.mk (xml_print.isB_made 68 5 w5 (below_size HB5.out));have BK6:=Aside0.mk (blk_alloc BK5.out (.cells #[.pointer none,.slice none 0 0] 68));have NB:=Aside0.mk (Nat.ne_of_lt (blk_lt BK5.out));have hcall:=Bld.WriteString w.heap.size w5.heap.size [] xml_Print.head _ HI6.out xml_Print.head_len HB6.out.size;with_reducible refine hcall.mono ?_;clear hcall;rintro e7 w7 ⟨rfl,hi7,hb7,hk7⟩;have HI7:=Aside0.mk hi7;have HB7:=Aside0.mk (HB6.out.trans hb7);have BK7:=Aside0.mk (xml_print.kept_at hk7 BK6.out NB.out (by decide));have hcy0:w7.cell? ⟨gb,0,none⟩=some (.string a0_0):=(blk_cell BK7.out 0).trans rfl;have hcy1:w7.cell? ⟨gb,1,none⟩=some (.string a0_1):=(blk_cell BK7.out 1).trans rfl;have hcy2:w7.cell? ⟨gb,2,none⟩=some (.slice A0_2 l0_2.length c0_2):=(blk_cell BK7.out 2).trans rfl;clear hi7 hb7 hk7)
     | (go_at_call 48;have hcall:=xml_print.calls k xml_Print.head a0_0 a0_1 A0_2 c0_2 l0_2 (⟨#[]⟩ : ByteArray) s w w7 w5.heap.size HR.out HC.out HB7.out HI7.out hP.out;with_reducible refine hcall.mono ?_;clear hcall;rintro e8 w8 ⟨rfl,hi8,hb8,_⟩;have HI8:=Aside0.mk hi8;have HB8:=Aside0.mk hb8;clear hi8 hb8)
     | (go_at_call 49;have hcall:=Tryd.Builder_Len_f w.heap.size w5.heap.size _ w8 HI8.out;rw [xml_print.cells_size] at hcall;with_reducible refine hcall.mono ?_;clear hcall;rintro e9 w9 ⟨rfl,rfl⟩)
     | (go_at_call 38;have hcall:=Bld.String_ w.heap.size w5.heap.size _ _ HI8.out HB8.out.size;with_reducible refine hcall.mono ?_;clear hcall;rintro e9 w10 ⟨rfl,hb10⟩;have HB10:=Aside0.mk (HB8.out.trans hb10);clear hb10))
    go_ret2
    exact⟨rfl,HB10.out⟩
   | true=>
    replace hP:=Aside0.mk ((congrArg (fun x=>xml_print.f k xml_Print.head a0_0 a0_1 l0_2 x) (if_pos rfl)).symm.trans hP.out)
    go_enter Tryd.func22,Tryd.ntmps22
    go_wp2_with (first
     | ((with_reducible refine gate_dst (N:=2) rfl ?_);(try (refine gate_guard (by rfl) ?_;dsimp only));refine box_event ?hg (N:=2) ?hd (cs:=#[.string a0_0,.string a0_1,.slice A0_2 l0_2.length c0_2]) (t:=24) ?hr ?_;(case hd=>rfl);(case hg=>rfl);(case hr=>first|(go_simp;done)|(go_simp;rfl));intro gb hg w4 hbox hb;have BK:=Aside0.mk hbox;have HB4:=Aside0.mk hb;have HG:=Aside0.mk (show w.heap.size≤gb by rw [hg];exact Nat.le_refl _);have hcz0:w4.cell? ⟨gb,0,none⟩=some (.string a0_0):=(blk_cell BK.out 0).trans rfl;have hcz1:w4.cell? ⟨gb,1,none⟩=some (.string a0_1):=(blk_cell BK.out 1).trans rfl;have hcz2:w4.cell? ⟨gb,2,none⟩=some (.slice A0_2 l0_2.length c0_2):=(blk_cell BK.out 2).trans rfl;clear hb hbox hg)
     | (go_at_call 47;have hcall:=xml_may.calls k a0_0 a0_1 A0_2 c0_2 l0_2 1 true w4 (Kd.C_below HR.out HB4.out) HC.out hM.out;with_reducible refine hcall.mono ?_;clear hcall;rintro e5 w5 ⟨rfl,hb5⟩;have HB5:=Aside0.mk (below_step HB4.out hb5);have BK5:=Aside0.mk (blk_below (g:=gb) (o:=.cells #[.string a0_0,.string a0_1,.slice A0_2 l0_2.length c0_2] 24 (0,0)) BK.out hb5);clear hb5)
     | (go_at_call 37;have HB6:=Aside0.mk (below_alloc HB5.out (.cells #[.pointer none,.slice none 0 0] 68));have HI6:=Aside0.mk (xml_print.isB_made 68 5 w5 (below_size HB5.out));have BK6:=Aside0.mk (blk_alloc BK5.out (.cells #[.pointer none,.slice none 0 0] 68));have NB:=Aside0.mk (Nat.ne_of_lt (blk_lt BK5.out));have hcall:=Bld.WriteString w.heap.size w5.heap.size [] xml_Print.head _ HI6.out xml_Print.head_len HB6.out.size;with_reducible refine hcall.mono ?_;clear hcall;rintro e7 w7 ⟨rfl,hi7,hb7,hk7⟩;have HI7:=Aside0.mk hi7;have HB7:=Aside0.mk (HB6.out.trans hb7);have BK7:=Aside0.mk (xml_print.kept_at hk7 BK6.out NB.out (by decide));have hcy0:w7.cell? ⟨gb,0,none⟩=some (.string a0_0):=(blk_cell BK7.out 0).trans rfl;have hcy1:w7.cell? ⟨gb,1,none⟩=some (.string a0_1):=(blk_cell BK7.out 1).trans rfl;have hcy2:w7.cell? ⟨gb,2,none⟩=some (.slice A0_2 l0_2.length c0_2):=(blk_cell BK7.out 2).trans rfl;clear hi7 hb7 hk7)
     | (go_at_call 48;have hcall:=xml_print.calls k xml_Print.head a0_0 a0_1 A0_2 c0_2 l0_2 xml_Print.room s w w7 w5.heap.size HR.out HC.out HB7.out HI7.out hP.out;with_reducible refine hcall.mono ?_;clear hcall;rintro e8 w8 ⟨rfl,hi8,hb8,_⟩;have HI8:=Aside0.mk hi8;have HB8:=Aside0.mk hb8;clear hi8 hb8)
     | (go_at_call 49;have hcall:=Tryd.Builder_Len_f w.heap.size w5.heap.size _ w8 HI8.out;rw [xml_print.cells_size] at hcall;with_reducible refine hcall.mono ?_;clear hcall;rintro e9 w9 ⟨rfl,rfl⟩)
     | (go_at_call 38;have hcall:=Bld.String_ w.heap.size w5.heap.size _ _ HI8.out HB8.out.size;with_reducible refine hcall.mono ?_;clear hcall;rintro e9 w10 ⟨rfl,hb10⟩;have HB10:=Aside0.mk (HB8.out.trans hb10);clear hb10))
    go_ret2
    exact⟨rfl,HB10.out⟩
theorem xml_Unescape.atB_below {T e:TypeId} {B b:Nat} {p:Value} {bs:List Value} {w w':World} (h:Lib.BuilderAtF T e B b p bs w) (hb:Below w.heap.size w w'):Lib.BuilderAtF T e B b p bs w':=by
 have hlt:=h.lt
 obtain⟨hB,v,hbk,hown,hne⟩:=h
 refine⟨hB,v,(hb.block b hlt).trans hbk,⟨hown.1,?_⟩,hne⟩
 rcases hown.2 with hn|⟨g,cap,cur,fz,hv,hbg,hg,rest⟩
 ·exact .inl hn
 ·exact .inr ⟨g,cap,cur,fz,hv,hbg,(hb.block g (Classical.byContradiction fun c=>by rw [Array.getElem?_eq_none (Nat.le_of_not_lt c)] at hg;cases hg)).trans hg,rest⟩
theorem xml_Unescape.isB_below {T e:TypeId} {B b:Nat} {bs:List Value} {w w':World} (h:Lib.IsBuilderF T e B b bs w) (hb:Below w.heap.size w w'):Lib.IsBuilderF T e B b bs w':=
 h.elim (fun x=>.inl (xml_Unescape.atB_below x hb)) (fun x=>.inr (xml_Unescape.atB_below x hb))
def xml_Unescape.l0:Nat→ByteArray→ByteArray→Option (ByteArray×Bool)
 | 0,_,_=>none
 | k+1,acc,s=>(strings_Cut.f s (⟨#[38]⟩ : ByteArray)).bind fun p=>(if acc.size+p.1.size≤140737488355328 then(if p.2.2=true then((strings_Cut.f p.2.1 (⟨#[59]⟩ : ByteArray)).bind fun q=>(if q.2.2=true then((xml_sign.f q.1).bind fun t=>(if t.2=true then(if(acc++p.1).size+t.1.size≤140737488355328 then xml_Unescape.l0 k (acc++p.1++t.1) q.2.1 else none) else some ((⟨#[]⟩ : ByteArray),false))) else some ((⟨#[]⟩ : ByteArray),false))) else some (acc++p.1,true)) else none)
theorem xml_Unescape.mono_l:∀ k y0 y1,LeO (xml_Unescape.l0 k y0 y1) (xml_Unescape.l0 (k+1) y0 y1)
 | 0=>fun _ _ r h=>by simp [xml_Unescape.l0] at h
 | k+1=>by
  have ih0:=xml_Unescape.mono_l k
  intro y0 y1
  unfold xml_Unescape.l0
  with_reducible repeat' first|exact ih0 _ _|exact LeO.refl _|exact LeO.none _|refine LeO.ite ?_ ?_|refine LeO.bind ?_ (fun _=>?_)
def xml_Unescape.f (k:Nat) (a0:ByteArray):Option (ByteArray×Bool):=(strings_ReplaceAll.f a0 (⟨#[13,10]⟩ : ByteArray) (⟨#[10]⟩ : ByteArray)).bind fun a=>(strings_ReplaceAll.f a (⟨#[13]⟩ : ByteArray) (⟨#[10]⟩ : ByteArray)).bind fun b=>xml_Unescape.l0 k (⟨#[]⟩ : ByteArray) b
theorem xml_Unescape.mono:∀ a0 k,LeO (xml_Unescape.f k a0) (xml_Unescape.f (k+1) a0):=by
 intro a0 k
 have ih0:=xml_Unescape.mono_l k
 unfold xml_Unescape.f
 with_reducible repeat' first|exact ih0 _ _|exact LeO.refl _|exact LeO.none _|refine LeO.ite ?_ ?_|refine LeO.bind ?_ (fun _=>?_)
theorem xml_Unescape.calls (k:Nat) (a0:ByteArray) (r1:ByteArray) (r2:Bool) (w:World) (hG:GOk w) (h:xml_Unescape.f k a0=some (r1,r2)) :
  Calls Tryd.prog 15 #[.string a0] w fun e w'=>e = .returned (.tuple #[.string r1,.bool r2])∧Below w.heap.size w w':=by
 unfold xml_Unescape.f at h
 obtain⟨a,hA0,h⟩:=bndO h
 obtain⟨b,hB0,h⟩:=bndO h
 have hRA:=Aside0.mk hA0
 have hRB:=Aside0.mk hB0
 have hH:=Aside0.mk h
 clear hA0 hB0 h
 go_enter Tryd.func15,Tryd.ntmps15
 go_wp2_with (first
  | (go_at_call 35;with_reducible refine(strings_ReplaceAll.calls a0 (⟨#[13,10]⟩ : ByteArray) (⟨#[10]⟩ : ByteArray) a w hG hRA.out).mono ?_;rintro e1 w1 ⟨rfl,hb1⟩;have HA1:=Aside0.mk hb1;clear hb1)
  | (go_at_call 35;with_reducible refine(strings_ReplaceAll.calls a (⟨#[13]⟩ : ByteArray) (⟨#[10]⟩ : ByteArray) b _ (gok_below hG HA1.out) hRB.out).mono ?_;rintro e2 wB ⟨rfl,hb2⟩;have HA2:=Aside0.mk (below_step HA1.out hb2);clear hb2))
 go_loopg [0] k (fun kq v0 w'=>∃ (acc s:ByteArray),v0 = .string s∧Aside0 (xml_Unescape.l0 kq acc s=some (r1,r2))∧Aside0 (kq≤k)∧Aside0 (Lib.IsBuilderF 68 5 w.heap.size wB.heap.size (Lib.byteCells acc.data.toList) w')∧Aside0 (Below w.heap.size w w'))
 case atStart=>
  exact⟨⟨#[]⟩,b,rfl,hH,⟨Nat.le_refl _⟩,⟨xml_print.isB_made 68 5 _ HA2.out.size⟩,⟨by repeat (first|exact HA2.out|apply below_alloc|apply pw_below_drewN)⟩⟩
 case round=>
  clear hH hRA hRB HA1
  obtain⟨acc,s,rfl,HA,HK1,HIr,HWr⟩:=hrel
  cases gk with
  | zero=>exact absurd HA.out (by simp [xml_Unescape.l0])
  | succ k1=>
   have H:=HA.out
   clear HA
   simp only [xml_Unescape.l0] at H
   obtain⟨p,hA0,H⟩:=bndO H
   obtain⟨p1,p2,p3⟩:=p
   have hA:=Aside0.mk hA0
   clear hA0
   rcases itO H with⟨c1,H1⟩|⟨c1,H1⟩
   ·have C1:=Aside0.mk c1
    clear c1 H
    cases p3 with
    | false=>
     dsimp only at H1
     rw [if_neg Bool.false_ne_true] at H1
     simp only [Option.some.injEq,Prod.mk.injEq] at H1
     obtain⟨rfl,rfl⟩:=H1
     go_wp2_with (first|(go_at_call 36;with_reducible refine(strings_Cut.calls s (⟨#[38]⟩ : ByteArray) p1 p2 false wr (gok_below hG HWr.out) hA.out).mono ?_;rintro e1 w1 ⟨rfl,⟨⟨n1,rfl⟩⟩⟩;have HI1:=Aside0.mk (Bld.IsB_drewN HIr.out n1);have HW1:=Aside0.mk (pw_below_drewN HWr.out n1))|(go_at_call 37;have hcall:=Bld.WriteString w.heap.size wB.heap.size _ p1 _ HI1.out (by rw [xml_print.cells_size];exact C1.out) HW1.out.size;with_reducible refine hcall.mono ?_;clear hcall;rintro e2 w2 ⟨rfl,hi2,hb2,_⟩;have HI2:=Aside0.mk ((xml_print.cells_app acc p1).symm▸hi2);have HW2:=Aside0.mk (HW1.out.trans hb2);clear hi2 hb2)|(go_at_call 38;have hcall:=Bld.String_ w.heap.size wB.heap.size _ w2 HI2.out HW2.out.size;with_reducible refine hcall.mono ?_;clear hcall;rintro e3 w3 ⟨rfl,hb3⟩;have HW3:=Aside0.mk (HW2.out.trans hb3);clear hb3))
     go_ret2
     exact⟨rfl,HW3.out⟩
    | true=>
     rw [if_pos rfl] at H1
     obtain⟨q,hB0,H2⟩:=bndO H1
     obtain⟨q1,q2,q3⟩:=q
     have hB:=Aside0.mk hB0
     clear hB0 H1
     cases q3 with
     | false=>
      dsimp only at H2
      rw [if_neg Bool.false_ne_true] at H2
      simp only [Option.some.injEq,Prod.mk.injEq] at H2
      obtain⟨rfl,rfl⟩:=H2
      go_wp2_with (first|(go_at_call 36;with_reducible refine(strings_Cut.calls s (⟨#[38]⟩ : ByteArray) p1 p2 true wr (gok_below hG HWr.out) hA.out).mono ?_;rintro e1 w1 ⟨rfl,⟨⟨n1,rfl⟩⟩⟩;have HI1:=Aside0.mk (Bld.IsB_drewN HIr.out n1);have HW1:=Aside0.mk (pw_below_drewN HWr.out n1))|(go_at_call 37;have hcall:=Bld.WriteString w.heap.size wB.heap.size _ p1 _ HI1.out (by rw [xml_print.cells_size];exact C1.out) HW1.out.size;with_reducible refine hcall.mono ?_;clear hcall;rintro e2 w2 ⟨rfl,hi2,hb2,_⟩;have HI2:=Aside0.mk ((xml_print.cells_app acc p1).symm▸hi2);have HW2:=Aside0.mk (HW1.out.trans hb2);clear hi2 hb2)|(go_at_call 36;with_reducible refine(strings_Cut.calls p2 (⟨#[59]⟩ : ByteArray) q1 q2 false w2 (gok_below hG HW2.out) hB.out).mono ?_;rintro e3 w3 ⟨rfl,⟨⟨n3,rfl⟩⟩⟩;have HI3:=Aside0.mk (Bld.IsB_drewN HI2.out n3);have HW3:=Aside0.mk (pw_below_drewN HW2.out n3)))
      go_ret2
      exact⟨rfl,HW3.out⟩
     | true=>
      rw [if_pos rfl] at H2
      obtain⟨t,hS0,H3⟩:=bndO H2
      obtain⟨t1,t2⟩:=t
      have hS:=Aside0.mk hS0
      clear hS0 H2
      cases t2 with
      | false=>
       dsimp only at H3
       rw [if_neg Bool.false_ne_true] at H3
       simp only [Option.some.injEq,Prod.mk.injEq] at H3
       obtain⟨rfl,rfl⟩:=H3
       go_wp2_with (first|(go_at_call 36;with_reducible refine(strings_Cut.calls s (⟨#[38]⟩ : ByteArray) p1 p2 true wr (gok_below hG HWr.out) hA.out).mono ?_;rintro e1 w1 ⟨rfl,⟨⟨n1,rfl⟩⟩⟩;have HI1:=Aside0.mk (Bld.IsB_drewN HIr.out n1);have HW1:=Aside0.mk (pw_below_drewN HWr.out n1))|(go_at_call 37;have hcall:=Bld.WriteString w.heap.size wB.heap.size _ p1 _ HI1.out (by rw [xml_print.cells_size];exact C1.out) HW1.out.size;with_reducible refine hcall.mono ?_;clear hcall;rintro e2 w2 ⟨rfl,hi2,hb2,_⟩;have HI2:=Aside0.mk ((xml_print.cells_app acc p1).symm▸hi2);have HW2:=Aside0.mk (HW1.out.trans hb2);clear hi2 hb2)|(go_at_call 36;with_reducible refine(strings_Cut.calls p2 (⟨#[59]⟩ : ByteArray) q1 q2 true w2 (gok_below hG HW2.out) hB.out).mono ?_;rintro e3 w3 ⟨rfl,⟨⟨n3,rfl⟩⟩⟩;have HI3:=Aside0.mk (Bld.IsB_drewN HI2.out n3);have HW3:=Aside0.mk (pw_below_drewN HW2.out n3))|(go_at_call 39;with_reducible refine(xml_sign.calls q1 t1 false _ hS.out).mono ?_;rintro e4 w4 ⟨rfl,hb4⟩;have HI4:=Aside0.mk (xml_Unescape.isB_below HI3.out hb4);have HW4:=Aside0.mk (below_step HW3.out hb4);clear hb4))
       go_ret2
       exact⟨rfl,HW4.out⟩
      | true=>
       rw [if_pos rfl] at H3
       rcases itO H3 with⟨c2,H4⟩|⟨c2,H4⟩
       ·have C2:=Aside0.mk c2
        have H':=Aside0.mk H4
        clear c2 H3 H4
        go_wp2_with (first|(go_at_call 36;with_reducible refine(strings_Cut.calls s (⟨#[38]⟩ : ByteArray) p1 p2 true wr (gok_below hG HWr.out) hA.out).mono ?_;rintro e1 w1 ⟨rfl,⟨⟨n1,rfl⟩⟩⟩;have HI1:=Aside0.mk (Bld.IsB_drewN HIr.out n1);have HW1:=Aside0.mk (pw_below_drewN HWr.out n1))|(go_at_call 37;have hcall:=Bld.WriteString w.heap.size wB.heap.size _ p1 _ HI1.out (by rw [xml_print.cells_size];exact C1.out) HW1.out.size;with_reducible refine hcall.mono ?_;clear hcall;rintro e2 w2 ⟨rfl,hi2,hb2,_⟩;have HI2:=Aside0.mk ((xml_print.cells_app acc p1).symm▸hi2);have HW2:=Aside0.mk (HW1.out.trans hb2);clear hi2 hb2)|(go_at_call 36;with_reducible refine(strings_Cut.calls p2 (⟨#[59]⟩ : ByteArray) q1 q2 true w2 (gok_below hG HW2.out) hB.out).mono ?_;rintro e3 w3 ⟨rfl,⟨⟨n3,rfl⟩⟩⟩;have HI3:=Aside0.mk (Bld.IsB_drewN HI2.out n3);have HW3:=Aside0.mk (pw_below_drewN HW2.out n3))|(go_at_call 39;with_reducible refine(xml_sign.calls q1 t1 true _ hS.out).mono ?_;rintro e4 w4 ⟨rfl,hb4⟩;have HI4:=Aside0.mk (xml_Unescape.isB_below HI3.out hb4);have HW4:=Aside0.mk (below_step HW3.out hb4);clear hb4)|(go_at_call 37;have hcall:=Bld.WriteString w.heap.size wB.heap.size _ t1 _ HI4.out (by rw [xml_print.cells_size];exact C2.out) HW4.out.size;with_reducible refine hcall.mono ?_;clear hcall;rintro e5 w5 ⟨rfl,hi5,hb5,_⟩;have HI5:=Aside0.mk ((xml_print.cells_app (acc++p1) t1).symm▸hi5);have HW5:=Aside0.mk (HW4.out.trans hb5);clear hi5 hb5))
        go_roundg k1
        case measure=>have:=HK1.out;omega
        case rel=>exact⟨acc++p1++t1,q2,rfl,H',⟨by have:=HK1.out;omega⟩,HI5,HW5⟩
       ·exact absurd H4 (by simp)
   ·exact absurd H1 (by simp)
end Go.Proofs.YtklcgncaclggcaaDoor.Q
