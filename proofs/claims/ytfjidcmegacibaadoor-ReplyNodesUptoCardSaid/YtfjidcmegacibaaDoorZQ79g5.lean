/- A part of the proof of the seat's laws. No condition beyond those in the theorems. -/
import Derived.Test.YtfjidcmegacibaaDoorZBld
import Derived.Lib.Hide
import Derived.Deep.RegionWith
import Derived.Test.YtfjidcmegacibaaDoorZQ64g12
import Derived.Test.YtfjidcmegacibaaDoorZQ0g11
import Derived.Test.YtfjidcmegacibaaDoorZMarkB

namespace Go.Proofs.YtfjidcmegacibaaDoor.Q
open Go.RowKit Go.Proofs.YtfjidcmegacibaaDoorW.PrintWords Go.Proofs.YtfjidcmegacibaaDoorW.PrintLast Go.Proofs.YtfjidcmegacibaaDoorW.PrintMore
set_option linter.unusedVariables false
set_option linter.unusedSimpArgs false
set_option maxHeartbeats 8000000
set_option maxRecDepth 100000
attribute [local go_sem] max2_int min2_int max_two min_two max_three min_three max_four min_four   
mutual
def xml_print.f:Nat→ByteArray→ByteArray→ByteArray→List S42→ByteArray→Option ByteArray
 | 0,_,_,_,_,_=>none
 | k+1,acc,nm,tx,kids,more=>(xml_Escape.f tx).bind fun e=>(if acc.size+(1+nm.size+more.size+1+e.size)≤140737488355328 then((xml_print.l0 k (acc++((((⟨#[60]⟩ : ByteArray)++nm)++more)++⟨#[62]⟩++e)) kids 0).bind fun acc2=>(if acc2.size+(2+nm.size+1)≤140737488355328 then some (acc2++(((⟨#[60,47]⟩ : ByteArray)++nm)++⟨#[62]⟩)) else none)) else none)
def xml_print.l0:Nat→ByteArray→List S42→Int→Option ByteArray
 | 0,_,_,_=>none
 | k+1,acc,kids,i=>(if i<(kids.length:Int) then(if 0≤i then((xml_print.f k acc ((rd_T42 kids i).f0) ((rd_T42 kids i).f1) ((rd_T42 kids i).f2) (⟨#[]⟩ : ByteArray)).bind fun acc2=>xml_print.l0 k acc2 kids (wrap64 (i+1))) else none) else some acc)
end
theorem xml_print.isB_below {T e B b:Nat} {bs:List Value} {w W:World} (h:Lib.IsBuilderF T e B b bs w) (hb:Below w.heap.size w W):Lib.IsBuilderF T e B b bs W:=by
 have key:∀ p,Lib.BuilderAtF T e B b p bs w→Lib.BuilderAtF T e B b p bs W:=by
  rintro p ⟨hB,v,hbk,hown,hne⟩
  refine⟨hB,v,(hb.block b (Array.getElem?_eq_some_iff.1 hbk).1).trans hbk,?_,hne⟩
  obtain⟨h1,h2⟩:=hown
  refine⟨h1,?_⟩
  rcases h2 with h2|⟨g,cap,cur,fz,rfl,hg,hh,r⟩
  ·exact .inl h2
  ·exact .inr ⟨g,cap,cur,fz,rfl,hg,(hb.block g (Array.getElem?_eq_some_iff.1 hh).1).trans hh,r⟩
 rcases h with h|h
 ·exact .inl (key _ h)
 ·exact .inr (key _ h)
theorem xml_print.isB_lt {T e B b:Nat} {bs:List Value} {w:World} (h:Lib.IsBuilderF T e B b bs w):b<w.heap.size:=by
 rcases h with⟨_,v,hbk,_⟩|⟨_,v,hbk,_⟩
 ·exact(Array.getElem?_eq_some_iff.1 hbk).1
 ·exact(Array.getElem?_eq_some_iff.1 hbk).1
theorem xml_print.kept_below {e:TypeId} {b:Option Nat} {a w w':World} (h:Lib.OthersKept e b a w) (hb:Below w.heap.size w w'):Lib.OthersKept e b a w':=by
 intro k x hk hn hx
 have h1:=h k x hk hn hx
 exact(hb.block k (Array.getElem?_eq_some_iff.1 h1).1).trans h1
theorem xml_print.kept_at {e t:TypeId} {b g:Nat} {w w':World} {cs:Array Value} {z:Nat×Nat} (h:Lib.OthersKept e (some b) w w') (hg:w.heap[g]? = some (.cells cs t z)) (hne:g≠b) (ht:t≠e):w'.heap[g]? = some (.cells cs t z):=
 h g _ hg (fun hh=>hne (Option.some.inj hh)) (fun c fz hh=>by
  injection hh with _ hh
  exact ht hh)
theorem xml_print.cells_size (a:ByteArray):(Lib.byteCells a.data.toList).length=a.size:=by
 rw [Lib.byteCells_length,data_length]
theorem xml_print.cells_app (a s:ByteArray):Lib.byteCells (a++s).data.toList=Lib.byteCells a.data.toList++Lib.strCells s:=by
 rw [ByteArray.data_append,Array.toList_append,Lib.byteCells_append]
 rfl
theorem xml_print.sz1 (nm more e:ByteArray):((((⟨#[60]⟩ : ByteArray)++nm)++more)++⟨#[62]⟩++e).size=1+nm.size+more.size+1+e.size:=by
 simp only [ByteArray.size_append]
 rfl
theorem xml_print.sz2 (nm:ByteArray):(((⟨#[60,47]⟩ : ByteArray)++nm)++⟨#[62]⟩).size=2+nm.size+1:=by
 simp only [ByteArray.size_append]
 rfl
theorem xml_print.calls (k:Nat):∀ (acc nm tx:ByteArray) (A:Option Addr) (c:Nat) (l:List S42) (more r:ByteArray) (w0 w:World) (b:Nat) (hr:Kd.C k42 w0 A l.length l) (hc:l.length≤c) (hW:Below w0.heap.size w0 w) (hI:Lib.IsBuilderF 65 5 w0.heap.size b (Lib.byteCells acc.data.toList) w) (h:xml_print.f k acc nm tx l more=some r),
  Calls Tryd.prog 59 #[.pointer (some ⟨b,0,none⟩),.agg #[.string nm,.string tx,.slice A l.length c],.string more] w fun e w'=>e = .returned (.tuple #[])∧Lib.IsBuilderF 65 5 w0.heap.size b (Lib.byteCells r.data.toList) w'∧Below w0.heap.size w0 w'∧Lib.OthersKept 5 (some b) w w':=by
 induction k using Nat.strongRecOn with
 | _ k ih=>
 intro acc nm tx A c l more r w0 w b hr hc hW hI h
 cases k with
 | zero=>exact absurd h (by simp [xml_print.f])
 | succ k=>
 simp only [xml_print.f] at h
 have hu24:=Tryd.underlying42
 obtain⟨e,hE0,h⟩:=bndO h
 have hE:=Aside0.mk hE0
 rcases itO h with⟨c1,h1⟩|⟨c1,h1⟩
 ·obtain⟨acc2,hL0,h2⟩:=bndO h1
  have hL:=Aside0.mk hL0
  rcases itO h2 with⟨c2,h3⟩|⟨c2,h3⟩
  ·have hR:=Aside0.mk (Option.some.inj h3)
   have C1:=Aside0.mk c1
   have C2:=Aside0.mk c2
   have HR:=Aside0.mk hr
   have HC:=Aside0.mk hc
   have HW:=Aside0.mk hW
   have HI:=Aside0.mk hI
   have hlt:=Aside0.mk (xml_print.isB_lt hI)
   have z1:1+nm.size≤9223372036854775807:=by omega
   have z2:1+nm.size+more.size≤9223372036854775807:=by omega
   have z3:1+nm.size+more.size+1≤9223372036854775807:=by omega
   have z4:1+nm.size+more.size+1+e.size≤9223372036854775807:=by omega
   have z5:2+nm.size≤9223372036854775807:=by omega
   have z6:2+nm.size+1≤9223372036854775807:=by omega
   have y1:(9223372036854775807<1+nm.size)=False:=eq_false (by omega)
   have y2:(9223372036854775807<1+nm.size+more.size)=False:=eq_false (by omega)
   have y3:(9223372036854775807<1+nm.size+more.size+1)=False:=eq_false (by omega)
   have y4:(9223372036854775807<1+nm.size+more.size+1+e.size)=False:=eq_false (by omega)
   have y5:(9223372036854775807<2+nm.size)=False:=eq_false (by omega)
   have y6:(9223372036854775807<2+nm.size+1)=False:=eq_false (by omega)
   clear h h1 h2 h3 c1 c2 hr hc hW hI hL0 hE0
   go_enter Tryd.func59,Tryd.ntmps59
   go_upto_region 1 with(first|((with_reducible refine gate_dst (N:=4) rfl ?_);(try (refine gate_guard (by rfl) ?_;dsimp only));refine box_event ?hg (N:=4) ?hd (cs:=#[.string nm,.string tx,.slice A l.length c]) (t:=42) ?hr ?_;(case hd=>rfl);(case hg=>rfl);(case hr=>first|(go_simp;done)|(go_simp;rfl));intro gb hg w4 hbox hb;have BK:=Aside0.mk (hbox);have HI4:=Aside0.mk (xml_print.isB_below HI.out hb);have HW4:=Aside0.mk (below_step HW.out hb);have OK4:=Aside0.mk (xml_print.kept_below (Lib.OthersKept.refl 5 (some b) w) hb);have NB:=Aside0.mk (show gb≠b by rw [hg];exact Nat.ne_of_gt hlt.out);have HS4:=Aside0.mk (show w0.heap.size≤gb by rw [hg];exact HW.out.size);clear hb hbox hg HI HW))
   have hcz0:w4.cell? ⟨gb,0,none⟩=some (.string nm):=(blk_cell BK.out 0).trans rfl
   have hcz1:w4.cell? ⟨gb,1,none⟩=some (.string tx):=(blk_cell BK.out 1).trans rfl
   have hcz2:w4.cell? ⟨gb,2,none⟩=some (.slice A l.length c):=(blk_cell BK.out 2).trans rfl
   have hfz0:=blk_frozen BK.out 0
   have hfz1:=blk_frozen BK.out 1
   have hfz2:=blk_frozen BK.out 2
   go_region_with (first
    | (go_at_call 87;refine(xml_Escape.calls tx e _ hE.out).mono ?_;rintro e9 w9 ⟨rfl,hb9⟩;have BK9:=Aside0.mk (blk_below (g:=gb) (o:=.cells #[.string nm,.string tx,.slice A l.length c] 42 (0,0)) (by(with_reducible repeat (first|refine blk_drewN ?_ _|refine blk_drew ?_));exact BK.out) hb9);have HI9:=Aside0.mk (xml_print.isB_below (by first|exact HI4.out|exact Bld.IsB_drewN HI4.out _) hb9);have HW9:=Aside0.mk (below_step (by first|exact HW4.out|exact pw_below_drewN HW4.out _) hb9);have OK9:=Aside0.mk (xml_print.kept_below (by first|exact OK4.out|exact Lib.OthersKept.drew OK4.out) hb9);have hd0:w9.cell? ⟨gb,0,none⟩=some (.string nm):=(blk_cell BK9.out 0).trans rfl;have hd1:w9.cell? ⟨gb,1,none⟩=some (.string tx):=(blk_cell BK9.out 1).trans rfl;have hd2:w9.cell? ⟨gb,2,none⟩=some (.slice A l.length c):=(blk_cell BK9.out 2).trans rfl;clear hb9)
    | (go_at_call 28;have hcall:=Bld.WriteString w0.heap.size b _ ((((⟨#[60]⟩ : ByteArray)++nm)++more)++⟨#[62]⟩++e) w9 HI9.out (by rw [xml_print.cells_size,xml_print.sz1];exact C1.out) HW9.out.size;with_reducible refine hcall.mono ?_;clear hcall;(rintro e1 w1 ⟨rfl,hi1,hb1,hk1⟩;have HI1:=Aside0.mk hi1;have HW1:=Aside0.mk (HW9.out.trans hb1);have BK1:=Aside0.mk (xml_print.kept_at hk1 BK9.out NB.out (by decide));have OK1:=Aside0.mk (OK9.out.trans hk1);clear hi1 hb1 hk1)))
   all_goals
    have hcy0:w1.cell? ⟨gb,0,none⟩=some (.string nm):=(blk_cell BK1.out 0).trans rfl
    have hcy2:w1.cell? ⟨gb,2,none⟩=some (.slice A l.length c):=(blk_cell BK1.out 2).trans rfl
    go_wp2_with fail
    go_loopg [23] k (fun kq v23 w'=>∃ (i:Int) (acc1:ByteArray),v23 = .int .i64 i∧Aside0 (xml_print.l0 kq acc1 l i=some acc2)∧Aside0 (kq≤k)∧Aside0 (Lib.IsBuilderF 65 5 w0.heap.size b (Lib.byteCells acc1.data.toList) w')∧Aside0 (Below w0.heap.size w0 w')∧Aside0 (Lib.OthersKept 5 (some b) w w')∧Aside0 (w'.heap[gb]? = some (.cells #[.string nm,.string tx,.slice A l.length c] 42 (0,0))))
    case atStart=>exact⟨0,_,rfl,hL,⟨Nat.le_refl _⟩,⟨by rw [xml_print.cells_app];exact HI1.out⟩,HW1,OK1,BK1⟩
    case round=>
     clear hL HI1 HW1 OK1 BK1 hcy0 hcy2
     obtain⟨i,acc1,rfl,HA,HK1,HIr,HWr,OKr,BKr⟩:=hrel
     cases gk with
     | zero=>exact absurd HA.out (by simp [xml_print.l0])
     | succ k1=>
      have H:=HA.out
      clear HA
      simp only [xml_print.l0] at H
      rcases itO H with⟨d1,H1⟩|⟨d1,H1⟩
      ·rcases itO H1 with⟨d2,H2⟩|⟨d2,H2⟩
       ·obtain⟨acc3,A30,H3⟩:=bndO H2
        have A3:=Aside0.mk A30
        have H':=Aside0.mk H3
        clear H H1 H2 A30 H3
        obtain⟨ad,A2,c2,e2,hx0,hx1,hx2,hl2,hi2⟩:=at_T42 HR.out i d2 d1
        cases e2
        replace hx0:=(HWr.out.cell (World.block_lt_of_cell? w0 _ hx0)).trans hx0
        replace hx1:=(HWr.out.cell (World.block_lt_of_cell? w0 _ hx1)).trans hx1
        replace hx2:=(HWr.out.cell (World.block_lt_of_cell? w0 _ hx2)).trans hx2
        have HR2:=Aside0.mk hi2
        have HC2:=Aside0.mk hl2
        clear hi2 hl2
        have d3:decide (i<(l.length:Int))=true:=decide_eq_true d1
        have d4:decide (0≤i)=true:=decide_eq_true d2
        replace d1:=eq_true d1
        replace d2:=eq_true d2
        go_wp2_with (first
         | ((with_reducible refine gate_dst (N:=7) rfl ?_);(try (refine gate_guard (by rfl) ?_;dsimp only));refine box_event ?hg (N:=7) ?hd (cs:=#[.string (⟨#[]⟩ : ByteArray),.string (⟨#[]⟩ : ByteArray),.slice none 0 0]) (t:=42) ?hr ?_;(case hd=>rfl);(case hg=>rfl);(case hr=>first|(go_simp;done)|(go_simp;rfl));intro g2 hg w2 hbox hb;have BK2:=Aside0.mk hbox;have HB2:=Aside0.mk hb;have GE2:=Aside0.mk (show wr.heap.size≤g2 by rw [hg];exact Nat.le_refl _);have hcw0:w2.cell? ⟨g2,0,none⟩=some (.string (⟨#[]⟩ : ByteArray)):=(blk_cell BK2.out 0).trans rfl;have hcw1:w2.cell? ⟨g2,1,none⟩=some (.string (⟨#[]⟩ : ByteArray)):=(blk_cell BK2.out 1).trans rfl;have hcw2:w2.cell? ⟨g2,2,none⟩=some (.slice none 0 0):=(blk_cell BK2.out 2).trans rfl;have hfw0:=blk_frozen BK2.out 0;have hfw1:=blk_frozen BK2.out 1;have hfw2:=blk_frozen BK2.out 2;clear hb hbox hg)
         | ((with_reducible refine gate_callee (f:=59) rfl ?_);refine goesL_ (some 29) rfl rfl Tryd.func59 (by kernel_rfl) rfl #[.pointer (some ⟨b,0,none⟩),.agg #[.string ((rd_T42 l i).f0),.string ((rd_T42 l i).f1),.slice A2 ((rd_T42 l i).f2).length c2],.string (⟨#[]⟩ : ByteArray)] rfl (by(try simp only [List.map_toArray,List.map_cons,List.map_nil]);first|done|rfl|(simp only [List.length_drop,List.length_take];rfl)) ?_;(with_reducible refine(ih k1 (by have:=HK1.out;omega) acc1 ((rd_T42 l i).f0) ((rd_T42 l i).f1) A2 c2 ((rd_T42 l i).f2) (⟨#[]⟩ : ByteArray) acc3 w0 _ b HR2.out HC2.out ?s1 ?s2 A3.out).mono ?_);(case s1=>exact below_step HWr.out (by repeat (first|exact HB2.out|apply pw_below_drewN|apply below_drew1|refine below_set ?_ GE2.out)));(case s2=>exact xml_print.isB_below HIr.out (by repeat (first|exact HB2.out|apply pw_below_drewN|apply below_drew1|refine below_set ?_ GE2.out)));rintro e3 w3 ⟨rfl,hi3,hw3,hk3⟩;refine⟨_,rfl,?_⟩;have HI3:=Aside0.mk hi3;have HW3:=Aside0.mk hw3;have OK3:=Aside0.mk ((xml_print.kept_below OKr.out (by repeat (first|exact HB2.out|apply pw_below_drewN|apply below_drew1|refine below_set ?_ GE2.out))).trans hk3);have BK3:=Aside0.mk (xml_print.kept_at hk3 (blk_below (g:=gb) (o:=.cells #[.string nm,.string tx,.slice (some ad) l.length c] 42 (0,0)) BKr.out (by repeat (first|exact HB2.out|apply pw_below_drewN|apply below_drew1|refine below_set ?_ GE2.out))) NB.out (by decide));clear hi3 hw3 hk3))
        go_roundg k1
        case measure=>have:=HK1.out;omega
        case rel=>exact⟨wrap64 (i+1),acc3,by first|rfl|(simp;done)|(simp [*];done),H',⟨by have:=HK1.out;omega⟩,HI3,HW3,OK3,BK3⟩
       ·exact absurd H2 (by simp)
      ·obtain rfl:=Option.some.inj H1
       clear H H1
       have d3:decide (i<(l.length:Int))=false:=decide_eq_false d1
       clear d1
       have hcy0:wr.cell? ⟨gb,0,none⟩=some (.string nm):=(blk_cell BKr.out 0).trans rfl
       go_wp2_with (go_at_call 28;have hcall:=Bld.WriteString w0.heap.size b _ (((⟨#[60,47]⟩ : ByteArray)++nm)++⟨#[62]⟩) wr HIr.out (by rw [xml_print.cells_size,xml_print.sz2];exact C2.out) HWr.out.size;with_reducible refine hcall.mono ?_;clear hcall;rintro e1 w5 ⟨rfl,hi5,hb5,hk5⟩;have HI5:=Aside0.mk hi5;have HW5:=Aside0.mk (HWr.out.trans hb5);have OK5:=Aside0.mk (OKr.out.trans hk5);clear hi5 hb5 hk5)
       go_end0
       exact⟨rfl,by rw [← hR.out,xml_print.cells_app];exact HI5.out,HW5.out,OK5.out⟩
  ·exact absurd h3 (by simp)
 ·exact absurd h1 (by simp)
theorem xml_print.mono_l:∀ k,(∀ y0 y1 y2 y3 y4,LeO (xml_print.f k y0 y1 y2 y3 y4) (xml_print.f (k+1) y0 y1 y2 y3 y4))∧(∀ y0 y1 y2,LeO (xml_print.l0 k y0 y1 y2) (xml_print.l0 (k+1) y0 y1 y2))
 | 0=>⟨fun _ _ _ _ _ r h=>by simp [xml_print.f] at h,fun _ _ _ r h=>by simp [xml_print.l0] at h⟩
 | k+1=>by
  obtain⟨ih0,ih1⟩:=xml_print.mono_l k
  refine⟨?_,?_⟩
  ·intro y0 y1 y2 y3 y4
   unfold xml_print.f
   with_reducible repeat' first|exact ih0 _ _ _ _ _|exact ih1 _ _ _|exact LeO.refl _|exact LeO.none _|refine LeO.ite ?_ ?_|refine LeO.bind ?_ (fun _=>?_)
  ·intro y0 y1 y2
   unfold xml_print.l0
   with_reducible repeat' first|exact ih0 _ _ _ _ _|exact ih1 _ _ _|exact LeO.refl _|exact LeO.none _|refine LeO.ite ?_ ?_|refine LeO.bind ?_ (fun _=>?_)
theorem xml_print.mono (a0 a1 a2:ByteArray) (a3:List S42) (a4:ByteArray) (k:Nat):LeO (xml_print.f k a0 a1 a2 a3 a4) (xml_print.f (k+1) a0 a1 a2 a3 a4):=(xml_print.mono_l k).1 a0 a1 a2 a3 a4
abbrev xml_Print.head:ByteArray:=⟨#[60,63,120,109,108,32,118,101,114,115,105,111,110,61,34,49,46,48,34,32,101,110,99,111,100,105,110,103,61,34,85,84,70,45,56,34,63,62,10]⟩
abbrev xml_Print.room:ByteArray:=⟨#[32,120,109,108,110,115,61,34,104,116,116,112,58,47,47,115,51,46,97,109,97,122,111,110,97,119,115,46,99,111,109,47,100,111,99,47,50,48,48,54,45,48,51,45,48,49,47,34]⟩
theorem xml_Print.head_len:([]:List Value).length+xml_Print.head.size≤140737488355328:=by decide
def xml_Print.f (k:Nat) (a0_0:ByteArray) (a0_1:ByteArray) (l0_2:List S42) (a1:Bool):Option (ByteArray×Int):=(xml_may.f k a0_0 a0_1 l0_2 1).bind fun m=>(if m=true then((xml_print.f k xml_Print.head a0_0 a0_1 l0_2 (if a1=true then xml_Print.room else(⟨#[]⟩ : ByteArray))).bind fun s=>(if(65536:Int)<(s.size:Int) then some ((⟨#[]⟩ : ByteArray),2) else some (s,0))) else some ((⟨#[]⟩ : ByteArray),130))
theorem xml_Print.mono (a0 a1:ByteArray) (a2:List S42) (a3:Bool) (k:Nat):LeO (xml_Print.f k a0 a1 a2 a3) (xml_Print.f (k+1) a0 a1 a2 a3):=by
 unfold xml_Print.f
 with_reducible repeat' first|exact xml_may.mono _ _ _ _ _|exact xml_print.mono _ _ _ _ _ _|exact LeO.refl _|exact LeO.none _|refine LeO.ite ?_ ?_|refine LeO.bind ?_ (fun _=>?_)
theorem xml_print.isB_made (T e:Nat) {B:Nat} (w:World) (hB:B≤w.heap.size):Lib.IsBuilderF T e B w.heap.size [] (w.alloc (.cells #[.pointer none,.slice none 0 0] T)):=
 .inl ⟨hB,.slice none 0 0,heap_alloc_new w _,⟨rfl,.inl ⟨rfl,rfl⟩⟩,by simp [Value.ownBlock]⟩
theorem xml_Print.calls (k:Nat) (a0_0:ByteArray) (a0_1:ByteArray) (A0_2:Option Addr) (c0_2:Nat) (l0_2:List S42) (a1:Bool) (r1:ByteArray) (r2:Int) (w:World) (hr0_2:Kd.C k42 w A0_2 l0_2.length l0_2) (hc0_2:l0_2.length≤c0_2) (h:xml_Print.f k a0_0 a0_1 l0_2 a1=some (r1,r2)) :
  Calls Tryd.prog 35 #[.agg #[.string a0_0,.string a0_1,.slice A0_2 l0_2.length c0_2],.bool a1] w fun e w'=>e = .returned (.tuple #[.string r1,.int .i64 r2])∧Below w.heap.size w w':=by
 simp only [xml_Print.f] at h
 have hu24:=Tryd.underlying42
 obtain⟨m,hM0,h⟩:=bndO h
 have hM:=Aside0.mk hM0
 have HR:=Aside0.mk hr0_2
 have HC:=Aside0.mk hc0_2
 clear hM0 hr0_2 hc0_2
 cases m with
 | false=>
  rw [if_neg (by decide)] at h
  simp only [Option.some.injEq,Prod.mk.injEq] at h
  obtain⟨rfl,rfl⟩:=h
  go_enter Tryd.func35,Tryd.ntmps35
  go_wp2_with (first
   | ((with_reducible refine gate_dst (N:=2) rfl ?_);(try (refine gate_guard (by rfl) ?_;dsimp only));refine box_event ?hg (N:=2) ?hd (cs:=#[.string a0_0,.string a0_1,.slice A0_2 l0_2.length c0_2]) (t:=42) ?hr ?_;(case hd=>rfl);(case hg=>rfl);(case hr=>first|(go_simp;done)|(go_simp;rfl));intro gb hg w4 hbox hb;have BK:=Aside0.mk hbox;have HB4:=Aside0.mk hb;have HG:=Aside0.mk (show w.heap.size≤gb by rw [hg];exact Nat.le_refl _);have hcz0:w4.cell? ⟨gb,0,none⟩=some (.string a0_0):=(blk_cell BK.out 0).trans rfl;have hcz1:w4.cell? ⟨gb,1,none⟩=some (.string a0_1):=(blk_cell BK.out 1).trans rfl;have hcz2:w4.cell? ⟨gb,2,none⟩=some (.slice A0_2 l0_2.length c0_2):=(blk_cell BK.out 2).trans rfl;clear hb hbox hg)
   | (go_at_call 58;have hcall:=xml_may.calls k a0_0 a0_1 A0_2 c0_2 l0_2 1 false w4 (Kd.C_below HR.out HB4.out) HC.out hM.out;with_reducible refine hcall.mono ?_;clear hcall;rintro e5 w5 ⟨rfl,hb5⟩;have HB5:=Aside0.mk (below_step HB4.out hb5);have BK5:=Aside0.mk (blk_below (g:=gb) (o:=.cells #[.string a0_0,.string a0_1,.slice A0_2 l0_2.length c0_2] 42 (0,0)) BK.out hb5);clear hb5))
  go_ret2
  exact⟨rfl,HB5.out⟩
 | true=>
  rw [if_pos rfl] at h
  obtain⟨s,hP0,h⟩:=bndO h
  have hP:=Aside0.mk hP0
  clear hP0
  by_cases hz:(65536:Int)<(s.size:Int)
  ·rw [if_pos hz] at h
   simp only [Option.some.injEq,Prod.mk.injEq] at h
   obtain⟨rfl,rfl⟩:=h
   have hz':decide ((65536:Int)<(s.size:Int))=true:=decide_eq_true hz
   clear hz
   cases a1 with
   | false=>
    replace hP:=Aside0.mk ((congrArg (fun x=>xml_print.f k xml_Print.head a0_0 a0_1 l0_2 x) (if_neg (by decide))).symm.trans hP.out)
    go_enter Tryd.func35,Tryd.ntmps35
    go_wp2_with (first
     | ((with_reducible refine gate_dst (N:=2) rfl ?_);(try (refine gate_guard (by rfl) ?_;dsimp only));refine box_event ?hg (N:=2) ?hd (cs:=#[.string a0_0,.string a0_1,.slice A0_2 l0_2.length c0_2]) (t:=42) ?hr ?_;(case hd=>rfl);(case hg=>rfl);(case hr=>first|(go_simp;done)|(go_simp;rfl));intro gb hg w4 hbox hb;have BK:=Aside0.mk hbox;have HB4:=Aside0.mk hb;have HG:=Aside0.mk (show w.heap.size≤gb by rw [hg];exact Nat.le_refl _);have hcz0:w4.cell? ⟨gb,0,none⟩=some (.string a0_0):=(blk_cell BK.out 0).trans rfl;have hcz1:w4.cell? ⟨gb,1,none⟩=some (.string a0_1):=(blk_cell BK.out 1).trans rfl;have hcz2:w4.cell? ⟨gb,2,none⟩=some (.slice A0_2 l0_2.length c0_2):=(blk_cell BK.out 2).trans rfl;clear hb hbox hg)
     | (go_at_call 58;have hcall:=xml_may.calls k a0_0 a0_1 A0_2 c0_2 l0_2 1 true w4 (Kd.C_below HR.out HB4.out) HC.out hM.out;with_reducible refine hcall.mono ?_;clear hcall;rintro e5 w5 ⟨rfl,hb5⟩;have HB5:=Aside0.mk (below_step HB4.out hb5);have BK5:=Aside0.mk (blk_below (g:=gb) (o:=.cells #[.string a0_0,.string a0_1,.slice A0_2 l0_2.length c0_2] 42 (0,0)) BK.out hb5);clear hb5)
     | (go_at_call 28;have HB6:=Aside0.mk (below_alloc HB5.out (.cells #[.pointer none,.slice none 0 0] 65));have HI6:=Aside0.mk (xml_print.isB_made 65 5 w5 (below_size HB5.out));have BK6:=Aside0.mk (blk_alloc BK5.out (.cells #[.pointer none,.slice none 0 0] 65));have NB:=Aside0.mk (Nat.ne_of_lt (blk_lt BK5.out));have hcall:=Bld.WriteString w.heap.size w5.heap.size [] xml_Print.head _ HI6.out xml_Print.head_len HB6.out.size;with_reducible refine hcall.mono ?_;clear hcall;rintro e7 w7 ⟨rfl,hi7,hb7,hk7⟩;have HI7:=Aside0.mk hi7;have HB7:=Aside0.mk (HB6.out.trans hb7);have BK7:=Aside0.mk (xml_print.kept_at hk7 BK6.out NB.out (by decide));have hcy0:w7.cell? ⟨gb,0,none⟩=some (.string a0_0):=(blk_cell BK7.out 0).trans rfl;have hcy1:w7.cell? ⟨gb,1,none⟩=some (.string a0_1):=(blk_cell BK7.out 1).trans rfl;have hcy2:w7.cell? ⟨gb,2,none⟩=some (.slice A0_2 l0_2.length c0_2):=(blk_cell BK7.out 2).trans rfl;clear hi7 hb7 hk7)
     | (go_at_call 59;have hcall:=xml_print.calls k xml_Print.head a0_0 a0_1 A0_2 c0_2 l0_2 (⟨#[]⟩ : ByteArray) s w w7 w5.heap.size HR.out HC.out HB7.out HI7.out hP.out;with_reducible refine hcall.mono ?_;clear hcall;rintro e8 w8 ⟨rfl,hi8,hb8,_⟩;have HI8:=Aside0.mk hi8;have HB8:=Aside0.mk hb8;clear hi8 hb8)
     | (go_at_call 60;have hcall:=Tryd.Builder_Len_f w.heap.size w5.heap.size _ w8 HI8.out;rw [xml_print.cells_size] at hcall;with_reducible refine hcall.mono ?_;clear hcall;rintro e9 w9 ⟨rfl,rfl⟩))
    go_ret2
    exact⟨rfl,HB8.out⟩
   | true=>
    replace hP:=Aside0.mk ((congrArg (fun x=>xml_print.f k xml_Print.head a0_0 a0_1 l0_2 x) (if_pos rfl)).symm.trans hP.out)
    go_enter Tryd.func35,Tryd.ntmps35
    go_wp2_with (first
     | ((with_reducible refine gate_dst (N:=2) rfl ?_);(try (refine gate_guard (by rfl) ?_;dsimp only));refine box_event ?hg (N:=2) ?hd (cs:=#[.string a0_0,.string a0_1,.slice A0_2 l0_2.length c0_2]) (t:=42) ?hr ?_;(case hd=>rfl);(case hg=>rfl);(case hr=>first|(go_simp;done)|(go_simp;rfl));intro gb hg w4 hbox hb;have BK:=Aside0.mk hbox;have HB4:=Aside0.mk hb;have HG:=Aside0.mk (show w.heap.size≤gb by rw [hg];exact Nat.le_refl _);have hcz0:w4.cell? ⟨gb,0,none⟩=some (.string a0_0):=(blk_cell BK.out 0).trans rfl;have hcz1:w4.cell? ⟨gb,1,none⟩=some (.string a0_1):=(blk_cell BK.out 1).trans rfl;have hcz2:w4.cell? ⟨gb,2,none⟩=some (.slice A0_2 l0_2.length c0_2):=(blk_cell BK.out 2).trans rfl;clear hb hbox hg)
     | (go_at_call 58;have hcall:=xml_may.calls k a0_0 a0_1 A0_2 c0_2 l0_2 1 true w4 (Kd.C_below HR.out HB4.out) HC.out hM.out;with_reducible refine hcall.mono ?_;clear hcall;rintro e5 w5 ⟨rfl,hb5⟩;have HB5:=Aside0.mk (below_step HB4.out hb5);have BK5:=Aside0.mk (blk_below (g:=gb) (o:=.cells #[.string a0_0,.string a0_1,.slice A0_2 l0_2.length c0_2] 42 (0,0)) BK.out hb5);clear hb5)
     | (go_at_call 28;have HB6:=Aside0.mk (below_alloc HB5.out (.cells #[.pointer none,.slice none 0 0] 65));have HI6:=Aside0.mk (xml_print.isB_made 65 5 w5 (below_size HB5.out));have BK6:=Aside0.mk (blk_alloc BK5.out (.cells #[.pointer none,.slice none 0 0] 65));have NB:=Aside0.mk (Nat.ne_of_lt (blk_lt BK5.out));have hcall:=Bld.WriteString w.heap.size w5.heap.size [] xml_Print.head _ HI6.out xml_Print.head_len HB6.out.size;with_reducible refine hcall.mono ?_;clear hcall;rintro e7 w7 ⟨rfl,hi7,hb7,hk7⟩;have HI7:=Aside0.mk hi7;have HB7:=Aside0.mk (HB6.out.trans hb7);have BK7:=Aside0.mk (xml_print.kept_at hk7 BK6.out NB.out (by decide));have hcy0:w7.cell? ⟨gb,0,none⟩=some (.string a0_0):=(blk_cell BK7.out 0).trans rfl;have hcy1:w7.cell? ⟨gb,1,none⟩=some (.string a0_1):=(blk_cell BK7.out 1).trans rfl;have hcy2:w7.cell? ⟨gb,2,none⟩=some (.slice A0_2 l0_2.length c0_2):=(blk_cell BK7.out 2).trans rfl;clear hi7 hb7 hk7)
     | (go_at_call 59;have hcall:=xml_print.calls k xml_Print.head a0_0 a0_1 A0_2 c0_2 l0_2 xml_Print.room s w w7 w5.heap.size HR.out HC.out HB7.out HI7.out hP.out;with_reducible refine hcall.mono ?_;clear hcall;rintro e8 w8 ⟨rfl,hi8,hb8,_⟩;have HI8:=Aside0.mk hi8;have HB8:=Aside0.mk hb8;clear hi8 hb8)
     | (go_at_call 60;have hcall:=Tryd.Builder_Len_f w.heap.size w5.heap.size _ w8 HI8.out;rw [xml_print.cells_size] at hcall;with_reducible refine hcall.mono ?_;clear hcall;rintro e9 w9 ⟨rfl,rfl⟩))
    go_ret2
    exact⟨rfl,HB8.out⟩
  ·rw [if_neg hz] at h
   simp only [Option.some.injEq,Prod.mk.injEq] at h
   obtain⟨rfl,rfl⟩:=h
   have hz':decide ((65536:Int)<(s.size:Int))=false:=decide_eq_false hz
   clear hz
   cases a1 with
   | false=>
    replace hP:=Aside0.mk ((congrArg (fun x=>xml_print.f k xml_Print.head a0_0 a0_1 l0_2 x) (if_neg (by decide))).symm.trans hP.out)
    go_enter Tryd.func35,Tryd.ntmps35
    go_wp2_with (first
     | ((with_reducible refine gate_dst (N:=2) rfl ?_);(try (refine gate_guard (by rfl) ?_;dsimp only));refine box_event ?hg (N:=2) ?hd (cs:=#[.string a0_0,.string a0_1,.slice A0_2 l0_2.length c0_2]) (t:=42) ?hr ?_;(case hd=>rfl);(case hg=>rfl);(case hr=>first|(go_simp;done)|(go_simp;rfl));intro gb hg w4 hbox hb;have BK:=Aside0.mk hbox;have HB4:=Aside0.mk hb;have HG:=Aside0.mk (show w.heap.size≤gb by rw [hg];exact Nat.le_refl _);have hcz0:w4.cell? ⟨gb,0,none⟩=some (.string a0_0):=(blk_cell BK.out 0).trans rfl;have hcz1:w4.cell? ⟨gb,1,none⟩=some (.string a0_1):=(blk_cell BK.out 1).trans rfl;have hcz2:w4.cell? ⟨gb,2,none⟩=some (.slice A0_2 l0_2.length c0_2):=(blk_cell BK.out 2).trans rfl;clear hb hbox hg)
     | (go_at_call 58;have hcall:=xml_may.calls k a0_0 a0_1 A0_2 c0_2 l0_2 1 true w4 (Kd.C_below HR.out HB4.out) HC.out hM.out;with_reducible refine hcall.mono ?_;clear hcall;rintro e5 w5 ⟨rfl,hb5⟩;have HB5:=Aside0.mk (below_step HB4.out hb5);have BK5:=Aside0.mk (blk_below (g:=gb) (o:=.cells #[.string a0_0,.string a0_1,.slice A0_2 l0_2.length c0_2] 42 (0,0)) BK.out hb5);clear hb5)
     | (go_at_call 28;have HB6:=Aside0.mk (below_alloc HB5.out (.cells #[.pointer none,.slice none 0 0] 65));have HI6:=Aside0.mk (xml_print.isB_made 65 5 w5 (below_size HB5.out));have BK6:=Aside0.mk (blk_alloc BK5.out (.cells #[.pointer none,.slice none 0 0] 65));have NB:=Aside0.mk (Nat.ne_of_lt (blk_lt BK5.out));have hcall:=Bld.WriteString w.heap.size w5.heap.size [] xml_Print.head _ HI6.out xml_Print.head_len HB6.out.size;with_reducible refine hcall.mono ?_;clear hcall;rintro e7 w7 ⟨rfl,hi7,hb7,hk7⟩;have HI7:=Aside0.mk hi7;have HB7:=Aside0.mk (HB6.out.trans hb7);have BK7:=Aside0.mk (xml_print.kept_at hk7 BK6.out NB.out (by decide));have hcy0:w7.cell? ⟨gb,0,none⟩=some (.string a0_0):=(blk_cell BK7.out 0).trans rfl;have hcy1:w7.cell? ⟨gb,1,none⟩=some (.string a0_1):=(blk_cell BK7.out 1).trans rfl;have hcy2:w7.cell? ⟨gb,2,none⟩=some (.slice A0_2 l0_2.length c0_2):=(blk_cell BK7.out 2).trans rfl;clear hi7 hb7 hk7)
     | (go_at_call 59;have hcall:=xml_print.calls k xml_Print.head a0_0 a0_1 A0_2 c0_2 l0_2 (⟨#[]⟩ : ByteArray) s w w7 w5.heap.size HR.out HC.out HB7.out HI7.out hP.out;with_reducible refine hcall.mono ?_;clear hcall;rintro e8 w8 ⟨rfl,hi8,hb8,_⟩;have HI8:=Aside0.mk hi8;have HB8:=Aside0.mk hb8;clear hi8 hb8)
     | (go_at_call 60;have hcall:=Tryd.Builder_Len_f w.heap.size w5.heap.size _ w8 HI8.out;rw [xml_print.cells_size] at hcall;with_reducible refine hcall.mono ?_;clear hcall;rintro e9 w9 ⟨rfl,rfl⟩)
     | (go_at_call 32;have hcall:=Bld.String_ w.heap.size w5.heap.size _ _ HI8.out HB8.out.size;with_reducible refine hcall.mono ?_;clear hcall;rintro e9 w10 ⟨rfl,hb10⟩;have HB10:=Aside0.mk (HB8.out.trans hb10);clear hb10))
    go_ret2
    exact⟨rfl,HB10.out⟩
   | true=>
    replace hP:=Aside0.mk ((congrArg (fun x=>xml_print.f k xml_Print.head a0_0 a0_1 l0_2 x) (if_pos rfl)).symm.trans hP.out)
    go_enter Tryd.func35,Tryd.ntmps35
    go_wp2_with (first
     | ((with_reducible refine gate_dst (N:=2) rfl ?_);(try (refine gate_guard (by rfl) ?_;dsimp only));refine box_event ?hg (N:=2) ?hd (cs:=#[.string a0_0,.string a0_1,.slice A0_2 l0_2.length c0_2]) (t:=42) ?hr ?_;(case hd=>rfl);(case hg=>rfl);(case hr=>first|(go_simp;done)|(go_simp;rfl));intro gb hg w4 hbox hb;have BK:=Aside0.mk hbox;have HB4:=Aside0.mk hb;have HG:=Aside0.mk (show w.heap.size≤gb by rw [hg];exact Nat.le_refl _);have hcz0:w4.cell? ⟨gb,0,none⟩=some (.string a0_0):=(blk_cell BK.out 0).trans rfl;have hcz1:w4.cell? ⟨gb,1,none⟩=some (.string a0_1):=(blk_cell BK.out 1).trans rfl;have hcz2:w4.cell? ⟨gb,2,none⟩=some (.slice A0_2 l0_2.length c0_2):=(blk_cell BK.out 2).trans rfl;clear hb hbox hg)
     | (go_at_call 58;have hcall:=xml_may.calls k a0_0 a0_1 A0_2 c0_2 l0_2 1 true w4 (Kd.C_below HR.out HB4.out) HC.out hM.out;with_reducible refine hcall.mono ?_;clear hcall;rintro e5 w5 ⟨rfl,hb5⟩;have HB5:=Aside0.mk (below_step HB4.out hb5);have BK5:=Aside0.mk (blk_below (g:=gb) (o:=.cells #[.string a0_0,.string a0_1,.slice A0_2 l0_2.length c0_2] 42 (0,0)) BK.out hb5);clear hb5)
     | (go_at_call 28;have HB6:=Aside0.mk (below_alloc HB5.out (.cells #[.pointer none,.slice none 0 0] 65));have HI6:=Aside0.mk (xml_print.isB_made 65 5 w5 (below_size HB5.out));have BK6:=Aside0.mk (blk_alloc BK5.out (.cells #[.pointer none,.slice none 0 0] 65));have NB:=Aside0.mk (Nat.ne_of_lt (blk_lt BK5.out));have hcall:=Bld.WriteString w.heap.size w5.heap.size [] xml_Print.head _ HI6.out xml_Print.head_len HB6.out.size;with_reducible refine hcall.mono ?_;clear hcall;rintro e7 w7 ⟨rfl,hi7,hb7,hk7⟩;have HI7:=Aside0.mk hi7;have HB7:=Aside0.mk (HB6.out.trans hb7);have BK7:=Aside0.mk (xml_print.kept_at hk7 BK6.out NB.out (by decide));have hcy0:w7.cell? ⟨gb,0,none⟩=some (.string a0_0):=(blk_cell BK7.out 0).trans rfl;have hcy1:w7.cell? ⟨gb,1,none⟩=some (.string a0_1):=(blk_cell BK7.out 1).trans rfl;have hcy2:w7.cell? ⟨gb,2,none⟩=some (.slice A0_2 l0_2.length c0_2):=(blk_cell BK7.out 2).trans rfl;clear hi7 hb7 hk7)
     | (go_at_call 59;have hcall:=xml_print.calls k xml_Print.head a0_0 a0_1 A0_2 c0_2 l0_2 xml_Print.room s w w7 w5.heap.size HR.out HC.out HB7.out HI7.out hP.out;with_reducible refine hcall.mono ?_;clear hcall;rintro e8 w8 ⟨rfl,hi8,hb8,_⟩;have HI8:=Aside0.mk hi8;have HB8:=Aside0.mk hb8;clear hi8 hb8)
     | (go_at_call 60;have hcall:=Tryd.Builder_Len_f w.heap.size w5.heap.size _ w8 HI8.out;rw [xml_print.cells_size] at hcall;with_reducible refine hcall.mono ?_;clear hcall;rintro e9 w9 ⟨rfl,rfl⟩)
     | (go_at_call 32;have hcall:=Bld.String_ w.heap.size w5.heap.size _ _ HI8.out HB8.out.size;with_reducible refine hcall.mono ?_;clear hcall;rintro e9 w10 ⟨rfl,hb10⟩;have HB10:=Aside0.mk (HB8.out.trans hb10);clear hb10))
    go_ret2
    exact⟨rfl,HB10.out⟩
def reply_Node.f (k:Nat) (a0:Int) (a1_0:ByteArray) (a1_1:ByteArray) (l1_2:List (S42)):Option (Int×(List (S52))×List Int):=(xml_Print.f k a1_0 a1_1 l1_2 true).bind fun bt266=>(if bt266.2=0 then(if bt266.1.size≤140737488355328 then(some (a0,(([(⟨(⟨#[67,111,110,116,101,110,116,45,84,121,112,101]⟩ : ByteArray),(⟨#[97,112,112,108,105,99,97,116,105,111,110,47,120,109,108]⟩ : ByteArray)⟩ : S52)]:List (S52))),(bytesOf bt266.1))) else(none)) else(some (500,([]:List (S52)),([]:List Int))))
theorem reply_Node.mono:∀ a0 a1 a2 a3 k,LeO (reply_Node.f k a0 a1 a2 a3) (reply_Node.f (k+1) a0 a1 a2 a3):=by
 intro a0 a1 a2 a3 k
 unfold reply_Node.f
 repeat' first
   | (with_reducible exact xml_Print.mono _ _ _ _ _)
   | (with_reducible exact LeO.refl _)
   | (with_reducible exact LeO.none _)
   | (with_reducible refine LeO.ite ?_ ?_)
   | (with_reducible refine LeO.bind ?_ (fun _=>?_))
   | exact xml_Print.mono _ _ _ _ _
   | exact LeO.none _
   | refine LeO.ite ?_ ?_
   | refine LeO.bind ?_ (fun _=>?_)
theorem reply_Node.calls (k:Nat) (a0:Int) (a1_0:ByteArray) (a1_1:ByteArray) (A1_2:Option Addr) (c1_2:Nat) (l1_2:List (S42)) (r1:Int) (r2:List (S52)) (r3:List Int) (w:World) (hr1_2:Kd.C k42 w A1_2 l1_2.length l1_2) (hc1_2:l1_2.length≤c1_2) (h:reply_Node.f k a0 a1_0 a1_1 l1_2=some (r1,r2,r3)) :
  Calls Tryd.prog 18 #[.int .i64 a0,.agg #[.string a1_0,.string a1_1,.slice A1_2 l1_2.length c1_2]] w fun e w'=>∃ v1_ v2_:Value,e = .returned (.agg #[.int .i64 r1,v1_,v2_])∧Kd.R k52 52 w' w.heap.size (fun k_=>(w.heap.size≤k_)) v1_ r2∧Kd.V (Kd.int .u8) 5 w' w.heap.size (fun k_=>(w.heap.size≤k_)∧some k_≠(v1_:Value).ownBlock) v2_ r3∧Below w.heap.size w w':=by
 have hu42:=Tryd.underlying42
 have hu27:=Tryd.underlying27
 have hu52:=Tryd.underlying52
 have HR1_2:=Aside0.mk hr1_2
 have HC1_2:=Aside0.mk hc1_2
 clear hr1_2 hc1_2
 have HB:=Aside0.mk (Below.refl w.heap.size w)
 unfold reply_Node.f at h
 have H:=h
 clear h
 replace H:=bndO H
 obtain⟨⟨t266,t267⟩,A30,H⟩:=H
 dsimp only at H
 have A3:=Aside0.mk A30
 clear A30
 replace H:=itO H
 rcases H with⟨c4,H⟩|⟨c4,H⟩
 ·skip
  have c4b0:(t267 == 0)=true:=beq_iff_eq.mpr c4
  have c4b1:(t267 != 0)=false:=bne_eq_false_iff_eq.mpr c4
  clear c4
  obtain⟨y268,hy268⟩ : ∃ y_:List (S52),y_=(([(⟨(⟨#[67,111,110,116,101,110,116,45,84,121,112,101]⟩ : ByteArray),(⟨#[97,112,112,108,105,99,97,116,105,111,110,47,120,109,108]⟩ : ByteArray)⟩ : S52)]:List (S52))):=⟨_,rfl⟩
  replace H:(if t266.size≤140737488355328 then(some (a0,y268,(bytesOf t266))) else(none))=some (r1,r2,r3):=by first|(rw [hy268];with_reducible exact H)|(have H2_:=(Option.bind_some _ _).symm.trans H;rw [hy268];with_reducible exact H2_)|(have H2_:=(Option.bind_some _ _).symm.trans H;with_reducible exact H2_)|with_reducible exact H|(rw [hy268];exact H)|exact H
  have Ny268:=Aside0.mk hy268
  clear hy268
  replace H:=itO H
  rcases H with⟨c5,H⟩|⟨c5,H⟩
  ·skip
   have c5b0:=eq_true c5
   have c5b1:=decide_eq_true c5
   clear c5
   obtain⟨y271,hy271⟩ : ∃ y_:List Int,y_=(bytesOf t266):=⟨_,rfl⟩
   replace H:(some (a0,y268,y271))=some (r1,r2,r3):=by first|(rw [hy271];with_reducible exact H)|(have H2_:=(Option.bind_some _ _).symm.trans H;rw [hy271];with_reducible exact H2_)|(have H2_:=(Option.bind_some _ _).symm.trans H;with_reducible exact H2_)|with_reducible exact H|(rw [hy271];exact H)|exact H
   have Ny271:=Aside0.mk hy271
   clear hy271
   simp only [Option.some.injEq,Prod.mk.injEq] at H
   obtain⟨rfl,rfl,rfl⟩:=H
   go_enter Tryd.func18,Tryd.ntmps18
   go_wp2_with (first|((with_reducible refine gate_dst (N:=3) rfl ?_);refine box_event ?hg (N:=3) ?hd (cs:=#[.string a1_0,.string a1_1,.slice A1_2 l1_2.length c1_2]) (t:=42) ?hr ?_;(case hd=>rfl);(case hg=>rfl);(case hr=>first|(go_simp;done)|(go_simp;rfl));intro gb264 hg w6 hbox hb;have n0_:=Aside0.mk (below_step (by repeat (first|(with_reducible first|exact HB.out|apply below_alloc|apply pw_below_drewN|apply below_drew1)|exact HB.out)) hb);have n1_:=Aside0.mk (hbox);have n2_:=Aside0.mk ((by rw [hg];exact(below_size (by repeat (first|(with_reducible first|exact HB.out|apply below_alloc|apply pw_below_drewN|apply below_drew1)|exact HB.out))):w.heap.size≤gb264));have n3_:=Aside0.mk ((by rw [hg];exact(below_size (by repeat (first|(with_reducible first|exact HB.out|apply below_alloc|apply pw_below_drewN|apply below_drew1)|exact HB.out))):w.heap.size≤gb264));clear HB;have HB:=n0_;have BK264:=n1_;have GW264:=n2_;have GE264:=n3_;clear n0_ n1_ n2_ n3_;clear hb hbox hg)|((with_reducible refine gate_dst (N:=4) rfl ?_);refine box_event ?hg (N:=4) ?hd (cs:=#[.int .i64 0,.slice none 0 0,.slice none 0 0]) (t:=27) ?hr ?_;(case hd=>rfl);(case hg=>rfl);(case hr=>first|(go_simp;done)|(go_simp;rfl));intro gb265 hg w7 hbox hb;have n0_:=Aside0.mk (blk_below (g:=gb264) (o:=.cells #[.string a1_0,.string a1_1,.slice A1_2 l1_2.length c1_2] 42 (0,0)) (by(with_reducible repeat (first|refine blk_drewN ?_ _|refine blk_drew ?_|refine blk_alloc ?_ _));exact BK264.out) hb);have n1_:=Aside0.mk (below_step (by repeat (first|(with_reducible first|exact HB.out|apply below_alloc|apply pw_below_drewN|apply below_drew1|refine below_set ?_ GE264.out)|exact HB.out)) hb);have n2_:=Aside0.mk (hbox);have n3_:=Aside0.mk ((by rw [hg];exact(below_size (by repeat (first|(with_reducible first|exact HB.out|apply below_alloc|apply pw_below_drewN|apply below_drew1|refine below_set ?_ GE264.out)|exact HB.out))):w.heap.size≤gb265));have n4_:=Aside0.mk ((by rw [hg];exact(below_size (by repeat (first|(with_reducible first|exact HB.out|apply below_alloc|apply pw_below_drewN|apply below_drew1|refine below_set ?_ GE264.out)|exact HB.out))):w.heap.size≤gb265));have n5_:=Aside0.mk ((by rw [hg];exact Nat.ne_of_lt (blk_lt (g:=gb264) (o:=.cells #[.string a1_0,.string a1_1,.slice A1_2 l1_2.length c1_2] 42 (0,0)) (by(with_reducible repeat (first|refine blk_drewN ?_ _|refine blk_drew ?_|refine blk_alloc ?_ _));exact BK264.out)):gb264≠gb265));have n6_:=Aside0.mk ((by rw [hg];exact Nat.ne_of_gt (blk_lt (g:=gb264) (o:=.cells #[.string a1_0,.string a1_1,.slice A1_2 l1_2.length c1_2] 42 (0,0)) (by(with_reducible repeat (first|refine blk_drewN ?_ _|refine blk_drew ?_|refine blk_alloc ?_ _));exact BK264.out)):gb265≠gb264));clear BK264;clear HB;have BK264:=n0_;have HB:=n1_;have BK265:=n2_;have GW265:=n3_;have GE265:=n4_;have NB264_265:=n5_;have NB265_264:=n6_;clear n0_ n1_ n2_ n3_ n4_ n5_ n6_;clear hb hbox hg;have hnb8:=NB264_265.out;have hnc8:=NB265_264.out;have hcz9_0:w7.cell? ⟨gb264,0,none⟩=some (.string a1_0):=(blk_cell BK264.out 0).trans rfl;have hcz9_1:w7.cell? ⟨gb264,1,none⟩=some (.string a1_1):=(blk_cell BK264.out 1).trans rfl;have hcz9_2:w7.cell? ⟨gb264,2,none⟩=some (.slice A1_2 l1_2.length c1_2):=(blk_cell BK264.out 2).trans rfl;have hfz9_0:=blk_frozen BK264.out 0;have hfz9_1:=blk_frozen BK264.out 1;have hfz9_2:=blk_frozen BK264.out 2)|((with_reducible refine gate_callee (f:=35) rfl ?_);refine goesL_ (some 9) rfl rfl Tryd.func35 (by kernel_rfl) rfl #[.agg #[.string a1_0,.string a1_1,.slice A1_2 l1_2.length c1_2],.bool true] rfl (by(try simp only [List.map_toArray,List.map_cons,List.map_nil]);first|done|rfl|(simp only [List.length_drop,List.length_take];rfl)) ?_;(with_reducible refine(xml_Print.calls k a1_0 a1_1 _ _ l1_2 true t266 t267 _ ?side1 ?side2 A3.out).mono ?_);(case side1=>repeat (first|exact(Kd.C_below HR1_2.out HB.out)|(with_reducible refine Kd.C_alloc ?_ _)|(with_reducible refine Kd.C_drewN ?_ _)|(with_reducible refine Kd.C_drew ?_)));(case side2=>exact HC1_2.out);rintro e w10 ⟨rfl,hb⟩;refine⟨_,rfl,?_⟩;have n0_:=Aside0.mk (blk_below (g:=gb264) (o:=.cells #[.string a1_0,.string a1_1,.slice A1_2 l1_2.length c1_2] 42 (0,0)) (by(with_reducible repeat (first|refine blk_drewN ?_ _|refine blk_drew ?_|refine blk_alloc ?_ _));exact BK264.out) hb);have n1_:=Aside0.mk (blk_below (g:=gb265) (o:=.cells #[.int .i64 0,.slice none 0 0,.slice none 0 0] 27 (0,0)) (by(with_reducible repeat (first|refine blk_drewN ?_ _|refine blk_drew ?_|refine blk_alloc ?_ _));exact BK265.out) hb);have n2_:=Aside0.mk (below_step (by repeat (first|(with_reducible first|exact HB.out|apply below_alloc|apply pw_below_drewN|apply below_drew1|refine below_set ?_ GE264.out|refine below_set ?_ GE265.out)|exact HB.out)) hb);clear BK264;clear BK265;clear HB;have BK264:=n0_;have BK265:=n1_;have HB:=n2_;clear n0_ n1_ n2_;(try clear hb);(try clear hb2);(try clear hk);(try clear hi))|((with_reducible refine gate_dst (N:=17) rfl ?_);refine Kd.R_lit k52 _ 52 ?hg (N:=17) ?hd (xs:=([(⟨(⟨#[67,111,110,116,101,110,116,45,84,121,112,101]⟩ : ByteArray),(⟨#[97,112,112,108,105,99,97,116,105,111,110,47,120,109,108]⟩ : ByteArray)⟩ : S52)]:List (S52))) (inner:=[.string (⟨#[67,111,110,116,101,110,116,45,84,121,112,101]⟩ : ByteArray),.string (⟨#[97,112,112,108,105,99,97,116,105,111,110,47,120,109,108]⟩ : ByteArray)]) (ok:=fun _=>True) (okp:=fun _=>True) ?hr ?hp (fun _ hk=>hk) trivial (Below.refl _ _) (Nat.le_refl _) (by simp) ?_;(case hd=>rfl);(case hg=>rfl);(case hr=>first|(go_simp;done)|(go_simp;rfl));(case hp=>exact(Reps.c2 (show Kd.M k52 _ _ _ (⟨(⟨#[67,111,110,116,101,110,116,45,84,121,112,101]⟩ : ByteArray),(⟨#[97,112,112,108,105,99,97,116,105,111,110,47,120,109,108]⟩ : ByteArray)⟩ : S52) [.string (⟨#[67,111,110,116,101,110,116,45,84,121,112,101]⟩ : ByteArray),.string (⟨#[97,112,112,108,105,99,97,116,105,111,110,47,120,109,108]⟩ : ByteArray)] from(k52_mkM _ _ _ (⟨(⟨#[67,111,110,116,101,110,116,45,84,121,112,101]⟩ : ByteArray),(⟨#[97,112,112,108,105,99,97,116,105,111,110,47,120,109,108]⟩ : ByteArray)⟩ : S52))) (Reps.none _ _)));intro v269 w11 ho12 hb hg_ hnew_;clear hg_ hnew_;(first|rw [← Ny268.out] at ho12|(simp only [Int.reduceToNat] at ho12;rw [← Ny268.out] at ho12));have n0_:=Aside0.mk (Kd.R_lower (Kd.R_newM (M:=fun k_=>(w.heap.size≤k_)) ho12 (below_size (by repeat (first|(with_reducible first|exact HB.out|apply below_alloc|apply pw_below_drewN|apply below_drew1|refine below_set ?_ GE264.out|refine below_set ?_ GE265.out)|exact HB.out))) (fun k_ h_=>h_)) (below_size (by repeat (first|(with_reducible first|exact HB.out|apply below_alloc|apply pw_below_drewN|apply below_drew1|refine below_set ?_ GE264.out|refine below_set ?_ GE265.out)|exact HB.out))));have n1_:=Aside0.mk (blk_below (g:=gb264) (o:=.cells #[.string a1_0,.string a1_1,.slice A1_2 l1_2.length c1_2] 42 (0,0)) (by(with_reducible repeat (first|refine blk_drewN ?_ _|refine blk_drew ?_|refine blk_alloc ?_ _));exact BK264.out) hb);have n2_:=Aside0.mk (blk_below (g:=gb265) (o:=.cells #[.int .i64 0,.slice none 0 0,.slice none 0 0] 27 (0,0)) (by(with_reducible repeat (first|refine blk_drewN ?_ _|refine blk_drew ?_|refine blk_alloc ?_ _));exact BK265.out) hb);have n3_:=Aside0.mk (below_step (by repeat (first|(with_reducible first|exact HB.out|apply below_alloc|apply pw_below_drewN|apply below_drew1|refine below_set ?_ GE264.out|refine below_set ?_ GE265.out)|exact HB.out)) hb);clear BK264;clear BK265;clear HB;have HO270:=n0_;have BK264:=n1_;have BK265:=n2_;have HB:=n3_;clear n0_ n1_ n2_ n3_;clear hb ho12)|((with_reducible refine gate_dst (N:=19) rfl ?_);refine Kd.V_bytesM _ 5 rfl (N:=19) rfl 9 23 _ rfl t266 rfl Tryd.underlying9 Tryd.underlying23 Tryd.underlying5 (ok:=fun k_=>w11.heap.size≤k_) (Nat.le_refl _) (by first|assumption|omega|exact of_eq_true (by assumption)) (Below.refl _ _) (Nat.le_refl _) ?_;intro v272 w13 ho14 hb hg_ hnew_;rw [← Ny271.out] at hnew_;have MKHO273:=Aside0.mk (ByRow.lower hnew_ ((below_size (by repeat (first|(with_reducible first|exact HB.out|apply below_alloc|apply pw_below_drewN|apply below_drew1|refine below_set ?_ GE264.out|refine below_set ?_ GE265.out)|exact HB.out)))));clear hg_ hnew_;(first|rw [← Ny271.out] at ho14|(simp only [Int.reduceToNat] at ho14;rw [← Ny271.out] at ho14));have n0_:=Aside0.mk (Kd.R_below (by(with_reducible repeat (first|apply Kd.R_alloc|apply Kd.R_drewN|apply Kd.R_drew));exact HO270.out) hb);have n1_:=Aside0.mk (Kd.V_lower (Kd.V_mono (ok':=fun k_=>(w.heap.size≤k_)∧some k_≠(v269:Value).ownBlock∧k_≠gb264∧k_≠gb265) ho14 (fun k_ hk_=>⟨(Nat.le_trans (below_size (by repeat (first|(with_reducible first|exact HB.out|apply below_alloc|apply pw_below_drewN|apply below_drew1|refine below_set ?_ GE264.out|refine below_set ?_ GE265.out)|exact HB.out))) hk_),(Kd.fresh' (Kd.R_lt (by(with_reducible repeat (first|apply Kd.R_alloc|apply Kd.R_drewN|apply Kd.R_drew));exact HO270.out)) k_ hk_),(Kd.freshB (g:=gb264) (o:=.cells #[.string a1_0,.string a1_1,.slice A1_2 l1_2.length c1_2] 42 (0,0)) (by(with_reducible repeat (first|refine blk_drewN ?_ _|refine blk_drew ?_|refine blk_alloc ?_ _));exact BK264.out) k_ hk_),(Kd.freshB (g:=gb265) (o:=.cells #[.int .i64 0,.slice none 0 0,.slice none 0 0] 27 (0,0)) (by(with_reducible repeat (first|refine blk_drewN ?_ _|refine blk_drew ?_|refine blk_alloc ?_ _));exact BK265.out) k_ hk_)⟩)) (below_size (by repeat (first|(with_reducible first|exact HB.out|apply below_alloc|apply pw_below_drewN|apply below_drew1|refine below_set ?_ GE264.out|refine below_set ?_ GE265.out)|exact HB.out))));have n2_:=Aside0.mk (blk_below (g:=gb264) (o:=.cells #[.string a1_0,.string a1_1,.slice A1_2 l1_2.length c1_2] 42 (0,0)) (by(with_reducible repeat (first|refine blk_drewN ?_ _|refine blk_drew ?_|refine blk_alloc ?_ _));exact BK264.out) hb);have n3_:=Aside0.mk (blk_below (g:=gb265) (o:=.cells #[.int .i64 0,.slice none 0 0,.slice none 0 0] 27 (0,0)) (by(with_reducible repeat (first|refine blk_drewN ?_ _|refine blk_drew ?_|refine blk_alloc ?_ _));exact BK265.out) hb);have n4_:=Aside0.mk (below_step (by repeat (first|(with_reducible first|exact HB.out|apply below_alloc|apply pw_below_drewN|apply below_drew1|refine below_set ?_ GE264.out|refine below_set ?_ GE265.out)|exact HB.out)) hb);clear HO270;clear BK264;clear BK265;clear HB;have HO270:=n0_;have HO273:=n1_;have BK264:=n2_;have BK265:=n3_;have HB:=n4_;clear n0_ n1_ n2_ n3_ n4_;clear hb ho14;obtain⟨Ao15,co15,eo15⟩:=Kd.V_slice HO273.out;subst eo15;obtain⟨Ao16,co16,eo16⟩:=Kd.R_slice HO270.out;subst eo16;have hcz17_0:w13.cell? ⟨gb265,0,none⟩=some (.int .i64 0):=(blk_cell BK265.out 0).trans rfl;have hcz17_1:w13.cell? ⟨gb265,1,none⟩=some (.slice none 0 0):=(blk_cell BK265.out 1).trans rfl;have hcz17_2:w13.cell? ⟨gb265,2,none⟩=some (.slice none 0 0):=(blk_cell BK265.out 2).trans rfl;have hfz17_0:=blk_frozen BK265.out 0;have hfz17_1:=blk_frozen BK265.out 1;have hfz17_2:=blk_frozen BK265.out 2))
   refine bodyPost_ret (results_cell_row rfl _ _ gb265 27 #[.int .i64 a0,.slice Ao16 y268.length co16,.slice Ao15 y271.length co15] (0,0) _ rfl (by(with_reducible repeat (first|refine blk_drewN ?_ _|refine blk_drew ?_|refine blk_alloc ?_ _));refine blk_put (cs:=#[.int .i64 a0,.slice Ao16 y268.length co16,.slice none 0 0]) ?_ 2 _ rfl;(with_reducible repeat (first|refine blk_drewN ?_ _|refine blk_drew ?_|refine blk_alloc ?_ _));refine blk_put (cs:=#[.int .i64 a0,.slice none 0 0,.slice none 0 0]) ?_ 1 _ rfl;(with_reducible repeat (first|refine blk_drewN ?_ _|refine blk_drew ?_|refine blk_alloc ?_ _));refine blk_put (cs:=#[.int .i64 0,.slice none 0 0,.slice none 0 0]) ?_ 0 _ rfl;(with_reducible repeat (first|refine blk_drewN ?_ _|refine blk_drew ?_|refine blk_alloc ?_ _));exact BK265.out) Tryd.underlying27 rfl (by kernel_rfl)) rfl ?_
   exact⟨_,_,by first|rfl|(simp [errW_none,errW_some] <;> rfl)|(simp [*,errW_none,errW_some] <;> rfl),by(with_reducible repeat (first|apply Kd.R_alloc|apply Kd.R_drewN|apply Kd.R_drew));exact Kd.R_mono (Kd.R_far (p:=⟨gb265,2,none⟩) (Kd.R_far (p:=⟨gb265,1,none⟩) (Kd.R_far (p:=⟨gb265,0,none⟩) (Kd.R_types HO270.out BK265.out (by decide)) (fun _ hk=>hk.2) (.int .i64 a0)) (fun _ hk=>hk.2) (.slice Ao16 y268.length co16)) (fun _ hk=>hk.2) (.slice Ao15 y271.length co15)) (fun _ hk=>hk.1.1),by(with_reducible repeat (first|apply Kd.V_alloc|apply Kd.V_drewN|apply Kd.V_drew));exact Kd.V_mono (Kd.V_far (p:=⟨gb265,2,none⟩) (Kd.V_far (p:=⟨gb265,1,none⟩) (Kd.V_far (p:=⟨gb265,0,none⟩) (Kd.V_mono HO273.out (fun k_ hk=>(⟨hk,hk.2.2.2⟩ : _∧k_≠gb265))) (fun _ hk=>hk.2) (.int .i64 a0)) (fun _ hk=>hk.2) (.slice Ao16 y268.length co16)) (fun _ hk=>hk.2) (.slice Ao15 y271.length co15)) (fun _ hk=>⟨hk.1.1,hk.1.2.1⟩),by repeat (first|(with_reducible first|exact HB.out|apply below_alloc|apply pw_below_drewN|apply below_drew1|refine below_set ?_ GE264.out|refine below_set ?_ GE265.out)|exact HB.out)⟩
  ·exact absurd H (by simp)
 ·skip
  have c4b0:(t267 == 0)=false:=beq_eq_false_iff_ne.mpr c4
  have c4b1:(t267 != 0)=true:=bne_iff_ne.mpr c4
  simp only [Option.some.injEq,Prod.mk.injEq] at H
  obtain⟨rfl,rfl,rfl⟩:=H
  go_enter Tryd.func18,Tryd.ntmps18
  go_wp2_with (first|((with_reducible refine gate_dst (N:=3) rfl ?_);refine box_event ?hg (N:=3) ?hd (cs:=#[.string a1_0,.string a1_1,.slice A1_2 l1_2.length c1_2]) (t:=42) ?hr ?_;(case hd=>rfl);(case hg=>rfl);(case hr=>first|(go_simp;done)|(go_simp;rfl));intro gb264 hg w18 hbox hb;have n0_:=Aside0.mk (below_step (by repeat (first|(with_reducible first|exact HB.out|apply below_alloc|apply pw_below_drewN|apply below_drew1)|exact HB.out)) hb);have n1_:=Aside0.mk (hbox);have n2_:=Aside0.mk ((by rw [hg];exact(below_size (by repeat (first|(with_reducible first|exact HB.out|apply below_alloc|apply pw_below_drewN|apply below_drew1)|exact HB.out))):w.heap.size≤gb264));have n3_:=Aside0.mk ((by rw [hg];exact(below_size (by repeat (first|(with_reducible first|exact HB.out|apply below_alloc|apply pw_below_drewN|apply below_drew1)|exact HB.out))):w.heap.size≤gb264));clear HB;have HB:=n0_;have BK264:=n1_;have GW264:=n2_;have GE264:=n3_;clear n0_ n1_ n2_ n3_;clear hb hbox hg)|((with_reducible refine gate_dst (N:=4) rfl ?_);refine box_event ?hg (N:=4) ?hd (cs:=#[.int .i64 0,.slice none 0 0,.slice none 0 0]) (t:=27) ?hr ?_;(case hd=>rfl);(case hg=>rfl);(case hr=>first|(go_simp;done)|(go_simp;rfl));intro gb265 hg w19 hbox hb;have n0_:=Aside0.mk (blk_below (g:=gb264) (o:=.cells #[.string a1_0,.string a1_1,.slice A1_2 l1_2.length c1_2] 42 (0,0)) (by(with_reducible repeat (first|refine blk_drewN ?_ _|refine blk_drew ?_|refine blk_alloc ?_ _));exact BK264.out) hb);have n1_:=Aside0.mk (below_step (by repeat (first|(with_reducible first|exact HB.out|apply below_alloc|apply pw_below_drewN|apply below_drew1|refine below_set ?_ GE264.out)|exact HB.out)) hb);have n2_:=Aside0.mk (hbox);have n3_:=Aside0.mk ((by rw [hg];exact(below_size (by repeat (first|(with_reducible first|exact HB.out|apply below_alloc|apply pw_below_drewN|apply below_drew1|refine below_set ?_ GE264.out)|exact HB.out))):w.heap.size≤gb265));have n4_:=Aside0.mk ((by rw [hg];exact(below_size (by repeat (first|(with_reducible first|exact HB.out|apply below_alloc|apply pw_below_drewN|apply below_drew1|refine below_set ?_ GE264.out)|exact HB.out))):w.heap.size≤gb265));have n5_:=Aside0.mk ((by rw [hg];exact Nat.ne_of_lt (blk_lt (g:=gb264) (o:=.cells #[.string a1_0,.string a1_1,.slice A1_2 l1_2.length c1_2] 42 (0,0)) (by(with_reducible repeat (first|refine blk_drewN ?_ _|refine blk_drew ?_|refine blk_alloc ?_ _));exact BK264.out)):gb264≠gb265));have n6_:=Aside0.mk ((by rw [hg];exact Nat.ne_of_gt (blk_lt (g:=gb264) (o:=.cells #[.string a1_0,.string a1_1,.slice A1_2 l1_2.length c1_2] 42 (0,0)) (by(with_reducible repeat (first|refine blk_drewN ?_ _|refine blk_drew ?_|refine blk_alloc ?_ _));exact BK264.out)):gb265≠gb264));clear BK264;clear HB;have BK264:=n0_;have HB:=n1_;have BK265:=n2_;have GW265:=n3_;have GE265:=n4_;have NB264_265:=n5_;have NB265_264:=n6_;clear n0_ n1_ n2_ n3_ n4_ n5_ n6_;clear hb hbox hg;have hnb20:=NB264_265.out;have hnc20:=NB265_264.out;have hcz21_0:w19.cell? ⟨gb264,0,none⟩=some (.string a1_0):=(blk_cell BK264.out 0).trans rfl;have hcz21_1:w19.cell? ⟨gb264,1,none⟩=some (.string a1_1):=(blk_cell BK264.out 1).trans rfl;have hcz21_2:w19.cell? ⟨gb264,2,none⟩=some (.slice A1_2 l1_2.length c1_2):=(blk_cell BK264.out 2).trans rfl;have hfz21_0:=blk_frozen BK264.out 0;have hfz21_1:=blk_frozen BK264.out 1;have hfz21_2:=blk_frozen BK264.out 2)|((with_reducible refine gate_callee (f:=35) rfl ?_);refine goesL_ (some 9) rfl rfl Tryd.func35 (by kernel_rfl) rfl #[.agg #[.string a1_0,.string a1_1,.slice A1_2 l1_2.length c1_2],.bool true] rfl (by(try simp only [List.map_toArray,List.map_cons,List.map_nil]);first|done|rfl|(simp only [List.length_drop,List.length_take];rfl)) ?_;(with_reducible refine(xml_Print.calls k a1_0 a1_1 _ _ l1_2 true t266 t267 _ ?side1 ?side2 A3.out).mono ?_);(case side1=>repeat (first|exact(Kd.C_below HR1_2.out HB.out)|(with_reducible refine Kd.C_alloc ?_ _)|(with_reducible refine Kd.C_drewN ?_ _)|(with_reducible refine Kd.C_drew ?_)));(case side2=>exact HC1_2.out);rintro e w22 ⟨rfl,hb⟩;refine⟨_,rfl,?_⟩;have n0_:=Aside0.mk (blk_below (g:=gb264) (o:=.cells #[.string a1_0,.string a1_1,.slice A1_2 l1_2.length c1_2] 42 (0,0)) (by(with_reducible repeat (first|refine blk_drewN ?_ _|refine blk_drew ?_|refine blk_alloc ?_ _));exact BK264.out) hb);have n1_:=Aside0.mk (blk_below (g:=gb265) (o:=.cells #[.int .i64 0,.slice none 0 0,.slice none 0 0] 27 (0,0)) (by(with_reducible repeat (first|refine blk_drewN ?_ _|refine blk_drew ?_|refine blk_alloc ?_ _));exact BK265.out) hb);have n2_:=Aside0.mk (below_step (by repeat (first|(with_reducible first|exact HB.out|apply below_alloc|apply pw_below_drewN|apply below_drew1|refine below_set ?_ GE264.out|refine below_set ?_ GE265.out)|exact HB.out)) hb);clear BK264;clear BK265;clear HB;have BK264:=n0_;have BK265:=n1_;have HB:=n2_;clear n0_ n1_ n2_;(try clear hb);(try clear hb2);(try clear hk);(try clear hi);have hcz23_0:w22.cell? ⟨gb265,0,none⟩=some (.int .i64 0):=(blk_cell BK265.out 0).trans rfl;have hcz23_1:w22.cell? ⟨gb265,1,none⟩=some (.slice none 0 0):=(blk_cell BK265.out 1).trans rfl;have hcz23_2:w22.cell? ⟨gb265,2,none⟩=some (.slice none 0 0):=(blk_cell BK265.out 2).trans rfl;have hfz23_0:=blk_frozen BK265.out 0;have hfz23_1:=blk_frozen BK265.out 1;have hfz23_2:=blk_frozen BK265.out 2))
  refine bodyPost_ret (results_cell_row rfl _ _ gb265 27 #[.int .i64 500,.slice none 0 0,.slice none 0 0] (0,0) _ rfl (by(with_reducible repeat (first|refine blk_drewN ?_ _|refine blk_drew ?_|refine blk_alloc ?_ _));refine blk_put (cs:=#[.int .i64 500,.slice none 0 0,.slice none 0 0]) ?_ 2 _ rfl;(with_reducible repeat (first|refine blk_drewN ?_ _|refine blk_drew ?_|refine blk_alloc ?_ _));refine blk_put (cs:=#[.int .i64 500,.slice none 0 0,.slice none 0 0]) ?_ 1 _ rfl;(with_reducible repeat (first|refine blk_drewN ?_ _|refine blk_drew ?_|refine blk_alloc ?_ _));refine blk_put (cs:=#[.int .i64 0,.slice none 0 0,.slice none 0 0]) ?_ 0 _ rfl;(with_reducible repeat (first|refine blk_drewN ?_ _|refine blk_drew ?_|refine blk_alloc ?_ _));exact BK265.out) Tryd.underlying27 rfl (by kernel_rfl)) rfl ?_
  exact⟨_,_,by first|rfl|(simp [errW_none,errW_some] <;> rfl)|(simp [*,errW_none,errW_some] <;> rfl),by first|exact Kd.R_nil _ _ _ _ _|exact Kd.N_nil _ _ _ _ _|exact Kd.V_nil _ _ _ _ _|exact Kd.Q_nil _ _ _ _ _|exact Kd.S_nil _ _ _ _ _,by first|exact Kd.V_nil _ _ _ _ _|exact Kd.R_nil _ _ _ _ _|exact Kd.N_nil _ _ _ _ _|exact Kd.V_nil _ _ _ _ _|exact Kd.Q_nil _ _ _ _ _|exact Kd.S_nil _ _ _ _ _,by repeat (first|(with_reducible first|exact HB.out|apply below_alloc|apply pw_below_drewN|apply below_drew1|refine below_set ?_ GE264.out|refine below_set ?_ GE265.out)|exact HB.out)⟩
def stowageref13_letter.f (a0:Int):Option (Bool):=if a0 ≥ 65 then(if a0≤90 then(some true) else(if a0 ≥ 97 then(if a0≤122 then(some true) else(some (a0 == 95))) else(some (a0 == 95)))) else(if a0 ≥ 97 then(if a0≤122 then(some true) else(some (a0 == 95))) else(some (a0 == 95)))
theorem stowageref13_letter.calls (a0:Int) (r:Bool) (w:World) (h:stowageref13_letter.f a0=some r) :
  Calls Tryd.prog 105 #[.int .u8 a0] w fun e w'=>e = .returned (.bool r)∧Drawn0 w w':=by
 unfold stowageref13_letter.f at h
 have H:=h
 clear h
 replace H:=itO H
 rcases H with⟨c2,H⟩|⟨c2,H⟩
 ·skip
  have c2b0:decide (65≤a0)=true:=decide_eq_true c2
  clear c2
  replace H:=itO H
  rcases H with⟨c3,H⟩|⟨c3,H⟩
  ·skip
   have c3b0:decide (a0≤90)=true:=decide_eq_true c3
   clear c3
   obtain rfl:=Option.some.inj H
   go_enter Tryd.func105,Tryd.ntmps105
   go_wp2
   go_ret
   exact⟨by first|rfl|(simp;done)|(simp [*];done),by repeat (first|exact Drawn0.refl _|apply Drawn0.step)⟩
  ·skip
   have c3b0:decide (a0≤90)=false:=decide_eq_false c3
   clear c3
   replace H:=itO H
   rcases H with⟨c4,H⟩|⟨c4,H⟩
   ·skip
    have c4b0:decide (97≤a0)=true:=decide_eq_true c4
    clear c4
    replace H:=itO H
    rcases H with⟨c5,H⟩|⟨c5,H⟩
    ·skip
     have c5b0:decide (a0≤122)=true:=decide_eq_true c5
     clear c5
     obtain rfl:=Option.some.inj H
     go_enter Tryd.func105,Tryd.ntmps105
     go_wp2
     go_ret
     exact⟨by first|rfl|(simp;done)|(simp [*];done),by repeat (first|exact Drawn0.refl _|apply Drawn0.step)⟩
    ·skip
     have c5b0:decide (a0≤122)=false:=decide_eq_false c5
     clear c5
     obtain rfl:=Option.some.inj H
     go_enter Tryd.func105,Tryd.ntmps105
     go_wp2
     go_ret
     exact⟨by first|rfl|(simp;done)|(simp [*];done),by repeat (first|exact Drawn0.refl _|apply Drawn0.step)⟩
   ·skip
    have c4b0:decide (97≤a0)=false:=decide_eq_false c4
    clear c4
    obtain rfl:=Option.some.inj H
    go_enter Tryd.func105,Tryd.ntmps105
    go_wp2
    go_ret
    exact⟨by first|rfl|(simp;done)|(simp [*];done),by repeat (first|exact Drawn0.refl _|apply Drawn0.step)⟩
 ·skip
  have c2b0:decide (65≤a0)=false:=decide_eq_false c2
  clear c2
  replace H:=itO H
  rcases H with⟨c6,H⟩|⟨c6,H⟩
  ·skip
   have c6b0:decide (97≤a0)=true:=decide_eq_true c6
   clear c6
   replace H:=itO H
   rcases H with⟨c7,H⟩|⟨c7,H⟩
   ·skip
    have c7b0:decide (a0≤122)=true:=decide_eq_true c7
    clear c7
    obtain rfl:=Option.some.inj H
    go_enter Tryd.func105,Tryd.ntmps105
    go_wp2
    go_ret
    exact⟨by first|rfl|(simp;done)|(simp [*];done),by repeat (first|exact Drawn0.refl _|apply Drawn0.step)⟩
   ·skip
    have c7b0:decide (a0≤122)=false:=decide_eq_false c7
    clear c7
    obtain rfl:=Option.some.inj H
    go_enter Tryd.func105,Tryd.ntmps105
    go_wp2
    go_ret
    exact⟨by first|rfl|(simp;done)|(simp [*];done),by repeat (first|exact Drawn0.refl _|apply Drawn0.step)⟩
  ·skip
   have c6b0:decide (97≤a0)=false:=decide_eq_false c6
   clear c6
   obtain rfl:=Option.some.inj H
   go_enter Tryd.func105,Tryd.ntmps105
   go_wp2
   go_ret
   exact⟨by first|rfl|(simp;done)|(simp [*];done),by repeat (first|exact Drawn0.refl _|apply Drawn0.step)⟩
def stowageref13_inner.f (a0:Int):Option (Bool):=(stowageref13_letter.f a0).bind fun t274=>(if t274=true then(some true) else(if a0 ≥ 48 then(if a0≤57 then(some true) else(if a0=45 then(some true) else(some (a0 == 46)))) else(if a0=45 then(some true) else(some (a0 == 46)))))
theorem stowageref13_inner.calls (a0:Int) (r:Bool) (w:World) (h:stowageref13_inner.f a0=some r) :
  Calls Tryd.prog 104 #[.int .u8 a0] w fun e w'=>e = .returned (.bool r)∧Drawn0 w w':=by
 unfold stowageref13_inner.f at h
 have H:=h
 clear h
 replace H:=bndO H
 obtain⟨t274,A20,H⟩:=H
 have A2:=Aside0.mk A20
 clear A20
 by_cases c3:t274=true
 ·subst c3
  replace H:=itT H
  obtain rfl:=Option.some.inj H
  go_enter Tryd.func104,Tryd.ntmps104
  go_wp2_with (first|((with_reducible refine gate_callee (f:=105) rfl ?_);refine goesL_ (some 4) rfl rfl Tryd.func105 (by kernel_rfl) rfl #[.int .u8 a0] rfl (by(try simp only [List.map_toArray,List.map_cons,List.map_nil]);first|done|rfl|(simp only [List.length_drop,List.length_take];rfl)) ?_;(with_reducible refine(stowageref13_letter.calls a0 true _ A2.out).mono ?_);rintro e w' ⟨rfl,⟨nd,rfl⟩⟩;refine⟨_,rfl,?_⟩))
  go_ret
  exact⟨by first|rfl|(simp;done)|(simp [*];done),by repeat (first|exact Drawn0.refl _|apply Drawn0.step)⟩
 ·replace c3:=Bool.eq_false_iff.mpr c3
  subst c3
  replace H:=itF H
  replace H:=itO H
  rcases H with⟨c4,H⟩|⟨c4,H⟩
  ·skip
   have c4b0:decide (48≤a0)=true:=decide_eq_true c4
   clear c4
   replace H:=itO H
   rcases H with⟨c5,H⟩|⟨c5,H⟩
   ·skip
    have c5b0:decide (a0≤57)=true:=decide_eq_true c5
    clear c5
    obtain rfl:=Option.some.inj H
    go_enter Tryd.func104,Tryd.ntmps104
    go_wp2_with (first|((with_reducible refine gate_callee (f:=105) rfl ?_);refine goesL_ (some 4) rfl rfl Tryd.func105 (by kernel_rfl) rfl #[.int .u8 a0] rfl (by(try simp only [List.map_toArray,List.map_cons,List.map_nil]);first|done|rfl|(simp only [List.length_drop,List.length_take];rfl)) ?_;(with_reducible refine(stowageref13_letter.calls a0 false _ A2.out).mono ?_);rintro e w' ⟨rfl,⟨nd,rfl⟩⟩;refine⟨_,rfl,?_⟩))
    go_ret
    exact⟨by first|rfl|(simp;done)|(simp [*];done),by repeat (first|exact Drawn0.refl _|apply Drawn0.step)⟩
   ·skip
    have c5b0:decide (a0≤57)=false:=decide_eq_false c5
    clear c5
    replace H:=itO H
    rcases H with⟨c6,H⟩|⟨c6,H⟩
    ·skip
     have c6b0:(a0 == 45)=true:=beq_iff_eq.mpr c6
     have c6b1:(a0 != 45)=false:=bne_eq_false_iff_eq.mpr c6
     clear c6
     obtain rfl:=Option.some.inj H
     go_enter Tryd.func104,Tryd.ntmps104
     go_wp2_with (first|((with_reducible refine gate_callee (f:=105) rfl ?_);refine goesL_ (some 4) rfl rfl Tryd.func105 (by kernel_rfl) rfl #[.int .u8 a0] rfl (by(try simp only [List.map_toArray,List.map_cons,List.map_nil]);first|done|rfl|(simp only [List.length_drop,List.length_take];rfl)) ?_;(with_reducible refine(stowageref13_letter.calls a0 false _ A2.out).mono ?_);rintro e w' ⟨rfl,⟨nd,rfl⟩⟩;refine⟨_,rfl,?_⟩))
     go_ret
     exact⟨by first|rfl|(simp;done)|(simp [*];done),by repeat (first|exact Drawn0.refl _|apply Drawn0.step)⟩
    ·skip
     have c6b0:(a0 == 45)=false:=beq_eq_false_iff_ne.mpr c6
     have c6b1:(a0 != 45)=true:=bne_iff_ne.mpr c6
     obtain rfl:=Option.some.inj H
     go_enter Tryd.func104,Tryd.ntmps104
     go_wp2_with (first|((with_reducible refine gate_callee (f:=105) rfl ?_);refine goesL_ (some 4) rfl rfl Tryd.func105 (by kernel_rfl) rfl #[.int .u8 a0] rfl (by(try simp only [List.map_toArray,List.map_cons,List.map_nil]);first|done|rfl|(simp only [List.length_drop,List.length_take];rfl)) ?_;(with_reducible refine(stowageref13_letter.calls a0 false _ A2.out).mono ?_);rintro e w' ⟨rfl,⟨nd,rfl⟩⟩;refine⟨_,rfl,?_⟩))
     go_ret
     exact⟨by first|rfl|(simp;done)|(simp [*];done),by repeat (first|exact Drawn0.refl _|apply Drawn0.step)⟩
  ·skip
   have c4b0:decide (48≤a0)=false:=decide_eq_false c4
   clear c4
   replace H:=itO H
   rcases H with⟨c7,H⟩|⟨c7,H⟩
   ·skip
    have c7b0:(a0 == 45)=true:=beq_iff_eq.mpr c7
    have c7b1:(a0 != 45)=false:=bne_eq_false_iff_eq.mpr c7
    clear c7
    obtain rfl:=Option.some.inj H
    go_enter Tryd.func104,Tryd.ntmps104
    go_wp2_with (first|((with_reducible refine gate_callee (f:=105) rfl ?_);refine goesL_ (some 4) rfl rfl Tryd.func105 (by kernel_rfl) rfl #[.int .u8 a0] rfl (by(try simp only [List.map_toArray,List.map_cons,List.map_nil]);first|done|rfl|(simp only [List.length_drop,List.length_take];rfl)) ?_;(with_reducible refine(stowageref13_letter.calls a0 false _ A2.out).mono ?_);rintro e w' ⟨rfl,⟨nd,rfl⟩⟩;refine⟨_,rfl,?_⟩))
    go_ret
    exact⟨by first|rfl|(simp;done)|(simp [*];done),by repeat (first|exact Drawn0.refl _|apply Drawn0.step)⟩
   ·skip
    have c7b0:(a0 == 45)=false:=beq_eq_false_iff_ne.mpr c7
    have c7b1:(a0 != 45)=true:=bne_iff_ne.mpr c7
    obtain rfl:=Option.some.inj H
    go_enter Tryd.func104,Tryd.ntmps104
    go_wp2_with (first|((with_reducible refine gate_callee (f:=105) rfl ?_);refine goesL_ (some 4) rfl rfl Tryd.func105 (by kernel_rfl) rfl #[.int .u8 a0] rfl (by(try simp only [List.map_toArray,List.map_cons,List.map_nil]);first|done|rfl|(simp only [List.length_drop,List.length_take];rfl)) ?_;(with_reducible refine(stowageref13_letter.calls a0 false _ A2.out).mono ?_);rintro e w' ⟨rfl,⟨nd,rfl⟩⟩;refine⟨_,rfl,?_⟩))
    go_ret
    exact⟨by first|rfl|(simp;done)|(simp [*];done),by repeat (first|exact Drawn0.refl _|apply Drawn0.step)⟩
def stowageref13_Name.l0:Nat→ByteArray→Int→Option (Bool)
 | 0,_,_=>none
 | k+1,x0,x3=>if x3<(x0.size:Int) then(if 0≤x3 then((stowageref13_inner.f (bt x0 x3)).bind fun t275=>(if t275=true then(stowageref13_Name.l0 k x0 (wrap64 (x3+1))) else(some false))) else(none)) else(if(x0.size:Int)>0 then(if 0<(x0.size:Int) then((stowageref13_letter.f (bt x0 0)).bind fun t276=>(some t276)) else(none)) else(some false))
def stowageref13_Name.f (k:Nat) (a0:ByteArray):Option (Bool):=stowageref13_Name.l0 k a0 0
theorem stowageref13_Name.mono_l:∀ k,(∀ y0 y1,LeO (stowageref13_Name.l0 k y0 y1) (stowageref13_Name.l0 (k+1) y0 y1))
 | 0=>fun _ _ r h=>by simp [stowageref13_Name.l0] at h
 | k+1=>by
  have ih0:=stowageref13_Name.mono_l k
  ·intro y0 y1
   unfold stowageref13_Name.l0
   repeat' first
   | (with_reducible exact ih0 _ _)
   | (with_reducible exact LeO.refl _)
   | (with_reducible exact LeO.none _)
   | (with_reducible refine LeO.ite ?_ ?_)
   | (with_reducible refine LeO.bind ?_ (fun _=>?_))
   | exact ih0 _ _
   | exact LeO.none _
   | refine LeO.ite ?_ ?_
   | refine LeO.bind ?_ (fun _=>?_)
theorem stowageref13_Name.mono:∀ a0 k,LeO (stowageref13_Name.f k a0) (stowageref13_Name.f (k+1) a0):=by
 intro a0 k
 have ih0:=stowageref13_Name.mono_l k
 unfold stowageref13_Name.f
 repeat' first
   | (with_reducible exact ih0 _ _)
   | (with_reducible exact LeO.refl _)
   | (with_reducible exact LeO.none _)
   | (with_reducible refine LeO.ite ?_ ?_)
   | (with_reducible refine LeO.bind ?_ (fun _=>?_))
   | exact ih0 _ _
   | exact LeO.none _
   | refine LeO.ite ?_ ?_
   | refine LeO.bind ?_ (fun _=>?_)
theorem stowageref13_Name.calls (k:Nat) (a0:ByteArray) (r:Bool) (w:World) (h:stowageref13_Name.f k a0=some r) :
  Calls Tryd.prog 88 #[.string a0] w fun e w'=>e = .returned (.bool r)∧Drawn0 w w':=by
 unfold stowageref13_Name.f at h
 have H:=h
 clear h
 have H':=Aside0.mk H
 clear H
 go_enter Tryd.func88,Tryd.ntmps88
 go_wp2
 go_loopg [3] k (fun kq v3 w'=>∃ (x3_1:Int),v3 = .int .i64 x3_1∧Aside0 (stowageref13_Name.l0 kq a0 x3_1=some r)∧Aside0 (kq≤k)∧Drawn0 w w')
 case atStart=>exact⟨(0),(by first|rfl|(simp;done)|(simp [*];done)),H',⟨Nat.le_refl _⟩,by repeat (first|exact Drawn0.refl _|apply Drawn0.step)⟩
 case round=>
  clear H'
  obtain⟨x3_1,rfl,HA,HK1,⟨m1,rfl⟩⟩:=hrel
  cases gk with
  | zero=>exact absurd HA.out (by simp [stowageref13_Name.l0])
  | succ k1=>
   have H:=HA.out
   clear HA
   simp only [stowageref13_Name.l0] at H
   replace H:=itO H
   rcases H with⟨c2,H⟩|⟨c2,H⟩
   ·skip
    have c2b0:decide (x3_1<(a0.size:Int))=true:=decide_eq_true c2
    clear c2
    replace H:=itO H
    rcases H with⟨c3,H⟩|⟨c3,H⟩
    ·skip
     have c3b0:decide (0≤x3_1)=true:=decide_eq_true c3
     clear c3
     replace H:=bndO H
     obtain⟨t275,A50,H⟩:=H
     have A5:=Aside0.mk A50
     clear A50
     by_cases c6:t275=true
     ·subst c6
      replace H:=itT H
      have H':=Aside0.mk H
      clear H
      have p4:0≤(x3_1:Int):=of_decide_eq_true (by first|(with_reducible assumption)|assumption)
      have q4:x3_1<(a0.size:Int):=of_decide_eq_true (by first|(with_reducible assumption)|assumption)
      have hx4:=bt_at a0 x3_1
      replace p4:=eq_true p4
      replace q4:=eq_true q4
      go_wp2_with (first|((with_reducible refine gate_callee (f:=104) rfl ?_);refine goesL_ (some 13) rfl rfl Tryd.func104 (by kernel_rfl) rfl #[.int .u8 (bt a0 x3_1)] rfl (by(try simp only [List.map_toArray,List.map_cons,List.map_nil]);first|done|rfl|(simp only [List.length_drop,List.length_take];rfl)) ?_;(with_reducible refine(stowageref13_inner.calls (bt a0 x3_1) true _ A5.out).mono ?_);rintro e w' ⟨rfl,⟨nd,rfl⟩⟩;refine⟨_,rfl,?_⟩))
      go_roundg k1
      case measure=>have:=HK1.out;omega
      case rel=>exact⟨(wrap64 (x3_1+1)),(by first|rfl|(simp;done)|(simp [*];done)),H',⟨by have:=HK1.out;omega⟩,by repeat (first|exact Drawn0.refl _|apply Drawn0.step)⟩
     ·replace c6:=Bool.eq_false_iff.mpr c6
      subst c6
      replace H:=itF H
      obtain rfl:=Option.some.inj H
      have p4:0≤(x3_1:Int):=of_decide_eq_true (by first|(with_reducible assumption)|assumption)
      have q4:x3_1<(a0.size:Int):=of_decide_eq_true (by first|(with_reducible assumption)|assumption)
      have hx4:=bt_at a0 x3_1
      replace p4:=eq_true p4
      replace q4:=eq_true q4
      go_wp2_with (first|((with_reducible refine gate_callee (f:=104) rfl ?_);refine goesL_ (some 13) rfl rfl Tryd.func104 (by kernel_rfl) rfl #[.int .u8 (bt a0 x3_1)] rfl (by(try simp only [List.map_toArray,List.map_cons,List.map_nil]);first|done|rfl|(simp only [List.length_drop,List.length_take];rfl)) ?_;(with_reducible refine(stowageref13_inner.calls (bt a0 x3_1) false _ A5.out).mono ?_);rintro e w' ⟨rfl,⟨nd,rfl⟩⟩;refine⟨_,rfl,?_⟩))
      go_ret
      exact⟨by first|rfl|(simp;done)|(simp [*];done),by repeat (first|exact Drawn0.refl _|apply Drawn0.step)⟩
    ·exact absurd H (by simp)
   ·skip
    have c2b0:decide (x3_1<(a0.size:Int))=false:=decide_eq_false c2
    clear c2
    replace H:=itO H
    rcases H with⟨c7,H⟩|⟨c7,H⟩
    ·skip
     have c7b0:decide (0<(a0.size:Int))=true:=decide_eq_true c7
     have c7b1:decide (0<a0.size)=true:=decide_eq_true (by omega)
     clear c7
     replace H:=itO H
     rcases H with⟨c8,H⟩|⟨c8,H⟩
     ·skip
      have c8b0:decide (0<(a0.size:Int))=true:=decide_eq_true c8
      have c8b1:decide (0<a0.size)=true:=decide_eq_true (by omega)
      clear c8
      replace H:=bndO H
      obtain⟨t276,A100,H⟩:=H
      have A10:=Aside0.mk A100
      clear A100
      obtain rfl:=Option.some.inj H
      have p9:0≤(0:Int):=(by omega)
      have q9:0<a0.size:=(by have:(0:Int)<(a0.size:Int):=of_decide_eq_true (by first|(with_reducible assumption)|assumption);omega)
      have hx9:∀ h:0<a0.size,((a0[0]'h).toNat:Int)=bt a0 0:=bt_at a0 0
      clear p9
      have qi9:(0<(a0.size:Int))=True:=eq_true (of_decide_eq_true (by first|(with_reducible assumption)|assumption))
      replace q9:=eq_true q9
      go_wp2_with (first|(go_at_call 105;(with_reducible refine(stowageref13_letter.calls (bt a0 0) t276 _ A10.out).mono ?_);rintro e w' ⟨rfl,⟨nd,rfl⟩⟩))
      go_ret
      exact⟨by first|rfl|(simp;done)|(simp [*];done),by repeat (first|exact Drawn0.refl _|apply Drawn0.step)⟩
     ·exact absurd H (by simp)
    ·skip
     have c7b0:decide (0<(a0.size:Int))=false:=decide_eq_false c7
     have c7b1:decide (0<a0.size)=false:=decide_eq_false (by omega)
     clear c7
     obtain rfl:=Option.some.inj H
     go_wp2
     go_ret
     exact⟨by first|rfl|(simp;done)|(simp [*];done),by repeat (first|exact Drawn0.refl _|apply Drawn0.step)⟩
end Go.Proofs.YtfjidcmegacibaaDoor.Q
