/- A part of the proof of the seat's laws. No condition beyond those in the theorems. -/
import Derived.Test.YtklcgncaclggcaaDoorZSqzB
import Derived.Test.YtklcgncaclggcaaDoorZQ0g15
import Derived.Test.YtklcgncaclggcaaDoorZQ59g6
import Derived.Test.YtklcgncaclggcaaDoorZBase
open Bool renaming true→T,false→F

namespace Go.Proofs.YtklcgncaclggcaaDoor.Q
open Go.RowKit Go.Proofs.YtklcgncaclggcaaDoorW.PrintWords Go.Proofs.YtklcgncaclggcaaDoorW.PrintLast Go.Proofs.YtklcgncaclggcaaDoorW.PrintMore
set_option linter.unusedVariables false
set_option linter.unusedSimpArgs false
set_option maxHeartbeats 8000000
set_option maxRecDepth 100000
attribute [local go_sem] max2_int min2_int max_two min_two max_three min_three max_four min_four   
mutual
def stowageref13_text.l0:Nat→ByteArray→Int→ByteArray→ByteArray→List (S30)→Option (ByteArray)
  | 0,_,_,_,_,_=>none
  | k+1,x5,x6,x284000,x284001,x284002=>if x6<(x284002.length:Int) then(if 0≤x6 then((stowageref13_text.f k ((rd_T30 x284002 x6).f0) ((rd_T30 x284002 x6).f1) ((rd_T30 x284002 x6).f2) (⟨#[]⟩ : ByteArray)).bind fun t286=>(if x5.size+t286.size≤9223372036854775807 then(stowageref13_text.l0 k (x5++t286) (wrap64 (x6+1)) x284000 x284001 x284002) else(none))) else(none)) else(if x5.size+2≤9223372036854775807 then(if(x5++(⟨#[60,47]⟩ : ByteArray)).size+x284000.size≤9223372036854775807 then(if((x5++(⟨#[60,47]⟩ : ByteArray))++x284000).size+1≤9223372036854775807 then(some (((x5++(⟨#[60,47]⟩ : ByteArray))++x284000)++(⟨#[62]⟩ : ByteArray))) else(none)) else(none)) else(none))
def stowageref13_text.f:Nat→ByteArray→ByteArray→List (S30)→ByteArray→Option (ByteArray)
  | 0,_,_,_,_=>none
  | k+1,a0_0,a0_1,l0_2,a1=>if 1+a0_0.size≤9223372036854775807 then(if((⟨#[60]⟩ : ByteArray)++a0_0).size+a1.size≤9223372036854775807 then(if(((⟨#[60]⟩ : ByteArray)++a0_0)++a1).size+1≤9223372036854775807 then((stowageref13_Escape.f k a0_1).bind fun t284=>(if((((⟨#[60]⟩ : ByteArray)++a0_0)++a1)++(⟨#[62]⟩ : ByteArray)).size+t284.size≤9223372036854775807 then(stowageref13_text.l0 k (((((⟨#[60]⟩ : ByteArray)++a0_0)++a1)++(⟨#[62]⟩ : ByteArray))++t284) 0 a0_0 a0_1 l0_2) else(none))) else(none)) else(none)) else(none)
end
theorem stowageref13_text.mono_l:∀ k,(∀ y0 y1 y2 y3,LeO (stowageref13_text.f k y0 y1 y2 y3) (stowageref13_text.f (k+1) y0 y1 y2 y3))∧(∀ y0 y1 y2 y3 y4,LeO (stowageref13_text.l0 k y0 y1 y2 y3 y4) (stowageref13_text.l0 (k+1) y0 y1 y2 y3 y4))
  | 0=>⟨fun _ _ _ _ r h=>by simp [stowageref13_text.f] at h,fun _ _ _ _ _ r h=>by simp [stowageref13_text.l0] at h⟩
  | k+1=>by
    obtain⟨ih0,ih1⟩:=stowageref13_text.mono_l k
    refine⟨?_,?_⟩
    · intro y0 y1 y2 y3
      unfold stowageref13_text.f
      with_reducible repeat' first|exact ih0 _ _ _ _|exact ih1 _ _ _ _ _|exact stowageref13_Escape.mono _ _|exact LeO.refl _|exact LeO.none _|refine LeO.ite ?_ ?_|refine LeO.bind ?_ (fun _=>?_)
    · intro y0 y1 y2 y3 y4
      unfold stowageref13_text.l0
      with_reducible repeat' first|exact ih0 _ _ _ _|exact ih1 _ _ _ _ _|exact stowageref13_Escape.mono _ _|exact LeO.refl _|exact LeO.none _|refine LeO.ite ?_ ?_|refine LeO.bind ?_ (fun _=>?_)
theorem stowageref13_text.mono:∀ a0 a1 a2 a3 k,LeO (stowageref13_text.f k a0 a1 a2 a3) (stowageref13_text.f (k+1) a0 a1 a2 a3):=by
 intro a0 a1 a2 a3 k
 obtain⟨ih0,ih1⟩:=stowageref13_text.mono_l k
 exact ih0 a0 a1 a2 a3
theorem stowageref13_text.calls (k:Nat):∀ (a0_0:ByteArray) (a0_1:ByteArray) (A0_2:Option Addr) (c0_2:Nat) (l0_2:List (S30)) (a1:ByteArray) (r:ByteArray) (w:World) (hr0_2:Kd.C k30 w A0_2 l0_2.length l0_2) (hc0_2:l0_2.length≤c0_2) (h:stowageref13_text.f k a0_0 a0_1 l0_2 a1=some r),
    Calls Tryd.prog 51 #[.agg #[.string a0_0,.string a0_1,.slice A0_2 l0_2.length c0_2],.string a1] w fun e w'=>e = .returned (.string r)∧Below w.heap.size w w':=by
 induction k using Nat.strongRecOn with
 | _ k ih=>
 intro a0_0 a0_1 A0_2 c0_2 l0_2 a1 r w hr0_2 hc0_2 h
 cases k with
 | zero=>exact absurd h (by simp [stowageref13_text.f])
 | succ k=>
 simp only [stowageref13_text.f] at h
 have hu30:=Tryd.underlying30
 have HR0_2:=Aside0.mk hr0_2
 have HC0_2:=Aside0.mk hc0_2
 clear hr0_2 hc0_2
 have HB:=Aside0.mk (Below.refl w.heap.size w)
 have H:(if 1+a0_0.size≤9223372036854775807 then(if((⟨#[60]⟩ : ByteArray)++a0_0).size+a1.size≤9223372036854775807 then(if(((⟨#[60]⟩ : ByteArray)++a0_0)++a1).size+1≤9223372036854775807 then((stowageref13_Escape.f k a0_1).bind fun t284=>(if((((⟨#[60]⟩ : ByteArray)++a0_0)++a1)++(⟨#[62]⟩ : ByteArray)).size+t284.size≤9223372036854775807 then(stowageref13_text.l0 k (((((⟨#[60]⟩ : ByteArray)++a0_0)++a1)++(⟨#[62]⟩ : ByteArray))++t284) 0 a0_0 a0_1 l0_2) else(none))) else(none)) else(none)) else(none))=some r:=h
 clear h
 replace H:=itO H
 rcases H with⟨c3,H⟩|⟨c3,H⟩
 {
 have c3b0:=eq_true c3
 try have c3b2:=eq_false (Nat.not_lt.2 c3)
 try (have c3n:1+a0_0.size≤9223372036854775807:=by have h_:=c3;simp only [ByteArray.size_append,ByteArray.size_extract] at h_;exact h_)
 try have c3f:(9223372036854775807<1+a0_0.size)=False:=eq_false (by first|omega|(simp only [eq_iff_iff,iff_true] at *;omega))
 replace H:=itO H
 rcases H with⟨c4,H⟩|⟨c4,H⟩
 {
 have c4b0:=eq_true c4
 try have c4b2:=eq_false (Nat.not_lt.2 c4)
 try (have c4n:1+a0_0.size+a1.size≤9223372036854775807:=by have h_:=c4;simp only [ByteArray.size_append,ByteArray.size_extract] at h_;exact h_)
 try have c4f:(9223372036854775807<1+a0_0.size+a1.size)=False:=eq_false (by first|omega|(simp only [eq_iff_iff,iff_true] at *;omega))
 replace H:=itO H
 rcases H with⟨c5,H⟩|⟨c5,H⟩
 {
 have c5b0:=eq_true c5
 try have c5b2:=eq_false (Nat.not_lt.2 c5)
 try (have c5n:1+a0_0.size+a1.size+1≤9223372036854775807:=by have h_:=c5;simp only [ByteArray.size_append,ByteArray.size_extract] at h_;exact h_)
 try have c5f:(9223372036854775807<1+a0_0.size+a1.size+1)=False:=eq_false (by first|omega|(simp only [eq_iff_iff,iff_true] at *;omega))
 replace H:=bndO H
 obtain⟨t284,A60,H⟩:=H
 have A6:=Aside0.mk A60
 clear A60
 replace H:=itO H
 rcases H with⟨c7,H⟩|⟨c7,H⟩
 {
 have c7b0:=eq_true c7
 try have c7b2:=eq_false (Nat.not_lt.2 c7)
 try (have c7n:1+a0_0.size+a1.size+1+t284.size≤9223372036854775807:=by have h_:=c7;simp only [ByteArray.size_append,ByteArray.size_extract] at h_;exact h_)
 try have c7f:(9223372036854775807<1+a0_0.size+a1.size+1+t284.size)=False:=eq_false (by first|omega|(simp only [eq_iff_iff,iff_true] at *;omega))
 have H':=Aside0.mk H
 clear H
 go_enter Tryd.func51,Tryd.ntmps51
 go_wp2_with (first|((with_reducible refine gate_dst (N:=2) rfl ?_);refine box_event ?hg (N:=2) ?hd (cs:=#[.string a0_0,.string a0_1,.slice A0_2 l0_2.length c0_2]) (t:=30) ?hr ?_;(case hd=>rfl);(case hg=>rfl);(case hr=>first|(go_simp;done)|(go_simp;rfl));intro gb283 hg w8 hbox hb;have BK283:=Aside0.mk (hbox);have GW283:=Aside0.mk ((by rw [hg];exact(below_size bl):w.heap.size≤gb283));have GE283:=Aside0.mk ((by rw [hg];exact(below_size bl):w.heap.size≤gb283));replace HB:=Aside0.mk (below_step bl hb);clear hb hbox hg;obtain⟨_,_,_,_,_,_⟩:=bc3 BK283.out)|(go_at_call 20;(with_reducible refine(stowageref13_Escape.calls k a0_1 t284 _ A6.out).mono ?_);rintro e w' ⟨rfl,⟨nd,rfl⟩⟩;(try exact dd)))
 repeat (go_quiet (first|((with_reducible refine gate_dst (N:=2) rfl ?_);refine box_event ?hg (N:=2) ?hd (cs:=#[.string a0_0,.string a0_1,.slice A0_2 l0_2.length c0_2]) (t:=30) ?hr ?_;(case hd=>rfl);(case hg=>rfl);(case hr=>first|(go_simp;done)|(go_simp;rfl));intro gb283 hg w8 hbox hb;have BK283:=Aside0.mk (hbox);have GW283:=Aside0.mk ((by rw [hg];exact(below_size bl):w.heap.size≤gb283));have GE283:=Aside0.mk ((by rw [hg];exact(below_size bl):w.heap.size≤gb283));replace HB:=Aside0.mk (below_step bl hb);clear hb hbox hg;obtain⟨_,_,_,_,_,_⟩:=bc3 BK283.out)|(go_at_call 20;(with_reducible refine(stowageref13_Escape.calls k a0_1 t284 _ A6.out).mono ?_);rintro e w' ⟨rfl,⟨nd,rfl⟩⟩;(try exact dd)));try go_wp2_with (first|((with_reducible refine gate_dst (N:=2) rfl ?_);refine box_event ?hg (N:=2) ?hd (cs:=#[.string a0_0,.string a0_1,.slice A0_2 l0_2.length c0_2]) (t:=30) ?hr ?_;(case hd=>rfl);(case hg=>rfl);(case hr=>first|(go_simp;done)|(go_simp;rfl));intro gb283 hg w8 hbox hb;have BK283:=Aside0.mk (hbox);have GW283:=Aside0.mk ((by rw [hg];exact(below_size bl):w.heap.size≤gb283));have GE283:=Aside0.mk ((by rw [hg];exact(below_size bl):w.heap.size≤gb283));replace HB:=Aside0.mk (below_step bl hb);clear hb hbox hg;obtain⟨_,_,_,_,_,_⟩:=bc3 BK283.out)|(go_at_call 20;(with_reducible refine(stowageref13_Escape.calls k a0_1 t284 _ A6.out).mono ?_);rintro e w' ⟨rfl,⟨nd,rfl⟩⟩;(try exact dd))))
 go_loopg [5,6] k (fun kq v5 v6 w'=>∃ (x5_1:ByteArray) (x6_1:Int),v5 = .string x5_1∧v6 = .int .i64 x6_1∧Aside0 (stowageref13_text.l0 kq x5_1 x6_1 a0_0 a0_1 l0_2=some r)∧Aside0 (kq≤k)∧Aside0 (w'.heap[gb283]? = some (.cells #[.string a0_0,.string a0_1,(.slice A0_2 l0_2.length c0_2)] 30 (0,0)))∧Aside0 (Below w.heap.size w w'))
 case atStart=>exact⟨(((((⟨#[60]⟩ : ByteArray)++a0_0)++a1)++(⟨#[62]⟩ : ByteArray))++t284),(0),rs,rs,H',⟨Nat.le_refl _⟩,⟨kl⟩,⟨bl⟩⟩
 case round=>
  clear H'
  obtain⟨x5_1,x6_1,rfl,rfl,HA,HK1,BK283,HB⟩:=hrel
  cases gk with
  | zero=>exact absurd HA.out (by simp [stowageref13_text.l0])
  | succ k1=>
   have H:=HA.out
   clear HA
   simp only [stowageref13_text.l0] at H
   replace H:=itO H
   rcases H with⟨c10,H⟩|⟨c10,H⟩
   {
   have c10b0:decide (x6_1<(l0_2.length:Int))=true:=decide_eq_true c10
   clear c10
   replace H:=itO H
   rcases H with⟨c11,H⟩|⟨c11,H⟩
   {
   have c11b0:decide (0≤x6_1)=true:=decide_eq_true c11
   clear c11
   replace H:=bndO H
   obtain⟨t286,A120,H⟩:=H
   have A12:=Aside0.mk A120
   clear A120
   replace H:=itO H
   rcases H with⟨c13,H⟩|⟨c13,H⟩
   {
   have c13b0:=eq_true c13
   try have c13b2:=eq_false (Nat.not_lt.2 c13)
   try (have c13n:x5_1.size+t286.size≤9223372036854775807:=by have h_:=c13;simp only [ByteArray.size_append,ByteArray.size_extract] at h_;exact h_)
   try have c13f:(9223372036854775807<x5_1.size+t286.size)=False:=eq_false (by first|omega|(simp only [eq_iff_iff,iff_true] at *;omega))
   have H':=Aside0.mk H
   clear H
   obtain⟨_,_,_,_,_,_⟩:=bc3 BK283.out
   have p285:0≤(x6_1:Int):=of_decide_eq_true asm
   have q285:x6_1<(l0_2.length:Int):=of_decide_eq_true asm
   obtain⟨ad285,A285_2,c285_2,e285,hx285_0,hx285_1,hx285_2,hl285_2,hi285_2⟩:=at_T30 HR0_2.out x6_1 p285 q285
   cases e285
   replace hx285_0:=(HB.out.cell (World.block_lt_of_cell? w _ hx285_0)).trans hx285_0
   replace hx285_1:=(HB.out.cell (World.block_lt_of_cell? w _ hx285_1)).trans hx285_1
   replace hx285_2:=(HB.out.cell (World.block_lt_of_cell? w _ hx285_2)).trans hx285_2
   have HR285_2:=Aside0.mk hi285_2
   have HC285_2:=Aside0.mk hl285_2
   clear hi285_2 hl285_2
   replace p285:=eq_true p285
   replace q285:=eq_true q285
   go_wp2_with (first|(go_at_call 51;(with_reducible refine(ih k1 (by have:=HK1.out;omega) ((rd_T30 l0_2 x6_1).f0) ((rd_T30 l0_2 x6_1).f1) _ _ ((rd_T30 l0_2 x6_1).f2) (⟨#[]⟩ : ByteArray) t286 _ ?side1 ?side2 A12.out).mono ?_);(case side1=>repeat (first|exact(Kd.C_below HR285_2.out HB.out)|(with_reducible refine Kd.C_alloc ?_ _)|(with_reducible refine Kd.C_drewN ?_ _)|(with_reducible refine Kd.C_drew ?_)));(case side2=>exact HC285_2.out);rintro e w15 ⟨rfl,hb⟩;replace BK283:=Aside0.mk (blk_below (g:=gb283) (o:=.cells #[.string a0_0,.string a0_1,.slice (some ad285) l0_2.length c0_2] 30 (0,0)) kl hb);replace HB:=Aside0.mk (below_step bl hb)))
   repeat (go_quiet (first|(go_at_call 51;(with_reducible refine(ih k1 (by have:=HK1.out;omega) ((rd_T30 l0_2 x6_1).f0) ((rd_T30 l0_2 x6_1).f1) _ _ ((rd_T30 l0_2 x6_1).f2) (⟨#[]⟩ : ByteArray) t286 _ ?side1 ?side2 A12.out).mono ?_);(case side1=>repeat (first|exact(Kd.C_below HR285_2.out HB.out)|(with_reducible refine Kd.C_alloc ?_ _)|(with_reducible refine Kd.C_drewN ?_ _)|(with_reducible refine Kd.C_drew ?_)));(case side2=>exact HC285_2.out);rintro e w15 ⟨rfl,hb⟩;replace BK283:=Aside0.mk (blk_below (g:=gb283) (o:=.cells #[.string a0_0,.string a0_1,.slice (some ad285) l0_2.length c0_2] 30 (0,0)) kl hb);replace HB:=Aside0.mk (below_step bl hb)));try go_wp2_with (first|(go_at_call 51;(with_reducible refine(ih k1 (by have:=HK1.out;omega) ((rd_T30 l0_2 x6_1).f0) ((rd_T30 l0_2 x6_1).f1) _ _ ((rd_T30 l0_2 x6_1).f2) (⟨#[]⟩ : ByteArray) t286 _ ?side1 ?side2 A12.out).mono ?_);(case side1=>repeat (first|exact(Kd.C_below HR285_2.out HB.out)|(with_reducible refine Kd.C_alloc ?_ _)|(with_reducible refine Kd.C_drewN ?_ _)|(with_reducible refine Kd.C_drew ?_)));(case side2=>exact HC285_2.out);rintro e w15 ⟨rfl,hb⟩;replace BK283:=Aside0.mk (blk_below (g:=gb283) (o:=.cells #[.string a0_0,.string a0_1,.slice (some ad285) l0_2.length c0_2] 30 (0,0)) kl hb);replace HB:=Aside0.mk (below_step bl hb))))
   go_roundg k1
   case measure=>have:=HK1.out;omega
   case rel=>exact⟨(x5_1++t286),(wrap64 (x6_1+1)),rs,rs,H',⟨by have:=HK1.out;omega⟩,⟨kl⟩,⟨bl⟩⟩
   }
   ·exact absurd H (by simp)
   }
   ·exact absurd H (by simp)
   }
   {
   have c10b0:decide (x6_1<(l0_2.length:Int))=false:=decide_eq_false c10
   clear c10
   replace H:=itO H
   rcases H with⟨c16,H⟩|⟨c16,H⟩
   {
   have c16b0:=eq_true c16
   try have c16b2:=eq_false (Nat.not_lt.2 c16)
   try (have c16n:x5_1.size+2≤9223372036854775807:=by have h_:=c16;simp only [ByteArray.size_append,ByteArray.size_extract] at h_;exact h_)
   try have c16f:(9223372036854775807<x5_1.size+2)=False:=eq_false (by first|omega|(simp only [eq_iff_iff,iff_true] at *;omega))
   replace H:=itO H
   rcases H with⟨c17,H⟩|⟨c17,H⟩
   {
   have c17b0:=eq_true c17
   try have c17b2:=eq_false (Nat.not_lt.2 c17)
   try (have c17n:x5_1.size+2+a0_0.size≤9223372036854775807:=by have h_:=c17;simp only [ByteArray.size_append,ByteArray.size_extract] at h_;exact h_)
   try have c17f:(9223372036854775807<x5_1.size+2+a0_0.size)=False:=eq_false (by first|omega|(simp only [eq_iff_iff,iff_true] at *;omega))
   replace H:=itO H
   rcases H with⟨c18,H⟩|⟨c18,H⟩
   {
   have c18b0:=eq_true c18
   try have c18b2:=eq_false (Nat.not_lt.2 c18)
   try (have c18n:x5_1.size+2+a0_0.size+1≤9223372036854775807:=by have h_:=c18;simp only [ByteArray.size_append,ByteArray.size_extract] at h_;exact h_)
   try have c18f:(9223372036854775807<x5_1.size+2+a0_0.size+1)=False:=eq_false (by first|omega|(simp only [eq_iff_iff,iff_true] at *;omega))
   obtain rfl:=Option.some.inj H
   obtain⟨_,_,_,_,_,_⟩:=bc3 BK283.out
   go_wp2
   repeat (go_quiet (fail);try go_wp2)
   go_ret
   exact⟨ew,bl⟩
   }
   ·exact absurd H (by simp)
   }
   ·exact absurd H (by simp)
   }
   ·exact absurd H (by simp)
   }
 }
 ·exact absurd H (by simp)
 }
 ·exact absurd H (by simp)
 }
 ·exact absurd H (by simp)
 }
 ·exact absurd H (by simp)
def stowageref13_Print.f (k:Nat) (a0_0:ByteArray) (a0_1:ByteArray) (l0_2:List (S30)) (a1:Bool):Option (ByteArray×Int):=(stowageref13_fit.f k a0_0 a0_1 l0_2 1).bind fun t288=>(if t288=true then(if a1=true then((stowageref13_text.f k a0_0 a0_1 l0_2 (⟨#[32,120,109,108,110,115,61,34,104,116,116,112,58,47,47,115,51,46,97,109,97,122,111,110,97,119,115,46,99,111,109,47,100,111,99,47,50,48,48,54,45,48,51,45,48,49,47,34]⟩ : ByteArray)).bind fun t289=>(if 39+t289.size≤9223372036854775807 then(if(((⟨#[60,63,120,109,108,32,118,101,114,115,105,111,110,61,34,49,46,48,34,32,101,110,99,111,100,105,110,103,61,34,85,84,70,45,56,34,63,62,10]⟩ : ByteArray)++t289).size:Int)>65536 then(some ((⟨#[]⟩ : ByteArray),2)) else(some ((⟨#[60,63,120,109,108,32,118,101,114,115,105,111,110,61,34,49,46,48,34,32,101,110,99,111,100,105,110,103,61,34,85,84,70,45,56,34,63,62,10]⟩ : ByteArray)++t289,0))) else(none))) else((stowageref13_text.f k a0_0 a0_1 l0_2 (⟨#[]⟩ : ByteArray)).bind fun t290=>(if 39+t290.size≤9223372036854775807 then(if(((⟨#[60,63,120,109,108,32,118,101,114,115,105,111,110,61,34,49,46,48,34,32,101,110,99,111,100,105,110,103,61,34,85,84,70,45,56,34,63,62,10]⟩ : ByteArray)++t290).size:Int)>65536 then(some ((⟨#[]⟩ : ByteArray),2)) else(some ((⟨#[60,63,120,109,108,32,118,101,114,115,105,111,110,61,34,49,46,48,34,32,101,110,99,111,100,105,110,103,61,34,85,84,70,45,56,34,63,62,10]⟩ : ByteArray)++t290,0))) else(none)))) else(some ((⟨#[]⟩ : ByteArray),130)))
theorem stowageref13_Print.mono:∀ a0 a1 a2 a3 k,LeO (stowageref13_Print.f k a0 a1 a2 a3) (stowageref13_Print.f (k+1) a0 a1 a2 a3):=by
 intro a0 a1 a2 a3 k
 unfold stowageref13_Print.f
 with_reducible repeat' first|exact stowageref13_fit.mono _ _ _ _ _|exact stowageref13_text.mono _ _ _ _ _|exact LeO.refl _|exact LeO.none _|refine LeO.ite ?_ ?_|refine LeO.bind ?_ (fun _=>?_)
theorem stowageref13_Print.calls (k:Nat) (a0_0:ByteArray) (a0_1:ByteArray) (A0_2:Option Addr) (c0_2:Nat) (l0_2:List (S30)) (a1:Bool) (r1:ByteArray) (r2:Int) (w:World) (hr0_2:Kd.C k30 w A0_2 l0_2.length l0_2) (hc0_2:l0_2.length≤c0_2) (h:stowageref13_Print.f k a0_0 a0_1 l0_2 a1=some (r1,r2)) :
    Calls Tryd.prog 24 #[.agg #[.string a0_0,.string a0_1,.slice A0_2 l0_2.length c0_2],.bool a1] w fun e w'=>e = .returned (.tuple #[.string r1,.int .i64 r2])∧Below w.heap.size w w':=by
 have hu30:=Tryd.underlying30
 have HR0_2:=Aside0.mk hr0_2
 have HC0_2:=Aside0.mk hc0_2
 clear hr0_2 hc0_2
 have HB:=Aside0.mk (Below.refl w.heap.size w)
 unfold stowageref13_Print.f at h
 have H:=h
 clear h
 replace H:=bndO H
 obtain⟨t288,A30,H⟩:=H
 have A3:=Aside0.mk A30
 clear A30
 by_cases c4:t288=true
 {
 subst c4
 replace H:=itT H
 by_cases c5:a1=true
 {
 subst c5
 replace H:=itT H
 replace H:=bndO H
 obtain⟨t289,A60,H⟩:=H
 have A6:=Aside0.mk A60
 clear A60
 replace H:=itO H
 rcases H with⟨c7,H⟩|⟨c7,H⟩
 {
 have c7b0:=eq_true c7
 try have c7b2:=eq_false (Nat.not_lt.2 c7)
 try (have c7n:39+t289.size≤9223372036854775807:=by have h_:=c7;simp only [ByteArray.size_append,ByteArray.size_extract] at h_;exact h_)
 try have c7f:(9223372036854775807<39+t289.size)=False:=eq_false (by first|omega|(simp only [eq_iff_iff,iff_true] at *;omega))
 replace H:=itO H
 rcases H with⟨c8,H⟩|⟨c8,H⟩
 {
 have c8b0:decide (65536<(((⟨#[60,63,120,109,108,32,118,101,114,115,105,111,110,61,34,49,46,48,34,32,101,110,99,111,100,105,110,103,61,34,85,84,70,45,56,34,63,62,10]⟩ : ByteArray)++t289).size:Int))=true:=decide_eq_true c8
 have c8w:decide ((65536:Int)<39+(t289.size:Int))=true:=by
   have h_:=of_decide_eq_true c8b0
   rw [ByteArray.size_append] at h_
   have e_:((⟨#[60,63,120,109,108,32,118,101,114,115,105,111,110,61,34,49,46,48,34,32,101,110,99,111,100,105,110,103,61,34,85,84,70,45,56,34,63,62,10]⟩ : ByteArray)).size=39:=rfl
   exact decide_eq_true (by omega)
 try (have c8m:=c8;simp only [ByteArray.size_append,Int.natCast_add,Int.not_lt] at c8m)
 clear c8
 simp only [Option.some.injEq,Prod.mk.injEq] at H
 obtain⟨rfl,rfl⟩:=H
 go_enter Tryd.func24,Tryd.ntmps24
 go_wp2_with (first|((with_reducible refine gate_dst (N:=2) rfl ?_);refine box_event ?hg (N:=2) ?hd (cs:=#[.string a0_0,.string a0_1,.slice A0_2 l0_2.length c0_2]) (t:=30) ?hr ?_;(case hd=>rfl);(case hg=>rfl);(case hr=>first|(go_simp;done)|(go_simp;rfl));intro gb287 hg w9 hbox hb;have BK287:=Aside0.mk (hbox);have GW287:=Aside0.mk ((by rw [hg];exact(below_size bl):w.heap.size≤gb287));have GE287:=Aside0.mk ((by rw [hg];exact(below_size bl):w.heap.size≤gb287));replace HB:=Aside0.mk (below_step bl hb);clear hb hbox hg;obtain⟨_,_,_,_,_,_⟩:=bc3 BK287.out)|((with_reducible refine gate_callee (f:=50) rfl ?_);refine goesL_ (some 9) rfl rfl Tryd.func50 kr rfl #[.agg #[.string a0_0,.string a0_1,.slice A0_2 l0_2.length c0_2],.int .i64 1] rfl am ?_;(with_reducible refine(stowageref13_fit.calls k a0_0 a0_1 _ _ l0_2 1 true _ ?side1 ?side2 A3.out).mono ?_);(case side1=>repeat (first|exact(Kd.C_below HR0_2.out HB.out)|(with_reducible refine Kd.C_alloc ?_ _)|(with_reducible refine Kd.C_drewN ?_ _)|(with_reducible refine Kd.C_drew ?_)));(case side2=>exact HC0_2.out);rintro e w11 ⟨rfl,hb⟩;refine⟨_,rfl,?_⟩;replace BK287:=Aside0.mk (blk_below (g:=gb287) (o:=.cells #[.string a0_0,.string a0_1,.slice A0_2 l0_2.length c0_2] 30 (0,0)) kl hb);replace HB:=Aside0.mk (below_step bl hb);obtain⟨_,_,_,_,_,_⟩:=bc3 BK287.out)|((with_reducible refine gate_callee (f:=51) rfl ?_);refine goesL_ (some 14) rfl rfl Tryd.func51 kr rfl #[.agg #[.string a0_0,.string a0_1,.slice A0_2 l0_2.length c0_2],.string (⟨#[32,120,109,108,110,115,61,34,104,116,116,112,58,47,47,115,51,46,97,109,97,122,111,110,97,119,115,46,99,111,109,47,100,111,99,47,50,48,48,54,45,48,51,45,48,49,47,34]⟩ : ByteArray)] rfl am ?_;(with_reducible refine(stowageref13_text.calls k a0_0 a0_1 _ _ l0_2 (⟨#[32,120,109,108,110,115,61,34,104,116,116,112,58,47,47,115,51,46,97,109,97,122,111,110,97,119,115,46,99,111,109,47,100,111,99,47,50,48,48,54,45,48,51,45,48,49,47,34]⟩ : ByteArray) t289 _ ?side1 ?side2 A6.out).mono ?_);(case side1=>repeat (first|exact(Kd.C_below HR0_2.out HB.out)|(with_reducible refine Kd.C_alloc ?_ _)|(with_reducible refine Kd.C_drewN ?_ _)|(with_reducible refine Kd.C_drew ?_)));(case side2=>exact HC0_2.out);rintro e w13 ⟨rfl,hb⟩;refine⟨_,rfl,?_⟩;replace BK287:=Aside0.mk (blk_below (g:=gb287) (o:=.cells #[.string a0_0,.string a0_1,.slice A0_2 l0_2.length c0_2] 30 (0,0)) kl hb);replace HB:=Aside0.mk (below_step bl hb)))
 go_ret2
 exact⟨ew,bl⟩
 }
 {
 have c8b0:decide (65536<(((⟨#[60,63,120,109,108,32,118,101,114,115,105,111,110,61,34,49,46,48,34,32,101,110,99,111,100,105,110,103,61,34,85,84,70,45,56,34,63,62,10]⟩ : ByteArray)++t289).size:Int))=false:=decide_eq_false c8
 have c8w:decide ((65536:Int)<39+(t289.size:Int))=false:=by
   have h_:=of_decide_eq_false c8b0
   rw [ByteArray.size_append] at h_
   have e_:((⟨#[60,63,120,109,108,32,118,101,114,115,105,111,110,61,34,49,46,48,34,32,101,110,99,111,100,105,110,103,61,34,85,84,70,45,56,34,63,62,10]⟩ : ByteArray)).size=39:=rfl
   exact decide_eq_false (by omega)
 try (have c8m:=c8;simp only [ByteArray.size_append,Int.natCast_add,Int.not_lt] at c8m)
 clear c8
 simp only [Option.some.injEq,Prod.mk.injEq] at H
 obtain⟨rfl,rfl⟩:=H
 go_enter Tryd.func24,Tryd.ntmps24
 go_wp2_with (first|((with_reducible refine gate_dst (N:=2) rfl ?_);refine box_event ?hg (N:=2) ?hd (cs:=#[.string a0_0,.string a0_1,.slice A0_2 l0_2.length c0_2]) (t:=30) ?hr ?_;(case hd=>rfl);(case hg=>rfl);(case hr=>first|(go_simp;done)|(go_simp;rfl));intro gb287 hg w14 hbox hb;have BK287:=Aside0.mk (hbox);have GW287:=Aside0.mk ((by rw [hg];exact(below_size bl):w.heap.size≤gb287));have GE287:=Aside0.mk ((by rw [hg];exact(below_size bl):w.heap.size≤gb287));replace HB:=Aside0.mk (below_step bl hb);clear hb hbox hg;obtain⟨_,_,_,_,_,_⟩:=bc3 BK287.out)|((with_reducible refine gate_callee (f:=50) rfl ?_);refine goesL_ (some 9) rfl rfl Tryd.func50 kr rfl #[.agg #[.string a0_0,.string a0_1,.slice A0_2 l0_2.length c0_2],.int .i64 1] rfl am ?_;(with_reducible refine(stowageref13_fit.calls k a0_0 a0_1 _ _ l0_2 1 true _ ?side1 ?side2 A3.out).mono ?_);(case side1=>repeat (first|exact(Kd.C_below HR0_2.out HB.out)|(with_reducible refine Kd.C_alloc ?_ _)|(with_reducible refine Kd.C_drewN ?_ _)|(with_reducible refine Kd.C_drew ?_)));(case side2=>exact HC0_2.out);rintro e w16 ⟨rfl,hb⟩;refine⟨_,rfl,?_⟩;replace BK287:=Aside0.mk (blk_below (g:=gb287) (o:=.cells #[.string a0_0,.string a0_1,.slice A0_2 l0_2.length c0_2] 30 (0,0)) kl hb);replace HB:=Aside0.mk (below_step bl hb);obtain⟨_,_,_,_,_,_⟩:=bc3 BK287.out)|((with_reducible refine gate_callee (f:=51) rfl ?_);refine goesL_ (some 14) rfl rfl Tryd.func51 kr rfl #[.agg #[.string a0_0,.string a0_1,.slice A0_2 l0_2.length c0_2],.string (⟨#[32,120,109,108,110,115,61,34,104,116,116,112,58,47,47,115,51,46,97,109,97,122,111,110,97,119,115,46,99,111,109,47,100,111,99,47,50,48,48,54,45,48,51,45,48,49,47,34]⟩ : ByteArray)] rfl am ?_;(with_reducible refine(stowageref13_text.calls k a0_0 a0_1 _ _ l0_2 (⟨#[32,120,109,108,110,115,61,34,104,116,116,112,58,47,47,115,51,46,97,109,97,122,111,110,97,119,115,46,99,111,109,47,100,111,99,47,50,48,48,54,45,48,51,45,48,49,47,34]⟩ : ByteArray) t289 _ ?side1 ?side2 A6.out).mono ?_);(case side1=>repeat (first|exact(Kd.C_below HR0_2.out HB.out)|(with_reducible refine Kd.C_alloc ?_ _)|(with_reducible refine Kd.C_drewN ?_ _)|(with_reducible refine Kd.C_drew ?_)));(case side2=>exact HC0_2.out);rintro e w18 ⟨rfl,hb⟩;refine⟨_,rfl,?_⟩;replace BK287:=Aside0.mk (blk_below (g:=gb287) (o:=.cells #[.string a0_0,.string a0_1,.slice A0_2 l0_2.length c0_2] 30 (0,0)) kl hb);replace HB:=Aside0.mk (below_step bl hb)))
 go_ret2
 exact⟨ew,bl⟩
 }
 }
 ·exact absurd H (by simp)
 }
 {
 replace c5:=Bool.eq_false_iff.mpr c5
 subst c5
 replace H:=itF H
 replace H:=bndO H
 obtain⟨t290,A190,H⟩:=H
 have A19:=Aside0.mk A190
 clear A190
 replace H:=itO H
 rcases H with⟨c20,H⟩|⟨c20,H⟩
 {
 have c20b0:=eq_true c20
 try have c20b2:=eq_false (Nat.not_lt.2 c20)
 try (have c20n:39+t290.size≤9223372036854775807:=by have h_:=c20;simp only [ByteArray.size_append,ByteArray.size_extract] at h_;exact h_)
 try have c20f:(9223372036854775807<39+t290.size)=False:=eq_false (by first|omega|(simp only [eq_iff_iff,iff_true] at *;omega))
 replace H:=itO H
 rcases H with⟨c21,H⟩|⟨c21,H⟩
 {
 have c21b0:decide (65536<(((⟨#[60,63,120,109,108,32,118,101,114,115,105,111,110,61,34,49,46,48,34,32,101,110,99,111,100,105,110,103,61,34,85,84,70,45,56,34,63,62,10]⟩ : ByteArray)++t290).size:Int))=true:=decide_eq_true c21
 have c21w:decide ((65536:Int)<39+(t290.size:Int))=true:=by
   have h_:=of_decide_eq_true c21b0
   rw [ByteArray.size_append] at h_
   have e_:((⟨#[60,63,120,109,108,32,118,101,114,115,105,111,110,61,34,49,46,48,34,32,101,110,99,111,100,105,110,103,61,34,85,84,70,45,56,34,63,62,10]⟩ : ByteArray)).size=39:=rfl
   exact decide_eq_true (by omega)
 try (have c21m:=c21;simp only [ByteArray.size_append,Int.natCast_add,Int.not_lt] at c21m)
 clear c21
 simp only [Option.some.injEq,Prod.mk.injEq] at H
 obtain⟨rfl,rfl⟩:=H
 go_enter Tryd.func24,Tryd.ntmps24
 go_wp2_with (first|((with_reducible refine gate_dst (N:=2) rfl ?_);refine box_event ?hg (N:=2) ?hd (cs:=#[.string a0_0,.string a0_1,.slice A0_2 l0_2.length c0_2]) (t:=30) ?hr ?_;(case hd=>rfl);(case hg=>rfl);(case hr=>first|(go_simp;done)|(go_simp;rfl));intro gb287 hg w22 hbox hb;have BK287:=Aside0.mk (hbox);have GW287:=Aside0.mk ((by rw [hg];exact(below_size bl):w.heap.size≤gb287));have GE287:=Aside0.mk ((by rw [hg];exact(below_size bl):w.heap.size≤gb287));replace HB:=Aside0.mk (below_step bl hb);clear hb hbox hg;obtain⟨_,_,_,_,_,_⟩:=bc3 BK287.out)|((with_reducible refine gate_callee (f:=50) rfl ?_);refine goesL_ (some 9) rfl rfl Tryd.func50 kr rfl #[.agg #[.string a0_0,.string a0_1,.slice A0_2 l0_2.length c0_2],.int .i64 1] rfl am ?_;(with_reducible refine(stowageref13_fit.calls k a0_0 a0_1 _ _ l0_2 1 true _ ?side1 ?side2 A3.out).mono ?_);(case side1=>repeat (first|exact(Kd.C_below HR0_2.out HB.out)|(with_reducible refine Kd.C_alloc ?_ _)|(with_reducible refine Kd.C_drewN ?_ _)|(with_reducible refine Kd.C_drew ?_)));(case side2=>exact HC0_2.out);rintro e w24 ⟨rfl,hb⟩;refine⟨_,rfl,?_⟩;replace BK287:=Aside0.mk (blk_below (g:=gb287) (o:=.cells #[.string a0_0,.string a0_1,.slice A0_2 l0_2.length c0_2] 30 (0,0)) kl hb);replace HB:=Aside0.mk (below_step bl hb);obtain⟨_,_,_,_,_,_⟩:=bc3 BK287.out)|((with_reducible refine gate_callee (f:=51) rfl ?_);refine goesL_ (some 14) rfl rfl Tryd.func51 kr rfl #[.agg #[.string a0_0,.string a0_1,.slice A0_2 l0_2.length c0_2],.string (⟨#[]⟩ : ByteArray)] rfl am ?_;(with_reducible refine(stowageref13_text.calls k a0_0 a0_1 _ _ l0_2 (⟨#[]⟩ : ByteArray) t290 _ ?side1 ?side2 A19.out).mono ?_);(case side1=>repeat (first|exact(Kd.C_below HR0_2.out HB.out)|(with_reducible refine Kd.C_alloc ?_ _)|(with_reducible refine Kd.C_drewN ?_ _)|(with_reducible refine Kd.C_drew ?_)));(case side2=>exact HC0_2.out);rintro e w26 ⟨rfl,hb⟩;refine⟨_,rfl,?_⟩;replace BK287:=Aside0.mk (blk_below (g:=gb287) (o:=.cells #[.string a0_0,.string a0_1,.slice A0_2 l0_2.length c0_2] 30 (0,0)) kl hb);replace HB:=Aside0.mk (below_step bl hb)))
 go_ret2
 exact⟨ew,bl⟩
 }
 {
 have c21b0:decide (65536<(((⟨#[60,63,120,109,108,32,118,101,114,115,105,111,110,61,34,49,46,48,34,32,101,110,99,111,100,105,110,103,61,34,85,84,70,45,56,34,63,62,10]⟩ : ByteArray)++t290).size:Int))=false:=decide_eq_false c21
 have c21w:decide ((65536:Int)<39+(t290.size:Int))=false:=by
   have h_:=of_decide_eq_false c21b0
   rw [ByteArray.size_append] at h_
   have e_:((⟨#[60,63,120,109,108,32,118,101,114,115,105,111,110,61,34,49,46,48,34,32,101,110,99,111,100,105,110,103,61,34,85,84,70,45,56,34,63,62,10]⟩ : ByteArray)).size=39:=rfl
   exact decide_eq_false (by omega)
 try (have c21m:=c21;simp only [ByteArray.size_append,Int.natCast_add,Int.not_lt] at c21m)
 clear c21
 simp only [Option.some.injEq,Prod.mk.injEq] at H
 obtain⟨rfl,rfl⟩:=H
 go_enter Tryd.func24,Tryd.ntmps24
 go_wp2_with (first|((with_reducible refine gate_dst (N:=2) rfl ?_);refine box_event ?hg (N:=2) ?hd (cs:=#[.string a0_0,.string a0_1,.slice A0_2 l0_2.length c0_2]) (t:=30) ?hr ?_;(case hd=>rfl);(case hg=>rfl);(case hr=>first|(go_simp;done)|(go_simp;rfl));intro gb287 hg w27 hbox hb;have BK287:=Aside0.mk (hbox);have GW287:=Aside0.mk ((by rw [hg];exact(below_size bl):w.heap.size≤gb287));have GE287:=Aside0.mk ((by rw [hg];exact(below_size bl):w.heap.size≤gb287));replace HB:=Aside0.mk (below_step bl hb);clear hb hbox hg;obtain⟨_,_,_,_,_,_⟩:=bc3 BK287.out)|((with_reducible refine gate_callee (f:=50) rfl ?_);refine goesL_ (some 9) rfl rfl Tryd.func50 kr rfl #[.agg #[.string a0_0,.string a0_1,.slice A0_2 l0_2.length c0_2],.int .i64 1] rfl am ?_;(with_reducible refine(stowageref13_fit.calls k a0_0 a0_1 _ _ l0_2 1 true _ ?side1 ?side2 A3.out).mono ?_);(case side1=>repeat (first|exact(Kd.C_below HR0_2.out HB.out)|(with_reducible refine Kd.C_alloc ?_ _)|(with_reducible refine Kd.C_drewN ?_ _)|(with_reducible refine Kd.C_drew ?_)));(case side2=>exact HC0_2.out);rintro e w29 ⟨rfl,hb⟩;refine⟨_,rfl,?_⟩;replace BK287:=Aside0.mk (blk_below (g:=gb287) (o:=.cells #[.string a0_0,.string a0_1,.slice A0_2 l0_2.length c0_2] 30 (0,0)) kl hb);replace HB:=Aside0.mk (below_step bl hb);obtain⟨_,_,_,_,_,_⟩:=bc3 BK287.out)|((with_reducible refine gate_callee (f:=51) rfl ?_);refine goesL_ (some 14) rfl rfl Tryd.func51 kr rfl #[.agg #[.string a0_0,.string a0_1,.slice A0_2 l0_2.length c0_2],.string (⟨#[]⟩ : ByteArray)] rfl am ?_;(with_reducible refine(stowageref13_text.calls k a0_0 a0_1 _ _ l0_2 (⟨#[]⟩ : ByteArray) t290 _ ?side1 ?side2 A19.out).mono ?_);(case side1=>repeat (first|exact(Kd.C_below HR0_2.out HB.out)|(with_reducible refine Kd.C_alloc ?_ _)|(with_reducible refine Kd.C_drewN ?_ _)|(with_reducible refine Kd.C_drew ?_)));(case side2=>exact HC0_2.out);rintro e w31 ⟨rfl,hb⟩;refine⟨_,rfl,?_⟩;replace BK287:=Aside0.mk (blk_below (g:=gb287) (o:=.cells #[.string a0_0,.string a0_1,.slice A0_2 l0_2.length c0_2] 30 (0,0)) kl hb);replace HB:=Aside0.mk (below_step bl hb)))
 go_ret2
 exact⟨ew,bl⟩
 }
 }
 ·exact absurd H (by simp)
 }
 }
 {
 replace c4:=Bool.eq_false_iff.mpr c4
 subst c4
 replace H:=itF H
 simp only [Option.some.injEq,Prod.mk.injEq] at H
 obtain⟨rfl,rfl⟩:=H
 go_enter Tryd.func24,Tryd.ntmps24
 go_wp2_with (first|((with_reducible refine gate_dst (N:=2) rfl ?_);refine box_event ?hg (N:=2) ?hd (cs:=#[.string a0_0,.string a0_1,.slice A0_2 l0_2.length c0_2]) (t:=30) ?hr ?_;(case hd=>rfl);(case hg=>rfl);(case hr=>first|(go_simp;done)|(go_simp;rfl));intro gb287 hg w32 hbox hb;have BK287:=Aside0.mk (hbox);have GW287:=Aside0.mk ((by rw [hg];exact(below_size bl):w.heap.size≤gb287));have GE287:=Aside0.mk ((by rw [hg];exact(below_size bl):w.heap.size≤gb287));replace HB:=Aside0.mk (below_step bl hb);clear hb hbox hg;obtain⟨_,_,_,_,_,_⟩:=bc3 BK287.out)|((with_reducible refine gate_callee (f:=50) rfl ?_);refine goesL_ (some 9) rfl rfl Tryd.func50 kr rfl #[.agg #[.string a0_0,.string a0_1,.slice A0_2 l0_2.length c0_2],.int .i64 1] rfl am ?_;(with_reducible refine(stowageref13_fit.calls k a0_0 a0_1 _ _ l0_2 1 false _ ?side1 ?side2 A3.out).mono ?_);(case side1=>repeat (first|exact(Kd.C_below HR0_2.out HB.out)|(with_reducible refine Kd.C_alloc ?_ _)|(with_reducible refine Kd.C_drewN ?_ _)|(with_reducible refine Kd.C_drew ?_)));(case side2=>exact HC0_2.out);rintro e w34 ⟨rfl,hb⟩;refine⟨_,rfl,?_⟩;replace BK287:=Aside0.mk (blk_below (g:=gb287) (o:=.cells #[.string a0_0,.string a0_1,.slice A0_2 l0_2.length c0_2] 30 (0,0)) kl hb);replace HB:=Aside0.mk (below_step bl hb)))
 go_ret2
 exact⟨ew,bl⟩
 }
mutual
def stowagelaw13_To.l0:Nat→Int→ByteArray→ByteArray→List (S24)→ByteArray→ByteArray→List (S30)→Option (ByteArray×ByteArray×(List (S30)))
  | 0,_,_,_,_,_,_,_=>none
  | k+1,x4,x257000,x257001,x257002,x259000,x259001,x259002=>if x4<(x257002.length:Int) then(if 0≤x4 then((stowagelaw13_To.f k ((rd_T24 x257002 x4).f0) ((rd_T24 x257002 x4).f1) ((rd_T24 x257002 x4).f2)).bind fun bt260=>(if x259002.length<2513169434916 then(stowagelaw13_To.l0 k (wrap64 (x4+1)) x257000 x257001 x257002 x259000 x259001 (x259002 ++ [(⟨bt260.1,bt260.2.1,bt260.2.2⟩ : S30)])) else(none))) else(none)) else(some (x259000,x259001,x259002))
def stowagelaw13_To.f:Nat→ByteArray→ByteArray→List (S24)→Option (ByteArray×ByteArray×(List (S30)))
  | 0,_,_,_=>none
  | k+1,a0_0,a0_1,l0_2=>stowagelaw13_To.l0 k 0 a0_0 a0_1 l0_2 a0_0 a0_1 ([]:List (S30))
end
theorem stowagelaw13_To.mono_l:∀ k,(∀ y0 y1 y2,LeO (stowagelaw13_To.f k y0 y1 y2) (stowagelaw13_To.f (k+1) y0 y1 y2))∧(∀ y0 y1 y2 y3 y4 y5 y6,LeO (stowagelaw13_To.l0 k y0 y1 y2 y3 y4 y5 y6) (stowagelaw13_To.l0 (k+1) y0 y1 y2 y3 y4 y5 y6))
  | 0=>⟨fun _ _ _ r h=>by simp [stowagelaw13_To.f] at h,fun _ _ _ _ _ _ _ r h=>by simp [stowagelaw13_To.l0] at h⟩
  | k+1=>by
    obtain⟨ih0,ih1⟩:=stowagelaw13_To.mono_l k
    refine⟨?_,?_⟩
    · intro y0 y1 y2
      unfold stowagelaw13_To.f
      with_reducible repeat' first|exact ih0 _ _ _|exact ih1 _ _ _ _ _ _ _|exact LeO.refl _|exact LeO.none _|refine LeO.ite ?_ ?_|refine LeO.bind ?_ (fun _=>?_)
    · intro y0 y1 y2 y3 y4 y5 y6
      unfold stowagelaw13_To.l0
      with_reducible repeat' first|exact ih0 _ _ _|exact ih1 _ _ _ _ _ _ _|exact LeO.refl _|exact LeO.none _|refine LeO.ite ?_ ?_|refine LeO.bind ?_ (fun _=>?_)
theorem stowagelaw13_To.mono:∀ a0 a1 a2 k,LeO (stowagelaw13_To.f k a0 a1 a2) (stowagelaw13_To.f (k+1) a0 a1 a2):=by
 intro a0 a1 a2 k
 obtain⟨ih0,ih1⟩:=stowagelaw13_To.mono_l k
 exact ih0 a0 a1 a2
def stowagelaw13_To.T5:Bool×List (List Nat×List Nat):=(true,[([],[]),([0],[0]),([],[]),([2],[2]),([],[]),([3,4],[3,4]),([5],[5]),([6],[6]),([7],[7]),([1,8,7],[1,8]),([0,1,2,3,4,5,6,7,8,9],[]),([10,9,9,0,1,2,3,4,5,6,7,8,9],[9,10])])
def stowagelaw13_To.B5:List Nat:=[0,1,0,4,0,28,60,124,252,511,1023,2047]
theorem stowagelaw13_To.tab5:rtab .any (opsOf Tryd.f13 5)=stowagelaw13_To.T5:=by kernel_rfl
theorem stowagelaw13_To.bits5:waitsOk stowagelaw13_To.T5.2 stowagelaw13_To.B5=true:=by kernel_rfl
theorem stowagelaw13_To.calls (k:Nat):∀ (a0_0:ByteArray) (a0_1:ByteArray) (A0_2:Option Addr) (c0_2:Nat) (l0_2:List (S24)) (r1:ByteArray) (r2:ByteArray) (r3:List (S30)) (w:World) (hr0_2:Kd.C k24 w A0_2 l0_2.length l0_2) (hc0_2:l0_2.length≤c0_2) (h:stowagelaw13_To.f k a0_0 a0_1 l0_2=some (r1,r2,r3)),
    Calls Tryd.prog 13 #[.agg #[.string a0_0,.string a0_1,.slice A0_2 l0_2.length c0_2]] w fun e w'=>∃ v2_:Value,e = .returned (.agg #[.string r1,.string r2,v2_])∧Kd.R k30 30 w' w.heap.size (fun _=>True) v2_ r3∧Below w.heap.size w w':=by
 induction k using Nat.strongRecOn with
 | _ k ih=>
 intro a0_0 a0_1 A0_2 c0_2 l0_2 r1 r2 r3 w hr0_2 hc0_2 h
 cases k with
 | zero=>exact absurd h (by simp [stowagelaw13_To.f])
 | succ k=>
 simp only [stowagelaw13_To.f] at h
 have hu24:=Tryd.underlying24
 have hu30:=Tryd.underlying30
 have HR0_2:=Aside0.mk hr0_2
 have HC0_2:=Aside0.mk hc0_2
 clear hr0_2 hc0_2
 have HB:=Aside0.mk (Below.refl w.heap.size w)
 have H:(stowagelaw13_To.l0 k 0 a0_0 a0_1 l0_2 a0_0 a0_1 ([]:List (S30)))=some (r1,r2,r3):=h
 clear h
 have H':=Aside0.mk H
 clear H
 go_enter Tryd.func13,Tryd.ntmps13
 go_wp2_with (first|((with_reducible refine gate_dst (N:=1) rfl ?_);refine box_event ?hg (N:=1) ?hd (cs:=#[.string a0_0,.string a0_1,.slice A0_2 l0_2.length c0_2]) (t:=24) ?hr ?_;(case hd=>rfl);(case hg=>rfl);(case hr=>first|(go_simp;done)|(go_simp;rfl));intro gb256 hg w2 hbox hb;have n0_:=Aside0.mk (below_step bl hb);have n1_:=Aside0.mk (hbox);have n2_:=Aside0.mk ((by rw [hg];exact(below_size bl):w.heap.size≤gb256));have n3_:=Aside0.mk ((by rw [hg];exact(below_size bl):w.heap.size≤gb256));clear HB;have HB:=n0_;have BK256:=n1_;have GW256:=n2_;have GE256:=n3_;clear n0_ n1_ n2_ n3_;clear hb hbox hg)|((with_reducible refine gate_dst (N:=2) rfl ?_);refine box_event ?hg (N:=2) ?hd (cs:=#[.string (⟨#[]⟩ : ByteArray),.string (⟨#[]⟩ : ByteArray),.slice none 0 0]) (t:=30) ?hr ?_;(case hd=>rfl);(case hg=>rfl);(case hr=>first|(go_simp;done)|(go_simp;rfl));intro gb257 hg w3 hbox hb;have n0_:=Aside0.mk (blk_below (g:=gb256) (o:=.cells #[.string a0_0,.string a0_1,.slice A0_2 l0_2.length c0_2] 24 (0,0)) kl hb);have n1_:=Aside0.mk (below_step bl hb);have n2_:=Aside0.mk (hbox);have n3_:=Aside0.mk ((by rw [hg];exact(below_size bl):w.heap.size≤gb257));have n4_:=Aside0.mk ((by rw [hg];exact(below_size bl):w.heap.size≤gb257));have n5_:=Aside0.mk ((by rw [hg];exact Nat.ne_of_lt (blk_lt (g:=gb256) (o:=.cells #[.string a0_0,.string a0_1,.slice A0_2 l0_2.length c0_2] 24 (0,0)) kl):gb256≠gb257));have n6_:=Aside0.mk ((by rw [hg];exact Nat.ne_of_gt (blk_lt (g:=gb256) (o:=.cells #[.string a0_0,.string a0_1,.slice A0_2 l0_2.length c0_2] 24 (0,0)) kl):gb257≠gb256));clear BK256;clear HB;have BK256:=n0_;have HB:=n1_;have BK257:=n2_;have GW257:=n3_;have GE257:=n4_;have NB256_257:=n5_;have NB257_256:=n6_;clear n0_ n1_ n2_ n3_ n4_ n5_ n6_;clear hb hbox hg;have hnb4:=NB256_257.out;have hnc4:=NB257_256.out;obtain⟨_,_,_,_,_,_⟩:=bc3 BK256.out)|((with_reducible refine gate_dst (N:=3) rfl ?_);refine box_event ?hg (N:=3) ?hd (cs:=#[.string (⟨#[]⟩ : ByteArray),.string (⟨#[]⟩ : ByteArray),.slice none 0 0]) (t:=30) ?hr ?_;(case hd=>rfl);(case hg=>rfl);(case hr=>first|(go_simp;done)|(go_simp;rfl));intro gb258 hg w6 hbox hb;have n0_:=Aside0.mk (blk_below (g:=gb256) (o:=.cells #[.string a0_0,.string a0_1,.slice A0_2 l0_2.length c0_2] 24 (0,0)) kl hb);have n1_:=Aside0.mk (blk_below (g:=gb257) (o:=.cells #[.string (⟨#[]⟩ : ByteArray),.string (⟨#[]⟩ : ByteArray),.slice none 0 0] 30 (0,0)) kl hb);have n2_:=Aside0.mk (below_step bl hb);have n3_:=Aside0.mk (hbox);have n4_:=Aside0.mk ((by rw [hg];exact(below_size bl):w.heap.size≤gb258));have n5_:=Aside0.mk ((by rw [hg];exact(below_size bl):w.heap.size≤gb258));have n6_:=Aside0.mk ((by rw [hg];exact Nat.ne_of_lt (blk_lt (g:=gb256) (o:=.cells #[.string a0_0,.string a0_1,.slice A0_2 l0_2.length c0_2] 24 (0,0)) kl):gb256≠gb258));have n7_:=Aside0.mk ((by rw [hg];exact Nat.ne_of_gt (blk_lt (g:=gb256) (o:=.cells #[.string a0_0,.string a0_1,.slice A0_2 l0_2.length c0_2] 24 (0,0)) kl):gb258≠gb256));have n8_:=Aside0.mk ((by rw [hg];exact Nat.ne_of_lt (blk_lt (g:=gb257) (o:=.cells #[.string (⟨#[]⟩ : ByteArray),.string (⟨#[]⟩ : ByteArray),.slice none 0 0] 30 (0,0)) kl):gb257≠gb258));have n9_:=Aside0.mk ((by rw [hg];exact Nat.ne_of_gt (blk_lt (g:=gb257) (o:=.cells #[.string (⟨#[]⟩ : ByteArray),.string (⟨#[]⟩ : ByteArray),.slice none 0 0] 30 (0,0)) kl):gb258≠gb257));clear BK256;clear BK257;clear HB;have BK256:=n0_;have BK257:=n1_;have HB:=n2_;have BK258:=n3_;have GW258:=n4_;have GE258:=n5_;have NB256_258:=n6_;have NB258_256:=n7_;have NB257_258:=n8_;have NB258_257:=n9_;clear n0_ n1_ n2_ n3_ n4_ n5_ n6_ n7_ n8_ n9_;clear hb hbox hg;have hnb7:=NB258_256.out;have hnc7:=NB256_258.out;have hnb8:=NB258_257.out;have hnc8:=NB257_258.out;obtain⟨_,_,_,_,_,_⟩:=bc3 BK258.out))
 go_loopg [4] k (fun kq v4 w'=>∃ (x4_1:Int) (x259002_1:List (S30)) (u259002:Value),v4 = .int .i64 x4_1∧Aside0 (stowagelaw13_To.l0 kq x4_1 a0_0 a0_1 l0_2 a0_0 a0_1 x259002_1=some (r1,r2,r3))∧Aside0 (kq≤k)∧Aside0 (Kd.R k30 30 w' w.heap.size (fun k_=>k_≠gb257∧k_≠gb258) u259002 x259002_1)∧Aside0 (w'.heap[gb256]? = some (.cells #[.string a0_0,.string a0_1,(.slice A0_2 l0_2.length c0_2)] 24 (0,0)))∧Aside0 (w'.heap[gb257]? = some (.cells #[.string (⟨#[]⟩ : ByteArray),.string (⟨#[]⟩ : ByteArray),(.slice none 0 0)] 30 (0,0)))∧Aside0 (w'.heap[gb258]? = some (.cells #[.string a0_0,.string a0_1,u259002] 30 (0,0)))∧Aside0 (Below w.heap.size w w'))
 case atStart=>exact⟨(0),(([]:List (S30))),(.slice none 0 0),rs,H',⟨Nat.le_refl _⟩,⟨nl⟩,⟨by(with_reducible repeat (first|refine blk_drewN ?_ _|refine blk_drew ?_|refine blk_alloc ?_ _));refine blk_far ?_ NB256_258.out _;(with_reducible repeat (first|refine blk_drewN ?_ _|refine blk_drew ?_|refine blk_alloc ?_ _));refine blk_far ?_ NB256_258.out _;(with_reducible repeat (first|refine blk_drewN ?_ _|refine blk_drew ?_|refine blk_alloc ?_ _));refine blk_far ?_ NB256_258.out _;(with_reducible repeat (first|refine blk_drewN ?_ _|refine blk_drew ?_|refine blk_alloc ?_ _));exact BK256.out⟩,⟨by(with_reducible repeat (first|refine blk_drewN ?_ _|refine blk_drew ?_|refine blk_alloc ?_ _));refine blk_far ?_ NB257_258.out _;(with_reducible repeat (first|refine blk_drewN ?_ _|refine blk_drew ?_|refine blk_alloc ?_ _));refine blk_far ?_ NB257_258.out _;(with_reducible repeat (first|refine blk_drewN ?_ _|refine blk_drew ?_|refine blk_alloc ?_ _));refine blk_far ?_ NB257_258.out _;(with_reducible repeat (first|refine blk_drewN ?_ _|refine blk_drew ?_|refine blk_alloc ?_ _));exact BK257.out⟩,⟨by(with_reducible repeat (first|refine blk_drewN ?_ _|refine blk_drew ?_|refine blk_alloc ?_ _));refine blk_put (cs:=#[.string a0_0,.string a0_1,.slice none 0 0]) ?_ 2 _ rfl;(with_reducible repeat (first|refine blk_drewN ?_ _|refine blk_drew ?_|refine blk_alloc ?_ _));refine blk_put (cs:=#[.string a0_0,.string (⟨#[]⟩ : ByteArray),.slice none 0 0]) ?_ 1 _ rfl;(with_reducible repeat (first|refine blk_drewN ?_ _|refine blk_drew ?_|refine blk_alloc ?_ _));refine blk_put (cs:=#[.string (⟨#[]⟩ : ByteArray),.string (⟨#[]⟩ : ByteArray),.slice none 0 0]) ?_ 0 _ rfl;(with_reducible repeat (first|refine blk_drewN ?_ _|refine blk_drew ?_|refine blk_alloc ?_ _));exact BK258.out⟩,⟨bl⟩⟩
 case round=>
  clear H'
  obtain⟨x4_1,x259002_1,u259002,rfl,HA,HK1,HO_259002,BK256,BK257,BK258,HB⟩:=hrel
  cases gk with
  | zero=>exact absurd HA.out (by simp [stowagelaw13_To.l0])
  | succ k1=>
   have H:=HA.out
   clear HA
   simp only [stowagelaw13_To.l0] at H
   replace H:=itO H
   rcases H with⟨c10,H⟩|⟨c10,H⟩
   {
   have c10b0:decide (x4_1<(l0_2.length:Int))=true:=decide_eq_true c10
   clear c10
   replace H:=itO H
   rcases H with⟨c11,H⟩|⟨c11,H⟩
   {
   have c11b0:decide (0≤x4_1)=true:=decide_eq_true c11
   clear c11
   replace H:=bndO H
   obtain⟨⟨t260,t261,t262⟩,A120,H⟩:=H
   dsimp only at H
   have A12:=Aside0.mk A120
   clear A120
   replace H:=itO H
   rcases H with⟨c13,H⟩|⟨c13,H⟩
   {
   have LMc13:=Aside0.mk c13
   clear c13
   obtain⟨y265,hy265⟩ : ∃ y_:List (S30),y_=(x259002_1 ++ [(⟨t260,t261,t262⟩ : S30)]):=⟨_,rfl⟩
   replace H:(stowagelaw13_To.l0 k1 (wrap64 (x4_1+1)) a0_0 a0_1 l0_2 a0_0 a0_1 y265)=some (r1,r2,r3):=by first|(rw [hy265];with_reducible exact H)|(have H2_:=(Option.bind_some _ _).symm.trans H;rw [hy265];with_reducible exact H2_)|(have H2_:=(Option.bind_some _ _).symm.trans H;with_reducible exact H2_)|with_reducible exact H|(rw [hy265];exact H)|exact H
   have Ny265:=Aside0.mk hy265
   clear hy265
   have H':=Aside0.mk H
   clear H
   have hnb14:=NB256_257.out
   have hnc14:=NB257_256.out
   have hnb15:=NB256_258.out
   have hnc15:=NB258_256.out
   obtain⟨_,_,_,_,_,_⟩:=bc3 BK256.out
   try go_wp2
   have n0_:=Aside0.mk (Kd.R_drew HO_259002.out)
   have n1_:=Aside0.mk (blk_drew BK256.out)
   have n2_:=Aside0.mk (blk_drew BK257.out)
   have n3_:=Aside0.mk (blk_drew BK258.out)
   have n4_:=Aside0.mk (below_drew1 HB.out)
   clear HO_259002
   clear BK256
   clear BK257
   clear BK258
   clear HB
   have HO_259002:=n0_
   have BK256:=n1_
   have BK257:=n2_
   have BK258:=n3_
   have HB:=n4_
   clear n0_ n1_ n2_ n3_ n4_
   have p259:0≤(x4_1:Int):=of_decide_eq_true asm
   have q259:x4_1<(l0_2.length:Int):=of_decide_eq_true asm
   obtain⟨ad259,A259_2,c259_2,e259,hx259_0,hx259_1,hx259_2,hl259_2,hi259_2⟩:=at_T24 HR0_2.out x4_1 p259 q259
   have hw259_2:=hx259_2
   have hw259_1:=hx259_1
   have hw259_0:=hx259_0
   cases e259
   replace hx259_0:=(HB.out.cell (World.block_lt_of_cell? w _ hx259_0)).trans hx259_0
   replace hx259_1:=(HB.out.cell (World.block_lt_of_cell? w _ hx259_1)).trans hx259_1
   replace hx259_2:=(HB.out.cell (World.block_lt_of_cell? w _ hx259_2)).trans hx259_2
   have HR259_2:=Aside0.mk hi259_2
   have HC259_2:=Aside0.mk hl259_2
   clear hi259_2 hl259_2
   replace p259:=eq_true p259
   replace q259:=eq_true q259
   refine start_ (n:=12) (S:=fun w'=>w'.cell? ⟨gb258,0,none⟩=some (.string a0_0)∧w'.cell? ⟨gb258,1,none⟩=some (.string a0_1)∧w'.cell? ⟨gb258,2,none⟩=some (u259002)∧w'.cell? ⟨gb256,0,none⟩=some (.string a0_0)∧w'.cell? ⟨gb256,1,none⟩=some (.string a0_1)∧w'.cell? ⟨gb256,2,none⟩=some (.slice (some ad259) l0_2.length c0_2)∧w'.cell? (ad259.add ((x4_1).toNat*3))=some (.string ((rd_T24 l0_2 x4_1).f0))∧w'.cell? ⟨(ad259.add ((x4_1).toNat*3)).block,(ad259.add ((x4_1).toNat*3)).off+1,none⟩=some (.string ((rd_T24 l0_2 x4_1).f1))∧w'.cell? ⟨(ad259.add ((x4_1).toNat*3)).block,(ad259.add ((x4_1).toNat*3)).off+2,none⟩=some (.slice A259_2 ((rd_T24 l0_2 x4_1).f2).length c259_2)) (ds:=[11]) #[F,F,F,F,F,F,F,F,F,F,F,F] kr rfl rfl ⟨(blk_cell BK258.out 0).trans rfl,(blk_cell BK258.out 1).trans rfl,(blk_cell BK258.out 2).trans rfl,(blk_cell BK256.out 0).trans rfl,(blk_cell BK256.out 1).trans rfl,(blk_cell BK256.out 2).trans rfl,((HB.out.cell (World.block_lt_of_cell? w _ hw259_0)).trans hw259_0),((HB.out.cell (World.block_lt_of_cell? w _ hw259_1)).trans hw259_1),((HB.out.cell (World.block_lt_of_cell? w _ hw259_2)).trans hw259_2)⟩ (fun hHeld=>?_);refine with_tabW stowagelaw13_To.tab5 stowagelaw13_To.bits5 (fun HT_ HW_=>?_)
   generalize wr.drew=w17 at HO_259002 BK256 BK257 BK258 HB HR259_2 hx259_0 hx259_1 hx259_2 hHeld ⊢
   refine pure_ (i:=0) (N:=some 17) (v:=?_) (a':=?_) #[T,F,F,F,F,F,F,F,F,F,F,F] rfl rfl (any_of HT_.out kr) (fun _ _ _ h=>h) (Or.inl ⟨by rfl,?_⟩) ?_ ?_
   rotate_left
   {
   intro w'
   go_simp
   with_reducible rfl
   }
   rotate_left
   {
   simp only [Act.put,l1,l2,l3,i64_w,i32_w]
   rfl
   }
   refine pure_ (i:=2) (N:=some 19) (v:=?_) (a':=?_) #[T,F,T,F,F,F,F,F,F,F,F,F] rfl rfl (any_of HT_.out kr) (fun _ _ _ h=>h) (Or.inl ⟨by rfl,?_⟩) ?_ ?_
   rotate_left
   {
   intro w'
   go_simp
   with_reducible rfl
   }
   rotate_left
   {
   simp only [Act.put,l1,l2,l3,i64_w,i32_w]
   rfl
   }
   refine pure_ (i:=4) (N:=some 21) (v:=?_) (a':=?_) #[T,F,T,F,T,F,F,F,F,F,F,F] rfl rfl (any_of HT_.out kr) (fun _ _ _ h=>h) (Or.inl ⟨by rfl,?_⟩) ?_ ?_
   rotate_left
   {
   intro w'
   go_simp
   with_reducible rfl
   }
   rotate_left
   {
   simp only [Act.put,l1,l2,l3,i64_w,i32_w]
   rfl
   }
   refine take_ (i:=1) (N:=some 18) (v:=?_) (a':=?_) #[T,T,T,F,T,F,F,F,F,F,F,F] rfl rfl (take_ofW HT_.out HW_.out kr) (fun _ _ _ h=>h) (Or.inl ⟨by rfl,?_⟩) hHeld ?_ ?_
   rotate_left
   {
   rintro w' ⟨s0,s1,s2,s3,s4,s5,s6,s7,s8⟩
   go_simp
   with_reducible rfl
   }
   rotate_left
   {
   simp only [Act.put,l1,l2,l3,i64_w,i32_w]
   rfl
   }
   refine take_ (i:=3) (N:=some 20) (v:=?_) (a':=?_) #[T,T,T,T,T,F,F,F,F,F,F,F] rfl rfl (take_ofW HT_.out HW_.out kr) (fun _ _ _ h=>h) (Or.inl ⟨by rfl,?_⟩) hHeld ?_ ?_
   rotate_left
   {
   rintro w' ⟨s0,s1,s2,s3,s4,s5,s6,s7,s8⟩
   go_simp
   with_reducible rfl
   }
   rotate_left
   {
   simp only [Act.put,l1,l2,l3,i64_w,i32_w]
   rfl
   }
   refine pure_ (i:=5) (N:=some 22) (v:=?_) (a':=?_) #[T,T,T,T,T,T,F,F,F,F,F,F] rfl rfl (any_of HT_.out kr) (fun _ _ _ h=>h) (Or.inl ⟨by rfl,?_⟩) ?_ ?_
   rotate_left
   {
   intro w'
   go_simp
   with_reducible rfl
   }
   rotate_left
   {
   simp only [Act.put,l1,l2,l3,i64_w,i32_w]
   rfl
   }
   refine take_ (i:=6) (N:=some 23) (v:=?_) (a':=?_) #[T,T,T,T,T,T,T,F,F,F,F,F] rfl rfl (take_ofW HT_.out HW_.out kr) (fun _ _ _ h=>h) (Or.inl ⟨by rfl,?_⟩) hHeld ?_ ?_
   rotate_left
   {
   rintro w' ⟨s0,s1,s2,s3,s4,s5,s6,s7,s8⟩
   go_simp
   with_reducible rfl
   }
   rotate_left
   {
   simp only [Act.put,l1,l2,l3,i64_w,i32_w]
   rfl
   }
   refine one_ (i:=7) (N:=some 24) #[T,T,T,T,T,T,T,T,F,F,F,F] rfl rfl (one_of HT_.out kr) (by decide) (fun K hK=>?_)
   refine goes_ Tryd.func13 kr rfl #[.agg #[.string ((rd_T24 l0_2 x4_1).f0),.string ((rd_T24 l0_2 x4_1).f1),.slice A259_2 ((rd_T24 l0_2 x4_1).f2).length c259_2]] (by rfl) rfl rfl am ?_
   with_reducible refine(ih k1 (by have:=HK1.out;omega) ((rd_T24 l0_2 x4_1).f0) ((rd_T24 l0_2 x4_1).f1) _ _ ((rd_T24 l0_2 x4_1).f2) t260 t261 t262 _ ?side1 ?side2 A12.out).mono ?_
   (case side1=>repeat (first|exact(Kd.C_below HR259_2.out HB.out)|(with_reducible refine Kd.C_alloc ?_ _)|(with_reducible refine Kd.C_drewN ?_ _)|(with_reducible refine Kd.C_drew ?_)))
   (case side2=>exact HC259_2.out)
   rintro e w18 ⟨v263,rfl,ho0,hb⟩
   refine⟨_,rfl,?_⟩
   have n0_:=Aside0.mk (Kd.R_elder' rl (by first|exact Kd.R_base ho0|exact Kd.R_base ho0) hb)
   have n1_:=Aside0.mk (Kd.R_lower (Kd.R_newB (Kd.R_newB (Kd.R_new' ho0 (Kd.R_lt rl)) (g:=gb257) (o:=.cells #[.string (⟨#[]⟩ : ByteArray),.string (⟨#[]⟩ : ByteArray),.slice none 0 0] 30 (0,0)) kl) (g:=gb258) (o:=.cells #[.string a0_0,.string a0_1,u259002] 30 (0,0)) kl) (below_size bl))
   have n2_:=Aside0.mk (blk_below (g:=gb256) (o:=.cells #[.string a0_0,.string a0_1,.slice (some ad259) l0_2.length c0_2] 24 (0,0)) kl hb)
   have n3_:=Aside0.mk (blk_below (g:=gb257) (o:=.cells #[.string (⟨#[]⟩ : ByteArray),.string (⟨#[]⟩ : ByteArray),.slice none 0 0] 30 (0,0)) kl hb)
   have n4_:=Aside0.mk (blk_below (g:=gb258) (o:=.cells #[.string a0_0,.string a0_1,u259002] 30 (0,0)) kl hb)
   have n5_:=Aside0.mk (below_step bl hb)
   clear HO_259002
   clear BK256
   clear BK257
   clear BK258
   clear HB
   have HO_259002:=n0_
   have HO264:=n1_
   have BK256:=n2_
   have BK257:=n3_
   have BK258:=n4_
   have HB:=n5_
   clear n0_ n1_ n2_ n3_ n4_ n5_
   (try clear hb)
   (try clear hb2)
   (try clear hk)
   (try clear hi)
   (try clear ho0)
   obtain⟨Ao20,co20,eo20⟩:=Kd.R_slice HO264.out
   (first|subst eo20|(injection eo20 with f1_ f2_ f3_;have f4_:=f1_.symm;have f5_:=f3_.symm;clear f1_ f2_ f3_;subst f4_;subst f5_))
   refine hK.out _ _ ⟨(blk_cell BK258.out 0).trans rfl,(blk_cell BK258.out 1).trans rfl,(blk_cell BK258.out 2).trans rfl,(blk_cell BK256.out 0).trans rfl,(blk_cell BK256.out 1).trans rfl,(blk_cell BK256.out 2).trans rfl,((HB.out.cell (World.block_lt_of_cell? w _ hw259_0)).trans hw259_0),((HB.out.cell (World.block_lt_of_cell? w _ hw259_1)).trans hw259_1),((HB.out.cell (World.block_lt_of_cell? w _ hw259_2)).trans hw259_2)⟩ (fun hHeld=>?_)
   clear hK K
   refine norm_ (a':=?_) ?_ ?_
   rotate_left
   {
   show Act.put _ (some 24) _=_
   simp only [Act.put,l1,l2,l3,i64_w,i32_w]
   rfl
   }
   refine one_ (i:=8) (N:=some 25) #[T,T,T,T,T,T,T,T,T,F,F,F] rfl rfl (one_of HT_.out kr) (by decide) (fun K hK=>?_)
   refine value_ (w1:=?_) (v:=?_) (by rfl) rfl ?_ ?_
   rotate_left 2
   {
   go_simp
   constructor
   ·rfl
   ·rfl
   }
   refine hK.out _ _ ⟨(blk_cell (blk_alloc BK258.out _) 0).trans rfl,(blk_cell (blk_alloc BK258.out _) 1).trans rfl,(blk_cell (blk_alloc BK258.out _) 2).trans rfl,(blk_cell (blk_alloc BK256.out _) 0).trans rfl,(blk_cell (blk_alloc BK256.out _) 1).trans rfl,(blk_cell (blk_alloc BK256.out _) 2).trans rfl,(World.cell?_alloc_lt _ _ _ (World.block_lt_of_cell? _ _ (((HB.out.cell (World.block_lt_of_cell? w _ hw259_0)).trans hw259_0)))).trans (((HB.out.cell (World.block_lt_of_cell? w _ hw259_0)).trans hw259_0)),(World.cell?_alloc_lt _ _ _ (World.block_lt_of_cell? _ _ (((HB.out.cell (World.block_lt_of_cell? w _ hw259_1)).trans hw259_1)))).trans (((HB.out.cell (World.block_lt_of_cell? w _ hw259_1)).trans hw259_1)),(World.cell?_alloc_lt _ _ _ (World.block_lt_of_cell? _ _ (((HB.out.cell (World.block_lt_of_cell? w _ hw259_2)).trans hw259_2)))).trans (((HB.out.cell (World.block_lt_of_cell? w _ hw259_2)).trans hw259_2))⟩ (fun hHeld=>?_)
   clear hK K
   refine norm_ (a':=?_) ?_ ?_
   rotate_left
   {
   show Act.put _ (some 25) _=_
   simp only [Act.put,l1,l2,l3,i64_w,i32_w]
   rfl
   }
   refine one_ (i:=9) (N:=some 26) #[T,T,T,T,T,T,T,T,T,T,F,F] rfl rfl (one_of HT_.out kr) (by decide) (fun K hK=>?_)
   refine Kd.R_append_step k30 (w0:=w) w.heap.size (by rfl) (.tmp 18) (.tmp 25) 28 30 (.agg #[(.string ⟨#[]⟩),(.string ⟨#[]⟩),(.slice none 0 0)]) 56 rfl Tryd.underlying28 info30 rfl (by decide) (by omega) u259002 x259002_1 (⟨t260,t261,t262⟩ : S30) [.string t260,.string t261,.slice Ao20 t262.length co20] (fun k_=>k_≠gb257∧k_≠gb258) (fun k_=>((fun k_=>k_≠gb257∧k_≠gb258)) k_∧some k_≠(u259002:Value).ownBlock) rfl rfl ?aP (fun _ hk=>hk) ?aF ?aO ?aB ?aS ?aL ?_
   (case aP=>exact k30_mkM _ _ _ (⟨t260,t261,t262⟩ : S30) (Kd.R_mono (HO264.out) (fun k_ hk=>⟨⟨hk.1.2,hk.2⟩,hk.1.1.2⟩)))
   (case aB=>exact bl)
   (case aF=>exact(fun k_ hk=>⟨Kd.freshB (g:=gb257) (o:=.cells #[.string (⟨#[]⟩ : ByteArray),.string (⟨#[]⟩ : ByteArray),.slice none 0 0] 30 (0,0)) kl k_ hk,Kd.freshB (g:=gb258) (o:=.cells #[.string a0_0,.string a0_1,u259002] 30 (0,0)) kl k_ hk⟩))
   (case aO=>exact(by(with_reducible repeat (first|apply Kd.R_alloc|apply Kd.R_drewN|apply Kd.R_drew));exact Kd.R_mono HO_259002.out (fun _ hk=>⟨hk.1.1,hk.1.2⟩)))
   (case aS=>exact(below_size bl))
   (case aL=>have:=LMc13.out;omega)
   intro v266 w19 ho hb hg hat
   rw [← Ny265.out] at ho
   have n0_:=Aside0.mk (blk_grown (g:=gb256) (o:=.cells #[.string a0_0,.string a0_1,.slice (some ad259) l0_2.length c0_2] 24 (0,0)) kl hg (Kd.R_ne HO_259002.out BK256.out (by decide)))
   have n1_:=Aside0.mk (blk_grown (g:=gb257) (o:=.cells #[.string (⟨#[]⟩ : ByteArray),.string (⟨#[]⟩ : ByteArray),.slice none 0 0] 30 (0,0)) kl hg (Kd.R_away HO_259002.out (fun _ hk=>hk.1.1)))
   have n2_:=Aside0.mk (blk_grown (g:=gb258) (o:=.cells #[.string a0_0,.string a0_1,u259002] 30 (0,0)) kl hg (Kd.R_away HO_259002.out (fun _ hk=>hk.1.2)))
   have n3_:=Aside0.mk (hb)
   have n4_:=Aside0.mk (ho)
   clear BK256
   clear BK257
   clear BK258
   clear HB
   clear HO_259002
   clear HO264
   have BK256:=n0_
   have BK257:=n1_
   have BK258:=n2_
   have HB:=n3_
   have HO267:=n4_
   clear n0_ n1_ n2_ n3_ n4_
   clear ho hb hg hat
   obtain⟨Ao21,co21,eo21⟩:=Kd.R_slice HO267.out
   (first|subst eo21|(injection eo21 with f1_ f2_ f3_;have f4_:=f1_.symm;have f5_:=f3_.symm;clear f1_ f2_ f3_;subst f4_;subst f5_))
   refine hK.out _ _ ⟨(blk_cell BK258.out 0).trans rfl,(blk_cell BK258.out 1).trans rfl,(blk_cell BK258.out 2).trans rfl,(blk_cell BK256.out 0).trans rfl,(blk_cell BK256.out 1).trans rfl,(blk_cell BK256.out 2).trans rfl,((HB.out.cell (World.block_lt_of_cell? w _ hw259_0)).trans hw259_0),((HB.out.cell (World.block_lt_of_cell? w _ hw259_1)).trans hw259_1),((HB.out.cell (World.block_lt_of_cell? w _ hw259_2)).trans hw259_2)⟩ (fun hHeld=>?_)
   clear hK K
   refine norm_ (a':=?_) ?_ ?_
   rotate_left
   {
   show Act.put _ (some 26) _=_
   simp only [Act.put,l1,l2,l3,i64_w,i32_w]
   rfl
   }
   refine pure_ (i:=10) (N:=some 27) (v:=?_) (a':=?_) #[T,T,T,T,T,T,T,T,T,T,T,F] rfl rfl (any_of HT_.out kr) (fun _ _ _ h=>h) (Or.inl ⟨by rfl,?_⟩) ?_ ?_
   rotate_left
   {
   intro w'
   go_simp
   with_reducible rfl
   }
   rotate_left
   {
   simp only [Act.put,l1,l2,l3,i64_w,i32_w]
   rfl
   }
   refine last_ (i:=11) (N:=none) #[T,T,T,T,T,T,T,T,T,T,T,T] rfl rfl (one_of HT_.out kr) (by decide) (fun K hK=>?_)
   have hs22:w19.cell? ⟨gb258,2,none⟩=some (u259002):=(blk_cell BK258.out 2).trans rfl
   have hfs22:=blk_frozen BK258.out 2
   have hns22_0:=NB256_258.out
   have hns22_1:=NB257_258.out
   have hms22_0:=NB258_256.out
   have hms22_1:=NB258_257.out
   refine skip_ (w1:=?_) (by rfl) rfl ?_ ?_
   rotate_left
   {
   go_simp
   rfl
   }
   refine hK.out _ _ ?_
   clear hK K
   refine done_ (done_of HT_.out kr) ?_
   try go_wp2
   go_roundg k1
   case measure=>have:=HK1.out;omega
   case rel=>exact⟨(wrap64 (x4_1+1)),(y265),(.slice Ao21 y265.length co21),rs,H',⟨by have:=HK1.out;omega⟩,⟨by(with_reducible repeat (first|apply Kd.R_alloc|apply Kd.R_drewN|apply Kd.R_drew));exact Kd.R_mono (Kd.R_far (p:=⟨gb258,2,none⟩) (Kd.R_mono HO267.out (fun k_ hk=>(⟨hk,hk.2⟩ : _∧k_≠gb258))) (fun _ hk=>hk.2) (.slice Ao21 y265.length co21)) (fun _ hk=>⟨hk.1.1,hk.1.2⟩)⟩,⟨by(with_reducible repeat (first|refine blk_drewN ?_ _|refine blk_drew ?_|refine blk_alloc ?_ _));refine blk_far ?_ NB256_258.out _;(with_reducible repeat (first|refine blk_drewN ?_ _|refine blk_drew ?_|refine blk_alloc ?_ _));exact BK256.out⟩,⟨by(with_reducible repeat (first|refine blk_drewN ?_ _|refine blk_drew ?_|refine blk_alloc ?_ _));refine blk_far ?_ NB257_258.out _;(with_reducible repeat (first|refine blk_drewN ?_ _|refine blk_drew ?_|refine blk_alloc ?_ _));exact BK257.out⟩,⟨by(with_reducible repeat (first|refine blk_drewN ?_ _|refine blk_drew ?_|refine blk_alloc ?_ _));refine blk_put (cs:=#[.string a0_0,.string a0_1,u259002]) ?_ 2 _ rfl;(with_reducible repeat (first|refine blk_drewN ?_ _|refine blk_drew ?_|refine blk_alloc ?_ _));exact BK258.out⟩,⟨bl⟩⟩
   }
   ·exact absurd H (by simp)
   }
   ·exact absurd H (by simp)
   }
   {
   have c10b0:decide (x4_1<(l0_2.length:Int))=false:=decide_eq_false c10
   clear c10
   simp only [Option.some.injEq,Prod.mk.injEq] at H
   obtain⟨rfl,rfl,rfl⟩:=H
   have hnb23:=NB256_257.out
   have hnc23:=NB257_256.out
   have hnb24:=NB256_258.out
   have hnc24:=NB258_256.out
   obtain⟨_,_,_,_,_,_⟩:=bc3 BK256.out
   have hnb26:=NB258_257.out
   have hnc26:=NB257_258.out
   obtain⟨_,_,_,_,_,_⟩:=bc3 BK258.out
   obtain⟨_,_,_,_,_,_⟩:=bc3 BK257.out
   obtain⟨Ao29,co29,eo29⟩:=Kd.R_slice HO_259002.out
   subst eo29
   go_wp2
   refine bodyPost_ret (results_cell_row rfl _ _ gb257 30 #[.string a0_0,.string a0_1,.slice Ao29 x259002_1.length co29] (0,0) _ rfl (by(with_reducible repeat (first|refine blk_drewN ?_ _|refine blk_drew ?_|refine blk_alloc ?_ _));refine blk_put (cs:=#[.string a0_0,.string a0_1,.slice none 0 0]) ?_ 2 _ rfl;(with_reducible repeat (first|refine blk_drewN ?_ _|refine blk_drew ?_|refine blk_alloc ?_ _));refine blk_put (cs:=#[.string a0_0,.string (⟨#[]⟩ : ByteArray),.slice none 0 0]) ?_ 1 _ rfl;(with_reducible repeat (first|refine blk_drewN ?_ _|refine blk_drew ?_|refine blk_alloc ?_ _));refine blk_put (cs:=#[.string (⟨#[]⟩ : ByteArray),.string (⟨#[]⟩ : ByteArray),.slice none 0 0]) ?_ 0 _ rfl;(with_reducible repeat (first|refine blk_drewN ?_ _|refine blk_drew ?_|refine blk_alloc ?_ _));exact BK257.out) Tryd.underlying30 rfl kr) rfl ?_
   exact⟨_,ew,by(with_reducible repeat (first|apply Kd.R_alloc|apply Kd.R_drewN|apply Kd.R_drew));exact Kd.R_mono (Kd.R_far (p:=⟨gb257,2,none⟩) (Kd.R_far (p:=⟨gb257,1,none⟩) (Kd.R_far (p:=⟨gb257,0,none⟩) (Kd.R_mono HO_259002.out (fun k_ hk=>(⟨hk,hk.1⟩ : _∧k_≠gb257))) (fun _ hk=>hk.2) (.string a0_0)) (fun _ hk=>hk.2) (.string a0_1)) (fun _ hk=>hk.2) (.slice Ao29 x259002_1.length co29)) (fun _ hk=>trivial),bl⟩
   }
mutual
def stowagelaw13_Deep.l0:Nat→Int→Int→Int→ByteArray→ByteArray→List (S24)→Option (Int)
 | 0,_,_,_,_,_,_=>none
 | k+1,x1,x5,x6,x276000,x276001,x276002=>if x6<(x276002.length:Int) then(if x1>0 then(if 0≤x6 then((stowagelaw13_Deep.f k ((rd_T24 x276002 x6).f0) ((rd_T24 x276002 x6).f1) ((rd_T24 x276002 x6).f2) (wrap64 (x1-1))).bind fun t277=>(stowagelaw13_Deep.l0 k x1 (mx x5 t277) (wrap64 (x6+1)) x276000 x276001 x276002)) else(none)) else(some (wrap64 (x5+1)))) else(some (wrap64 (x5+1)))
def stowagelaw13_Deep.f:Nat→ByteArray→ByteArray→List (S24)→Int→Option (Int)
 | 0,_,_,_,_=>none
 | k+1,a0_0,a0_1,l0_2,a1=>stowagelaw13_Deep.l0 k a1 0 0 a0_0 a0_1 l0_2
end
theorem stowagelaw13_Deep.mono_l:∀ k,(∀ y0 y1 y2 y3,LeO (stowagelaw13_Deep.f k y0 y1 y2 y3) (stowagelaw13_Deep.f (k+1) y0 y1 y2 y3))∧(∀ y0 y1 y2 y3 y4 y5,LeO (stowagelaw13_Deep.l0 k y0 y1 y2 y3 y4 y5) (stowagelaw13_Deep.l0 (k+1) y0 y1 y2 y3 y4 y5))
 | 0=>⟨fun _ _ _ _ r h=>by simp [stowagelaw13_Deep.f] at h,fun _ _ _ _ _ _ r h=>by simp [stowagelaw13_Deep.l0] at h⟩
 | k+1=>by
  obtain⟨ih0,ih1⟩:=stowagelaw13_Deep.mono_l k
  refine⟨?_,?_⟩
  ·intro y0 y1 y2 y3
   unfold stowagelaw13_Deep.f
   repeat' first
   | (with_reducible exact ih0 _ _ _ _)
   | (with_reducible exact ih1 _ _ _ _ _ _)
   | (with_reducible exact LeO.refl _)
   | (with_reducible exact LeO.none _)
   | (with_reducible refine LeO.ite ?_ ?_)
   | (with_reducible refine LeO.bind ?_ (fun _=>?_))
   | exact ih0 _ _ _ _
   | exact ih1 _ _ _ _ _ _
   | exact LeO.none _
   | refine LeO.ite ?_ ?_
   | refine LeO.bind ?_ (fun _=>?_)
  ·intro y0 y1 y2 y3 y4 y5
   unfold stowagelaw13_Deep.l0
   repeat' first
   | (with_reducible exact ih0 _ _ _ _)
   | (with_reducible exact ih1 _ _ _ _ _ _)
   | (with_reducible exact LeO.refl _)
   | (with_reducible exact LeO.none _)
   | (with_reducible refine LeO.ite ?_ ?_)
   | (with_reducible refine LeO.bind ?_ (fun _=>?_))
   | exact ih0 _ _ _ _
   | exact ih1 _ _ _ _ _ _
   | exact LeO.none _
   | refine LeO.ite ?_ ?_
   | refine LeO.bind ?_ (fun _=>?_)
theorem stowagelaw13_Deep.mono:∀ a0 a1 a2 a3 k,LeO (stowagelaw13_Deep.f k a0 a1 a2 a3) (stowagelaw13_Deep.f (k+1) a0 a1 a2 a3):=by
 intro a0 a1 a2 a3 k
 obtain⟨ih0,ih1⟩:=stowagelaw13_Deep.mono_l k
 exact ih0 a0 a1 a2 a3
theorem stowagelaw13_Deep.calls (k:Nat):∀ (a0_0:ByteArray) (a0_1:ByteArray) (A0_2:Option Addr) (c0_2:Nat) (l0_2:List (S24)) (a1:Int) (r:Int) (w:World) (hr0_2:Kd.C k24 w A0_2 l0_2.length l0_2) (hc0_2:l0_2.length≤c0_2) (h:stowagelaw13_Deep.f k a0_0 a0_1 l0_2 a1=some r),
  Calls Tryd.prog 21 #[.agg #[.string a0_0,.string a0_1,.slice A0_2 l0_2.length c0_2],.int .i64 a1] w fun e w'=>e = .returned (.int .i64 r)∧Below w.heap.size w w':=by
 induction k using Nat.strongRecOn with
 | _ k ih=>
 intro a0_0 a0_1 A0_2 c0_2 l0_2 a1 r w hr0_2 hc0_2 h
 cases k with
 | zero=>exact absurd h (by simp [stowagelaw13_Deep.f])
 | succ k=>
 simp only [stowagelaw13_Deep.f] at h
 have hu24:=Tryd.underlying24
 have HR0_2:=Aside0.mk hr0_2
 have HC0_2:=Aside0.mk hc0_2
 clear hr0_2 hc0_2
 have HB:=Aside0.mk (Below.refl w.heap.size w)
 have H:(stowagelaw13_Deep.l0 k a1 0 0 a0_0 a0_1 l0_2)=some r:=h
 clear h
 have H':=Aside0.mk H
 clear H
 go_enter Tryd.func21,Tryd.ntmps21
 go_wp2_with (first|((with_reducible refine gate_dst (N:=2) rfl ?_);refine box_event ?hg (N:=2) ?hd (cs:=#[.string a0_0,.string a0_1,.slice A0_2 l0_2.length c0_2]) (t:=24) ?hr ?_;(case hd=>rfl);(case hg=>rfl);(case hr=>first|(go_simp;done)|(go_simp;rfl));intro gb275 hg w3 hbox hb;have n0_:=Aside0.mk (below_step (by repeat (first|(with_reducible first|exact HB.out|apply below_alloc|apply pw_below_drewN|apply below_drew1)|exact HB.out)) hb);have n1_:=Aside0.mk (hbox);have n2_:=Aside0.mk ((by rw [hg];exact(below_size (by repeat (first|(with_reducible first|exact HB.out|apply below_alloc|apply pw_below_drewN|apply below_drew1)|exact HB.out))):w.heap.size≤gb275));have n3_:=Aside0.mk ((by rw [hg];exact(below_size (by repeat (first|(with_reducible first|exact HB.out|apply below_alloc|apply pw_below_drewN|apply below_drew1)|exact HB.out))):w.heap.size≤gb275));clear HB;have HB:=n0_;have BK275:=n1_;have GW275:=n2_;have GE275:=n3_;clear n0_ n1_ n2_ n3_;clear hb hbox hg))
 go_loopg [5,6] k (fun kq v5 v6 w'=>∃ (x5_1:Int) (x6_1:Int),v5 = .int .i64 x5_1∧v6 = .int .i64 x6_1∧Aside0 (stowagelaw13_Deep.l0 kq a1 x5_1 x6_1 a0_0 a0_1 l0_2=some r)∧Aside0 (kq≤k)∧Aside0 (w'.heap[gb275]? = some (.cells #[.string a0_0,.string a0_1,(.slice A0_2 l0_2.length c0_2)] 24 (0,0)))∧Aside0 (Below w.heap.size w w'))
 case atStart=>exact⟨(0),(0),(by first|rfl|(simp;done)|(simp [*];done)),(by first|rfl|(simp;done)|(simp [*];done)),H',⟨Nat.le_refl _⟩,⟨by(with_reducible repeat (first|refine blk_drewN ?_ _|refine blk_drew ?_|refine blk_alloc ?_ _));exact BK275.out⟩,⟨by repeat (first|(with_reducible first|exact HB.out|apply below_alloc|apply pw_below_drewN|apply below_drew1|refine below_set ?_ GE275.out)|exact HB.out)⟩⟩
 case round=>
  clear H'
  try clear c2
  try clear p2
  obtain⟨x5_1,x6_1,rfl,rfl,HA,HK1,BK275,HB⟩:=hrel
  cases gk with
  | zero=>exact absurd HA.out (by simp [stowagelaw13_Deep.l0])
  | succ k1=>
   have H:=HA.out
   clear HA
   simp only [stowagelaw13_Deep.l0] at H
   replace H:=itO H
   rcases H with⟨c4,H⟩|⟨c4,H⟩
   ·skip
    have c4b0:decide (x6_1<(l0_2.length:Int))=true:=decide_eq_true c4
    clear c4
    replace H:=itO H
    rcases H with⟨c5,H⟩|⟨c5,H⟩
    ·skip
     have c5b0:decide (0<a1)=true:=decide_eq_true c5
     clear c5
     replace H:=itO H
     rcases H with⟨c6,H⟩|⟨c6,H⟩
     ·skip
      have c6b0:decide (0≤x6_1)=true:=decide_eq_true c6
      clear c6
      replace H:=bndO H
      obtain⟨t277,A70,H⟩:=H
      have A7:=Aside0.mk A70
      clear A70
      obtain⟨ji8,hji8⟩ : ∃ j_:Int,(mx x5_1 t277)=j_:=⟨_,rfl⟩
      first|rw [hji8] at H|simp only [hji8] at H
      (try rw [hji8] at A7)
      have hji8_:(if x5_1<t277 then t277 else x5_1)=ji8:=hji8
      have H':=Aside0.mk H
      clear H
      have hcz9_0:wr.cell? ⟨gb275,0,none⟩=some (.string a0_0):=(blk_cell BK275.out 0).trans rfl
      have hcz9_1:wr.cell? ⟨gb275,1,none⟩=some (.string a0_1):=(blk_cell BK275.out 1).trans rfl
      have hcz9_2:wr.cell? ⟨gb275,2,none⟩=some (.slice A0_2 l0_2.length c0_2):=(blk_cell BK275.out 2).trans rfl
      have hfz9_0:=blk_frozen BK275.out 0
      have hfz9_1:=blk_frozen BK275.out 1
      have hfz9_2:=blk_frozen BK275.out 2
      have p276:0≤(x6_1:Int):=of_decide_eq_true (by first|(with_reducible assumption)|assumption)
      have q276:x6_1<(l0_2.length:Int):=of_decide_eq_true (by first|(with_reducible assumption)|assumption)
      obtain⟨ad276,A276_2,c276_2,e276,hx276_0,hx276_1,hx276_2,hl276_2,hi276_2⟩:=at_T24 HR0_2.out x6_1 p276 q276
      cases e276
      replace hx276_0:=(HB.out.cell (World.block_lt_of_cell? w _ hx276_0)).trans hx276_0
      replace hx276_1:=(HB.out.cell (World.block_lt_of_cell? w _ hx276_1)).trans hx276_1
      replace hx276_2:=(HB.out.cell (World.block_lt_of_cell? w _ hx276_2)).trans hx276_2
      have HR276_2:=Aside0.mk hi276_2
      have HC276_2:=Aside0.mk hl276_2
      clear hi276_2 hl276_2
      replace p276:=eq_true p276
      replace q276:=eq_true q276
      go_wp2_with (first|((with_reducible refine gate_callee (f:=21) rfl ?_);refine goesL_ (some 26) rfl rfl Tryd.func21 (by kernel_rfl) rfl #[.agg #[.string ((rd_T24 l0_2 x6_1).f0),.string ((rd_T24 l0_2 x6_1).f1),.slice A276_2 ((rd_T24 l0_2 x6_1).f2).length c276_2],.int .i64 (wrap64 (a1-1))] rfl (by(try simp only [List.map_toArray,List.map_cons,List.map_nil]);first|done|rfl|(simp only [List.length_drop,List.length_take];rfl)) ?_;(with_reducible refine(ih k1 (by have:=HK1.out;omega) ((rd_T24 l0_2 x6_1).f0) ((rd_T24 l0_2 x6_1).f1) _ _ ((rd_T24 l0_2 x6_1).f2) (wrap64 (a1-1)) t277 _ ?side1 ?side2 A7.out).mono ?_);(case side1=>repeat (first|exact(Kd.C_below HR276_2.out HB.out)|(with_reducible refine Kd.C_alloc ?_ _)|(with_reducible refine Kd.C_drewN ?_ _)|(with_reducible refine Kd.C_drew ?_)));(case side2=>exact HC276_2.out);rintro e w10 ⟨rfl,hb⟩;refine⟨_,rfl,?_⟩;have n0_:=Aside0.mk (blk_below (g:=gb275) (o:=.cells #[.string a0_0,.string a0_1,.slice (some ad276) l0_2.length c0_2] 24 (0,0)) (by(with_reducible repeat (first|refine blk_drewN ?_ _|refine blk_drew ?_|refine blk_alloc ?_ _));exact BK275.out) hb);have n1_:=Aside0.mk (below_step (by repeat (first|(with_reducible first|exact HB.out|apply below_alloc|apply pw_below_drewN|apply below_drew1|refine below_set ?_ GE275.out)|exact HB.out)) hb);clear BK275;clear HB;have BK275:=n0_;have HB:=n1_;clear n0_ n1_;(try clear hb);(try clear hb2);(try clear hk);(try clear hi)))
      go_roundg k1
      case measure=>have:=HK1.out;omega
      case rel=>exact⟨(ji8),(wrap64 (x6_1+1)),(by first|rfl|(simp;done)|(simp only [← hji8] <;> (first|rfl|simp))|(simp [*];done)),(by first|rfl|(simp;done)|(simp [*];done)),H',⟨by have:=HK1.out;omega⟩,⟨by(with_reducible repeat (first|refine blk_drewN ?_ _|refine blk_drew ?_|refine blk_alloc ?_ _));exact BK275.out⟩,⟨by repeat (first|(with_reducible first|exact HB.out|apply below_alloc|apply pw_below_drewN|apply below_drew1|refine below_set ?_ GE275.out)|exact HB.out)⟩⟩
     ·exact absurd H (by simp)
    ·skip
     have c5b0:decide (0<a1)=false:=decide_eq_false c5
     clear c5
     obtain rfl:=Option.some.inj H
     have hcz11_0:wr.cell? ⟨gb275,0,none⟩=some (.string a0_0):=(blk_cell BK275.out 0).trans rfl
     have hcz11_1:wr.cell? ⟨gb275,1,none⟩=some (.string a0_1):=(blk_cell BK275.out 1).trans rfl
     have hcz11_2:wr.cell? ⟨gb275,2,none⟩=some (.slice A0_2 l0_2.length c0_2):=(blk_cell BK275.out 2).trans rfl
     have hfz11_0:=blk_frozen BK275.out 0
     have hfz11_1:=blk_frozen BK275.out 1
     have hfz11_2:=blk_frozen BK275.out 2
     go_wp2
     go_ret
     exact⟨by first|rfl|(simp [errW_none,errW_some] <;> rfl)|(simp [*,errW_none,errW_some] <;> rfl),by repeat (first|(with_reducible first|exact HB.out|apply below_alloc|apply pw_below_drewN|apply below_drew1|refine below_set ?_ GE275.out)|exact HB.out)⟩
   ·skip
    have c4b0:decide (x6_1<(l0_2.length:Int))=false:=decide_eq_false c4
    clear c4
    obtain rfl:=Option.some.inj H
    have hcz12_0:wr.cell? ⟨gb275,0,none⟩=some (.string a0_0):=(blk_cell BK275.out 0).trans rfl
    have hcz12_1:wr.cell? ⟨gb275,1,none⟩=some (.string a0_1):=(blk_cell BK275.out 1).trans rfl
    have hcz12_2:wr.cell? ⟨gb275,2,none⟩=some (.slice A0_2 l0_2.length c0_2):=(blk_cell BK275.out 2).trans rfl
    have hfz12_0:=blk_frozen BK275.out 0
    have hfz12_1:=blk_frozen BK275.out 1
    have hfz12_2:=blk_frozen BK275.out 2
    go_wp2
    go_ret
    exact⟨by first|rfl|(simp [errW_none,errW_some] <;> rfl)|(simp [*,errW_none,errW_some] <;> rfl),by repeat (first|(with_reducible first|exact HB.out|apply below_alloc|apply pw_below_drewN|apply below_drew1|refine below_set ?_ GE275.out)|exact HB.out)⟩
mutual
def xml_copied.l0:Nat→List (S24)→List (S24)→Int→Int→ByteArray→ByteArray→List (S24)→Option (ByteArray×ByteArray×(List (S24)))
  | 0,_,_,_,_,_,_,_=>none
  | k+1,x3,x7,x8,x9,x292000,x292001,x292002=>if x9<x8 then(if 0≤x9 then(if x9<(x7.length:Int) then((xml_copied.f k ((rd_T24 x7 x9).f0) ((rd_T24 x7 x9).f1) ((rd_T24 x7 x9).f2)).bind fun bt295=>(if x3.length<2513169434916 then(xml_copied.l0 k (x3 ++ [(⟨bt295.1,bt295.2.1,bt295.2.2⟩ : S24)]) x7 x8 (wrap64 (x9+1)) x292000 x292001 x292002) else(none))) else(none)) else(none)) else(if 0≤(x3.length:Int) then(if(x3.length:Int)≤(x3.length:Int) then(some (x292000,x292001,(x3.take ((x3.length:Int):Int).toNat))) else(none)) else(none))
def xml_copied.f:Nat→ByteArray→ByteArray→List (S24)→Option (ByteArray×ByteArray×(List (S24)))
  | 0,_,_,_=>none
  | k+1,a0_0,a0_1,l0_2=>xml_copied.l0 k ([]:List (S24)) l0_2 (l0_2.length:Int) 0 a0_0 a0_1 l0_2
end
theorem xml_copied.mono_l:∀ k,(∀ y0 y1 y2,LeO (xml_copied.f k y0 y1 y2) (xml_copied.f (k+1) y0 y1 y2))∧(∀ y0 y1 y2 y3 y4 y5 y6,LeO (xml_copied.l0 k y0 y1 y2 y3 y4 y5 y6) (xml_copied.l0 (k+1) y0 y1 y2 y3 y4 y5 y6))
  | 0=>⟨fun _ _ _ r h=>by simp [xml_copied.f] at h,fun _ _ _ _ _ _ _ r h=>by simp [xml_copied.l0] at h⟩
  | k+1=>by
    obtain⟨ih0,ih1⟩:=xml_copied.mono_l k
    refine⟨?_,?_⟩
    · intro y0 y1 y2
      unfold xml_copied.f
      with_reducible repeat' first|exact ih0 _ _ _|exact ih1 _ _ _ _ _ _ _|exact LeO.refl _|exact LeO.none _|refine LeO.ite ?_ ?_|refine LeO.bind ?_ (fun _=>?_)
    · intro y0 y1 y2 y3 y4 y5 y6
      unfold xml_copied.l0
      with_reducible repeat' first|exact ih0 _ _ _|exact ih1 _ _ _ _ _ _ _|exact LeO.refl _|exact LeO.none _|refine LeO.ite ?_ ?_|refine LeO.bind ?_ (fun _=>?_)
theorem xml_copied.mono:∀ a0 a1 a2 k,LeO (xml_copied.f k a0 a1 a2) (xml_copied.f (k+1) a0 a1 a2):=by
 intro a0 a1 a2 k
 obtain⟨ih0,ih1⟩:=xml_copied.mono_l k
 exact ih0 a0 a1 a2
theorem xml_copied.calls (k:Nat):∀ (a0_0:ByteArray) (a0_1:ByteArray) (A0_2:Option Addr) (c0_2:Nat) (l0_2:List (S24)) (r1:ByteArray) (r2:ByteArray) (r3:List (S24)) (w:World) (hr0_2:Kd.C k24 w A0_2 l0_2.length l0_2) (hc0_2:l0_2.length≤c0_2) (h:xml_copied.f k a0_0 a0_1 l0_2=some (r1,r2,r3)),
    Calls Tryd.prog 52 #[.agg #[.string a0_0,.string a0_1,.slice A0_2 l0_2.length c0_2]] w fun e w'=>∃ v2_:Value,e = .returned (.agg #[.string r1,.string r2,v2_])∧Kd.V k24 24 w' w.heap.size (fun k_=>(w.heap.size≤k_)) v2_ r3∧Below w.heap.size w w':=by
 induction k using Nat.strongRecOn with
 | _ k ih=>
 intro a0_0 a0_1 A0_2 c0_2 l0_2 r1 r2 r3 w hr0_2 hc0_2 h
 cases k with
 | zero=>exact absurd h (by simp [xml_copied.f])
 | succ k=>
 simp only [xml_copied.f] at h
 have hu24:=Tryd.underlying24
 have HR0_2:=Aside0.mk hr0_2
 have HC0_2:=Aside0.mk hc0_2
 clear hr0_2 hc0_2
 have HB:=Aside0.mk (Below.refl w.heap.size w)
 have H:(xml_copied.l0 k ([]:List (S24)) l0_2 (l0_2.length:Int) 0 a0_0 a0_1 l0_2)=some (r1,r2,r3):=h
 clear h
 have H':=Aside0.mk H
 clear H
 go_enter Tryd.func52,Tryd.ntmps52
 go_wp2_with (first|((with_reducible refine gate_dst (N:=1) rfl ?_);refine box_event ?hg (N:=1) ?hd (cs:=#[.string a0_0,.string a0_1,.slice A0_2 l0_2.length c0_2]) (t:=24) ?hr ?_;(case hd=>rfl);(case hg=>rfl);(case hr=>first|(go_simp;done)|(go_simp;rfl));intro gb291 hg w2 hbox hb;have n0_:=Aside0.mk (below_step bl hb);have n1_:=Aside0.mk (hbox);have n2_:=Aside0.mk ((by rw [hg];exact(below_size bl):w.heap.size≤gb291));have n3_:=Aside0.mk ((by rw [hg];exact(below_size bl):w.heap.size≤gb291));clear HB;have HB:=n0_;have BK291:=n1_;have GW291:=n2_;have GE291:=n3_;clear n0_ n1_ n2_ n3_;clear hb hbox hg)|((with_reducible refine gate_dst (N:=2) rfl ?_);refine box_event ?hg (N:=2) ?hd (cs:=#[.string (⟨#[]⟩ : ByteArray),.string (⟨#[]⟩ : ByteArray),.slice none 0 0]) (t:=24) ?hr ?_;(case hd=>rfl);(case hg=>rfl);(case hr=>first|(go_simp;done)|(go_simp;rfl));intro gb292 hg w3 hbox hb;have n0_:=Aside0.mk (blk_below (g:=gb291) (o:=.cells #[.string a0_0,.string a0_1,.slice A0_2 l0_2.length c0_2] 24 (0,0)) kl hb);have n1_:=Aside0.mk (below_step bl hb);have n2_:=Aside0.mk (hbox);have n3_:=Aside0.mk ((by rw [hg];exact(below_size bl):w.heap.size≤gb292));have n4_:=Aside0.mk ((by rw [hg];exact(below_size bl):w.heap.size≤gb292));have n5_:=Aside0.mk ((by rw [hg];exact Nat.ne_of_lt (blk_lt (g:=gb291) (o:=.cells #[.string a0_0,.string a0_1,.slice A0_2 l0_2.length c0_2] 24 (0,0)) kl):gb291≠gb292));have n6_:=Aside0.mk ((by rw [hg];exact Nat.ne_of_gt (blk_lt (g:=gb291) (o:=.cells #[.string a0_0,.string a0_1,.slice A0_2 l0_2.length c0_2] 24 (0,0)) kl):gb292≠gb291));clear BK291;clear HB;have BK291:=n0_;have HB:=n1_;have BK292:=n2_;have GW292:=n3_;have GE292:=n4_;have NB291_292:=n5_;have NB292_291:=n6_;clear n0_ n1_ n2_ n3_ n4_ n5_ n6_;clear hb hbox hg;have hnb4:=NB291_292.out;have hnc4:=NB292_291.out;obtain⟨_,_,_,_,_,_⟩:=bc3 BK291.out))
 go_loopg [3,9] k (fun kq v3 v9 w'=>∃ (x3_1:List (S24)) (x9_1:Int),v9 = .int .i64 x9_1∧Aside0 (xml_copied.l0 kq x3_1 l0_2 (l0_2.length:Int) x9_1 a0_0 a0_1 l0_2=some (r1,r2,r3))∧Aside0 (kq≤k)∧Aside0 (Kd.N k24 24 w' w.heap.size (fun k_=>(w.heap.size≤k_)∧k_≠gb291∧k_≠gb292) v3 x3_1)∧Aside0 (w'.heap[gb291]? = some (.cells #[.string a0_0,.string a0_1,(.slice A0_2 l0_2.length c0_2)] 24 (0,0)))∧Aside0 (w'.heap[gb292]? = some (.cells #[.string (⟨#[]⟩ : ByteArray),.string (⟨#[]⟩ : ByteArray),(.slice none 0 0)] 24 (0,0)))∧Aside0 (Below w.heap.size w w'))
 case atStart=>exact⟨(([]:List (S24))),(0),rs,H',⟨Nat.le_refl _⟩,⟨nl⟩,⟨kl⟩,⟨kl⟩,⟨bl⟩⟩
 case round=>
  clear H'
  obtain⟨x3_1,x9_1,rfl,HA,HK1,HO_3,BK291,BK292,HB⟩:=hrel
  cases gk with
  | zero=>exact absurd HA.out (by simp [xml_copied.l0])
  | succ k1=>
   have H:=HA.out
   clear HA
   simp only [xml_copied.l0] at H
   replace H:=itO H
   rcases H with⟨c6,H⟩|⟨c6,H⟩
   {
   have c6b0:decide (x9_1<(l0_2.length:Int))=true:=decide_eq_true c6
   clear c6
   replace H:=itO H
   rcases H with⟨c7,H⟩|⟨c7,H⟩
   {
   have c7b0:decide (0≤x9_1)=true:=decide_eq_true c7
   clear c7
   replace H:=itO H
   rcases H with⟨c8,H⟩|⟨c8,H⟩
   {
   have c8b0:decide (x9_1<(l0_2.length:Int))=true:=decide_eq_true c8
   clear c8
   replace H:=bndO H
   obtain⟨⟨t295,t296,t297⟩,A90,H⟩:=H
   dsimp only at H
   have A9:=Aside0.mk A90
   clear A90
   replace H:=itO H
   rcases H with⟨c10,H⟩|⟨c10,H⟩
   {
   have LMc10:=Aside0.mk c10
   clear c10
   obtain⟨y300,hy300⟩ : ∃ y_:List (S24),y_=(x3_1 ++ [(⟨t295,t296,t297⟩ : S24)]):=⟨_,rfl⟩
   replace H:(xml_copied.l0 k1 y300 l0_2 (l0_2.length:Int) (wrap64 (x9_1+1)) a0_0 a0_1 l0_2)=some (r1,r2,r3):=by first|(rw [hy300];with_reducible exact H)|(have H2_:=(Option.bind_some _ _).symm.trans H;rw [hy300];with_reducible exact H2_)|(have H2_:=(Option.bind_some _ _).symm.trans H;with_reducible exact H2_)|with_reducible exact H|(rw [hy300];exact H)|exact H
   have Ny300:=Aside0.mk hy300
   clear hy300
   have H':=Aside0.mk H
   clear H
   have p293:0≤(x9_1:Int):=of_decide_eq_true asm
   have q293:x9_1<(l0_2.length:Int):=of_decide_eq_true asm
   obtain⟨ad293,A293_2,c293_2,e293,hx293_0,hx293_1,hx293_2,hl293_2,hi293_2⟩:=at_T24 HR0_2.out x9_1 p293 q293
   cases e293
   replace hx293_0:=(HB.out.cell (World.block_lt_of_cell? w _ hx293_0)).trans hx293_0
   replace hx293_1:=(HB.out.cell (World.block_lt_of_cell? w _ hx293_1)).trans hx293_1
   replace hx293_2:=(HB.out.cell (World.block_lt_of_cell? w _ hx293_2)).trans hx293_2
   have HR293_2:=Aside0.mk hi293_2
   have HC293_2:=Aside0.mk hl293_2
   clear hi293_2 hl293_2
   replace p293:=eq_true p293
   replace q293:=eq_true q293
   go_wp2_with (first|((with_reducible refine gate_dst (N:=5) rfl ?_);refine box_event ?hg (N:=5) ?hd (cs:=#[.string (⟨#[]⟩ : ByteArray),.string (⟨#[]⟩ : ByteArray),.slice none 0 0]) (t:=24) ?hr ?_;(case hd=>rfl);(case hg=>rfl);(case hr=>first|(go_simp;done)|(go_simp;rfl));intro gb294 hg w11 hbox hb;have n0_:=Aside0.mk (Kd.N_below (Kd.N_elderB (by(with_reducible repeat (first|apply Kd.N_alloc|apply Kd.N_drewN|apply Kd.N_drew));exact HO_3.out) gb294 (Nat.le_of_eq hg.symm)) hb);have n1_:=Aside0.mk (blk_below (g:=gb291) (o:=.cells #[.string a0_0,.string a0_1,.slice (some ad293) l0_2.length c0_2] 24 (0,0)) kl hb);have n2_:=Aside0.mk (blk_below (g:=gb292) (o:=.cells #[.string (⟨#[]⟩ : ByteArray),.string (⟨#[]⟩ : ByteArray),.slice none 0 0] 24 (0,0)) kl hb);have n3_:=Aside0.mk (below_step bl hb);have n4_:=Aside0.mk (hbox);have n5_:=Aside0.mk ((by rw [hg];exact(below_size bl):w.heap.size≤gb294));have n6_:=Aside0.mk ((by rw [hg];exact(below_size bl):w.heap.size≤gb294));have n7_:=Aside0.mk ((by rw [hg];exact Nat.ne_of_lt (blk_lt (g:=gb291) (o:=.cells #[.string a0_0,.string a0_1,.slice (some ad293) l0_2.length c0_2] 24 (0,0)) kl):gb291≠gb294));have n8_:=Aside0.mk ((by rw [hg];exact Nat.ne_of_gt (blk_lt (g:=gb291) (o:=.cells #[.string a0_0,.string a0_1,.slice (some ad293) l0_2.length c0_2] 24 (0,0)) kl):gb294≠gb291));have n9_:=Aside0.mk ((by rw [hg];exact Nat.ne_of_lt (blk_lt (g:=gb292) (o:=.cells #[.string (⟨#[]⟩ : ByteArray),.string (⟨#[]⟩ : ByteArray),.slice none 0 0] 24 (0,0)) kl):gb292≠gb294));have n10_:=Aside0.mk ((by rw [hg];exact Nat.ne_of_gt (blk_lt (g:=gb292) (o:=.cells #[.string (⟨#[]⟩ : ByteArray),.string (⟨#[]⟩ : ByteArray),.slice none 0 0] 24 (0,0)) kl):gb294≠gb292));clear HO_3;clear BK291;clear BK292;clear HB;have HO_3:=n0_;have BK291:=n1_;have BK292:=n2_;have HB:=n3_;have BK294:=n4_;have GW294:=n5_;have GE294:=n6_;have NB291_294:=n7_;have NB294_291:=n8_;have NB292_294:=n9_;have NB294_292:=n10_;clear n0_ n1_ n2_ n3_ n4_ n5_ n6_ n7_ n8_ n9_ n10_;clear hb hbox hg;have hnb12:=NB294_291.out;have hnc12:=NB291_294.out;have hnb13:=NB294_292.out;have hnc13:=NB292_294.out;obtain⟨_,_,_,_,_,_⟩:=bc3 BK294.out)|((with_reducible refine gate_callee (f:=52) rfl ?_);refine goesL_ (some 15) rfl rfl Tryd.func52 kr rfl #[.agg #[.string ((rd_T24 l0_2 x9_1).f0),.string ((rd_T24 l0_2 x9_1).f1),.slice A293_2 ((rd_T24 l0_2 x9_1).f2).length c293_2]] rfl am ?_;(with_reducible refine(ih k1 (by have:=HK1.out;omega) ((rd_T24 l0_2 x9_1).f0) ((rd_T24 l0_2 x9_1).f1) _ _ ((rd_T24 l0_2 x9_1).f2) t295 t296 t297 _ ?side1 ?side2 A9.out).mono ?_);(case side1=>exact Kd.C_below HR293_2.out bl);(case side2=>exact HC293_2.out);rintro e w15 ⟨v298,rfl,ho0,hb⟩;refine⟨_,rfl,?_⟩;have n0_:=Aside0.mk (Kd.N_below (by(with_reducible repeat (first|apply Kd.N_alloc|apply Kd.N_drewN|apply Kd.N_drew));exact(Kd.N_mono (Kd.N_far (p:=⟨gb294,2,none⟩) (Kd.N_far (p:=⟨gb294,1,none⟩) (Kd.N_far (p:=⟨gb294,0,none⟩) (Kd.N_mono HO_3.out (fun k_ hk=>(⟨hk,hk.2⟩ : _∧k_≠gb294))) (fun _ hk=>hk.2) (.string ((rd_T24 l0_2 x9_1).f0))) (fun _ hk=>hk.2) (.string ((rd_T24 l0_2 x9_1).f1))) (fun _ hk=>hk.2) (.slice A293_2 ((rd_T24 l0_2 x9_1).f2).length c293_2)) (fun _ h_=>h_.1))) hb);have n1_:=Aside0.mk (Kd.V_lower (Kd.V_mono (ok':=fun k_=>(w.heap.size≤k_)∧some k_≠(u3:Value).ownBlock∧k_≠gb291∧k_≠gb292∧k_≠gb294) ho0 (fun k_ hk_=>⟨(Nat.le_trans (below_size bl) hk_),(Kd.fresh' (Kd.N_lt (by(with_reducible repeat (first|apply Kd.N_alloc|apply Kd.N_drewN|apply Kd.N_drew));exact(Kd.N_mono (Kd.N_far (p:=⟨gb294,2,none⟩) (Kd.N_far (p:=⟨gb294,1,none⟩) (Kd.N_far (p:=⟨gb294,0,none⟩) (Kd.N_mono HO_3.out (fun k_ hk=>(⟨hk,hk.2⟩ : _∧k_≠gb294))) (fun _ hk=>hk.2) (.string ((rd_T24 l0_2 x9_1).f0))) (fun _ hk=>hk.2) (.string ((rd_T24 l0_2 x9_1).f1))) (fun _ hk=>hk.2) (.slice A293_2 ((rd_T24 l0_2 x9_1).f2).length c293_2)) (fun _ h_=>h_.1)))) k_ hk_),(Kd.freshB (g:=gb291) (o:=.cells #[.string a0_0,.string a0_1,.slice (some ad293) l0_2.length c0_2] 24 (0,0)) (by(with_reducible repeat (first|refine blk_drewN ?_ _|refine blk_drew ?_|refine blk_alloc ?_ _));refine blk_far ?_ NB291_294.out _;(with_reducible repeat (first|refine blk_drewN ?_ _|refine blk_drew ?_|refine blk_alloc ?_ _));refine blk_far ?_ NB291_294.out _;(with_reducible repeat (first|refine blk_drewN ?_ _|refine blk_drew ?_|refine blk_alloc ?_ _));refine blk_far ?_ NB291_294.out _;(with_reducible repeat (first|refine blk_drewN ?_ _|refine blk_drew ?_|refine blk_alloc ?_ _));exact BK291.out) k_ hk_),(Kd.freshB (g:=gb292) (o:=.cells #[.string (⟨#[]⟩ : ByteArray),.string (⟨#[]⟩ : ByteArray),.slice none 0 0] 24 (0,0)) (by(with_reducible repeat (first|refine blk_drewN ?_ _|refine blk_drew ?_|refine blk_alloc ?_ _));refine blk_far ?_ NB292_294.out _;(with_reducible repeat (first|refine blk_drewN ?_ _|refine blk_drew ?_|refine blk_alloc ?_ _));refine blk_far ?_ NB292_294.out _;(with_reducible repeat (first|refine blk_drewN ?_ _|refine blk_drew ?_|refine blk_alloc ?_ _));refine blk_far ?_ NB292_294.out _;(with_reducible repeat (first|refine blk_drewN ?_ _|refine blk_drew ?_|refine blk_alloc ?_ _));exact BK292.out) k_ hk_),(Kd.freshB (g:=gb294) (o:=.cells #[.string ((rd_T24 l0_2 x9_1).f0),.string ((rd_T24 l0_2 x9_1).f1),.slice A293_2 ((rd_T24 l0_2 x9_1).f2).length c293_2] 24 (0,0)) (by(with_reducible repeat (first|refine blk_drewN ?_ _|refine blk_drew ?_|refine blk_alloc ?_ _));refine blk_put (cs:=#[.string ((rd_T24 l0_2 x9_1).f0),.string ((rd_T24 l0_2 x9_1).f1),.slice none 0 0]) ?_ 2 _ rfl;(with_reducible repeat (first|refine blk_drewN ?_ _|refine blk_drew ?_|refine blk_alloc ?_ _));refine blk_put (cs:=#[.string ((rd_T24 l0_2 x9_1).f0),.string (⟨#[]⟩ : ByteArray),.slice none 0 0]) ?_ 1 _ rfl;(with_reducible repeat (first|refine blk_drewN ?_ _|refine blk_drew ?_|refine blk_alloc ?_ _));refine blk_put (cs:=#[.string (⟨#[]⟩ : ByteArray),.string (⟨#[]⟩ : ByteArray),.slice none 0 0]) ?_ 0 _ rfl;(with_reducible repeat (first|refine blk_drewN ?_ _|refine blk_drew ?_|refine blk_alloc ?_ _));exact BK294.out) k_ hk_)⟩)) (below_size bl));have n2_:=Aside0.mk (blk_below (g:=gb291) (o:=.cells #[.string a0_0,.string a0_1,.slice (some ad293) l0_2.length c0_2] 24 (0,0)) (by(with_reducible repeat (first|refine blk_drewN ?_ _|refine blk_drew ?_|refine blk_alloc ?_ _));refine blk_far ?_ NB291_294.out _;(with_reducible repeat (first|refine blk_drewN ?_ _|refine blk_drew ?_|refine blk_alloc ?_ _));refine blk_far ?_ NB291_294.out _;(with_reducible repeat (first|refine blk_drewN ?_ _|refine blk_drew ?_|refine blk_alloc ?_ _));refine blk_far ?_ NB291_294.out _;(with_reducible repeat (first|refine blk_drewN ?_ _|refine blk_drew ?_|refine blk_alloc ?_ _));exact BK291.out) hb);have n3_:=Aside0.mk (blk_below (g:=gb292) (o:=.cells #[.string (⟨#[]⟩ : ByteArray),.string (⟨#[]⟩ : ByteArray),.slice none 0 0] 24 (0,0)) (by(with_reducible repeat (first|refine blk_drewN ?_ _|refine blk_drew ?_|refine blk_alloc ?_ _));refine blk_far ?_ NB292_294.out _;(with_reducible repeat (first|refine blk_drewN ?_ _|refine blk_drew ?_|refine blk_alloc ?_ _));refine blk_far ?_ NB292_294.out _;(with_reducible repeat (first|refine blk_drewN ?_ _|refine blk_drew ?_|refine blk_alloc ?_ _));refine blk_far ?_ NB292_294.out _;(with_reducible repeat (first|refine blk_drewN ?_ _|refine blk_drew ?_|refine blk_alloc ?_ _));exact BK292.out) hb);have n4_:=Aside0.mk (blk_below (g:=gb294) (o:=.cells #[.string ((rd_T24 l0_2 x9_1).f0),.string ((rd_T24 l0_2 x9_1).f1),.slice A293_2 ((rd_T24 l0_2 x9_1).f2).length c293_2] 24 (0,0)) (by(with_reducible repeat (first|refine blk_drewN ?_ _|refine blk_drew ?_|refine blk_alloc ?_ _));refine blk_put (cs:=#[.string ((rd_T24 l0_2 x9_1).f0),.string ((rd_T24 l0_2 x9_1).f1),.slice none 0 0]) ?_ 2 _ rfl;(with_reducible repeat (first|refine blk_drewN ?_ _|refine blk_drew ?_|refine blk_alloc ?_ _));refine blk_put (cs:=#[.string ((rd_T24 l0_2 x9_1).f0),.string (⟨#[]⟩ : ByteArray),.slice none 0 0]) ?_ 1 _ rfl;(with_reducible repeat (first|refine blk_drewN ?_ _|refine blk_drew ?_|refine blk_alloc ?_ _));refine blk_put (cs:=#[.string (⟨#[]⟩ : ByteArray),.string (⟨#[]⟩ : ByteArray),.slice none 0 0]) ?_ 0 _ rfl;(with_reducible repeat (first|refine blk_drewN ?_ _|refine blk_drew ?_|refine blk_alloc ?_ _));exact BK294.out) hb);have n5_:=Aside0.mk (below_step bl hb);clear HO_3;clear BK291;clear BK292;clear BK294;clear HB;have HO_3:=n0_;have HO299:=n1_;have BK291:=n2_;have BK292:=n3_;have BK294:=n4_;have HB:=n5_;clear n0_ n1_ n2_ n3_ n4_ n5_;obtain⟨Ao17,co17,eo17⟩:=Kd.V_slice HO299.out;subst eo17)|((with_reducible refine gate_builtin (b:=.append) (xs:=#[.tmp 13,.tmp 16]) rfl ?_);at_builtin;refine Kd.N_append k24 (w0:=w) w.heap.size rfl (.tmp 13) (.tmp 16) 22 24 (.agg #[(.string ⟨#[]⟩),(.string ⟨#[]⟩),(.slice none 0 0)]) 56 rfl Tryd.underlying22 info24 rfl (by decide) (by omega) u3 x3_1 (⟨t295,t296,t297⟩ : S24) [.string t295,.string t296,.slice Ao17 t297.length co17] (fun k_=>(w.heap.size≤k_)∧k_≠gb291∧k_≠gb292∧k_≠gb294) (fun k_=>((fun k_=>(w.heap.size≤k_)∧k_≠gb291∧k_≠gb292∧k_≠gb294)) k_∧some k_≠(u3:Value).ownBlock) rfl rfl ?aP (fun _ hk=>hk) ?aF ?aO ?aB ?aS ?aL ?_;(case aP=>exact(k24_mkF _ _ (⟨t295,t296,t297⟩ : S24) (Kd.V_reads' (Kd.V_mono (ok':=(fun k_=>((fun k_=>(w.heap.size≤k_)∧k_≠gb291∧k_≠gb292∧k_≠gb294)) k_∧some k_≠(u3:Value).ownBlock)) (HO299.out) (fun k_ hk=>⟨⟨hk.1,⟨hk.2.2.1,⟨hk.2.2.2.1,hk.2.2.2.2⟩⟩⟩,hk.2.1⟩))).2.1 (Kd.V_F (Kd.V_mono (ok':=(fun k_=>((fun k_=>(w.heap.size≤k_)∧k_≠gb291∧k_≠gb292∧k_≠gb294)) k_∧some k_≠(u3:Value).ownBlock)) (HO299.out) (fun k_ hk=>⟨⟨hk.1,⟨hk.2.2.1,⟨hk.2.2.2.1,hk.2.2.2.2⟩⟩⟩,hk.2.1⟩)))));(case aB=>exact bl);(case aF=>exact(fun k_ hk=>⟨(Nat.le_trans (below_size bl) hk),Kd.freshB (g:=gb291) (o:=.cells #[.string a0_0,.string a0_1,.slice (some ad293) l0_2.length c0_2] 24 (0,0)) kl k_ hk,Kd.freshB (g:=gb292) (o:=.cells #[.string (⟨#[]⟩ : ByteArray),.string (⟨#[]⟩ : ByteArray),.slice none 0 0] 24 (0,0)) kl k_ hk,Kd.freshB (g:=gb294) (o:=.cells #[.string ((rd_T24 l0_2 x9_1).f0),.string ((rd_T24 l0_2 x9_1).f1),.slice A293_2 ((rd_T24 l0_2 x9_1).f2).length c293_2] 24 (0,0)) kl k_ hk⟩));(case aO=>exact(by(with_reducible repeat (first|apply Kd.N_alloc|apply Kd.N_drewN|apply Kd.N_drew));exact Kd.N_mono HO_3.out (fun _ hk=>⟨hk.1.1,⟨hk.1.2.1,⟨hk.1.2.2,hk.2⟩⟩⟩)));(case aS=>exact(below_size bl));(case aL=>have:=LMc10.out;omega);intro v301 w16 ho hb hg hat;rw [← Ny300.out] at ho;have n0_:=Aside0.mk (blk_grown (g:=gb291) (o:=.cells #[.string a0_0,.string a0_1,.slice (some ad293) l0_2.length c0_2] 24 (0,0)) kl hg (Kd.N_away HO_3.out (fun _ hk=>hk.1.2.1)));have n1_:=Aside0.mk (blk_grown (g:=gb292) (o:=.cells #[.string (⟨#[]⟩ : ByteArray),.string (⟨#[]⟩ : ByteArray),.slice none 0 0] 24 (0,0)) kl hg (Kd.N_away HO_3.out (fun _ hk=>hk.1.2.2)));have n2_:=Aside0.mk (blk_grown (g:=gb294) (o:=.cells #[.string ((rd_T24 l0_2 x9_1).f0),.string ((rd_T24 l0_2 x9_1).f1),.slice A293_2 ((rd_T24 l0_2 x9_1).f2).length c293_2] 24 (0,0)) kl hg (Kd.N_away HO_3.out (fun _ hk=>hk.2)));have n3_:=Aside0.mk (Kd.V_afterv (ok:=(fun k_=>(w.heap.size≤k_)∧k_≠gb291∧k_≠gb292∧k_≠gb294)) (by(with_reducible repeat (first|apply Kd.V_alloc|apply Kd.V_drewN|apply Kd.V_drew));exact Kd.V_mono HO299.out (fun _ hk=>⟨⟨hk.1,⟨hk.2.2.1,⟨hk.2.2.2.1,hk.2.2.2.2⟩⟩⟩,hk.2.1⟩)) hg hat);have n4_:=Aside0.mk (hb);have n5_:=Aside0.mk (ho);clear BK291;clear BK292;clear BK294;clear HO299;clear HB;clear HO_3;have BK291:=n0_;have BK292:=n1_;have BK294:=n2_;have HO299:=n3_;have HB:=n4_;have HO302:=n5_;clear n0_ n1_ n2_ n3_ n4_ n5_;clear ho hb hg hat))
   go_roundg k1
   case measure=>have:=HK1.out;omega
   case rel=>exact⟨(y300),(wrap64 (x9_1+1)),rs,H',⟨by have:=HK1.out;omega⟩,⟨by(with_reducible repeat (first|apply Kd.N_alloc|apply Kd.N_drewN|apply Kd.N_drew));exact Kd.N_mono HO302.out (fun _ hk=>⟨hk.1,⟨hk.2.1,hk.2.2.1⟩⟩)⟩,⟨kl⟩,⟨kl⟩,⟨bl⟩⟩
   }
   ·exact absurd H (by simp)
   }
   ·exact absurd H (by simp)
   }
   ·exact absurd H (by simp)
   }
   {
   have c6b0:decide (x9_1<(l0_2.length:Int))=false:=decide_eq_false c6
   clear c6
   replace H:=itO H
   rcases H with⟨c18,H⟩|⟨c18,H⟩
   {
   have c18b0:=eq_true c18
   have c18b1:=decide_eq_true c18
   clear c18
   replace H:=itO H
   rcases H with⟨c19,H⟩|⟨c19,H⟩
   {
   have c19b0:=eq_true c19
   have c19b1:=decide_eq_true c19
   clear c19
   obtain⟨y303,hy303⟩ : ∃ y_:List (S24),y_=(x3_1.take ((x3_1.length:Int):Int).toNat):=⟨_,rfl⟩
   replace H:(some (a0_0,a0_1,y303))=some (r1,r2,r3):=by first|(rw [hy303];with_reducible exact H)|(have H2_:=(Option.bind_some _ _).symm.trans H;rw [hy303];with_reducible exact H2_)|(have H2_:=(Option.bind_some _ _).symm.trans H;with_reducible exact H2_)|with_reducible exact H|(rw [hy303];exact H)|exact H
   have Ny303:=Aside0.mk hy303
   clear hy303
   simp only [Option.some.injEq,Prod.mk.injEq] at H
   obtain⟨rfl,rfl,rfl⟩:=H
   obtain⟨Ao20,co20,eo20⟩:=Kd.N_slice HO_3.out
   subst eo20
   have q21:((x3_1.length:Int):Int)≤((x3_1.length:Int):Int):=of_decide_eq_true asm
   obtain⟨i021,hi021,_,hsz21,_⟩:=info_parts info24
   have hroom21:x3_1.length≤co20:=(Kd.N_reads' HO_3.out).2.1
   have hC21:Kd.F k24 _ _ Ao20 x3_1.length x3_1:=(Kd.V_at (base:=w.heap.size) (Kd.N_V HO_3.out)).2.2
   have hcut21:=cut_to_max (P:=Tryd.prog) 22 24 .i64 .i64 Tryd.underlying22 hi021 Ao20 x3_1.length co20 (x3_1.length:Int) (of_decide_eq_true asm) q21 hroom21
   have hr21:=Kd.F_take (m:=((x3_1.length:Int):Int).toNat) hC21 (by omega)
   have hy21:y303.length=((x3_1.length:Int):Int).toNat:=(by rw [Ny303.out,List.length_take];omega)
   rw [← Ny303.out] at hr21
   rw [← hy21] at hcut21
   have HO307:=Aside0.mk (show Kd.V k24 24 _ w.heap.size _ (.slice Ao20 y303.length y303.length) y303 from Kd.V_mk (by omega) hr21)
   have HC307:=Aside0.mk (show y303.length≤y303.length from by omega)
   clear hr21 hC21 hroom21 hi021 hsz21
   have KY21:=Aside0.mk hy21
   clear hy21
   replace q21:=eq_true q21
   have hnb22:=NB291_292.out
   have hnc22:=NB292_291.out
   obtain⟨_,_,_,_,_,_⟩:=bc3 BK291.out
   obtain⟨_,_,_,_,_,_⟩:=bc3 BK292.out
   go_wp2
   refine bodyPost_ret (results_cell_row rfl _ _ gb292 24 #[.string a0_0,.string a0_1,.slice Ao20 y303.length y303.length] (0,0) _ rfl (by(with_reducible repeat (first|refine blk_drewN ?_ _|refine blk_drew ?_|refine blk_alloc ?_ _));refine blk_put (cs:=#[.string a0_0,.string a0_1,.slice none 0 0]) ?_ 2 _ rfl;(with_reducible repeat (first|refine blk_drewN ?_ _|refine blk_drew ?_|refine blk_alloc ?_ _));refine blk_put (cs:=#[.string a0_0,.string (⟨#[]⟩ : ByteArray),.slice none 0 0]) ?_ 1 _ rfl;(with_reducible repeat (first|refine blk_drewN ?_ _|refine blk_drew ?_|refine blk_alloc ?_ _));refine blk_put (cs:=#[.string (⟨#[]⟩ : ByteArray),.string (⟨#[]⟩ : ByteArray),.slice none 0 0]) ?_ 0 _ rfl;(with_reducible repeat (first|refine blk_drewN ?_ _|refine blk_drew ?_|refine blk_alloc ?_ _));refine blk_far ?_ NB292_291.out _;(with_reducible repeat (first|refine blk_drewN ?_ _|refine blk_drew ?_|refine blk_alloc ?_ _));exact BK292.out) Tryd.underlying24 rfl kr) rfl ?_
   exact⟨_,ew,by(with_reducible repeat (first|apply Kd.V_alloc|apply Kd.V_drewN|apply Kd.V_drew));exact Kd.V_mono (Kd.V_far (p:=⟨gb292,2,none⟩) (Kd.V_far (p:=⟨gb292,1,none⟩) (Kd.V_far (p:=⟨gb292,0,none⟩) (Kd.V_far (p:=⟨gb291,2,none⟩) (Kd.V_mono (Kd.V_mono HO307.out (fun k_ hk=>(⟨hk,hk.2.1⟩ : _∧k_≠gb291))) (fun k_ hk=>(⟨hk,hk.1.2.2⟩ : _∧k_≠gb292))) (fun _ hk=>hk.1.2) (.slice Ao20 y303.length y303.length)) (fun _ hk=>hk.2) (.string a0_0)) (fun _ hk=>hk.2) (.string a0_1)) (fun _ hk=>hk.2) (.slice Ao20 y303.length y303.length)) (fun _ hk=>hk.1.1.1),bl⟩
   }
   ·exact absurd H (by simp)
   }
   ·exact absurd H (by simp)
   }
def xml_Kid.l0:Nat→ByteArray→List (S24)→Int→Int→Option (ByteArray×ByteArray×(List (S24))×Bool)
  | 0,_,_,_,_=>none
  | k+1,x1,x9,x10,x11=>if x11<x10 then(if 0≤x11 then(if x11<(x9.length:Int) then(if((rd_T24 x9 x11).f0).toList=x1.toList then((xml_copied.f k ((rd_T24 x9 x11).f0) ((rd_T24 x9 x11).f1) ((rd_T24 x9 x11).f2)).bind fun bt312=>(some (bt312.1,bt312.2.1,bt312.2.2,true))) else(xml_Kid.l0 k x1 x9 x10 (wrap64 (x11+1)))) else(none)) else(none)) else(some ((⟨#[]⟩ : ByteArray),(⟨#[]⟩ : ByteArray),([]:List (S24)),false))
def xml_Kid.f (k:Nat) (a0_0:ByteArray) (a0_1:ByteArray) (l0_2:List (S24)) (a1:ByteArray):Option (ByteArray×ByteArray×(List (S24))×Bool):=xml_Kid.l0 k a1 l0_2 (l0_2.length:Int) 0
theorem xml_Kid.mono_l:∀ k,(∀ y0 y1 y2 y3,LeO (xml_Kid.l0 k y0 y1 y2 y3) (xml_Kid.l0 (k+1) y0 y1 y2 y3))
  | 0=>fun _ _ _ _ r h=>by simp [xml_Kid.l0] at h
  | k+1=>by
    have ih0:=xml_Kid.mono_l k
    · intro y0 y1 y2 y3
      unfold xml_Kid.l0
      with_reducible repeat' first|exact ih0 _ _ _ _|exact xml_copied.mono _ _ _ _|exact LeO.refl _|exact LeO.none _|refine LeO.ite ?_ ?_|refine LeO.bind ?_ (fun _=>?_)
theorem xml_Kid.mono:∀ a0 a1 a2 a3 k,LeO (xml_Kid.f k a0 a1 a2 a3) (xml_Kid.f (k+1) a0 a1 a2 a3):=by
 intro a0 a1 a2 a3 k
 have ih0:=xml_Kid.mono_l k
 unfold xml_Kid.f
 with_reducible repeat' first|exact ih0 _ _ _ _|exact xml_copied.mono _ _ _ _|exact LeO.refl _|exact LeO.none _|refine LeO.ite ?_ ?_|refine LeO.bind ?_ (fun _=>?_)
theorem xml_Kid.calls (k:Nat) (a0_0:ByteArray) (a0_1:ByteArray) (A0_2:Option Addr) (c0_2:Nat) (l0_2:List (S24)) (a1:ByteArray) (r1:ByteArray) (r2:ByteArray) (r3:List (S24)) (r4:Bool) (w:World) (hr0_2:Kd.C k24 w A0_2 l0_2.length l0_2) (hc0_2:l0_2.length≤c0_2) (h:xml_Kid.f k a0_0 a0_1 l0_2 a1=some (r1,r2,r3,r4)) :
    Calls Tryd.prog 25 #[.agg #[.string a0_0,.string a0_1,.slice A0_2 l0_2.length c0_2],.string a1] w fun e w'=>∃ v2_:Value,e = .returned (.tuple #[.agg #[.string r1,.string r2,v2_],.bool r4])∧Kd.V k24 24 w' w.heap.size (fun k_=>(w.heap.size≤k_)) v2_ r3∧Below w.heap.size w w':=by
 have hu24:=Tryd.underlying24
 have HR0_2:=Aside0.mk hr0_2
 have HC0_2:=Aside0.mk hc0_2
 clear hr0_2 hc0_2
 have HB:=Aside0.mk (Below.refl w.heap.size w)
 unfold xml_Kid.f at h
 have H:=h
 clear h
 have H':=Aside0.mk H
 clear H
 go_enter Tryd.func25,Tryd.ntmps25
 go_wp2_with (first|((with_reducible refine gate_dst (N:=2) rfl ?_);refine box_event ?hg (N:=2) ?hd (cs:=#[.string a0_0,.string a0_1,.slice A0_2 l0_2.length c0_2]) (t:=24) ?hr ?_;(case hd=>rfl);(case hg=>rfl);(case hr=>first|(go_simp;done)|(go_simp;rfl));intro gb308 hg w3 hbox hb;have n0_:=Aside0.mk (below_step bl hb);have n1_:=Aside0.mk (hbox);have n2_:=Aside0.mk ((by rw [hg];exact(below_size bl):w.heap.size≤gb308));have n3_:=Aside0.mk ((by rw [hg];exact(below_size bl):w.heap.size≤gb308));clear HB;have HB:=n0_;have BK308:=n1_;have GW308:=n2_;have GE308:=n3_;clear n0_ n1_ n2_ n3_;clear hb hbox hg)|((with_reducible refine gate_dst (N:=4) rfl ?_);refine box_event ?hg (N:=4) ?hd (cs:=#[.string (⟨#[]⟩ : ByteArray),.string (⟨#[]⟩ : ByteArray),.slice none 0 0]) (t:=24) ?hr ?_;(case hd=>rfl);(case hg=>rfl);(case hr=>first|(go_simp;done)|(go_simp;rfl));intro gb309 hg w4 hbox hb;have n0_:=Aside0.mk (blk_below (g:=gb308) (o:=.cells #[.string a0_0,.string a0_1,.slice A0_2 l0_2.length c0_2] 24 (0,0)) kl hb);have n1_:=Aside0.mk (below_step bl hb);have n2_:=Aside0.mk (hbox);have n3_:=Aside0.mk ((by rw [hg];exact(below_size bl):w.heap.size≤gb309));have n4_:=Aside0.mk ((by rw [hg];exact(below_size bl):w.heap.size≤gb309));have n5_:=Aside0.mk ((by rw [hg];exact Nat.ne_of_lt (blk_lt (g:=gb308) (o:=.cells #[.string a0_0,.string a0_1,.slice A0_2 l0_2.length c0_2] 24 (0,0)) kl):gb308≠gb309));have n6_:=Aside0.mk ((by rw [hg];exact Nat.ne_of_gt (blk_lt (g:=gb308) (o:=.cells #[.string a0_0,.string a0_1,.slice A0_2 l0_2.length c0_2] 24 (0,0)) kl):gb309≠gb308));clear BK308;clear HB;have BK308:=n0_;have HB:=n1_;have BK309:=n2_;have GW309:=n3_;have GE309:=n4_;have NB308_309:=n5_;have NB309_308:=n6_;clear n0_ n1_ n2_ n3_ n4_ n5_ n6_;clear hb hbox hg;have hnb5:=NB308_309.out;have hnc5:=NB309_308.out;obtain⟨_,_,_,_,_,_⟩:=bc3 BK308.out))
 go_loopg [11] k (fun kq v11 w'=>∃ (x11_1:Int) (x310000_1:ByteArray) (x310001_1:ByteArray),v11 = .int .i64 x11_1∧Aside0 (xml_Kid.l0 kq a1 l0_2 (l0_2.length:Int) x11_1=some (r1,r2,r3,r4))∧Aside0 (kq≤k)∧Aside0 (w'.heap[gb308]? = some (.cells #[.string a0_0,.string a0_1,(.slice A0_2 l0_2.length c0_2)] 24 (0,0)))∧Aside0 (w'.heap[gb309]? = some (.cells #[.string x310000_1,.string x310001_1,(.slice none 0 0)] 24 (0,0)))∧Aside0 (Below w.heap.size w w'))
 case atStart=>exact⟨(0),((⟨#[]⟩ : ByteArray)),((⟨#[]⟩ : ByteArray)),rs,H',⟨Nat.le_refl _⟩,⟨kl⟩,⟨kl⟩,⟨bl⟩⟩
 case round=>
  clear H'
  obtain⟨x11_1,x310000_1,x310001_1,rfl,HA,HK1,BK308,BK309,HB⟩:=hrel
  cases gk with
  | zero=>exact absurd HA.out (by simp [xml_Kid.l0])
  | succ k1=>
   have H:=HA.out
   clear HA
   simp only [xml_Kid.l0] at H
   replace H:=itO H
   rcases H with⟨c7,H⟩|⟨c7,H⟩
   {
   have c7b0:decide (x11_1<(l0_2.length:Int))=true:=decide_eq_true c7
   clear c7
   replace H:=itO H
   rcases H with⟨c8,H⟩|⟨c8,H⟩
   {
   have c8b0:decide (0≤x11_1)=true:=decide_eq_true c8
   clear c8
   replace H:=itO H
   rcases H with⟨c9,H⟩|⟨c9,H⟩
   {
   have c9b0:decide (x11_1<(l0_2.length:Int))=true:=decide_eq_true c9
   clear c9
   replace H:=itO H
   rcases H with⟨c10,H⟩|⟨c10,H⟩
   {
   have c10b0:(((rd_T24 l0_2 x11_1).f0).toList == a1.toList)=true:=beq_iff_eq.mpr c10
   have c10b1:(((rd_T24 l0_2 x11_1).f0).toList != a1.toList)=false:=bne_eq_false_iff_eq.mpr c10
   clear c10
   replace H:=bndO H
   obtain⟨⟨t312,t313,t314⟩,A110,H⟩:=H
   dsimp only at H
   have A11:=Aside0.mk A110
   clear A110
   simp only [Option.some.injEq,Prod.mk.injEq] at H
   obtain⟨rfl,rfl,rfl,rfl⟩:=H
   have p310:0≤(x11_1:Int):=of_decide_eq_true asm
   have q310:x11_1<(l0_2.length:Int):=of_decide_eq_true asm
   obtain⟨ad310,A310_2,c310_2,e310,hx310_0,hx310_1,hx310_2,hl310_2,hi310_2⟩:=at_T24 HR0_2.out x11_1 p310 q310
   cases e310
   replace hx310_0:=(HB.out.cell (World.block_lt_of_cell? w _ hx310_0)).trans hx310_0
   replace hx310_1:=(HB.out.cell (World.block_lt_of_cell? w _ hx310_1)).trans hx310_1
   replace hx310_2:=(HB.out.cell (World.block_lt_of_cell? w _ hx310_2)).trans hx310_2
   have HR310_2:=Aside0.mk hi310_2
   have HC310_2:=Aside0.mk hl310_2
   clear hi310_2 hl310_2
   replace p310:=eq_true p310
   replace q310:=eq_true q310
   go_wp2_with (first|((with_reducible refine gate_dst (N:=7) rfl ?_);refine box_event ?hg (N:=7) ?hd (cs:=#[.string (⟨#[]⟩ : ByteArray),.string (⟨#[]⟩ : ByteArray),.slice none 0 0]) (t:=24) ?hr ?_;(case hd=>rfl);(case hg=>rfl);(case hr=>first|(go_simp;done)|(go_simp;rfl));intro gb311 hg w12 hbox hb;have n0_:=Aside0.mk (blk_below (g:=gb308) (o:=.cells #[.string a0_0,.string a0_1,.slice (some ad310) l0_2.length c0_2] 24 (0,0)) kl hb);have n1_:=Aside0.mk (blk_below (g:=gb309) (o:=.cells #[.string x310000_1,.string x310001_1,.slice none 0 0] 24 (0,0)) kl hb);have n2_:=Aside0.mk (below_step bl hb);have n3_:=Aside0.mk (hbox);have n4_:=Aside0.mk ((by rw [hg];exact(below_size bl):w.heap.size≤gb311));have n5_:=Aside0.mk ((by rw [hg];exact(below_size bl):w.heap.size≤gb311));have n6_:=Aside0.mk ((by rw [hg];exact Nat.ne_of_lt (blk_lt (g:=gb308) (o:=.cells #[.string a0_0,.string a0_1,.slice (some ad310) l0_2.length c0_2] 24 (0,0)) kl):gb308≠gb311));have n7_:=Aside0.mk ((by rw [hg];exact Nat.ne_of_gt (blk_lt (g:=gb308) (o:=.cells #[.string a0_0,.string a0_1,.slice (some ad310) l0_2.length c0_2] 24 (0,0)) kl):gb311≠gb308));have n8_:=Aside0.mk ((by rw [hg];exact Nat.ne_of_lt (blk_lt (g:=gb309) (o:=.cells #[.string x310000_1,.string x310001_1,.slice none 0 0] 24 (0,0)) kl):gb309≠gb311));have n9_:=Aside0.mk ((by rw [hg];exact Nat.ne_of_gt (blk_lt (g:=gb309) (o:=.cells #[.string x310000_1,.string x310001_1,.slice none 0 0] 24 (0,0)) kl):gb311≠gb309));clear BK308;clear BK309;clear HB;have BK308:=n0_;have BK309:=n1_;have HB:=n2_;have BK311:=n3_;have GW311:=n4_;have GE311:=n5_;have NB308_311:=n6_;have NB311_308:=n7_;have NB309_311:=n8_;have NB311_309:=n9_;clear n0_ n1_ n2_ n3_ n4_ n5_ n6_ n7_ n8_ n9_;clear hb hbox hg;have hnb13:=NB311_308.out;have hnc13:=NB308_311.out;have hnb14:=NB311_309.out;have hnc14:=NB309_311.out;obtain⟨_,_,_,_,_,_⟩:=bc3 BK311.out)|((with_reducible refine gate_callee (f:=52) rfl ?_);refine goesL_ (some 20) rfl rfl Tryd.func52 kr rfl #[.agg #[.string ((rd_T24 l0_2 x11_1).f0),.string ((rd_T24 l0_2 x11_1).f1),.slice A310_2 ((rd_T24 l0_2 x11_1).f2).length c310_2]] rfl am ?_;(with_reducible refine(xml_copied.calls k1 ((rd_T24 l0_2 x11_1).f0) ((rd_T24 l0_2 x11_1).f1) _ _ ((rd_T24 l0_2 x11_1).f2) t312 t313 t314 _ ?side1 ?side2 A11.out).mono ?_);(case side1=>exact Kd.C_below HR310_2.out bl);(case side2=>exact HC310_2.out);rintro e w16 ⟨v315,rfl,ho0,hb⟩;refine⟨_,rfl,?_⟩;have n0_:=Aside0.mk (Kd.V_lower (Kd.V_mono (ok':=fun k_=>(w.heap.size≤k_)∧k_≠gb308∧k_≠gb309∧k_≠gb311) ho0 (fun k_ hk_=>⟨(Nat.le_trans (below_size bl) hk_),(Kd.freshB (g:=gb308) (o:=.cells #[.string a0_0,.string a0_1,.slice (some ad310) l0_2.length c0_2] 24 (0,0)) (by(with_reducible repeat (first|refine blk_drewN ?_ _|refine blk_drew ?_|refine blk_alloc ?_ _));refine blk_far ?_ NB308_311.out _;(with_reducible repeat (first|refine blk_drewN ?_ _|refine blk_drew ?_|refine blk_alloc ?_ _));refine blk_far ?_ NB308_311.out _;(with_reducible repeat (first|refine blk_drewN ?_ _|refine blk_drew ?_|refine blk_alloc ?_ _));refine blk_far ?_ NB308_311.out _;(with_reducible repeat (first|refine blk_drewN ?_ _|refine blk_drew ?_|refine blk_alloc ?_ _));exact BK308.out) k_ hk_),(Kd.freshB (g:=gb309) (o:=.cells #[.string x310000_1,.string x310001_1,.slice none 0 0] 24 (0,0)) (by(with_reducible repeat (first|refine blk_drewN ?_ _|refine blk_drew ?_|refine blk_alloc ?_ _));refine blk_far ?_ NB309_311.out _;(with_reducible repeat (first|refine blk_drewN ?_ _|refine blk_drew ?_|refine blk_alloc ?_ _));refine blk_far ?_ NB309_311.out _;(with_reducible repeat (first|refine blk_drewN ?_ _|refine blk_drew ?_|refine blk_alloc ?_ _));refine blk_far ?_ NB309_311.out _;(with_reducible repeat (first|refine blk_drewN ?_ _|refine blk_drew ?_|refine blk_alloc ?_ _));exact BK309.out) k_ hk_),(Kd.freshB (g:=gb311) (o:=.cells #[.string ((rd_T24 l0_2 x11_1).f0),.string ((rd_T24 l0_2 x11_1).f1),.slice A310_2 ((rd_T24 l0_2 x11_1).f2).length c310_2] 24 (0,0)) (by(with_reducible repeat (first|refine blk_drewN ?_ _|refine blk_drew ?_|refine blk_alloc ?_ _));refine blk_put (cs:=#[.string ((rd_T24 l0_2 x11_1).f0),.string ((rd_T24 l0_2 x11_1).f1),.slice none 0 0]) ?_ 2 _ rfl;(with_reducible repeat (first|refine blk_drewN ?_ _|refine blk_drew ?_|refine blk_alloc ?_ _));refine blk_put (cs:=#[.string ((rd_T24 l0_2 x11_1).f0),.string (⟨#[]⟩ : ByteArray),.slice none 0 0]) ?_ 1 _ rfl;(with_reducible repeat (first|refine blk_drewN ?_ _|refine blk_drew ?_|refine blk_alloc ?_ _));refine blk_put (cs:=#[.string (⟨#[]⟩ : ByteArray),.string (⟨#[]⟩ : ByteArray),.slice none 0 0]) ?_ 0 _ rfl;(with_reducible repeat (first|refine blk_drewN ?_ _|refine blk_drew ?_|refine blk_alloc ?_ _));exact BK311.out) k_ hk_)⟩)) (below_size bl));have n1_:=Aside0.mk (blk_below (g:=gb308) (o:=.cells #[.string a0_0,.string a0_1,.slice (some ad310) l0_2.length c0_2] 24 (0,0)) (by(with_reducible repeat (first|refine blk_drewN ?_ _|refine blk_drew ?_|refine blk_alloc ?_ _));refine blk_far ?_ NB308_311.out _;(with_reducible repeat (first|refine blk_drewN ?_ _|refine blk_drew ?_|refine blk_alloc ?_ _));refine blk_far ?_ NB308_311.out _;(with_reducible repeat (first|refine blk_drewN ?_ _|refine blk_drew ?_|refine blk_alloc ?_ _));refine blk_far ?_ NB308_311.out _;(with_reducible repeat (first|refine blk_drewN ?_ _|refine blk_drew ?_|refine blk_alloc ?_ _));exact BK308.out) hb);have n2_:=Aside0.mk (blk_below (g:=gb309) (o:=.cells #[.string x310000_1,.string x310001_1,.slice none 0 0] 24 (0,0)) (by(with_reducible repeat (first|refine blk_drewN ?_ _|refine blk_drew ?_|refine blk_alloc ?_ _));refine blk_far ?_ NB309_311.out _;(with_reducible repeat (first|refine blk_drewN ?_ _|refine blk_drew ?_|refine blk_alloc ?_ _));refine blk_far ?_ NB309_311.out _;(with_reducible repeat (first|refine blk_drewN ?_ _|refine blk_drew ?_|refine blk_alloc ?_ _));refine blk_far ?_ NB309_311.out _;(with_reducible repeat (first|refine blk_drewN ?_ _|refine blk_drew ?_|refine blk_alloc ?_ _));exact BK309.out) hb);have n3_:=Aside0.mk (blk_below (g:=gb311) (o:=.cells #[.string ((rd_T24 l0_2 x11_1).f0),.string ((rd_T24 l0_2 x11_1).f1),.slice A310_2 ((rd_T24 l0_2 x11_1).f2).length c310_2] 24 (0,0)) (by(with_reducible repeat (first|refine blk_drewN ?_ _|refine blk_drew ?_|refine blk_alloc ?_ _));refine blk_put (cs:=#[.string ((rd_T24 l0_2 x11_1).f0),.string ((rd_T24 l0_2 x11_1).f1),.slice none 0 0]) ?_ 2 _ rfl;(with_reducible repeat (first|refine blk_drewN ?_ _|refine blk_drew ?_|refine blk_alloc ?_ _));refine blk_put (cs:=#[.string ((rd_T24 l0_2 x11_1).f0),.string (⟨#[]⟩ : ByteArray),.slice none 0 0]) ?_ 1 _ rfl;(with_reducible repeat (first|refine blk_drewN ?_ _|refine blk_drew ?_|refine blk_alloc ?_ _));refine blk_put (cs:=#[.string (⟨#[]⟩ : ByteArray),.string (⟨#[]⟩ : ByteArray),.slice none 0 0]) ?_ 0 _ rfl;(with_reducible repeat (first|refine blk_drewN ?_ _|refine blk_drew ?_|refine blk_alloc ?_ _));exact BK311.out) hb);have n4_:=Aside0.mk (below_step bl hb);clear BK308;clear BK309;clear BK311;clear HB;have HO316:=n0_;have BK308:=n1_;have BK309:=n2_;have BK311:=n3_;have HB:=n4_;clear n0_ n1_ n2_ n3_ n4_;have hnb17:=NB309_308.out;have hnc17:=NB308_309.out;obtain⟨_,_,_,_,_,_⟩:=bc3 BK309.out;obtain⟨Ao19,co19,eo19⟩:=Kd.V_slice HO316.out;subst eo19))
   refine bodyPost_ret (results_ct rfl _ _ gb309 24 #[.string t312,.string t313,.slice Ao19 t314.length co19] (0,0) _ rfl (by(with_reducible repeat (first|refine blk_drewN ?_ _|refine blk_drew ?_|refine blk_alloc ?_ _));refine blk_put (cs:=#[.string t312,.string t313,.slice none 0 0]) ?_ 2 _ rfl;(with_reducible repeat (first|refine blk_drewN ?_ _|refine blk_drew ?_|refine blk_alloc ?_ _));refine blk_put (cs:=#[.string t312,.string x310001_1,.slice none 0 0]) ?_ 1 _ rfl;(with_reducible repeat (first|refine blk_drewN ?_ _|refine blk_drew ?_|refine blk_alloc ?_ _));refine blk_put (cs:=#[.string x310000_1,.string x310001_1,.slice none 0 0]) ?_ 0 _ rfl;(with_reducible repeat (first|refine blk_drewN ?_ _|refine blk_drew ?_|refine blk_alloc ?_ _));exact BK309.out) Tryd.underlying24 rfl kr) rfl ?_
   exact⟨_,ew,by(with_reducible repeat (first|apply Kd.V_alloc|apply Kd.V_drewN|apply Kd.V_drew));exact Kd.V_mono (Kd.V_far (p:=⟨gb309,2,none⟩) (Kd.V_far (p:=⟨gb309,1,none⟩) (Kd.V_far (p:=⟨gb309,0,none⟩) (Kd.V_mono HO316.out (fun k_ hk=>(⟨hk,hk.2.2.1⟩ : _∧k_≠gb309))) (fun _ hk=>hk.2) (.string t312)) (fun _ hk=>hk.2) (.string t313)) (fun _ hk=>hk.2) (.slice Ao19 t314.length co19)) (fun _ hk=>hk.1.1),bl⟩
   }
   {
   have c10b0:(((rd_T24 l0_2 x11_1).f0).toList == a1.toList)=false:=beq_eq_false_iff_ne.mpr c10
   have c10b1:(((rd_T24 l0_2 x11_1).f0).toList != a1.toList)=true:=bne_iff_ne.mpr c10
   have H':=Aside0.mk H
   clear H
   have p310:0≤(x11_1:Int):=of_decide_eq_true asm
   have q310:x11_1<(l0_2.length:Int):=of_decide_eq_true asm
   obtain⟨ad310,A310_2,c310_2,e310,hx310_0,hx310_1,hx310_2,hl310_2,hi310_2⟩:=at_T24 HR0_2.out x11_1 p310 q310
   cases e310
   replace hx310_0:=(HB.out.cell (World.block_lt_of_cell? w _ hx310_0)).trans hx310_0
   replace hx310_1:=(HB.out.cell (World.block_lt_of_cell? w _ hx310_1)).trans hx310_1
   replace hx310_2:=(HB.out.cell (World.block_lt_of_cell? w _ hx310_2)).trans hx310_2
   have HR310_2:=Aside0.mk hi310_2
   have HC310_2:=Aside0.mk hl310_2
   clear hi310_2 hl310_2
   replace p310:=eq_true p310
   replace q310:=eq_true q310
   go_wp2_with (first|((with_reducible refine gate_dst (N:=7) rfl ?_);refine box_event ?hg (N:=7) ?hd (cs:=#[.string (⟨#[]⟩ : ByteArray),.string (⟨#[]⟩ : ByteArray),.slice none 0 0]) (t:=24) ?hr ?_;(case hd=>rfl);(case hg=>rfl);(case hr=>first|(go_simp;done)|(go_simp;rfl));intro gb311 hg w20 hbox hb;have n0_:=Aside0.mk (blk_below (g:=gb308) (o:=.cells #[.string a0_0,.string a0_1,.slice (some ad310) l0_2.length c0_2] 24 (0,0)) kl hb);have n1_:=Aside0.mk (blk_below (g:=gb309) (o:=.cells #[.string x310000_1,.string x310001_1,.slice none 0 0] 24 (0,0)) kl hb);have n2_:=Aside0.mk (below_step bl hb);have n3_:=Aside0.mk (hbox);have n4_:=Aside0.mk ((by rw [hg];exact(below_size bl):w.heap.size≤gb311));have n5_:=Aside0.mk ((by rw [hg];exact(below_size bl):w.heap.size≤gb311));have n6_:=Aside0.mk ((by rw [hg];exact Nat.ne_of_lt (blk_lt (g:=gb308) (o:=.cells #[.string a0_0,.string a0_1,.slice (some ad310) l0_2.length c0_2] 24 (0,0)) kl):gb308≠gb311));have n7_:=Aside0.mk ((by rw [hg];exact Nat.ne_of_gt (blk_lt (g:=gb308) (o:=.cells #[.string a0_0,.string a0_1,.slice (some ad310) l0_2.length c0_2] 24 (0,0)) kl):gb311≠gb308));have n8_:=Aside0.mk ((by rw [hg];exact Nat.ne_of_lt (blk_lt (g:=gb309) (o:=.cells #[.string x310000_1,.string x310001_1,.slice none 0 0] 24 (0,0)) kl):gb309≠gb311));have n9_:=Aside0.mk ((by rw [hg];exact Nat.ne_of_gt (blk_lt (g:=gb309) (o:=.cells #[.string x310000_1,.string x310001_1,.slice none 0 0] 24 (0,0)) kl):gb311≠gb309));clear BK308;clear BK309;clear HB;have BK308:=n0_;have BK309:=n1_;have HB:=n2_;have BK311:=n3_;have GW311:=n4_;have GE311:=n5_;have NB308_311:=n6_;have NB311_308:=n7_;have NB309_311:=n8_;have NB311_309:=n9_;clear n0_ n1_ n2_ n3_ n4_ n5_ n6_ n7_ n8_ n9_;clear hb hbox hg;have hnb21:=NB311_308.out;have hnc21:=NB308_311.out;have hnb22:=NB311_309.out;have hnc22:=NB309_311.out;obtain⟨_,_,_,_,_,_⟩:=bc3 BK311.out))
   go_roundg k1
   case measure=>have:=HK1.out;omega
   case rel=>exact⟨(wrap64 (x11_1+1)),(x310000_1),(x310001_1),rs,H',⟨by have:=HK1.out;omega⟩,⟨by(with_reducible repeat (first|refine blk_drewN ?_ _|refine blk_drew ?_|refine blk_alloc ?_ _));refine blk_far ?_ NB308_311.out _;(with_reducible repeat (first|refine blk_drewN ?_ _|refine blk_drew ?_|refine blk_alloc ?_ _));refine blk_far ?_ NB308_311.out _;(with_reducible repeat (first|refine blk_drewN ?_ _|refine blk_drew ?_|refine blk_alloc ?_ _));refine blk_far ?_ NB308_311.out _;(with_reducible repeat (first|refine blk_drewN ?_ _|refine blk_drew ?_|refine blk_alloc ?_ _));exact BK308.out⟩,⟨by(with_reducible repeat (first|refine blk_drewN ?_ _|refine blk_drew ?_|refine blk_alloc ?_ _));refine blk_far ?_ NB309_311.out _;(with_reducible repeat (first|refine blk_drewN ?_ _|refine blk_drew ?_|refine blk_alloc ?_ _));refine blk_far ?_ NB309_311.out _;(with_reducible repeat (first|refine blk_drewN ?_ _|refine blk_drew ?_|refine blk_alloc ?_ _));refine blk_far ?_ NB309_311.out _;(with_reducible repeat (first|refine blk_drewN ?_ _|refine blk_drew ?_|refine blk_alloc ?_ _));exact BK309.out⟩,⟨bl⟩⟩
   }
   }
   ·exact absurd H (by simp)
   }
   ·exact absurd H (by simp)
   }
   {
   have c7b0:decide (x11_1<(l0_2.length:Int))=false:=decide_eq_false c7
   clear c7
   simp only [Option.some.injEq,Prod.mk.injEq] at H
   obtain⟨rfl,rfl,rfl,rfl⟩:=H
   have hnb24:=NB309_308.out
   have hnc24:=NB308_309.out
   obtain⟨_,_,_,_,_,_⟩:=bc3 BK309.out
   go_wp2
   refine bodyPost_ret (results_ct rfl _ _ gb309 24 #[.string (⟨#[]⟩ : ByteArray),.string (⟨#[]⟩ : ByteArray),.slice none 0 0] (0,0) _ rfl (by(with_reducible repeat (first|refine blk_drewN ?_ _|refine blk_drew ?_|refine blk_alloc ?_ _));refine blk_put (cs:=#[.string (⟨#[]⟩ : ByteArray),.string (⟨#[]⟩ : ByteArray),.slice none 0 0]) ?_ 2 _ rfl;(with_reducible repeat (first|refine blk_drewN ?_ _|refine blk_drew ?_|refine blk_alloc ?_ _));refine blk_put (cs:=#[.string (⟨#[]⟩ : ByteArray),.string x310001_1,.slice none 0 0]) ?_ 1 _ rfl;(with_reducible repeat (first|refine blk_drewN ?_ _|refine blk_drew ?_|refine blk_alloc ?_ _));refine blk_put (cs:=#[.string x310000_1,.string x310001_1,.slice none 0 0]) ?_ 0 _ rfl;(with_reducible repeat (first|refine blk_drewN ?_ _|refine blk_drew ?_|refine blk_alloc ?_ _));exact BK309.out) Tryd.underlying24 rfl kr) rfl ?_
   exact⟨_,ew,nl,bl⟩
   }
def stowageref13_Kid.l0:Nat→ByteArray→Int→ByteArray→ByteArray→List (S30)→Option (ByteArray×ByteArray×(List (S30))×Bool)
  | 0,_,_,_,_,_=>none
  | k+1,x1,x6,x318000,x318001,x318002=>if x6<(x318002.length:Int) then(if 0≤x6 then(if((rd_T30 x318002 x6).f0).toList=x1.toList then(some ((rd_T30 x318002 x6).f0,(rd_T30 x318002 x6).f1,(rd_T30 x318002 x6).f2,true)) else(stowageref13_Kid.l0 k x1 (wrap64 (x6+1)) x318000 x318001 x318002)) else(none)) else(some ((⟨#[]⟩ : ByteArray),(⟨#[]⟩ : ByteArray),([]:List (S30)),false))
def stowageref13_Kid.f (k:Nat) (a0_0:ByteArray) (a0_1:ByteArray) (l0_2:List (S30)) (a1:ByteArray):Option (ByteArray×ByteArray×(List (S30))×Bool):=stowageref13_Kid.l0 k a1 0 a0_0 a0_1 l0_2
theorem stowageref13_Kid.mono_l:∀ k,(∀ y0 y1 y2 y3 y4,LeO (stowageref13_Kid.l0 k y0 y1 y2 y3 y4) (stowageref13_Kid.l0 (k+1) y0 y1 y2 y3 y4))
  | 0=>fun _ _ _ _ _ r h=>by simp [stowageref13_Kid.l0] at h
  | k+1=>by
    have ih0:=stowageref13_Kid.mono_l k
    · intro y0 y1 y2 y3 y4
      unfold stowageref13_Kid.l0
      with_reducible repeat' first|exact ih0 _ _ _ _ _|exact LeO.refl _|exact LeO.none _|refine LeO.ite ?_ ?_|refine LeO.bind ?_ (fun _=>?_)
theorem stowageref13_Kid.mono:∀ a0 a1 a2 a3 k,LeO (stowageref13_Kid.f k a0 a1 a2 a3) (stowageref13_Kid.f (k+1) a0 a1 a2 a3):=by
 intro a0 a1 a2 a3 k
 have ih0:=stowageref13_Kid.mono_l k
 unfold stowageref13_Kid.f
 with_reducible repeat' first|exact ih0 _ _ _ _ _|exact LeO.refl _|exact LeO.none _|refine LeO.ite ?_ ?_|refine LeO.bind ?_ (fun _=>?_)
theorem stowageref13_Kid.calls (k:Nat) (a0_0:ByteArray) (a0_1:ByteArray) (P0_2_:Nat→Prop) (A0_2:Option Addr) (c0_2:Nat) (l0_2:List (S30)) (a1:ByteArray) (r1:ByteArray) (r2:ByteArray) (r3:List (S30)) (r4:Bool) (w:World) (hs0_2:Kd.V k30 30 w w.heap.size (fun k_=>P0_2_ k_) (.slice A0_2 l0_2.length c0_2) l0_2) (h:stowageref13_Kid.f k a0_0 a0_1 l0_2 a1=some (r1,r2,r3,r4)) :
    Calls Tryd.prog 26 #[.agg #[.string a0_0,.string a0_1,.slice A0_2 l0_2.length c0_2],.string a1] w fun e w'=>∃ v2_:Value,e = .returned (.tuple #[.agg #[.string r1,.string r2,v2_],.bool r4])∧Kd.V k30 30 w' w.heap.size (fun k_=>(P0_2_ k_∨w.heap.size≤k_)) v2_ r3∧Below w.heap.size w w':=by
 have hu30:=Tryd.underlying30
 have HO0_2:=Aside0.mk (show Kd.V k30 30 w w.heap.size (fun k_=>(P0_2_ k_∨w.heap.size≤k_)) (.slice A0_2 l0_2.length c0_2) l0_2 from Kd.V_mono hs0_2 (fun k_ hk=>.inl hk))
 have HB:=Aside0.mk (Below.refl w.heap.size w)
 unfold stowageref13_Kid.f at h
 have H:=h
 clear h
 have H':=Aside0.mk H
 clear H
 go_enter Tryd.func26,Tryd.ntmps26
 go_wp2_with (first|((with_reducible refine gate_dst (N:=2) rfl ?_);refine box_event ?hg (N:=2) ?hd (cs:=#[.string a0_0,.string a0_1,.slice A0_2 l0_2.length c0_2]) (t:=30) ?hr ?_;(case hd=>rfl);(case hg=>rfl);(case hr=>first|(go_simp;done)|(go_simp;rfl));intro gb317 hg w3 hbox hb;have n0_:=Aside0.mk (Kd.V_below (Kd.V_elderB (by(with_reducible repeat (first|apply Kd.V_alloc|apply Kd.V_drewN|apply Kd.V_drew));exact HO0_2.out) gb317 (Nat.le_of_eq hg.symm)) hb);have n1_:=Aside0.mk (below_step bl hb);have n2_:=Aside0.mk (hbox);have n3_:=Aside0.mk ((by rw [hg];exact(below_size bl):w.heap.size≤gb317));have n4_:=Aside0.mk ((by rw [hg];exact(below_size bl):w.heap.size≤gb317));clear HO0_2;clear HB;have HO0_2:=n0_;have HB:=n1_;have BK317:=n2_;have GW317:=n3_;have GE317:=n4_;clear n0_ n1_ n2_ n3_ n4_;clear hb hbox hg)|((with_reducible refine gate_dst (N:=4) rfl ?_);refine box_event ?hg (N:=4) ?hd (cs:=#[.string (⟨#[]⟩ : ByteArray),.string (⟨#[]⟩ : ByteArray),.slice none 0 0]) (t:=30) ?hr ?_;(case hd=>rfl);(case hg=>rfl);(case hr=>first|(go_simp;done)|(go_simp;rfl));intro gb318 hg w4 hbox hb;have n0_:=Aside0.mk (Kd.V_below (Kd.V_elderB (by(with_reducible repeat (first|apply Kd.V_alloc|apply Kd.V_drewN|apply Kd.V_drew));exact HO0_2.out) gb318 (Nat.le_of_eq hg.symm)) hb);have n1_:=Aside0.mk (blk_below (g:=gb317) (o:=.cells #[.string a0_0,.string a0_1,.slice A0_2 l0_2.length c0_2] 30 (0,0)) kl hb);have n2_:=Aside0.mk (below_step bl hb);have n3_:=Aside0.mk (hbox);have n4_:=Aside0.mk ((by rw [hg];exact(below_size bl):w.heap.size≤gb318));have n5_:=Aside0.mk ((by rw [hg];exact(below_size bl):w.heap.size≤gb318));have n6_:=Aside0.mk ((by rw [hg];exact Nat.ne_of_lt (blk_lt (g:=gb317) (o:=.cells #[.string a0_0,.string a0_1,.slice A0_2 l0_2.length c0_2] 30 (0,0)) kl):gb317≠gb318));have n7_:=Aside0.mk ((by rw [hg];exact Nat.ne_of_gt (blk_lt (g:=gb317) (o:=.cells #[.string a0_0,.string a0_1,.slice A0_2 l0_2.length c0_2] 30 (0,0)) kl):gb318≠gb317));clear HO0_2;clear BK317;clear HB;have HO0_2:=n0_;have BK317:=n1_;have HB:=n2_;have BK318:=n3_;have GW318:=n4_;have GE318:=n5_;have NB317_318:=n6_;have NB318_317:=n7_;clear n0_ n1_ n2_ n3_ n4_ n5_ n6_ n7_;clear hb hbox hg))
 go_loopg [6] k (fun kq v6 w'=>∃ (x6_1:Int) (x319000_1:ByteArray) (x319001_1:ByteArray),v6 = .int .i64 x6_1∧Aside0 (stowageref13_Kid.l0 kq a1 x6_1 a0_0 a0_1 l0_2=some (r1,r2,r3,r4))∧Aside0 (kq≤k)∧Aside0 (Kd.V k30 30 w' w.heap.size (fun k_=>(P0_2_ k_∨w.heap.size≤k_)∧k_≠gb317∧k_≠gb318) (.slice A0_2 l0_2.length c0_2) l0_2)∧Aside0 (w'.heap[gb317]? = some (.cells #[.string a0_0,.string a0_1,(.slice A0_2 l0_2.length c0_2)] 30 (0,0)))∧Aside0 (w'.heap[gb318]? = some (.cells #[.string x319000_1,.string x319001_1,(.slice none 0 0)] 30 (0,0)))∧Aside0 (Below w.heap.size w w'))
 case atStart=>exact⟨(0),((⟨#[]⟩ : ByteArray)),((⟨#[]⟩ : ByteArray)),rs,H',⟨Nat.le_refl _⟩,⟨by(with_reducible repeat (first|apply Kd.V_alloc|apply Kd.V_drewN|apply Kd.V_drew));exact Kd.V_mono HO0_2.out (fun _ hk=>⟨hk.1.1,⟨hk.1.2,hk.2⟩⟩)⟩,⟨kl⟩,⟨kl⟩,⟨bl⟩⟩
 case round=>
  clear H'
  obtain⟨x6_1,x319000_1,x319001_1,rfl,HA,HK1,HO_318002,BK317,BK318,HB⟩:=hrel
  cases gk with
  | zero=>exact absurd HA.out (by simp [stowageref13_Kid.l0])
  | succ k1=>
   have H:=HA.out
   clear HA
   simp only [stowageref13_Kid.l0] at H
   replace H:=itO H
   rcases H with⟨c5,H⟩|⟨c5,H⟩
   {
   have c5b0:decide (x6_1<(l0_2.length:Int))=true:=decide_eq_true c5
   clear c5
   replace H:=itO H
   rcases H with⟨c6,H⟩|⟨c6,H⟩
   {
   have c6b0:decide (0≤x6_1)=true:=decide_eq_true c6
   clear c6
   replace H:=itO H
   rcases H with⟨c7,H⟩|⟨c7,H⟩
   {
   have c7b0:(((rd_T30 l0_2 x6_1).f0).toList == a1.toList)=true:=beq_iff_eq.mpr c7
   have c7b1:(((rd_T30 l0_2 x6_1).f0).toList != a1.toList)=false:=bne_eq_false_iff_eq.mpr c7
   clear c7
   simp only [Option.some.injEq,Prod.mk.injEq] at H
   obtain⟨rfl,rfl,rfl,rfl⟩:=H
   have hnb8:=NB317_318.out
   have hnc8:=NB318_317.out
   obtain⟨_,_,_,_,_,_⟩:=bc3 BK317.out
   have p319:0≤(x6_1:Int):=of_decide_eq_true asm
   have q319:x6_1<(l0_2.length:Int):=of_decide_eq_true asm
   obtain⟨ad319,A319_2,c319_2,e319,hx319_0,hx319_1,hx319_2,hl319_2,hi319_2⟩:=at_T30 (Kd.V_reads' HO_318002.out).2.2 x6_1 p319 q319
   cases e319
   obtain⟨ce319,hce319,hMe319,hcc319⟩:=Kd.V_get HO_318002.out z30 x6_1 p319 (by first|exact q319|exact of_decide_eq_true asm|(have e_:=(Kd.V_reads' HO_318002.out).1;omega))
   obtain⟨ua319_2,uc319_2,rfl,ul319_2,ge319_2⟩:=k30_openF hMe319
   have hv319_2:=hcc319 2 _ rfl
   rw [add_field _ _ 2 (by omega)] at hv319_2
   replace hv319_2:=Option.some.inj (hv319_2.symm.trans hx319_2)
   injection hv319_2 with hva_ hvn_ hvc_
   rw [hva_] at ge319_2
   rw [hvc_] at ul319_2
   have HL319_2:=Aside0.mk (show Kd.V k30 30 _ w.heap.size _ _ ((rd_T30 l0_2 x6_1).f2) from Kd.V_mk ul319_2 ge319_2)
   clear hva_ hvn_ hvc_ ge319_2 ul319_2
   clear hcc319 hce319
   have HR319_2:=Aside0.mk hi319_2
   have HC319_2:=Aside0.mk hl319_2
   clear hi319_2 hl319_2
   replace p319:=eq_true p319
   replace q319:=eq_true q319
   have p320:0≤(x6_1:Int):=of_decide_eq_true asm
   have q320:x6_1<(l0_2.length:Int):=of_decide_eq_true asm
   obtain⟨ad320,A320_2,c320_2,e320,hx320_0,hx320_1,hx320_2,hl320_2,hi320_2⟩:=at_T30 (Kd.V_reads' HO_318002.out).2.2 x6_1 p320 q320
   obtain rfl:ad319=ad320:=(by injection e320)
   obtain⟨ce320,hce320,hMe320,hcc320⟩:=Kd.V_get HO_318002.out z30 x6_1 p320 (by first|exact q320|exact of_decide_eq_true asm|(have e_:=(Kd.V_reads' HO_318002.out).1;omega))
   obtain⟨ua320_2,uc320_2,rfl,ul320_2,ge320_2⟩:=k30_openF hMe320
   have hv320_2:=hcc320 2 _ rfl
   rw [add_field _ _ 2 (by omega)] at hv320_2
   replace hv320_2:=Option.some.inj (hv320_2.symm.trans hx320_2)
   injection hv320_2 with hva_ hvn_ hvc_
   rw [hva_] at ge320_2
   rw [hvc_] at ul320_2
   have HL320_2:=Aside0.mk (show Kd.V k30 30 _ w.heap.size _ _ ((rd_T30 l0_2 x6_1).f2) from Kd.V_mk ul320_2 ge320_2)
   clear hva_ hvn_ hvc_ ge320_2 ul320_2
   clear hcc320 hce320
   have HR320_2:=Aside0.mk hi320_2
   have HC320_2:=Aside0.mk hl320_2
   clear hi320_2 hl320_2
   replace p320:=eq_true p320
   replace q320:=eq_true q320
   have ea_:=Option.some.inj (hx319_2.symm.trans hx320_2)
   injection ea_ with ea_ en_ ec_
   subst ea_
   subst ec_
   clear en_
   obtain⟨_,_,_,_,_,_⟩:=bc3 BK318.out
   go_wp2
   refine bodyPost_ret (results_ct rfl _ _ gb318 30 #[.string ((rd_T30 l0_2 x6_1).f0),.string ((rd_T30 l0_2 x6_1).f1),.slice A319_2 ((rd_T30 l0_2 x6_1).f2).length c319_2] (0,0) _ rfl (by(with_reducible repeat (first|refine blk_drewN ?_ _|refine blk_drew ?_|refine blk_alloc ?_ _));refine blk_put (cs:=#[.string ((rd_T30 l0_2 x6_1).f0),.string ((rd_T30 l0_2 x6_1).f1),.slice none 0 0]) ?_ 2 _ rfl;(with_reducible repeat (first|refine blk_drewN ?_ _|refine blk_drew ?_|refine blk_alloc ?_ _));refine blk_put (cs:=#[.string ((rd_T30 l0_2 x6_1).f0),.string x319001_1,.slice none 0 0]) ?_ 1 _ rfl;(with_reducible repeat (first|refine blk_drewN ?_ _|refine blk_drew ?_|refine blk_alloc ?_ _));refine blk_put (cs:=#[.string x319000_1,.string x319001_1,.slice none 0 0]) ?_ 0 _ rfl;(with_reducible repeat (first|refine blk_drewN ?_ _|refine blk_drew ?_|refine blk_alloc ?_ _));exact BK318.out) Tryd.underlying30 rfl kr) rfl ?_
   exact⟨_,ew,by(with_reducible repeat (first|apply Kd.V_alloc|apply Kd.V_drewN|apply Kd.V_drew));exact Kd.V_mono (Kd.V_far (p:=⟨gb318,2,none⟩) (Kd.V_far (p:=⟨gb318,1,none⟩) (Kd.V_far (p:=⟨gb318,0,none⟩) (Kd.V_mono HL320_2.out (fun k_ hk=>(⟨hk,hk.2.2⟩ : _∧k_≠gb318))) (fun _ hk=>hk.2) (.string ((rd_T30 l0_2 x6_1).f0))) (fun _ hk=>hk.2) (.string ((rd_T30 l0_2 x6_1).f1))) (fun _ hk=>hk.2) (.slice A319_2 ((rd_T30 l0_2 x6_1).f2).length c319_2)) (fun _ hk=>hk.1.1),bl⟩
   }
   {
   have c7b0:(((rd_T30 l0_2 x6_1).f0).toList == a1.toList)=false:=beq_eq_false_iff_ne.mpr c7
   have c7b1:(((rd_T30 l0_2 x6_1).f0).toList != a1.toList)=true:=bne_iff_ne.mpr c7
   have H':=Aside0.mk H
   clear H
   have hnb11:=NB317_318.out
   have hnc11:=NB318_317.out
   obtain⟨_,_,_,_,_,_⟩:=bc3 BK317.out
   have p319:0≤(x6_1:Int):=of_decide_eq_true asm
   have q319:x6_1<(l0_2.length:Int):=of_decide_eq_true asm
   obtain⟨ad319,A319_2,c319_2,e319,hx319_0,hx319_1,hx319_2,hl319_2,hi319_2⟩:=at_T30 (Kd.V_reads' HO_318002.out).2.2 x6_1 p319 q319
   cases e319
   obtain⟨ce319,hce319,hMe319,hcc319⟩:=Kd.V_get HO_318002.out z30 x6_1 p319 (by first|exact q319|exact of_decide_eq_true asm|(have e_:=(Kd.V_reads' HO_318002.out).1;omega))
   obtain⟨ua319_2,uc319_2,rfl,ul319_2,ge319_2⟩:=k30_openF hMe319
   have hv319_2:=hcc319 2 _ rfl
   rw [add_field _ _ 2 (by omega)] at hv319_2
   replace hv319_2:=Option.some.inj (hv319_2.symm.trans hx319_2)
   injection hv319_2 with hva_ hvn_ hvc_
   rw [hva_] at ge319_2
   rw [hvc_] at ul319_2
   have HL319_2:=Aside0.mk (show Kd.V k30 30 _ w.heap.size _ _ ((rd_T30 l0_2 x6_1).f2) from Kd.V_mk ul319_2 ge319_2)
   clear hva_ hvn_ hvc_ ge319_2 ul319_2
   clear hcc319 hce319
   have HR319_2:=Aside0.mk hi319_2
   have HC319_2:=Aside0.mk hl319_2
   clear hi319_2 hl319_2
   replace p319:=eq_true p319
   replace q319:=eq_true q319
   go_wp2
   go_roundg k1
   case measure=>have:=HK1.out;omega
   case rel=>exact⟨(wrap64 (x6_1+1)),(x319000_1),(x319001_1),rs,H',⟨by have:=HK1.out;omega⟩,⟨by(with_reducible repeat (first|apply Kd.V_alloc|apply Kd.V_drewN|apply Kd.V_drew));exact HO_318002.out⟩,⟨kl⟩,⟨kl⟩,⟨bl⟩⟩
   }
   }
   ·exact absurd H (by simp)
   }
   {
   have c5b0:decide (x6_1<(l0_2.length:Int))=false:=decide_eq_false c5
   clear c5
   simp only [Option.some.injEq,Prod.mk.injEq] at H
   obtain⟨rfl,rfl,rfl,rfl⟩:=H
   have hnb13:=NB317_318.out
   have hnc13:=NB318_317.out
   obtain⟨_,_,_,_,_,_⟩:=bc3 BK317.out
   obtain⟨_,_,_,_,_,_⟩:=bc3 BK318.out
   go_wp2
   refine bodyPost_ret (results_ct rfl _ _ gb318 30 #[.string (⟨#[]⟩ : ByteArray),.string (⟨#[]⟩ : ByteArray),.slice none 0 0] (0,0) _ rfl (by(with_reducible repeat (first|refine blk_drewN ?_ _|refine blk_drew ?_|refine blk_alloc ?_ _));refine blk_put (cs:=#[.string (⟨#[]⟩ : ByteArray),.string (⟨#[]⟩ : ByteArray),.slice none 0 0]) ?_ 2 _ rfl;(with_reducible repeat (first|refine blk_drewN ?_ _|refine blk_drew ?_|refine blk_alloc ?_ _));refine blk_put (cs:=#[.string (⟨#[]⟩ : ByteArray),.string x319001_1,.slice none 0 0]) ?_ 1 _ rfl;(with_reducible repeat (first|refine blk_drewN ?_ _|refine blk_drew ?_|refine blk_alloc ?_ _));refine blk_put (cs:=#[.string x319000_1,.string x319001_1,.slice none 0 0]) ?_ 0 _ rfl;(with_reducible repeat (first|refine blk_drewN ?_ _|refine blk_drew ?_|refine blk_alloc ?_ _));exact BK318.out) Tryd.underlying30 rfl kr) rfl ?_
   exact⟨_,ew,nl,bl⟩
   }
mutual
def stowageref13_Same.j0:Nat→Bool→ByteArray→ByteArray→List (S30)→ByteArray→ByteArray→List (S30)→Option (Bool)
  | 0,_,_,_,_,_,_,_=>none
  | k+1,x26,x252000,x252001,x252002,x253000,x253001,x253002=>if x26=true then(some false) else(stowageref13_Same.l0 k 0 x252000 x252001 x252002 x253000 x253001 x253002)
def stowageref13_Same.l0:Nat→Int→ByteArray→ByteArray→List (S30)→ByteArray→ByteArray→List (S30)→Option (Bool)
  | 0,_,_,_,_,_,_,_=>none
  | k+1,x5,x252000,x252001,x252002,x253000,x253001,x253002=>if x5<(x252002.length:Int) then(if 0≤x5 then(if x5<(x253002.length:Int) then((stowageref13_Same.f k ((rd_T30 x252002 x5).f0) ((rd_T30 x252002 x5).f1) ((rd_T30 x252002 x5).f2) ((rd_T30 x253002 x5).f0) ((rd_T30 x253002 x5).f1) ((rd_T30 x253002 x5).f2)).bind fun t255=>(if t255=true then(stowageref13_Same.l0 k (wrap64 (x5+1)) x252000 x252001 x252002 x253000 x253001 x253002) else(some false))) else(none)) else(none)) else(some true)
def stowageref13_Same.f:Nat→ByteArray→ByteArray→List (S30)→ByteArray→ByteArray→List (S30)→Option (Bool)
  | 0,_,_,_,_,_,_=>none
  | k+1,a0_0,a0_1,l0_2,a1_0,a1_1,l1_2=>if a0_0.toList=a1_0.toList then(if a0_1.toList=a1_1.toList then(stowageref13_Same.j0 k ((l0_2.length:Int) != (l1_2.length:Int)) a0_0 a0_1 l0_2 a1_0 a1_1 l1_2) else(stowageref13_Same.j0 k true a0_0 a0_1 l0_2 a1_0 a1_1 l1_2)) else(stowageref13_Same.j0 k true a0_0 a0_1 l0_2 a1_0 a1_1 l1_2)
end
theorem stowageref13_Same.mono_l:∀ k,(∀ y0 y1 y2 y3 y4 y5,LeO (stowageref13_Same.f k y0 y1 y2 y3 y4 y5) (stowageref13_Same.f (k+1) y0 y1 y2 y3 y4 y5))∧(∀ y0 y1 y2 y3 y4 y5 y6,LeO (stowageref13_Same.j0 k y0 y1 y2 y3 y4 y5 y6) (stowageref13_Same.j0 (k+1) y0 y1 y2 y3 y4 y5 y6))∧(∀ y0 y1 y2 y3 y4 y5 y6,LeO (stowageref13_Same.l0 k y0 y1 y2 y3 y4 y5 y6) (stowageref13_Same.l0 (k+1) y0 y1 y2 y3 y4 y5 y6))
  | 0=>⟨fun _ _ _ _ _ _ r h=>by simp [stowageref13_Same.f] at h,fun _ _ _ _ _ _ _ r h=>by simp [stowageref13_Same.j0] at h,fun _ _ _ _ _ _ _ r h=>by simp [stowageref13_Same.l0] at h⟩
  | k+1=>by
    obtain⟨ih0,ih1,ih2⟩:=stowageref13_Same.mono_l k
    refine⟨?_,?_,?_⟩
    · intro y0 y1 y2 y3 y4 y5
      unfold stowageref13_Same.f
      with_reducible repeat' first|exact ih0 _ _ _ _ _ _|exact ih1 _ _ _ _ _ _ _|exact ih2 _ _ _ _ _ _ _|exact LeO.refl _|exact LeO.none _|refine LeO.ite ?_ ?_|refine LeO.bind ?_ (fun _=>?_)
    · intro y0 y1 y2 y3 y4 y5 y6
      unfold stowageref13_Same.j0
      with_reducible repeat' first|exact ih0 _ _ _ _ _ _|exact ih1 _ _ _ _ _ _ _|exact ih2 _ _ _ _ _ _ _|exact LeO.refl _|exact LeO.none _|refine LeO.ite ?_ ?_|refine LeO.bind ?_ (fun _=>?_)
    · intro y0 y1 y2 y3 y4 y5 y6
      unfold stowageref13_Same.l0
      with_reducible repeat' first|exact ih0 _ _ _ _ _ _|exact ih1 _ _ _ _ _ _ _|exact ih2 _ _ _ _ _ _ _|exact LeO.refl _|exact LeO.none _|refine LeO.ite ?_ ?_|refine LeO.bind ?_ (fun _=>?_)
theorem stowageref13_Same.mono:∀ a0 a1 a2 a3 a4 a5 k,LeO (stowageref13_Same.f k a0 a1 a2 a3 a4 a5) (stowageref13_Same.f (k+1) a0 a1 a2 a3 a4 a5):=by
 intro a0 a1 a2 a3 a4 a5 k
 obtain⟨ih0,ih1,ih2⟩:=stowageref13_Same.mono_l k
 exact ih0 a0 a1 a2 a3 a4 a5
def stowageref13_Same.T6:Bool×List (List Nat×List Nat):=(true,[([],[]),([0],[0]),([],[]),([1,2],[1,2]),([3],[3]),([],[]),([5],[5]),([],[]),([6,7],[6,7]),([8],[8]),([4,9],[4,9]),([10],[10])])
def stowageref13_Same.B6:List Nat:=[0,1,0,7,15,0,32,0,224,480,1023,2047]
theorem stowageref13_Same.tab6:rtab .any (opsOf Tryd.f12 6)=stowageref13_Same.T6:=by kernel_rfl
theorem stowageref13_Same.bits6:waitsOk stowageref13_Same.T6.2 stowageref13_Same.B6=true:=by kernel_rfl
theorem stowageref13_Same.calls (k:Nat):∀ (a0_0:ByteArray) (a0_1:ByteArray) (A0_2:Option Addr) (c0_2:Nat) (l0_2:List (S30)) (a1_0:ByteArray) (a1_1:ByteArray) (A1_2:Option Addr) (c1_2:Nat) (l1_2:List (S30)) (r:Bool) (w:World) (hr0_2:Kd.C k30 w A0_2 l0_2.length l0_2) (hc0_2:l0_2.length≤c0_2) (hr1_2:Kd.C k30 w A1_2 l1_2.length l1_2) (hc1_2:l1_2.length≤c1_2) (h:stowageref13_Same.f k a0_0 a0_1 l0_2 a1_0 a1_1 l1_2=some r),
    Calls Tryd.prog 12 #[.agg #[.string a0_0,.string a0_1,.slice A0_2 l0_2.length c0_2],.agg #[.string a1_0,.string a1_1,.slice A1_2 l1_2.length c1_2]] w fun e w'=>e = .returned (.bool r)∧Below w.heap.size w w':=by
 induction k using Nat.strongRecOn with
 | _ k ih=>
 intro a0_0 a0_1 A0_2 c0_2 l0_2 a1_0 a1_1 A1_2 c1_2 l1_2 r w hr0_2 hc0_2 hr1_2 hc1_2 h
 cases k with
 | zero=>exact absurd h (by simp [stowageref13_Same.f])
 | succ k=>
 simp only [stowageref13_Same.f] at h
 have hu30:=Tryd.underlying30
 have HR0_2:=Aside0.mk hr0_2
 have HC0_2:=Aside0.mk hc0_2
 clear hr0_2 hc0_2
 have HR1_2:=Aside0.mk hr1_2
 have HC1_2:=Aside0.mk hc1_2
 clear hr1_2 hc1_2
 have HB:=Aside0.mk (Below.refl w.heap.size w)
 have H:(if a0_0.toList=a1_0.toList then(if a0_1.toList=a1_1.toList then(stowageref13_Same.j0 k ((l0_2.length:Int) != (l1_2.length:Int)) a0_0 a0_1 l0_2 a1_0 a1_1 l1_2) else(stowageref13_Same.j0 k true a0_0 a0_1 l0_2 a1_0 a1_1 l1_2)) else(stowageref13_Same.j0 k true a0_0 a0_1 l0_2 a1_0 a1_1 l1_2))=some r:=h
 clear h
 have HC3:=Aside0.mk H
 clear H
 go_enter Tryd.func12,Tryd.ntmps12
 go_upto_region 1 with(first|((with_reducible refine gate_dst (N:=2) rfl ?_);(try (refine gate_guard (by rfl) ?_;dsimp only));refine box_event ?hg (N:=2) ?hd (cs:=#[.string a0_0,.string a0_1,.slice A0_2 l0_2.length c0_2]) (t:=30) ?hr ?_;(case hd=>rfl);(case hg=>rfl);(case hr=>first|(go_simp;done)|(go_simp;rfl));intro gb251 hg w4 hbox hb;have n0_:=Aside0.mk (below_step bl hb);have n1_:=Aside0.mk (hbox);have n2_:=Aside0.mk ((by rw [hg];exact(below_size bl):w.heap.size≤gb251));have n3_:=Aside0.mk ((by rw [hg];exact(below_size bl):w.heap.size≤gb251));clear HB;have HB:=n0_;have BK251:=n1_;have GW251:=n2_;have GE251:=n3_;clear n0_ n1_ n2_ n3_;clear hb hbox hg)|((with_reducible refine gate_dst (N:=3) rfl ?_);(try (refine gate_guard (by rfl) ?_;dsimp only));refine box_event ?hg (N:=3) ?hd (cs:=#[.string a1_0,.string a1_1,.slice A1_2 l1_2.length c1_2]) (t:=30) ?hr ?_;(case hd=>rfl);(case hg=>rfl);(case hr=>first|(go_simp;done)|(go_simp;rfl));intro gb252 hg w5 hbox hb;have n0_:=Aside0.mk (blk_below (g:=gb251) (o:=.cells #[.string a0_0,.string a0_1,.slice A0_2 l0_2.length c0_2] 30 (0,0)) kl hb);have n1_:=Aside0.mk (below_step bl hb);have n2_:=Aside0.mk (hbox);have n3_:=Aside0.mk ((by rw [hg];exact(below_size bl):w.heap.size≤gb252));have n4_:=Aside0.mk ((by rw [hg];exact(below_size bl):w.heap.size≤gb252));have n5_:=Aside0.mk ((by rw [hg];exact Nat.ne_of_lt (blk_lt (g:=gb251) (o:=.cells #[.string a0_0,.string a0_1,.slice A0_2 l0_2.length c0_2] 30 (0,0)) kl):gb251≠gb252));have n6_:=Aside0.mk ((by rw [hg];exact Nat.ne_of_gt (blk_lt (g:=gb251) (o:=.cells #[.string a0_0,.string a0_1,.slice A0_2 l0_2.length c0_2] 30 (0,0)) kl):gb252≠gb251));clear BK251;clear HB;have BK251:=n0_;have HB:=n1_;have BK252:=n2_;have GW252:=n3_;have GE252:=n4_;have NB251_252:=n5_;have NB252_251:=n6_;clear n0_ n1_ n2_ n3_ n4_ n5_ n6_;clear hb hbox hg))
 (try simp only [Act.put,l1,l2,l3])
 go_cut [26] (fun v26 wc=>∃ (kq:Nat) (x26_2:Bool),v26 = .bool x26_2∧Aside0 (stowageref13_Same.j0 kq x26_2 a0_0 a0_1 l0_2 a1_0 a1_1 l1_2=some r)∧Aside0 (kq≤k)∧Aside0 (wc.heap[gb251]? = some (.cells #[.string a0_0,.string a0_1,(.slice A0_2 l0_2.length c0_2)] 30 (0,0)))∧Aside0 (wc.heap[gb252]? = some (.cells #[.string a1_0,.string a1_1,(.slice A1_2 l1_2.length c1_2)] 30 (0,0)))∧Aside0 (Below w.heap.size w wc))
 case first=>
  have H:=HC3.out
  clear HC3
  replace H:=itO H
  rcases H with⟨c6,H⟩|⟨c6,H⟩
  {
  have c6b0:(a0_0.toList == a1_0.toList)=true:=beq_iff_eq.mpr c6
  clear c6
  (first|rw [c6b0]|(simp only [i64_w,i32_w];rw [c6b0])|skip)
  replace H:=itO H
  rcases H with⟨c7,H⟩|⟨c7,H⟩
  {
  have c7b0:(a0_1.toList == a1_1.toList)=true:=beq_iff_eq.mpr c7
  clear c7
  have H':=Aside0.mk H
  clear H
  have hnb8:=NB251_252.out
  have hnc8:=NB252_251.out
  obtain⟨_,_,_,_,_,_⟩:=bc3 BK251.out
  obtain⟨_,_,_,_,_,_⟩:=bc3 BK252.out
  go_wp2
  go_meet
  case rel=>exact⟨_,(((l0_2.length:Int) != (l1_2.length:Int))),rs,H',⟨by first|omega|exact Nat.le_refl _⟩,⟨kl⟩,⟨kl⟩,⟨bl⟩⟩
  }
  {
  have c7b0:(a0_1.toList == a1_1.toList)=false:=beq_eq_false_iff_ne.mpr c7
  have H':=Aside0.mk H
  clear H
  have hnb11:=NB251_252.out
  have hnc11:=NB252_251.out
  obtain⟨_,_,_,_,_,_⟩:=bc3 BK251.out
  obtain⟨_,_,_,_,_,_⟩:=bc3 BK252.out
  go_wp2
  go_meet
  case rel=>exact⟨_,(true),rs,H',⟨by first|omega|exact Nat.le_refl _⟩,⟨kl⟩,⟨kl⟩,⟨bl⟩⟩
  }
  }
  {
  have c6b0:(a0_0.toList == a1_0.toList)=false:=beq_eq_false_iff_ne.mpr c6
  (first|rw [c6b0]|(simp only [i64_w,i32_w];rw [c6b0])|skip)
  have H':=Aside0.mk H
  clear H
  have hnb14:=NB251_252.out
  have hnc14:=NB252_251.out
  obtain⟨_,_,_,_,_,_⟩:=bc3 BK251.out
  obtain⟨_,_,_,_,_,_⟩:=bc3 BK252.out
  go_wp2
  go_meet
  case rel=>exact⟨_,(true),rs,H',⟨by first|omega|exact Nat.le_refl _⟩,⟨kl⟩,⟨kl⟩,⟨bl⟩⟩
  }
 case rest=>
  clear HC3
  obtain⟨kq,x26_2,rfl,HA,HJ2,BK251,BK252,HB⟩:=hcut
  cases kq with
  | zero=>exact absurd HA.out (by simp [stowageref13_Same.j0])
  | succ kj2=>
   have H:=HA.out
   clear HA
   simp only [stowageref13_Same.j0] at H
   by_cases c17:x26_2=true
   {
   subst c17
   replace H:=itT H
   obtain rfl:=Option.some.inj H
   go_wp2
   go_ret
   exact⟨ew,bl⟩
   }
   {
   replace c17:=Bool.eq_false_iff.mpr c17
   subst c17
   replace H:=itF H
   have H':=Aside0.mk H
   clear H
   go_wp2
   go_loopg [5] kj2 (fun kq v5 w'=>∃ (x5_2:Int),v5 = .int .i64 x5_2∧Aside0 (stowageref13_Same.l0 kq x5_2 a0_0 a0_1 l0_2 a1_0 a1_1 l1_2=some r)∧Aside0 (kq≤kj2)∧Aside0 (w'.heap[gb251]? = some (.cells #[.string a0_0,.string a0_1,(.slice A0_2 l0_2.length c0_2)] 30 (0,0)))∧Aside0 (w'.heap[gb252]? = some (.cells #[.string a1_0,.string a1_1,(.slice A1_2 l1_2.length c1_2)] 30 (0,0)))∧Aside0 (Below w.heap.size w w'))
   case atStart=>exact⟨(0),rs,H',⟨Nat.le_refl _⟩,⟨kl⟩,⟨kl⟩,⟨bl⟩⟩
   case round=>
    clear H'
    obtain⟨x5_2,rfl,HA,HK2,BK251,BK252,HB⟩:=hrel
    cases gk with
    | zero=>exact absurd HA.out (by simp [stowageref13_Same.l0])
    | succ k2=>
     have H:=HA.out
     clear HA
     simp only [stowageref13_Same.l0] at H
     replace H:=itO H
     rcases H with⟨c18,H⟩|⟨c18,H⟩
     {
     have c18b0:decide (x5_2<(l0_2.length:Int))=true:=decide_eq_true c18
     clear c18
     replace H:=itO H
     rcases H with⟨c19,H⟩|⟨c19,H⟩
     {
     have c19b0:decide (0≤x5_2)=true:=decide_eq_true c19
     clear c19
     replace H:=itO H
     rcases H with⟨c20,H⟩|⟨c20,H⟩
     {
     have c20b0:decide (x5_2<(l1_2.length:Int))=true:=decide_eq_true c20
     clear c20
     replace H:=bndO H
     obtain⟨t255,A210,H⟩:=H
     have A21:=Aside0.mk A210
     clear A210
     by_cases c22:t255=true
     {
     subst c22
     replace H:=itT H
     have H':=Aside0.mk H
     clear H
     have hnb23:=NB251_252.out
     have hnc23:=NB252_251.out
     obtain⟨_,_,_,_,_,_⟩:=bc3 BK251.out
     try go_wp2
     have n0_:=Aside0.mk (blk_drew BK251.out)
     have n1_:=Aside0.mk (blk_drew BK252.out)
     have n2_:=Aside0.mk (below_drew1 HB.out)
     clear BK251
     clear BK252
     clear HB
     have BK251:=n0_
     have BK252:=n1_
     have HB:=n2_
     clear n0_ n1_ n2_
     have p253:0≤(x5_2:Int):=of_decide_eq_true asm
     have q253:x5_2<(l0_2.length:Int):=of_decide_eq_true asm
     obtain⟨ad253,A253_2,c253_2,e253,hx253_0,hx253_1,hx253_2,hl253_2,hi253_2⟩:=at_T30 HR0_2.out x5_2 p253 q253
     have hw253_2:=hx253_2
     have hw253_1:=hx253_1
     have hw253_0:=hx253_0
     cases e253
     replace hx253_0:=(HB.out.cell (World.block_lt_of_cell? w _ hx253_0)).trans hx253_0
     replace hx253_1:=(HB.out.cell (World.block_lt_of_cell? w _ hx253_1)).trans hx253_1
     replace hx253_2:=(HB.out.cell (World.block_lt_of_cell? w _ hx253_2)).trans hx253_2
     have HR253_2:=Aside0.mk hi253_2
     have HC253_2:=Aside0.mk hl253_2
     clear hi253_2 hl253_2
     replace p253:=eq_true p253
     replace q253:=eq_true q253
     have p254:0≤(x5_2:Int):=of_decide_eq_true asm
     have q254:x5_2<(l1_2.length:Int):=of_decide_eq_true asm
     obtain⟨ad254,A254_2,c254_2,e254,hx254_0,hx254_1,hx254_2,hl254_2,hi254_2⟩:=at_T30 HR1_2.out x5_2 p254 q254
     have hw254_2:=hx254_2
     have hw254_1:=hx254_1
     have hw254_0:=hx254_0
     cases e254
     replace hx254_0:=(HB.out.cell (World.block_lt_of_cell? w _ hx254_0)).trans hx254_0
     replace hx254_1:=(HB.out.cell (World.block_lt_of_cell? w _ hx254_1)).trans hx254_1
     replace hx254_2:=(HB.out.cell (World.block_lt_of_cell? w _ hx254_2)).trans hx254_2
     have HR254_2:=Aside0.mk hi254_2
     have HC254_2:=Aside0.mk hl254_2
     clear hi254_2 hl254_2
     replace p254:=eq_true p254
     replace q254:=eq_true q254
     refine start_ (n:=12) (S:=fun w'=>w'.cell? ⟨gb251,0,none⟩=some (.string a0_0)∧w'.cell? ⟨gb251,1,none⟩=some (.string a0_1)∧w'.cell? ⟨gb251,2,none⟩=some (.slice (some ad253) l0_2.length c0_2)∧w'.cell? ⟨gb252,0,none⟩=some (.string a1_0)∧w'.cell? ⟨gb252,1,none⟩=some (.string a1_1)∧w'.cell? ⟨gb252,2,none⟩=some (.slice (some ad254) l1_2.length c1_2)∧w'.cell? (ad253.add ((x5_2).toNat*3))=some (.string ((rd_T30 l0_2 x5_2).f0))∧w'.cell? ⟨(ad253.add ((x5_2).toNat*3)).block,(ad253.add ((x5_2).toNat*3)).off+1,none⟩=some (.string ((rd_T30 l0_2 x5_2).f1))∧w'.cell? ⟨(ad253.add ((x5_2).toNat*3)).block,(ad253.add ((x5_2).toNat*3)).off+2,none⟩=some (.slice A253_2 ((rd_T30 l0_2 x5_2).f2).length c253_2)∧w'.cell? (ad254.add ((x5_2).toNat*3))=some (.string ((rd_T30 l1_2 x5_2).f0))∧w'.cell? ⟨(ad254.add ((x5_2).toNat*3)).block,(ad254.add ((x5_2).toNat*3)).off+1,none⟩=some (.string ((rd_T30 l1_2 x5_2).f1))∧w'.cell? ⟨(ad254.add ((x5_2).toNat*3)).block,(ad254.add ((x5_2).toNat*3)).off+2,none⟩=some (.slice A254_2 ((rd_T30 l1_2 x5_2).f2).length c254_2)) (ds:=[]) #[F,F,F,F,F,F,F,F,F,F,F,F] kr rfl rfl ⟨(blk_cell BK251.out 0).trans rfl,(blk_cell BK251.out 1).trans rfl,(blk_cell BK251.out 2).trans rfl,(blk_cell BK252.out 0).trans rfl,(blk_cell BK252.out 1).trans rfl,(blk_cell BK252.out 2).trans rfl,((HB.out.cell (World.block_lt_of_cell? w _ hw253_0)).trans hw253_0),((HB.out.cell (World.block_lt_of_cell? w _ hw253_1)).trans hw253_1),((HB.out.cell (World.block_lt_of_cell? w _ hw253_2)).trans hw253_2),((HB.out.cell (World.block_lt_of_cell? w _ hw254_0)).trans hw254_0),((HB.out.cell (World.block_lt_of_cell? w _ hw254_1)).trans hw254_1),((HB.out.cell (World.block_lt_of_cell? w _ hw254_2)).trans hw254_2)⟩ (fun hHeld=>?_);refine with_tabW stowageref13_Same.tab6 stowageref13_Same.bits6 (fun HT_ HW_=>?_)
     generalize wr.drew=w25 at BK251 BK252 HB HR253_2 HR254_2 hx253_0 hx253_1 hx253_2 hx254_0 hx254_1 hx254_2 hHeld ⊢
     refine pure_ (i:=0) (N:=some 34) (v:=?_) (a':=?_) #[T,F,F,F,F,F,F,F,F,F,F,F] rfl rfl (any_of HT_.out kr) (fun _ _ _ h=>h) (Or.inl ⟨by rfl,?_⟩) ?_ ?_
     rotate_left
     {
     intro w'
     go_simp
     with_reducible rfl
     }
     rotate_left
     {
     simp only [Act.put,l1,l2,l3,i64_w,i32_w]
     rfl
     }
     refine pure_ (i:=2) (N:=some 36) (v:=?_) (a':=?_) #[T,F,T,F,F,F,F,F,F,F,F,F] rfl rfl (any_of HT_.out kr) (fun _ _ _ h=>h) (Or.inl ⟨by rfl,?_⟩) ?_ ?_
     rotate_left
     {
     intro w'
     go_simp
     with_reducible rfl
     }
     rotate_left
     {
     simp only [Act.put,l1,l2,l3,i64_w,i32_w]
     rfl
     }
     refine pure_ (i:=5) (N:=some 39) (v:=?_) (a':=?_) #[T,F,T,F,F,T,F,F,F,F,F,F] rfl rfl (any_of HT_.out kr) (fun _ _ _ h=>h) (Or.inl ⟨by rfl,?_⟩) ?_ ?_
     rotate_left
     {
     intro w'
     go_simp
     with_reducible rfl
     }
     rotate_left
     {
     simp only [Act.put,l1,l2,l3,i64_w,i32_w]
     rfl
     }
     refine pure_ (i:=7) (N:=some 41) (v:=?_) (a':=?_) #[T,F,T,F,F,T,F,T,F,F,F,F] rfl rfl (any_of HT_.out kr) (fun _ _ _ h=>h) (Or.inl ⟨by rfl,?_⟩) ?_ ?_
     rotate_left
     {
     intro w'
     go_simp
     with_reducible rfl
     }
     rotate_left
     {
     simp only [Act.put,l1,l2,l3,i64_w,i32_w]
     rfl
     }
     refine take_ (i:=1) (N:=some 35) (v:=?_) (a':=?_) #[T,T,T,F,F,T,F,T,F,F,F,F] rfl rfl (take_ofW HT_.out HW_.out kr) (fun _ _ _ h=>h) (Or.inl ⟨by rfl,?_⟩) hHeld ?_ ?_
     rotate_left
     {
     rintro w' ⟨s0,s1,s2,s3,s4,s5,s6,s7,s8,s9,s10,s11⟩
     go_simp
     with_reducible rfl
     }
     rotate_left
     {
     simp only [Act.put,l1,l2,l3,i64_w,i32_w]
     rfl
     }
     refine pure_ (i:=3) (N:=some 37) (v:=?_) (a':=?_) #[T,T,T,T,F,T,F,T,F,F,F,F] rfl rfl (any_of HT_.out kr) (fun _ _ _ h=>h) (Or.inl ⟨by rfl,?_⟩) ?_ ?_
     rotate_left
     {
     intro w'
     go_simp
     with_reducible rfl
     }
     rotate_left
     {
     simp only [Act.put,l1,l2,l3,i64_w,i32_w]
     rfl
     }
     refine take_ (i:=4) (N:=some 38) (v:=?_) (a':=?_) #[T,T,T,T,T,T,F,T,F,F,F,F] rfl rfl (take_ofW HT_.out HW_.out kr) (fun _ _ _ h=>h) (Or.inl ⟨by rfl,?_⟩) hHeld ?_ ?_
     rotate_left
     {
     rintro w' ⟨s0,s1,s2,s3,s4,s5,s6,s7,s8,s9,s10,s11⟩
     go_simp
     with_reducible rfl
     }
     rotate_left
     {
     simp only [Act.put,l1,l2,l3,i64_w,i32_w]
     rfl
     }
     refine take_ (i:=6) (N:=some 40) (v:=?_) (a':=?_) #[T,T,T,T,T,T,T,T,F,F,F,F] rfl rfl (take_ofW HT_.out HW_.out kr) (fun _ _ _ h=>h) (Or.inl ⟨by rfl,?_⟩) hHeld ?_ ?_
     rotate_left
     {
     rintro w' ⟨s0,s1,s2,s3,s4,s5,s6,s7,s8,s9,s10,s11⟩
     go_simp
     with_reducible rfl
     }
     rotate_left
     {
     simp only [Act.put,l1,l2,l3,i64_w,i32_w]
     rfl
     }
     refine pure_ (i:=8) (N:=some 42) (v:=?_) (a':=?_) #[T,T,T,T,T,T,T,T,T,F,F,F] rfl rfl (any_of HT_.out kr) (fun _ _ _ h=>h) (Or.inl ⟨by rfl,?_⟩) ?_ ?_
     rotate_left
     {
     intro w'
     go_simp
     with_reducible rfl
     }
     rotate_left
     {
     simp only [Act.put,l1,l2,l3,i64_w,i32_w]
     rfl
     }
     refine take_ (i:=9) (N:=some 43) (v:=?_) (a':=?_) #[T,T,T,T,T,T,T,T,T,T,F,F] rfl rfl (take_ofW HT_.out HW_.out kr) (fun _ _ _ h=>h) (Or.inl ⟨by rfl,?_⟩) hHeld ?_ ?_
     rotate_left
     {
     rintro w' ⟨s0,s1,s2,s3,s4,s5,s6,s7,s8,s9,s10,s11⟩
     go_simp
     with_reducible rfl
     }
     rotate_left
     {
     simp only [Act.put,l1,l2,l3,i64_w,i32_w]
     rfl
     }
     refine one_ (i:=10) (N:=some 44) #[T,T,T,T,T,T,T,T,T,T,T,F] rfl rfl (one_of HT_.out kr) (by decide) (fun K hK=>?_)
     refine goes_ Tryd.func12 kr rfl #[.agg #[.string ((rd_T30 l0_2 x5_2).f0),.string ((rd_T30 l0_2 x5_2).f1),.slice A253_2 ((rd_T30 l0_2 x5_2).f2).length c253_2],.agg #[.string ((rd_T30 l1_2 x5_2).f0),.string ((rd_T30 l1_2 x5_2).f1),.slice A254_2 ((rd_T30 l1_2 x5_2).f2).length c254_2]] (by rfl) rfl rfl am ?_
     with_reducible refine(ih k2 (by have:=HJ2.out;have:=HK2.out;omega) ((rd_T30 l0_2 x5_2).f0) ((rd_T30 l0_2 x5_2).f1) _ _ ((rd_T30 l0_2 x5_2).f2) ((rd_T30 l1_2 x5_2).f0) ((rd_T30 l1_2 x5_2).f1) _ _ ((rd_T30 l1_2 x5_2).f2) true _ ?side1 ?side2 ?side3 ?side4 A21.out).mono ?_
     (case side1=>repeat (first|exact(Kd.C_below HR253_2.out HB.out)|(with_reducible refine Kd.C_alloc ?_ _)|(with_reducible refine Kd.C_drewN ?_ _)|(with_reducible refine Kd.C_drew ?_)))
     (case side2=>exact HC253_2.out)
     (case side3=>repeat (first|exact(Kd.C_below HR254_2.out HB.out)|(with_reducible refine Kd.C_alloc ?_ _)|(with_reducible refine Kd.C_drewN ?_ _)|(with_reducible refine Kd.C_drew ?_)))
     (case side4=>exact HC254_2.out)
     rintro e w26 ⟨rfl,hb⟩
     refine⟨_,rfl,?_⟩
     have n0_:=Aside0.mk (blk_below (g:=gb251) (o:=.cells #[.string a0_0,.string a0_1,.slice (some ad253) l0_2.length c0_2] 30 (0,0)) kl hb)
     have n1_:=Aside0.mk (blk_below (g:=gb252) (o:=.cells #[.string a1_0,.string a1_1,.slice (some ad254) l1_2.length c1_2] 30 (0,0)) kl hb)
     have n2_:=Aside0.mk (below_step bl hb)
     clear BK251
     clear BK252
     clear HB
     have BK251:=n0_
     have BK252:=n1_
     have HB:=n2_
     clear n0_ n1_ n2_
     (try clear hb)
     (try clear hb2)
     (try clear hk)
     (try clear hi)
     refine hK.out _ _ ⟨(blk_cell BK251.out 0).trans rfl,(blk_cell BK251.out 1).trans rfl,(blk_cell BK251.out 2).trans rfl,(blk_cell BK252.out 0).trans rfl,(blk_cell BK252.out 1).trans rfl,(blk_cell BK252.out 2).trans rfl,((HB.out.cell (World.block_lt_of_cell? w _ hw253_0)).trans hw253_0),((HB.out.cell (World.block_lt_of_cell? w _ hw253_1)).trans hw253_1),((HB.out.cell (World.block_lt_of_cell? w _ hw253_2)).trans hw253_2),((HB.out.cell (World.block_lt_of_cell? w _ hw254_0)).trans hw254_0),((HB.out.cell (World.block_lt_of_cell? w _ hw254_1)).trans hw254_1),((HB.out.cell (World.block_lt_of_cell? w _ hw254_2)).trans hw254_2)⟩ (fun hHeld=>?_)
     clear hK K
     refine norm_ (a':=?_) ?_ ?_
     rotate_left
     {
     show Act.put _ (some 44) _=_
     simp only [Act.put,l1,l2,l3,i64_w,i32_w]
     rfl
     }
     refine pure_ (i:=11) (N:=some 45) (v:=?_) (a':=?_) #[T,T,T,T,T,T,T,T,T,T,T,T] rfl rfl (any_of HT_.out kr) (fun _ _ _ h=>h) (Or.inl ⟨by rfl,?_⟩) ?_ ?_
     rotate_left
     {
     intro w'
     go_simp
     with_reducible rfl
     }
     rotate_left
     {
     simp only [Act.put,l1,l2,l3,i64_w,i32_w]
     rfl
     }
     refine done_ (done_of HT_.out kr) ?_
     try go_wp2
     go_roundg k2
     case measure=>have:=HJ2.out;have:=HK2.out;omega
     case rel=>exact⟨(wrap64 (x5_2+1)),rs,H',⟨by have:=HJ2.out;have:=HK2.out;omega⟩,⟨kl⟩,⟨kl⟩,⟨bl⟩⟩
     }
     {
     replace c22:=Bool.eq_false_iff.mpr c22
     subst c22
     replace H:=itF H
     obtain rfl:=Option.some.inj H
     have hnb27:=NB251_252.out
     have hnc27:=NB252_251.out
     obtain⟨_,_,_,_,_,_⟩:=bc3 BK251.out
     try go_wp2
     have n0_:=Aside0.mk (blk_drew BK251.out)
     have n1_:=Aside0.mk (blk_drew BK252.out)
     have n2_:=Aside0.mk (below_drew1 HB.out)
     clear BK251
     clear BK252
     clear HB
     have BK251:=n0_
     have BK252:=n1_
     have HB:=n2_
     clear n0_ n1_ n2_
     have p253:0≤(x5_2:Int):=of_decide_eq_true asm
     have q253:x5_2<(l0_2.length:Int):=of_decide_eq_true asm
     obtain⟨ad253,A253_2,c253_2,e253,hx253_0,hx253_1,hx253_2,hl253_2,hi253_2⟩:=at_T30 HR0_2.out x5_2 p253 q253
     have hw253_2:=hx253_2
     have hw253_1:=hx253_1
     have hw253_0:=hx253_0
     cases e253
     replace hx253_0:=(HB.out.cell (World.block_lt_of_cell? w _ hx253_0)).trans hx253_0
     replace hx253_1:=(HB.out.cell (World.block_lt_of_cell? w _ hx253_1)).trans hx253_1
     replace hx253_2:=(HB.out.cell (World.block_lt_of_cell? w _ hx253_2)).trans hx253_2
     have HR253_2:=Aside0.mk hi253_2
     have HC253_2:=Aside0.mk hl253_2
     clear hi253_2 hl253_2
     replace p253:=eq_true p253
     replace q253:=eq_true q253
     have p254:0≤(x5_2:Int):=of_decide_eq_true asm
     have q254:x5_2<(l1_2.length:Int):=of_decide_eq_true asm
     obtain⟨ad254,A254_2,c254_2,e254,hx254_0,hx254_1,hx254_2,hl254_2,hi254_2⟩:=at_T30 HR1_2.out x5_2 p254 q254
     have hw254_2:=hx254_2
     have hw254_1:=hx254_1
     have hw254_0:=hx254_0
     cases e254
     replace hx254_0:=(HB.out.cell (World.block_lt_of_cell? w _ hx254_0)).trans hx254_0
     replace hx254_1:=(HB.out.cell (World.block_lt_of_cell? w _ hx254_1)).trans hx254_1
     replace hx254_2:=(HB.out.cell (World.block_lt_of_cell? w _ hx254_2)).trans hx254_2
     have HR254_2:=Aside0.mk hi254_2
     have HC254_2:=Aside0.mk hl254_2
     clear hi254_2 hl254_2
     replace p254:=eq_true p254
     replace q254:=eq_true q254
     refine start_ (n:=12) (S:=fun w'=>w'.cell? ⟨gb251,0,none⟩=some (.string a0_0)∧w'.cell? ⟨gb251,1,none⟩=some (.string a0_1)∧w'.cell? ⟨gb251,2,none⟩=some (.slice (some ad253) l0_2.length c0_2)∧w'.cell? ⟨gb252,0,none⟩=some (.string a1_0)∧w'.cell? ⟨gb252,1,none⟩=some (.string a1_1)∧w'.cell? ⟨gb252,2,none⟩=some (.slice (some ad254) l1_2.length c1_2)∧w'.cell? (ad253.add ((x5_2).toNat*3))=some (.string ((rd_T30 l0_2 x5_2).f0))∧w'.cell? ⟨(ad253.add ((x5_2).toNat*3)).block,(ad253.add ((x5_2).toNat*3)).off+1,none⟩=some (.string ((rd_T30 l0_2 x5_2).f1))∧w'.cell? ⟨(ad253.add ((x5_2).toNat*3)).block,(ad253.add ((x5_2).toNat*3)).off+2,none⟩=some (.slice A253_2 ((rd_T30 l0_2 x5_2).f2).length c253_2)∧w'.cell? (ad254.add ((x5_2).toNat*3))=some (.string ((rd_T30 l1_2 x5_2).f0))∧w'.cell? ⟨(ad254.add ((x5_2).toNat*3)).block,(ad254.add ((x5_2).toNat*3)).off+1,none⟩=some (.string ((rd_T30 l1_2 x5_2).f1))∧w'.cell? ⟨(ad254.add ((x5_2).toNat*3)).block,(ad254.add ((x5_2).toNat*3)).off+2,none⟩=some (.slice A254_2 ((rd_T30 l1_2 x5_2).f2).length c254_2)) (ds:=[]) #[F,F,F,F,F,F,F,F,F,F,F,F] kr rfl rfl ⟨(blk_cell BK251.out 0).trans rfl,(blk_cell BK251.out 1).trans rfl,(blk_cell BK251.out 2).trans rfl,(blk_cell BK252.out 0).trans rfl,(blk_cell BK252.out 1).trans rfl,(blk_cell BK252.out 2).trans rfl,((HB.out.cell (World.block_lt_of_cell? w _ hw253_0)).trans hw253_0),((HB.out.cell (World.block_lt_of_cell? w _ hw253_1)).trans hw253_1),((HB.out.cell (World.block_lt_of_cell? w _ hw253_2)).trans hw253_2),((HB.out.cell (World.block_lt_of_cell? w _ hw254_0)).trans hw254_0),((HB.out.cell (World.block_lt_of_cell? w _ hw254_1)).trans hw254_1),((HB.out.cell (World.block_lt_of_cell? w _ hw254_2)).trans hw254_2)⟩ (fun hHeld=>?_);refine with_tabW stowageref13_Same.tab6 stowageref13_Same.bits6 (fun HT_ HW_=>?_)
     generalize wr.drew=w29 at BK251 BK252 HB HR253_2 HR254_2 hx253_0 hx253_1 hx253_2 hx254_0 hx254_1 hx254_2 hHeld ⊢
     refine pure_ (i:=0) (N:=some 34) (v:=?_) (a':=?_) #[T,F,F,F,F,F,F,F,F,F,F,F] rfl rfl (any_of HT_.out kr) (fun _ _ _ h=>h) (Or.inl ⟨by rfl,?_⟩) ?_ ?_
     rotate_left
     {
     intro w'
     go_simp
     with_reducible rfl
     }
     rotate_left
     {
     simp only [Act.put,l1,l2,l3,i64_w,i32_w]
     rfl
     }
     refine pure_ (i:=2) (N:=some 36) (v:=?_) (a':=?_) #[T,F,T,F,F,F,F,F,F,F,F,F] rfl rfl (any_of HT_.out kr) (fun _ _ _ h=>h) (Or.inl ⟨by rfl,?_⟩) ?_ ?_
     rotate_left
     {
     intro w'
     go_simp
     with_reducible rfl
     }
     rotate_left
     {
     simp only [Act.put,l1,l2,l3,i64_w,i32_w]
     rfl
     }
     refine pure_ (i:=5) (N:=some 39) (v:=?_) (a':=?_) #[T,F,T,F,F,T,F,F,F,F,F,F] rfl rfl (any_of HT_.out kr) (fun _ _ _ h=>h) (Or.inl ⟨by rfl,?_⟩) ?_ ?_
     rotate_left
     {
     intro w'
     go_simp
     with_reducible rfl
     }
     rotate_left
     {
     simp only [Act.put,l1,l2,l3,i64_w,i32_w]
     rfl
     }
     refine pure_ (i:=7) (N:=some 41) (v:=?_) (a':=?_) #[T,F,T,F,F,T,F,T,F,F,F,F] rfl rfl (any_of HT_.out kr) (fun _ _ _ h=>h) (Or.inl ⟨by rfl,?_⟩) ?_ ?_
     rotate_left
     {
     intro w'
     go_simp
     with_reducible rfl
     }
     rotate_left
     {
     simp only [Act.put,l1,l2,l3,i64_w,i32_w]
     rfl
     }
     refine take_ (i:=1) (N:=some 35) (v:=?_) (a':=?_) #[T,T,T,F,F,T,F,T,F,F,F,F] rfl rfl (take_ofW HT_.out HW_.out kr) (fun _ _ _ h=>h) (Or.inl ⟨by rfl,?_⟩) hHeld ?_ ?_
     rotate_left
     {
     rintro w' ⟨s0,s1,s2,s3,s4,s5,s6,s7,s8,s9,s10,s11⟩
     go_simp
     with_reducible rfl
     }
     rotate_left
     {
     simp only [Act.put,l1,l2,l3,i64_w,i32_w]
     rfl
     }
     refine pure_ (i:=3) (N:=some 37) (v:=?_) (a':=?_) #[T,T,T,T,F,T,F,T,F,F,F,F] rfl rfl (any_of HT_.out kr) (fun _ _ _ h=>h) (Or.inl ⟨by rfl,?_⟩) ?_ ?_
     rotate_left
     {
     intro w'
     go_simp
     with_reducible rfl
     }
     rotate_left
     {
     simp only [Act.put,l1,l2,l3,i64_w,i32_w]
     rfl
     }
     refine take_ (i:=4) (N:=some 38) (v:=?_) (a':=?_) #[T,T,T,T,T,T,F,T,F,F,F,F] rfl rfl (take_ofW HT_.out HW_.out kr) (fun _ _ _ h=>h) (Or.inl ⟨by rfl,?_⟩) hHeld ?_ ?_
     rotate_left
     {
     rintro w' ⟨s0,s1,s2,s3,s4,s5,s6,s7,s8,s9,s10,s11⟩
     go_simp
     with_reducible rfl
     }
     rotate_left
     {
     simp only [Act.put,l1,l2,l3,i64_w,i32_w]
     rfl
     }
     refine take_ (i:=6) (N:=some 40) (v:=?_) (a':=?_) #[T,T,T,T,T,T,T,T,F,F,F,F] rfl rfl (take_ofW HT_.out HW_.out kr) (fun _ _ _ h=>h) (Or.inl ⟨by rfl,?_⟩) hHeld ?_ ?_
     rotate_left
     {
     rintro w' ⟨s0,s1,s2,s3,s4,s5,s6,s7,s8,s9,s10,s11⟩
     go_simp
     with_reducible rfl
     }
     rotate_left
     {
     simp only [Act.put,l1,l2,l3,i64_w,i32_w]
     rfl
     }
     refine pure_ (i:=8) (N:=some 42) (v:=?_) (a':=?_) #[T,T,T,T,T,T,T,T,T,F,F,F] rfl rfl (any_of HT_.out kr) (fun _ _ _ h=>h) (Or.inl ⟨by rfl,?_⟩) ?_ ?_
     rotate_left
     {
     intro w'
     go_simp
     with_reducible rfl
     }
     rotate_left
     {
     simp only [Act.put,l1,l2,l3,i64_w,i32_w]
     rfl
     }
     refine take_ (i:=9) (N:=some 43) (v:=?_) (a':=?_) #[T,T,T,T,T,T,T,T,T,T,F,F] rfl rfl (take_ofW HT_.out HW_.out kr) (fun _ _ _ h=>h) (Or.inl ⟨by rfl,?_⟩) hHeld ?_ ?_
     rotate_left
     {
     rintro w' ⟨s0,s1,s2,s3,s4,s5,s6,s7,s8,s9,s10,s11⟩
     go_simp
     with_reducible rfl
     }
     rotate_left
     {
     simp only [Act.put,l1,l2,l3,i64_w,i32_w]
     rfl
     }
     refine one_ (i:=10) (N:=some 44) #[T,T,T,T,T,T,T,T,T,T,T,F] rfl rfl (one_of HT_.out kr) (by decide) (fun K hK=>?_)
     refine goes_ Tryd.func12 kr rfl #[.agg #[.string ((rd_T30 l0_2 x5_2).f0),.string ((rd_T30 l0_2 x5_2).f1),.slice A253_2 ((rd_T30 l0_2 x5_2).f2).length c253_2],.agg #[.string ((rd_T30 l1_2 x5_2).f0),.string ((rd_T30 l1_2 x5_2).f1),.slice A254_2 ((rd_T30 l1_2 x5_2).f2).length c254_2]] (by rfl) rfl rfl am ?_
     with_reducible refine(ih k2 (by have:=HJ2.out;have:=HK2.out;omega) ((rd_T30 l0_2 x5_2).f0) ((rd_T30 l0_2 x5_2).f1) _ _ ((rd_T30 l0_2 x5_2).f2) ((rd_T30 l1_2 x5_2).f0) ((rd_T30 l1_2 x5_2).f1) _ _ ((rd_T30 l1_2 x5_2).f2) false _ ?side1 ?side2 ?side3 ?side4 A21.out).mono ?_
     (case side1=>repeat (first|exact(Kd.C_below HR253_2.out HB.out)|(with_reducible refine Kd.C_alloc ?_ _)|(with_reducible refine Kd.C_drewN ?_ _)|(with_reducible refine Kd.C_drew ?_)))
     (case side2=>exact HC253_2.out)
     (case side3=>repeat (first|exact(Kd.C_below HR254_2.out HB.out)|(with_reducible refine Kd.C_alloc ?_ _)|(with_reducible refine Kd.C_drewN ?_ _)|(with_reducible refine Kd.C_drew ?_)))
     (case side4=>exact HC254_2.out)
     rintro e w30 ⟨rfl,hb⟩
     refine⟨_,rfl,?_⟩
     have n0_:=Aside0.mk (blk_below (g:=gb251) (o:=.cells #[.string a0_0,.string a0_1,.slice (some ad253) l0_2.length c0_2] 30 (0,0)) kl hb)
     have n1_:=Aside0.mk (blk_below (g:=gb252) (o:=.cells #[.string a1_0,.string a1_1,.slice (some ad254) l1_2.length c1_2] 30 (0,0)) kl hb)
     have n2_:=Aside0.mk (below_step bl hb)
     clear BK251
     clear BK252
     clear HB
     have BK251:=n0_
     have BK252:=n1_
     have HB:=n2_
     clear n0_ n1_ n2_
     (try clear hb)
     (try clear hb2)
     (try clear hk)
     (try clear hi)
     refine hK.out _ _ ⟨(blk_cell BK251.out 0).trans rfl,(blk_cell BK251.out 1).trans rfl,(blk_cell BK251.out 2).trans rfl,(blk_cell BK252.out 0).trans rfl,(blk_cell BK252.out 1).trans rfl,(blk_cell BK252.out 2).trans rfl,((HB.out.cell (World.block_lt_of_cell? w _ hw253_0)).trans hw253_0),((HB.out.cell (World.block_lt_of_cell? w _ hw253_1)).trans hw253_1),((HB.out.cell (World.block_lt_of_cell? w _ hw253_2)).trans hw253_2),((HB.out.cell (World.block_lt_of_cell? w _ hw254_0)).trans hw254_0),((HB.out.cell (World.block_lt_of_cell? w _ hw254_1)).trans hw254_1),((HB.out.cell (World.block_lt_of_cell? w _ hw254_2)).trans hw254_2)⟩ (fun hHeld=>?_)
     clear hK K
     refine norm_ (a':=?_) ?_ ?_
     rotate_left
     {
     show Act.put _ (some 44) _=_
     simp only [Act.put,l1,l2,l3,i64_w,i32_w]
     rfl
     }
     refine pure_ (i:=11) (N:=some 45) (v:=?_) (a':=?_) #[T,T,T,T,T,T,T,T,T,T,T,T] rfl rfl (any_of HT_.out kr) (fun _ _ _ h=>h) (Or.inl ⟨by rfl,?_⟩) ?_ ?_
     rotate_left
     {
     intro w'
     go_simp
     with_reducible rfl
     }
     rotate_left
     {
     simp only [Act.put,l1,l2,l3,i64_w,i32_w]
     rfl
     }
     refine done_ (done_of HT_.out kr) ?_
     try go_wp2
     go_ret
     exact⟨ew,bl⟩
     }
     }
     ·exact absurd H (by simp)
     }
     ·exact absurd H (by simp)
     }
     {
     have c18b0:decide (x5_2<(l0_2.length:Int))=false:=decide_eq_false c18
     clear c18
     obtain rfl:=Option.some.inj H
     have hnb31:=NB251_252.out
     have hnc31:=NB252_251.out
     obtain⟨_,_,_,_,_,_⟩:=bc3 BK251.out
     go_wp2
     go_ret
     exact⟨ew,bl⟩
     }
   }
def strings_Index.f (a0 a1:ByteArray):Option Int:=if a0.size<4294967281 then some (Lib.index a0.data.toList a1.data.toList) else none
theorem strings_Index.calls (a0 a1:ByteArray) (r:Int) (w:World) (hG:GOk w) (h:strings_Index.f a0 a1=some r) :
  Calls Tryd.prog 56 #[.string a0,.string a1] w fun e w'=>e = .returned (.int .i64 r)∧Drawn0 w w':=by
 unfold strings_Index.f at h
 by_cases c:a0.size<4294967281
 ·rw [if_pos c] at h
  obtain rfl:=Option.some.inj h
  obtain⟨m,hm⟩:=gok_max hG
  exact(Tryd.strings_Index a0 a1 m w c hm).mono fun e w' ⟨he,hw⟩=>⟨he,by rw [hw];exact Drawn0.refl _⟩
 ·rw [if_neg c] at h
  exact absurd h (by simp)
def xml_white.f (a0:Int):Option (Bool):=if a0=32 then(some true) else(if a0=9 then(some true) else(if a0=10 then(some true) else(some (a0 == 13))))
theorem xml_white.calls (a0:Int) (r:Bool) (w:World) (h:xml_white.f a0=some r) :
  Calls Tryd.prog 57 #[.int .u8 a0] w fun e w'=>e = .returned (.bool r)∧Drawn0 w w':=by
 unfold xml_white.f at h
 have H:=h
 clear h
 replace H:=itO H
 rcases H with⟨c2,H⟩|⟨c2,H⟩
 ·skip
  have c2b0:(a0 == 32)=true:=beq_iff_eq.mpr c2
  have c2b1:(a0 != 32)=false:=bne_eq_false_iff_eq.mpr c2
  clear c2
  obtain rfl:=Option.some.inj H
  go_enter Tryd.func57,Tryd.ntmps57
  go_wp2
  go_ret
  exact⟨by first|rfl|(simp;done)|(simp [*];done),by repeat (first|exact Drawn0.refl _|apply Drawn0.step)⟩
 ·skip
  have c2b0:(a0 == 32)=false:=beq_eq_false_iff_ne.mpr c2
  have c2b1:(a0 != 32)=true:=bne_iff_ne.mpr c2
  replace H:=itO H
  rcases H with⟨c3,H⟩|⟨c3,H⟩
  ·skip
   have c3b0:(a0 == 9)=true:=beq_iff_eq.mpr c3
   have c3b1:(a0 != 9)=false:=bne_eq_false_iff_eq.mpr c3
   clear c3
   obtain rfl:=Option.some.inj H
   go_enter Tryd.func57,Tryd.ntmps57
   go_wp2
   go_ret
   exact⟨by first|rfl|(simp;done)|(simp [*];done),by repeat (first|exact Drawn0.refl _|apply Drawn0.step)⟩
  ·skip
   have c3b0:(a0 == 9)=false:=beq_eq_false_iff_ne.mpr c3
   have c3b1:(a0 != 9)=true:=bne_iff_ne.mpr c3
   replace H:=itO H
   rcases H with⟨c4,H⟩|⟨c4,H⟩
   ·skip
    have c4b0:(a0 == 10)=true:=beq_iff_eq.mpr c4
    have c4b1:(a0 != 10)=false:=bne_eq_false_iff_eq.mpr c4
    clear c4
    obtain rfl:=Option.some.inj H
    go_enter Tryd.func57,Tryd.ntmps57
    go_wp2
    go_ret
    exact⟨by first|rfl|(simp;done)|(simp [*];done),by repeat (first|exact Drawn0.refl _|apply Drawn0.step)⟩
   ·skip
    have c4b0:(a0 == 10)=false:=beq_eq_false_iff_ne.mpr c4
    have c4b1:(a0 != 10)=true:=bne_iff_ne.mpr c4
    obtain rfl:=Option.some.inj H
    go_enter Tryd.func57,Tryd.ntmps57
    go_wp2
    go_ret
    exact⟨by first|rfl|(simp;done)|(simp [*];done),by repeat (first|exact Drawn0.refl _|apply Drawn0.step)⟩
end Go.Proofs.YtklcgncaclggcaaDoor.Q
