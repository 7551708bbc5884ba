/- A part of the proof of the seat's laws. No condition beyond those in the theorems. -/
import Derived.Test.YtklcgncaclggcaaDoorZBase
import Derived.Deep.RegionWith
import Derived.WalkMore
import Derived.Test.YtklcgncaclggcaaDoorZQ52
import Derived.Test.YtklcgncaclggcaaDoorZQ0g18
import Derived.Test.YtklcgncaclggcaaDoorZQ31
import Derived.Test.YtklcgncaclggcaaDoorZQ59g2
open Bool renaming true→T,false→F

namespace Go.Proofs.YtklcgncaclggcaaDoor.Q
open Go.RowKit Go.Proofs.YtklcgncaclggcaaDoorW.PrintWords Go.Proofs.YtklcgncaclggcaaDoorW.PrintLast Go.Proofs.YtklcgncaclggcaaDoorW.PrintMore
set_option linter.unusedVariables false
set_option linter.unusedSimpArgs false
set_option maxHeartbeats 8000000
set_option maxRecDepth 100000
attribute [local go_sem] max2_int min2_int max_two min_two max_three min_three max_four min_four   
def xml_co.Inv (w0 w W:World) (g b:Nat) (s:ByteArray) (p:Int) (nm tx:ByteArray) (v:Value):Prop:=IsS57 w0 W g s p∧Below w0.heap.size w0 W∧KeepBut w W g (some b)∧W.heap[b]? = some (.cells #[.string nm,.string tx,v] 24 (0,0))∧b≠g∧w0.heap.size≤b∧b<w.heap.size∧g<w.heap.size∧w0.heap.size≤w.heap.size
def xml_co.In (w0 w W:World) (g b:Nat) (s:ByteArray) (p:Int) (nm tx:ByteArray) (v:Value) (kids:List S24):Prop:=xml_co.Inv w0 w W g b s p nm tx v∧Kd.N k24 24 W w0.heap.size (fun k_=>w.heap.size≤k_) v kids
def xml_co.Out (w0 w W:World) (g b:Nat) (s:ByteArray) (p:Int) (nm tx:ByteArray) (v:Value) (kids:List S24):Prop:=xml_co.Inv w0 w W g b s p nm tx v∧Kd.V k24 24 W w.heap.size (fun k_=>w.heap.size≤k_) v kids
section
variable {w0 w W W1:World} {g b:Nat} {s s1:ByteArray} {p p1:Int} {nm tx:ByteArray} {v:Value} {kids:List S24}
theorem xml_co.Inv.i (h:xml_co.Inv w0 w W g b s p nm tx v):IsS57 w0 W g s p:=h.1
theorem xml_co.Inv.bel (h:xml_co.Inv w0 w W g b s p nm tx v):Below w0.heap.size w0 W:=h.2.1
theorem xml_co.Inv.keep (h:xml_co.Inv w0 w W g b s p nm tx v):KeepBut w W g (some b):=h.2.2.1
theorem xml_co.Inv.blk (h:xml_co.Inv w0 w W g b s p nm tx v):W.heap[b]? = some (.cells #[.string nm,.string tx,v] 24 (0,0)):=h.2.2.2.1
theorem xml_co.Inv.ne (h:xml_co.Inv w0 w W g b s p nm tx v):b≠g:=h.2.2.2.2.1
theorem xml_co.Inv.ge (h:xml_co.Inv w0 w W g b s p nm tx v):w0.heap.size≤b:=h.2.2.2.2.2.1
theorem xml_co.Inv.lt (h:xml_co.Inv w0 w W g b s p nm tx v):b<w.heap.size:=h.2.2.2.2.2.2.1
theorem xml_co.Inv.gl (h:xml_co.Inv w0 w W g b s p nm tx v):g<w.heap.size:=h.2.2.2.2.2.2.2.1
theorem xml_co.Inv.size (h:xml_co.Inv w0 w W g b s p nm tx v):w0.heap.size≤w.heap.size:=h.2.2.2.2.2.2.2.2
theorem xml_co.Inv.grew (h:xml_co.Inv w0 w W g b s p nm tx v):w.heap.size≤W.heap.size:=h.2.2.1.1
theorem xml_co.keepRow (h:KeepBut W W1 g none) (b:Nat):KeepBut W W1 g (some b):=⟨h.1,fun i hi hg _=>h.2 i hi hg (by simp)⟩
theorem xml_co.Inv.drewN (h:xml_co.Inv w0 w W g b s p nm tx v) (n:Nat):xml_co.Inv w0 w (W.drewN n) g b s p nm tx v:=⟨h.1.drewN n,pw_below_drewN h.2.1 n,keep_drewN h.2.2.1 n,blk_drewN h.2.2.2.1 n,h.2.2.2.2⟩
theorem xml_co.Inv.drew (h:xml_co.Inv w0 w W g b s p nm tx v):xml_co.Inv w0 w W.drew g b s p nm tx v:=⟨h.1.drew,below_drew h.2.1,keep_drew h.2.2.1,blk_drew h.2.2.2.1,h.2.2.2.2⟩
theorem xml_co.Inv.call (h:xml_co.Inv w0 w W g b s p nm tx v) (hi:IsS57 w0 W1 g s1 p1) (hb:Below w0.heap.size w0 W1) (hk:KeepBut W W1 g none):xml_co.Inv w0 w W1 g b s1 p1 nm tx v:=
 ⟨hi,hb,h.2.2.1.trans (xml_co.keepRow hk b) (.inl rfl),hk.blk h.2.2.2.1 h.2.2.2.2.1 (by simp),h.2.2.2.2⟩
theorem xml_co.Inv.below (h:xml_co.Inv w0 w W g b s p nm tx v) (hb:Below W.heap.size W W1):xml_co.Inv w0 w W1 g b s p nm tx v:=
 ⟨h.1.below hb,below_step h.2.1 hb,h.2.2.1.trans (Go.Proofs.YtklcgncaclggcaaDoorW.PrintWords.KeepBut.of_below hb g (some b)) (.inl rfl),blk_below h.2.2.2.1 hb,h.2.2.2.2⟩
theorem xml_co.Inv.far (h:xml_co.Inv w0 w W g b s p nm tx v) {q:Nat} (hq:w.heap.size≤q) (j:Nat) (u:Value):xml_co.Inv w0 w (W.setCell ⟨q,j,none⟩ u) g b s p nm tx v:=
 ⟨h.1.far (p:=⟨q,j,none⟩) (by have:=h.gl;show g≠q;omega) u,below_set h.2.1 (Nat.le_trans h.size hq),keep_far h.2.2.1 (p:=⟨q,j,none⟩) hq u,blk_far h.2.2.2.1 (p:=⟨q,j,none⟩) (by have:=h.lt;show b≠q;omega) u,h.2.2.2.2⟩
theorem xml_co.Inv.grown (h:xml_co.Inv w0 w W g b s p nm tx v) {row:Option Nat} (hg:W.grownBy W1 row) (hb:Below w0.heap.size w0 W1) (hr:∀ k,row=some k→w.heap.size≤k):xml_co.Inv w0 w W1 g b s p nm tx v:=by
 have hgl:=h.gl
 have hlt:=h.lt
 have h1:some g≠row:=fun he=>by have:=hr g he.symm;omega
 have h2:some b≠row:=fun he=>by have:=hr b he.symm;omega
 have h3:KeepBut w W1 g (some b):=by
  rcases row with _|k
  ·exact h.2.2.1.trans (xml_co.keepRow (KeepBut.of_grown hg g) b) (.inl rfl)
  ·exact h.2.2.1.trans (KeepBut.of_grown hg g) (.inr ⟨k,rfl,hr k rfl⟩)
 exact⟨h.1.grown hg h1,hb,h3,(hg.block b (blk_lt h.2.2.2.1) h2).trans h.2.2.2.1,h.2.2.2.2⟩
theorem xml_co.Inv.put (h:xml_co.Inv w0 w W g b s p nm tx v) (j:Nat) (u:Value) {tx1:ByteArray} {v1:Value} (he:(#[.string nm,.string tx,v]:Array Value).setIfInBounds j u=#[.string nm,.string tx1,v1]):xml_co.Inv w0 w (W.setCell ⟨b,j,none⟩ u) g b s p nm tx1 v1:=
 ⟨h.1.far (p:=⟨b,j,none⟩) (Ne.symm h.ne) u,below_set h.2.1 h.ge,⟨by simpa [World.setCell] using h.2.2.1.1,fun i hi hg hr=>(Below.heap_setCell W ⟨b,j,none⟩ u i (fun e=>hr (congrArg some e))).trans (h.2.2.1.2 i hi hg hr)⟩,blk_put h.2.2.2.1 j u he,h.2.2.2.2⟩
theorem xml_co.Inv.at_ (h:xml_co.Inv w0 w W g b s p nm tx v) (q:Int):xml_co.Inv w0 w (W.setCell ⟨g,1,none⟩ (.int .i64 q)) g b s q nm tx v:=
 ⟨h.1.set_1 q,below_set h.2.1 h.1.ge,h.2.2.1.set_ 1 _,blk_far h.2.2.2.1 (p:=⟨g,1,none⟩) h.ne _,h.2.2.2.2⟩
theorem xml_co.In.inv (h:xml_co.In w0 w W g b s p nm tx v kids):xml_co.Inv w0 w W g b s p nm tx v:=h.1
theorem xml_co.In.row (h:xml_co.In w0 w W g b s p nm tx v kids):Kd.N k24 24 W w0.heap.size (fun k_=>w.heap.size≤k_) v kids:=h.2
theorem xml_co.In.i (h:xml_co.In w0 w W g b s p nm tx v kids):IsS57 w0 W g s p:=h.1.1
theorem xml_co.In.bel (h:xml_co.In w0 w W g b s p nm tx v kids):Below w0.heap.size w0 W:=h.1.2.1
theorem xml_co.In.blk (h:xml_co.In w0 w W g b s p nm tx v kids):W.heap[b]? = some (.cells #[.string nm,.string tx,v] 24 (0,0)):=h.1.blk
theorem xml_co.In.ne (h:xml_co.In w0 w W g b s p nm tx v kids):b≠g:=h.1.ne
theorem xml_co.In.drewN (h:xml_co.In w0 w W g b s p nm tx v kids) (n:Nat):xml_co.In w0 w (W.drewN n) g b s p nm tx v kids:=⟨h.1.drewN n,Kd.N_drewN h.2 n⟩
theorem xml_co.In.drew (h:xml_co.In w0 w W g b s p nm tx v kids):xml_co.In w0 w W.drew g b s p nm tx v kids:=⟨h.1.drew,Kd.N_drew h.2⟩
theorem xml_co.In.call (h:xml_co.In w0 w W g b s p nm tx v kids) (hi:IsS57 w0 W1 g s1 p1) (hb:Below w0.heap.size w0 W1) (hk:KeepBut W W1 g none):xml_co.In w0 w W1 g b s1 p1 nm tx v kids:=
 ⟨h.1.call hi hb hk,Kd.N_keep h.2 hk (fun k_ (hk_:w.heap.size≤k_)=>by have:=h.1.gl;omega)⟩
theorem xml_co.In.below (h:xml_co.In w0 w W g b s p nm tx v kids) (hb:Below W.heap.size W W1):xml_co.In w0 w W1 g b s p nm tx v kids:=⟨h.1.below hb,Kd.N_below h.2 hb⟩
theorem xml_co.Out.inv (h:xml_co.Out w0 w W g b s p nm tx v kids):xml_co.Inv w0 w W g b s p nm tx v:=h.1
theorem xml_co.Out.i (h:xml_co.Out w0 w W g b s p nm tx v kids):IsS57 w0 W g s p:=h.1.1
theorem xml_co.Out.bel (h:xml_co.Out w0 w W g b s p nm tx v kids):Below w0.heap.size w0 W:=h.1.2.1
theorem xml_co.Out.blk (h:xml_co.Out w0 w W g b s p nm tx v kids):W.heap[b]? = some (.cells #[.string nm,.string tx,v] 24 (0,0)):=h.1.blk
theorem xml_co.Out.ne (h:xml_co.Out w0 w W g b s p nm tx v kids):b≠g:=h.1.ne
theorem xml_co.Out.drewN (h:xml_co.Out w0 w W g b s p nm tx v kids) (n:Nat):xml_co.Out w0 w (W.drewN n) g b s p nm tx v kids:=⟨h.1.drewN n,Kd.V_drewN h.2 n⟩
theorem xml_co.Out.drew (h:xml_co.Out w0 w W g b s p nm tx v kids):xml_co.Out w0 w W.drew g b s p nm tx v kids:=⟨h.1.drew,Kd.V_drew h.2⟩
theorem xml_co.Out.below (h:xml_co.Out w0 w W g b s p nm tx v kids) (hb:Below W.heap.size W W1):xml_co.Out w0 w W1 g b s p nm tx v kids:=⟨h.1.below hb,Kd.V_below h.2 hb⟩
theorem xml_co.Out.text (h:xml_co.Out w0 w W g b s p nm tx v kids) (u:ByteArray):xml_co.Out w0 w (W.setCell ⟨b,1,none⟩ (.string u)) g b s p nm u v kids:=⟨h.1.put 1 _ rfl,Kd.V_far (p:=⟨b,1,none⟩) h.2 (fun k_ (hk_:w.heap.size≤k_)=>by have:=h.1.lt;show k_≠b;omega) _⟩
theorem xml_co.Out.at_ (h:xml_co.Out w0 w W g b s p nm tx v kids) (q:Int):xml_co.Out w0 w (W.setCell ⟨g,1,none⟩ (.int .i64 q)) g b s q nm tx v kids:=⟨h.1.at_ q,Kd.V_far (p:=⟨g,1,none⟩) h.2 (fun k_ (hk_:w.heap.size≤k_)=>by have:=h.1.gl;show k_≠g;omega) _⟩
theorem xml_co.In.cut {A:Option Addr} {n c:Nat} (h:xml_co.In w0 w W g b s p nm tx (.slice A n c) kids):xml_co.Out w0 w (W.setCell ⟨b,2,none⟩ (.slice A kids.length kids.length)) g b s p nm tx (.slice A kids.length kids.length) kids:=by
 refine⟨h.1.put 2 _ rfl,?_⟩
 obtain⟨rfl,h2,h3⟩:=Kd.V_at (Kd.N_V (base':=w.heap.size) h.2)
 exact Kd.V_far (p:=⟨b,2,none⟩) (Kd.V_mk (Nat.le_refl _) h3) (fun k_ (hk_:w.heap.size≤k_)=>by have:=h.1.lt;show k_≠b;omega) _
theorem xml_co.start (hI:IsS57 w0 w g s p) (hB:Below w0.heap.size w0 w) (hb:w.heap[b]? = some (.cells #[.string nm,.string tx,.slice none 0 0] 24 (0,0))) (hne:b≠g) (hge:w0.heap.size≤b):xml_co.In w0 w w g b s p nm tx (.slice none 0 0) []:=
 ⟨⟨hI,hB,KeepBut.refl _ _ _,hb,hne,hge,blk_lt hb,hI.lt,hB.size⟩,Kd.N_nil _ _ _ _ _⟩
theorem xml_co.Out.ends (h:xml_co.Out w0 w W g b s p nm tx v kids):∃ v,W.heap[b]? = some (.cells #[.string nm,.string tx,v] 24 (0,0))∧Kd.V k24 24 W w.heap.size (fun k_=>w.heap.size≤k_) v kids∧IsS57 w0 W g s p∧Below w0.heap.size w0 W∧KeepBut w W g (some b):=⟨v,h.1.blk,h.2,h.1.1,h.1.2.1,h.1.2.2.1⟩
theorem xml_co.In.ends (h:xml_co.In w0 w W g b s p nm tx v kids):∃ v,W.heap[b]? = some (.cells #[.string nm,.string tx,v] 24 (0,0))∧Kd.V k24 24 W w.heap.size (fun k_=>w.heap.size≤k_) v kids∧IsS57 w0 W g s p∧Below w0.heap.size w0 W∧KeepBut w W g (some b):=⟨v,h.1.blk,Kd.N_V h.2,h.1.1,h.1.2.1,h.1.2.2.1⟩
end
section
variable {P:Program} {md:Region.Mode} {ops:Array Oper} {Q:Exit→Act→World→Prop} {S:World→Prop} {ds:List Nat} {α:Type}
theorem xml_co.two_last {i j:Nat} {Ni Nj:Option Tmp} {oi oj:Oper} {fuel:Nat} {l:Array Bool} {a:Act} {w:World} (li lj:Array Bool) (hi:ops[i]? = some oi) (hj:ops[j]? = some oj) (hNi:oi.dst=Ni) (hNj:oj.dst=Nj)
  (hc:(Region.ready md ops l == [i,j] && l.setIfInBounds i true == li && l.setIfInBounds j true == lj)=true) (hdi:i∈ds) (hdj:j∈ds)
  (h1:∀ K:Act→World→Prop,Shut (∀ a' w',wpAnyLast P md ops Q S ds fuel li a' w'→K a' w')→if Region.wanted oi (yielded ops a.tmps)=true then Oper.wp P oi a w K Q else K (a.put Ni undef) w)
  (h2:∀ K:Act→World→Prop,Shut (∀ a' w',wpAnyLast P md ops Q S ds fuel lj a' w'→K a' w')→if Region.wanted oj (yielded ops a.tmps)=true then Oper.wp P oj a w K Q else K (a.put Nj undef) w) :
  wpAnyLast P md ops Q S ds (fuel+1) l a w:=by
 subst hNi
 subst hNj
 simp only [Bool.and_eq_true,beq_iff_eq] at hc
 obtain⟨⟨h3,h4⟩,h5⟩:=hc
 subst h4
 subst h5
 exact wpAnyLast_ready h3 (by simp) (AllReadyL.cons_last hi hdi (fun K hK=>h1 K hK) (AllReadyL.cons_last hj hdj (fun K hK=>h2 K hK) AllReadyL.nil))
theorem xml_co.N_store_step (d:Kd α) {o:Oper} {a:Act} {Kc:Act→World→Prop} {w0 W:World} (base:Nat) (hN:o.dst=none) (hw:Region.wanted o (yielded ops a.tmps)=true) (t:TypeId) (p x:Operand) (ho:o.op = .store t p x) (e:TypeId) {g n cap o':Nat} (i:Int) (xs:List α) (x':α) (u:Value) (seg c:List Value) (ok okp:Nat→Prop)
  (haddr:a.eval p = .pointer (some ⟨g,o',none⟩)) (hoff:o'=i.toNat*d.sz) (hx:a.eval x=u) (hu:u.cells.toList=seg) (ht:(P.info? t).map (·.size)=some seg.length) (h1:∀ q∈seg,q.oneCell'=true)
  (HO:Kd.N d e W base ok (.slice (some ⟨g,0,none⟩) n cap) xs) (h0:0≤i) (hi:i<n) (hcl:c.length=d.sz) (hcc:∀ j u,c[j]? = some u→W.cell? ⟨g,i.toNat*d.sz+j,none⟩=some u)
  (hj:seg.length=d.sz) (hM:Kd.FK d W okp x' seg) (hokp:∀ k,okp k→ok k∧k≠g) (HB:Below base w0 W)
  (h:∀ w1,Kd.N d e w1 base ok (.slice (some ⟨g,0,none⟩) n cap) (xs.set i.toNat x')→Below base w0 w1→W.grownBy w1 (some g)→Kc a w1) :
  if Region.wanted o (yielded ops a.tmps)=true then Oper.wp P o a W Kc Q else Kc (a.put none undef) W:=by
 have hs:c.take 0++seg++c.drop (0+seg.length)=seg:=by rw [List.take_zero,List.nil_append,Nat.zero_add,List.drop_of_length_le (by omega),List.append_nil]
 have hM2:Kd.FK d W okp x' (c.take 0++seg++c.drop (0+seg.length)):=by rw [hs];exact hM
 obtain⟨hown0,rows,hl,hR,hf⟩:=HO
 have HR:=Kd.raw_any hR
 obtain⟨hrow,hg⟩:=Kd.R_seg (okp:=fun _=>False) HR i h0 hi hcl hcc (j:=0) (by show 0+seg.length≤d.sz;omega) (Kd.FK_raw hM2) (fun _ hk=>hk.elim)
 have hrow2:=Kd.N_written hown0 hl hf hrow hg hM2 hokp
 have hbg:base≤g:=Kd.R_base HR g (by simp [Value.ownBlock])
 obtain⟨_,inner,hown,hr⟩:=HR
 have hil:i.toNat<n:=by omega
 have hB:Below base w0 (W.setCells g (i.toNat*d.sz+0) seg):=HB.trans ⟨hg.os,hg.tape,hg.output,hg.size,fun k hk=>by
  have hlt:k<W.heap.size∨W.heap.size≤k:=Nat.lt_or_ge _ _
  rcases hlt with hlt|hge
  ·exact hg.block k hlt (fun he=>by injection he with he;omega)
  ·exact setCells_far seg _ k (by omega)⟩
 have hrun:(Instr.storeAt t (.pointer (some ⟨g,i.toNat*d.sz+0,none⟩)) u).run P W = .ok () (W.setCells g (i.toNat*d.sz+0) seg):=by
  rcases hown.2 with⟨hv,_⟩|⟨g',cap',cur,hv,hb,hh,hnc,hcm,hcs,_⟩
  ·cases hv
  injection hv with ha _ hc
  injection ha with ha
  injection ha with hg'
  subst hg';subst hc
  refine run_store_run t u seg hh hu ht ?_ h1
  have h2:i.toNat*d.sz+d.sz≤n*d.sz:=by rw [← Nat.succ_mul];exact Nat.mul_le_mul_right _ hil
  have h3:n*d.sz≤cap*d.sz:=Nat.mul_le_mul_right _ (by omega)
  have h4:cur.size=cap*d.sz:=hcs
  omega
 rw [if_pos hw]
 unfold Oper.wp execOp
 rw [Nat.add_zero] at hrun hrow2 hB
 have hg2:W.grownBy (W.setCells g (i.toNat*d.sz) seg) (some g):=by have:=hg;rwa [Nat.add_zero] at this
 subst hoff
 simp only [ho,haddr,hx,Sem.run_bind,Sem.run_pure,Result.andThen_ok,hrun]
 show Kc (a.put o.dst undef) _
 rw [hN]
 exact h _ hrow2 hB hg2
end
theorem xml_co.add0 (g n:Nat):(⟨g,0,none⟩ : Addr).add n=⟨g,n,none⟩:=by
 unfold Addr.add
 split <;> simp_all
theorem xml_co.el {w0 w W W1:World} {g b n:Nat} {s:ByteArray} {p:Int} {nm tx:ByteArray} {v u:Value} {kids xs:List S24} (h:xml_co.In w0 w W g b s p nm tx v kids) (hV:Kd.V k24 24 W1 n (fun k_=>W.heap.size≤k_) u xs):Kd.V k24 24 W1 n (fun k_=>w.heap.size≤k_∧some k_≠v.ownBlock) u xs:=
 Kd.V_mono hV (fun k_ (hk:W.heap.size≤k_)=>⟨Nat.le_trans h.1.grew hk,fun e=>by have:=Kd.N_lt h.2 k_ e.symm;omega⟩)
theorem xml_co.In.box {w0 w W w4:World} {g b gb:Nat} {s:ByteArray} {p:Int} {nm tx:ByteArray} {v:Value} {kids:List S24} (h:xml_co.In w0 w W g b s p nm tx v kids) (hb:Below W.heap.size W w4) (hg:gb=W.heap.size) (x y z:Value):xml_co.In w0 w (((w4.setCell ⟨gb,0,none⟩ x).setCell ⟨gb,1,none⟩ y).setCell ⟨gb,2,none⟩ z) g b s p nm tx v kids:=by
 have hq:w.heap.size≤gb:=by rw [hg];exact h.1.grew
 refine⟨((h.1.below hb).far hq 0 x).far hq 1 y |>.far hq 2 z,?_⟩
 have h2:=Kd.N_below (Kd.N_elderB h.2 gb (Nat.le_of_eq hg.symm)) hb
 exact Kd.N_mono (Kd.N_far (p:=⟨gb,2,none⟩) (Kd.N_far (p:=⟨gb,1,none⟩) (Kd.N_far (p:=⟨gb,0,none⟩) h2 (fun _ hk=>hk.2) x) (fun _ hk=>hk.2) y) (fun _ hk=>hk.2) z) (fun _ hk=>hk.1)
theorem xml_co.vbox {W w4:World} {gb n:Nat} {u:Value} {xs:List S24} {ok:Nat→Prop} (h:Kd.V k24 24 W n ok u xs) (hb:Below W.heap.size W w4) (hg:gb=W.heap.size) (x y z:Value):Kd.V k24 24 (((w4.setCell ⟨gb,0,none⟩ x).setCell ⟨gb,1,none⟩ y).setCell ⟨gb,2,none⟩ z) n ok u xs:=by
 have h2:=Kd.V_below (Kd.V_elderB h gb (Nat.le_of_eq hg.symm)) hb
 exact Kd.V_mono (Kd.V_far (p:=⟨gb,2,none⟩) (Kd.V_far (p:=⟨gb,1,none⟩) (Kd.V_far (p:=⟨gb,0,none⟩) h2 (fun _ hk=>hk.2) x) (fun _ hk=>hk.2) y) (fun _ hk=>hk.2) z) (fun _ hk=>hk.1)
theorem xml_co.calls_ (k:Nat) (ih:∀ m,m<k→xml_el.Does m):xml_co.Does k:=by
 intro s p d nm r w0 w g b hI0 hB0 hG hge hne hb0 h
 have HV:=Aside0.mk (xml_co.start hI0 hB0 hb0 hne hge)
 clear hI0 hB0 hge hne hb0
 cases k with
 | zero=>exact absurd h (by simp [xml_co.f])
 | succ k=>
 simp only [xml_co.f] at h
 obtain⟨a,ha,h⟩:=bndO h
 obtain⟨a1,a2,a3⟩:=a
 have hA:=Aside0.mk ha
 clear ha
 dsimp only at h
 obtain⟨q,hq,h⟩:=bndO h
 obtain⟨q1,q2,q3,q4⟩:=q
 have hL:=Aside0.mk hq
 clear hq
 dsimp only at h
 have hH:=Aside0.mk h
 clear h
 have hu24:=Tryd.underlying24
 go_enter Tryd.func61,Tryd.ntmps61
 have hc0:=xml_reader_attribute.c0 HV.out.i
 have hc1:=xml_reader_attribute.c1 HV.out.i
 have hf0:=xml_reader_attribute.z0 HV.out.i
 have hf1:=xml_reader_attribute.z1 HV.out.i
 have hd2:=(blk_cell HV.out.blk 2).trans rfl
 have he1:=blk_frozen HV.out.blk 1
 have he2:=blk_frozen HV.out.blk 2
 have hd1:=(blk_cell HV.out.blk 1).trans rfl
 have hne:=HV.out.ne
 have hen:=HV.out.ne.symm
 go_wp2_with (first|(go_at_call 29;with_reducible refine(xml_reader_space.calls k g s p a1 a2 a3 w0 _ ?s1 ?s2 hA.out).mono ?_;(case s1=>exact(by first|exact HV.out.i|exact(HV.out.drewN _).i|exact((HV.out.drewN _).drewN _).i|exact HV.out.drew.i|exact(HV.out.drewN _).drew.i|exact(HV.out.drew.drewN _).i|exact((HV.out.drew.drewN _).drewN _).i));(case s2=>exact(by first|exact HV.out.bel|exact(HV.out.drewN _).bel|exact((HV.out.drewN _).drewN _).bel|exact HV.out.drew.bel|exact(HV.out.drewN _).drew.bel|exact(HV.out.drew.drewN _).bel|exact((HV.out.drew.drewN _).drewN _).bel));rintro e_ w_ ⟨rfl,hi,hb,hk⟩;(first|replace HV:=Aside0.mk (xml_co.In.call HV.out hi hb hk)|replace HV:=Aside0.mk (xml_co.In.call (HV.out.drewN _) hi hb hk)|replace HV:=Aside0.mk (xml_co.In.call ((HV.out.drewN _).drewN _) hi hb hk)|replace HV:=Aside0.mk (xml_co.In.call HV.out.drew hi hb hk)|replace HV:=Aside0.mk (xml_co.In.call (HV.out.drewN _).drew hi hb hk)|replace HV:=Aside0.mk (xml_co.In.call (HV.out.drew.drewN _) hi hb hk)|replace HV:=Aside0.mk (xml_co.In.call ((HV.out.drew.drewN _).drewN _) hi hb hk));clear hi hb hk;have hc0:=xml_reader_attribute.c0 HV.out.i;have hc1:=xml_reader_attribute.c1 HV.out.i;have hf0:=xml_reader_attribute.z0 HV.out.i;have hf1:=xml_reader_attribute.z1 HV.out.i;have hd2:=(blk_cell HV.out.blk 2).trans rfl;have he1:=blk_frozen HV.out.blk 1;have he2:=blk_frozen HV.out.blk 2;have hd1:=(blk_cell HV.out.blk 1).trans rfl;have hne:=HV.out.ne;have hen:=HV.out.ne.symm))
 go_loopg [] k (fun kq w'=>∃ (s':ByteArray) (p':Int) (kids:List S24) (v:Value),Aside0 (xml_co.lp kq s' p' d kids=some (q1,q2,q3,q4))∧Aside0 (kq≤k)∧Aside0 (xml_co.In w0 w w' g b s' p' nm (⟨#[]⟩ : ByteArray) v kids))
 case atStart=>exact⟨a2,a3,[],.slice none 0 0,hL,⟨Nat.le_refl _⟩,⟨(by first|exact HV.out|exact(HV.out.drewN _)|exact((HV.out.drewN _).drewN _)|exact HV.out.drew|exact(HV.out.drewN _).drew|exact(HV.out.drew.drewN _)|exact((HV.out.drew.drewN _).drewN _))⟩⟩
 case round=>
  clear hL HV
  obtain⟨s',p',kids,v,HA,HK1,HV⟩:=hrel
  obtain⟨vA,vc,rfl⟩:=Kd.N_slice HV.out.row
  have hc0:=xml_reader_attribute.c0 HV.out.i
  have hc1:=xml_reader_attribute.c1 HV.out.i
  have hf0:=xml_reader_attribute.z0 HV.out.i
  have hf1:=xml_reader_attribute.z1 HV.out.i
  have hd2:=(blk_cell HV.out.blk 2).trans rfl
  have he1:=blk_frozen HV.out.blk 1
  have he2:=blk_frozen HV.out.blk 2
  have hd1:=(blk_cell HV.out.blk 1).trans rfl
  have hne:=HV.out.ne
  have hen:=HV.out.ne.symm
  cases gk with
  | zero=>exact absurd HA.out (by simp [xml_co.lp])
  | succ k1=>
   have H:=HA.out
   clear HA
   simp only [xml_co.lp] at H
   rcases itO H with⟨g1,H⟩|⟨_,H⟩
   case inr=>exact absurd H (by simp)
   rcases itO H with⟨g2,H⟩|⟨_,H⟩
   case inr=>exact absurd H (by simp)
   have y1:=eq_true g1
   have y2:=eq_true g2
   have y3:=decide_eq_true g1
   have y4:=decide_eq_true g2
   clear g1 g2
   obtain⟨x,hx,H⟩:=bndO H
   have hX:=Aside0.mk hx
   clear hx
   go_upto_region 3 with fail
   go_cut [41] (fun v41 wc=>∃ (m:Bool),v41 = .bool m∧Aside0 (if m=true then((xml_el.f k1 s' p' (wrap64 (d+1))).bind fun e=>(if e.2.1=true then(if kids.length<2513169434916 then((xml_reader_space.f k1 e.2.2.1 e.2.2.2).bind fun a=>xml_co.lp k1 a.2.1 a.2.2 d (kids ++ [e.1])) else none) else some (false,kids,e.2.2.1,e.2.2.2)))=some (q1,q2,q3,q4) else(true,kids,s',p')=(q1,q2,q3,q4))∧Aside0 (xml_co.In w0 w wc g b s' p' nm (⟨#[]⟩ : ByteArray) (.slice vA kids.length vc) kids))
   case first=>
    cases x with
    | false=>
     rw [if_neg Bool.false_ne_true] at H
     have hH2:=Aside0.mk (Option.some.inj H)
     clear H
     refine start_ (n:=23) (S:=fun w'=>w'.cell? ⟨g,0,none⟩=some (.string s')∧w'.cell? ⟨g,1,none⟩=some (.int .i64 p')) (ds:=[]) #[F,F,F,F,F,F,F,F,F,F,F,F,F,F,F,F,F,F,F,F,F,F,F] (by kernel_rfl) rfl rfl ⟨xml_reader_attribute.c0 HV.out.drew.i,xml_reader_attribute.c1 HV.out.drew.i⟩ (fun hHeld=>?_)
     refine pure_ (i:=0) (N:=some 19) (v:=?_) (a':=?_) #[T,F,F,F,F,F,F,F,F,F,F,F,F,F,F,F,F,F,F,F,F,F,F] rfl rfl (by kernel_rfl) (fun _ _ _ h=>h) (Or.inl ⟨by rfl,?_⟩) ?_ ?_
     rotate_left
     ·intro w'
      go_simp
      with_reducible rfl
     rotate_left
     ·simp only [Act.put,List.setIfInBounds_toArray,List.set_cons_zero,List.set_cons_succ,i64_w,i32_w]
      rfl
     refine pure_ (i:=1) (N:=some 20) (v:=?_) (a':=?_) #[T,T,F,F,F,F,F,F,F,F,F,F,F,F,F,F,F,F,F,F,F,F,F] rfl rfl (by kernel_rfl) (fun _ _ _ h=>h) (Or.inl ⟨by rfl,?_⟩) ?_ ?_
     rotate_left
     ·intro w'
      go_simp
      with_reducible rfl
     rotate_left
     ·simp only [Act.put,List.setIfInBounds_toArray,List.set_cons_zero,List.set_cons_succ,i64_w,i32_w]
      rfl
     refine pure_ (i:=2) (N:=some 21) (v:=?_) (a':=?_) #[T,T,T,F,F,F,F,F,F,F,F,F,F,F,F,F,F,F,F,F,F,F,F] rfl rfl (by kernel_rfl) (fun _ _ _ h=>h) (Or.inl ⟨by rfl,?_⟩) ?_ ?_
     rotate_left
     ·intro w'
      go_simp
      with_reducible rfl
     rotate_left
     ·simp only [Act.put,List.setIfInBounds_toArray,List.set_cons_zero,List.set_cons_succ,i64_w,i32_w]
      rfl
     refine take_ (i:=3) (N:=some 22) (v:=?_) (a':=?_) #[T,T,T,T,F,F,F,F,F,F,F,F,F,F,F,F,F,F,F,F,F,F,F] rfl rfl (by kernel_rfl) (fun _ _ _ h=>h) (Or.inl ⟨by rfl,?_⟩) hHeld ?_ ?_
     rotate_left
     ·rintro w' ⟨s0,s1⟩
      go_simp
      with_reducible rfl
     rotate_left
     ·simp only [Act.put,List.setIfInBounds_toArray,List.set_cons_zero,List.set_cons_succ,i64_w,i32_w]
      rfl
     refine pure_ (i:=4) (N:=some 23) (v:=?_) (a':=?_) #[T,T,T,T,T,F,F,F,F,F,F,F,F,F,F,F,F,F,F,F,F,F,F] rfl rfl (by kernel_rfl) (fun _ _ _ h=>h) (Or.inl ⟨by rfl,?_⟩) ?_ ?_
     rotate_left
     ·intro w'
      go_simp
      with_reducible rfl
     rotate_left
     ·simp only [Act.put,List.setIfInBounds_toArray,List.set_cons_zero,List.set_cons_succ,i64_w,i32_w]
      rfl
     refine pure_ (i:=5) (N:=some 24) (v:=?_) (a':=?_) #[T,T,T,T,T,T,F,F,F,F,F,F,F,F,F,F,F,F,F,F,F,F,F] rfl rfl (by kernel_rfl) (fun _ _ _ h=>h) (Or.inl ⟨by rfl,?_⟩) ?_ ?_
     rotate_left
     ·intro w'
      go_simp
      with_reducible rfl
     rotate_left
     ·simp only [Act.put,List.setIfInBounds_toArray,List.set_cons_zero,List.set_cons_succ,i64_w,i32_w]
      rfl
     refine pure_ (i:=6) (N:=some 25) (v:=?_) (a':=?_) #[T,T,T,T,T,T,T,F,F,F,F,F,F,F,F,F,F,F,F,F,F,F,F] rfl rfl (by kernel_rfl) (fun _ _ _ h=>h) (Or.inl ⟨by rfl,?_⟩) ?_ ?_
     rotate_left
     ·intro w'
      go_simp
      with_reducible rfl
     rotate_left
     ·simp only [Act.put,List.setIfInBounds_toArray,List.set_cons_zero,List.set_cons_succ,i64_w,i32_w]
      rfl
     refine take_ (i:=7) (N:=some 26) (v:=?_) (a':=?_) #[T,T,T,T,T,T,T,T,F,F,F,F,F,F,F,F,F,F,F,F,F,F,F] rfl rfl (by kernel_rfl) (fun _ _ _ h=>h) (Or.inl ⟨by rfl,?_⟩) hHeld ?_ ?_
     rotate_left
     ·rintro w' ⟨s0,s1⟩
      go_simp
      with_reducible rfl
     rotate_left
     ·simp only [Act.put,List.setIfInBounds_toArray,List.set_cons_zero,List.set_cons_succ,i64_w,i32_w]
      rfl
     refine pure_ (i:=8) (N:=some 27) (v:=?_) (a':=?_) #[T,T,T,T,T,T,T,T,T,F,F,F,F,F,F,F,F,F,F,F,F,F,F] rfl rfl (by kernel_rfl) (fun _ _ _ h=>h) (Or.inl ⟨by rfl,?_⟩) ?_ ?_
     rotate_left
     ·intro w'
      go_simp
      with_reducible rfl
     rotate_left
     ·simp only [Act.put,List.setIfInBounds_toArray,List.set_cons_zero,List.set_cons_succ,i64_w,i32_w]
      rfl
     refine one_ (i:=9) (N:=some 28) #[T,T,T,T,T,T,T,T,T,T,F,F,F,F,F,F,F,F,F,F,F,F,F] rfl rfl (by kernel_rfl) (by decide) (fun K hK=>?_)
     refine goes_ Tryd.func55 (by kernel_rfl) rfl #[.string (s'.extract (p':Int).toNat s'.size),.string (⟨#[60]⟩ : ByteArray)] (by rfl) rfl rfl (by(try simp only [List.map_toArray,List.map_cons,List.map_nil]);first|done|rfl) ?_
     with_reducible refine(strings_HasPrefix.calls (s'.extract (p':Int).toNat s'.size) (⟨#[60]⟩ : ByteArray) false _ hX.out).mono ?_
     rintro e_ w_ ⟨rfl,⟨nd,rfl⟩⟩
     refine⟨_,rfl,?_⟩
     refine hK.out _ _ ⟨xml_reader_attribute.c0 (by first|exact HV.out.i|exact(HV.out.drewN _).i|exact((HV.out.drewN _).drewN _).i|exact HV.out.drew.i|exact(HV.out.drewN _).drew.i|exact(HV.out.drew.drewN _).i|exact((HV.out.drew.drewN _).drewN _).i),xml_reader_attribute.c1 (by first|exact HV.out.i|exact(HV.out.drewN _).i|exact((HV.out.drewN _).drewN _).i|exact HV.out.drew.i|exact(HV.out.drewN _).drew.i|exact(HV.out.drew.drewN _).i|exact((HV.out.drew.drewN _).drewN _).i)⟩ (fun hHeld=>?_)
     clear hK K
     refine norm_ (a':=?_) ?_ ?_
     rotate_left
     ·show Act.put _ (some 28) _=_
      simp only [Act.put,List.setIfInBounds_toArray,List.set_cons_zero,List.set_cons_succ,i64_w,i32_w]
      rfl
     refine pure_ (i:=10) (N:=some 29) (v:=?_) (a':=?_) #[T,T,T,T,T,T,T,T,T,T,T,F,F,F,F,F,F,F,F,F,F,F,F] rfl rfl (by kernel_rfl) (fun _ _ _ h=>h) (Or.inl ⟨by rfl,?_⟩) ?_ ?_
     rotate_left
     ·intro w'
      go_simp
      with_reducible rfl
     rotate_left
     ·simp only [Act.put,List.setIfInBounds_toArray,List.set_cons_zero,List.set_cons_succ,i64_w,i32_w]
      rfl
     refine pure_ (i:=11) (N:=some 30) (v:=undef) (a':=?_) #[T,T,T,T,T,T,T,T,T,T,T,T,F,F,F,F,F,F,F,F,F,F,F] rfl rfl (by kernel_rfl) (fun _ _ _ h=>h) (Or.inr ⟨by rfl,rfl⟩) ?_ ?_
     rotate_left
     ·simp only [Act.put,List.setIfInBounds_toArray,List.set_cons_zero,List.set_cons_succ,i64_w,i32_w]
      rfl
     refine pure_ (i:=12) (N:=some 31) (v:=undef) (a':=?_) #[T,T,T,T,T,T,T,T,T,T,T,T,T,F,F,F,F,F,F,F,F,F,F] rfl rfl (by kernel_rfl) (fun _ _ _ h=>h) (Or.inr ⟨by rfl,rfl⟩) ?_ ?_
     rotate_left
     ·simp only [Act.put,List.setIfInBounds_toArray,List.set_cons_zero,List.set_cons_succ,i64_w,i32_w]
      rfl
     refine pure_ (i:=13) (N:=some 32) (v:=undef) (a':=?_) #[T,T,T,T,T,T,T,T,T,T,T,T,T,T,F,F,F,F,F,F,F,F,F] rfl rfl (by kernel_rfl) (fun _ _ _ h=>h) (Or.inr ⟨by rfl,rfl⟩) ?_ ?_
     rotate_left
     ·simp only [Act.put,List.setIfInBounds_toArray,List.set_cons_zero,List.set_cons_succ,i64_w,i32_w]
      rfl
     refine pure_ (i:=14) (N:=some 33) (v:=undef) (a':=?_) #[T,T,T,T,T,T,T,T,T,T,T,T,T,T,T,F,F,F,F,F,F,F,F] rfl rfl (by kernel_rfl) (fun _ _ _ h=>h) (Or.inr ⟨by rfl,rfl⟩) ?_ ?_
     rotate_left
     ·simp only [Act.put,List.setIfInBounds_toArray,List.set_cons_zero,List.set_cons_succ,i64_w,i32_w]
      rfl
     refine pure_ (i:=15) (N:=some 34) (v:=undef) (a':=?_) #[T,T,T,T,T,T,T,T,T,T,T,T,T,T,T,T,F,F,F,F,F,F,F] rfl rfl (by kernel_rfl) (fun _ _ _ h=>h) (Or.inr ⟨by rfl,rfl⟩) ?_ ?_
     rotate_left
     ·simp only [Act.put,List.setIfInBounds_toArray,List.set_cons_zero,List.set_cons_succ,i64_w,i32_w]
      rfl
     refine pure_ (i:=16) (N:=some 35) (v:=undef) (a':=?_) #[T,T,T,T,T,T,T,T,T,T,T,T,T,T,T,T,T,F,F,F,F,F,F] rfl rfl (by kernel_rfl) (fun _ _ _ h=>h) (Or.inr ⟨by rfl,rfl⟩) ?_ ?_
     rotate_left
     ·simp only [Act.put,List.setIfInBounds_toArray,List.set_cons_zero,List.set_cons_succ,i64_w,i32_w]
      rfl
     refine pure_ (i:=17) (N:=some 36) (v:=undef) (a':=?_) #[T,T,T,T,T,T,T,T,T,T,T,T,T,T,T,T,T,T,F,F,F,F,F] rfl rfl (by kernel_rfl) (fun _ _ _ h=>h) (Or.inr ⟨by rfl,rfl⟩) ?_ ?_
     rotate_left
     ·simp only [Act.put,List.setIfInBounds_toArray,List.set_cons_zero,List.set_cons_succ,i64_w,i32_w]
      rfl
     refine pure_ (i:=18) (N:=some 37) (v:=undef) (a':=?_) #[T,T,T,T,T,T,T,T,T,T,T,T,T,T,T,T,T,T,T,F,F,F,F] rfl rfl (by kernel_rfl) (fun _ _ _ h=>h) (Or.inr ⟨by rfl,rfl⟩) ?_ ?_
     rotate_left
     ·simp only [Act.put,List.setIfInBounds_toArray,List.set_cons_zero,List.set_cons_succ,i64_w,i32_w]
      rfl
     refine pure_ (i:=19) (N:=some 38) (v:=undef) (a':=?_) #[T,T,T,T,T,T,T,T,T,T,T,T,T,T,T,T,T,T,T,T,F,F,F] rfl rfl (by kernel_rfl) (fun _ _ _ h=>h) (Or.inr ⟨by rfl,rfl⟩) ?_ ?_
     rotate_left
     ·simp only [Act.put,List.setIfInBounds_toArray,List.set_cons_zero,List.set_cons_succ,i64_w,i32_w]
      rfl
     refine pure_ (i:=20) (N:=some 39) (v:=undef) (a':=?_) #[T,T,T,T,T,T,T,T,T,T,T,T,T,T,T,T,T,T,T,T,T,F,F] rfl rfl (by kernel_rfl) (fun _ _ _ h=>h) (Or.inr ⟨by rfl,rfl⟩) ?_ ?_
     rotate_left
     ·simp only [Act.put,List.setIfInBounds_toArray,List.set_cons_zero,List.set_cons_succ,i64_w,i32_w]
      rfl
     refine pure_ (i:=21) (N:=some 40) (v:=undef) (a':=?_) #[T,T,T,T,T,T,T,T,T,T,T,T,T,T,T,T,T,T,T,T,T,T,F] rfl rfl (by kernel_rfl) (fun _ _ _ h=>h) (Or.inr ⟨by rfl,rfl⟩) ?_ ?_
     rotate_left
     ·simp only [Act.put,List.setIfInBounds_toArray,List.set_cons_zero,List.set_cons_succ,i64_w,i32_w]
      rfl
     refine pure_ (i:=22) (N:=some 41) (v:=?_) (a':=?_) #[T,T,T,T,T,T,T,T,T,T,T,T,T,T,T,T,T,T,T,T,T,T,T] rfl rfl (by kernel_rfl) (fun _ _ _ h=>h) (Or.inl ⟨by rfl,?_⟩) ?_ ?_
     rotate_left
     ·intro w'
      go_simp
      with_reducible rfl
     rotate_left
     ·simp only [Act.put,List.setIfInBounds_toArray,List.set_cons_zero,List.set_cons_succ,i64_w,i32_w]
      rfl
     refine done_ (by kernel_rfl) ?_
     try go_wp2
     go_meet
     case rel=>exact⟨false,rfl,hH2,⟨(by first|exact HV.out|exact(HV.out.drewN _)|exact((HV.out.drewN _).drewN _)|exact HV.out.drew|exact(HV.out.drewN _).drew|exact(HV.out.drew.drewN _)|exact((HV.out.drew.drewN _).drewN _))⟩⟩
    | true=>
     rw [if_pos rfl] at H
     obtain⟨y,hy,H⟩:=bndO H
     have hY:=Aside0.mk hy
     clear hy
     cases y with
     | true=>
      rw [if_pos rfl] at H
      have hH2:=Aside0.mk (Option.some.inj H)
      clear H
      refine start_ (n:=23) (S:=fun w'=>w'.cell? ⟨g,0,none⟩=some (.string s')∧w'.cell? ⟨g,1,none⟩=some (.int .i64 p')) (ds:=[]) #[F,F,F,F,F,F,F,F,F,F,F,F,F,F,F,F,F,F,F,F,F,F,F] (by kernel_rfl) rfl rfl ⟨xml_reader_attribute.c0 HV.out.drew.i,xml_reader_attribute.c1 HV.out.drew.i⟩ (fun hHeld=>?_)
      refine pure_ (i:=0) (N:=some 19) (v:=?_) (a':=?_) #[T,F,F,F,F,F,F,F,F,F,F,F,F,F,F,F,F,F,F,F,F,F,F] rfl rfl (by kernel_rfl) (fun _ _ _ h=>h) (Or.inl ⟨by rfl,?_⟩) ?_ ?_
      rotate_left
      ·intro w'
       go_simp
       with_reducible rfl
      rotate_left
      ·simp only [Act.put,List.setIfInBounds_toArray,List.set_cons_zero,List.set_cons_succ,i64_w,i32_w]
       rfl
      refine pure_ (i:=1) (N:=some 20) (v:=?_) (a':=?_) #[T,T,F,F,F,F,F,F,F,F,F,F,F,F,F,F,F,F,F,F,F,F,F] rfl rfl (by kernel_rfl) (fun _ _ _ h=>h) (Or.inl ⟨by rfl,?_⟩) ?_ ?_
      rotate_left
      ·intro w'
       go_simp
       with_reducible rfl
      rotate_left
      ·simp only [Act.put,List.setIfInBounds_toArray,List.set_cons_zero,List.set_cons_succ,i64_w,i32_w]
       rfl
      refine pure_ (i:=2) (N:=some 21) (v:=?_) (a':=?_) #[T,T,T,F,F,F,F,F,F,F,F,F,F,F,F,F,F,F,F,F,F,F,F] rfl rfl (by kernel_rfl) (fun _ _ _ h=>h) (Or.inl ⟨by rfl,?_⟩) ?_ ?_
      rotate_left
      ·intro w'
       go_simp
       with_reducible rfl
      rotate_left
      ·simp only [Act.put,List.setIfInBounds_toArray,List.set_cons_zero,List.set_cons_succ,i64_w,i32_w]
       rfl
      refine take_ (i:=3) (N:=some 22) (v:=?_) (a':=?_) #[T,T,T,T,F,F,F,F,F,F,F,F,F,F,F,F,F,F,F,F,F,F,F] rfl rfl (by kernel_rfl) (fun _ _ _ h=>h) (Or.inl ⟨by rfl,?_⟩) hHeld ?_ ?_
      rotate_left
      ·rintro w' ⟨s0,s1⟩
       go_simp
       with_reducible rfl
      rotate_left
      ·simp only [Act.put,List.setIfInBounds_toArray,List.set_cons_zero,List.set_cons_succ,i64_w,i32_w]
       rfl
      refine pure_ (i:=4) (N:=some 23) (v:=?_) (a':=?_) #[T,T,T,T,T,F,F,F,F,F,F,F,F,F,F,F,F,F,F,F,F,F,F] rfl rfl (by kernel_rfl) (fun _ _ _ h=>h) (Or.inl ⟨by rfl,?_⟩) ?_ ?_
      rotate_left
      ·intro w'
       go_simp
       with_reducible rfl
      rotate_left
      ·simp only [Act.put,List.setIfInBounds_toArray,List.set_cons_zero,List.set_cons_succ,i64_w,i32_w]
       rfl
      refine pure_ (i:=5) (N:=some 24) (v:=?_) (a':=?_) #[T,T,T,T,T,T,F,F,F,F,F,F,F,F,F,F,F,F,F,F,F,F,F] rfl rfl (by kernel_rfl) (fun _ _ _ h=>h) (Or.inl ⟨by rfl,?_⟩) ?_ ?_
      rotate_left
      ·intro w'
       go_simp
       with_reducible rfl
      rotate_left
      ·simp only [Act.put,List.setIfInBounds_toArray,List.set_cons_zero,List.set_cons_succ,i64_w,i32_w]
       rfl
      refine pure_ (i:=6) (N:=some 25) (v:=?_) (a':=?_) #[T,T,T,T,T,T,T,F,F,F,F,F,F,F,F,F,F,F,F,F,F,F,F] rfl rfl (by kernel_rfl) (fun _ _ _ h=>h) (Or.inl ⟨by rfl,?_⟩) ?_ ?_
      rotate_left
      ·intro w'
       go_simp
       with_reducible rfl
      rotate_left
      ·simp only [Act.put,List.setIfInBounds_toArray,List.set_cons_zero,List.set_cons_succ,i64_w,i32_w]
       rfl
      refine take_ (i:=7) (N:=some 26) (v:=?_) (a':=?_) #[T,T,T,T,T,T,T,T,F,F,F,F,F,F,F,F,F,F,F,F,F,F,F] rfl rfl (by kernel_rfl) (fun _ _ _ h=>h) (Or.inl ⟨by rfl,?_⟩) hHeld ?_ ?_
      rotate_left
      ·rintro w' ⟨s0,s1⟩
       go_simp
       with_reducible rfl
      rotate_left
      ·simp only [Act.put,List.setIfInBounds_toArray,List.set_cons_zero,List.set_cons_succ,i64_w,i32_w]
       rfl
      refine pure_ (i:=8) (N:=some 27) (v:=?_) (a':=?_) #[T,T,T,T,T,T,T,T,T,F,F,F,F,F,F,F,F,F,F,F,F,F,F] rfl rfl (by kernel_rfl) (fun _ _ _ h=>h) (Or.inl ⟨by rfl,?_⟩) ?_ ?_
      rotate_left
      ·intro w'
       go_simp
       with_reducible rfl
      rotate_left
      ·simp only [Act.put,List.setIfInBounds_toArray,List.set_cons_zero,List.set_cons_succ,i64_w,i32_w]
       rfl
      refine one_ (i:=9) (N:=some 28) #[T,T,T,T,T,T,T,T,T,T,F,F,F,F,F,F,F,F,F,F,F,F,F] rfl rfl (by kernel_rfl) (by decide) (fun K hK=>?_)
      refine goes_ Tryd.func55 (by kernel_rfl) rfl #[.string (s'.extract (p':Int).toNat s'.size),.string (⟨#[60]⟩ : ByteArray)] (by rfl) rfl rfl (by(try simp only [List.map_toArray,List.map_cons,List.map_nil]);first|done|rfl) ?_
      with_reducible refine(strings_HasPrefix.calls (s'.extract (p':Int).toNat s'.size) (⟨#[60]⟩ : ByteArray) true _ hX.out).mono ?_
      rintro e_ w_ ⟨rfl,⟨nd,rfl⟩⟩
      refine⟨_,rfl,?_⟩
      refine hK.out _ _ ⟨xml_reader_attribute.c0 (by first|exact HV.out.i|exact(HV.out.drewN _).i|exact((HV.out.drewN _).drewN _).i|exact HV.out.drew.i|exact(HV.out.drewN _).drew.i|exact(HV.out.drew.drewN _).i|exact((HV.out.drew.drewN _).drewN _).i),xml_reader_attribute.c1 (by first|exact HV.out.i|exact(HV.out.drewN _).i|exact((HV.out.drewN _).drewN _).i|exact HV.out.drew.i|exact(HV.out.drewN _).drew.i|exact(HV.out.drew.drewN _).i|exact((HV.out.drew.drewN _).drewN _).i)⟩ (fun hHeld=>?_)
      clear hK K
      refine norm_ (a':=?_) ?_ ?_
      rotate_left
      ·show Act.put _ (some 28) _=_
       simp only [Act.put,List.setIfInBounds_toArray,List.set_cons_zero,List.set_cons_succ,i64_w,i32_w]
       rfl
      refine pure_ (i:=10) (N:=some 29) (v:=?_) (a':=?_) #[T,T,T,T,T,T,T,T,T,T,T,F,F,F,F,F,F,F,F,F,F,F,F] rfl rfl (by kernel_rfl) (fun _ _ _ h=>h) (Or.inl ⟨by rfl,?_⟩) ?_ ?_
      rotate_left
      ·intro w'
       go_simp
       with_reducible rfl
      rotate_left
      ·simp only [Act.put,List.setIfInBounds_toArray,List.set_cons_zero,List.set_cons_succ,i64_w,i32_w]
       rfl
      refine pure_ (i:=11) (N:=some 30) (v:=?_) (a':=?_) #[T,T,T,T,T,T,T,T,T,T,T,T,F,F,F,F,F,F,F,F,F,F,F] rfl rfl (by kernel_rfl) (fun _ _ _ h=>h) (Or.inl ⟨by rfl,?_⟩) ?_ ?_
      rotate_left
      ·intro w'
       go_simp
       with_reducible rfl
      rotate_left
      ·simp only [Act.put,List.setIfInBounds_toArray,List.set_cons_zero,List.set_cons_succ,i64_w,i32_w]
       rfl
      refine pure_ (i:=12) (N:=some 31) (v:=?_) (a':=?_) #[T,T,T,T,T,T,T,T,T,T,T,T,T,F,F,F,F,F,F,F,F,F,F] rfl rfl (by kernel_rfl) (fun _ _ _ h=>h) (Or.inl ⟨by rfl,?_⟩) ?_ ?_
      rotate_left
      ·intro w'
       go_simp
       with_reducible rfl
      rotate_left
      ·simp only [Act.put,List.setIfInBounds_toArray,List.set_cons_zero,List.set_cons_succ,i64_w,i32_w]
       rfl
      refine pure_ (i:=13) (N:=some 32) (v:=?_) (a':=?_) #[T,T,T,T,T,T,T,T,T,T,T,T,T,T,F,F,F,F,F,F,F,F,F] rfl rfl (by kernel_rfl) (fun _ _ _ h=>h) (Or.inl ⟨by rfl,?_⟩) ?_ ?_
      rotate_left
      ·intro w'
       go_simp
       with_reducible rfl
      rotate_left
      ·simp only [Act.put,List.setIfInBounds_toArray,List.set_cons_zero,List.set_cons_succ,i64_w,i32_w]
       rfl
      refine take_ (i:=14) (N:=some 33) (v:=?_) (a':=?_) #[T,T,T,T,T,T,T,T,T,T,T,T,T,T,T,F,F,F,F,F,F,F,F] rfl rfl (by kernel_rfl) (fun _ _ _ h=>h) (Or.inl ⟨by rfl,?_⟩) hHeld ?_ ?_
      rotate_left
      ·rintro w' ⟨s0,s1⟩
       go_simp
       with_reducible rfl
      rotate_left
      ·simp only [Act.put,List.setIfInBounds_toArray,List.set_cons_zero,List.set_cons_succ,i64_w,i32_w]
       rfl
      refine pure_ (i:=15) (N:=some 34) (v:=?_) (a':=?_) #[T,T,T,T,T,T,T,T,T,T,T,T,T,T,T,T,F,F,F,F,F,F,F] rfl rfl (by kernel_rfl) (fun _ _ _ h=>h) (Or.inl ⟨by rfl,?_⟩) ?_ ?_
      rotate_left
      ·intro w'
       go_simp
       with_reducible rfl
      rotate_left
      ·simp only [Act.put,List.setIfInBounds_toArray,List.set_cons_zero,List.set_cons_succ,i64_w,i32_w]
       rfl
      refine pure_ (i:=16) (N:=some 35) (v:=?_) (a':=?_) #[T,T,T,T,T,T,T,T,T,T,T,T,T,T,T,T,T,F,F,F,F,F,F] rfl rfl (by kernel_rfl) (fun _ _ _ h=>h) (Or.inl ⟨by rfl,?_⟩) ?_ ?_
      rotate_left
      ·intro w'
       go_simp
       with_reducible rfl
      rotate_left
      ·simp only [Act.put,List.setIfInBounds_toArray,List.set_cons_zero,List.set_cons_succ,i64_w,i32_w]
       rfl
      refine pure_ (i:=17) (N:=some 36) (v:=?_) (a':=?_) #[T,T,T,T,T,T,T,T,T,T,T,T,T,T,T,T,T,T,F,F,F,F,F] rfl rfl (by kernel_rfl) (fun _ _ _ h=>h) (Or.inl ⟨by rfl,?_⟩) ?_ ?_
      rotate_left
      ·intro w'
       go_simp
       with_reducible rfl
      rotate_left
      ·simp only [Act.put,List.setIfInBounds_toArray,List.set_cons_zero,List.set_cons_succ,i64_w,i32_w]
       rfl
      refine take_ (i:=18) (N:=some 37) (v:=?_) (a':=?_) #[T,T,T,T,T,T,T,T,T,T,T,T,T,T,T,T,T,T,T,F,F,F,F] rfl rfl (by kernel_rfl) (fun _ _ _ h=>h) (Or.inl ⟨by rfl,?_⟩) hHeld ?_ ?_
      rotate_left
      ·rintro w' ⟨s0,s1⟩
       go_simp
       with_reducible rfl
      rotate_left
      ·simp only [Act.put,List.setIfInBounds_toArray,List.set_cons_zero,List.set_cons_succ,i64_w,i32_w]
       rfl
      refine pure_ (i:=19) (N:=some 38) (v:=?_) (a':=?_) #[T,T,T,T,T,T,T,T,T,T,T,T,T,T,T,T,T,T,T,T,F,F,F] rfl rfl (by kernel_rfl) (fun _ _ _ h=>h) (Or.inl ⟨by rfl,?_⟩) ?_ ?_
      rotate_left
      ·intro w'
       go_simp
       with_reducible rfl
      rotate_left
      ·simp only [Act.put,List.setIfInBounds_toArray,List.set_cons_zero,List.set_cons_succ,i64_w,i32_w]
       rfl
      refine one_ (i:=20) (N:=some 39) #[T,T,T,T,T,T,T,T,T,T,T,T,T,T,T,T,T,T,T,T,T,F,F] rfl rfl (by kernel_rfl) (by decide) (fun K hK=>?_)
      refine goes_ Tryd.func55 (by kernel_rfl) rfl #[.string (s'.extract (p':Int).toNat s'.size),.string (⟨#[60,47]⟩ : ByteArray)] (by rfl) rfl rfl (by(try simp only [List.map_toArray,List.map_cons,List.map_nil]);first|done|rfl) ?_
      with_reducible refine(strings_HasPrefix.calls (s'.extract (p':Int).toNat s'.size) (⟨#[60,47]⟩ : ByteArray) true _ hY.out).mono ?_
      rintro e_ w_ ⟨rfl,⟨nd,rfl⟩⟩
      refine⟨_,rfl,?_⟩
      refine hK.out _ _ ⟨xml_reader_attribute.c0 (by first|exact HV.out.i|exact(HV.out.drewN _).i|exact((HV.out.drewN _).drewN _).i|exact HV.out.drew.i|exact(HV.out.drewN _).drew.i|exact(HV.out.drew.drewN _).i|exact((HV.out.drew.drewN _).drewN _).i),xml_reader_attribute.c1 (by first|exact HV.out.i|exact(HV.out.drewN _).i|exact((HV.out.drewN _).drewN _).i|exact HV.out.drew.i|exact(HV.out.drewN _).drew.i|exact(HV.out.drew.drewN _).i|exact((HV.out.drew.drewN _).drewN _).i)⟩ (fun hHeld=>?_)
      clear hK K
      refine norm_ (a':=?_) ?_ ?_
      rotate_left
      ·show Act.put _ (some 39) _=_
       simp only [Act.put,List.setIfInBounds_toArray,List.set_cons_zero,List.set_cons_succ,i64_w,i32_w]
       rfl
      refine pure_ (i:=21) (N:=some 40) (v:=?_) (a':=?_) #[T,T,T,T,T,T,T,T,T,T,T,T,T,T,T,T,T,T,T,T,T,T,F] rfl rfl (by kernel_rfl) (fun _ _ _ h=>h) (Or.inl ⟨by rfl,?_⟩) ?_ ?_
      rotate_left
      ·intro w'
       go_simp
       with_reducible rfl
      rotate_left
      ·simp only [Act.put,List.setIfInBounds_toArray,List.set_cons_zero,List.set_cons_succ,i64_w,i32_w]
       rfl
      refine pure_ (i:=22) (N:=some 41) (v:=?_) (a':=?_) #[T,T,T,T,T,T,T,T,T,T,T,T,T,T,T,T,T,T,T,T,T,T,T] rfl rfl (by kernel_rfl) (fun _ _ _ h=>h) (Or.inl ⟨by rfl,?_⟩) ?_ ?_
      rotate_left
      ·intro w'
       go_simp
       with_reducible rfl
      rotate_left
      ·simp only [Act.put,List.setIfInBounds_toArray,List.set_cons_zero,List.set_cons_succ,i64_w,i32_w]
       rfl
      refine done_ (by kernel_rfl) ?_
      try go_wp2
      go_meet
      case rel=>exact⟨false,rfl,hH2,⟨(by first|exact HV.out|exact(HV.out.drewN _)|exact((HV.out.drewN _).drewN _)|exact HV.out.drew|exact(HV.out.drewN _).drew|exact(HV.out.drew.drewN _)|exact((HV.out.drew.drewN _).drewN _))⟩⟩
     | false=>
      rw [if_neg Bool.false_ne_true] at H
      have hH2:=Aside0.mk (H)
      clear H
      refine start_ (n:=23) (S:=fun w'=>w'.cell? ⟨g,0,none⟩=some (.string s')∧w'.cell? ⟨g,1,none⟩=some (.int .i64 p')) (ds:=[]) #[F,F,F,F,F,F,F,F,F,F,F,F,F,F,F,F,F,F,F,F,F,F,F] (by kernel_rfl) rfl rfl ⟨xml_reader_attribute.c0 HV.out.drew.i,xml_reader_attribute.c1 HV.out.drew.i⟩ (fun hHeld=>?_)
      refine pure_ (i:=0) (N:=some 19) (v:=?_) (a':=?_) #[T,F,F,F,F,F,F,F,F,F,F,F,F,F,F,F,F,F,F,F,F,F,F] rfl rfl (by kernel_rfl) (fun _ _ _ h=>h) (Or.inl ⟨by rfl,?_⟩) ?_ ?_
      rotate_left
      ·intro w'
       go_simp
       with_reducible rfl
      rotate_left
      ·simp only [Act.put,List.setIfInBounds_toArray,List.set_cons_zero,List.set_cons_succ,i64_w,i32_w]
       rfl
      refine pure_ (i:=1) (N:=some 20) (v:=?_) (a':=?_) #[T,T,F,F,F,F,F,F,F,F,F,F,F,F,F,F,F,F,F,F,F,F,F] rfl rfl (by kernel_rfl) (fun _ _ _ h=>h) (Or.inl ⟨by rfl,?_⟩) ?_ ?_
      rotate_left
      ·intro w'
       go_simp
       with_reducible rfl
      rotate_left
      ·simp only [Act.put,List.setIfInBounds_toArray,List.set_cons_zero,List.set_cons_succ,i64_w,i32_w]
       rfl
      refine pure_ (i:=2) (N:=some 21) (v:=?_) (a':=?_) #[T,T,T,F,F,F,F,F,F,F,F,F,F,F,F,F,F,F,F,F,F,F,F] rfl rfl (by kernel_rfl) (fun _ _ _ h=>h) (Or.inl ⟨by rfl,?_⟩) ?_ ?_
      rotate_left
      ·intro w'
       go_simp
       with_reducible rfl
      rotate_left
      ·simp only [Act.put,List.setIfInBounds_toArray,List.set_cons_zero,List.set_cons_succ,i64_w,i32_w]
       rfl
      refine take_ (i:=3) (N:=some 22) (v:=?_) (a':=?_) #[T,T,T,T,F,F,F,F,F,F,F,F,F,F,F,F,F,F,F,F,F,F,F] rfl rfl (by kernel_rfl) (fun _ _ _ h=>h) (Or.inl ⟨by rfl,?_⟩) hHeld ?_ ?_
      rotate_left
      ·rintro w' ⟨s0,s1⟩
       go_simp
       with_reducible rfl
      rotate_left
      ·simp only [Act.put,List.setIfInBounds_toArray,List.set_cons_zero,List.set_cons_succ,i64_w,i32_w]
       rfl
      refine pure_ (i:=4) (N:=some 23) (v:=?_) (a':=?_) #[T,T,T,T,T,F,F,F,F,F,F,F,F,F,F,F,F,F,F,F,F,F,F] rfl rfl (by kernel_rfl) (fun _ _ _ h=>h) (Or.inl ⟨by rfl,?_⟩) ?_ ?_
      rotate_left
      ·intro w'
       go_simp
       with_reducible rfl
      rotate_left
      ·simp only [Act.put,List.setIfInBounds_toArray,List.set_cons_zero,List.set_cons_succ,i64_w,i32_w]
       rfl
      refine pure_ (i:=5) (N:=some 24) (v:=?_) (a':=?_) #[T,T,T,T,T,T,F,F,F,F,F,F,F,F,F,F,F,F,F,F,F,F,F] rfl rfl (by kernel_rfl) (fun _ _ _ h=>h) (Or.inl ⟨by rfl,?_⟩) ?_ ?_
      rotate_left
      ·intro w'
       go_simp
       with_reducible rfl
      rotate_left
      ·simp only [Act.put,List.setIfInBounds_toArray,List.set_cons_zero,List.set_cons_succ,i64_w,i32_w]
       rfl
      refine pure_ (i:=6) (N:=some 25) (v:=?_) (a':=?_) #[T,T,T,T,T,T,T,F,F,F,F,F,F,F,F,F,F,F,F,F,F,F,F] rfl rfl (by kernel_rfl) (fun _ _ _ h=>h) (Or.inl ⟨by rfl,?_⟩) ?_ ?_
      rotate_left
      ·intro w'
       go_simp
       with_reducible rfl
      rotate_left
      ·simp only [Act.put,List.setIfInBounds_toArray,List.set_cons_zero,List.set_cons_succ,i64_w,i32_w]
       rfl
      refine take_ (i:=7) (N:=some 26) (v:=?_) (a':=?_) #[T,T,T,T,T,T,T,T,F,F,F,F,F,F,F,F,F,F,F,F,F,F,F] rfl rfl (by kernel_rfl) (fun _ _ _ h=>h) (Or.inl ⟨by rfl,?_⟩) hHeld ?_ ?_
      rotate_left
      ·rintro w' ⟨s0,s1⟩
       go_simp
       with_reducible rfl
      rotate_left
      ·simp only [Act.put,List.setIfInBounds_toArray,List.set_cons_zero,List.set_cons_succ,i64_w,i32_w]
       rfl
      refine pure_ (i:=8) (N:=some 27) (v:=?_) (a':=?_) #[T,T,T,T,T,T,T,T,T,F,F,F,F,F,F,F,F,F,F,F,F,F,F] rfl rfl (by kernel_rfl) (fun _ _ _ h=>h) (Or.inl ⟨by rfl,?_⟩) ?_ ?_
      rotate_left
      ·intro w'
       go_simp
       with_reducible rfl
      rotate_left
      ·simp only [Act.put,List.setIfInBounds_toArray,List.set_cons_zero,List.set_cons_succ,i64_w,i32_w]
       rfl
      refine one_ (i:=9) (N:=some 28) #[T,T,T,T,T,T,T,T,T,T,F,F,F,F,F,F,F,F,F,F,F,F,F] rfl rfl (by kernel_rfl) (by decide) (fun K hK=>?_)
      refine goes_ Tryd.func55 (by kernel_rfl) rfl #[.string (s'.extract (p':Int).toNat s'.size),.string (⟨#[60]⟩ : ByteArray)] (by rfl) rfl rfl (by(try simp only [List.map_toArray,List.map_cons,List.map_nil]);first|done|rfl) ?_
      with_reducible refine(strings_HasPrefix.calls (s'.extract (p':Int).toNat s'.size) (⟨#[60]⟩ : ByteArray) true _ hX.out).mono ?_
      rintro e_ w_ ⟨rfl,⟨nd,rfl⟩⟩
      refine⟨_,rfl,?_⟩
      refine hK.out _ _ ⟨xml_reader_attribute.c0 (by first|exact HV.out.i|exact(HV.out.drewN _).i|exact((HV.out.drewN _).drewN _).i|exact HV.out.drew.i|exact(HV.out.drewN _).drew.i|exact(HV.out.drew.drewN _).i|exact((HV.out.drew.drewN _).drewN _).i),xml_reader_attribute.c1 (by first|exact HV.out.i|exact(HV.out.drewN _).i|exact((HV.out.drewN _).drewN _).i|exact HV.out.drew.i|exact(HV.out.drewN _).drew.i|exact(HV.out.drew.drewN _).i|exact((HV.out.drew.drewN _).drewN _).i)⟩ (fun hHeld=>?_)
      clear hK K
      refine norm_ (a':=?_) ?_ ?_
      rotate_left
      ·show Act.put _ (some 28) _=_
       simp only [Act.put,List.setIfInBounds_toArray,List.set_cons_zero,List.set_cons_succ,i64_w,i32_w]
       rfl
      refine pure_ (i:=10) (N:=some 29) (v:=?_) (a':=?_) #[T,T,T,T,T,T,T,T,T,T,T,F,F,F,F,F,F,F,F,F,F,F,F] rfl rfl (by kernel_rfl) (fun _ _ _ h=>h) (Or.inl ⟨by rfl,?_⟩) ?_ ?_
      rotate_left
      ·intro w'
       go_simp
       with_reducible rfl
      rotate_left
      ·simp only [Act.put,List.setIfInBounds_toArray,List.set_cons_zero,List.set_cons_succ,i64_w,i32_w]
       rfl
      refine pure_ (i:=11) (N:=some 30) (v:=?_) (a':=?_) #[T,T,T,T,T,T,T,T,T,T,T,T,F,F,F,F,F,F,F,F,F,F,F] rfl rfl (by kernel_rfl) (fun _ _ _ h=>h) (Or.inl ⟨by rfl,?_⟩) ?_ ?_
      rotate_left
      ·intro w'
       go_simp
       with_reducible rfl
      rotate_left
      ·simp only [Act.put,List.setIfInBounds_toArray,List.set_cons_zero,List.set_cons_succ,i64_w,i32_w]
       rfl
      refine pure_ (i:=12) (N:=some 31) (v:=?_) (a':=?_) #[T,T,T,T,T,T,T,T,T,T,T,T,T,F,F,F,F,F,F,F,F,F,F] rfl rfl (by kernel_rfl) (fun _ _ _ h=>h) (Or.inl ⟨by rfl,?_⟩) ?_ ?_
      rotate_left
      ·intro w'
       go_simp
       with_reducible rfl
      rotate_left
      ·simp only [Act.put,List.setIfInBounds_toArray,List.set_cons_zero,List.set_cons_succ,i64_w,i32_w]
       rfl
      refine pure_ (i:=13) (N:=some 32) (v:=?_) (a':=?_) #[T,T,T,T,T,T,T,T,T,T,T,T,T,T,F,F,F,F,F,F,F,F,F] rfl rfl (by kernel_rfl) (fun _ _ _ h=>h) (Or.inl ⟨by rfl,?_⟩) ?_ ?_
      rotate_left
      ·intro w'
       go_simp
       with_reducible rfl
      rotate_left
      ·simp only [Act.put,List.setIfInBounds_toArray,List.set_cons_zero,List.set_cons_succ,i64_w,i32_w]
       rfl
      refine take_ (i:=14) (N:=some 33) (v:=?_) (a':=?_) #[T,T,T,T,T,T,T,T,T,T,T,T,T,T,T,F,F,F,F,F,F,F,F] rfl rfl (by kernel_rfl) (fun _ _ _ h=>h) (Or.inl ⟨by rfl,?_⟩) hHeld ?_ ?_
      rotate_left
      ·rintro w' ⟨s0,s1⟩
       go_simp
       with_reducible rfl
      rotate_left
      ·simp only [Act.put,List.setIfInBounds_toArray,List.set_cons_zero,List.set_cons_succ,i64_w,i32_w]
       rfl
      refine pure_ (i:=15) (N:=some 34) (v:=?_) (a':=?_) #[T,T,T,T,T,T,T,T,T,T,T,T,T,T,T,T,F,F,F,F,F,F,F] rfl rfl (by kernel_rfl) (fun _ _ _ h=>h) (Or.inl ⟨by rfl,?_⟩) ?_ ?_
      rotate_left
      ·intro w'
       go_simp
       with_reducible rfl
      rotate_left
      ·simp only [Act.put,List.setIfInBounds_toArray,List.set_cons_zero,List.set_cons_succ,i64_w,i32_w]
       rfl
      refine pure_ (i:=16) (N:=some 35) (v:=?_) (a':=?_) #[T,T,T,T,T,T,T,T,T,T,T,T,T,T,T,T,T,F,F,F,F,F,F] rfl rfl (by kernel_rfl) (fun _ _ _ h=>h) (Or.inl ⟨by rfl,?_⟩) ?_ ?_
      rotate_left
      ·intro w'
       go_simp
       with_reducible rfl
      rotate_left
      ·simp only [Act.put,List.setIfInBounds_toArray,List.set_cons_zero,List.set_cons_succ,i64_w,i32_w]
       rfl
      refine pure_ (i:=17) (N:=some 36) (v:=?_) (a':=?_) #[T,T,T,T,T,T,T,T,T,T,T,T,T,T,T,T,T,T,F,F,F,F,F] rfl rfl (by kernel_rfl) (fun _ _ _ h=>h) (Or.inl ⟨by rfl,?_⟩) ?_ ?_
      rotate_left
      ·intro w'
       go_simp
       with_reducible rfl
      rotate_left
      ·simp only [Act.put,List.setIfInBounds_toArray,List.set_cons_zero,List.set_cons_succ,i64_w,i32_w]
       rfl
      refine take_ (i:=18) (N:=some 37) (v:=?_) (a':=?_) #[T,T,T,T,T,T,T,T,T,T,T,T,T,T,T,T,T,T,T,F,F,F,F] rfl rfl (by kernel_rfl) (fun _ _ _ h=>h) (Or.inl ⟨by rfl,?_⟩) hHeld ?_ ?_
      rotate_left
      ·rintro w' ⟨s0,s1⟩
       go_simp
       with_reducible rfl
      rotate_left
      ·simp only [Act.put,List.setIfInBounds_toArray,List.set_cons_zero,List.set_cons_succ,i64_w,i32_w]
       rfl
      refine pure_ (i:=19) (N:=some 38) (v:=?_) (a':=?_) #[T,T,T,T,T,T,T,T,T,T,T,T,T,T,T,T,T,T,T,T,F,F,F] rfl rfl (by kernel_rfl) (fun _ _ _ h=>h) (Or.inl ⟨by rfl,?_⟩) ?_ ?_
      rotate_left
      ·intro w'
       go_simp
       with_reducible rfl
      rotate_left
      ·simp only [Act.put,List.setIfInBounds_toArray,List.set_cons_zero,List.set_cons_succ,i64_w,i32_w]
       rfl
      refine one_ (i:=20) (N:=some 39) #[T,T,T,T,T,T,T,T,T,T,T,T,T,T,T,T,T,T,T,T,T,F,F] rfl rfl (by kernel_rfl) (by decide) (fun K hK=>?_)
      refine goes_ Tryd.func55 (by kernel_rfl) rfl #[.string (s'.extract (p':Int).toNat s'.size),.string (⟨#[60,47]⟩ : ByteArray)] (by rfl) rfl rfl (by(try simp only [List.map_toArray,List.map_cons,List.map_nil]);first|done|rfl) ?_
      with_reducible refine(strings_HasPrefix.calls (s'.extract (p':Int).toNat s'.size) (⟨#[60,47]⟩ : ByteArray) false _ hY.out).mono ?_
      rintro e_ w_ ⟨rfl,⟨nd,rfl⟩⟩
      refine⟨_,rfl,?_⟩
      refine hK.out _ _ ⟨xml_reader_attribute.c0 (by first|exact HV.out.i|exact(HV.out.drewN _).i|exact((HV.out.drewN _).drewN _).i|exact HV.out.drew.i|exact(HV.out.drewN _).drew.i|exact(HV.out.drew.drewN _).i|exact((HV.out.drew.drewN _).drewN _).i),xml_reader_attribute.c1 (by first|exact HV.out.i|exact(HV.out.drewN _).i|exact((HV.out.drewN _).drewN _).i|exact HV.out.drew.i|exact(HV.out.drewN _).drew.i|exact(HV.out.drew.drewN _).i|exact((HV.out.drew.drewN _).drewN _).i)⟩ (fun hHeld=>?_)
      clear hK K
      refine norm_ (a':=?_) ?_ ?_
      rotate_left
      ·show Act.put _ (some 39) _=_
       simp only [Act.put,List.setIfInBounds_toArray,List.set_cons_zero,List.set_cons_succ,i64_w,i32_w]
       rfl
      refine pure_ (i:=21) (N:=some 40) (v:=?_) (a':=?_) #[T,T,T,T,T,T,T,T,T,T,T,T,T,T,T,T,T,T,T,T,T,T,F] rfl rfl (by kernel_rfl) (fun _ _ _ h=>h) (Or.inl ⟨by rfl,?_⟩) ?_ ?_
      rotate_left
      ·intro w'
       go_simp
       with_reducible rfl
      rotate_left
      ·simp only [Act.put,List.setIfInBounds_toArray,List.set_cons_zero,List.set_cons_succ,i64_w,i32_w]
       rfl
      refine pure_ (i:=22) (N:=some 41) (v:=?_) (a':=?_) #[T,T,T,T,T,T,T,T,T,T,T,T,T,T,T,T,T,T,T,T,T,T,T] rfl rfl (by kernel_rfl) (fun _ _ _ h=>h) (Or.inl ⟨by rfl,?_⟩) ?_ ?_
      rotate_left
      ·intro w'
       go_simp
       with_reducible rfl
      rotate_left
      ·simp only [Act.put,List.setIfInBounds_toArray,List.set_cons_zero,List.set_cons_succ,i64_w,i32_w]
       rfl
      refine done_ (by kernel_rfl) ?_
      try go_wp2
      go_meet
      case rel=>exact⟨true,rfl,hH2,⟨(by first|exact HV.out|exact(HV.out.drewN _)|exact((HV.out.drewN _).drewN _)|exact HV.out.drew|exact(HV.out.drewN _).drew|exact(HV.out.drew.drewN _)|exact((HV.out.drew.drewN _).drewN _))⟩⟩
   case rest=>
    clear H
    obtain⟨m,rfl,hM,HV⟩:=hcut
    have hc0:=xml_reader_attribute.c0 HV.out.i
    have hc1:=xml_reader_attribute.c1 HV.out.i
    have hf0:=xml_reader_attribute.z0 HV.out.i
    have hf1:=xml_reader_attribute.z1 HV.out.i
    have hd2:=(blk_cell HV.out.blk 2).trans rfl
    have he1:=blk_frozen HV.out.blk 1
    have he2:=blk_frozen HV.out.blk 2
    have hd1:=(blk_cell HV.out.blk 1).trans rfl
    have hne:=HV.out.ne
    have hen:=HV.out.ne.symm
    cases m with
    | true=>
     have H:=hM.out
     clear hM
     rw [if_pos rfl] at H
     obtain⟨e,he,H⟩:=bndO H
     obtain⟨⟨x0,x1,x2⟩,e2,e3,e4⟩:=e
     have hE:=Aside0.mk he
     clear he
     dsimp only at H
     cases e2 with
     | false=>
      rw [if_neg Bool.false_ne_true] at H
      simp only [Option.some.injEq,Prod.mk.injEq] at H
      obtain⟨rfl,rfl,rfl,rfl⟩:=H
      have h:=hH.out
      rw [if_neg Bool.false_ne_true] at h
      obtain rfl:=Option.some.inj h
      go_wp2_with (first|(go_at_call 30;with_reducible refine(ih k1 (by have:=HK1.out;omega) s' p' (wrap64 (d+1)) _ w0 _ g ?s1 ?s2 hG hE.out).mono ?_;(case s1=>exact(by first|exact HV.out.i|exact(HV.out.drewN _).i|exact((HV.out.drewN _).drewN _).i|exact HV.out.drew.i|exact(HV.out.drewN _).drew.i|exact(HV.out.drew.drewN _).i|exact((HV.out.drew.drewN _).drewN _).i));(case s2=>exact(by first|exact HV.out.bel|exact(HV.out.drewN _).bel|exact((HV.out.drewN _).drewN _).bel|exact HV.out.drew.bel|exact(HV.out.drewN _).drew.bel|exact(HV.out.drew.drewN _).bel|exact((HV.out.drew.drewN _).drewN _).bel));rintro e_ w_ ⟨v,he_,hVV,hi,hb,hk⟩;dsimp only at he_ hVV hi;obtain⟨eA,ec,rfl⟩:=Kd.V_slice hVV;subst he_;(first|have HE:=Aside0.mk (xml_co.el HV.out hVV)|have HE:=Aside0.mk (xml_co.el (HV.out.drewN _) hVV)|have HE:=Aside0.mk (xml_co.el ((HV.out.drewN _).drewN _) hVV)|have HE:=Aside0.mk (xml_co.el HV.out.drew hVV)|have HE:=Aside0.mk (xml_co.el (HV.out.drewN _).drew hVV)|have HE:=Aside0.mk (xml_co.el (HV.out.drew.drewN _) hVV)|have HE:=Aside0.mk (xml_co.el ((HV.out.drew.drewN _).drewN _) hVV));(first|replace HV:=Aside0.mk (xml_co.In.call HV.out hi hb hk)|replace HV:=Aside0.mk (xml_co.In.call (HV.out.drewN _) hi hb hk)|replace HV:=Aside0.mk (xml_co.In.call ((HV.out.drewN _).drewN _) hi hb hk)|replace HV:=Aside0.mk (xml_co.In.call HV.out.drew hi hb hk)|replace HV:=Aside0.mk (xml_co.In.call (HV.out.drewN _).drew hi hb hk)|replace HV:=Aside0.mk (xml_co.In.call (HV.out.drew.drewN _) hi hb hk)|replace HV:=Aside0.mk (xml_co.In.call ((HV.out.drew.drewN _).drewN _) hi hb hk));clear hi hb hk hVV;have hc0:=xml_reader_attribute.c0 HV.out.i;have hc1:=xml_reader_attribute.c1 HV.out.i;have hf0:=xml_reader_attribute.z0 HV.out.i;have hf1:=xml_reader_attribute.z1 HV.out.i;have hd2:=(blk_cell HV.out.blk 2).trans rfl;have he1:=blk_frozen HV.out.blk 1;have he2:=blk_frozen HV.out.blk 2;have hd1:=(blk_cell HV.out.blk 1).trans rfl;have hne:=HV.out.ne;have hen:=HV.out.ne.symm)|((with_reducible refine gate_dst (N:=8) rfl ?_);(try (refine gate_guard (by rfl) ?_;dsimp only));refine box_event ?hg (N:=8) ?hd (cs:=#[.string (⟨#[]⟩ : ByteArray),.string (⟨#[]⟩ : ByteArray),.slice none 0 0]) (t:=24) ?hr ?_;(case hd=>rfl);(case hg=>rfl);(case hr=>first|(go_simp;done)|(go_simp;rfl));intro gb hgb w4 hbox hb;have HX:=Aside0.mk hbox;have HB4:=Aside0.mk hb;have HG4:=Aside0.mk hgb;clear hb hbox hgb;have hk0:=(blk_cell HX.out 0).trans rfl;have hk1:=(blk_cell HX.out 1).trans rfl;have hk2:=(blk_cell HX.out 2).trans rfl;have hz0:=blk_frozen HX.out 0;have hz1:=blk_frozen HX.out 1;have hz2:=blk_frozen HX.out 2))
      have HV2:=Aside0.mk (HV.out.box HB4.out HG4.out (.string x0) (.string x1) (.slice eA x2.length ec))
      have HE2:=Aside0.mk (xml_co.vbox HE.out HB4.out HG4.out (.string x0) (.string x1) (.slice eA x2.length ec))
      have HX2:=Aside0.mk (blk_put (blk_put (blk_put HX.out 0 (.string x0) (cs':=#[.string x0,.string (⟨#[]⟩ : ByteArray),.slice none 0 0]) rfl) 1 (.string x1) (cs':=#[.string x0,.string x1,.slice none 0 0]) rfl) 2 (.slice eA x2.length ec) (cs':=#[.string x0,.string x1,.slice eA x2.length ec]) rfl)
      try simp only [Exit.jump]
      refine bodyPost_ret (results_tmp rfl _ _ _) rfl ?_
      exact⟨rfl,HV2.out.ends⟩
     | true=>
      rw [if_pos rfl] at H
      rcases itO H with⟨hlen,H⟩|⟨_,H⟩
      case inr=>exact absurd H (by simp)
      have hLn:=Aside0.mk hlen
      clear hlen
      obtain⟨u,hu,H⟩:=bndO H
      obtain⟨u1,u2,u3⟩:=u
      have hU:=Aside0.mk hu
      clear hu
      dsimp only at H
      have H':=Aside0.mk H
      clear H
      go_upto_region 7 with(first|(go_at_call 30;with_reducible refine(ih k1 (by have:=HK1.out;omega) s' p' (wrap64 (d+1)) _ w0 _ g ?s1 ?s2 hG hE.out).mono ?_;(case s1=>exact(by first|exact HV.out.i|exact(HV.out.drewN _).i|exact((HV.out.drewN _).drewN _).i|exact HV.out.drew.i|exact(HV.out.drewN _).drew.i|exact(HV.out.drew.drewN _).i|exact((HV.out.drew.drewN _).drewN _).i));(case s2=>exact(by first|exact HV.out.bel|exact(HV.out.drewN _).bel|exact((HV.out.drewN _).drewN _).bel|exact HV.out.drew.bel|exact(HV.out.drewN _).drew.bel|exact(HV.out.drew.drewN _).bel|exact((HV.out.drew.drewN _).drewN _).bel));rintro e_ w_ ⟨v,he_,hVV,hi,hb,hk⟩;dsimp only at he_ hVV hi;obtain⟨eA,ec,rfl⟩:=Kd.V_slice hVV;subst he_;(first|have HE:=Aside0.mk (xml_co.el HV.out hVV)|have HE:=Aside0.mk (xml_co.el (HV.out.drewN _) hVV)|have HE:=Aside0.mk (xml_co.el ((HV.out.drewN _).drewN _) hVV)|have HE:=Aside0.mk (xml_co.el HV.out.drew hVV)|have HE:=Aside0.mk (xml_co.el (HV.out.drewN _).drew hVV)|have HE:=Aside0.mk (xml_co.el (HV.out.drew.drewN _) hVV)|have HE:=Aside0.mk (xml_co.el ((HV.out.drew.drewN _).drewN _) hVV));(first|replace HV:=Aside0.mk (xml_co.In.call HV.out hi hb hk)|replace HV:=Aside0.mk (xml_co.In.call (HV.out.drewN _) hi hb hk)|replace HV:=Aside0.mk (xml_co.In.call ((HV.out.drewN _).drewN _) hi hb hk)|replace HV:=Aside0.mk (xml_co.In.call HV.out.drew hi hb hk)|replace HV:=Aside0.mk (xml_co.In.call (HV.out.drewN _).drew hi hb hk)|replace HV:=Aside0.mk (xml_co.In.call (HV.out.drew.drewN _) hi hb hk)|replace HV:=Aside0.mk (xml_co.In.call ((HV.out.drew.drewN _).drewN _) hi hb hk));clear hi hb hk hVV;have hc0:=xml_reader_attribute.c0 HV.out.i;have hc1:=xml_reader_attribute.c1 HV.out.i;have hf0:=xml_reader_attribute.z0 HV.out.i;have hf1:=xml_reader_attribute.z1 HV.out.i;have hd2:=(blk_cell HV.out.blk 2).trans rfl;have he1:=blk_frozen HV.out.blk 1;have he2:=blk_frozen HV.out.blk 2;have hd1:=(blk_cell HV.out.blk 1).trans rfl;have hne:=HV.out.ne;have hen:=HV.out.ne.symm)|((with_reducible refine gate_dst (N:=8) rfl ?_);(try (refine gate_guard (by rfl) ?_;dsimp only));refine box_event ?hg (N:=8) ?hd (cs:=#[.string (⟨#[]⟩ : ByteArray),.string (⟨#[]⟩ : ByteArray),.slice none 0 0]) (t:=24) ?hr ?_;(case hd=>rfl);(case hg=>rfl);(case hr=>first|(go_simp;done)|(go_simp;rfl));intro gb hgb w4 hbox hb;have HX:=Aside0.mk hbox;have HB4:=Aside0.mk hb;have HG4:=Aside0.mk hgb;clear hb hbox hgb;have hk0:=(blk_cell HX.out 0).trans rfl;have hk1:=(blk_cell HX.out 1).trans rfl;have hk2:=(blk_cell HX.out 2).trans rfl;have hz0:=blk_frozen HX.out 0;have hz1:=blk_frozen HX.out 1;have hz2:=blk_frozen HX.out 2))
      have HV2:=Aside0.mk (HV.out.box HB4.out HG4.out (.string x0) (.string x1) (.slice eA x2.length ec))
      have HE2:=Aside0.mk (xml_co.vbox HE.out HB4.out HG4.out (.string x0) (.string x1) (.slice eA x2.length ec))
      have HX2:=Aside0.mk (blk_put (blk_put (blk_put HX.out 0 (.string x0) (cs':=#[.string x0,.string (⟨#[]⟩ : ByteArray),.slice none 0 0]) rfl) 1 (.string x1) (cs':=#[.string x0,.string x1,.slice none 0 0]) rfl) 2 (.slice eA x2.length ec) (cs':=#[.string x0,.string x1,.slice eA x2.length ec]) rfl)
      clear HV HE HX HB4 HG4 hc0 hc1 hf0 hf1 hd2 he1 he2 hd1 hk0 hk1 hk2 hz0 hz1 hz2
      generalize World.setCell _ _ _=W2 at HV2 HE2 HX2 ⊢
      have HV:=HV2
      clear HV2
      have HE:=HE2
      clear HE2
      have HX:=HX2
      clear HX2
      have hn0:(0:Int)≤(kids.length:Int):=Int.natCast_nonneg _
      have hn1:(kids.length:Int)<((kids.length+1:Nat):Int):=by omega
      have hn2:=eq_true (show(kids.length:Int)<(kids.length:Int)+1 by omega)
      have hlen1:(kids ++ [z24]).length=kids.length+1:=by simp
      refine start_ (n:=13) (S:=fun w'=>w'.cell? ⟨b,2,none⟩=some (.slice vA kids.length vc)∧w'.cell? ⟨gb,0,none⟩=some (.string x0)∧w'.cell? ⟨gb,1,none⟩=some (.string x1)∧w'.cell? ⟨gb,2,none⟩=some (.slice eA x2.length ec)) (ds:=[7,9,12]) #[F,F,F,F,F,F,F,F,F,F,F,F,F] (by kernel_rfl) rfl rfl ⟨(blk_cell (blk_drew HV.out.blk) 2).trans rfl,(blk_cell (blk_drew HX.out) 0).trans rfl,(blk_cell (blk_drew HX.out) 1).trans rfl,(blk_cell (blk_drew HX.out) 2).trans rfl⟩ (fun hHeld=>?_)
      refine pure_ (i:=0) (N:=some 51) (v:=?_) (a':=?_) #[T,F,F,F,F,F,F,F,F,F,F,F,F] rfl rfl (by kernel_rfl) (fun _ _ _ h=>h) (Or.inl ⟨by rfl,?_⟩) ?_ ?_
      rotate_left
      ·intro w'
       go_simp
       with_reducible rfl
      rotate_left
      ·simp only [Act.put,List.setIfInBounds_toArray,List.set_cons_zero,List.set_cons_succ,i64_w,i32_w]
       rfl
      refine pure_ (i:=1) (N:=some 52) (v:=?_) (a':=?_) #[T,T,F,F,F,F,F,F,F,F,F,F,F] rfl rfl (by kernel_rfl) (fun _ _ _ h=>h) (Or.inl ⟨by rfl,?_⟩) ?_ ?_
      rotate_left
      ·intro w'
       go_simp
       with_reducible rfl
      rotate_left
      ·simp only [Act.put,List.setIfInBounds_toArray,List.set_cons_zero,List.set_cons_succ,i64_w,i32_w]
       rfl
      refine pure_ (i:=2) (N:=some 53) (v:=?_) (a':=?_) #[T,T,T,F,F,F,F,F,F,F,F,F,F] rfl rfl (by kernel_rfl) (fun _ _ _ h=>h) (Or.inl ⟨by rfl,?_⟩) ?_ ?_
      rotate_left
      ·intro w'
       go_simp
       with_reducible rfl
      rotate_left
      ·simp only [Act.put,List.setIfInBounds_toArray,List.set_cons_zero,List.set_cons_succ,i64_w,i32_w]
       rfl
      refine take_ (i:=3) (N:=some 54) (v:=?_) (a':=?_) #[T,T,T,T,F,F,F,F,F,F,F,F,F] rfl rfl (by kernel_rfl) (fun _ _ _ h=>h) (Or.inl ⟨by rfl,?_⟩) hHeld ?_ ?_
      rotate_left
      ·rintro w' ⟨s0,s1,s2,s3⟩
       go_simp
       with_reducible rfl
      rotate_left
      ·simp only [Act.put,List.setIfInBounds_toArray,List.set_cons_zero,List.set_cons_succ,i64_w,i32_w]
       rfl
      refine take_ (i:=4) (N:=some 55) (v:=?_) (a':=?_) #[T,T,T,T,T,F,F,F,F,F,F,F,F] rfl rfl (by kernel_rfl) (fun _ _ _ h=>h) (Or.inl ⟨by rfl,?_⟩) hHeld ?_ ?_
      rotate_left
      ·rintro w' ⟨s0,s1,s2,s3⟩
       go_simp
       with_reducible rfl
      rotate_left
      ·simp only [Act.put,List.setIfInBounds_toArray,List.set_cons_zero,List.set_cons_succ,i64_w,i32_w]
       rfl
      refine pure_ (i:=5) (N:=some 56) (v:=?_) (a':=?_) #[T,T,T,T,T,T,F,F,F,F,F,F,F] rfl rfl (by kernel_rfl) (fun _ _ _ h=>h) (Or.inl ⟨by rfl,?_⟩) ?_ ?_
      rotate_left
      ·intro w'
       go_simp
       with_reducible rfl
      rotate_left
      ·simp only [Act.put,List.setIfInBounds_toArray,List.set_cons_zero,List.set_cons_succ,i64_w,i32_w]
       rfl
      refine one_ (i:=6) (N:=some 57) #[T,T,T,T,T,T,T,F,F,F,F,F,F] rfl rfl (by kernel_rfl) (by decide) (fun K hK=>?_)
      refine value_ (w1:=?_) (v:=?_) (by rfl) rfl ?_ ?_
      rotate_left 2
      ·go_simp
       constructor
       ·rfl
       ·rfl
      refine hK.out _ _ ⟨(blk_cell (blk_alloc (blk_drew HV.out.blk) _) 2).trans rfl,(blk_cell (blk_alloc (blk_drew HX.out) _) 0).trans rfl,(blk_cell (blk_alloc (blk_drew HX.out) _) 1).trans rfl,(blk_cell (blk_alloc (blk_drew HX.out) _) 2).trans rfl⟩ (fun hHeld=>?_)
      clear hK K
      refine norm_ (a':=?_) ?_ ?_
      rotate_left
      ·show Act.put _ (some 57) _=_
       simp only [Act.put,List.setIfInBounds_toArray,List.set_cons_zero,List.set_cons_succ,i64_w,i32_w]
       rfl
      show wpAnyLast _ _ _ _ _ _ _ _ _ (W2.drew.alloc (.cells #[.string (⟨#[]⟩ : ByteArray),.string (⟨#[]⟩ : ByteArray),.slice none 0 0] 24))
      refine last_ (i:=7) (N:=some 58) #[T,T,T,T,T,T,T,T,F,F,F,F,F] rfl rfl (by kernel_rfl) (by decide) (fun K hK=>?_)
      refine Kd.N_append_step k24 (w0:=w0) w0.heap.size (by rfl) (.tmp 54) (.tmp 57) 22 24 (.agg #[(.string ⟨#[]⟩),(.string ⟨#[]⟩),(.slice none 0 0)]) 56 rfl Tryd.underlying22 info24 rfl (by decide) (by omega) (.slice vA kids.length vc) kids z24 [.string (⟨#[]⟩ : ByteArray),.string (⟨#[]⟩ : ByteArray),.slice none 0 0] (fun k_=>w.heap.size≤k_) (fun k_=>w.heap.size≤k_∧some k_≠(Value.slice vA kids.length vc).ownBlock) (by rfl) (by rfl) ?aP (fun _ hk=>hk) ?aF ?aO ?aB ?aS ?aL ?_
      case aP=>exact k24_mkF _ _ z24 (A2:=none) (c2:=0) (Nat.le_refl _) (Kd.F_nil _ _ _)
      case aF=>exact fun k_ hk=>Nat.le_trans HV.out.inv.grew hk
      case aO=>exact Kd.N_drew HV.out.row
      case aB=>exact below_drew HV.out.bel
      case aS=>exact HV.out.bel.size
      case aL=>have:=hLn.out;omega
      intro v1 w1 hN1 hB1 hG1 hA1
      refine hK.out _ _ ?_
      clear hK K
      refine norm_ (a':=?_) ?_ ?_
      rotate_left
      ·show Act.put _ (some 58) _=_
       simp only [Act.put,List.setIfInBounds_toArray,List.set_cons_zero,List.set_cons_succ,i64_w,i32_w]
       rfl
      have hI1:=Aside0.mk (HV.out.drew.inv.grown hG1 hB1 (fun k_ hk=>HV.out.row.1 k_ hk))
      have hE1:=Aside0.mk (Kd.V_afterv (Kd.V_drew HE.out) hG1 hA1)
      clear hA1 hHeld
      have hN1_:=Aside0.mk hN1
      obtain⟨g1,cap1,hv1,hge1,hlt1,_⟩:=Kd.N_form hN1 (by simp)
      rw [show(kids ++ [z24]).length=kids.length+1 from by simp] at hv1
      subst hv1
      have hown:=hN1_.out.1 g1 rfl
      clear hN1 hG1 hge1 hlt1
      have hset:(kids ++ [z24]).set ((kids.length:Int)).toNat (⟨x0,x1,x2⟩ : S24)=kids ++ [(⟨x0,x1,x2⟩ : S24)]:=by simp
      refine pure_ (i:=8) (N:=some 59) (v:=?_) (a':=?_) #[T,T,T,T,T,T,T,T,T,F,F,F,F] rfl rfl (by kernel_rfl) (fun _ _ _ h=>h) (Or.inl ⟨by rfl,?_⟩) ?_ ?_
      rotate_left
      ·intro w'
       go_simp
       with_reducible rfl
      rotate_left
      ·simp only [Act.put,List.setIfInBounds_toArray,List.set_cons_zero,List.set_cons_succ,i64_w,i32_w]
       rfl
      refine pure_ (i:=10) (N:=some 60) (v:=?_) (a':=?_) #[T,T,T,T,T,T,T,T,T,F,T,F,F] rfl rfl (by kernel_rfl) (fun _ _ _ h=>h) (Or.inl ⟨by rfl,?_⟩) ?_ ?_
      rotate_left
      ·intro w'
       go_simp
       with_reducible rfl
      rotate_left
      ·simp only [Act.put,List.setIfInBounds_toArray,List.set_cons_zero,List.set_cons_succ,i64_w,i32_w]
       rfl
      refine pure_ (i:=11) (N:=some 61) (v:=?_) (a':=?_) #[T,T,T,T,T,T,T,T,T,F,T,T,F] rfl rfl (by kernel_rfl) (fun _ _ _ h=>h) (Or.inl ⟨by rfl,?_⟩) ?_ ?_
      rotate_left
      ·intro w'
       go_simp
       with_reducible rfl
      rotate_left
      ·simp only [Act.put,List.setIfInBounds_toArray,List.set_cons_zero,List.set_cons_succ,i64_w,i32_w]
       rfl
      refine join_ (σ:=Unit) 0 #[T,T,T,T,T,T,T,T,T,T,T,T,T] (fun _=>[]) (fun _ w'=>xml_co.In w0 w w' g b e3 e4 nm (⟨#[]⟩ : ByteArray) (.slice (some ⟨g1,0,none⟩) (kids.length+1) cap1) (kids ++ [(⟨x0,x1,x2⟩ : S24)])) ?_ ?_
      rotate_left
      ·intro hJ
       refine xml_co.two_last (i:=9) (j:=12) (Ni:=none) (Nj:=none) #[T,T,T,T,T,T,T,T,T,T,T,T,F] #[T,T,T,T,T,T,T,T,T,F,T,T,T] rfl rfl rfl rfl (by kernel_rfl) (by decide) (by decide) (fun K hK=>?_) (fun K hK=>?_)
       ·skip
        obtain⟨ad,A2,c2,ead,hx0,hx1,hx2,_,_⟩:=at_T24 (Kd.N_reads' hN1_.out).2.2 (kids.length:Int) hn0 (by omega)
        cases ead
        rw [xml_co.add0] at hx0 hx1 hx2
        refine xml_co.N_store_step k24 (w0:=w0) w0.heap.size rfl (by rfl) 24 (.tmp 59) (.tmp 55) rfl 24 (kids.length:Int) (kids ++ [z24]) ⟨x0,x1,x2⟩ (.agg #[.string x0,.string x1,.slice eA x2.length ec]) [.string x0,.string x1,.slice eA x2.length ec] [.string (rd_T24 (kids ++ [z24]) (kids.length:Int)).f0,.string (rd_T24 (kids ++ [z24]) (kids.length:Int)).f1,.slice A2 (rd_T24 (kids ++ [z24]) (kids.length:Int)).f2.length c2] (fun k_=>w.heap.size≤k_) (fun k_=>w.heap.size≤k_∧some k_≠some g1) (by rfl) (by rfl) (by rfl) rfl (by kernel_rfl) ?h1a hN1_.out hn0 hn1 rfl ?hcca rfl ?hMa (fun _ hk=>⟨hk.1,fun e=>hk.2 (congrArg some e)⟩) hB1 ?_
        case h1a=>intro q_ hq_;simp only [List.mem_cons,List.not_mem_nil,or_false] at hq_;rcases hq_ with rfl|rfl|rfl <;> rfl
        case hcca=>
         intro j u hj
         rcases j with _|_|_|j
         ·injection hj with hj;subst hj;exact hx0
         ·injection hj with hj;subst hj;exact hx1
         ·injection hj with hj;subst hj;exact hx2
         ·simp at hj
        case hMa=>exact k24_mkF _ _ (⟨x0,x1,x2⟩ : S24) (Kd.V_reads' hE1.out).2.1 (Kd.V_F (Kd.V_mono hE1.out (fun _ hk=>⟨hk.1,hk.2⟩)))
        intro w2 hN2 hB2 hG2
        refine hK.out _ _ ?_
        clear hK K
        rw [hset] at hN2
        have hI2:=Aside0.mk (hI1.out.grown hG2 hB2 (fun k_ hk=>by injection hk with hk;subst hk;exact hown))
        have hm2:=(blk_cell hI2.out.blk 2).trans rfl
        have hm3:=blk_frozen hI2.out.blk 2
        refine last_ (i:=12) (N:=none) #[T,T,T,T,T,T,T,T,T,T,T,T,T] rfl rfl (by kernel_rfl) (by decide) (fun K hK=>?_)
        refine skip_ (w1:=?_) (by rfl) rfl ?_ ?_
        rotate_left
        ·go_simp
         rfl
        refine hK.out _ _ ?_
        clear hK K
        exact hJ () _ ⟨hI2.out.put 2 _ rfl,Kd.N_far (p:=⟨b,2,none⟩) hN2 (fun k_ (hk_:w.heap.size≤k_)=>by have:=hI2.out.lt;show k_≠b;omega) _⟩
       ·skip
        have hm2:=(blk_cell hI1.out.blk 2).trans rfl
        have hm3:=blk_frozen hI1.out.blk 2
        refine skip_ (w1:=?_) (by rfl) rfl ?_ ?_
        rotate_left
        ·go_simp
         rfl
        refine hK.out _ _ ?_
        clear hK K
        have hN3:=Aside0.mk (Kd.N_far (p:=⟨b,2,none⟩) hN1_.out (fun k_ (hk_:w.heap.size≤k_)=>by have:=hI1.out.lt;show k_≠b;omega) (.slice (some ⟨g1,0,none⟩) (kids.length+1) cap1))
        have hE3:=Aside0.mk (Kd.V_far (p:=⟨b,2,none⟩) hE1.out (fun k_ hk_=>by have:=hI1.out.lt;have:=hk_.1;show k_≠b;omega) (.slice (some ⟨g1,0,none⟩) (kids.length+1) cap1))
        have hI3:=Aside0.mk (hI1.out.put 2 (.slice (some ⟨g1,0,none⟩) (kids.length+1) cap1) rfl)
        refine last_ (i:=9) (N:=none) #[T,T,T,T,T,T,T,T,T,T,T,T,T] rfl rfl (by kernel_rfl) (by decide) (fun K hK=>?_)
        obtain⟨ad,A2,c2,ead,hx0,hx1,hx2,_,_⟩:=at_T24 (Kd.N_reads' hN3.out).2.2 (kids.length:Int) hn0 (by omega)
        cases ead
        rw [xml_co.add0] at hx0 hx1 hx2
        refine xml_co.N_store_step k24 (w0:=w0) w0.heap.size rfl (by rfl) 24 (.tmp 59) (.tmp 55) rfl 24 (kids.length:Int) (kids ++ [z24]) ⟨x0,x1,x2⟩ (.agg #[.string x0,.string x1,.slice eA x2.length ec]) [.string x0,.string x1,.slice eA x2.length ec] [.string (rd_T24 (kids ++ [z24]) (kids.length:Int)).f0,.string (rd_T24 (kids ++ [z24]) (kids.length:Int)).f1,.slice A2 (rd_T24 (kids ++ [z24]) (kids.length:Int)).f2.length c2] (fun k_=>w.heap.size≤k_) (fun k_=>w.heap.size≤k_∧some k_≠some g1) (by rfl) (by rfl) (by rfl) rfl (by kernel_rfl) ?h1b hN3.out hn0 hn1 rfl ?hccb rfl ?hMb (fun _ hk=>⟨hk.1,fun e=>hk.2 (congrArg some e)⟩) hI3.out.bel ?_
        case h1b=>intro q_ hq_;simp only [List.mem_cons,List.not_mem_nil,or_false] at hq_;rcases hq_ with rfl|rfl|rfl <;> rfl
        case hccb=>
         intro j u hj
         rcases j with _|_|_|j
         ·injection hj with hj;subst hj;exact hx0
         ·injection hj with hj;subst hj;exact hx1
         ·injection hj with hj;subst hj;exact hx2
         ·simp at hj
        case hMb=>exact k24_mkF _ _ (⟨x0,x1,x2⟩ : S24) (Kd.V_reads' hE3.out).2.1 (Kd.V_F (Kd.V_mono hE3.out (fun _ hk=>⟨hk.1,hk.2⟩)))
        intro w2 hN2 hB2 hG2
        refine hK.out _ _ ?_
        clear hK K
        rw [hset] at hN2
        exact hJ () _ ⟨hI3.out.grown hG2 hB2 (fun k_ hk=>by injection hk with hk;subst hk;exact hown),hN2⟩
      rintro _ w3 hF
      clear hI1 hE1 hN1_ hB1 HV HE HX
      have HV:=Aside0.mk hF
      clear hF
      have hc0:=xml_reader_attribute.c0 HV.out.i
      have hc1:=xml_reader_attribute.c1 HV.out.i
      have hf0:=xml_reader_attribute.z0 HV.out.i
      have hf1:=xml_reader_attribute.z1 HV.out.i
      have hd2:=(blk_cell HV.out.blk 2).trans rfl
      have he1:=blk_frozen HV.out.blk 1
      have he2:=blk_frozen HV.out.blk 2
      have hd1:=(blk_cell HV.out.blk 1).trans rfl
      have hne:=HV.out.ne
      have hen:=HV.out.ne.symm
      refine done_ (by kernel_rfl) ?_
      try simp only [putAll,List.foldl_nil]
      go_wp2_with (first|(go_at_call 29;with_reducible refine(xml_reader_space.calls k1 g e3 e4 u1 u2 u3 w0 _ ?s1 ?s2 hU.out).mono ?_;(case s1=>exact(by first|exact HV.out.i|exact(HV.out.drewN _).i|exact((HV.out.drewN _).drewN _).i|exact HV.out.drew.i|exact(HV.out.drewN _).drew.i|exact(HV.out.drew.drewN _).i|exact((HV.out.drew.drewN _).drewN _).i));(case s2=>exact(by first|exact HV.out.bel|exact(HV.out.drewN _).bel|exact((HV.out.drewN _).drewN _).bel|exact HV.out.drew.bel|exact(HV.out.drewN _).drew.bel|exact(HV.out.drew.drewN _).bel|exact((HV.out.drew.drewN _).drewN _).bel));rintro e_ w_ ⟨rfl,hi,hb,hk⟩;(first|replace HV:=Aside0.mk (xml_co.In.call HV.out hi hb hk)|replace HV:=Aside0.mk (xml_co.In.call (HV.out.drewN _) hi hb hk)|replace HV:=Aside0.mk (xml_co.In.call ((HV.out.drewN _).drewN _) hi hb hk)|replace HV:=Aside0.mk (xml_co.In.call HV.out.drew hi hb hk)|replace HV:=Aside0.mk (xml_co.In.call (HV.out.drewN _).drew hi hb hk)|replace HV:=Aside0.mk (xml_co.In.call (HV.out.drew.drewN _) hi hb hk)|replace HV:=Aside0.mk (xml_co.In.call ((HV.out.drew.drewN _).drewN _) hi hb hk));clear hi hb hk;have hc0:=xml_reader_attribute.c0 HV.out.i;have hc1:=xml_reader_attribute.c1 HV.out.i;have hf0:=xml_reader_attribute.z0 HV.out.i;have hf1:=xml_reader_attribute.z1 HV.out.i;have hd2:=(blk_cell HV.out.blk 2).trans rfl;have he1:=blk_frozen HV.out.blk 1;have he2:=blk_frozen HV.out.blk 2;have hd1:=(blk_cell HV.out.blk 1).trans rfl;have hne:=HV.out.ne;have hen:=HV.out.ne.symm))
      go_roundg k1
      case measure=>have:=HK1.out;omega
      case rel=>exact⟨u2,u3,_,_,H',⟨by have:=HK1.out;omega⟩,⟨(by first|exact HV.out|exact(HV.out.drewN _)|exact((HV.out.drewN _).drewN _)|exact HV.out.drew|exact(HV.out.drewN _).drew|exact(HV.out.drew.drewN _)|exact((HV.out.drew.drewN _).drewN _))⟩⟩
    | false=>
     have hM2:=hM.out
     rw [if_neg Bool.false_ne_true] at hM2
     simp only [Prod.mk.injEq] at hM2
     obtain⟨rfl,rfl,rfl,rfl⟩:=hM2
     have h:=hH.out
     rw [if_pos rfl] at h
     clear hM hH
     obtain⟨i024,hi024,_,hsz24,_⟩:=info_parts info24
     have hroom:kids.length≤vc:=(Kd.N_reads' HV.out.row).2.1
     have hcut:=cut_to_max (P:=Tryd.prog) 22 24 .i64 .i64 Tryd.underlying22 hi024 vA kids.length vc (kids.length:Int) (Int.natCast_nonneg _) (Int.le_refl _) hroom
     rw [Int.toNat_natCast] at hcut
     go_upto_region 9 with fail
     refine start_ (n:=19) (S:=fun w'=>w'.cell? ⟨b,2,none⟩=some (.slice vA kids.length vc)) (ds:=[18]) #[F,F,F,F,F,F,F,F,F,F,F,F,F,F,F,F,F,F,F] (by kernel_rfl) rfl rfl ((blk_cell (blk_drew HV.out.blk) 2).trans rfl) (fun hHeld=>?_)
     refine pure_ (i:=0) (N:=some 64) (v:=?_) (a':=?_) #[T,F,F,F,F,F,F,F,F,F,F,F,F,F,F,F,F,F,F] rfl rfl (by kernel_rfl) (fun _ _ _ h=>h) (Or.inl ⟨by rfl,?_⟩) ?_ ?_
     rotate_left
     ·intro w'
      go_simp
      with_reducible rfl
     rotate_left
     ·simp only [Act.put,List.setIfInBounds_toArray,List.set_cons_zero,List.set_cons_succ,i64_w,i32_w]
      rfl
     refine pure_ (i:=1) (N:=some 65) (v:=?_) (a':=?_) #[T,T,F,F,F,F,F,F,F,F,F,F,F,F,F,F,F,F,F] rfl rfl (by kernel_rfl) (fun _ _ _ h=>h) (Or.inl ⟨by rfl,?_⟩) ?_ ?_
     rotate_left
     ·intro w'
      go_simp
      with_reducible rfl
     rotate_left
     ·simp only [Act.put,List.setIfInBounds_toArray,List.set_cons_zero,List.set_cons_succ,i64_w,i32_w]
      rfl
     refine pure_ (i:=2) (N:=some 66) (v:=?_) (a':=?_) #[T,T,T,F,F,F,F,F,F,F,F,F,F,F,F,F,F,F,F] rfl rfl (by kernel_rfl) (fun _ _ _ h=>h) (Or.inl ⟨by rfl,?_⟩) ?_ ?_
     rotate_left
     ·intro w'
      go_simp
      with_reducible rfl
     rotate_left
     ·simp only [Act.put,List.setIfInBounds_toArray,List.set_cons_zero,List.set_cons_succ,i64_w,i32_w]
      rfl
     refine pure_ (i:=3) (N:=some 67) (v:=?_) (a':=?_) #[T,T,T,T,F,F,F,F,F,F,F,F,F,F,F,F,F,F,F] rfl rfl (by kernel_rfl) (fun _ _ _ h=>h) (Or.inl ⟨by rfl,?_⟩) ?_ ?_
     rotate_left
     ·intro w'
      go_simp
      with_reducible rfl
     rotate_left
     ·simp only [Act.put,List.setIfInBounds_toArray,List.set_cons_zero,List.set_cons_succ,i64_w,i32_w]
      rfl
     refine take_ (i:=4) (N:=some 68) (v:=?_) (a':=?_) #[T,T,T,T,T,F,F,F,F,F,F,F,F,F,F,F,F,F,F] rfl rfl (by kernel_rfl) (fun _ _ _ h=>h) (Or.inl ⟨by rfl,?_⟩) hHeld ?_ ?_
     rotate_left
     ·rintro w' s0
      go_simp
      with_reducible rfl
     rotate_left
     ·simp only [Act.put,List.setIfInBounds_toArray,List.set_cons_zero,List.set_cons_succ,i64_w,i32_w]
      rfl
     refine pure_ (i:=5) (N:=some 69) (v:=?_) (a':=?_) #[T,T,T,T,T,T,F,F,F,F,F,F,F,F,F,F,F,F,F] rfl rfl (by kernel_rfl) (fun _ _ _ h=>h) (Or.inl ⟨by rfl,?_⟩) ?_ ?_
     rotate_left
     ·intro w'
      go_simp
      with_reducible rfl
     rotate_left
     ·simp only [Act.put,List.setIfInBounds_toArray,List.set_cons_zero,List.set_cons_succ,i64_w,i32_w]
      rfl
     refine pure_ (i:=6) (N:=some 70) (v:=?_) (a':=?_) #[T,T,T,T,T,T,T,F,F,F,F,F,F,F,F,F,F,F,F] rfl rfl (by kernel_rfl) (fun _ _ _ h=>h) (Or.inl ⟨by rfl,?_⟩) ?_ ?_
     rotate_left
     ·intro w'
      go_simp
      with_reducible rfl
     rotate_left
     ·simp only [Act.put,List.setIfInBounds_toArray,List.set_cons_zero,List.set_cons_succ,i64_w,i32_w]
      rfl
     refine pure_ (i:=7) (N:=some 71) (v:=?_) (a':=?_) #[T,T,T,T,T,T,T,T,F,F,F,F,F,F,F,F,F,F,F] rfl rfl (by kernel_rfl) (fun _ _ _ h=>h) (Or.inl ⟨by rfl,?_⟩) ?_ ?_
     rotate_left
     ·intro w'
      go_simp
      with_reducible rfl
     rotate_left
     ·simp only [Act.put,List.setIfInBounds_toArray,List.set_cons_zero,List.set_cons_succ,i64_w,i32_w]
      rfl
     refine take_ (i:=8) (N:=some 72) (v:=?_) (a':=?_) #[T,T,T,T,T,T,T,T,T,F,F,F,F,F,F,F,F,F,F] rfl rfl (by kernel_rfl) (fun _ _ _ h=>h) (Or.inl ⟨by rfl,?_⟩) hHeld ?_ ?_
     rotate_left
     ·rintro w' s0
      go_simp
      with_reducible rfl
     rotate_left
     ·simp only [Act.put,List.setIfInBounds_toArray,List.set_cons_zero,List.set_cons_succ,i64_w,i32_w]
      rfl
     refine pure_ (i:=9) (N:=some 73) (v:=?_) (a':=?_) #[T,T,T,T,T,T,T,T,T,T,F,F,F,F,F,F,F,F,F] rfl rfl (by kernel_rfl) (fun _ _ _ h=>h) (Or.inl ⟨by rfl,?_⟩) ?_ ?_
     rotate_left
     ·intro w'
      go_simp
      with_reducible rfl
     rotate_left
     ·simp only [Act.put,List.setIfInBounds_toArray,List.set_cons_zero,List.set_cons_succ,i64_w,i32_w]
      rfl
     refine pure_ (i:=10) (N:=some 74) (v:=?_) (a':=?_) #[T,T,T,T,T,T,T,T,T,T,T,F,F,F,F,F,F,F,F] rfl rfl (by kernel_rfl) (fun _ _ _ h=>h) (Or.inl ⟨by rfl,?_⟩) ?_ ?_
     rotate_left
     ·intro w'
      go_simp
      with_reducible rfl
     rotate_left
     ·simp only [Act.put,List.setIfInBounds_toArray,List.set_cons_zero,List.set_cons_succ,i64_w,i32_w]
      rfl
     refine pure_ (i:=11) (N:=some 75) (v:=?_) (a':=?_) #[T,T,T,T,T,T,T,T,T,T,T,T,F,F,F,F,F,F,F] rfl rfl (by kernel_rfl) (fun _ _ _ h=>h) (Or.inl ⟨by rfl,?_⟩) ?_ ?_
     rotate_left
     ·intro w'
      go_simp
      with_reducible rfl
     rotate_left
     ·simp only [Act.put,List.setIfInBounds_toArray,List.set_cons_zero,List.set_cons_succ,i64_w,i32_w]
      rfl
     refine pure_ (i:=12) (N:=some 76) (v:=?_) (a':=?_) #[T,T,T,T,T,T,T,T,T,T,T,T,T,F,F,F,F,F,F] rfl rfl (by kernel_rfl) (fun _ _ _ h=>h) (Or.inl ⟨by rfl,?_⟩) ?_ ?_
     rotate_left
     ·intro w'
      go_simp
      with_reducible rfl
     rotate_left
     ·simp only [Act.put,List.setIfInBounds_toArray,List.set_cons_zero,List.set_cons_succ,i64_w,i32_w]
      rfl
     refine take_ (i:=13) (N:=some 77) (v:=?_) (a':=?_) #[T,T,T,T,T,T,T,T,T,T,T,T,T,T,F,F,F,F,F] rfl rfl (by kernel_rfl) (fun _ _ _ h=>h) (Or.inl ⟨by rfl,?_⟩) hHeld ?_ ?_
     rotate_left
     ·rintro w' s0
      go_simp
      with_reducible rfl
     rotate_left
     ·simp only [Act.put,List.setIfInBounds_toArray,List.set_cons_zero,List.set_cons_succ,i64_w,i32_w]
      rfl
     refine pure_ (i:=14) (N:=some 78) (v:=?_) (a':=?_) #[T,T,T,T,T,T,T,T,T,T,T,T,T,T,T,F,F,F,F] rfl rfl (by kernel_rfl) (fun _ _ _ h=>h) (Or.inl ⟨by rfl,?_⟩) ?_ ?_
     rotate_left
     ·intro w'
      go_simp
      with_reducible rfl
     rotate_left
     ·simp only [Act.put,List.setIfInBounds_toArray,List.set_cons_zero,List.set_cons_succ,i64_w,i32_w]
      rfl
     refine pure_ (i:=15) (N:=some 79) (v:=?_) (a':=?_) #[T,T,T,T,T,T,T,T,T,T,T,T,T,T,T,T,F,F,F] rfl rfl (by kernel_rfl) (fun _ _ _ h=>h) (Or.inl ⟨by rfl,?_⟩) ?_ ?_
     rotate_left
     ·intro w'
      go_simp
      with_reducible rfl
     rotate_left
     ·simp only [Act.put,List.setIfInBounds_toArray,List.set_cons_zero,List.set_cons_succ,i64_w,i32_w]
      rfl
     refine pure_ (i:=16) (N:=some 80) (v:=?_) (a':=?_) #[T,T,T,T,T,T,T,T,T,T,T,T,T,T,T,T,T,F,F] rfl rfl (by kernel_rfl) (fun _ _ _ h=>h) (Or.inl ⟨by rfl,?_⟩) ?_ ?_
     rotate_left
     ·intro w'
      go_simp
      with_reducible rfl
     rotate_left
     ·simp only [Act.put,List.setIfInBounds_toArray,List.set_cons_zero,List.set_cons_succ,i64_w,i32_w]
      rfl
     refine pure_ (i:=17) (N:=some 81) (v:=?_) (a':=?_) #[T,T,T,T,T,T,T,T,T,T,T,T,T,T,T,T,T,T,F] rfl rfl (by kernel_rfl) (fun _ _ _ h=>h) (Or.inl ⟨by rfl,?_⟩) ?_ ?_
     rotate_left
     ·intro w'
      go_simp
      with_reducible rfl
     rotate_left
     ·simp only [Act.put,List.setIfInBounds_toArray,List.set_cons_zero,List.set_cons_succ,i64_w,i32_w]
      rfl
     have hm2:=(blk_cell (blk_drew HV.out.blk) 2).trans rfl
     have hm3:=blk_frozen (blk_drew HV.out.blk) 2
     refine last_ (i:=18) (N:=none) #[T,T,T,T,T,T,T,T,T,T,T,T,T,T,T,T,T,T,T] rfl rfl (by kernel_rfl) (by decide) (fun K hK=>?_)
     refine skip_ (w1:=?_) (by rfl) rfl ?_ ?_
     rotate_left
     ·go_simp
      rfl
     refine hK.out _ _ ?_
     clear hK K
     refine done_ (by kernel_rfl) ?_
     have HV2:=Aside0.mk HV.out.cut.drew
     clear HV hm2 hm3 hHeld hcut
     generalize World.drew (World.setCell _ _ _)=W9 at HV2 ⊢
     have HV:=HV2
     clear HV2
     have hc0:=xml_reader_attribute.c0 HV.out.i
     have hc1:=xml_reader_attribute.c1 HV.out.i
     have hf0:=xml_reader_attribute.z0 HV.out.i
     have hf1:=xml_reader_attribute.z1 HV.out.i
     have hd2:=(blk_cell HV.out.blk 2).trans rfl
     have he1:=blk_frozen HV.out.blk 1
     have he2:=blk_frozen HV.out.blk 2
     have hd1:=(blk_cell HV.out.blk 1).trans rfl
     have hne:=HV.out.ne
     have hen:=HV.out.ne.symm
     rcases itO h with⟨c1,h⟩|⟨c1,h⟩
     ·have t1:=eq_true c1
      have t2:=decide_eq_true c1
      have t3:=eq_true (Int.natCast_pos.mp c1)
      have t4:=decide_eq_true (Int.natCast_pos.mp c1)
      clear c1
      obtain rfl:=Option.some.inj h
      go_wp2
      try simp only [Exit.jump]
      refine bodyPost_ret (results_tmp rfl _ _ _) rfl ?_
      exact⟨rfl,(by first|exact HV.out.ends|exact(HV.out.drewN _).ends|exact((HV.out.drewN _).drewN _).ends|exact HV.out.drew.ends|exact(HV.out.drewN _).drew.ends|exact(HV.out.drew.drewN _).ends|exact((HV.out.drew.drewN _).drewN _).ends)⟩
     have t1:=eq_false c1
     have t2:=decide_eq_false c1
     obtain rfl:kids = []:=List.eq_nil_of_length_eq_zero (by omega)
     clear c1
     rcases itO h with⟨g1,h⟩|⟨_,h⟩
     case inr=>exact absurd h (by simp)
     rcases itO h with⟨g2,h⟩|⟨_,h⟩
     case inr=>exact absurd h (by simp)
     have z1:=eq_true g1
     have z2:=eq_true g2
     have z3:=decide_eq_true g1
     have z4:=decide_eq_true g2
     clear g1 g2
     obtain⟨i,hi,h⟩:=bndO h
     have hIx:=Aside0.mk hi
     clear hi
     rcases itO h with⟨c2,h⟩|⟨c2,h⟩
     ·have t3:=decide_eq_true c2
      clear c2
      obtain rfl:=Option.some.inj h
      go_wp2_with (first|(go_at_call 79;with_reducible refine(strings_IndexByte.calls (s'.extract (p:Int).toNat s'.size) 60 i _ hIx.out).mono ?_;rintro e_ w_ ⟨rfl,⟨nd,rfl⟩⟩;(try first|exact⟨rfl,_,World.drewN_drewN _ _ _⟩|exact⟨rfl,_,Eq.trans (World.drewN_drewN _ _ _) (congrArg (World.drewN _) (Nat.add_assoc _ _ _))⟩)))
      try simp only [Exit.jump]
      refine bodyPost_ret (results_tmp rfl _ _ _) rfl ?_
      exact⟨rfl,(by first|exact HV.out.ends|exact(HV.out.drewN _).ends|exact((HV.out.drewN _).drewN _).ends|exact HV.out.drew.ends|exact(HV.out.drewN _).drew.ends|exact(HV.out.drew.drewN _).ends|exact((HV.out.drew.drewN _).drewN _).ends)⟩
     have t3:=decide_eq_false c2
     clear c2
     rcases itO h with⟨g1,h⟩|⟨_,h⟩
     case inr=>exact absurd h (by simp)
     rcases itO h with⟨g2,h⟩|⟨_,h⟩
     case inr=>exact absurd h (by simp)
     have z5:=eq_true g1
     have z6:=eq_true g2
     have z7:=decide_eq_true g1
     have z8:=decide_eq_true g2
     clear g1 g2
     obtain⟨t,ht,h⟩:=bndO h
     obtain⟨ta,tb⟩:=t
     have hTx:=Aside0.mk ht
     clear ht
     dsimp only at h
     obtain rfl:=Option.some.inj h
     go_wp2_with (first|(go_at_call 79;with_reducible refine(strings_IndexByte.calls (s'.extract (p:Int).toNat s'.size) 60 i _ hIx.out).mono ?_;rintro e_ w_ ⟨rfl,⟨nd,rfl⟩⟩;(try first|exact⟨rfl,_,World.drewN_drewN _ _ _⟩|exact⟨rfl,_,Eq.trans (World.drewN_drewN _ _ _) (congrArg (World.drewN _) (Nat.add_assoc _ _ _))⟩))|(go_at_call 15;with_reducible refine(xml_Unescape.calls k (s'.extract (p:Int).toNat (wrap64 (p+i):Int).toNat) ta tb _ ?s1 hTx.out).mono ?_;(case s1=>exact gok_below hG (by first|exact HV.out.bel|exact(HV.out.drewN _).bel|exact((HV.out.drewN _).drewN _).bel|exact HV.out.drew.bel|exact(HV.out.drewN _).drew.bel|exact(HV.out.drew.drewN _).bel|exact((HV.out.drew.drewN _).drewN _).bel));rintro e_ w_ ⟨rfl,hb⟩;(first|replace HV:=Aside0.mk (xml_co.Out.below HV.out hb)|replace HV:=Aside0.mk (xml_co.Out.below (HV.out.drewN _) hb)|replace HV:=Aside0.mk (xml_co.Out.below ((HV.out.drewN _).drewN _) hb)|replace HV:=Aside0.mk (xml_co.Out.below HV.out.drew hb)|replace HV:=Aside0.mk (xml_co.Out.below (HV.out.drewN _).drew hb)|replace HV:=Aside0.mk (xml_co.Out.below (HV.out.drew.drewN _) hb)|replace HV:=Aside0.mk (xml_co.Out.below ((HV.out.drew.drewN _).drewN _) hb));clear hb;have hc0:=xml_reader_attribute.c0 HV.out.i;have hc1:=xml_reader_attribute.c1 HV.out.i;have hf0:=xml_reader_attribute.z0 HV.out.i;have hf1:=xml_reader_attribute.z1 HV.out.i;have hd2:=(blk_cell HV.out.blk 2).trans rfl;have he1:=blk_frozen HV.out.blk 1;have he2:=blk_frozen HV.out.blk 2;have hd1:=(blk_cell HV.out.blk 1).trans rfl;have hne:=HV.out.ne;have hen:=HV.out.ne.symm))
     try simp only [Exit.jump]
     refine bodyPost_ret (results_tmp rfl _ _ _) rfl ?_
     exact⟨rfl,(by first|exact((HV.out.text ta).at_ _).ends|exact(((HV.out.drewN _).text ta).at_ _).ends)⟩
theorem xml_both (k:Nat):xml_el.Does k∧xml_co.Does k:=by
 induction k using Nat.strongRecOn with
 | _ k ih=>exact⟨xml_el.calls_ k (fun m hm=>(ih m hm).2),xml_co.calls_ k (fun m hm=>(ih m hm).1)⟩
end Go.Proofs.YtklcgncaclggcaaDoor.Q
