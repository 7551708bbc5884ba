/- A part of the proof of the seat's laws. No condition beyond those in the theorems. -/
import Derived.Test.YtklcgncaclggcaaDoorZBase
import Derived.Deep.RegionWith
import Derived.WalkMore
import Derived.ScopeJumps
import Derived.Test.YtklcgncaclggcaaDoorZStepW
import Derived.Test.YtklcgncaclggcaaDoorZQ31
import Derived.Test.YtklcgncaclggcaaDoorZQ59g2
import Derived.Test.YtklcgncaclggcaaDoorZQ0g18
import Derived.Test.YtklcgncaclggcaaDoorZQ45g11
open Bool renaming true→T,false→F

namespace Go.Proofs.YtklcgncaclggcaaDoor.Q
open Go.RowKit Go.Proofs.YtklcgncaclggcaaDoorW.PrintWords Go.Proofs.YtklcgncaclggcaaDoorW.PrintLast Go.Proofs.YtklcgncaclggcaaDoorW.PrintMore
set_option linter.unusedVariables false
set_option linter.unusedSimpArgs false
set_option maxHeartbeats 8000000
set_option maxRecDepth 100000
attribute [local go_sem] max2_int min2_int max_two min_two max_three min_three max_four min_four   
def xml_el.at_:Nat→ByteArray→Int→Option (Bool×ByteArray×Int)
 | 0,_,_=>none
 | k+1,s,p=>(xml_reader_space.f k s p).bind fun a=>(if a.1=true then(if 0≤a.2.2 then(if a.2.2≤(a.2.1.size:Int) then((strings_HasPrefix.f (a.2.1.extract (a.2.2:Int).toNat a.2.1.size) (⟨#[47]⟩ : ByteArray)).bind fun x=>(if x=true then some (true,a.2.1,a.2.2) else((strings_HasPrefix.f (a.2.1.extract (a.2.2:Int).toNat a.2.1.size) (⟨#[62]⟩ : ByteArray)).bind fun y=>(if y=true then some (true,a.2.1,a.2.2) else((xml_reader_attribute.f k a.2.1 a.2.2).bind fun b=>(if b.1=true then xml_el.at_ k b.2.1 b.2.2 else some (false,b.2.1,b.2.2))))))) else none) else none) else some (true,a.2.1,a.2.2))
def xml_el.out (k:Nat) (nm tx:ByteArray) (kids:List S24) (s:ByteArray) (p:Int):Option (S24×Bool×ByteArray×Int):=(xml_reader_eat.f s p (⟨#[60,47]⟩ : ByteArray)).bind fun y=>(if y.1=true then((xml_reader_name.f k y.2.1 y.2.2).bind fun z=>(if z.1.toList=nm.toList then((xml_reader_space.f k z.2.1 z.2.2).bind fun u=>(xml_reader_eat.f u.2.1 u.2.2 (⟨#[62]⟩ : ByteArray)).bind fun t=>(if t.1=true then some ((⟨nm,tx,kids⟩ : S24),true,t.2.1,t.2.2) else some (z24,false,t.2.1,t.2.2))) else some (z24,false,z.2.1,z.2.2))) else some (z24,false,y.2.1,y.2.2))
mutual
def xml_el.f:Nat→ByteArray→Int→Int→Option (S24×Bool×ByteArray×Int)
 | 0,_,_,_=>none
 | k+1,s,p,d=>(if d>16 then some (z24,false,s,p) else((xml_reader_eat.f s p (⟨#[60]⟩ : ByteArray)).bind fun e=>(if e.1=true then((xml_reader_name.f k e.2.1 e.2.2).bind fun n=>(xml_Name.f k n.1).bind fun v=>(if v=true then((xml_el.at_ k n.2.1 n.2.2).bind fun a=>(if a.1=true then((xml_reader_eat.f a.2.1 a.2.2 (⟨#[47,62]⟩ : ByteArray)).bind fun b=>(if b.1=true then some ((⟨n.1,⟨#[]⟩,[]⟩ : S24),true,b.2.1,b.2.2) else((xml_reader_eat.f b.2.1 b.2.2 (⟨#[62]⟩ : ByteArray)).bind fun c=>(if c.1=true then((xml_co.f k c.2.1 c.2.2 d).bind fun x=>(if x.1=true then xml_el.out k n.1 x.2.1 x.2.2.1 x.2.2.2.1 x.2.2.2.2 else some (z24,false,x.2.2.2.1,x.2.2.2.2))) else some (z24,false,c.2.1,c.2.2))))) else some (z24,false,a.2.1,a.2.2))) else some (z24,false,n.2.1,n.2.2))) else some (z24,false,e.2.1,e.2.2))))
def xml_co.lp:Nat→ByteArray→Int→Int→List S24→Option (Bool×List S24×ByteArray×Int)
 | 0,_,_,_,_=>none
 | k+1,s,p,d,kids=>(if 0≤p then(if p≤(s.size:Int) then((strings_HasPrefix.f (s.extract (p:Int).toNat s.size) (⟨#[60]⟩ : ByteArray)).bind fun x=>(if x=true then((strings_HasPrefix.f (s.extract (p:Int).toNat s.size) (⟨#[60,47]⟩ : ByteArray)).bind fun y=>(if y=true then some (true,kids,s,p) else((xml_el.f k s p (wrap64 (d+1))).bind fun e=>(if e.2.1=true then(if kids.length<2513169434916 then((xml_reader_space.f k e.2.2.1 e.2.2.2).bind fun a=>xml_co.lp k a.2.1 a.2.2 d (kids ++ [e.1])) else none) else some (false,kids,e.2.2.1,e.2.2.2))))) else some (true,kids,s,p))) else none) else none)
def xml_co.f:Nat→ByteArray→Int→Int→Option (Bool×ByteArray×List S24×ByteArray×Int)
 | 0,_,_,_=>none
 | k+1,s,p,d=>(xml_reader_space.f k s p).bind fun a=>(xml_co.lp k a.2.1 a.2.2 d []).bind fun r=>(if r.1=true then(if(0:Int)<(r.2.1.length:Int) then some (true,⟨#[]⟩,r.2.1,r.2.2.1,r.2.2.2) else(if 0≤p then(if p≤(r.2.2.1.size:Int) then((strings_IndexByte.f (r.2.2.1.extract (p:Int).toNat r.2.2.1.size) 60).bind fun i=>(if i<0 then some (false,⟨#[]⟩,[],r.2.2.1,r.2.2.2) else(if p≤wrap64 (p+i) then(if wrap64 (p+i)≤(r.2.2.1.size:Int) then((xml_Unescape.f k (r.2.2.1.extract (p:Int).toNat (wrap64 (p+i):Int).toNat)).bind fun t=>some (t.2,t.1,[],r.2.2.1,wrap64 (p+i))) else none) else none))) else none) else none)) else some (false,⟨#[]⟩,r.2.1,r.2.2.1,r.2.2.2))
end
def xml_el.Inv (w0 w W:World) (g b:Nat) (s:ByteArray) (p:Int) (nm tx:ByteArray) (v:Value):Prop:=IsS57 w0 W g s p∧Below w0.heap.size w0 W∧KeepBut w W g none∧W.heap[b]? = some (.cells #[.string nm,.string tx,v] 24 (0,0))∧w.heap.size≤b∧b≠g
section
variable {w0 w W W1:World} {g b:Nat} {s s1:ByteArray} {p p1:Int} {nm tx:ByteArray} {v:Value}
theorem xml_el.Inv.i (h:xml_el.Inv w0 w W g b s p nm tx v):IsS57 w0 W g s p:=h.1
theorem xml_el.Inv.bel (h:xml_el.Inv w0 w W g b s p nm tx v):Below w0.heap.size w0 W:=h.2.1
theorem xml_el.Inv.blk (h:xml_el.Inv w0 w W g b s p nm tx v):W.heap[b]? = some (.cells #[.string nm,.string tx,v] 24 (0,0)):=h.2.2.2.1
theorem xml_el.Inv.ge (h:xml_el.Inv w0 w W g b s p nm tx v):w.heap.size≤b:=h.2.2.2.2.1
theorem xml_el.Inv.ne (h:xml_el.Inv w0 w W g b s p nm tx v):b≠g:=h.2.2.2.2.2
theorem xml_el.Inv.all (h:xml_el.Inv w0 w W g b s p nm tx v):W.cell? ⟨g,0,none⟩=some (.string s)∧W.cell? ⟨g,1,none⟩=some (.int .i64 p)∧W.frozen? ⟨g,0,none⟩=false∧W.frozen? ⟨g,1,none⟩=false∧W.cell? ⟨b,0,none⟩=some (.string nm)∧W.cell? ⟨b,1,none⟩=some (.string tx)∧W.cell? ⟨b,2,none⟩=some v∧W.frozen? ⟨b,0,none⟩=false∧W.frozen? ⟨b,1,none⟩=false∧W.frozen? ⟨b,2,none⟩=false∧b≠g∧g≠b:=
 ⟨xml_reader_attribute.c0 h.1,xml_reader_attribute.c1 h.1,xml_reader_attribute.z0 h.1,xml_reader_attribute.z1 h.1,(blk_cell h.blk 0).trans rfl,(blk_cell h.blk 1).trans rfl,(blk_cell h.blk 2).trans rfl,blk_frozen h.blk 0,blk_frozen h.blk 1,blk_frozen h.blk 2,h.ne,h.ne.symm⟩
theorem xml_el.Inv.drewN (h:xml_el.Inv w0 w W g b s p nm tx v) (n:Nat):xml_el.Inv w0 w (W.drewN n) g b s p nm tx v:=⟨h.1.drewN n,pw_below_drewN h.2.1 n,keep_drewN h.2.2.1 n,blk_drewN h.2.2.2.1 n,h.2.2.2.2⟩
theorem xml_el.Inv.drew (h:xml_el.Inv w0 w W g b s p nm tx v):xml_el.Inv w0 w W.drew g b s p nm tx v:=⟨h.1.drew,below_drew h.2.1,keep_drew h.2.2.1,blk_drew h.2.2.2.1,h.2.2.2.2⟩
theorem xml_el.Inv.call (h:xml_el.Inv w0 w W g b s p nm tx v) (hi:IsS57 w0 W1 g s1 p1) (hb:Below w0.heap.size w0 W1) (hk:KeepBut W W1 g none):xml_el.Inv w0 w W1 g b s1 p1 nm tx v:=
 ⟨hi,hb,h.2.2.1.trans hk (.inl rfl),hk.blk h.2.2.2.1 h.2.2.2.2.2 (by simp),h.2.2.2.2⟩
theorem xml_el.Inv.put (h:xml_el.Inv w0 w W g b s p nm tx v) (hw:w0.heap.size≤w.heap.size) (j:Nat) (u:Value) {nm1 tx1:ByteArray} {v1:Value} (he:(#[.string nm,.string tx,v]:Array Value).setIfInBounds j u=#[.string nm1,.string tx1,v1]):xml_el.Inv w0 w (W.setCell ⟨b,j,none⟩ u) g b s p nm1 tx1 v1:=
 ⟨h.1.far h.2.2.2.2.2.symm u,below_set h.2.1 (Nat.le_trans hw h.2.2.2.2.1),keep_far h.2.2.1 (p:=⟨b,j,none⟩) h.2.2.2.2.1 u,by
  have:=blk_put h.2.2.2.1 j u he
  exact this,h.2.2.2.2⟩
end
theorem xml_el.c {P:Prop} (h:P:=by first|exact HV.out|exact(HV.out.drewN _)|exact((HV.out.drewN _).drewN _)|exact HV.out.drew|exact(HV.out.drewN _).drew):P:=h
theorem xml_el.ci {P:Prop} (h:P:=by first|exact HV.out.i|exact(HV.out.drewN _).i|exact((HV.out.drewN _).drewN _).i|exact HV.out.drew.i|exact(HV.out.drewN _).drew.i):P:=h
theorem xml_el.cb {P:Prop} (h:P:=by first|exact HV.out.bel|exact(HV.out.drewN _).bel|exact((HV.out.drewN _).drewN _).bel|exact HV.out.drew.bel|exact(HV.out.drewN _).drew.bel):P:=h
theorem xml_el.hr {P:Prop} (h:P:=by first|exact HR.out|exact Kd.V_drewN HR.out _|exact Kd.V_drew HR.out|exact Kd.V_drew (Kd.V_drewN HR.out _)):P:=h
theorem xml_el.Inv.co {w0 w W W1:World} {g b:Nat} {s s1:ByteArray} {p p1:Int} {nm tx tx1:ByteArray} {v v1:Value} (h:xml_el.Inv w0 w W g b s p nm tx v) (hbk:W1.heap[b]? = some (.cells #[.string nm,.string tx1,v1] 24 (0,0))) (hi:IsS57 w0 W1 g s1 p1) (hb:Below w0.heap.size w0 W1) (hk:KeepBut W W1 g (some b)):xml_el.Inv w0 w W1 g b s1 p1 nm tx1 v1:=
 ⟨hi,hb,h.2.2.1.trans hk (.inr ⟨b,rfl,h.2.2.2.2.1⟩),hbk,h.2.2.2.2⟩
theorem xml_el.Inv.row {w0 w W W1:World} {g b:Nat} {s:ByteArray} {p:Int} {nm tx:ByteArray} {v v1:Value} {kids:List S24} (h:xml_el.Inv w0 w W g b s p nm tx v) (hg:g<w.heap.size) (hV:Kd.V k24 24 W1 W.heap.size (fun k_=>W.heap.size≤k_) v1 kids):Kd.V k24 24 W1 w.heap.size (fun k_=>w.heap.size≤k_∧k_≠g∧k_≠b) v1 kids:=
 Kd.V_mono hV (fun k_ hk=>by
  have h1:=h.2.2.1.1
  have h2:=blk_lt h.2.2.2.1
  exact⟨by omega,by omega,by omega⟩)
theorem xml_el.rowPut {W:World} {g b n:Nat} {v1:Value} {kids:List S24} (h:Kd.V k24 24 W n (fun k_=>n≤k_∧k_≠g∧k_≠b) v1 kids) (a1 a2 a3:Value):Kd.V k24 24 (((W.setCell ⟨b,0,none⟩ a1).setCell ⟨b,1,none⟩ a2).setCell ⟨b,2,none⟩ a3) n (fun k_=>n≤k_) v1 kids:=
 Kd.V_mono (Kd.V_far (p:=⟨b,2,none⟩) (Kd.V_far (p:=⟨b,1,none⟩) (Kd.V_far (p:=⟨b,0,none⟩) h (fun _ h_=>h_.2.2) _) (fun _ h_=>h_.2.2) _) (fun _ h_=>h_.2.2) _) (fun _ h_=>h_.1)
theorem xml_el.strong {P:Program} {md:Region.Mode} {ops:Array Oper} {Q:Exit→Act→World→Prop} {S:World→Prop} {ds:List Nat}:∀ (fuel:Nat) (l:Array Bool) (a:Act) (w:World),wpAnyLast P md ops Q S ds fuel l a w→wpAnyLast P md ops Q (fun _=>True) ds fuel l a w
 | 0,_,_,_,h=>h
 | fuel+1,_,_,_,h=>⟨h.1,fun i hi=>wpOp_mono (fun a' w' h'=>⟨fun _ _=>trivial,xml_el.strong fuel _ a' w' h'.2⟩) (h.2 i hi)⟩
theorem xml_el.start {w0 w w4:World} {g gb:Nat} {s:ByteArray} {p:Int} (hI:IsS57 w0 w g s p) (hB:Below w0.heap.size w0 w) (hb:Below w.heap.size w w4) (hbox:w4.heap[gb]? = some (.cells #[.string (⟨#[]⟩ : ByteArray),.string (⟨#[]⟩ : ByteArray),.slice none 0 0] 24 (0,0))) (hg:gb=w.heap.size):xml_el.Inv w0 w w4 g gb s p ⟨#[]⟩ ⟨#[]⟩ (.slice none 0 0):=
 ⟨hI.below hb,below_step hB hb,Go.Proofs.YtklcgncaclggcaaDoorW.PrintWords.KeepBut.of_below hb g none,hbox,Nat.le_of_eq hg.symm,by have:=hI.lt;omega⟩
abbrev xml_co.Does (m:Nat):Prop:=∀ (s:ByteArray) (p d:Int) (nm:ByteArray) (r:Bool×ByteArray×List S24×ByteArray×Int) (w0 w:World) (g b:Nat),IsS57 w0 w g s p→Below w0.heap.size w0 w→GOk w0→w0.heap.size≤b→b≠g→w.heap[b]? = some (.cells #[.string nm,.string (⟨#[]⟩ : ByteArray),.slice none 0 0] 24 (0,0))→xml_co.f m s p d=some r →
  Calls Tryd.prog 61 #[.pointer (some ⟨g,0,none⟩),.pointer (some ⟨b,0,none⟩),.int .i64 d] w fun e w'=>e = .returned (.bool r.1) ∧ ∃ v,w'.heap[b]? = some (.cells #[.string nm,.string r.2.1,v] 24 (0,0))∧Kd.V k24 24 w' w.heap.size (fun k_=>w.heap.size≤k_) v r.2.2.1∧IsS57 w0 w' g r.2.2.2.1 r.2.2.2.2∧Below w0.heap.size w0 w'∧KeepBut w w' g (some b)
abbrev xml_el.Does (m:Nat):Prop:=∀ (s:ByteArray) (p d:Int) (r:S24×Bool×ByteArray×Int) (w0 w:World) (g:Nat),IsS57 w0 w g s p→Below w0.heap.size w0 w→GOk w0→xml_el.f m s p d=some r →
  Calls Tryd.prog 30 #[.pointer (some ⟨g,0,none⟩),.int .i64 d] w fun e w'=>∃ v,e = .returned (.tuple #[.agg #[.string r.1.f0,.string r.1.f1,v],.bool r.2.1])∧Kd.V k24 24 w' w.heap.size (fun k_=>w.heap.size≤k_) v r.1.f2∧IsS57 w0 w' g r.2.2.1 r.2.2.2∧Below w0.heap.size w0 w'∧KeepBut w w' g none
theorem xml_el.calls_ (k:Nat) (ih:∀ m,m<k→xml_co.Does m):xml_el.Does k:=by
 intro s p d r w0 w g hI0 hB0 hG h
 have hI:=Aside0.mk hI0
 have hB:=Aside0.mk hB0
 clear hI0 hB0
 cases k with
 | zero=>exact absurd h (by simp [xml_el.f])
 | succ k=>
 simp only [xml_el.f] at h
 have hu24:=Tryd.underlying24
 go_enter Tryd.func30,Tryd.ntmps30
 go_wp2_with (first|((with_reducible refine gate_dst (N:=4) rfl ?_);(try (refine gate_guard (by rfl) ?_;dsimp only));refine box_event ?hg (N:=4) ?hd (cs:=#[.string (⟨#[]⟩ : ByteArray),.string (⟨#[]⟩ : ByteArray),.slice none 0 0]) (t:=24) ?hr ?_;(case hd=>rfl);(case hg=>rfl);(case hr=>first|(go_simp;done)|(go_simp;rfl));intro gb hgb w4 hbox hb;have HV:=Aside0.mk (xml_el.start hI.out hB.out hb hbox hgb);clear hb hbox hgb;obtain⟨hc0,hc1,hf0,hf1,hd0,hd1,hd2,he0,he1,he2,hne,hen⟩:=xml_el.Inv.all HV.out))
 refine wp_scope_jumps 0 (fun a' w'=>∃ (s':ByteArray) (p':Int) (nm tx:ByteArray) (v:Value) (u0 u1 u2 u3 u5 u6 u7 u8 u9 u10 u11 u12 u13 u14 u15 u16 u17 u18 u19 u20 u21 u22 u23 u24 u25 u26 u27 u28 u29 u30 u31 u32 u33 u34 u35 u36 u37 u38 u39 u40 u41 u42 u43 u44 u45 u46 u47 u48 u49 u50 u51 u52 u53 u54 u55 u56 u57 u58 u59 u60 u61 u62 u63 u64 u65 u66 u67 u68 u69 u70 u71 u72 u73 u74 u75 u76 u77 u78 u79 u80 u81:Value),a' = { tmps:=#[u0,u1,u2,u3,.pointer (some ⟨gb,0,none⟩),u5,u6,u7,u8,u9,u10,u11,u12,u13,u14,u15,u16,u17,u18,u19,u20,u21,u22,u23,u24,u25,u26,u27,u28,u29,u30,u31,u32,u33,u34,u35,u36,u37,u38,u39,u40,u41,u42,u43,u44,u45,u46,u47,u48,u49,u50,u51,u52,u53,u54,u55,u56,u57,u58,u59,u60,u61,u62,u63,u64,u65,u66,u67,u68,u69,u70,u71,u72,u73,u74,u75,u76,u77,u78,u79,u80,u81],defers:=[]} ∧ xml_el.Inv w0 w w' g gb s' p' nm tx v∧r=(z24,false,s',p')) (fun _ _=>0) rfl ?_ ?_
 case refine_2=>
  intro a' w' hJ
  clear h ih hG
  generalize hq:Exit.jump _ _ _=QJ
  obtain⟨s',p',nm,tx,v,hJ⟩:=hJ
  obtain⟨u0,hJ⟩:=hJ
  obtain⟨u1,hJ⟩:=hJ
  obtain⟨u2,hJ⟩:=hJ
  obtain⟨u3,hJ⟩:=hJ
  obtain⟨u5,hJ⟩:=hJ
  obtain⟨u6,hJ⟩:=hJ
  obtain⟨u7,hJ⟩:=hJ
  obtain⟨u8,hJ⟩:=hJ
  obtain⟨u9,hJ⟩:=hJ
  obtain⟨u10,hJ⟩:=hJ
  obtain⟨u11,hJ⟩:=hJ
  obtain⟨u12,hJ⟩:=hJ
  obtain⟨u13,hJ⟩:=hJ
  obtain⟨u14,hJ⟩:=hJ
  obtain⟨u15,hJ⟩:=hJ
  obtain⟨u16,hJ⟩:=hJ
  obtain⟨u17,hJ⟩:=hJ
  obtain⟨u18,hJ⟩:=hJ
  obtain⟨u19,hJ⟩:=hJ
  obtain⟨u20,hJ⟩:=hJ
  obtain⟨u21,hJ⟩:=hJ
  obtain⟨u22,hJ⟩:=hJ
  obtain⟨u23,hJ⟩:=hJ
  obtain⟨u24,hJ⟩:=hJ
  obtain⟨u25,hJ⟩:=hJ
  obtain⟨u26,hJ⟩:=hJ
  obtain⟨u27,hJ⟩:=hJ
  obtain⟨u28,hJ⟩:=hJ
  obtain⟨u29,hJ⟩:=hJ
  obtain⟨u30,hJ⟩:=hJ
  obtain⟨u31,hJ⟩:=hJ
  obtain⟨u32,hJ⟩:=hJ
  obtain⟨u33,hJ⟩:=hJ
  obtain⟨u34,hJ⟩:=hJ
  obtain⟨u35,hJ⟩:=hJ
  obtain⟨u36,hJ⟩:=hJ
  obtain⟨u37,hJ⟩:=hJ
  obtain⟨u38,hJ⟩:=hJ
  obtain⟨u39,hJ⟩:=hJ
  obtain⟨u40,hJ⟩:=hJ
  obtain⟨u41,hJ⟩:=hJ
  obtain⟨u42,hJ⟩:=hJ
  obtain⟨u43,hJ⟩:=hJ
  obtain⟨u44,hJ⟩:=hJ
  obtain⟨u45,hJ⟩:=hJ
  obtain⟨u46,hJ⟩:=hJ
  obtain⟨u47,hJ⟩:=hJ
  obtain⟨u48,hJ⟩:=hJ
  obtain⟨u49,hJ⟩:=hJ
  obtain⟨u50,hJ⟩:=hJ
  obtain⟨u51,hJ⟩:=hJ
  obtain⟨u52,hJ⟩:=hJ
  obtain⟨u53,hJ⟩:=hJ
  obtain⟨u54,hJ⟩:=hJ
  obtain⟨u55,hJ⟩:=hJ
  obtain⟨u56,hJ⟩:=hJ
  obtain⟨u57,hJ⟩:=hJ
  obtain⟨u58,hJ⟩:=hJ
  obtain⟨u59,hJ⟩:=hJ
  obtain⟨u60,hJ⟩:=hJ
  obtain⟨u61,hJ⟩:=hJ
  obtain⟨u62,hJ⟩:=hJ
  obtain⟨u63,hJ⟩:=hJ
  obtain⟨u64,hJ⟩:=hJ
  obtain⟨u65,hJ⟩:=hJ
  obtain⟨u66,hJ⟩:=hJ
  obtain⟨u67,hJ⟩:=hJ
  obtain⟨u68,hJ⟩:=hJ
  obtain⟨u69,hJ⟩:=hJ
  obtain⟨u70,hJ⟩:=hJ
  obtain⟨u71,hJ⟩:=hJ
  obtain⟨u72,hJ⟩:=hJ
  obtain⟨u73,hJ⟩:=hJ
  obtain⟨u74,hJ⟩:=hJ
  obtain⟨u75,hJ⟩:=hJ
  obtain⟨u76,hJ⟩:=hJ
  obtain⟨u77,hJ⟩:=hJ
  obtain⟨u78,hJ⟩:=hJ
  obtain⟨u79,hJ⟩:=hJ
  obtain⟨u80,hJ⟩:=hJ
  obtain⟨u81,hJ⟩:=hJ
  obtain⟨rfl,hV,rfl⟩:=hJ
  replace HV:=Aside0.mk hV
  clear hV
  obtain⟨hc0,hc1,hf0,hf1,hd0,hd1,hd2,he0,he1,he2,hne,hen⟩:=xml_el.Inv.all HV.out
  subst hq
  go_wp2
  simp only [Exit.jump]
  have HZ:=((xml_el.Inv.put xml_el.c hB.out.size 0 (.string (⟨#[]⟩ : ByteArray)) rfl).put hB.out.size 1 (.string (⟨#[]⟩ : ByteArray)) rfl).put hB.out.size 2 (.slice none 0 0) rfl
  refine bodyPost_ret (results_ct rfl _ _ gb 24 #[.string (⟨#[]⟩ : ByteArray),.string (⟨#[]⟩ : ByteArray),.slice none 0 0] (0,0) _ rfl HZ.2.2.2.1 Tryd.underlying24 rfl (by kernel_rfl)) rfl ?_
  exact⟨.slice none 0 0,rfl,Kd.V_nil _ _ _ _ _,HZ.1,HZ.2.1,HZ.2.2.1⟩
 case refine_1=>
  rcases itO h with⟨c1,h⟩|⟨c1,h⟩
  ·have q1:decide (16<d)=true:=decide_eq_true c1
   clear c1
   obtain rfl:=Option.some.inj h
   go_wp2
   go_step3
   exact⟨rfl,_,_,_,_,_,_,_,_,_,_,_,_,_,_,_,_,_,_,_,_,_,_,_,_,_,_,_,_,_,_,_,_,_,_,_,_,_,_,_,_,_,_,_,_,_,_,_,_,_,_,_,_,_,_,_,_,_,_,_,_,_,_,_,_,_,_,_,_,_,_,_,_,_,_,_,_,_,_,_,_,_,_,_,_,_,_,rfl,xml_el.c,rfl⟩
  have q1:decide (16<d)=false:=decide_eq_false c1
  clear c1
  obtain⟨e,he,h⟩:=bndO h
  obtain⟨e1,e2,e3⟩:=e
  have hE:=Aside0.mk he
  clear he
  dsimp only at h
  cases e1 with
  | false=>
   rw [if_neg Bool.false_ne_true] at h
   obtain rfl:=Option.some.inj h
   go_wp2_with (first|(go_at_call 58;with_reducible refine(xml_reader_eat.calls g s p (⟨#[60]⟩ : ByteArray) false e2 e3 w0 _ ?s1 ?s2 hE.out).mono ?_;(case s1=>exact xml_el.ci);(case s2=>exact xml_el.cb);rintro e_ w_ ⟨rfl,hi,hb,hk⟩;(first|replace HV:=Aside0.mk (xml_el.Inv.call HV.out hi hb hk)|replace HV:=Aside0.mk (xml_el.Inv.call (HV.out.drewN _) hi hb hk)|replace HV:=Aside0.mk (xml_el.Inv.call ((HV.out.drewN _).drewN _) hi hb hk)|replace HV:=Aside0.mk (xml_el.Inv.call HV.out.drew hi hb hk)|replace HV:=Aside0.mk (xml_el.Inv.call (HV.out.drewN _).drew hi hb hk));clear hi hb hk;obtain⟨hc0,hc1,hf0,hf1,hd0,hd1,hd2,he0,he1,he2,hne,hen⟩:=xml_el.Inv.all HV.out))
   go_step3
   exact⟨rfl,_,_,_,_,_,_,_,_,_,_,_,_,_,_,_,_,_,_,_,_,_,_,_,_,_,_,_,_,_,_,_,_,_,_,_,_,_,_,_,_,_,_,_,_,_,_,_,_,_,_,_,_,_,_,_,_,_,_,_,_,_,_,_,_,_,_,_,_,_,_,_,_,_,_,_,_,_,_,_,_,_,_,_,_,_,_,rfl,xml_el.c,rfl⟩
  | true=>
   rw [if_pos rfl] at h
   obtain⟨n,hn,h⟩:=bndO h
   obtain⟨n1,n2,n3⟩:=n
   have hN:=Aside0.mk hn
   clear hn
   dsimp only at h
   obtain⟨v,hv,h⟩:=bndO h
   have hVN:=Aside0.mk hv
   clear hv
   go_upto_region 3 with(first|(go_at_call 58;with_reducible refine(xml_reader_eat.calls g s p (⟨#[60]⟩ : ByteArray) true e2 e3 w0 _ ?s1 ?s2 hE.out).mono ?_;(case s1=>exact xml_el.ci);(case s2=>exact xml_el.cb);rintro e_ w_ ⟨rfl,hi,hb,hk⟩;(first|replace HV:=Aside0.mk (xml_el.Inv.call HV.out hi hb hk)|replace HV:=Aside0.mk (xml_el.Inv.call (HV.out.drewN _) hi hb hk)|replace HV:=Aside0.mk (xml_el.Inv.call ((HV.out.drewN _).drewN _) hi hb hk)|replace HV:=Aside0.mk (xml_el.Inv.call HV.out.drew hi hb hk)|replace HV:=Aside0.mk (xml_el.Inv.call (HV.out.drewN _).drew hi hb hk));clear hi hb hk;obtain⟨hc0,hc1,hf0,hf1,hd0,hd1,hd2,he0,he1,he2,hne,hen⟩:=xml_el.Inv.all HV.out)|(go_at_call 59;with_reducible refine(xml_reader_name.calls k g e2 e3 n1 n2 n3 w0 _ ?s1 ?s2 hN.out).mono ?_;(case s1=>exact xml_el.ci);(case s2=>exact xml_el.cb);rintro e_ w_ ⟨rfl,hi,hb,hk⟩;(first|replace HV:=Aside0.mk (xml_el.Inv.call HV.out hi hb hk)|replace HV:=Aside0.mk (xml_el.Inv.call (HV.out.drewN _) hi hb hk)|replace HV:=Aside0.mk (xml_el.Inv.call ((HV.out.drewN _).drewN _) hi hb hk)|replace HV:=Aside0.mk (xml_el.Inv.call HV.out.drew hi hb hk)|replace HV:=Aside0.mk (xml_el.Inv.call (HV.out.drewN _).drew hi hb hk));clear hi hb hk;obtain⟨hc0,hc1,hf0,hf1,hd0,hd1,hd2,he0,he1,he2,hne,hen⟩:=xml_el.Inv.all HV.out))
   have HV2:=Aside0.mk (HV.out.put hB.out.size 0 (.string n1) rfl)
   clear HV
   generalize World.setCell _ _ _=W2 at HV2 ⊢
   have HV:=HV2
   clear HV2
   obtain⟨hc0,hc1,hf0,hf1,hd0,hd1,hd2,he0,he1,he2,hne,hen⟩:=xml_el.Inv.all HV.out
   cases v with
   | false=>
    rw [if_neg Bool.false_ne_true] at h
    obtain rfl:=Option.some.inj h
    go_wp2_with (first|(go_at_call 17;with_reducible refine(xml_Name.calls k n1 false _ hVN.out).mono ?_;rintro e_ w_ ⟨rfl,⟨nd,rfl⟩⟩;(try first|exact⟨rfl,_,World.drewN_drewN _ _ _⟩|exact⟨rfl,_,Eq.trans (World.drewN_drewN _ _ _) (congrArg (World.drewN _) (Nat.add_assoc _ _ _))⟩)))
    go_step3
    exact⟨rfl,_,_,_,_,_,_,_,_,_,_,_,_,_,_,_,_,_,_,_,_,_,_,_,_,_,_,_,_,_,_,_,_,_,_,_,_,_,_,_,_,_,_,_,_,_,_,_,_,_,_,_,_,_,_,_,_,_,_,_,_,_,_,_,_,_,_,_,_,_,_,_,_,_,_,_,_,_,_,_,_,_,_,_,_,_,_,rfl,xml_el.c,rfl⟩
   | true=>
    rw [if_pos rfl] at h
    obtain⟨a,ha,h⟩:=bndO h
    obtain⟨a1,a2,a3⟩:=a
    have hA:=Aside0.mk ha
    clear ha
    dsimp only at h
    have hH:=Aside0.mk h
    clear h
    go_wp2_with (first|(go_at_call 17;with_reducible refine(xml_Name.calls k n1 true _ hVN.out).mono ?_;rintro e_ w_ ⟨rfl,⟨nd,rfl⟩⟩;(try first|exact⟨rfl,_,World.drewN_drewN _ _ _⟩|exact⟨rfl,_,Eq.trans (World.drewN_drewN _ _ _) (congrArg (World.drewN _) (Nat.add_assoc _ _ _))⟩)))
    go_loopg [] k (fun kq w'=>∃ (s':ByteArray) (p':Int),Aside0 (xml_el.at_ kq s' p'=some (a1,a2,a3))∧Aside0 (kq≤k)∧Aside0 (xml_el.Inv w0 w w' g gb s' p' n1 (⟨#[]⟩ : ByteArray) (.slice none 0 0)))
    case atStart=>exact⟨n2,n3,hA,⟨Nat.le_refl _⟩,⟨xml_el.c⟩⟩
    case round=>
     clear hA HV
     obtain⟨s',p',HA,HK1,HV⟩:=hrel
     obtain⟨hc0,hc1,hf0,hf1,hd0,hd1,hd2,he0,he1,he2,hne,hen⟩:=xml_el.Inv.all HV.out
     cases gk with
     | zero=>exact absurd HA.out (by simp [xml_el.at_])
     | succ k1=>
      have H:=HA.out
      clear HA
      simp only [xml_el.at_] at H
      obtain⟨b,hb_,H⟩:=bndO H
      obtain⟨b1,b2,b3⟩:=b
      have hSp:=Aside0.mk hb_
      clear hb_
      dsimp only at H
      go_upto_region 4 with fail
      go_cut [47] (fun v47 wc=>∃ (m:Bool) (s2:ByteArray) (p2:Int),v47 = .bool m∧Aside0 (if m=true then((xml_reader_attribute.f k1 s2 p2).bind fun b=>(if b.1=true then xml_el.at_ k1 b.2.1 b.2.2 else some (false,b.2.1,b.2.2)))=some (a1,a2,a3) else(true,s2,p2)=(a1,a2,a3))∧Aside0 (xml_el.Inv w0 w wc g gb s2 p2 n1 (⟨#[]⟩ : ByteArray) (.slice none 0 0)))
      case first=>
       cases b1 with
       | false=>
        rw [if_neg Bool.false_ne_true] at H
        have hH2:=Aside0.mk (Option.some.inj H)
        clear H
        refine start_ (n:=28) (S:=fun _=>True) (ds:=[]) #[F,F,F,F,F,F,F,F,F,F,F,F,F,F,F,F,F,F,F,F,F,F,F,F,F,F,F,F] (by kernel_rfl) rfl rfl trivial (fun _=>?_)
        refine pu 0 20 #[T,F,F,F,F,F,F,F,F,F,F,F,F,F,F,F,F,F,F,F,F,F,F,F,F,F,F,F] ?_
        refine one_ (i:=1) (N:=some 21) #[T,T,F,F,F,F,F,F,F,F,F,F,F,F,F,F,F,F,F,F,F,F,F,F,F,F,F,F] rfl rfl (by kernel_rfl) (by decide) (fun K hK=>?_)
        refine goes_ Tryd.func29 (by kernel_rfl) rfl #[.pointer (some ⟨g,0,none⟩)] (by rfl) rfl rfl (by(try simp only [List.map_toArray,List.map_cons,List.map_nil]);first|done|rfl) ?_
        with_reducible refine(xml_reader_space.calls k1 g s' p' false b2 b3 w0 _ ?s1 ?s2 hSp.out).mono ?_
        case s1=>exact xml_el.ci
        case s2=>exact xml_el.cb
        rintro e_ w_ ⟨rfl,hi,hb,hk⟩
        refine⟨_,rfl,?_⟩
        have HV3:=Aside0.mk (xml_el.Inv.call xml_el.c hi hb hk)
        clear HV hi hb hk
        have HV:=HV3
        clear HV3
        refine hK.out _ _ trivial (fun hHeld=>?_)
        clear hK K
        refine nw ?_
        have hHeld:(fun w':World=>w'.cell? ⟨g,0,none⟩=some (.string b2)∧w'.cell? ⟨g,1,none⟩=some (.int .i64 b3)) w_:=⟨xml_reader_attribute.c0 HV.out.i,xml_reader_attribute.c1 HV.out.i⟩
        refine xml_el.strong (S:=fun w'=>w'.cell? ⟨g,0,none⟩=some (.string b2)∧w'.cell? ⟨g,1,none⟩=some (.int .i64 b3)) _ _ _ _ ?_
        refine pu 2 22 #[T,T,T,F,F,F,F,F,F,F,F,F,F,F,F,F,F,F,F,F,F,F,F,F,F,F,F,F] ?_
        refine po 3 23 #[T,T,T,T,F,F,F,F,F,F,F,F,F,F,F,F,F,F,F,F,F,F,F,F,F,F,F,F] ?_
        refine po 4 24 #[T,T,T,T,T,F,F,F,F,F,F,F,F,F,F,F,F,F,F,F,F,F,F,F,F,F,F,F] ?_
        refine po 5 25 #[T,T,T,T,T,T,F,F,F,F,F,F,F,F,F,F,F,F,F,F,F,F,F,F,F,F,F,F] ?_
        refine po 6 26 #[T,T,T,T,T,T,T,F,F,F,F,F,F,F,F,F,F,F,F,F,F,F,F,F,F,F,F,F] ?_
        refine po 7 27 #[T,T,T,T,T,T,T,T,F,F,F,F,F,F,F,F,F,F,F,F,F,F,F,F,F,F,F,F] ?_
        refine po 8 28 #[T,T,T,T,T,T,T,T,T,F,F,F,F,F,F,F,F,F,F,F,F,F,F,F,F,F,F,F] ?_
        refine po 9 29 #[T,T,T,T,T,T,T,T,T,T,F,F,F,F,F,F,F,F,F,F,F,F,F,F,F,F,F,F] ?_
        refine po 10 30 #[T,T,T,T,T,T,T,T,T,T,T,F,F,F,F,F,F,F,F,F,F,F,F,F,F,F,F,F] ?_
        refine po 11 31 #[T,T,T,T,T,T,T,T,T,T,T,T,F,F,F,F,F,F,F,F,F,F,F,F,F,F,F,F] ?_
        refine po 12 32 #[T,T,T,T,T,T,T,T,T,T,T,T,T,F,F,F,F,F,F,F,F,F,F,F,F,F,F,F] ?_
        refine po 13 33 #[T,T,T,T,T,T,T,T,T,T,T,T,T,T,F,F,F,F,F,F,F,F,F,F,F,F,F,F] ?_
        refine pu 14 34 #[T,T,T,T,T,T,T,T,T,T,T,T,T,T,T,F,F,F,F,F,F,F,F,F,F,F,F,F] ?_
        refine pu 15 35 #[T,T,T,T,T,T,T,T,T,T,T,T,T,T,T,T,F,F,F,F,F,F,F,F,F,F,F,F] ?_
        refine po 16 36 #[T,T,T,T,T,T,T,T,T,T,T,T,T,T,T,T,T,F,F,F,F,F,F,F,F,F,F,F] ?_
        refine po 17 37 #[T,T,T,T,T,T,T,T,T,T,T,T,T,T,T,T,T,T,F,F,F,F,F,F,F,F,F,F] ?_
        refine po 18 38 #[T,T,T,T,T,T,T,T,T,T,T,T,T,T,T,T,T,T,T,F,F,F,F,F,F,F,F,F] ?_
        refine po 19 39 #[T,T,T,T,T,T,T,T,T,T,T,T,T,T,T,T,T,T,T,T,F,F,F,F,F,F,F,F] ?_
        refine po 20 40 #[T,T,T,T,T,T,T,T,T,T,T,T,T,T,T,T,T,T,T,T,T,F,F,F,F,F,F,F] ?_
        refine po 21 41 #[T,T,T,T,T,T,T,T,T,T,T,T,T,T,T,T,T,T,T,T,T,T,F,F,F,F,F,F] ?_
        refine po 22 42 #[T,T,T,T,T,T,T,T,T,T,T,T,T,T,T,T,T,T,T,T,T,T,T,F,F,F,F,F] ?_
        refine po 23 43 #[T,T,T,T,T,T,T,T,T,T,T,T,T,T,T,T,T,T,T,T,T,T,T,T,F,F,F,F] ?_
        refine po 24 44 #[T,T,T,T,T,T,T,T,T,T,T,T,T,T,T,T,T,T,T,T,T,T,T,T,T,F,F,F] ?_
        refine po 25 45 #[T,T,T,T,T,T,T,T,T,T,T,T,T,T,T,T,T,T,T,T,T,T,T,T,T,T,F,F] ?_
        refine po 26 46 #[T,T,T,T,T,T,T,T,T,T,T,T,T,T,T,T,T,T,T,T,T,T,T,T,T,T,T,F] ?_
        refine pu 27 47 #[T,T,T,T,T,T,T,T,T,T,T,T,T,T,T,T,T,T,T,T,T,T,T,T,T,T,T,T] ?_
        refine done_ (by kernel_rfl) ?_
        try go_wp2
        go_meet
        case rel=>exact⟨false,b2,b3,rfl,hH2,⟨xml_el.c⟩⟩
       | true=>
        rw [if_pos rfl] at H
        rcases itO H with⟨g1,H⟩|⟨_,H⟩
        case inr=>exact absurd H (by simp)
        rcases itO H with⟨g2,H⟩|⟨_,H⟩
        case inr=>exact absurd H (by simp)
        have y1:=eq_true g1
        have y2:=eq_true g2
        have y3:=decide_eq_true g1
        have y4:=decide_eq_true g2
        clear g1 g2
        obtain⟨x,hx,H⟩:=bndO H
        have hX:=Aside0.mk hx
        clear hx
        cases x with
        | true=>
         rw [if_pos rfl] at H
         have hH2:=Aside0.mk (Option.some.inj H)
         clear H
         refine start_ (n:=28) (S:=fun _=>True) (ds:=[]) #[F,F,F,F,F,F,F,F,F,F,F,F,F,F,F,F,F,F,F,F,F,F,F,F,F,F,F,F] (by kernel_rfl) rfl rfl trivial (fun _=>?_)
         refine pu 0 20 #[T,F,F,F,F,F,F,F,F,F,F,F,F,F,F,F,F,F,F,F,F,F,F,F,F,F,F,F] ?_
         refine one_ (i:=1) (N:=some 21) #[T,T,F,F,F,F,F,F,F,F,F,F,F,F,F,F,F,F,F,F,F,F,F,F,F,F,F,F] rfl rfl (by kernel_rfl) (by decide) (fun K hK=>?_)
         refine goes_ Tryd.func29 (by kernel_rfl) rfl #[.pointer (some ⟨g,0,none⟩)] (by rfl) rfl rfl (by(try simp only [List.map_toArray,List.map_cons,List.map_nil]);first|done|rfl) ?_
         with_reducible refine(xml_reader_space.calls k1 g s' p' true b2 b3 w0 _ ?s1 ?s2 hSp.out).mono ?_
         case s1=>exact xml_el.ci
         case s2=>exact xml_el.cb
         rintro e_ w_ ⟨rfl,hi,hb,hk⟩
         refine⟨_,rfl,?_⟩
         have HV3:=Aside0.mk (xml_el.Inv.call xml_el.c hi hb hk)
         clear HV hi hb hk
         have HV:=HV3
         clear HV3
         refine hK.out _ _ trivial (fun hHeld=>?_)
         clear hK K
         refine nw ?_
         have hHeld:(fun w':World=>w'.cell? ⟨g,0,none⟩=some (.string b2)∧w'.cell? ⟨g,1,none⟩=some (.int .i64 b3)) w_:=⟨xml_reader_attribute.c0 HV.out.i,xml_reader_attribute.c1 HV.out.i⟩
         refine xml_el.strong (S:=fun w'=>w'.cell? ⟨g,0,none⟩=some (.string b2)∧w'.cell? ⟨g,1,none⟩=some (.int .i64 b3)) _ _ _ _ ?_
         refine pu 2 22 #[T,T,T,F,F,F,F,F,F,F,F,F,F,F,F,F,F,F,F,F,F,F,F,F,F,F,F,F] ?_
         refine pu 3 23 #[T,T,T,T,F,F,F,F,F,F,F,F,F,F,F,F,F,F,F,F,F,F,F,F,F,F,F,F] ?_
         refine pu 4 24 #[T,T,T,T,T,F,F,F,F,F,F,F,F,F,F,F,F,F,F,F,F,F,F,F,F,F,F,F] ?_
         refine pu 5 25 #[T,T,T,T,T,T,F,F,F,F,F,F,F,F,F,F,F,F,F,F,F,F,F,F,F,F,F,F] ?_
         refine tk 6 26 #[T,T,T,T,T,T,T,F,F,F,F,F,F,F,F,F,F,F,F,F,F,F,F,F,F,F,F,F] hHeld ?_
         refine pu 7 27 #[T,T,T,T,T,T,T,T,F,F,F,F,F,F,F,F,F,F,F,F,F,F,F,F,F,F,F,F] ?_
         refine pu 8 28 #[T,T,T,T,T,T,T,T,T,F,F,F,F,F,F,F,F,F,F,F,F,F,F,F,F,F,F,F] ?_
         refine pu 9 29 #[T,T,T,T,T,T,T,T,T,T,F,F,F,F,F,F,F,F,F,F,F,F,F,F,F,F,F,F] ?_
         refine tk 10 30 #[T,T,T,T,T,T,T,T,T,T,T,F,F,F,F,F,F,F,F,F,F,F,F,F,F,F,F,F] hHeld ?_
         refine pu 11 31 #[T,T,T,T,T,T,T,T,T,T,T,T,F,F,F,F,F,F,F,F,F,F,F,F,F,F,F,F] ?_
         refine one_ (i:=12) (N:=some 32) #[T,T,T,T,T,T,T,T,T,T,T,T,T,F,F,F,F,F,F,F,F,F,F,F,F,F,F,F] rfl rfl (by kernel_rfl) (by decide) (fun K hK=>?_)
         refine goes_ Tryd.func55 (by kernel_rfl) rfl #[.string (b2.extract (b3:Int).toNat b2.size),.string (⟨#[47]⟩ : ByteArray)] (by rfl) rfl rfl (by(try simp only [List.map_toArray,List.map_cons,List.map_nil]);first|done|rfl) ?_
         with_reducible refine(strings_HasPrefix.calls (b2.extract (b3:Int).toNat b2.size) (⟨#[47]⟩ : ByteArray) true _ hX.out).mono ?_
         rintro e_ w_ ⟨rfl,⟨nd,rfl⟩⟩
         refine⟨_,rfl,?_⟩
         refine hK.out _ _ ⟨xml_reader_attribute.c0 xml_el.ci,xml_reader_attribute.c1 xml_el.ci⟩ (fun hHeld=>?_)
         clear hK K
         refine nw ?_
         refine pu 13 33 #[T,T,T,T,T,T,T,T,T,T,T,T,T,T,F,F,F,F,F,F,F,F,F,F,F,F,F,F] ?_
         refine pu 14 34 #[T,T,T,T,T,T,T,T,T,T,T,T,T,T,T,F,F,F,F,F,F,F,F,F,F,F,F,F] ?_
         refine pu 15 35 #[T,T,T,T,T,T,T,T,T,T,T,T,T,T,T,T,F,F,F,F,F,F,F,F,F,F,F,F] ?_
         refine po 16 36 #[T,T,T,T,T,T,T,T,T,T,T,T,T,T,T,T,T,F,F,F,F,F,F,F,F,F,F,F] ?_
         refine po 17 37 #[T,T,T,T,T,T,T,T,T,T,T,T,T,T,T,T,T,T,F,F,F,F,F,F,F,F,F,F] ?_
         refine po 18 38 #[T,T,T,T,T,T,T,T,T,T,T,T,T,T,T,T,T,T,T,F,F,F,F,F,F,F,F,F] ?_
         refine po 19 39 #[T,T,T,T,T,T,T,T,T,T,T,T,T,T,T,T,T,T,T,T,F,F,F,F,F,F,F,F] ?_
         refine po 20 40 #[T,T,T,T,T,T,T,T,T,T,T,T,T,T,T,T,T,T,T,T,T,F,F,F,F,F,F,F] ?_
         refine po 21 41 #[T,T,T,T,T,T,T,T,T,T,T,T,T,T,T,T,T,T,T,T,T,T,F,F,F,F,F,F] ?_
         refine po 22 42 #[T,T,T,T,T,T,T,T,T,T,T,T,T,T,T,T,T,T,T,T,T,T,T,F,F,F,F,F] ?_
         refine po 23 43 #[T,T,T,T,T,T,T,T,T,T,T,T,T,T,T,T,T,T,T,T,T,T,T,T,F,F,F,F] ?_
         refine po 24 44 #[T,T,T,T,T,T,T,T,T,T,T,T,T,T,T,T,T,T,T,T,T,T,T,T,T,F,F,F] ?_
         refine po 25 45 #[T,T,T,T,T,T,T,T,T,T,T,T,T,T,T,T,T,T,T,T,T,T,T,T,T,T,F,F] ?_
         refine po 26 46 #[T,T,T,T,T,T,T,T,T,T,T,T,T,T,T,T,T,T,T,T,T,T,T,T,T,T,T,F] ?_
         refine pu 27 47 #[T,T,T,T,T,T,T,T,T,T,T,T,T,T,T,T,T,T,T,T,T,T,T,T,T,T,T,T] ?_
         refine done_ (by kernel_rfl) ?_
         try go_wp2
         go_meet
         case rel=>exact⟨false,b2,b3,rfl,hH2,⟨xml_el.c⟩⟩
        | false=>
         rw [if_neg Bool.false_ne_true] at H
         obtain⟨y,hy,H⟩:=bndO H
         have hY:=Aside0.mk hy
         clear hy
         cases y with
         | true=>
          rw [if_pos rfl] at H
          have hH2:=Aside0.mk (Option.some.inj H)
          clear H
          refine start_ (n:=28) (S:=fun _=>True) (ds:=[]) #[F,F,F,F,F,F,F,F,F,F,F,F,F,F,F,F,F,F,F,F,F,F,F,F,F,F,F,F] (by kernel_rfl) rfl rfl trivial (fun _=>?_)
          refine pu 0 20 #[T,F,F,F,F,F,F,F,F,F,F,F,F,F,F,F,F,F,F,F,F,F,F,F,F,F,F,F] ?_
          refine one_ (i:=1) (N:=some 21) #[T,T,F,F,F,F,F,F,F,F,F,F,F,F,F,F,F,F,F,F,F,F,F,F,F,F,F,F] rfl rfl (by kernel_rfl) (by decide) (fun K hK=>?_)
          refine goes_ Tryd.func29 (by kernel_rfl) rfl #[.pointer (some ⟨g,0,none⟩)] (by rfl) rfl rfl (by(try simp only [List.map_toArray,List.map_cons,List.map_nil]);first|done|rfl) ?_
          with_reducible refine(xml_reader_space.calls k1 g s' p' true b2 b3 w0 _ ?s1 ?s2 hSp.out).mono ?_
          case s1=>exact xml_el.ci
          case s2=>exact xml_el.cb
          rintro e_ w_ ⟨rfl,hi,hb,hk⟩
          refine⟨_,rfl,?_⟩
          have HV3:=Aside0.mk (xml_el.Inv.call xml_el.c hi hb hk)
          clear HV hi hb hk
          have HV:=HV3
          clear HV3
          refine hK.out _ _ trivial (fun hHeld=>?_)
          clear hK K
          refine nw ?_
          have hHeld:(fun w':World=>w'.cell? ⟨g,0,none⟩=some (.string b2)∧w'.cell? ⟨g,1,none⟩=some (.int .i64 b3)) w_:=⟨xml_reader_attribute.c0 HV.out.i,xml_reader_attribute.c1 HV.out.i⟩
          refine xml_el.strong (S:=fun w'=>w'.cell? ⟨g,0,none⟩=some (.string b2)∧w'.cell? ⟨g,1,none⟩=some (.int .i64 b3)) _ _ _ _ ?_
          refine pu 2 22 #[T,T,T,F,F,F,F,F,F,F,F,F,F,F,F,F,F,F,F,F,F,F,F,F,F,F,F,F] ?_
          refine pu 3 23 #[T,T,T,T,F,F,F,F,F,F,F,F,F,F,F,F,F,F,F,F,F,F,F,F,F,F,F,F] ?_
          refine pu 4 24 #[T,T,T,T,T,F,F,F,F,F,F,F,F,F,F,F,F,F,F,F,F,F,F,F,F,F,F,F] ?_
          refine pu 5 25 #[T,T,T,T,T,T,F,F,F,F,F,F,F,F,F,F,F,F,F,F,F,F,F,F,F,F,F,F] ?_
          refine tk 6 26 #[T,T,T,T,T,T,T,F,F,F,F,F,F,F,F,F,F,F,F,F,F,F,F,F,F,F,F,F] hHeld ?_
          refine pu 7 27 #[T,T,T,T,T,T,T,T,F,F,F,F,F,F,F,F,F,F,F,F,F,F,F,F,F,F,F,F] ?_
          refine pu 8 28 #[T,T,T,T,T,T,T,T,T,F,F,F,F,F,F,F,F,F,F,F,F,F,F,F,F,F,F,F] ?_
          refine pu 9 29 #[T,T,T,T,T,T,T,T,T,T,F,F,F,F,F,F,F,F,F,F,F,F,F,F,F,F,F,F] ?_
          refine tk 10 30 #[T,T,T,T,T,T,T,T,T,T,T,F,F,F,F,F,F,F,F,F,F,F,F,F,F,F,F,F] hHeld ?_
          refine pu 11 31 #[T,T,T,T,T,T,T,T,T,T,T,T,F,F,F,F,F,F,F,F,F,F,F,F,F,F,F,F] ?_
          refine one_ (i:=12) (N:=some 32) #[T,T,T,T,T,T,T,T,T,T,T,T,T,F,F,F,F,F,F,F,F,F,F,F,F,F,F,F] rfl rfl (by kernel_rfl) (by decide) (fun K hK=>?_)
          refine goes_ Tryd.func55 (by kernel_rfl) rfl #[.string (b2.extract (b3:Int).toNat b2.size),.string (⟨#[47]⟩ : ByteArray)] (by rfl) rfl rfl (by(try simp only [List.map_toArray,List.map_cons,List.map_nil]);first|done|rfl) ?_
          with_reducible refine(strings_HasPrefix.calls (b2.extract (b3:Int).toNat b2.size) (⟨#[47]⟩ : ByteArray) false _ hX.out).mono ?_
          rintro e_ w_ ⟨rfl,⟨nd,rfl⟩⟩
          refine⟨_,rfl,?_⟩
          refine hK.out _ _ ⟨xml_reader_attribute.c0 xml_el.ci,xml_reader_attribute.c1 xml_el.ci⟩ (fun hHeld=>?_)
          clear hK K
          refine nw ?_
          refine pu 13 33 #[T,T,T,T,T,T,T,T,T,T,T,T,T,T,F,F,F,F,F,F,F,F,F,F,F,F,F,F] ?_
          refine pu 14 34 #[T,T,T,T,T,T,T,T,T,T,T,T,T,T,T,F,F,F,F,F,F,F,F,F,F,F,F,F] ?_
          refine pu 15 35 #[T,T,T,T,T,T,T,T,T,T,T,T,T,T,T,T,F,F,F,F,F,F,F,F,F,F,F,F] ?_
          refine pu 16 36 #[T,T,T,T,T,T,T,T,T,T,T,T,T,T,T,T,T,F,F,F,F,F,F,F,F,F,F,F] ?_
          refine pu 17 37 #[T,T,T,T,T,T,T,T,T,T,T,T,T,T,T,T,T,T,F,F,F,F,F,F,F,F,F,F] ?_
          refine pu 18 38 #[T,T,T,T,T,T,T,T,T,T,T,T,T,T,T,T,T,T,T,F,F,F,F,F,F,F,F,F] ?_
          refine tk 19 39 #[T,T,T,T,T,T,T,T,T,T,T,T,T,T,T,T,T,T,T,T,F,F,F,F,F,F,F,F] hHeld ?_
          refine pu 20 40 #[T,T,T,T,T,T,T,T,T,T,T,T,T,T,T,T,T,T,T,T,T,F,F,F,F,F,F,F] ?_
          refine pu 21 41 #[T,T,T,T,T,T,T,T,T,T,T,T,T,T,T,T,T,T,T,T,T,T,F,F,F,F,F,F] ?_
          refine pu 22 42 #[T,T,T,T,T,T,T,T,T,T,T,T,T,T,T,T,T,T,T,T,T,T,T,F,F,F,F,F] ?_
          refine tk 23 43 #[T,T,T,T,T,T,T,T,T,T,T,T,T,T,T,T,T,T,T,T,T,T,T,T,F,F,F,F] hHeld ?_
          refine pu 24 44 #[T,T,T,T,T,T,T,T,T,T,T,T,T,T,T,T,T,T,T,T,T,T,T,T,T,F,F,F] ?_
          refine one_ (i:=25) (N:=some 45) #[T,T,T,T,T,T,T,T,T,T,T,T,T,T,T,T,T,T,T,T,T,T,T,T,T,T,F,F] rfl rfl (by kernel_rfl) (by decide) (fun K hK=>?_)
          refine goes_ Tryd.func55 (by kernel_rfl) rfl #[.string (b2.extract (b3:Int).toNat b2.size),.string (⟨#[62]⟩ : ByteArray)] (by rfl) rfl rfl (by(try simp only [List.map_toArray,List.map_cons,List.map_nil]);first|done|rfl) ?_
          with_reducible refine(strings_HasPrefix.calls (b2.extract (b3:Int).toNat b2.size) (⟨#[62]⟩ : ByteArray) true _ hY.out).mono ?_
          rintro e_ w_ ⟨rfl,⟨nd,rfl⟩⟩
          refine⟨_,rfl,?_⟩
          refine hK.out _ _ ⟨xml_reader_attribute.c0 xml_el.ci,xml_reader_attribute.c1 xml_el.ci⟩ (fun hHeld=>?_)
          clear hK K
          refine nw ?_
          refine pu 26 46 #[T,T,T,T,T,T,T,T,T,T,T,T,T,T,T,T,T,T,T,T,T,T,T,T,T,T,T,F] ?_
          refine pu 27 47 #[T,T,T,T,T,T,T,T,T,T,T,T,T,T,T,T,T,T,T,T,T,T,T,T,T,T,T,T] ?_
          refine done_ (by kernel_rfl) ?_
          try go_wp2
          go_meet
          case rel=>exact⟨false,b2,b3,rfl,hH2,⟨xml_el.c⟩⟩
         | false=>
          rw [if_neg Bool.false_ne_true] at H
          have hH2:=Aside0.mk (H)
          clear H
          refine start_ (n:=28) (S:=fun _=>True) (ds:=[]) #[F,F,F,F,F,F,F,F,F,F,F,F,F,F,F,F,F,F,F,F,F,F,F,F,F,F,F,F] (by kernel_rfl) rfl rfl trivial (fun _=>?_)
          refine pu 0 20 #[T,F,F,F,F,F,F,F,F,F,F,F,F,F,F,F,F,F,F,F,F,F,F,F,F,F,F,F] ?_
          refine one_ (i:=1) (N:=some 21) #[T,T,F,F,F,F,F,F,F,F,F,F,F,F,F,F,F,F,F,F,F,F,F,F,F,F,F,F] rfl rfl (by kernel_rfl) (by decide) (fun K hK=>?_)
          refine goes_ Tryd.func29 (by kernel_rfl) rfl #[.pointer (some ⟨g,0,none⟩)] (by rfl) rfl rfl (by(try simp only [List.map_toArray,List.map_cons,List.map_nil]);first|done|rfl) ?_
          with_reducible refine(xml_reader_space.calls k1 g s' p' true b2 b3 w0 _ ?s1 ?s2 hSp.out).mono ?_
          case s1=>exact xml_el.ci
          case s2=>exact xml_el.cb
          rintro e_ w_ ⟨rfl,hi,hb,hk⟩
          refine⟨_,rfl,?_⟩
          have HV3:=Aside0.mk (xml_el.Inv.call xml_el.c hi hb hk)
          clear HV hi hb hk
          have HV:=HV3
          clear HV3
          refine hK.out _ _ trivial (fun hHeld=>?_)
          clear hK K
          refine nw ?_
          have hHeld:(fun w':World=>w'.cell? ⟨g,0,none⟩=some (.string b2)∧w'.cell? ⟨g,1,none⟩=some (.int .i64 b3)) w_:=⟨xml_reader_attribute.c0 HV.out.i,xml_reader_attribute.c1 HV.out.i⟩
          refine xml_el.strong (S:=fun w'=>w'.cell? ⟨g,0,none⟩=some (.string b2)∧w'.cell? ⟨g,1,none⟩=some (.int .i64 b3)) _ _ _ _ ?_
          refine pu 2 22 #[T,T,T,F,F,F,F,F,F,F,F,F,F,F,F,F,F,F,F,F,F,F,F,F,F,F,F,F] ?_
          refine pu 3 23 #[T,T,T,T,F,F,F,F,F,F,F,F,F,F,F,F,F,F,F,F,F,F,F,F,F,F,F,F] ?_
          refine pu 4 24 #[T,T,T,T,T,F,F,F,F,F,F,F,F,F,F,F,F,F,F,F,F,F,F,F,F,F,F,F] ?_
          refine pu 5 25 #[T,T,T,T,T,T,F,F,F,F,F,F,F,F,F,F,F,F,F,F,F,F,F,F,F,F,F,F] ?_
          refine tk 6 26 #[T,T,T,T,T,T,T,F,F,F,F,F,F,F,F,F,F,F,F,F,F,F,F,F,F,F,F,F] hHeld ?_
          refine pu 7 27 #[T,T,T,T,T,T,T,T,F,F,F,F,F,F,F,F,F,F,F,F,F,F,F,F,F,F,F,F] ?_
          refine pu 8 28 #[T,T,T,T,T,T,T,T,T,F,F,F,F,F,F,F,F,F,F,F,F,F,F,F,F,F,F,F] ?_
          refine pu 9 29 #[T,T,T,T,T,T,T,T,T,T,F,F,F,F,F,F,F,F,F,F,F,F,F,F,F,F,F,F] ?_
          refine tk 10 30 #[T,T,T,T,T,T,T,T,T,T,T,F,F,F,F,F,F,F,F,F,F,F,F,F,F,F,F,F] hHeld ?_
          refine pu 11 31 #[T,T,T,T,T,T,T,T,T,T,T,T,F,F,F,F,F,F,F,F,F,F,F,F,F,F,F,F] ?_
          refine one_ (i:=12) (N:=some 32) #[T,T,T,T,T,T,T,T,T,T,T,T,T,F,F,F,F,F,F,F,F,F,F,F,F,F,F,F] rfl rfl (by kernel_rfl) (by decide) (fun K hK=>?_)
          refine goes_ Tryd.func55 (by kernel_rfl) rfl #[.string (b2.extract (b3:Int).toNat b2.size),.string (⟨#[47]⟩ : ByteArray)] (by rfl) rfl rfl (by(try simp only [List.map_toArray,List.map_cons,List.map_nil]);first|done|rfl) ?_
          with_reducible refine(strings_HasPrefix.calls (b2.extract (b3:Int).toNat b2.size) (⟨#[47]⟩ : ByteArray) false _ hX.out).mono ?_
          rintro e_ w_ ⟨rfl,⟨nd,rfl⟩⟩
          refine⟨_,rfl,?_⟩
          refine hK.out _ _ ⟨xml_reader_attribute.c0 xml_el.ci,xml_reader_attribute.c1 xml_el.ci⟩ (fun hHeld=>?_)
          clear hK K
          refine nw ?_
          refine pu 13 33 #[T,T,T,T,T,T,T,T,T,T,T,T,T,T,F,F,F,F,F,F,F,F,F,F,F,F,F,F] ?_
          refine pu 14 34 #[T,T,T,T,T,T,T,T,T,T,T,T,T,T,T,F,F,F,F,F,F,F,F,F,F,F,F,F] ?_
          refine pu 15 35 #[T,T,T,T,T,T,T,T,T,T,T,T,T,T,T,T,F,F,F,F,F,F,F,F,F,F,F,F] ?_
          refine pu 16 36 #[T,T,T,T,T,T,T,T,T,T,T,T,T,T,T,T,T,F,F,F,F,F,F,F,F,F,F,F] ?_
          refine pu 17 37 #[T,T,T,T,T,T,T,T,T,T,T,T,T,T,T,T,T,T,F,F,F,F,F,F,F,F,F,F] ?_
          refine pu 18 38 #[T,T,T,T,T,T,T,T,T,T,T,T,T,T,T,T,T,T,T,F,F,F,F,F,F,F,F,F] ?_
          refine tk 19 39 #[T,T,T,T,T,T,T,T,T,T,T,T,T,T,T,T,T,T,T,T,F,F,F,F,F,F,F,F] hHeld ?_
          refine pu 20 40 #[T,T,T,T,T,T,T,T,T,T,T,T,T,T,T,T,T,T,T,T,T,F,F,F,F,F,F,F] ?_
          refine pu 21 41 #[T,T,T,T,T,T,T,T,T,T,T,T,T,T,T,T,T,T,T,T,T,T,F,F,F,F,F,F] ?_
          refine pu 22 42 #[T,T,T,T,T,T,T,T,T,T,T,T,T,T,T,T,T,T,T,T,T,T,T,F,F,F,F,F] ?_
          refine tk 23 43 #[T,T,T,T,T,T,T,T,T,T,T,T,T,T,T,T,T,T,T,T,T,T,T,T,F,F,F,F] hHeld ?_
          refine pu 24 44 #[T,T,T,T,T,T,T,T,T,T,T,T,T,T,T,T,T,T,T,T,T,T,T,T,T,F,F,F] ?_
          refine one_ (i:=25) (N:=some 45) #[T,T,T,T,T,T,T,T,T,T,T,T,T,T,T,T,T,T,T,T,T,T,T,T,T,T,F,F] rfl rfl (by kernel_rfl) (by decide) (fun K hK=>?_)
          refine goes_ Tryd.func55 (by kernel_rfl) rfl #[.string (b2.extract (b3:Int).toNat b2.size),.string (⟨#[62]⟩ : ByteArray)] (by rfl) rfl rfl (by(try simp only [List.map_toArray,List.map_cons,List.map_nil]);first|done|rfl) ?_
          with_reducible refine(strings_HasPrefix.calls (b2.extract (b3:Int).toNat b2.size) (⟨#[62]⟩ : ByteArray) false _ hY.out).mono ?_
          rintro e_ w_ ⟨rfl,⟨nd,rfl⟩⟩
          refine⟨_,rfl,?_⟩
          refine hK.out _ _ ⟨xml_reader_attribute.c0 xml_el.ci,xml_reader_attribute.c1 xml_el.ci⟩ (fun hHeld=>?_)
          clear hK K
          refine nw ?_
          refine pu 26 46 #[T,T,T,T,T,T,T,T,T,T,T,T,T,T,T,T,T,T,T,T,T,T,T,T,T,T,T,F] ?_
          refine pu 27 47 #[T,T,T,T,T,T,T,T,T,T,T,T,T,T,T,T,T,T,T,T,T,T,T,T,T,T,T,T] ?_
          refine done_ (by kernel_rfl) ?_
          try go_wp2
          go_meet
          case rel=>exact⟨true,b2,b3,rfl,hH2,⟨xml_el.c⟩⟩
      case rest=>
       obtain⟨m,s2,p2,rfl,hM,HV⟩:=hcut
       obtain⟨hc0,hc1,hf0,hf1,hd0,hd1,hd2,he0,he1,he2,hne,hen⟩:=xml_el.Inv.all HV.out
       cases m with
       | true=>
        have H:=hM.out
        clear hM
        rw [if_pos rfl] at H
        obtain⟨c,hc,H⟩:=bndO H
        obtain⟨t1,t2,t3⟩:=c
        have hAt:=Aside0.mk hc
        clear hc
        dsimp only at H
        cases t1 with
        | false=>
         rw [if_neg Bool.false_ne_true] at H
         simp only [Option.some.injEq,Prod.mk.injEq] at H
         obtain⟨rfl,rfl,rfl⟩:=H
         have h:=hH.out
         rw [if_neg Bool.false_ne_true] at h
         obtain rfl:=Option.some.inj h
         go_wp2_with (first|(go_at_call 60;with_reducible refine(xml_reader_attribute.calls k1 g s2 p2 false t2 t3 w0 _ ?s1 ?s2 hAt.out).mono ?_;(case s1=>exact xml_el.ci);(case s2=>exact xml_el.cb);rintro e_ w_ ⟨rfl,hi,hb,hk⟩;(first|replace HV:=Aside0.mk (xml_el.Inv.call HV.out hi hb hk)|replace HV:=Aside0.mk (xml_el.Inv.call (HV.out.drewN _) hi hb hk)|replace HV:=Aside0.mk (xml_el.Inv.call ((HV.out.drewN _).drewN _) hi hb hk)|replace HV:=Aside0.mk (xml_el.Inv.call HV.out.drew hi hb hk)|replace HV:=Aside0.mk (xml_el.Inv.call (HV.out.drewN _).drew hi hb hk));clear hi hb hk;obtain⟨hc0,hc1,hf0,hf1,hd0,hd1,hd2,he0,he1,he2,hne,hen⟩:=xml_el.Inv.all HV.out))
         go_step3
         exact⟨rfl,_,_,_,_,_,_,_,_,_,_,_,_,_,_,_,_,_,_,_,_,_,_,_,_,_,_,_,_,_,_,_,_,_,_,_,_,_,_,_,_,_,_,_,_,_,_,_,_,_,_,_,_,_,_,_,_,_,_,_,_,_,_,_,_,_,_,_,_,_,_,_,_,_,_,_,_,_,_,_,_,_,_,_,_,_,_,rfl,xml_el.c,rfl⟩
        | true=>
         rw [if_pos rfl] at H
         have H':=Aside0.mk H
         clear H
         go_wp2_with (first|(go_at_call 60;with_reducible refine(xml_reader_attribute.calls k1 g s2 p2 true t2 t3 w0 _ ?s1 ?s2 hAt.out).mono ?_;(case s1=>exact xml_el.ci);(case s2=>exact xml_el.cb);rintro e_ w_ ⟨rfl,hi,hb,hk⟩;(first|replace HV:=Aside0.mk (xml_el.Inv.call HV.out hi hb hk)|replace HV:=Aside0.mk (xml_el.Inv.call (HV.out.drewN _) hi hb hk)|replace HV:=Aside0.mk (xml_el.Inv.call ((HV.out.drewN _).drewN _) hi hb hk)|replace HV:=Aside0.mk (xml_el.Inv.call HV.out.drew hi hb hk)|replace HV:=Aside0.mk (xml_el.Inv.call (HV.out.drewN _).drew hi hb hk));clear hi hb hk;obtain⟨hc0,hc1,hf0,hf1,hd0,hd1,hd2,he0,he1,he2,hne,hen⟩:=xml_el.Inv.all HV.out))
         go_roundg k1
         case measure=>have:=HK1.out;omega
         case rel=>exact⟨t2,t3,H',⟨by have:=HK1.out;omega⟩,⟨xml_el.c⟩⟩
       | false=>
        have hM2:=hM.out
        rw [if_neg Bool.false_ne_true] at hM2
        simp only [Prod.mk.injEq] at hM2
        obtain⟨rfl,rfl,rfl⟩:=hM2
        have h:=hH.out
        rw [if_pos rfl] at h
        clear hM hH
        obtain⟨b,hb_,h⟩:=bndO h
        obtain⟨b1,b2,b3⟩:=b
        have hBe:=Aside0.mk hb_
        clear hb_
        dsimp only at h
        cases b1 with
        | true=>
         rw [if_pos rfl] at h
         obtain rfl:=Option.some.inj h
         go_wp2_with (first|(go_at_call 58;with_reducible refine(xml_reader_eat.calls g s2 p2 (⟨#[47,62]⟩ : ByteArray) true b2 b3 w0 _ ?s1 ?s2 hBe.out).mono ?_;(case s1=>exact xml_el.ci);(case s2=>exact xml_el.cb);rintro e_ w_ ⟨rfl,hi,hb,hk⟩;(first|replace HV:=Aside0.mk (xml_el.Inv.call HV.out hi hb hk)|replace HV:=Aside0.mk (xml_el.Inv.call (HV.out.drewN _) hi hb hk)|replace HV:=Aside0.mk (xml_el.Inv.call ((HV.out.drewN _).drewN _) hi hb hk)|replace HV:=Aside0.mk (xml_el.Inv.call HV.out.drew hi hb hk)|replace HV:=Aside0.mk (xml_el.Inv.call (HV.out.drewN _).drew hi hb hk));clear hi hb hk;obtain⟨hc0,hc1,hf0,hf1,hd0,hd1,hd2,he0,he1,he2,hne,hen⟩:=xml_el.Inv.all HV.out))
         try simp only [Exit.jump]
         have HZ:=((xml_el.Inv.put xml_el.c hB.out.size 0 (.string n1) rfl).put hB.out.size 1 (.string (⟨#[]⟩ : ByteArray)) rfl).put hB.out.size 2 (.slice none 0 0) rfl
         refine bodyPost_ret (results_ct rfl _ _ gb 24 #[.string n1,.string (⟨#[]⟩ : ByteArray),.slice none 0 0] (0,0) _ rfl HZ.2.2.2.1 Tryd.underlying24 rfl (by kernel_rfl)) rfl ?_
         exact⟨.slice none 0 0,rfl,Kd.V_nil _ _ _ _ _,HZ.1,HZ.2.1,HZ.2.2.1⟩
        | false=>
         rw [if_neg Bool.false_ne_true] at h
         go_upto_region 8 with(first|(go_at_call 58;with_reducible refine(xml_reader_eat.calls g s2 p2 (⟨#[47,62]⟩ : ByteArray) false b2 b3 w0 _ ?s1 ?s2 hBe.out).mono ?_;(case s1=>exact xml_el.ci);(case s2=>exact xml_el.cb);rintro e_ w_ ⟨rfl,hi,hb,hk⟩;(first|replace HV:=Aside0.mk (xml_el.Inv.call HV.out hi hb hk)|replace HV:=Aside0.mk (xml_el.Inv.call (HV.out.drewN _) hi hb hk)|replace HV:=Aside0.mk (xml_el.Inv.call ((HV.out.drewN _).drewN _) hi hb hk)|replace HV:=Aside0.mk (xml_el.Inv.call HV.out.drew hi hb hk)|replace HV:=Aside0.mk (xml_el.Inv.call (HV.out.drewN _).drew hi hb hk));clear hi hb hk;obtain⟨hc0,hc1,hf0,hf1,hd0,hd1,hd2,he0,he1,he2,hne,hen⟩:=xml_el.Inv.all HV.out))
         obtain⟨c,hc,h⟩:=bndO h
         obtain⟨c1,c2,c3⟩:=c
         have hCe:=Aside0.mk hc
         clear hc
         dsimp only at h
         cases c1 with
         | false=>
          rw [if_neg Bool.false_ne_true] at h
          obtain rfl:=Option.some.inj h
          refine start_ (n:=21) (S:=fun _=>True) (ds:=[]) #[F,F,F,F,F,F,F,F,F,F,F,F,F,F,F,F,F,F,F,F,F] (by kernel_rfl) rfl rfl trivial (fun _=>?_)
          refine pu 0 54 #[T,F,F,F,F,F,F,F,F,F,F,F,F,F,F,F,F,F,F,F,F] ?_
          refine one_ (i:=1) (N:=some 55) #[T,T,F,F,F,F,F,F,F,F,F,F,F,F,F,F,F,F,F,F,F] rfl rfl (by kernel_rfl) (by decide) (fun K hK=>?_)
          refine goes_ Tryd.func58 (by kernel_rfl) rfl #[.pointer (some ⟨g,0,none⟩),.string (⟨#[62]⟩ : ByteArray)] (by rfl) rfl rfl (by(try simp only [List.map_toArray,List.map_cons,List.map_nil]);first|done|rfl) ?_
          with_reducible refine(xml_reader_eat.calls g b2 b3 (⟨#[62]⟩ : ByteArray) false c2 c3 w0 _ ?s1 ?s2 hCe.out).mono ?_
          case s1=>exact xml_el.ci
          case s2=>exact xml_el.cb
          rintro e_ w_ ⟨rfl,hi,hb,hk⟩
          refine⟨_,rfl,?_⟩
          have HV3:=Aside0.mk (xml_el.Inv.call xml_el.c hi hb hk)
          clear HV hi hb hk
          have HV:=HV3
          clear HV3
          refine hK.out _ _ trivial (fun hHeld=>?_)
          clear hK K
          refine nw ?_
          refine pu 2 56 #[T,T,T,F,F,F,F,F,F,F,F,F,F,F,F,F,F,F,F,F,F] ?_
          refine pu 3 57 #[T,T,T,T,F,F,F,F,F,F,F,F,F,F,F,F,F,F,F,F,F] ?_
          refine po 4 58 #[T,T,T,T,T,F,F,F,F,F,F,F,F,F,F,F,F,F,F,F,F] ?_
          refine po 5 59 #[T,T,T,T,T,T,F,F,F,F,F,F,F,F,F,F,F,F,F,F,F] ?_
          refine po 6 60 #[T,T,T,T,T,T,T,F,F,F,F,F,F,F,F,F,F,F,F,F,F] ?_
          refine po 7 61 #[T,T,T,T,T,T,T,T,F,F,F,F,F,F,F,F,F,F,F,F,F] ?_
          refine pu 8 62 #[T,T,T,T,T,T,T,T,T,F,F,F,F,F,F,F,F,F,F,F,F] ?_
          refine pu 9 63 #[T,T,T,T,T,T,T,T,T,T,F,F,F,F,F,F,F,F,F,F,F] ?_
          refine po 10 64 #[T,T,T,T,T,T,T,T,T,T,T,F,F,F,F,F,F,F,F,F,F] ?_
          refine po 11 65 #[T,T,T,T,T,T,T,T,T,T,T,T,F,F,F,F,F,F,F,F,F] ?_
          refine po 12 66 #[T,T,T,T,T,T,T,T,T,T,T,T,T,F,F,F,F,F,F,F,F] ?_
          refine pu 13 67 #[T,T,T,T,T,T,T,T,T,T,T,T,T,T,F,F,F,F,F,F,F] ?_
          refine pu 14 68 #[T,T,T,T,T,T,T,T,T,T,T,T,T,T,T,F,F,F,F,F,F] ?_
          refine po 15 69 #[T,T,T,T,T,T,T,T,T,T,T,T,T,T,T,T,F,F,F,F,F] ?_
          refine po 16 70 #[T,T,T,T,T,T,T,T,T,T,T,T,T,T,T,T,T,F,F,F,F] ?_
          refine po 17 71 #[T,T,T,T,T,T,T,T,T,T,T,T,T,T,T,T,T,T,F,F,F] ?_
          refine po 18 72 #[T,T,T,T,T,T,T,T,T,T,T,T,T,T,T,T,T,T,T,F,F] ?_
          refine po 19 73 #[T,T,T,T,T,T,T,T,T,T,T,T,T,T,T,T,T,T,T,T,F] ?_
          refine pu 20 74 #[T,T,T,T,T,T,T,T,T,T,T,T,T,T,T,T,T,T,T,T,T] ?_
          refine done_ (by kernel_rfl) ?_
          go_wp2
          go_step3
          exact⟨rfl,_,_,_,_,_,_,_,_,_,_,_,_,_,_,_,_,_,_,_,_,_,_,_,_,_,_,_,_,_,_,_,_,_,_,_,_,_,_,_,_,_,_,_,_,_,_,_,_,_,_,_,_,_,_,_,_,_,_,_,_,_,_,_,_,_,_,_,_,_,_,_,_,_,_,_,_,_,_,_,_,_,_,_,_,_,_,rfl,xml_el.c,rfl⟩
         | true=>
          rw [if_pos rfl] at h
          obtain⟨x,hx,h⟩:=bndO h
          obtain⟨x1,tx,kids,x4,x5⟩:=x
          have hX:=Aside0.mk hx
          clear hx
          dsimp only at h
          cases x1 with
          | false=>
           rw [if_neg Bool.false_ne_true] at h
           obtain rfl:=Option.some.inj h
           refine start_ (n:=21) (S:=fun _=>True) (ds:=[]) #[F,F,F,F,F,F,F,F,F,F,F,F,F,F,F,F,F,F,F,F,F] (by kernel_rfl) rfl rfl trivial (fun _=>?_)
           refine pu 0 54 #[T,F,F,F,F,F,F,F,F,F,F,F,F,F,F,F,F,F,F,F,F] ?_
           refine one_ (i:=1) (N:=some 55) #[T,T,F,F,F,F,F,F,F,F,F,F,F,F,F,F,F,F,F,F,F] rfl rfl (by kernel_rfl) (by decide) (fun K hK=>?_)
           refine goes_ Tryd.func58 (by kernel_rfl) rfl #[.pointer (some ⟨g,0,none⟩),.string (⟨#[62]⟩ : ByteArray)] (by rfl) rfl rfl (by(try simp only [List.map_toArray,List.map_cons,List.map_nil]);first|done|rfl) ?_
           with_reducible refine(xml_reader_eat.calls g b2 b3 (⟨#[62]⟩ : ByteArray) true c2 c3 w0 _ ?s1 ?s2 hCe.out).mono ?_
           case s1=>exact xml_el.ci
           case s2=>exact xml_el.cb
           rintro e_ w_ ⟨rfl,hi,hb,hk⟩
           refine⟨_,rfl,?_⟩
           have HV3:=Aside0.mk (xml_el.Inv.call xml_el.c hi hb hk)
           clear HV hi hb hk
           have HV:=HV3
           clear HV3
           refine hK.out _ _ trivial (fun hHeld=>?_)
           clear hK K
           refine nw ?_
           refine pu 2 56 #[T,T,T,F,F,F,F,F,F,F,F,F,F,F,F,F,F,F,F,F,F] ?_
           refine pu 3 57 #[T,T,T,T,F,F,F,F,F,F,F,F,F,F,F,F,F,F,F,F,F] ?_
           refine pu 4 58 #[T,T,T,T,T,F,F,F,F,F,F,F,F,F,F,F,F,F,F,F,F] ?_
           refine pu 5 59 #[T,T,T,T,T,T,F,F,F,F,F,F,F,F,F,F,F,F,F,F,F] ?_
           refine one_ (i:=6) (N:=some 60) #[T,T,T,T,T,T,T,F,F,F,F,F,F,F,F,F,F,F,F,F,F] rfl rfl (by kernel_rfl) (by decide) (fun K hK=>?_)
           refine goes_ Tryd.func61 (by kernel_rfl) rfl #[.pointer (some ⟨g,0,none⟩),.pointer (some ⟨gb,0,none⟩),.int .i64 d] (by rfl) rfl rfl (by(try simp only [List.map_toArray,List.map_cons,List.map_nil]);first|done|rfl) ?_
           with_reducible refine(ih k (Nat.lt_succ_self k) c2 c3 d n1 _ w0 _ g gb HV.out.i HV.out.bel hG (Nat.le_trans hB.out.size HV.out.ge) HV.out.ne HV.out.blk hX.out).mono ?_
           rintro e_ w_ ⟨he_,v,hbk,hVV,hi,hb,hk⟩
           dsimp only at he_ hbk hVV hi
           obtain⟨vA,vc,rfl⟩:=Kd.V_slice hVV
           subst he_
           refine⟨_,rfl,?_⟩
           have HR:=Aside0.mk (HV.out.row hI.out.lt hVV)
           have HV3:=Aside0.mk (HV.out.co hbk hi hb hk)
           clear HV hbk hVV hi hb hk
           have HV:=HV3
           clear HV3
           refine hK.out _ _ trivial (fun hHeld=>?_)
           clear hK K
           refine nw ?_
           refine pu 7 61 #[T,T,T,T,T,T,T,T,F,F,F,F,F,F,F,F,F,F,F,F,F] ?_
           refine pu 8 62 #[T,T,T,T,T,T,T,T,T,F,F,F,F,F,F,F,F,F,F,F,F] ?_
           refine pu 9 63 #[T,T,T,T,T,T,T,T,T,T,F,F,F,F,F,F,F,F,F,F,F] ?_
           refine po 10 64 #[T,T,T,T,T,T,T,T,T,T,T,F,F,F,F,F,F,F,F,F,F] ?_
           refine po 11 65 #[T,T,T,T,T,T,T,T,T,T,T,T,F,F,F,F,F,F,F,F,F] ?_
           refine po 12 66 #[T,T,T,T,T,T,T,T,T,T,T,T,T,F,F,F,F,F,F,F,F] ?_
           refine pu 13 67 #[T,T,T,T,T,T,T,T,T,T,T,T,T,T,F,F,F,F,F,F,F] ?_
           refine pu 14 68 #[T,T,T,T,T,T,T,T,T,T,T,T,T,T,T,F,F,F,F,F,F] ?_
           refine po 15 69 #[T,T,T,T,T,T,T,T,T,T,T,T,T,T,T,T,F,F,F,F,F] ?_
           refine po 16 70 #[T,T,T,T,T,T,T,T,T,T,T,T,T,T,T,T,T,F,F,F,F] ?_
           refine po 17 71 #[T,T,T,T,T,T,T,T,T,T,T,T,T,T,T,T,T,T,F,F,F] ?_
           refine po 18 72 #[T,T,T,T,T,T,T,T,T,T,T,T,T,T,T,T,T,T,T,F,F] ?_
           refine po 19 73 #[T,T,T,T,T,T,T,T,T,T,T,T,T,T,T,T,T,T,T,T,F] ?_
           refine pu 20 74 #[T,T,T,T,T,T,T,T,T,T,T,T,T,T,T,T,T,T,T,T,T] ?_
           refine done_ (by kernel_rfl) ?_
           go_wp2
           go_step3
           exact⟨rfl,_,_,_,_,_,_,_,_,_,_,_,_,_,_,_,_,_,_,_,_,_,_,_,_,_,_,_,_,_,_,_,_,_,_,_,_,_,_,_,_,_,_,_,_,_,_,_,_,_,_,_,_,_,_,_,_,_,_,_,_,_,_,_,_,_,_,_,_,_,_,_,_,_,_,_,_,_,_,_,_,_,_,_,_,_,_,rfl,xml_el.c,rfl⟩
          | true=>
           rw [if_pos rfl] at h
           unfold xml_el.out at h
           obtain⟨y,hy,h⟩:=bndO h
           obtain⟨y1,y2,y3⟩:=y
           have hY:=Aside0.mk hy
           clear hy
           dsimp only at h
           cases y1 with
           | false=>
            rw [if_neg Bool.false_ne_true] at h
            obtain rfl:=Option.some.inj h
            refine start_ (n:=21) (S:=fun _=>True) (ds:=[]) #[F,F,F,F,F,F,F,F,F,F,F,F,F,F,F,F,F,F,F,F,F] (by kernel_rfl) rfl rfl trivial (fun _=>?_)
            refine pu 0 54 #[T,F,F,F,F,F,F,F,F,F,F,F,F,F,F,F,F,F,F,F,F] ?_
            refine one_ (i:=1) (N:=some 55) #[T,T,F,F,F,F,F,F,F,F,F,F,F,F,F,F,F,F,F,F,F] rfl rfl (by kernel_rfl) (by decide) (fun K hK=>?_)
            refine goes_ Tryd.func58 (by kernel_rfl) rfl #[.pointer (some ⟨g,0,none⟩),.string (⟨#[62]⟩ : ByteArray)] (by rfl) rfl rfl (by(try simp only [List.map_toArray,List.map_cons,List.map_nil]);first|done|rfl) ?_
            with_reducible refine(xml_reader_eat.calls g b2 b3 (⟨#[62]⟩ : ByteArray) true c2 c3 w0 _ ?s1 ?s2 hCe.out).mono ?_
            case s1=>exact xml_el.ci
            case s2=>exact xml_el.cb
            rintro e_ w_ ⟨rfl,hi,hb,hk⟩
            refine⟨_,rfl,?_⟩
            have HV3:=Aside0.mk (xml_el.Inv.call xml_el.c hi hb hk)
            clear HV hi hb hk
            have HV:=HV3
            clear HV3
            refine hK.out _ _ trivial (fun hHeld=>?_)
            clear hK K
            refine nw ?_
            refine pu 2 56 #[T,T,T,F,F,F,F,F,F,F,F,F,F,F,F,F,F,F,F,F,F] ?_
            refine pu 3 57 #[T,T,T,T,F,F,F,F,F,F,F,F,F,F,F,F,F,F,F,F,F] ?_
            refine pu 4 58 #[T,T,T,T,T,F,F,F,F,F,F,F,F,F,F,F,F,F,F,F,F] ?_
            refine pu 5 59 #[T,T,T,T,T,T,F,F,F,F,F,F,F,F,F,F,F,F,F,F,F] ?_
            refine one_ (i:=6) (N:=some 60) #[T,T,T,T,T,T,T,F,F,F,F,F,F,F,F,F,F,F,F,F,F] rfl rfl (by kernel_rfl) (by decide) (fun K hK=>?_)
            refine goes_ Tryd.func61 (by kernel_rfl) rfl #[.pointer (some ⟨g,0,none⟩),.pointer (some ⟨gb,0,none⟩),.int .i64 d] (by rfl) rfl rfl (by(try simp only [List.map_toArray,List.map_cons,List.map_nil]);first|done|rfl) ?_
            with_reducible refine(ih k (Nat.lt_succ_self k) c2 c3 d n1 _ w0 _ g gb HV.out.i HV.out.bel hG (Nat.le_trans hB.out.size HV.out.ge) HV.out.ne HV.out.blk hX.out).mono ?_
            rintro e_ w_ ⟨he_,v,hbk,hVV,hi,hb,hk⟩
            dsimp only at he_ hbk hVV hi
            obtain⟨vA,vc,rfl⟩:=Kd.V_slice hVV
            subst he_
            refine⟨_,rfl,?_⟩
            have HR:=Aside0.mk (HV.out.row hI.out.lt hVV)
            have HV3:=Aside0.mk (HV.out.co hbk hi hb hk)
            clear HV hbk hVV hi hb hk
            have HV:=HV3
            clear HV3
            refine hK.out _ _ trivial (fun hHeld=>?_)
            clear hK K
            refine nw ?_
            refine pu 7 61 #[T,T,T,T,T,T,T,T,F,F,F,F,F,F,F,F,F,F,F,F,F] ?_
            refine pu 8 62 #[T,T,T,T,T,T,T,T,T,F,F,F,F,F,F,F,F,F,F,F,F] ?_
            refine pu 9 63 #[T,T,T,T,T,T,T,T,T,T,F,F,F,F,F,F,F,F,F,F,F] ?_
            refine pu 10 64 #[T,T,T,T,T,T,T,T,T,T,T,F,F,F,F,F,F,F,F,F,F] ?_
            refine one_ (i:=11) (N:=some 65) #[T,T,T,T,T,T,T,T,T,T,T,T,F,F,F,F,F,F,F,F,F] rfl rfl (by kernel_rfl) (by decide) (fun K hK=>?_)
            refine goes_ Tryd.func58 (by kernel_rfl) rfl #[.pointer (some ⟨g,0,none⟩),.string (⟨#[60,47]⟩ : ByteArray)] (by rfl) rfl rfl (by(try simp only [List.map_toArray,List.map_cons,List.map_nil]);first|done|rfl) ?_
            with_reducible refine(xml_reader_eat.calls g x4 x5 (⟨#[60,47]⟩ : ByteArray) false y2 y3 w0 _ ?s1 ?s2 hY.out).mono ?_
            case s1=>exact xml_el.ci
            case s2=>exact xml_el.cb
            rintro e_ w_ ⟨rfl,hi,hb,hk⟩
            refine⟨_,rfl,?_⟩
            have HR2:=Aside0.mk (Kd.V_keep xml_el.hr hk (fun k_ (h_:w.heap.size≤k_∧k_≠g∧k_≠gb)=>h_.2.1))
            have HV3:=Aside0.mk (xml_el.Inv.call xml_el.c hi hb hk)
            clear HV hi hb hk
            have HV:=HV3
            clear HV3
            clear HR
            have HR:=HR2
            clear HR2
            refine hK.out _ _ trivial (fun hHeld=>?_)
            clear hK K
            refine nw ?_
            refine pu 12 66 #[T,T,T,T,T,T,T,T,T,T,T,T,T,F,F,F,F,F,F,F,F] ?_
            refine pu 13 67 #[T,T,T,T,T,T,T,T,T,T,T,T,T,T,F,F,F,F,F,F,F] ?_
            refine pu 14 68 #[T,T,T,T,T,T,T,T,T,T,T,T,T,T,T,F,F,F,F,F,F] ?_
            refine po 15 69 #[T,T,T,T,T,T,T,T,T,T,T,T,T,T,T,T,F,F,F,F,F] ?_
            refine po 16 70 #[T,T,T,T,T,T,T,T,T,T,T,T,T,T,T,T,T,F,F,F,F] ?_
            refine po 17 71 #[T,T,T,T,T,T,T,T,T,T,T,T,T,T,T,T,T,T,F,F,F] ?_
            refine po 18 72 #[T,T,T,T,T,T,T,T,T,T,T,T,T,T,T,T,T,T,T,F,F] ?_
            refine po 19 73 #[T,T,T,T,T,T,T,T,T,T,T,T,T,T,T,T,T,T,T,T,F] ?_
            refine pu 20 74 #[T,T,T,T,T,T,T,T,T,T,T,T,T,T,T,T,T,T,T,T,T] ?_
            refine done_ (by kernel_rfl) ?_
            go_wp2
            go_step3
            exact⟨rfl,_,_,_,_,_,_,_,_,_,_,_,_,_,_,_,_,_,_,_,_,_,_,_,_,_,_,_,_,_,_,_,_,_,_,_,_,_,_,_,_,_,_,_,_,_,_,_,_,_,_,_,_,_,_,_,_,_,_,_,_,_,_,_,_,_,_,_,_,_,_,_,_,_,_,_,_,_,_,_,_,_,_,_,_,_,_,rfl,xml_el.c,rfl⟩
           | true=>
            rw [if_pos rfl] at h
            obtain⟨z,hz,h⟩:=bndO h
            obtain⟨z1,z2,z3⟩:=z
            have hZz:=Aside0.mk hz
            clear hz
            dsimp only at h
            rcases itO h with⟨e9,h⟩|⟨e9,h⟩
            case inr=>
             have f1:(z1.toList != n1.toList)=true:=bne_iff_ne.mpr e9
             have f2:(z1.toList == n1.toList)=false:=beq_eq_false_iff_ne.mpr e9
             clear e9
             obtain rfl:=Option.some.inj h
             refine start_ (n:=21) (S:=fun _=>True) (ds:=[]) #[F,F,F,F,F,F,F,F,F,F,F,F,F,F,F,F,F,F,F,F,F] (by kernel_rfl) rfl rfl trivial (fun _=>?_)
             refine pu 0 54 #[T,F,F,F,F,F,F,F,F,F,F,F,F,F,F,F,F,F,F,F,F] ?_
             refine one_ (i:=1) (N:=some 55) #[T,T,F,F,F,F,F,F,F,F,F,F,F,F,F,F,F,F,F,F,F] rfl rfl (by kernel_rfl) (by decide) (fun K hK=>?_)
             refine goes_ Tryd.func58 (by kernel_rfl) rfl #[.pointer (some ⟨g,0,none⟩),.string (⟨#[62]⟩ : ByteArray)] (by rfl) rfl rfl (by(try simp only [List.map_toArray,List.map_cons,List.map_nil]);first|done|rfl) ?_
             with_reducible refine(xml_reader_eat.calls g b2 b3 (⟨#[62]⟩ : ByteArray) true c2 c3 w0 _ ?s1 ?s2 hCe.out).mono ?_
             case s1=>exact xml_el.ci
             case s2=>exact xml_el.cb
             rintro e_ w_ ⟨rfl,hi,hb,hk⟩
             refine⟨_,rfl,?_⟩
             have HV3:=Aside0.mk (xml_el.Inv.call xml_el.c hi hb hk)
             clear HV hi hb hk
             have HV:=HV3
             clear HV3
             refine hK.out _ _ trivial (fun hHeld=>?_)
             clear hK K
             refine nw ?_
             refine pu 2 56 #[T,T,T,F,F,F,F,F,F,F,F,F,F,F,F,F,F,F,F,F,F] ?_
             refine pu 3 57 #[T,T,T,T,F,F,F,F,F,F,F,F,F,F,F,F,F,F,F,F,F] ?_
             refine pu 4 58 #[T,T,T,T,T,F,F,F,F,F,F,F,F,F,F,F,F,F,F,F,F] ?_
             refine pu 5 59 #[T,T,T,T,T,T,F,F,F,F,F,F,F,F,F,F,F,F,F,F,F] ?_
             refine one_ (i:=6) (N:=some 60) #[T,T,T,T,T,T,T,F,F,F,F,F,F,F,F,F,F,F,F,F,F] rfl rfl (by kernel_rfl) (by decide) (fun K hK=>?_)
             refine goes_ Tryd.func61 (by kernel_rfl) rfl #[.pointer (some ⟨g,0,none⟩),.pointer (some ⟨gb,0,none⟩),.int .i64 d] (by rfl) rfl rfl (by(try simp only [List.map_toArray,List.map_cons,List.map_nil]);first|done|rfl) ?_
             with_reducible refine(ih k (Nat.lt_succ_self k) c2 c3 d n1 _ w0 _ g gb HV.out.i HV.out.bel hG (Nat.le_trans hB.out.size HV.out.ge) HV.out.ne HV.out.blk hX.out).mono ?_
             rintro e_ w_ ⟨he_,v,hbk,hVV,hi,hb,hk⟩
             dsimp only at he_ hbk hVV hi
             obtain⟨vA,vc,rfl⟩:=Kd.V_slice hVV
             subst he_
             refine⟨_,rfl,?_⟩
             have HR:=Aside0.mk (HV.out.row hI.out.lt hVV)
             have HV3:=Aside0.mk (HV.out.co hbk hi hb hk)
             clear HV hbk hVV hi hb hk
             have HV:=HV3
             clear HV3
             refine hK.out _ _ trivial (fun hHeld=>?_)
             clear hK K
             refine nw ?_
             refine pu 7 61 #[T,T,T,T,T,T,T,T,F,F,F,F,F,F,F,F,F,F,F,F,F] ?_
             refine pu 8 62 #[T,T,T,T,T,T,T,T,T,F,F,F,F,F,F,F,F,F,F,F,F] ?_
             refine pu 9 63 #[T,T,T,T,T,T,T,T,T,T,F,F,F,F,F,F,F,F,F,F,F] ?_
             refine pu 10 64 #[T,T,T,T,T,T,T,T,T,T,T,F,F,F,F,F,F,F,F,F,F] ?_
             refine one_ (i:=11) (N:=some 65) #[T,T,T,T,T,T,T,T,T,T,T,T,F,F,F,F,F,F,F,F,F] rfl rfl (by kernel_rfl) (by decide) (fun K hK=>?_)
             refine goes_ Tryd.func58 (by kernel_rfl) rfl #[.pointer (some ⟨g,0,none⟩),.string (⟨#[60,47]⟩ : ByteArray)] (by rfl) rfl rfl (by(try simp only [List.map_toArray,List.map_cons,List.map_nil]);first|done|rfl) ?_
             with_reducible refine(xml_reader_eat.calls g x4 x5 (⟨#[60,47]⟩ : ByteArray) true y2 y3 w0 _ ?s1 ?s2 hY.out).mono ?_
             case s1=>exact xml_el.ci
             case s2=>exact xml_el.cb
             rintro e_ w_ ⟨rfl,hi,hb,hk⟩
             refine⟨_,rfl,?_⟩
             have HR2:=Aside0.mk (Kd.V_keep xml_el.hr hk (fun k_ (h_:w.heap.size≤k_∧k_≠g∧k_≠gb)=>h_.2.1))
             have HV3:=Aside0.mk (xml_el.Inv.call xml_el.c hi hb hk)
             clear HV hi hb hk
             have HV:=HV3
             clear HV3
             clear HR
             have HR:=HR2
             clear HR2
             refine hK.out _ _ trivial (fun hHeld=>?_)
             clear hK K
             refine nw ?_
             refine pu 12 66 #[T,T,T,T,T,T,T,T,T,T,T,T,T,F,F,F,F,F,F,F,F] ?_
             refine pu 13 67 #[T,T,T,T,T,T,T,T,T,T,T,T,T,T,F,F,F,F,F,F,F] ?_
             refine pu 14 68 #[T,T,T,T,T,T,T,T,T,T,T,T,T,T,T,F,F,F,F,F,F] ?_
             refine pu 15 69 #[T,T,T,T,T,T,T,T,T,T,T,T,T,T,T,T,F,F,F,F,F] ?_
             refine pu 17 71 #[T,T,T,T,T,T,T,T,T,T,T,T,T,T,T,T,F,T,F,F,F] ?_
             have hHeld:(fun w':World=>w'.cell? ⟨gb,0,none⟩=some (.string n1)) w_:=(blk_cell HV.out.blk 0).trans rfl
             refine xml_el.strong (S:=fun w'=>w'.cell? ⟨gb,0,none⟩=some (.string n1)) _ _ _ _ ?_
             refine tk 18 72 #[T,T,T,T,T,T,T,T,T,T,T,T,T,T,T,T,F,T,T,F,F] hHeld ?_
             refine one_ (i:=16) (N:=some 70) #[T,T,T,T,T,T,T,T,T,T,T,T,T,T,T,T,T,T,T,F,F] rfl rfl (by kernel_rfl) (by decide) (fun K hK=>?_)
             refine goes_ Tryd.func59 (by kernel_rfl) rfl #[.pointer (some ⟨g,0,none⟩)] (by rfl) rfl rfl (by(try simp only [List.map_toArray,List.map_cons,List.map_nil]);first|done|rfl) ?_
             with_reducible refine(xml_reader_name.calls k g y2 y3 z1 z2 z3 w0 _ ?s1 ?s2 hZz.out).mono ?_
             case s1=>exact xml_el.ci
             case s2=>exact xml_el.cb
             rintro e_ w_ ⟨rfl,hi,hb,hk⟩
             refine⟨_,rfl,?_⟩
             have HR2:=Aside0.mk (Kd.V_keep xml_el.hr hk (fun k_ (h_:w.heap.size≤k_∧k_≠g∧k_≠gb)=>h_.2.1))
             have HV3:=Aside0.mk (xml_el.Inv.call xml_el.c hi hb hk)
             clear HV hi hb hk
             have HV:=HV3
             clear HV3
             clear HR
             have HR:=HR2
             clear HR2
             refine hK.out _ _ ((blk_cell HV.out.blk 0).trans rfl) (fun hHeld=>?_)
             clear hK K
             refine nw ?_
             refine pu 19 73 #[T,T,T,T,T,T,T,T,T,T,T,T,T,T,T,T,T,T,T,T,F] ?_
             refine pu 20 74 #[T,T,T,T,T,T,T,T,T,T,T,T,T,T,T,T,T,T,T,T,T] ?_
             refine done_ (by kernel_rfl) ?_
             go_wp2
             go_step3
             exact⟨rfl,_,_,_,_,_,_,_,_,_,_,_,_,_,_,_,_,_,_,_,_,_,_,_,_,_,_,_,_,_,_,_,_,_,_,_,_,_,_,_,_,_,_,_,_,_,_,_,_,_,_,_,_,_,_,_,_,_,_,_,_,_,_,_,_,_,_,_,_,_,_,_,_,_,_,_,_,_,_,_,_,_,_,_,_,_,_,rfl,xml_el.c,rfl⟩
            have f1:(z1.toList != n1.toList)=false:=bne_eq_false_iff_eq.mpr e9
            have f2:(z1.toList == n1.toList)=true:=beq_iff_eq.mpr e9
            clear e9
            obtain⟨u,hu,h⟩:=bndO h
            obtain⟨o1,o2,o3⟩:=u
            have hU:=Aside0.mk hu
            clear hu
            obtain⟨t,ht,h⟩:=bndO h
            obtain⟨t1,t2,t3⟩:=t
            have hT:=Aside0.mk ht
            clear ht
            dsimp only at h hT
            cases t1 with
            | false=>
             rw [if_neg Bool.false_ne_true] at h
             obtain rfl:=Option.some.inj h
             refine start_ (n:=21) (S:=fun _=>True) (ds:=[]) #[F,F,F,F,F,F,F,F,F,F,F,F,F,F,F,F,F,F,F,F,F] (by kernel_rfl) rfl rfl trivial (fun _=>?_)
             refine pu 0 54 #[T,F,F,F,F,F,F,F,F,F,F,F,F,F,F,F,F,F,F,F,F] ?_
             refine one_ (i:=1) (N:=some 55) #[T,T,F,F,F,F,F,F,F,F,F,F,F,F,F,F,F,F,F,F,F] rfl rfl (by kernel_rfl) (by decide) (fun K hK=>?_)
             refine goes_ Tryd.func58 (by kernel_rfl) rfl #[.pointer (some ⟨g,0,none⟩),.string (⟨#[62]⟩ : ByteArray)] (by rfl) rfl rfl (by(try simp only [List.map_toArray,List.map_cons,List.map_nil]);first|done|rfl) ?_
             with_reducible refine(xml_reader_eat.calls g b2 b3 (⟨#[62]⟩ : ByteArray) true c2 c3 w0 _ ?s1 ?s2 hCe.out).mono ?_
             case s1=>exact xml_el.ci
             case s2=>exact xml_el.cb
             rintro e_ w_ ⟨rfl,hi,hb,hk⟩
             refine⟨_,rfl,?_⟩
             have HV3:=Aside0.mk (xml_el.Inv.call xml_el.c hi hb hk)
             clear HV hi hb hk
             have HV:=HV3
             clear HV3
             refine hK.out _ _ trivial (fun hHeld=>?_)
             clear hK K
             refine nw ?_
             refine pu 2 56 #[T,T,T,F,F,F,F,F,F,F,F,F,F,F,F,F,F,F,F,F,F] ?_
             refine pu 3 57 #[T,T,T,T,F,F,F,F,F,F,F,F,F,F,F,F,F,F,F,F,F] ?_
             refine pu 4 58 #[T,T,T,T,T,F,F,F,F,F,F,F,F,F,F,F,F,F,F,F,F] ?_
             refine pu 5 59 #[T,T,T,T,T,T,F,F,F,F,F,F,F,F,F,F,F,F,F,F,F] ?_
             refine one_ (i:=6) (N:=some 60) #[T,T,T,T,T,T,T,F,F,F,F,F,F,F,F,F,F,F,F,F,F] rfl rfl (by kernel_rfl) (by decide) (fun K hK=>?_)
             refine goes_ Tryd.func61 (by kernel_rfl) rfl #[.pointer (some ⟨g,0,none⟩),.pointer (some ⟨gb,0,none⟩),.int .i64 d] (by rfl) rfl rfl (by(try simp only [List.map_toArray,List.map_cons,List.map_nil]);first|done|rfl) ?_
             with_reducible refine(ih k (Nat.lt_succ_self k) c2 c3 d n1 _ w0 _ g gb HV.out.i HV.out.bel hG (Nat.le_trans hB.out.size HV.out.ge) HV.out.ne HV.out.blk hX.out).mono ?_
             rintro e_ w_ ⟨he_,v,hbk,hVV,hi,hb,hk⟩
             dsimp only at he_ hbk hVV hi
             obtain⟨vA,vc,rfl⟩:=Kd.V_slice hVV
             subst he_
             refine⟨_,rfl,?_⟩
             have HR:=Aside0.mk (HV.out.row hI.out.lt hVV)
             have HV3:=Aside0.mk (HV.out.co hbk hi hb hk)
             clear HV hbk hVV hi hb hk
             have HV:=HV3
             clear HV3
             refine hK.out _ _ trivial (fun hHeld=>?_)
             clear hK K
             refine nw ?_
             refine pu 7 61 #[T,T,T,T,T,T,T,T,F,F,F,F,F,F,F,F,F,F,F,F,F] ?_
             refine pu 8 62 #[T,T,T,T,T,T,T,T,T,F,F,F,F,F,F,F,F,F,F,F,F] ?_
             refine pu 9 63 #[T,T,T,T,T,T,T,T,T,T,F,F,F,F,F,F,F,F,F,F,F] ?_
             refine pu 10 64 #[T,T,T,T,T,T,T,T,T,T,T,F,F,F,F,F,F,F,F,F,F] ?_
             refine one_ (i:=11) (N:=some 65) #[T,T,T,T,T,T,T,T,T,T,T,T,F,F,F,F,F,F,F,F,F] rfl rfl (by kernel_rfl) (by decide) (fun K hK=>?_)
             refine goes_ Tryd.func58 (by kernel_rfl) rfl #[.pointer (some ⟨g,0,none⟩),.string (⟨#[60,47]⟩ : ByteArray)] (by rfl) rfl rfl (by(try simp only [List.map_toArray,List.map_cons,List.map_nil]);first|done|rfl) ?_
             with_reducible refine(xml_reader_eat.calls g x4 x5 (⟨#[60,47]⟩ : ByteArray) true y2 y3 w0 _ ?s1 ?s2 hY.out).mono ?_
             case s1=>exact xml_el.ci
             case s2=>exact xml_el.cb
             rintro e_ w_ ⟨rfl,hi,hb,hk⟩
             refine⟨_,rfl,?_⟩
             have HR2:=Aside0.mk (Kd.V_keep xml_el.hr hk (fun k_ (h_:w.heap.size≤k_∧k_≠g∧k_≠gb)=>h_.2.1))
             have HV3:=Aside0.mk (xml_el.Inv.call xml_el.c hi hb hk)
             clear HV hi hb hk
             have HV:=HV3
             clear HV3
             clear HR
             have HR:=HR2
             clear HR2
             refine hK.out _ _ trivial (fun hHeld=>?_)
             clear hK K
             refine nw ?_
             refine pu 12 66 #[T,T,T,T,T,T,T,T,T,T,T,T,T,F,F,F,F,F,F,F,F] ?_
             refine pu 13 67 #[T,T,T,T,T,T,T,T,T,T,T,T,T,T,F,F,F,F,F,F,F] ?_
             refine pu 14 68 #[T,T,T,T,T,T,T,T,T,T,T,T,T,T,T,F,F,F,F,F,F] ?_
             refine pu 15 69 #[T,T,T,T,T,T,T,T,T,T,T,T,T,T,T,T,F,F,F,F,F] ?_
             refine pu 17 71 #[T,T,T,T,T,T,T,T,T,T,T,T,T,T,T,T,F,T,F,F,F] ?_
             have hHeld:(fun w':World=>w'.cell? ⟨gb,0,none⟩=some (.string n1)) w_:=(blk_cell HV.out.blk 0).trans rfl
             refine xml_el.strong (S:=fun w'=>w'.cell? ⟨gb,0,none⟩=some (.string n1)) _ _ _ _ ?_
             refine tk 18 72 #[T,T,T,T,T,T,T,T,T,T,T,T,T,T,T,T,F,T,T,F,F] hHeld ?_
             refine one_ (i:=16) (N:=some 70) #[T,T,T,T,T,T,T,T,T,T,T,T,T,T,T,T,T,T,T,F,F] rfl rfl (by kernel_rfl) (by decide) (fun K hK=>?_)
             refine goes_ Tryd.func59 (by kernel_rfl) rfl #[.pointer (some ⟨g,0,none⟩)] (by rfl) rfl rfl (by(try simp only [List.map_toArray,List.map_cons,List.map_nil]);first|done|rfl) ?_
             with_reducible refine(xml_reader_name.calls k g y2 y3 z1 z2 z3 w0 _ ?s1 ?s2 hZz.out).mono ?_
             case s1=>exact xml_el.ci
             case s2=>exact xml_el.cb
             rintro e_ w_ ⟨rfl,hi,hb,hk⟩
             refine⟨_,rfl,?_⟩
             have HR2:=Aside0.mk (Kd.V_keep xml_el.hr hk (fun k_ (h_:w.heap.size≤k_∧k_≠g∧k_≠gb)=>h_.2.1))
             have HV3:=Aside0.mk (xml_el.Inv.call xml_el.c hi hb hk)
             clear HV hi hb hk
             have HV:=HV3
             clear HV3
             clear HR
             have HR:=HR2
             clear HR2
             refine hK.out _ _ ((blk_cell HV.out.blk 0).trans rfl) (fun hHeld=>?_)
             clear hK K
             refine nw ?_
             refine pu 19 73 #[T,T,T,T,T,T,T,T,T,T,T,T,T,T,T,T,T,T,T,T,F] ?_
             refine pu 20 74 #[T,T,T,T,T,T,T,T,T,T,T,T,T,T,T,T,T,T,T,T,T] ?_
             refine done_ (by kernel_rfl) ?_
             go_wp2_with (first|(go_at_call 29;with_reducible refine(xml_reader_space.calls k g z2 z3 o1 o2 o3 w0 _ ?s1 ?s2 hU.out).mono ?_;(case s1=>exact xml_el.ci);(case s2=>exact xml_el.cb);rintro e_ w_ ⟨rfl,hi,hb,hk⟩;(first|replace HV:=Aside0.mk (xml_el.Inv.call HV.out hi hb hk)|replace HV:=Aside0.mk (xml_el.Inv.call (HV.out.drewN _) hi hb hk)|replace HV:=Aside0.mk (xml_el.Inv.call ((HV.out.drewN _).drewN _) hi hb hk)|replace HV:=Aside0.mk (xml_el.Inv.call HV.out.drew hi hb hk)|replace HV:=Aside0.mk (xml_el.Inv.call (HV.out.drewN _).drew hi hb hk));have HR2:=Aside0.mk (Kd.V_keep xml_el.hr hk (fun k_ (h_:w.heap.size≤k_∧k_≠g∧k_≠gb)=>h_.2.1));clear HR;have HR:=HR2;clear HR2;clear hi hb hk;obtain⟨hc0,hc1,hf0,hf1,hd0,hd1,hd2,he0,he1,he2,hne,hen⟩:=xml_el.Inv.all HV.out)|(go_at_call 58;with_reducible refine(xml_reader_eat.calls g o2 o3 (⟨#[62]⟩ : ByteArray) false t2 t3 w0 _ ?s1 ?s2 hT.out).mono ?_;(case s1=>exact xml_el.ci);(case s2=>exact xml_el.cb);rintro e_ w_ ⟨rfl,hi,hb,hk⟩;(first|replace HV:=Aside0.mk (xml_el.Inv.call HV.out hi hb hk)|replace HV:=Aside0.mk (xml_el.Inv.call (HV.out.drewN _) hi hb hk)|replace HV:=Aside0.mk (xml_el.Inv.call ((HV.out.drewN _).drewN _) hi hb hk)|replace HV:=Aside0.mk (xml_el.Inv.call HV.out.drew hi hb hk)|replace HV:=Aside0.mk (xml_el.Inv.call (HV.out.drewN _).drew hi hb hk));have HR2:=Aside0.mk (Kd.V_keep xml_el.hr hk (fun k_ (h_:w.heap.size≤k_∧k_≠g∧k_≠gb)=>h_.2.1));clear HR;have HR:=HR2;clear HR2;clear hi hb hk;obtain⟨hc0,hc1,hf0,hf1,hd0,hd1,hd2,he0,he1,he2,hne,hen⟩:=xml_el.Inv.all HV.out))
             go_step3
             exact⟨rfl,_,_,_,_,_,_,_,_,_,_,_,_,_,_,_,_,_,_,_,_,_,_,_,_,_,_,_,_,_,_,_,_,_,_,_,_,_,_,_,_,_,_,_,_,_,_,_,_,_,_,_,_,_,_,_,_,_,_,_,_,_,_,_,_,_,_,_,_,_,_,_,_,_,_,_,_,_,_,_,_,_,_,_,_,_,_,rfl,xml_el.c,rfl⟩
            | true=>
             rw [if_pos rfl] at h
             obtain rfl:=Option.some.inj h
             refine start_ (n:=21) (S:=fun _=>True) (ds:=[]) #[F,F,F,F,F,F,F,F,F,F,F,F,F,F,F,F,F,F,F,F,F] (by kernel_rfl) rfl rfl trivial (fun _=>?_)
             refine pu 0 54 #[T,F,F,F,F,F,F,F,F,F,F,F,F,F,F,F,F,F,F,F,F] ?_
             refine one_ (i:=1) (N:=some 55) #[T,T,F,F,F,F,F,F,F,F,F,F,F,F,F,F,F,F,F,F,F] rfl rfl (by kernel_rfl) (by decide) (fun K hK=>?_)
             refine goes_ Tryd.func58 (by kernel_rfl) rfl #[.pointer (some ⟨g,0,none⟩),.string (⟨#[62]⟩ : ByteArray)] (by rfl) rfl rfl (by(try simp only [List.map_toArray,List.map_cons,List.map_nil]);first|done|rfl) ?_
             with_reducible refine(xml_reader_eat.calls g b2 b3 (⟨#[62]⟩ : ByteArray) true c2 c3 w0 _ ?s1 ?s2 hCe.out).mono ?_
             case s1=>exact xml_el.ci
             case s2=>exact xml_el.cb
             rintro e_ w_ ⟨rfl,hi,hb,hk⟩
             refine⟨_,rfl,?_⟩
             have HV3:=Aside0.mk (xml_el.Inv.call xml_el.c hi hb hk)
             clear HV hi hb hk
             have HV:=HV3
             clear HV3
             refine hK.out _ _ trivial (fun hHeld=>?_)
             clear hK K
             refine nw ?_
             refine pu 2 56 #[T,T,T,F,F,F,F,F,F,F,F,F,F,F,F,F,F,F,F,F,F] ?_
             refine pu 3 57 #[T,T,T,T,F,F,F,F,F,F,F,F,F,F,F,F,F,F,F,F,F] ?_
             refine pu 4 58 #[T,T,T,T,T,F,F,F,F,F,F,F,F,F,F,F,F,F,F,F,F] ?_
             refine pu 5 59 #[T,T,T,T,T,T,F,F,F,F,F,F,F,F,F,F,F,F,F,F,F] ?_
             refine one_ (i:=6) (N:=some 60) #[T,T,T,T,T,T,T,F,F,F,F,F,F,F,F,F,F,F,F,F,F] rfl rfl (by kernel_rfl) (by decide) (fun K hK=>?_)
             refine goes_ Tryd.func61 (by kernel_rfl) rfl #[.pointer (some ⟨g,0,none⟩),.pointer (some ⟨gb,0,none⟩),.int .i64 d] (by rfl) rfl rfl (by(try simp only [List.map_toArray,List.map_cons,List.map_nil]);first|done|rfl) ?_
             with_reducible refine(ih k (Nat.lt_succ_self k) c2 c3 d n1 _ w0 _ g gb HV.out.i HV.out.bel hG (Nat.le_trans hB.out.size HV.out.ge) HV.out.ne HV.out.blk hX.out).mono ?_
             rintro e_ w_ ⟨he_,v,hbk,hVV,hi,hb,hk⟩
             dsimp only at he_ hbk hVV hi
             obtain⟨vA,vc,rfl⟩:=Kd.V_slice hVV
             subst he_
             refine⟨_,rfl,?_⟩
             have HR:=Aside0.mk (HV.out.row hI.out.lt hVV)
             have HV3:=Aside0.mk (HV.out.co hbk hi hb hk)
             clear HV hbk hVV hi hb hk
             have HV:=HV3
             clear HV3
             refine hK.out _ _ trivial (fun hHeld=>?_)
             clear hK K
             refine nw ?_
             refine pu 7 61 #[T,T,T,T,T,T,T,T,F,F,F,F,F,F,F,F,F,F,F,F,F] ?_
             refine pu 8 62 #[T,T,T,T,T,T,T,T,T,F,F,F,F,F,F,F,F,F,F,F,F] ?_
             refine pu 9 63 #[T,T,T,T,T,T,T,T,T,T,F,F,F,F,F,F,F,F,F,F,F] ?_
             refine pu 10 64 #[T,T,T,T,T,T,T,T,T,T,T,F,F,F,F,F,F,F,F,F,F] ?_
             refine one_ (i:=11) (N:=some 65) #[T,T,T,T,T,T,T,T,T,T,T,T,F,F,F,F,F,F,F,F,F] rfl rfl (by kernel_rfl) (by decide) (fun K hK=>?_)
             refine goes_ Tryd.func58 (by kernel_rfl) rfl #[.pointer (some ⟨g,0,none⟩),.string (⟨#[60,47]⟩ : ByteArray)] (by rfl) rfl rfl (by(try simp only [List.map_toArray,List.map_cons,List.map_nil]);first|done|rfl) ?_
             with_reducible refine(xml_reader_eat.calls g x4 x5 (⟨#[60,47]⟩ : ByteArray) true y2 y3 w0 _ ?s1 ?s2 hY.out).mono ?_
             case s1=>exact xml_el.ci
             case s2=>exact xml_el.cb
             rintro e_ w_ ⟨rfl,hi,hb,hk⟩
             refine⟨_,rfl,?_⟩
             have HR2:=Aside0.mk (Kd.V_keep xml_el.hr hk (fun k_ (h_:w.heap.size≤k_∧k_≠g∧k_≠gb)=>h_.2.1))
             have HV3:=Aside0.mk (xml_el.Inv.call xml_el.c hi hb hk)
             clear HV hi hb hk
             have HV:=HV3
             clear HV3
             clear HR
             have HR:=HR2
             clear HR2
             refine hK.out _ _ trivial (fun hHeld=>?_)
             clear hK K
             refine nw ?_
             refine pu 12 66 #[T,T,T,T,T,T,T,T,T,T,T,T,T,F,F,F,F,F,F,F,F] ?_
             refine pu 13 67 #[T,T,T,T,T,T,T,T,T,T,T,T,T,T,F,F,F,F,F,F,F] ?_
             refine pu 14 68 #[T,T,T,T,T,T,T,T,T,T,T,T,T,T,T,F,F,F,F,F,F] ?_
             refine pu 15 69 #[T,T,T,T,T,T,T,T,T,T,T,T,T,T,T,T,F,F,F,F,F] ?_
             refine pu 17 71 #[T,T,T,T,T,T,T,T,T,T,T,T,T,T,T,T,F,T,F,F,F] ?_
             have hHeld:(fun w':World=>w'.cell? ⟨gb,0,none⟩=some (.string n1)) w_:=(blk_cell HV.out.blk 0).trans rfl
             refine xml_el.strong (S:=fun w'=>w'.cell? ⟨gb,0,none⟩=some (.string n1)) _ _ _ _ ?_
             refine tk 18 72 #[T,T,T,T,T,T,T,T,T,T,T,T,T,T,T,T,F,T,T,F,F] hHeld ?_
             refine one_ (i:=16) (N:=some 70) #[T,T,T,T,T,T,T,T,T,T,T,T,T,T,T,T,T,T,T,F,F] rfl rfl (by kernel_rfl) (by decide) (fun K hK=>?_)
             refine goes_ Tryd.func59 (by kernel_rfl) rfl #[.pointer (some ⟨g,0,none⟩)] (by rfl) rfl rfl (by(try simp only [List.map_toArray,List.map_cons,List.map_nil]);first|done|rfl) ?_
             with_reducible refine(xml_reader_name.calls k g y2 y3 z1 z2 z3 w0 _ ?s1 ?s2 hZz.out).mono ?_
             case s1=>exact xml_el.ci
             case s2=>exact xml_el.cb
             rintro e_ w_ ⟨rfl,hi,hb,hk⟩
             refine⟨_,rfl,?_⟩
             have HR2:=Aside0.mk (Kd.V_keep xml_el.hr hk (fun k_ (h_:w.heap.size≤k_∧k_≠g∧k_≠gb)=>h_.2.1))
             have HV3:=Aside0.mk (xml_el.Inv.call xml_el.c hi hb hk)
             clear HV hi hb hk
             have HV:=HV3
             clear HV3
             clear HR
             have HR:=HR2
             clear HR2
             refine hK.out _ _ ((blk_cell HV.out.blk 0).trans rfl) (fun hHeld=>?_)
             clear hK K
             refine nw ?_
             refine pu 19 73 #[T,T,T,T,T,T,T,T,T,T,T,T,T,T,T,T,T,T,T,T,F] ?_
             refine pu 20 74 #[T,T,T,T,T,T,T,T,T,T,T,T,T,T,T,T,T,T,T,T,T] ?_
             refine done_ (by kernel_rfl) ?_
             obtain⟨hc0,hc1,hf0,hf1,hd0,hd1,hd2,he0,he1,he2,hne,hen⟩:=xml_el.Inv.all HV.out
             go_wp2_with (first|(go_at_call 29;with_reducible refine(xml_reader_space.calls k g z2 z3 o1 o2 o3 w0 _ ?s1 ?s2 hU.out).mono ?_;(case s1=>exact xml_el.ci);(case s2=>exact xml_el.cb);rintro e_ w_ ⟨rfl,hi,hb,hk⟩;(first|replace HV:=Aside0.mk (xml_el.Inv.call HV.out hi hb hk)|replace HV:=Aside0.mk (xml_el.Inv.call (HV.out.drewN _) hi hb hk)|replace HV:=Aside0.mk (xml_el.Inv.call ((HV.out.drewN _).drewN _) hi hb hk)|replace HV:=Aside0.mk (xml_el.Inv.call HV.out.drew hi hb hk)|replace HV:=Aside0.mk (xml_el.Inv.call (HV.out.drewN _).drew hi hb hk));have HR2:=Aside0.mk (Kd.V_keep xml_el.hr hk (fun k_ (h_:w.heap.size≤k_∧k_≠g∧k_≠gb)=>h_.2.1));clear HR;have HR:=HR2;clear HR2;clear hi hb hk;obtain⟨hc0,hc1,hf0,hf1,hd0,hd1,hd2,he0,he1,he2,hne,hen⟩:=xml_el.Inv.all HV.out)|(go_at_call 58;with_reducible refine(xml_reader_eat.calls g o2 o3 (⟨#[62]⟩ : ByteArray) true t2 t3 w0 _ ?s1 ?s2 hT.out).mono ?_;(case s1=>exact xml_el.ci);(case s2=>exact xml_el.cb);rintro e_ w_ ⟨rfl,hi,hb,hk⟩;(first|replace HV:=Aside0.mk (xml_el.Inv.call HV.out hi hb hk)|replace HV:=Aside0.mk (xml_el.Inv.call (HV.out.drewN _) hi hb hk)|replace HV:=Aside0.mk (xml_el.Inv.call ((HV.out.drewN _).drewN _) hi hb hk)|replace HV:=Aside0.mk (xml_el.Inv.call HV.out.drew hi hb hk)|replace HV:=Aside0.mk (xml_el.Inv.call (HV.out.drewN _).drew hi hb hk));have HR2:=Aside0.mk (Kd.V_keep xml_el.hr hk (fun k_ (h_:w.heap.size≤k_∧k_≠g∧k_≠gb)=>h_.2.1));clear HR;have HR:=HR2;clear HR2;clear hi hb hk;obtain⟨hc0,hc1,hf0,hf1,hd0,hd1,hd2,he0,he1,he2,hne,hen⟩:=xml_el.Inv.all HV.out))
             try simp only [Exit.jump]
             have HZ:=((xml_el.Inv.put xml_el.c hB.out.size 0 (.string n1) rfl).put hB.out.size 1 (.string tx) rfl).put hB.out.size 2 (.slice vA kids.length vc) rfl
             refine bodyPost_ret (results_ct rfl _ _ gb 24 #[.string n1,.string tx,.slice vA kids.length vc] (0,0) _ rfl HZ.2.2.2.1 Tryd.underlying24 rfl (by kernel_rfl)) rfl ?_
             exact⟨.slice vA kids.length vc,rfl,xml_el.rowPut (by first|exact HR.out|exact Kd.V_drewN HR.out _) _ _ _,HZ.1,HZ.2.1,HZ.2.2.1⟩
end Go.Proofs.YtklcgncaclggcaaDoor.Q
