/- A part of the proof of the seat's laws. No condition beyond those in the theorems. -/
import Derived.Test.YtklcgncaclggcaaDoorV1

namespace Go.Proofs.YtklcgncaclggcaaDoorW.PrintMore
open Go.RowKit Go.Proofs.YtklcgncaclggcaaDoorW.PrintWords Go.Proofs.YtklcgncaclggcaaDoorW.PrintWords.Kd
set_option linter.unusedVariables false
set_option linter.unusedSimpArgs false
theorem itO {α:Type} {c:Prop} [Decidable c] {a b:Option α} {r:α} (h:(if c then a else b)=some r):(c∧a=some r)∨(¬ c∧b=some r):=by
  by_cases k:c
  · rw [if_pos k] at h;exact .inl ⟨k,h⟩
  · rw [if_neg k] at h;exact .inr ⟨k,h⟩
theorem itT {α:Type} {a b:Option α} {r:α} (h:(if true=true then a else b)=some r):a=some r:=h
theorem itF {α:Type} {a b:Option α} {r:α} (h:(if false=true then a else b)=some r):b=some r:=h
theorem bndO {α β:Type} {x:Option α} {f:α→Option β} {r:β} (h:x.bind f=some r):∃ a,x=some a∧f a=some r:=Option.bind_eq_some_iff.mp h
section
variable {P:Program}
theorem cut_to_max (t e:TypeId) (kh km:IntKind) {i:TypeInfo} (ht:P.underlying t=some (.slice e)) (hi:P.info? e=some i) (A:Option Addr) (n c:Nat) (j:Int) (h0:0≤j) (hm:j≤n) (hc:n≤c) :
    ∀ W:World,(Instr.slice t (.slice A n c) none (some (.int kh j)) (some (.int km j))).run P W = .ok (.slice A j.toNat j.toNat) W:=by
  intro W
  have hel:P.elem t=e:=by simp [Program.elem,ht]
  have hu:P.underlying t=some (.slice (P.elem t)):=by rw [hel];exact ht
  have ha:(A.map fun x=>x.add 0)=A:=by cases A <;> simp [Addr.add]
  rw [run_slice_hm W t A n c hu kh km j j h0 (by omega) (by omega),hel]
  simp [sizeOf,typeInfo,hi,sliced,Result.andThen,ha]
end
section
variable {P:Program} {ops:Array Oper} {Q:Exit→Act→World→Prop} {rest:List Oper} {a:Act} {W:World} {o:Oper} {α:Type}
theorem Kd.R_make0 (d:Kd α) {w0 W:World} (base e:Nat) (hgd:o.guard=none) {N:Tmp} (_hd:o.dst=some N) (t:TypeId) (x y:Operand) (ho:o.op = .makeSlice t x y) (n:Int) (hx:a.eval x = .int .i64 0) (hy:a.eval y = .int .i64 n)
    (ht:P.underlying t=some (.slice e)) (z:Value) (bytes:Nat) (hinfo:(P.info? e).map (fun i=>(i.zero,i.size,i.bytes))=some (some z,d.sz,bytes)) (hz:z.cells.size=d.sz) (hs0:0<d.sz) (hb0:0<bytes)
    (z0:α) {ok okp:Nat→Prop} (_hzero:d.M W base okp z0 z.cells.toList) (_hok:∀ k,okp k→ok k) (hfresh:ok W.heap.size) (h0:0≤n) (hl:n.toNat*bytes≤281474976710656) (HB:Below base w0 W) (hbase:base≤W.heap.size)
    (h:∀ v1 w1,d.R e w1 base ok v1 []→Below base w0 w1→W.grownBy w1 none→(∃ b,v1.ownBlock=some b∧W.heap.size≤b)→wpList P ops Q rest (a.put o.dst v1) w1):wpList P ops Q (o :: rest) a W:=by
  obtain⟨m,rfl⟩:=Int.eq_ofNat_of_zero_le h0
  simp only [Int.toNat_natCast] at hl
  obtain⟨i0,hi,hzz⟩:=Option.map_eq_some_iff.1 hinfo
  simp only [Prod.mk.injEq] at hzz
  obtain⟨hz0,hz1,hz2⟩:=hzz
  have hm:m≤281474976710656:=Nat.le_trans (Nat.le_mul_of_pos_right _ hb0) hl
  have hr:=run_make (P:=P) W t e i0 z ht hi hz0 .i64 .i64 (0:Int) (m:Int) (by omega) (by omega)
    (by
      have h3:((i0.bytes*m:Nat):Int)≤281474976710656:=by rw [hz2,Nat.mul_comm];omega
      rwa [Int.natCast_mul] at h3) (by omega)
  simp only [Int.toNat_natCast] at hr
  rw [hz1] at hr
  have hrun:(execOp a.eval o).run P W = .ok (.value (.slice (some ⟨W.heap.size,0,none⟩) 0 m)) (W.alloc (.cells (madeCells z.cells (m*d.sz)) e)):=by
    simp [execOp,ho,hx,hy,hr]
  refine event_run hgd hrun (h _ _ ⟨fun k hk=>?_,[],⟨by simp,.inr ⟨W.heap.size,m,madeCells z.cells (m*d.sz),rfl,hbase,?_,Nat.zero_le _,by simp only [maxLen];omega,by simp [size_madeCells],by simp⟩⟩,Reps.none _ _⟩ (HB.alloc hbase _) (World.grownBy_alloc W _ none) ⟨W.heap.size,by simp [Value.ownBlock],Nat.le_refl _⟩)
  · have:W.heap.size=k:=by simpa [Value.ownBlock] using hk
    subst this
    exact hfresh
  · show(W.heap.push (Obj.cells (madeCells z.cells (m*d.sz)) e (0,0)))[W.heap.size]? = _
    exact Array.getElem?_push_size
theorem bytes_foot (W:World) (e:TypeId) (s:ByteArray) (ok:Nat→Prop) (hok:ok W.heap.size) (hs:s.size≤140737488355328) :
    Kd.F (Kd.int .u8) (Lib.bytesWorld W e s) ok (some ⟨W.heap.size,0,none⟩) (bytesOf s).length (bytesOf s):=by
  intro W' hW
  have hb:=hW W.heap.size hok (by rw [Lib.bytesWorld_size];omega)
  have hr:=bytes_reads W e s (by omega)
  rw [← bytesOf_length] at hr
  refine Kd.C_of_reads (h1:=fun _=>rfl) (readsInt_of.1 ⟨hr.1,hr.2.1,fun hp=>?_⟩)
  obtain⟨ad,hA,hc⟩:=hr.2.2 hp
  obtain rfl:=Option.some.inj hA
  refine⟨_,rfl,fun j hj=>?_⟩
  have h2:=hc j hj
  rw [add_plain] at h2 ⊢
  rw [← h2]
  simp only [World.cell?,hb]
theorem Kd.V_bytes {w0 W:World} (base e:Nat) (hgd:o.guard=none) {N:Tmp} (_hd:o.dst=some N) (src dst:TypeId) (x:Operand) (ho:o.op = .convert src dst x) (s:ByteArray) (hx:a.eval x = .string s)
    (hs:P.underlying src=some .string) (hd:P.underlying dst=some (.slice e)) (he:P.underlying e=some (.int .u8)) {ok:Nat→Prop} (hfresh:ok W.heap.size) (hl:s.size≤140737488355328) (HB:Below base w0 W) (hbase:base≤W.heap.size)
    (h:∀ v1 w1,Kd.V (Kd.int .u8) e w1 base ok v1 (bytesOf s)→Below base w0 w1→W.grownBy w1 none→(∃ b,v1.ownBlock=some b∧W.heap.size≤b)→wpList P ops Q rest (a.put o.dst v1) w1):wpList P ops Q (o :: rest) a W:=by
  have hrun:(execOp a.eval o).run P W = .ok (.value (.slice (some ⟨W.heap.size,0,none⟩) s.size (grownCap W s.size 0 e))) (Lib.bytesWorld W e s):=by
    simp [execOp,ho,hx,print_bytes src dst e hs hd he s W]
  have hF:=bytes_foot W e s ok hfresh hl
  have hc:(bytesOf s).length≤grownCap W s.size 0 e:=by rw [bytesOf_length];exact grownCap_ge _ _ _ _
  refine Kd.event_run hgd hrun (h _ _ ?_ (bytes_below HB hbase e s) (grown_of_below (bytes_below (Below.refl _ _) (Nat.le_refl _) e s) none) ⟨W.heap.size,by simp [Value.ownBlock],Nat.le_refl _⟩)
  have hv:=Kd.V_mk (d:=Kd.int .u8) (e:=e) (base:=base) hc hF
  rw [bytesOf_length] at hv
  exact hv
end
end Go.Proofs.YtklcgncaclggcaaDoorW.PrintMore
