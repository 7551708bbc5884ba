/- A part of the proof of the seat's laws. No condition beyond those in the theorems. -/
import Derived.Test.YtfjidcmegacibaaDoorZXW
import Derived.Lib.FrozenHead2

namespace Go.Proofs.YtfjidcmegacibaaDoorW.PrintMore
open Go.RowKit Go.Proofs.YtfjidcmegacibaaDoorW.PrintWords Go.Proofs.YtfjidcmegacibaaDoorW.PrintWords.Kd
set_option linter.unusedVariables false
set_option linter.unusedSimpArgs false
def ByRow (W:World) (base:Nat) (e:TypeId) (v:Value) (xs:List Int):Prop:=
  ∃ g cap cur fz,v = .slice (some ⟨g,0,none⟩) xs.length cap∧base≤g∧W.heap[g]? = some (.cells cur e fz)∧cap≤fz.1∧xs.length≤cap∧cap≤maxLen∧cur.size=cap∧cur.toList.take xs.length=xs.map (Value.int .u8)
theorem ByRow.lower {W:World} {b b':Nat} {e:TypeId} {v:Value} {xs:List Int} (h:ByRow W b e v xs) (hb:b'≤b):ByRow W b' e v xs:=by
  obtain⟨g,cap,cur,fz,h1,h2,h3⟩:=h
  exact⟨g,cap,cur,fz,h1,Nat.le_trans hb h2,h3⟩
theorem run_storeCells_atZ (P:Program) (g o:Nat) (t:TypeId) (fz:Nat×Nat):∀ (vs:List Value) (i:Nat) (cur:Array Value) (w:World),w.heap[g]? = some (.cells cur t fz)→o+i+vs.length≤fz.1→o+i+vs.length≤cur.size→(∀ v∈vs,v.oneCell'=true) →
    (storeCells ⟨g,o,none⟩ vs i).run P w = .ok () (w.setRow g (cur.toList.take (o+i)++vs++cur.toList.drop (o+i+vs.length)).toArray)
  | [],i,cur,w,hg,_,_,_=>by
    simp only [storeCells,List.append_nil,List.length_nil,Nat.add_zero,List.take_append_drop,Array.toArray_toList]
    rw [setRow_self w g cur t fz hg]
    rfl
  | v :: rest,i,cur,w,hg,hfz,hl,h1=>by
    have hi:o+i<cur.size:=by simp at hl;omega
    have hadd:(⟨g,o,none⟩ : Addr).add i=⟨g,o+i,none⟩:=by unfold Addr.add;split <;> simp_all
    have hcell:w.cell? ⟨g,o+i,none⟩=some cur[o+i]:=by simp [World.cell?,hg,hi]
    have hfro:w.frozen? ⟨g,o+i,none⟩=false:=by
      obtain⟨lo,hi'⟩:=fz
      simp only [World.frozen?,hg,Bool.and_eq_false_iff,decide_eq_false_iff_not]
      left
      simp at hfz
      omega
    have hst:(store ((⟨g,o,none⟩ : Addr).add i) v).run P w = .ok () (w.setRow g (cur.setIfInBounds (o+i) v)):=by
      rw [hadd,run_store P w _ v _ (h1 v (by simp)),hcell]
      simp [hfro,setCell_eq_setRow w g (o+i) cur t fz v hg]
    have ih:=run_storeCells_atZ P g o t fz rest (i+1) (cur.setIfInBounds (o+i) v) (w.setRow g (cur.setIfInBounds (o+i) v)) (setRow_heap w g cur _ t _ hg) (by simp at hfz ⊢;omega) (by simp at hl ⊢;omega) (fun x hx=>h1 x (by simp [hx]))
    simp only [storeCells,Sem.run_bind,hst,Result.andThen_ok,ih,setRow_setRow]
    congr 3
    have e:=list_seg_step cur.toList (o+i) v rest (by simp at hl ⊢;omega)
    simpa [Array.toList_setIfInBounds,Nat.add_assoc] using e
theorem V_blk {W:World} {base e g cap:Nat} {cur:Array Value} {fz:Nat×Nat} {xs:List Int} {ok:Nat→Prop} (hg:W.heap[g]? = some (.cells cur e fz)) (hok:ok g) (hlt:g<W.heap.size) (hn:xs.length≤cap) (hm:xs.length≤9223372036854775807) (ht:cur.toList.take xs.length=xs.map (Value.int .u8)) :
    Kd.V (Kd.int .u8) e W base ok (.slice (some ⟨g,0,none⟩) xs.length cap) xs:=by
  refine⟨_,_,rfl,hn,fun W' hW=>?_⟩
  have hb:=hW g hok hlt
  refine Kd.C_of_reads (h1:=fun _=>rfl) (readsInt_of.1 ⟨rfl,hm,fun _=>⟨_,rfl,fun j hj=>?_⟩⟩)
  rw [add_plain]
  have h1:(cur.toList.take xs.length)[j]? = (xs.map (Value.int .u8))[j]?:=by rw [ht]
  rw [List.getElem?_take,if_pos hj,List.getElem?_map,List.getElem?_eq_getElem hj] at h1
  simp only [World.cell?,hb,hg]
  rw [List.getD_eq_getElem?_getD,List.getElem?_eq_getElem hj]
  simpa using h1
theorem bytes_row (W:World) (e:TypeId) (s:ByteArray) (base:Nat) (hb:base≤W.heap.size) (hs:s.size≤140737488355328) :
    ByRow (Lib.bytesWorld W e s) base e (.slice (some ⟨W.heap.size,0,none⟩) s.size (grownCap W s.size 0 e)) (bytesOf s):=by
  have hge:=grownCap_ge W s.size 0 e
  have hsz:(Lib.bytesCells W e s).size=grownCap W s.size 0 e:=by
    unfold Lib.bytesCells
    rw [Array.size_append,Array.size_map,Array.size_replicate]
    have:s.data.size=s.size:=rfl
    omega
  refine⟨W.heap.size,_,_,_,by rw [bytesOf_length],hb,Lib.bytesWorld_at_new W e s,by rw [hsz];exact Nat.le_refl _,by rw [bytesOf_length];exact hge,grownCap_le_maxLen W _ _ e (by simp only [maxLen];omega),hsz,?_⟩
  rw [bytesOf_length]
  unfold Lib.bytesCells bytesOf
  rw [Array.toList_append,List.take_append_of_le_length (by simp),List.take_of_length_le (by simp)]
  simp [List.map_map,Function.comp_def]
section
variable {P:Program} {ops:Array Oper} {Q:Exit→Act→World→Prop} {rest:List Oper} {a:Act} {o:Oper}
theorem Kd.V_bytesM {w0 W:World} (base e:Nat) (hgd:o.guard=none) {N:Tmp} (_hd:o.dst=some N) (src dst:TypeId) (x:Operand) (ho:o.op = .convert src dst x) (s:ByteArray) (hx:a.eval x = .string s)
    (hs:P.underlying src=some .string) (hd:P.underlying dst=some (.slice e)) (he:P.underlying e=some (.int .u8)) {ok:Nat→Prop} (hfresh:ok W.heap.size) (hl:s.size≤140737488355328) (HB:Below base w0 W) (hbase:base≤W.heap.size)
    (h:∀ v1 w1,Kd.V (Kd.int .u8) e w1 base ok v1 (bytesOf s)→Below base w0 w1→W.grownBy w1 none→ByRow w1 base e v1 (bytesOf s)→wpList P ops Q rest (a.put o.dst v1) w1):wpList P ops Q (o :: rest) a W:=by
  have hrun:(execOp a.eval o).run P W = .ok (.value (.slice (some ⟨W.heap.size,0,none⟩) s.size (grownCap W s.size 0 e))) (Lib.bytesWorld W e s):=by
    simp [execOp,ho,hx,print_bytes src dst e hs hd he s W]
  have hF:=bytes_foot W e s ok hfresh hl
  have hc:(bytesOf s).length≤grownCap W s.size 0 e:=by rw [bytesOf_length];exact grownCap_ge _ _ _ _
  refine Kd.event_run hgd hrun (h _ _ ?_ (bytes_below HB hbase e s) (grown_of_below (bytes_below (Below.refl _ _) (Nat.le_refl _) e s) none) (bytes_row W e s base hbase hl))
  have hv:=Kd.V_mk (d:=Kd.int .u8) (e:=e) (base:=base) hc hF
  rw [bytesOf_length] at hv
  exact hv
theorem Kd.V_append_mark {w0 W W0:World} (base:Nat) (hgd:o.guard=none) (s x:Operand) (t e:TypeId) (ho:o.op = .call { callee:=.builtin .append,args:=#[s,x],argTypes:=#[t,t]})
    (ht:P.underlying t=some (.slice e)) (hinfo:(P.info? e).map (fun i=>(i.zero,i.size,i.bytes))=some (some (.int .u8 0),1,1)) (v:Value) (xs ys:List Int) (A:Option Addr) (c:Nat) (hs:a.eval s=v) (hx:a.eval x = .slice A ys.length c)
    (hm:ByRow W0 base e v xs) (hW:W0.heap=W.heap) (hC:Kd.C (Kd.int .u8) W A ys.length ys) (hl:xs.length+ys.length≤140737488355328) (HB:Below base w0 W) (hbase:base≤W.heap.size) {ok:Nat→Prop} (hok:∀ k,base≤k→ok k)
    (h:∀ v1 w1,Kd.V (Kd.int .u8) e w1 base ok v1 (xs++ys)→Below base w0 w1→wpList P ops Q rest (a.put o.dst v1) w1):wpList P ops Q (o :: rest) a W:=by
  obtain⟨i0,hi,hzz⟩:=Option.map_eq_some_iff.1 hinfo
  simp only [Prod.mk.injEq] at hzz
  obtain⟨hz0,hz1,hz2⟩:=hzz
  obtain⟨g,cap,cur,fz,rfl,hbg,hg,hfz,hnc,hcm,hcs,htk⟩:=hm
  rw [hW] at hg
  have hlt:g<W.heap.size:=(Array.getElem?_eq_some_iff.1 hg).1
  have hlen:(xs++ys).length=xs.length+ys.length:=List.length_append
  have hr:=readsInt_of.2 (Kd.reads_of_C (enc:=Value.int .u8) (d:=(0:Int)) (h1:=fun _=>rfl) hC)
  have key:∃ v1 w1,(Builtin.append_ #[t,t] o.type #[.slice (some ⟨g,0,none⟩) xs.length cap,.slice A ys.length c]).run P W = .ok v1 w1∧Kd.V (Kd.int .u8) e w1 base ok v1 (xs++ys)∧Below base W w1:=by
    by_cases h0:ys.length=0
    · obtain rfl:=List.eq_nil_of_length_eq_zero h0
      refine⟨.slice (some ⟨g,0,none⟩) xs.length cap,W,?_,?_,Below.refl _ _⟩
      · have hf:(Builtin.firstCells 1 0 (.slice A 0 c)).run P W = .ok #[] W:=by
          cases A with
          | none=>exact run_firstCells_none (P:=P) W 1 0 0 c
          | some ad=>exact run_firstCells_some (P:=P) W 1 0 ad 0 c [] rfl (by simp)
        simp [Builtin.append_,run_underlying ht,sizeOf,typeInfo,hi,hz1,Builtin.lenOf,hnc,hf,storeCells]
      · rw [List.append_nil]
        exact V_blk hg (hok g hbg) hlt hnc (by omega) htk
    · obtain⟨ad,rfl,hcell⟩:=hr.2.2 (by omega)
      have hnews:∀ j u,(ys.map (Value.int .u8))[j]? = some u→W.cell? (ad.add j)=some u:=by
        intro j u hu
        rw [List.getElem?_map] at hu
        obtain⟨y,hy,rfl⟩:=Option.map_eq_some_iff.1 hu
        have hj:j<ys.length:=(List.getElem?_eq_some_iff.1 hy).1
        rw [hcell j hj,List.getD_eq_getElem?_getD,hy]
        rfl
      have hnl:(ys.map (Value.int .u8)).length=ys.length*i0.size:=by rw [hz1,List.length_map,Nat.mul_one]
      by_cases hroom:xs.length+ys.length≤cap
      · have hf:=run_firstCells_some (P:=P) W i0.size ys.length ad ys.length c _ hnl hnews
        have hst:=run_storeCells_atZ P g xs.length e fz (ys.map (Value.int .u8)) 0 cur W hg (by rw [List.length_map];omega) (by rw [List.length_map];omega) (by intro v hv;obtain⟨y,_,rfl⟩:=List.mem_map.1 hv;rfl)
        simp only [Nat.add_zero,List.length_map] at hst
        refine⟨.slice (some ⟨g,0,none⟩) (xs.length+ys.length) cap,W.setRow g (cur.toList.take xs.length++ys.map (Value.int .u8)++cur.toList.drop (xs.length+ys.length)).toArray,?_,?_,⟨rfl,rfl,rfl,by simp,fun k hk=>setRow_other W g k _ (fun e=>by omega)⟩⟩
        · rw [hz1] at hf
          simp [Builtin.append_,run_underlying ht,sizeOf,typeInfo,hi,hz1,Builtin.lenOf,hroom,hf,Addr.add_lit,hst]
        · rw [← hlen]
          refine V_blk (setRow_heap W g cur _ e _ hg) (hok g hbg) (by simpa using hlt) (by rw [hlen];exact hroom) (by rw [hlen];omega) ?_
          rw [htk,← List.map_append,show(xs++ys).length=((xs++ys).map (Value.int .u8)).length from by rw [List.length_map]]
          exact List.take_left
      · have holds:∀ j u,(xs.map (Value.int .u8))[j]? = some u→W.cell? ((⟨g,0,none⟩ : Addr).add j)=some u:=by
          intro j u hu
          have hj:j<xs.length:=by
            have:=(List.getElem?_eq_some_iff.1 hu).1
            rwa [List.length_map] at this
          rw [← htk,List.getElem?_take,if_pos hj] at hu
          rw [add_plain]
          simp only [World.cell?,hg]
          simpa using hu
        have hxl:(xs.map (Value.int .u8)).length=xs.length*i0.size:=by rw [hz1,List.length_map,Nat.mul_one]
        have hr2:=run_append_grow (P:=P) W t o.type e i0 (.int .u8 0) ht hi hz0 ⟨g,0,none⟩ xs.length cap _ hxl holds ad ys.length c _ hnl hnews (by omega) (by omega) (growslice_fits (by omega) (by rw [hz2];omega))
        have hge:=grownCap_ge W (xs.length+ys.length) cap e
        refine⟨_,_,hr2,?_,⟨rfl,rfl,rfl,by simp,fun k hk=>heap_alloc_old W.drew _ (by have:W.drew.heap.size=W.heap.size:=rfl;omega)⟩⟩
        rw [← hlen] at hge ⊢
        refine V_blk (heap_alloc_new W.drew _) (hok _ hbase) (by simp) hge (by rw [hlen];omega) ?_
        simp only [Array.toList_append,List.append_assoc]
        rw [← List.append_assoc,← List.map_append,show(xs++ys).length=((xs++ys).map (Value.int .u8)).length from by rw [List.length_map]]
        exact List.take_left
  obtain⟨v1,w1,hrun,hV,hBe⟩:=key
  refine wpList_plain hgd fun K hK=>?_
  unfold Oper.wp execOp
  simp only [ho,resolve,invoke,builtin,Sem.run_bind,Sem.run_pure,Result.andThen_ok,List.map_toArray,List.map_cons,List.map_nil,hs,hx,hrun]
  exact hK _ _ (h v1 w1 hV (HB.trans hBe))
end
end Go.Proofs.YtfjidcmegacibaaDoorW.PrintMore
