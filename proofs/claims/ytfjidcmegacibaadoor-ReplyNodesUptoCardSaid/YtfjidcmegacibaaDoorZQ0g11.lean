/- A part of the proof of the seat's laws. No condition beyond those in the theorems. -/
import Derived.Test.YtfjidcmegacibaaDoorProg
import Derived.Test.YtfjidcmegacibaaDoorZXW
import Derived.Below
import Derived.Deep.Draws
import Derived.Deep.AppendLies
import Derived.Maps.AppendAt
import Derived.OwnWalk
import Derived.Laws.BytesArg
import Derived.Laws.MakeOwn
import Derived.Laws.OwnMore
import Derived.Deep.OwnRows
import Derived.Tactics
import Derived.Lib.ConvBytes
import Derived.Laws.Slices
import Derived.WalkKit
import Derived.KernelRfl
import Derived.RowKit3
import Derived.Deep.LoopGhost
import Derived.Deep.QuietTactic
import Derived.BigQuiet
import Derived.WideLaws
import Derived.Deep.DeepCutAuto
import Derived.Deep.CutBlock
import Derived.Deep.RegionHeld3
import Derived.Laws.Rows
import Derived.Lib.AppendStr
import Derived.ArgAppend
import Derived.Laws.IdiomCopy
import Derived.OrdersHeld
import Derived.Laws.BitsLemmas
import Derived.RowKit
import Derived.Test.YtfjidcmegacibaaDoorV1
import Derived.Test.YtfjidcmegacibaaDoorZBase
import Derived.Lib.ItoaLen
import Derived.Test.YtfjidcmegacibaaDoorZSqzB

namespace Go.Proofs.YtfjidcmegacibaaDoor.Q
open Go.RowKit Go.Proofs.YtfjidcmegacibaaDoorW.PrintWords Go.Proofs.YtfjidcmegacibaaDoorW.PrintLast Go.Proofs.YtfjidcmegacibaaDoorW.PrintMore
set_option linter.unusedVariables false
set_option linter.unusedSimpArgs false
attribute [local go_sem] max2_int min2_int max_two min_two max_three min_three max_four min_four   
def errW:Option Int→Value
 | none=>.nilIface
 | some c=>.iface 0 (.int .i64 c)
theorem errW_none:errW none = .nilIface:=rfl
theorem errW_some (c:Int):errW (some c) = .iface 0 (.int .i64 c):=rfl
theorem info3:(Tryd.prog.info? 3).map (fun i=>(i.zero,i.size,i.bytes))=some (some (.int .i64 0),1,8):=by kernel_rfl
theorem info5:(Tryd.prog.info? 5).map (fun i=>(i.zero,i.size,i.bytes))=some (some (.int .u8 0),1,1):=by kernel_rfl
theorem info9:(Tryd.prog.info? 9).map (fun i=>(i.zero,i.size,i.bytes))=some (some (.string ⟨#[]⟩),1,16):=by kernel_rfl
theorem info48:(Tryd.prog.info? 48).map (fun i=>(i.zero,i.size,i.bytes))=some (some (.agg #[(.string ⟨#[]⟩),(.string ⟨#[]⟩),(.slice none 0 0)]),3,56):=by kernel_rfl
theorem info52:(Tryd.prog.info? 52).map (fun i=>(i.zero,i.size,i.bytes))=some (some (.agg #[(.string ⟨#[]⟩),(.string ⟨#[]⟩)]),2,32):=by kernel_rfl
theorem info116:(Tryd.prog.info? 116).map (fun i=>(i.zero,i.size,i.bytes))=some (some (.agg #[(.int .i64 0),(.int .i64 0)]),2,16):=by kernel_rfl
structure S52 where
 f0:ByteArray
 f1:ByteArray
def z52:S52:=⟨(⟨#[]⟩ : ByteArray),(⟨#[]⟩ : ByteArray)⟩
def k52:Kd S52:=Kd.iso (Kd.pair Kd.string Kd.string) (fun x:S52=>(x.f0,x.f1))
theorem k52_open {w:World} {x:S52} {cs:List Value} (h:k52.K w x cs):cs = [.string x.f0,.string x.f1]:=by
 obtain⟨_,_,rfl,rfl,rfl⟩:=h
 exact rfl
theorem k52_openM {w:World} {base:Nat} {ok:Nat→Prop} {x:S52} {cs:List Value} (h:k52.M w base ok x cs):cs = [.string x.f0,.string x.f1]:=by
 obtain⟨_,_,rfl,rfl,rfl⟩:=h
 exact rfl
theorem k52_mk (w:World) (x:S52)  : k52.K w x [.string x.f0,.string x.f1]:=⟨[.string x.f0],[.string x.f1],rfl,rfl,rfl⟩
theorem k52_mkM (w:World) (base:Nat) (ok:Nat→Prop) (x:S52)  : k52.M w base ok x [.string x.f0,.string x.f1]:=⟨[.string x.f0],[.string x.f1],rfl,rfl,rfl⟩
theorem k52_mkF (W:World) (ok:Nat→Prop) (x:S52):Kd.FK k52 W ok x [.string x.f0,.string x.f1]:=fun W2 _=>k52_mk W2 x
def rd_T52 (xs:List S52) (i:Int):S52:=xs.getD i.toNat z52
theorem at_T52 {w:World} {A:Option Addr} {n:Nat} {xs:List S52} (h:Kd.C k52 w A n xs) (i:Int) (h0:0≤i) (h1:i<n):∃ ad,A=some ad∧w.cell? (ad.add (i.toNat*2))=some (.string (rd_T52 xs i).f0)∧w.cell? ⟨(ad.add (i.toNat*2)).block,(ad.add (i.toNat*2)).off+1,none⟩=some (.string (rd_T52 xs i).f1):=by
 obtain⟨ad,c,e,_,hK,hc0⟩:=Kd.C_get h z52 i h0 h1
 have hc:∀ j u,c[j]? = some u→w.cell? (ad.add (i.toNat*2+j))=some u:=hc0
 obtain rfl:=k52_open hK
 exact⟨ad,e,hc 0 _ rfl,by rw [← add_field _ _ 1 (by omega)];exact hc 1 _ rfl⟩
structure S116 where
 f0:Int
 f1:Int
def z116:S116:=⟨(0:Int),(0:Int)⟩
def k116:Kd S116:=Kd.iso (Kd.pair (Kd.int .i64) (Kd.int .i64)) (fun x:S116=>(x.f0,x.f1))
theorem k116_open {w:World} {x:S116} {cs:List Value} (h:k116.K w x cs):cs = [.int .i64 x.f0,.int .i64 x.f1]:=by
 obtain⟨_,_,rfl,rfl,rfl⟩:=h
 exact rfl
theorem k116_openM {w:World} {base:Nat} {ok:Nat→Prop} {x:S116} {cs:List Value} (h:k116.M w base ok x cs):cs = [.int .i64 x.f0,.int .i64 x.f1]:=by
 obtain⟨_,_,rfl,rfl,rfl⟩:=h
 exact rfl
theorem k116_mk (w:World) (x:S116)  : k116.K w x [.int .i64 x.f0,.int .i64 x.f1]:=⟨[.int .i64 x.f0],[.int .i64 x.f1],rfl,rfl,rfl⟩
theorem k116_mkM (w:World) (base:Nat) (ok:Nat→Prop) (x:S116)  : k116.M w base ok x [.int .i64 x.f0,.int .i64 x.f1]:=⟨[.int .i64 x.f0],[.int .i64 x.f1],rfl,rfl,rfl⟩
theorem k116_mkF (W:World) (ok:Nat→Prop) (x:S116):Kd.FK k116 W ok x [.int .i64 x.f0,.int .i64 x.f1]:=fun W2 _=>k116_mk W2 x
def rd_T116 (xs:List S116) (i:Int):S116:=xs.getD i.toNat z116
theorem at_T116 {w:World} {A:Option Addr} {n:Nat} {xs:List S116} (h:Kd.C k116 w A n xs) (i:Int) (h0:0≤i) (h1:i<n):∃ ad,A=some ad∧w.cell? (ad.add (i.toNat*2))=some (.int .i64 (rd_T116 xs i).f0)∧w.cell? ⟨(ad.add (i.toNat*2)).block,(ad.add (i.toNat*2)).off+1,none⟩=some (.int .i64 (rd_T116 xs i).f1):=by
 obtain⟨ad,c,e,_,hK,hc0⟩:=Kd.C_get h z116 i h0 h1
 have hc:∀ j u,c[j]? = some u→w.cell? (ad.add (i.toNat*2+j))=some u:=hc0
 obtain rfl:=k116_open hK
 exact⟨ad,e,hc 0 _ rfl,by rw [← add_field _ _ 1 (by omega)];exact hc 1 _ rfl⟩
structure S42 where
 f0:ByteArray
 f1:ByteArray
 f2:(List S42)
def z42:S42:=⟨(⟨#[]⟩ : ByteArray),(⟨#[]⟩ : ByteArray),([]:List S42)⟩
def F42 (d:Kd S42):Kd S42:=Kd.iso (Kd.pair Kd.string (Kd.pair Kd.string (Kd.slice 42 d))) (fun x:S42=>(x.f0,x.f1,x.f2))
theorem mono42:Kd.Mono F42:=Kd.mono_iso _ (Kd.mono_pair (Kd.mono_const _) (Kd.mono_pair (Kd.mono_const _) (Kd.mono_slice 42 Kd.mono_id)))
theorem sub42:Kd.Sub F42 [42]:=Kd.sub_iso _ (Kd.sub_pair (Kd.sub_const _ (by decide)) (Kd.sub_pair (Kd.sub_const _ (by decide)) (Kd.sub_slice 42 (by decide) Kd.sub_id)))
theorem sz42:∀ n,(Kd.upto F42 3 [42] n).sz=3:=Kd.upto_sz (fun _=>rfl)
def k42:Kd S42:=Kd.fix F42 3 [42] sz42 (Kd.upto_E sub42)
theorem k42_open {w:World} {x:S42} {cs:List Value} (h:k42.K w x cs):∃ A2 c2,cs = [.string x.f0,.string x.f1,.slice A2 x.f2.length c2]∧x.f2.length≤c2∧k42.C w A2 x.f2.length x.f2:=by
 obtain⟨n,h⟩:=h
 cases n with
 | zero=>exact h.elim
 | succ n=>
  obtain⟨_,_,rfl,rfl,⟨_,_,rfl,rfl,⟨A2,c2,rfl,l2,g2⟩⟩⟩:=h
  exact⟨A2,c2,rfl,l2,Kd.fix_C g2⟩
theorem k42_openM {w:World} {base:Nat} {ok:Nat→Prop} {x:S42} {cs:List Value} (h:k42.M w base ok x cs):∃ v2,cs = [.string x.f0,.string x.f1,v2]∧k42.R 42 w base ok v2 x.f2:=by
 obtain⟨n,h⟩:=h
 cases n with
 | zero=>exact h.elim
 | succ n=>
  obtain⟨_,_,rfl,rfl,⟨_,_,rfl,rfl,⟨v2,rfl,g2⟩⟩⟩:=h
  exact⟨v2,rfl,Kd.fix_R g2⟩
theorem k42_mk (w:World) (x:S42) {A2:Option Addr} {c2:Nat} (l2:x.f2.length≤c2) (g2:k42.C w A2 x.f2.length x.f2):k42.K w x [.string x.f0,.string x.f1,.slice A2 x.f2.length c2]:=by
 obtain⟨n2,q2⟩:=Kd.fix_C_back mono42 g2
 have r2:=Kd.upto_C_le mono42 sz42 (show n2≤n2 by omega) q2
 exact⟨n2+1,⟨[.string x.f0],[.string x.f1,.slice A2 x.f2.length c2],rfl,rfl,⟨[.string x.f1],[.slice A2 x.f2.length c2],rfl,rfl,⟨A2,c2,rfl,l2,r2⟩⟩⟩⟩
theorem k42_mkM (w:World) (base:Nat) (ok:Nat→Prop) (x:S42) {v2:Value} (g2:k42.R 42 w base ok v2 x.f2):k42.M w base ok x [.string x.f0,.string x.f1,v2]:=by
 obtain⟨n2,q2⟩:=Kd.fix_R_back mono42 g2
 have r2:=Kd.upto_R_le mono42 sz42 (show n2≤n2 by omega) q2
 exact⟨n2+1,⟨[.string x.f0],[.string x.f1,v2],rfl,rfl,⟨[.string x.f1],[v2],rfl,rfl,⟨v2,rfl,r2⟩⟩⟩⟩
theorem k42_openF {W:World} {ok:Nat→Prop} {x:S42} {cs:List Value} (h:Kd.FK k42 W ok x cs):∃ A2 c2,cs = [.string x.f0,.string x.f1,.slice A2 x.f2.length c2]∧x.f2.length≤c2∧Kd.F k42 W ok A2 x.f2.length x.f2:=by
 obtain⟨A2,c2,rfl,l2,_⟩:=k42_open (Kd.FK_now h)
 exact⟨A2,c2,rfl,l2,(fun W' hW=>by obtain⟨A2_,c2_,he,l2_,g2_⟩:=k42_open (h W' hW);injection (Option.some.inj (show some (Value.slice A2 x.f2.length c2)=some (Value.slice A2_ x.f2.length c2_) from congrArg (fun l=>l[2]?) he)) with ha_ _ _;rw [ha_];exact g2_)⟩
theorem k42_mkF (W:World) (ok:Nat→Prop) (x:S42) {A2:Option Addr} {c2:Nat} (l2:x.f2.length≤c2) (g2:Kd.F k42 W ok A2 x.f2.length x.f2):Kd.FK k42 W ok x [.string x.f0,.string x.f1,.slice A2 x.f2.length c2]:=fun W2 hW=>k42_mk W2 x l2 (g2 W2 hW)
def rd_T42 (xs:List S42) (i:Int):S42:=xs.getD i.toNat z42
theorem at_T42 {w:World} {A:Option Addr} {n:Nat} {xs:List S42} (h:Kd.C k42 w A n xs) (i:Int) (h0:0≤i) (h1:i<n):∃ ad A2 c2,A=some ad∧w.cell? (ad.add (i.toNat*3))=some (.string (rd_T42 xs i).f0)∧w.cell? ⟨(ad.add (i.toNat*3)).block,(ad.add (i.toNat*3)).off+1,none⟩=some (.string (rd_T42 xs i).f1)∧w.cell? ⟨(ad.add (i.toNat*3)).block,(ad.add (i.toNat*3)).off+2,none⟩=some (.slice A2 (rd_T42 xs i).f2.length c2)∧(rd_T42 xs i).f2.length≤c2∧k42.C w A2 (rd_T42 xs i).f2.length (rd_T42 xs i).f2:=by
 obtain⟨ad,c,e,_,hK,hc0⟩:=Kd.C_get h z42 i h0 h1
 have hc:∀ j u,c[j]? = some u→w.cell? (ad.add (i.toNat*3+j))=some u:=hc0
 obtain⟨A2,c2,rfl,l2,g2⟩:=k42_open hK
 exact⟨ad,A2,c2,e,hc 0 _ rfl,by rw [← add_field _ _ 1 (by omega)];exact hc 1 _ rfl,by rw [← add_field _ _ 2 (by omega)];exact hc 2 _ rfl,l2,g2⟩
structure S48 where
 f0:ByteArray
 f1:ByteArray
 f2:(List S48)
def z48:S48:=⟨(⟨#[]⟩ : ByteArray),(⟨#[]⟩ : ByteArray),([]:List S48)⟩
def F48 (d:Kd S48):Kd S48:=Kd.iso (Kd.pair Kd.string (Kd.pair Kd.string (Kd.slice 48 d))) (fun x:S48=>(x.f0,x.f1,x.f2))
theorem mono48:Kd.Mono F48:=Kd.mono_iso _ (Kd.mono_pair (Kd.mono_const _) (Kd.mono_pair (Kd.mono_const _) (Kd.mono_slice 48 Kd.mono_id)))
theorem sub48:Kd.Sub F48 [48]:=Kd.sub_iso _ (Kd.sub_pair (Kd.sub_const _ (by decide)) (Kd.sub_pair (Kd.sub_const _ (by decide)) (Kd.sub_slice 48 (by decide) Kd.sub_id)))
theorem sz48:∀ n,(Kd.upto F48 3 [48] n).sz=3:=Kd.upto_sz (fun _=>rfl)
def k48:Kd S48:=Kd.fix F48 3 [48] sz48 (Kd.upto_E sub48)
theorem k48_open {w:World} {x:S48} {cs:List Value} (h:k48.K w x cs):∃ A2 c2,cs = [.string x.f0,.string x.f1,.slice A2 x.f2.length c2]∧x.f2.length≤c2∧k48.C w A2 x.f2.length x.f2:=by
 obtain⟨n,h⟩:=h
 cases n with
 | zero=>exact h.elim
 | succ n=>
  obtain⟨_,_,rfl,rfl,⟨_,_,rfl,rfl,⟨A2,c2,rfl,l2,g2⟩⟩⟩:=h
  exact⟨A2,c2,rfl,l2,Kd.fix_C g2⟩
theorem k48_openM {w:World} {base:Nat} {ok:Nat→Prop} {x:S48} {cs:List Value} (h:k48.M w base ok x cs):∃ v2,cs = [.string x.f0,.string x.f1,v2]∧k48.R 48 w base ok v2 x.f2:=by
 obtain⟨n,h⟩:=h
 cases n with
 | zero=>exact h.elim
 | succ n=>
  obtain⟨_,_,rfl,rfl,⟨_,_,rfl,rfl,⟨v2,rfl,g2⟩⟩⟩:=h
  exact⟨v2,rfl,Kd.fix_R g2⟩
theorem k48_mk (w:World) (x:S48) {A2:Option Addr} {c2:Nat} (l2:x.f2.length≤c2) (g2:k48.C w A2 x.f2.length x.f2):k48.K w x [.string x.f0,.string x.f1,.slice A2 x.f2.length c2]:=by
 obtain⟨n2,q2⟩:=Kd.fix_C_back mono48 g2
 have r2:=Kd.upto_C_le mono48 sz48 (show n2≤n2 by omega) q2
 exact⟨n2+1,⟨[.string x.f0],[.string x.f1,.slice A2 x.f2.length c2],rfl,rfl,⟨[.string x.f1],[.slice A2 x.f2.length c2],rfl,rfl,⟨A2,c2,rfl,l2,r2⟩⟩⟩⟩
theorem k48_mkM (w:World) (base:Nat) (ok:Nat→Prop) (x:S48) {v2:Value} (g2:k48.R 48 w base ok v2 x.f2):k48.M w base ok x [.string x.f0,.string x.f1,v2]:=by
 obtain⟨n2,q2⟩:=Kd.fix_R_back mono48 g2
 have r2:=Kd.upto_R_le mono48 sz48 (show n2≤n2 by omega) q2
 exact⟨n2+1,⟨[.string x.f0],[.string x.f1,v2],rfl,rfl,⟨[.string x.f1],[v2],rfl,rfl,⟨v2,rfl,r2⟩⟩⟩⟩
theorem k48_openF {W:World} {ok:Nat→Prop} {x:S48} {cs:List Value} (h:Kd.FK k48 W ok x cs):∃ A2 c2,cs = [.string x.f0,.string x.f1,.slice A2 x.f2.length c2]∧x.f2.length≤c2∧Kd.F k48 W ok A2 x.f2.length x.f2:=by
 obtain⟨A2,c2,rfl,l2,_⟩:=k48_open (Kd.FK_now h)
 exact⟨A2,c2,rfl,l2,(fun W' hW=>by obtain⟨A2_,c2_,he,l2_,g2_⟩:=k48_open (h W' hW);injection (Option.some.inj (show some (Value.slice A2 x.f2.length c2)=some (Value.slice A2_ x.f2.length c2_) from congrArg (fun l=>l[2]?) he)) with ha_ _ _;rw [ha_];exact g2_)⟩
theorem k48_mkF (W:World) (ok:Nat→Prop) (x:S48) {A2:Option Addr} {c2:Nat} (l2:x.f2.length≤c2) (g2:Kd.F k48 W ok A2 x.f2.length x.f2):Kd.FK k48 W ok x [.string x.f0,.string x.f1,.slice A2 x.f2.length c2]:=fun W2 hW=>k48_mk W2 x l2 (g2 W2 hW)
def rd_T48 (xs:List S48) (i:Int):S48:=xs.getD i.toNat z48
theorem at_T48 {w:World} {A:Option Addr} {n:Nat} {xs:List S48} (h:Kd.C k48 w A n xs) (i:Int) (h0:0≤i) (h1:i<n):∃ ad A2 c2,A=some ad∧w.cell? (ad.add (i.toNat*3))=some (.string (rd_T48 xs i).f0)∧w.cell? ⟨(ad.add (i.toNat*3)).block,(ad.add (i.toNat*3)).off+1,none⟩=some (.string (rd_T48 xs i).f1)∧w.cell? ⟨(ad.add (i.toNat*3)).block,(ad.add (i.toNat*3)).off+2,none⟩=some (.slice A2 (rd_T48 xs i).f2.length c2)∧(rd_T48 xs i).f2.length≤c2∧k48.C w A2 (rd_T48 xs i).f2.length (rd_T48 xs i).f2:=by
 obtain⟨ad,c,e,_,hK,hc0⟩:=Kd.C_get h z48 i h0 h1
 have hc:∀ j u,c[j]? = some u→w.cell? (ad.add (i.toNat*3+j))=some u:=hc0
 obtain⟨A2,c2,rfl,l2,g2⟩:=k48_open hK
 exact⟨ad,A2,c2,e,hc 0 _ rfl,by rw [← add_field _ _ 1 (by omega)];exact hc 1 _ rfl,by rw [← add_field _ _ 2 (by omega)];exact hc 2 _ rfl,l2,g2⟩
theorem eqA52 (d:Nat) (w:World) (x0 y0:ByteArray) (x1 y1:ByteArray) :
  (Op.equalIn (d+2) 52 (.agg #[.string x0,.string x1]) (.agg #[.string y0,.string y1])).run Tryd.prog w = .ok (x0.toList == y0.toList && (x1.toList == y1.toList)) w:=by
 refine eqA_of Tryd.underlying52 (by kernel_rfl) ?_
 refine eqf_cons (by rfl) (by go_simp;rfl) (by go_simp;rfl) (by go_simp) ?_
 exact eqf_last (by rfl) (by go_simp;rfl) (by go_simp;rfl) (by go_simp)
set_option maxHeartbeats 8000000
set_option maxRecDepth 100000
attribute [local go_sem high] eqA52
mutual
def stowageref26_Same.j0:Nat→Bool→Int→List (S52)→List Int→Int→List (S52)→List Int→Option (Bool)
 | 0,_,_,_,_,_,_,_=>none
 | k+1,x28,x102000,x102001,x102002,x103000,x103001,x103002=>if x28=true then(some false) else(stowageref26_Same.l0 k 0 x102000 x102001 x102002 x103000 x103001 x103002)
def stowageref26_Same.l0:Nat→Int→Int→List (S52)→List Int→Int→List (S52)→List Int→Option (Bool)
 | 0,_,_,_,_,_,_,_=>none
 | k+1,x5,x102000,x102001,x102002,x103000,x103001,x103002=>if x5<(x102001.length:Int) then(if 0≤x5 then(if x5<(x103001.length:Int) then(if(!((((rd_T52 x102001 x5).f0).toList) == (((rd_T52 x103001 x5).f0).toList)) || (!((((rd_T52 x102001 x5).f1).toList) == (((rd_T52 x103001 x5).f1).toList))))=true then(some false) else(stowageref26_Same.l0 k (wrap64 (x5+1)) x102000 x102001 x102002 x103000 x103001 x103002)) else(none)) else(none)) else(some true)
end
def stowageref26_Same.f (k:Nat) (a0_0:Int) (l0_1:List (S52)) (l0_2:List Int) (a1_0:Int) (l1_1:List (S52)) (l1_2:List Int):Option (Bool):=if a0_0=a1_0 then(if(l0_1.length:Int)=(l1_1.length:Int) then(stowageref26_Same.j0 k ((strOfNums l0_2).toList != (strOfNums l1_2).toList) a0_0 l0_1 l0_2 a1_0 l1_1 l1_2) else(stowageref26_Same.j0 k true a0_0 l0_1 l0_2 a1_0 l1_1 l1_2)) else(stowageref26_Same.j0 k true a0_0 l0_1 l0_2 a1_0 l1_1 l1_2)
theorem stowageref26_Same.mono_l:∀ k,(∀ y0 y1 y2 y3 y4 y5 y6,LeO (stowageref26_Same.j0 k y0 y1 y2 y3 y4 y5 y6) (stowageref26_Same.j0 (k+1) y0 y1 y2 y3 y4 y5 y6))∧(∀ y0 y1 y2 y3 y4 y5 y6,LeO (stowageref26_Same.l0 k y0 y1 y2 y3 y4 y5 y6) (stowageref26_Same.l0 (k+1) y0 y1 y2 y3 y4 y5 y6))
 | 0=>⟨fun _ _ _ _ _ _ _ r h=>by simp [stowageref26_Same.j0] at h,fun _ _ _ _ _ _ _ r h=>by simp [stowageref26_Same.l0] at h⟩
 | k+1=>by
  obtain⟨ih0,ih1⟩:=stowageref26_Same.mono_l k
  refine⟨?_,?_⟩
  ·intro y0 y1 y2 y3 y4 y5 y6
   unfold stowageref26_Same.j0
   repeat' first
   | (with_reducible exact ih0 _ _ _ _ _ _ _)
   | (with_reducible exact ih1 _ _ _ _ _ _ _)
   | (with_reducible exact LeO.refl _)
   | (with_reducible exact LeO.none _)
   | (with_reducible refine LeO.ite ?_ ?_)
   | (with_reducible refine LeO.bind ?_ (fun _=>?_))
   | exact ih0 _ _ _ _ _ _ _
   | exact ih1 _ _ _ _ _ _ _
   | exact LeO.none _
   | refine LeO.ite ?_ ?_
   | refine LeO.bind ?_ (fun _=>?_)
  ·intro y0 y1 y2 y3 y4 y5 y6
   unfold stowageref26_Same.l0
   repeat' first
   | (with_reducible exact ih0 _ _ _ _ _ _ _)
   | (with_reducible exact ih1 _ _ _ _ _ _ _)
   | (with_reducible exact LeO.refl _)
   | (with_reducible exact LeO.none _)
   | (with_reducible refine LeO.ite ?_ ?_)
   | (with_reducible refine LeO.bind ?_ (fun _=>?_))
   | exact ih0 _ _ _ _ _ _ _
   | exact ih1 _ _ _ _ _ _ _
   | exact LeO.none _
   | refine LeO.ite ?_ ?_
   | refine LeO.bind ?_ (fun _=>?_)
theorem stowageref26_Same.mono:∀ a0 a1 a2 a3 a4 a5 k,LeO (stowageref26_Same.f k a0 a1 a2 a3 a4 a5) (stowageref26_Same.f (k+1) a0 a1 a2 a3 a4 a5):=by
 intro a0 a1 a2 a3 a4 a5 k
 obtain⟨ih0,ih1⟩:=stowageref26_Same.mono_l k
 unfold stowageref26_Same.f
 repeat' first
   | (with_reducible exact ih0 _ _ _ _ _ _ _)
   | (with_reducible exact ih1 _ _ _ _ _ _ _)
   | (with_reducible exact LeO.refl _)
   | (with_reducible exact LeO.none _)
   | (with_reducible refine LeO.ite ?_ ?_)
   | (with_reducible refine LeO.bind ?_ (fun _=>?_))
   | exact ih0 _ _ _ _ _ _ _
   | exact ih1 _ _ _ _ _ _ _
   | exact LeO.none _
   | refine LeO.ite ?_ ?_
   | refine LeO.bind ?_ (fun _=>?_)
theorem stowageref26_Same.calls (k:Nat) (a0_0:Int) (A0_1:Option Addr) (c0_1:Nat) (l0_1:List (S52)) (A0_2:Option Addr) (c0_2:Nat) (l0_2:List Int) (a1_0:Int) (A1_1:Option Addr) (c1_1:Nat) (l1_1:List (S52)) (A1_2:Option Addr) (c1_2:Nat) (l1_2:List Int) (r:Bool) (w:World) (hr0_1:Kd.C k52 w A0_1 l0_1.length l0_1) (hc0_1:l0_1.length≤c0_1) (hr0_2:Kd.C (Kd.int .u8) w A0_2 l0_2.length l0_2) (hc0_2:l0_2.length≤c0_2) (hr1_1:Kd.C k52 w A1_1 l1_1.length l1_1) (hc1_1:l1_1.length≤c1_1) (hr1_2:Kd.C (Kd.int .u8) w A1_2 l1_2.length l1_2) (hc1_2:l1_2.length≤c1_2) (h:stowageref26_Same.f k a0_0 l0_1 l0_2 a1_0 l1_1 l1_2=some r) :
  Calls Tryd.prog 11 #[.agg #[.int .i64 a0_0,.slice A0_1 l0_1.length c0_1,.slice A0_2 l0_2.length c0_2],.agg #[.int .i64 a1_0,.slice A1_1 l1_1.length c1_1,.slice A1_2 l1_2.length c1_2]] w fun e w'=>e = .returned (.bool r)∧Below w.heap.size w w':=by
 have hu27:=Tryd.underlying27
 have hu52:=Tryd.underlying52
 have HR0_1:=Aside0.mk hr0_1
 have HC0_1:=Aside0.mk hc0_1
 clear hr0_1 hc0_1
 have HR0_2:=Aside0.mk hr0_2
 have HC0_2:=Aside0.mk hc0_2
 clear hr0_2 hc0_2
 have HR1_1:=Aside0.mk hr1_1
 have HC1_1:=Aside0.mk hc1_1
 clear hr1_1 hc1_1
 have HR1_2:=Aside0.mk hr1_2
 have HC1_2:=Aside0.mk hc1_2
 clear hr1_2 hc1_2
 have HB:=Aside0.mk (Below.refl w.heap.size w)
 unfold stowageref26_Same.f at h
 have H:=h
 clear h
 have HC3:=Aside0.mk H
 clear H
 go_enter Tryd.func11,Tryd.ntmps11
 go_upto_region 1 with(first|((with_reducible refine gate_dst (N:=2) rfl ?_);(try (refine gate_guard (by rfl) ?_;dsimp only));refine box_event ?hg (N:=2) ?hd (cs:=#[.int .i64 a0_0,.slice A0_1 l0_1.length c0_1,.slice A0_2 l0_2.length c0_2]) (t:=27) ?hr ?_;(case hd=>rfl);(case hg=>rfl);(case hr=>first|(go_simp;done)|(go_simp;rfl));intro gb101 hg w4 hbox hb;have n0_:=Aside0.mk (below_step (by repeat (first|(with_reducible first|exact HB.out|apply below_alloc|apply pw_below_drewN|apply below_drew1)|exact HB.out)) hb);have n1_:=Aside0.mk (hbox);have n2_:=Aside0.mk ((by rw [hg];exact(below_size (by repeat (first|(with_reducible first|exact HB.out|apply below_alloc|apply pw_below_drewN|apply below_drew1)|exact HB.out))):w.heap.size≤gb101));have n3_:=Aside0.mk ((by rw [hg];exact(below_size (by repeat (first|(with_reducible first|exact HB.out|apply below_alloc|apply pw_below_drewN|apply below_drew1)|exact HB.out))):w.heap.size≤gb101));clear HB;have HB:=n0_;have BK101:=n1_;have GW101:=n2_;have GE101:=n3_;clear n0_ n1_ n2_ n3_;clear hb hbox hg)|((with_reducible refine gate_dst (N:=3) rfl ?_);(try (refine gate_guard (by rfl) ?_;dsimp only));refine box_event ?hg (N:=3) ?hd (cs:=#[.int .i64 a1_0,.slice A1_1 l1_1.length c1_1,.slice A1_2 l1_2.length c1_2]) (t:=27) ?hr ?_;(case hd=>rfl);(case hg=>rfl);(case hr=>first|(go_simp;done)|(go_simp;rfl));intro gb102 hg w5 hbox hb;have n0_:=Aside0.mk (blk_below (g:=gb101) (o:=.cells #[.int .i64 a0_0,.slice A0_1 l0_1.length c0_1,.slice A0_2 l0_2.length c0_2] 27 (0,0)) (by(with_reducible repeat (first|refine blk_drewN ?_ _|refine blk_drew ?_|refine blk_alloc ?_ _));exact BK101.out) hb);have n1_:=Aside0.mk (below_step (by repeat (first|(with_reducible first|exact HB.out|apply below_alloc|apply pw_below_drewN|apply below_drew1|refine below_set ?_ GE101.out)|exact HB.out)) hb);have n2_:=Aside0.mk (hbox);have n3_:=Aside0.mk ((by rw [hg];exact(below_size (by repeat (first|(with_reducible first|exact HB.out|apply below_alloc|apply pw_below_drewN|apply below_drew1|refine below_set ?_ GE101.out)|exact HB.out))):w.heap.size≤gb102));have n4_:=Aside0.mk ((by rw [hg];exact(below_size (by repeat (first|(with_reducible first|exact HB.out|apply below_alloc|apply pw_below_drewN|apply below_drew1|refine below_set ?_ GE101.out)|exact HB.out))):w.heap.size≤gb102));have n5_:=Aside0.mk ((by rw [hg];exact Nat.ne_of_lt (blk_lt (g:=gb101) (o:=.cells #[.int .i64 a0_0,.slice A0_1 l0_1.length c0_1,.slice A0_2 l0_2.length c0_2] 27 (0,0)) (by(with_reducible repeat (first|refine blk_drewN ?_ _|refine blk_drew ?_|refine blk_alloc ?_ _));exact BK101.out)):gb101≠gb102));have n6_:=Aside0.mk ((by rw [hg];exact Nat.ne_of_gt (blk_lt (g:=gb101) (o:=.cells #[.int .i64 a0_0,.slice A0_1 l0_1.length c0_1,.slice A0_2 l0_2.length c0_2] 27 (0,0)) (by(with_reducible repeat (first|refine blk_drewN ?_ _|refine blk_drew ?_|refine blk_alloc ?_ _));exact BK101.out)):gb102≠gb101));clear BK101;clear HB;have BK101:=n0_;have HB:=n1_;have BK102:=n2_;have GW102:=n3_;have GE102:=n4_;have NB101_102:=n5_;have NB102_101:=n6_;clear n0_ n1_ n2_ n3_ n4_ n5_ n6_;clear hb hbox hg))
 repeat (go_quiet (first|((with_reducible refine gate_dst (N:=2) rfl ?_);(try (refine gate_guard (by rfl) ?_;dsimp only));refine box_event ?hg (N:=2) ?hd (cs:=#[.int .i64 a0_0,.slice A0_1 l0_1.length c0_1,.slice A0_2 l0_2.length c0_2]) (t:=27) ?hr ?_;(case hd=>rfl);(case hg=>rfl);(case hr=>first|(go_simp;done)|(go_simp;rfl));intro gb101 hg w4 hbox hb;have n0_:=Aside0.mk (below_step (by repeat (first|(with_reducible first|exact HB.out|apply below_alloc|apply pw_below_drewN|apply below_drew1)|exact HB.out)) hb);have n1_:=Aside0.mk (hbox);have n2_:=Aside0.mk ((by rw [hg];exact(below_size (by repeat (first|(with_reducible first|exact HB.out|apply below_alloc|apply pw_below_drewN|apply below_drew1)|exact HB.out))):w.heap.size≤gb101));have n3_:=Aside0.mk ((by rw [hg];exact(below_size (by repeat (first|(with_reducible first|exact HB.out|apply below_alloc|apply pw_below_drewN|apply below_drew1)|exact HB.out))):w.heap.size≤gb101));clear HB;have HB:=n0_;have BK101:=n1_;have GW101:=n2_;have GE101:=n3_;clear n0_ n1_ n2_ n3_;clear hb hbox hg)|((with_reducible refine gate_dst (N:=3) rfl ?_);(try (refine gate_guard (by rfl) ?_;dsimp only));refine box_event ?hg (N:=3) ?hd (cs:=#[.int .i64 a1_0,.slice A1_1 l1_1.length c1_1,.slice A1_2 l1_2.length c1_2]) (t:=27) ?hr ?_;(case hd=>rfl);(case hg=>rfl);(case hr=>first|(go_simp;done)|(go_simp;rfl));intro gb102 hg w5 hbox hb;have n0_:=Aside0.mk (blk_below (g:=gb101) (o:=.cells #[.int .i64 a0_0,.slice A0_1 l0_1.length c0_1,.slice A0_2 l0_2.length c0_2] 27 (0,0)) (by(with_reducible repeat (first|refine blk_drewN ?_ _|refine blk_drew ?_|refine blk_alloc ?_ _));exact BK101.out) hb);have n1_:=Aside0.mk (below_step (by repeat (first|(with_reducible first|exact HB.out|apply below_alloc|apply pw_below_drewN|apply below_drew1|refine below_set ?_ GE101.out)|exact HB.out)) hb);have n2_:=Aside0.mk (hbox);have n3_:=Aside0.mk ((by rw [hg];exact(below_size (by repeat (first|(with_reducible first|exact HB.out|apply below_alloc|apply pw_below_drewN|apply below_drew1|refine below_set ?_ GE101.out)|exact HB.out))):w.heap.size≤gb102));have n4_:=Aside0.mk ((by rw [hg];exact(below_size (by repeat (first|(with_reducible first|exact HB.out|apply below_alloc|apply pw_below_drewN|apply below_drew1|refine below_set ?_ GE101.out)|exact HB.out))):w.heap.size≤gb102));have n5_:=Aside0.mk ((by rw [hg];exact Nat.ne_of_lt (blk_lt (g:=gb101) (o:=.cells #[.int .i64 a0_0,.slice A0_1 l0_1.length c0_1,.slice A0_2 l0_2.length c0_2] 27 (0,0)) (by(with_reducible repeat (first|refine blk_drewN ?_ _|refine blk_drew ?_|refine blk_alloc ?_ _));exact BK101.out)):gb101≠gb102));have n6_:=Aside0.mk ((by rw [hg];exact Nat.ne_of_gt (blk_lt (g:=gb101) (o:=.cells #[.int .i64 a0_0,.slice A0_1 l0_1.length c0_1,.slice A0_2 l0_2.length c0_2] 27 (0,0)) (by(with_reducible repeat (first|refine blk_drewN ?_ _|refine blk_drew ?_|refine blk_alloc ?_ _));exact BK101.out)):gb102≠gb101));clear BK101;clear HB;have BK101:=n0_;have HB:=n1_;have BK102:=n2_;have GW102:=n3_;have GE102:=n4_;have NB101_102:=n5_;have NB102_101:=n6_;clear n0_ n1_ n2_ n3_ n4_ n5_ n6_;clear hb hbox hg));go_upto_region 1 with(first|((with_reducible refine gate_dst (N:=2) rfl ?_);(try (refine gate_guard (by rfl) ?_;dsimp only));refine box_event ?hg (N:=2) ?hd (cs:=#[.int .i64 a0_0,.slice A0_1 l0_1.length c0_1,.slice A0_2 l0_2.length c0_2]) (t:=27) ?hr ?_;(case hd=>rfl);(case hg=>rfl);(case hr=>first|(go_simp;done)|(go_simp;rfl));intro gb101 hg w4 hbox hb;have n0_:=Aside0.mk (below_step (by repeat (first|(with_reducible first|exact HB.out|apply below_alloc|apply pw_below_drewN|apply below_drew1)|exact HB.out)) hb);have n1_:=Aside0.mk (hbox);have n2_:=Aside0.mk ((by rw [hg];exact(below_size (by repeat (first|(with_reducible first|exact HB.out|apply below_alloc|apply pw_below_drewN|apply below_drew1)|exact HB.out))):w.heap.size≤gb101));have n3_:=Aside0.mk ((by rw [hg];exact(below_size (by repeat (first|(with_reducible first|exact HB.out|apply below_alloc|apply pw_below_drewN|apply below_drew1)|exact HB.out))):w.heap.size≤gb101));clear HB;have HB:=n0_;have BK101:=n1_;have GW101:=n2_;have GE101:=n3_;clear n0_ n1_ n2_ n3_;clear hb hbox hg)|((with_reducible refine gate_dst (N:=3) rfl ?_);(try (refine gate_guard (by rfl) ?_;dsimp only));refine box_event ?hg (N:=3) ?hd (cs:=#[.int .i64 a1_0,.slice A1_1 l1_1.length c1_1,.slice A1_2 l1_2.length c1_2]) (t:=27) ?hr ?_;(case hd=>rfl);(case hg=>rfl);(case hr=>first|(go_simp;done)|(go_simp;rfl));intro gb102 hg w5 hbox hb;have n0_:=Aside0.mk (blk_below (g:=gb101) (o:=.cells #[.int .i64 a0_0,.slice A0_1 l0_1.length c0_1,.slice A0_2 l0_2.length c0_2] 27 (0,0)) (by(with_reducible repeat (first|refine blk_drewN ?_ _|refine blk_drew ?_|refine blk_alloc ?_ _));exact BK101.out) hb);have n1_:=Aside0.mk (below_step (by repeat (first|(with_reducible first|exact HB.out|apply below_alloc|apply pw_below_drewN|apply below_drew1|refine below_set ?_ GE101.out)|exact HB.out)) hb);have n2_:=Aside0.mk (hbox);have n3_:=Aside0.mk ((by rw [hg];exact(below_size (by repeat (first|(with_reducible first|exact HB.out|apply below_alloc|apply pw_below_drewN|apply below_drew1|refine below_set ?_ GE101.out)|exact HB.out))):w.heap.size≤gb102));have n4_:=Aside0.mk ((by rw [hg];exact(below_size (by repeat (first|(with_reducible first|exact HB.out|apply below_alloc|apply pw_below_drewN|apply below_drew1|refine below_set ?_ GE101.out)|exact HB.out))):w.heap.size≤gb102));have n5_:=Aside0.mk ((by rw [hg];exact Nat.ne_of_lt (blk_lt (g:=gb101) (o:=.cells #[.int .i64 a0_0,.slice A0_1 l0_1.length c0_1,.slice A0_2 l0_2.length c0_2] 27 (0,0)) (by(with_reducible repeat (first|refine blk_drewN ?_ _|refine blk_drew ?_|refine blk_alloc ?_ _));exact BK101.out)):gb101≠gb102));have n6_:=Aside0.mk ((by rw [hg];exact Nat.ne_of_gt (blk_lt (g:=gb101) (o:=.cells #[.int .i64 a0_0,.slice A0_1 l0_1.length c0_1,.slice A0_2 l0_2.length c0_2] 27 (0,0)) (by(with_reducible repeat (first|refine blk_drewN ?_ _|refine blk_drew ?_|refine blk_alloc ?_ _));exact BK101.out)):gb102≠gb101));clear BK101;clear HB;have BK101:=n0_;have HB:=n1_;have BK102:=n2_;have GW102:=n3_;have GE102:=n4_;have NB101_102:=n5_;have NB102_101:=n6_;clear n0_ n1_ n2_ n3_ n4_ n5_ n6_;clear hb hbox hg)))
 (try simp only [Act.put,List.setIfInBounds_toArray,List.set_cons_zero,List.set_cons_succ])
 go_cut [28] (fun v28 wc=>∃ (kq:Nat) (x28_2:Bool),v28 = .bool x28_2∧Aside0 (stowageref26_Same.j0 kq x28_2 a0_0 l0_1 l0_2 a1_0 l1_1 l1_2=some r)∧Aside0 (kq≤k)∧Aside0 (wc.heap[gb101]? = some (.cells #[.int .i64 a0_0,(.slice A0_1 l0_1.length c0_1),(.slice A0_2 l0_2.length c0_2)] 27 (0,0)))∧Aside0 (wc.heap[gb102]? = some (.cells #[.int .i64 a1_0,(.slice A1_1 l1_1.length c1_1),(.slice A1_2 l1_2.length c1_2)] 27 (0,0)))∧Aside0 (Below w.heap.size w wc))
 case first=>
  have H:=HC3.out
  clear HC3
  replace H:=itO H
  rcases H with⟨c6,H⟩|⟨c6,H⟩
  ·skip
   have c6b0:(a0_0 == a1_0)=true:=beq_iff_eq.mpr c6
   have c6b1:(a0_0 != a1_0)=false:=bne_eq_false_iff_eq.mpr c6
   clear c6
   (first|rw [c6b0]|(simp only [i64_w,i32_w];rw [c6b0])|skip)
   replace H:=itO H
   rcases H with⟨c7,H⟩|⟨c7,H⟩
   ·skip
    have c7b0:((l0_1.length:Int) == (l1_1.length:Int))=true:=beq_iff_eq.mpr c7
    have c7b1:((l0_1.length:Int) != (l1_1.length:Int))=false:=bne_eq_false_iff_eq.mpr c7
    have c7b2:(l0_1.length == l1_1.length)=true:=by first|simpa using c7|(simp at c7 ⊢;omega)
    clear c7
    have H':=Aside0.mk H
    clear H
    have hnb8:=NB101_102.out
    have hnc8:=NB102_101.out
    have hcz9_0:w5.cell? ⟨gb101,0,none⟩=some (.int .i64 a0_0):=(blk_cell BK101.out 0).trans rfl
    have hcz9_1:w5.cell? ⟨gb101,1,none⟩=some (.slice A0_1 l0_1.length c0_1):=(blk_cell BK101.out 1).trans rfl
    have hcz9_2:w5.cell? ⟨gb101,2,none⟩=some (.slice A0_2 l0_2.length c0_2):=(blk_cell BK101.out 2).trans rfl
    have hfz9_0:=blk_frozen BK101.out 0
    have hfz9_1:=blk_frozen BK101.out 1
    have hfz9_2:=blk_frozen BK101.out 2
    have hcz10_0:w5.cell? ⟨gb102,0,none⟩=some (.int .i64 a1_0):=(blk_cell BK102.out 0).trans rfl
    have hcz10_1:w5.cell? ⟨gb102,1,none⟩=some (.slice A1_1 l1_1.length c1_1):=(blk_cell BK102.out 1).trans rfl
    have hcz10_2:w5.cell? ⟨gb102,2,none⟩=some (.slice A1_2 l1_2.length c1_2):=(blk_cell BK102.out 2).trans rfl
    have hfz10_0:=blk_frozen BK102.out 0
    have hfz10_1:=blk_frozen BK102.out 1
    have hfz10_2:=blk_frozen BK102.out 2
    have hcv11:=Kd.C_string (P:=Tryd.prog) (A:=A0_2) (c:=c0_2) Tryd.underlying23 Tryd.underlying5 Tryd.underlying9 (Kd.C_below HR0_2.out HB.out)
    have hcv12:=Kd.C_string (P:=Tryd.prog) (A:=A1_2) (c:=c1_2) Tryd.underlying23 Tryd.underlying5 Tryd.underlying9 (Kd.C_below HR1_2.out HB.out)
    go_wp2
    repeat (go_quiet (fail);try go_wp2)
    go_meet
    case rel=>exact⟨_,(((strOfNums l0_2).toList != (strOfNums l1_2).toList)),(by first|rfl|(simp;done)|(simp [*];done)),H',⟨by first|omega|exact Nat.le_refl _⟩,⟨by(with_reducible repeat (first|refine blk_drewN ?_ _|refine blk_drew ?_|refine blk_alloc ?_ _));exact BK101.out⟩,⟨by(with_reducible repeat (first|refine blk_drewN ?_ _|refine blk_drew ?_|refine blk_alloc ?_ _));exact BK102.out⟩,⟨by repeat (first|(with_reducible first|exact HB.out|apply below_alloc|apply pw_below_drewN|apply below_drew1|refine below_set ?_ GE101.out|refine below_set ?_ GE102.out)|exact HB.out)⟩⟩
   ·skip
    have c7b0:((l0_1.length:Int) == (l1_1.length:Int))=false:=beq_eq_false_iff_ne.mpr c7
    have c7b1:((l0_1.length:Int) != (l1_1.length:Int))=true:=bne_iff_ne.mpr c7
    have c7b2:(l0_1.length == l1_1.length)=false:=by first|simpa using c7|(simp at c7 ⊢;omega)
    have H':=Aside0.mk H
    clear H
    have hnb13:=NB101_102.out
    have hnc13:=NB102_101.out
    have hcz14_0:w5.cell? ⟨gb101,0,none⟩=some (.int .i64 a0_0):=(blk_cell BK101.out 0).trans rfl
    have hcz14_1:w5.cell? ⟨gb101,1,none⟩=some (.slice A0_1 l0_1.length c0_1):=(blk_cell BK101.out 1).trans rfl
    have hcz14_2:w5.cell? ⟨gb101,2,none⟩=some (.slice A0_2 l0_2.length c0_2):=(blk_cell BK101.out 2).trans rfl
    have hfz14_0:=blk_frozen BK101.out 0
    have hfz14_1:=blk_frozen BK101.out 1
    have hfz14_2:=blk_frozen BK101.out 2
    have hcz15_0:w5.cell? ⟨gb102,0,none⟩=some (.int .i64 a1_0):=(blk_cell BK102.out 0).trans rfl
    have hcz15_1:w5.cell? ⟨gb102,1,none⟩=some (.slice A1_1 l1_1.length c1_1):=(blk_cell BK102.out 1).trans rfl
    have hcz15_2:w5.cell? ⟨gb102,2,none⟩=some (.slice A1_2 l1_2.length c1_2):=(blk_cell BK102.out 2).trans rfl
    have hfz15_0:=blk_frozen BK102.out 0
    have hfz15_1:=blk_frozen BK102.out 1
    have hfz15_2:=blk_frozen BK102.out 2
    go_wp2
    repeat (go_quiet (fail);try go_wp2)
    go_meet
    case rel=>exact⟨_,(true),(by first|rfl|(simp;done)|(simp [*];done)),H',⟨by first|omega|exact Nat.le_refl _⟩,⟨by(with_reducible repeat (first|refine blk_drewN ?_ _|refine blk_drew ?_|refine blk_alloc ?_ _));exact BK101.out⟩,⟨by(with_reducible repeat (first|refine blk_drewN ?_ _|refine blk_drew ?_|refine blk_alloc ?_ _));exact BK102.out⟩,⟨by repeat (first|(with_reducible first|exact HB.out|apply below_alloc|apply pw_below_drewN|apply below_drew1|refine below_set ?_ GE101.out|refine below_set ?_ GE102.out)|exact HB.out)⟩⟩
  ·skip
   have c6b0:(a0_0 == a1_0)=false:=beq_eq_false_iff_ne.mpr c6
   have c6b1:(a0_0 != a1_0)=true:=bne_iff_ne.mpr c6
   (first|rw [c6b0]|(simp only [i64_w,i32_w];rw [c6b0])|skip)
   have H':=Aside0.mk H
   clear H
   have hnb16:=NB101_102.out
   have hnc16:=NB102_101.out
   have hcz17_0:w5.cell? ⟨gb101,0,none⟩=some (.int .i64 a0_0):=(blk_cell BK101.out 0).trans rfl
   have hcz17_1:w5.cell? ⟨gb101,1,none⟩=some (.slice A0_1 l0_1.length c0_1):=(blk_cell BK101.out 1).trans rfl
   have hcz17_2:w5.cell? ⟨gb101,2,none⟩=some (.slice A0_2 l0_2.length c0_2):=(blk_cell BK101.out 2).trans rfl
   have hfz17_0:=blk_frozen BK101.out 0
   have hfz17_1:=blk_frozen BK101.out 1
   have hfz17_2:=blk_frozen BK101.out 2
   have hcz18_0:w5.cell? ⟨gb102,0,none⟩=some (.int .i64 a1_0):=(blk_cell BK102.out 0).trans rfl
   have hcz18_1:w5.cell? ⟨gb102,1,none⟩=some (.slice A1_1 l1_1.length c1_1):=(blk_cell BK102.out 1).trans rfl
   have hcz18_2:w5.cell? ⟨gb102,2,none⟩=some (.slice A1_2 l1_2.length c1_2):=(blk_cell BK102.out 2).trans rfl
   have hfz18_0:=blk_frozen BK102.out 0
   have hfz18_1:=blk_frozen BK102.out 1
   have hfz18_2:=blk_frozen BK102.out 2
   go_wp2
   repeat (go_quiet (fail);try go_wp2)
   go_meet
   case rel=>exact⟨_,(true),(by first|rfl|(simp;done)|(simp [*];done)),H',⟨by first|omega|exact Nat.le_refl _⟩,⟨by(with_reducible repeat (first|refine blk_drewN ?_ _|refine blk_drew ?_|refine blk_alloc ?_ _));exact BK101.out⟩,⟨by(with_reducible repeat (first|refine blk_drewN ?_ _|refine blk_drew ?_|refine blk_alloc ?_ _));exact BK102.out⟩,⟨by repeat (first|(with_reducible first|exact HB.out|apply below_alloc|apply pw_below_drewN|apply below_drew1|refine below_set ?_ GE101.out|refine below_set ?_ GE102.out)|exact HB.out)⟩⟩
 case rest=>
  clear HC3
  try clear c1
  try clear hcv1
  try clear p2
  try clear c6
  try clear c6b0
  try clear c6b1
  try clear c7
  try clear c7b0
  try clear c7b1
  try clear c7b2
  try clear c8
  try clear c11
  try clear hcv11
  try clear hcv12
  try clear c13
  try clear c16
  try clear hcz10_0
  try clear hcz10_1
  try clear hcz10_2
  try clear hcz14_0
  try clear hcz14_1
  try clear hcz14_2
  try clear hcz15_0
  try clear hcz15_1
  try clear hcz15_2
  try clear hcz17_0
  try clear hcz17_1
  try clear hcz17_2
  try clear hcz18_0
  try clear hcz18_1
  try clear hcz18_2
  try clear hcz9_0
  try clear hcz9_1
  try clear hcz9_2
  try clear hfz10_0
  try clear hfz10_1
  try clear hfz10_2
  try clear hfz14_0
  try clear hfz14_1
  try clear hfz14_2
  try clear hfz15_0
  try clear hfz15_1
  try clear hfz15_2
  try clear hfz17_0
  try clear hfz17_1
  try clear hfz17_2
  try clear hfz18_0
  try clear hfz18_1
  try clear hfz18_2
  try clear hfz9_0
  try clear hfz9_1
  try clear hfz9_2
  obtain⟨kq,x28_2,rfl,HA,HJ2,BK101,BK102,HB⟩:=hcut
  cases kq with
  | zero=>exact absurd HA.out (by simp [stowageref26_Same.j0])
  | succ kj2=>
   have H:=HA.out
   clear HA
   simp only [stowageref26_Same.j0] at H
   by_cases c19:x28_2=true
   ·subst c19
    replace H:=itT H
    obtain rfl:=Option.some.inj H
    go_wp2
    repeat (go_quiet (fail);try go_wp2)
    go_ret
    exact⟨by first|rfl|(simp [errW_none,errW_some] <;> rfl)|(simp [*,errW_none,errW_some] <;> rfl),by repeat (first|(with_reducible first|exact HB.out|apply below_alloc|apply pw_below_drewN|apply below_drew1|refine below_set ?_ GE101.out|refine below_set ?_ GE102.out)|exact HB.out)⟩
   ·replace c19:=Bool.eq_false_iff.mpr c19
    subst c19
    replace H:=itF H
    have H':=Aside0.mk H
    clear H
    go_wp2
    repeat (go_quiet (fail);try go_wp2)
    go_loopg [5] kj2 (fun kq v5 w'=>∃ (x5_2:Int),v5 = .int .i64 x5_2∧Aside0 (stowageref26_Same.l0 kq x5_2 a0_0 l0_1 l0_2 a1_0 l1_1 l1_2=some r)∧Aside0 (kq≤kj2)∧Aside0 (w'.heap[gb101]? = some (.cells #[.int .i64 a0_0,(.slice A0_1 l0_1.length c0_1),(.slice A0_2 l0_2.length c0_2)] 27 (0,0)))∧Aside0 (w'.heap[gb102]? = some (.cells #[.int .i64 a1_0,(.slice A1_1 l1_1.length c1_1),(.slice A1_2 l1_2.length c1_2)] 27 (0,0)))∧Aside0 (Below w.heap.size w w'))
    case atStart=>exact⟨(0),(by first|rfl|(simp;done)|(simp [*];done)),H',⟨Nat.le_refl _⟩,⟨by(with_reducible repeat (first|refine blk_drewN ?_ _|refine blk_drew ?_|refine blk_alloc ?_ _));exact BK101.out⟩,⟨by(with_reducible repeat (first|refine blk_drewN ?_ _|refine blk_drew ?_|refine blk_alloc ?_ _));exact BK102.out⟩,⟨by repeat (first|(with_reducible first|exact HB.out|apply below_alloc|apply pw_below_drewN|apply below_drew1|refine below_set ?_ GE101.out|refine below_set ?_ GE102.out)|exact HB.out)⟩⟩
    case round=>
     clear H'
     try clear c1
     try clear hcv1
     try clear p2
     try clear c6
     try clear c6b0
     try clear c6b1
     try clear c7
     try clear c7b0
     try clear c7b1
     try clear c7b2
     try clear c8
     try clear c11
     try clear hcv11
     try clear hcv12
     try clear c13
     try clear c16
     try clear c19
     try clear hcz10_0
     try clear hcz10_1
     try clear hcz10_2
     try clear hcz14_0
     try clear hcz14_1
     try clear hcz14_2
     try clear hcz15_0
     try clear hcz15_1
     try clear hcz15_2
     try clear hcz17_0
     try clear hcz17_1
     try clear hcz17_2
     try clear hcz18_0
     try clear hcz18_1
     try clear hcz18_2
     try clear hcz9_0
     try clear hcz9_1
     try clear hcz9_2
     try clear hfz10_0
     try clear hfz10_1
     try clear hfz10_2
     try clear hfz14_0
     try clear hfz14_1
     try clear hfz14_2
     try clear hfz15_0
     try clear hfz15_1
     try clear hfz15_2
     try clear hfz17_0
     try clear hfz17_1
     try clear hfz17_2
     try clear hfz18_0
     try clear hfz18_1
     try clear hfz18_2
     try clear hfz9_0
     try clear hfz9_1
     try clear hfz9_2
     try clear p2
     obtain⟨x5_2,rfl,HA,HK2,BK101,BK102,HB⟩:=hrel
     cases gk with
     | zero=>exact absurd HA.out (by simp [stowageref26_Same.l0])
     | succ k2=>
      have H:=HA.out
      clear HA
      simp only [stowageref26_Same.l0] at H
      replace H:=itO H
      rcases H with⟨c20,H⟩|⟨c20,H⟩
      ·skip
       have c20b0:decide (x5_2<(l0_1.length:Int))=true:=decide_eq_true c20
       clear c20
       replace H:=itO H
       rcases H with⟨c21,H⟩|⟨c21,H⟩
       ·skip
        have c21b0:decide (0≤x5_2)=true:=decide_eq_true c21
        clear c21
        replace H:=itO H
        rcases H with⟨c22,H⟩|⟨c22,H⟩
        ·skip
         have c22b0:decide (x5_2<(l1_1.length:Int))=true:=decide_eq_true c22
         clear c22
         replace H:=itO H
         rcases H with⟨c23,H⟩|⟨c23,H⟩
         ·skip
          have c23b0:(!((((rd_T52 l0_1 x5_2).f0).toList) == (((rd_T52 l1_1 x5_2).f0).toList)) || (!((((rd_T52 l0_1 x5_2).f1).toList) == (((rd_T52 l1_1 x5_2).f1).toList))))=true:=c23
          clear c23
          obtain rfl:=Option.some.inj H
          have hnb24:=NB101_102.out
          have hnc24:=NB102_101.out
          have hcz25_0:wr.cell? ⟨gb101,0,none⟩=some (.int .i64 a0_0):=(blk_cell BK101.out 0).trans rfl
          have hcz25_1:wr.cell? ⟨gb101,1,none⟩=some (.slice A0_1 l0_1.length c0_1):=(blk_cell BK101.out 1).trans rfl
          have hcz25_2:wr.cell? ⟨gb101,2,none⟩=some (.slice A0_2 l0_2.length c0_2):=(blk_cell BK101.out 2).trans rfl
          have hfz25_0:=blk_frozen BK101.out 0
          have hfz25_1:=blk_frozen BK101.out 1
          have hfz25_2:=blk_frozen BK101.out 2
          have p103:0≤(x5_2:Int):=of_decide_eq_true (by first|(with_reducible assumption)|assumption)
          have q103:x5_2<(l0_1.length:Int):=of_decide_eq_true (by first|(with_reducible assumption)|assumption)
          obtain⟨ad103,e103,hx103_0,hx103_1⟩:=at_T52 HR0_1.out x5_2 p103 q103
          cases e103
          replace hx103_0:=(HB.out.cell (World.block_lt_of_cell? w _ hx103_0)).trans hx103_0
          replace hx103_1:=(HB.out.cell (World.block_lt_of_cell? w _ hx103_1)).trans hx103_1
          replace p103:=eq_true p103
          replace q103:=eq_true q103
          have hcz26_0:wr.cell? ⟨gb102,0,none⟩=some (.int .i64 a1_0):=(blk_cell BK102.out 0).trans rfl
          have hcz26_1:wr.cell? ⟨gb102,1,none⟩=some (.slice A1_1 l1_1.length c1_1):=(blk_cell BK102.out 1).trans rfl
          have hcz26_2:wr.cell? ⟨gb102,2,none⟩=some (.slice A1_2 l1_2.length c1_2):=(blk_cell BK102.out 2).trans rfl
          have hfz26_0:=blk_frozen BK102.out 0
          have hfz26_1:=blk_frozen BK102.out 1
          have hfz26_2:=blk_frozen BK102.out 2
          have p104:0≤(x5_2:Int):=of_decide_eq_true (by first|(with_reducible assumption)|assumption)
          have q104:x5_2<(l1_1.length:Int):=of_decide_eq_true (by first|(with_reducible assumption)|assumption)
          obtain⟨ad104,e104,hx104_0,hx104_1⟩:=at_T52 HR1_1.out x5_2 p104 q104
          cases e104
          replace hx104_0:=(HB.out.cell (World.block_lt_of_cell? w _ hx104_0)).trans hx104_0
          replace hx104_1:=(HB.out.cell (World.block_lt_of_cell? w _ hx104_1)).trans hx104_1
          replace p104:=eq_true p104
          replace q104:=eq_true q104
          go_wp2
          repeat (go_quiet (fail);try go_wp2)
          go_ret
          exact⟨by first|rfl|(simp [errW_none,errW_some] <;> rfl)|(simp [*,errW_none,errW_some] <;> rfl),by repeat (first|(with_reducible first|exact HB.out|apply below_alloc|apply pw_below_drewN|apply below_drew1|refine below_set ?_ GE101.out|refine below_set ?_ GE102.out)|exact HB.out)⟩
         ·skip
          have c23b0:(!((((rd_T52 l0_1 x5_2).f0).toList) == (((rd_T52 l1_1 x5_2).f0).toList)) || (!((((rd_T52 l0_1 x5_2).f1).toList) == (((rd_T52 l1_1 x5_2).f1).toList))))=false:=by simpa using c23
          clear c23
          have H':=Aside0.mk H
          clear H
          have hnb27:=NB101_102.out
          have hnc27:=NB102_101.out
          have hcz28_0:wr.cell? ⟨gb101,0,none⟩=some (.int .i64 a0_0):=(blk_cell BK101.out 0).trans rfl
          have hcz28_1:wr.cell? ⟨gb101,1,none⟩=some (.slice A0_1 l0_1.length c0_1):=(blk_cell BK101.out 1).trans rfl
          have hcz28_2:wr.cell? ⟨gb101,2,none⟩=some (.slice A0_2 l0_2.length c0_2):=(blk_cell BK101.out 2).trans rfl
          have hfz28_0:=blk_frozen BK101.out 0
          have hfz28_1:=blk_frozen BK101.out 1
          have hfz28_2:=blk_frozen BK101.out 2
          have p103:0≤(x5_2:Int):=of_decide_eq_true (by first|(with_reducible assumption)|assumption)
          have q103:x5_2<(l0_1.length:Int):=of_decide_eq_true (by first|(with_reducible assumption)|assumption)
          obtain⟨ad103,e103,hx103_0,hx103_1⟩:=at_T52 HR0_1.out x5_2 p103 q103
          cases e103
          replace hx103_0:=(HB.out.cell (World.block_lt_of_cell? w _ hx103_0)).trans hx103_0
          replace hx103_1:=(HB.out.cell (World.block_lt_of_cell? w _ hx103_1)).trans hx103_1
          replace p103:=eq_true p103
          replace q103:=eq_true q103
          have hcz29_0:wr.cell? ⟨gb102,0,none⟩=some (.int .i64 a1_0):=(blk_cell BK102.out 0).trans rfl
          have hcz29_1:wr.cell? ⟨gb102,1,none⟩=some (.slice A1_1 l1_1.length c1_1):=(blk_cell BK102.out 1).trans rfl
          have hcz29_2:wr.cell? ⟨gb102,2,none⟩=some (.slice A1_2 l1_2.length c1_2):=(blk_cell BK102.out 2).trans rfl
          have hfz29_0:=blk_frozen BK102.out 0
          have hfz29_1:=blk_frozen BK102.out 1
          have hfz29_2:=blk_frozen BK102.out 2
          have p104:0≤(x5_2:Int):=of_decide_eq_true (by first|(with_reducible assumption)|assumption)
          have q104:x5_2<(l1_1.length:Int):=of_decide_eq_true (by first|(with_reducible assumption)|assumption)
          obtain⟨ad104,e104,hx104_0,hx104_1⟩:=at_T52 HR1_1.out x5_2 p104 q104
          cases e104
          replace hx104_0:=(HB.out.cell (World.block_lt_of_cell? w _ hx104_0)).trans hx104_0
          replace hx104_1:=(HB.out.cell (World.block_lt_of_cell? w _ hx104_1)).trans hx104_1
          replace p104:=eq_true p104
          replace q104:=eq_true q104
          go_wp2
          repeat (go_quiet (fail);try go_wp2)
          go_roundg k2
          case measure=>have:=HJ2.out;have:=HK2.out;omega
          case rel=>exact⟨(wrap64 (x5_2+1)),(by first|rfl|(simp;done)|(simp [*];done)),H',⟨by have:=HJ2.out;have:=HK2.out;omega⟩,⟨by(with_reducible repeat (first|refine blk_drewN ?_ _|refine blk_drew ?_|refine blk_alloc ?_ _));exact BK101.out⟩,⟨by(with_reducible repeat (first|refine blk_drewN ?_ _|refine blk_drew ?_|refine blk_alloc ?_ _));exact BK102.out⟩,⟨by repeat (first|(with_reducible first|exact HB.out|apply below_alloc|apply pw_below_drewN|apply below_drew1|refine below_set ?_ GE101.out|refine below_set ?_ GE102.out)|exact HB.out)⟩⟩
        ·exact absurd H (by simp)
       ·exact absurd H (by simp)
      ·skip
       have c20b0:decide (x5_2<(l0_1.length:Int))=false:=decide_eq_false c20
       clear c20
       obtain rfl:=Option.some.inj H
       have hnb30:=NB101_102.out
       have hnc30:=NB102_101.out
       have hcz31_0:wr.cell? ⟨gb101,0,none⟩=some (.int .i64 a0_0):=(blk_cell BK101.out 0).trans rfl
       have hcz31_1:wr.cell? ⟨gb101,1,none⟩=some (.slice A0_1 l0_1.length c0_1):=(blk_cell BK101.out 1).trans rfl
       have hcz31_2:wr.cell? ⟨gb101,2,none⟩=some (.slice A0_2 l0_2.length c0_2):=(blk_cell BK101.out 2).trans rfl
       have hfz31_0:=blk_frozen BK101.out 0
       have hfz31_1:=blk_frozen BK101.out 1
       have hfz31_2:=blk_frozen BK101.out 2
       go_wp2
       repeat (go_quiet (fail);try go_wp2)
       go_ret
       exact⟨by first|rfl|(simp [errW_none,errW_some] <;> rfl)|(simp [*,errW_none,errW_some] <;> rfl),by repeat (first|(with_reducible first|exact HB.out|apply below_alloc|apply pw_below_drewN|apply below_drew1|refine below_set ?_ GE101.out|refine below_set ?_ GE102.out)|exact HB.out)⟩
def reply_Phrase.f (a0:Int):Option (ByteArray):=if a0=100 then(some (⟨#[67,111,110,116,105,110,117,101]⟩ : ByteArray)) else(if a0=200 then(some (⟨#[79,75]⟩ : ByteArray)) else(if a0=204 then(some (⟨#[78,111,32,67,111,110,116,101,110,116]⟩ : ByteArray)) else(if a0=206 then(some (⟨#[80,97,114,116,105,97,108,32,67,111,110,116,101,110,116]⟩ : ByteArray)) else(if a0=304 then(some (⟨#[78,111,116,32,77,111,100,105,102,105,101,100]⟩ : ByteArray)) else(if a0=400 then(some (⟨#[66,97,100,32,82,101,113,117,101,115,116]⟩ : ByteArray)) else(if a0=403 then(some (⟨#[70,111,114,98,105,100,100,101,110]⟩ : ByteArray)) else(if a0=404 then(some (⟨#[78,111,116,32,70,111,117,110,100]⟩ : ByteArray)) else(if a0=405 then(some (⟨#[77,101,116,104,111,100,32,78,111,116,32,65,108,108,111,119,101,100]⟩ : ByteArray)) else(if a0=409 then(some (⟨#[67,111,110,102,108,105,99,116]⟩ : ByteArray)) else(if a0=412 then(some (⟨#[80,114,101,99,111,110,100,105,116,105,111,110,32,70,97,105,108,101,100]⟩ : ByteArray)) else(if a0=414 then(some (⟨#[85,82,73,32,84,111,111,32,76,111,110,103]⟩ : ByteArray)) else(if a0=416 then(some (⟨#[82,97,110,103,101,32,78,111,116,32,83,97,116,105,115,102,105,97,98,108,101]⟩ : ByteArray)) else(if a0=417 then(some (⟨#[69,120,112,101,99,116,97,116,105,111,110,32,70,97,105,108,101,100]⟩ : ByteArray)) else(if a0=431 then(some (⟨#[82,101,113,117,101,115,116,32,72,101,97,100,101,114,32,70,105,101,108,100,115,32,84,111,111,32,76,97,114,103,101]⟩ : ByteArray)) else(if a0=500 then(some (⟨#[73,110,116,101,114,110,97,108,32,83,101,114,118,101,114,32,69,114,114,111,114]⟩ : ByteArray)) else(if a0=501 then(some (⟨#[78,111,116,32,73,109,112,108,101,109,101,110,116,101,100]⟩ : ByteArray)) else(if a0=503 then(some (⟨#[83,101,114,118,105,99,101,32,85,110,97,118,97,105,108,97,98,108,101]⟩ : ByteArray)) else(if a0=505 then(some (⟨#[72,84,84,80,32,86,101,114,115,105,111,110,32,78,111,116,32,83,117,112,112,111,114,116,101,100]⟩ : ByteArray)) else(some (⟨#[85,110,107,110,111,119,110]⟩ : ByteArray))))))))))))))))))))
theorem reply_Phrase.calls (a0:Int) (r:ByteArray) (w:World) (h:reply_Phrase.f a0=some r) :
  Calls Tryd.prog 13 #[.int .i64 a0] w fun e w'=>e = .returned (.string r)∧Drawn0 w w':=by
 unfold reply_Phrase.f at h
 have H:=h
 clear h
 replace H:=itO H
 rcases H with⟨c2,H⟩|⟨c2,H⟩
 ·skip
  have c2b0:(a0 == 100)=true:=beq_iff_eq.mpr c2
  have c2b1:(a0 != 100)=false:=bne_eq_false_iff_eq.mpr c2
  clear c2
  obtain rfl:=Option.some.inj H
  go_enter Tryd.func13,Tryd.ntmps13
  go_wp2
  go_ret
  exact⟨by first|rfl|(simp;done)|(simp [*];done),by repeat (first|exact Drawn0.refl _|apply Drawn0.step)⟩
 ·skip
  have c2b0:(a0 == 100)=false:=beq_eq_false_iff_ne.mpr c2
  have c2b1:(a0 != 100)=true:=bne_iff_ne.mpr c2
  replace H:=itO H
  rcases H with⟨c3,H⟩|⟨c3,H⟩
  ·skip
   have c3b0:(a0 == 200)=true:=beq_iff_eq.mpr c3
   have c3b1:(a0 != 200)=false:=bne_eq_false_iff_eq.mpr c3
   clear c3
   obtain rfl:=Option.some.inj H
   go_enter Tryd.func13,Tryd.ntmps13
   go_wp2
   go_ret
   exact⟨by first|rfl|(simp;done)|(simp [*];done),by repeat (first|exact Drawn0.refl _|apply Drawn0.step)⟩
  ·skip
   have c3b0:(a0 == 200)=false:=beq_eq_false_iff_ne.mpr c3
   have c3b1:(a0 != 200)=true:=bne_iff_ne.mpr c3
   replace H:=itO H
   rcases H with⟨c4,H⟩|⟨c4,H⟩
   ·skip
    have c4b0:(a0 == 204)=true:=beq_iff_eq.mpr c4
    have c4b1:(a0 != 204)=false:=bne_eq_false_iff_eq.mpr c4
    clear c4
    obtain rfl:=Option.some.inj H
    go_enter Tryd.func13,Tryd.ntmps13
    go_wp2
    go_ret
    exact⟨by first|rfl|(simp;done)|(simp [*];done),by repeat (first|exact Drawn0.refl _|apply Drawn0.step)⟩
   ·skip
    have c4b0:(a0 == 204)=false:=beq_eq_false_iff_ne.mpr c4
    have c4b1:(a0 != 204)=true:=bne_iff_ne.mpr c4
    replace H:=itO H
    rcases H with⟨c5,H⟩|⟨c5,H⟩
    ·skip
     have c5b0:(a0 == 206)=true:=beq_iff_eq.mpr c5
     have c5b1:(a0 != 206)=false:=bne_eq_false_iff_eq.mpr c5
     clear c5
     obtain rfl:=Option.some.inj H
     go_enter Tryd.func13,Tryd.ntmps13
     go_wp2
     go_ret
     exact⟨by first|rfl|(simp;done)|(simp [*];done),by repeat (first|exact Drawn0.refl _|apply Drawn0.step)⟩
    ·skip
     have c5b0:(a0 == 206)=false:=beq_eq_false_iff_ne.mpr c5
     have c5b1:(a0 != 206)=true:=bne_iff_ne.mpr c5
     replace H:=itO H
     rcases H with⟨c6,H⟩|⟨c6,H⟩
     ·skip
      have c6b0:(a0 == 304)=true:=beq_iff_eq.mpr c6
      have c6b1:(a0 != 304)=false:=bne_eq_false_iff_eq.mpr c6
      clear c6
      obtain rfl:=Option.some.inj H
      go_enter Tryd.func13,Tryd.ntmps13
      go_wp2
      go_ret
      exact⟨by first|rfl|(simp;done)|(simp [*];done),by repeat (first|exact Drawn0.refl _|apply Drawn0.step)⟩
     ·skip
      have c6b0:(a0 == 304)=false:=beq_eq_false_iff_ne.mpr c6
      have c6b1:(a0 != 304)=true:=bne_iff_ne.mpr c6
      replace H:=itO H
      rcases H with⟨c7,H⟩|⟨c7,H⟩
      ·skip
       have c7b0:(a0 == 400)=true:=beq_iff_eq.mpr c7
       have c7b1:(a0 != 400)=false:=bne_eq_false_iff_eq.mpr c7
       clear c7
       obtain rfl:=Option.some.inj H
       go_enter Tryd.func13,Tryd.ntmps13
       go_wp2
       go_ret
       exact⟨by first|rfl|(simp;done)|(simp [*];done),by repeat (first|exact Drawn0.refl _|apply Drawn0.step)⟩
      ·skip
       have c7b0:(a0 == 400)=false:=beq_eq_false_iff_ne.mpr c7
       have c7b1:(a0 != 400)=true:=bne_iff_ne.mpr c7
       replace H:=itO H
       rcases H with⟨c8,H⟩|⟨c8,H⟩
       ·skip
        have c8b0:(a0 == 403)=true:=beq_iff_eq.mpr c8
        have c8b1:(a0 != 403)=false:=bne_eq_false_iff_eq.mpr c8
        clear c8
        obtain rfl:=Option.some.inj H
        go_enter Tryd.func13,Tryd.ntmps13
        go_wp2
        go_ret
        exact⟨by first|rfl|(simp;done)|(simp [*];done),by repeat (first|exact Drawn0.refl _|apply Drawn0.step)⟩
       ·skip
        have c8b0:(a0 == 403)=false:=beq_eq_false_iff_ne.mpr c8
        have c8b1:(a0 != 403)=true:=bne_iff_ne.mpr c8
        replace H:=itO H
        rcases H with⟨c9,H⟩|⟨c9,H⟩
        ·skip
         have c9b0:(a0 == 404)=true:=beq_iff_eq.mpr c9
         have c9b1:(a0 != 404)=false:=bne_eq_false_iff_eq.mpr c9
         clear c9
         obtain rfl:=Option.some.inj H
         go_enter Tryd.func13,Tryd.ntmps13
         go_wp2
         go_ret
         exact⟨by first|rfl|(simp;done)|(simp [*];done),by repeat (first|exact Drawn0.refl _|apply Drawn0.step)⟩
        ·skip
         have c9b0:(a0 == 404)=false:=beq_eq_false_iff_ne.mpr c9
         have c9b1:(a0 != 404)=true:=bne_iff_ne.mpr c9
         replace H:=itO H
         rcases H with⟨c10,H⟩|⟨c10,H⟩
         ·skip
          have c10b0:(a0 == 405)=true:=beq_iff_eq.mpr c10
          have c10b1:(a0 != 405)=false:=bne_eq_false_iff_eq.mpr c10
          clear c10
          obtain rfl:=Option.some.inj H
          go_enter Tryd.func13,Tryd.ntmps13
          go_wp2
          go_ret
          exact⟨by first|rfl|(simp;done)|(simp [*];done),by repeat (first|exact Drawn0.refl _|apply Drawn0.step)⟩
         ·skip
          have c10b0:(a0 == 405)=false:=beq_eq_false_iff_ne.mpr c10
          have c10b1:(a0 != 405)=true:=bne_iff_ne.mpr c10
          replace H:=itO H
          rcases H with⟨c11,H⟩|⟨c11,H⟩
          ·skip
           have c11b0:(a0 == 409)=true:=beq_iff_eq.mpr c11
           have c11b1:(a0 != 409)=false:=bne_eq_false_iff_eq.mpr c11
           clear c11
           obtain rfl:=Option.some.inj H
           go_enter Tryd.func13,Tryd.ntmps13
           go_wp2
           go_ret
           exact⟨by first|rfl|(simp;done)|(simp [*];done),by repeat (first|exact Drawn0.refl _|apply Drawn0.step)⟩
          ·skip
           have c11b0:(a0 == 409)=false:=beq_eq_false_iff_ne.mpr c11
           have c11b1:(a0 != 409)=true:=bne_iff_ne.mpr c11
           replace H:=itO H
           rcases H with⟨c12,H⟩|⟨c12,H⟩
           ·skip
            have c12b0:(a0 == 412)=true:=beq_iff_eq.mpr c12
            have c12b1:(a0 != 412)=false:=bne_eq_false_iff_eq.mpr c12
            clear c12
            obtain rfl:=Option.some.inj H
            go_enter Tryd.func13,Tryd.ntmps13
            go_wp2
            go_ret
            exact⟨by first|rfl|(simp;done)|(simp [*];done),by repeat (first|exact Drawn0.refl _|apply Drawn0.step)⟩
           ·skip
            have c12b0:(a0 == 412)=false:=beq_eq_false_iff_ne.mpr c12
            have c12b1:(a0 != 412)=true:=bne_iff_ne.mpr c12
            replace H:=itO H
            rcases H with⟨c13,H⟩|⟨c13,H⟩
            ·skip
             have c13b0:(a0 == 414)=true:=beq_iff_eq.mpr c13
             have c13b1:(a0 != 414)=false:=bne_eq_false_iff_eq.mpr c13
             clear c13
             obtain rfl:=Option.some.inj H
             go_enter Tryd.func13,Tryd.ntmps13
             go_wp2
             go_ret
             exact⟨by first|rfl|(simp;done)|(simp [*];done),by repeat (first|exact Drawn0.refl _|apply Drawn0.step)⟩
            ·skip
             have c13b0:(a0 == 414)=false:=beq_eq_false_iff_ne.mpr c13
             have c13b1:(a0 != 414)=true:=bne_iff_ne.mpr c13
             replace H:=itO H
             rcases H with⟨c14,H⟩|⟨c14,H⟩
             ·skip
              have c14b0:(a0 == 416)=true:=beq_iff_eq.mpr c14
              have c14b1:(a0 != 416)=false:=bne_eq_false_iff_eq.mpr c14
              clear c14
              obtain rfl:=Option.some.inj H
              go_enter Tryd.func13,Tryd.ntmps13
              go_wp2
              go_ret
              exact⟨by first|rfl|(simp;done)|(simp [*];done),by repeat (first|exact Drawn0.refl _|apply Drawn0.step)⟩
             ·skip
              have c14b0:(a0 == 416)=false:=beq_eq_false_iff_ne.mpr c14
              have c14b1:(a0 != 416)=true:=bne_iff_ne.mpr c14
              replace H:=itO H
              rcases H with⟨c15,H⟩|⟨c15,H⟩
              ·skip
               have c15b0:(a0 == 417)=true:=beq_iff_eq.mpr c15
               have c15b1:(a0 != 417)=false:=bne_eq_false_iff_eq.mpr c15
               clear c15
               obtain rfl:=Option.some.inj H
               go_enter Tryd.func13,Tryd.ntmps13
               go_wp2
               go_ret
               exact⟨by first|rfl|(simp;done)|(simp [*];done),by repeat (first|exact Drawn0.refl _|apply Drawn0.step)⟩
              ·skip
               have c15b0:(a0 == 417)=false:=beq_eq_false_iff_ne.mpr c15
               have c15b1:(a0 != 417)=true:=bne_iff_ne.mpr c15
               replace H:=itO H
               rcases H with⟨c16,H⟩|⟨c16,H⟩
               ·skip
                have c16b0:(a0 == 431)=true:=beq_iff_eq.mpr c16
                have c16b1:(a0 != 431)=false:=bne_eq_false_iff_eq.mpr c16
                clear c16
                obtain rfl:=Option.some.inj H
                go_enter Tryd.func13,Tryd.ntmps13
                go_wp2
                go_ret
                exact⟨by first|rfl|(simp;done)|(simp [*];done),by repeat (first|exact Drawn0.refl _|apply Drawn0.step)⟩
               ·skip
                have c16b0:(a0 == 431)=false:=beq_eq_false_iff_ne.mpr c16
                have c16b1:(a0 != 431)=true:=bne_iff_ne.mpr c16
                replace H:=itO H
                rcases H with⟨c17,H⟩|⟨c17,H⟩
                ·skip
                 have c17b0:(a0 == 500)=true:=beq_iff_eq.mpr c17
                 have c17b1:(a0 != 500)=false:=bne_eq_false_iff_eq.mpr c17
                 clear c17
                 obtain rfl:=Option.some.inj H
                 go_enter Tryd.func13,Tryd.ntmps13
                 go_wp2
                 go_ret
                 exact⟨by first|rfl|(simp;done)|(simp [*];done),by repeat (first|exact Drawn0.refl _|apply Drawn0.step)⟩
                ·skip
                 have c17b0:(a0 == 500)=false:=beq_eq_false_iff_ne.mpr c17
                 have c17b1:(a0 != 500)=true:=bne_iff_ne.mpr c17
                 replace H:=itO H
                 rcases H with⟨c18,H⟩|⟨c18,H⟩
                 ·skip
                  have c18b0:(a0 == 501)=true:=beq_iff_eq.mpr c18
                  have c18b1:(a0 != 501)=false:=bne_eq_false_iff_eq.mpr c18
                  clear c18
                  obtain rfl:=Option.some.inj H
                  go_enter Tryd.func13,Tryd.ntmps13
                  go_wp2
                  go_ret
                  exact⟨by first|rfl|(simp;done)|(simp [*];done),by repeat (first|exact Drawn0.refl _|apply Drawn0.step)⟩
                 ·skip
                  have c18b0:(a0 == 501)=false:=beq_eq_false_iff_ne.mpr c18
                  have c18b1:(a0 != 501)=true:=bne_iff_ne.mpr c18
                  replace H:=itO H
                  rcases H with⟨c19,H⟩|⟨c19,H⟩
                  ·skip
                   have c19b0:(a0 == 503)=true:=beq_iff_eq.mpr c19
                   have c19b1:(a0 != 503)=false:=bne_eq_false_iff_eq.mpr c19
                   clear c19
                   obtain rfl:=Option.some.inj H
                   go_enter Tryd.func13,Tryd.ntmps13
                   go_wp2
                   go_ret
                   exact⟨by first|rfl|(simp;done)|(simp [*];done),by repeat (first|exact Drawn0.refl _|apply Drawn0.step)⟩
                  ·skip
                   have c19b0:(a0 == 503)=false:=beq_eq_false_iff_ne.mpr c19
                   have c19b1:(a0 != 503)=true:=bne_iff_ne.mpr c19
                   replace H:=itO H
                   rcases H with⟨c20,H⟩|⟨c20,H⟩
                   ·skip
                    have c20b0:(a0 == 505)=true:=beq_iff_eq.mpr c20
                    have c20b1:(a0 != 505)=false:=bne_eq_false_iff_eq.mpr c20
                    clear c20
                    obtain rfl:=Option.some.inj H
                    go_enter Tryd.func13,Tryd.ntmps13
                    go_wp2
                    go_ret
                    exact⟨by first|rfl|(simp;done)|(simp [*];done),by repeat (first|exact Drawn0.refl _|apply Drawn0.step)⟩
                   ·skip
                    have c20b0:(a0 == 505)=false:=beq_eq_false_iff_ne.mpr c20
                    have c20b1:(a0 != 505)=true:=bne_iff_ne.mpr c20
                    obtain rfl:=Option.some.inj H
                    go_enter Tryd.func13,Tryd.ntmps13
                    go_wp2
                    go_ret
                    exact⟨by first|rfl|(simp;done)|(simp [*];done),by repeat (first|exact Drawn0.refl _|apply Drawn0.step)⟩
def reply_Bare.f (a0:Int):Option (Bool):=if a0=100 then(some true) else(if a0=204 then(some true) else(some (a0 == 304)))
theorem reply_Bare.calls (a0:Int) (r:Bool) (w:World) (h:reply_Bare.f a0=some r) :
  Calls Tryd.prog 15 #[.int .i64 a0] w fun e w'=>e = .returned (.bool r)∧Drawn0 w w':=by
 unfold reply_Bare.f at h
 have H:=h
 clear h
 replace H:=itO H
 rcases H with⟨c2,H⟩|⟨c2,H⟩
 ·skip
  have c2b0:(a0 == 100)=true:=beq_iff_eq.mpr c2
  have c2b1:(a0 != 100)=false:=bne_eq_false_iff_eq.mpr c2
  clear c2
  obtain rfl:=Option.some.inj H
  go_enter Tryd.func15,Tryd.ntmps15
  go_wp2
  go_ret
  exact⟨by first|rfl|(simp;done)|(simp [*];done),by repeat (first|exact Drawn0.refl _|apply Drawn0.step)⟩
 ·skip
  have c2b0:(a0 == 100)=false:=beq_eq_false_iff_ne.mpr c2
  have c2b1:(a0 != 100)=true:=bne_iff_ne.mpr c2
  replace H:=itO H
  rcases H with⟨c3,H⟩|⟨c3,H⟩
  ·skip
   have c3b0:(a0 == 204)=true:=beq_iff_eq.mpr c3
   have c3b1:(a0 != 204)=false:=bne_eq_false_iff_eq.mpr c3
   clear c3
   obtain rfl:=Option.some.inj H
   go_enter Tryd.func15,Tryd.ntmps15
   go_wp2
   go_ret
   exact⟨by first|rfl|(simp;done)|(simp [*];done),by repeat (first|exact Drawn0.refl _|apply Drawn0.step)⟩
  ·skip
   have c3b0:(a0 == 204)=false:=beq_eq_false_iff_ne.mpr c3
   have c3b1:(a0 != 204)=true:=bne_iff_ne.mpr c3
   obtain rfl:=Option.some.inj H
   go_enter Tryd.func15,Tryd.ntmps15
   go_wp2
   go_ret
   exact⟨by first|rfl|(simp;done)|(simp [*];done),by repeat (first|exact Drawn0.refl _|apply Drawn0.step)⟩
def enc_Text.f (a0:Int):Option ByteArray:=if -9223372036854775808≤a0∧a0≤9223372036854775807 then some ⟨(Lib.itoa a0).toArray⟩ else none
theorem enc_Text.calls (a0:Int) (r:ByteArray) (w:World) (hG:GOk w) (h:enc_Text.f a0=some r) :
  Calls Tryd.prog 30 #[.int .i64 a0] w fun e w'=>e = .returned (.string r)∧Below w.heap.size w w':=by
 unfold enc_Text.f at h
 by_cases c:-9223372036854775808≤a0∧a0≤9223372036854775807
 ·rw [if_pos c] at h
  obtain rfl:=Option.some.inj h
  go_enter Tryd.func30,Tryd.ntmps30
  go_wp2_with (first|(go_at_call 47;(with_reducible refine(Tryd.strconv_Itoa a0 c.1 c.2 _ (gok_tab hG)).mono ?_);rintro e w9 ⟨rfl,⟨k,os,rfl⟩⟩))
  go_ret
  exact⟨rfl,rfl,rfl,rfl,by show w.heap.size≤(w.heap++os).size;rw [Array.size_append];omega,fun i hi=>by show(w.heap++os)[i]? = _;rw [Array.getElem?_append_left hi]⟩
 ·rw [if_neg c] at h;cases h
def when_is.f (a0:Int):Option (Bool):=if a0 ≥ 0 then(some (decide (a0≤253402300799))) else(some false)
theorem when_is.calls (a0:Int) (r:Bool) (w:World) (h:when_is.f a0=some r) :
  Calls Tryd.prog 73 #[.int .i64 a0] w fun e w'=>e = .returned (.bool r)∧Drawn0 w w':=by
 unfold when_is.f at h
 have H:=h
 clear h
 replace H:=itO H
 rcases H with⟨c2,H⟩|⟨c2,H⟩
 ·skip
  have c2b0:decide (0≤a0)=true:=decide_eq_true c2
  clear c2
  obtain rfl:=Option.some.inj H
  go_enter Tryd.func73,Tryd.ntmps73
  go_wp2
  go_ret
  exact⟨by first|rfl|(simp;done)|(simp [*];done),by repeat (first|exact Drawn0.refl _|apply Drawn0.step)⟩
 ·skip
  have c2b0:decide (0≤a0)=false:=decide_eq_false c2
  clear c2
  obtain rfl:=Option.some.inj H
  go_enter Tryd.func73,Tryd.ntmps73
  go_wp2
  go_ret
  exact⟨by first|rfl|(simp;done)|(simp [*];done),by repeat (first|exact Drawn0.refl _|apply Drawn0.step)⟩
def when_before.f (a0:Int):Option (Int):=some (wrap64 ((wrap64 ((wrap64 ((wrap64 ((wrap64 ((wrap64 (a0-1))*365))+(wrap64 (Int.tdiv (wrap64 (a0-1)) 4))))-(wrap64 (Int.tdiv (wrap64 (a0-1)) 100))))+(wrap64 (Int.tdiv (wrap64 (a0-1)) 400))))-719162))
theorem when_before.calls (a0:Int) (r:Int) (w:World) (h:when_before.f a0=some r) :
  Calls Tryd.prog 74 #[.int .i64 a0] w fun e w'=>e = .returned (.int .i64 r)∧Drawn0 w w':=by
 unfold when_before.f at h
 have H:=h
 clear h
 obtain rfl:=Option.some.inj H
 go_enter Tryd.func74,Tryd.ntmps74
 go_wp2
 go_ret
 exact⟨by first|rfl|(simp;done)|(simp [*];done),by repeat (first|exact Drawn0.refl _|apply Drawn0.step)⟩
def when_size.j0:Nat→Int→Int→Bool→Option (Int)
 | 0,_,_,_=>none
 | k+1,x0,x5,x6=>if x6=true then(some 30) else(if x5=11 then(some 30) else(if x5=2 then(if(Int.tmod x0 4)=0 then(if(Int.tmod x0 100)=0 then(if(Int.tmod x0 400)=0 then(some 29) else(some 28)) else(some 29)) else(some 28)) else(some 31)))
def when_size.f (k:Nat) (a0:Int) (a1:Int):Option (Int):=if a1=4 then(when_size.j0 k a0 a1 (a1 == 4)) else(if a1=6 then(when_size.j0 k a0 a1 (a1 == 6)) else(when_size.j0 k a0 a1 (a1 == 9)))
theorem when_size.mono_l:∀ k,(∀ y0 y1 y2,LeO (when_size.j0 k y0 y1 y2) (when_size.j0 (k+1) y0 y1 y2))
 | 0=>fun _ _ _ r h=>by simp [when_size.j0] at h
 | k+1=>by
  have ih0:=when_size.mono_l k
  ·intro y0 y1 y2
   unfold when_size.j0
   repeat' first
   | (with_reducible exact ih0 _ _ _)
   | (with_reducible exact LeO.refl _)
   | (with_reducible exact LeO.none _)
   | (with_reducible refine LeO.ite ?_ ?_)
   | (with_reducible refine LeO.bind ?_ (fun _=>?_))
   | exact ih0 _ _ _
   | exact LeO.none _
   | refine LeO.ite ?_ ?_
   | refine LeO.bind ?_ (fun _=>?_)
theorem when_size.mono:∀ a0 a1 k,LeO (when_size.f k a0 a1) (when_size.f (k+1) a0 a1):=by
 intro a0 a1 k
 have ih0:=when_size.mono_l k
 unfold when_size.f
 repeat' first
   | (with_reducible exact ih0 _ _ _)
   | (with_reducible exact LeO.refl _)
   | (with_reducible exact LeO.none _)
   | (with_reducible refine LeO.ite ?_ ?_)
   | (with_reducible refine LeO.bind ?_ (fun _=>?_))
   | exact ih0 _ _ _
   | exact LeO.none _
   | refine LeO.ite ?_ ?_
   | refine LeO.bind ?_ (fun _=>?_)
theorem when_size.calls (k:Nat) (a0:Int) (a1:Int) (r:Int) (w:World) (h:when_size.f k a0 a1=some r) :
  Calls Tryd.prog 75 #[.int .i64 a0,.int .i64 a1] w fun e w'=>e = .returned (.int .i64 r)∧Drawn0 w w':=by
 unfold when_size.f at h
 have H:=h
 clear h
 have HC3:=Aside0.mk H
 clear H
 go_enter Tryd.func75,Tryd.ntmps75
 go_upto_if 6 with(fail)
 go_cut [6] (fun v6 wc=>∃ (kq:Nat) (x6_2:Bool),v6 = .bool x6_2∧Aside0 (when_size.j0 kq a0 a1 x6_2=some r)∧Aside0 (kq≤k)∧Drawn0 w wc)
 case first=>
  have H:=HC3.out
  clear HC3
  replace H:=itO H
  rcases H with⟨c4,H⟩|⟨c4,H⟩
  ·skip
   have c4b0:(a1 == 4)=true:=beq_iff_eq.mpr c4
   have c4b1:(a1 != 4)=false:=bne_eq_false_iff_eq.mpr c4
   clear c4
   (first|rw [c4b0]|(simp only [i64_w,i32_w];rw [c4b0])|skip)
   have H':=Aside0.mk H
   clear H
   go_wp2
   go_meet
   case rel=>exact⟨_,((a1 == 4)),(by first|rfl|(simp;done)|(simp [*];done)),H',⟨by first|omega|exact Nat.le_refl _⟩,by repeat (first|exact Drawn0.refl _|apply Drawn0.step)⟩
  ·skip
   have c4b0:(a1 == 4)=false:=beq_eq_false_iff_ne.mpr c4
   have c4b1:(a1 != 4)=true:=bne_iff_ne.mpr c4
   (first|rw [c4b0]|(simp only [i64_w,i32_w];rw [c4b0])|skip)
   replace H:=itO H
   rcases H with⟨c5,H⟩|⟨c5,H⟩
   ·skip
    have c5b0:(a1 == 6)=true:=beq_iff_eq.mpr c5
    have c5b1:(a1 != 6)=false:=bne_eq_false_iff_eq.mpr c5
    clear c5
    have H':=Aside0.mk H
    clear H
    go_wp2
    go_meet
    case rel=>exact⟨_,((a1 == 6)),(by first|rfl|(simp;done)|(simp [*];done)),H',⟨by first|omega|exact Nat.le_refl _⟩,by repeat (first|exact Drawn0.refl _|apply Drawn0.step)⟩
   ·skip
    have c5b0:(a1 == 6)=false:=beq_eq_false_iff_ne.mpr c5
    have c5b1:(a1 != 6)=true:=bne_iff_ne.mpr c5
    have H':=Aside0.mk H
    clear H
    go_wp2
    go_meet
    case rel=>exact⟨_,((a1 == 9)),(by first|rfl|(simp;done)|(simp [*];done)),H',⟨by first|omega|exact Nat.le_refl _⟩,by repeat (first|exact Drawn0.refl _|apply Drawn0.step)⟩
 case rest=>
  clear HC3
  try clear p2
  try clear c4
  try clear c4b0
  try clear c4b1
  try clear c5
  try clear c5b0
  try clear c5b1
  obtain⟨kq,x6_2,rfl,HA,HJ2,⟨mc2,rfl⟩⟩:=hcut
  cases kq with
  | zero=>exact absurd HA.out (by simp [when_size.j0])
  | succ kj2=>
   have H:=HA.out
   clear HA
   simp only [when_size.j0] at H
   by_cases c6:x6_2=true
   ·subst c6
    replace H:=itT H
    obtain rfl:=Option.some.inj H
    go_wp2
    go_ret
    exact⟨by first|rfl|(simp;done)|(simp [*];done),by repeat (first|exact Drawn0.refl _|apply Drawn0.step)⟩
   ·replace c6:=Bool.eq_false_iff.mpr c6
    subst c6
    replace H:=itF H
    replace H:=itO H
    rcases H with⟨c7,H⟩|⟨c7,H⟩
    ·skip
     have c7b0:(a1 == 11)=true:=beq_iff_eq.mpr c7
     have c7b1:(a1 != 11)=false:=bne_eq_false_iff_eq.mpr c7
     clear c7
     obtain rfl:=Option.some.inj H
     go_wp2
     go_ret
     exact⟨by first|rfl|(simp;done)|(simp [*];done),by repeat (first|exact Drawn0.refl _|apply Drawn0.step)⟩
    ·skip
     have c7b0:(a1 == 11)=false:=beq_eq_false_iff_ne.mpr c7
     have c7b1:(a1 != 11)=true:=bne_iff_ne.mpr c7
     replace H:=itO H
     rcases H with⟨c8,H⟩|⟨c8,H⟩
     ·skip
      have c8b0:(a1 == 2)=true:=beq_iff_eq.mpr c8
      have c8b1:(a1 != 2)=false:=bne_eq_false_iff_eq.mpr c8
      clear c8
      replace H:=itO H
      rcases H with⟨c9,H⟩|⟨c9,H⟩
      ·skip
       have c9b0:((Int.tmod a0 4) == 0)=true:=beq_iff_eq.mpr c9
       have c9b1:((Int.tmod a0 4) != 0)=false:=bne_eq_false_iff_eq.mpr c9
       clear c9
       replace H:=itO H
       rcases H with⟨c10,H⟩|⟨c10,H⟩
       ·skip
        have c10b0:((Int.tmod a0 100) == 0)=true:=beq_iff_eq.mpr c10
        have c10b1:((Int.tmod a0 100) != 0)=false:=bne_eq_false_iff_eq.mpr c10
        clear c10
        replace H:=itO H
        rcases H with⟨c11,H⟩|⟨c11,H⟩
        ·skip
         have c11b0:((Int.tmod a0 400) == 0)=true:=beq_iff_eq.mpr c11
         have c11b1:((Int.tmod a0 400) != 0)=false:=bne_eq_false_iff_eq.mpr c11
         clear c11
         obtain rfl:=Option.some.inj H
         go_wp2
         go_ret
         exact⟨by first|rfl|(simp;done)|(simp [*];done),by repeat (first|exact Drawn0.refl _|apply Drawn0.step)⟩
        ·skip
         have c11b0:((Int.tmod a0 400) == 0)=false:=beq_eq_false_iff_ne.mpr c11
         have c11b1:((Int.tmod a0 400) != 0)=true:=bne_iff_ne.mpr c11
         obtain rfl:=Option.some.inj H
         go_wp2
         go_ret
         exact⟨by first|rfl|(simp;done)|(simp [*];done),by repeat (first|exact Drawn0.refl _|apply Drawn0.step)⟩
       ·skip
        have c10b0:((Int.tmod a0 100) == 0)=false:=beq_eq_false_iff_ne.mpr c10
        have c10b1:((Int.tmod a0 100) != 0)=true:=bne_iff_ne.mpr c10
        obtain rfl:=Option.some.inj H
        go_wp2
        go_ret
        exact⟨by first|rfl|(simp;done)|(simp [*];done),by repeat (first|exact Drawn0.refl _|apply Drawn0.step)⟩
      ·skip
       have c9b0:((Int.tmod a0 4) == 0)=false:=beq_eq_false_iff_ne.mpr c9
       have c9b1:((Int.tmod a0 4) != 0)=true:=bne_iff_ne.mpr c9
       obtain rfl:=Option.some.inj H
       go_wp2
       go_ret
       exact⟨by first|rfl|(simp;done)|(simp [*];done),by repeat (first|exact Drawn0.refl _|apply Drawn0.step)⟩
     ·skip
      have c8b0:(a1 == 2)=false:=beq_eq_false_iff_ne.mpr c8
      have c8b1:(a1 != 2)=true:=bne_iff_ne.mpr c8
      obtain rfl:=Option.some.inj H
      go_wp2
      go_ret
      exact⟨by first|rfl|(simp;done)|(simp [*];done),by repeat (first|exact Drawn0.refl _|apply Drawn0.step)⟩
mutual
def when_Civil.l0:Nat→Int→Int→Int→Option (Int×Int×Int×Int×Int×Int×Bool)
 | 0,_,_,_=>none
 | k+1,x0,x2,x9=>(when_before.f (wrap64 (x2+1))).bind fun t125=>(if t125≤x9 then(when_Civil.l0 k x0 (wrap64 (x2+1)) x9) else((when_before.f x2).bind fun t126=>(when_Civil.l1 k x0 x2 1 (wrap64 (x9-t126)))))
def when_Civil.l1:Nat→Int→Int→Int→Int→Option (Int×Int×Int×Int×Int×Int×Bool)
 | 0,_,_,_,_=>none
 | k+1,x0,x2,x3,x9=>(when_size.f k x2 x3).bind fun t127=>(if x9 ≥ t127 then((when_size.f k x2 x3).bind fun t128=>(when_Civil.l1 k x0 x2 (wrap64 (x3+1)) (wrap64 (x9-t128)))) else(some (x2,x3,wrap64 (x9+1),Int.tmod (wrap64 (Int.tdiv x0 3600)) 24,Int.tmod (wrap64 (Int.tdiv x0 60)) 60,Int.tmod x0 60,true)))
end
def when_Civil.f (k:Nat) (a0:Int):Option (Int×Int×Int×Int×Int×Int×Bool):=(when_is.f a0).bind fun t124=>(if t124=true then(when_Civil.l0 k a0 (wrap64 (1970+(wrap64 (Int.tdiv (wrap64 (Int.tdiv a0 86400)) 366)))) (wrap64 (Int.tdiv a0 86400))) else(some (0,0,0,0,0,0,false)))
theorem when_Civil.mono_l:∀ k,(∀ y0 y1 y2,LeO (when_Civil.l0 k y0 y1 y2) (when_Civil.l0 (k+1) y0 y1 y2))∧(∀ y0 y1 y2 y3,LeO (when_Civil.l1 k y0 y1 y2 y3) (when_Civil.l1 (k+1) y0 y1 y2 y3))
 | 0=>⟨fun _ _ _ r h=>by simp [when_Civil.l0] at h,fun _ _ _ _ r h=>by simp [when_Civil.l1] at h⟩
 | k+1=>by
  obtain⟨ih0,ih1⟩:=when_Civil.mono_l k
  refine⟨?_,?_⟩
  ·intro y0 y1 y2
   unfold when_Civil.l0
   repeat' first
   | (with_reducible exact ih0 _ _ _)
   | (with_reducible exact ih1 _ _ _ _)
   | (with_reducible exact when_size.mono _ _ _)
   | (with_reducible exact LeO.refl _)
   | (with_reducible exact LeO.none _)
   | (with_reducible refine LeO.ite ?_ ?_)
   | (with_reducible refine LeO.bind ?_ (fun _=>?_))
   | exact ih0 _ _ _
   | exact ih1 _ _ _ _
   | exact when_size.mono _ _ _
   | exact LeO.none _
   | refine LeO.ite ?_ ?_
   | refine LeO.bind ?_ (fun _=>?_)
  ·intro y0 y1 y2 y3
   unfold when_Civil.l1
   repeat' first
   | (with_reducible exact ih0 _ _ _)
   | (with_reducible exact ih1 _ _ _ _)
   | (with_reducible exact when_size.mono _ _ _)
   | (with_reducible exact LeO.refl _)
   | (with_reducible exact LeO.none _)
   | (with_reducible refine LeO.ite ?_ ?_)
   | (with_reducible refine LeO.bind ?_ (fun _=>?_))
   | exact ih0 _ _ _
   | exact ih1 _ _ _ _
   | exact when_size.mono _ _ _
   | exact LeO.none _
   | refine LeO.ite ?_ ?_
   | refine LeO.bind ?_ (fun _=>?_)
theorem when_Civil.mono:∀ a0 k,LeO (when_Civil.f k a0) (when_Civil.f (k+1) a0):=by
 intro a0 k
 obtain⟨ih0,ih1⟩:=when_Civil.mono_l k
 unfold when_Civil.f
 repeat' first
   | (with_reducible exact ih0 _ _ _)
   | (with_reducible exact ih1 _ _ _ _)
   | (with_reducible exact when_size.mono _ _ _)
   | (with_reducible exact LeO.refl _)
   | (with_reducible exact LeO.none _)
   | (with_reducible refine LeO.ite ?_ ?_)
   | (with_reducible refine LeO.bind ?_ (fun _=>?_))
   | exact ih0 _ _ _
   | exact ih1 _ _ _ _
   | exact when_size.mono _ _ _
   | exact LeO.none _
   | refine LeO.ite ?_ ?_
   | refine LeO.bind ?_ (fun _=>?_)
theorem when_Civil.calls (k:Nat) (a0:Int) (r1:Int) (r2:Int) (r3:Int) (r4:Int) (r5:Int) (r6:Int) (r7:Bool) (w:World) (h:when_Civil.f k a0=some (r1,r2,r3,r4,r5,r6,r7)) :
  Calls Tryd.prog 48 #[.int .i64 a0] w fun e w'=>e = .returned (.tuple #[.int .i64 r1,.int .i64 r2,.int .i64 r3,.int .i64 r4,.int .i64 r5,.int .i64 r6,.bool r7])∧Drawn0 w w':=by
 unfold when_Civil.f at h
 have H:=h
 clear h
 replace H:=bndO H
 obtain⟨t124,A20,H⟩:=H
 have A2:=Aside0.mk A20
 clear A20
 by_cases c3:t124=true
 ·subst c3
  replace H:=itT H
  have H':=Aside0.mk H
  clear H
  go_enter Tryd.func48,Tryd.ntmps48
  go_wp2_with (first|((with_reducible refine gate_callee (f:=73) rfl ?_);refine goesL_ (some 11) rfl rfl Tryd.func73 (by kernel_rfl) rfl #[.int .i64 a0] rfl (by(try simp only [List.map_toArray,List.map_cons,List.map_nil]);first|done|rfl|(simp only [List.length_drop,List.length_take];rfl)) ?_;(with_reducible refine(when_is.calls a0 true _ A2.out).mono ?_);rintro e w' ⟨rfl,⟨nd,rfl⟩⟩;refine⟨_,rfl,?_⟩))
  go_loopg [2] k (fun kq v2 w'=>∃ (x2_1:Int),v2 = .int .i64 x2_1∧Aside0 (when_Civil.l0 kq a0 x2_1 (wrap64 (Int.tdiv a0 86400))=some (r1,r2,r3,r4,r5,r6,r7))∧Aside0 (kq≤k)∧Drawn0 w w')
  case atStart=>exact⟨(wrap64 (1970+(wrap64 (Int.tdiv (wrap64 (Int.tdiv a0 86400)) 366)))),(by first|rfl|(simp;done)|(simp [*];done)),H',⟨Nat.le_refl _⟩,by repeat (first|exact Drawn0.refl _|apply Drawn0.step)⟩
  case round=>
   clear H'
   try clear p2
   try clear c3
   obtain⟨x2_1,rfl,HA,HK1,⟨m1,rfl⟩⟩:=hrel
   cases gk with
   | zero=>exact absurd HA.out (by simp [when_Civil.l0])
   | succ k1=>
    have H:=HA.out
    clear HA
    simp only [when_Civil.l0] at H
    replace H:=bndO H
    obtain⟨t125,A40,H⟩:=H
    have A4:=Aside0.mk A40
    clear A40
    replace H:=itO H
    rcases H with⟨c5,H⟩|⟨c5,H⟩
    ·skip
     have c5b0:decide (t125≤(wrap64 (Int.tdiv a0 86400)))=true:=decide_eq_true c5
     clear c5
     have H':=Aside0.mk H
     clear H
     go_wp2_with (first|((with_reducible refine gate_callee (f:=74) rfl ?_);refine goesL_ (some 20) rfl rfl Tryd.func74 (by kernel_rfl) rfl #[.int .i64 (wrap64 (x2_1+1))] rfl (by(try simp only [List.map_toArray,List.map_cons,List.map_nil]);first|done|rfl|(simp only [List.length_drop,List.length_take];rfl)) ?_;(with_reducible refine(when_before.calls (wrap64 (x2_1+1)) t125 _ A4.out).mono ?_);rintro e w' ⟨rfl,⟨nd,rfl⟩⟩;refine⟨_,rfl,?_⟩))
     go_roundg k1
     case measure=>have:=HK1.out;omega
     case rel=>exact⟨(wrap64 (x2_1+1)),(by first|rfl|(simp;done)|(simp [*];done)),H',⟨by have:=HK1.out;omega⟩,by repeat (first|exact Drawn0.refl _|apply Drawn0.step)⟩
    ·skip
     have c5b0:decide (t125≤(wrap64 (Int.tdiv a0 86400)))=false:=decide_eq_false c5
     clear c5
     replace H:=bndO H
     obtain⟨t126,A60,H⟩:=H
     have A6:=Aside0.mk A60
     clear A60
     have H':=Aside0.mk H
     clear H
     go_wp2_with (first|((with_reducible refine gate_callee (f:=74) rfl ?_);refine goesL_ (some 20) rfl rfl Tryd.func74 (by kernel_rfl) rfl #[.int .i64 (wrap64 (x2_1+1))] rfl (by(try simp only [List.map_toArray,List.map_cons,List.map_nil]);first|done|rfl|(simp only [List.length_drop,List.length_take];rfl)) ?_;(with_reducible refine(when_before.calls (wrap64 (x2_1+1)) t125 _ A4.out).mono ?_);rintro e w' ⟨rfl,⟨nd,rfl⟩⟩;refine⟨_,rfl,?_⟩)|((with_reducible refine gate_callee (f:=74) rfl ?_);refine goesL_ (some 27) rfl rfl Tryd.func74 (by kernel_rfl) rfl #[.int .i64 x2_1] rfl (by(try simp only [List.map_toArray,List.map_cons,List.map_nil]);first|done|rfl|(simp only [List.length_drop,List.length_take];rfl)) ?_;(with_reducible refine(when_before.calls x2_1 t126 _ A6.out).mono ?_);rintro e w' ⟨rfl,⟨nd,rfl⟩⟩;refine⟨_,rfl,?_⟩))
     go_loopg [3,9] k1 (fun kq v3 v9 w'=>∃ (x3_2:Int) (x9_2:Int),v3 = .int .i64 x3_2∧v9 = .int .i64 x9_2∧Aside0 (when_Civil.l1 kq a0 x2_1 x3_2 x9_2=some (r1,r2,r3,r4,r5,r6,r7))∧Aside0 (kq≤k1)∧Drawn0 w w')
     case atStart=>exact⟨(1),(wrap64 ((wrap64 (Int.tdiv a0 86400))-t126)),(by first|rfl|(simp;done)|(simp [*];done)),(by first|rfl|(simp;done)|(simp [*];done)),H',⟨Nat.le_refl _⟩,by repeat (first|exact Drawn0.refl _|apply Drawn0.step)⟩
     case round=>
      clear H'
      try clear p2
      try clear c3
      try clear c4
      try clear c5
      try clear c5b0
      try clear p6
      try clear p2
      obtain⟨x3_2,x9_2,rfl,rfl,HA,HK2,⟨m2,rfl⟩⟩:=hrel
      cases gk with
      | zero=>exact absurd HA.out (by simp [when_Civil.l1])
      | succ k2=>
       have H:=HA.out
       clear HA
       simp only [when_Civil.l1] at H
       replace H:=bndO H
       obtain⟨t127,A70,H⟩:=H
       have A7:=Aside0.mk A70
       clear A70
       replace H:=itO H
       rcases H with⟨c8,H⟩|⟨c8,H⟩
       ·skip
        have c8b0:decide (t127≤x9_2)=true:=decide_eq_true c8
        clear c8
        replace H:=bndO H
        obtain⟨t128,A90,H⟩:=H
        have A9:=Aside0.mk A90
        clear A90
        have H':=Aside0.mk H
        clear H
        go_wp2_with (first|((with_reducible refine gate_callee (f:=75) rfl ?_);refine goesL_ (some 32) rfl rfl Tryd.func75 (by kernel_rfl) rfl #[.int .i64 x2_1,.int .i64 x3_2] rfl (by(try simp only [List.map_toArray,List.map_cons,List.map_nil]);first|done|rfl|(simp only [List.length_drop,List.length_take];rfl)) ?_;(with_reducible refine(when_size.calls k2 x2_1 x3_2 t127 _ A7.out).mono ?_);rintro e w' ⟨rfl,⟨nd,rfl⟩⟩;refine⟨_,rfl,?_⟩;(try clear A7))|((with_reducible refine gate_callee (f:=75) rfl ?_);refine goesL_ (some 37) rfl rfl Tryd.func75 (by kernel_rfl) rfl #[.int .i64 x2_1,.int .i64 x3_2] rfl (by(try simp only [List.map_toArray,List.map_cons,List.map_nil]);first|done|rfl|(simp only [List.length_drop,List.length_take];rfl)) ?_;(with_reducible refine(when_size.calls k2 x2_1 x3_2 t128 _ A9.out).mono ?_);rintro e w' ⟨rfl,⟨nd,rfl⟩⟩;refine⟨_,rfl,?_⟩;(try clear A9)))
        go_roundg k2
        case measure=>have:=HK1.out;have:=HK2.out;omega
        case rel=>exact⟨(wrap64 (x3_2+1)),(wrap64 (x9_2-t128)),(by first|rfl|(simp;done)|(simp [*];done)),(by first|rfl|(simp;done)|(simp [*];done)),H',⟨by have:=HK1.out;have:=HK2.out;omega⟩,by repeat (first|exact Drawn0.refl _|apply Drawn0.step)⟩
       ·skip
        have c8b0:decide (t127≤x9_2)=false:=decide_eq_false c8
        clear c8
        simp only [Option.some.injEq,Prod.mk.injEq] at H
        obtain⟨rfl,rfl,rfl,rfl,rfl,rfl,rfl⟩:=H
        go_wp2_with (first|((with_reducible refine gate_callee (f:=75) rfl ?_);refine goesL_ (some 32) rfl rfl Tryd.func75 (by kernel_rfl) rfl #[.int .i64 x2_1,.int .i64 x3_2] rfl (by(try simp only [List.map_toArray,List.map_cons,List.map_nil]);first|done|rfl|(simp only [List.length_drop,List.length_take];rfl)) ?_;(with_reducible refine(when_size.calls k2 x2_1 x3_2 t127 _ A7.out).mono ?_);rintro e w' ⟨rfl,⟨nd,rfl⟩⟩;refine⟨_,rfl,?_⟩))
        refine bodyPost_ret (results_list (rs:=[.tmp 2,.tmp 3,.tmp 4,.tmp 5,.tmp 6,.tmp 7,.tmp 8]) rfl (by simp) (.tmp (.tmp (.tmp (.tmp (.tmp (.tmp (.tmp .nil)))))))) rfl ?_
        exact⟨by first|rfl|(simp;done)|(simp [*];done),by repeat (first|exact Drawn0.refl _|apply Drawn0.step)⟩
 ·replace c3:=Bool.eq_false_iff.mpr c3
  subst c3
  replace H:=itF H
  simp only [Option.some.injEq,Prod.mk.injEq] at H
  obtain⟨rfl,rfl,rfl,rfl,rfl,rfl,rfl⟩:=H
  go_enter Tryd.func48,Tryd.ntmps48
  go_wp2_with (first|((with_reducible refine gate_callee (f:=73) rfl ?_);refine goesL_ (some 11) rfl rfl Tryd.func73 (by kernel_rfl) rfl #[.int .i64 a0] rfl (by(try simp only [List.map_toArray,List.map_cons,List.map_nil]);first|done|rfl|(simp only [List.length_drop,List.length_take];rfl)) ?_;(with_reducible refine(when_is.calls a0 false _ A2.out).mono ?_);rintro e w' ⟨rfl,⟨nd,rfl⟩⟩;refine⟨_,rfl,?_⟩))
  refine bodyPost_ret (results_list (rs:=[.tmp 2,.tmp 3,.tmp 4,.tmp 5,.tmp 6,.tmp 7,.tmp 8]) rfl (by simp) (.tmp (.tmp (.tmp (.tmp (.tmp (.tmp (.tmp .nil)))))))) rfl ?_
  exact⟨by first|rfl|(simp;done)|(simp [*];done),by repeat (first|exact Drawn0.refl _|apply Drawn0.step)⟩
def when_put.l0:Nat→Int→List Int→Int→Option (ByteArray)
 | 0,_,_,_=>none
 | k+1,x0,x5,x6=>if x6 ≥ 0 then(if 0≤x6 then(if x6<(x5.length:Int) then(when_put.l0 k (wrap64 (Int.tdiv x0 10)) (x5.set (x6:Int).toNat ((48+((Int.tmod x0 10) % 256)) % 256)) (wrap64 (x6-1))) else(none)) else(none)) else(some (strOfNums x5))
def when_put.f (k:Nat) (a0:Int) (a1:Int):Option (ByteArray):=if 0≤a1 then(if(a1:Int).toNat≤281474976710656 then(when_put.l0 k a0 (List.replicate (a1:Int).toNat 0) (wrap64 (a1-1))) else(none)) else(none)
theorem when_put.mono_l:∀ k,(∀ y0 y1 y2,LeO (when_put.l0 k y0 y1 y2) (when_put.l0 (k+1) y0 y1 y2))
 | 0=>fun _ _ _ r h=>by simp [when_put.l0] at h
 | k+1=>by
  have ih0:=when_put.mono_l k
  ·intro y0 y1 y2
   unfold when_put.l0
   repeat' first
   | (with_reducible exact ih0 _ _ _)
   | (with_reducible exact LeO.refl _)
   | (with_reducible exact LeO.none _)
   | (with_reducible refine LeO.ite ?_ ?_)
   | (with_reducible refine LeO.bind ?_ (fun _=>?_))
   | exact ih0 _ _ _
   | exact LeO.none _
   | refine LeO.ite ?_ ?_
   | refine LeO.bind ?_ (fun _=>?_)
theorem when_put.mono:∀ a0 a1 k,LeO (when_put.f k a0 a1) (when_put.f (k+1) a0 a1):=by
 intro a0 a1 k
 have ih0:=when_put.mono_l k
 unfold when_put.f
 repeat' first
   | (with_reducible exact ih0 _ _ _)
   | (with_reducible exact LeO.refl _)
   | (with_reducible exact LeO.none _)
   | (with_reducible refine LeO.ite ?_ ?_)
   | (with_reducible refine LeO.bind ?_ (fun _=>?_))
   | exact ih0 _ _ _
   | exact LeO.none _
   | refine LeO.ite ?_ ?_
   | refine LeO.bind ?_ (fun _=>?_)
theorem when_put.calls (k:Nat) (a0:Int) (a1:Int) (r:ByteArray) (w:World) (h:when_put.f k a0 a1=some r) :
  Calls Tryd.prog 49 #[.int .i64 a0,.int .i64 a1] w fun e w'=>e = .returned (.string r)∧Below w.heap.size w w':=by
 have HB:=Aside0.mk (Below.refl w.heap.size w)
 unfold when_put.f at h
 have H:=h
 clear h
 replace H:=itO H
 rcases H with⟨c3,H⟩|⟨c3,H⟩
 ·skip
  have c3b0:=eq_true c3
  have c3b1:=decide_eq_true c3
  clear c3
  replace H:=itO H
  rcases H with⟨c4,H⟩|⟨c4,H⟩
  ·skip
   have c4b0:=eq_true c4
   have c4b1:=decide_eq_true c4
   clear c4
   obtain⟨y129,hy129⟩ : ∃ y_:List Int,y_=(List.replicate (a1:Int).toNat 0):=⟨_,rfl⟩
   replace H:(when_put.l0 k a0 y129 (wrap64 (a1-1)))=some r:=by first|(rw [hy129];with_reducible exact H)|(have H2_:=(Option.bind_some _ _).symm.trans H;rw [hy129];with_reducible exact H2_)|(have H2_:=(Option.bind_some _ _).symm.trans H;with_reducible exact H2_)|with_reducible exact H|(rw [hy129];exact H)|exact H
   have Ny129:=Aside0.mk hy129
   clear hy129
   have H':=Aside0.mk H
   clear H
   go_enter Tryd.func49,Tryd.ntmps49
   go_wp2_with (first|((with_reducible refine gate_dst (N:=8) rfl ?_);refine Kd.R_make (Kd.int .u8) _ 5 rfl (N:=8) rfl 23 _ _ rfl a1 rfl rfl Tryd.underlying23 (.int .u8 0) 1 info5 rfl (by decide) (by omega) 0 (ok:=fun _=>True) (okp:=fun _=>True) rfl (fun _ hk=>hk) trivial (of_decide_eq_true (by first|(with_reducible assumption)|assumption)) (Nat.le_trans (Nat.mul_le_mul_right _ (of_decide_eq_true (by first|(with_reducible assumption)|assumption):a1.toNat≤281474976710656)) (by omega)) (Below.refl _ _) (Nat.le_refl _) ?_;intro v130 w5 ho6 hb hg_ hnew_;clear hg_ hnew_;(first|rw [← Ny129.out] at ho6|(simp only [Int.reduceToNat] at ho6;rw [← Ny129.out] at ho6));have n0_:=Aside0.mk (Kd.R_lower ho6 (below_size (by repeat (first|(with_reducible first|exact HB.out|apply below_alloc|apply pw_below_drewN|apply below_drew1)|exact HB.out))));have n1_:=Aside0.mk (below_step (by repeat (first|(with_reducible first|exact HB.out|apply below_alloc|apply pw_below_drewN|apply below_drew1)|exact HB.out)) hb);clear HB;have HO131:=n0_;have HB:=n1_;clear n0_ n1_;clear hb ho6))
   go_loopg [0,6] k (fun kq v0 v6 w'=>∃ (x0_1:Int) (x5_1:List Int) (x6_1:Int),v0 = .int .i64 x0_1∧v6 = .int .i64 x6_1∧Aside0 (when_put.l0 kq x0_1 x5_1 x6_1=some r)∧Aside0 (kq≤k)∧Aside0 (Kd.R (Kd.int .u8) 5 w' w.heap.size (fun _=>True) v130 x5_1)∧Aside0 (Below w.heap.size w w'))
   case atStart=>exact⟨(a0),(y129),(wrap64 (a1-1)),(by first|rfl|(simp;done)|(simp [*];done)),(by first|rfl|(simp;done)|(simp [*];done)),H',⟨Nat.le_refl _⟩,⟨by(with_reducible repeat (first|apply Kd.R_alloc|apply Kd.R_drewN|apply Kd.R_drew));exact HO131.out⟩,⟨by repeat (first|(with_reducible first|exact HB.out|apply below_alloc|apply pw_below_drewN|apply below_drew1)|exact HB.out)⟩⟩
   case round=>
    clear H'
    try clear p2
    try clear c3
    try clear c3b0
    try clear c3b1
    try clear c4
    try clear c4b0
    try clear c4b1
    try clear p6
    obtain⟨x0_1,x5_1,x6_1,rfl,rfl,HA,HK1,HO_5,HB⟩:=hrel
    cases gk with
    | zero=>exact absurd HA.out (by simp [when_put.l0])
    | succ k1=>
     have H:=HA.out
     clear HA
     simp only [when_put.l0] at H
     replace H:=itO H
     rcases H with⟨c7,H⟩|⟨c7,H⟩
     ·skip
      have c7b0:decide (0≤x6_1)=true:=decide_eq_true c7
      clear c7
      replace H:=itO H
      rcases H with⟨c8,H⟩|⟨c8,H⟩
      ·skip
       have c8b0:decide (0≤x6_1)=true:=decide_eq_true c8
       clear c8
       replace H:=itO H
       rcases H with⟨c9,H⟩|⟨c9,H⟩
       ·skip
        have c9b0:decide (x6_1<(x5_1.length:Int))=true:=decide_eq_true c9
        clear c9
        obtain⟨y132,hy132⟩ : ∃ y_:List Int,y_=(x5_1.set (x6_1:Int).toNat ((48+((Int.tmod x0_1 10) % 256)) % 256)):=⟨_,rfl⟩
        replace H:(when_put.l0 k1 (wrap64 (Int.tdiv x0_1 10)) y132 (wrap64 (x6_1-1)))=some r:=by first|(rw [hy132];with_reducible exact H)|(have H2_:=(Option.bind_some _ _).symm.trans H;rw [hy132];with_reducible exact H2_)|(have H2_:=(Option.bind_some _ _).symm.trans H;with_reducible exact H2_)|with_reducible exact H|(rw [hy132];exact H)|exact H
        have Ny132:=Aside0.mk hy132
        clear hy132
        have H':=Aside0.mk H
        clear H
        have p10:0≤(x6_1:Int):=of_decide_eq_true (by first|(with_reducible assumption)|assumption)
        have q10:(x6_1:Int)<((x5_1.length:Int):Int):=of_decide_eq_true (by first|(with_reducible assumption)|assumption)
        obtain⟨go10,co10,eo10,gb10,gl10,cl10,HG10⟩:=Kd.R_form HO_5.out (by omega)
        (first|cases eo10|(injection eo10 with ea_ en_ ec_;(first|subst ea_|(injection ea_ with ea_;subst ea_));subst ec_;clear en_))
        have GB10:=Aside0.mk gb10
        have GG10:=Aside0.mk HG10
        clear gb10 gl10 HG10
        obtain⟨hx10_0,hf10_0⟩:=Kd.R_celln 0 HO_5.out (x6_1:Int) p10 q10
        replace p10:=eq_true p10
        replace q10:=eq_true q10
        have HP11:=Kd.R_putg HO_5.out (x6_1:Int) ((48+((Int.tmod x0_1 10) % 256)) % 256)
        go_wp2_with (first|((with_reducible refine gate_store (t:=5) (p:=21) rfl ?_);refine store_event (t:=5) (p:=21) (v:=?vo_w12) (w1:=(wr.setCell ⟨go10,(x6_1:Int).toNat,none⟩ (.int .u8 ((48+((Int.tmod x0_1 10) % 256)) % 256)))) ?hg ?ho ?hn ?hr ?_;(case ho=>rfl);(case hg=>rfl);(case hn=>rfl);(case hr=>first|(go_simp;done)|(go_simp;rfl));intro w12 hw;have hg:wr.grownBy w12 (some go10):=(by rw [hw];exact HP11.2);have hp_:Kd.R (Kd.int .u8) 5 w12 w.heap.size (fun _=>True) (.slice (some ⟨go10,0,none⟩) x5_1.length co10) y132:=(by rw [hw,Ny132.out];exact HP11.1);clear HP11;have n0_:=Aside0.mk (hp_);have n1_:=Aside0.mk ((by rw [hw];exact below_set (HB.out) GB10.out:Below w.heap.size w w12));clear HO_5;clear HB;have HO_5:=n0_;have HB:=n1_;clear n0_ n1_;clear hg hw hp_))
        go_roundg k1
        case measure=>have:=HK1.out;omega
        case rel=>exact⟨(wrap64 (Int.tdiv x0_1 10)),(y132),(wrap64 (x6_1-1)),(by first|rfl|(simp;done)|(simp [*];done)),(by first|rfl|(simp;done)|(simp [*];done)),H',⟨by have:=HK1.out;omega⟩,⟨by(with_reducible repeat (first|apply Kd.R_alloc|apply Kd.R_drewN|apply Kd.R_drew));exact HO_5.out⟩,⟨by repeat (first|(with_reducible first|exact HB.out|apply below_alloc|apply pw_below_drewN|apply below_drew1)|exact HB.out)⟩⟩
       ·exact absurd H (by simp)
      ·exact absurd H (by simp)
     ·skip
      have c7b0:decide (0≤x6_1)=false:=decide_eq_false c7
      clear c7
      obtain rfl:=Option.some.inj H
      have hcv13:=own_string (P:=Tryd.prog) Tryd.underlying23 Tryd.underlying5 Tryd.underlying9 (Kd.own_of_R HO_5.out)
      go_wp2
      go_ret
      exact⟨by first|rfl|(simp [errW_none,errW_some] <;> rfl)|(simp [*,errW_none,errW_some] <;> rfl),by repeat (first|(with_reducible first|exact HB.out|apply below_alloc|apply pw_below_drewN|apply below_drew1)|exact HB.out)⟩
  ·exact absurd H (by simp)
 ·exact absurd H (by simp)
end Go.Proofs.YtfjidcmegacibaaDoor.Q
