/- A part of the proof of the seat's laws. No condition beyond those in the theorems. -/
import Derived.Test.YtklcgncaclggcaaDoorZBase
import Derived.Test.YtklcgncaclggcaaDoorZRepS
import Derived.Test.YtklcgncaclggcaaDoorZAnyS
import Derived.Laws.RangeString
import Derived.Lib.Hide
import Derived.WalkMore
import Derived.Deep.WholeRow
import Derived.Lib.OthersKept
import Derived.Test.YtklcgncaclggcaaDoorZQ0g17

namespace Go.Proofs.YtklcgncaclggcaaDoor.Q
open Go.RowKit Go.Proofs.YtklcgncaclggcaaDoorW.PrintWords Go.Proofs.YtklcgncaclggcaaDoorW.PrintLast Go.Proofs.YtklcgncaclggcaaDoorW.PrintMore
set_option linter.unusedVariables false
set_option linter.unusedSimpArgs false
set_option maxHeartbeats 8000000
set_option maxRecDepth 100000
attribute [local go_sem] max2_int min2_int max_two min_two max_three min_three max_four min_four   
theorem strings_ContainsAny.lit (pos:Nat) (h:pos<2):(Utf8.decode (⟨#[60,38]⟩ : ByteArray) pos).2=1∧(((Utf8.decode (⟨#[60,38]⟩ : ByteArray) pos).1:Int) == 65533)=false∧¬ ((Utf8.decode (⟨#[60,38]⟩ : ByteArray) pos).1:Int)=65533:=by
 rcases pos with _|_|n
 ·decide
 ·decide
 ·omega
theorem strings_ContainsAny.rune1 (w:World) :
  Calls Tryd.prog 96 #[.string (⟨#[60,38]⟩ : ByteArray),.int .i32 65533] w fun e w'=>e = .returned (.int .i64 (-1))∧Below w.heap.size w w':=by
 go_enter Tryd.func96,Tryd.ntmps96
 go_wp2
 go_loopw [] (fun wr=>∃ pos:Nat,Hid (wr.heap[w.heap.size]? = some (.stringIter (⟨#[60,38]⟩ : ByteArray) pos)∧Below w.heap.size w wr∧pos≤2)) (fun wr=>2-wr.iterPos w.heap.size)
 case atStart=>
  exact⟨0,Lib.hid ⟨World.iter_heap w _ 0,(Below.refl _ w).alloc (Nat.le_refl _) _,by omega⟩⟩
 case round=>
  obtain⟨pos,hI⟩:=hrel
  by_cases hp:pos<2
  ·have hit:=hI.out.1
   have hnx:∀ ty,(Instr.next (.pointer (some ⟨w.heap.size,0,none⟩)) true ty).run Tryd.prog wr=_:=fun ty=>Lib.run_next_any_at wr w.heap.size (⟨#[60,38]⟩ : ByteArray) pos ty hit hp
   obtain⟨hw1,hne,hne2⟩:=strings_ContainsAny.lit pos hp
   have hB2:=Lib.below_iterAt hI.out.2.1 (k:=w.heap.size) (Nat.le_refl _) (⟨#[60,38]⟩ : ByteArray) (pos+(Utf8.decode (⟨#[60,38]⟩ : ByteArray) pos).2)
   have hit2:=Lib.iterAt_heap wr w.heap.size (⟨#[60,38]⟩ : ByteArray) pos (pos+(Utf8.decode (⟨#[60,38]⟩ : ByteArray) pos).2) hit
   obtain⟨W2,hW2⟩ : ∃ W2,wr.iterAt w.heap.size (⟨#[60,38]⟩ : ByteArray) (pos+(Utf8.decode (⟨#[60,38]⟩ : ByteArray) pos).2)=W2:=⟨_,rfl⟩
   rw [hW2] at hB2 hit2
   simp only [hW2] at hnx
   have hmeas:2-W2.iterPos w.heap.size<2-wr.iterPos w.heap.size:=by simp only [World.iterPos,hit2,hit];omega
   rw [hw1] at hit2
   have hkeep:=Lib.hid (And.intro hB2 (And.intro hit2 (And.intro hmeas hp)))
   clear hW2 hB2 hit2 hmeas hit hp hw1
   obtain⟨c,hcc⟩ : ∃ c:Int,((Utf8.decode (⟨#[60,38]⟩ : ByteArray) pos).1:Int)=c:=⟨_,rfl⟩
   rw [hcc] at hne hne2
   simp only [hcc] at hnx
   have hne3:=eq_false hne2
   clear hne2 hcc
   go_wp2
   go_roundw
   case rel=>exact⟨pos+1,Lib.hid ⟨hkeep.out.2.1,hkeep.out.1,by have:=hkeep.out.2.2.2;omega⟩⟩
   case measure=>exact hkeep.out.2.2.1
  ·have hnx:∀ ty,(Instr.next (.pointer (some ⟨w.heap.size,0,none⟩)) true ty).run Tryd.prog wr=_:=fun ty=>Lib.run_next_end_at wr w.heap.size (⟨#[60,38]⟩ : ByteArray) pos ty hI.out.1 hp
   go_wp2
   go_ret
   exact⟨rfl,hI.out.2.1⟩
theorem strings_ContainsAny.rune2 (c:Int) (h:128≤c) (hc:¬ c=65533) (E:ByteArray) (hE:Utf8.encode c=E) (hn:E.size=2∨E.size=3∨E.size=4) (hx:128≤bt E 1) (w:World) :
  Calls Tryd.prog 96 #[.string (⟨#[60,38]⟩ : ByteArray),.int .i32 c] w fun e w'=>e = .returned (.int .i64 (-1))∧Below w.heap.size w w':=by
 have t1:(0≤c)=True:=eq_true (by omega)
 have t2:decide (0≤c)=true:=decide_eq_true (by omega)
 have t3:(c<128)=False:=eq_false (by omega)
 have t4:decide (c<128)=false:=decide_eq_false (by omega)
 have t5:(c == 65533)=false:=beq_eq_false_iff_ne.mpr hc
 have t6:=eq_false hc
 clear hc h
 obtain⟨v,hv⟩ : ∃ v,utf8_ValidRune.f 2 c=some v:=by
  unfold utf8_ValidRune.f
  (repeat' split) <;> rw [utf8_ValidRune.j0] <;> (repeat' split) <;> exact⟨_,rfl⟩
 have hv':=Lib.hid hv
 clear hv
 cases v
 ·go_enter Tryd.func96,Tryd.ntmps96
  go_wp2_with (go_at_call 101;refine(utf8_ValidRune.calls 2 c false _ hv'.out).mono ?_;rintro e1 w1 ⟨rfl,⟨⟨nd,rfl⟩⟩⟩)
  go_ret
  exact⟨rfl,pw_below_drewN (Below.refl _ _) _⟩
 ·obtain⟨x,hxx⟩ : ∃ x,bt E 1=x:=⟨_,rfl⟩
  have hat:=bt_at E 1
  rw [hxx] at hx hat
  have u1:(38 != x)=true:=bne_iff_ne.mpr (by omega)
  have u2:(38 == x)=false:=beq_eq_false_iff_ne.mpr (by omega)
  have u3:(38=x)=False:=eq_false (by omega)
  have hIB:=Lib.hid (show strings_IndexByte.f ((⟨#[60,38]⟩ : ByteArray).extract 2 2) x=some (-1) from rfl)
  have hat2:∀ h:1<E.size,((E[1]'h).toNat:Int)=x:=fun h=>hat h
  have hw2:IntKind.i64.wrap 2=2:=by decide
  have u4:((((⟨#[60,38]⟩ : ByteArray)[1]'(by decide)).toNat:Int) != x)=true:=u1
  clear hx hxx
  rcases hn with hn|hn|hn
  ·go_enter Tryd.func96,Tryd.ntmps96
   go_wp2_with (go_at_call 101;refine(utf8_ValidRune.calls 2 c true _ hv'.out).mono ?_;rintro e1 w1 ⟨rfl,⟨⟨nd,rfl⟩⟩⟩)
   go_step3
   go_wp2
   go_loopw [9] (fun v9 wr=>v9 = .int .i64 1∧Hid (Below w.heap.size w wr)) (fun _ _=>0)
   case atStart=>exact⟨rfl,Lib.hid (pw_below_drewN (Below.refl _ _) _)⟩
   case round=>
    obtain⟨rfl,hI⟩:=hrel
    go_wp2
    go_step3
    go_wp2
    go_quiet (fail)
    go_wp2
    go_quiet (first|(go_at_call 79;refine(strings_IndexByte.calls ((⟨#[60,38]⟩ : ByteArray).extract 2 2) x (-1) _ hIB.out).mono ?_;rintro e_ w_ ⟨rfl,⟨⟨nd,rfl⟩⟩⟩;(try first|exact⟨rfl,_,World.drewN_drewN _ _ _⟩|exact⟨rfl,_,Eq.trans (World.drewN_drewN _ _ _) (congrArg (World.drewN _) (Nat.add_assoc _ _ _))⟩)))
    go_wp2
    show bodyPost Tryd.prog Tryd.f96 (fun e w'=>e=Ending.returned (Value.int IntKind.i64 (-1))∧Below w.heap.size w w') Exit.ret _ _
    go_ret
    exact⟨rfl,pw_below_drewN hI.out _⟩
  ·go_enter Tryd.func96,Tryd.ntmps96
   go_wp2_with (go_at_call 101;refine(utf8_ValidRune.calls 2 c true _ hv'.out).mono ?_;rintro e1 w1 ⟨rfl,⟨⟨nd,rfl⟩⟩⟩)
   go_step3
   go_wp2
   go_loopw [9] (fun v9 wr=>v9 = .int .i64 2∧Hid (Below w.heap.size w wr)) (fun _ _=>0)
   case atStart=>exact⟨rfl,Lib.hid (pw_below_drewN (Below.refl _ _) _)⟩
   case round=>
    obtain⟨rfl,hI⟩:=hrel
    go_wp2
    try simp only [Exit.noGoto,Exit.inBlock]
    go_ret
    exact⟨rfl,hI.out⟩
  ·go_enter Tryd.func96,Tryd.ntmps96
   go_wp2_with (go_at_call 101;refine(utf8_ValidRune.calls 2 c true _ hv'.out).mono ?_;rintro e1 w1 ⟨rfl,⟨⟨nd,rfl⟩⟩⟩)
   go_step3
   go_wp2
   go_loopw [9] (fun v9 wr=>v9 = .int .i64 3∧Hid (Below w.heap.size w wr)) (fun _ _=>0)
   case atStart=>exact⟨rfl,Lib.hid (pw_below_drewN (Below.refl _ _) _)⟩
   case round=>
    obtain⟨rfl,hI⟩:=hrel
    go_wp2
    try simp only [Exit.noGoto,Exit.inBlock]
    go_ret
    exact⟨rfl,hI.out⟩
theorem strings_ContainsAny.enc (c:Int) (h:128≤c):((Utf8.encode c).size=2∨(Utf8.encode c).size=3∨(Utf8.encode c).size=4)∧128≤bt (Utf8.encode c) 1:=by
 obtain⟨m,hm,hm2⟩ : ∃ m:Nat,(if Utf8.valid c=true then c.toNat else Utf8.runeError)=m∧128≤m:=by
  refine⟨_,rfl,?_⟩
  split
  ·omega
  ·decide
 have hb:∀ (l:Array UInt8) (x:Nat) (q:1<l.size),l[1]=UInt8.ofNat (128+x % 64)→128≤bt (⟨l⟩ : ByteArray) 1:=by
  intro l x q e
  have:=bt_at (⟨l⟩ : ByteArray) 1 q
  rw [← this]
  show(128:Int)≤((l[1].toNat:Nat):Int)
  rw [e,UInt8.toNat_ofNat']
  omega
 unfold Utf8.encode
 simp only [hm]
 rw [if_neg (by omega)]
 split
 ·exact⟨.inl rfl,hb _ m (by simp) rfl⟩
 ·split
  ·exact⟨.inr (.inl rfl),hb _ (m / 64) (by simp) rfl⟩
  ·exact⟨.inr (.inr rfl),hb _ (m / 4096) (by simp) rfl⟩
def strings_ContainsAny.ix (c:Int):Int:=if c=60 then 0 else if c=38 then 1 else -1
theorem strings_ContainsAny.rune (c:Int) (h:0≤c) (w:World) :
  Calls Tryd.prog 96 #[.string (⟨#[60,38]⟩ : ByteArray),.int .i32 c] w fun e w'=>e = .returned (.int .i64 (strings_ContainsAny.ix c))∧Below w.heap.size w w':=by
 by_cases h1:c<128
 ·refine(Tryd.strings_IndexRune_ascii (⟨#[60,38]⟩ : ByteArray) c w h h1).mono fun e w' ⟨h2,h3⟩=>⟨?_,h3▸Below.refl _ _⟩
  have key:∀ n:Fin 128,Lib.indexByte [60,38] ((n.val:Int).toNat.toUInt8)=strings_ContainsAny.ix (n.val:Int):=by decide
  obtain⟨m,rfl⟩ : ∃ m:Nat,c=(m:Int):=⟨c.toNat,by omega⟩
  rw [h2,← key ⟨m,by omega⟩]
 ·have hi:strings_ContainsAny.ix c = -1:=by unfold strings_ContainsAny.ix;rw [if_neg (by omega),if_neg (by omega)]
  rw [hi]
  by_cases h2:c=65533
  ·subst h2;exact strings_ContainsAny.rune1 w
  ·obtain⟨e1,e2⟩:=strings_ContainsAny.enc c (by omega)
   exact strings_ContainsAny.rune2 c (by omega) h2 _ rfl e1 e2 w
def strings_ContainsAny.g (s:ByteArray):Nat→Nat→Int
 | 0,_=>-1
 | k+1,pos=>if pos<s.size then(if 0≤strings_ContainsAny.ix ((Utf8.decode s pos).1:Int) then(pos:Int) else strings_ContainsAny.g s k (pos+(Utf8.decode s pos).2)) else -1
theorem strings_ContainsAny.g_end (s:ByteArray) (k pos:Nat) (h:¬ pos<s.size):strings_ContainsAny.g s k pos = -1:=by
 cases k with
 | zero=>rfl
 | succ k=>rw [strings_ContainsAny.g,if_neg h]
theorem strings_ContainsAny.short (s:ByteArray) (h8:s.size≤8) (w:World) :
  Calls Tryd.prog 89 #[.string s,.string (⟨#[60,38]⟩ : ByteArray)] w fun e w'=>e = .returned (.int .i64 (strings_ContainsAny.g s s.size 0))∧Below w.heap.size w w':=by
 have hS:=Lib.hid (show strings_shouldUseASCIISet.f (s.size:Int)=some false by unfold strings_shouldUseASCIISet.f;rw [decide_eq_false (by omega)])
 go_enter Tryd.func89,Tryd.ntmps89
 go_wp2_with (go_at_call 97;refine(strings_shouldUseASCIISet.calls (s.size:Int) false _ hS.out).mono ?_;rintro e1 w1 ⟨rfl,⟨⟨nd,rfl⟩⟩⟩)
 go_wp2
 go_loopw [] (fun wr=>∃ pos fuel:Nat,Hid (wr.heap[w.heap.size]? = some (.stringIter s pos)∧Below w.heap.size w wr∧strings_ContainsAny.g s fuel pos=strings_ContainsAny.g s s.size 0∧s.size≤pos+fuel)) (fun wr=>s.size-wr.iterPos w.heap.size)
 case atStart=>exact⟨0,s.size,Lib.hid ⟨World.iter_heap _ s 0,(pw_below_drewN (Below.refl _ w) _).alloc (Nat.le_refl _) _,rfl,by omega⟩⟩
 case round=>
  obtain⟨pos,fuel,hI⟩:=hrel
  by_cases hp:pos<s.size
  ·have hit:=hI.out.1
   have hnx:∀ ty,(Instr.next (.pointer (some ⟨w.heap.size,0,none⟩)) true ty).run Tryd.prog wr=_:=fun ty=>Lib.run_next_any_at wr w.heap.size s pos ty hit hp
   have hwd:=chars_Count.width_pos s pos hp
   have hB2:=Lib.below_iterAt hI.out.2.1 (k:=w.heap.size) (Nat.le_refl _) s (pos+(Utf8.decode s pos).2)
   have hit2:=Lib.iterAt_heap wr w.heap.size s pos (pos+(Utf8.decode s pos).2) hit
   obtain⟨W2,hW2⟩ : ∃ W2,wr.iterAt w.heap.size s (pos+(Utf8.decode s pos).2)=W2:=⟨_,rfl⟩
   rw [hW2] at hB2 hit2
   simp only [hW2] at hnx
   obtain⟨f,rfl⟩ : ∃ f,fuel=f+1:=⟨fuel-1,by have:=hI.out.2.2.2;omega⟩
   have hmeas:s.size-W2.iterPos w.heap.size<s.size-wr.iterPos w.heap.size:=by simp only [World.iterPos,hit2,hit];omega
   have hpos:=Lib.hid (And.intro hp hwd)
   have hkp:=Lib.hid hB2
   have hki:=Lib.hid hit2
   have hlt:=Lib.hid (show w.heap.size<W2.heap.size from Classical.byContradiction fun q=>by rw [Array.getElem?_eq_none (Nat.le_of_not_lt q)] at hit2;cases hit2)
   have hkm:=Lib.hid hmeas
   have hfr:Hid (s.size≤pos+(f+1)):=Lib.hid hI.out.2.2.2
   clear hW2 hB2 hit2 hmeas hwd hit hp
   have hg:=Lib.hid (show strings_ContainsAny.g s (f+1) pos=(if 0≤strings_ContainsAny.ix ((Utf8.decode s pos).1:Int) then(pos:Int) else strings_ContainsAny.g s f (pos+(Utf8.decode s pos).2)) by rw [strings_ContainsAny.g,if_pos hpos.out.1])
   obtain⟨c,hcc⟩ : ∃ c:Int,((Utf8.decode s pos).1:Int)=c:=⟨_,rfl⟩
   have hc0:=Lib.hid (show 0≤c by omega)
   rw [hcc] at hg
   simp only [hcc] at hnx
   clear hcc
   obtain⟨i,hi⟩ : ∃ i,strings_ContainsAny.ix c=i:=⟨_,rfl⟩
   rw [hi] at hg
   by_cases hx:0≤i
   ·have x1:=eq_true hx
    have x2:=decide_eq_true hx
    rw [if_pos hx] at hg
    clear hx
    go_wp2_with (go_at_call 96;refine(strings_ContainsAny.rune c hc0.out _).mono ?_;rw [hi];rintro e9 w9 ⟨rfl,hb9⟩;have hb9':=Lib.hid hb9;clear hb9)
    go_ret
    exact⟨by rw [← hI.out.2.2.1,hg.out];rfl,below_step hkp.out hb9'.out⟩
   ·have x1:=eq_false hx
    have x2:=decide_eq_false hx
    rw [if_neg hx] at hg
    clear hx
    go_wp2_with (go_at_call 96;refine(strings_ContainsAny.rune c hc0.out _).mono ?_;rw [hi];rintro e9 w9 ⟨rfl,hb9⟩;have hb9':=Lib.hid hb9;clear hb9)
    go_roundw
    case rel=>exact⟨pos+(Utf8.decode s pos).2,f,Lib.hid ⟨(hb9'.out.block _ hlt.out).trans hki.out,below_step hkp.out hb9'.out,hg.out.symm.trans hI.out.2.2.1,by have:=hfr.out;have:=hpos.out.2;omega⟩⟩
    case measure=>
     have e9:w9.iterPos w.heap.size=W2.iterPos w.heap.size:=by simp only [World.iterPos,hb9'.out.block _ hlt.out]
     rw [e9]
     exact hkm.out
  ·have hnx:∀ ty,(Instr.next (.pointer (some ⟨w.heap.size,0,none⟩)) true ty).run Tryd.prog wr=_:=fun ty=>Lib.run_next_end_at wr w.heap.size s pos ty hI.out.1 hp
   go_wp2
   go_ret
   exact⟨by rw [← hI.out.2.2.1,strings_ContainsAny.g_end s fuel pos hp];rfl,hI.out.2.1⟩
def strings_ContainsAny.f (a0 a1:ByteArray):Option Bool:=if a0.size<4294967281∧a1=⟨#[60,38]⟩ then some (if 8<a0.size then decide (0≤Lib.indexAny a0.data.toList [60,38]) else decide (0≤strings_ContainsAny.g a0 a0.size 0)) else none
theorem strings_ContainsAny.calls (a0 a1:ByteArray) (r:Bool) (w:World) (h:strings_ContainsAny.f a0 a1=some r) :
  Calls Tryd.prog 80 #[.string a0,.string a1] w fun e w'=>e = .returned (.bool r)∧Below w.heap.size w w':=by
 unfold strings_ContainsAny.f at h
 by_cases c:a0.size<4294967281∧a1=⟨#[60,38]⟩
 ·rw [if_pos c] at h
  obtain⟨c1,rfl⟩:=c
  obtain⟨v,hv,hr⟩ : ∃ v,(Calls Tryd.prog 89 #[.string a0,.string (⟨#[60,38]⟩ : ByteArray)] w fun e w'=>e = .returned (.int .i64 v)∧Below w.heap.size w w')∧r=decide (0≤v):=by
   by_cases h8:8<a0.size
   ·rw [if_pos h8] at h
    refine⟨_,(Tryd.strings_IndexAny_long (zero_of_info (n:=256) (by kernel_rfl)).1 a0 (⟨#[60,38]⟩ : ByteArray) w (by decide) h8 c1 (by decide) ?_).mono fun e w' ⟨h1,h2⟩=>⟨h1,?_⟩,(Option.some.inj h).symm⟩
    ·intro j b hb
     have hm:b∈([60,38]:List UInt8):=List.mem_of_getElem? hb
     rcases List.mem_cons.mp hm with rfl|hm
     ·decide
     ·rcases List.mem_cons.mp hm with rfl|hm
      ·decide
      ·cases hm
    ·rw [h2]
     exact((Below.refl _ _).alloc (Nat.le_refl _) _).alloc (by simp) _
   ·rw [if_neg h8] at h
    exact⟨_,strings_ContainsAny.short a0 (by omega) w,(Option.some.inj h).symm⟩
  subst hr
  have hc:=Aside0.mk hv
  clear h hv c1
  go_enter Tryd.func80,Tryd.ntmps80
  go_wp2_with (go_at_call 89;refine hc.out.mono ?_;rintro e w1 ⟨rfl,hb⟩;have hb':=Aside0.mk hb;clear hb)
  go_ret
  exact⟨rfl,hb'.out⟩
 ·rw [if_neg c] at h
  exact absurd h (by simp)
end Go.Proofs.YtklcgncaclggcaaDoor.Q
