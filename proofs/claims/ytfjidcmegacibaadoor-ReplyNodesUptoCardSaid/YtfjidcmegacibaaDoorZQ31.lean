/- A part of the proof of the seat's laws. No condition beyond those in the theorems. -/
import Derived.Test.YtfjidcmegacibaaDoorZBld
import Derived.Test.YtfjidcmegacibaaDoorZMarkB
import Derived.Lib.Hide
import Derived.Test.YtfjidcmegacibaaDoorZQ0g11
import Derived.Test.YtfjidcmegacibaaDoorZQ29
open Bool renaming true→T1,false→F

namespace Go.Proofs.YtfjidcmegacibaaDoor.Q
open Go.RowKit Go.Proofs.YtfjidcmegacibaaDoorW.PrintWords Go.Proofs.YtfjidcmegacibaaDoorW.PrintLast Go.Proofs.YtfjidcmegacibaaDoorW.PrintMore
set_option linter.unusedVariables false
set_option linter.unusedSimpArgs false
set_option maxHeartbeats 8000000
set_option maxRecDepth 100000
attribute [local go_sem] max2_int min2_int max_two min_two max_three min_three max_four min_four   
def reply_Print.nl:ByteArray:=⟨#[13,10]⟩
def reply_Print.top (t p d id:ByteArray):ByteArray:=
 ((((⟨#[]⟩++(⟨#[72,84,84,80,47,49,46,49,32]⟩++t++⟨#[32]⟩++p)++reply_Print.nl)++⟨#[83,101,114,118,101,114,58,32,115,116,111,119,97,103,101]⟩++reply_Print.nl)++(⟨#[68,97,116,101,58,32]⟩++d)++reply_Print.nl)++(⟨#[120,45,97,109,122,45,114,101,113,117,101,115,116,45,105,100,58,32]⟩++id)++reply_Print.nl)
def reply_Print.hd (acc:ByteArray) (h:S52):ByteArray:=acc++(h.f0++⟨#[58,32]⟩++h.f1)++reply_Print.nl
def reply_Print.tail (acc:ByteArray) (bare closes:Bool) (n:ByteArray):ByteArray:=
 (if closes=true then(if bare=true then acc else acc++(⟨#[67,111,110,116,101,110,116,45,76,101,110,103,116,104,58,32]⟩++n)++reply_Print.nl)++⟨#[67,111,110,110,101,99,116,105,111,110,58,32,99,108,111,115,101]⟩++reply_Print.nl
  else(if bare=true then acc else acc++(⟨#[67,111,110,116,101,110,116,45,76,101,110,103,116,104,58,32]⟩++n)++reply_Print.nl))++⟨#[]⟩++reply_Print.nl
def reply_Print.all (t p d id n:ByteArray) (hs:List S52) (body:List Int) (head bare closes:Bool):ByteArray:=
 if head=true then reply_Print.tail (hs.foldl reply_Print.hd (reply_Print.top t p d id)) bare closes n
 else if bare=true then reply_Print.tail (hs.foldl reply_Print.hd (reply_Print.top t p d id)) bare closes n
 else reply_Print.tail (hs.foldl reply_Print.hd (reply_Print.top t p d id)) bare closes n++strOfNums body
def reply_Print.f (k:Nat) (a0_0:Int) (l0_1:List S52) (l0_2:List Int) (a1:Bool) (a2:Int) (a3:ByteArray) (a4:Bool):Option (List Int):=
 (enc_Text.f a0_0).bind fun t=>(reply_Phrase.f a0_0).bind fun p=>(when_Http.f k a2).bind fun d=>(reply_Bare.f a0_0).bind fun bare=>(enc_Text.f (l0_2.length:Int)).bind fun n=>
  if(reply_Print.all t p d a3 n l0_1 l0_2 a1 bare a4).size≤140737488355328 then some (bytesOf (reply_Print.all t p d a3 n l0_1 l0_2 a1 bare a4)) else none
theorem reply_Print.mono:∀ a0_0 a0_1 a0_2 a1 a2 a3 a4 k,LeO (reply_Print.f k a0_0 a0_1 a0_2 a1 a2 a3 a4) (reply_Print.f (k+1) a0_0 a0_1 a0_2 a1 a2 a3 a4):=by
 intro a0_0 a0_1 a0_2 a1 a2 a3 a4 k
 unfold reply_Print.f
 exact LeO.bind (LeO.refl _) fun _=>LeO.bind (LeO.refl _) fun _=>LeO.bind (when_Http.mono _ _) fun _=>LeO.refl _
def reply_Print.t1 (t p:ByteArray):ByteArray:=⟨#[]⟩++(⟨#[72,84,84,80,47,49,46,49,32]⟩++t++⟨#[32]⟩++p)++reply_Print.nl
def reply_Print.t2 (t p:ByteArray):ByteArray:=reply_Print.t1 t p++⟨#[83,101,114,118,101,114,58,32,115,116,111,119,97,103,101]⟩++reply_Print.nl
def reply_Print.t3 (t p d:ByteArray):ByteArray:=reply_Print.t2 t p++(⟨#[68,97,116,101,58,32]⟩++d)++reply_Print.nl
theorem reply_Print.top_eq (t p d id:ByteArray):reply_Print.top t p d id=reply_Print.t3 t p d++(⟨#[120,45,97,109,122,45,114,101,113,117,101,115,116,45,105,100,58,32]⟩++id)++reply_Print.nl:=rfl
theorem reply_Print.t1_size (t p:ByteArray):(reply_Print.t1 t p).size=9+t.size+1+p.size+2:=by
 unfold reply_Print.t1 reply_Print.nl
 simp only [ByteArray.size_append]
 show 0+(9+t.size+1+p.size)+2=_
 omega
theorem reply_Print.t2_size (t p:ByteArray):(reply_Print.t2 t p).size=(reply_Print.t1 t p).size+17:=by
 unfold reply_Print.t2 reply_Print.nl
 simp only [ByteArray.size_append]
 show(reply_Print.t1 t p).size+15+2=_
 omega
theorem reply_Print.t3_size (t p d:ByteArray):(reply_Print.t3 t p d).size=(reply_Print.t2 t p).size+6+d.size+2:=by
 unfold reply_Print.t3 reply_Print.nl
 simp only [ByteArray.size_append]
 show(reply_Print.t2 t p).size+(6+d.size)+2=_
 omega
theorem reply_Print.hd_size (acc:ByteArray) (h:S52):(reply_Print.hd acc h).size=acc.size+(h.f0.size+2+h.f1.size)+2:=by
 unfold reply_Print.hd reply_Print.nl
 simp only [ByteArray.size_append]
 rfl
theorem reply_Print.fold_ge (hs:List S52):∀ acc:ByteArray,acc.size≤(hs.foldl reply_Print.hd acc).size:=by
 induction hs with
 | nil=>intro acc;exact Nat.le_refl _
 | cons h hs ih=>
  intro acc
  have:=ih (reply_Print.hd acc h)
  rw [reply_Print.hd_size] at this
  rw [List.foldl_cons]
  omega
theorem reply_Print.fold_len (hs:List S52):∀ acc:ByteArray,hs.length≤(hs.foldl reply_Print.hd acc).size:=by
 induction hs with
 | nil=>intro acc;exact Nat.zero_le _
 | cons h hs ih=>
  intro acc
  rw [List.foldl_cons]
  have h1:∀ (l:List S52) (a:ByteArray),a.size+l.length≤(l.foldl reply_Print.hd a).size:=by
   intro l
   induction l with
   | nil=>intro a;simp
   | cons x l il=>
    intro a
    have:=il (reply_Print.hd a x)
    rw [reply_Print.hd_size] at this
    rw [List.foldl_cons,List.length_cons]
    omega
  have:=h1 hs (reply_Print.hd acc h)
  rw [reply_Print.hd_size] at this
  rw [List.length_cons]
  omega
theorem reply_Print.take_ge (hs:List S52) (k:Nat) (acc:ByteArray):((hs.take k).foldl reply_Print.hd acc).size≤(hs.foldl reply_Print.hd acc).size:=by
 have h:=reply_Print.fold_ge (hs.drop k) ((hs.take k).foldl reply_Print.hd acc)
 rwa [← List.foldl_append,List.take_append_drop] at h
theorem reply_Print.snoc (hs:List S52) (k:Nat) (acc:ByteArray) (hk:k<hs.length):(hs.take (k+1)).foldl reply_Print.hd acc=reply_Print.hd ((hs.take k).foldl reply_Print.hd acc) hs[k]:=by
 rw [List.take_succ_eq_append_getElem hk,List.foldl_append]
 rfl
theorem reply_Print.tail_ge (acc:ByteArray) (bare closes:Bool) (n:ByteArray):acc.size≤(reply_Print.tail acc bare closes n).size:=by
 unfold reply_Print.tail reply_Print.nl
 cases closes <;> cases bare <;> simp only [ByteArray.size_append,if_true,Bool.false_eq_true,if_false] <;> omega
theorem reply_Print.all_ge (t p d id n:ByteArray) (hs:List S52) (body:List Int) (head bare closes:Bool):(reply_Print.tail (hs.foldl reply_Print.hd (reply_Print.top t p d id)) bare closes n).size≤(reply_Print.all t p d id n hs body head bare closes).size:=by
 unfold reply_Print.all
 cases head <;> cases bare <;> simp only [ByteArray.size_append,if_true,Bool.false_eq_true,if_false] <;> omega
theorem reply_Print.top_size (t p d id:ByteArray):(reply_Print.top t p d id).size=9+t.size+1+p.size+2+15+2+6+d.size+2+18+id.size+2:=by
 unfold reply_Print.top reply_Print.nl
 simp only [ByteArray.size_append]
 show 0+(9+t.size+1+p.size)+2+15+2+(6+d.size)+2+(18+id.size)+2=_
 omega
def reply_Print.St (w0 W:World) (b g5 g12:Nat) (cs:Array Value) (acc:ByteArray):Prop:=
 Lib.IsBuilderF 65 5 b b (Lib.strCells acc) W∧W.heap[g12]? = some (.cells #[.func (Fn.func 28) #[.pointer (some ⟨b,0,none⟩)] #[]] 66 (0,0))∧W.heap[g5]? = some (.cells cs 27 (0,0))∧Below w0.heap.size w0 W∧w0.heap.size≤b∧b≤W.heap.size
theorem reply_Print.isB_below {T e B b:Nat} {bs:List Value} {w W:World} (h:Lib.IsBuilderF T e B b bs w) (hb:Below w.heap.size w W):Lib.IsBuilderF T e B b bs W:=by
 have key:∀ p,Lib.BuilderAtF T e B b p bs w→Lib.BuilderAtF T e B b p bs W:=by
  rintro p ⟨h1,v,h2,h3,h4⟩
  refine⟨h1,v,blk_below h2 hb,h3.kept (grown_of_below hb none) ?_,h4⟩
  cases v.ownBlock with
  | none=>exact .inl rfl
  | some k=>exact .inr (by simp)
 exact h.elim (fun x=>.inl (key _ x)) (fun x=>.inr (key _ x))
theorem reply_Print.strCells_app (a b:ByteArray):Lib.strCells (a++b)=Lib.strCells a++Lib.strCells b:=by
 simp [Lib.strCells,ByteArray.data_append]
theorem reply_Print.cells_eq (a:ByteArray):Lib.strCells a=Lib.byteCells a.data.toList:=rfl
theorem reply_Print.St.below {w0 W W':World} {b g5 g12:Nat} {cs:Array Value} {acc:ByteArray} (h:reply_Print.St w0 W b g5 g12 cs acc) (hb:Below W.heap.size W W'):reply_Print.St w0 W' b g5 g12 cs acc:=
 ⟨reply_Print.isB_below h.1 hb,blk_below h.2.1 hb,blk_below h.2.2.1 hb,below_step h.2.2.2.1 hb,h.2.2.2.2.1,Nat.le_trans h.2.2.2.2.2 hb.size⟩
theorem reply_Print.St.drewN {w0 W:World} {b g5 g12:Nat} {cs:Array Value} {acc:ByteArray} (h:reply_Print.St w0 W b g5 g12 cs acc) (n:Nat):reply_Print.St w0 (W.drewN n) b g5 g12 cs acc:=h.below (pw_below_drewN (Below.refl _ _) n)
theorem reply_Print.others {w w':World} {b g t:Nat} {cs:Array Value} {fr:Nat×Nat} (h:Lib.OthersKept 5 (some b) w w') (hg:w.heap[g]? = some (.cells cs t fr)) (hne:g≠b) (ht:t≠5):w'.heap[g]? = some (.cells cs t fr):=
 h g _ hg (by simpa using hne) (fun c fz e=>by injection e with _ h2 _;exact ht h2)
theorem reply_Print.neB {w:World} {e B b g t T:Nat} {cs:Array Value} {fr:Nat×Nat} {bs:List Value} (h:Lib.IsBuilderF T e B b bs w) (hg:w.heap[g]? = some (.cells cs t fr)) (ht:t≠T):g≠b:=by
 rintro rfl
 rcases h with⟨_,v,hb,_⟩|⟨_,v,hb,_⟩ <;> (rw [hb] at hg;injection hg with hg;injection hg with _ h2 _;exact ht h2.symm)
theorem reply_Print.St.bel {w0 W:World} {b g5 g12:Nat} {cs:Array Value} {acc:ByteArray} (h:reply_Print.St w0 W b g5 g12 cs acc):Below w0.heap.size w0 W:=h.2.2.2.1
theorem reply_Print.St.o5 {w0 W:World} {b g5 g12:Nat} {cs:Array Value} {acc:ByteArray} (h:reply_Print.St w0 W b g5 g12 cs acc):W.heap[g5]? = some (.cells cs 27 (0,0)):=h.2.2.1
theorem reply_Print.put (w0 W:World) (b g5 g12:Nat) (cs:Array Value) (acc s:ByteArray) (h:reply_Print.St w0 W b g5 g12 cs acc) (hl:(acc++s).size≤140737488355328) :
  Calls Tryd.prog 28 #[.pointer (some ⟨b,0,none⟩),.string s] W fun e W'=>e = .returned (.tuple #[.int .i64 s.size,.nilIface])∧reply_Print.St w0 W' b g5 g12 cs (acc++s):=by
 obtain⟨h1,h2,h3,h4,h5,h6⟩:=h
 refine(Bld.WriteString b b _ s W h1 (by rw [Lib.strCells_length];rw [ByteArray.size_append] at hl;exact hl) h6).mono ?_
 rintro e W' ⟨rfl,k1,k2,k3⟩
 exact⟨rfl,by rw [reply_Print.strCells_app];exact k1,reply_Print.others k3 h2 (reply_Print.neB h1 h2 (by decide)) (by decide),reply_Print.others k3 h3 (reply_Print.neB h1 h3 (by decide)) (by decide),h4.trans (k2.mono h5),h5,Nat.le_trans h6 k2.size⟩
theorem reply_Print.str (w0 W:World) (b g5 g12:Nat) (cs:Array Value) (acc:ByteArray) (h:reply_Print.St w0 W b g5 g12 cs acc) :
  Calls Tryd.prog 32 #[.pointer (some ⟨b,0,none⟩)] W fun e W'=>e = .returned (.string acc)∧Below w0.heap.size w0 W'∧w0.heap.size≤W'.heap.size:=by
 refine(Bld.String_ b b acc.data.toList W (by rw [← reply_Print.cells_eq];exact h.1) h.2.2.2.2.2).mono ?_
 rintro e W' ⟨rfl,hb⟩
 refine⟨by simp,h.2.2.2.1.trans (hb.mono h.2.2.2.2.1),?_⟩
 have h1:=h.2.2.2.2.1
 have h2:=h.2.2.2.2.2
 have h3:=hb.size
 omega
theorem reply_Print.line (w0 W:World) (b g5 g12:Nat) (cs:Array Value) (acc s:ByteArray) (h:reply_Print.St w0 W b g5 g12 cs acc) (hl:(acc++s++reply_Print.nl).size≤140737488355328) :
  Calls Tryd.prog 29 #[.string s,.pointer (some ⟨g12,0,none⟩)] W fun e W'=>e = .returned (.tuple #[])∧reply_Print.St w0 W' b g5 g12 cs (acc++s++reply_Print.nl):=by
 have hh:=Lib.hid h
 have hc0:=(blk_cell h.2.1 0).trans rfl
 have hl2:=Lib.hid (show(acc++s).size≤140737488355328 by rw [ByteArray.size_append] at hl;omega)
 have hl':=Lib.hid hl
 clear h hl
 go_enter Tryd.func29,Tryd.ntmps29
 go_wp2_with fail
 refine(reply_Print.put w0 W b g5 g12 cs acc s hh.out hl2.out).mono ?_
 rintro e W1 ⟨rfl,h1⟩
 have h1':=Lib.hid h1
 have hc1:=(blk_cell h1.2.1 0).trans rfl
 clear h1 hc0
 go_wp2_with fail
 refine(reply_Print.put w0 W1 b g5 g12 cs (acc++s) reply_Print.nl h1'.out hl'.out).mono ?_
 rintro e W2 ⟨rfl,h2⟩
 have h2':=Lib.hid h2
 clear h2 hc1
 go_wp2
 go_end0
 exact⟨rfl,h2'.out⟩
theorem reply_Print.calls (k:Nat) (a0_0:Int) (A0_1:Option Addr) (c0_1:Nat) (l0_1:List S52) (A0_2:Option Addr) (c0_2:Nat) (l0_2:List Int) (a1:Bool) (a2:Int) (a3:ByteArray) (a4:Bool) (r:List Int) (w:World) (hr0_1:Kd.C k52 w A0_1 l0_1.length l0_1) (hc0_1:l0_1.length≤c0_1) (hr0_2:Kd.C (Kd.int .u8) w A0_2 l0_2.length l0_2) (hc0_2:l0_2.length≤c0_2) (hG:GOk w) (h:reply_Print.f k a0_0 l0_1 l0_2 a1 a2 a3 a4=some r) :
  Calls Tryd.prog 9 #[.agg #[.int .i64 a0_0,.slice A0_1 l0_1.length c0_1,.slice A0_2 l0_2.length c0_2],.bool a1,.int .i64 a2,.string a3,.bool a4] w fun e w'=>∃ v0_:Value,e = .returned v0_∧Kd.V (Kd.int .u8) 5 w' w.heap.size (fun k_=>w.heap.size≤k_) v0_ r∧Below w.heap.size w w':=by
 have hu27:=Tryd.underlying27
 have hu52:=Tryd.underlying52
 have hmf:∀ (fn:Fn) (first cap:Array Value) (w:World),(Instr.makeFunc fn first cap).run Tryd.prog w = .ok (.func fn first cap) w:=fun _ _ _ _=>rfl
 unfold reply_Print.f at h
 obtain⟨t,ht,h⟩:=bndO h
 obtain⟨p,hp,h⟩:=bndO h
 obtain⟨d,hd,h⟩:=bndO h
 obtain⟨bare,hbare,h⟩:=bndO h
 obtain⟨n,hn,h⟩:=bndO h
 replace h:=itO h
 rcases h with⟨hsz,h⟩|⟨_,h⟩
 rotate_left
 ·exact absurd h (by simp)
 obtain rfl:=Option.some.inj h
 have hR:=Lib.hid (And.intro hr0_1 (And.intro hc0_1 (And.intro hr0_2 (And.intro hc0_2 hG))))
 have hT:=Lib.hid (And.intro ht (And.intro hp (And.intro hd (And.intro hbare (And.intro hn hsz)))))
 have hz:=reply_Print.all_ge t p d a3 n l0_1 l0_2 a1 bare a4
 have hz2:=reply_Print.tail_ge (l0_1.foldl reply_Print.hd (reply_Print.top t p d a3)) bare a4 n
 have hz3:=reply_Print.fold_ge l0_1 (reply_Print.top t p d a3)
 have hz4:=reply_Print.top_size t p d a3
 have hZ:=Lib.hid (And.intro (show(l0_1.foldl reply_Print.hd (reply_Print.top t p d a3)).size≤140737488355328 by omega) (show(reply_Print.tail (l0_1.foldl reply_Print.hd (reply_Print.top t p d a3)) bare a4 n).size≤140737488355328 by omega))
 have hlen:=reply_Print.fold_len l0_1 (reply_Print.top t p d a3)
 have hLn:=Lib.hid (show l0_1.length≤140737488355328 by omega)
 clear hlen
 have hz5:9+t.size+1+p.size+2+15+2+6+d.size+2+18+a3.size+2≤140737488355328:=by omega
 have f1:(9223372036854775807<9+t.size)=False:=eq_false (by omega)
 have f2:(9223372036854775807<9+t.size+1)=False:=eq_false (by omega)
 have f3:(9223372036854775807<9+t.size+1+p.size)=False:=eq_false (by omega)
 have f4:(9223372036854775807<6+d.size)=False:=eq_false (by omega)
 have f5:(9223372036854775807<18+a3.size)=False:=eq_false (by omega)
 have hz6:=reply_Print.t1_size t p
 have hz7:=reply_Print.t2_size t p
 have hz8:=reply_Print.t3_size t p d
 have s1:=Lib.hid (show(⟨#[]⟩++(⟨#[72,84,84,80,47,49,46,49,32]⟩++t++⟨#[32]⟩++p)++reply_Print.nl:ByteArray).size≤140737488355328 from(show(reply_Print.t1 t p).size≤140737488355328 by omega))
 have s2:=Lib.hid (show(reply_Print.t1 t p++⟨#[83,101,114,118,101,114,58,32,115,116,111,119,97,103,101]⟩++reply_Print.nl:ByteArray).size≤140737488355328 from(show(reply_Print.t2 t p).size≤140737488355328 by omega))
 have s3:=Lib.hid (show(reply_Print.t2 t p++(⟨#[68,97,116,101,58,32]⟩++d)++reply_Print.nl:ByteArray).size≤140737488355328 from(show(reply_Print.t3 t p d).size≤140737488355328 by omega))
 have s4:=Lib.hid (show(reply_Print.t3 t p d++(⟨#[120,45,97,109,122,45,114,101,113,117,101,115,116,45,105,100,58,32]⟩++a3)++reply_Print.nl:ByteArray).size≤140737488355328 from(show(reply_Print.top t p d a3).size≤140737488355328 by omega))
 clear hz6 hz7 hz8
 clear hz hz2 hz3 hz4 hz5
 clear hr0_1 hc0_1 hr0_2 hc0_2 hG ht hp hd hbare hn hsz h
 have x12:(((w.alloc (.cells #[.int .i64 a0_0,.slice A0_1 l0_1.length c0_1,.slice A0_2 l0_2.length c0_2] 27)).alloc (.cells #[.pointer none,.slice none 0 0] 65)).alloc (.cells #[.nilFunc] 66)).heap[w.heap.size+1+1]? = some (.cells #[.nilFunc] 66 (0,0)):=by
  have hx:=blk_new ((w.alloc (.cells #[.int .i64 a0_0,.slice A0_1 l0_1.length c0_1,.slice A0_2 l0_2.length c0_2] 27)).alloc (.cells #[.pointer none,.slice none 0 0] 65)) (.cells #[.nilFunc] 66)
  simpa using hx
 have hS:Hid (reply_Print.St w (((w.alloc (.cells #[.int .i64 a0_0,.slice A0_1 l0_1.length c0_1,.slice A0_2 l0_2.length c0_2] 27)).alloc (.cells #[.pointer none,.slice none 0 0] 65)).alloc (.cells #[(.func (Fn.func 28) #[.pointer (some ⟨w.heap.size+1,0,none⟩)] #[])] 66)) (w.heap.size+1) w.heap.size (w.heap.size+1+1) #[.int .i64 a0_0,.slice A0_1 l0_1.length c0_1,.slice A0_2 l0_2.length c0_2] ⟨#[]⟩):=by
  have hx:=blk_new ((w.alloc (.cells #[.int .i64 a0_0,.slice A0_1 l0_1.length c0_1,.slice A0_2 l0_2.length c0_2] 27)).alloc (.cells #[.pointer none,.slice none 0 0] 65)) (.cells #[(.func (Fn.func 28) #[.pointer (some ⟨w.heap.size+1,0,none⟩)] #[])] 66)
  have hy:=blk_below (blk_new (w.alloc (.cells #[.int .i64 a0_0,.slice A0_1 l0_1.length c0_1,.slice A0_2 l0_2.length c0_2] 27)) (.cells #[.pointer none,.slice none 0 0] 65)) (below_alloc (Below.refl _ _) (.cells #[(.func (Fn.func 28) #[.pointer (some ⟨w.heap.size+1,0,none⟩)] #[])] 66))
  have hz:=blk_below (blk_below (blk_new w (.cells #[.int .i64 a0_0,.slice A0_1 l0_1.length c0_1,.slice A0_2 l0_2.length c0_2] 27)) (below_alloc (Below.refl _ _) (.cells #[.pointer none,.slice none 0 0] 65))) (below_alloc (Below.refl _ _) (.cells #[(.func (Fn.func 28) #[.pointer (some ⟨w.heap.size+1,0,none⟩)] #[])] 66))
  exact Lib.hid ⟨.inl ⟨Nat.le_refl _,.slice none 0 0,by simpa using hy,World.ownsRowF_nil _ _ _ _,by simp [Value.ownBlock]⟩,by simpa using hx,hz,below_alloc (below_alloc (below_alloc (Below.refl _ _) _) _) _,by omega,by simp⟩
 have hc12:=(blk_cell x12 0).trans rfl
 have hf12:=blk_frozen x12 0
 have hst:(store ⟨w.heap.size+1+1,0,none⟩ (.func (Fn.func 28) #[.pointer (some ⟨w.heap.size+1,0,none⟩)] #[])).run Tryd.prog (((w.alloc (.cells #[.int .i64 a0_0,.slice A0_1 l0_1.length c0_1,.slice A0_2 l0_2.length c0_2] 27)).alloc (.cells #[.pointer none,.slice none 0 0] 65)).alloc (.cells #[.nilFunc] 66)) = .ok () ((((w.alloc (.cells #[.int .i64 a0_0,.slice A0_1 l0_1.length c0_1,.slice A0_2 l0_2.length c0_2] 27)).alloc (.cells #[.pointer none,.slice none 0 0] 65)).alloc (.cells #[.nilFunc] 66)).setCell ⟨w.heap.size+1+1,0,none⟩ (.func (Fn.func 28) #[.pointer (some ⟨w.heap.size+1,0,none⟩)] #[])):=by
  rw [run_store _ _ _ _ _ rfl,hc12]
  simp [hf12]
 clear x12 hc12 hf12
 go_enter Tryd.func9,Tryd.ntmps9
 go_wp2_with fail
 generalize (((w.alloc (.cells #[.int .i64 a0_0,.slice A0_1 l0_1.length c0_1,.slice A0_2 l0_2.length c0_2] 27)).alloc (.cells #[.pointer none,.slice none 0 0] 65)).alloc (.cells #[(.func (Fn.func 28) #[.pointer (some ⟨w.heap.size+1,0,none⟩)] #[])] 66))=W4 at hS ⊢
 clear hst hmf
 refine start_ (n:=11) (S:=fun w'=>w'.cell? ⟨w.heap.size,0,none⟩=some (.int .i64 a0_0)) (ds:=[]) #[F,F,F,F,F,F,F,F,F,F,F] (by kernel_rfl) rfl rfl ((blk_cell hS.out.o5 0).trans rfl:W4.drew.cell? _=_) (fun hHeld=>?_)
 refine pure_ (i:=0) (N:=some 18) (v:=?_) (a':=?_) #[T1,F,F,F,F,F,F,F,F,F,F] rfl rfl (by kernel_rfl) (fun _ _ _ h=>h) (Or.inl ⟨by rfl,?_⟩) ?_ ?_
 rotate_left
 ·intro w'
  go_simp
  with_reducible rfl
 rotate_left
 ·simp only [Act.put,List.setIfInBounds_toArray,List.set_cons_zero,List.set_cons_succ,i64_w,i32_w]
  rfl
 refine pure_ (i:=1) (N:=some 19) (v:=?_) (a':=?_) #[T1,T1,F,F,F,F,F,F,F,F,F] rfl rfl (by kernel_rfl) (fun _ _ _ h=>h) (Or.inl ⟨by rfl,?_⟩) ?_ ?_
 rotate_left
 ·intro w'
  go_simp
  with_reducible rfl
 rotate_left
 ·simp only [Act.put,List.setIfInBounds_toArray,List.set_cons_zero,List.set_cons_succ,i64_w,i32_w]
  rfl
 refine pure_ (i:=6) (N:=some 24) (v:=?_) (a':=?_) #[T1,T1,F,F,F,F,T1,F,F,F,F] rfl rfl (by kernel_rfl) (fun _ _ _ h=>h) (Or.inl ⟨by rfl,?_⟩) ?_ ?_
 rotate_left
 ·intro w'
  go_simp
  with_reducible rfl
 rotate_left
 ·simp only [Act.put,List.setIfInBounds_toArray,List.set_cons_zero,List.set_cons_succ,i64_w,i32_w]
  rfl
 refine take_ (i:=2) (N:=some 20) (v:=?_) (a':=?_) #[T1,T1,T1,F,F,F,T1,F,F,F,F] rfl rfl (by kernel_rfl) (fun _ _ _ h=>h) (Or.inl ⟨by rfl,?_⟩) hHeld ?_ ?_
 rotate_left
 ·rintro w' s0
  go_simp
  with_reducible rfl
 rotate_left
 ·simp only [Act.put,List.setIfInBounds_toArray,List.set_cons_zero,List.set_cons_succ,i64_w,i32_w]
  rfl
 refine take_ (i:=7) (N:=some 25) (v:=?_) (a':=?_) #[T1,T1,T1,F,F,F,T1,T1,F,F,F] rfl rfl (by kernel_rfl) (fun _ _ _ h=>h) (Or.inl ⟨by rfl,?_⟩) hHeld ?_ ?_
 rotate_left
 ·rintro w' s0
  go_simp
  with_reducible rfl
 rotate_left
 ·simp only [Act.put,List.setIfInBounds_toArray,List.set_cons_zero,List.set_cons_succ,i64_w,i32_w]
  rfl
 refine one_ (i:=3) (N:=some 21) #[T1,T1,T1,T1,F,F,T1,T1,F,F,F] rfl rfl (by kernel_rfl) (by decide) (fun K hK=>?_)
 refine goes_ Tryd.func30 (by kernel_rfl) rfl #[.int .i64 a0_0] (by rfl) rfl rfl (by(try simp only [List.map_toArray,List.map_cons,List.map_nil]);rfl) ?_
 with_reducible refine(enc_Text.calls a0_0 t _ (gok_below hR.out.2.2.2.2 (below_drew1 hS.out.bel)) hT.out.1).mono ?_
 rintro e W5 ⟨rfl,hb⟩
 refine⟨_,rfl,?_⟩
 have h5:=Lib.hid (hS.out.below (show Below W4.heap.size W4 W5 from(below_drew1 (Below.refl _ _)).trans hb))
 clear hb hS
 have hS:=h5
 clear h5
 refine hK.out _ _ ((blk_cell hS.out.o5 0).trans rfl) (fun hHeld=>?_)
 clear hK K
 refine norm_ (a':=?_) ?_ ?_
 rotate_left
 ·show Act.put _ (some 21) _=_
  simp only [Act.put,List.setIfInBounds_toArray,List.set_cons_zero,List.set_cons_succ,i64_w,i32_w]
  rfl
 refine pure_ (i:=4) (N:=some 22) (v:=?_) (a':=?_) #[T1,T1,T1,T1,T1,F,T1,T1,F,F,F] rfl rfl (by kernel_rfl) (fun _ _ _ h=>h) (Or.inl ⟨by rfl,?_⟩) ?_ ?_
 rotate_left
 ·intro w'
  go_simp
  with_reducible rfl
 rotate_left
 ·simp only [Act.put,List.setIfInBounds_toArray,List.set_cons_zero,List.set_cons_succ,i64_w,i32_w]
  rfl
 refine pure_ (i:=5) (N:=some 23) (v:=?_) (a':=?_) #[T1,T1,T1,T1,T1,T1,T1,T1,F,F,F] rfl rfl (by kernel_rfl) (fun _ _ _ h=>h) (Or.inl ⟨by rfl,?_⟩) ?_ ?_
 rotate_left
 ·intro w'
  go_simp
  with_reducible rfl
 rotate_left
 ·simp only [Act.put,List.setIfInBounds_toArray,List.set_cons_zero,List.set_cons_succ,i64_w,i32_w]
  rfl
 refine one_ (i:=8) (N:=some 26) #[T1,T1,T1,T1,T1,T1,T1,T1,T1,F,F] rfl rfl (by kernel_rfl) (by decide) (fun K hK=>?_)
 refine goes_ Tryd.func13 (by kernel_rfl) rfl #[.int .i64 a0_0] (by rfl) rfl rfl (by(try simp only [List.map_toArray,List.map_cons,List.map_nil]);rfl) ?_
 with_reducible refine(reply_Phrase.calls a0_0 p _ hT.out.2.1).mono ?_
 rintro e w9 ⟨rfl,⟨nd,rfl⟩⟩
 refine⟨_,rfl,?_⟩
 have h5:=Lib.hid (hS.out.drewN nd)
 clear hS
 have hS:=h5
 clear h5
 refine hK.out _ _ ((blk_cell hS.out.o5 0).trans rfl) (fun hHeld=>?_)
 clear hK K
 refine norm_ (a':=?_) ?_ ?_
 rotate_left
 ·show Act.put _ (some 26) _=_
  simp only [Act.put,List.setIfInBounds_toArray,List.set_cons_zero,List.set_cons_succ,i64_w,i32_w]
  rfl
 refine pure_ (i:=9) (N:=some 27) (v:=?_) (a':=?_) #[T1,T1,T1,T1,T1,T1,T1,T1,T1,T1,F] rfl rfl (by kernel_rfl) (fun _ _ _ h=>h) (Or.inl ⟨by rfl,?_⟩) ?_ ?_
 rotate_left
 ·intro w'
  go_simp
  with_reducible rfl
 rotate_left
 ·simp only [Act.put,List.setIfInBounds_toArray,List.set_cons_zero,List.set_cons_succ,i64_w,i32_w]
  rfl
 refine one_ (i:=10) (N:=some 28) #[T1,T1,T1,T1,T1,T1,T1,T1,T1,T1,T1] rfl rfl (by kernel_rfl) (by decide) (fun K hK=>?_)
 refine call_ (29) #[.string (⟨#[72,84,84,80,47,49,46,49,32]⟩++t++⟨#[32]⟩++p),.pointer (some ⟨w.heap.size+1+1,0,none⟩)] (by rfl) rfl (by have he:=enters_ (P:=Tryd.prog) (f:=29) (fn:=Tryd.f29) (by kernel_rfl) rfl rfl #[.string (⟨#[72,84,84,80,47,49,46,49,32]⟩++t++⟨#[32]⟩++p),.pointer (some ⟨w.heap.size+1+1,0,none⟩)];unfold execOp;simp [resolve,Deferred.ofValue,invoke,Act.eval,he]) ?_
 with_reducible refine(reply_Print.line w _ (w.heap.size+1) w.heap.size (w.heap.size+1+1) #[.int .i64 a0_0,.slice A0_1 l0_1.length c0_1,.slice A0_2 l0_2.length c0_2] ⟨#[]⟩ (⟨#[72,84,84,80,47,49,46,49,32]⟩++t++⟨#[32]⟩++p) hS.out s1.out).mono ?_
 rintro e W7 ⟨rfl,hb⟩
 refine⟨_,rfl,?_⟩
 have h5:=Lib.hid (show reply_Print.St w W7 (w.heap.size+1) w.heap.size (w.heap.size+1+1) #[.int .i64 a0_0,.slice A0_1 l0_1.length c0_1,.slice A0_2 l0_2.length c0_2] (reply_Print.t1 t p) from hb)
 clear hb hS
 have hS:=h5
 clear h5
 refine hK.out _ _ ((blk_cell hS.out.o5 0).trans rfl) (fun hHeld=>?_)
 clear hK K
 refine norm_ (a':=?_) ?_ ?_
 rotate_left
 ·show Act.put _ (some 28) _=_
  simp only [Act.put,List.setIfInBounds_toArray,List.set_cons_zero,List.set_cons_succ,i64_w,i32_w]
  rfl
 refine done_ (by kernel_rfl) ?_
 go_wp2_with fail
 have hL:=reply_Print.line w W7 (w.heap.size+1) w.heap.size (w.heap.size+1+1) #[.int .i64 a0_0,.slice A0_1 l0_1.length c0_1,.slice A0_2 l0_2.length c0_2] (reply_Print.t1 t p) ⟨#[83,101,114,118,101,114,58,32,115,116,111,119,97,103,101]⟩ hS.out s2.out
 with_reducible refine hL.mono ?_
 clear hL
 rintro e W8 ⟨rfl,hb⟩
 have h5:=Lib.hid (show reply_Print.St w W8 (w.heap.size+1) w.heap.size (w.heap.size+1+1) #[.int .i64 a0_0,.slice A0_1 l0_1.length c0_1,.slice A0_2 l0_2.length c0_2] (reply_Print.t2 t p) from hb)
 clear hb hS
 have hS:=h5
 clear h5
 go_wp2_with fail
 refine(when_Http.calls k a2 d _ hT.out.2.2.1).mono ?_
 rintro e W9 ⟨rfl,hb⟩
 have h5:=Lib.hid (hS.out.below hb)
 clear hb hS
 have hS:=h5
 clear h5
 go_wp2_with fail
 have hL:=reply_Print.line w W9 (w.heap.size+1) w.heap.size (w.heap.size+1+1) #[.int .i64 a0_0,.slice A0_1 l0_1.length c0_1,.slice A0_2 l0_2.length c0_2] (reply_Print.t2 t p) ((⟨#[68,97,116,101,58,32]⟩ : ByteArray)++d) hS.out s3.out
 with_reducible refine hL.mono ?_
 clear hL
 rintro e W10 ⟨rfl,hb⟩
 have h5:=Lib.hid (show reply_Print.St w W10 (w.heap.size+1) w.heap.size (w.heap.size+1+1) #[.int .i64 a0_0,.slice A0_1 l0_1.length c0_1,.slice A0_2 l0_2.length c0_2] (reply_Print.t3 t p d) from hb)
 clear hb hS
 have hS:=h5
 clear h5
 go_wp2_with fail
 have hL:=reply_Print.line w W10 (w.heap.size+1) w.heap.size (w.heap.size+1+1) #[.int .i64 a0_0,.slice A0_1 l0_1.length c0_1,.slice A0_2 l0_2.length c0_2] (reply_Print.t3 t p d) ((⟨#[120,45,97,109,122,45,114,101,113,117,101,115,116,45,105,100,58,32]⟩ : ByteArray)++a3) hS.out s4.out
 with_reducible refine hL.mono ?_
 clear hL
 rintro e W11 ⟨rfl,hb⟩
 have h5:=Lib.hid (show reply_Print.St w W11 (w.heap.size+1) w.heap.size (w.heap.size+1+1) #[.int .i64 a0_0,.slice A0_1 l0_1.length c0_1,.slice A0_2 l0_2.length c0_2] (reply_Print.top t p d a3) from hb)
 clear hb hS
 have hS:=h5
 clear h5
 have hc5:=(blk_cell hS.out.o5 1).trans rfl
 clear f1 f2 f3 f4 f5
 go_wp2
 clear hc5
 go_loopw [43] (fun i wr=>∃ (j:Nat),j≤l0_1.length∧i = .int .i64 j∧Hid (reply_Print.St w wr (w.heap.size+1) w.heap.size (w.heap.size+1+1) #[.int .i64 a0_0,.slice A0_1 l0_1.length c0_1,.slice A0_2 l0_2.length c0_2] ((l0_1.take j).foldl reply_Print.hd (reply_Print.top t p d a3)))) (fun i _=>l0_1.length-(intOf i).toNat)
 case atStart=>exact⟨0,Nat.zero_le _,rfl,Lib.hid (by rw [List.take_zero];exact hS.out)⟩
 case round=>
  obtain⟨j,hj,rfl,hI⟩:=hrel
  by_cases hlt:j<l0_1.length
  ·obtain⟨ad,e0,hx0,hx1⟩:=at_T52 (Kd.C_below hR.out.1 hI.out.bel) (j:Int) (by omega) (by omega)
   subst e0
   rw [Int.toNat_natCast] at hx0 hx1
   have hlt':=Lib.hid hlt
   have c0b:decide ((j:Int)<(l0_1.length:Int))=true:=decide_eq_true (by omega)
   have erd:rd_T52 l0_1 (j:Int)=l0_1[j]:=by first|(simp [rd_T52,List.getD_eq_getElem?_getD,List.getElem?_eq_getElem hlt];done)|(simp [rd_T52,List.getD_eq_getElem?_getD,List.getElem?_eq_getElem hlt];rfl)
   rw [erd] at hx0 hx1
   have hsn:=reply_Print.snoc l0_1 j (reply_Print.top t p d a3) hlt
   have hq:=reply_Print.take_ge l0_1 (j+1) (reply_Print.top t p d a3)
   have hq2:=hZ.out.1
   rw [hsn] at hq
   have hq3:=Lib.hid (Nat.le_trans hq hq2)
   rw [reply_Print.hd_size] at hq
   have g1:(9223372036854775807<l0_1[j].f0.size+2)=False:=eq_false (by omega)
   have g2:(9223372036854775807<l0_1[j].f0.size+2+l0_1[j].f1.size)=False:=eq_false (by omega)
   have hsn':=Lib.hid hsn
   clear hsn hq hq2
   go_wp2_with fail
   have hL:=reply_Print.line w (wr.alloc (.cells #[.string l0_1[j].f0,.string l0_1[j].f1] 52)) (w.heap.size+1) w.heap.size (w.heap.size+1+1) #[.int .i64 a0_0,.slice (some ad) l0_1.length c0_1,.slice A0_2 l0_2.length c0_2] ((l0_1.take j).foldl reply_Print.hd (reply_Print.top t p d a3)) (l0_1[j].f0++(⟨#[58,32]⟩ : ByteArray)++l0_1[j].f1) (hI.out.below (below_alloc (Below.refl _ _) _)) hq3.out
   with_reducible refine hL.mono ?_
   clear hL
   rintro e W12 ⟨rfl,hb⟩
   have hb':=Lib.hid hb
   clear hb g1 g2
   go_wp2
   go_roundw
   case rel=>exact⟨j+1,hlt'.out,by rw [show wrap64 ((j:Int)+1)=((j+1:Nat):Int) by have:=hlt'.out;have:=hLn.out;unfold wrap64;omega],Lib.hid (by rw [hsn'.out];exact hb'.out)⟩
   case measure=>have:=hlt'.out;have:=hLn.out;rw [show wrap64 ((j:Int)+1)=((j+1:Nat):Int) by unfold wrap64;omega];simp only [intOf,Int.toNat_natCast];omega
  ·obtain rfl:j=l0_1.length:=by omega
   have c0b:decide ((l0_1.length:Int)<(l0_1.length:Int))=false:=decide_eq_false (by omega)
   have hS:Hid (reply_Print.St w wr (w.heap.size+1) w.heap.size (w.heap.size+1+1) #[.int .i64 a0_0,.slice A0_1 l0_1.length c0_1,.slice A0_2 l0_2.length c0_2] (l0_1.foldl reply_Print.hd (reply_Print.top t p d a3))):=Lib.hid (by have h_:=hI.out;rwa [List.take_length] at h_)
   clear hI
   obtain⟨FK,hFK⟩ : ∃ FK,l0_1.foldl reply_Print.hd (reply_Print.top t p d a3)=FK:=⟨_,rfl⟩
   rw [hFK] at hS
   have hT:=Lib.hid (And.intro hT.out.2.2.2.1 (And.intro hT.out.2.2.2.2.1 hT.out.2.2.2.2.2))
   unfold reply_Print.all at hT
   simp only [hFK] at hT hZ
   have hFK':=Lib.hid hFK
   clear hFK
   have c50:=(blk_cell hS.out.o5 0).trans rfl
   go_wp2_with fail
   refine(reply_Bare.calls a0_0 bare _ hT.out.1).mono ?_
   rintro e w9 ⟨rfl,⟨nd,rfl⟩⟩
   clear c50
   have h5:=Lib.hid (hS.out.drewN nd)
   clear hS c0b
   have hS:=h5
   clear h5
   obtain⟨W13,hW13⟩ : ∃ W13,wr.drewN nd=W13:=⟨_,rfl⟩
   rw [hW13] at hS ⊢
   clear hW13
   cases bare
   ·cases a4
    ·have z3:=Lib.hid (show((FK++((⟨#[67,111,110,116,101,110,116,45,76,101,110,103,116,104,58,32]⟩ : ByteArray)++n)++reply_Print.nl)++(⟨#[]⟩ : ByteArray)++reply_Print.nl).size≤140737488355328 from hZ.out.2)
     have z2:=Lib.hid (show(FK++((⟨#[67,111,110,116,101,110,116,45,76,101,110,103,116,104,58,32]⟩ : ByteArray)++n)++reply_Print.nl).size≤140737488355328 from Nat.le_trans (by first|exact Nat.le_refl _|(simp only [ByteArray.size_append];omega)) z3.out)
     have z1:=Lib.hid (show(FK++((⟨#[67,111,110,116,101,110,116,45,76,101,110,103,116,104,58,32]⟩ : ByteArray)++n)++reply_Print.nl).size≤140737488355328 from Nat.le_trans (by first|exact Nat.le_refl _|(simp only [ByteArray.size_append];omega)) z2.out)
     have zn:n.size≤(FK++((⟨#[67,111,110,116,101,110,116,45,76,101,110,103,116,104,58,32]⟩ : ByteArray)++n)++reply_Print.nl).size:=by simp only [ByteArray.size_append];omega
     have f6:(9223372036854775807<16+n.size)=False:=eq_false (by have:=z1.out;omega)
     clear zn
     have c52:=(blk_cell hS.out.o5 2).trans rfl
     go_wp2_with fail
     refine(enc_Text.calls _ n _ (gok_below hR.out.2.2.2.2 hS.out.bel) hT.out.2.1).mono ?_
     rintro e W14 ⟨rfl,hb⟩
     clear c52
     have h5:=Lib.hid (hS.out.below hb)
     clear hb hS
     have hS:=h5
     clear h5
     go_wp2_with fail
     have hL:=reply_Print.line w W14 (w.heap.size+1) w.heap.size (w.heap.size+1+1) #[.int .i64 a0_0,.slice A0_1 l0_1.length c0_1,.slice A0_2 l0_2.length c0_2] FK ((⟨#[67,111,110,116,101,110,116,45,76,101,110,103,116,104,58,32]⟩ : ByteArray)++n) hS.out z1.out
     with_reducible refine hL.mono ?_
     clear hL
     rintro e W17 ⟨rfl,hb⟩
     have h5:=Lib.hid (show reply_Print.St w W17 (w.heap.size+1) w.heap.size (w.heap.size+1+1) #[.int .i64 a0_0,.slice A0_1 l0_1.length c0_1,.slice A0_2 l0_2.length c0_2] (FK++((⟨#[67,111,110,116,101,110,116,45,76,101,110,103,116,104,58,32]⟩ : ByteArray)++n)++reply_Print.nl) from hb)
     clear hb hS
     have hS:=h5
     clear h5
     go_wp2_with fail
     have hL:=reply_Print.line w W17 (w.heap.size+1) w.heap.size (w.heap.size+1+1) #[.int .i64 a0_0,.slice A0_1 l0_1.length c0_1,.slice A0_2 l0_2.length c0_2] (FK++((⟨#[67,111,110,116,101,110,116,45,76,101,110,103,116,104,58,32]⟩ : ByteArray)++n)++reply_Print.nl) (⟨#[]⟩ : ByteArray) hS.out z3.out
     with_reducible refine hL.mono ?_
     clear hL
     rintro e W16 ⟨rfl,hb⟩
     have h5:=Lib.hid (show reply_Print.St w W16 (w.heap.size+1) w.heap.size (w.heap.size+1+1) #[.int .i64 a0_0,.slice A0_1 l0_1.length c0_1,.slice A0_2 l0_2.length c0_2] ((FK++((⟨#[67,111,110,116,101,110,116,45,76,101,110,103,116,104,58,32]⟩ : ByteArray)++n)++reply_Print.nl)++(⟨#[]⟩ : ByteArray)++reply_Print.nl) from hb)
     clear hb hS
     have hS:=h5
     clear h5
     cases a1
     ·have c50:=(blk_cell hS.out.o5 0).trans rfl
      go_wp2_with fail
      refine(reply_Bare.calls a0_0 false _ hT.out.1).mono ?_
      rintro e w9 ⟨rfl,⟨nd2,rfl⟩⟩
      clear c50
      have h5:=Lib.hid (hS.out.drewN nd2)
      clear hS
      have hS:=h5
      clear h5
      obtain⟨W20,hW20⟩ : ∃ W20,W16.drewN nd2=W20:=⟨_,rfl⟩
      rw [hW20] at hS ⊢
      clear hW20
      have c52:=(blk_cell hS.out.o5 2).trans rfl
      have c12:=(blk_cell hS.out.2.1 0).trans rfl
      have hstr:=Kd.C_string (P:=Tryd.prog) (c:=c0_2) Tryd.underlying23 Tryd.underlying5 Tryd.underlying9 (Kd.C_below hR.out.2.2.1 hS.out.bel)
      go_wp2_with fail
      refine(reply_Print.put w W20 (w.heap.size+1) w.heap.size (w.heap.size+1+1) #[.int .i64 a0_0,.slice A0_1 l0_1.length c0_1,.slice A0_2 l0_2.length c0_2] ((FK++((⟨#[67,111,110,116,101,110,116,45,76,101,110,103,116,104,58,32]⟩ : ByteArray)++n)++reply_Print.nl)++(⟨#[]⟩ : ByteArray)++reply_Print.nl) (strOfNums l0_2) hS.out hT.out.2.2).mono ?_
      clear c52 c12 hstr
      rintro e W21 ⟨rfl,hb⟩
      have h5:=Lib.hid (show reply_Print.St w W21 (w.heap.size+1) w.heap.size (w.heap.size+1+1) #[.int .i64 a0_0,.slice A0_1 l0_1.length c0_1,.slice A0_2 l0_2.length c0_2] (((FK++((⟨#[67,111,110,116,101,110,116,45,76,101,110,103,116,104,58,32]⟩ : ByteArray)++n)++reply_Print.nl)++(⟨#[]⟩ : ByteArray)++reply_Print.nl)++strOfNums l0_2) from hb)
      clear hb hS
      have hS:=h5
      clear h5
      go_wp2_with fail
      refine(reply_Print.str w W21 (w.heap.size+1) w.heap.size (w.heap.size+1+1) #[.int .i64 a0_0,.slice A0_1 l0_1.length c0_1,.slice A0_2 l0_2.length c0_2] (((FK++((⟨#[67,111,110,116,101,110,116,45,76,101,110,103,116,104,58,32]⟩ : ByteArray)++n)++reply_Print.nl)++(⟨#[]⟩ : ByteArray)++reply_Print.nl)++strOfNums l0_2) hS.out).mono ?_
      rintro e W22 ⟨rfl,hb22,hs22⟩
      have hw22:=Lib.hid (And.intro hb22 hs22)
      clear hb22 hs22 hS
      go_wp2_with (first|((with_reducible refine gate_dst (N:=86) rfl ?_);refine Kd.V_bytes w.heap.size 5 rfl (N:=86) rfl 9 23 _ rfl (((FK++((⟨#[67,111,110,116,101,110,116,45,76,101,110,103,116,104,58,32]⟩ : ByteArray)++n)++reply_Print.nl)++(⟨#[]⟩ : ByteArray)++reply_Print.nl)++strOfNums l0_2) rfl Tryd.underlying9 Tryd.underlying23 Tryd.underlying5 (ok:=fun k_=>w.heap.size≤k_) hw22.out.2 hT.out.2.2 hw22.out.1 hw22.out.2 ?_;intro v23 w23 hv23 hb23 _ _;have hw23:=Lib.hid (And.intro hv23 hb23);clear hv23 hb23)|fail)
      go_wp2
      go_ret
      refine⟨_,rfl,?_,hw23.out.2⟩
      unfold reply_Print.all
      rw [hFK'.out]
      exact hw23.out.1
     ·go_wp2_with fail
      refine(reply_Print.str w W16 (w.heap.size+1) w.heap.size (w.heap.size+1+1) #[.int .i64 a0_0,.slice A0_1 l0_1.length c0_1,.slice A0_2 l0_2.length c0_2] ((FK++((⟨#[67,111,110,116,101,110,116,45,76,101,110,103,116,104,58,32]⟩ : ByteArray)++n)++reply_Print.nl)++(⟨#[]⟩ : ByteArray)++reply_Print.nl) hS.out).mono ?_
      rintro e W22 ⟨rfl,hb22,hs22⟩
      have hw22:=Lib.hid (And.intro hb22 hs22)
      clear hb22 hs22 hS
      go_wp2_with (first|((with_reducible refine gate_dst (N:=86) rfl ?_);refine Kd.V_bytes w.heap.size 5 rfl (N:=86) rfl 9 23 _ rfl ((FK++((⟨#[67,111,110,116,101,110,116,45,76,101,110,103,116,104,58,32]⟩ : ByteArray)++n)++reply_Print.nl)++(⟨#[]⟩ : ByteArray)++reply_Print.nl) rfl Tryd.underlying9 Tryd.underlying23 Tryd.underlying5 (ok:=fun k_=>w.heap.size≤k_) hw22.out.2 hT.out.2.2 hw22.out.1 hw22.out.2 ?_;intro v23 w23 hv23 hb23 _ _;have hw23:=Lib.hid (And.intro hv23 hb23);clear hv23 hb23)|fail)
      go_wp2
      go_ret
      refine⟨_,rfl,?_,hw23.out.2⟩
      unfold reply_Print.all
      rw [hFK'.out]
      exact hw23.out.1
    ·have z3:=Lib.hid (show(((FK++((⟨#[67,111,110,116,101,110,116,45,76,101,110,103,116,104,58,32]⟩ : ByteArray)++n)++reply_Print.nl)++(⟨#[67,111,110,110,101,99,116,105,111,110,58,32,99,108,111,115,101]⟩ : ByteArray)++reply_Print.nl)++(⟨#[]⟩ : ByteArray)++reply_Print.nl).size≤140737488355328 from hZ.out.2)
     have z2:=Lib.hid (show((FK++((⟨#[67,111,110,116,101,110,116,45,76,101,110,103,116,104,58,32]⟩ : ByteArray)++n)++reply_Print.nl)++(⟨#[67,111,110,110,101,99,116,105,111,110,58,32,99,108,111,115,101]⟩ : ByteArray)++reply_Print.nl).size≤140737488355328 from Nat.le_trans (by first|exact Nat.le_refl _|(simp only [ByteArray.size_append];omega)) z3.out)
     have z1:=Lib.hid (show(FK++((⟨#[67,111,110,116,101,110,116,45,76,101,110,103,116,104,58,32]⟩ : ByteArray)++n)++reply_Print.nl).size≤140737488355328 from Nat.le_trans (by first|exact Nat.le_refl _|(simp only [ByteArray.size_append];omega)) z2.out)
     have zn:n.size≤(FK++((⟨#[67,111,110,116,101,110,116,45,76,101,110,103,116,104,58,32]⟩ : ByteArray)++n)++reply_Print.nl).size:=by simp only [ByteArray.size_append];omega
     have f6:(9223372036854775807<16+n.size)=False:=eq_false (by have:=z1.out;omega)
     clear zn
     have c52:=(blk_cell hS.out.o5 2).trans rfl
     go_wp2_with fail
     refine(enc_Text.calls _ n _ (gok_below hR.out.2.2.2.2 hS.out.bel) hT.out.2.1).mono ?_
     rintro e W14 ⟨rfl,hb⟩
     clear c52
     have h5:=Lib.hid (hS.out.below hb)
     clear hb hS
     have hS:=h5
     clear h5
     go_wp2_with fail
     have hL:=reply_Print.line w W14 (w.heap.size+1) w.heap.size (w.heap.size+1+1) #[.int .i64 a0_0,.slice A0_1 l0_1.length c0_1,.slice A0_2 l0_2.length c0_2] FK ((⟨#[67,111,110,116,101,110,116,45,76,101,110,103,116,104,58,32]⟩ : ByteArray)++n) hS.out z1.out
     with_reducible refine hL.mono ?_
     clear hL
     rintro e W17 ⟨rfl,hb⟩
     have h5:=Lib.hid (show reply_Print.St w W17 (w.heap.size+1) w.heap.size (w.heap.size+1+1) #[.int .i64 a0_0,.slice A0_1 l0_1.length c0_1,.slice A0_2 l0_2.length c0_2] (FK++((⟨#[67,111,110,116,101,110,116,45,76,101,110,103,116,104,58,32]⟩ : ByteArray)++n)++reply_Print.nl) from hb)
     clear hb hS
     have hS:=h5
     clear h5
     go_wp2_with fail
     have hL:=reply_Print.line w W17 (w.heap.size+1) w.heap.size (w.heap.size+1+1) #[.int .i64 a0_0,.slice A0_1 l0_1.length c0_1,.slice A0_2 l0_2.length c0_2] (FK++((⟨#[67,111,110,116,101,110,116,45,76,101,110,103,116,104,58,32]⟩ : ByteArray)++n)++reply_Print.nl) (⟨#[67,111,110,110,101,99,116,105,111,110,58,32,99,108,111,115,101]⟩ : ByteArray) hS.out z2.out
     with_reducible refine hL.mono ?_
     clear hL
     rintro e W15 ⟨rfl,hb⟩
     have h5:=Lib.hid (show reply_Print.St w W15 (w.heap.size+1) w.heap.size (w.heap.size+1+1) #[.int .i64 a0_0,.slice A0_1 l0_1.length c0_1,.slice A0_2 l0_2.length c0_2] ((FK++((⟨#[67,111,110,116,101,110,116,45,76,101,110,103,116,104,58,32]⟩ : ByteArray)++n)++reply_Print.nl)++(⟨#[67,111,110,110,101,99,116,105,111,110,58,32,99,108,111,115,101]⟩ : ByteArray)++reply_Print.nl) from hb)
     clear hb hS
     have hS:=h5
     clear h5
     go_wp2_with fail
     have hL:=reply_Print.line w W15 (w.heap.size+1) w.heap.size (w.heap.size+1+1) #[.int .i64 a0_0,.slice A0_1 l0_1.length c0_1,.slice A0_2 l0_2.length c0_2] ((FK++((⟨#[67,111,110,116,101,110,116,45,76,101,110,103,116,104,58,32]⟩ : ByteArray)++n)++reply_Print.nl)++(⟨#[67,111,110,110,101,99,116,105,111,110,58,32,99,108,111,115,101]⟩ : ByteArray)++reply_Print.nl) (⟨#[]⟩ : ByteArray) hS.out z3.out
     with_reducible refine hL.mono ?_
     clear hL
     rintro e W16 ⟨rfl,hb⟩
     have h5:=Lib.hid (show reply_Print.St w W16 (w.heap.size+1) w.heap.size (w.heap.size+1+1) #[.int .i64 a0_0,.slice A0_1 l0_1.length c0_1,.slice A0_2 l0_2.length c0_2] (((FK++((⟨#[67,111,110,116,101,110,116,45,76,101,110,103,116,104,58,32]⟩ : ByteArray)++n)++reply_Print.nl)++(⟨#[67,111,110,110,101,99,116,105,111,110,58,32,99,108,111,115,101]⟩ : ByteArray)++reply_Print.nl)++(⟨#[]⟩ : ByteArray)++reply_Print.nl) from hb)
     clear hb hS
     have hS:=h5
     clear h5
     cases a1
     ·have c50:=(blk_cell hS.out.o5 0).trans rfl
      go_wp2_with fail
      refine(reply_Bare.calls a0_0 false _ hT.out.1).mono ?_
      rintro e w9 ⟨rfl,⟨nd2,rfl⟩⟩
      clear c50
      have h5:=Lib.hid (hS.out.drewN nd2)
      clear hS
      have hS:=h5
      clear h5
      obtain⟨W20,hW20⟩ : ∃ W20,W16.drewN nd2=W20:=⟨_,rfl⟩
      rw [hW20] at hS ⊢
      clear hW20
      have c52:=(blk_cell hS.out.o5 2).trans rfl
      have c12:=(blk_cell hS.out.2.1 0).trans rfl
      have hstr:=Kd.C_string (P:=Tryd.prog) (c:=c0_2) Tryd.underlying23 Tryd.underlying5 Tryd.underlying9 (Kd.C_below hR.out.2.2.1 hS.out.bel)
      go_wp2_with fail
      refine(reply_Print.put w W20 (w.heap.size+1) w.heap.size (w.heap.size+1+1) #[.int .i64 a0_0,.slice A0_1 l0_1.length c0_1,.slice A0_2 l0_2.length c0_2] (((FK++((⟨#[67,111,110,116,101,110,116,45,76,101,110,103,116,104,58,32]⟩ : ByteArray)++n)++reply_Print.nl)++(⟨#[67,111,110,110,101,99,116,105,111,110,58,32,99,108,111,115,101]⟩ : ByteArray)++reply_Print.nl)++(⟨#[]⟩ : ByteArray)++reply_Print.nl) (strOfNums l0_2) hS.out hT.out.2.2).mono ?_
      clear c52 c12 hstr
      rintro e W21 ⟨rfl,hb⟩
      have h5:=Lib.hid (show reply_Print.St w W21 (w.heap.size+1) w.heap.size (w.heap.size+1+1) #[.int .i64 a0_0,.slice A0_1 l0_1.length c0_1,.slice A0_2 l0_2.length c0_2] ((((FK++((⟨#[67,111,110,116,101,110,116,45,76,101,110,103,116,104,58,32]⟩ : ByteArray)++n)++reply_Print.nl)++(⟨#[67,111,110,110,101,99,116,105,111,110,58,32,99,108,111,115,101]⟩ : ByteArray)++reply_Print.nl)++(⟨#[]⟩ : ByteArray)++reply_Print.nl)++strOfNums l0_2) from hb)
      clear hb hS
      have hS:=h5
      clear h5
      go_wp2_with fail
      refine(reply_Print.str w W21 (w.heap.size+1) w.heap.size (w.heap.size+1+1) #[.int .i64 a0_0,.slice A0_1 l0_1.length c0_1,.slice A0_2 l0_2.length c0_2] ((((FK++((⟨#[67,111,110,116,101,110,116,45,76,101,110,103,116,104,58,32]⟩ : ByteArray)++n)++reply_Print.nl)++(⟨#[67,111,110,110,101,99,116,105,111,110,58,32,99,108,111,115,101]⟩ : ByteArray)++reply_Print.nl)++(⟨#[]⟩ : ByteArray)++reply_Print.nl)++strOfNums l0_2) hS.out).mono ?_
      rintro e W22 ⟨rfl,hb22,hs22⟩
      have hw22:=Lib.hid (And.intro hb22 hs22)
      clear hb22 hs22 hS
      go_wp2_with (first|((with_reducible refine gate_dst (N:=86) rfl ?_);refine Kd.V_bytes w.heap.size 5 rfl (N:=86) rfl 9 23 _ rfl ((((FK++((⟨#[67,111,110,116,101,110,116,45,76,101,110,103,116,104,58,32]⟩ : ByteArray)++n)++reply_Print.nl)++(⟨#[67,111,110,110,101,99,116,105,111,110,58,32,99,108,111,115,101]⟩ : ByteArray)++reply_Print.nl)++(⟨#[]⟩ : ByteArray)++reply_Print.nl)++strOfNums l0_2) rfl Tryd.underlying9 Tryd.underlying23 Tryd.underlying5 (ok:=fun k_=>w.heap.size≤k_) hw22.out.2 hT.out.2.2 hw22.out.1 hw22.out.2 ?_;intro v23 w23 hv23 hb23 _ _;have hw23:=Lib.hid (And.intro hv23 hb23);clear hv23 hb23)|fail)
      go_wp2
      go_ret
      refine⟨_,rfl,?_,hw23.out.2⟩
      unfold reply_Print.all
      rw [hFK'.out]
      exact hw23.out.1
     ·go_wp2_with fail
      refine(reply_Print.str w W16 (w.heap.size+1) w.heap.size (w.heap.size+1+1) #[.int .i64 a0_0,.slice A0_1 l0_1.length c0_1,.slice A0_2 l0_2.length c0_2] (((FK++((⟨#[67,111,110,116,101,110,116,45,76,101,110,103,116,104,58,32]⟩ : ByteArray)++n)++reply_Print.nl)++(⟨#[67,111,110,110,101,99,116,105,111,110,58,32,99,108,111,115,101]⟩ : ByteArray)++reply_Print.nl)++(⟨#[]⟩ : ByteArray)++reply_Print.nl) hS.out).mono ?_
      rintro e W22 ⟨rfl,hb22,hs22⟩
      have hw22:=Lib.hid (And.intro hb22 hs22)
      clear hb22 hs22 hS
      go_wp2_with (first|((with_reducible refine gate_dst (N:=86) rfl ?_);refine Kd.V_bytes w.heap.size 5 rfl (N:=86) rfl 9 23 _ rfl (((FK++((⟨#[67,111,110,116,101,110,116,45,76,101,110,103,116,104,58,32]⟩ : ByteArray)++n)++reply_Print.nl)++(⟨#[67,111,110,110,101,99,116,105,111,110,58,32,99,108,111,115,101]⟩ : ByteArray)++reply_Print.nl)++(⟨#[]⟩ : ByteArray)++reply_Print.nl) rfl Tryd.underlying9 Tryd.underlying23 Tryd.underlying5 (ok:=fun k_=>w.heap.size≤k_) hw22.out.2 hT.out.2.2 hw22.out.1 hw22.out.2 ?_;intro v23 w23 hv23 hb23 _ _;have hw23:=Lib.hid (And.intro hv23 hb23);clear hv23 hb23)|fail)
      go_wp2
      go_ret
      refine⟨_,rfl,?_,hw23.out.2⟩
      unfold reply_Print.all
      rw [hFK'.out]
      exact hw23.out.1
   ·cases a4
    ·have z3:=Lib.hid (show(FK++(⟨#[]⟩ : ByteArray)++reply_Print.nl).size≤140737488355328 from hZ.out.2)
     have z2:=Lib.hid (show FK.size≤140737488355328 from Nat.le_trans (by first|exact Nat.le_refl _|(simp only [ByteArray.size_append];omega)) z3.out)
     have z1:=Lib.hid (show FK.size≤140737488355328 from Nat.le_trans (by first|exact Nat.le_refl _|(simp only [ByteArray.size_append];omega)) z2.out)
     go_wp2_with fail
     have hL:=reply_Print.line w W13 (w.heap.size+1) w.heap.size (w.heap.size+1+1) #[.int .i64 a0_0,.slice A0_1 l0_1.length c0_1,.slice A0_2 l0_2.length c0_2] FK (⟨#[]⟩ : ByteArray) hS.out z3.out
     with_reducible refine hL.mono ?_
     clear hL
     rintro e W16 ⟨rfl,hb⟩
     have h5:=Lib.hid (show reply_Print.St w W16 (w.heap.size+1) w.heap.size (w.heap.size+1+1) #[.int .i64 a0_0,.slice A0_1 l0_1.length c0_1,.slice A0_2 l0_2.length c0_2] (FK++(⟨#[]⟩ : ByteArray)++reply_Print.nl) from hb)
     clear hb hS
     have hS:=h5
     clear h5
     cases a1
     ·have c50:=(blk_cell hS.out.o5 0).trans rfl
      go_wp2_with fail
      refine(reply_Bare.calls a0_0 true _ hT.out.1).mono ?_
      rintro e w9 ⟨rfl,⟨nd2,rfl⟩⟩
      clear c50
      have h5:=Lib.hid (hS.out.drewN nd2)
      clear hS
      have hS:=h5
      clear h5
      obtain⟨W20,hW20⟩ : ∃ W20,W16.drewN nd2=W20:=⟨_,rfl⟩
      rw [hW20] at hS ⊢
      clear hW20
      go_wp2_with fail
      refine(reply_Print.str w W20 (w.heap.size+1) w.heap.size (w.heap.size+1+1) #[.int .i64 a0_0,.slice A0_1 l0_1.length c0_1,.slice A0_2 l0_2.length c0_2] (FK++(⟨#[]⟩ : ByteArray)++reply_Print.nl) hS.out).mono ?_
      rintro e W22 ⟨rfl,hb22,hs22⟩
      have hw22:=Lib.hid (And.intro hb22 hs22)
      clear hb22 hs22 hS
      go_wp2_with (first|((with_reducible refine gate_dst (N:=86) rfl ?_);refine Kd.V_bytes w.heap.size 5 rfl (N:=86) rfl 9 23 _ rfl (FK++(⟨#[]⟩ : ByteArray)++reply_Print.nl) rfl Tryd.underlying9 Tryd.underlying23 Tryd.underlying5 (ok:=fun k_=>w.heap.size≤k_) hw22.out.2 hT.out.2.2 hw22.out.1 hw22.out.2 ?_;intro v23 w23 hv23 hb23 _ _;have hw23:=Lib.hid (And.intro hv23 hb23);clear hv23 hb23)|fail)
      go_wp2
      go_ret
      refine⟨_,rfl,?_,hw23.out.2⟩
      unfold reply_Print.all
      rw [hFK'.out]
      exact hw23.out.1
     ·go_wp2_with fail
      refine(reply_Print.str w W16 (w.heap.size+1) w.heap.size (w.heap.size+1+1) #[.int .i64 a0_0,.slice A0_1 l0_1.length c0_1,.slice A0_2 l0_2.length c0_2] (FK++(⟨#[]⟩ : ByteArray)++reply_Print.nl) hS.out).mono ?_
      rintro e W22 ⟨rfl,hb22,hs22⟩
      have hw22:=Lib.hid (And.intro hb22 hs22)
      clear hb22 hs22 hS
      go_wp2_with (first|((with_reducible refine gate_dst (N:=86) rfl ?_);refine Kd.V_bytes w.heap.size 5 rfl (N:=86) rfl 9 23 _ rfl (FK++(⟨#[]⟩ : ByteArray)++reply_Print.nl) rfl Tryd.underlying9 Tryd.underlying23 Tryd.underlying5 (ok:=fun k_=>w.heap.size≤k_) hw22.out.2 hT.out.2.2 hw22.out.1 hw22.out.2 ?_;intro v23 w23 hv23 hb23 _ _;have hw23:=Lib.hid (And.intro hv23 hb23);clear hv23 hb23)|fail)
      go_wp2
      go_ret
      refine⟨_,rfl,?_,hw23.out.2⟩
      unfold reply_Print.all
      rw [hFK'.out]
      exact hw23.out.1
    ·have z3:=Lib.hid (show((FK++(⟨#[67,111,110,110,101,99,116,105,111,110,58,32,99,108,111,115,101]⟩ : ByteArray)++reply_Print.nl)++(⟨#[]⟩ : ByteArray)++reply_Print.nl).size≤140737488355328 from hZ.out.2)
     have z2:=Lib.hid (show(FK++(⟨#[67,111,110,110,101,99,116,105,111,110,58,32,99,108,111,115,101]⟩ : ByteArray)++reply_Print.nl).size≤140737488355328 from Nat.le_trans (by first|exact Nat.le_refl _|(simp only [ByteArray.size_append];omega)) z3.out)
     have z1:=Lib.hid (show FK.size≤140737488355328 from Nat.le_trans (by first|exact Nat.le_refl _|(simp only [ByteArray.size_append];omega)) z2.out)
     go_wp2_with fail
     have hL:=reply_Print.line w W13 (w.heap.size+1) w.heap.size (w.heap.size+1+1) #[.int .i64 a0_0,.slice A0_1 l0_1.length c0_1,.slice A0_2 l0_2.length c0_2] FK (⟨#[67,111,110,110,101,99,116,105,111,110,58,32,99,108,111,115,101]⟩ : ByteArray) hS.out z2.out
     with_reducible refine hL.mono ?_
     clear hL
     rintro e W15 ⟨rfl,hb⟩
     have h5:=Lib.hid (show reply_Print.St w W15 (w.heap.size+1) w.heap.size (w.heap.size+1+1) #[.int .i64 a0_0,.slice A0_1 l0_1.length c0_1,.slice A0_2 l0_2.length c0_2] (FK++(⟨#[67,111,110,110,101,99,116,105,111,110,58,32,99,108,111,115,101]⟩ : ByteArray)++reply_Print.nl) from hb)
     clear hb hS
     have hS:=h5
     clear h5
     go_wp2_with fail
     have hL:=reply_Print.line w W15 (w.heap.size+1) w.heap.size (w.heap.size+1+1) #[.int .i64 a0_0,.slice A0_1 l0_1.length c0_1,.slice A0_2 l0_2.length c0_2] (FK++(⟨#[67,111,110,110,101,99,116,105,111,110,58,32,99,108,111,115,101]⟩ : ByteArray)++reply_Print.nl) (⟨#[]⟩ : ByteArray) hS.out z3.out
     with_reducible refine hL.mono ?_
     clear hL
     rintro e W16 ⟨rfl,hb⟩
     have h5:=Lib.hid (show reply_Print.St w W16 (w.heap.size+1) w.heap.size (w.heap.size+1+1) #[.int .i64 a0_0,.slice A0_1 l0_1.length c0_1,.slice A0_2 l0_2.length c0_2] ((FK++(⟨#[67,111,110,110,101,99,116,105,111,110,58,32,99,108,111,115,101]⟩ : ByteArray)++reply_Print.nl)++(⟨#[]⟩ : ByteArray)++reply_Print.nl) from hb)
     clear hb hS
     have hS:=h5
     clear h5
     cases a1
     ·have c50:=(blk_cell hS.out.o5 0).trans rfl
      go_wp2_with fail
      refine(reply_Bare.calls a0_0 true _ hT.out.1).mono ?_
      rintro e w9 ⟨rfl,⟨nd2,rfl⟩⟩
      clear c50
      have h5:=Lib.hid (hS.out.drewN nd2)
      clear hS
      have hS:=h5
      clear h5
      obtain⟨W20,hW20⟩ : ∃ W20,W16.drewN nd2=W20:=⟨_,rfl⟩
      rw [hW20] at hS ⊢
      clear hW20
      go_wp2_with fail
      refine(reply_Print.str w W20 (w.heap.size+1) w.heap.size (w.heap.size+1+1) #[.int .i64 a0_0,.slice A0_1 l0_1.length c0_1,.slice A0_2 l0_2.length c0_2] ((FK++(⟨#[67,111,110,110,101,99,116,105,111,110,58,32,99,108,111,115,101]⟩ : ByteArray)++reply_Print.nl)++(⟨#[]⟩ : ByteArray)++reply_Print.nl) hS.out).mono ?_
      rintro e W22 ⟨rfl,hb22,hs22⟩
      have hw22:=Lib.hid (And.intro hb22 hs22)
      clear hb22 hs22 hS
      go_wp2_with (first|((with_reducible refine gate_dst (N:=86) rfl ?_);refine Kd.V_bytes w.heap.size 5 rfl (N:=86) rfl 9 23 _ rfl ((FK++(⟨#[67,111,110,110,101,99,116,105,111,110,58,32,99,108,111,115,101]⟩ : ByteArray)++reply_Print.nl)++(⟨#[]⟩ : ByteArray)++reply_Print.nl) rfl Tryd.underlying9 Tryd.underlying23 Tryd.underlying5 (ok:=fun k_=>w.heap.size≤k_) hw22.out.2 hT.out.2.2 hw22.out.1 hw22.out.2 ?_;intro v23 w23 hv23 hb23 _ _;have hw23:=Lib.hid (And.intro hv23 hb23);clear hv23 hb23)|fail)
      go_wp2
      go_ret
      refine⟨_,rfl,?_,hw23.out.2⟩
      unfold reply_Print.all
      rw [hFK'.out]
      exact hw23.out.1
     ·go_wp2_with fail
      refine(reply_Print.str w W16 (w.heap.size+1) w.heap.size (w.heap.size+1+1) #[.int .i64 a0_0,.slice A0_1 l0_1.length c0_1,.slice A0_2 l0_2.length c0_2] ((FK++(⟨#[67,111,110,110,101,99,116,105,111,110,58,32,99,108,111,115,101]⟩ : ByteArray)++reply_Print.nl)++(⟨#[]⟩ : ByteArray)++reply_Print.nl) hS.out).mono ?_
      rintro e W22 ⟨rfl,hb22,hs22⟩
      have hw22:=Lib.hid (And.intro hb22 hs22)
      clear hb22 hs22 hS
      go_wp2_with (first|((with_reducible refine gate_dst (N:=86) rfl ?_);refine Kd.V_bytes w.heap.size 5 rfl (N:=86) rfl 9 23 _ rfl ((FK++(⟨#[67,111,110,110,101,99,116,105,111,110,58,32,99,108,111,115,101]⟩ : ByteArray)++reply_Print.nl)++(⟨#[]⟩ : ByteArray)++reply_Print.nl) rfl Tryd.underlying9 Tryd.underlying23 Tryd.underlying5 (ok:=fun k_=>w.heap.size≤k_) hw22.out.2 hT.out.2.2 hw22.out.1 hw22.out.2 ?_;intro v23 w23 hv23 hb23 _ _;have hw23:=Lib.hid (And.intro hv23 hb23);clear hv23 hb23)|fail)
      go_wp2
      go_ret
      refine⟨_,rfl,?_,hw23.out.2⟩
      unfold reply_Print.all
      rw [hFK'.out]
      exact hw23.out.1
end Go.Proofs.YtfjidcmegacibaaDoor.Q
