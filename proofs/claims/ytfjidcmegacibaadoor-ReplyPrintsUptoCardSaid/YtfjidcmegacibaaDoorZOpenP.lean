/- A part of the proof of the seat's laws. No condition beyond those in the theorems. -/
import Derived.Test.YtfjidcmegacibaaDoorZOpenB
import Derived.Test.YtfjidcmegacibaaDoorZQ92g2
import Derived.KernelRfl

namespace Go.Proofs.YtfjidcmegacibaaDoor.Opn
open Go.ChangeShapes Go.WideShapes Go.RowKit Go.Proofs.YtfjidcmegacibaaDoorW.PrintWords
instance : Inhabited Q.S52 := ⟨Q.z52⟩
instance : Inhabited ByteArray := ⟨ByteArray.empty⟩
section
variable {H : Type} {enc : TypeId × Value → H} {w : World} {base : Nat} {spare : Nat → Bool} {held : Bool}
theorem c9 : Tryd.prog.cellsOf 9 = 1 := by kernel_rfl
theorem c3 : Tryd.prog.cellsOf 3 = 1 := by kernel_rfl
theorem ch2 : Tryd.prog.cellsOf 52 = 2 := by kernel_rfl
theorem chs : Tryd.prog.cellsOf 25 = 1 := by kernel_rfl
theorem cby : Tryd.prog.cellsOf 23 = 1 := by kernel_rfl
theorem cu8 : Tryd.prog.cellsOf 5 = 1 := by kernel_rfl
theorem crp : Tryd.prog.cellsOf 27 = 3 := by kernel_rfl
def bulkH (h : Q.S52) : Nat := h.f0.size + h.f1.size + 3
set_option maxRecDepth 100000 in
theorem up_header : Opens enc Tryd.prog w base spare held 52 Q.k52 (Up (fun _ => True) bulkH) := by
  intro fuel cs x hx
  obtain ⟨xs, n, _, rfl, hl, hlen, hf⟩ := DataW.trod_struct Tryd.underlying52 hx
  rw [ch2] at hl
  match xs, hlen, cs, hl with
  | [y0, y1], _, [u0, u1], _ =>
    have g0 := hf 0 _ rfl
    have g1 := hf 1 _ rfl
    simp only [c9, List.drop_zero, List.drop_succ_cons, List.take_succ_cons, List.take_zero, List.getElem?_cons_zero, List.getElem?_cons_succ] at g0 g1
    obtain ⟨r0, k0, e0⟩ := up_string Tryd.underlying9 _ _ _ g0
    obtain ⟨r1, k1, e1⟩ := up_string Tryd.underlying9 _ _ _ g1
    refine ⟨⟨r0, r1⟩, ⟨[u0], [u1], rfl, k0, k1⟩, trivial, ?_⟩
    have b0 : r0.size + 1 ≤ Rows.uptoBulk y0.1 := e0.2
    have b1 : r1.size + 1 ≤ Rows.uptoBulk y1.1 := e1.2
    simp only [bulkH, Rows.uptoBulk, Rows.uptoBulkAll, List.map_cons, List.map_nil]
    omega
theorem up_headers : Opens enc Tryd.prog w base spare held 25 (Kd.slice 52 Q.k52) (Up (fun _ => True) (msz bulkH)) := (up_slice Tryd.underlying25 ch2 up_header).imp_ fun _ _ h => ⟨trivial, h.2⟩
theorem up_bytes : Opens enc Tryd.prog w base spare held 23 (Kd.slice 5 (Kd.int .u8)) (Up (fun xs => ∀ x ∈ xs, (Lit.int .u8 x).wf = true) (msz (fun _ => 1))) := up_slice Tryd.underlying23 cu8 (up_int Tryd.underlying5)
set_option maxRecDepth 100000 in
theorem open_reply {v : Value} {x : DataW H} {p : List MemPlace} (hv : ∃ cs, v = .agg cs ∧ cs.size = Tryd.prog.cellsOf 27) (ht : DataW.Trod enc Tryd.prog w base spare held 27 v x p) :
    ∃ (a : Int) (A2 : Option Addr) (c2 : Nat) (hd : List Q.S52) (A3 : Option Addr) (c3 : Nat) (bd : List Int), v = .agg #[.int .i64 a, .slice A2 hd.length c2, .slice A3 bd.length c3] ∧ (Lit.int .i64 a).wf = true ∧
      (hd.length ≤ c2 ∧ Kd.C Q.k52 w A2 hd.length hd) ∧ (bd.length ≤ c3 ∧ Kd.C (Kd.int .u8) w A3 bd.length bd) ∧ (∀ x ∈ bd, (Lit.int .u8 x).wf = true) ∧ msz bulkH hd + msz (fun _ => 1) bd ≤ Rows.uptoBulk x := by
  obtain ⟨cs, rfl, hsz⟩ := hv
  obtain ⟨fuel, hf⟩ := ht
  obtain ⟨xs, n, _, e, hl, hlen, hall⟩ := DataW.trod_struct Tryd.underlying27 hf
  obtain ⟨rfl, rfl⟩ := Prod.mk.inj e
  rw [crp] at hl hsz
  obtain ⟨cs⟩ := cs
  match xs, hlen, cs, hl with
  | [y1, y2, y3], _, [u1, u2, u3], _ =>
    have g1 : DataW.trod enc Tryd.prog w base spare held n 3 [u1] = some y1 := hall 0 _ rfl
    have g2 : DataW.trod enc Tryd.prog w base spare held n 25 [u2] = some y2 := hall 1 _ rfl
    have g3 : DataW.trod enc Tryd.prog w base spare held n 23 [u3] = some y3 := hall 2 _ rfl
    obtain ⟨r1, k1, e1⟩ := up_int Tryd.underlying3 _ _ _ g1
    obtain ⟨r2, ⟨A2, c2, k2, l2, q2⟩, e2⟩ := up_headers _ _ _ g2
    obtain ⟨r3, ⟨A3, c3, k3, l3, q3⟩, e3⟩ := up_bytes _ _ _ g3
    obtain rfl : u1 = .int .i64 r1 := (List.cons.inj k1).1
    obtain rfl : u2 = .slice A2 r2.length c2 := (List.cons.inj k2).1
    obtain rfl : u3 = .slice A3 r3.length c3 := (List.cons.inj k3).1
    refine ⟨r1, A2, c2, r2, A3, c3, r3, rfl, e1.1, ⟨l2, q2⟩, ⟨l3, q3⟩, e3.1, ?_⟩
    have b2 : msz bulkH r2 ≤ Rows.uptoBulk y2.1 := e2.2
    have b3 : msz (fun _ => 1) r3 ≤ Rows.uptoBulk y3.1 := e3.2
    simp only [Rows.uptoBulk, Rows.uptoBulkAll, List.map_cons, List.map_nil]
    omega
theorem open_arg {t e : TypeId} {α : Type} {d : Kd α} {R : DataW H → List α → Prop} (h : Opens enc Tryd.prog w base spare held t (Kd.slice e d) R) {v : Value} {x : DataW H} {p : List MemPlace} (hv : ∃ A n c, v = .slice A n c) (ht : DataW.Trod enc Tryd.prog w base spare held t v x p) :
    ∃ (A : Option Addr) (c : Nat) (l : List α), v = .slice A l.length c ∧ l.length ≤ c ∧ Kd.C d w A l.length l ∧ R x l := by
  obtain ⟨A, n, c, rfl⟩ := hv
  obtain ⟨fuel, hf⟩ := ht
  obtain ⟨l, ⟨A', c', e', hl, hC⟩, hR⟩ := h _ _ _ hf
  have e2 : (Value.slice A n c) = .slice A' l.length c' := by simpa [Value.cells] using e'
  injection e2 with e3 e4 e5
  subst e3 e4 e5
  exact ⟨_, _, l, rfl, hl, hC, hR⟩
theorem msz_len {α : Type} (M : α → Nat) (xs : List α) (h1 : ∀ a, 1 ≤ M a) : xs.length ≤ msz M xs := by
  induction xs with
  | nil => exact Nat.zero_le _
  | cons x l ih =>
    have e : msz M (x :: l) = M x + msz M l := by simp only [msz, List.map_cons, List.sum_cons]; omega
    have := h1 x
    rw [e, List.length_cons]
    omega
end
end Go.Proofs.YtfjidcmegacibaaDoor.Opn
