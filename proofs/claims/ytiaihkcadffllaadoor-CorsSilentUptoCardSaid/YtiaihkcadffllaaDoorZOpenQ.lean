/- A part of the proof of the seat's laws. No condition beyond those in the theorems. -/
import Derived.Test.YtiaihkcadffllaaDoorZOpenR

namespace Go.Proofs.YtiaihkcadffllaaDoor.Opn
open Go.ChangeShapes Go.WideShapes Go.RowKit Go.Proofs.YtiaihkcadffllaaDoorW.PrintWords
instance : Inhabited Q.S37 := ⟨Q.z37⟩
section
variable {H : Type} {enc : TypeId × Value → H} {w : World} {base : Nat} {spare : Nat → Bool} {held : Bool}
theorem ch2 : Tryd.prog.cellsOf 37 = 2 := by kernel_rfl
theorem chs : Tryd.prog.cellsOf 23 = 1 := by kernel_rfl
theorem cby : Tryd.prog.cellsOf 24 = 1 := by kernel_rfl
theorem cu8 : Tryd.prog.cellsOf 5 = 1 := by kernel_rfl
theorem crq : Tryd.prog.cellsOf 26 = 4 := by kernel_rfl
def bulkH (h : Q.S37) : Nat := h.f0.size + h.f1.size + 3
set_option maxRecDepth 100000 in
theorem up_header : Opens enc Tryd.prog w base spare held 37 Q.k37 (Up (fun _ => True) bulkH) := by
  intro fuel cs x hx
  obtain ⟨xs, n, _, rfl, hl, hlen, hf⟩ := DataW.trod_struct Tryd.underlying37 hx
  rw [ch2] at hl
  match xs, hlen, cs, hl with
  | [y0, y1], _, [u0, u1], _ =>
    have g0 := hf 0 _ rfl
    have g1 := hf 1 _ rfl
    simp only [c9, List.drop_zero, List.drop_succ_cons, List.take_succ_cons, List.take_zero, List.getElem?_cons_zero, List.getElem?_cons_succ] at g0 g1
    obtain ⟨r0, k0, e0⟩ := up_string Tryd.underlying9 _ _ _ g0
    obtain ⟨r1, k1, e1⟩ := up_string Tryd.underlying9 _ _ _ g1
    refine ⟨⟨r0, r1⟩, ⟨[u0], [u1], rfl, k0, k1⟩, trivial, ?_⟩
    have b0 : r0.size + 1 ≤ Rows.uptoBulk y0.1 := e0.2
    have b1 : r1.size + 1 ≤ Rows.uptoBulk y1.1 := e1.2
    simp only [bulkH, Rows.uptoBulk, Rows.uptoBulkAll, List.map_cons, List.map_nil]
    omega
theorem up_headers : Opens enc Tryd.prog w base spare held 23 (Kd.slice 37 Q.k37) (Up (fun _ => True) (msz bulkH)) := (up_slice Tryd.underlying23 ch2 up_header).imp_ fun _ _ h => ⟨trivial, h.2⟩
theorem up_bytes : Opens enc Tryd.prog w base spare held 24 (Kd.slice 5 (Kd.int .u8)) (Up (fun _ => True) (msz (fun _ => 1))) := (up_slice Tryd.underlying24 cu8 (up_int Tryd.underlying5)).imp_ fun _ _ h => ⟨trivial, h.2⟩
set_option maxRecDepth 100000 in
theorem open_request {v : Value} {x : DataW H} {p : List MemPlace} (hv : ∃ cs, v = .agg cs ∧ cs.size = Tryd.prog.cellsOf 26) (ht : DataW.Trod enc Tryd.prog w base spare held 26 v x p) :
    ∃ (m t : ByteArray) (A2 : Option Addr) (c2 : Nat) (hd : List Q.S37) (A3 : Option Addr) (c3 : Nat) (bd : List Int), v = .agg #[.string m, .string t, .slice A2 hd.length c2, .slice A3 bd.length c3] ∧
      (hd.length ≤ c2 ∧ Kd.C Q.k37 w A2 hd.length hd) ∧ (bd.length ≤ c3 ∧ Kd.C (Kd.int .u8) w A3 bd.length bd) ∧ m.size + t.size + msz bulkH hd + msz (fun _ => 1) bd ≤ Rows.uptoBulk x := by
  obtain ⟨cs, rfl, hsz⟩ := hv
  obtain ⟨fuel, hf⟩ := ht
  obtain ⟨xs, n, _, e, hl, hlen, hall⟩ := DataW.trod_struct Tryd.underlying26 hf
  obtain ⟨rfl, rfl⟩ := Prod.mk.inj e
  rw [crq] at hl hsz
  obtain ⟨cs⟩ := cs
  match xs, hlen, cs, hl with
  | [y0, y1, y2, y3], _, [u0, u1, u2, u3], _ =>
    have g0 : DataW.trod enc Tryd.prog w base spare held n 9 [u0] = some y0 := hall 0 _ rfl
    have g1 : DataW.trod enc Tryd.prog w base spare held n 9 [u1] = some y1 := hall 1 _ rfl
    have g2 : DataW.trod enc Tryd.prog w base spare held n 23 [u2] = some y2 := hall 2 _ rfl
    have g3 : DataW.trod enc Tryd.prog w base spare held n 24 [u3] = some y3 := hall 3 _ rfl
    obtain ⟨r0, k0, e0⟩ := up_string Tryd.underlying9 _ _ _ g0
    obtain ⟨r1, k1, e1⟩ := up_string Tryd.underlying9 _ _ _ g1
    obtain ⟨r2, ⟨A2, c2, k2, l2, q2⟩, e2⟩ := up_headers _ _ _ g2
    obtain ⟨r3, ⟨A3, c3, k3, l3, q3⟩, e3⟩ := up_bytes _ _ _ g3
    obtain rfl : u0 = .string r0 := (List.cons.inj k0).1
    obtain rfl : u1 = .string r1 := (List.cons.inj k1).1
    obtain rfl : u2 = .slice A2 r2.length c2 := (List.cons.inj k2).1
    obtain rfl : u3 = .slice A3 r3.length c3 := (List.cons.inj k3).1
    refine ⟨r0, r1, A2, c2, r2, A3, c3, r3, rfl, ⟨l2, q2⟩, ⟨l3, q3⟩, ?_⟩
    have b0 : r0.size + 1 ≤ Rows.uptoBulk y0.1 := e0.2
    have b1 : r1.size + 1 ≤ Rows.uptoBulk y1.1 := e1.2
    have b2 : msz bulkH r2 ≤ Rows.uptoBulk y2.1 := e2.2
    have b3 : msz (fun _ => 1) r3 ≤ Rows.uptoBulk y3.1 := e3.2
    simp only [Rows.uptoBulk, Rows.uptoBulkAll, List.map_cons, List.map_nil]
    omega
end
end Go.Proofs.YtiaihkcadffllaaDoor.Opn
