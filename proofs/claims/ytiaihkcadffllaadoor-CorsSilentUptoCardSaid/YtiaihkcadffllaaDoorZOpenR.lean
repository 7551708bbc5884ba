/- A part of the proof of the seat's laws. No condition beyond those in the theorems. -/
import Derived.Test.YtiaihkcadffllaaDoorZOpenB
import Derived.Test.YtiaihkcadffllaaDoorZBulkB
import Derived.KernelRfl

namespace Go.Proofs.YtiaihkcadffllaaDoor.Opn
open Go.ChangeShapes Go.WideShapes Go.RowKit Go.Proofs.YtiaihkcadffllaaDoorW.PrintWords
instance : Inhabited Q.S40 := ⟨Q.z40⟩
instance : Inhabited ByteArray := ⟨ByteArray.empty⟩
section
variable {H : Type} {enc : TypeId × Value → H} {w : World} {base : Nat} {spare : Nat → Bool} {held : Bool}
theorem c9 : Tryd.prog.cellsOf 9 = 1 := by kernel_rfl
theorem c26 : Tryd.prog.cellsOf 38 = 1 := by kernel_rfl
theorem c3 : Tryd.prog.cellsOf 3 = 1 := by kernel_rfl
theorem c28 : Tryd.prog.cellsOf 40 = 5 := by kernel_rfl
set_option maxRecDepth 100000 in
theorem opens28 {R : DataW H → List ByteArray → Prop} {R4 : DataW H → Int → Prop} (h : Opens enc Tryd.prog w base spare held 38 (Kd.slice 9 Kd.string) R) (h4 : Opens enc Tryd.prog w base spare held 3 (Kd.int .i64) R4) :
    Opens enc Tryd.prog w base spare held 40 Q.k40 (fun x r => ∃ d0 d1 d2 d3 d4, x = .agg [d0, d1, d2, d3, d4] ∧ R d0 r.f0 ∧ R d1 r.f1 ∧ R d2 r.f2 ∧ R d3 r.f3 ∧ R4 d4 r.f4) := by
  intro fuel cs x hx
  obtain ⟨xs, n, _, rfl, hl, hlen, hf⟩ := DataW.trod_struct Tryd.underlying40 hx
  rw [c28] at hl
  match xs, hlen, cs, hl with
  | [y0, y1, y2, y3, y4], _, [u0, u1, u2, u3, u4], _ =>
    have g0 := hf 0 _ rfl
    have g1 := hf 1 _ rfl
    have g2 := hf 2 _ rfl
    have g3 := hf 3 _ rfl
    have g4 := hf 4 _ rfl
    simp only [c26, c3, List.drop_zero, List.drop_succ_cons, List.take_succ_cons, List.take_zero, List.getElem?_cons_zero, List.getElem?_cons_succ] at g0 g1 g2 g3 g4
    obtain ⟨r0, k0, e0⟩ := h _ _ _ g0
    obtain ⟨r1, k1, e1⟩ := h _ _ _ g1
    obtain ⟨r2, k2, e2⟩ := h _ _ _ g2
    obtain ⟨r3, k3, e3⟩ := h _ _ _ g3
    obtain ⟨r4, k4, e4⟩ := h4 _ _ _ g4
    exact ⟨⟨r0, r1, r2, r3, r4⟩, ⟨[u0], [u1, u2, u3, u4], rfl, k0, ⟨[u1], [u2, u3, u4], rfl, k1, ⟨[u2], [u3, u4], rfl, k2, ⟨[u3], [u4], rfl, k3, k4⟩⟩⟩⟩, _, _, _, _, _, rfl, e0, e1, e2, e3, e4⟩
theorem up26 : Opens enc Tryd.prog w base spare held 38 (Kd.slice 9 Kd.string) (Up (fun _ => True) Pure.bulkL) :=
  (up_slice Tryd.underlying38 c9 (up_string Tryd.underlying9)).imp_ fun _ _ h => ⟨trivial, h.2⟩
theorem up28 : Opens enc Tryd.prog w base spare held 40 Q.k40 (Up (fun r => (Lit.int .i64 r.f4).wf = true) Pure.bulkR) :=
  (opens28 up26 (up_int Tryd.underlying3)).imp_ fun x r h => by
    obtain ⟨d0, d1, d2, d3, d4, rfl, h0, h1, h2, h3, h4⟩ := h
    refine ⟨h4.1, ?_⟩
    have b0 := h0.2; have b1 := h1.2; have b2 := h2.2; have b3 := h3.2
    simp only [Pure.bulkR, Rows.uptoBulk, Rows.uptoBulkAll]
    omega
theorem up25 : Opens enc Tryd.prog w base spare held 22 (Kd.slice 40 Q.k40) (Up (fun rs => ∀ r ∈ rs, (Lit.int .i64 r.f4).wf = true) (msz Pure.bulkR)) := up_slice Tryd.underlying22 c28 up28
theorem wt26 : Opens enc Tryd.prog w base spare held 38 (Kd.slice 9 Kd.string) (Wt Tryd.prog 38 Pure.Held) :=
  (wt_slice 16 Tryd.underlying38 c9 (by kernel_rfl) (wt_string Tryd.underlying9)).imp_ fun _ _ h hw => ⟨by have := (h hw).1; omega, (h hw).2⟩
theorem wt28 : Opens enc Tryd.prog w base spare held 40 Q.k40 (Wt Tryd.prog 40 (fun r => Pure.HeldR r ∧ (Lit.int .i64 r.f4).wf = true)) :=
  (opens28 wt26 (wt_int Tryd.underlying3)).imp_ fun x r h hw => by
    obtain ⟨d0, d1, d2, d3, d4, rfl, h0, h1, h2, h3, h4⟩ := h
    simp only [DataW.weights, Tryd.underlying40, List.map_cons, List.map_nil, DataW.weightsEach, List.mem_append] at hw
    exact ⟨⟨h0 fun n hn => hw n (by simp [hn]), h1 fun n hn => hw n (by simp [hn]), h2 fun n hn => hw n (by simp [hn]), h3 fun n hn => hw n (by simp [hn])⟩, h4 fun n hn => hw n (by simp [hn])⟩
theorem wt25 : Opens enc Tryd.prog w base spare held 22 (Kd.slice 40 Q.k40) (Wt Tryd.prog 22 (fun rs => rs.length * 104 ≤ 140737488351232 ∧ ∀ r ∈ rs, Pure.HeldR r ∧ (Lit.int .i64 r.f4).wf = true)) := wt_slice 104 Tryd.underlying22 c28 (by kernel_rfl) wt28
theorem open_arg {t e : TypeId} {α : Type} {d : Kd α} {R : DataW H → List α → Prop} (h : Opens enc Tryd.prog w base spare held t (Kd.slice e d) R) {v : Value} {x : DataW H} {p : List MemPlace} (hv : ∃ A n c, v = .slice A n c) (ht : DataW.Trod enc Tryd.prog w base spare held t v x p) :
    ∃ (A : Option Addr) (c : Nat) (l : List α), v = .slice A l.length c ∧ l.length ≤ c ∧ Kd.C d w A l.length l ∧ R x l := by
  obtain ⟨A, n, c, rfl⟩ := hv
  obtain ⟨fuel, hf⟩ := ht
  obtain ⟨l, ⟨A', c', e', hl, hC⟩, hR⟩ := h _ _ _ hf
  have e2 : (Value.slice A n c) = .slice A' l.length c' := by simpa [Value.cells] using e'
  injection e2 with e3 e4 e5
  subst e3 e4 e5
  exact ⟨_, _, l, rfl, hl, hC, hR⟩
theorem msz_mem {α : Type} (M : α → Nat) (xs : List α) : ∀ a ∈ xs, M a ≤ msz M xs := by
  induction xs with
  | nil => intro a h; cases h
  | cons x l ih =>
    intro a h
    have e : msz M (x :: l) = M x + msz M l := by simp only [msz, List.map_cons, List.sum_cons]; omega
    rw [e]
    cases List.mem_cons.1 h with
    | inl h => subst h; omega
    | inr h => have := ih a h; omega
theorem msz_len {α : Type} (M : α → Nat) (xs : List α) (h1 : ∀ a, 1 ≤ M a) : xs.length ≤ msz M xs := by
  induction xs with
  | nil => exact Nat.zero_le _
  | cons x l ih =>
    have e : msz M (x :: l) = M x + msz M l := by simp only [msz, List.map_cons, List.sum_cons]; omega
    have := h1 x
    rw [e, List.length_cons]
    omega
end
end Go.Proofs.YtiaihkcadffllaaDoor.Opn
