/- A part of the proof of the seat's laws. No condition beyond those in the theorems. -/
import Derived.Test.YtfjidcmegacibaaDoorZDateSame
import Derived.Test.YtfjidcmegacibaaDoorZByB
import Derived.Test.YtfjidcmegacibaaDoorZTextB
import Derived.Test.YtfjidcmegacibaaDoorZQ92g2
import Derived.Test.YtfjidcmegacibaaDoorZQ2
import Derived.Test.YtfjidcmegacibaaDoorZQ3g6

namespace Go.Proofs.YtfjidcmegacibaaDoor.Pure
open Go.RowKit Go.Proofs.YtfjidcmegacibaaDoor.Q Go.Proofs.YtfjidcmegacibaaDoorW.PrintWords Go.Proofs.YtfjidcmegacibaaDoorW.PrintLast
set_option linter.unusedVariables false
set_option linter.unusedSimpArgs false
theorem civil_out (t : Int) (h : ¬ (0 ≤ t ∧ t ≤ 253402300799)) : Ev (fun k => when_Civil.f k t) (0, 0, 0, 0, 0, 0, false) := by
  refine Ev.congr (f := fun _ => _) (fun k => by rw [when_Civil.f, Date.is_eq t, Option.bind_some, if_neg (by simpa using h)]) (Ev.now _)
theorem rcivil_out (t : Int) (h : ¬ (0 ≤ t ∧ t ≤ 253402300799)) : Ev (fun k => stowageref4_Civil.f k t) (0, 0, 0, 0, 0, 0, false) := by
  have hj : Ev (fun k => stowageref4_Civil.j0 k t true) (0, 0, 0, 0, 0, 0, false) := Ev.step (f := fun _ => _) (fun k => by rw [stowageref4_Civil.j0, if_pos rfl]) (Ev.now _)
  simp only [stowageref4_Civil.f]
  by_cases c : t < 0
  · exact ev_pos c hj
  · refine ev_neg c ?_
    rw [decide_eq_true (by omega)]
    exact hj
theorem http_same (t : Int) : ∃ r : ByteArray, r.size ≤ 40 ∧ Ev (fun k => when_Http.f k t) r ∧ Ev (fun k => stowageref4_Http.f k t) r := by
  by_cases h : 0 ≤ t ∧ t ≤ 253402300799
  · obtain ⟨y, m, d, hh, mi, s, D, hv, e1, e2, e3, he, he'⟩ := Date.civil6 t h.1 h.2
    refine ⟨_, ?_, Date.http_ev t h.1 h.2 y m d hh mi s D he, Date.rhttp_ev t h.1 h.2 y m d hh mi s D he'⟩
    have hb := D.bd
    have hw := Date.wd_size (t / 86400 % 7) (by omega) (by omega)
    have hm := Date.mo_size m hb.2.2.1 hb.2.2.2.1
    simp only [Date.httpT, ByteArray.size_append, hw, hm, Date.p2_size, Date.p4_size]
    decide
  · refine ⟨⟨#[]⟩, by decide, ?_, ?_⟩
    · simp only [when_Http.f]; exact Ev.bind (civil_out t h) (ev_neg (by simp) (Ev.now _))
    · simp only [stowageref4_Http.f]; exact Ev.bind (rcivil_out t h) (ev_neg (by simp) (Ev.now _))
def phN : List Int := [100, 200, 204, 206, 304, 400, 403, 404, 405, 409, 412, 414, 416, 417, 431, 500, 501, 503, 505]
theorem phrase_no (n : Int) (S : List ByteArray) (h : ∀ m ∈ phN, m ≠ n) (j : Nat) : ∀ i : Nat, i + j = 19 → Ev (fun k => stowageref17_Phrase.l0 k n phN S (i : Int)) (⟨#[85, 110, 107, 110, 111, 119, 110]⟩ : ByteArray) := by
  induction j with
  | zero =>
    intro i hi
    obtain rfl : i = 19 := by omega
    refine Ev.step (f := fun _ => _) (fun k => by rw [stowageref17_Phrase.l0, if_neg (by simp [phN])]) (Ev.now _)
  | succ j ih =>
    intro i hi
    have hl : i < phN.length := by simp only [phN, List.length_cons, List.length_nil]; omega
    have hr : rd phN (i : Int) ≠ n := by
      have e : rd phN (i : Int) = phN[i] := by simp [rd, List.getD_eq_getElem?_getD, List.getElem?_eq_getElem hl]
      rw [e]
      exact h _ (List.getElem_mem hl)
    refine Ev.step (f := fun k => stowageref17_Phrase.l0 k n phN S ((i + 1 : Nat) : Int)) (fun k => ?_) (ih (i + 1) (by omega))
    rw [stowageref17_Phrase.l0, if_pos (by omega), if_pos (by omega), if_neg hr, w64 (by omega) (by omega)]
    congr 1
theorem phrase_same (n : Int) : ∃ p : ByteArray, p.size ≤ 100 ∧ reply_Phrase.f n = some p ∧ Ev (fun k => stowageref17_Phrase.f k n) p := by
  by_cases h : ∀ m ∈ phN, m ≠ n
  · refine ⟨(⟨#[85, 110, 107, 110, 111, 119, 110]⟩ : ByteArray), by decide, ?_, ?_⟩
    · have h' : ∀ m ∈ phN, n ≠ m := fun m hm e => h m hm e.symm
      simp only [phN, List.forall_mem_cons, List.not_mem_nil, false_implies, implies_true, and_true] at h'
      obtain ⟨a1, a2, a3, a4, a5, a6, a7, a8, a9, a10, a11, a12, a13, a14, a15, a16, a17, a18, a19⟩ := h'
      unfold reply_Phrase.f
      rw [if_neg a1, if_neg a2, if_neg a3, if_neg a4, if_neg a5, if_neg a6, if_neg a7, if_neg a8, if_neg a9, if_neg a10, if_neg a11, if_neg a12, if_neg a13, if_neg a14, if_neg a15, if_neg a16, if_neg a17, if_neg a18, if_neg a19]
    · simp only [stowageref17_Phrase.f]
      exact phrase_no n _ h 19 0 rfl
  · obtain ⟨m, hm, rfl⟩ : ∃ m, m ∈ phN ∧ m = n := Classical.byContradiction fun hx => h fun m hm e => hx ⟨m, hm, e⟩
    simp only [phN, List.mem_cons, List.not_mem_nil, or_false] at hm
    rcases hm with rfl | rfl | rfl | rfl | rfl | rfl | rfl | rfl | rfl | rfl | rfl | rfl | rfl | rfl | rfl | rfl | rfl | rfl | rfl <;> exact ⟨_, by decide, rfl, Ev.of (fun k => stowageref17_Phrase.mono _ k) (k := 25) (by decide +kernel)⟩
theorem bare_same (n : Int) : ∃ b, reply_Bare.f n = some b ∧ stowageref17_Bare.f n = some b := by
  unfold reply_Bare.f stowageref17_Bare.f
  by_cases h1 : n = 100
  · exact ⟨_, if_pos h1, if_pos h1⟩
  · by_cases h2 : n = 204
    · exact ⟨_, by rw [if_neg h1, if_pos h2], by rw [if_neg h1, if_pos h2]⟩
    · exact ⟨_, by rw [if_neg h1, if_neg h2], by rw [if_neg h1, if_neg h2]⟩
theorem awake_60 : stowagelaw17_awake.f 60 = some true := by decide +kernel
theorem awake_ev : Ev (fun k => stowagelaw17_awake.f k) true := Ev.of (fun k => stowagelaw17_awake.mono k) awake_60
theorem awb : Ev (fun k => (stowagelaw17_awake.f k).bind fun t => some t) true := Ev.bind awake_ev (Ev.now _)
end Go.Proofs.YtfjidcmegacibaaDoor.Pure
