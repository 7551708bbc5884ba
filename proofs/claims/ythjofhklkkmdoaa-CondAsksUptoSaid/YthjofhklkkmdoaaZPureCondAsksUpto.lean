/- A part of the proof of the seat's laws. No condition beyond those in the theorems. -/
import Derived.Test.YthjofhklkkmdoaaZCondAskP
import Derived.Test.YthjofhklkkmdoaaZCondAwake
import Derived.Test.YthjofhklkkmdoaaZQ76g4

namespace Go.Proofs.Ythjofhklkkmdoaa.Pure
open Go.RowKit Go.Proofs.Ythjofhklkkmdoaa.Q Go.Proofs.YthjofhklkkmdoaaW.PrintWords Go.Proofs.YthjofhklkkmdoaaW.PrintLast
set_option linter.unusedVariables false
set_option linter.unusedSimpArgs false
theorem okT_small (s : ByteArray) (hs : s.size ≤ 1099511627776) : okT s := by
  have hsl := length_toList s
  have hn := (splitB_len 44 s.toList []).1
  exact ⟨by omega, by omega⟩
theorem getB_small (name : ByteArray) (l : List S41) (h : ∀ x ∈ l, x.f1.size ≤ 1099511627776) : (getB name l).1.size ≤ 1099511627776 := by
  induction l with
  | nil => show 0 ≤ _; omega
  | cons x l ih =>
    rw [getB]
    split
    · exact h x (by simp)
    · exact ih (fun y hy => h y (by simp [hy]))
theorem getB_absent (name : ByteArray) (l : List S41) (h : (getB name l).2 = false) : (getB name l).1 = ⟨#[]⟩ := by
  induction l with
  | nil => rfl
  | cons x l ih =>
    rw [getB] at h ⊢
    split at h
    · cases h
    · next c => rw [if_neg c]; exact ih h
theorem rhttp_empty : Ev (fun k => stowageref4_ParseHttp.f k ⟨#[]⟩) ((0, false) : Int × Bool) := by
  simp only [stowageref4_ParseHttp.f]
  exact ev_neg (by show ¬ ((0 : Nat) : Int) = 29; omega) (Ev.now _)
theorem http_same (name : ByteArray) (l : List S41) : ∃ r : Int × Bool, Ev (fun k => when_ParseHttp.f k (getB name l).1) r ∧ Ev (fun k => stowageref4_ParseHttp.f k (getB name l).1) r ∧ ((getB name l).2 = false → r = (0, false)) := by
  cases h : (getB name l).2 with
  | true =>
    obtain ⟨r, h1, h2⟩ := Date.parseHttp_same (getB name l).1
    exact ⟨r, h1, h2, fun q => by cases q⟩
  | false =>
    rw [getB_absent name l h]
    exact ⟨(0, false), http_empty, rhttp_empty, fun _ => rfl⟩
theorem asks_same (p : ByteArray) (hp : p.size ≤ 1000000) (l : List S41) (etag : ByteArray) (time : Int) (reads : Bool) (hn : l.length ≤ 1099511627776) (hl : ∀ x ∈ l, x.f1.size ≤ 1099511627776) :
    ∃ r, Ev (fun k => cond_ask.f k l p etag time reads) r ∧ Ev (fun k => stowageref21_ask.f k l p etag time reads) r := by
  obtain ⟨s, s1, s2, s0⟩ := http_same (p ++ nSince) l
  obtain ⟨a, a1, a2, a0⟩ := http_same (p ++ nAfter) l
  have h1 := okT_small _ (getB_small (p ++ nMatch) l hl)
  have h2 := okT_small _ (getB_small (p ++ nNone) l hl)
  exact ⟨_, askP_ev p hp l etag time reads s a (by omega) h1 h2 s1 a1, raskP_ev p hp l etag time reads s a (by omega) h1 h2 s2 s0 a2 a0⟩
theorem CondAsksUpto (l : List S41) (etag : ByteArray) (time : Int) (reads : Bool) (hn : l.length ≤ 1099511627776) (hl : ∀ x ∈ l, x.f1.size ≤ 1099511627776) : ∃ k, stowagelaw21_CondAsks.f k l etag time reads = some true := by
  apply Ev.rounds
  simp only [stowagelaw21_CondAsks.f, cond_Ask.f, stowageref21_Ask.f, cond_Copy.f, stowageref21_Copy.f]
  obtain ⟨r, h1, h2⟩ := asks_same ⟨#[]⟩ (by show 0 ≤ _; omega) l etag time reads hn hl
  obtain ⟨q, g1, g2⟩ := asks_same ⟨#[120, 45, 97, 109, 122, 45, 99, 111, 112, 121, 45, 115, 111, 117, 114, 99, 101, 45]⟩ (by show 18 ≤ _; omega) l etag time true hn hl
  refine Ev.bind (Ev.bind h1 (Ev.now _)) (Ev.bind (Ev.bind h2 (Ev.now _)) (ev_pos rfl ?_))
  have tail : ∀ f : Nat → Option Int, Ev f q → Ev (fun k => (f k).bind fun t => if t = 0 then some (0 : Int) else some 327) (if q = 0 then 0 else 327) := by
    intro f hf
    refine Ev.bind hf (ev_eq (Ev.congr (f := fun _ => some (if q = 0 then 0 else 327)) (fun k => by split <;> rfl) (Ev.now _)) rfl)
  refine Ev.bind (tail _ g1) (Ev.bind (tail _ g2) (ev_pos rfl ?_))
  exact Ev.bind awake_ev (Ev.now _)
end Go.Proofs.Ythjofhklkkmdoaa.Pure
