/- A part of the proof of the seat's laws. No condition beyond those in the theorems. -/
import Derived.Test.YtieejapamkokaaaDoorZCharsB
import Derived.Lib.DecodeN
import Derived.Test.YtieejapamkokaaaDoorZQ75

namespace Go.Proofs.YtieejapamkokaaaDoor.Pure
open Go.RowKit Go.Proofs.YtieejapamkokaaaDoor.Q Go.Proofs.YtieejapamkokaaaDoorW.PrintWords Go.Proofs.YtieejapamkokaaaDoorW.PrintLast
set_option linter.unusedVariables false
set_option linter.unusedSimpArgs false
def tailL : List UInt8 → Nat → Nat → Option Nat
  | _, 0, v => some v
  | [], _ + 1, _ => none
  | b :: l, j + 1, v => if 128 ≤ b.toNat ∧ b.toNat < 192 then tailL l j (64 * v + (b.toNat - 128)) else none
def finL (v m n : Nat) : Nat × Nat := if v < m ∨ 1114111 < v ∨ (55296 ≤ v ∧ v < 57344) then (0, 0) else (v, n)
def seqL (l : List UInt8) (j v m : Nat) : Nat × Nat := match tailL l j v with | none => (0, 0) | some v => finL v m (j + 1)
def stL : List UInt8 → Nat × Nat
  | [] => (0, 0)
  | b :: l => if b.toNat < 128 then (b.toNat, 1) else if b.toNat < 192 then (0, 0) else if b.toNat < 224 then seqL l 1 (b.toNat - 192) 128 else if b.toNat < 240 then seqL l 2 (b.toNat - 224) 2048 else if b.toNat < 248 then seqL l 3 (b.toNat - 240) 65536 else (0, 0)
def iP (p : Nat × Nat) : Int × Int := (p.1, p.2)
theorem tailL_short (l : List UInt8) : ∀ j v, l.length < j → tailL l j v = none := by
  induction l with
  | nil => intro j v h; cases j with | zero => simp at h | succ j => rfl
  | cons b l ih =>
    intro j v h
    cases j with
    | zero => simp at h
    | succ j =>
      rw [tailL]
      split
      · exact ih j _ (by simpa using h)
      · rfl
theorem tailL_more (l m : List UInt8) : ∀ j v r, tailL l j v = some r → tailL (l ++ m) j v = some r := by
  induction l with
  | nil =>
    intro j v r h
    cases j with
    | zero => simpa [tailL] using h
    | succ j => simp [tailL] at h
  | cons b l ih =>
    intro j v r h
    cases j with
    | zero => simpa [tailL] using h
    | succ j =>
      rw [tailL] at h
      rw [List.cons_append, tailL]
      split at h
      · rename_i c; rw [if_pos c]; exact ih j _ r h
      · exact absurd h (by simp)
theorem tailL_len (l : List UInt8) (j v r : Nat) (h : tailL l j v = some r) : j ≤ l.length := by
  by_cases c : l.length < j
  · rw [tailL_short l j v c] at h; exact absurd h (by simp)
  · omega
theorem step_l0 (s : ByteArray) (hs : s.size ≤ 1000000000000000) (m : Nat) (j : Nat) : ∀ (pre l : List UInt8) (v : Nat), s.toList = pre ++ l → j ≤ l.length → (v + 1) * 64 ^ j ≤ 1000000000000000 →
    Ev (fun k => stowageref3_Step.l0 k s ((pre.length + j : Nat) : Int) (v : Int) (m : Int) (pre.length : Int)) (iP (match tailL l j v with | none => (0, 0) | some v => finL v m (pre.length + j))) := by
  induction j with
  | zero =>
    intro pre l v h hj hv
    have e0 : tailL l 0 v = some v := by cases l <;> rfl
    rw [e0]
    refine Ev.step (f := fun _ => some (iP (finL v m (pre.length + 0)))) (fun k => ?_) (Ev.now _)
    rw [stowageref3_Step.l0, if_neg (by omega), finL]
    by_cases c : v < m ∨ 1114111 < v ∨ (55296 ≤ v ∧ v < 57344)
    · rw [if_pos c]
      by_cases c1 : (v : Int) < (m : Int)
      · rw [if_pos c1]; rfl
      · rw [if_neg c1]
        by_cases c2 : (v : Int) > 1114111
        · rw [if_pos c2]; rfl
        · rw [if_neg c2, if_pos (by omega), if_pos (by omega)]; rfl
    · rw [if_neg c, if_neg (by omega), if_neg (by omega)]
      by_cases c3 : (v : Int) ≥ 55296
      · rw [if_pos c3, if_neg (by omega)]; rfl
      · rw [if_neg c3]; rfl
  | succ j ih =>
    intro pre l v h hj hv
    cases l with
    | nil => simp at hj
    | cons c l =>
      obtain ⟨hb, hl⟩ := bt_pre s pre l c h
      have hn := pre_next pre c s.size hl (by omega)
      have happ := pre_app s _ l c h
      have hc := c.toNat_lt
      have hp : 1 ≤ 64 ^ j := Nat.one_le_pow _ _ (by omega)
      have hv1 : (v + 1) * 64 ^ (j + 1) = (64 * (v + 1)) * 64 ^ j := by rw [Nat.pow_succ]; rw [Nat.mul_comm (64 ^ j) 64, ← Nat.mul_assoc, Nat.mul_comm (v + 1) 64]
      have hv2 : 64 * (v + 1) ≤ (64 * (v + 1)) * 64 ^ j := Nat.le_mul_of_pos_right _ hp
      rw [tailL]
      by_cases g : 128 ≤ c.toNat ∧ c.toNat < 192
      · rw [if_pos g]
        have hlen : ((pre ++ [c]).length + j : Nat) = pre.length + (j + 1) := by simp; omega
        have hm : (64 * v + (c.toNat - 128) + 1) * 64 ^ j ≤ (64 * (v + 1)) * 64 ^ j := Nat.mul_le_mul_right _ (by omega)
        have h' := ih (pre ++ [c]) l (64 * v + (c.toNat - 128)) happ (by simpa using hj) (by omega)
        rw [hlen] at h'
        refine Ev.step (fun k => ?_) h'
        have ew : wrap64 (wrap64 (wrap64 (64 * (v : Int)) + wrap64 (c.toNat : Int)) - 128) = ((64 * v + (c.toNat - 128) : Nat) : Int) := by
          rw [w64 (n := 64 * (v : Int)) (by omega) (by omega), w64 (n := (c.toNat : Int)) (by omega) (by omega), w64 (n := 64 * (v : Int) + (c.toNat : Int)) (by omega) (by omega), w64 (by omega) (by omega)]
          omega
        rw [stowageref3_Step.l0, if_pos (by omega), if_pos (by omega), if_pos (by omega), hb, if_neg (by omega), if_neg (by omega), ew, hn]
      · rw [if_neg g]
        refine Ev.step (f := fun _ => some ((0 : Int), (0 : Int))) (fun k => ?_) (Ev.now _)
        rw [stowageref3_Step.l0, if_pos (by omega), if_pos (by omega), if_pos (by omega), hb]
        by_cases g1 : (c.toNat : Int) < 128
        · rw [if_pos g1]
        · rw [if_neg g1, if_pos (by omega)]
theorem step_j2 (s : ByteArray) (hs : s.size ≤ 1000000000000000) (c : UInt8) (l : List UInt8) (h : s.toList = c :: l) (j v m : Nat) (hv : (v + 1) * 64 ^ j ≤ 1000000000000000) :
    Ev (fun k => stowageref3_Step.j2 k s ((j + 1 : Nat) : Int) (v : Int) (m : Int)) (iP (seqL l j v m)) := by
  have hz : l.length + 1 = s.size := by rw [← length_toList, h]; rfl
  unfold seqL
  by_cases g : l.length < j
  · rw [tailL_short l j v g]
    exact Ev.step (f := fun _ => some ((0 : Int), (0 : Int))) (fun k => by rw [stowageref3_Step.j2, if_pos (by omega)]) (Ev.now _)
  · have h' := step_l0 s hs m j [c] l v h (by omega) hv
    rw [show [c].length + j = j + 1 by rw [List.length_singleton]; omega] at h'
    exact Ev.step (fun k => by rw [stowageref3_Step.j2, if_neg (by omega)]; rfl) h'
theorem step_ev (s : ByteArray) (hs : s.size ≤ 1000000000000000) (c : UInt8) (l : List UInt8) (h : s.toList = c :: l) : Ev (fun k => stowageref3_Step.f k s) (iP (stL s.toList)) := by
  have hz : l.length + 1 = s.size := by rw [← length_toList, h]; rfl
  obtain ⟨hb, hl⟩ := bt_pre s [] l c h
  have hb' : bt s 0 = (c.toNat : Int) := hb
  have hc := c.toNat_lt
  have hw : wrap64 (c.toNat : Int) = (c.toNat : Int) := w64 (by omega) (by omega)
  rw [h, stL]
  unfold stowageref3_Step.f
  refine ev_pos (by omega) ?_
  simp only [hb', hw]
  by_cases c1 : c.toNat < 128
  · rw [if_pos c1]
    exact ev_pos (by omega) (Ev.now _)
  · rw [if_neg c1]
    refine ev_neg (by omega) ?_
    by_cases c2 : c.toNat < 192
    · rw [if_pos c2]
      refine ev_neg (by omega) ?_
      refine Ev.step (f := fun k => stowageref3_Step.j1 k s (c.toNat : Int) false) (fun k => by rw [stowageref3_Step.j0, if_neg (by decide), if_neg (by omega)]) ?_
      exact Ev.step (f := fun _ => some ((0 : Int), (0 : Int))) (fun k => by rw [stowageref3_Step.j1, if_neg (by decide), if_neg (by omega)]) (Ev.now _)
    · rw [if_neg c2]
      refine ev_pos (by omega) ?_
      by_cases c3 : c.toNat < 224
      · rw [if_pos c3]
        refine Ev.step (fun k => ?_) (step_j2 s hs c l h 1 (c.toNat - 192) 128 (by omega))
        rw [stowageref3_Step.j0, if_pos (by rw [decide_eq_true_eq]; omega), w64 (by omega) (by omega), show (c.toNat : Int) - 192 = ((c.toNat - 192 : Nat) : Int) by omega]
        rfl
      · rw [if_neg c3]
        by_cases c4 : c.toNat < 240
        · rw [if_pos c4]
          refine Ev.step (f := fun k => stowageref3_Step.j1 k s (c.toNat : Int) true) (fun k => by rw [stowageref3_Step.j0, if_neg (by rw [decide_eq_true_eq]; omega), if_pos (by omega), decide_eq_true (by omega)]) ?_
          refine Ev.step (fun k => ?_) (step_j2 s hs c l h 2 (c.toNat - 224) 2048 (by omega))
          rw [stowageref3_Step.j1, if_pos rfl, w64 (by omega) (by omega), show (c.toNat : Int) - 224 = ((c.toNat - 224 : Nat) : Int) by omega]
          rfl
        · rw [if_neg c4]
          refine Ev.step (f := fun k => stowageref3_Step.j1 k s (c.toNat : Int) false) (fun k => by rw [stowageref3_Step.j0, if_neg (by rw [decide_eq_true_eq]; omega), if_pos (by omega), decide_eq_false (by omega)]) ?_
          by_cases c5 : c.toNat < 248
          · rw [if_pos c5]
            refine Ev.step (fun k => ?_) (step_j2 s hs c l h 3 (c.toNat - 240) 65536 (by omega))
            rw [stowageref3_Step.j1, if_neg (by decide), if_pos (by omega), if_pos (by omega), w64 (by omega) (by omega), show (c.toNat : Int) - 240 = ((c.toNat - 240 : Nat) : Int) by omega]
            rfl
          · rw [if_neg c5]
            exact Ev.step (f := fun _ => some ((0 : Int), (0 : Int))) (fun k => by rw [stowageref3_Step.j1, if_neg (by decide), if_pos (by omega), if_neg (by omega)]) (Ev.now _)
theorem finL_cases (v m n : Nat) : finL v m n = (0, 0) ∨ finL v m n = (v, n) := by
  unfold finL; split
  · exact .inl rfl
  · exact .inr rfl
theorem seqL_cases (l : List UInt8) (j v m : Nat) : seqL l j v m = (0, 0) ∨ ∃ r, tailL l j v = some r ∧ seqL l j v m = (r, j + 1) := by
  unfold seqL
  cases h : tailL l j v with
  | none => exact .inl rfl
  | some r =>
    rcases finL_cases r m (j + 1) with e | e
    · exact .inl e
    · exact .inr ⟨r, rfl, e⟩
theorem seqL_more (l t : List UInt8) (j v m : Nat) (h : (seqL l j v m).2 ≠ 0) : seqL (l ++ t) j v m = seqL l j v m := by
  unfold seqL at h ⊢
  cases e : tailL l j v with
  | none => rw [e] at h; simp at h
  | some r => rw [tailL_more l t j v r e]
theorem seqL_wid (l : List UInt8) (j v m : Nat) : (seqL l j v m).2 ≤ l.length + 1 := by
  rcases seqL_cases l j v m with e | ⟨r, hr, e⟩
  · rw [e]; simp
  · rw [e]; have := tailL_len l j v r hr; simp; omega
theorem stL_more (l t : List UInt8) (h : (stL l).2 ≠ 0) : stL (l ++ t) = stL l := by
  cases l with
  | nil => simp [stL] at h
  | cons b l =>
    rw [stL] at h
    rw [List.cons_append, stL, stL]
    split
    · rfl
    · rename_i c1
      rw [if_neg c1] at h
      split
      · rfl
      · rename_i c2
        rw [if_neg c2] at h
        split
        · rename_i c3; rw [if_pos c3] at h; exact seqL_more l t _ _ _ h
        · rename_i c3
          rw [if_neg c3] at h
          split
          · rename_i c4; rw [if_pos c4] at h; exact seqL_more l t _ _ _ h
          · rename_i c4
            rw [if_neg c4] at h
            split
            · rename_i c5; rw [if_pos c5] at h; exact seqL_more l t _ _ _ h
            · rfl
theorem stL_wid (b : UInt8) (l : List UInt8) : (stL (b :: l)).2 ≤ l.length + 1 := by
  rw [stL]
  (repeat' split) <;> first | exact seqL_wid _ _ _ _ | simp
end Go.Proofs.YtieejapamkokaaaDoor.Pure
