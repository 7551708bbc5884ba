/- A part of the proof of the seat's laws. No condition beyond those in the theorems. -/
import Derived.Test.YtieejapamkokaaaDoorZCharsB
import Derived.Test.YtieejapamkokaaaDoorZRSplitB
import Derived.Lib.SlTrimSet
import Derived.Test.YtieejapamkokaaaDoorZQ44
import Derived.Test.YtieejapamkokaaaDoorZQ43
import Derived.Test.YtieejapamkokaaaDoorZQ19g6
import Derived.Test.YtieejapamkokaaaDoorZQ70
import Derived.Test.YtieejapamkokaaaDoorZQ68g2

namespace Go.Proofs.YtieejapamkokaaaDoor.Pure
open Go.RowKit Go.Proofs.YtieejapamkokaaaDoor.Q Go.Proofs.YtieejapamkokaaaDoorW.PrintWords Go.Proofs.YtieejapamkokaaaDoorW.PrintLast
set_option linter.unusedVariables false
set_option linter.unusedSimpArgs false
theorem dw_nil (p : UInt8 → Bool) (l : List UInt8) : l.dropWhile p = [] ↔ l.all p = true := by
  induction l with
  | nil => simp
  | cons c l ih =>
    rw [List.dropWhile_cons, List.all_cons]
    cases h : p c
    · simp
    · rw [if_pos rfl, Bool.true_and]; exact ih
theorem dw_head (p : UInt8 → Bool) (l : List UInt8) : ∀ c m, l.dropWhile p = c :: m → p c = false := by
  induction l with
  | nil => intro c m h; simp at h
  | cons a l ih =>
    intro c m h
    rw [List.dropWhile_cons] at h
    cases g : p a
    · rw [g, if_neg (by decide)] at h
      rw [← (List.cons.inj h).1]; exact g
    · rw [g, if_pos rfl] at h; exact ih c m h
theorem trimS_nil (l cs : List UInt8) : Lib.trimS l cs = [] ↔ l.all (fun c => cs.contains c) = true := by
  have hR : Lib.trimRightS l cs = (l.reverse.dropWhile (fun c => cs.contains c)).reverse := rfl
  have hL : ∀ m : List UInt8, Lib.trimLeftS m cs = m.dropWhile (fun c => cs.contains c) := fun _ => rfl
  unfold Lib.trimS
  rw [hL, dw_nil, hR, List.all_reverse]
  constructor
  · intro h
    cases hm : l.reverse.dropWhile (fun c => cs.contains c) with
    | nil =>
      have := (dw_nil _ _).mp hm
      rwa [List.all_reverse] at this
    | cons c m =>
      have hc := dw_head _ _ c m hm
      rw [hm, List.all_cons, hc] at h
      exact absurd h (by simp)
  · intro h
    have : l.reverse.dropWhile (fun c => cs.contains c) = [] := (dw_nil _ _).mpr (by rw [List.all_reverse]; exact h)
    rw [this]; rfl
def dgB (c : UInt8) : Bool := decide (48 ≤ c.toNat ∧ c.toNat ≤ 57)
theorem dg_key : ∀ n : Fin 256, [48, 49, 50, 51, 52, 53, 54, 55, 56, 57].contains (UInt8.ofNat n.val) = dgB (UInt8.ofNat n.val) := by decide +kernel
theorem dg_set : (fun c : UInt8 => ([48, 49, 50, 51, 52, 53, 54, 55, 56, 57] : List UInt8).contains c) = dgB := by
  funext c
  have h := dg_key ⟨c.toNat, c.toNat_lt⟩
  simp only [UInt8.ofNat_toNat] at h
  exact h
def digsB (p : List UInt8) : Bool := p.all dgB && (p != [])
theorem digits_l0 (s : ByteArray) (hs : s.size ≤ 1000000000000000) (l : List UInt8) : ∀ pre, s.toList = pre ++ l → Ev (fun k => stowageref3_digits.l0 k s (pre.length : Int)) (l.all dgB && decide ((s.size : Int) > 0)) := by
  induction l with
  | nil =>
    intro pre h
    have e := pre_end s pre h
    exact Ev.step (f := fun _ => some (decide ((s.size : Int) > 0))) (fun k => by rw [stowageref3_digits.l0, if_neg (by omega)]) (ev_eq (Ev.now _) (by simp))
  | cons c l ih =>
    intro pre h
    obtain ⟨hb, hl⟩ := bt_pre s pre l c h
    have hn := pre_next pre c s.size hl (by omega)
    have happ := pre_app s _ l c h
    rw [List.all_cons]
    by_cases g : 48 ≤ c.toNat ∧ c.toNat ≤ 57
    · rw [show dgB c = true by rw [dgB, decide_eq_true g], Bool.true_and]
      exact Ev.step (fun k => by rw [stowageref3_digits.l0, if_pos (by omega), if_pos (by omega), hb, if_neg (by omega), if_neg (by omega), hn]) (ih (pre ++ [c]) happ)
    · rw [show dgB c = false by rw [dgB, decide_eq_false g], Bool.false_and, Bool.false_and]
      refine Ev.step (f := fun _ => some false) (fun k => ?_) (Ev.now _)
      rw [stowageref3_digits.l0, if_pos (by omega), if_pos (by omega), hb]
      by_cases g1 : (c.toNat : Int) < 48
      · rw [if_pos g1]
      · rw [if_neg g1, if_pos (by omega)]
theorem digits_ev (p : List UInt8) (hs : p.length ≤ 1000000000000000) : Ev (fun k => stowageref3_digits.f k (B p)) (digsB p) := by
  refine ev_eq (digits_l0 (B p) (by rw [B_size]; exact hs) p [] (by rw [B_toList]; rfl)) ?_
  rw [digsB, B_size]
  congr 1
  cases p <;> simp
def fourB (P : List (List UInt8)) : Bool := P.all digsB && (P.length == 4)
theorem trim_dg (p : List UInt8) (hs : p.length ≤ 1000000000000000) : ∃ t, strings_Trim.f (B p) (⟨#[48, 49, 50, 51, 52, 53, 54, 55, 56, 57]⟩ : ByteArray) = some t ∧ (t.toList = ([] : List UInt8) ↔ p.all dgB = true) := by
  have hz : (B p).size = p.length := B_size p
  refine ⟨B (Lib.trimS p [48, 49, 50, 51, 52, 53, 54, 55, 56, 57]), ?_, ?_⟩
  · unfold strings_Trim.f
    rw [if_pos ⟨by omega, by decide, by decide⟩]
    rfl
  · rw [B_toList, trimS_nil, dg_set]
theorem four_l0 (P : List (List UInt8)) (hP : P.length ≤ 1000000) (hs : ∀ p ∈ P, p.length ≤ 1000000000000000) (l : List (List UInt8)) : ∀ pre, P = pre ++ l → Ev (fun k => chars_four.l0 k (P.map B) (P.map B) ((P.map B).length : Int) (pre.length : Int)) (l.all digsB && (P.length == 4)) := by
  have hm : (P.map B).length = P.length := List.length_map ..
  rw [hm]
  induction l with
  | nil =>
    intro pre h
    have e : P.length = pre.length := by rw [h, List.append_nil]
    refine Ev.step (f := fun _ => some ((P.length : Int) == 4)) (fun k => by rw [chars_four.l0, if_neg (by omega), hm]) (ev_eq (Ev.now _) ?_)
    rw [List.all_nil, Bool.true_and]
    by_cases g : P.length = 4
    · rw [g]; rfl
    · rw [show (P.length == 4) = false by simpa using g]
      rw [beq_eq_false_iff_ne]
      omega
  | cons p l ih =>
    intro pre h
    have hlen : P.length = pre.length + (l.length + 1) := by rw [h]; simp
    have hget : rdOf ByteArray.empty (P.map B) (pre.length : Int) = B p := by
      rw [rdOf]
      simp [h]
    have hp := hs p (by rw [h]; simp)
    have hn : wrap64 ((pre.length : Int) + 1) = ((pre ++ [p]).length : Int) := by rw [w64 (by omega) (by omega)]; simp
    obtain ⟨t, ht, hi⟩ := trim_dg p hp
    rw [List.all_cons]
    by_cases g0 : p = []
    · have : digsB p = false := by rw [g0]; rfl
      rw [this, Bool.false_and, Bool.false_and]
      refine Ev.step (f := fun _ => some false) (fun k => ?_) (Ev.now _)
      rw [chars_four.l0, if_pos (by omega), if_pos (by omega), if_pos (by omega), hget, if_pos (by rw [B_toList]; exact g0)]
    · by_cases g1 : p.all dgB = true
      · have : digsB p = true := by rw [digsB, g1, Bool.true_and]; simpa using g0
        rw [this, Bool.true_and]
        refine Ev.step (fun k => ?_) (ih (pre ++ [p]) (by rw [h]; simp))
        rw [chars_four.l0, if_pos (by omega), if_pos (by omega), if_pos (by omega), hget, if_neg (by rw [B_toList]; exact g0), ht, Option.bind_some, if_pos (hi.mpr g1), hn]
      · have : digsB p = false := by rw [digsB]; simp only [Bool.not_eq_true] at g1; rw [g1]; rfl
        rw [this, Bool.false_and, Bool.false_and]
        refine Ev.step (f := fun _ => some false) (fun k => ?_) (Ev.now _)
        rw [chars_four.l0, if_pos (by omega), if_pos (by omega), if_pos (by omega), hget, if_neg (by rw [B_toList]; exact g0), ht, Option.bind_some, if_neg (fun h => g1 (hi.mp h))]
theorem splitB_num' (c : UInt8) (l : List UInt8) : ∀ cur, (splitB c cur l).length ≤ l.length + 1 := by
  induction l with
  | nil => intro cur; simp [splitB]
  | cons a l ih =>
    intro cur
    rw [splitB]
    by_cases g : a = c
    · rw [if_pos g]
      have := ih []
      simp
      omega
    · rw [if_neg g]
      have := ih (cur ++ [a])
      simp
      omega
theorem splitB_each (c : UInt8) (l : List UInt8) : ∀ cur, ∀ p ∈ splitB c cur l, p.length ≤ cur.length + l.length := by
  induction l with
  | nil => intro cur p h; simp only [splitB, List.mem_singleton] at h; subst h; simp
  | cons a l ih =>
    intro cur p h
    rw [splitB] at h
    by_cases g : a = c
    · rw [if_pos g] at h
      rcases List.mem_cons.mp h with rfl | h
      · simp
      · have := ih [] p h
        simp at this ⊢
        omega
    · rw [if_neg g] at h
      have := ih (cur ++ [a]) p h
      simp at this ⊢
      omega
theorem four_ev (s : ByteArray) (hs : s.size ≤ 63) : Ev (fun k => chars_four.f k s) (fourB (splitB 46 [] s.toList)) := by
  have hn := splitB_num' 46 s.toList []
  rw [length_toList] at hn
  unfold chars_four.f
  refine Ev.bind (split_ev s 46 (by omega) (by omega)) ?_
  refine four_l0 (splitB 46 [] s.toList) (by omega) (fun p hp => ?_) (splitB 46 [] s.toList) [] rfl
  have := splitB_each 46 s.toList [] p hp
  rw [length_toList] at this
  simp at this
  omega
def rtail (k : Nat) (P : List ByteArray) : Option Bool := (if (P.length : Int) = 4 then (if 0 < (P.length : Int) then ((stowageref3_digits.f k (rdOf ByteArray.empty P 0)).bind fun t228 => (if t228 = true then (if 1 < (P.length : Int) then ((stowageref3_digits.f k (rdOf ByteArray.empty P 1)).bind fun t230 => (if t230 = true then (if 2 < (P.length : Int) then ((stowageref3_digits.f k (rdOf ByteArray.empty P 2)).bind fun t232 => (if t232 = true then (if 3 < (P.length : Int) then ((stowageref3_digits.f k (rdOf ByteArray.empty P 3)).bind fun t234 => (some (!t234))) else (none)) else (some (!false)))) else (none)) else (some (!false)))) else (none)) else (some (!false)))) else (none)) else (some (!false)))
theorem rfour_ev (P : List (List UInt8)) (hs : ∀ p ∈ P, p.length ≤ 1000000000000000) : Ev (fun k => rtail k (P.map B)) (!fourB P) := by
  have hm : (P.map B).length = P.length := List.length_map ..
  unfold rtail
  rw [hm]
  by_cases g : P.length = 4
  · match P, g with
    | [p0, p1, p2, p3], _ =>
      have d0 := digits_ev p0 (hs p0 (by simp))
      have d1 := digits_ev p1 (hs p1 (by simp))
      have d2 := digits_ev p2 (hs p2 (by simp))
      have d3 := digits_ev p3 (hs p3 (by simp))
      have e : fourB [p0, p1, p2, p3] = (digsB p0 && (digsB p1 && (digsB p2 && digsB p3))) := by simp [fourB]
      rw [e]
      refine ev_pos (by simp) (ev_pos (by simp) (Ev.bind d0 ?_))
      cases digsB p0
      · exact ev_neg (by decide) (Ev.now _)
      · refine ev_pos rfl (ev_pos (by simp) (Ev.bind d1 ?_))
        cases digsB p1
        · exact ev_neg (by decide) (Ev.now _)
        · refine ev_pos rfl (ev_pos (by simp) (Ev.bind d2 ?_))
          cases digsB p2
          · exact ev_neg (by decide) (Ev.now _)
          · refine ev_pos rfl (ev_pos (by simp) (Ev.bind d3 ?_))
            exact ev_eq (Ev.now _) (by simp)
  · refine ev_neg (by omega) (ev_eq (Ev.now _) ?_)
    rw [fourB, show (P.length == 4) = false by simpa using g, Bool.and_false]
def okP (n p z q : Int) : Prop := (97 ≤ n ∧ n ≤ 122) ∨ (48 ≤ n ∧ n ≤ 57) ∨ (p ≠ 0 ∧ p ≠ z - 1 ∧ (n = 45 ∨ (n = 46 ∧ q ≠ 46)))
instance (n p z q : Int) : Decidable (okP n p z q) := by unfold okP; infer_instance
set_option maxHeartbeats 4000000 in
theorem pick {α : Type} (n p z q : Int) (X Y N : α) (h0 : 0 ≤ p) (h1 : p < z) : (if n ≥ 97 then (if n ≤ 122 then X else (if n ≥ 48 then (if (n ≤ 57) then X else (if n = 45 then (if p = 0 then Y else (if p = (z - 1) then Y else (if n = 46 then (if 0 ≤ (p - 1) then (if (p - 1) < z then (if q = 46 then Y else X) else N) else N) else X))) else (if n = 46 then (if p = 0 then Y else (if p = (z - 1) then Y else (if 0 ≤ (p - 1) then (if (p - 1) < z then (if q = 46 then Y else X) else N) else N))) else Y))) else (if n = 45 then (if p = 0 then Y else (if p = (z - 1) then Y else (if n = 46 then (if 0 ≤ (p - 1) then (if (p - 1) < z then (if q = 46 then Y else X) else N) else N) else X))) else (if n = 46 then (if p = 0 then Y else (if p = (z - 1) then Y else (if 0 ≤ (p - 1) then (if (p - 1) < z then (if q = 46 then Y else X) else N) else N))) else Y)))) else (if n ≥ 48 then (if (n ≤ 57) then X else (if n = 45 then (if p = 0 then Y else (if p = (z - 1) then Y else (if n = 46 then (if 0 ≤ (p - 1) then (if (p - 1) < z then (if q = 46 then Y else X) else N) else N) else X))) else (if n = 46 then (if p = 0 then Y else (if p = (z - 1) then Y else (if 0 ≤ (p - 1) then (if (p - 1) < z then (if q = 46 then Y else X) else N) else N))) else Y))) else (if n = 45 then (if p = 0 then Y else (if p = (z - 1) then Y else (if n = 46 then (if 0 ≤ (p - 1) then (if (p - 1) < z then (if q = 46 then Y else X) else N) else N) else X))) else (if n = 46 then (if p = 0 then Y else (if p = (z - 1) then Y else (if 0 ≤ (p - 1) then (if (p - 1) < z then (if q = 46 then Y else X) else N) else N))) else Y)))) = if okP n p z q then X else Y := by
  have hp : p = 0 ∨ (p ≠ 0 ∧ p = z - 1) ∨ (p ≠ 0 ∧ p ≠ z - 1) := by omega
  have hq : q = 46 ∨ q ≠ 46 := by omega
  have hn : (97 ≤ n ∧ n ≤ 122) ∨ (48 ≤ n ∧ n ≤ 57) ∨ n = 45 ∨ n = 46 ∨ n < 45 ∨ n = 47 ∨ (58 ≤ n ∧ n < 97) ∨ 122 < n := by omega
  rcases hn with h | h | h | h | h | h | h | h <;> rcases hp with g | g | g <;> rcases hq with f | f <;>
    (repeat (first | rfl | exact (if_pos (show okP n p z q by unfold okP; omega)).symm | exact (if_neg (show ¬ okP n p z q by unfold okP; omega)).symm | rw [if_pos (by omega)] | rw [if_neg (by omega)]))
theorem rbucket_step (s : ByteArray) (k : Nat) (p : Nat) (hs : s.size ≤ 63) (hp : p < s.size) : stowageref3_Bucket.l0 (k + 1) s (p : Int) = if okP (bt s (p : Int)) p s.size (bt s ((p : Int) - 1)) then stowageref3_Bucket.l0 k s ((p + 1 : Nat) : Int) else some false := by
  have w1 : wrap64 ((p : Int) + 1) = ((p + 1 : Nat) : Int) := by rw [w64 (by omega) (by omega)]; omega
  have w2 : wrap64 ((p : Int) - 1) = (p : Int) - 1 := w64 (by omega) (by omega)
  have w3 : wrap64 ((s.size : Int) - 1) = (s.size : Int) - 1 := w64 (by omega) (by omega)
  rw [stowageref3_Bucket.l0, if_pos (by omega), if_pos (by omega), w1, w2, w3]
  exact pick (bt s (p : Int)) p s.size (bt s ((p : Int) - 1)) _ _ _ (by omega) (by omega)
def allP (s : ByteArray) : Nat → Nat → Bool
  | 0, _ => true
  | f + 1, p => if p < s.size then (decide (okP (bt s (p : Int)) p s.size (bt s ((p : Int) - 1))) && allP s f (p + 1)) else true
theorem rbucket_l0 (s : ByteArray) (hs : s.size ≤ 63) (f : Nat) : ∀ p, s.size ≤ p + f → p ≤ s.size → Ev (fun k => stowageref3_Bucket.l0 k s (p : Int)) (allP s f p && !fourB (splitB 46 [] s.toList)) := by
  have hn := splitB_num' 46 s.toList []
  rw [length_toList] at hn
  have hend : ∀ p : Nat, s.size ≤ p → Ev (fun k => stowageref3_Bucket.l0 k s (p : Int)) (!fourB (splitB 46 [] s.toList)) := by
    intro p hp
    refine Ev.step (f := fun k => (stowageref3_Split.f k s 46).bind fun t => rtail k t) (fun k => by rw [stowageref3_Bucket.l0, if_neg (by omega)]; rfl) (Ev.bind (rsplit_ev s 46 (by omega) (by omega)) (rfour_ev _ ?_))
    intro q hq
    have := splitB_each 46 s.toList [] q hq
    rw [length_toList] at this
    simp at this
    omega
  induction f with
  | zero => intro p h _; exact ev_eq (hend p (by omega)) (by rw [allP, Bool.true_and])
  | succ f ih =>
    intro p h hp
    by_cases g : p < s.size
    · rw [allP, if_pos g]
      by_cases ho : okP (bt s (p : Int)) p s.size (bt s ((p : Int) - 1))
      · rw [decide_eq_true ho, Bool.true_and]
        exact Ev.step (fun k => by rw [rbucket_step s k p hs g, if_pos ho]) (ih (p + 1) (by omega) (by omega))
      · rw [decide_eq_false ho, Bool.false_and, Bool.false_and]
        exact Ev.step (f := fun _ => some false) (fun k => by rw [rbucket_step s k p hs g, if_neg ho]) (Ev.now _)
    · rw [allP, if_neg g, Bool.true_and]
      exact hend p (by omega)
theorem bucket_l0 (s : ByteArray) (hs : s.size ≤ 63) (f : Nat) : ∀ p, s.size ≤ p + f → p ≤ s.size → Ev (fun k => chars_Bucket.l0 k s (s.size : Int) (p : Int)) (allP s f p && !fourB (splitB 46 [] s.toList)) := by
  have hend : ∀ p : Nat, s.size ≤ p → Ev (fun k => chars_Bucket.l0 k s (s.size : Int) (p : Int)) (!fourB (splitB 46 [] s.toList)) := by
    intro p hp
    exact Ev.step (fun k => by rw [chars_Bucket.l0, if_neg (by omega)]) (Ev.bind (four_ev s hs) (Ev.now _))
  induction f with
  | zero => intro p h _; exact ev_eq (hend p (by omega)) (by rw [allP, Bool.true_and])
  | succ f ih =>
    intro p h hp
    by_cases g : p < s.size
    · rw [allP, if_pos g]
      have w1 : wrap64 ((p : Int) + 1) = ((p + 1 : Nat) : Int) := by rw [w64 (by omega) (by omega)]; omega
      have w2 : wrap64 ((p : Int) - 1) = (p : Int) - 1 := w64 (by omega) (by omega)
      have w3 : wrap64 ((s.size : Int) - 1) = (s.size : Int) - 1 := w64 (by omega) (by omega)
      obtain ⟨n, hn⟩ : ∃ n, bt s (p : Int) = n := ⟨_, rfl⟩
      obtain ⟨q, hq⟩ : ∃ q, bt s ((p : Int) - 1) = q := ⟨_, rfl⟩
      have hnext := ih (p + 1) (by omega) (by omega)
      have e1 : ∀ k, chars_Bucket.l0 (k + 1) s (s.size : Int) (p : Int) = chars_Bucket.j2 k s p n (decide ((p : Int) = 0 ∨ (p : Int) = (s.size : Int) - 1)) s.size p := by
        intro k
        rw [chars_Bucket.l0, if_pos (by omega), if_pos (by omega), if_pos (by omega), hn, w3]
        by_cases c : (p : Int) = 0
        · rw [if_pos c, decide_eq_true (.inl c)]
        · rw [if_neg c]
          congr 1
          by_cases c2 : (p : Int) = (s.size : Int) - 1
          · rw [decide_eq_true (.inr c2), beq_iff_eq]; exact c2
          · rw [decide_eq_false (by omega), beq_eq_false_iff_ne]; exact c2
      have e2 : ∀ k b, chars_Bucket.j2 (k + 1) s p n b s.size p = chars_Bucket.j3 k s p n b s.size p (decide (97 ≤ n ∧ n ≤ 122)) := by
        intro k b
        rw [chars_Bucket.j2]
        by_cases c : n ≥ 97
        · rw [if_pos c]; congr 1; rw [decide_eq_decide]; omega
        · rw [if_neg c, decide_eq_false (by omega)]
      have e3 : ∀ k b, chars_Bucket.j3 (k + 1) s p n b s.size p (decide (97 ≤ n ∧ n ≤ 122)) = chars_Bucket.j4 k s p n b s.size p (decide ((97 ≤ n ∧ n ≤ 122) ∨ (48 ≤ n ∧ n ≤ 57))) := by
        intro k b
        rw [chars_Bucket.j3]
        by_cases c : 97 ≤ n ∧ n ≤ 122
        · rw [if_pos (by rw [decide_eq_true_eq]; exact c), decide_eq_true c, decide_eq_true (.inl c)]
        · rw [if_neg (by rw [decide_eq_true_eq]; exact c)]
          by_cases c2 : n ≥ 48
          · rw [if_pos c2]; congr 1; rw [decide_eq_decide]; omega
          · rw [if_neg c2, decide_eq_false (by omega)]
      refine Ev.step e1 (Ev.step (fun k => e2 k _) (Ev.step (fun k => e3 k _) ?_))
      rw [hn, hq]
      by_cases c : (97 ≤ n ∧ n ≤ 122) ∨ (48 ≤ n ∧ n ≤ 57)
      · rw [decide_eq_true (show okP n p s.size q by unfold okP; omega), Bool.true_and]
        exact Ev.step (fun k => by rw [chars_Bucket.j4, if_pos (by rw [decide_eq_true_eq]; exact c), w1]) hnext
      · by_cases cb : (p : Int) = 0 ∨ (p : Int) = (s.size : Int) - 1
        · rw [decide_eq_false (show ¬ okP n p s.size q by unfold okP; omega), Bool.false_and, Bool.false_and]
          exact Ev.step (f := fun _ => some false) (fun k => by rw [chars_Bucket.j4, if_neg (by rw [decide_eq_true_eq]; exact c), if_pos (by rw [decide_eq_true_eq]; exact cb)]) (Ev.now _)
        · by_cases c45 : n = 45
          · rw [decide_eq_true (show okP n p s.size q by unfold okP; omega), Bool.true_and]
            refine Ev.step (f := fun k => chars_Bucket.j5 k s p n s.size p false) (fun k => by rw [chars_Bucket.j4, if_neg (by rw [decide_eq_true_eq]; exact c), if_neg (by rw [decide_eq_true_eq]; exact cb), if_pos c45]) ?_
            exact Ev.step (fun k => by rw [chars_Bucket.j5, if_neg (by decide), if_neg (by omega), w1]) hnext
          · refine Ev.step (f := fun k => chars_Bucket.j5 k s p n s.size p (n != 46)) (fun k => by rw [chars_Bucket.j4, if_neg (by rw [decide_eq_true_eq]; exact c), if_neg (by rw [decide_eq_true_eq]; exact cb), if_neg c45]) ?_
            by_cases c46 : n = 46
            · by_cases cq : q = 46
              · rw [decide_eq_false (show ¬ okP n p s.size q by unfold okP; omega), Bool.false_and, Bool.false_and]
                exact Ev.step (f := fun _ => some false) (fun k => by rw [chars_Bucket.j5, if_neg (by simp [c46]), if_pos c46, w2, if_pos (by omega), if_pos (by omega), hq, if_pos cq]) (Ev.now _)
              · rw [decide_eq_true (show okP n p s.size q by unfold okP; omega), Bool.true_and]
                exact Ev.step (fun k => by rw [chars_Bucket.j5, if_neg (by simp [c46]), if_pos c46, w2, if_pos (by omega), if_pos (by omega), hq, if_neg cq, w1]) hnext
            · rw [decide_eq_false (show ¬ okP n p s.size q by unfold okP; omega), Bool.false_and, Bool.false_and]
              exact Ev.step (f := fun _ => some false) (fun k => by rw [chars_Bucket.j5, if_pos (by simp [c46])]) (Ev.now _)
    · rw [allP, if_neg g, Bool.true_and]
      exact hend p (by omega)
def bucketB (s : ByteArray) : Bool := if s.size < 3 ∨ 63 < s.size then false else (allP s s.size 0 && !fourB (splitB 46 [] s.toList))
theorem bucket_ev (s : ByteArray) : Ev (fun k => chars_Bucket.f k s) (bucketB s) := by
  unfold chars_Bucket.f bucketB
  by_cases c : s.size < 3 ∨ 63 < s.size
  · rw [if_pos c]
    by_cases c1 : s.size < 3
    · exact ev_pos (by omega) (Ev.step (f := fun _ => some false) (fun k => by rw [chars_Bucket.j0, if_pos rfl]) (Ev.now _))
    · exact ev_neg (by omega) (Ev.step (f := fun _ => some false) (fun k => by rw [chars_Bucket.j0, if_pos (by rw [decide_eq_true_eq]; omega)]) (Ev.now _))
  · rw [if_neg c]
    refine ev_neg (by omega) (Ev.step (f := fun k => chars_Bucket.l0 k s (s.size : Int) 0) (fun k => by rw [chars_Bucket.j0, if_neg (by rw [decide_eq_true_eq]; omega)]) (bucket_l0 s (by omega) s.size 0 (by omega) (by omega)))
theorem rbucket_ev (s : ByteArray) : Ev (fun k => stowageref3_Bucket.f k s) (bucketB s) := by
  unfold stowageref3_Bucket.f bucketB
  by_cases c : s.size < 3 ∨ 63 < s.size
  · rw [if_pos c]
    by_cases c1 : s.size < 3
    · exact ev_pos (by omega) (Ev.step (f := fun _ => some false) (fun k => by rw [stowageref3_Bucket.j0, if_pos rfl]) (Ev.now _))
    · exact ev_neg (by omega) (Ev.step (f := fun _ => some false) (fun k => by rw [stowageref3_Bucket.j0, if_pos (by rw [decide_eq_true_eq]; omega)]) (Ev.now _))
  · rw [if_neg c]
    refine ev_neg (by omega) (Ev.step (f := fun k => stowageref3_Bucket.l0 k s 0) (fun k => by rw [stowageref3_Bucket.j0, if_neg (by rw [decide_eq_true_eq]; omega)]) (rbucket_l0 s (by omega) s.size 0 (by omega) (by omega)))
end Go.Proofs.YtieejapamkokaaaDoor.Pure
