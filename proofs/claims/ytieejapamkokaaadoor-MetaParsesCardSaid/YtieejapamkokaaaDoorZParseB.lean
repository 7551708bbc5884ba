/- A part of the proof of the seat's laws. No condition beyond those in the theorems. -/
import Derived.Test.YtieejapamkokaaaDoorZPlaceB
import Derived.Test.YtieejapamkokaaaDoorZKeyB
import Derived.Test.YtieejapamkokaaaDoorZCutB
import Derived.Lib.Hide
import Derived.Test.YtieejapamkokaaaDoorZQ54g5
import Derived.Test.YtieejapamkokaaaDoorZQ62g4
import Derived.Test.YtieejapamkokaaaDoorZQ83

namespace Go.Proofs.YtieejapamkokaaaDoor.Pure
open Go.RowKit Go.Proofs.YtieejapamkokaaaDoor.Q Go.Proofs.YtieejapamkokaaaDoorW.PrintWords Go.Proofs.YtieejapamkokaaaDoorW.PrintLast Go.Proofs.YtieejapamkokaaaDoorW.PrintMore
set_option linter.unusedVariables false
set_option linter.unusedSimpArgs false
def IsKey (c : UInt8) (l b k : List UInt8) (n : Nat) : Prop := ∃ N : List UInt8, l = c :: (b ++ 0 :: (k ++ 0 :: N)) ∧ N.length = 8 ∧ val N = n ∧ n ≤ 9223372036854775807 ∧ bucketB (B b) = true ∧ keyB (B k) = true
theorem cutL_some (c : UInt8) (l b r : List UInt8) (h : cutL c l = some (b, r)) : l = b ++ c :: r := by
  have := cutL_index c l
  rw [h] at this
  exact this.2
theorem cutL_first (c : UInt8) (b r : List UInt8) (h : ∀ x ∈ b, x ≠ c) : cutL c (b ++ c :: r) = some (b, r) := by
  induction b with
  | nil => rw [List.nil_append, cutL, if_pos rfl]
  | cons a b ih =>
    rw [List.cons_append, cutL, if_neg (h a (by simp)), ih (fun x hx => h x (by simp [hx]))]
    rfl
theorem allP_of (s : ByteArray) (f : Nat) : ∀ p, allP s f p = true → s.size ≤ p + f → ∀ i, p ≤ i → i < s.size → okP (bt s (i : Int)) i s.size (bt s ((i : Int) - 1)) := by
  induction f with
  | zero => intro p _ h i h1 h2; omega
  | succ f ih =>
    intro p hp h i h1 h2
    rw [allP, if_pos (by omega), Bool.and_eq_true, decide_eq_true_eq] at hp
    by_cases e : i = p
    · subst e; exact hp.1
    · exact ih (p + 1) hp.2 (by omega) i (by omega) h2
theorem bucket_zero (b : List UInt8) (h : bucketB (B b) = true) : ∀ x ∈ b, x ≠ 0 := by
  intro x hx e
  subst e
  obtain ⟨i, hi, he⟩ := List.mem_iff_getElem.mp hx
  unfold bucketB at h
  have hz : (B b).size = b.length := B_size b
  by_cases c : (B b).size < 3 ∨ 63 < (B b).size
  · rw [if_pos c] at h; exact absurd h (by decide)
  · rw [if_neg c, Bool.and_eq_true] at h
    have := allP_of (B b) _ 0 h.1 (by omega) i (by omega) (by omega)
    have hb := bt_B b i 0 (by rw [List.getElem?_eq_getElem hi, he])
    rw [hb] at this
    unfold okP at this
    have z : ((0 : UInt8).toNat : Int) = 0 := rfl
    rw [z] at this
    omega
theorem key_zero (k : List UInt8) (h : keyB (B k) = true) : ∀ x ∈ k, x ≠ 0 := by
  intro x hx e
  subst e
  unfold keyB at h
  split at h
  · rw [Bool.and_eq_true, B_toList] at h
    have h2 := h.2
    rw [Bool.not_eq_true'] at h2
    have := List.any_eq_false.mp h2 0 hx
    simp at this
  · exact absurd h (by decide)
def D (c : UInt8) (l : List UInt8) : Option (List UInt8 × List UInt8 × Nat) :=
  if 10 ≤ l.length ∧ l.head? = some c then
    match cutL 0 ((l.take (l.length - 8)).drop 1) with
    | none => none
    | some p => if val (l.drop (l.length - 8)) ≤ 9223372036854775807 ∧ p.2.getLast? = some 0 ∧ bucketB (B p.1) = true ∧ keyB (B p.2.dropLast) = true then some (p.1, p.2.dropLast, val (l.drop (l.length - 8))) else none
  else none
theorem D_iff (c : UInt8) (l b k : List UInt8) (n : Nat) : D c l = some (b, k, n) ↔ IsKey c l b k n := by
  constructor
  · intro h
    unfold D at h
    by_cases g : 10 ≤ l.length ∧ l.head? = some c
    · rw [if_pos g] at h
      cases hc : cutL 0 ((l.take (l.length - 8)).drop 1) with
      | none => rw [hc] at h; simp at h
      | some p =>
        rw [hc] at h
        simp only at h
        by_cases q : val (l.drop (l.length - 8)) ≤ 9223372036854775807 ∧ p.2.getLast? = some 0 ∧ bucketB (B p.1) = true ∧ keyB (B p.2.dropLast) = true
        · rw [if_pos q] at h
          obtain ⟨rfl, h2⟩ := Prod.mk.inj (Option.some.inj h)
          obtain ⟨rfl, rfl⟩ := Prod.mk.inj h2
          have hM := cutL_some 0 _ p.1 p.2 hc
          have hr : p.2 = p.2.dropLast ++ [0] := by
            rcases List.eq_nil_or_concat p.2 with e | ⟨t, x, e⟩
            · have q2 := q.2.1
              rw [e] at q2
              simp at q2
            · have q2 := q.2.1
              rw [e] at q2 ⊢
              simp at q2
              subst q2
              simp
          refine ⟨l.drop (l.length - 8), ?_, by rw [List.length_drop]; omega, rfl, q.1, q.2.2.1, q.2.2.2⟩
          have hl : l = l.take (l.length - 8) ++ l.drop (l.length - 8) := (List.take_append_drop _ _).symm
          have ht : l.take (l.length - 8) = c :: (l.take (l.length - 8)).drop 1 := by
            cases l with
            | nil => simp at g
            | cons x t =>
              have : x = c := by simpa using g.2
              subst this
              have e : (x :: t).length - 8 = (t.length - 8) + 1 := by have := g.1; simp only [List.length_cons] at this ⊢; omega
              rw [e, List.take_succ_cons]; rfl
          rw [hM] at ht
          calc l = l.take (l.length - 8) ++ l.drop (l.length - 8) := hl
            _ = (c :: (p.1 ++ 0 :: p.2)) ++ l.drop (l.length - 8) := by rw [ht]
            _ = _ := by
              conv => lhs; rw [hr]
              simp
        · rw [if_neg q] at h; simp at h
    · rw [if_neg g] at h; simp at h
  · rintro ⟨N, rfl, hN, rfl, hn, hb, hk⟩
    have hlen : (c :: (b ++ 0 :: (k ++ 0 :: N))).length = (b.length + k.length + 3) + 8 := by simp; omega
    have e : c :: (b ++ 0 :: (k ++ 0 :: N)) = (c :: (b ++ 0 :: (k ++ [0]))) ++ N := by simp
    have hl2 : (c :: (b ++ 0 :: (k ++ [0]))).length = b.length + k.length + 3 := by simp; omega
    unfold D
    rw [if_pos ⟨by omega, rfl⟩, hlen, Nat.add_sub_cancel, e, ← hl2, List.take_left', List.drop_left']
    · rw [List.drop_one, List.tail_cons, cutL_first 0 b _ (bucket_zero b hb)]
      simp only [List.getLast?_concat, List.dropLast_concat]
      rw [if_pos ⟨hn, trivial, hb, hk⟩]
    · rfl
    · rfl
def tell (o : Option (List UInt8 × List UInt8 × Nat)) : ByteArray × ByteArray × Int × Bool := match o with | none => (⟨#[]⟩, ⟨#[]⟩, 0, false) | some (b, k, n) => (B b, B k, (n : Int), true)
theorem prefix_eq (s : ByteArray) (c : UInt8) (h : s.size ≤ 1000000000000000) : strings_HasPrefix.f s (⟨#[c]⟩ : ByteArray) = some (decide (s.toList.head? = some c)) := by
  have hz := length_toList s
  have h1 : (⟨#[c]⟩ : ByteArray).size = 1 := rfl
  have ht : (⟨#[c]⟩ : ByteArray).toList = [c] := B_toList [c]
  unfold strings_HasPrefix.f stringslite_HasPrefix.f
  rw [h1, ht]
  by_cases g : s.size ≥ 1
  · rw [if_pos (by omega), if_pos (by omega), if_pos (by omega), Option.bind_some]
    congr 1
    rw [toList_extract]
    cases hl : s.toList with
    | nil => rw [hl] at hz; simp at hz; omega
    | cons x t =>
      simp only [List.take_succ_cons, List.take_zero, List.drop_zero, List.head?_cons, Option.some.injEq]
      by_cases e : x = c
      · subst e; simp
      · simp [e]
  · rw [if_neg (by omega), Option.bind_some]
    have : s.toList = [] := List.length_eq_zero_iff.mp (by omega)
    rw [this]; simp
theorem suffix_eq (r : List UInt8) (h : r.length ≤ 1000000000000000) : strings_HasSuffix.f (B r) (⟨#[0]⟩ : ByteArray) = some (decide (r.getLast? = some 0)) := by
  have hz : (B r).size = r.length := B_size r
  have h1 : (⟨#[0]⟩ : ByteArray).size = 1 := rfl
  have ht : (⟨#[0]⟩ : ByteArray).toList = [0] := B_toList [0]
  unfold strings_HasSuffix.f stringslite_HasSuffix.f
  rw [h1, ht, hz]
  by_cases g : r.length ≥ 1
  · have w : wrap64 ((r.length : Int) - ((1 : Nat) : Int)) = ((r.length - 1 : Nat) : Int) := by rw [w64 (by omega) (by omega)]; omega
    rw [if_pos (by omega), w, if_pos (by omega), if_pos (by omega), Option.bind_some, Int.toNat_natCast, ← hz, toList_extract, hz, B_toList, List.take_length]
    congr 1
    rcases List.eq_nil_or_concat r with rfl | ⟨q, x, rfl⟩
    · simp at g
    · simp only [List.concat_eq_append, List.length_append, List.length_singleton, Nat.add_sub_cancel, List.drop_left', List.getLast?_append, List.getLast?_singleton]
      by_cases e : x = 0
      · subst e; simp
      · simp [e]
  · rw [if_neg (by omega), Option.bind_some]
    have : r = [] := List.length_eq_zero_iff.mp (by omega)
    subst this; simp
theorem three_j1 (b r : List UInt8) (n : Nat) (hr : r.length ≤ 1000000000000000) (x : Bool) (hx : x = true → r ≠ []) : Ev (fun k => meta_three.j1 k (B b) (B r) (n : Int) (!x)) (tell (if x = true ∧ bucketB (B b) = true ∧ keyB (B r.dropLast) = true then some (b, r.dropLast, n) else none)) := by
  have hz : (B r).size = r.length := B_size r
  have fail : ∀ k : Nat, some ((⟨#[]⟩ : ByteArray), (⟨#[]⟩ : ByteArray), (0 : Int), false) = some (tell none) := fun _ => rfl
  cases x with
  | false =>
    rw [if_neg (by simp)]
    exact Ev.step (f := fun _ => some (tell none)) (fun k => by rw [meta_three.j1, if_pos (show (!false) = true from rfl)]; rfl) (Ev.now _)
  | true =>
    have hne := hx rfl
    have hl : 1 ≤ r.length := by cases r with | nil => exact absurd rfl hne | cons _ _ => simp
    have w : wrap64 (((B r).size : Int) - 1) = ((r.length - 1 : Nat) : Int) := by rw [hz, w64 (by omega) (by omega)]; omega
    have he : (B r).extract 0 (r.length - 1) = B r.dropLast := by rw [B_extract, List.drop_zero, List.dropLast_eq_take]
    refine Ev.step (f := fun k => (chars_Bucket.f k (B b)).bind fun t196 => (if t196 = true then ((chars_Key.f (B r.dropLast)).bind fun t197 => (if t197 = true then (some (B b, B r.dropLast, (n : Int), true)) else (some ((⟨#[]⟩ : ByteArray), (⟨#[]⟩ : ByteArray), 0, false)))) else (some ((⟨#[]⟩ : ByteArray), (⟨#[]⟩ : ByteArray), 0, false)))) (fun k => ?_) ?_
    · rw [meta_three.j1, if_neg (by decide), w, if_pos (by omega), if_pos (by omega), Int.toNat_natCast, he]
    · refine Ev.bind (bucket_ev (B b)) ?_
      cases hb : bucketB (B b) with
      | false => exact ev_neg (by decide) (ev_eq (Ev.now _) (by simp [tell]))
      | true =>
        refine ev_pos rfl (ev_some (key_eq (B r.dropLast)) ?_)
        cases hk : keyB (B r.dropLast) with
        | false => exact ev_neg (by decide) (ev_eq (Ev.now _) (by simp [tell]))
        | true => exact ev_pos rfl (ev_eq (Ev.now _) (by simp [tell]))
theorem three_ev (s : ByteArray) (c : UInt8) (hs : s.size ≤ 1000000000000000) : Ev (fun k => meta_three.f k s (⟨#[c]⟩ : ByteArray)) (tell (D c s.toList)) := by
  have hz := length_toList s
  unfold meta_three.f D
  refine ev_some (prefix_eq s c hs) ?_
  have fail : Ev (fun k => meta_three.j0 k s true) (tell none) := Ev.step (f := fun _ => some (tell none)) (fun k => by rw [meta_three.j0, if_pos rfl]; rfl) (Ev.now _)
  by_cases g : s.toList.head? = some c
  · refine ev_pos (decide_eq_true g) ?_
    by_cases g2 : 10 ≤ s.toList.length
    · rw [if_pos ⟨g2, g⟩, decide_eq_false (by omega)]
      have w : wrap64 ((s.size : Int) - 8) = ((s.size - 8 : Nat) : Int) := by rw [w64 (by omega) (by omega)]; omega
      obtain ⟨N, hN⟩ : ∃ N, s.extract (s.size - 8) s.size = N := ⟨_, rfl⟩
      obtain ⟨M, hM⟩ : ∃ M, s.extract 1 (s.size - 8) = M := ⟨_, rfl⟩
      have hN' : N.toList = s.toList.drop (s.toList.length - 8) := by rw [← hN, toList_extract, List.take_of_length_le (by omega), hz]
      have hM' : M.toList = (s.toList.take (s.toList.length - 8)).drop 1 := by rw [← hM, toList_extract, hz]
      have hNz : N.size = 8 := by rw [← length_toList, hN', List.length_drop]; omega
      have hMz : M.size ≤ s.size := by rw [← length_toList, hM', List.length_drop, List.length_take]; omega
      refine Ev.step (f := fun k => (meta_get.f k N).bind fun bt190 => (strings_Cut.f M (⟨#[0]⟩ : ByteArray)).bind fun bt192 => (if bt190.2 = true then (if bt192.2.2 = true then ((strings_HasSuffix.f bt192.2.1 (⟨#[0]⟩ : ByteArray)).bind fun t195 => (meta_three.j1 k bt192.1 bt192.2.1 bt190.1 (!t195))) else (meta_three.j1 k bt192.1 bt192.2.1 bt190.1 true)) else (meta_three.j1 k bt192.1 bt192.2.1 bt190.1 true))) (fun k => ?_) ?_
      · rw [meta_three.j0, if_neg (by decide), w, if_pos (by omega), if_pos (by omega), Int.toNat_natCast, hN]
        congr 1
        funext t
        rw [if_pos (by omega), hM]
      · refine Ev.bind (mget_ev N (by omega)) (ev_some (cut_eq M 0 (by omega)) ?_)
        rw [← hM', ← hN']
        have hl8 : N.toList.length = 8 := by rw [length_toList]; exact hNz
        unfold cutR
        cases hc : cutL 0 M.toList with
        | none =>
          have e1 : ∀ n : Int, Ev (fun k => meta_three.j1 k M (⟨#[]⟩ : ByteArray) n true) (tell none) := fun n => Ev.step (f := fun _ => some (tell none)) (fun k => by rw [meta_three.j1, if_pos rfl]; rfl) (Ev.now _)
          by_cases q : (getR N.toList).2 = true
          · exact ev_pos q (ev_neg (by simp) (e1 _))
          · exact ev_neg q (e1 _)
        | some p =>
          have hcs := cutL_some 0 M.toList p.1 p.2 hc
          have hpl : p.2.length ≤ M.size := by
            have := congrArg List.length hcs
            rw [length_toList, List.length_append, List.length_cons] at this
            omega
          unfold getR
          by_cases q : val N.toList ≤ 9223372036854775807
          · rw [if_pos ⟨hl8, q⟩]
            refine ev_pos rfl (ev_pos rfl (ev_some (suffix_eq p.2 (by omega)) ?_))
            refine ev_eq (three_j1 p.1 p.2 (val N.toList) (by omega) _ (fun h => ?_)) ?_
            · intro e; rw [e] at h; simp at h
            · congr 1
              simp only [decide_eq_true_eq]
              by_cases q2 : p.2.getLast? = some 0 ∧ bucketB (B p.1) = true ∧ keyB (B p.2.dropLast) = true
              · rw [if_pos q2, if_pos ⟨q, q2⟩]
              · rw [if_neg q2, if_neg (fun h => q2 h.2)]
          · rw [if_neg (fun h => q h.2)]
            refine ev_neg (by decide) (ev_eq (three_j1 p.1 p.2 0 (by omega) false (fun h => absurd h (by decide))) ?_)
            simp only
            rw [if_neg (by simp), if_neg (fun h => q h.1)]
    · rw [if_neg (fun h => g2 h.1), decide_eq_true (by omega)]
      exact fail
  · rw [if_neg (fun h => g h.2)]
    exact ev_neg (by rw [decide_eq_true_eq]; exact g) fail
end Go.Proofs.YtieejapamkokaaaDoor.Pure
