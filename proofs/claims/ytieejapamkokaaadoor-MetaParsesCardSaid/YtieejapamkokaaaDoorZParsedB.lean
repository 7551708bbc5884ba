/- A part of the proof of the seat's laws. No condition beyond those in the theorems. -/
import Derived.Test.YtieejapamkokaaaDoorZParseB

namespace Go.Proofs.YtieejapamkokaaaDoor.Pure
open Go.RowKit Go.Proofs.YtieejapamkokaaaDoor.Q Go.Proofs.YtieejapamkokaaaDoorW.PrintWords Go.Proofs.YtieejapamkokaaaDoorW.PrintLast Go.Proofs.YtieejapamkokaaaDoorW.PrintMore
set_option linter.unusedVariables false
set_option linter.unusedSimpArgs false
theorem tell_ok (o : Option (List UInt8 × List UInt8 × Nat)) : (tell o).2.2.2 = o.isSome := by rcases o with _ | ⟨b, k, n⟩ <;> rfl
theorem upload_ev (s : ByteArray) (hs : s.size ≤ 1000000000000000) : Ev (fun k => meta_ParseUpload.f k s) (tell (D 85 s.toList)) := by
  unfold meta_ParseUpload.f
  exact Ev.bind (three_ev s 85 hs) (Ev.now _)
def tellO (o : Option (List UInt8 × List UInt8 × Nat)) : ByteArray × ByteArray × Int × Bool := match o with | none => (⟨#[]⟩, ⟨#[]⟩, 0, false) | some (b, k, n) => (B b, B k, ((9223372036854775807 - n : Nat) : Int), true)
theorem tellO_ok (o : Option (List UInt8 × List UInt8 × Nat)) : (tellO o).2.2.2 = o.isSome := by rcases o with _ | ⟨b, k, n⟩ <;> rfl
theorem object_ev (s : ByteArray) (hs : s.size ≤ 1000000000000000) : Ev (fun k => meta_ParseObject.f k s) (tellO (D 79 s.toList)) := by
  unfold meta_ParseObject.f
  refine Ev.bind (three_ev s 79 hs) ?_
  cases h : D 79 s.toList with
  | none => exact ev_neg (by decide) (Ev.now _)
  | some x =>
    obtain ⟨b, k, n⟩ := x
    obtain ⟨N, _, _, _, hn, _, _⟩ := (D_iff 79 s.toList b k n).mp h
    refine ev_pos rfl (ev_eq (Ev.now _) ?_)
    simp only [tell, tellO]
    rw [w63 (by omega) (by omega)]
    congr 3
    omega
def bucketR (l : List UInt8) : ByteArray × Bool := if l.head? = some 66 ∧ bucketB (B (l.drop 1)) = true then (B (l.drop 1), true) else (⟨#[]⟩, false)
theorem parseBucket_ev (s : ByteArray) (hs : s.size ≤ 1000000000000000) : Ev (fun k => meta_ParseBucket.f k s) (bucketR s.toList) := by
  have hz := length_toList s
  unfold meta_ParseBucket.f bucketR
  refine ev_some (prefix_eq s 66 hs) ?_
  by_cases g : s.toList.head? = some 66
  · have hl : 1 ≤ s.size := by
      cases hl : s.toList with
      | nil => rw [hl] at g; simp at g
      | cons _ _ => rw [hl] at hz; simp at hz; omega
    have he : s.extract 1 s.size = B (s.toList.drop 1) := by
      apply toList_inj
      rw [toList_extract, B_toList, List.take_of_length_le (by omega)]
    refine ev_pos (decide_eq_true g) (ev_pos (by omega) ?_)
    rw [he]
    refine Ev.bind (bucket_ev _) ?_
    cases hb : bucketB (B (s.toList.drop 1)) with
    | false => exact ev_neg (by decide) (ev_eq (Ev.now _) (by simp))
    | true => exact ev_pos rfl (ev_eq (Ev.now _) (by simp [g]))
  · exact ev_neg (by rw [decide_eq_true_eq]; exact g) (ev_eq (Ev.now _) (by simp [g]))
theorem longK_list (c : UInt8) (a k : ByteArray) (n : Nat) : (longK c a k n).toList = c :: (a.toList ++ 0 :: (k.toList ++ 0 :: beL 8 n)) := by
  unfold longK
  simp only [toList_append, B_toList]
  simp
theorem one_zero (b : List UInt8) : ∀ a k k' : List UInt8, (∀ x ∈ b, x ≠ 0) → (∀ x ∈ k', x ≠ 0) → b ++ 0 :: k' = a ++ 0 :: k → a = b ∧ k = k' := by
  induction b with
  | nil =>
    intro a k k' _ hk h
    cases a with
    | nil => exact ⟨rfl, (List.cons.inj h).2.symm⟩
    | cons x a =>
      rw [List.nil_append, List.cons_append] at h
      have := (List.cons.inj h).2
      exact absurd rfl (hk 0 (by rw [this]; simp))
  | cons y b ih =>
    intro a k k' hb hk h
    cases a with
    | nil =>
      rw [List.nil_append, List.cons_append] at h
      exact absurd (List.cons.inj h).1 (hb y (by simp))
    | cons x a =>
      rw [List.cons_append, List.cons_append] at h
      obtain ⟨h1, h2⟩ := List.cons.inj h
      obtain ⟨h3, h4⟩ := ih a k k' (fun z hz => hb z (by simp [hz])) hk h2
      exact ⟨by rw [h1, h3], h4⟩
theorem read_zero (c : UInt8) (a k : ByteArray) (n : Nat) (h : (D c (longK c a k n).toList).isSome = true) : (∀ x ∈ a.toList, x ≠ 0) ∧ (∀ x ∈ k.toList, x ≠ 0) := by
  obtain ⟨⟨b', k', n'⟩, hD⟩ := Option.isSome_iff_exists.mp h
  obtain ⟨N, hl, hN, _, _, hb, hk⟩ := (D_iff c _ b' k' n').mp hD
  rw [longK_list] at hl
  have h1 := (List.cons.inj hl).2
  have e1 : a.toList ++ 0 :: (k.toList ++ 0 :: beL 8 n) = (a.toList ++ 0 :: (k.toList ++ [0])) ++ beL 8 n := by simp
  have e2 : b' ++ 0 :: (k' ++ 0 :: N) = (b' ++ 0 :: (k' ++ [0])) ++ N := by simp
  rw [e1, e2] at h1
  have h2 := (List.append_inj' h1 (by rw [beL_len, hN])).1
  have e3 : a.toList ++ 0 :: (k.toList ++ [0]) = (a.toList ++ 0 :: k.toList) ++ [0] := by simp
  have e4 : b' ++ 0 :: (k' ++ [0]) = (b' ++ 0 :: k') ++ [0] := by simp
  rw [e3, e4] at h2
  have h3 := (List.append_inj' h2 rfl).1
  obtain ⟨h4, h5⟩ := one_zero b' a.toList k.toList k' (bucket_zero b' hb) (key_zero k' hk) h3.symm
  rw [h4, h5]
  exact ⟨bucket_zero b' hb, key_zero k' hk⟩
theorem longK_less (c : UInt8) (a k b l : ByteArray) (n m : Nat) (hn : n < 18446744073709551616) (hm : m < 18446744073709551616) (ha : ∀ x ∈ a.toList, x ≠ 0) (hk : ∀ x ∈ k.toList, x ≠ 0) (hb : ∀ x ∈ b.toList, x ≠ 0) (hl : ∀ x ∈ l.toList, x ≠ 0) :
    Op.bytesLess (longK c a k n).toList (longK c b l m).toList = if a.toList = b.toList then (if k.toList = l.toList then decide (n < m) else Op.bytesLess k.toList l.toList) else Op.bytesLess a.toList b.toList := by
  have h0 : ¬ c < c := by rw [UInt8.lt_iff_toNat_lt]; omega
  have h1 : (c == c) = true := by simp
  rw [longK_list, longK_list, Op.bytesLess, h1, decide_eq_false h0, Bool.false_or, Bool.true_and, less_zero _ _ _ _ ha hb, less_zero _ _ _ _ hk hl, beL_less, Nat.mod_eq_of_lt hn, Nat.mod_eq_of_lt hm]
theorem longK_inj (c : UInt8) (a k b l : ByteArray) (n m : Nat) (hn : n < 18446744073709551616) (hm : m < 18446744073709551616) (ha : ∀ x ∈ a.toList, x ≠ 0) (hk : ∀ x ∈ k.toList, x ≠ 0) (hb : ∀ x ∈ b.toList, x ≠ 0) (hl : ∀ x ∈ l.toList, x ≠ 0) (h : (longK c a k n).toList = (longK c b l m).toList) :
    a.toList = b.toList ∧ k.toList = l.toList ∧ n = m := by
  have h1 := longK_less c a k b l n m hn hm ha hk hb hl
  rw [longK_list, longK_list] at h
  have h2 := (List.cons.inj h).2
  have e1 : a.toList ++ 0 :: (k.toList ++ 0 :: beL 8 n) = (a.toList ++ 0 :: k.toList) ++ (0 :: beL 8 n) := by simp
  have e2 : b.toList ++ 0 :: (l.toList ++ 0 :: beL 8 m) = (b.toList ++ 0 :: l.toList) ++ (0 :: beL 8 m) := by simp
  rw [e1, e2] at h2
  obtain ⟨h3, h4⟩ := List.append_inj' h2 (by simp [beL_len])
  obtain ⟨h5, h6⟩ := one_zero a.toList b.toList l.toList k.toList ha hk h3
  exact ⟨h5.symm, h6.symm, beL_inj 8 n m hn hm (List.cons.inj h4).2⟩
theorem longK_size (c : UInt8) (a k : ByteArray) (n : Nat) : (longK c a k n).size = a.size + k.size + 11 := by
  rw [← length_toList, longK_list]
  simp only [List.length_cons, List.length_append, length_toList, beL_len]
  omega
end Go.Proofs.YtieejapamkokaaaDoor.Pure
