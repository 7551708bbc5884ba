/- A part of the proof of the seat's laws. No condition beyond those in the theorems. -/
import Derived.Test.YtieejapamkokaaaDoorZParsedB
import Derived.Test.YtieejapamkokaaaDoorZUnhexB
import Derived.Test.YtieejapamkokaaaDoorZPureMetaApart
import Derived.Test.YtieejapamkokaaaDoorZQ80
import Derived.Test.YtieejapamkokaaaDoorZQ71g4
import Derived.Test.YtieejapamkokaaaDoorZQ81g2
import Derived.Test.YtieejapamkokaaaDoorZQ84
import Derived.Test.YtieejapamkokaaaDoorZQ85g3
import Derived.Test.YtieejapamkokaaaDoorZQ59g3

namespace Go.Proofs.YtieejapamkokaaaDoor.Pure
open Go.RowKit Go.Proofs.YtieejapamkokaaaDoor.Q Go.Proofs.YtieejapamkokaaaDoorW.PrintWords Go.Proofs.YtieejapamkokaaaDoorW.PrintLast Go.Proofs.YtieejapamkokaaaDoorW.PrintMore
set_option linter.unusedVariables false
set_option linter.unusedSimpArgs false
def R (c : UInt8) (l : List UInt8) : Option (List UInt8 × List UInt8 × Nat) :=
  if 10 ≤ l.length ∧ l.head? = some c then
    match cutL 0 (l.drop 1) with
    | none => none
    | some p => if 9 ≤ p.2.length ∧ p.2[p.2.length - 9]? = some 0 ∧ val (p.2.drop (p.2.length - 8)) ≤ 9223372036854775807 ∧ bucketB (B p.1) = true ∧ keyB (B (p.2.take (p.2.length - 9))) = true then some (p.1, p.2.take (p.2.length - 9), val (p.2.drop (p.2.length - 8))) else none
  else none
theorem R_iff (c : UInt8) (l b k : List UInt8) (n : Nat) : R c l = some (b, k, n) ↔ IsKey c l b k n := by
  constructor
  · intro h
    unfold R at h
    by_cases g : 10 ≤ l.length ∧ l.head? = some c
    · rw [if_pos g] at h
      cases hc : cutL 0 (l.drop 1) with
      | none => rw [hc] at h; simp at h
      | some p =>
        rw [hc] at h
        simp only at h
        by_cases q : 9 ≤ p.2.length ∧ p.2[p.2.length - 9]? = some 0 ∧ val (p.2.drop (p.2.length - 8)) ≤ 9223372036854775807 ∧ bucketB (B p.1) = true ∧ keyB (B (p.2.take (p.2.length - 9))) = true
        · rw [if_pos q] at h
          obtain ⟨rfl, h2⟩ := Prod.mk.inj (Option.some.inj h)
          obtain ⟨rfl, rfl⟩ := Prod.mk.inj h2
          have hM := cutL_some 0 _ p.1 p.2 hc
          refine ⟨p.2.drop (p.2.length - 8), ?_, by rw [List.length_drop]; omega, rfl, q.2.2.1, q.2.2.2.1, q.2.2.2.2⟩
          have ht : l = c :: l.drop 1 := by
            cases l with
            | nil => simp at g
            | cons x t =>
              have : x = c := by simpa using g.2
              subst this
              rfl
          have hr : p.2 = p.2.take (p.2.length - 9) ++ 0 :: p.2.drop (p.2.length - 8) := by
            obtain ⟨hi, he⟩ := List.getElem?_eq_some_iff.mp q.2.1
            have e1 := List.drop_eq_getElem_cons hi
            rw [he, show p.2.length - 9 + 1 = p.2.length - 8 by omega] at e1
            rw [← e1, List.take_append_drop]
          rw [← hr, ← hM]
          exact ht
        · rw [if_neg q] at h; simp at h
    · rw [if_neg g] at h; simp at h
  · rintro ⟨N, rfl, hN, rfl, hn, hb, hk⟩
    have hlen : (c :: (b ++ 0 :: (k ++ 0 :: N))).length = b.length + k.length + 11 := by simp; omega
    have h9 : (k ++ 0 :: N).length = k.length + 9 := by simp; omega
    have e8 : (k ++ 0 :: N).drop (k.length + 1) = N := by
      rw [show k ++ 0 :: N = (k ++ [0]) ++ N by simp, List.drop_left']
      simp
    unfold R
    rw [if_pos ⟨by omega, rfl⟩, List.drop_one, List.tail_cons, cutL_first 0 b _ (bucket_zero b hb)]
    simp only
    rw [h9, show k.length + 9 - 9 = k.length by omega, show k.length + 9 - 8 = k.length + 1 by omega, e8, List.take_left', List.getElem?_append_right (Nat.le_refl _), Nat.sub_self]
    · rw [if_pos ⟨by omega, rfl, hn, hb, hk⟩]
    · rfl
theorem R_eq (c : UInt8) (l : List UInt8) : R c l = D c l := by
  apply Option.ext
  rintro ⟨b, k, n⟩
  rw [R_iff, D_iff]
def tellR (o : Option (List UInt8 × List UInt8 × Nat)) : ByteArray × ByteArray × Int × Int × Bool := match o with | none => (⟨#[]⟩, ⟨#[]⟩, 0, 0, false) | some (b, k, n) => (B b, B k, (n : Int), 0, true)
theorem begins_eq (s : ByteArray) (c : UInt8) (h : s.size ≤ 1000000000000000) : stowageref3_Begins.f s (⟨#[c]⟩ : ByteArray) = some (decide (s.toList.head? = some c)) := by
  have := prefix_eq s c h
  unfold strings_HasPrefix.f stringslite_HasPrefix.f at this
  unfold stowageref3_Begins.f
  have e : ∀ o : Option Bool, (o.bind fun t => some t) = o := fun o => by cases o <;> rfl
  rw [e] at this
  exact this
theorem long_j1 (b r : List UInt8) (hr : r.length ≤ 140737488351232) (x : Bool) (hx : x = true → 9 ≤ r.length) : Ev (fun k => stowageref12_long.j1 k (B b) (B r) (!x)) (tellR (if x = true ∧ val (r.drop (r.length - 8)) ≤ 9223372036854775807 ∧ bucketB (B b) = true ∧ keyB (B (r.take (r.length - 9))) = true then some (b, r.take (r.length - 9), val (r.drop (r.length - 8))) else none)) := by
  have hz : (B r).size = r.length := B_size r
  cases x with
  | false =>
    rw [if_neg (by simp)]
    exact Ev.step (f := fun _ => some (tellR none)) (fun k => by rw [stowageref12_long.j1, if_pos (show (!false) = true from rfl)]; rfl) (Ev.now _)
  | true =>
    have hl := hx rfl
    have w9 : wrap64 (((B r).size : Int) - 9) = ((r.length - 9 : Nat) : Int) := by rw [hz, w64 (by omega) (by omega)]; omega
    have w8 : wrap64 (((B r).size : Int) - 8) = ((r.length - 8 : Nat) : Int) := by rw [hz, w64 (by omega) (by omega)]; omega
    have he9 : (B r).extract 0 (r.length - 9) = B (r.take (r.length - 9)) := by rw [B_extract, List.drop_zero]
    have he8 : (B r).extract (r.length - 8) (B r).size = B (r.drop (r.length - 8)) := by rw [B_extract, hz, List.take_length]
    have l8 : (r.drop (r.length - 8)).length = 8 := by rw [List.length_drop]; omega
    have hg := rmget_ev (B (r.drop (r.length - 8))) (by rw [B_size]; omega)
    rw [B_toList] at hg
    refine Ev.step (f := fun k => (stowageref12_get.f k (B (r.drop (r.length - 8)))).bind fun bt301 => (if bt301.2 = true then ((stowageref3_Bucket.f k (B b)).bind fun t303 => (if t303 = true then ((stowageref3_Key.f k (B (r.take (r.length - 9)))).bind fun t304 => (if t304 = true then (some (B b, B (r.take (r.length - 9)), bt301.1, (0 : Int), true)) else (some ((⟨#[]⟩ : ByteArray), (⟨#[]⟩ : ByteArray), 0, 0, false)))) else (some ((⟨#[]⟩ : ByteArray), (⟨#[]⟩ : ByteArray), 0, 0, false)))) else (some ((⟨#[]⟩ : ByteArray), (⟨#[]⟩ : ByteArray), 0, 0, false)))) (fun k => ?_) (Ev.bind hg ?_)
    · rw [stowageref12_long.j1, if_neg (by decide), w9, w8, if_pos (by omega), if_pos (by omega), if_pos (by omega), if_pos (by omega), Int.toNat_natCast, Int.toNat_natCast, he9, he8]
    · unfold getR
      by_cases q : val (r.drop (r.length - 8)) ≤ 9223372036854775807
      · rw [if_pos ⟨l8, q⟩]
        refine ev_pos rfl (Ev.bind (rbucket_ev (B b)) ?_)
        cases hb : bucketB (B b) with
        | false => exact ev_neg (by decide) (ev_eq (Ev.now _) (by simp [tellR]))
        | true =>
          refine ev_pos rfl (Ev.bind (rkey_ev (B (r.take (r.length - 9))) (by rw [B_size, List.length_take]; omega)) ?_)
          cases hk : keyB (B (r.take (r.length - 9))) with
          | false => exact ev_neg (by decide) (ev_eq (Ev.now _) (by simp [tellR]))
          | true => exact ev_pos rfl (ev_eq (Ev.now _) (by simp [tellR, q]))
      · rw [if_neg (fun h => q h.2)]
        exact ev_neg (by decide) (ev_eq (Ev.now _) (by simp [tellR, q]))
theorem long_ev (s : ByteArray) (c : UInt8) (hs : s.size ≤ 140737488351232) : Ev (fun k => stowageref12_long.f k s (⟨#[c]⟩ : ByteArray)) (tellR (D c s.toList)) := by
  rw [← R_eq]
  have hz := length_toList s
  unfold stowageref12_long.f R
  refine ev_some (begins_eq s c (by omega)) ?_
  have fail : Ev (fun k => stowageref12_long.j0 k s true) (tellR none) := Ev.step (f := fun _ => some (tellR none)) (fun k => by rw [stowageref12_long.j0, if_pos rfl]; rfl) (Ev.now _)
  by_cases g : s.toList.head? = some c
  · refine ev_pos (decide_eq_true g) ?_
    by_cases g2 : 10 ≤ s.toList.length
    · rw [if_pos ⟨g2, g⟩, decide_eq_false (by omega)]
      obtain ⟨M, hM⟩ : ∃ M, s.extract 1 s.size = M := ⟨_, rfl⟩
      have hM' : M.toList = s.toList.drop 1 := by rw [← hM, toList_extract, List.take_of_length_le (by omega)]
      have hMz : M.size ≤ s.size := by rw [← length_toList, hM', List.length_drop]; omega
      rw [← hM']
      refine Ev.step (f := fun k => (stowageref3_Cut.f k M (((0 : UInt8).toNat : Nat) : Int)).bind fun bt298 => (if bt298.2.2 = true then (if (bt298.2.1.size : Int) < 9 then (stowageref12_long.j1 k bt298.1 bt298.2.1 true) else (if 0 ≤ (wrap64 ((bt298.2.1.size : Int) - 9)) then (if (wrap64 ((bt298.2.1.size : Int) - 9)) < (bt298.2.1.size : Int) then (stowageref12_long.j1 k bt298.1 bt298.2.1 ((bt bt298.2.1 (wrap64 ((bt298.2.1.size : Int) - 9))) != 0)) else (none)) else (none))) else (stowageref12_long.j1 k bt298.1 bt298.2.1 true))) (fun k => ?_) (Ev.bind (rcut_ev M 0 (by omega)) ?_)
      · rw [stowageref12_long.j0, if_neg (by decide), if_pos (by omega), hM]
        rfl
      · unfold cutR
        cases hc : cutL 0 M.toList with
        | none =>
          exact ev_neg (by simp) (Ev.step (f := fun _ => some (tellR none)) (fun k => by rw [stowageref12_long.j1, if_pos rfl]; rfl) (Ev.now _))
        | some p =>
          have hcs := cutL_some 0 M.toList p.1 p.2 hc
          have hpl : p.2.length ≤ M.size := by
            have := congrArg List.length hcs
            rw [length_toList, List.length_append, List.length_cons] at this
            omega
          have hpz : (B p.2).size = p.2.length := B_size _
          refine ev_pos rfl ?_
          show Ev (fun k => if ((B p.2).size : Int) < 9 then (stowageref12_long.j1 k (B p.1) (B p.2) true) else (if 0 ≤ (wrap64 (((B p.2).size : Int) - 9)) then (if (wrap64 (((B p.2).size : Int) - 9)) < ((B p.2).size : Int) then (stowageref12_long.j1 k (B p.1) (B p.2) ((bt (B p.2) (wrap64 (((B p.2).size : Int) - 9))) != 0)) else (none)) else (none))) _
          by_cases h9 : p.2.length < 9
          · refine ev_pos (by omega) (ev_eq (long_j1 p.1 p.2 (by omega) false (fun h => absurd h (by decide))) ?_)
            rw [if_neg (by simp)]
            dsimp only
            rw [if_neg (fun h => by omega)]
          · have w9 : wrap64 (((B p.2).size : Int) - 9) = ((p.2.length - 9 : Nat) : Int) := by rw [hpz, w64 (by omega) (by omega)]; omega
            rw [w9]
            refine ev_neg (by omega) (ev_pos (by omega) (ev_pos (by omega) ?_))
            have hget := List.getElem?_eq_getElem (show p.2.length - 9 < p.2.length by omega)
            have hb := bt_B p.2 (p.2.length - 9) _ hget
            rw [hb]
            by_cases e : p.2[p.2.length - 9]'(by omega) = 0
            · have z : ((((p.2[p.2.length - 9]'(by omega)).toNat : Nat) : Int) != 0) = !true := by rw [e]; rfl
              rw [z]
              refine ev_eq (long_j1 p.1 p.2 (by omega) true (fun _ => by omega)) ?_
              congr 1
              by_cases q : val (p.2.drop (p.2.length - 8)) ≤ 9223372036854775807 ∧ bucketB (B p.1) = true ∧ keyB (B (p.2.take (p.2.length - 9))) = true
              · rw [if_pos ⟨rfl, q⟩]
                dsimp only
                rw [if_pos ⟨by omega, by rw [hget, e], q⟩]
              · rw [if_neg (fun h => q h.2)]
                dsimp only
                rw [if_neg (fun h => q h.2.2)]
            · have z : ((((p.2[p.2.length - 9]'(by omega)).toNat : Nat) : Int) != 0) = !false := by
                rw [Bool.not_false, bne_iff_ne]
                intro h
                exact e (UInt8.toNat_inj.mp (by have : (0 : UInt8).toNat = 0 := rfl; omega))
              rw [z]
              refine ev_eq (long_j1 p.1 p.2 (by omega) false (fun h => absurd h (by decide))) ?_
              rw [if_neg (by simp)]
              dsimp only
              rw [if_neg (fun h => e (by have h2 := h.2.1; rw [hget] at h2; exact Option.some.inj h2))]
    · rw [if_neg (fun h => g2 h.1), decide_eq_true (by omega)]
      exact fail
  · rw [if_neg (fun h => g h.2)]
    exact ev_neg (by rw [decide_eq_true_eq]; exact g) fail
theorem rupload_ev (s : ByteArray) (hs : s.size ≤ 140737488351232) : Ev (fun k => stowageref12_ParseUpload.f k s) (tellR (D 85 s.toList)) := by
  unfold stowageref12_ParseUpload.f
  exact Ev.bind (long_ev s 85 hs) (Ev.now _)
def tellRO (o : Option (List UInt8 × List UInt8 × Nat)) : ByteArray × ByteArray × Int × Int × Bool := match o with | none => (⟨#[]⟩, ⟨#[]⟩, 0, 0, false) | some (b, k, n) => (B b, B k, ((9223372036854775807 - n : Nat) : Int), 0, true)
theorem robject_ev (s : ByteArray) (hs : s.size ≤ 140737488351232) : Ev (fun k => stowageref12_ParseObject.f k s) (tellRO (D 79 s.toList)) := by
  unfold stowageref12_ParseObject.f
  refine Ev.bind (long_ev s 79 hs) ?_
  cases h : D 79 s.toList with
  | none => exact ev_neg (by decide) (Ev.now _)
  | some x =>
    obtain ⟨b, k, n⟩ := x
    obtain ⟨N, _, _, _, hn, _, _⟩ := (D_iff 79 s.toList b k n).mp h
    refine ev_pos rfl (ev_eq (Ev.now _) ?_)
    simp only [tellR, tellRO]
    rw [w63 (by omega) (by omega)]
    congr 3
    omega
theorem rparseBucket_ev (s : ByteArray) (hs : s.size ≤ 1000000000000000) : Ev (fun k => stowageref12_ParseBucket.f k s) ((bucketR s.toList).1, (⟨#[]⟩ : ByteArray), 0, 0, (bucketR s.toList).2) := by
  have hz := length_toList s
  unfold stowageref12_ParseBucket.f bucketR
  refine ev_some (begins_eq s 66 hs) ?_
  by_cases g : s.toList.head? = some 66
  · have hl : 1 ≤ s.size := by
      cases hl : s.toList with
      | nil => rw [hl] at g; simp at g
      | cons _ _ => rw [hl] at hz; simp at hz; omega
    have he : s.extract 1 s.size = B (s.toList.drop 1) := by
      apply toList_inj
      rw [toList_extract, B_toList, List.take_of_length_le (by omega)]
    refine ev_pos (decide_eq_true g) (ev_pos (by omega) ?_)
    rw [he]
    refine Ev.bind (rbucket_ev _) ?_
    cases hb : bucketB (B (s.toList.drop 1)) with
    | false => exact ev_neg (by decide) (ev_eq (Ev.now _) (by simp))
    | true => exact ev_pos rfl (ev_eq (Ev.now _) (by simp [g]))
  · exact ev_neg (by rw [decide_eq_true_eq]; exact g) (ev_eq (Ev.now _) (by simp [g]))
theorem rparsePart_ev (s : ByteArray) (hs : s.size ≤ 140737488351232) : Ev (fun k => stowageref12_ParsePart.f k s) ((⟨#[]⟩ : ByteArray), (⟨#[]⟩ : ByteArray), (partR s.toList).1, (partR s.toList).2.1, (partR s.toList).2.2) := by
  have hz := length_toList s
  unfold stowageref12_ParsePart.f partR partOk
  have fail : Ev (fun k => stowageref12_ParsePart.j0 k s true) ((⟨#[]⟩ : ByteArray), (⟨#[]⟩ : ByteArray), 0, 0, false) := Ev.step (f := fun _ => some ((⟨#[]⟩ : ByteArray), (⟨#[]⟩ : ByteArray), (0 : Int), (0 : Int), false)) (fun k => by rw [stowageref12_ParsePart.j0, if_pos rfl]) (Ev.now _)
  by_cases g : s.size = 17
  · refine ev_pos (by omega) (ev_pos (by omega) ?_)
    cases hl : s.toList with
    | nil => rw [hl] at hz; simp at hz; omega
    | cons x t =>
      obtain ⟨hb, _⟩ := bt_pre s [] t x hl
      have hb' : bt s 0 = (x.toNat : Int) := hb
      rw [hb']
      by_cases c : x = 80
      · subst c
        have z80 : ((((80 : UInt8).toNat : Nat) : Int) != 80) = false := by decide
        rw [z80, ← hl]
        obtain ⟨M, hM⟩ : ∃ M, s.extract 1 9 = M := ⟨_, rfl⟩
        obtain ⟨N, hN⟩ : ∃ N, s.extract 9 s.size = N := ⟨_, rfl⟩
        have hM' : M.toList = (s.toList.take 9).drop 1 := by rw [← hM, toList_extract]
        have hN' : N.toList = s.toList.drop 9 := by rw [← hN, toList_extract, List.take_of_length_le (by omega)]
        have zM : M.size ≤ 17 := by rw [← length_toList, hM', List.length_drop, List.length_take]; omega
        have zN : N.size ≤ 17 := by rw [← length_toList, hN', List.length_drop]; omega
        have hh : s.toList.length = 17 ∧ s.toList.head? = some 80 := ⟨by omega, by rw [hl]; rfl⟩
        rw [decide_eq_true hh, Bool.true_and, ← hM', ← hN']
        refine Ev.step (f := fun k => (stowageref12_get.f k M).bind fun bt323 => ((stowageref12_get.f k N).bind fun bt325 => (if bt323.2 = true then (if bt325.2 = true then (some ((⟨#[]⟩ : ByteArray), (⟨#[]⟩ : ByteArray), bt323.1, bt325.1, true)) else (some ((⟨#[]⟩ : ByteArray), (⟨#[]⟩ : ByteArray), 0, 0, false))) else (some ((⟨#[]⟩ : ByteArray), (⟨#[]⟩ : ByteArray), 0, 0, false))))) (fun k => ?_) (Ev.bind (rmget_ev M (by omega)) (Ev.bind (rmget_ev N (by omega)) ?_))
        · rw [stowageref12_ParsePart.j0, if_neg (by decide), if_pos (by decide), if_pos (by omega), hM, hN]
        · cases h1 : (getR M.toList).2 with
          | false => exact ev_neg (by decide) (ev_eq (Ev.now _) (by simp))
          | true =>
            refine ev_pos rfl ?_
            cases h2 : (getR N.toList).2 with
            | false => exact ev_neg (by decide) (ev_eq (Ev.now _) (by simp))
            | true => exact ev_pos rfl (ev_eq (Ev.now _) (by simp))
      · have e : ((x.toNat : Int) != 80) = true := by
          rw [bne_iff_ne]
          intro h
          exact c (UInt8.toNat_inj.mp (by have : (80 : UInt8).toNat = 80 := rfl; omega))
        rw [e]
        exact ev_eq fail (by simp [c])
  · refine ev_neg (by omega) (ev_eq fail ?_)
    rw [decide_eq_false (fun h => g (by omega)), Bool.false_and]
    rfl
def seqR (s : ByteArray) : Int × Bool := match (if s.size % 2 = 1 then none else unB s.toList) with | none => (0, false) | some o => getR o
theorem un_one (s : ByteArray) : (if s.size % 2 = 1 then ([], false) else unR (unB s.toList)) = unR (if s.size % 2 = 1 then none else unB s.toList) := by split <;> rfl
theorem un_len (s : ByteArray) (o : List UInt8) (h : (if s.size % 2 = 1 then none else unB s.toList) = some o) : o.length ≤ s.size := by
  split at h
  · simp at h
  · have := unB_len s.toList.length s.toList o (Nat.le_refl _) h
    rwa [length_toList] at this
theorem seq_ev (s : ByteArray) (hs : s.size ≤ 140737488351232) : Ev (fun k => meta_Seq.f k s) (seqR s) := by
  unfold meta_Seq.f seqR
  have hu := unhex_ev s hs
  rw [un_one] at hu
  refine Ev.bind hu ?_
  cases ho : (if s.size % 2 = 1 then none else unB s.toList) with
  | none => exact ev_neg (by decide) (Ev.now _)
  | some o =>
    have hl := un_len s o ho
    refine ev_pos rfl ?_
    have hg := mget_ev (B o) (by rw [B_size]; omega)
    rw [B_toList] at hg
    simp only [unR, nm_str]
    exact Ev.bind hg (Ev.now _)
theorem rseq_ev (s : ByteArray) (hs : s.size ≤ 140737488351232) : Ev (fun k => stowageref12_Seq.f k s) (seqR s) := by
  unfold stowageref12_Seq.f seqR
  have hu := runhex_ev s hs
  rw [un_one] at hu
  refine Ev.bind hu ?_
  cases ho : (if s.size % 2 = 1 then none else unB s.toList) with
  | none => exact ev_neg (by decide) (Ev.now _)
  | some o =>
    have hl := un_len s o ho
    refine ev_pos rfl ?_
    have hg := rmget_ev (B o) (by rw [B_size]; omega)
    rw [B_toList] at hg
    simp only [unR, nm_str]
    exact Ev.bind hg (Ev.now _)
end Go.Proofs.YtieejapamkokaaaDoor.Pure
