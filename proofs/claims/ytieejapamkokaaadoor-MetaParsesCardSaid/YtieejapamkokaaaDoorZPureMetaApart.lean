/- A part of the proof of the seat's laws. No condition beyond those in the theorems. -/
import Derived.Test.YtieejapamkokaaaDoorZParsedB
import Derived.Test.YtieejapamkokaaaDoorZQ89

namespace Go.Proofs.YtieejapamkokaaaDoor.Pure
open Go.RowKit Go.Proofs.YtieejapamkokaaaDoor.Q Go.Proofs.YtieejapamkokaaaDoorW.PrintWords Go.Proofs.YtieejapamkokaaaDoorW.PrintLast Go.Proofs.YtieejapamkokaaaDoorW.PrintMore
set_option linter.unusedVariables false
set_option linter.unusedSimpArgs false
def partOk (l : List UInt8) : Bool := decide (l.length = 17 ∧ l.head? = some 80) && ((getR ((l.take 9).drop 1)).2 && (getR (l.drop 9)).2)
def partR (l : List UInt8) : Int × Int × Bool := if partOk l = true then ((getR ((l.take 9).drop 1)).1, (getR (l.drop 9)).1, true) else (0, 0, false)
theorem parsePart_ev (s : ByteArray) (hs : s.size ≤ 1000000000000000) : Ev (fun k => meta_ParsePart.f k s) (partR s.toList) := by
  have hz := length_toList s
  unfold meta_ParsePart.f partR partOk
  have fail : Ev (fun k => meta_ParsePart.j0 k s true) (0, 0, false) := Ev.step (f := fun _ => some ((0 : Int), (0 : Int), false)) (fun k => by rw [meta_ParsePart.j0, if_pos rfl]) (Ev.now _)
  by_cases g : s.size = 17
  · refine ev_pos (by omega) (ev_pos (by omega) ?_)
    cases hl : s.toList with
    | nil => rw [hl] at hz; simp at hz; omega
    | cons x t =>
      obtain ⟨hb, _⟩ := bt_pre s [] t x hl
      have hb' : bt s 0 = (x.toNat : Int) := hb
      rw [hb']
      by_cases c : x = 80
      · subst c
        have z80 : ((((80 : UInt8).toNat : Nat) : Int) != 80) = false := by decide
        rw [z80, ← hl]
        obtain ⟨M, hM⟩ : ∃ M, s.extract 1 9 = M := ⟨_, rfl⟩
        obtain ⟨N, hN⟩ : ∃ N, s.extract 9 s.size = N := ⟨_, rfl⟩
        have hM' : M.toList = (s.toList.take 9).drop 1 := by rw [← hM, toList_extract]
        have hN' : N.toList = s.toList.drop 9 := by rw [← hN, toList_extract, List.take_of_length_le (by omega)]
        have zM : M.size ≤ 17 := by rw [← length_toList, hM', List.length_drop, List.length_take]; omega
        have zN : N.size ≤ 17 := by rw [← length_toList, hN', List.length_drop]; omega
        have hh : s.toList.length = 17 ∧ s.toList.head? = some 80 := ⟨by omega, by rw [hl]; rfl⟩
        rw [decide_eq_true hh, Bool.true_and, ← hM', ← hN']
        refine Ev.step (f := fun k => (meta_get.f k M).bind fun bt318 => ((meta_get.f k N).bind fun bt320 => (if bt318.2 = true then (if bt320.2 = true then (some (bt318.1, bt320.1, true)) else (some (0, 0, false))) else (some (0, 0, false))))) (fun k => ?_) (Ev.bind (mget_ev M (by omega)) (Ev.bind (mget_ev N (by omega)) ?_))
        · rw [meta_ParsePart.j0, if_neg (by decide), if_pos (by decide), if_pos (by omega), hM, hN]
        · cases h1 : (getR M.toList).2 with
          | false => exact ev_neg (by decide) (ev_eq (Ev.now _) (by simp))
          | true =>
            refine ev_pos rfl ?_
            cases h2 : (getR N.toList).2 with
            | false => exact ev_neg (by decide) (ev_eq (Ev.now _) (by simp))
            | true => exact ev_pos rfl (ev_eq (Ev.now _) (by simp))
      · have e : ((x.toNat : Int) != 80) = true := by
          rw [bne_iff_ne]
          intro h
          exact c (UInt8.toNat_inj.mp (by have : (80 : UInt8).toNat = 80 := rfl; omega))
        rw [e]
        exact ev_eq fail (by simp [c])
  · refine ev_neg (by omega) (ev_eq fail ?_)
    rw [decide_eq_false (fun h => g (by omega)), Bool.false_and]
    rfl
theorem apart_aw (a b k l : ByteArray) (n m : Int) : Ev (fun f => stowagelaw12_MetaApart.j0 f a b k l n m true) true := Ev.step (fun f => by rw [stowagelaw12_MetaApart.j0, if_pos rfl]) aw_ev
theorem bucketR_head (l : List UInt8) (h : (bucketR l).2 = true) : l.head? = some 66 := by
  unfold bucketR at h
  split at h
  · rename_i c; exact c.1
  · exact absurd h (by decide)
theorem D_head (c : UInt8) (l : List UInt8) (h : (D c l).isSome = true) : l.head? = some c := by
  obtain ⟨⟨b', k', n'⟩, hD⟩ := Option.isSome_iff_exists.mp h
  obtain ⟨N, hl, _⟩ := (D_iff c _ b' k' n').mp hD
  rw [hl]; rfl
theorem part_head (l : List UInt8) (h : partOk l = true) : l.head? = some 80 := by
  unfold partOk at h
  rw [Bool.and_eq_true, decide_eq_true_eq] at h
  exact h.1.2
theorem partR_ok (l : List UInt8) : (partR l).2.2 = partOk l := by
  unfold partR
  cases h : partOk l <;> simp
theorem apart_round (a b k l : ByteArray) (n m : Int) (P : List ByteArray) (i : Nat) (s : ByteArray) (hi : i < P.length) (hP : P.length = 4) (hg : rdOf ByteArray.empty P (i : Int) = s) (hs : s.size ≤ 1000000000000000)
    (h : Ev (fun f => stowagelaw12_MetaApart.l0 f a b k l n m P ((i + 1 : Nat) : Int)) true) : Ev (fun f => stowagelaw12_MetaApart.l0 f a b k l n m P (i : Int)) true := by
  have hn : wrap64 ((i : Int) + 1) = ((i + 1 : Nat) : Int) := by rw [w64 (by omega) (by omega)]; omega
  have w1 : wrap64 (0 + 1) = 1 := w64 (by omega) (by omega)
  have w2 : wrap64 (1 + 1) = 2 := w64 (by omega) (by omega)
  have j4 : ∀ x : Int, 0 ≤ x → x ≤ 1 → (partOk s.toList = true → x = 0) → Ev (fun f => stowagelaw12_MetaApart.j4 f a b k l n m P (i : Int) x) true := by
    intro x x0 x1 hx
    refine Ev.step (f := fun f => (meta_ParsePart.f f s).bind fun bt399 => (if bt399.2.2 = true then (if (wrap64 (x + 1)) > 1 then (some false) else (stowagelaw12_MetaApart.l0 f a b k l n m P ((i + 1 : Nat) : Int))) else (if x > 1 then (some false) else (stowagelaw12_MetaApart.l0 f a b k l n m P ((i + 1 : Nat) : Int))))) (fun f => ?_) (Ev.bind (parsePart_ev s hs) ?_)
    · rw [stowagelaw12_MetaApart.j4, if_pos (by omega), if_pos (by omega), hg, hn]
    · rw [partR_ok]
      cases hp : partOk s.toList with
      | false => exact ev_neg (by decide) (ev_neg (by omega) h)
      | true =>
        obtain rfl := hx hp
        exact ev_pos rfl (ev_neg (by rw [w1]; decide) h)
  have j3 : ∀ x : Int, 0 ≤ x → x ≤ 1 → (s.toList.head? = some 85 ∨ s.toList.head? = some 80 → x = 0) → Ev (fun f => stowagelaw12_MetaApart.j3 f a b k l n m P (i : Int) x) true := by
    intro x x0 x1 hx
    refine Ev.step (f := fun f => (meta_ParseUpload.f f s).bind fun bt394 => (if bt394.2.2.2 = true then (stowagelaw12_MetaApart.j4 f a b k l n m P (i : Int) (wrap64 (x + 1))) else (stowagelaw12_MetaApart.j4 f a b k l n m P (i : Int) x))) (fun f => ?_) (Ev.bind (upload_ev s hs) ?_)
    · rw [stowagelaw12_MetaApart.j3, if_pos (by omega), if_pos (by omega), hg]
    · rw [tell_ok]
      cases hp : (D 85 s.toList).isSome with
      | false => exact ev_neg (by decide) (j4 x x0 x1 (fun q => hx (.inr (part_head _ q))))
      | true =>
        have hh := D_head 85 _ hp
        obtain rfl := hx (.inl hh)
        rw [w1]
        refine ev_pos rfl (j4 1 (by decide) (by decide) (fun q => ?_))
        have := part_head _ q
        rw [hh] at this
        exact absurd this (by decide)
  have j2 : ∀ x : Int, 0 ≤ x → x ≤ 1 → (s.toList.head? = some 79 ∨ s.toList.head? = some 85 ∨ s.toList.head? = some 80 → x = 0) → Ev (fun f => stowagelaw12_MetaApart.j2 f a b k l n m P (i : Int) x) true := by
    intro x x0 x1 hx
    refine Ev.step (f := fun f => (meta_ParseObject.f f s).bind fun bt389 => (if bt389.2.2.2 = true then (stowagelaw12_MetaApart.j3 f a b k l n m P (i : Int) (wrap64 (x + 1))) else (stowagelaw12_MetaApart.j3 f a b k l n m P (i : Int) x))) (fun f => ?_) (Ev.bind (object_ev s hs) ?_)
    · rw [stowagelaw12_MetaApart.j2, if_pos (by omega), if_pos (by omega), hg]
    · rw [tellO_ok]
      cases hp : (D 79 s.toList).isSome with
      | false => exact ev_neg (by decide) (j3 x x0 x1 (fun q => hx (.inr q)))
      | true =>
        have hh := D_head 79 _ hp
        obtain rfl := hx (.inl hh)
        rw [w1]
        refine ev_pos rfl (j3 1 (by decide) (by decide) (fun q => ?_))
        rw [hh] at q
        exact absurd q (by decide)
  refine Ev.step (f := fun f => (meta_ParseBucket.f f s).bind fun bt386 => (if bt386.2 = true then (stowagelaw12_MetaApart.j2 f a b k l n m P (i : Int) (0 + 1)) else (stowagelaw12_MetaApart.j2 f a b k l n m P (i : Int) 0))) (fun f => ?_) (Ev.bind (parseBucket_ev s hs) ?_)
  · rw [stowagelaw12_MetaApart.l0, if_pos (by omega), if_pos (by omega), hg]
  · by_cases hp : (bucketR s.toList).2 = true
    · refine ev_pos hp (j2 (0 + 1) (by decide) (by decide) (fun q => ?_))
      rw [bucketR_head _ hp] at q
      exact absurd q (by decide)
    · exact ev_neg hp (j2 0 (by decide) (by decide) (fun _ => rfl))
theorem hd_inj : ∀ n m : Fin 16, hd n.val = hd m.val → n = m := by decide +kernel
theorem hx_inj (c d : UInt8) (h : hx c = hx d) : c = d := by
  have hc := c.toNat_lt
  have hd' := d.toNat_lt
  unfold hx at h
  obtain ⟨h1, h2⟩ := List.cons.inj h
  have h3 := (List.cons.inj h2).1
  have e1 := congrArg Fin.val (hd_inj ⟨c.toNat / 16, by omega⟩ ⟨d.toNat / 16, by omega⟩ h1)
  have e2 := congrArg Fin.val (hd_inj ⟨c.toNat % 16, by omega⟩ ⟨d.toNat % 16, by omega⟩ h3)
  simp only at e1 e2
  apply UInt8.toNat_inj.mp
  omega
theorem hxs_inj (x : List UInt8) : ∀ y : List UInt8, x.flatMap hx = y.flatMap hx → x = y := by
  induction x with
  | nil =>
    intro y h
    cases y with
    | nil => rfl
    | cons d y => simp [hx] at h
  | cons c x ih =>
    intro y h
    cases y with
    | nil => simp [hx] at h
    | cons d y =>
      rw [List.flatMap_cons, List.flatMap_cons] at h
      obtain ⟨h1, h2⟩ := List.append_inj h (by simp [hx])
      rw [hx_inj c d h1, ih y h2]
theorem beq_of (p : Prop) [Decidable p] (x : Bool) (h : x = true ↔ p) : (x == decide p) = true := by
  by_cases c : p
  · rw [decide_eq_true c, h.mpr c]; rfl
  · have : x = false := by cases x with | false => rfl | true => exact absurd (h.mp rfl) c
    rw [decide_eq_false c, this]; rfl
theorem part_iff (n m : Int) (hn : 0 ≤ n) (hm : 0 ≤ m) (bn : n ≤ 9223372036854775807) (bm : m ≤ 9223372036854775807) : (((partK (pos0 n) (pos0 m)).toList == (partK (pos0 m) (pos0 n)).toList) == (n == m)) = true := by
  have pn : (pos0 n : Int) = n := by unfold pos0; omega
  have pm : (pos0 m : Int) = m := by unfold pos0; omega
  by_cases c : n = m
  · subst c; simp
  · have e : (n == m) = false := by simpa using c
    rw [e, beq_iff_eq, beq_eq_false_iff_ne]
    intro h
    unfold partK at h
    simp only [toList_append, B_toList, List.append_assoc] at h
    have h1 := (List.append_inj h rfl).2
    have h2 := (List.append_inj h1 (by rw [beL_len, beL_len])).1
    have := beL_inj 8 _ _ (by omega) (by omega) h2
    omega
theorem id_iff (n m : Int) (hn : 0 ≤ n) (hm : 0 ≤ m) (bn : n ≤ 9223372036854775807) (bm : m ≤ 9223372036854775807) : (((idK (pos0 n)).toList == (idK (pos0 m)).toList) == (n == m)) = true := by
  have pn : (pos0 n : Int) = n := by unfold pos0; omega
  have pm : (pos0 m : Int) = m := by unfold pos0; omega
  by_cases c : n = m
  · subst c; simp
  · have e : (n == m) = false := by simpa using c
    rw [e, beq_iff_eq, beq_eq_false_iff_ne]
    intro h
    unfold idK at h
    rw [B_toList, B_toList] at h
    have := beL_inj 8 _ _ (by omega) (by omega) (hxs_inj _ _ h)
    omega
theorem MetaApart : stowagelaw12_MetaApart.Pure := by
  intro a b k l n m ha hb hk hl hn hm
  have bn := wf_bd hn
  have bm := wf_bd hm
  refine Ev.rounds ?_
  unfold stowagelaw12_MetaApart.f
  by_cases p1 : n < 0
  · exact ev_pos p1 (apart_aw a b k l n m)
  refine ev_neg p1 ?_
  by_cases p2 : m < 0
  · rw [decide_eq_true p2]; exact apart_aw a b k l n m
  rw [decide_eq_false p2]
  refine Ev.step (f := fun f => (meta_BucketKey.f a).bind fun t378 => ((meta_ObjectKey.f f a k n).bind fun t379 => ((meta_UploadKey.f f a k n).bind fun t380 => ((meta_PartKey.f f n m).bind fun t381 => (stowagelaw12_MetaApart.l0 f a b k l n m (([t378, t379, t380, t381] : List ByteArray)) 0))))) (fun f => by rw [stowagelaw12_MetaApart.j0, if_neg (by decide)]) ?_
  refine ev_some (bucketKey_eq a (by omega)) (Ev.bind (objectKey_ev a k n (by omega) (by omega) bn.2) (Ev.bind (uploadKey_ev a k n (by omega) (by omega) bn.2) (Ev.bind (partKey_ev n m bn.2 bm.2) ?_)))
  have z66 : (B [66]).size = 1 := b1 66
  have zo := longK_size 79 a k (oseq n)
  have zu := longK_size 85 a k (pos0 n)
  have zp : (partK (pos0 n) (pos0 m)).size = 17 := by
    unfold partK
    rw [ByteArray.size_append, ByteArray.size_append, b8, b8, b1]
  refine apart_round a b k l n m _ 0 (B [66] ++ a) (by simp) rfl rfl (by rw [ByteArray.size_append]; omega) ?_
  refine apart_round a b k l n m _ 1 (longK 79 a k (oseq n)) (by simp) rfl rfl (by omega) ?_
  refine apart_round a b k l n m _ 2 (longK 85 a k (pos0 n)) (by simp) rfl rfl (by omega) ?_
  refine apart_round a b k l n m _ 3 (partK (pos0 n) (pos0 m)) (by simp) rfl rfl (by omega) ?_
  have hp := part_iff n m (by omega) (by omega) bn.2 bm.2
  have hi := id_iff n m (by omega) (by omega) bn.2 bm.2
  have rest : Ev (fun f => (meta_PartKey.f f n m).bind fun t416 => ((meta_PartKey.f f m n).bind fun t417 => (if ((t416.toList == t417.toList) == (n == m)) = true then ((meta_ID.f f n).bind fun t418 => ((meta_ID.f f m).bind fun t419 => (if ((t418.toList == t419.toList) == (n == m)) = true then ((stowagelaw12_awake.f f).bind fun t420 => (some t420)) else (some false)))) else (some false)))) true :=
    Ev.bind (partKey_ev n m bn.2 bm.2) (Ev.bind (partKey_ev m n bm.2 bn.2) (ev_pos hp (Ev.bind (id_ev n bn.2) (Ev.bind (id_ev m bm.2) (ev_pos hi aw_ev)))))
  refine Ev.step (fun f => by rw [stowagelaw12_MetaApart.l0, if_neg (by simp), if_pos (by simp)]; rfl) (Ev.bind (object_ev (longK 79 a k (oseq n)) (by omega)) ?_)
  simp only [tellO_ok]
  by_cases g3 : (D 79 (longK 79 a k (oseq n)).toList).isSome = true
  rotate_left
  · exact ev_neg g3 aw_ev
  refine ev_pos g3 (Ev.bind (objectKey_ev b l m (by omega) (by omega) bm.2) (Ev.bind (object_ev (longK 79 b l (oseq m)) (by rw [longK_size]; omega)) ?_))
  simp only [tellO_ok]
  by_cases g4 : (D 79 (longK 79 b l (oseq m)).toList).isSome = true
  rotate_left
  · exact ev_neg g4 aw_ev
  obtain ⟨za, zk⟩ := read_zero 79 a k _ g3
  obtain ⟨zb, zl⟩ := read_zero 79 b l _ g4
  have inj := fun h => longK_inj 79 a k b l (oseq n) (oseq m) (by unfold oseq; omega) (by unfold oseq; omega) za zk zb zl h
  refine ev_pos g4 (Ev.bind (objectKey_ev a k n (by omega) (by omega) bn.2) (Ev.bind (objectKey_ev b l m (by omega) (by omega) bm.2) ?_))
  by_cases c1 : a.toList = b.toList
  · refine ev_pos c1 ?_
    by_cases c2 : k.toList = l.toList
    · refine ev_pos c2 (ev_pos ?_ rest)
      by_cases c : n = m
      · subst c
        rw [toList_inj c1, toList_inj c2]
        simp
      · have e : (n == m) = false := by simpa using c
        rw [e, beq_iff_eq, beq_eq_false_iff_ne]
        intro h
        have := (inj h).2.2
        unfold oseq pos0 at this
        omega
    · refine ev_neg c2 (ev_pos ?_ rest)
      rw [beq_iff_eq, beq_eq_false_iff_ne]
      exact fun h => c2 (inj h).2.1
  · refine ev_neg c1 (ev_pos ?_ rest)
    rw [beq_iff_eq, beq_eq_false_iff_ne]
    exact fun h => c1 (inj h).1
end Go.Proofs.YtieejapamkokaaaDoor.Pure
