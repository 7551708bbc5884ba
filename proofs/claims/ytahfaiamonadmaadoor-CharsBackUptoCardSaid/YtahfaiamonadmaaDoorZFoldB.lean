/- A part of the proof of the seat's laws. No condition beyond those in the theorems. -/
import Derived.Test.YtahfaiamonadmaaDoorZCharsB
import Derived.Test.YtahfaiamonadmaaDoorZRTrimB
import Derived.Test.YtahfaiamonadmaaDoorZQ16g3
import Derived.Test.YtahfaiamonadmaaDoorZQ48g2
import Derived.Test.YtahfaiamonadmaaDoorZQ50g3

namespace Go.Proofs.YtahfaiamonadmaaDoor.Pure
open Go.RowKit Go.Proofs.YtahfaiamonadmaaDoor.Q Go.Proofs.YtahfaiamonadmaaDoorW.PrintWords Go.Proofs.YtahfaiamonadmaaDoorW.PrintLast
set_option linter.unusedVariables false
set_option linter.unusedSimpArgs false
def nm (a : List UInt8) : List Int := a.map fun c => (c.toNat : Int)
theorem nm_len (a : List UInt8) : (nm a).length = a.length := by simp [nm]
theorem nm_app (a : List UInt8) (c : UInt8) : nm a ++ [(c.toNat : Int)] = nm (a ++ [c]) := by simp [nm]
theorem nm_str (a : List UInt8) : strOfNums (nm a) = B a := by
  unfold strOfNums nm B
  rw [List.map_map]
  congr 2
  exact (List.map_congr_left (fun c _ => by simp)).trans (List.map_id a)
def foldB (p : Bool) : List UInt8 → List UInt8
  | [] => []
  | c :: l => if blankB c = true then (if p = true then foldB true l else 32 :: foldB true l) else c :: foldB false l
theorem bt_last (s : ByteArray) (pre l : List UInt8) (p c : UInt8) (h : s.toList = (pre ++ [p]) ++ c :: l) (hs : s.size ≤ 1000000000000000) :
    wrap64 (((pre ++ [p]).length : Int) - 1) = (pre.length : Int) ∧ bt s (pre.length : Int) = (p.toNat : Int) ∧ pre.length < s.size := by
  have h' : s.toList = pre ++ p :: (c :: l) := by rw [h]; simp
  obtain ⟨h1, h2⟩ := bt_pre s pre (c :: l) p h'
  refine ⟨?_, h1, h2⟩
  rw [List.length_append, List.length_singleton, w64 (by omega) (by omega)]
  omega
theorem fold_l0 (s : ByteArray) (hs : s.size ≤ 100000000000000) (l : List UInt8) : ∀ (pre : List UInt8) (p : UInt8) (acc : List UInt8), s.toList = (pre ++ [p]) ++ l → acc.length ≤ pre.length + 1 →
    Ev (fun k => chars_Fold.l0 k s (nm acc) (s.size : Int) ((pre ++ [p]).length : Int)) (B (acc ++ foldB (blankB p) l)) := by
  induction l with
  | nil =>
    intro pre p acc h _
    have e := pre_end s _ h
    exact Ev.step (f := fun _ => some (strOfNums (nm acc))) (fun k => by rw [chars_Fold.l0, if_neg (by omega)]) (ev_eq (Ev.now _) (by rw [nm_str, foldB, List.append_nil]))
  | cons c l ih =>
    intro pre p acc h ha
    obtain ⟨hb, hl⟩ := bt_pre s _ l c h
    obtain ⟨hw, hp, hpl⟩ := bt_last s pre l p c h (by omega)
    have hn := pre_next (pre ++ [p]) c s.size hl (by omega)
    have hlen : (pre ++ [p]).length = pre.length + 1 := by simp
    have happ := pre_app s _ l c h
    refine Ev.step (f := fun k => if blankB c = true then (if blankB p = true then chars_Fold.l0 k s (nm acc) (s.size : Int) (((pre ++ [p]) ++ [c]).length : Int) else chars_Fold.l0 k s (nm (acc ++ [32])) (s.size : Int) (((pre ++ [p]) ++ [c]).length : Int)) else chars_Fold.l0 k s (nm (acc ++ [c])) (s.size : Int) (((pre ++ [p]) ++ [c]).length : Int)) (fun k => ?_) ?_
    · rw [chars_Fold.l0, if_pos (by omega), if_pos (by omega), if_pos (by omega), hb, blank_eq, Option.bind_some, hw, hn]
      by_cases g : blankB c = true
      · rw [if_pos g, if_pos g, if_pos (by omega), if_pos (by omega), hp, blank_eq, Option.bind_some]
        by_cases g2 : blankB p = true
        · rw [if_pos g2, if_pos g2]
        · rw [if_neg g2, if_neg g2, if_pos (by rw [nm_len]; omega)]
          rw [← nm_app acc 32]
          rfl
      · rw [if_neg g, if_neg g, if_pos (by rw [nm_len]; omega), nm_app]
    · rw [foldB]
      by_cases g : blankB c = true
      · rw [if_pos g]
        refine ev_pos g ?_
        by_cases g2 : blankB p = true
        · rw [if_pos g2]
          exact ev_pos g2 (ev_eq (ih (pre ++ [p]) c acc happ (by omega)) (by rw [g]))
        · rw [if_neg g2]
          exact ev_neg g2 (ev_eq (ih (pre ++ [p]) c (acc ++ [32]) happ (by simp; omega)) (by rw [g]; simp))
      · rw [if_neg g]
        exact ev_neg g (ev_eq (ih (pre ++ [p]) c (acc ++ [c]) happ (by simp; omega)) (by rw [Bool.not_eq_true] at g; rw [g]; simp))
theorem dropB_head (l : List UInt8) : ∀ c m, dropB l = c :: m → blankB c = false := by
  induction l with
  | nil => intro c m h; simp [dropB] at h
  | cons a l ih =>
    intro c m h
    rw [dropB] at h
    by_cases g : blankB a = true
    · rw [if_pos g] at h; exact ih c m h
    · rw [if_neg g] at h
      obtain ⟨rfl, rfl⟩ := List.cons.inj h
      simpa using g
theorem dropB_suffix (l : List UInt8) : ∃ p, l = p ++ dropB l := by
  induction l with
  | nil => exact ⟨[], rfl⟩
  | cons a l ih =>
    rw [dropB]
    by_cases g : blankB a = true
    · rw [if_pos g]
      obtain ⟨p, hp⟩ := ih
      exact ⟨a :: p, by rw [List.cons_append, ← hp]⟩
    · rw [if_neg g]; exact ⟨[], rfl⟩
theorem trimB_head (l : List UInt8) (c : UInt8) (m : List UInt8) (h : trimB l = c :: m) : blankB c = false := by
  unfold trimB at h
  obtain ⟨p, hp⟩ := dropB_suffix (dropB l).reverse
  have e : dropB l = (dropB (dropB l).reverse).reverse ++ p.reverse := by
    have := congrArg List.reverse hp
    rw [List.reverse_reverse, List.reverse_append] at this
    exact this
  rw [h, List.cons_append] at e
  exact dropB_head l c _ e
theorem fold_ev (s : ByteArray) (hs : s.size ≤ 1000000000000) : Ev (fun k => chars_Fold.f k s) (B (foldB true (trimB s.toList))) := by
  have hl : (trimB s.toList).length ≤ s.size := by rw [← length_toList]; exact trimB_len _
  have hz : (B (trimB s.toList)).size = (trimB s.toList).length := B_size _
  unfold chars_Fold.f
  refine Ev.bind (trim_ev s (by omega)) (ev_pos (by omega) (ev_pos (by omega) ?_))
  cases hm : trimB s.toList with
  | nil =>
    refine Ev.step (f := fun _ => some (strOfNums [])) (fun k => by rw [chars_Fold.l0, if_neg (by rw [B_size]; simp)]) (ev_eq (Ev.now _) ?_)
    rfl
  | cons c m =>
    rw [hm] at hz hl
    have hb := trimB_head _ c m hm
    have hbt := bt_B (c :: m) 0 c rfl
    have hz' : (B (c :: m)).size = m.length + 1 := by rw [B_size]; rfl
    rw [List.length_cons] at hl
    refine Ev.step (f := fun k => chars_Fold.l0 k (B (c :: m)) (nm ([] ++ [c])) ((B (c :: m)).size : Int) ((([] : List UInt8) ++ [c]).length : Int)) (fun k => ?_) ?_
    · rw [chars_Fold.l0, if_pos (by omega), if_pos (by omega), if_pos (by omega)]
      have e0 : bt (B (c :: m)) 0 = (c.toNat : Int) := hbt
      rw [e0, blank_eq, Option.bind_some, hb, if_neg (by decide), if_pos (by simp), w64 (by omega) (by omega)]
      rfl
    · refine ev_eq (fold_l0 (B (c :: m)) (by omega) m [] c ([] ++ [c]) (by rw [B_toList]; rfl) (by simp)) ?_
      rw [foldB, if_neg (by rw [hb]; decide), hb]
      simp
theorem sizeAdd (a b : ByteArray) (h : a.size ≤ 1000000000000000) (h' : b.size ≤ 1000000000000000) : a.size + b.size ≤ 9223372036854775807 := by omega
theorem one_of (s : ByteArray) (pre l : List UInt8) (c : UInt8) (h : s.toList = pre ++ c :: l) : s.extract ((pre.length : Int)).toNat ((((pre ++ [c]).length : Nat) : Int)).toNat = B [c] := by
  apply toList_inj
  rw [toList_extract, B_toList, h, Int.toNat_natCast, Int.toNat_natCast, List.length_append, List.length_singleton]
  rw [show pre ++ c :: l = (pre ++ [c]) ++ l by simp, List.take_left' (by simp), List.drop_left' rfl]
theorem rfold_j2 (s : ByteArray) (hs : s.size ≤ 1000000000000000) (l pre : List UInt8) (c : UInt8) (acc : List UInt8) (h : s.toList = pre ++ c :: l) (ha : acc.length ≤ 1000000000000000) (blank skip : Bool) (r : ByteArray)
    (k1 : skip = true → Ev (fun k => stowageref3_Fold.l0 k s (B acc) ((pre ++ [c]).length : Int)) r)
    (k2 : skip = false → blank = true → Ev (fun k => stowageref3_Fold.l0 k s (B (acc ++ [32])) ((pre ++ [c]).length : Int)) r)
    (k3 : skip = false → blank = false → Ev (fun k => stowageref3_Fold.l0 k s (B (acc ++ [c])) ((pre ++ [c]).length : Int)) r) :
    Ev (fun k => stowageref3_Fold.j2 k s (B acc) (pre.length : Int) blank skip) r := by
  obtain ⟨hb, hl⟩ := bt_pre s _ l c h
  have hn := pre_next pre c s.size hl (by omega)
  have hone := one_of s pre l c h
  have hz : (B acc).size = acc.length := B_size acc
  have hz1 : (B [c]).size = 1 := B_size _
  have hlen : (pre ++ [c]).length = pre.length + 1 := by simp
  refine Ev.step (f := fun k => if skip = true then stowageref3_Fold.l0 k s (B acc) ((pre ++ [c]).length : Int) else if blank = true then stowageref3_Fold.l0 k s (B (acc ++ [32])) ((pre ++ [c]).length : Int) else stowageref3_Fold.l0 k s (B (acc ++ [c])) ((pre ++ [c]).length : Int)) (fun k => ?_) ?_
  · rw [stowageref3_Fold.j2, hn]
    cases skip
    · cases blank
      · simp only [Bool.false_eq_true, if_false]
        rw [if_pos (by omega), if_pos (by omega), if_pos (by omega), hone, if_pos (by rw [hz, hz1]; omega), B_append]
      · simp only [Bool.false_eq_true, if_false, if_true]
        rw [if_pos (by rw [hz]; omega), ← B_append]
        rfl
    · simp only [if_true]
  · cases skip
    · refine ev_neg (by decide) ?_
      cases blank
      · exact ev_neg (by decide) (k3 rfl rfl)
      · exact ev_pos rfl (k2 rfl rfl)
    · exact ev_pos rfl (k1 rfl)
theorem blank_int (c : UInt8) : (c.toNat : Int) = 32 ∨ ((c.toNat : Int) == 9) = true ↔ blankB c = true := by
  unfold blankB
  rw [Bool.or_eq_true, beq_iff_eq, beq_iff_eq, beq_iff_eq]
  constructor
  · rintro (h | h)
    · exact .inl (toNat_eq.mp (by rw [h]; rfl))
    · exact .inr (toNat_eq.mp (by rw [h]; rfl))
  · rintro (h | h)
    · exact .inl (by rw [h]; rfl)
    · exact .inr (by rw [h]; rfl)
theorem blank_flag {α : Type} (c : UInt8) (f : Bool → Option α) : (if (c.toNat : Int) = 32 then f true else f ((c.toNat : Int) == 9)) = f (blankB c) := by
  have h := blank_int c
  by_cases g : (c.toNat : Int) = 32
  · rw [if_pos g, h.mp (.inl g)]
  · rw [if_neg g]
    congr 1
    rw [Bool.eq_iff_iff, ← h]
    exact ⟨.inr, fun k => k.resolve_left g⟩
theorem rfold_l0 (s : ByteArray) (hs : s.size ≤ 1000000000000000) (l : List UInt8) : ∀ (pre : List UInt8) (p : UInt8) (acc : List UInt8), s.toList = (pre ++ [p]) ++ l → acc.length ≤ pre.length + 1 →
    Ev (fun k => stowageref3_Fold.l0 k s (B acc) ((pre ++ [p]).length : Int)) (B (acc ++ foldB (blankB p) l)) := by
  induction l with
  | nil =>
    intro pre p acc h _
    have e := pre_end s _ h
    exact Ev.step (f := fun _ => some (B acc)) (fun k => by rw [stowageref3_Fold.l0, if_neg (by omega)]) (ev_eq (Ev.now _) (by rw [foldB, List.append_nil]))
  | cons c l ih =>
    intro pre p acc h ha
    obtain ⟨hb, hl⟩ := bt_pre s _ l c h
    obtain ⟨hw, hp, hpl⟩ := bt_last s pre l p c h hs
    have hlen : (pre ++ [p]).length = pre.length + 1 := by simp
    have happ := pre_app s _ l c h
    refine Ev.step (f := fun k => stowageref3_Fold.j1 k s (B acc) ((pre ++ [p]).length : Int) (blankB c)) (fun k => ?_) ?_
    · rw [stowageref3_Fold.l0, if_pos (by omega), if_pos (by omega), hb]
      exact blank_flag c (fun b => stowageref3_Fold.j1 k s (B acc) ((pre ++ [p]).length : Int) b)
    · refine Ev.step (f := fun k => stowageref3_Fold.j2 k s (B acc) ((pre ++ [p]).length : Int) (blankB c) (blankB c && blankB p)) (fun k => ?_) ?_
      · rw [stowageref3_Fold.j1, hw]
        by_cases g : blankB c = true
        · rw [if_pos g, if_pos (by omega), if_pos (by omega), hp, g]
          rw [blank_flag p (fun b => stowageref3_Fold.j2 k s (B acc) ((pre ++ [p]).length : Int) true b), Bool.true_and]
        · rw [if_neg g]
          rw [Bool.not_eq_true] at g
          rw [g, Bool.false_and]
      · rw [foldB]
        refine rfold_j2 s hs l (pre ++ [p]) c acc h (by omega) _ _ _ ?_ ?_ ?_
        · intro g
          obtain ⟨g1, g2⟩ := Bool.and_eq_true_iff.mp g
          exact ev_eq (ih (pre ++ [p]) c acc happ (by omega)) (by rw [if_pos g1, if_pos g2, g1])
        · intro g g1
          rw [g1, Bool.true_and] at g
          exact ev_eq (ih (pre ++ [p]) c (acc ++ [32]) happ (by simp; omega)) (by rw [if_pos g1, if_neg (by rw [g]; decide), g1]; simp)
        · intro g g1
          exact ev_eq (ih (pre ++ [p]) c (acc ++ [c]) happ (by simp; omega)) (by rw [if_neg (by rw [g1]; decide), g1]; simp)
theorem rfold_ev (s : ByteArray) (hs : s.size ≤ 1000000000000) : Ev (fun k => stowageref3_Fold.f k s) (B (foldB true (trimB s.toList))) := by
  have hl : (trimB s.toList).length ≤ s.size := by rw [← length_toList]; exact trimB_len _
  have hz : (B (trimB s.toList)).size = (trimB s.toList).length := B_size _
  unfold stowageref3_Fold.f
  refine Ev.bind (rtrim_ev s (by omega)) ?_
  cases hm : trimB s.toList with
  | nil =>
    exact Ev.step (f := fun _ => some (B [])) (fun k => by rw [stowageref3_Fold.l0, if_neg (by rw [B_size]; simp)]; rfl) (Ev.now _)
  | cons c m =>
    rw [hm] at hz hl
    have hb := trimB_head _ c m hm
    have e0 : bt (B (c :: m)) 0 = (c.toNat : Int) := bt_B (c :: m) 0 c rfl
    have hz' : (B (c :: m)).size = m.length + 1 := by rw [B_size]; rfl
    rw [List.length_cons] at hl
    refine Ev.step (f := fun k => stowageref3_Fold.j1 k (B (c :: m)) (B []) (([] : List UInt8).length : Int) (blankB c)) (fun k => ?_) ?_
    · rw [stowageref3_Fold.l0, if_pos (by omega), if_pos (by omega), e0]
      exact blank_flag c (fun b => stowageref3_Fold.j1 k (B (c :: m)) (B []) (([] : List UInt8).length : Int) b)
    · refine Ev.step (f := fun k => stowageref3_Fold.j2 k (B (c :: m)) (B []) (([] : List UInt8).length : Int) false false) (fun k => by rw [stowageref3_Fold.j1, hb, if_neg (by decide)]) ?_
      refine rfold_j2 (B (c :: m)) (by omega) m [] c [] (by rw [B_toList]; rfl) (by simp) false false _ (fun h => by cases h) (fun _ h => by cases h) (fun _ _ => ?_)
      refine ev_eq (rfold_l0 (B (c :: m)) (by omega) m [] c ([] ++ [c]) (by rw [B_toList]; rfl) (by simp)) ?_
      rw [foldB, if_neg (by rw [hb]; decide), hb]
      simp
theorem low_int (c : UInt8) (h1 : 65 ≤ c.toNat) (h2 : c.toNat ≤ 90) : ((c.toNat : Int) + 32) % 256 = ((chars_Lower.b c).toNat : Int) := by
  rw [chars_Lower.b, if_pos ⟨h1, h2⟩, chars_Lower.add32 c h2]
  omega
theorem rlower_l0 (s : ByteArray) (hs : s.size ≤ 1000000000000) (l : List UInt8) : ∀ pre acc : List UInt8, s.toList = pre ++ l → acc.length = pre.length → Ev (fun k => stowageref3_Lower.l0 k s (nm acc) (pre.length : Int)) (B (acc ++ l.map chars_Lower.b)) := by
  induction l with
  | nil =>
    intro pre acc h _
    have e := pre_end s _ h
    exact Ev.step (f := fun _ => some (strOfNums (nm acc))) (fun k => by rw [stowageref3_Lower.l0, if_neg (by omega)]) (ev_eq (Ev.now _) (by rw [nm_str]; simp))
  | cons c l ih =>
    intro pre acc h ha
    obtain ⟨hb, hl⟩ := bt_pre s _ l c h
    have hn := pre_next pre c s.size hl (by omega)
    refine Ev.step (f := fun k => stowageref3_Lower.l0 k s (nm (acc ++ [chars_Lower.b c])) ((pre ++ [c]).length : Int)) (fun k => ?_) (ev_eq (ih (pre ++ [c]) (acc ++ [chars_Lower.b c]) (pre_app s _ l c h) (by simp [ha])) (by simp))
    rw [stowageref3_Lower.l0, if_pos (by omega), if_pos (by omega), hb, hn]
    by_cases h1 : (c.toNat : Int) ≥ 65
    · rw [if_pos h1]
      by_cases h2 : (c.toNat : Int) ≤ 90
      · rw [if_pos h2, if_pos (by rw [nm_len]; omega), low_int c (by omega) (by omega), nm_app]
      · rw [if_neg h2, if_pos (by rw [nm_len]; omega), nm_app, show chars_Lower.b c = c by rw [chars_Lower.b, if_neg (by omega)]]
    · rw [if_neg h1, if_pos (by rw [nm_len]; omega), nm_app, show chars_Lower.b c = c by rw [chars_Lower.b, if_neg (by omega)]]
theorem lower_eq (s : ByteArray) (hs : s.size ≤ 1000000000000) : chars_Lower.f s = some (B (s.toList.map chars_Lower.b)) := by
  rw [chars_Lower.f, if_pos (by omega), chars_Lower.s, ByteArray.toList_eq]
  rfl
theorem rlower_ev (s : ByteArray) (hs : s.size ≤ 1000000000000) : Ev (fun k => stowageref3_Lower.f k s) (B (s.toList.map chars_Lower.b)) := rlower_l0 s hs s.toList [] [] rfl rfl
end Go.Proofs.YtahfaiamonadmaaDoor.Pure
