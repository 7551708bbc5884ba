/- A part of the proof of the seat's laws. No condition beyond those in the theorems. -/
import Derived.Test.YtiaihkcadffllaaZCorsMatch
import Derived.Test.YtiaihkcadffllaaZQ20g2

namespace Go.Proofs.Ytiaihkcadffllaa.Pure
open Go.RowKit Go.Proofs.Ytiaihkcadffllaa.Q Go.Proofs.YtiaihkcadffllaaW.PrintWords Go.Proofs.YtiaihkcadffllaaW.PrintLast
set_option linter.unusedVariables false
set_option linter.unusedSimpArgs false
theorem stars_awake : stowagelaw25_awake.f = some true := by kernel_rfl
theorem cutL_none (c : UInt8) (l : List UInt8) (h : ∀ x ∈ l, x ≠ c) : cutL c l = none := by
  induction l with
  | nil => rfl
  | cons b l ih => rw [cutL, if_neg (h b (by simp)), ih (fun x hx => h x (by simp [hx]))]; rfl
theorem cutL_at (c : UInt8) (a b : List UInt8) (h : ∀ x ∈ a, x ≠ c) : cutL c (a ++ c :: b) = some (a, b) := by
  induction a with
  | nil => rw [List.nil_append, cutL, if_pos rfl]
  | cons x a ih =>
    rw [List.cons_append, cutL, if_neg (h x (by simp)), ih (fun y hy => h y (by simp [hy]))]
    rfl
theorem match_plain (a s : ByteArray) (h : ∀ x ∈ a.toList, x ≠ 42) : matchB a s = (a.toList == s.toList) := by
  rw [matchB, cutR, cutL_none 42 _ h]
  simp
theorem star_cut (a b : ByteArray) (h : ∀ x ∈ a.toList, x ≠ 42) : cutR ((a ++ B [42]) ++ b) 42 = (a, b, true) := by
  have e : ((a ++ B [42]) ++ b).toList = a.toList ++ 42 :: b.toList := by
    rw [toList_append, toList_append, B_toList]; simp
  rw [cutR, e, cutL_at 42 _ _ h]
  show (B a.toList, B b.toList, true) = _
  rw [of_B, of_B]
theorem match_star (a b s : ByteArray) (h : ∀ x ∈ a.toList, x ≠ 42) : matchB ((a ++ B [42]) ++ b) s = (decide (a.size + b.size ≤ s.size) && (((s.extract 0 a.size).toList == a.toList) && ((s.extract (s.size - b.size) s.size).toList == b.toList))) := by
  rw [matchB, star_cut a b h]
  simp
theorem match_all (s : ByteArray) : matchB (B [42]) s = true := by
  have e : B [42] = (B [] ++ B [42]) ++ B [] := by rw [B_append, B_append]; rfl
  rw [e, match_star (B []) (B []) s (by rw [B_toList]; simp), B_size, B_toList]
  have h1 : (s.extract 0 ([] : List UInt8).length).toList = [] := by rw [toList_extract]; simp
  have h2 : (s.extract (s.size - ([] : List UInt8).length) s.size).toList = [] := by
    rw [toList_extract]; simp [length_toList]
  rw [h1, h2]
  simp
theorem match_within (a b s : ByteArray) (h : ∀ x ∈ a.toList, x ≠ 42) : matchB ((a ++ B [42]) ++ b) ((a ++ s) ++ b) = true := by
  have hz : ((a ++ s) ++ b).size = a.size + s.size + b.size := by rw [ByteArray.size_append, ByteArray.size_append]
  have ha := length_toList a
  have hs := length_toList s
  have hb := length_toList b
  rw [match_star a b _ h, hz, decide_eq_true (by omega)]
  have h1 : (((a ++ s) ++ b).extract 0 a.size).toList = a.toList := by
    rw [toList_extract, toList_append, toList_append, List.drop_zero, List.append_assoc, ← ha, List.take_left']
    rfl
  have h2 : (((a ++ s) ++ b).extract (a.size + s.size + b.size - b.size) (a.size + s.size + b.size)).toList = b.toList := by
    rw [toList_extract, toList_append, toList_append, List.take_of_length_le (by rw [List.length_append, List.length_append]; omega), show a.size + s.size + b.size - b.size = (a.toList ++ s.toList).length by rw [List.length_append]; omega, List.drop_left']
    rfl
  rw [h1, h2]
  simp
theorem stars_end (a b s : ByteArray) (ha : a.size ≤ 140737488351232) (hb : b.size ≤ 140737488351232) (hs : s.size ≤ 140737488351232) (h : ∀ x ∈ a.toList, x ≠ 42) (i : Int) (hi : ¬ i < wrap64 ((a.size : Int) + (b.size : Int))) :
    Ev (fun k => stowagelaw25_CorsStars.l0 k a b s i) true := by
  have hz1 : (⟨#[42]⟩ : ByteArray) = B [42] := rfl
  have hzs : (B [42]).size = 1 := rfl
  have m1 := match_eq a s (by omega) (by omega)
  have m2 := match_eq (B [42]) s (by rw [hzs]; omega) (by omega)
  have zp : ((a ++ B [42]) ++ b).size = a.size + 1 + b.size := by rw [ByteArray.size_append, ByteArray.size_append, hzs]
  have zs : ((a ++ s) ++ b).size = a.size + s.size + b.size := by rw [ByteArray.size_append, ByteArray.size_append]
  have m3 := match_eq ((a ++ B [42]) ++ b) ((a ++ s) ++ b) (by omega) (by omega)
  have m4 := match_eq ((a ++ B [42]) ++ b) s (by omega) (by omega)
  rw [match_plain a s h] at m1
  rw [match_all] at m2
  rw [match_within a b s h] at m3
  refine Ev.step (f := fun k => _) (fun k => by rw [stowagelaw25_CorsStars.l0, if_neg hi, hz1]) ?_
  refine ev_some m1 (ev_pos (by simp) (ev_some m2 (ev_pos rfl (ev_pos (by omega) (ev_pos (by rw [ByteArray.size_append, hzs]; omega) (ev_pos (by omega) (ev_pos (by rw [ByteArray.size_append]; omega) ?_)))))))
  refine ev_some m3 (ev_pos rfl (ev_some m4 ?_))
  by_cases c : matchB ((a ++ B [42]) ++ b) s = true
  · refine ev_pos c (ev_pos ?_ (ev_some stars_awake (Ev.now _)))
    rw [match_star a b s h, Bool.and_eq_true, decide_eq_true_iff] at c
    rw [w64 (by omega) (by omega)]
    omega
  · exact ev_neg c (ev_some stars_awake (Ev.now _))
theorem stars_l0 (a b s : ByteArray) (ha : a.size ≤ 140737488351232) (hb : b.size ≤ 140737488351232) (hs : s.size ≤ 140737488351232) (l : List UInt8) : ∀ pre : List UInt8, (a ++ b).toList = pre ++ l → (∀ x ∈ pre, x ≠ 42) →
    Ev (fun k => stowagelaw25_CorsStars.l0 k a b s (pre.length : Int)) true := by
  have hsl := length_toList (a ++ b)
  have hz : (a ++ b).size = a.size + b.size := ByteArray.size_append
  have hw : wrap64 ((a.size : Int) + (b.size : Int)) = (a.size : Int) + (b.size : Int) := w64 (by omega) (by omega)
  induction l with
  | nil =>
    intro pre e hp
    rw [List.append_nil] at e
    refine stars_end a b s ha hb hs (fun x hx => hp x ?_) _ ?_
    · rw [← e, toList_append]; exact List.mem_append_left _ hx
    · rw [hw, ← e, hsl, hz]; omega
  | cons c l ih =>
    intro pre e hp
    have hl := congrArg List.length e
    rw [hsl, List.length_append, List.length_cons] at hl
    have hb' := (bt_drop (a ++ b) pre.length c l (by rw [e]; simp)).1
    refine Ev.step (f := fun k => _) (fun k => by rw [stowagelaw25_CorsStars.l0, hw, if_pos (by omega), if_pos (by omega), if_pos (by omega), if_pos (by omega), hb', w64 (n := (pre.length : Int) + 1) (by omega) (by omega)]) ?_
    by_cases h : c = 42
    · exact ev_pos (by rw [h]; rfl) (ev_some stars_awake (Ev.now _))
    · refine ev_neg (fun q : (c.toNat : Int) = 42 => h (toNat_eq.mp q)) ?_
      have := ih (pre ++ [c]) (by rw [e]; simp) (fun x hx => by
        rcases List.mem_append.mp hx with g | g
        · exact hp x g
        · rw [List.mem_singleton] at g; rw [g]; exact h)
      rw [show (((pre ++ [c]).length : Nat) : Int) = (pre.length : Int) + 1 by simp] at this
      exact this
theorem CorsStars : stowagelaw25_CorsStars.Pure := by
  intro a b s ha hb hs
  apply Ev.rounds
  simp only [stowagelaw25_CorsStars.f]
  exact stars_l0 a b s ha hb hs (a ++ b).toList [] rfl (fun x hx => by cases hx)
end Go.Proofs.Ytiaihkcadffllaa.Pure
