/- A part of the proof of the seat's laws. No condition beyond those in the theorems. -/
import Derived.Test.YtahfaiamonadmaaDoorZCharsAwake
import Derived.Test.YtahfaiamonadmaaDoorZBackB
import Derived.Test.YtahfaiamonadmaaDoorZPureCharsWordsUpto
import Derived.Test.YtahfaiamonadmaaDoorZQ58

namespace Go.Proofs.YtahfaiamonadmaaDoor.Pure
open Go.RowKit Go.Proofs.YtahfaiamonadmaaDoor.Q Go.Proofs.YtahfaiamonadmaaDoorW.PrintWords Go.Proofs.YtahfaiamonadmaaDoorW.PrintLast
set_option linter.unusedVariables false
set_option linter.unusedSimpArgs false
theorem plain_or (b : Bool) (c : UInt8) (h : plainB b c = true) : (65 ≤ (c.toNat : Int) ∧ (c.toNat : Int) ≤ 90) ∨ (97 ≤ (c.toNat : Int) ∧ (c.toNat : Int) ≤ 122) ∨ (48 ≤ (c.toNat : Int) ∧ (c.toNat : Int) ≤ 57) ∨ (c.toNat : Int) = 45 ∨ (c.toNat : Int) = 46 ∨ (c.toNat : Int) = 95 ∨ (c.toNat : Int) = 126 ∨ (c.toNat : Int) = 37 ∨ (b = true ∧ (c.toNat : Int) = 47) := by
  unfold plainB chars_Escape.keep chars_Escape.let at h
  simp only [Bool.or_eq_true, Bool.and_eq_true, decide_eq_true_eq] at h
  generalize (c.toNat : Int) = n at h ⊢
  rcases h with ((h | h) | ⟨hb, h⟩) | h
  · omega
  · omega
  · exact .inr (.inr (.inr (.inr (.inr (.inr (.inr (.inr ⟨hb, h⟩)))))))
  · omega
theorem plain_pick {α : Type} (b : Bool) (n : Int) (X Y : α) (ho : (65 ≤ n ∧ n ≤ 90) ∨ (97 ≤ n ∧ n ≤ 122) ∨ (48 ≤ n ∧ n ≤ 57) ∨ n = 45 ∨ n = 46 ∨ n = 95 ∨ n = 126 ∨ n = 37 ∨ (b = true ∧ n = 47)) :
    (if n ≥ 65 then (if n ≤ 90 then X else (if n ≥ 97 then (if n ≤ 122 then X else (if n ≥ 48 then (if n ≤ 57 then X else (if n = 45 then X else (if n = 46 then X else (if n = 95 then X else (if n = 126 then X else (if (n = 37) then X else (if b = true then (if (n = 47) then X else Y) else Y))))))) else (if n = 45 then X else (if n = 46 then X else (if n = 95 then X else (if n = 126 then X else (if (n = 37) then X else (if b = true then (if (n = 47) then X else Y) else Y)))))))) else (if n ≥ 48 then (if n ≤ 57 then X else (if n = 45 then X else (if n = 46 then X else (if n = 95 then X else (if n = 126 then X else (if (n = 37) then X else (if b = true then (if (n = 47) then X else Y) else Y))))))) else (if n = 45 then X else (if n = 46 then X else (if n = 95 then X else (if n = 126 then X else (if (n = 37) then X else (if b = true then (if (n = 47) then X else Y) else Y))))))))) else (if n ≥ 97 then (if n ≤ 122 then X else (if n ≥ 48 then (if n ≤ 57 then X else (if n = 45 then X else (if n = 46 then X else (if n = 95 then X else (if n = 126 then X else (if (n = 37) then X else (if b = true then (if (n = 47) then X else Y) else Y))))))) else (if n = 45 then X else (if n = 46 then X else (if n = 95 then X else (if n = 126 then X else (if (n = 37) then X else (if b = true then (if (n = 47) then X else Y) else Y)))))))) else (if n ≥ 48 then (if n ≤ 57 then X else (if n = 45 then X else (if n = 46 then X else (if n = 95 then X else (if n = 126 then X else (if (n = 37) then X else (if b = true then (if (n = 47) then X else Y) else Y))))))) else (if n = 45 then X else (if n = 46 then X else (if n = 95 then X else (if n = 126 then X else (if (n = 37) then X else (if b = true then (if (n = 47) then X else Y) else Y))))))))) = X := by
  rcases ho with h | h | h | h | h | h | h | h | ⟨hb, h⟩
  all_goals repeat (first | rfl | rw [if_pos (by first | omega | assumption)] | rw [if_neg (by omega)])
theorem back_l0 (x0 : ByteArray) (x1 : Bool) (x2 : Int) (T : ByteArray) (hT : T.size ≤ 1000000000000) (l : List UInt8) : ∀ pre, T.toList = pre ++ l → l.all (plainB x1) = true →
    ∀ r, Ev (fun k => (chars_Split.f k x0 x2).bind fun t209 => stowagelaw3_CharsBack.l1 k x0 x2 t209 (⟨#[]⟩ : ByteArray) 0) r → Ev (fun k => stowagelaw3_CharsBack.l0 k x0 x1 x2 T (pre.length : Int)) r := by
  induction l with
  | nil =>
    intro pre h _ r hr
    have e := pre_end T pre h
    exact Ev.step (fun k => by rw [stowagelaw3_CharsBack.l0, if_neg (by omega)]) hr
  | cons c l ih =>
    intro pre h ha r hr
    rw [List.all_cons, Bool.and_eq_true] at ha
    obtain ⟨hb, hl⟩ := bt_pre T _ l c h
    have hn := pre_next pre c T.size hl (by omega)
    have happ := pre_app T _ l c h
    have ho := plain_or x1 c ha.1
    have hc := c.toNat_lt
    refine Ev.step (f := fun k => stowagelaw3_CharsBack.l0 k x0 x1 x2 T ((pre ++ [c]).length : Int)) (fun k => ?_) (ih (pre ++ [c]) happ ha.2 r hr)
    rw [stowagelaw3_CharsBack.l0, if_pos (by omega), if_pos (by omega), hb, hn]
    exact plain_pick x1 (c.toNat : Int) _ _ ho
theorem back_l1 (x0 : ByteArray) (c : UInt8) (hs : x0.size ≤ 1048576) (P : List (List UInt8)) (hP : P.length ≤ 1048577) (hj : joinB c P = x0.toList) (l : List (List UInt8)) : ∀ pre acc, P = pre ++ l → acc ++ (match pre with | [] => joinB c l | _ :: _ => l.flatMap (fun q => c :: q)) = x0.toList →
    ∀ r, Ev (fun k => if x0.toList = x0.toList then (chars_Fold.f k x0).bind fun t217 => ((chars_Fold.f k t217).bind fun t218 => ((chars_Fold.f k x0).bind fun t219 => (if t218.toList = t219.toList then ((chars_Trim.f k x0).bind fun t220 => ((chars_Trim.f k t220).bind fun t221 => ((chars_Trim.f k x0).bind fun t222 => (if t221.toList = t222.toList then ((stowagelaw3_awake.f k).bind fun t223 => (some t223)) else (some false))))) else (some false)))) else some false) r →
    Ev (fun k => stowagelaw3_CharsBack.l1 k x0 (c.toNat : Int) (P.map B) (B acc) (pre.length : Int)) r := by
  have hl0 : (P.map B).length = P.length := List.length_map ..
  induction l with
  | nil =>
    intro pre acc h hacc r hr
    have e : P.length = pre.length := by rw [h, List.append_nil]
    have ea : acc = x0.toList := by
      rw [← hacc]
      cases pre with
      | nil => simp [joinB]
      | cons _ _ => simp
    subst ea
    rw [of_B]
    exact Ev.step (fun k => by rw [stowagelaw3_CharsBack.l1, if_neg (by omega)]) hr
  | cons q l ih =>
    intro pre acc h hacc r hr
    have hlen : P.length = pre.length + (l.length + 1) := by rw [h]; simp
    have hq : rdOf ByteArray.empty (P.map B) (pre.length : Int) = B q := by
      rw [rdOf]
      simp [h]
    have hn : wrap64 ((pre.length : Int) + 1) = ((pre ++ [q]).length : Int) := by rw [w64 (by omega) (by omega)]; simp
    have htot := congrArg List.length hacc
    rw [List.length_append, length_toList] at htot
    have hza : (B acc).size = acc.length := B_size acc
    have hzq : (B q).size = q.length := B_size q
    cases pre with
    | nil =>
      simp only [joinB, List.length_append] at htot
      refine Ev.step (f := fun k => stowagelaw3_CharsBack.l1 k x0 (c.toNat : Int) (P.map B) (B (acc ++ q)) ((([] : List (List UInt8)) ++ [q]).length : Int)) (fun k => ?_) (ih ([] ++ [q]) (acc ++ q) (by rw [h]; rfl) (by rw [← hacc]; simp [joinB]) r hr)
      rw [stowagelaw3_CharsBack.l1, if_pos (by omega), if_neg (by simp), if_pos (by simp), hq, if_pos (by omega), hn, B_append]
    | cons p0 pre =>
      simp only [List.flatMap_cons, List.length_append, List.length_cons] at htot
      have h1 : strOfNums [(c.toNat : Int)] = B [c] := nm_str [c]
      have hz1 : (B [c]).size = 1 := B_size _
      refine Ev.step (f := fun k => stowagelaw3_CharsBack.l1 k x0 (c.toNat : Int) (P.map B) (B (acc ++ c :: q)) (((p0 :: pre) ++ [q]).length : Int)) (fun k => ?_) (ih ((p0 :: pre) ++ [q]) (acc ++ c :: q) (by rw [h]; simp) (by rw [← hacc]; simp) r hr)
      rw [stowagelaw3_CharsBack.l1, if_pos (by rw [hl0]; omega), if_pos (by simp), Option.bind_some, h1, if_pos (by omega), if_pos (by simp; omega), hq, B_append, if_pos (by rw [B_size, hzq]; simp; omega), hn, B_append]
      simp
theorem CharsBackUpto (a0 : ByteArray) (a1 : Bool) (a2 : Int) (h : a0.size ≤ 1048576) (h2 : (Lit.int .u8 a2).wf = true) : ∃ k, stowagelaw3_CharsBack.f k a0 a1 a2 = some true := by
  obtain ⟨c, rfl⟩ := u8_of a2 h2
  have hn : (splitB c [] a0.toList).length ≤ 1048577 := by have := splitB_num c a0.toList []; rw [length_toList] at this; omega
  have hT := s_size a0 a1
  refine Ev.rounds ?_
  refine ev_some (show chars_Escape.f a0 a1 = some (chars_Escape.s a0 a1) by rw [chars_Escape.f, if_pos (by omega)]) ?_
  refine ev_some (show chars_Unescape.f (chars_Escape.s a0 a1) = some (a0, true) by rw [chars_Unescape.f, if_pos (by omega), unesc_back]) ?_
  refine ev_pos rfl ?_
  refine Ev.step (f := fun k => stowagelaw3_CharsBack.l0 k a0 a1 (c.toNat : Int) (chars_Escape.s a0 a1) 0) (fun k => by rw [stowagelaw3_CharsBack.j0, if_neg (by simp)]) ?_
  refine back_l0 a0 a1 (c.toNat : Int) (chars_Escape.s a0 a1) (by omega) _ [] rfl (by have := flat_plain a1 a0.toList; rw [← s_list] at this; exact this) true ?_
  refine Ev.bind (split_ev a0 c (by omega) (by omega)) ?_
  refine back_l1 a0 c h (splitB c [] a0.toList) hn (by rw [join_split]; rfl) (splitB c [] a0.toList) [] [] rfl (by rw [List.nil_append]; exact (join_split c a0.toList []).trans rfl) true ?_
  have hf := fold_ev a0 (by omega)
  have hfl : (foldB true (trimB a0.toList)).length ≤ a0.size := by have h1 := foldB_len (trimB a0.toList) true; have h2 := trimB_len a0.toList; rw [length_toList] at h2; omega
  have htl : (trimB a0.toList).length ≤ a0.size := by have h2 := trimB_len a0.toList; rw [length_toList] at h2; omega
  have hf2 := fold_ev (B (foldB true (trimB a0.toList))) (by rw [B_size]; omega)
  rw [B_toList, fold_two] at hf2
  have ht := trim_ev a0 (by omega)
  have ht2 := trim_ev (B (trimB a0.toList)) (by rw [B_size]; omega)
  rw [B_toList, trimB_two] at ht2
  refine ev_pos rfl (Ev.bind hf (Ev.bind hf2 (Ev.bind hf (ev_pos rfl ?_))))
  refine Ev.bind ht (Ev.bind ht2 (Ev.bind ht (ev_pos rfl ?_)))
  exact Ev.bind awake_ev (Ev.now true)
end Go.Proofs.YtahfaiamonadmaaDoor.Pure
