/- A part of the proof of the seat's laws. No condition beyond those in the theorems. -/
import Derived.Test.YtahfaiamonadmaaDoorZByB
import Derived.Test.YtahfaiamonadmaaDoorZQ40g2
import Derived.Test.YtahfaiamonadmaaDoorZQ42g4
import Derived.Test.YtahfaiamonadmaaDoorZQ46g3
import Derived.Test.YtahfaiamonadmaaDoorZQ12

namespace Go.Proofs.YtahfaiamonadmaaDoor.Pure
open Go.RowKit Go.Proofs.YtahfaiamonadmaaDoor.Q Go.Proofs.YtahfaiamonadmaaDoorW.PrintWords Go.Proofs.YtahfaiamonadmaaDoorW.PrintLast
set_option linter.unusedVariables false
set_option linter.unusedSimpArgs false
theorem bt_pre (s : ByteArray) (pre l : List UInt8) (c : UInt8) (h : s.toList = pre ++ c :: l) : bt s (pre.length : Int) = (c.toNat : Int) ∧ pre.length < s.size := by
  apply bt_drop s pre.length c l
  rw [h, List.drop_left']
  rfl
theorem pre_end (s : ByteArray) (pre : List UInt8) (h : s.toList = pre ++ []) : s.size = pre.length := by rw [← length_toList, h, List.append_nil]
theorem pre_le (s : ByteArray) (pre l : List UInt8) (h : s.toList = pre ++ l) : pre.length + l.length = s.size := by rw [← length_toList, h, List.length_append]
theorem pre_next (pre : List UInt8) (c : UInt8) (n : Nat) (h : pre.length < n) (hn : n ≤ 9000000000000000000) : wrap64 ((pre.length : Int) + 1) = ((pre ++ [c]).length : Int) := by
  rw [w64 (by omega) (by omega), List.length_append]
  simp
theorem pre_app (s : ByteArray) (pre l : List UInt8) (c : UInt8) (h : s.toList = pre ++ c :: l) : s.toList = (pre ++ [c]) ++ l := by rw [h]; simp
def alB (c : UInt8) : Bool := chars_Escape.let (c.toNat : Int)
theorem al_a (c : UInt8) : chars_letter.f (c.toNat : Int) = some (alB c) := chars_Escape.let_eq _
theorem al_b (c : UInt8) : stowageref3_Alnum.f (c.toNat : Int) = some (alB c) := chars_Escape.let_eq _
def tmB (c : UInt8) : Bool := [33, 35, 36, 37, 38, 39, 42, 43, 45, 46, 94, 95, 96, 124, 126].contains c
theorem tm_key : ∀ n : Fin 256, (Lib.indexByte [33, 35, 36, 37, 38, 39, 42, 43, 45, 46, 94, 95, 96, 124, 126] (n.val : Int).toNat.toUInt8 < 0) = ¬ ([33, 35, 36, 37, 38, 39, 42, 43, 45, 46, 94, 95, 96, 124, 126].contains (UInt8.ofNat n.val) = true) := by
  intro n
  rw [eq_iff_iff]
  revert n
  decide +kernel
theorem tm_a {α : Type} (c : UInt8) (a b : Option α) : ((strings_IndexByte.f (⟨#[33, 35, 36, 37, 38, 39, 42, 43, 45, 46, 94, 95, 96, 124, 126]⟩ : ByteArray) (c.toNat : Int)).bind fun t => if t < 0 then a else b) = if tmB c = true then b else a := by
  show (if Lib.indexByte [33, 35, 36, 37, 38, 39, 42, 43, 45, 46, 94, 95, 96, 124, 126] (c.toNat : Int).toNat.toUInt8 < 0 then a else b) = _
  have h := tm_key ⟨c.toNat, c.toNat_lt⟩
  simp only [UInt8.ofNat_toNat] at h
  unfold tmB
  by_cases g : [33, 35, 36, 37, 38, 39, 42, 43, 45, 46, 94, 95, 96, 124, 126].contains c = true
  · rw [if_pos g, if_neg (by rw [h]; exact fun k => k g)]
  · rw [if_neg g, if_pos (by rw [h]; exact g)]
theorem tm_bkey : ∀ n : Fin 256, stowageref3_in.f 20 (⟨#[33, 35, 36, 37, 38, 39, 42, 43, 45, 46, 94, 95, 96, 124, 126]⟩ : ByteArray) (n.val : Int) = some (tmB (UInt8.ofNat n.val)) := by decide +kernel
theorem tm_b (c : UInt8) : Ev (fun k => stowageref3_in.f k (⟨#[33, 35, 36, 37, 38, 39, 42, 43, 45, 46, 94, 95, 96, 124, 126]⟩ : ByteArray) (c.toNat : Int)) (tmB c) := by
  have h := tm_bkey ⟨c.toNat, c.toNat_lt⟩
  simp only [UInt8.ofNat_toNat] at h
  exact Ev.of (fun k => stowageref3_in.mono _ _ k) h
def tokB (c : UInt8) : Bool := alB c || tmB c
theorem token_l0 (s : ByteArray) (hs : s.size ≤ 1000000000000000) (l : List UInt8) : ∀ pre, s.toList = pre ++ l → Ev (fun k => chars_Token.l0 k s (s.size : Int) (pre.length : Int)) (l.all tokB && (s.toList != [])) := by
  induction l with
  | nil =>
    intro pre h
    have e := pre_end s pre h
    exact Ev.step (f := fun _ => some (s.toList != [])) (fun k => by rw [chars_Token.l0, if_neg (by omega)]) (ev_eq (Ev.now _) (by simp))
  | cons c l ih =>
    intro pre h
    obtain ⟨hb, hl⟩ := bt_pre s pre l c h
    have hn := pre_next pre c s.size hl (by omega)
    refine Ev.step (f := fun k => if tokB c = true then chars_Token.l0 k s (s.size : Int) ((pre ++ [c]).length : Int) else some false) (fun k => ?_) ?_
    · rw [chars_Token.l0, if_pos (by omega), if_pos (by omega), if_pos (by omega), hb, al_a, Option.bind_some, hn, tm_a, tokB]
      cases alB c <;> cases tmB c <;> rfl
    · by_cases g : tokB c = true
      · exact ev_pos g (ev_eq (ih _ (pre_app s pre l c h)) (by rw [List.all_cons, g, Bool.true_and]))
      · exact ev_neg g (ev_eq (Ev.now _) (by rw [List.all_cons]; simp [g]))
theorem token_ev (s : ByteArray) (hs : s.size ≤ 1000000000000000) : Ev (fun k => chars_Token.f k s) (s.toList.all tokB && (s.toList != [])) := token_l0 s hs s.toList [] rfl
theorem rtoken_l0 (s : ByteArray) (hs : s.size ≤ 1000000000000000) (l : List UInt8) : ∀ pre, s.toList = pre ++ l → Ev (fun k => stowageref3_Token.l0 k s (pre.length : Int)) (l.all tokB && (s.toList != [])) := by
  induction l with
  | nil =>
    intro pre h
    have e := pre_end s pre h
    refine Ev.step (f := fun _ => some (decide ((s.size : Int) > 0))) (fun k => by rw [stowageref3_Token.l0, if_neg (by omega)]) (ev_eq (Ev.now _) ?_)
    have e2 := length_toList s
    cases hl : s.toList with
    | nil => rw [hl] at e2; simp at e2; simp [← e2]
    | cons a b => rw [hl, List.length_cons] at e2; rw [decide_eq_true (by omega)]; rfl
  | cons c l ih =>
    intro pre h
    obtain ⟨hb, hl⟩ := bt_pre s pre l c h
    have hn := pre_next pre c s.size hl (by omega)
    refine Ev.step (f := fun k => (some (alB c)).bind fun t149 => if t149 = true then stowageref3_Token.l0 k s ((pre ++ [c]).length : Int) else (stowageref3_in.f k (⟨#[33, 35, 36, 37, 38, 39, 42, 43, 45, 46, 94, 95, 96, 124, 126]⟩ : ByteArray) (c.toNat : Int)).bind fun t150 => if t150 = true then stowageref3_Token.l0 k s ((pre ++ [c]).length : Int) else some false) (fun k => ?_) ?_
    · rw [stowageref3_Token.l0, if_pos (by omega), if_pos (by omega), hb, al_b, hn]
    · refine ev_some rfl ?_
      by_cases g : alB c = true
      · exact ev_pos g (ev_eq (ih _ (pre_app s pre l c h)) (by rw [List.all_cons, tokB, g]; simp))
      · refine ev_neg g (Ev.bind (tm_b c) ?_)
        by_cases g2 : tmB c = true
        · exact ev_pos g2 (ev_eq (ih _ (pre_app s pre l c h)) (by rw [List.all_cons, tokB, g2]; simp))
        · exact ev_neg g2 (ev_eq (Ev.now _) (by rw [List.all_cons, tokB]; simp [g, g2]))
theorem rtoken_ev (s : ByteArray) (hs : s.size ≤ 1000000000000000) : Ev (fun k => stowageref3_Token.f k s) (s.toList.all tokB && (s.toList != [])) := rtoken_l0 s hs s.toList [] rfl
def valB (c : UInt8) : Bool := decide ((c.toNat = 9 ∨ 32 ≤ c.toNat) ∧ c.toNat ≠ 127)
theorem value_l0 (s : ByteArray) (hs : s.size ≤ 1000000000000000) (l : List UInt8) : ∀ pre, s.toList = pre ++ l → Ev (fun k => chars_Value.l0 k s (s.size : Int) (pre.length : Int)) (l.all valB) := by
  induction l with
  | nil =>
    intro pre h
    have e := pre_end s pre h
    exact Ev.step (f := fun _ => some true) (fun k => by rw [chars_Value.l0, if_neg (by omega)]) (Ev.now _)
  | cons c l ih =>
    intro pre h
    obtain ⟨hb, hl⟩ := bt_pre s pre l c h
    have hn := pre_next pre c s.size hl (by omega)
    refine Ev.step (f := fun k => if valB c = true then chars_Value.l0 k s (s.size : Int) ((pre ++ [c]).length : Int) else some false) (fun k => ?_) ?_
    · rw [chars_Value.l0, if_pos (by omega), if_pos (by omega), if_pos (by omega), hb, hn]
      by_cases g : valB c = true
      · rw [if_pos g]
        simp only [valB, decide_eq_true_iff] at g
        by_cases g1 : (c.toNat : Int) < 32
        · rw [if_pos g1, if_pos (by omega), if_neg (by omega)]
        · rw [if_neg g1, if_neg (by omega)]
      · rw [if_neg g]
        simp only [valB, decide_eq_true_iff] at g
        by_cases g1 : (c.toNat : Int) < 32
        · rw [if_pos g1, if_neg (by omega)]
        · rw [if_neg g1, if_pos (by omega)]
    · by_cases g : valB c = true
      · exact ev_pos g (ev_eq (ih _ (pre_app s pre l c h)) (by rw [List.all_cons, g, Bool.true_and]))
      · exact ev_neg g (ev_eq (Ev.now _) (by rw [List.all_cons]; simp [g]))
theorem value_ev (s : ByteArray) (hs : s.size ≤ 1000000000000000) : Ev (fun k => chars_Value.f k s) (s.toList.all valB) := value_l0 s hs s.toList [] rfl
theorem rvalue_l0 (s : ByteArray) (hs : s.size ≤ 1000000000000000) (l : List UInt8) : ∀ pre, s.toList = pre ++ l → Ev (fun k => stowageref3_Value.l0 k s (pre.length : Int)) (l.all valB) := by
  induction l with
  | nil =>
    intro pre h
    have e := pre_end s pre h
    exact Ev.step (f := fun _ => some true) (fun k => by rw [stowageref3_Value.l0, if_neg (by omega)]) (Ev.now _)
  | cons c l ih =>
    intro pre h
    obtain ⟨hb, hl⟩ := bt_pre s pre l c h
    have hn := pre_next pre c s.size hl (by omega)
    refine Ev.step (f := fun k => if valB c = true then stowageref3_Value.l0 k s ((pre ++ [c]).length : Int) else some false) (fun k => ?_) ?_
    · rw [stowageref3_Value.l0, if_pos (by omega), if_pos (by omega), hb, hn]
      by_cases g : valB c = true
      · rw [if_pos g]
        simp only [valB, decide_eq_true_iff] at g
        by_cases g1 : (c.toNat : Int) = 9
        · rw [if_pos g1]
        · rw [if_neg g1, if_neg (by omega), if_neg (by omega)]
      · rw [if_neg g]
        simp only [valB, decide_eq_true_iff] at g
        rw [if_neg (by omega)]
        by_cases g1 : (c.toNat : Int) < 32
        · rw [if_pos g1]
        · rw [if_neg g1, if_pos (by omega)]
    · by_cases g : valB c = true
      · exact ev_pos g (ev_eq (ih _ (pre_app s pre l c h)) (by rw [List.all_cons, g, Bool.true_and]))
      · exact ev_neg g (ev_eq (Ev.now _) (by rw [List.all_cons]; simp [g]))
theorem rvalue_ev (s : ByteArray) (hs : s.size ≤ 1000000000000000) : Ev (fun k => stowageref3_Value.f k s) (s.toList.all valB) := rvalue_l0 s hs s.toList [] rfl
end Go.Proofs.YtahfaiamonadmaaDoor.Pure
