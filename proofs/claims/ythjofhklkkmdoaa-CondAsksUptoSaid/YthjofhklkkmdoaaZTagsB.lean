/- A part of the proof of the seat's laws. No condition beyond those in the theorems. -/
import Derived.Test.YthjofhklkkmdoaaZTrimB
import Derived.Test.YthjofhklkkmdoaaZSplitB
import Derived.Test.YthjofhklkkmdoaaZCondRange
import Derived.Test.YthjofhklkkmdoaaZQ7

namespace Go.Proofs.Ythjofhklkkmdoaa.Pure
open Go.RowKit Go.Proofs.Ythjofhklkkmdoaa.Q Go.Proofs.YthjofhklkkmdoaaW.PrintWords Go.Proofs.YthjofhklkkmdoaaW.PrintLast
set_option linter.unusedVariables false
set_option linter.unusedSimpArgs false
def weakB (l : List UInt8) : Bool := l.take 2 == [87, 47]
def strongB (l : List UInt8) : List UInt8 := if weakB l = true then l.drop 2 else l
def quotedB (l : List UInt8) : Bool := decide (1 < l.length) && (l[0]? == some 34) && (l[l.length - 1]? == some 34)
def bareB (l : List UInt8) : List UInt8 := if quotedB l = true then (l.take (l.length - 1)).drop 1 else l
def oneB (l : List UInt8) : List UInt8 := bareB (strongB (trimB l))
def allB : List (List UInt8) → Option (List (List UInt8))
  | [] => some []
  | p :: ps => if oneB p = [] then none else (allB ps).map (oneB p :: ·)
def tagsB (l : List UInt8) : List ByteArray × Bool × Bool :=
  if trimB l = [42] then ([], true, true) else match allB (splitB 44 [] l) with
  | none => ([], false, false)
  | some o => (o.map B, false, true)
theorem strongB_len (l : List UInt8) : (strongB l).length ≤ l.length := by
  rw [strongB]; split
  · rw [List.length_drop]; omega
  · exact Nat.le_refl _
theorem trimPrefix_eq (l : List UInt8) : strings_TrimPrefix.f (B l) ⟨#[87, 47]⟩ = some (B (strongB l)) := by
  have hz : (⟨#[87, 47]⟩ : ByteArray).size = 2 := rfl
  have hp : (⟨#[87, 47]⟩ : ByteArray).toList = [87, 47] := B_toList [87, 47]
  rw [strings_TrimPrefix.f, stringslite_TrimPrefix.f, hasPrefix_eq, Option.bind_some, hasP, hz, B_size, B_extract, B_toList, hp, List.drop_zero, strongB, weakB]
  by_cases c : 2 ≤ l.length
  · rw [decide_eq_true c, Bool.true_and]
    by_cases h : (l.take 2 == [87, 47]) = true
    · rw [if_pos h, if_pos h, if_pos (by omega), if_pos (by omega), Option.bind_some, B_extract, List.take_length]
    · rw [if_neg h, if_neg h, Option.bind_some]
  · rw [decide_eq_false c, Bool.false_and, if_neg (by simp), Option.bind_some, if_neg]
    intro h
    have := congrArg List.length (beq_iff_eq.mp h)
    rw [List.length_take] at this
    simp at this
    omega
theorem tags_piece (k : Nat) (out ps : List ByteArray) (n i : Int) (l : List UInt8) (hl : l.length ≤ 1000000000000000) :
    (if ((B l).size : Int) > 1 then (if 0 < ((B l).size : Int) then (if (bt (B l) 0) = 34 then (if 0 ≤ (wrap64 (((B l).size : Int) - 1)) then (if (wrap64 (((B l).size : Int) - 1)) < ((B l).size : Int) then (cond_Tags.j1 k out (B l) ps n i ((bt (B l) (wrap64 (((B l).size : Int) - 1))) == 34)) else (none)) else (none)) else (cond_Tags.j1 k out (B l) ps n i false)) else (none)) else (cond_Tags.j1 k out (B l) ps n i false)) = cond_Tags.j1 k out (B l) ps n i (quotedB l) := by
  have hz := B_size l
  have h34 : (34 : Int) = ((34 : UInt8).toNat : Int) := rfl
  rw [quotedB]
  by_cases c : 1 < l.length
  · obtain ⟨a, m, rfl⟩ : ∃ a m, l = a :: m := by cases l with | nil => simp at c | cons a m => exact ⟨a, m, rfl⟩
    obtain ⟨z, hz'⟩ : ∃ z, (a :: m)[(a :: m).length - 1]? = some z := ⟨_, List.getElem?_eq_getElem (by omega)⟩
    have h0 : bt (B (a :: m)) 0 = (a.toNat : Int) := bt_B _ 0 a rfl
    have hw : wrap64 (((B (a :: m)).size : Int) - 1) = (((a :: m).length - 1 : Nat) : Int) := by rw [w64 (by omega) (by omega)]; omega
    have h1 := bt_B _ _ z hz'
    have e0 : ((a :: m)[0]? == some 34) = decide (a = 34) := by
      by_cases h : a = 34
      · subst h; rfl
      · rw [decide_eq_false h, beq_eq_false_iff_ne]; intro e; exact h (Option.some.inj e)
    have e1 : (some z == some (34 : UInt8)) = ((z.toNat : Int) == 34) := by
      by_cases h : z = 34
      · subst h; rfl
      · rw [show ((z.toNat : Int) == 34) = false by rw [beq_eq_false_iff_ne]; intro e; exact h (toNat_eq.mp e), beq_eq_false_iff_ne]; intro e; exact h (Option.some.inj e)
    rw [if_pos (by omega), if_pos (by omega), h0, hw, decide_eq_true c, hz', Bool.true_and, e0, e1]
    by_cases h : a = 34
    · rw [if_pos (show (a.toNat : Int) = 34 from toNat_eq.mpr h), if_pos (by omega), if_pos (by omega), h1, decide_eq_true h, Bool.true_and]
    · rw [if_neg (fun q : (a.toNat : Int) = 34 => h (toNat_eq.mp q)), decide_eq_false h, Bool.false_and]
  · rw [if_neg (by omega), decide_eq_false c, Bool.false_and, Bool.false_and]
theorem tags_j1 (l : List UInt8) (hl : l.length ≤ 1000000000000000) (out ps : List ByteArray) (n : Int) (i : Nat) (r : List ByteArray × Bool × Bool) (hi : i < 8796093022208) (ho : out.length < 8796093022208)
    (hr : bareB l ≠ [] → Ev (fun k => cond_Tags.l0 k (out ++ [B (bareB l)]) ps n ((i + 1 : Nat) : Int)) r) :
    Ev (fun k => cond_Tags.j1 k out (B l) ps n i (quotedB l)) (if bareB l = [] then ([], false, false) else r) := by
  have hz := B_size l
  by_cases q : quotedB l = true
  · have c : 1 < l.length := by rw [quotedB, Bool.and_eq_true, Bool.and_eq_true, decide_eq_true_iff] at q; exact q.1.1
    have hw : wrap64 (((B l).size : Int) - 1) = ((l.length - 1 : Nat) : Int) := by rw [w64 (by omega) (by omega)]; omega
    have hb : (B l).extract 1 (l.length - 1) = B (bareB l) := by rw [B_extract, bareB, if_pos q]
    refine Ev.step (f := fun k => if bareB l = [] then some ([], false, false) else cond_Tags.l0 k (out ++ [B (bareB l)]) ps n ((i + 1 : Nat) : Int)) (fun k => ?_) ?_
    · rw [cond_Tags.j1, if_pos q, hw, if_pos (by omega), if_pos (by omega), Int.toNat_natCast, hb, B_toList, if_pos ho, w64 (n := (i : Int) + 1) (by omega) (by omega)]
      rfl
    · by_cases h : bareB l = []
      · rw [if_pos h]; exact ev_pos h (Ev.now _)
      · rw [if_neg h]; exact ev_neg h (hr h)
  · have hb : bareB l = l := by rw [bareB, if_neg q]
    rw [hb] at hr ⊢
    refine Ev.step (f := fun k => if l = [] then some ([], false, false) else cond_Tags.l0 k (out ++ [B l]) ps n ((i + 1 : Nat) : Int)) (fun k => ?_) ?_
    · rw [cond_Tags.j1, if_neg q, B_toList, if_pos ho, w64 (n := (i : Int) + 1) (by omega) (by omega)]
      rfl
    · by_cases h : l = []
      · rw [if_pos h]; exact ev_pos h (Ev.now _)
      · rw [if_neg h]; exact ev_neg h (hr h)
theorem tags_l0 (all : List (List UInt8)) (hall : ∀ p ∈ all, p.length ≤ 1000000000000000) (hn : all.length ≤ 8796093022208) (ps : List (List UInt8)) : ∀ (pre : List (List UInt8)) (out : List ByteArray), all = pre ++ ps → out.length = pre.length →
    Ev (fun k => cond_Tags.l0 k out (all.map B) ((all.map B).length : Int) (pre.length : Int)) (match allB ps with | none => ([], false, false) | some o => (out ++ o.map B, false, true)) := by
  induction ps with
  | nil =>
    intro pre out e ho
    rw [List.append_nil] at e
    refine Ev.step (f := fun _ => some (out, false, true)) (fun k => ?_) (ev_eq (Ev.now _) (by simp [allB]))
    rw [cond_Tags.l0, if_neg (by rw [List.length_map, e]; omega), if_pos (by omega), if_pos (by omega), take_all]
  | cons p ps ih =>
    intro pre out e ho
    have hlen : all.length = pre.length + (ps.length + 1) := by rw [e, List.length_append, List.length_cons]
    have hml : (all.map B).length = all.length := List.length_map _
    have hp : p.length ≤ 1000000000000000 := hall p (by rw [e]; simp)
    have hget : rdOf ByteArray.empty (all.map B) (pre.length : Int) = B p := by
      rw [rdOf]
      simp [e]
    have ht : (trimB p).length ≤ 1000000000000000 := Nat.le_trans (trimB_len p) hp
    have hs : (strongB (trimB p)).length ≤ 1000000000000000 := Nat.le_trans (strongB_len _) ht
    have hev : Ev (fun k => chars_Trim.f k (B p)) (B (trimB p)) := by
      have := trim_ev (B p) (by rw [B_size]; exact hp)
      rwa [B_toList] at this
    have q := tags_j1 (strongB (trimB p)) hs out (all.map B) ((all.map B).length : Int) pre.length (match allB ps with | none => ([], false, false) | some o => ((out ++ [B (oneB p)]) ++ o.map B, false, true)) (by omega) (by omega) (fun _ => by
      have := ih (pre ++ [p]) (out ++ [B (oneB p)]) (by rw [e]; simp) (by simp [ho])
      rw [show (pre ++ [p]).length = pre.length + 1 by simp] at this
      exact this)
    refine Ev.step (f := fun k => _) (fun k => by rw [cond_Tags.l0, if_pos (by omega), if_pos (by omega), if_pos (by omega), hget]) ?_
    · refine Ev.bind hev (ev_some (trimPrefix_eq _) (Ev.congr (fun k => tags_piece k out (all.map B) _ _ _ hs) (ev_eq q ?_)))
      show (if oneB p = [] then _ else _) = _
      rw [allB]
      by_cases h : oneB p = []
      · rw [if_pos h, if_pos h]
      · rw [if_neg h, if_neg h]
        cases allB ps with
        | none => rfl
        | some o => simp
theorem splitB_len (c : UInt8) (l : List UInt8) : ∀ cur, (splitB c cur l).length ≤ l.length + 1 ∧ ∀ p ∈ splitB c cur l, p.length ≤ cur.length + l.length := by
  induction l with
  | nil => intro cur; exact ⟨Nat.le_refl _, fun p hp => by rw [splitB, List.mem_singleton] at hp; subst hp; exact Nat.le_add_right _ _⟩
  | cons b l ih =>
    intro cur
    rw [splitB]
    split
    · obtain ⟨h1, h2⟩ := ih []
      refine ⟨by rw [List.length_cons, List.length_cons]; omega, fun p hp => ?_⟩
      rcases List.mem_cons.mp hp with h | h
      · subst h; omega
      · have := h2 p h; rw [List.length_nil] at this; rw [List.length_cons]; omega
    · obtain ⟨h1, h2⟩ := ih (cur ++ [b])
      refine ⟨by rw [List.length_cons]; omega, fun p hp => ?_⟩
      have := h2 p hp
      rw [List.length_append, List.length_singleton] at this
      rw [List.length_cons]; omega
theorem tags_ev (s : ByteArray) (hs : s.size ≤ 1000000000000000) (hn : (splitB 44 [] s.toList).length ≤ 8796093022208) : Ev (fun k => cond_Tags.f k s) (tagsB s.toList) := by
  have hsl := length_toList s
  simp only [cond_Tags.f, tagsB]
  refine Ev.bind (trim_ev s (by omega)) ?_
  rw [B_toList]
  by_cases h : trimB s.toList = [42]
  · rw [if_pos h]; exact ev_pos h (Ev.now _)
  · rw [if_neg h]
    refine ev_neg h (Ev.bind (split_ev s 44 hs hn) ?_)
    obtain ⟨h1, h2⟩ := splitB_len 44 s.toList []
    have := tags_l0 (splitB 44 [] s.toList) (fun p hp => by have := h2 p hp; rw [List.length_nil] at this; omega) hn (splitB 44 [] s.toList) [] [] rfl rfl
    exact this
end Go.Proofs.Ythjofhklkkmdoaa.Pure
