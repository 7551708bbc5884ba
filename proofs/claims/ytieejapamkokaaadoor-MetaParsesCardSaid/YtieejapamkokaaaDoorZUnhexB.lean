/- A part of the proof of the seat's laws. No condition beyond those in the theorems. -/
import Derived.Test.YtieejapamkokaaaDoorZMetaB
import Derived.Lib.Hide
import Derived.Test.YtieejapamkokaaaDoorZQ59g3
import Derived.Test.YtieejapamkokaaaDoorZQ85g3

namespace Go.Proofs.YtieejapamkokaaaDoor.Pure
open Go.RowKit Go.Proofs.YtieejapamkokaaaDoor.Q Go.Proofs.YtieejapamkokaaaDoorW.PrintWords Go.Proofs.YtieejapamkokaaaDoorW.PrintLast Go.Proofs.YtieejapamkokaaaDoorW.PrintMore
set_option linter.unusedVariables false
set_option linter.unusedSimpArgs false
def hv (c : UInt8) : Option Nat := if 48 ≤ c.toNat ∧ c.toNat ≤ 57 then some (c.toNat - 48) else if 97 ≤ c.toNat ∧ c.toNat ≤ 102 then some (c.toNat - 87) else none
def hvI : Option Nat → Int × Bool | none => (0, false) | some n => ((n : Int), true)
def hvR : Option Nat → Int | none => -1 | some n => (n : Int)
theorem dig_key : ∀ n : Fin 256, enc_digit.f 3 (n.val : Int) = some (hvI (hv (UInt8.ofNat n.val))) := by decide +kernel
theorem dig_ev (c : UInt8) : Ev (fun k => enc_digit.f k (c.toNat : Int)) (hvI (hv c)) := by
  have h := dig_key ⟨c.toNat, c.toNat_lt⟩
  simp only [UInt8.ofNat_toNat] at h
  exact Ev.of (fun k => enc_digit.mono _ k) h
theorem find_key : ∀ n : Fin 256, stowageref1_find.f 20 (⟨#[48, 49, 50, 51, 52, 53, 54, 55, 56, 57, 97, 98, 99, 100, 101, 102]⟩ : ByteArray) (n.val : Int) = some (hvR (hv (UInt8.ofNat n.val))) := by decide +kernel
theorem find_ev (c : UInt8) : Ev (fun k => stowageref1_find.f k (⟨#[48, 49, 50, 51, 52, 53, 54, 55, 56, 57, 97, 98, 99, 100, 101, 102]⟩ : ByteArray) (c.toNat : Int)) (hvR (hv c)) := by
  have h := find_key ⟨c.toNat, c.toNat_lt⟩
  simp only [UInt8.ofNat_toNat] at h
  exact Ev.of (fun k => stowageref1_find.mono _ _ k) h
theorem hv_lt (c : UInt8) (n : Nat) (h : hv c = some n) : n < 16 := by
  unfold hv at h
  split at h
  · have := Option.some.inj h; omega
  · split at h
    · have := Option.some.inj h; omega
    · simp at h
def unB : List UInt8 → Option (List UInt8)
  | a :: b :: l => match hv a, hv b with
    | some x, some y => (unB l).map fun o => (x * 16 + y).toUInt8 :: o
    | _, _ => none
  | _ => some []
def unR : Option (List UInt8) → List Int × Bool | none => ([], false) | some o => (nm o, true)
theorem two_pre (s : ByteArray) (pre l : List UInt8) (a b : UInt8) (h : s.toList = pre ++ a :: b :: l) : bt s (pre.length : Int) = (a.toNat : Int) ∧ bt s ((pre.length : Int) + 1) = (b.toNat : Int) ∧ pre.length + 1 < s.size := by
  obtain ⟨h1, l1⟩ := bt_pre s pre _ a h
  obtain ⟨h2, l2⟩ := bt_pre s (pre ++ [a]) l b (by rw [h]; simp)
  rw [List.length_append, List.length_singleton] at h2 l2
  exact ⟨h1, h2, l2⟩
theorem next2 (pre : List UInt8) (a b : UInt8) (n : Nat) (h : pre.length + 1 < n) (hn : n ≤ 8000000000000000000) : wrap64 ((pre.length : Int) + 2) = ((pre ++ [a, b]).length : Int) := by
  have e : ((pre ++ [a, b]).length : Int) = (pre.length : Int) + 2 := by simp
  rw [e]
  exact w64 (by omega) (by omega)
theorem nib (x y : Nat) (hx : x < 16) (hy : y < 16) : ((x * 16 + y).toUInt8.toNat : Int) = ((x * 16 + y : Nat) : Int) := by
  rw [Nat.toUInt8, UInt8.toNat_ofNat']
  omega
theorem unhex_l0 (s : ByteArray) (hs : s.size ≤ 140737488351232) (f : Nat) : ∀ (l pre acc : List UInt8), l.length ≤ f → s.toList = pre ++ l → l.length % 2 = 0 → acc.length ≤ pre.length →
    Ev (fun k => enc_Unhex.l0 k s (nm acc) (pre.length : Int)) (unR ((unB l).map (acc ++ ·))) := by
  induction f with
  | zero =>
    intro l pre acc hf h _ _
    obtain rfl : l = [] := List.length_eq_zero_iff.mp (by omega)
    have e := pre_end s pre h
    exact Ev.step (f := fun _ => some (nm acc, true)) (fun k => by rw [enc_Unhex.l0, if_neg (by omega)]) (ev_eq (Ev.now _) (by simp [unB, unR]))
  | succ f ih =>
    intro l pre acc hf h h2 ha
    match l with
    | [] =>
      have e := pre_end s pre h
      exact Ev.step (f := fun _ => some (nm acc, true)) (fun k => by rw [enc_Unhex.l0, if_neg (by omega)]) (ev_eq (Ev.now _) (by simp [unB, unR]))
    | [a] => simp at h2
    | a :: b :: l =>
      obtain ⟨ba0, bb0, hl⟩ := two_pre s pre l a b h
      have ba := Lib.hid ba0
      have bb := Lib.hid bb0
      clear ba0 bb0
      have w1 : wrap64 ((pre.length : Int) + 1) = (pre.length : Int) + 1 := w64 (by omega) (by omega)
      have w2 := next2 pre a b s.size hl (by omega)
      refine Ev.step (f := fun k => (enc_digit.f k (a.toNat : Int)).bind fun bt205 => (enc_digit.f k (b.toNat : Int)).bind fun bt207 => (if bt205.2 = true then (if bt207.2 = true then (if (nm acc).length < 140737488355328 then (enc_Unhex.l0 k s (nm acc ++ [Go.bits .or .u8 ((bt205.1 * 16) % 256) bt207.1]) ((pre ++ [a, b]).length : Int)) else (none)) else (some (([] : List Int), false))) else (some (([] : List Int), false)))) (fun k => ?_) (Ev.bind (dig_ev a) (Ev.bind (dig_ev b) ?_))
      · rw [enc_Unhex.l0, if_pos (by omega), if_pos (by omega), ba.out, w1, w2]
        congr 1
        funext t
        rw [if_pos (by omega), if_pos (by omega), bb.out]
      · rw [unB]
        cases hx : hv a with
        | none => exact ev_neg (by decide) (ev_eq (Ev.now _) (by simp [unR]))
        | some x =>
          refine ev_pos rfl ?_
          cases hy : hv b with
          | none => exact ev_neg (by decide) (ev_eq (Ev.now _) (by simp [unR]))
          | some y =>
            have lx := hv_lt a x hx
            have ly := hv_lt b y hy
            refine ev_pos rfl (ev_pos (by rw [nm_len]; omega) ?_)
            have hor : Go.bits .or .u8 (((x : Int) * 16) % 256) (y : Int) = (((x * 16 + y).toUInt8.toNat : Nat) : Int) := by
              rw [nib x y lx ly, show ((x : Int) * 16) % 256 = (x : Int) * 16 by omega]
              have := bits_join .u8 8 (by decide) (fun n h0 h1 => by rw [IntKind.wrap_u8]; omega) 4 ((x : Int) * 16) (y : Int) (by omega) (by omega) (by omega) (by omega) (by omega) (by omega)
              rw [this]
              omega
            simp only [hvI]
            rw [hor, nm_app]
            refine ev_eq (ih l (pre ++ [a, b]) (acc ++ [(x * 16 + y).toUInt8]) (by simp at hf; omega) (by rw [h]; simp) (by simp at h2; omega) (by simp; omega)) ?_
            cases unB l <;> simp
theorem unhex_ev (s : ByteArray) (hs : s.size ≤ 140737488351232) : Ev (fun k => enc_Unhex.f k s) (if s.size % 2 = 1 then ([], false) else unR (unB s.toList)) := by
  have hz := length_toList s
  unfold enc_Unhex.f
  by_cases c : s.size % 2 = 1
  · rw [if_pos c]
    exact ev_pos (by omega) (Ev.now _)
  · rw [if_neg c]
    have e : wrap64 ((s.size : Int) / 2) = ((s.size / 2 : Nat) : Int) := by rw [w64 (by omega) (by omega)]; omega
    rw [e]
    refine ev_neg (by omega) (ev_pos (by omega) (ev_pos (by omega) ?_))
    refine ev_eq (unhex_l0 s hs s.toList.length s.toList [] [] (Nat.le_refl _) rfl (by omega) (Nat.le_refl _)) ?_
    cases unB s.toList <;> simp
theorem runhex_l0 (s : ByteArray) (hs : s.size ≤ 140737488351232) (f : Nat) : ∀ (l pre acc : List UInt8), l.length ≤ f → s.toList = pre ++ l → l.length % 2 = 0 → acc.length ≤ pre.length →
    Ev (fun k => stowageref1_Unhex.l0 k s (nm acc) (pre.length : Int)) (unR ((unB l).map (acc ++ ·))) := by
  induction f with
  | zero =>
    intro l pre acc hf h _ _
    obtain rfl : l = [] := List.length_eq_zero_iff.mp (by omega)
    have e := pre_end s pre h
    exact Ev.step (f := fun _ => some (nm acc, true)) (fun k => by rw [stowageref1_Unhex.l0, if_neg (by omega)]) (ev_eq (Ev.now _) (by simp [unB, unR]))
  | succ f ih =>
    intro l pre acc hf h h2 ha
    match l with
    | [] =>
      have e := pre_end s pre h
      exact Ev.step (f := fun _ => some (nm acc, true)) (fun k => by rw [stowageref1_Unhex.l0, if_neg (by omega)]) (ev_eq (Ev.now _) (by simp [unB, unR]))
    | [a] => simp at h2
    | a :: b :: l =>
      obtain ⟨ba0, bb0, hl⟩ := two_pre s pre l a b h
      have ba := Lib.hid ba0
      have bb := Lib.hid bb0
      clear ba0 bb0
      have w1 : wrap64 ((pre.length : Int) + 1) = (pre.length : Int) + 1 := w64 (by omega) (by omega)
      have w2 := next2 pre a b s.size hl (by omega)
      refine Ev.step (f := fun k => (stowageref1_find.f k (⟨#[48, 49, 50, 51, 52, 53, 54, 55, 56, 57, 97, 98, 99, 100, 101, 102]⟩ : ByteArray) (a.toNat : Int)).bind fun t327 => (stowageref1_find.f k (⟨#[48, 49, 50, 51, 52, 53, 54, 55, 56, 57, 97, 98, 99, 100, 101, 102]⟩ : ByteArray) (b.toNat : Int)).bind fun t328 => (if t327 < 0 then (some (([] : List Int), false)) else (if t328 < 0 then (some (([] : List Int), false)) else (if (nm acc).length < 140737488355328 then (stowageref1_Unhex.l0 k s (nm acc ++ [(wrap64 ((wrap64 (16 * t327)) + t328)) % 256]) ((pre ++ [a, b]).length : Int)) else (none))))) (fun k => ?_) (Ev.bind (find_ev a) (Ev.bind (find_ev b) ?_))
      · rw [stowageref1_Unhex.l0, if_pos (by omega), if_pos (by omega), ba.out, w1, w2]
        congr 1
        funext t
        rw [if_pos (by omega), if_pos (by omega), bb.out]
      · rw [unB]
        cases hx : hv a with
        | none => exact ev_pos (by decide) (ev_eq (Ev.now _) (by simp [unR]))
        | some x =>
          refine ev_neg (by simp only [hvR]; omega) ?_
          cases hy : hv b with
          | none => exact ev_pos (by decide) (ev_eq (Ev.now _) (by simp [unR]))
          | some y =>
            have lx := hv_lt a x hx
            have ly := hv_lt b y hy
            refine ev_neg (by simp only [hvR]; omega) (ev_pos (by rw [nm_len]; omega) ?_)
            have hor : (wrap64 ((wrap64 (16 * (x : Int))) + (y : Int))) % 256 = (((x * 16 + y).toUInt8.toNat : Nat) : Int) := by
              rw [nib x y lx ly, w64 (n := 16 * (x : Int)) (by omega) (by omega), w64 (by omega) (by omega)]
              omega
            simp only [hvR]
            rw [hor, nm_app]
            refine ev_eq (ih l (pre ++ [a, b]) (acc ++ [(x * 16 + y).toUInt8]) (by simp at hf; omega) (by rw [h]; simp) (by simp at h2; omega) (by simp; omega)) ?_
            cases unB l <;> simp
theorem runhex_ev (s : ByteArray) (hs : s.size ≤ 140737488351232) : Ev (fun k => stowageref1_Unhex.f k s) (if s.size % 2 = 1 then ([], false) else unR (unB s.toList)) := by
  have hz := length_toList s
  unfold stowageref1_Unhex.f
  by_cases c : s.size % 2 = 1
  · rw [if_pos c]
    exact ev_neg (by omega) (Ev.now _)
  · rw [if_neg c]
    refine ev_pos (by omega) ?_
    refine ev_eq (runhex_l0 s hs s.toList.length s.toList [] [] (Nat.le_refl _) rfl (by omega) (Nat.le_refl _)) ?_
    cases unB s.toList <;> simp
theorem unB_len (f : Nat) : ∀ l o, l.length ≤ f → unB l = some o → o.length ≤ l.length := by
  induction f with
  | zero =>
    intro l o h hu
    obtain rfl : l = [] := List.length_eq_zero_iff.mp (by omega)
    simp [unB] at hu; subst hu; simp
  | succ f ih =>
    intro l o h hu
    match l with
    | [] => simp [unB] at hu; subst hu; simp
    | [a] => simp [unB] at hu; subst hu; simp
    | a :: b :: l =>
      rw [unB] at hu
      cases hx : hv a with
      | none => rw [hx] at hu; simp at hu
      | some x =>
        cases hy : hv b with
        | none => rw [hx, hy] at hu; simp at hu
        | some y =>
          rw [hx, hy] at hu
          obtain ⟨o', ho', rfl⟩ := Option.map_eq_some_iff.mp hu
          have := ih l o' (by simp at h; omega) ho'
          simp
          omega
end Go.Proofs.YtieejapamkokaaaDoor.Pure
