/- A part of the proof of the seat's laws. No condition beyond those in the theorems. -/
import Derived.Test.YtahfaiamonadmaaDoorZQ0g2
import Derived.Lib.Hide
import Derived.Lib.OthersKept

namespace Go.Proofs.YtahfaiamonadmaaDoor.Q
open Go.RowKit Go.Proofs.YtahfaiamonadmaaDoorW.PrintWords Go.Proofs.YtahfaiamonadmaaDoorW.PrintLast Go.Proofs.YtahfaiamonadmaaDoorW.PrintMore
set_option linter.unusedVariables false
set_option linter.unusedSimpArgs false
attribute [local go_sem] max2_int min2_int max_two min_two max_three min_three max_four min_four   
def stringslite_HasPrefix.f (a0 : ByteArray) (a1 : ByteArray) : Option (Bool) := if (a0.size : Int) ≥ (a1.size : Int) then (if 0 ≤ (a1.size : Int) then (if (a1.size : Int) ≤ (a0.size : Int) then (some ((a0.extract 0 a1.size).toList == a1.toList)) else (none)) else (none)) else (some false)
set_option maxHeartbeats 8000000 in
set_option maxRecDepth 100000 in
theorem stringslite_HasPrefix.calls (a0 : ByteArray) (a1 : ByteArray) (r : Bool) (w : World) (h : stringslite_HasPrefix.f a0 a1 = some r) :
  Calls Tryd.prog 56 #[.string a0, .string a1] w fun e w' => e = .returned (.bool r) ∧ Drawn0 w w' := by
 unfold stringslite_HasPrefix.f at h
 have H := h
 clear h
 replace H := itO H
 rcases H with ⟨c3, H⟩ | ⟨c3, H⟩
 ·skip
  have c3b0 : decide ((a1.size : Int) ≤ (a0.size : Int)) = true := decide_eq_true c3
  have c3b1 : decide (a1.size ≤ a0.size) = true := decide_eq_true (Int.ofNat_le.mp c3)
  clear c3
  replace H := itO H
  rcases H with ⟨c4, H⟩ | ⟨c4, H⟩
  ·skip
   have c4b0 := eq_true c4
   have c4b1 := decide_eq_true c4
   clear c4
   replace H := itO H
   rcases H with ⟨c5, H⟩ | ⟨c5, H⟩
   ·skip
    have c5b0 := eq_true c5
    have c5b1 := decide_eq_true c5
    clear c5
    obtain rfl := Option.some.inj H
    go_enter Tryd.func56, Tryd.ntmps56
    go_wp2
    go_ret
    exact ⟨by first | rfl | (simp; done) | (simp [*]; done), by repeat (first | exact Drawn0.refl _ | apply Drawn0.step)⟩
   ·exact absurd H (by simp)
  ·exact absurd H (by simp)
 ·skip
  have c3b0 : decide ((a1.size : Int) ≤ (a0.size : Int)) = false := decide_eq_false c3
  have c3b1 : decide (a1.size ≤ a0.size) = false := decide_eq_false (fun h => c3 (Int.ofNat_le.mpr h))
  clear c3
  obtain rfl := Option.some.inj H
  go_enter Tryd.func56, Tryd.ntmps56
  go_wp2
  go_ret
  exact ⟨by first | rfl | (simp; done) | (simp [*]; done), by repeat (first | exact Drawn0.refl _ | apply Drawn0.step)⟩
end Go.Proofs.YtahfaiamonadmaaDoor.Q


namespace Go.Proofs.YtahfaiamonadmaaDoor.Q
open Go.RowKit Go.Proofs.YtahfaiamonadmaaDoorW.PrintWords Go.Proofs.YtahfaiamonadmaaDoorW.PrintLast Go.Proofs.YtahfaiamonadmaaDoorW.PrintMore
set_option linter.unusedVariables false
set_option linter.unusedSimpArgs false
attribute [local go_sem] max2_int min2_int max_two min_two max_three min_three max_four min_four   
def strings_HasPrefix.f (a0 : ByteArray) (a1 : ByteArray) : Option (Bool) := (stringslite_HasPrefix.f a0 a1).bind fun t135 => (some t135)
set_option maxHeartbeats 8000000 in
set_option maxRecDepth 100000 in
theorem strings_HasPrefix.calls (a0 : ByteArray) (a1 : ByteArray) (r : Bool) (w : World) (h : strings_HasPrefix.f a0 a1 = some r) :
  Calls Tryd.prog 49 #[.string a0, .string a1] w fun e w' => e = .returned (.bool r) ∧ Drawn0 w w' := by
 unfold strings_HasPrefix.f at h
 have H := h
 clear h
 replace H := bndO H
 obtain ⟨t135, A30, H⟩ := H
 have A3 := Aside0.mk A30
 clear A30
 obtain rfl := Option.some.inj H
 go_enter Tryd.func49, Tryd.ntmps49
 go_wp2_with (first | ((with_reducible refine gate_callee (f := 56) rfl ?_); refine goesL_ (some 7) rfl rfl Tryd.func56 (by kernel_rfl) rfl #[.string a0, .string a1] rfl (by (try simp only [List.map_toArray, List.map_cons, List.map_nil]); first | done | rfl | (simp only [List.length_drop, List.length_take]; rfl)) ?_; (with_reducible refine (stringslite_HasPrefix.calls a0 a1 t135 _ A3.out).mono ?_); rintro e w' ⟨rfl, ⟨nd, rfl⟩⟩; refine ⟨_, rfl, ?_⟩))
 go_ret
 exact ⟨by first | rfl | (simp; done) | (simp [*]; done), by repeat (first | exact Drawn0.refl _ | apply Drawn0.step)⟩
end Go.Proofs.YtahfaiamonadmaaDoor.Q


namespace Go.Proofs.YtahfaiamonadmaaDoor.Q
open Go.RowKit Go.Proofs.YtahfaiamonadmaaDoorW.PrintWords Go.Proofs.YtahfaiamonadmaaDoorW.PrintLast Go.Proofs.YtahfaiamonadmaaDoorW.PrintMore
set_option linter.unusedVariables false
set_option linter.unusedSimpArgs false
attribute [local go_sem] max2_int min2_int max_two min_two max_three min_three max_four min_four   
def chars_Count.own (s : ByteArray) (pos : Nat) : Bool := decide (3 ≤ s.size - pos) && ((s.extract pos s.size).extract 0 3).toList == [239, 191, 189]
def chars_Count.g (s : ByteArray) : Nat → Nat → Int → Int × Bool
 | 0, _, n => (n, true)
 | k + 1, pos, n => if pos < s.size then (if (Utf8.decode s pos).1 = 65533 ∧ chars_Count.own s pos = false then (0, false) else chars_Count.g s k (pos + (Utf8.decode s pos).2) (n + 1)) else (n, true)
def chars_Count.f (a0 : ByteArray) : Option (Int × Bool) := if a0.size ≤ 9007199254740992 then some (chars_Count.g a0 a0.size 0 0) else none
theorem chars_Count.width_pos (s : ByteArray) (pos : Nat) (h : pos < s.size) : 1 ≤ (Utf8.decode s pos).2 := by
 by_cases ha : (s[pos]'h).toNat < 128
 ·rw [decode_ascii s pos h ha]
  exact Nat.le_refl _
 ·exact (decode_high s pos h (by omega)).2
theorem chars_Count.own_eq (s : ByteArray) (pos : Nat) (h : s.size ≤ 9007199254740992) : strings_HasPrefix.f (s.extract pos s.size) ⟨#[239, 191, 189]⟩ = some (chars_Count.own s pos) := by
 have hz : (s.extract pos s.size).size = s.size - pos := by simp
 have h3 : (⟨#[239, 191, 189]⟩ : ByteArray).size = 3 := rfl
 have hl : (⟨#[239, 191, 189]⟩ : ByteArray).toList = [239, 191, 189] := by rw [ByteArray.toList_eq]
 unfold strings_HasPrefix.f stringslite_HasPrefix.f chars_Count.own
 rw [hz, h3, hl]
 by_cases c : 3 ≤ s.size - pos
 ·rw [if_pos (by omega), if_pos (by omega), if_pos (by omega), decide_eq_true c]
  rfl
 ·rw [if_neg (by omega)]
  simp [c]
theorem chars_Count.g_bad (s : ByteArray) (k pos : Nat) (n : Int) (h : pos < s.size) (hd : (Utf8.decode s pos).1 = 65533) (ho : chars_Count.own s pos = false) : chars_Count.g s (k + 1) pos n = (0, false) := by
 rw [chars_Count.g, if_pos h, if_pos ⟨hd, ho⟩]
theorem chars_Count.g_on (s : ByteArray) (k pos : Nat) (n : Int) (h : pos < s.size) (hd : ¬ ((Utf8.decode s pos).1 = 65533 ∧ chars_Count.own s pos = false)) : chars_Count.g s (k + 1) pos n = chars_Count.g s k (pos + (Utf8.decode s pos).2) (n + 1) := by
 rw [chars_Count.g, if_pos h, if_neg hd]
theorem chars_Count.g_end (s : ByteArray) (k pos : Nat) (n : Int) (h : ¬ pos < s.size) : chars_Count.g s k pos n = (n, true) := by
 cases k with
 | zero => rfl
 | succ k => rw [chars_Count.g, if_neg h]
set_option maxHeartbeats 4000000 in
set_option maxRecDepth 100000 in
theorem chars_Count.calls (a0 : ByteArray) (r1 : Int) (r2 : Bool) (w : World) (h : chars_Count.f a0 = some (r1, r2)) :
  Calls Tryd.prog 21 #[.string a0] w fun e w' => e = .returned (.tuple #[.int .i64 r1, .bool r2]) ∧ Below w.heap.size w w' := by
 unfold chars_Count.f at h
 have hs : a0.size ≤ 9007199254740992 := by
  by_cases c : a0.size ≤ 9007199254740992
  ·exact c
  ·simp [c] at h
 rw [if_pos hs] at h
 have hR := Lib.hid (Option.some.inj h)
 clear h
 go_enter Tryd.func21, Tryd.ntmps21
 go_wp2
 go_loopw [4] (fun i wr => ∃ (pos fuel : Nat) (n : Nat), i = .int .i64 n ∧ Hid (wr.heap[w.heap.size]? = some (.stringIter a0 pos) ∧ Below w.heap.size w wr ∧ chars_Count.g a0 fuel pos n = (r1, r2) ∧ a0.size ≤ pos + fuel ∧ n ≤ pos)) (fun _ wr => a0.size - wr.iterPos w.heap.size)
 case atStart =>
  refine ⟨0, a0.size, 0, rfl, Lib.hid ⟨?_, (Below.refl _ w).alloc (Nat.le_refl _) _, hR.out, by omega, Nat.le_refl _⟩⟩
  exact World.iter_heap w a0 0
 case round =>
  obtain ⟨pos, fuel, n, rfl, hI⟩ := hrel
  by_cases hp : pos < a0.size
  ·have hit := hI.out.1
   have hnx : ∀ ty, (Instr.next (.pointer (some ⟨w.heap.size, 0, none⟩)) true ty).run Tryd.prog wr = _ := fun ty => Lib.run_next_any_at wr w.heap.size a0 pos ty hit hp
   have hwd := chars_Count.width_pos a0 pos hp
   have hB2 := Lib.below_iterAt hI.out.2.1 (k := w.heap.size) (Nat.le_refl _) a0 (pos + (Utf8.decode a0 pos).2)
   have hit2 := Lib.iterAt_heap wr w.heap.size a0 pos (pos + (Utf8.decode a0 pos).2) hit
   obtain ⟨W2, hW2⟩ : ∃ W2, wr.iterAt w.heap.size a0 (pos + (Utf8.decode a0 pos).2) = W2 := ⟨_, rfl⟩
   rw [hW2] at hB2 hit2
   simp only [hW2] at hnx
   obtain ⟨f, rfl⟩ : ∃ f, fuel = f + 1 := ⟨fuel - 1, by have := hI.out.2.2.2.1; omega⟩
   have hn : n ≤ 9007199254740992 := by have := hI.out.2.2.2.2; omega
   have hmeas : a0.size - W2.iterPos w.heap.size < a0.size - wr.iterPos w.heap.size := by simp only [World.iterPos, hit2, hit]; omega
   have hpos := Lib.hid (And.intro hp hwd)
   have hkeep := Lib.hid (And.intro hB2 (And.intro hit2 hmeas))
   have hfr : Hid (a0.size ≤ pos + (f + 1)) := Lib.hid hI.out.2.2.2.1
   have hpl : pos ≤ a0.size := by omega
   clear hW2 hB2 hit2 hmeas hwd hit
   by_cases hd : (Utf8.decode a0 pos).1 = 65533
   ·have hdb : (((Utf8.decode a0 pos).1 : Int) == 65533) = true := by rw [hd]; rfl
    obtain ⟨o, ho⟩ : ∃ o, chars_Count.own a0 pos = o := ⟨_, rfl⟩
    have hown := Lib.hid (chars_Count.own_eq a0 pos hs)
    rw [ho] at hown
    have hd' := Lib.hid hd
    have ho' := Lib.hid ho
    clear hd ho hp
    cases o
    ·go_wp2_with (go_at_call 49; refine (strings_HasPrefix.calls _ _ false _ hown.out).mono ?_; rintro e w9 ⟨rfl, ⟨⟨nd, rfl⟩⟩⟩)
     go_ret2
     have hr := (chars_Count.g_bad a0 f pos n hpos.out.1 hd'.out ho'.out).symm.trans hI.out.2.2.1
     obtain ⟨rfl, rfl⟩ := Prod.mk.inj hr
     exact ⟨rfl, pw_below_drewN hkeep.out.1 _⟩
    ·go_wp2_with (go_at_call 49; refine (strings_HasPrefix.calls _ _ true _ hown.out).mono ?_; rintro e w9 ⟨rfl, ⟨⟨nd, rfl⟩⟩⟩)
     go_roundw
     case rel => exact ⟨pos + (Utf8.decode a0 pos).2, f, n + 1, by go_num, Lib.hid ⟨hkeep.out.2.1, pw_below_drewN hkeep.out.1 _, by have h_ := (chars_Count.g_on a0 f pos n hpos.out.1 (by rw [ho'.out]; simp)).symm.trans hI.out.2.2.1; simpa using h_, by have := hfr.out; have := hpos.out.2; omega, by have := hpos.out.2; have := hI.out.2.2.2.2; omega⟩⟩
     case measure => exact hkeep.out.2.2
   ·have hdb : (((Utf8.decode a0 pos).1 : Int) == 65533) = false := by
     rw [beq_eq_false_iff_ne]; intro h_; exact hd (by omega)
    have hd' := Lib.hid hd
    clear hd hp
    go_wp2
    go_roundw
    case rel => exact ⟨pos + (Utf8.decode a0 pos).2, f, n + 1, by go_num, Lib.hid ⟨hkeep.out.2.1, hkeep.out.1, by have h_ := (chars_Count.g_on a0 f pos n hpos.out.1 (fun h9 => hd'.out h9.1)).symm.trans hI.out.2.2.1; simpa using h_, by have := hfr.out; have := hpos.out.2; omega, by have := hpos.out.2; have := hI.out.2.2.2.2; omega⟩⟩
    case measure => exact hkeep.out.2.2
  ·have hnx : ∀ ty, (Instr.next (.pointer (some ⟨w.heap.size, 0, none⟩)) true ty).run Tryd.prog wr = _ := fun ty => Lib.run_next_end_at wr w.heap.size a0 pos ty hI.out.1 hp
   have hr := Lib.hid ((chars_Count.g_end a0 fuel pos n hp).symm.trans hI.out.2.2.1)
   go_wp2
   go_ret2
   obtain ⟨rfl, rfl⟩ := Prod.mk.inj hr.out
   exact ⟨rfl, hI.out.2.1⟩
end Go.Proofs.YtahfaiamonadmaaDoor.Q
