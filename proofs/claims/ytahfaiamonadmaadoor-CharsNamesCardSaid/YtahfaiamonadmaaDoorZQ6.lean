/- A part of the proof of the seat's laws. No condition beyond those in the theorems. -/
import Derived.Test.YtahfaiamonadmaaDoorZBld
import Derived.Laws.BitsLemmas
import Derived.Lib.Hide
import Derived.Test.YtahfaiamonadmaaDoorZQ0g2

namespace Go.Proofs.YtahfaiamonadmaaDoor.Q
open Go.RowKit Go.Proofs.YtahfaiamonadmaaDoorW.PrintWords Go.Proofs.YtahfaiamonadmaaDoorW.PrintLast Go.Proofs.YtahfaiamonadmaaDoorW.PrintMore
set_option linter.unusedVariables false
set_option linter.unusedSimpArgs false
attribute [local go_sem] max2_int min2_int max_two min_two max_three min_three max_four min_four   
def chars_Unescape.dig (c : Int) : Int × Bool := if 48 ≤ c ∧ c ≤ 57 then (c - 48, true) else if 97 ≤ c ∧ c ≤ 102 then (c - 87, true) else if 65 ≤ c ∧ c ≤ 70 then (c - 55, true) else (0, false)
theorem chars_Unescape.dig_eq (c : Int) (h0 : 0 ≤ c) (h1 : c ≤ 255) : chars_digit.f 3 c = some ((chars_Unescape.dig c).1, (chars_Unescape.dig c).2) := by
 obtain ⟨n, rfl⟩ := Int.eq_ofNat_of_zero_le h0
 have key : ∀ n : Fin 256, chars_digit.f 3 (n.val : Int) = some ((chars_Unescape.dig (n.val : Int)).1, (chars_Unescape.dig (n.val : Int)).2) := by decide +kernel
 exact key ⟨n, by omega⟩
theorem chars_Unescape.dig_range (c : Int) : 0 ≤ (chars_Unescape.dig c).1 ∧ (chars_Unescape.dig c).1 ≤ 15 := by
 unfold chars_Unescape.dig
 (repeat' split) <;> (simp only []; omega)
def chars_Unescape.g (s : ByteArray) : Nat → Nat → List UInt8 → ByteArray × Bool
 | 0, _, acc => (⟨acc.toArray⟩, true)
 | k + 1, pos, acc =>
  if pos < s.size then
   (if bt s pos = 37 then
    (if s.size ≤ pos + 2 then (⟨#[]⟩, false)
    else if ((chars_Unescape.dig (bt s (pos + 1))).2 && (chars_Unescape.dig (bt s (pos + 2))).2) = true then chars_Unescape.g s k (pos + 3) (acc ++ [((chars_Unescape.dig (bt s (pos + 1))).1 * 16 + (chars_Unescape.dig (bt s (pos + 2))).1).toNat.toUInt8])
    else (⟨#[]⟩, false))
   else chars_Unescape.g s k (pos + 1) (acc ++ [(bt s pos).toNat.toUInt8]))
  else (⟨acc.toArray⟩, true)
def chars_Unescape.f (a0 : ByteArray) : Option (ByteArray × Bool) := if a0.size ≤ 140737488351232 then some (chars_Unescape.g a0 a0.size 0 []) else none
theorem chars_Unescape.one (c : Int) (h0 : 0 ≤ c) (h1 : c ≤ 255) : Lib.byteCells [c.toNat.toUInt8] = [.int .u8 c] := by
 have : (c.toNat.toUInt8.toNat : Int) = c := by
  rw [Nat.toUInt8, UInt8.toNat_ofNat']
  omega
 rw [Lib.byteCells, List.map_cons, List.map_nil, this]
theorem chars_Unescape.g_end (s : ByteArray) (k pos : Nat) (acc : List UInt8) (h : ¬ pos < s.size) : chars_Unescape.g s k pos acc = (⟨acc.toArray⟩, true) := by
 cases k with
 | zero => rfl
 | succ k => rw [chars_Unescape.g, if_neg h]
theorem chars_Unescape.g_plain (s : ByteArray) (k pos : Nat) (acc : List UInt8) (h : pos < s.size) (hc : ¬ bt s pos = 37) : chars_Unescape.g s (k + 1) pos acc = chars_Unescape.g s k (pos + 1) (acc ++ [(bt s pos).toNat.toUInt8]) := by
 rw [chars_Unescape.g, if_pos h, if_neg hc]
theorem chars_Unescape.g_short (s : ByteArray) (k pos : Nat) (acc : List UInt8) (h : pos < s.size) (hc : bt s pos = 37) (hs : s.size ≤ pos + 2) : chars_Unescape.g s (k + 1) pos acc = (⟨#[]⟩, false) := by
 rw [chars_Unescape.g, if_pos h, if_pos hc, if_pos hs]
theorem chars_Unescape.g_bad (s : ByteArray) (k pos : Nat) (acc : List UInt8) (h : pos < s.size) (hc : bt s pos = 37) (hs : ¬ s.size ≤ pos + 2) (hd : ((chars_Unescape.dig (bt s (pos + 1))).2 && (chars_Unescape.dig (bt s (pos + 2))).2) = false) : chars_Unescape.g s (k + 1) pos acc = (⟨#[]⟩, false) := by
 rw [chars_Unescape.g, if_pos h, if_pos hc, if_neg hs, if_neg (by rw [hd]; decide)]
theorem chars_Unescape.g_esc (s : ByteArray) (k pos : Nat) (acc : List UInt8) (h : pos < s.size) (hc : bt s pos = 37) (hs : ¬ s.size ≤ pos + 2) (hd : ((chars_Unescape.dig (bt s (pos + 1))).2 && (chars_Unescape.dig (bt s (pos + 2))).2) = true) : chars_Unescape.g s (k + 1) pos acc = chars_Unescape.g s k (pos + 3) (acc ++ [((chars_Unescape.dig (bt s (pos + 1))).1 * 16 + (chars_Unescape.dig (bt s (pos + 2))).1).toNat.toUInt8]) := by
 rw [chars_Unescape.g, if_pos h, if_pos hc, if_neg hs, if_pos hd]
set_option maxHeartbeats 4000000 in
set_option maxRecDepth 100000 in
theorem chars_Unescape.calls (a0 : ByteArray) (r1 : ByteArray) (r2 : Bool) (w : World) (h : chars_Unescape.f a0 = some (r1, r2)) :
  Calls Tryd.prog 9 #[.string a0] w fun e w' => e = .returned (.tuple #[.string r1, .bool r2]) ∧ Below w.heap.size w w' := by
 unfold chars_Unescape.f at h
 have hs : a0.size ≤ 140737488351232 := by
  by_cases c : a0.size ≤ 140737488351232
  ·exact c
  ·simp [c] at h
 rw [if_pos hs] at h
 have hR := Lib.hid (Option.some.inj h)
 clear h
 go_enter Tryd.func9, Tryd.ntmps9
 go_wp2
 go_loopw [5] (fun i wr => ∃ (k fuel : Nat) (acc : List UInt8), k ≤ a0.size ∧ i = .int .i64 k ∧ Hid (Lib.IsBuilderF 40 5 w.heap.size w.heap.size (Lib.byteCells acc) wr ∧ Below w.heap.size w wr ∧ chars_Unescape.g a0 fuel k acc = (r1, r2) ∧ a0.size ≤ k + fuel ∧ acc.length ≤ k)) (fun i _ => a0.size - (intOf i).toNat)
 case atStart => exact ⟨0, a0.size, [], Nat.zero_le _, rfl, Lib.hid ⟨Bld.fresh w, (Below.refl _ w).alloc (Nat.le_refl _) _, hR.out, by omega, Nat.le_refl _⟩⟩
 case round =>
  obtain ⟨k, fuel, acc, hk, rfl, hI⟩ := hrel
  by_cases hlt : k < a0.size
  ·obtain ⟨fu, rfl⟩ : ∃ f, fuel = f + 1 := ⟨fuel - 1, by have := hI.out.2.2.2.1; omega⟩
   obtain ⟨c, hc⟩ : ∃ c, bt a0 k = c := ⟨_, rfl⟩
   have hc0 : 0 ≤ c := by rw [← hc]; exact (bt_range a0 k).1
   have hc1 : c ≤ 255 := by rw [← hc]; exact (bt_range a0 k).2
   have hx := bt_at a0 (k : Int)
   rw [hc, Int.toNat_natCast] at hx
   have hfu := Lib.hid hI.out.2.2.2.1
   have hal := Lib.hid hI.out.2.2.2.2
   have hsz := Lib.hid hI.out.2.1.size
   have hlt' := Lib.hid hlt
   have hc' := Lib.hid hc
   clear hc
   by_cases h37 : c = 37
   ·have h37' := Lib.hid h37
    subst h37
    by_cases hsh : a0.size ≤ k + 2
    ·have hsh' := Lib.hid hsh
     go_wp2
     go_ret2
     obtain ⟨rfl, rfl⟩ := Prod.mk.inj ((chars_Unescape.g_short a0 fu k acc hlt'.out hc'.out hsh'.out).symm.trans hI.out.2.2.1)
     exact ⟨rfl, hI.out.2.1⟩
    ·obtain ⟨x, hxx⟩ : ∃ c, bt a0 ((k : Int) + 1) = c := ⟨_, rfl⟩
     obtain ⟨y, hyy⟩ : ∃ c, bt a0 ((k : Int) + 2) = c := ⟨_, rfl⟩
     have hx0 := (bt_range a0 ((k : Int) + 1))
     have hy0 := (bt_range a0 ((k : Int) + 2))
     rw [hxx] at hx0
     rw [hyy] at hy0
     have hx1 := bt_at a0 ((k : Int) + 1)
     have hy1 := bt_at a0 ((k : Int) + 2)
     rw [hxx] at hx1
     rw [hyy] at hy1
     have tx : ((k : Int) + 1).toNat = k + 1 := by omega
     have ty : ((k : Int) + 2).toNat = k + 2 := by omega
     rw [tx] at hx1
     rw [ty] at hy1
     obtain ⟨dx, hdx⟩ : ∃ d, chars_Unescape.dig x = d := ⟨_, rfl⟩
     obtain ⟨dy, hdy⟩ : ∃ d, chars_Unescape.dig y = d := ⟨_, rfl⟩
     have ex := chars_Unescape.dig_eq x hx0.1 hx0.2
     have ey := chars_Unescape.dig_eq y hy0.1 hy0.2
     have rx := chars_Unescape.dig_range x
     have ry := chars_Unescape.dig_range y
     rw [hdx] at ex rx
     rw [hdy] at ey ry
     obtain ⟨vx, ox⟩ := dx
     obtain ⟨vy, oy⟩ := dy
     simp only at ex ey rx ry
     have ex' := Lib.hid ex
     have ey' := Lib.hid ey
     have hsh' := Lib.hid hsh
     have hd2 := Lib.hid (show ((chars_Unescape.dig (bt a0 ((k : Int) + 1))).2 && (chars_Unescape.dig (bt a0 ((k : Int) + 2))).2) = (ox && oy) from by rw [hxx, hyy, hdx, hdy])
     have hv2 := Lib.hid (show ((chars_Unescape.dig (bt a0 ((k : Int) + 1))).1 * 16 + (chars_Unescape.dig (bt a0 ((k : Int) + 2))).1) = vx * 16 + vy from by rw [hxx, hyy, hdx, hdy])
     clear ex ey hdx hdy hxx hyy
     obtain ⟨rx0, rx1⟩ := rx
     obtain ⟨ry0, ry1⟩ := ry
     obtain ⟨hx00, hx01⟩ := hx0
     obtain ⟨hy00, hy01⟩ := hy0
     have hor : bits .or .u8 (vx * 16) vy = vx * 16 + vy := bits_join .u8 8 (by decide) (fun n h0 h1 => by rw [IntKind.wrap_u8]; omega) 4 _ _ (by omega) (by omega) (by omega) ry0 (by omega) (by omega)
     by_cases hok : (ox && oy) = true
     ·have hd3 := Lib.hid (hd2.out.trans hok)
      obtain ⟨rfl, rfl⟩ : ox = true ∧ oy = true := by simpa using hok
      clear hok
      go_wp2_with (first | (go_at_call 37; (with_reducible refine (chars_digit.calls 3 x vx _ _ ex'.out).mono ?_); rintro e w9 ⟨rfl, ⟨⟨nd, rfl⟩⟩⟩) | (go_at_call 37; (with_reducible refine (chars_digit.calls 3 y vy _ _ ey'.out).mono ?_); rintro e w9 ⟨rfl, ⟨⟨nd2, rfl⟩⟩⟩))
      refine (Bld.WriteByte w.heap.size w.heap.size _ (vx * 16 + vy) _ (by first | exact Bld.IsB_drewN hI.out.1 _ | exact Bld.IsB_drewN (Bld.IsB_drewN hI.out.1 _) _) (by rw [Lib.byteCells_length]; have := hal.out; omega) (by simpa using hsz.out)).mono ?_
      rintro e w9 ⟨rfl, h9, b9, _⟩
      have h9' := Lib.hid h9
      have b9' := Lib.hid (show Below w.heap.size w w9 from by first | exact (pw_below_drewN hI.out.2.1 _).trans b9 | exact (pw_below_drewN (pw_below_drewN hI.out.2.1 _) _).trans b9)
      clear h9 b9
      go_wp2
      go_roundw
      case rel => exact ⟨k + 3, fu, acc ++ [(vx * 16 + vy).toNat.toUInt8], by omega, by go_num, Lib.hid ⟨by rw [Lib.byteCells_append, chars_Unescape.one _ (by omega) (by omega)]; exact h9'.out, b9'.out, by have h_ := (chars_Unescape.g_esc a0 fu k acc hlt'.out hc'.out hsh'.out hd3.out).symm.trans hI.out.2.2.1; rw [hv2.out] at h_; exact h_, by have := hfu.out; omega, by have := hal.out; simp; omega⟩⟩
      case measure => simp [intOf]; omega
     ·have hok' : (ox && oy) = false := by simpa using hok
      have hd3 := Lib.hid (hd2.out.trans hok')
      have hcs : (ox = false ∧ oy = false) ∨ (ox = false ∧ oy = true) ∨ (ox = true ∧ oy = false) := by cases ox <;> cases oy <;> simp at hok ⊢
      clear hok hok'
      rcases hcs with ⟨rfl, rfl⟩ | ⟨rfl, rfl⟩ | ⟨rfl, rfl⟩
      all_goals
       go_wp2_with (first | (go_at_call 37; (with_reducible refine (chars_digit.calls 3 x vx _ _ ex'.out).mono ?_); rintro e w9 ⟨rfl, ⟨⟨nd, rfl⟩⟩⟩) | (go_at_call 37; (with_reducible refine (chars_digit.calls 3 y vy _ _ ey'.out).mono ?_); rintro e w9 ⟨rfl, ⟨⟨nd2, rfl⟩⟩⟩))
       go_ret2
       obtain ⟨rfl, rfl⟩ := Prod.mk.inj ((chars_Unescape.g_bad a0 fu k acc hlt'.out hc'.out hsh'.out hd3.out).symm.trans hI.out.2.2.1)
       exact ⟨rfl, by first | exact pw_below_drewN hI.out.2.1 _ | exact pw_below_drewN (pw_below_drewN hI.out.2.1 _) _⟩
   ·have h37b : (c == 37) = false := by simpa using h37
    have h37' := Lib.hid h37
    clear h37
    go_wp2_with fail
    refine (Bld.WriteByte w.heap.size w.heap.size _ c _ hI.out.1 (by rw [Lib.byteCells_length]; have := hal.out; omega) hsz.out).mono ?_
    rintro e w9 ⟨rfl, h9, b9, _⟩
    have h9' := Lib.hid h9
    have b9' := Lib.hid (hI.out.2.1.trans b9)
    clear h9 b9
    go_wp2
    go_roundw
    case rel => exact ⟨k + 1, fu, acc ++ [c.toNat.toUInt8], by omega, by go_num, Lib.hid ⟨by rw [Lib.byteCells_append, chars_Unescape.one _ hc0 hc1]; exact h9'.out, b9'.out, by have h_ := (chars_Unescape.g_plain a0 fu k acc hlt'.out (by rw [hc'.out]; exact h37'.out)).symm.trans hI.out.2.2.1; rw [hc'.out] at h_; exact h_, by have := hfu.out; omega, by have := hal.out; simp; omega⟩⟩
    case measure => simp [intOf]; omega
  ·have hr := Lib.hid ((chars_Unescape.g_end a0 fuel k acc hlt).symm.trans hI.out.2.2.1)
   go_wp2_with fail
   refine (Bld.String_ w.heap.size w.heap.size acc _ hI.out.1 hI.out.2.1.size).mono ?_
   rintro e w9 ⟨rfl, b9⟩
   have b9' := Lib.hid b9
   clear b9
   go_wp2
   go_ret2
   obtain ⟨rfl, rfl⟩ := Prod.mk.inj hr.out
   exact ⟨rfl, hI.out.2.1.trans b9'.out⟩
end Go.Proofs.YtahfaiamonadmaaDoor.Q
