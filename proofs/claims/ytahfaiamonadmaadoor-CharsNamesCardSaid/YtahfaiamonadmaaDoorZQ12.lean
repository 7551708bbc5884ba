/- A part of the proof of the seat's laws. No condition beyond those in the theorems. -/
import Derived.Test.YtahfaiamonadmaaDoorZBld
import Derived.Laws.BitsLemmas
import Derived.Deep.RegionWith
import Derived.Lib.Hide
import Derived.Test.YtahfaiamonadmaaDoorZQ7g3
import Derived.Test.YtahfaiamonadmaaDoorZQ0g2

namespace Go.Proofs.YtahfaiamonadmaaDoor.Q
open Go.RowKit Go.Proofs.YtahfaiamonadmaaDoorW.PrintWords Go.Proofs.YtahfaiamonadmaaDoorW.PrintLast Go.Proofs.YtahfaiamonadmaaDoorW.PrintMore
set_option linter.unusedVariables false
set_option linter.unusedSimpArgs false
attribute [local go_sem] max2_int min2_int max_two min_two max_three min_three max_four min_four   
def chars_Escape.let (c : Int) : Bool := decide ((65 ≤ c ∧ c ≤ 90) ∨ (97 ≤ c ∧ c ≤ 122) ∨ (48 ≤ c ∧ c ≤ 57))
def chars_Escape.keep (c : Int) (slash : Bool) : Bool := chars_Escape.let c || decide (c = 45 ∨ c = 46 ∨ c = 95 ∨ c = 126) || (slash && decide (c = 47))
def chars_Escape.hex (n : Nat) : UInt8 := [48, 49, 50, 51, 52, 53, 54, 55, 56, 57, 65, 66, 67, 68, 69, 70].getD n 0
def chars_Escape.e (slash : Bool) (c : UInt8) : List UInt8 := if chars_Escape.keep (c.toNat : Int) slash = true then [c] else [37, chars_Escape.hex (c.toNat / 16), chars_Escape.hex (c.toNat % 16)]
def chars_Escape.s (a0 : ByteArray) (a1 : Bool) : ByteArray := ⟨(a0.data.toList.flatMap (chars_Escape.e a1)).toArray⟩
def chars_Escape.f (a0 : ByteArray) (a1 : Bool) : Option ByteArray := if a0.size ≤ 46912496117077 then some (chars_Escape.s a0 a1) else none
theorem chars_Escape.let_eq (c : Int) : chars_letter.f c = some (chars_Escape.let c) := by
 unfold chars_letter.f chars_Escape.let
 (repeat' split) <;> (congr 1; rw [Bool.eq_iff_iff, decide_eq_true_iff]; simp only [decide_eq_true_iff, eq_self_iff_true, true_iff, Bool.false_eq_true, false_iff]; omega)
theorem chars_Escape.e_len (slash : Bool) (c : UInt8) : (chars_Escape.e slash c).length ≤ 3 := by
 unfold chars_Escape.e
 split <;> simp
theorem chars_Escape.flat_len (slash : Bool) (l : List UInt8) : (l.flatMap (chars_Escape.e slash)).length ≤ 3 * l.length := by
 induction l with
 | nil => simp
 | cons a l ih =>
  rw [List.flatMap_cons, List.length_append, List.length_cons]
  have := chars_Escape.e_len slash a
  omega
theorem chars_Escape.mark (c : Int) (h0 : 0 ≤ c) (h1 : c ≤ 255) : ∃ j : Int, strings_IndexByte.f ⟨#[45, 46, 95, 126]⟩ c = some j ∧ (decide (0 ≤ j) = decide (c = 45 ∨ c = 46 ∨ c = 95 ∨ c = 126)) := by
 refine ⟨_, rfl, ?_⟩
 obtain ⟨n, rfl⟩ := Int.eq_ofNat_of_zero_le h0
 have key : ∀ n : Fin 256, (decide (0 ≤ Lib.indexByte [45, 46, 95, 126] (n.val : Int).toNat.toUInt8)) = decide ((n.val : Int) = 45 ∨ (n.val : Int) = 46 ∨ (n.val : Int) = 95 ∨ (n.val : Int) = 126) := by decide +kernel
 exact key ⟨n, by omega⟩
theorem chars_Escape.snoc (a0 : ByteArray) (a1 : Bool) (k : Nat) (h : k < a0.size) (c : Int) (hc : bt a0 k = c) :
  (a0.data.toList.take (k + 1)).flatMap (chars_Escape.e a1) = (a0.data.toList.take k).flatMap (chars_Escape.e a1) ++ (if chars_Escape.keep c a1 = true then [c.toNat.toUInt8] else [37, chars_Escape.hex (c.toNat / 16), chars_Escape.hex (c.toNat % 16)]) := by
 have hl : k < a0.data.toList.length := by rw [data_length]; exact h
 have hb : ((a0.data.toList[k]'hl).toNat : Int) = c := by
  rw [← hc]
  have := bt_at a0 (k : Int) (by simpa using h)
  rw [← this]
  simp only [Int.toNat_natCast, Array.getElem_toList]
  rfl
 rw [List.take_succ_eq_append_getElem hl, List.flatMap_append, List.flatMap_cons, List.flatMap_nil, List.append_nil]
 congr 1
 unfold chars_Escape.e
 subst hb
 simp
theorem chars_Escape.one (c : Int) (h0 : 0 ≤ c) (h1 : c ≤ 255) : Lib.byteCells [c.toNat.toUInt8] = [.int .u8 c] := by
 have : (c.toNat.toUInt8.toNat : Int) = c := by
  rw [Nat.toUInt8, UInt8.toNat_ofNat']
  omega
 rw [Lib.byteCells, List.map_cons, List.map_nil, this]
def chars_Escape.Cut (n : Nat) : Prop := ∀ W : World, (Instr.slice 9 (.string ⟨#[48, 49, 50, 51, 52, 53, 54, 55, 56, 57, 65, 66, 67, 68, 69, 70]⟩) (some (.int .u8 (n : Int))) (some (.int .u8 (IntKind.u8.wrap ((n : Int) + 1)))) none).run Tryd.prog W = .ok (.string ⟨#[chars_Escape.hex n]⟩) W
theorem chars_Escape.cut0 : chars_Escape.Cut 0 := fun W => show (Instr.slice 9 (.string ⟨#[48, 49, 50, 51, 52, 53, 54, 55, 56, 57, 65, 66, 67, 68, 69, 70]⟩) (some (.int .u8 0)) (some (.int .u8 1)) none).run Tryd.prog W = .ok (.string ⟨#[48]⟩) W by kernel_rfl
theorem chars_Escape.cut1 : chars_Escape.Cut 1 := fun W => show (Instr.slice 9 (.string ⟨#[48, 49, 50, 51, 52, 53, 54, 55, 56, 57, 65, 66, 67, 68, 69, 70]⟩) (some (.int .u8 1)) (some (.int .u8 2)) none).run Tryd.prog W = .ok (.string ⟨#[49]⟩) W by kernel_rfl
theorem chars_Escape.cut2 : chars_Escape.Cut 2 := fun W => show (Instr.slice 9 (.string ⟨#[48, 49, 50, 51, 52, 53, 54, 55, 56, 57, 65, 66, 67, 68, 69, 70]⟩) (some (.int .u8 2)) (some (.int .u8 3)) none).run Tryd.prog W = .ok (.string ⟨#[50]⟩) W by kernel_rfl
theorem chars_Escape.cut3 : chars_Escape.Cut 3 := fun W => show (Instr.slice 9 (.string ⟨#[48, 49, 50, 51, 52, 53, 54, 55, 56, 57, 65, 66, 67, 68, 69, 70]⟩) (some (.int .u8 3)) (some (.int .u8 4)) none).run Tryd.prog W = .ok (.string ⟨#[51]⟩) W by kernel_rfl
theorem chars_Escape.cut4 : chars_Escape.Cut 4 := fun W => show (Instr.slice 9 (.string ⟨#[48, 49, 50, 51, 52, 53, 54, 55, 56, 57, 65, 66, 67, 68, 69, 70]⟩) (some (.int .u8 4)) (some (.int .u8 5)) none).run Tryd.prog W = .ok (.string ⟨#[52]⟩) W by kernel_rfl
theorem chars_Escape.cut5 : chars_Escape.Cut 5 := fun W => show (Instr.slice 9 (.string ⟨#[48, 49, 50, 51, 52, 53, 54, 55, 56, 57, 65, 66, 67, 68, 69, 70]⟩) (some (.int .u8 5)) (some (.int .u8 6)) none).run Tryd.prog W = .ok (.string ⟨#[53]⟩) W by kernel_rfl
theorem chars_Escape.cut6 : chars_Escape.Cut 6 := fun W => show (Instr.slice 9 (.string ⟨#[48, 49, 50, 51, 52, 53, 54, 55, 56, 57, 65, 66, 67, 68, 69, 70]⟩) (some (.int .u8 6)) (some (.int .u8 7)) none).run Tryd.prog W = .ok (.string ⟨#[54]⟩) W by kernel_rfl
theorem chars_Escape.cut7 : chars_Escape.Cut 7 := fun W => show (Instr.slice 9 (.string ⟨#[48, 49, 50, 51, 52, 53, 54, 55, 56, 57, 65, 66, 67, 68, 69, 70]⟩) (some (.int .u8 7)) (some (.int .u8 8)) none).run Tryd.prog W = .ok (.string ⟨#[55]⟩) W by kernel_rfl
theorem chars_Escape.cut8 : chars_Escape.Cut 8 := fun W => show (Instr.slice 9 (.string ⟨#[48, 49, 50, 51, 52, 53, 54, 55, 56, 57, 65, 66, 67, 68, 69, 70]⟩) (some (.int .u8 8)) (some (.int .u8 9)) none).run Tryd.prog W = .ok (.string ⟨#[56]⟩) W by kernel_rfl
theorem chars_Escape.cut9 : chars_Escape.Cut 9 := fun W => show (Instr.slice 9 (.string ⟨#[48, 49, 50, 51, 52, 53, 54, 55, 56, 57, 65, 66, 67, 68, 69, 70]⟩) (some (.int .u8 9)) (some (.int .u8 10)) none).run Tryd.prog W = .ok (.string ⟨#[57]⟩) W by kernel_rfl
theorem chars_Escape.cut10 : chars_Escape.Cut 10 := fun W => show (Instr.slice 9 (.string ⟨#[48, 49, 50, 51, 52, 53, 54, 55, 56, 57, 65, 66, 67, 68, 69, 70]⟩) (some (.int .u8 10)) (some (.int .u8 11)) none).run Tryd.prog W = .ok (.string ⟨#[65]⟩) W by kernel_rfl
theorem chars_Escape.cut11 : chars_Escape.Cut 11 := fun W => show (Instr.slice 9 (.string ⟨#[48, 49, 50, 51, 52, 53, 54, 55, 56, 57, 65, 66, 67, 68, 69, 70]⟩) (some (.int .u8 11)) (some (.int .u8 12)) none).run Tryd.prog W = .ok (.string ⟨#[66]⟩) W by kernel_rfl
theorem chars_Escape.cut12 : chars_Escape.Cut 12 := fun W => show (Instr.slice 9 (.string ⟨#[48, 49, 50, 51, 52, 53, 54, 55, 56, 57, 65, 66, 67, 68, 69, 70]⟩) (some (.int .u8 12)) (some (.int .u8 13)) none).run Tryd.prog W = .ok (.string ⟨#[67]⟩) W by kernel_rfl
theorem chars_Escape.cut13 : chars_Escape.Cut 13 := fun W => show (Instr.slice 9 (.string ⟨#[48, 49, 50, 51, 52, 53, 54, 55, 56, 57, 65, 66, 67, 68, 69, 70]⟩) (some (.int .u8 13)) (some (.int .u8 14)) none).run Tryd.prog W = .ok (.string ⟨#[68]⟩) W by kernel_rfl
theorem chars_Escape.cut14 : chars_Escape.Cut 14 := fun W => show (Instr.slice 9 (.string ⟨#[48, 49, 50, 51, 52, 53, 54, 55, 56, 57, 65, 66, 67, 68, 69, 70]⟩) (some (.int .u8 14)) (some (.int .u8 15)) none).run Tryd.prog W = .ok (.string ⟨#[69]⟩) W by kernel_rfl
theorem chars_Escape.cut15 : chars_Escape.Cut 15 := fun W => show (Instr.slice 9 (.string ⟨#[48, 49, 50, 51, 52, 53, 54, 55, 56, 57, 65, 66, 67, 68, 69, 70]⟩) (some (.int .u8 15)) (some (.int .u8 16)) none).run Tryd.prog W = .ok (.string ⟨#[70]⟩) W by kernel_rfl
theorem chars_Escape.cut (n : Nat) (h : n < 16) : chars_Escape.Cut n := by
 match n, h with
 | 0, _ => exact chars_Escape.cut0
 | 1, _ => exact chars_Escape.cut1
 | 2, _ => exact chars_Escape.cut2
 | 3, _ => exact chars_Escape.cut3
 | 4, _ => exact chars_Escape.cut4
 | 5, _ => exact chars_Escape.cut5
 | 6, _ => exact chars_Escape.cut6
 | 7, _ => exact chars_Escape.cut7
 | 8, _ => exact chars_Escape.cut8
 | 9, _ => exact chars_Escape.cut9
 | 10, _ => exact chars_Escape.cut10
 | 11, _ => exact chars_Escape.cut11
 | 12, _ => exact chars_Escape.cut12
 | 13, _ => exact chars_Escape.cut13
 | 14, _ => exact chars_Escape.cut14
 | 15, _ => exact chars_Escape.cut15
 | n + 16, h => exact absurd h (by omega)
theorem chars_Escape.cat (x y : UInt8) : (⟨#[37]⟩ : ByteArray) ++ ⟨#[x]⟩ ++ ⟨#[y]⟩ = ⟨#[37, x, y]⟩ := by
 apply ByteArray.ext
 rw [ByteArray.data_append, ByteArray.data_append]
 rfl
set_option maxHeartbeats 4000000 in
set_option maxRecDepth 100000 in
theorem chars_Escape.calls (a0 : ByteArray) (a1 : Bool) (r : ByteArray) (w : World) (h : chars_Escape.f a0 a1 = some r) :
  Calls Tryd.prog 11 #[.string a0, .bool a1] w fun e w' => e = .returned (.string r) ∧ Below w.heap.size w w' := by
 unfold chars_Escape.f at h
 have hs : a0.size ≤ 46912496117077 := by
  by_cases c : a0.size ≤ 46912496117077
  ·exact c
  ·simp [c] at h
 rw [if_pos hs] at h
 obtain rfl := Option.some.inj h
 go_enter Tryd.func11, Tryd.ntmps11
 go_wp2
 go_loopw [10] (fun i wr => ∃ (k : Nat), k ≤ a0.size ∧ i = .int .i64 k ∧ Hid (Lib.IsBuilderF 40 5 w.heap.size w.heap.size (Lib.byteCells ((a0.data.toList.take k).flatMap (chars_Escape.e a1))) wr ∧ Below w.heap.size w wr)) (fun i _ => a0.size - (intOf i).toNat)
 case atStart => exact ⟨0, Nat.zero_le _, rfl, Lib.hid ⟨Bld.fresh w, (Below.refl _ w).alloc (Nat.le_refl _) _⟩⟩
 case round =>
  obtain ⟨k, hk, rfl, hI⟩ := hrel
  by_cases hlt : k < a0.size
  ·obtain ⟨c, hc⟩ : ∃ c, bt a0 k = c := ⟨_, rfl⟩
   have hc0 : 0 ≤ c := by rw [← hc]; exact (bt_range a0 k).1
   have hc1 : c ≤ 255 := by rw [← hc]; exact (bt_range a0 k).2
   have hx := bt_at a0 (k : Int)
   rw [hc, Int.toNat_natCast] at hx
   have hsn := Lib.hid (chars_Escape.snoc a0 a1 k hlt c hc)
   have hlen : (Lib.byteCells ((a0.data.toList.take k).flatMap (chars_Escape.e a1))).length + 3 ≤ 140737488355328 := by
    rw [Lib.byteCells_length]
    have h1 := chars_Escape.flat_len a1 (a0.data.toList.take k)
    have h2 : (a0.data.toList.take k).length ≤ k := List.length_take_le _ _
    omega
   have hlen' := Lib.hid hlen
   have hsz : w.heap.size ≤ wr.heap.size := hI.out.2.size
   have hsz' := Lib.hid hsz
   have hc' := Lib.hid hc
   clear hlen hsz hc
   obtain ⟨l, hl⟩ : ∃ l, chars_Escape.let c = l := ⟨_, rfl⟩
   have hlet := Lib.hid (chars_Escape.let_eq c)
   rw [hl] at hlet
   obtain ⟨j, hj, hjd⟩ := chars_Escape.mark c hc0 hc1
   have hj' := Lib.hid hj
   clear hj
   by_cases hkeep : chars_Escape.keep c a1 = true
   ·have hkb : l = true ∨ (l = false ∧ decide (0 ≤ j) = true) ∨ (l = false ∧ decide (0 ≤ j) = false ∧ a1 = true ∧ (c == 47) = true) := by
     unfold chars_Escape.keep at hkeep
     rw [hl] at hkeep
     cases l
     ·right
      cases hjb : decide (0 ≤ j)
      ·right
       rw [← hjd, hjb] at hkeep
       simp at hkeep
       simp [hkeep]
      ·left; simp
     ·left; rfl
    have hfin := Lib.hid (show (a0.data.toList.take (k + 1)).flatMap (chars_Escape.e a1) = (a0.data.toList.take k).flatMap (chars_Escape.e a1) ++ [c.toNat.toUInt8] from by rw [hsn.out, if_pos hkeep])
    clear hsn hkeep hjd hl
    rcases hkb with rfl | ⟨rfl, hjb⟩ | ⟨rfl, hjb, rfl, h47⟩
    all_goals
     go_wp2_with (first | (go_at_call 40; refine (chars_letter.calls _ _ _ hlet.out).mono ?_; rintro e w9 ⟨rfl, ⟨⟨nd, rfl⟩⟩⟩) | (go_at_call 41; refine (strings_IndexByte.calls _ _ _ _ hj'.out).mono ?_; rintro e w9 ⟨rfl, ⟨⟨nd2, rfl⟩⟩⟩))
     refine (Bld.WriteByte w.heap.size w.heap.size _ c _ (by first | exact Bld.IsB_drewN hI.out.1 _ | exact Bld.IsB_drewN (Bld.IsB_drewN hI.out.1 _) _) (by have := hlen'.out; omega) (by simpa using hsz'.out)).mono ?_
     rintro e w9 ⟨rfl, h9, b9, _⟩
     have h9' := Lib.hid h9
     have b9' := Lib.hid (show Below w.heap.size w w9 from by first | exact (pw_below_drewN hI.out.2 _).trans b9 | exact (pw_below_drewN (pw_below_drewN hI.out.2 _) _).trans b9)
     clear h9 b9
     go_wp2
     go_roundw
     case rel => exact ⟨k + 1, by omega, by go_num, Lib.hid ⟨by rw [hfin.out, Lib.byteCells_append, chars_Escape.one c hc0 hc1]; exact h9'.out, b9'.out⟩⟩
     case measure => simp [intOf]; omega
   ·have hkb : l = false ∧ decide (0 ≤ j) = false ∧ (a1 && (c == 47)) = false := by
     unfold chars_Escape.keep at hkeep
     rw [hl] at hkeep
     simp only [Bool.or_eq_true, not_or, Bool.not_eq_true] at hkeep
     refine ⟨hkeep.1.1, by rw [hjd]; exact hkeep.1.2, ?_⟩
     rw [← hkeep.2]
     rfl
    have hfin := Lib.hid (show (a0.data.toList.take (k + 1)).flatMap (chars_Escape.e a1) = (a0.data.toList.take k).flatMap (chars_Escape.e a1) ++ [37, chars_Escape.hex (c.toNat / 16), chars_Escape.hex (c.toNat % 16)] from by rw [hsn.out, if_neg hkeep])
    clear hsn hkeep hjd hl
    obtain ⟨rfl, hjb, h47⟩ := hkb
    have h15 := u8_and15 c hc0 (by omega)
    have hsl : a1 = false ∨ (a1 = true ∧ (c == 47) = false) := by
     cases a1
     ·exact .inl rfl
     ·exact .inr ⟨rfl, by simpa using h47⟩
    clear h47
    rcases hsl with rfl | ⟨rfl, h47⟩
    all_goals
     go_wp2_with (first | (go_at_call 40; refine (chars_letter.calls _ _ _ hlet.out).mono ?_; rintro e w9 ⟨rfl, ⟨⟨nd, rfl⟩⟩⟩) | (go_at_call 41; refine (strings_IndexByte.calls _ _ _ _ hj'.out).mono ?_; rintro e w9 ⟨rfl, ⟨⟨nd2, rfl⟩⟩⟩))
     obtain ⟨W, hW⟩ : ∃ W, W = wr.drewN (nd + nd2) := ⟨_, rfl⟩
     have hIW := Lib.hid (show Lib.IsBuilderF 40 5 w.heap.size w.heap.size (Lib.byteCells ((a0.data.toList.take k).flatMap (chars_Escape.e _))) W ∧ Below w.heap.size w W from by rw [hW]; exact ⟨Bld.IsB_drewN hI.out.1 _, pw_below_drewN hI.out.2 _⟩)
     rw [← hW]
     clear hW
     obtain ⟨n1, hn1⟩ : ∃ n1 : Nat, c / 16 = (n1 : Int) := ⟨(c / 16).toNat, by omega⟩
     obtain ⟨n2, hn2⟩ : ∃ n2 : Nat, c % 16 = (n2 : Int) := ⟨(c % 16).toNat, by omega⟩
     have e1 := Lib.hid (show c.toNat / 16 = n1 from by omega)
     have e2 := Lib.hid (show c.toNat % 16 = n2 from by omega)
     have s1 := chars_Escape.cut n1 (by omega)
     have s2 := chars_Escape.cut n2 (by omega)
     unfold chars_Escape.Cut at s1 s2
     have hcat := chars_Escape.cat (chars_Escape.hex n1) (chars_Escape.hex n2)
     go_region_with (go_at_call 42; refine (Bld.WriteString w.heap.size w.heap.size _ ⟨#[37, chars_Escape.hex n1, chars_Escape.hex n2]⟩ _ (Bld.IsB_drewN hIW.out.1 1) hlen'.out hIW.out.2.size).mono ?_; rintro e w9 ⟨rfl, h9, b9, _⟩; have h9' := Lib.hid h9; have b9' := Lib.hid ((pw_below_drewN hIW.out.2 1).trans b9); clear h9 b9)
     all_goals
      go_wp2
      go_roundw
      case rel => exact ⟨k + 1, by omega, by go_num, Lib.hid ⟨by rw [hfin.out, Lib.byteCells_append, e1.out, e2.out]; exact h9'.out, b9'.out⟩⟩
      case measure => simp [intOf]; omega
  ·go_wp2_with fail
   refine (Bld.String_ w.heap.size w.heap.size _ _ hI.out.1 hI.out.2.size).mono ?_
   rintro e w9 ⟨rfl, b9⟩
   have b9' := Lib.hid b9
   clear b9
   go_wp2
   go_ret
   have hk' : k = a0.size := by omega
   have he : a0.data.toList.take k = a0.data.toList := List.take_of_length_le (by rw [data_length]; omega)
   refine ⟨by rw [he]; rfl, hI.out.2.trans b9'.out⟩
end Go.Proofs.YtahfaiamonadmaaDoor.Q
