/- A part of the proof of the seat's laws. No condition beyond those in the theorems. -/
import Derived.Lib.Hide
import Derived.Lib.OthersKept
import Derived.Test.YtieejapamkokaaaDoorZQ19g6
import Derived.Test.YtieejapamkokaaaDoorZQ0g7
import Derived.Test.YtieejapamkokaaaDoorZQ44
import Derived.Test.YtieejapamkokaaaDoorZQ45g7

namespace Go.Proofs.YtieejapamkokaaaDoor.Q
open Go.RowKit Go.Proofs.YtieejapamkokaaaDoorW.PrintWords Go.Proofs.YtieejapamkokaaaDoorW.PrintLast Go.Proofs.YtieejapamkokaaaDoorW.PrintMore
set_option linter.unusedVariables false
set_option linter.unusedSimpArgs false
attribute [local go_sem] max2_int min2_int max_two min_two max_three min_three max_four min_four   
def chars_Count.own (s : ByteArray) (pos : Nat) : Bool := decide (3 ≤ s.size - pos) && ((s.extract pos s.size).extract 0 3).toList == [239, 191, 189]
def chars_Count.g (s : ByteArray) : Nat → Nat → Int → Int × Bool
 | 0, _, n => (n, true)
 | k + 1, pos, n => if pos < s.size then (if (Utf8.decode s pos).1 = 65533 ∧ chars_Count.own s pos = false then (0, false) else chars_Count.g s k (pos + (Utf8.decode s pos).2) (n + 1)) else (n, true)
def chars_Count.f (a0 : ByteArray) : Option (Int × Bool) := if a0.size ≤ 9007199254740992 then some (chars_Count.g a0 a0.size 0 0) else none
theorem chars_Count.width_pos (s : ByteArray) (pos : Nat) (h : pos < s.size) : 1 ≤ (Utf8.decode s pos).2 := by
 by_cases ha : (s[pos]'h).toNat < 128
 ·rw [decode_ascii s pos h ha]
  exact Nat.le_refl _
 ·exact (decode_high s pos h (by omega)).2
theorem chars_Count.own_eq (s : ByteArray) (pos : Nat) (h : s.size ≤ 9007199254740992) : strings_HasPrefix.f (s.extract pos s.size) ⟨#[239, 191, 189]⟩ = some (chars_Count.own s pos) := by
 have hz : (s.extract pos s.size).size = s.size - pos := by simp
 have h3 : (⟨#[239, 191, 189]⟩ : ByteArray).size = 3 := rfl
 have hl : (⟨#[239, 191, 189]⟩ : ByteArray).toList = [239, 191, 189] := by rw [ByteArray.toList_eq]
 unfold strings_HasPrefix.f stringslite_HasPrefix.f chars_Count.own
 rw [hz, h3, hl]
 by_cases c : 3 ≤ s.size - pos
 ·rw [if_pos (by omega), if_pos (by omega), if_pos (by omega), decide_eq_true c]
  rfl
 ·rw [if_neg (by omega)]
  simp [c]
theorem chars_Count.g_bad (s : ByteArray) (k pos : Nat) (n : Int) (h : pos < s.size) (hd : (Utf8.decode s pos).1 = 65533) (ho : chars_Count.own s pos = false) : chars_Count.g s (k + 1) pos n = (0, false) := by
 rw [chars_Count.g, if_pos h, if_pos ⟨hd, ho⟩]
theorem chars_Count.g_on (s : ByteArray) (k pos : Nat) (n : Int) (h : pos < s.size) (hd : ¬ ((Utf8.decode s pos).1 = 65533 ∧ chars_Count.own s pos = false)) : chars_Count.g s (k + 1) pos n = chars_Count.g s k (pos + (Utf8.decode s pos).2) (n + 1) := by
 rw [chars_Count.g, if_pos h, if_neg hd]
theorem chars_Count.g_end (s : ByteArray) (k pos : Nat) (n : Int) (h : ¬ pos < s.size) : chars_Count.g s k pos n = (n, true) := by
 cases k with
 | zero => rfl
 | succ k => rw [chars_Count.g, if_neg h]
set_option maxHeartbeats 4000000 in
set_option maxRecDepth 100000 in
theorem chars_Count.calls (a0 : ByteArray) (r1 : Int) (r2 : Bool) (w : World) (h : chars_Count.f a0 = some (r1, r2)) :
  Calls Tryd.prog 141 #[.string a0] w fun e w' => e = .returned (.tuple #[.int .i64 r1, .bool r2]) ∧ Below w.heap.size w w' := by
 unfold chars_Count.f at h
 have hs : a0.size ≤ 9007199254740992 := by
  by_cases c : a0.size ≤ 9007199254740992
  ·exact c
  ·simp [c] at h
 rw [if_pos hs] at h
 have hR := Lib.hid (Option.some.inj h)
 clear h
 go_enter Tryd.func141, Tryd.ntmps141
 go_wp2
 go_loopw [4] (fun i wr => ∃ (pos fuel : Nat) (n : Nat), i = .int .i64 n ∧ Hid (wr.heap[w.heap.size]? = some (.stringIter a0 pos) ∧ Below w.heap.size w wr ∧ chars_Count.g a0 fuel pos n = (r1, r2) ∧ a0.size ≤ pos + fuel ∧ n ≤ pos)) (fun _ wr => a0.size - wr.iterPos w.heap.size)
 case atStart =>
  refine ⟨0, a0.size, 0, rfl, Lib.hid ⟨?_, (Below.refl _ w).alloc (Nat.le_refl _) _, hR.out, by omega, Nat.le_refl _⟩⟩
  exact World.iter_heap w a0 0
 case round =>
  obtain ⟨pos, fuel, n, rfl, hI⟩ := hrel
  by_cases hp : pos < a0.size
  ·have hit := hI.out.1
   have hnx : ∀ ty, (Instr.next (.pointer (some ⟨w.heap.size, 0, none⟩)) true ty).run Tryd.prog wr = _ := fun ty => Lib.run_next_any_at wr w.heap.size a0 pos ty hit hp
   have hwd := chars_Count.width_pos a0 pos hp
   have hB2 := Lib.below_iterAt hI.out.2.1 (k := w.heap.size) (Nat.le_refl _) a0 (pos + (Utf8.decode a0 pos).2)
   have hit2 := Lib.iterAt_heap wr w.heap.size a0 pos (pos + (Utf8.decode a0 pos).2) hit
   obtain ⟨W2, hW2⟩ : ∃ W2, wr.iterAt w.heap.size a0 (pos + (Utf8.decode a0 pos).2) = W2 := ⟨_, rfl⟩
   rw [hW2] at hB2 hit2
   simp only [hW2] at hnx
   obtain ⟨f, rfl⟩ : ∃ f, fuel = f + 1 := ⟨fuel - 1, by have := hI.out.2.2.2.1; omega⟩
   have hn : n ≤ 9007199254740992 := by have := hI.out.2.2.2.2; omega
   have hmeas : a0.size - W2.iterPos w.heap.size < a0.size - wr.iterPos w.heap.size := by simp only [World.iterPos, hit2, hit]; omega
   have hpos := Lib.hid (And.intro hp hwd)
   have hkeep := Lib.hid (And.intro hB2 (And.intro hit2 hmeas))
   have hfr : Hid (a0.size ≤ pos + (f + 1)) := Lib.hid hI.out.2.2.2.1
   have hpl : pos ≤ a0.size := by omega
   clear hW2 hB2 hit2 hmeas hwd hit
   by_cases hd : (Utf8.decode a0 pos).1 = 65533
   ·have hdb : (((Utf8.decode a0 pos).1 : Int) == 65533) = true := by rw [hd]; rfl
    obtain ⟨o, ho⟩ : ∃ o, chars_Count.own a0 pos = o := ⟨_, rfl⟩
    have hown := Lib.hid (chars_Count.own_eq a0 pos hs)
    rw [ho] at hown
    have hd' := Lib.hid hd
    have ho' := Lib.hid ho
    clear hd ho hp
    cases o
    ·go_wp2_with (go_at_call 55; refine (strings_HasPrefix.calls _ _ false _ hown.out).mono ?_; rintro e w9 ⟨rfl, ⟨⟨nd, rfl⟩⟩⟩)
     go_ret2
     have hr := (chars_Count.g_bad a0 f pos n hpos.out.1 hd'.out ho'.out).symm.trans hI.out.2.2.1
     obtain ⟨rfl, rfl⟩ := Prod.mk.inj hr
     exact ⟨rfl, pw_below_drewN hkeep.out.1 _⟩
    ·go_wp2_with (go_at_call 55; refine (strings_HasPrefix.calls _ _ true _ hown.out).mono ?_; rintro e w9 ⟨rfl, ⟨⟨nd, rfl⟩⟩⟩)
     go_roundw
     case rel => exact ⟨pos + (Utf8.decode a0 pos).2, f, n + 1, by go_num, Lib.hid ⟨hkeep.out.2.1, pw_below_drewN hkeep.out.1 _, by have h_ := (chars_Count.g_on a0 f pos n hpos.out.1 (by rw [ho'.out]; simp)).symm.trans hI.out.2.2.1; simpa using h_, by have := hfr.out; have := hpos.out.2; omega, by have := hpos.out.2; have := hI.out.2.2.2.2; omega⟩⟩
     case measure => exact hkeep.out.2.2
   ·have hdb : (((Utf8.decode a0 pos).1 : Int) == 65533) = false := by
     rw [beq_eq_false_iff_ne]; intro h_; exact hd (by omega)
    have hd' := Lib.hid hd
    clear hd hp
    go_wp2
    go_roundw
    case rel => exact ⟨pos + (Utf8.decode a0 pos).2, f, n + 1, by go_num, Lib.hid ⟨hkeep.out.2.1, hkeep.out.1, by have h_ := (chars_Count.g_on a0 f pos n hpos.out.1 (fun h9 => hd'.out h9.1)).symm.trans hI.out.2.2.1; simpa using h_, by have := hfr.out; have := hpos.out.2; omega, by have := hpos.out.2; have := hI.out.2.2.2.2; omega⟩⟩
    case measure => exact hkeep.out.2.2
  ·have hnx : ∀ ty, (Instr.next (.pointer (some ⟨w.heap.size, 0, none⟩)) true ty).run Tryd.prog wr = _ := fun ty => Lib.run_next_end_at wr w.heap.size a0 pos ty hI.out.1 hp
   have hr := Lib.hid ((chars_Count.g_end a0 fuel pos n hp).symm.trans hI.out.2.2.1)
   go_wp2
   go_ret2
   obtain ⟨rfl, rfl⟩ := Prod.mk.inj hr.out
   exact ⟨rfl, hI.out.2.1⟩
end Go.Proofs.YtieejapamkokaaaDoor.Q


namespace Go.Proofs.YtieejapamkokaaaDoor.Q
open Go.RowKit Go.Proofs.YtieejapamkokaaaDoorW.PrintWords Go.Proofs.YtieejapamkokaaaDoorW.PrintLast Go.Proofs.YtieejapamkokaaaDoorW.PrintMore
set_option linter.unusedVariables false
set_option linter.unusedSimpArgs false
attribute [local go_sem] max2_int min2_int max_two min_two max_three min_three max_four min_four   
def chars_Valid.f (a0 : ByteArray) : Option (Bool) := (chars_Count.f a0).bind fun bt185 => (some bt185.2)
set_option maxHeartbeats 8000000 in
set_option maxRecDepth 100000 in
theorem chars_Valid.calls (a0 : ByteArray) (r : Bool) (w : World) (h : chars_Valid.f a0 = some r) :
  Calls Tryd.prog 128 #[.string a0] w fun e w' => e = .returned (.bool r) ∧ Below w.heap.size w w' := by
 have HB := Aside0.mk (Below.refl w.heap.size w)
 unfold chars_Valid.f at h
 have H := h
 clear h
 replace H := bndO H
 obtain ⟨⟨t185, t186⟩, A20, H⟩ := H
 dsimp only at H
 have A2 := Aside0.mk A20
 clear A20
 obtain rfl := Option.some.inj H
 go_enter Tryd.func128, Tryd.ntmps128
 go_wp2_with (first | ((with_reducible refine gate_callee (f := 141) rfl ?_); refine goesL_ (some 7) rfl rfl Tryd.func141 (by kernel_rfl) rfl #[.string a0] rfl (by (try simp only [List.map_toArray, List.map_cons, List.map_nil]); first | done | rfl | (simp only [List.length_drop, List.length_take]; rfl)) ?_; (with_reducible refine (chars_Count.calls a0 t185 t186 _ A2.out).mono ?_); rintro e w3 ⟨rfl, hb⟩; refine ⟨_, rfl, ?_⟩; have n0_ := Aside0.mk (below_step (by repeat (first | (with_reducible first | exact HB.out | apply below_alloc | apply pw_below_drewN | apply below_drew1) | exact HB.out)) hb); clear HB; have HB := n0_; clear n0_; (try clear hb); (try clear hb2); (try clear hk); (try clear hi)))
 go_ret
 exact ⟨by first | rfl | (simp [errW_none, errW_some] <;> rfl) | (simp [*, errW_none, errW_some] <;> rfl), by repeat (first | (with_reducible first | exact HB.out | apply below_alloc | apply pw_below_drewN | apply below_drew1) | exact HB.out)⟩
end Go.Proofs.YtieejapamkokaaaDoor.Q


namespace Go.Proofs.YtieejapamkokaaaDoor.Q
open Go.RowKit Go.Proofs.YtieejapamkokaaaDoorW.PrintWords Go.Proofs.YtieejapamkokaaaDoorW.PrintLast Go.Proofs.YtieejapamkokaaaDoorW.PrintMore
set_option linter.unusedVariables false
set_option linter.unusedSimpArgs false
attribute [local go_sem] max2_int min2_int max_two min_two max_three min_three max_four min_four   
def chars_Key.f (a0 : ByteArray) : Option (Bool) := if (a0.size : Int) ≥ 1 then (if (a0.size : Int) ≤ 1024 then ((strings_IndexByte.f a0 0).bind fun t187 => (if t187 < 0 then ((chars_Valid.f a0).bind fun t188 => (some t188)) else (some false))) else (some false)) else (some false)
set_option maxHeartbeats 8000000 in
set_option maxRecDepth 100000 in
theorem chars_Key.calls (a0 : ByteArray) (r : Bool) (w : World) (h : chars_Key.f a0 = some r) :
  Calls Tryd.prog 103 #[.string a0] w fun e w' => e = .returned (.bool r) ∧ Below w.heap.size w w' := by
 have HB := Aside0.mk (Below.refl w.heap.size w)
 unfold chars_Key.f at h
 have H := h
 clear h
 replace H := itO H
 rcases H with ⟨c2, H⟩ | ⟨c2, H⟩
 ·skip
  have c2b0 : decide (1 ≤ (a0.size : Int)) = true := decide_eq_true c2
  have c2b1 : decide (1 ≤ a0.size) = true := decide_eq_true (by omega)
  clear c2
  replace H := itO H
  rcases H with ⟨c3, H⟩ | ⟨c3, H⟩
  ·skip
   have c3b0 : decide ((a0.size : Int) ≤ 1024) = true := decide_eq_true c3
   have c3b1 : decide (a0.size ≤ 1024) = true := decide_eq_true (by omega)
   clear c3
   replace H := bndO H
   obtain ⟨t187, A40, H⟩ := H
   have A4 := Aside0.mk A40
   clear A40
   replace H := itO H
   rcases H with ⟨c5, H⟩ | ⟨c5, H⟩
   ·skip
    have c5b0 : decide (t187 < 0) = true := decide_eq_true c5
    clear c5
    replace H := bndO H
    obtain ⟨t188, A60, H⟩ := H
    have A6 := Aside0.mk A60
    clear A60
    obtain rfl := Option.some.inj H
    go_enter Tryd.func103, Tryd.ntmps103
    go_wp2_with (first | (go_at_call 127; (with_reducible refine (strings_IndexByte.calls a0 0 t187 _ A4.out).mono ?_); rintro e w' ⟨rfl, ⟨nd, rfl⟩⟩) | (go_at_call 128; (with_reducible refine (chars_Valid.calls a0 t188 _ A6.out).mono ?_); rintro e w7 ⟨rfl, hb⟩; have n0_ := Aside0.mk (below_step (by repeat (first | (with_reducible first | exact HB.out | apply below_alloc | apply pw_below_drewN | apply below_drew1) | exact HB.out)) hb); clear HB; have HB := n0_; clear n0_; (try clear hb); (try clear hb2); (try clear hk); (try clear hi)))
    go_ret
    exact ⟨by first | rfl | (simp [errW_none, errW_some] <;> rfl) | (simp [*, errW_none, errW_some] <;> rfl), by repeat (first | (with_reducible first | exact HB.out | apply below_alloc | apply pw_below_drewN | apply below_drew1) | exact HB.out)⟩
   ·skip
    have c5b0 : decide (t187 < 0) = false := decide_eq_false c5
    clear c5
    obtain rfl := Option.some.inj H
    go_enter Tryd.func103, Tryd.ntmps103
    go_wp2_with (first | (go_at_call 127; (with_reducible refine (strings_IndexByte.calls a0 0 t187 _ A4.out).mono ?_); rintro e w' ⟨rfl, ⟨nd, rfl⟩⟩))
    go_ret
    exact ⟨by first | rfl | (simp [errW_none, errW_some] <;> rfl) | (simp [*, errW_none, errW_some] <;> rfl), by repeat (first | (with_reducible first | exact HB.out | apply below_alloc | apply pw_below_drewN | apply below_drew1) | exact HB.out)⟩
  ·skip
   have c3b0 : decide ((a0.size : Int) ≤ 1024) = false := decide_eq_false c3
   have c3b1 : decide (a0.size ≤ 1024) = false := decide_eq_false (by omega)
   clear c3
   obtain rfl := Option.some.inj H
   go_enter Tryd.func103, Tryd.ntmps103
   go_wp2
   go_ret
   exact ⟨by first | rfl | (simp [errW_none, errW_some] <;> rfl) | (simp [*, errW_none, errW_some] <;> rfl), by repeat (first | (with_reducible first | exact HB.out | apply below_alloc | apply pw_below_drewN | apply below_drew1) | exact HB.out)⟩
 ·skip
  have c2b0 : decide (1 ≤ (a0.size : Int)) = false := decide_eq_false c2
  have c2b1 : decide (1 ≤ a0.size) = false := decide_eq_false (by omega)
  clear c2
  obtain rfl := Option.some.inj H
  go_enter Tryd.func103, Tryd.ntmps103
  go_wp2
  go_ret
  exact ⟨by first | rfl | (simp [errW_none, errW_some] <;> rfl) | (simp [*, errW_none, errW_some] <;> rfl), by repeat (first | (with_reducible first | exact HB.out | apply below_alloc | apply pw_below_drewN | apply below_drew1) | exact HB.out)⟩
end Go.Proofs.YtieejapamkokaaaDoor.Q


namespace Go.Proofs.YtieejapamkokaaaDoor.Q
open Go.RowKit Go.Proofs.YtieejapamkokaaaDoorW.PrintWords Go.Proofs.YtieejapamkokaaaDoorW.PrintLast Go.Proofs.YtieejapamkokaaaDoorW.PrintMore
set_option linter.unusedVariables false
set_option linter.unusedSimpArgs false
attribute [local go_sem] max2_int min2_int max_two min_two max_three min_three max_four min_four   
mutual
def meta_three.j0 : Nat → ByteArray → Bool → Option (ByteArray × ByteArray × Int × Bool)
 | 0, _, _ => none
 | k + 1, x0, x17 => if x17 = true then (some ((⟨#[]⟩ : ByteArray), (⟨#[]⟩ : ByteArray), 0, false)) else (if 0 ≤ (wrap64 ((x0.size : Int) - 8)) then (if (wrap64 ((x0.size : Int) - 8)) ≤ (x0.size : Int) then ((meta_get.f k (x0.extract ((wrap64 ((x0.size : Int) - 8)) : Int).toNat x0.size)).bind fun bt190 => (if 1 ≤ (wrap64 ((x0.size : Int) - 8)) then ((strings_Cut.f (x0.extract 1 ((wrap64 ((x0.size : Int) - 8)) : Int).toNat) (⟨#[0]⟩ : ByteArray)).bind fun bt192 => (if bt190.2 = true then (if bt192.2.2 = true then ((strings_HasSuffix.f bt192.2.1 (⟨#[0]⟩ : ByteArray)).bind fun t195 => (meta_three.j1 k bt192.1 bt192.2.1 bt190.1 (!t195))) else (meta_three.j1 k bt192.1 bt192.2.1 bt190.1 true)) else (meta_three.j1 k bt192.1 bt192.2.1 bt190.1 true))) else (none))) else (none)) else (none))
def meta_three.j1 : Nat → ByteArray → ByteArray → Int → Bool → Option (ByteArray × ByteArray × Int × Bool)
 | 0, _, _, _, _ => none
 | k + 1, x4, x5, x6, x47 => if x47 = true then (some ((⟨#[]⟩ : ByteArray), (⟨#[]⟩ : ByteArray), 0, false)) else (if 0 ≤ (wrap64 ((x5.size : Int) - 1)) then (if (wrap64 ((x5.size : Int) - 1)) ≤ (x5.size : Int) then ((chars_Bucket.f k x4).bind fun t196 => (if t196 = true then ((chars_Key.f (x5.extract 0 ((wrap64 ((x5.size : Int) - 1)) : Int).toNat)).bind fun t197 => (if t197 = true then (some (x4, x5.extract 0 ((wrap64 ((x5.size : Int) - 1)) : Int).toNat, x6, true)) else (some ((⟨#[]⟩ : ByteArray), (⟨#[]⟩ : ByteArray), 0, false)))) else (some ((⟨#[]⟩ : ByteArray), (⟨#[]⟩ : ByteArray), 0, false)))) else (none)) else (none))
end
def meta_three.f (k : Nat) (a0 : ByteArray) (a1 : ByteArray) : Option (ByteArray × ByteArray × Int × Bool) := (strings_HasPrefix.f a0 a1).bind fun t189 => (if t189 = true then (meta_three.j0 k a0 (decide ((a0.size : Int) < 10))) else (meta_three.j0 k a0 true))
theorem meta_three.mono_l : ∀ k, (∀ y0 y1, LeO (meta_three.j0 k y0 y1) (meta_three.j0 (k + 1) y0 y1)) ∧ (∀ y0 y1 y2 y3, LeO (meta_three.j1 k y0 y1 y2 y3) (meta_three.j1 (k + 1) y0 y1 y2 y3))
 | 0 => ⟨fun _ _ r h => by simp [meta_three.j0] at h, fun _ _ _ _ r h => by simp [meta_three.j1] at h⟩
 | k + 1 => by
  obtain ⟨ih0, ih1⟩ := meta_three.mono_l k
  refine ⟨?_, ?_⟩
  ·intro y0 y1
   unfold meta_three.j0
   repeat' first
   | (with_reducible exact ih0 _ _)
   | (with_reducible exact ih1 _ _ _ _)
   | (with_reducible exact chars_Bucket.mono _ _)
   | (with_reducible exact meta_get.mono _ _)
   | (with_reducible exact LeO.refl _)
   | (with_reducible exact LeO.none _)
   | (with_reducible refine LeO.ite ?_ ?_)
   | (with_reducible refine LeO.bind ?_ (fun _ => ?_))
   | exact ih0 _ _
   | exact ih1 _ _ _ _
   | exact chars_Bucket.mono _ _
   | exact meta_get.mono _ _
   | exact LeO.none _
   | refine LeO.ite ?_ ?_
   | refine LeO.bind ?_ (fun _ => ?_)
  ·intro y0 y1 y2 y3
   unfold meta_three.j1
   repeat' first
   | (with_reducible exact ih0 _ _)
   | (with_reducible exact ih1 _ _ _ _)
   | (with_reducible exact chars_Bucket.mono _ _)
   | (with_reducible exact meta_get.mono _ _)
   | (with_reducible exact LeO.refl _)
   | (with_reducible exact LeO.none _)
   | (with_reducible refine LeO.ite ?_ ?_)
   | (with_reducible refine LeO.bind ?_ (fun _ => ?_))
   | exact ih0 _ _
   | exact ih1 _ _ _ _
   | exact chars_Bucket.mono _ _
   | exact meta_get.mono _ _
   | exact LeO.none _
   | refine LeO.ite ?_ ?_
   | refine LeO.bind ?_ (fun _ => ?_)
theorem meta_three.mono : ∀ a0 a1 k, LeO (meta_three.f k a0 a1) (meta_three.f (k + 1) a0 a1) := by
 intro a0 a1 k
 obtain ⟨ih0, ih1⟩ := meta_three.mono_l k
 unfold meta_three.f
 repeat' first
   | (with_reducible exact ih0 _ _)
   | (with_reducible exact ih1 _ _ _ _)
   | (with_reducible exact chars_Bucket.mono _ _)
   | (with_reducible exact meta_get.mono _ _)
   | (with_reducible exact LeO.refl _)
   | (with_reducible exact LeO.none _)
   | (with_reducible refine LeO.ite ?_ ?_)
   | (with_reducible refine LeO.bind ?_ (fun _ => ?_))
   | exact ih0 _ _
   | exact ih1 _ _ _ _
   | exact chars_Bucket.mono _ _
   | exact meta_get.mono _ _
   | exact LeO.none _
   | refine LeO.ite ?_ ?_
   | refine LeO.bind ?_ (fun _ => ?_)
set_option maxHeartbeats 8000000 in
set_option maxRecDepth 100000 in
theorem meta_three.calls (k : Nat) (a0 : ByteArray) (a1 : ByteArray) (r1 : ByteArray) (r2 : ByteArray) (r3 : Int) (r4 : Bool) (w : World) (h : meta_three.f k a0 a1 = some (r1, r2, r3, r4)) :
  Calls Tryd.prog 57 #[.string a0, .string a1] w fun e w' => e = .returned (.tuple #[.string r1, .string r2, .int .i64 r3, .bool r4]) ∧ Below w.heap.size w w' := by
 have HB := Aside0.mk (Below.refl w.heap.size w)
 unfold meta_three.f at h
 have H := h
 clear h
 have HC3 := Aside0.mk H
 clear H
 go_enter Tryd.func57, Tryd.ntmps57
 go_upto_region 1 with (fail)
 go_cut [17] (fun v17 wc => ∃ (kq : Nat) (x17_2 : Bool), v17 = .bool x17_2 ∧ Aside0 (meta_three.j0 kq a0 x17_2 = some (r1, r2, r3, r4)) ∧ Aside0 (kq ≤ k) ∧ Aside0 (Below w.heap.size w wc))
 case first =>
  have H := HC3.out
  clear HC3
  replace H := bndO H
  obtain ⟨t189, A40, H⟩ := H
  have A4 := Aside0.mk A40
  clear A40
  by_cases c5 : t189 = true
  ·subst c5
   replace H := itT H
   have H' := Aside0.mk H
   clear H
   go_wp2_with (first | ((with_reducible refine gate_callee (f := 55) rfl ?_); refine goesL_ (some 11) rfl rfl Tryd.func55 (by kernel_rfl) rfl #[.string a0, .string a1] rfl (by (try simp only [List.map_toArray, List.map_cons, List.map_nil]); first | done | rfl | (simp only [List.length_drop, List.length_take]; rfl)) ?_; (with_reducible refine (strings_HasPrefix.calls a0 a1 true _ A4.out).mono ?_); rintro e w' ⟨rfl, ⟨nd, rfl⟩⟩; refine ⟨_, rfl, ?_⟩))
   go_meet
   case rel => exact ⟨_, (decide ((a0.size : Int) < 10)), (by first | rfl | (simp; done) | (simp [*]; done)), H', ⟨by first | omega | exact Nat.le_refl _⟩, ⟨by repeat (first | (with_reducible first | exact HB.out | apply below_alloc | apply pw_below_drewN | apply below_drew1) | exact HB.out)⟩⟩
  ·replace c5 := Bool.eq_false_iff.mpr c5
   subst c5
   replace H := itF H
   have H' := Aside0.mk H
   clear H
   go_wp2_with (first | ((with_reducible refine gate_callee (f := 55) rfl ?_); refine goesL_ (some 11) rfl rfl Tryd.func55 (by kernel_rfl) rfl #[.string a0, .string a1] rfl (by (try simp only [List.map_toArray, List.map_cons, List.map_nil]); first | done | rfl | (simp only [List.length_drop, List.length_take]; rfl)) ?_; (with_reducible refine (strings_HasPrefix.calls a0 a1 false _ A4.out).mono ?_); rintro e w' ⟨rfl, ⟨nd, rfl⟩⟩; refine ⟨_, rfl, ?_⟩))
   go_meet
   case rel => exact ⟨_, (true), (by first | rfl | (simp; done) | (simp [*]; done)), H', ⟨by first | omega | exact Nat.le_refl _⟩, ⟨by repeat (first | (with_reducible first | exact HB.out | apply below_alloc | apply pw_below_drewN | apply below_drew1) | exact HB.out)⟩⟩
 case rest =>
  clear HC3
  try clear p2
  try clear c5
  obtain ⟨kq, x17_2, rfl, HA, HJ2, HB⟩ := hcut
  cases kq with
  | zero => exact absurd HA.out (by simp [meta_three.j0])
  | succ kj2 =>
   have H := HA.out
   clear HA
   simp only [meta_three.j0] at H
   by_cases c6 : x17_2 = true
   ·subst c6
    replace H := itT H
    simp only [Option.some.injEq, Prod.mk.injEq] at H
    obtain ⟨rfl, rfl, rfl, rfl⟩ := H
    go_wp2
    refine bodyPost_ret (results_list (rs := [.tmp 4, .tmp 5, .tmp 6, .tmp 7]) rfl (by simp) (.tmp (.tmp (.tmp (.tmp .nil))))) rfl ?_
    exact ⟨by first | rfl | (simp [errW_none, errW_some] <;> rfl) | (simp [*, errW_none, errW_some] <;> rfl), by repeat (first | (with_reducible first | exact HB.out | apply below_alloc | apply pw_below_drewN | apply below_drew1) | exact HB.out)⟩
   ·replace c6 := Bool.eq_false_iff.mpr c6
    subst c6
    replace H := itF H
    obtain ⟨ji7, hji7⟩ : ∃ j_ : Int, (wrap64 ((a0.size : Int) - 8)) = j_ := ⟨_, rfl⟩
    first | rw [hji7] at H | simp only [hji7] at H
    have hji7w : (IntKind.i64.wrap ((a0.size : Int) - 8)) = ji7 := (i64_w _).trans hji7
    replace H := itO H
    rcases H with ⟨c8, H⟩ | ⟨c8, H⟩
    ·skip
     have c8b0 := eq_true c8
     have c8b1 := decide_eq_true c8
     clear c8
     replace H := itO H
     rcases H with ⟨c9, H⟩ | ⟨c9, H⟩
     ·skip
      have c9b0 := eq_true c9
      have c9b1 := decide_eq_true c9
      clear c9
      replace H := bndO H
      obtain ⟨⟨t190, t191⟩, A100, H⟩ := H
      dsimp only at H
      have A10 := Aside0.mk A100
      clear A100
      replace H := itO H
      rcases H with ⟨c11, H⟩ | ⟨c11, H⟩
      ·skip
       have c11b0 := eq_true c11
       have c11b1 := decide_eq_true c11
       clear c11
       have c12b0 := eq_true (of_decide_eq_true (by first | (with_reducible assumption) | assumption) : (ji7) ≤ (a0.size : Int))
       replace H := bndO H
       obtain ⟨⟨t192, t193, t194⟩, A130, H⟩ := H
       dsimp only at H
       have A13 := Aside0.mk A130
       clear A130
       have HC14 := Aside0.mk H
       clear H
       go_upto_region 5 with (first | ((with_reducible refine gate_callee (f := 61) rfl ?_); refine goesL_ (some 24) rfl rfl Tryd.func61 (by kernel_rfl) rfl #[.string (a0.extract ((ji7) : Int).toNat a0.size)] rfl (by (try simp only [List.map_toArray, List.map_cons, List.map_nil]); first | done | (simp only [hji7]; rfl) | rfl | (simp only [List.length_drop, List.length_take]; rfl)) ?_; (with_reducible refine (meta_get.calls kj2 (a0.extract ((ji7) : Int).toNat a0.size) t190 t191 _ A10.out).mono ?_); rintro e w15 ⟨rfl, hb⟩; refine ⟨_, rfl, ?_⟩; have n0_ := Aside0.mk (below_step (by repeat (first | (with_reducible first | exact HB.out | apply below_alloc | apply pw_below_drewN | apply below_drew1) | exact HB.out)) hb); clear HB; have HB := n0_; clear n0_; (try clear hb); (try clear hb2); (try clear hk); (try clear hi)) | ((with_reducible refine gate_callee (f := 101) rfl ?_); refine goesL_ (some 33) rfl rfl Tryd.func101 (by kernel_rfl) rfl #[.string (a0.extract 1 ((ji7) : Int).toNat), .string (⟨#[0]⟩ : ByteArray)] rfl (by (try simp only [List.map_toArray, List.map_cons, List.map_nil]); first | done | (simp only [hji7]; rfl) | rfl | (simp only [List.length_drop, List.length_take]; rfl)) ?_; (with_reducible refine (strings_Cut.calls (a0.extract 1 ((ji7) : Int).toNat) (⟨#[0]⟩ : ByteArray) t192 t193 t194 _ A13.out).mono ?_); rintro e w' ⟨rfl, ⟨nd, rfl⟩⟩; refine ⟨_, rfl, ?_⟩))
       (try simp only [Act.put, List.setIfInBounds_toArray, List.set_cons_zero, List.set_cons_succ])
       go_cut [47] (fun v47 wc => ∃ (kq : Nat) (x47_13 : Bool), v47 = .bool x47_13 ∧ Aside0 (meta_three.j1 kq t192 t193 t190 x47_13 = some (r1, r2, r3, r4)) ∧ Aside0 (kq ≤ kj2) ∧ Aside0 (Below w.heap.size w wc))
       case first =>
        have H := HC14.out
        clear HC14
        by_cases c16 : t191 = true
        ·subst c16
         replace H := itT H
         by_cases c17 : t194 = true
         ·subst c17
          replace H := itT H
          replace H := bndO H
          obtain ⟨t195, A180, H⟩ := H
          have A18 := Aside0.mk A180
          clear A180
          have H' := Aside0.mk H
          clear H
          go_wp2_with (first | (go_at_call 102; (with_reducible refine (strings_HasSuffix.calls t193 (⟨#[0]⟩ : ByteArray) t195 _ A18.out).mono ?_); rintro e w' ⟨rfl, ⟨nd, rfl⟩⟩))
          go_meet
          case rel => exact ⟨_, (!t195), (by first | rfl | (simp; done) | (simp [*]; done)), H', ⟨by have := HJ2.out; first | omega | exact Nat.le_refl _⟩, ⟨by repeat (first | (with_reducible first | exact HB.out | apply below_alloc | apply pw_below_drewN | apply below_drew1) | exact HB.out)⟩⟩
         ·replace c17 := Bool.eq_false_iff.mpr c17
          subst c17
          replace H := itF H
          have H' := Aside0.mk H
          clear H
          go_wp2
          go_meet
          case rel => exact ⟨_, (true), (by first | rfl | (simp; done) | (simp [*]; done)), H', ⟨by have := HJ2.out; first | omega | exact Nat.le_refl _⟩, ⟨by repeat (first | (with_reducible first | exact HB.out | apply below_alloc | apply pw_below_drewN | apply below_drew1) | exact HB.out)⟩⟩
        ·replace c16 := Bool.eq_false_iff.mpr c16
         subst c16
         replace H := itF H
         have H' := Aside0.mk H
         clear H
         go_wp2
         go_meet
         case rel => exact ⟨_, (true), (by first | rfl | (simp; done) | (simp [*]; done)), H', ⟨by have := HJ2.out; first | omega | exact Nat.le_refl _⟩, ⟨by repeat (first | (with_reducible first | exact HB.out | apply below_alloc | apply pw_below_drewN | apply below_drew1) | exact HB.out)⟩⟩
       case rest =>
        clear HC14
        try clear c1
        try clear p2
        try clear c5
        try clear c6
        try clear p6
        try clear c8
        try clear c8b0
        try clear c8b1
        try clear c9
        try clear c9b0
        try clear c9b1
        try clear c10
        try clear c11
        try clear c11b0
        try clear c11b1
        try clear c12
        try clear c12b0
        try clear c16
        try clear c17
        try clear p2
        obtain ⟨kq, x47_13, rfl, HA, HJ13, HB⟩ := hcut
        cases kq with
        | zero => exact absurd HA.out (by simp [meta_three.j1])
        | succ kj13 =>
         have H := HA.out
         clear HA
         simp only [meta_three.j1] at H
         by_cases c19 : x47_13 = true
         ·subst c19
          replace H := itT H
          simp only [Option.some.injEq, Prod.mk.injEq] at H
          obtain ⟨rfl, rfl, rfl, rfl⟩ := H
          go_wp2
          refine bodyPost_ret (results_list (rs := [.tmp 4, .tmp 5, .tmp 6, .tmp 7]) rfl (by simp) (.tmp (.tmp (.tmp (.tmp .nil))))) rfl ?_
          exact ⟨by first | rfl | (simp [errW_none, errW_some] <;> rfl) | (simp only [← hji7]; first | rfl | (simp [errW_none, errW_some] <;> rfl)) | (simp [*, errW_none, errW_some] <;> rfl), by repeat (first | (with_reducible first | exact HB.out | apply below_alloc | apply pw_below_drewN | apply below_drew1) | exact HB.out)⟩
         ·replace c19 := Bool.eq_false_iff.mpr c19
          subst c19
          replace H := itF H
          obtain ⟨ji20, hji20⟩ : ∃ j_ : Int, (wrap64 ((t193.size : Int) - 1)) = j_ := ⟨_, rfl⟩
          first | rw [hji20] at H | simp only [hji20] at H
          have hji20w : (IntKind.i64.wrap ((t193.size : Int) - 1)) = ji20 := (i64_w _).trans hji20
          replace H := itO H
          rcases H with ⟨c21, H⟩ | ⟨c21, H⟩
          ·skip
           have c21b0 := eq_true c21
           have c21b1 := decide_eq_true c21
           clear c21
           replace H := itO H
           rcases H with ⟨c22, H⟩ | ⟨c22, H⟩
           ·skip
            have c22b0 := eq_true c22
            have c22b1 := decide_eq_true c22
            clear c22
            replace H := bndO H
            obtain ⟨t196, A230, H⟩ := H
            have A23 := Aside0.mk A230
            clear A230
            by_cases c24 : t196 = true
            ·subst c24
             replace H := itT H
             replace H := bndO H
             obtain ⟨t197, A250, H⟩ := H
             have A25 := Aside0.mk A250
             clear A250
             by_cases c26 : t197 = true
             ·subst c26
              replace H := itT H
              simp only [Option.some.injEq, Prod.mk.injEq] at H
              obtain ⟨rfl, rfl, rfl, rfl⟩ := H
              go_wp2_with (first | ((with_reducible refine gate_callee (f := 56) rfl ?_); refine goesL_ (some 54) rfl rfl Tryd.func56 (by kernel_rfl) rfl #[.string t192] rfl (by (try simp only [List.map_toArray, List.map_cons, List.map_nil]); first | done | rfl | (simp only [List.length_drop, List.length_take]; rfl)) ?_; (with_reducible refine (chars_Bucket.calls kj13 t192 true _ A23.out).mono ?_); rintro e w27 ⟨rfl, hb⟩; refine ⟨_, rfl, ?_⟩; have n0_ := Aside0.mk (below_step (by repeat (first | (with_reducible first | exact HB.out | apply below_alloc | apply pw_below_drewN | apply below_drew1) | exact HB.out)) hb); clear HB; have HB := n0_; clear n0_; (try clear hb); (try clear hb2); (try clear hk); (try clear hi)) | (go_at_call 103; (with_reducible refine (chars_Key.calls (t193.extract 0 ((ji20) : Int).toNat) true _ A25.out).mono ?_); rintro e w28 ⟨rfl, hb⟩; have n0_ := Aside0.mk (below_step (by repeat (first | (with_reducible first | exact HB.out | apply below_alloc | apply pw_below_drewN | apply below_drew1) | exact HB.out)) hb); clear HB; have HB := n0_; clear n0_; (try clear hb); (try clear hb2); (try clear hk); (try clear hi)))
              refine bodyPost_ret (results_list (rs := [.tmp 4, .tmp 5, .tmp 6, .tmp 7]) rfl (by simp) (.tmp (.tmp (.tmp (.tmp .nil))))) rfl ?_
              exact ⟨by first | rfl | (simp [errW_none, errW_some] <;> rfl) | (simp only [← hji7, ← hji20]; first | rfl | (simp [errW_none, errW_some] <;> rfl)) | (simp [*, errW_none, errW_some] <;> rfl), by repeat (first | (with_reducible first | exact HB.out | apply below_alloc | apply pw_below_drewN | apply below_drew1) | exact HB.out)⟩
             ·replace c26 := Bool.eq_false_iff.mpr c26
              subst c26
              replace H := itF H
              simp only [Option.some.injEq, Prod.mk.injEq] at H
              obtain ⟨rfl, rfl, rfl, rfl⟩ := H
              go_wp2_with (first | ((with_reducible refine gate_callee (f := 56) rfl ?_); refine goesL_ (some 54) rfl rfl Tryd.func56 (by kernel_rfl) rfl #[.string t192] rfl (by (try simp only [List.map_toArray, List.map_cons, List.map_nil]); first | done | rfl | (simp only [List.length_drop, List.length_take]; rfl)) ?_; (with_reducible refine (chars_Bucket.calls kj13 t192 true _ A23.out).mono ?_); rintro e w29 ⟨rfl, hb⟩; refine ⟨_, rfl, ?_⟩; have n0_ := Aside0.mk (below_step (by repeat (first | (with_reducible first | exact HB.out | apply below_alloc | apply pw_below_drewN | apply below_drew1) | exact HB.out)) hb); clear HB; have HB := n0_; clear n0_; (try clear hb); (try clear hb2); (try clear hk); (try clear hi)) | (go_at_call 103; (with_reducible refine (chars_Key.calls (t193.extract 0 ((ji20) : Int).toNat) false _ A25.out).mono ?_); rintro e w30 ⟨rfl, hb⟩; have n0_ := Aside0.mk (below_step (by repeat (first | (with_reducible first | exact HB.out | apply below_alloc | apply pw_below_drewN | apply below_drew1) | exact HB.out)) hb); clear HB; have HB := n0_; clear n0_; (try clear hb); (try clear hb2); (try clear hk); (try clear hi)))
              refine bodyPost_ret (results_list (rs := [.tmp 4, .tmp 5, .tmp 6, .tmp 7]) rfl (by simp) (.tmp (.tmp (.tmp (.tmp .nil))))) rfl ?_
              exact ⟨by first | rfl | (simp [errW_none, errW_some] <;> rfl) | (simp only [← hji7, ← hji20]; first | rfl | (simp [errW_none, errW_some] <;> rfl)) | (simp [*, errW_none, errW_some] <;> rfl), by repeat (first | (with_reducible first | exact HB.out | apply below_alloc | apply pw_below_drewN | apply below_drew1) | exact HB.out)⟩
            ·replace c24 := Bool.eq_false_iff.mpr c24
             subst c24
             replace H := itF H
             simp only [Option.some.injEq, Prod.mk.injEq] at H
             obtain ⟨rfl, rfl, rfl, rfl⟩ := H
             go_wp2_with (first | ((with_reducible refine gate_callee (f := 56) rfl ?_); refine goesL_ (some 54) rfl rfl Tryd.func56 (by kernel_rfl) rfl #[.string t192] rfl (by (try simp only [List.map_toArray, List.map_cons, List.map_nil]); first | done | rfl | (simp only [List.length_drop, List.length_take]; rfl)) ?_; (with_reducible refine (chars_Bucket.calls kj13 t192 false _ A23.out).mono ?_); rintro e w31 ⟨rfl, hb⟩; refine ⟨_, rfl, ?_⟩; have n0_ := Aside0.mk (below_step (by repeat (first | (with_reducible first | exact HB.out | apply below_alloc | apply pw_below_drewN | apply below_drew1) | exact HB.out)) hb); clear HB; have HB := n0_; clear n0_; (try clear hb); (try clear hb2); (try clear hk); (try clear hi)))
             refine bodyPost_ret (results_list (rs := [.tmp 4, .tmp 5, .tmp 6, .tmp 7]) rfl (by simp) (.tmp (.tmp (.tmp (.tmp .nil))))) rfl ?_
             exact ⟨by first | rfl | (simp [errW_none, errW_some] <;> rfl) | (simp only [← hji7, ← hji20]; first | rfl | (simp [errW_none, errW_some] <;> rfl)) | (simp [*, errW_none, errW_some] <;> rfl), by repeat (first | (with_reducible first | exact HB.out | apply below_alloc | apply pw_below_drewN | apply below_drew1) | exact HB.out)⟩
           ·exact absurd H (by simp)
          ·exact absurd H (by simp)
      ·exact absurd H (by simp)
     ·exact absurd H (by simp)
    ·exact absurd H (by simp)
end Go.Proofs.YtieejapamkokaaaDoor.Q


namespace Go.Proofs.YtieejapamkokaaaDoor.Q
open Go.RowKit Go.Proofs.YtieejapamkokaaaDoorW.PrintWords Go.Proofs.YtieejapamkokaaaDoorW.PrintLast Go.Proofs.YtieejapamkokaaaDoorW.PrintMore
set_option linter.unusedVariables false
set_option linter.unusedSimpArgs false
attribute [local go_sem] max2_int min2_int max_two min_two max_three min_three max_four min_four   
def meta_ParseObject.f (k : Nat) (a0 : ByteArray) : Option (ByteArray × ByteArray × Int × Bool) := (meta_three.f k a0 (⟨#[79]⟩ : ByteArray)).bind fun bt198 => (if bt198.2.2.2 = true then (some (bt198.1, bt198.2.1, wrap64 (9223372036854775807 - bt198.2.2.1), bt198.2.2.2)) else (some (bt198.1, bt198.2.1, bt198.2.2.1, bt198.2.2.2)))
theorem meta_ParseObject.mono : ∀ a0 k, LeO (meta_ParseObject.f k a0) (meta_ParseObject.f (k + 1) a0) := by
 intro a0 k
 unfold meta_ParseObject.f
 repeat' first
   | (with_reducible exact meta_three.mono _ _ _)
   | (with_reducible exact LeO.refl _)
   | (with_reducible exact LeO.none _)
   | (with_reducible refine LeO.ite ?_ ?_)
   | (with_reducible refine LeO.bind ?_ (fun _ => ?_))
   | exact meta_three.mono _ _ _
   | exact LeO.none _
   | refine LeO.ite ?_ ?_
   | refine LeO.bind ?_ (fun _ => ?_)
set_option maxHeartbeats 8000000 in
set_option maxRecDepth 100000 in
theorem meta_ParseObject.calls (k : Nat) (a0 : ByteArray) (r1 : ByteArray) (r2 : ByteArray) (r3 : Int) (r4 : Bool) (w : World) (h : meta_ParseObject.f k a0 = some (r1, r2, r3, r4)) :
  Calls Tryd.prog 24 #[.string a0] w fun e w' => e = .returned (.tuple #[.string r1, .string r2, .int .i64 r3, .bool r4]) ∧ Below w.heap.size w w' := by
 have HB := Aside0.mk (Below.refl w.heap.size w)
 unfold meta_ParseObject.f at h
 have H := h
 clear h
 replace H := bndO H
 obtain ⟨⟨t198, t199, t200, t201⟩, A20, H⟩ := H
 dsimp only at H
 have A2 := Aside0.mk A20
 clear A20
 by_cases c3 : t201 = true
 ·subst c3
  replace H := itT H
  simp only [Option.some.injEq, Prod.mk.injEq] at H
  obtain ⟨rfl, rfl, rfl, rfl⟩ := H
  go_enter Tryd.func24, Tryd.ntmps24
  go_wp2_with (first | ((with_reducible refine gate_callee (f := 57) rfl ?_); refine goesL_ (some 8) rfl rfl Tryd.func57 (by kernel_rfl) rfl #[.string a0, .string (⟨#[79]⟩ : ByteArray)] rfl (by (try simp only [List.map_toArray, List.map_cons, List.map_nil]); first | done | rfl | (simp only [List.length_drop, List.length_take]; rfl)) ?_; (with_reducible refine (meta_three.calls k a0 (⟨#[79]⟩ : ByteArray) t198 t199 t200 true _ A2.out).mono ?_); rintro e w4 ⟨rfl, hb⟩; refine ⟨_, rfl, ?_⟩; have n0_ := Aside0.mk (below_step (by repeat (first | (with_reducible first | exact HB.out | apply below_alloc | apply pw_below_drewN | apply below_drew1) | exact HB.out)) hb); clear HB; have HB := n0_; clear n0_; (try clear hb); (try clear hb2); (try clear hk); (try clear hi)))
  refine bodyPost_ret (results_list (rs := [.tmp 2, .tmp 3, .tmp 4, .tmp 5]) rfl (by simp) (.tmp (.tmp (.tmp (.tmp .nil))))) rfl ?_
  exact ⟨by first | rfl | (simp [errW_none, errW_some] <;> rfl) | (simp [*, errW_none, errW_some] <;> rfl), by repeat (first | (with_reducible first | exact HB.out | apply below_alloc | apply pw_below_drewN | apply below_drew1) | exact HB.out)⟩
 ·replace c3 := Bool.eq_false_iff.mpr c3
  subst c3
  replace H := itF H
  simp only [Option.some.injEq, Prod.mk.injEq] at H
  obtain ⟨rfl, rfl, rfl, rfl⟩ := H
  go_enter Tryd.func24, Tryd.ntmps24
  go_wp2_with (first | ((with_reducible refine gate_callee (f := 57) rfl ?_); refine goesL_ (some 8) rfl rfl Tryd.func57 (by kernel_rfl) rfl #[.string a0, .string (⟨#[79]⟩ : ByteArray)] rfl (by (try simp only [List.map_toArray, List.map_cons, List.map_nil]); first | done | rfl | (simp only [List.length_drop, List.length_take]; rfl)) ?_; (with_reducible refine (meta_three.calls k a0 (⟨#[79]⟩ : ByteArray) t198 t199 t200 false _ A2.out).mono ?_); rintro e w5 ⟨rfl, hb⟩; refine ⟨_, rfl, ?_⟩; have n0_ := Aside0.mk (below_step (by repeat (first | (with_reducible first | exact HB.out | apply below_alloc | apply pw_below_drewN | apply below_drew1) | exact HB.out)) hb); clear HB; have HB := n0_; clear n0_; (try clear hb); (try clear hb2); (try clear hk); (try clear hi)))
  refine bodyPost_ret (results_list (rs := [.tmp 2, .tmp 3, .tmp 4, .tmp 5]) rfl (by simp) (.tmp (.tmp (.tmp (.tmp .nil))))) rfl ?_
  exact ⟨by first | rfl | (simp [errW_none, errW_some] <;> rfl) | (simp [*, errW_none, errW_some] <;> rfl), by repeat (first | (with_reducible first | exact HB.out | apply below_alloc | apply pw_below_drewN | apply below_drew1) | exact HB.out)⟩
end Go.Proofs.YtieejapamkokaaaDoor.Q
