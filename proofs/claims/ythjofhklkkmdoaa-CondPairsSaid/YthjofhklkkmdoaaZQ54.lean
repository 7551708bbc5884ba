/- A part of the proof of the seat's laws. No condition beyond those in the theorems. -/
import Derived.Test.YthjofhklkkmdoaaZXWg2
import Derived.Test.YthjofhklkkmdoaaZQ45
import Derived.Test.YthjofhklkkmdoaaZQ46
import Derived.Test.YthjofhklkkmdoaaZQ52
import Derived.Test.YthjofhklkkmdoaaZQ53

namespace Go.Proofs.Ythjofhklkkmdoaa.Q
open Go.RowKit Go.Proofs.YthjofhklkkmdoaaW.PrintWords Go.Proofs.YthjofhklkkmdoaaW.PrintLast Go.Proofs.YthjofhklkkmdoaaW.PrintMore
set_option linter.unusedVariables false
set_option linter.unusedSimpArgs false
attribute [local go_sem] max2_int min2_int max_two min_two max_three min_three max_four min_four   
mutual
def stowagelaw21_CondPairs.j0 : Nat → ByteArray → ByteArray → Int → Bool → Bool → Option (Bool)
 | 0, _, _, _, _, _ => none
 | k + 1, x0, x1, x2, x3, x21 => if x21 = true then ((stowagelaw21_awake.f k).bind fun t297 => (some t297)) else ((stowagelaw21_CondPairs_1.f x1).bind fun t298 => ((cond_Ask.f k (([(⟨(⟨#[105, 102, 45, 109, 97, 116, 99, 104]⟩ : ByteArray), t298⟩ : S41)] : List (S41))) x0 x2 x3).bind fun t302 => ((stowagelaw21_CondPairs_1.f x1).bind fun t303 => ((cond_Ask.f k (([(⟨(⟨#[105, 102, 45, 110, 111, 110, 101, 45, 109, 97, 116, 99, 104]⟩ : ByteArray), t303⟩ : S41)] : List (S41))) x0 x2 x3).bind fun t307 => (if x0.toList = x1.toList then (stowagelaw21_CondPairs.j1 k x3 t302 t307 true) else (stowagelaw21_CondPairs.j1 k x3 t302 t307 (x0.toList == ([122, 122] : List UInt8))))))))
def stowagelaw21_CondPairs.j1 : Nat → Bool → Int → Int → Bool → Option (Bool)
 | 0, _, _, _, _ => none
 | k + 1, x3, x10, x11, x12 => if x3 = true then (stowagelaw21_CondPairs.j2 k x10 x11 x12 328) else (stowagelaw21_CondPairs.j2 k x10 x11 x12 327)
def stowagelaw21_CondPairs.j2 : Nat → Int → Int → Bool → Int → Option (Bool)
 | 0, _, _, _, _ => none
 | k + 1, x10, x11, x12, x13 => if x12 = true then (if x10 = 0 then (if x11 = x13 then ((stowagelaw21_awake.f k).bind fun t308 => (some t308)) else (some false)) else (some false)) else (if x10 = 327 then (if x11 = 0 then ((stowagelaw21_awake.f k).bind fun t309 => (some t309)) else (some false)) else (some false))
end
def stowagelaw21_CondPairs.f (k : Nat) (a0 : ByteArray) (a1 : ByteArray) (a2 : Int) (a3 : Bool) : Option (Bool) := (stowagelaw21_plain.f k a0).bind fun t295 => (if t295 = true then ((stowagelaw21_plain.f k a1).bind fun t296 => (stowagelaw21_CondPairs.j0 k a0 a1 a2 a3 (!t296))) else (stowagelaw21_CondPairs.j0 k a0 a1 a2 a3 true))
theorem stowagelaw21_CondPairs.mono_l : ∀ k, (∀ y0 y1 y2 y3 y4, LeO (stowagelaw21_CondPairs.j0 k y0 y1 y2 y3 y4) (stowagelaw21_CondPairs.j0 (k + 1) y0 y1 y2 y3 y4)) ∧ (∀ y0 y1 y2 y3, LeO (stowagelaw21_CondPairs.j1 k y0 y1 y2 y3) (stowagelaw21_CondPairs.j1 (k + 1) y0 y1 y2 y3)) ∧ (∀ y0 y1 y2 y3, LeO (stowagelaw21_CondPairs.j2 k y0 y1 y2 y3) (stowagelaw21_CondPairs.j2 (k + 1) y0 y1 y2 y3))
 | 0 => ⟨fun _ _ _ _ _ r h => by simp [stowagelaw21_CondPairs.j0] at h, fun _ _ _ _ r h => by simp [stowagelaw21_CondPairs.j1] at h, fun _ _ _ _ r h => by simp [stowagelaw21_CondPairs.j2] at h⟩
 | k + 1 => by
  obtain ⟨ih0, ih1, ih2⟩ := stowagelaw21_CondPairs.mono_l k
  refine ⟨?_, ?_, ?_⟩
  ·intro y0 y1 y2 y3 y4
   unfold stowagelaw21_CondPairs.j0
   repeat' first
   | (with_reducible exact ih0 _ _ _ _ _)
   | (with_reducible exact ih1 _ _ _ _)
   | (with_reducible exact ih2 _ _ _ _)
   | (with_reducible exact cond_Ask.mono _ _ _ _ _)
   | (with_reducible exact stowagelaw21_awake.mono _)
   | (with_reducible exact stowagelaw21_plain.mono _ _)
   | (with_reducible exact LeO.refl _)
   | (with_reducible exact LeO.none _)
   | (with_reducible refine LeO.ite ?_ ?_)
   | (with_reducible refine LeO.bind ?_ (fun _ => ?_))
   | exact ih0 _ _ _ _ _
   | exact ih1 _ _ _ _
   | exact ih2 _ _ _ _
   | exact cond_Ask.mono _ _ _ _ _
   | exact stowagelaw21_awake.mono _
   | exact stowagelaw21_plain.mono _ _
   | exact LeO.none _
   | refine LeO.ite ?_ ?_
   | refine LeO.bind ?_ (fun _ => ?_)
  ·intro y0 y1 y2 y3
   unfold stowagelaw21_CondPairs.j1
   repeat' first
   | (with_reducible exact ih0 _ _ _ _ _)
   | (with_reducible exact ih1 _ _ _ _)
   | (with_reducible exact ih2 _ _ _ _)
   | (with_reducible exact cond_Ask.mono _ _ _ _ _)
   | (with_reducible exact stowagelaw21_awake.mono _)
   | (with_reducible exact stowagelaw21_plain.mono _ _)
   | (with_reducible exact LeO.refl _)
   | (with_reducible exact LeO.none _)
   | (with_reducible refine LeO.ite ?_ ?_)
   | (with_reducible refine LeO.bind ?_ (fun _ => ?_))
   | exact ih0 _ _ _ _ _
   | exact ih1 _ _ _ _
   | exact ih2 _ _ _ _
   | exact cond_Ask.mono _ _ _ _ _
   | exact stowagelaw21_awake.mono _
   | exact stowagelaw21_plain.mono _ _
   | exact LeO.none _
   | refine LeO.ite ?_ ?_
   | refine LeO.bind ?_ (fun _ => ?_)
  ·intro y0 y1 y2 y3
   unfold stowagelaw21_CondPairs.j2
   repeat' first
   | (with_reducible exact ih0 _ _ _ _ _)
   | (with_reducible exact ih1 _ _ _ _)
   | (with_reducible exact ih2 _ _ _ _)
   | (with_reducible exact cond_Ask.mono _ _ _ _ _)
   | (with_reducible exact stowagelaw21_awake.mono _)
   | (with_reducible exact stowagelaw21_plain.mono _ _)
   | (with_reducible exact LeO.refl _)
   | (with_reducible exact LeO.none _)
   | (with_reducible refine LeO.ite ?_ ?_)
   | (with_reducible refine LeO.bind ?_ (fun _ => ?_))
   | exact ih0 _ _ _ _ _
   | exact ih1 _ _ _ _
   | exact ih2 _ _ _ _
   | exact cond_Ask.mono _ _ _ _ _
   | exact stowagelaw21_awake.mono _
   | exact stowagelaw21_plain.mono _ _
   | exact LeO.none _
   | refine LeO.ite ?_ ?_
   | refine LeO.bind ?_ (fun _ => ?_)
theorem stowagelaw21_CondPairs.mono : ∀ a0 a1 a2 a3 k, LeO (stowagelaw21_CondPairs.f k a0 a1 a2 a3) (stowagelaw21_CondPairs.f (k + 1) a0 a1 a2 a3) := by
 intro a0 a1 a2 a3 k
 obtain ⟨ih0, ih1, ih2⟩ := stowagelaw21_CondPairs.mono_l k
 unfold stowagelaw21_CondPairs.f
 repeat' first
   | (with_reducible exact ih0 _ _ _ _ _)
   | (with_reducible exact ih1 _ _ _ _)
   | (with_reducible exact ih2 _ _ _ _)
   | (with_reducible exact cond_Ask.mono _ _ _ _ _)
   | (with_reducible exact stowagelaw21_awake.mono _)
   | (with_reducible exact stowagelaw21_plain.mono _ _)
   | (with_reducible exact LeO.refl _)
   | (with_reducible exact LeO.none _)
   | (with_reducible refine LeO.ite ?_ ?_)
   | (with_reducible refine LeO.bind ?_ (fun _ => ?_))
   | exact ih0 _ _ _ _ _
   | exact ih1 _ _ _ _
   | exact ih2 _ _ _ _
   | exact cond_Ask.mono _ _ _ _ _
   | exact stowagelaw21_awake.mono _
   | exact stowagelaw21_plain.mono _ _
   | exact LeO.none _
   | refine LeO.ite ?_ ?_
   | refine LeO.bind ?_ (fun _ => ?_)
set_option maxHeartbeats 8000000 in
set_option maxRecDepth 100000 in
theorem stowagelaw21_CondPairs.calls (k : Nat) (a0 : ByteArray) (a1 : ByteArray) (a2 : Int) (a3 : Bool) (r : Bool) (w : World) (hG : GOk w) (h : stowagelaw21_CondPairs.f k a0 a1 a2 a3 = some r) (hr : r = true) :
  Calls Try.prog 5 #[.string a0, .string a1, .int .i64 a2, .bool a3] w fun e w' => e = .returned (.bool r) ∧ Below w.heap.size w w' := by
 have hu41 := Try.underlying41
 have HB := Aside0.mk (Below.refl w.heap.size w)
 have H : ((stowagelaw21_plain.f k a0).bind fun t295 => (if t295 = true then ((stowagelaw21_plain.f k a1).bind fun t296 => (stowagelaw21_CondPairs.j0 k a0 a1 a2 a3 (!t296))) else (stowagelaw21_CondPairs.j0 k a0 a1 a2 a3 true))) = some r := h
 clear h
 have HC5 := Aside0.mk H
 clear H
 go_enter Try.func5, Try.ntmps5
 go_upto_region 1 with (fail)
 go_cut [21] (fun v21 wc => ∃ (kq : Nat) (x21_4 : Bool), v21 = .bool x21_4 ∧ Aside0 (stowagelaw21_CondPairs.j0 kq a0 a1 a2 a3 x21_4 = some r) ∧ Aside0 (kq ≤ k) ∧ Aside0 (Below w.heap.size w wc))
 case first =>
  have H := HC5.out
  clear HC5
  replace H := Option.bind_eq_some_iff.mp H
  obtain ⟨t295, A60, H⟩ := H
  replace H : (if t295 = true then ((stowagelaw21_plain.f k a1).bind fun t296 => (stowagelaw21_CondPairs.j0 k a0 a1 a2 a3 (!t296))) else (stowagelaw21_CondPairs.j0 k a0 a1 a2 a3 true)) = some r := H
  have A6 := Aside0.mk A60
  clear A60
  by_cases c7 : t295 = true
  ·subst c7
   have H1 : ((stowagelaw21_plain.f k a1).bind fun t296 => (stowagelaw21_CondPairs.j0 k a0 a1 a2 a3 (!t296))) = some r := by rw [if_pos rfl] at H; exact H
   clear H
   have H := H1
   clear H1
   replace H := Option.bind_eq_some_iff.mp H
   obtain ⟨t296, A80, H⟩ := H
   replace H : (stowagelaw21_CondPairs.j0 k a0 a1 a2 a3 (!t296)) = some r := H
   have A8 := Aside0.mk A80
   clear A80
   have H' := Aside0.mk H
   clear H
   go_wp2_with (first | ((with_reducible refine gate_callee (f := 17) rfl ?_); refine goesL_ (some 15) rfl rfl Try.func17 (by kernel_rfl) rfl #[.string a0] rfl (by (try simp only [List.map_toArray, List.map_cons, List.map_nil]); first | done | rfl | (simp only [List.length_drop, List.length_take]; rfl)) ?_; (with_reducible refine (stowagelaw21_plain.calls k a0 true _ A6.out).mono ?_); rintro e w' ⟨rfl, ⟨nd, rfl⟩⟩; refine ⟨_, rfl, ?_⟩) | (go_at_call 17; (with_reducible refine (stowagelaw21_plain.calls k a1 t296 _ A8.out).mono ?_); rintro e w' ⟨rfl, ⟨nd, rfl⟩⟩))
   go_meet
   case rel => exact ⟨_, (!t296), (by first | rfl | (simp; done) | (simp [*]; done)), H', ⟨by first | omega | exact Nat.le_refl _⟩, ⟨by repeat (first | (with_reducible first | exact HB.out | apply below_alloc | apply pw_below_drewN | apply below_drew1) | exact HB.out)⟩⟩
  ·replace c7 := Bool.eq_false_iff.mpr c7
   subst c7
   have H1 : (stowagelaw21_CondPairs.j0 k a0 a1 a2 a3 true) = some r := by rw [if_neg (show ¬ (false = true) by decide)] at H; exact H
   clear H
   have H := H1
   clear H1
   have H' := Aside0.mk H
   clear H
   go_wp2_with (first | ((with_reducible refine gate_callee (f := 17) rfl ?_); refine goesL_ (some 15) rfl rfl Try.func17 (by kernel_rfl) rfl #[.string a0] rfl (by (try simp only [List.map_toArray, List.map_cons, List.map_nil]); first | done | rfl | (simp only [List.length_drop, List.length_take]; rfl)) ?_; (with_reducible refine (stowagelaw21_plain.calls k a0 false _ A6.out).mono ?_); rintro e w' ⟨rfl, ⟨nd, rfl⟩⟩; refine ⟨_, rfl, ?_⟩))
   go_meet
   case rel => exact ⟨_, (true), (by first | rfl | (simp; done) | (simp [*]; done)), H', ⟨by first | omega | exact Nat.le_refl _⟩, ⟨by repeat (first | (with_reducible first | exact HB.out | apply below_alloc | apply pw_below_drewN | apply below_drew1) | exact HB.out)⟩⟩
 case rest =>
  clear HC5
  try clear c1
  try clear p2
  try clear c5
  try clear c7
  obtain ⟨kq, x21_4, rfl, HA, HJ4, HB⟩ := hcut
  cases kq with
  | zero => exact absurd HA.out (by simp [stowagelaw21_CondPairs.j0])
  | succ kj4 =>
   have H := HA.out
   clear HA
   simp only [stowagelaw21_CondPairs.j0] at H
   by_cases c9 : x21_4 = true
   ·subst c9
    have H1 : ((stowagelaw21_awake.f kj4).bind fun t297 => (some t297)) = some r := by rw [if_pos rfl] at H; exact H
    clear H
    have H := H1
    clear H1
    replace H := Option.bind_eq_some_iff.mp H
    obtain ⟨t297, A100, H⟩ := H
    replace H : (some t297) = some r := H
    have A10 := Aside0.mk A100
    clear A100
    clear hr
    obtain rfl := Option.some.inj H
    go_wp2_with (first | ((with_reducible refine gate_callee (f := 14) rfl ?_); refine goesL_ (some 22) rfl rfl Try.func14 (by kernel_rfl) rfl #[] rfl (by (try simp only [List.map_toArray, List.map_cons, List.map_nil]); first | done | rfl | (simp only [List.length_drop, List.length_take]; rfl)) ?_; (with_reducible refine (stowagelaw21_awake.calls kj4  t297 _ (by first | exact hG | exact gok_below hG (by repeat (first | (with_reducible first | exact HB.out | apply below_alloc | apply pw_below_drewN | apply below_drew1) | exact HB.out)) | exact gok_drewN hG _ | exact gok_below hG (by repeat (first | exact HB.out | exact HBW.out | exact Below.refl _ _ | apply below_alloc | apply pw_below_drewN | apply below_drew1))) A10.out).mono ?_); rintro e w11 ⟨rfl, hb⟩; refine ⟨_, rfl, ?_⟩; have n0_ := Aside0.mk (below_step (by repeat (first | (with_reducible first | exact HB.out | apply below_alloc | apply pw_below_drewN | apply below_drew1) | exact HB.out)) hb); clear HB; have HB := n0_; clear n0_; (try clear hb); (try clear hb2); (try clear hk); (try clear hi)))
    go_ret
    exact ⟨by first | rfl | (simp [errW_none, errW_some] <;> rfl) | (simp [*, errW_none, errW_some] <;> rfl), by repeat (first | (with_reducible first | exact HB.out | apply below_alloc | apply pw_below_drewN | apply below_drew1) | exact HB.out)⟩
   ·replace c9 := Bool.eq_false_iff.mpr c9
    subst c9
    have H1 : ((stowagelaw21_CondPairs_1.f a1).bind fun t298 => ((cond_Ask.f kj4 (([(⟨(⟨#[105, 102, 45, 109, 97, 116, 99, 104]⟩ : ByteArray), t298⟩ : S41)] : List (S41))) a0 a2 a3).bind fun t302 => ((stowagelaw21_CondPairs_1.f a1).bind fun t303 => ((cond_Ask.f kj4 (([(⟨(⟨#[105, 102, 45, 110, 111, 110, 101, 45, 109, 97, 116, 99, 104]⟩ : ByteArray), t303⟩ : S41)] : List (S41))) a0 a2 a3).bind fun t307 => (if a0.toList = a1.toList then (stowagelaw21_CondPairs.j1 kj4 a3 t302 t307 true) else (stowagelaw21_CondPairs.j1 kj4 a3 t302 t307 (a0.toList == ([122, 122] : List UInt8)))))))) = some r := by rw [if_neg (show ¬ (false = true) by decide)] at H; exact H
    clear H
    have H := H1
    clear H1
    replace H := Option.bind_eq_some_iff.mp H
    obtain ⟨t298, A120, H⟩ := H
    replace H : ((cond_Ask.f kj4 (([(⟨(⟨#[105, 102, 45, 109, 97, 116, 99, 104]⟩ : ByteArray), t298⟩ : S41)] : List (S41))) a0 a2 a3).bind fun t302 => ((stowagelaw21_CondPairs_1.f a1).bind fun t303 => ((cond_Ask.f kj4 (([(⟨(⟨#[105, 102, 45, 110, 111, 110, 101, 45, 109, 97, 116, 99, 104]⟩ : ByteArray), t303⟩ : S41)] : List (S41))) a0 a2 a3).bind fun t307 => (if a0.toList = a1.toList then (stowagelaw21_CondPairs.j1 kj4 a3 t302 t307 true) else (stowagelaw21_CondPairs.j1 kj4 a3 t302 t307 (a0.toList == ([122, 122] : List UInt8))))))) = some r := H
    have A12 := Aside0.mk A120
    clear A120
    obtain ⟨y299, hy299⟩ : ∃ y_ : List (S41), y_ = (([(⟨(⟨#[105, 102, 45, 109, 97, 116, 99, 104]⟩ : ByteArray), t298⟩ : S41)] : List (S41))) := ⟨_, rfl⟩
    replace H : ((cond_Ask.f kj4 y299 a0 a2 a3).bind fun t302 => ((stowagelaw21_CondPairs_1.f a1).bind fun t303 => ((cond_Ask.f kj4 (([(⟨(⟨#[105, 102, 45, 110, 111, 110, 101, 45, 109, 97, 116, 99, 104]⟩ : ByteArray), t303⟩ : S41)] : List (S41))) a0 a2 a3).bind fun t307 => (if a0.toList = a1.toList then (stowagelaw21_CondPairs.j1 kj4 a3 t302 t307 true) else (stowagelaw21_CondPairs.j1 kj4 a3 t302 t307 (a0.toList == ([122, 122] : List UInt8))))))) = some r := by first | (rw [hy299]; with_reducible exact H) | (have H2_ := (Option.bind_some _ _).symm.trans H; rw [hy299]; with_reducible exact H2_) | (have H2_ := (Option.bind_some _ _).symm.trans H; with_reducible exact H2_) | with_reducible exact H | (rw [hy299]; exact H) | exact H
    have Ny299 := Aside0.mk hy299
    clear hy299
    replace H := Option.bind_eq_some_iff.mp H
    obtain ⟨t302, A130, H⟩ := H
    replace H : ((stowagelaw21_CondPairs_1.f a1).bind fun t303 => ((cond_Ask.f kj4 (([(⟨(⟨#[105, 102, 45, 110, 111, 110, 101, 45, 109, 97, 116, 99, 104]⟩ : ByteArray), t303⟩ : S41)] : List (S41))) a0 a2 a3).bind fun t307 => (if a0.toList = a1.toList then (stowagelaw21_CondPairs.j1 kj4 a3 t302 t307 true) else (stowagelaw21_CondPairs.j1 kj4 a3 t302 t307 (a0.toList == ([122, 122] : List UInt8)))))) = some r := H
    have A13 := Aside0.mk A130
    clear A130
    replace H := Option.bind_eq_some_iff.mp H
    obtain ⟨t303, A140, H⟩ := H
    replace H : ((cond_Ask.f kj4 (([(⟨(⟨#[105, 102, 45, 110, 111, 110, 101, 45, 109, 97, 116, 99, 104]⟩ : ByteArray), t303⟩ : S41)] : List (S41))) a0 a2 a3).bind fun t307 => (if a0.toList = a1.toList then (stowagelaw21_CondPairs.j1 kj4 a3 t302 t307 true) else (stowagelaw21_CondPairs.j1 kj4 a3 t302 t307 (a0.toList == ([122, 122] : List UInt8))))) = some r := H
    have A14 := Aside0.mk A140
    clear A140
    obtain ⟨y304, hy304⟩ : ∃ y_ : List (S41), y_ = (([(⟨(⟨#[105, 102, 45, 110, 111, 110, 101, 45, 109, 97, 116, 99, 104]⟩ : ByteArray), t303⟩ : S41)] : List (S41))) := ⟨_, rfl⟩
    replace H : ((cond_Ask.f kj4 y304 a0 a2 a3).bind fun t307 => (if a0.toList = a1.toList then (stowagelaw21_CondPairs.j1 kj4 a3 t302 t307 true) else (stowagelaw21_CondPairs.j1 kj4 a3 t302 t307 (a0.toList == ([122, 122] : List UInt8))))) = some r := by first | (rw [hy304]; with_reducible exact H) | (have H2_ := (Option.bind_some _ _).symm.trans H; rw [hy304]; with_reducible exact H2_) | (have H2_ := (Option.bind_some _ _).symm.trans H; with_reducible exact H2_) | with_reducible exact H | (rw [hy304]; exact H) | exact H
    have Ny304 := Aside0.mk hy304
    clear hy304
    replace H := Option.bind_eq_some_iff.mp H
    obtain ⟨t307, A150, H⟩ := H
    replace H : (if a0.toList = a1.toList then (stowagelaw21_CondPairs.j1 kj4 a3 t302 t307 true) else (stowagelaw21_CondPairs.j1 kj4 a3 t302 t307 (a0.toList == ([122, 122] : List UInt8)))) = some r := H
    have A15 := Aside0.mk A150
    clear A150
    have HC16 := Aside0.mk H
    clear H
    go_upto_region 6 with (first | (go_at_call 18; (with_reducible refine (stowagelaw21_CondPairs_1.calls a1 t298 _ A12.out).mono ?_); rintro e w' ⟨rfl, ⟨nd, rfl⟩⟩; (try clear A12)) | ((with_reducible refine gate_dst (N := 27) rfl ?_); refine Kd.R_lit k41 _ 41 ?hg (N := 27) ?hd (xs := ([(⟨(⟨#[105, 102, 45, 109, 97, 116, 99, 104]⟩ : ByteArray), t298⟩ : S41)] : List (S41))) (inner := [.string (⟨#[105, 102, 45, 109, 97, 116, 99, 104]⟩ : ByteArray), .string t298]) (ok := fun _ => True) (okp := fun _ => True) ?hr ?hp (fun _ hk => hk) trivial (Below.refl _ _) (Nat.le_refl _) (by simp) ?_; (case hd => rfl); (case hg => rfl); (case hr => first | (go_simp; done) | (go_simp; rfl)); (case hp => exact (Reps.c2 (show Kd.M k41 _ _ _ (⟨(⟨#[105, 102, 45, 109, 97, 116, 99, 104]⟩ : ByteArray), t298⟩ : S41) [.string (⟨#[105, 102, 45, 109, 97, 116, 99, 104]⟩ : ByteArray), .string t298] from (k41_mkM _ _ _ (⟨(⟨#[105, 102, 45, 109, 97, 116, 99, 104]⟩ : ByteArray), t298⟩ : S41) )) (Reps.none _ _))); intro v300 w17 ho18 hb hg_ hnew_; clear hg_ hnew_; (first | rw [← Ny299.out] at ho18 | (simp only [Int.reduceToNat] at ho18; rw [← Ny299.out] at ho18)); have n0_ := Aside0.mk (Kd.R_lower ho18 (below_size (by repeat (first | (with_reducible first | exact HB.out | apply below_alloc | apply pw_below_drewN | apply below_drew1) | exact HB.out)))); have n1_ := Aside0.mk (below_step (by repeat (first | (with_reducible first | exact HB.out | apply below_alloc | apply pw_below_drewN | apply below_drew1) | exact HB.out)) hb); clear HB; have HO301 := n0_; have HB := n1_; clear n0_ n1_; clear hb ho18; obtain ⟨Ao19, co19, eo19⟩ := Kd.R_slice HO301.out; subst eo19) | ((with_reducible refine gate_callee (f := 19) rfl ?_); refine goesL_ (some 31) rfl rfl Try.func19 (by kernel_rfl) rfl #[.slice Ao19 y299.length co19, .string a0, .int .i64 a2, .bool a3] rfl (by (try simp only [List.map_toArray, List.map_cons, List.map_nil]); first | done | rfl | (simp only [List.length_drop, List.length_take]; rfl)) ?_; (with_reducible refine (cond_Ask.calls kj4 _ _ y299 a0 a2 a3 t302 _ ?side1 ?side2 (by first | exact hG | exact gok_below hG (by repeat (first | (with_reducible first | exact HB.out | apply below_alloc | apply pw_below_drewN | apply below_drew1) | exact HB.out)) | exact gok_drewN hG _ | exact gok_below hG (by repeat (first | exact HB.out | exact HBW.out | exact Below.refl _ _ | apply below_alloc | apply pw_below_drewN | apply below_drew1))) A13.out).mono ?_); (case side1 => repeat (first | exact (Kd.R_reads' HO301.out).2.2 | (with_reducible refine Kd.C_alloc ?_ _) | (with_reducible refine Kd.C_drewN ?_ _) | (with_reducible refine Kd.C_drew ?_))); (case side2 => exact (Kd.R_reads' HO301.out).2.1); rintro e w20 ⟨rfl, hb⟩; refine ⟨_, rfl, ?_⟩; have n0_ := Aside0.mk (Kd.R_below (by (with_reducible repeat (first | apply Kd.R_alloc | apply Kd.R_drewN | apply Kd.R_drew)); exact HO301.out) hb); have n1_ := Aside0.mk (below_step (by repeat (first | (with_reducible first | exact HB.out | apply below_alloc | apply pw_below_drewN | apply below_drew1) | exact HB.out)) hb); clear HO301; clear HB; have HO301 := n0_; have HB := n1_; clear n0_ n1_; (try clear hb); (try clear hb2); (try clear hk); (try clear hi)) | (go_at_call 18; (with_reducible refine (stowagelaw21_CondPairs_1.calls a1 t303 _ A14.out).mono ?_); rintro e w' ⟨rfl, ⟨nd, rfl⟩⟩; (try clear A14)) | ((with_reducible refine gate_dst (N := 36) rfl ?_); refine Kd.R_lit k41 _ 41 ?hg (N := 36) ?hd (xs := ([(⟨(⟨#[105, 102, 45, 110, 111, 110, 101, 45, 109, 97, 116, 99, 104]⟩ : ByteArray), t303⟩ : S41)] : List (S41))) (inner := [.string (⟨#[105, 102, 45, 110, 111, 110, 101, 45, 109, 97, 116, 99, 104]⟩ : ByteArray), .string t303]) (ok := fun _ => True) (okp := fun _ => True) ?hr ?hp (fun _ hk => hk) trivial (Below.refl _ _) (Nat.le_refl _) (by simp) ?_; (case hd => rfl); (case hg => rfl); (case hr => first | (go_simp; done) | (go_simp; rfl)); (case hp => exact (Reps.c2 (show Kd.M k41 _ _ _ (⟨(⟨#[105, 102, 45, 110, 111, 110, 101, 45, 109, 97, 116, 99, 104]⟩ : ByteArray), t303⟩ : S41) [.string (⟨#[105, 102, 45, 110, 111, 110, 101, 45, 109, 97, 116, 99, 104]⟩ : ByteArray), .string t303] from (k41_mkM _ _ _ (⟨(⟨#[105, 102, 45, 110, 111, 110, 101, 45, 109, 97, 116, 99, 104]⟩ : ByteArray), t303⟩ : S41) )) (Reps.none _ _))); intro v305 w21 ho22 hb hg_ hnew_; clear hg_ hnew_; (first | rw [← Ny304.out] at ho22 | (simp only [Int.reduceToNat] at ho22; rw [← Ny304.out] at ho22)); have n0_ := Aside0.mk (Kd.R_elder' (by (with_reducible repeat (first | apply Kd.R_alloc | apply Kd.R_drewN | apply Kd.R_drew)); exact HO301.out) (Kd.R_base ho22) hb); have n1_ := Aside0.mk (Kd.R_lower (Kd.R_new' ho22 (Kd.R_lt (by (with_reducible repeat (first | apply Kd.R_alloc | apply Kd.R_drewN | apply Kd.R_drew)); exact HO301.out))) (below_size (by repeat (first | (with_reducible first | exact HB.out | apply below_alloc | apply pw_below_drewN | apply below_drew1) | exact HB.out)))); have n2_ := Aside0.mk (below_step (by repeat (first | (with_reducible first | exact HB.out | apply below_alloc | apply pw_below_drewN | apply below_drew1) | exact HB.out)) hb); clear HO301; clear HB; have HO301 := n0_; have HO306 := n1_; have HB := n2_; clear n0_ n1_ n2_; clear hb ho22; obtain ⟨Ao23, co23, eo23⟩ := Kd.R_slice HO306.out; subst eo23) | ((with_reducible refine gate_callee (f := 19) rfl ?_); refine goesL_ (some 40) rfl rfl Try.func19 (by kernel_rfl) rfl #[.slice Ao23 y304.length co23, .string a0, .int .i64 a2, .bool a3] rfl (by (try simp only [List.map_toArray, List.map_cons, List.map_nil]); first | done | rfl | (simp only [List.length_drop, List.length_take]; rfl)) ?_; (with_reducible refine (cond_Ask.calls kj4 _ _ y304 a0 a2 a3 t307 _ ?side1 ?side2 (by first | exact hG | exact gok_below hG (by repeat (first | (with_reducible first | exact HB.out | apply below_alloc | apply pw_below_drewN | apply below_drew1) | exact HB.out)) | exact gok_drewN hG _ | exact gok_below hG (by repeat (first | exact HB.out | exact HBW.out | exact Below.refl _ _ | apply below_alloc | apply pw_below_drewN | apply below_drew1))) A15.out).mono ?_); (case side1 => repeat (first | exact (Kd.R_reads' HO306.out).2.2 | (with_reducible refine Kd.C_alloc ?_ _) | (with_reducible refine Kd.C_drewN ?_ _) | (with_reducible refine Kd.C_drew ?_))); (case side2 => exact (Kd.R_reads' HO306.out).2.1); rintro e w24 ⟨rfl, hb⟩; refine ⟨_, rfl, ?_⟩; have n0_ := Aside0.mk (Kd.R_below (by (with_reducible repeat (first | apply Kd.R_alloc | apply Kd.R_drewN | apply Kd.R_drew)); exact HO301.out) hb); have n1_ := Aside0.mk (Kd.R_below (by (with_reducible repeat (first | apply Kd.R_alloc | apply Kd.R_drewN | apply Kd.R_drew)); exact HO306.out) hb); have n2_ := Aside0.mk (below_step (by repeat (first | (with_reducible first | exact HB.out | apply below_alloc | apply pw_below_drewN | apply below_drew1) | exact HB.out)) hb); clear HO301; clear HO306; clear HB; have HO301 := n0_; have HO306 := n1_; have HB := n2_; clear n0_ n1_ n2_; (try clear hb); (try clear hb2); (try clear hk); (try clear hi)))
    (try simp only [Act.put, List.setIfInBounds_toArray, List.set_cons_zero, List.set_cons_succ])
    go_cut [12] (fun v12 wc => ∃ (kq : Nat) (x12_15 : Bool), v12 = .bool x12_15 ∧ Aside0 (stowagelaw21_CondPairs.j1 kq a3 t302 t307 x12_15 = some r) ∧ Aside0 (kq ≤ kj4) ∧ Aside0 (Below w.heap.size w wc))
    case first =>
     have H := HC16.out
     clear HC16
     by_cases c25 : a0.toList = a1.toList
     ·rw [if_pos c25] at H
      have c25b0 : (a0.toList == a1.toList) = true := beq_iff_eq.mpr c25
      have c25b1 : (a0.toList != a1.toList) = false := bne_eq_false_iff_eq.mpr c25
      clear c25
      (first | rw [c25b0] | (simp only [i64_w, i32_w]; rw [c25b0]) | skip)
      have H' := Aside0.mk H
      clear H
      go_wp2
      go_meet
      case rel => exact ⟨_, (true), (by first | rfl | (simp; done) | (simp [*]; done)), H', ⟨by have := HJ4.out; first | omega | exact Nat.le_refl _⟩, ⟨by repeat (first | (with_reducible first | exact HB.out | apply below_alloc | apply pw_below_drewN | apply below_drew1) | exact HB.out)⟩⟩
     ·rw [if_neg c25] at H
      have c25b0 : (a0.toList == a1.toList) = false := beq_eq_false_iff_ne.mpr c25
      have c25b1 : (a0.toList != a1.toList) = true := bne_iff_ne.mpr c25
      (first | rw [c25b0] | (simp only [i64_w, i32_w]; rw [c25b0]) | skip)
      have H' := Aside0.mk H
      clear H
      go_wp2
      go_meet
      case rel => exact ⟨_, ((a0.toList == ([122, 122] : List UInt8))), (by first | rfl | (simp; done) | (simp [*]; done)), H', ⟨by have := HJ4.out; first | omega | exact Nat.le_refl _⟩, ⟨by repeat (first | (with_reducible first | exact HB.out | apply below_alloc | apply pw_below_drewN | apply below_drew1) | exact HB.out)⟩⟩
    case rest =>
     clear HC16
     try clear c1
     try clear c2
     try clear p2
     try clear c5
     try clear c7
     try clear c9
     try clear c14
     try clear c17
     try clear c19
     try clear c25
     try clear c25b0
     try clear c25b1
     try clear p2
     obtain ⟨kq, x12_15, rfl, HA, HJ15, HB⟩ := hcut
     cases kq with
     | zero => exact absurd HA.out (by simp [stowagelaw21_CondPairs.j1])
     | succ kj15 =>
      have H := HA.out
      clear HA
      simp only [stowagelaw21_CondPairs.j1] at H
      have HC26 := Aside0.mk H
      clear H
      go_upto_if 48 with (fail)
      go_cut [13] (fun v13 wc => ∃ (kq : Nat) (x13_25 : Int), v13 = .int .i64 x13_25 ∧ Aside0 (stowagelaw21_CondPairs.j2 kq t302 t307 x12_15 x13_25 = some r) ∧ Aside0 (kq ≤ kj15) ∧ Aside0 (Below w.heap.size w wc))
      case first =>
       have H := HC26.out
       clear HC26
       by_cases c27 : a3 = true
       ·subst c27
        have H1 : (stowagelaw21_CondPairs.j2 kj15 t302 t307 x12_15 328) = some r := by rw [if_pos rfl] at H; exact H
        clear H
        have H := H1
        clear H1
        have H' := Aside0.mk H
        clear H
        go_wp2
        go_meet
        case rel => exact ⟨_, (328), (by first | rfl | (simp; done) | (simp [*]; done)), H', ⟨by have := HJ4.out; have := HJ15.out; first | omega | exact Nat.le_refl _⟩, ⟨by repeat (first | (with_reducible first | exact HB.out | apply below_alloc | apply pw_below_drewN | apply below_drew1) | exact HB.out)⟩⟩
       ·replace c27 := Bool.eq_false_iff.mpr c27
        subst c27
        have H1 : (stowagelaw21_CondPairs.j2 kj15 t302 t307 x12_15 327) = some r := by rw [if_neg (show ¬ (false = true) by decide)] at H; exact H
        clear H
        have H := H1
        clear H1
        have H' := Aside0.mk H
        clear H
        go_wp2
        go_meet
        case rel => exact ⟨_, (327), (by first | rfl | (simp; done) | (simp [*]; done)), H', ⟨by have := HJ4.out; have := HJ15.out; first | omega | exact Nat.le_refl _⟩, ⟨by repeat (first | (with_reducible first | exact HB.out | apply below_alloc | apply pw_below_drewN | apply below_drew1) | exact HB.out)⟩⟩
      case rest =>
       clear HC26
       try clear c1
       try clear c2
       try clear p2
       try clear c5
       try clear c7
       try clear c9
       try clear c14
       try clear c17
       try clear c19
       try clear c25
       try clear c25b0
       try clear c25b1
       try clear c27
       try clear p2
       obtain ⟨kq, x13_25, rfl, HA, HJ25, HB⟩ := hcut
       cases kq with
       | zero => exact absurd HA.out (by simp [stowagelaw21_CondPairs.j2])
       | succ kj25 =>
        have H := HA.out
        clear HA
        simp only [stowagelaw21_CondPairs.j2] at H
        by_cases c28 : x12_15 = true
        ·subst c28
         have H1 : (if t302 = 0 then (if t307 = x13_25 then ((stowagelaw21_awake.f kj25).bind fun t308 => (some t308)) else (some false)) else (some false)) = some r := by rw [if_pos rfl] at H; exact H
         clear H
         have H := H1
         clear H1
         by_cases c29 : t302 = 0
         ·rw [if_pos c29] at H
          have c29b0 : (t302 == 0) = true := beq_iff_eq.mpr c29
          have c29b1 : (t302 != 0) = false := bne_eq_false_iff_eq.mpr c29
          clear c29
          by_cases c30 : t307 = x13_25
          ·rw [if_pos c30] at H
           have c30b0 : (t307 == x13_25) = true := beq_iff_eq.mpr c30
           have c30b1 : (t307 != x13_25) = false := bne_eq_false_iff_eq.mpr c30
           clear c30
           replace H := Option.bind_eq_some_iff.mp H
           obtain ⟨t308, A310, H⟩ := H
           replace H : (some t308) = some r := H
           have A31 := Aside0.mk A310
           clear A310
           clear hr
           obtain rfl := Option.some.inj H
           go_wp2_with (first | (go_at_call 14; (with_reducible refine (stowagelaw21_awake.calls kj25  t308 _ (by first | exact hG | exact gok_below hG (by repeat (first | (with_reducible first | exact HB.out | apply below_alloc | apply pw_below_drewN | apply below_drew1) | exact HB.out)) | exact gok_drewN hG _ | exact gok_below hG (by repeat (first | exact HB.out | exact HBW.out | exact Below.refl _ _ | apply below_alloc | apply pw_below_drewN | apply below_drew1))) A31.out).mono ?_); rintro e w32 ⟨rfl, hb⟩; have n0_ := Aside0.mk (below_step (by repeat (first | (with_reducible first | exact HB.out | apply below_alloc | apply pw_below_drewN | apply below_drew1) | exact HB.out)) hb); clear HB; have HB := n0_; clear n0_; (try clear hb); (try clear hb2); (try clear hk); (try clear hi)))
           go_ret
           exact ⟨by first | rfl | (simp [errW_none, errW_some] <;> rfl) | (simp [*, errW_none, errW_some] <;> rfl), by repeat (first | (with_reducible first | exact HB.out | apply below_alloc | apply pw_below_drewN | apply below_drew1) | exact HB.out)⟩
          ·rw [if_neg c30] at H
           have c30b0 : (t307 == x13_25) = false := beq_eq_false_iff_ne.mpr c30
           have c30b1 : (t307 != x13_25) = true := bne_iff_ne.mpr c30
           rw [hr] at H
           exact absurd H (by simp)
         ·rw [if_neg c29] at H
          have c29b0 : (t302 == 0) = false := beq_eq_false_iff_ne.mpr c29
          have c29b1 : (t302 != 0) = true := bne_iff_ne.mpr c29
          rw [hr] at H
          exact absurd H (by simp)
        ·replace c28 := Bool.eq_false_iff.mpr c28
         subst c28
         have H1 : (if t302 = 327 then (if t307 = 0 then ((stowagelaw21_awake.f kj25).bind fun t309 => (some t309)) else (some false)) else (some false)) = some r := by rw [if_neg (show ¬ (false = true) by decide)] at H; exact H
         clear H
         have H := H1
         clear H1
         by_cases c33 : t302 = 327
         ·rw [if_pos c33] at H
          have c33b0 : (t302 == 327) = true := beq_iff_eq.mpr c33
          have c33b1 : (t302 != 327) = false := bne_eq_false_iff_eq.mpr c33
          clear c33
          by_cases c34 : t307 = 0
          ·rw [if_pos c34] at H
           have c34b0 : (t307 == 0) = true := beq_iff_eq.mpr c34
           have c34b1 : (t307 != 0) = false := bne_eq_false_iff_eq.mpr c34
           clear c34
           replace H := Option.bind_eq_some_iff.mp H
           obtain ⟨t309, A350, H⟩ := H
           replace H : (some t309) = some r := H
           have A35 := Aside0.mk A350
           clear A350
           clear hr
           obtain rfl := Option.some.inj H
           go_wp2_with (first | (go_at_call 14; (with_reducible refine (stowagelaw21_awake.calls kj25  t309 _ (by first | exact hG | exact gok_below hG (by repeat (first | (with_reducible first | exact HB.out | apply below_alloc | apply pw_below_drewN | apply below_drew1) | exact HB.out)) | exact gok_drewN hG _ | exact gok_below hG (by repeat (first | exact HB.out | exact HBW.out | exact Below.refl _ _ | apply below_alloc | apply pw_below_drewN | apply below_drew1))) A35.out).mono ?_); rintro e w36 ⟨rfl, hb⟩; have n0_ := Aside0.mk (below_step (by repeat (first | (with_reducible first | exact HB.out | apply below_alloc | apply pw_below_drewN | apply below_drew1) | exact HB.out)) hb); clear HB; have HB := n0_; clear n0_; (try clear hb); (try clear hb2); (try clear hk); (try clear hi)))
           go_ret
           exact ⟨by first | rfl | (simp [errW_none, errW_some] <;> rfl) | (simp [*, errW_none, errW_some] <;> rfl), by repeat (first | (with_reducible first | exact HB.out | apply below_alloc | apply pw_below_drewN | apply below_drew1) | exact HB.out)⟩
          ·rw [if_neg c34] at H
           have c34b0 : (t307 == 0) = false := beq_eq_false_iff_ne.mpr c34
           have c34b1 : (t307 != 0) = true := bne_iff_ne.mpr c34
           rw [hr] at H
           exact absurd H (by simp)
         ·rw [if_neg c33] at H
          have c33b0 : (t302 == 327) = false := beq_eq_false_iff_ne.mpr c33
          have c33b1 : (t302 != 327) = true := bne_iff_ne.mpr c33
          rw [hr] at H
          exact absurd H (by simp)
def stowagelaw21_CondPairs.Pure : Prop := ∀ (a0 : ByteArray) (a1 : ByteArray) (a2 : Int) (a3 : Bool), a0.size ≤ 140737488351232 → a1.size ≤ 140737488351232 → (Lit.int .i64 a2).wf = true → ∃ k, stowagelaw21_CondPairs.f k a0 a1 a2 a3 = some true
theorem stowagelaw21_CondPairs.walk (P : stowagelaw21_CondPairs.Pure) (a0 : ByteArray) (a1 : ByteArray) (a2 : Int) (a3 : Bool) (w : World) (w0 : a0.size ≤ 140737488351232) (w1 : a1.size ≤ 140737488351232) (w2 : (Lit.int .i64 a2).wf = true) (hG : GOk w) :
  Calls Try.prog 5 #[.string a0, .string a1, .int .i64 a2, .bool a3] w fun e w' => e = .returned (.bool true) ∧ Below w.heap.size w w' := by
 obtain ⟨k, h⟩ := P a0 a1 a2 a3 w0 w1 w2
 refine (stowagelaw21_CondPairs.calls k a0 a1 a2 a3 true w hG h rfl).mono ?_
 rintro e w' ⟨rfl, hd⟩
 exact ⟨rfl, hd⟩
end Go.Proofs.Ythjofhklkkmdoaa.Q
