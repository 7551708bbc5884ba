/- A part of the proof of the seat's laws. No condition beyond those in the theorems. -/
import Derived.Test.YtfjidcmegacibaaDoorZQ0g2
import Derived.Test.YtfjidcmegacibaaDoorZQ57
import Derived.Test.YtfjidcmegacibaaDoorZQ61g7
import Derived.Test.YtfjidcmegacibaaDoorZQ79g2
import Derived.Test.YtfjidcmegacibaaDoorZQ81

namespace Go.Proofs.YtfjidcmegacibaaDoor.Q
open Go.RowKit Go.Proofs.YtfjidcmegacibaaDoorW.PrintWords Go.Proofs.YtfjidcmegacibaaDoorW.PrintLast Go.Proofs.YtfjidcmegacibaaDoorW.PrintMore
set_option linter.unusedVariables false
set_option linter.unusedSimpArgs false
attribute [local go_sem] max2_int min2_int max_two min_two max_three min_three max_four min_four   
mutual
def when_ParseHttp.j0 : Nat → ByteArray → List Int → Bool → Option (Int × Bool)
 | 0, _, _, _ => none
 | k + 1, x0, x4, x25 => if x25 = true then (some (0, false)) else (if 8 ≤ 11 then (if 11 ≤ (x0.size : Int) then ((strings_Index.f (⟨#[74, 97, 110, 70, 101, 98, 77, 97, 114, 65, 112, 114, 77, 97, 121, 74, 117, 110, 74, 117, 108, 65, 117, 103, 83, 101, 112, 79, 99, 116, 78, 111, 118, 68, 101, 99]⟩ : ByteArray) (x0.extract 8 11)).bind fun t324 => (if t324 < 0 then (when_ParseHttp.j1 k x0 x4 t324 true) else (when_ParseHttp.j1 k x0 x4 t324 ((Int.tmod t324 3) != 0)))) else (none)) else (none))
def when_ParseHttp.j1 : Nat → ByteArray → List Int → Int → Bool → Option (Int × Bool)
 | 0, _, _, _, _ => none
 | k + 1, x0, x4, x6, x35 => if x35 = true then (some (0, false)) else (if 0 < (x4.length : Int) then (if 1 < (x4.length : Int) then (if 2 < (x4.length : Int) then (if 3 < (x4.length : Int) then (if 4 < (x4.length : Int) then ((when_Of.f k (rd x4 0) (wrap64 ((wrap64 (Int.tdiv x6 3)) + 1)) (rd x4 1) (rd x4 2) (rd x4 3) (rd x4 4)).bind fun bt330 => (if bt330.2 = true then ((when_Http.f k bt330.1).bind fun t332 => (if t332.toList = x0.toList then (some (bt330.1, true)) else (some (0, false)))) else (some (0, false)))) else (none)) else (none)) else (none)) else (none)) else (none))
end
def when_ParseHttp.f (k : Nat) (a0 : ByteArray) : Option (Int × Bool) := (when_all.f k a0 (([(⟨12, 4⟩ : S116), (⟨5, 2⟩ : S116), (⟨17, 2⟩ : S116), (⟨20, 2⟩ : S116), (⟨23, 2⟩ : S116)] : List (S116)))).bind fun bt320 => (if bt320.2 = true then (when_ParseHttp.j0 k a0 bt320.1 ((a0.size : Int) != 29)) else (when_ParseHttp.j0 k a0 bt320.1 true))
theorem when_ParseHttp.mono_l : ∀ k, (∀ y0 y1 y2, LeO (when_ParseHttp.j0 k y0 y1 y2) (when_ParseHttp.j0 (k + 1) y0 y1 y2)) ∧ (∀ y0 y1 y2 y3, LeO (when_ParseHttp.j1 k y0 y1 y2 y3) (when_ParseHttp.j1 (k + 1) y0 y1 y2 y3))
 | 0 => ⟨fun _ _ _ r h => by simp [when_ParseHttp.j0] at h, fun _ _ _ _ r h => by simp [when_ParseHttp.j1] at h⟩
 | k + 1 => by
  obtain ⟨ih0, ih1⟩ := when_ParseHttp.mono_l k
  refine ⟨?_, ?_⟩
  ·intro y0 y1 y2
   unfold when_ParseHttp.j0
   repeat' first
   | (with_reducible exact ih0 _ _ _)
   | (with_reducible exact ih1 _ _ _ _)
   | (with_reducible exact when_Http.mono _ _)
   | (with_reducible exact when_Of.mono _ _ _ _ _ _ _)
   | (with_reducible exact when_all.mono _ _ _)
   | (with_reducible exact LeO.refl _)
   | (with_reducible exact LeO.none _)
   | (with_reducible refine LeO.ite ?_ ?_)
   | (with_reducible refine LeO.bind ?_ (fun _ => ?_))
   | exact ih0 _ _ _
   | exact ih1 _ _ _ _
   | exact when_Http.mono _ _
   | exact when_Of.mono _ _ _ _ _ _ _
   | exact when_all.mono _ _ _
   | exact LeO.none _
   | refine LeO.ite ?_ ?_
   | refine LeO.bind ?_ (fun _ => ?_)
  ·intro y0 y1 y2 y3
   unfold when_ParseHttp.j1
   repeat' first
   | (with_reducible exact ih0 _ _ _)
   | (with_reducible exact ih1 _ _ _ _)
   | (with_reducible exact when_Http.mono _ _)
   | (with_reducible exact when_Of.mono _ _ _ _ _ _ _)
   | (with_reducible exact when_all.mono _ _ _)
   | (with_reducible exact LeO.refl _)
   | (with_reducible exact LeO.none _)
   | (with_reducible refine LeO.ite ?_ ?_)
   | (with_reducible refine LeO.bind ?_ (fun _ => ?_))
   | exact ih0 _ _ _
   | exact ih1 _ _ _ _
   | exact when_Http.mono _ _
   | exact when_Of.mono _ _ _ _ _ _ _
   | exact when_all.mono _ _ _
   | exact LeO.none _
   | refine LeO.ite ?_ ?_
   | refine LeO.bind ?_ (fun _ => ?_)
theorem when_ParseHttp.mono : ∀ a0 k, LeO (when_ParseHttp.f k a0) (when_ParseHttp.f (k + 1) a0) := by
 intro a0 k
 obtain ⟨ih0, ih1⟩ := when_ParseHttp.mono_l k
 unfold when_ParseHttp.f
 repeat' first
   | (with_reducible exact ih0 _ _ _)
   | (with_reducible exact ih1 _ _ _ _)
   | (with_reducible exact when_Http.mono _ _)
   | (with_reducible exact when_Of.mono _ _ _ _ _ _ _)
   | (with_reducible exact when_all.mono _ _ _)
   | (with_reducible exact LeO.refl _)
   | (with_reducible exact LeO.none _)
   | (with_reducible refine LeO.ite ?_ ?_)
   | (with_reducible refine LeO.bind ?_ (fun _ => ?_))
   | exact ih0 _ _ _
   | exact ih1 _ _ _ _
   | exact when_Http.mono _ _
   | exact when_Of.mono _ _ _ _ _ _ _
   | exact when_all.mono _ _ _
   | exact LeO.none _
   | refine LeO.ite ?_ ?_
   | refine LeO.bind ?_ (fun _ => ?_)
set_option maxHeartbeats 8000000 in
set_option maxRecDepth 100000 in
theorem when_ParseHttp.calls (k : Nat) (a0 : ByteArray) (r1 : Int) (r2 : Bool) (w : World) (hG : GOk w) (h : when_ParseHttp.f k a0 = some (r1, r2)) :
  Calls Tryd.prog 53 #[.string a0] w fun e w' => e = .returned (.tuple #[.int .i64 r1, .bool r2]) ∧ Below w.heap.size w w' := by
 have hu116 := Tryd.underlying116
 have HB := Aside0.mk (Below.refl w.heap.size w)
 unfold when_ParseHttp.f at h
 have H := h
 clear h
 obtain ⟨y317, hy317⟩ : ∃ y_ : List (S116), y_ = (([(⟨12, 4⟩ : S116), (⟨5, 2⟩ : S116), (⟨17, 2⟩ : S116), (⟨20, 2⟩ : S116), (⟨23, 2⟩ : S116)] : List (S116))) := ⟨_, rfl⟩
 replace H : ((when_all.f k a0 y317).bind fun bt320 => (if bt320.2 = true then (when_ParseHttp.j0 k a0 bt320.1 ((a0.size : Int) != 29)) else (when_ParseHttp.j0 k a0 bt320.1 true))) = some (r1, r2) := by first | (rw [hy317]; with_reducible exact H) | (have H2_ := (Option.bind_some _ _).symm.trans H; rw [hy317]; with_reducible exact H2_) | (have H2_ := (Option.bind_some _ _).symm.trans H; with_reducible exact H2_) | with_reducible exact H | (rw [hy317]; exact H) | exact H
 have Ny317 := Aside0.mk hy317
 clear hy317
 replace H := bndO H
 obtain ⟨⟨t320, t321⟩, A20, H⟩ := H
 dsimp only at H
 have A2 := Aside0.mk A20
 clear A20
 have HC3 := Aside0.mk H
 clear H
 go_enter Tryd.func53, Tryd.ntmps53
 go_upto_region 2 with (first | ((with_reducible refine gate_dst (N := 15) rfl ?_); (try (refine gate_guard (by rfl) ?_; dsimp only)); refine Kd.R_lit k116 _ 116 ?hg (N := 15) ?hd (xs := ([(⟨12, 4⟩ : S116), (⟨5, 2⟩ : S116), (⟨17, 2⟩ : S116), (⟨20, 2⟩ : S116), (⟨23, 2⟩ : S116)] : List (S116))) (inner := [.int .i64 12, .int .i64 4, .int .i64 5, .int .i64 2, .int .i64 17, .int .i64 2, .int .i64 20, .int .i64 2, .int .i64 23, .int .i64 2]) (ok := fun _ => True) (okp := fun _ => True) ?hr ?hp (fun _ hk => hk) trivial (Below.refl _ _) (Nat.le_refl _) (by simp) ?_; (case hd => rfl); (case hg => rfl); (case hr => first | (go_simp; done) | (go_simp; rfl)); (case hp => exact (Reps.c2 (show Kd.M k116 _ _ _ (⟨12, 4⟩ : S116) [.int .i64 12, .int .i64 4] from (k116_mkM _ _ _ (⟨12, 4⟩ : S116) )) (Reps.c2 (show Kd.M k116 _ _ _ (⟨5, 2⟩ : S116) [.int .i64 5, .int .i64 2] from (k116_mkM _ _ _ (⟨5, 2⟩ : S116) )) (Reps.c2 (show Kd.M k116 _ _ _ (⟨17, 2⟩ : S116) [.int .i64 17, .int .i64 2] from (k116_mkM _ _ _ (⟨17, 2⟩ : S116) )) (Reps.c2 (show Kd.M k116 _ _ _ (⟨20, 2⟩ : S116) [.int .i64 20, .int .i64 2] from (k116_mkM _ _ _ (⟨20, 2⟩ : S116) )) (Reps.c2 (show Kd.M k116 _ _ _ (⟨23, 2⟩ : S116) [.int .i64 23, .int .i64 2] from (k116_mkM _ _ _ (⟨23, 2⟩ : S116) )) (Reps.none _ _))))))); intro v318 w4 ho5 hb hg_ hnew_; clear hg_ hnew_; (first | rw [← Ny317.out] at ho5 | (simp only [Int.reduceToNat] at ho5; rw [← Ny317.out] at ho5)); have n0_ := Aside0.mk (Kd.R_lower ho5 (below_size (by repeat (first | (with_reducible first | exact HB.out | apply below_alloc | apply pw_below_drewN | apply below_drew1) | exact HB.out)))); have n1_ := Aside0.mk (below_step (by repeat (first | (with_reducible first | exact HB.out | apply below_alloc | apply pw_below_drewN | apply below_drew1) | exact HB.out)) hb); clear HB; have HO319 := n0_; have HB := n1_; clear n0_ n1_; clear hb ho5; obtain ⟨Ao6, co6, eo6⟩ := Kd.R_slice HO319.out; subst eo6) | (go_at_call 78; (with_reducible refine (when_all.calls k a0 _ _ y317 t320 t321 _ ?side1 ?side2 A2.out).mono ?_); (case side1 => repeat (first | exact (Kd.R_reads' HO319.out).2.2 | (with_reducible refine Kd.C_alloc ?_ _) | (with_reducible refine Kd.C_drewN ?_ _) | (with_reducible refine Kd.C_drew ?_))); (case side2 => exact (Kd.R_reads' HO319.out).2.1); rintro e w7 ⟨v322, rfl, ho0, hb⟩; have n0_ := Aside0.mk (Kd.R_below (by (with_reducible repeat (first | apply Kd.R_alloc | apply Kd.R_drewN | apply Kd.R_drew)); exact HO319.out) hb); have n1_ := Aside0.mk (Kd.R_lower ho0 (below_size (by repeat (first | (with_reducible first | exact HB.out | apply below_alloc | apply pw_below_drewN | apply below_drew1) | exact HB.out)))); have n2_ := Aside0.mk (below_step (by repeat (first | (with_reducible first | exact HB.out | apply below_alloc | apply pw_below_drewN | apply below_drew1) | exact HB.out)) hb); clear HO319; clear HB; have HO319 := n0_; have HO323 := n1_; have HB := n2_; clear n0_ n1_ n2_; (try clear hb); (try clear hb2); (try clear hk); (try clear hi); (try clear ho0)))
 repeat (go_quiet (first | ((with_reducible refine gate_dst (N := 15) rfl ?_); (try (refine gate_guard (by rfl) ?_; dsimp only)); refine Kd.R_lit k116 _ 116 ?hg (N := 15) ?hd (xs := ([(⟨12, 4⟩ : S116), (⟨5, 2⟩ : S116), (⟨17, 2⟩ : S116), (⟨20, 2⟩ : S116), (⟨23, 2⟩ : S116)] : List (S116))) (inner := [.int .i64 12, .int .i64 4, .int .i64 5, .int .i64 2, .int .i64 17, .int .i64 2, .int .i64 20, .int .i64 2, .int .i64 23, .int .i64 2]) (ok := fun _ => True) (okp := fun _ => True) ?hr ?hp (fun _ hk => hk) trivial (Below.refl _ _) (Nat.le_refl _) (by simp) ?_; (case hd => rfl); (case hg => rfl); (case hr => first | (go_simp; done) | (go_simp; rfl)); (case hp => exact (Reps.c2 (show Kd.M k116 _ _ _ (⟨12, 4⟩ : S116) [.int .i64 12, .int .i64 4] from (k116_mkM _ _ _ (⟨12, 4⟩ : S116) )) (Reps.c2 (show Kd.M k116 _ _ _ (⟨5, 2⟩ : S116) [.int .i64 5, .int .i64 2] from (k116_mkM _ _ _ (⟨5, 2⟩ : S116) )) (Reps.c2 (show Kd.M k116 _ _ _ (⟨17, 2⟩ : S116) [.int .i64 17, .int .i64 2] from (k116_mkM _ _ _ (⟨17, 2⟩ : S116) )) (Reps.c2 (show Kd.M k116 _ _ _ (⟨20, 2⟩ : S116) [.int .i64 20, .int .i64 2] from (k116_mkM _ _ _ (⟨20, 2⟩ : S116) )) (Reps.c2 (show Kd.M k116 _ _ _ (⟨23, 2⟩ : S116) [.int .i64 23, .int .i64 2] from (k116_mkM _ _ _ (⟨23, 2⟩ : S116) )) (Reps.none _ _))))))); intro v318 w4 ho5 hb hg_ hnew_; clear hg_ hnew_; (first | rw [← Ny317.out] at ho5 | (simp only [Int.reduceToNat] at ho5; rw [← Ny317.out] at ho5)); have n0_ := Aside0.mk (Kd.R_lower ho5 (below_size (by repeat (first | (with_reducible first | exact HB.out | apply below_alloc | apply pw_below_drewN | apply below_drew1) | exact HB.out)))); have n1_ := Aside0.mk (below_step (by repeat (first | (with_reducible first | exact HB.out | apply below_alloc | apply pw_below_drewN | apply below_drew1) | exact HB.out)) hb); clear HB; have HO319 := n0_; have HB := n1_; clear n0_ n1_; clear hb ho5; obtain ⟨Ao6, co6, eo6⟩ := Kd.R_slice HO319.out; subst eo6) | (go_at_call 78; (with_reducible refine (when_all.calls k a0 _ _ y317 t320 t321 _ ?side1 ?side2 A2.out).mono ?_); (case side1 => repeat (first | exact (Kd.R_reads' HO319.out).2.2 | (with_reducible refine Kd.C_alloc ?_ _) | (with_reducible refine Kd.C_drewN ?_ _) | (with_reducible refine Kd.C_drew ?_))); (case side2 => exact (Kd.R_reads' HO319.out).2.1); rintro e w7 ⟨v322, rfl, ho0, hb⟩; have n0_ := Aside0.mk (Kd.R_below (by (with_reducible repeat (first | apply Kd.R_alloc | apply Kd.R_drewN | apply Kd.R_drew)); exact HO319.out) hb); have n1_ := Aside0.mk (Kd.R_lower ho0 (below_size (by repeat (first | (with_reducible first | exact HB.out | apply below_alloc | apply pw_below_drewN | apply below_drew1) | exact HB.out)))); have n2_ := Aside0.mk (below_step (by repeat (first | (with_reducible first | exact HB.out | apply below_alloc | apply pw_below_drewN | apply below_drew1) | exact HB.out)) hb); clear HO319; clear HB; have HO319 := n0_; have HO323 := n1_; have HB := n2_; clear n0_ n1_ n2_; (try clear hb); (try clear hb2); (try clear hk); (try clear hi); (try clear ho0))); go_upto_region 2 with (first | ((with_reducible refine gate_dst (N := 15) rfl ?_); (try (refine gate_guard (by rfl) ?_; dsimp only)); refine Kd.R_lit k116 _ 116 ?hg (N := 15) ?hd (xs := ([(⟨12, 4⟩ : S116), (⟨5, 2⟩ : S116), (⟨17, 2⟩ : S116), (⟨20, 2⟩ : S116), (⟨23, 2⟩ : S116)] : List (S116))) (inner := [.int .i64 12, .int .i64 4, .int .i64 5, .int .i64 2, .int .i64 17, .int .i64 2, .int .i64 20, .int .i64 2, .int .i64 23, .int .i64 2]) (ok := fun _ => True) (okp := fun _ => True) ?hr ?hp (fun _ hk => hk) trivial (Below.refl _ _) (Nat.le_refl _) (by simp) ?_; (case hd => rfl); (case hg => rfl); (case hr => first | (go_simp; done) | (go_simp; rfl)); (case hp => exact (Reps.c2 (show Kd.M k116 _ _ _ (⟨12, 4⟩ : S116) [.int .i64 12, .int .i64 4] from (k116_mkM _ _ _ (⟨12, 4⟩ : S116) )) (Reps.c2 (show Kd.M k116 _ _ _ (⟨5, 2⟩ : S116) [.int .i64 5, .int .i64 2] from (k116_mkM _ _ _ (⟨5, 2⟩ : S116) )) (Reps.c2 (show Kd.M k116 _ _ _ (⟨17, 2⟩ : S116) [.int .i64 17, .int .i64 2] from (k116_mkM _ _ _ (⟨17, 2⟩ : S116) )) (Reps.c2 (show Kd.M k116 _ _ _ (⟨20, 2⟩ : S116) [.int .i64 20, .int .i64 2] from (k116_mkM _ _ _ (⟨20, 2⟩ : S116) )) (Reps.c2 (show Kd.M k116 _ _ _ (⟨23, 2⟩ : S116) [.int .i64 23, .int .i64 2] from (k116_mkM _ _ _ (⟨23, 2⟩ : S116) )) (Reps.none _ _))))))); intro v318 w4 ho5 hb hg_ hnew_; clear hg_ hnew_; (first | rw [← Ny317.out] at ho5 | (simp only [Int.reduceToNat] at ho5; rw [← Ny317.out] at ho5)); have n0_ := Aside0.mk (Kd.R_lower ho5 (below_size (by repeat (first | (with_reducible first | exact HB.out | apply below_alloc | apply pw_below_drewN | apply below_drew1) | exact HB.out)))); have n1_ := Aside0.mk (below_step (by repeat (first | (with_reducible first | exact HB.out | apply below_alloc | apply pw_below_drewN | apply below_drew1) | exact HB.out)) hb); clear HB; have HO319 := n0_; have HB := n1_; clear n0_ n1_; clear hb ho5; obtain ⟨Ao6, co6, eo6⟩ := Kd.R_slice HO319.out; subst eo6) | (go_at_call 78; (with_reducible refine (when_all.calls k a0 _ _ y317 t320 t321 _ ?side1 ?side2 A2.out).mono ?_); (case side1 => repeat (first | exact (Kd.R_reads' HO319.out).2.2 | (with_reducible refine Kd.C_alloc ?_ _) | (with_reducible refine Kd.C_drewN ?_ _) | (with_reducible refine Kd.C_drew ?_))); (case side2 => exact (Kd.R_reads' HO319.out).2.1); rintro e w7 ⟨v322, rfl, ho0, hb⟩; have n0_ := Aside0.mk (Kd.R_below (by (with_reducible repeat (first | apply Kd.R_alloc | apply Kd.R_drewN | apply Kd.R_drew)); exact HO319.out) hb); have n1_ := Aside0.mk (Kd.R_lower ho0 (below_size (by repeat (first | (with_reducible first | exact HB.out | apply below_alloc | apply pw_below_drewN | apply below_drew1) | exact HB.out)))); have n2_ := Aside0.mk (below_step (by repeat (first | (with_reducible first | exact HB.out | apply below_alloc | apply pw_below_drewN | apply below_drew1) | exact HB.out)) hb); clear HO319; clear HB; have HO319 := n0_; have HO323 := n1_; have HB := n2_; clear n0_ n1_ n2_; (try clear hb); (try clear hb2); (try clear hk); (try clear hi); (try clear ho0))))
 (try simp only [Act.put, List.setIfInBounds_toArray, List.set_cons_zero, List.set_cons_succ])
 go_cut [25] (fun v25 wc => ∃ (kq : Nat) (x25_2 : Bool), v25 = .bool x25_2 ∧ Aside0 (when_ParseHttp.j0 kq a0 t320 x25_2 = some (r1, r2)) ∧ Aside0 (kq ≤ k) ∧ Aside0 (Kd.R (Kd.int .i64) 3 wc w.heap.size (fun _ => True) v322 t320) ∧ Aside0 (Below w.heap.size w wc))
 case first =>
  have H := HC3.out
  clear HC3
  by_cases c8 : t321 = true
  ·subst c8
   replace H := itT H
   have H' := Aside0.mk H
   clear H
   go_wp2
   repeat (go_quiet (fail); try go_wp2)
   go_meet
   case rel => exact ⟨_, (((a0.size : Int) != 29)), (by first | rfl | (simp; done) | (simp [*]; done)), H', ⟨by first | omega | exact Nat.le_refl _⟩, ⟨by (with_reducible repeat (first | apply Kd.R_alloc | apply Kd.R_drewN | apply Kd.R_drew)); exact HO323.out⟩, ⟨by repeat (first | (with_reducible first | exact HB.out | apply below_alloc | apply pw_below_drewN | apply below_drew1) | exact HB.out)⟩⟩
  ·replace c8 := Bool.eq_false_iff.mpr c8
   subst c8
   replace H := itF H
   have H' := Aside0.mk H
   clear H
   go_wp2
   repeat (go_quiet (fail); try go_wp2)
   go_meet
   case rel => exact ⟨_, (true), (by first | rfl | (simp; done) | (simp [*]; done)), H', ⟨by first | omega | exact Nat.le_refl _⟩, ⟨by (with_reducible repeat (first | apply Kd.R_alloc | apply Kd.R_drewN | apply Kd.R_drew)); exact HO323.out⟩, ⟨by repeat (first | (with_reducible first | exact HB.out | apply below_alloc | apply pw_below_drewN | apply below_drew1) | exact HB.out)⟩⟩
 case rest =>
  clear HC3
  try clear c2
  try clear p2
  try clear c5
  try clear c8
  obtain ⟨kq, x25_2, rfl, HA, HJ2, HO_4, HB⟩ := hcut
  cases kq with
  | zero => exact absurd HA.out (by simp [when_ParseHttp.j0])
  | succ kj2 =>
   have H := HA.out
   clear HA
   simp only [when_ParseHttp.j0] at H
   by_cases c9 : x25_2 = true
   ·subst c9
    replace H := itT H
    simp only [Option.some.injEq, Prod.mk.injEq] at H
    obtain ⟨rfl, rfl⟩ := H
    go_wp2
    repeat (go_quiet (fail); try go_wp2)
    go_ret2
    exact ⟨by first | rfl | (simp [errW_none, errW_some] <;> rfl) | (simp [*, errW_none, errW_some] <;> rfl), by repeat (first | (with_reducible first | exact HB.out | apply below_alloc | apply pw_below_drewN | apply below_drew1) | exact HB.out)⟩
   ·replace c9 := Bool.eq_false_iff.mpr c9
    subst c9
    replace H := itF H
    replace H := itO H
    rcases H with ⟨c10, H⟩ | ⟨c10, H⟩
    ·skip
     have c10b0 := eq_true c10
     have c10b1 := decide_eq_true c10
     clear c10
     replace H := itO H
     rcases H with ⟨c11, H⟩ | ⟨c11, H⟩
     ·skip
      have c11b0 := eq_true c11
      have c11b1 := decide_eq_true c11
      clear c11
      replace H := bndO H
      obtain ⟨t324, A120, H⟩ := H
      have A12 := Aside0.mk A120
      clear A120
      have HC13 := Aside0.mk H
      clear H
      go_upto_region 5 with (first | (go_at_call 76; (with_reducible refine (strings_Index.calls (⟨#[74, 97, 110, 70, 101, 98, 77, 97, 114, 65, 112, 114, 77, 97, 121, 74, 117, 110, 74, 117, 108, 65, 117, 103, 83, 101, 112, 79, 99, 116, 78, 111, 118, 68, 101, 99]⟩ : ByteArray) (a0.extract 8 11) t324 _ (by first | exact hG | exact gok_below hG (by repeat (first | (with_reducible first | exact HB.out | apply below_alloc | apply pw_below_drewN | apply below_drew1) | exact HB.out)) | exact gok_heap hG rfl | exact gok_drewN hG _ | exact gok_below hG (by repeat (first | exact HB.out | exact HBW.out | exact Below.refl _ _ | apply below_alloc | apply pw_below_drewN | apply below_drew1))) A12.out).mono ?_); rintro e w' ⟨rfl, ⟨nd, rfl⟩⟩; (try first | exact ⟨rfl, _, World.drewN_drewN _ _ _⟩ | exact ⟨rfl, _, Eq.trans (World.drewN_drewN _ _ _) (congrArg (World.drewN _) (Nat.add_assoc _ _ _))⟩)))
      repeat (go_quiet (first | (go_at_call 76; (with_reducible refine (strings_Index.calls (⟨#[74, 97, 110, 70, 101, 98, 77, 97, 114, 65, 112, 114, 77, 97, 121, 74, 117, 110, 74, 117, 108, 65, 117, 103, 83, 101, 112, 79, 99, 116, 78, 111, 118, 68, 101, 99]⟩ : ByteArray) (a0.extract 8 11) t324 _ (by first | exact hG | exact gok_below hG (by repeat (first | (with_reducible first | exact HB.out | apply below_alloc | apply pw_below_drewN | apply below_drew1) | exact HB.out)) | exact gok_heap hG rfl | exact gok_drewN hG _ | exact gok_below hG (by repeat (first | exact HB.out | exact HBW.out | exact Below.refl _ _ | apply below_alloc | apply pw_below_drewN | apply below_drew1))) A12.out).mono ?_); rintro e w' ⟨rfl, ⟨nd, rfl⟩⟩; (try first | exact ⟨rfl, _, World.drewN_drewN _ _ _⟩ | exact ⟨rfl, _, Eq.trans (World.drewN_drewN _ _ _) (congrArg (World.drewN _) (Nat.add_assoc _ _ _))⟩))); go_upto_region 5 with (first | (go_at_call 76; (with_reducible refine (strings_Index.calls (⟨#[74, 97, 110, 70, 101, 98, 77, 97, 114, 65, 112, 114, 77, 97, 121, 74, 117, 110, 74, 117, 108, 65, 117, 103, 83, 101, 112, 79, 99, 116, 78, 111, 118, 68, 101, 99]⟩ : ByteArray) (a0.extract 8 11) t324 _ (by first | exact hG | exact gok_below hG (by repeat (first | (with_reducible first | exact HB.out | apply below_alloc | apply pw_below_drewN | apply below_drew1) | exact HB.out)) | exact gok_heap hG rfl | exact gok_drewN hG _ | exact gok_below hG (by repeat (first | exact HB.out | exact HBW.out | exact Below.refl _ _ | apply below_alloc | apply pw_below_drewN | apply below_drew1))) A12.out).mono ?_); rintro e w' ⟨rfl, ⟨nd, rfl⟩⟩; (try first | exact ⟨rfl, _, World.drewN_drewN _ _ _⟩ | exact ⟨rfl, _, Eq.trans (World.drewN_drewN _ _ _) (congrArg (World.drewN _) (Nat.add_assoc _ _ _))⟩))))
      (try simp only [Act.put, List.setIfInBounds_toArray, List.set_cons_zero, List.set_cons_succ])
      go_cut [35] (fun v35 wc => ∃ (kq : Nat) (x35_12 : Bool), v35 = .bool x35_12 ∧ Aside0 (when_ParseHttp.j1 kq a0 t320 t324 x35_12 = some (r1, r2)) ∧ Aside0 (kq ≤ kj2) ∧ Aside0 (Kd.R (Kd.int .i64) 3 wc w.heap.size (fun _ => True) v322 t320) ∧ Aside0 (Below w.heap.size w wc))
      case first =>
       have H := HC13.out
       clear HC13
       replace H := itO H
       rcases H with ⟨c14, H⟩ | ⟨c14, H⟩
       ·skip
        have c14b0 : decide (t324 < 0) = true := decide_eq_true c14
        clear c14
        (first | rw [c14b0] | (simp only [i64_w, i32_w]; rw [c14b0]) | skip)
        have H' := Aside0.mk H
        clear H
        go_wp2
        repeat (go_quiet (fail); try go_wp2)
        go_meet
        case rel => exact ⟨_, (true), (by first | rfl | (simp; done) | (simp [*]; done)), H', ⟨by have := HJ2.out; first | omega | exact Nat.le_refl _⟩, ⟨by (with_reducible repeat (first | apply Kd.R_alloc | apply Kd.R_drewN | apply Kd.R_drew)); exact HO_4.out⟩, ⟨by repeat (first | (with_reducible first | exact HB.out | apply below_alloc | apply pw_below_drewN | apply below_drew1) | exact HB.out)⟩⟩
       ·skip
        have c14b0 : decide (t324 < 0) = false := decide_eq_false c14
        clear c14
        (first | rw [c14b0] | (simp only [i64_w, i32_w]; rw [c14b0]) | skip)
        have H' := Aside0.mk H
        clear H
        go_wp2
        repeat (go_quiet (fail); try go_wp2)
        go_meet
        case rel => exact ⟨_, (((Int.tmod t324 3) != 0)), (by first | rfl | (simp; done) | (simp [*]; done)), H', ⟨by have := HJ2.out; first | omega | exact Nat.le_refl _⟩, ⟨by (with_reducible repeat (first | apply Kd.R_alloc | apply Kd.R_drewN | apply Kd.R_drew)); exact HO_4.out⟩, ⟨by repeat (first | (with_reducible first | exact HB.out | apply below_alloc | apply pw_below_drewN | apply below_drew1) | exact HB.out)⟩⟩
      case rest =>
       clear HC13
       try clear c1
       try clear c2
       try clear p2
       try clear c5
       try clear c8
       try clear c9
       try clear c10
       try clear c10b0
       try clear c10b1
       try clear c11
       try clear c11b0
       try clear c11b1
       try clear c14
       try clear c14b0
       try clear p2
       obtain ⟨kq, x35_12, rfl, HA, HJ12, HO_4, HB⟩ := hcut
       cases kq with
       | zero => exact absurd HA.out (by simp [when_ParseHttp.j1])
       | succ kj12 =>
        have H := HA.out
        clear HA
        simp only [when_ParseHttp.j1] at H
        by_cases c15 : x35_12 = true
        ·subst c15
         replace H := itT H
         simp only [Option.some.injEq, Prod.mk.injEq] at H
         obtain ⟨rfl, rfl⟩ := H
         go_wp2
         repeat (go_quiet (fail); try go_wp2)
         go_ret2
         exact ⟨by first | rfl | (simp [errW_none, errW_some] <;> rfl) | (simp [*, errW_none, errW_some] <;> rfl), by repeat (first | (with_reducible first | exact HB.out | apply below_alloc | apply pw_below_drewN | apply below_drew1) | exact HB.out)⟩
        ·replace c15 := Bool.eq_false_iff.mpr c15
         subst c15
         replace H := itF H
         replace H := itO H
         rcases H with ⟨c16, H⟩ | ⟨c16, H⟩
         ·skip
          have c16b0 : decide (0 < (t320.length : Int)) = true := decide_eq_true c16
          have c16b1 : decide (0 < t320.length) = true := decide_eq_true (by omega)
          clear c16
          replace H := itO H
          rcases H with ⟨c17, H⟩ | ⟨c17, H⟩
          ·skip
           have c17b0 : decide (1 < (t320.length : Int)) = true := decide_eq_true c17
           have c17b1 : decide (1 < t320.length) = true := decide_eq_true (by omega)
           clear c17
           replace H := itO H
           rcases H with ⟨c18, H⟩ | ⟨c18, H⟩
           ·skip
            have c18b0 : decide (2 < (t320.length : Int)) = true := decide_eq_true c18
            have c18b1 : decide (2 < t320.length) = true := decide_eq_true (by omega)
            clear c18
            replace H := itO H
            rcases H with ⟨c19, H⟩ | ⟨c19, H⟩
            ·skip
             have c19b0 : decide (3 < (t320.length : Int)) = true := decide_eq_true c19
             have c19b1 : decide (3 < t320.length) = true := decide_eq_true (by omega)
             clear c19
             replace H := itO H
             rcases H with ⟨c20, H⟩ | ⟨c20, H⟩
             ·skip
              have c20b0 : decide (4 < (t320.length : Int)) = true := decide_eq_true c20
              have c20b1 : decide (4 < t320.length) = true := decide_eq_true (by omega)
              clear c20
              replace H := bndO H
              obtain ⟨⟨t330, t331⟩, A210, H⟩ := H
              dsimp only at H
              have A21 := Aside0.mk A210
              clear A210
              by_cases c22 : t331 = true
              ·subst c22
               replace H := itT H
               replace H := bndO H
               obtain ⟨t332, A230, H⟩ := H
               have A23 := Aside0.mk A230
               clear A230
               replace H := itO H
               rcases H with ⟨c24, H⟩ | ⟨c24, H⟩
               ·skip
                have c24b0 : (t332.toList == a0.toList) = true := beq_iff_eq.mpr c24
                have c24b1 : (t332.toList != a0.toList) = false := bne_eq_false_iff_eq.mpr c24
                clear c24
                simp only [Option.some.injEq, Prod.mk.injEq] at H
                obtain ⟨rfl, rfl⟩ := H
                obtain ⟨Ao25, co25, eo25⟩ := Kd.R_slice HO_4.out
                subst eo25
                have p325 : 0 ≤ (0 : Int) := (by omega)
                have q325 : 0 < (t320.length : Int) := of_decide_eq_true (by first | (with_reducible assumption) | assumption)
                obtain ⟨ad325, e325, hx325_0⟩ := Kd.at_int (Kd.R_reads' HO_4.out).2.2 0 p325 q325
                cases e325
                have qi325 : (0 < t320.length) = True := eq_true (by omega)
                (try rw [show ((0 : Int)).toNat = 0 from rfl] at hx325_0)
                (try rw [Addr.add_zero'] at hx325_0)
                replace p325 := eq_true p325
                replace q325 := eq_true q325
                have p326 : 0 ≤ (1 : Int) := (by omega)
                have q326 : 1 < (t320.length : Int) := of_decide_eq_true (by first | (with_reducible assumption) | assumption)
                obtain ⟨ad326, e326, hx326_0⟩ := Kd.at_int (Kd.R_reads' HO_4.out).2.2 1 p326 q326
                obtain rfl : ad325 = ad326 := (by injection e326)
                (try simp only [show (1 : Int).toNat = 1 from rfl, Nat.reduceMul, Nat.reduceEqDiff, Go.Addr.add, ↓reduceIte] at hx326_0)
                have qi326 : (1 < t320.length) = True := eq_true (by omega)
                (try rw [show ((1 : Int)).toNat = 1 from rfl] at hx326_0)
                replace p326 := eq_true p326
                replace q326 := eq_true q326
                have p327 : 0 ≤ (2 : Int) := (by omega)
                have q327 : 2 < (t320.length : Int) := of_decide_eq_true (by first | (with_reducible assumption) | assumption)
                obtain ⟨ad327, e327, hx327_0⟩ := Kd.at_int (Kd.R_reads' HO_4.out).2.2 2 p327 q327
                obtain rfl : ad325 = ad327 := (by injection e327)
                (try simp only [show (2 : Int).toNat = 2 from rfl, Nat.reduceMul, Nat.reduceEqDiff, Go.Addr.add, ↓reduceIte] at hx327_0)
                have qi327 : (2 < t320.length) = True := eq_true (by omega)
                (try rw [show ((2 : Int)).toNat = 2 from rfl] at hx327_0)
                replace p327 := eq_true p327
                replace q327 := eq_true q327
                have p328 : 0 ≤ (3 : Int) := (by omega)
                have q328 : 3 < (t320.length : Int) := of_decide_eq_true (by first | (with_reducible assumption) | assumption)
                obtain ⟨ad328, e328, hx328_0⟩ := Kd.at_int (Kd.R_reads' HO_4.out).2.2 3 p328 q328
                obtain rfl : ad325 = ad328 := (by injection e328)
                (try simp only [show (3 : Int).toNat = 3 from rfl, Nat.reduceMul, Nat.reduceEqDiff, Go.Addr.add, ↓reduceIte] at hx328_0)
                have qi328 : (3 < t320.length) = True := eq_true (by omega)
                (try rw [show ((3 : Int)).toNat = 3 from rfl] at hx328_0)
                replace p328 := eq_true p328
                replace q328 := eq_true q328
                have p329 : 0 ≤ (4 : Int) := (by omega)
                have q329 : 4 < (t320.length : Int) := of_decide_eq_true (by first | (with_reducible assumption) | assumption)
                obtain ⟨ad329, e329, hx329_0⟩ := Kd.at_int (Kd.R_reads' HO_4.out).2.2 4 p329 q329
                obtain rfl : ad325 = ad329 := (by injection e329)
                (try simp only [show (4 : Int).toNat = 4 from rfl, Nat.reduceMul, Nat.reduceEqDiff, Go.Addr.add, ↓reduceIte] at hx329_0)
                have qi329 : (4 < t320.length) = True := eq_true (by omega)
                (try rw [show ((4 : Int)).toNat = 4 from rfl] at hx329_0)
                replace p329 := eq_true p329
                replace q329 := eq_true q329
                go_wp2_with (first | (go_at_call 79; (with_reducible refine (when_Of.calls kj12 (rd t320 0) (wrap64 ((wrap64 (Int.tdiv t324 3)) + 1)) (rd t320 1) (rd t320 2) (rd t320 3) (rd t320 4) t330 true _ A21.out).mono ?_); rintro e w' ⟨rfl, ⟨nd, rfl⟩⟩; (try first | exact ⟨rfl, _, World.drewN_drewN _ _ _⟩ | exact ⟨rfl, _, Eq.trans (World.drewN_drewN _ _ _) (congrArg (World.drewN _) (Nat.add_assoc _ _ _))⟩)) | (go_at_call 31; (with_reducible refine (when_Http.calls kj12 t330 t332 _ A23.out).mono ?_); rintro e w26 ⟨rfl, hb⟩; have n0_ := Aside0.mk (Kd.R_below (by (with_reducible repeat (first | apply Kd.R_alloc | apply Kd.R_drewN | apply Kd.R_drew)); exact HO_4.out) hb); have n1_ := Aside0.mk (below_step (by repeat (first | (with_reducible first | exact HB.out | apply below_alloc | apply pw_below_drewN | apply below_drew1) | exact HB.out)) hb); clear HO_4; clear HB; have HO_4 := n0_; have HB := n1_; clear n0_ n1_; (try clear hb); (try clear hb2); (try clear hk); (try clear hi)))
                repeat (go_quiet (first | (go_at_call 79; (with_reducible refine (when_Of.calls kj12 (rd t320 0) (wrap64 ((wrap64 (Int.tdiv t324 3)) + 1)) (rd t320 1) (rd t320 2) (rd t320 3) (rd t320 4) t330 true _ A21.out).mono ?_); rintro e w' ⟨rfl, ⟨nd, rfl⟩⟩; (try first | exact ⟨rfl, _, World.drewN_drewN _ _ _⟩ | exact ⟨rfl, _, Eq.trans (World.drewN_drewN _ _ _) (congrArg (World.drewN _) (Nat.add_assoc _ _ _))⟩)) | (go_at_call 31; (with_reducible refine (when_Http.calls kj12 t330 t332 _ A23.out).mono ?_); rintro e w26 ⟨rfl, hb⟩; have n0_ := Aside0.mk (Kd.R_below (by (with_reducible repeat (first | apply Kd.R_alloc | apply Kd.R_drewN | apply Kd.R_drew)); exact HO_4.out) hb); have n1_ := Aside0.mk (below_step (by repeat (first | (with_reducible first | exact HB.out | apply below_alloc | apply pw_below_drewN | apply below_drew1) | exact HB.out)) hb); clear HO_4; clear HB; have HO_4 := n0_; have HB := n1_; clear n0_ n1_; (try clear hb); (try clear hb2); (try clear hk); (try clear hi))); try go_wp2_with (first | (go_at_call 79; (with_reducible refine (when_Of.calls kj12 (rd t320 0) (wrap64 ((wrap64 (Int.tdiv t324 3)) + 1)) (rd t320 1) (rd t320 2) (rd t320 3) (rd t320 4) t330 true _ A21.out).mono ?_); rintro e w' ⟨rfl, ⟨nd, rfl⟩⟩; (try first | exact ⟨rfl, _, World.drewN_drewN _ _ _⟩ | exact ⟨rfl, _, Eq.trans (World.drewN_drewN _ _ _) (congrArg (World.drewN _) (Nat.add_assoc _ _ _))⟩)) | (go_at_call 31; (with_reducible refine (when_Http.calls kj12 t330 t332 _ A23.out).mono ?_); rintro e w26 ⟨rfl, hb⟩; have n0_ := Aside0.mk (Kd.R_below (by (with_reducible repeat (first | apply Kd.R_alloc | apply Kd.R_drewN | apply Kd.R_drew)); exact HO_4.out) hb); have n1_ := Aside0.mk (below_step (by repeat (first | (with_reducible first | exact HB.out | apply below_alloc | apply pw_below_drewN | apply below_drew1) | exact HB.out)) hb); clear HO_4; clear HB; have HO_4 := n0_; have HB := n1_; clear n0_ n1_; (try clear hb); (try clear hb2); (try clear hk); (try clear hi))))
                go_ret2
                exact ⟨by first | rfl | (simp [errW_none, errW_some] <;> rfl) | (simp [*, errW_none, errW_some] <;> rfl), by repeat (first | (with_reducible first | exact HB.out | apply below_alloc | apply pw_below_drewN | apply below_drew1) | exact HB.out)⟩
               ·skip
                have c24b0 : (t332.toList == a0.toList) = false := beq_eq_false_iff_ne.mpr c24
                have c24b1 : (t332.toList != a0.toList) = true := bne_iff_ne.mpr c24
                simp only [Option.some.injEq, Prod.mk.injEq] at H
                obtain ⟨rfl, rfl⟩ := H
                obtain ⟨Ao27, co27, eo27⟩ := Kd.R_slice HO_4.out
                subst eo27
                have p325 : 0 ≤ (0 : Int) := (by omega)
                have q325 : 0 < (t320.length : Int) := of_decide_eq_true (by first | (with_reducible assumption) | assumption)
                obtain ⟨ad325, e325, hx325_0⟩ := Kd.at_int (Kd.R_reads' HO_4.out).2.2 0 p325 q325
                cases e325
                have qi325 : (0 < t320.length) = True := eq_true (by omega)
                (try rw [show ((0 : Int)).toNat = 0 from rfl] at hx325_0)
                (try rw [Addr.add_zero'] at hx325_0)
                replace p325 := eq_true p325
                replace q325 := eq_true q325
                have p326 : 0 ≤ (1 : Int) := (by omega)
                have q326 : 1 < (t320.length : Int) := of_decide_eq_true (by first | (with_reducible assumption) | assumption)
                obtain ⟨ad326, e326, hx326_0⟩ := Kd.at_int (Kd.R_reads' HO_4.out).2.2 1 p326 q326
                obtain rfl : ad325 = ad326 := (by injection e326)
                (try simp only [show (1 : Int).toNat = 1 from rfl, Nat.reduceMul, Nat.reduceEqDiff, Go.Addr.add, ↓reduceIte] at hx326_0)
                have qi326 : (1 < t320.length) = True := eq_true (by omega)
                (try rw [show ((1 : Int)).toNat = 1 from rfl] at hx326_0)
                replace p326 := eq_true p326
                replace q326 := eq_true q326
                have p327 : 0 ≤ (2 : Int) := (by omega)
                have q327 : 2 < (t320.length : Int) := of_decide_eq_true (by first | (with_reducible assumption) | assumption)
                obtain ⟨ad327, e327, hx327_0⟩ := Kd.at_int (Kd.R_reads' HO_4.out).2.2 2 p327 q327
                obtain rfl : ad325 = ad327 := (by injection e327)
                (try simp only [show (2 : Int).toNat = 2 from rfl, Nat.reduceMul, Nat.reduceEqDiff, Go.Addr.add, ↓reduceIte] at hx327_0)
                have qi327 : (2 < t320.length) = True := eq_true (by omega)
                (try rw [show ((2 : Int)).toNat = 2 from rfl] at hx327_0)
                replace p327 := eq_true p327
                replace q327 := eq_true q327
                have p328 : 0 ≤ (3 : Int) := (by omega)
                have q328 : 3 < (t320.length : Int) := of_decide_eq_true (by first | (with_reducible assumption) | assumption)
                obtain ⟨ad328, e328, hx328_0⟩ := Kd.at_int (Kd.R_reads' HO_4.out).2.2 3 p328 q328
                obtain rfl : ad325 = ad328 := (by injection e328)
                (try simp only [show (3 : Int).toNat = 3 from rfl, Nat.reduceMul, Nat.reduceEqDiff, Go.Addr.add, ↓reduceIte] at hx328_0)
                have qi328 : (3 < t320.length) = True := eq_true (by omega)
                (try rw [show ((3 : Int)).toNat = 3 from rfl] at hx328_0)
                replace p328 := eq_true p328
                replace q328 := eq_true q328
                have p329 : 0 ≤ (4 : Int) := (by omega)
                have q329 : 4 < (t320.length : Int) := of_decide_eq_true (by first | (with_reducible assumption) | assumption)
                obtain ⟨ad329, e329, hx329_0⟩ := Kd.at_int (Kd.R_reads' HO_4.out).2.2 4 p329 q329
                obtain rfl : ad325 = ad329 := (by injection e329)
                (try simp only [show (4 : Int).toNat = 4 from rfl, Nat.reduceMul, Nat.reduceEqDiff, Go.Addr.add, ↓reduceIte] at hx329_0)
                have qi329 : (4 < t320.length) = True := eq_true (by omega)
                (try rw [show ((4 : Int)).toNat = 4 from rfl] at hx329_0)
                replace p329 := eq_true p329
                replace q329 := eq_true q329
                go_wp2_with (first | (go_at_call 79; (with_reducible refine (when_Of.calls kj12 (rd t320 0) (wrap64 ((wrap64 (Int.tdiv t324 3)) + 1)) (rd t320 1) (rd t320 2) (rd t320 3) (rd t320 4) t330 true _ A21.out).mono ?_); rintro e w' ⟨rfl, ⟨nd, rfl⟩⟩; (try first | exact ⟨rfl, _, World.drewN_drewN _ _ _⟩ | exact ⟨rfl, _, Eq.trans (World.drewN_drewN _ _ _) (congrArg (World.drewN _) (Nat.add_assoc _ _ _))⟩)) | (go_at_call 31; (with_reducible refine (when_Http.calls kj12 t330 t332 _ A23.out).mono ?_); rintro e w28 ⟨rfl, hb⟩; have n0_ := Aside0.mk (Kd.R_below (by (with_reducible repeat (first | apply Kd.R_alloc | apply Kd.R_drewN | apply Kd.R_drew)); exact HO_4.out) hb); have n1_ := Aside0.mk (below_step (by repeat (first | (with_reducible first | exact HB.out | apply below_alloc | apply pw_below_drewN | apply below_drew1) | exact HB.out)) hb); clear HO_4; clear HB; have HO_4 := n0_; have HB := n1_; clear n0_ n1_; (try clear hb); (try clear hb2); (try clear hk); (try clear hi)))
                repeat (go_quiet (first | (go_at_call 79; (with_reducible refine (when_Of.calls kj12 (rd t320 0) (wrap64 ((wrap64 (Int.tdiv t324 3)) + 1)) (rd t320 1) (rd t320 2) (rd t320 3) (rd t320 4) t330 true _ A21.out).mono ?_); rintro e w' ⟨rfl, ⟨nd, rfl⟩⟩; (try first | exact ⟨rfl, _, World.drewN_drewN _ _ _⟩ | exact ⟨rfl, _, Eq.trans (World.drewN_drewN _ _ _) (congrArg (World.drewN _) (Nat.add_assoc _ _ _))⟩)) | (go_at_call 31; (with_reducible refine (when_Http.calls kj12 t330 t332 _ A23.out).mono ?_); rintro e w28 ⟨rfl, hb⟩; have n0_ := Aside0.mk (Kd.R_below (by (with_reducible repeat (first | apply Kd.R_alloc | apply Kd.R_drewN | apply Kd.R_drew)); exact HO_4.out) hb); have n1_ := Aside0.mk (below_step (by repeat (first | (with_reducible first | exact HB.out | apply below_alloc | apply pw_below_drewN | apply below_drew1) | exact HB.out)) hb); clear HO_4; clear HB; have HO_4 := n0_; have HB := n1_; clear n0_ n1_; (try clear hb); (try clear hb2); (try clear hk); (try clear hi))); try go_wp2_with (first | (go_at_call 79; (with_reducible refine (when_Of.calls kj12 (rd t320 0) (wrap64 ((wrap64 (Int.tdiv t324 3)) + 1)) (rd t320 1) (rd t320 2) (rd t320 3) (rd t320 4) t330 true _ A21.out).mono ?_); rintro e w' ⟨rfl, ⟨nd, rfl⟩⟩; (try first | exact ⟨rfl, _, World.drewN_drewN _ _ _⟩ | exact ⟨rfl, _, Eq.trans (World.drewN_drewN _ _ _) (congrArg (World.drewN _) (Nat.add_assoc _ _ _))⟩)) | (go_at_call 31; (with_reducible refine (when_Http.calls kj12 t330 t332 _ A23.out).mono ?_); rintro e w28 ⟨rfl, hb⟩; have n0_ := Aside0.mk (Kd.R_below (by (with_reducible repeat (first | apply Kd.R_alloc | apply Kd.R_drewN | apply Kd.R_drew)); exact HO_4.out) hb); have n1_ := Aside0.mk (below_step (by repeat (first | (with_reducible first | exact HB.out | apply below_alloc | apply pw_below_drewN | apply below_drew1) | exact HB.out)) hb); clear HO_4; clear HB; have HO_4 := n0_; have HB := n1_; clear n0_ n1_; (try clear hb); (try clear hb2); (try clear hk); (try clear hi))))
                go_ret2
                exact ⟨by first | rfl | (simp [errW_none, errW_some] <;> rfl) | (simp [*, errW_none, errW_some] <;> rfl), by repeat (first | (with_reducible first | exact HB.out | apply below_alloc | apply pw_below_drewN | apply below_drew1) | exact HB.out)⟩
              ·replace c22 := Bool.eq_false_iff.mpr c22
               subst c22
               replace H := itF H
               simp only [Option.some.injEq, Prod.mk.injEq] at H
               obtain ⟨rfl, rfl⟩ := H
               obtain ⟨Ao29, co29, eo29⟩ := Kd.R_slice HO_4.out
               subst eo29
               have p325 : 0 ≤ (0 : Int) := (by omega)
               have q325 : 0 < (t320.length : Int) := of_decide_eq_true (by first | (with_reducible assumption) | assumption)
               obtain ⟨ad325, e325, hx325_0⟩ := Kd.at_int (Kd.R_reads' HO_4.out).2.2 0 p325 q325
               cases e325
               have qi325 : (0 < t320.length) = True := eq_true (by omega)
               (try rw [show ((0 : Int)).toNat = 0 from rfl] at hx325_0)
               (try rw [Addr.add_zero'] at hx325_0)
               replace p325 := eq_true p325
               replace q325 := eq_true q325
               have p326 : 0 ≤ (1 : Int) := (by omega)
               have q326 : 1 < (t320.length : Int) := of_decide_eq_true (by first | (with_reducible assumption) | assumption)
               obtain ⟨ad326, e326, hx326_0⟩ := Kd.at_int (Kd.R_reads' HO_4.out).2.2 1 p326 q326
               obtain rfl : ad325 = ad326 := (by injection e326)
               (try simp only [show (1 : Int).toNat = 1 from rfl, Nat.reduceMul, Nat.reduceEqDiff, Go.Addr.add, ↓reduceIte] at hx326_0)
               have qi326 : (1 < t320.length) = True := eq_true (by omega)
               (try rw [show ((1 : Int)).toNat = 1 from rfl] at hx326_0)
               replace p326 := eq_true p326
               replace q326 := eq_true q326
               have p327 : 0 ≤ (2 : Int) := (by omega)
               have q327 : 2 < (t320.length : Int) := of_decide_eq_true (by first | (with_reducible assumption) | assumption)
               obtain ⟨ad327, e327, hx327_0⟩ := Kd.at_int (Kd.R_reads' HO_4.out).2.2 2 p327 q327
               obtain rfl : ad325 = ad327 := (by injection e327)
               (try simp only [show (2 : Int).toNat = 2 from rfl, Nat.reduceMul, Nat.reduceEqDiff, Go.Addr.add, ↓reduceIte] at hx327_0)
               have qi327 : (2 < t320.length) = True := eq_true (by omega)
               (try rw [show ((2 : Int)).toNat = 2 from rfl] at hx327_0)
               replace p327 := eq_true p327
               replace q327 := eq_true q327
               have p328 : 0 ≤ (3 : Int) := (by omega)
               have q328 : 3 < (t320.length : Int) := of_decide_eq_true (by first | (with_reducible assumption) | assumption)
               obtain ⟨ad328, e328, hx328_0⟩ := Kd.at_int (Kd.R_reads' HO_4.out).2.2 3 p328 q328
               obtain rfl : ad325 = ad328 := (by injection e328)
               (try simp only [show (3 : Int).toNat = 3 from rfl, Nat.reduceMul, Nat.reduceEqDiff, Go.Addr.add, ↓reduceIte] at hx328_0)
               have qi328 : (3 < t320.length) = True := eq_true (by omega)
               (try rw [show ((3 : Int)).toNat = 3 from rfl] at hx328_0)
               replace p328 := eq_true p328
               replace q328 := eq_true q328
               have p329 : 0 ≤ (4 : Int) := (by omega)
               have q329 : 4 < (t320.length : Int) := of_decide_eq_true (by first | (with_reducible assumption) | assumption)
               obtain ⟨ad329, e329, hx329_0⟩ := Kd.at_int (Kd.R_reads' HO_4.out).2.2 4 p329 q329
               obtain rfl : ad325 = ad329 := (by injection e329)
               (try simp only [show (4 : Int).toNat = 4 from rfl, Nat.reduceMul, Nat.reduceEqDiff, Go.Addr.add, ↓reduceIte] at hx329_0)
               have qi329 : (4 < t320.length) = True := eq_true (by omega)
               (try rw [show ((4 : Int)).toNat = 4 from rfl] at hx329_0)
               replace p329 := eq_true p329
               replace q329 := eq_true q329
               go_wp2_with (first | (go_at_call 79; (with_reducible refine (when_Of.calls kj12 (rd t320 0) (wrap64 ((wrap64 (Int.tdiv t324 3)) + 1)) (rd t320 1) (rd t320 2) (rd t320 3) (rd t320 4) t330 false _ A21.out).mono ?_); rintro e w' ⟨rfl, ⟨nd, rfl⟩⟩; (try first | exact ⟨rfl, _, World.drewN_drewN _ _ _⟩ | exact ⟨rfl, _, Eq.trans (World.drewN_drewN _ _ _) (congrArg (World.drewN _) (Nat.add_assoc _ _ _))⟩)))
               repeat (go_quiet (first | (go_at_call 79; (with_reducible refine (when_Of.calls kj12 (rd t320 0) (wrap64 ((wrap64 (Int.tdiv t324 3)) + 1)) (rd t320 1) (rd t320 2) (rd t320 3) (rd t320 4) t330 false _ A21.out).mono ?_); rintro e w' ⟨rfl, ⟨nd, rfl⟩⟩; (try first | exact ⟨rfl, _, World.drewN_drewN _ _ _⟩ | exact ⟨rfl, _, Eq.trans (World.drewN_drewN _ _ _) (congrArg (World.drewN _) (Nat.add_assoc _ _ _))⟩))); try go_wp2_with (first | (go_at_call 79; (with_reducible refine (when_Of.calls kj12 (rd t320 0) (wrap64 ((wrap64 (Int.tdiv t324 3)) + 1)) (rd t320 1) (rd t320 2) (rd t320 3) (rd t320 4) t330 false _ A21.out).mono ?_); rintro e w' ⟨rfl, ⟨nd, rfl⟩⟩; (try first | exact ⟨rfl, _, World.drewN_drewN _ _ _⟩ | exact ⟨rfl, _, Eq.trans (World.drewN_drewN _ _ _) (congrArg (World.drewN _) (Nat.add_assoc _ _ _))⟩))))
               go_ret2
               exact ⟨by first | rfl | (simp [errW_none, errW_some] <;> rfl) | (simp [*, errW_none, errW_some] <;> rfl), by repeat (first | (with_reducible first | exact HB.out | apply below_alloc | apply pw_below_drewN | apply below_drew1) | exact HB.out)⟩
             ·exact absurd H (by simp)
            ·exact absurd H (by simp)
           ·exact absurd H (by simp)
          ·exact absurd H (by simp)
         ·exact absurd H (by simp)
     ·exact absurd H (by simp)
    ·exact absurd H (by simp)
end Go.Proofs.YtfjidcmegacibaaDoor.Q
