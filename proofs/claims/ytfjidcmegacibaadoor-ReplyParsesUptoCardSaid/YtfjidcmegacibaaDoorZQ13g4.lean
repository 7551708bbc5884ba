/- A part of the proof of the seat's laws. No condition beyond those in the theorems. -/
import Derived.Test.YtfjidcmegacibaaDoorZSqzB
import Derived.Test.YtfjidcmegacibaaDoorZQ0g11

namespace Go.Proofs.YtfjidcmegacibaaDoor.Q
open Go.RowKit Go.Proofs.YtfjidcmegacibaaDoorW.PrintWords Go.Proofs.YtfjidcmegacibaaDoorW.PrintLast Go.Proofs.YtfjidcmegacibaaDoorW.PrintMore
set_option linter.unusedVariables false
set_option linter.unusedSimpArgs false
set_option maxHeartbeats 8000000
set_option maxRecDepth 100000
attribute [local go_sem] max2_int min2_int max_two min_two max_three min_three max_four min_four   
def IsS55 (w0 W : World) (g : Nat) (f0 : ByteArray) (f1 : Int) (f2 : Bool) : Prop := W.heap[g]? = some (.cells #[.string f0, .int .i64 f1, .bool f2] 55 (0, 0)) ∧ w0.heap.size ≤ g
theorem IsS55.grown {w0 W : World} {g : Nat} {f0 : ByteArray} {f1 : Int} {f2 : Bool} {W1 : World} {row : Option Nat} (h : IsS55 w0 W g f0 f1 f2) (hw : W.grownBy W1 row) (hne : some g ≠ row) : IsS55 w0 W1 g f0 f1 f2 := by
 obtain ⟨hb, hg⟩ := h
 exact ⟨blk_grown hb hw hne, hg⟩
theorem IsS55.own_neN {w0 W : World} {g : Nat} {f0 : ByteArray} {f1 : Int} {f2 : Bool} {α : Type} {d : Kd α} {e : Nat} {base : Nat} {ok : Nat → Prop} {v : Value} {xs : List α} (h : IsS55 w0 W g f0 f1 f2) (ho : Kd.N d e W base ok v xs) (ht : e ≠ 55) : some g ≠ v.ownBlock := by
 obtain ⟨hb, hg⟩ := h
 exact Kd.N_ne ho hb ht
theorem IsS55.fresh {w0 W : World} {g : Nat} {f0 : ByteArray} {f1 : Int} {f2 : Bool} (h : IsS55 w0 W g f0 f1 f2) : ∀ k, W.heap.size ≤ k → k ≠ g := by
 obtain ⟨hb, hg⟩ := h
 exact Kd.freshB hb
theorem IsS55.kept {w0 W : World} {g : Nat} {f0 : ByteArray} {f1 : Int} {f2 : Bool} {W1 : World} {S : Nat → Prop} (h : IsS55 w0 W g f0 f1 f2) (hk : Kept W W1 S) (hne : ¬ S g) : IsS55 w0 W1 g f0 f1 f2 := by
 obtain ⟨hb, hg⟩ := h
 exact ⟨blk_kept hb hk hne, hg⟩
theorem IsS55.below {w0 W : World} {g : Nat} {f0 : ByteArray} {f1 : Int} {f2 : Bool} {W1 : World} (h : IsS55 w0 W g f0 f1 f2) (hw : Below W.heap.size W W1) : IsS55 w0 W1 g f0 f1 f2 := h.grown (grown_of_below hw none) (by simp)
theorem IsS55.alloc {w0 W : World} {g : Nat} {f0 : ByteArray} {f1 : Int} {f2 : Bool} (h : IsS55 w0 W g f0 f1 f2) (o : Obj) : IsS55 w0 (W.alloc o) g f0 f1 f2 := h.below (below_alloc (Below.refl _ _) o)
theorem IsS55.drewN {w0 W : World} {g : Nat} {f0 : ByteArray} {f1 : Int} {f2 : Bool} (h : IsS55 w0 W g f0 f1 f2) (m : Nat) : IsS55 w0 (W.drewN m) g f0 f1 f2 := h
theorem IsS55.drew {w0 W : World} {g : Nat} {f0 : ByteArray} {f1 : Int} {f2 : Bool} (h : IsS55 w0 W g f0 f1 f2) : IsS55 w0 W.drew g f0 f1 f2 := h
theorem IsS55.at_ {w0 W : World} {g : Nat} {f0 : ByteArray} {f1 : Int} {f2 : Bool} {w' : World} {m : Nat} (hq : W.drewN m = w') (h : IsS55 w0 W g f0 f1 f2) : IsS55 w0 w' g f0 f1 f2 := by subst hq; exact IsS55.drewN h m
theorem IsS55.apart {w0 W : World} {g : Nat} {f0 : ByteArray} {f1 : Int} {f2 : Bool} {α : Type} {d : Kd α} {e : Nat} {base : Nat} {ok : Nat → Prop} {v : Value} {xs : List α} (h : IsS55 w0 W g f0 f1 f2) (ho : d.R e W base ok v xs) (ht : ∀ q, q ∈ e :: d.E → q ≠ 55) : d.R e W base (fun k => ok k ∧ k ≠ g) v xs := by
 obtain ⟨hb, hg⟩ := h
 exact Kd.R_types ho hb ht
theorem IsS55.own_ne {w0 W : World} {g : Nat} {f0 : ByteArray} {f1 : Int} {f2 : Bool} {α : Type} {d : Kd α} {e : Nat} {base : Nat} {ok : Nat → Prop} {v : Value} {xs : List α} (h : IsS55 w0 W g f0 f1 f2) (ho : d.R e W base ok v xs) (ht : e ≠ 55) : some g ≠ v.ownBlock := by
 obtain ⟨hb, hg⟩ := h
 exact Kd.R_ne ho hb ht
theorem IsS55.apartQ {w0 W : World} {g : Nat} {f0 : ByteArray} {f1 : Int} {f2 : Bool} {α : Type} {d : Kd α} {e : Nat} {base : Nat} {ok : Nat → Prop} {v : Value} {xs : List α} (h : IsS55 w0 W g f0 f1 f2) (ho : d.Q e W base ok v xs) (ht : ∀ q, q ∈ e :: d.E → q ≠ 55) : d.Q e W base (fun k => ok k ∧ k ≠ g) v xs := by
 obtain ⟨hb, hg⟩ := h
 exact Kd.Q_types ho hb ht
theorem IsS55.own_neQ {w0 W : World} {g : Nat} {f0 : ByteArray} {f1 : Int} {f2 : Bool} {α : Type} {d : Kd α} {e : Nat} {base : Nat} {ok : Nat → Prop} {v : Value} {xs : List α} (h : IsS55 w0 W g f0 f1 f2) (ho : d.Q e W base ok v xs) (ht : e ≠ 55) : some g ≠ v.ownBlock := by
 obtain ⟨hb, hg⟩ := h
 exact Kd.Q_ne ho hb ht
theorem IsS55.apartS {w0 W : World} {g : Nat} {f0 : ByteArray} {f1 : Int} {f2 : Bool} {α : Type} {d : Kd α} {e : Nat} {base : Nat} {ok : Nat → Prop} {v : Value} {xs : List α} (h : IsS55 w0 W g f0 f1 f2) (ho : d.S e W base ok v xs) (ht : ∀ q, q ∈ e :: d.E → q ≠ 55) : d.S e W base (fun k => ok k ∧ k ≠ g) v xs := by
 obtain ⟨hb, hg⟩ := h
 exact Kd.S_types ho hb ht
theorem IsS55.own_neS {w0 W : World} {g : Nat} {f0 : ByteArray} {f1 : Int} {f2 : Bool} {α : Type} {d : Kd α} {e : Nat} {base : Nat} {ok : Nat → Prop} {v : Value} {xs : List α} (h : IsS55 w0 W g f0 f1 f2) (ho : d.S e W base ok v xs) (ht : e ≠ 55) : some g ≠ v.ownBlock := by
 obtain ⟨hb, hg⟩ := h
 exact Kd.S_ne ho hb ht
theorem IsS55.lt {w0 W : World} {g : Nat} {f0 : ByteArray} {f1 : Int} {f2 : Bool} (h : IsS55 w0 W g f0 f1 f2) : g < W.heap.size := by
 obtain ⟨hb, hg⟩ := h
 exact blk_lt hb
theorem IsS55.ge {w0 W : World} {g : Nat} {f0 : ByteArray} {f1 : Int} {f2 : Bool} (h : IsS55 w0 W g f0 f1 f2) : w0.heap.size ≤ g := by
 obtain ⟨hb, hg⟩ := h
 exact hg
theorem IsS55.ne_blk {w0 W : World} {g : Nat} {f0 : ByteArray} {f1 : Int} {f2 : Bool} {a : Nat} {cs : Array Value} {t : TypeId} {fr : Nat × Nat} (h : IsS55 w0 W g f0 f1 f2) (hb2 : W.heap[a]? = some (.cells cs t fr)) (ht : t ≠ 55) : g ≠ a := by
 obtain ⟨hb, hg⟩ := h
 rintro rfl
 rw [hb] at hb2
 injection hb2 with hb2
 injection hb2 with _ ht2
 exact ht ht2.symm
theorem IsS55.far {w0 W : World} {g : Nat} {f0 : ByteArray} {f1 : Int} {f2 : Bool} {p : Addr} (h : IsS55 w0 W g f0 f1 f2) (hne : g ≠ p.block) (u : Value) : IsS55 w0 (W.setCell p u) g f0 f1 f2 := by
 obtain ⟨hb, hg⟩ := h
 exact ⟨blk_far hb hne u, hg⟩
theorem cellS55_0 {W : World} {g : Nat} {f0 : ByteArray} {f1 : Int} {f2 : Bool} (h : W.heap[g]? = some (.cells #[.string f0, .int .i64 f1, .bool f2] 55 (0, 0))) : W.cell? ⟨g, 0, none⟩ = some (.string f0) := (blk_cell h 0).trans rfl
theorem IsS55.set_0 {w0 W : World} {g : Nat} {f0 : ByteArray} {f1 : Int} {f2 : Bool} (h : IsS55 w0 W g f0 f1 f2) (x : ByteArray) : IsS55 w0 (W.setCell ⟨g, 0, none⟩ (.string x)) g x f1 f2 := by
 obtain ⟨hb, hg⟩ := h
 exact ⟨by simpa using blk_set hb 0 (.string x), hg⟩
theorem cellS55_1 {W : World} {g : Nat} {f0 : ByteArray} {f1 : Int} {f2 : Bool} (h : W.heap[g]? = some (.cells #[.string f0, .int .i64 f1, .bool f2] 55 (0, 0))) : W.cell? ⟨g, 1, none⟩ = some (.int .i64 f1) := (blk_cell h 1).trans rfl
theorem IsS55.set_1 {w0 W : World} {g : Nat} {f0 : ByteArray} {f1 : Int} {f2 : Bool} (h : IsS55 w0 W g f0 f1 f2) (x : Int) : IsS55 w0 (W.setCell ⟨g, 1, none⟩ (.int .i64 x)) g f0 x f2 := by
 obtain ⟨hb, hg⟩ := h
 exact ⟨by simpa using blk_set hb 1 (.int .i64 x), hg⟩
theorem cellS55_2 {W : World} {g : Nat} {f0 : ByteArray} {f1 : Int} {f2 : Bool} (h : W.heap[g]? = some (.cells #[.string f0, .int .i64 f1, .bool f2] 55 (0, 0))) : W.cell? ⟨g, 2, none⟩ = some (.bool f2) := (blk_cell h 2).trans rfl
theorem IsS55.set_2 {w0 W : World} {g : Nat} {f0 : ByteArray} {f1 : Int} {f2 : Bool} (h : IsS55 w0 W g f0 f1 f2) (x : Bool) : IsS55 w0 (W.setCell ⟨g, 2, none⟩ (.bool x)) g f0 f1 x := by
 obtain ⟨hb, hg⟩ := h
 exact ⟨by simpa using blk_set hb 2 (.bool x), hg⟩
theorem IsS55.new (w0 W : World) (f0 : ByteArray) (f1 : Int) (f2 : Bool) (hB : Below w0.heap.size w0 W) : IsS55 w0 (W.alloc (.cells #[.string f0, .int .i64 f1, .bool f2] 55)) W.heap.size f0 f1 f2 := ⟨by simpa using heap_alloc_new W _, hB.size⟩
theorem isl55 {w0 W : World} {g : Nat} {f0 : ByteArray} {f1 : Int} {f2 : Bool} (h : IsS55 w0 W g f0 f1 f2 := by repeat (first | (with_reducible first | exact Aside0.out (by assumption) | apply IsS55.alloc | apply IsS55.drewN | apply IsS55.drew | apply IsS55.set_0 | apply IsS55.set_1 | apply IsS55.set_2 | refine IsS55.far ?_ (Aside0.out (by assumption)) _) | exact Aside0.out (by assumption))) : IsS55 w0 W g f0 f1 f2 := h
def stowageref17_Reader_line.l0 : Nat → Int → ByteArray → Int → Bool → Option (ByteArray × ByteArray × Int × Bool)
  | 0, _, _, _, _ => none
  | k + 1, x3, x1000, x1001, x1002 => if (wrap64 (x3 + 1)) < (x1000.size : Int) then (if 0 ≤ x3 then (if x3 < (x1000.size : Int) then (if (bt x1000 x3) = 13 then (if 0 ≤ (wrap64 (x3 + 1)) then (if (bt x1000 (wrap64 (x3 + 1))) = 10 then (if 0 ≤ x1001 then (if x1001 ≤ x3 then (if x3 ≤ (x1000.size : Int) then (some (x1000.extract (x1001 : Int).toNat (x3 : Int).toNat, x1000, wrap64 (x3 + 2), x1002)) else (none)) else (none)) else (none)) else (stowageref17_Reader_line.l0 k (wrap64 (x3 + 1)) x1000 x1001 x1002)) else (none)) else (stowageref17_Reader_line.l0 k (wrap64 (x3 + 1)) x1000 x1001 x1002)) else (none)) else (none)) else (some ((⟨#[]⟩ : ByteArray), x1000, x1001, true))
def stowageref17_Reader_line.f (k : Nat) (s0_0 : ByteArray) (s0_1 : Int) (s0_2 : Bool) : Option (ByteArray × ByteArray × Int × Bool) := stowageref17_Reader_line.l0 k s0_1 s0_0 s0_1 s0_2
theorem stowageref17_Reader_line.mono_l : ∀ k, (∀ y0 y1 y2 y3, LeO (stowageref17_Reader_line.l0 k y0 y1 y2 y3) (stowageref17_Reader_line.l0 (k + 1) y0 y1 y2 y3))
  | 0 => fun _ _ _ _ r h => by simp [stowageref17_Reader_line.l0] at h
  | k + 1 => by
    have ih0 := stowageref17_Reader_line.mono_l k
    · intro y0 y1 y2 y3
      unfold stowageref17_Reader_line.l0
      with_reducible repeat' first | exact ih0 _ _ _ _ | exact LeO.refl _ | exact LeO.none _ | refine LeO.ite ?_ ?_ | refine LeO.bind ?_ (fun _ => ?_)
theorem stowageref17_Reader_line.mono : ∀ a0 a1 a2 k, LeO (stowageref17_Reader_line.f k a0 a1 a2) (stowageref17_Reader_line.f (k + 1) a0 a1 a2) := by
 intro a0 a1 a2 k
 have ih0 := stowageref17_Reader_line.mono_l k
 unfold stowageref17_Reader_line.f
 with_reducible repeat' first | exact ih0 _ _ _ _ | exact LeO.refl _ | exact LeO.none _ | refine LeO.ite ?_ ?_ | refine LeO.bind ?_ (fun _ => ?_)
theorem stowageref17_Reader_line.calls (k : Nat) (g : Nat) (s0_0 : ByteArray) (s0_1 : Int) (s0_2 : Bool) (r1 : ByteArray) (r2 : ByteArray) (r3 : Int) (r4 : Bool) (w0 w : World) (hI : IsS55 w0 w g s0_0 s0_1 s0_2) (hB : Below w0.heap.size w0 w) (h : stowageref17_Reader_line.f k s0_0 s0_1 s0_2 = some (r1, r2, r3, r4)) :
    Calls Tryd.prog 24 #[.pointer (some ⟨g, 0, none⟩)] w fun e w' => e = .returned (.string r1) ∧ IsS55 w0 w' g r2 r3 r4 ∧ Below w0.heap.size w0 w' ∧ KeepBut w w' g none := by
 have HI0 := Aside0.mk hI
 have HK := Aside0.mk (KeepBut.refl w g none)
 have HL := Aside0.mk hB.size
 clear hI
 have HW0 := Aside0.mk hB.size
 have HB := Aside0.mk hB
 clear hB
 unfold stowageref17_Reader_line.f at h
 have H := h
 clear h
 have H' := Aside0.mk H
 clear H
 obtain ⟨HGz2, hgz2⟩ := HI0.out
 have hcz2_0 := cellS55_0 HGz2
 have hcz2_1 := cellS55_1 HGz2
 have hcz2_2 := cellS55_2 HGz2
 have hfz2_0 := blk_frozen HGz2 0
 have hfz2_1 := blk_frozen HGz2 1
 have hfz2_2 := blk_frozen HGz2 2
 clear HGz2 hgz2
 go_enter Tryd.func24, Tryd.ntmps24
 go_wp2
 repeat (go_quiet (fail); try go_wp2)
 go_loopg [3] k (fun kq v3 w' => ∃ (x3_1 : Int) (x1001_1 : Int), v3 = .int .i64 x3_1 ∧ Aside0 (stowageref17_Reader_line.l0 kq x3_1 s0_0 x1001_1 s0_2 = some (r1, r2, r3, r4)) ∧ Aside0 (kq ≤ k) ∧ Aside0 (IsS55 w0 w' g s0_0 x1001_1 s0_2) ∧ Aside0 (KeepBut w w' g none) ∧ Aside0 (Below w0.heap.size w0 w'))
 case atStart => exact ⟨(s0_1), (s0_1), rs, H', ⟨Nat.le_refl _⟩, ⟨isl55⟩, ⟨kk⟩, ⟨by repeat (first | (with_reducible first | exact HB.out | apply below_alloc | apply pw_below_drewN | apply below_drew1 | refine below_set ?_ (IsS55.ge HI0.out)) | exact HB.out)⟩⟩
 case round =>
  clear H'
  obtain ⟨x3_1, x1001_1, rfl, HA, HK1, HI0, HK, HB⟩ := hrel
  cases gk with
  | zero => exact absurd HA.out (by simp [stowageref17_Reader_line.l0])
  | succ k1 =>
   have H := HA.out
   clear HA
   simp only [stowageref17_Reader_line.l0] at H
   replace H := itO H
   rcases H with ⟨c3, H⟩ | ⟨c3, H⟩
   {
   have c3b0 : decide ((wrap64 (x3_1 + 1)) < (s0_0.size : Int)) = true := decide_eq_true c3
   clear c3
   replace H := itO H
   rcases H with ⟨c4, H⟩ | ⟨c4, H⟩
   {
   have c4b0 : decide (0 ≤ x3_1) = true := decide_eq_true c4
   clear c4
   replace H := itO H
   rcases H with ⟨c5, H⟩ | ⟨c5, H⟩
   {
   have c5b0 : decide (x3_1 < (s0_0.size : Int)) = true := decide_eq_true c5
   clear c5
   replace H := itO H
   rcases H with ⟨c7, H⟩ | ⟨c7, H⟩
   {
   have c7b0 : ((bt s0_0 x3_1) == 13) = true := beq_iff_eq.mpr c7
   clear c7
   obtain ⟨ji8, hji8⟩ : ∃ j_ : Int, (wrap64 (x3_1 + 1)) = j_ := ⟨_, rfl⟩
   first | rw [hji8] at H | simp only [hji8] at H
   (try rw [hji8] at c3b0)
   have hji8w : (IntKind.i64.wrap (x3_1 + 1)) = ji8 := (i64_w _).trans hji8
   replace H := itO H
   rcases H with ⟨c9, H⟩ | ⟨c9, H⟩
   {
   have c9b0 : decide (0 ≤ (ji8)) = true := decide_eq_true c9
   clear c9
   replace H := itO H
   rcases H with ⟨c11, H⟩ | ⟨c11, H⟩
   {
   have c11b0 : ((bt s0_0 (ji8)) == 10) = true := beq_iff_eq.mpr c11
   clear c11
   replace H := itO H
   rcases H with ⟨c12, H⟩ | ⟨c12, H⟩
   {
   have c12b0 := eq_true c12
   clear c12
   replace H := itO H
   rcases H with ⟨c13, H⟩ | ⟨c13, H⟩
   {
   have c13b0 := eq_true c13
   clear c13
   replace H := itO H
   rcases H with ⟨c14, H⟩ | ⟨c14, H⟩
   {
   have c14b0 := eq_true c14
   clear c14
   simp only [Option.some.injEq, Prod.mk.injEq] at H
   obtain ⟨rfl, rfl, rfl, rfl⟩ := H
   obtain ⟨HGz15, hgz15⟩ := HI0.out
   have hcz15_0 := cellS55_0 HGz15
   have hcz15_1 := cellS55_1 HGz15
   have hcz15_2 := cellS55_2 HGz15
   have hfz15_0 := blk_frozen HGz15 0
   have hfz15_1 := blk_frozen HGz15 1
   have hfz15_2 := blk_frozen HGz15 2
   clear HGz15 hgz15
   have p6 : 0 ≤ (x3_1 : Int) := of_decide_eq_true asm
   have q6 : x3_1 < (s0_0.size : Int) := of_decide_eq_true asm
   have hx6 := bt_at s0_0 x3_1
   replace p6 := eq_true p6
   replace q6 := eq_true q6
   have p10 : 0 ≤ ((ji8) : Int) := of_decide_eq_true asm
   have q10 : (ji8) < (s0_0.size : Int) := of_decide_eq_true asm
   have hx10 := bt_at s0_0 (ji8)
   replace p10 := eq_true p10
   replace q10 := eq_true q10
   go_wp2
   repeat (go_quiet (fail); try go_wp2)
   go_ret
   exact ⟨by first | rfl | (simp [errW_none, errW_some] <;> rfl) | (simp only [← hji8]; first | rfl | (simp [errW_none, errW_some] <;> rfl)) | (simp [*, errW_none, errW_some] <;> rfl), isl55, by repeat (first | (with_reducible first | exact HB.out | apply below_alloc | apply pw_below_drewN | apply below_drew1 | refine below_set ?_ (IsS55.ge HI0.out)) | exact HB.out), kk⟩
   }
   ·exact absurd H (by simp)
   }
   ·exact absurd H (by simp)
   }
   ·exact absurd H (by simp)
   }
   {
   have c11b0 : ((bt s0_0 (ji8)) == 10) = false := beq_eq_false_iff_ne.mpr c11
   have H' := Aside0.mk H
   clear H
   obtain ⟨HGz16, hgz16⟩ := HI0.out
   have hcz16_0 := cellS55_0 HGz16
   have hcz16_1 := cellS55_1 HGz16
   have hcz16_2 := cellS55_2 HGz16
   have hfz16_0 := blk_frozen HGz16 0
   have hfz16_1 := blk_frozen HGz16 1
   have hfz16_2 := blk_frozen HGz16 2
   clear HGz16 hgz16
   have p6 : 0 ≤ (x3_1 : Int) := of_decide_eq_true asm
   have q6 : x3_1 < (s0_0.size : Int) := of_decide_eq_true asm
   have hx6 := bt_at s0_0 x3_1
   replace p6 := eq_true p6
   replace q6 := eq_true q6
   have p10 : 0 ≤ ((ji8) : Int) := of_decide_eq_true asm
   have q10 : (ji8) < (s0_0.size : Int) := of_decide_eq_true asm
   have hx10 := bt_at s0_0 (ji8)
   replace p10 := eq_true p10
   replace q10 := eq_true q10
   go_wp2
   repeat (go_quiet (fail); try go_wp2)
   go_roundg k1
   case measure => have := HK1.out; omega
   case rel => exact ⟨(ji8), (x1001_1), (by first | rfl | (simp; done) | (simp only [← hji8] <;> (first | rfl | simp)) | (simp [*]; done)), H', ⟨by have := HK1.out; omega⟩, ⟨isl55⟩, ⟨kk⟩, ⟨by repeat (first | (with_reducible first | exact HB.out | apply below_alloc | apply pw_below_drewN | apply below_drew1 | refine below_set ?_ (IsS55.ge HI0.out)) | exact HB.out)⟩⟩
   }
   }
   ·exact absurd H (by simp)
   }
   {
   have c7b0 : ((bt s0_0 x3_1) == 13) = false := beq_eq_false_iff_ne.mpr c7
   have H' := Aside0.mk H
   clear H
   obtain ⟨HGz17, hgz17⟩ := HI0.out
   have hcz17_0 := cellS55_0 HGz17
   have hcz17_1 := cellS55_1 HGz17
   have hcz17_2 := cellS55_2 HGz17
   have hfz17_0 := blk_frozen HGz17 0
   have hfz17_1 := blk_frozen HGz17 1
   have hfz17_2 := blk_frozen HGz17 2
   clear HGz17 hgz17
   have p6 : 0 ≤ (x3_1 : Int) := of_decide_eq_true asm
   have q6 : x3_1 < (s0_0.size : Int) := of_decide_eq_true asm
   have hx6 := bt_at s0_0 x3_1
   replace p6 := eq_true p6
   replace q6 := eq_true q6
   go_wp2
   repeat (go_quiet (fail); try go_wp2)
   go_roundg k1
   case measure => have := HK1.out; omega
   case rel => exact ⟨(wrap64 (x3_1 + 1)), (x1001_1), rs, H', ⟨by have := HK1.out; omega⟩, ⟨isl55⟩, ⟨kk⟩, ⟨by repeat (first | (with_reducible first | exact HB.out | apply below_alloc | apply pw_below_drewN | apply below_drew1 | refine below_set ?_ (IsS55.ge HI0.out)) | exact HB.out)⟩⟩
   }
   }
   ·exact absurd H (by simp)
   }
   ·exact absurd H (by simp)
   }
   {
   have c3b0 : decide ((wrap64 (x3_1 + 1)) < (s0_0.size : Int)) = false := decide_eq_false c3
   clear c3
   simp only [Option.some.injEq, Prod.mk.injEq] at H
   obtain ⟨rfl, rfl, rfl, rfl⟩ := H
   obtain ⟨HGz18, hgz18⟩ := HI0.out
   have hcz18_0 := cellS55_0 HGz18
   have hcz18_1 := cellS55_1 HGz18
   have hcz18_2 := cellS55_2 HGz18
   have hfz18_0 := blk_frozen HGz18 0
   have hfz18_1 := blk_frozen HGz18 1
   have hfz18_2 := blk_frozen HGz18 2
   clear HGz18 hgz18
   go_wp2
   repeat (go_quiet (fail); try go_wp2)
   go_ret
   exact ⟨by first | rfl | (simp [errW_none, errW_some] <;> rfl) | (simp [*, errW_none, errW_some] <;> rfl), isl55, by repeat (first | (with_reducible first | exact HB.out | apply below_alloc | apply pw_below_drewN | apply below_drew1 | refine below_set ?_ (IsS55.ge HI0.out)) | exact HB.out), kk⟩
   }
end Go.Proofs.YtfjidcmegacibaaDoor.Q


namespace Go.Proofs.YtfjidcmegacibaaDoor.Q
open Go.RowKit Go.Proofs.YtfjidcmegacibaaDoorW.PrintWords Go.Proofs.YtfjidcmegacibaaDoorW.PrintLast Go.Proofs.YtfjidcmegacibaaDoorW.PrintMore
set_option linter.unusedVariables false
set_option linter.unusedSimpArgs false
set_option maxHeartbeats 8000000
set_option maxRecDepth 100000
attribute [local go_sem] max2_int min2_int max_two min_two max_three min_three max_four min_four   
mutual
def stowageref1_Int.j0 : Nat → ByteArray → Bool → Option (Int × Bool)
  | 0, _, _ => none
  | k + 1, x0, x23 => if x23 = true then (some (0, false)) else (stowageref1_Int.l0 k x0 0 0)
def stowageref1_Int.l0 : Nat → ByteArray → Int → Int → Option (Int × Bool)
  | 0, _, _, _ => none
  | k + 1, x0, x4, x5 => if x5 < (x0.size : Int) then (if 0 ≤ x5 then (if (bt x0 x5) < 48 then (some (0, false)) else (if (bt x0 x5) > 57 then (some (0, false)) else (stowageref1_Int.l0 k x0 (wrap64 ((wrap64 (10 * x4)) + (((bt x0 x5) - 48) % 256))) (wrap64 (x5 + 1))))) else (none)) else (some (x4, true))
end
def stowageref1_Int.f (k : Nat) (a0 : ByteArray) : Option (Int × Bool) := if (a0.size : Int) = 0 then (stowageref1_Int.j0 k a0 true) else (if (a0.size : Int) > 18 then (stowageref1_Int.j0 k a0 true) else (if 0 < (a0.size : Int) then (if (bt a0 0) = 48 then (stowageref1_Int.j0 k a0 (decide ((a0.size : Int) > 1))) else (stowageref1_Int.j0 k a0 false)) else (none)))
theorem stowageref1_Int.mono_l : ∀ k, (∀ y0 y1, LeO (stowageref1_Int.j0 k y0 y1) (stowageref1_Int.j0 (k + 1) y0 y1)) ∧ (∀ y0 y1 y2, LeO (stowageref1_Int.l0 k y0 y1 y2) (stowageref1_Int.l0 (k + 1) y0 y1 y2))
  | 0 => ⟨fun _ _ r h => by simp [stowageref1_Int.j0] at h, fun _ _ _ r h => by simp [stowageref1_Int.l0] at h⟩
  | k + 1 => by
    obtain ⟨ih0, ih1⟩ := stowageref1_Int.mono_l k
    refine ⟨?_, ?_⟩
    · intro y0 y1
      unfold stowageref1_Int.j0
      with_reducible repeat' first | exact ih0 _ _ | exact ih1 _ _ _ | exact LeO.refl _ | exact LeO.none _ | refine LeO.ite ?_ ?_ | refine LeO.bind ?_ (fun _ => ?_)
    · intro y0 y1 y2
      unfold stowageref1_Int.l0
      with_reducible repeat' first | exact ih0 _ _ | exact ih1 _ _ _ | exact LeO.refl _ | exact LeO.none _ | refine LeO.ite ?_ ?_ | refine LeO.bind ?_ (fun _ => ?_)
theorem stowageref1_Int.mono : ∀ a0 k, LeO (stowageref1_Int.f k a0) (stowageref1_Int.f (k + 1) a0) := by
 intro a0 k
 obtain ⟨ih0, ih1⟩ := stowageref1_Int.mono_l k
 unfold stowageref1_Int.f
 with_reducible repeat' first | exact ih0 _ _ | exact ih1 _ _ _ | exact LeO.refl _ | exact LeO.none _ | refine LeO.ite ?_ ?_ | refine LeO.bind ?_ (fun _ => ?_)
theorem stowageref1_Int.calls (k : Nat) (a0 : ByteArray) (r1 : Int) (r2 : Bool) (w : World) (h : stowageref1_Int.f k a0 = some (r1, r2)) :
    Calls Tryd.prog 26 #[.string a0] w fun e w' => e = .returned (.tuple #[.int .i64 r1, .bool r2]) ∧ Drawn0 w w' := by
 unfold stowageref1_Int.f at h
 have H := h
 clear h
 have HC2 := Aside0.mk H
 clear H
 go_enter Tryd.func26, Tryd.ntmps26
 go_upto_region 1 with (fail)
 go_cut [23] (fun v23 wc => ∃ (kq : Nat) (x23_1 : Bool), v23 = .bool x23_1 ∧ Aside0 (stowageref1_Int.j0 kq a0 x23_1 = some (r1, r2)) ∧ Aside0 (kq ≤ k) ∧ Drawn0 w wc)
 case first =>
  have H := HC2.out
  clear HC2
  replace H := itO H
  rcases H with ⟨c3, H⟩ | ⟨c3, H⟩
  {
  have c3b0 : ((a0.size : Int) == 0) = true := beq_iff_eq.mpr c3
  clear c3
  (first | rw [c3b0] | (simp only [i64_w, i32_w]; rw [c3b0]) | skip)
  have H' := Aside0.mk H
  clear H
  go_wp2
  go_meet
  case rel => exact ⟨_, (true), rs, H', ⟨by first | omega | exact Nat.le_refl _⟩, by repeat (first | exact Drawn0.refl _ | apply Drawn0.step)⟩
  }
  {
  have c3b0 : ((a0.size : Int) == 0) = false := beq_eq_false_iff_ne.mpr c3
  (first | rw [c3b0] | (simp only [i64_w, i32_w]; rw [c3b0]) | skip)
  replace H := itO H
  rcases H with ⟨c4, H⟩ | ⟨c4, H⟩
  {
  have c4b0 : decide (18 < (a0.size : Int)) = true := decide_eq_true c4
  clear c4
  have H' := Aside0.mk H
  clear H
  go_wp2
  go_meet
  case rel => exact ⟨_, (true), rs, H', ⟨by first | omega | exact Nat.le_refl _⟩, by repeat (first | exact Drawn0.refl _ | apply Drawn0.step)⟩
  }
  {
  have c4b0 : decide (18 < (a0.size : Int)) = false := decide_eq_false c4
  clear c4
  replace H := itO H
  rcases H with ⟨c5, H⟩ | ⟨c5, H⟩
  {
  have c5b0 : decide (0 < (a0.size : Int)) = true := decide_eq_true c5
  clear c5
  replace H := itO H
  rcases H with ⟨c7, H⟩ | ⟨c7, H⟩
  {
  have c7b0 : ((bt a0 0) == 48) = true := beq_iff_eq.mpr c7
  clear c7
  have H' := Aside0.mk H
  clear H
  have p6 : 0 ≤ (0 : Int) := (by omega)
  have q6 : 0 < a0.size := (by have : (0 : Int) < (a0.size : Int) := of_decide_eq_true asm; omega)
  have hx6 : ∀ h : 0 < a0.size, ((a0[0]'h).toNat : Int) = bt a0 0 := bt_at a0 0
  clear p6
  have qi6 : (0 < (a0.size : Int)) = True := eq_true (of_decide_eq_true asm)
  replace q6 := eq_true q6
  go_wp2
  go_meet
  case rel => exact ⟨_, (decide ((a0.size : Int) > 1)), rs, H', ⟨by first | omega | exact Nat.le_refl _⟩, by repeat (first | exact Drawn0.refl _ | apply Drawn0.step)⟩
  }
  {
  have c7b0 : ((bt a0 0) == 48) = false := beq_eq_false_iff_ne.mpr c7
  have H' := Aside0.mk H
  clear H
  have p6 : 0 ≤ (0 : Int) := (by omega)
  have q6 : 0 < a0.size := (by have : (0 : Int) < (a0.size : Int) := of_decide_eq_true asm; omega)
  have hx6 : ∀ h : 0 < a0.size, ((a0[0]'h).toNat : Int) = bt a0 0 := bt_at a0 0
  clear p6
  have qi6 : (0 < (a0.size : Int)) = True := eq_true (of_decide_eq_true asm)
  replace q6 := eq_true q6
  go_wp2
  go_meet
  case rel => exact ⟨_, (false), rs, H', ⟨by first | omega | exact Nat.le_refl _⟩, by repeat (first | exact Drawn0.refl _ | apply Drawn0.step)⟩
  }
  }
  ·exact absurd H (by simp)
  }
  }
 case rest =>
  clear HC2
  obtain ⟨kq, x23_1, rfl, HA, HJ1, ⟨mc1, rfl⟩⟩ := hcut
  cases kq with
  | zero => exact absurd HA.out (by simp [stowageref1_Int.j0])
  | succ kj1 =>
   have H := HA.out
   clear HA
   simp only [stowageref1_Int.j0] at H
   by_cases c8 : x23_1 = true
   {
   subst c8
   replace H := itT H
   simp only [Option.some.injEq, Prod.mk.injEq] at H
   obtain ⟨rfl, rfl⟩ := H
   go_wp2
   go_ret2
   exact ⟨rs, dr⟩
   }
   {
   replace c8 := Bool.eq_false_iff.mpr c8
   subst c8
   replace H := itF H
   have H' := Aside0.mk H
   clear H
   go_wp2
   go_loopg [4, 5] kj1 (fun kq v4 v5 w' => ∃ (x4_2 : Int) (x5_2 : Int), v4 = .int .i64 x4_2 ∧ v5 = .int .i64 x5_2 ∧ Aside0 (stowageref1_Int.l0 kq a0 x4_2 x5_2 = some (r1, r2)) ∧ Aside0 (kq ≤ kj1) ∧ Drawn0 w w')
   case atStart => exact ⟨(0), (0), rs, rs, H', ⟨Nat.le_refl _⟩, by repeat (first | exact Drawn0.refl _ | apply Drawn0.step)⟩
   case round =>
    clear H'
    obtain ⟨x4_2, x5_2, rfl, rfl, HA, HK2, ⟨m2, rfl⟩⟩ := hrel
    cases gk with
    | zero => exact absurd HA.out (by simp [stowageref1_Int.l0])
    | succ k2 =>
     have H := HA.out
     clear HA
     simp only [stowageref1_Int.l0] at H
     replace H := itO H
     rcases H with ⟨c9, H⟩ | ⟨c9, H⟩
     {
     have c9b0 : decide (x5_2 < (a0.size : Int)) = true := decide_eq_true c9
     clear c9
     replace H := itO H
     rcases H with ⟨c10, H⟩ | ⟨c10, H⟩
     {
     have c10b0 : decide (0 ≤ x5_2) = true := decide_eq_true c10
     clear c10
     replace H := itO H
     rcases H with ⟨c12, H⟩ | ⟨c12, H⟩
     {
     have c12b0 : decide ((bt a0 x5_2) < 48) = true := decide_eq_true c12
     clear c12
     simp only [Option.some.injEq, Prod.mk.injEq] at H
     obtain ⟨rfl, rfl⟩ := H
     have p11 : 0 ≤ (x5_2 : Int) := of_decide_eq_true asm
     have q11 : x5_2 < (a0.size : Int) := of_decide_eq_true asm
     have hx11 := bt_at a0 x5_2
     replace p11 := eq_true p11
     replace q11 := eq_true q11
     go_wp2
     go_ret2
     exact ⟨rs, dr⟩
     }
     {
     have c12b0 : decide ((bt a0 x5_2) < 48) = false := decide_eq_false c12
     clear c12
     replace H := itO H
     rcases H with ⟨c14, H⟩ | ⟨c14, H⟩
     {
     have c14b0 : decide (57 < (bt a0 x5_2)) = true := decide_eq_true c14
     clear c14
     simp only [Option.some.injEq, Prod.mk.injEq] at H
     obtain ⟨rfl, rfl⟩ := H
     have p11 : 0 ≤ (x5_2 : Int) := of_decide_eq_true asm
     have q11 : x5_2 < (a0.size : Int) := of_decide_eq_true asm
     have hx11 := bt_at a0 x5_2
     replace p11 := eq_true p11
     replace q11 := eq_true q11
     have p13 : 0 ≤ (x5_2 : Int) := of_decide_eq_true asm
     have q13 : x5_2 < (a0.size : Int) := of_decide_eq_true asm
     have hx13 := bt_at a0 x5_2
     replace p13 := eq_true p13
     replace q13 := eq_true q13
     go_wp2
     go_ret2
     exact ⟨rs, dr⟩
     }
     {
     have c14b0 : decide (57 < (bt a0 x5_2)) = false := decide_eq_false c14
     clear c14
     have H' := Aside0.mk H
     clear H
     have p11 : 0 ≤ (x5_2 : Int) := of_decide_eq_true asm
     have q11 : x5_2 < (a0.size : Int) := of_decide_eq_true asm
     have hx11 := bt_at a0 x5_2
     replace p11 := eq_true p11
     replace q11 := eq_true q11
     have p13 : 0 ≤ (x5_2 : Int) := of_decide_eq_true asm
     have q13 : x5_2 < (a0.size : Int) := of_decide_eq_true asm
     have hx13 := bt_at a0 x5_2
     replace p13 := eq_true p13
     replace q13 := eq_true q13
     have p15 : 0 ≤ (x5_2 : Int) := of_decide_eq_true asm
     have q15 : x5_2 < (a0.size : Int) := of_decide_eq_true asm
     have hx15 := bt_at a0 x5_2
     replace p15 := eq_true p15
     replace q15 := eq_true q15
     go_wp2
     go_roundg k2
     case measure => have := HJ1.out; have := HK2.out; omega
     case rel => exact ⟨(wrap64 ((wrap64 (10 * x4_2)) + (((bt a0 x5_2) - 48) % 256))), (wrap64 (x5_2 + 1)), rs, rs, H', ⟨by have := HJ1.out; have := HK2.out; omega⟩, by repeat (first | exact Drawn0.refl _ | apply Drawn0.step)⟩
     }
     }
     }
     ·exact absurd H (by simp)
     }
     {
     have c9b0 : decide (x5_2 < (a0.size : Int)) = false := decide_eq_false c9
     clear c9
     simp only [Option.some.injEq, Prod.mk.injEq] at H
     obtain ⟨rfl, rfl⟩ := H
     go_wp2
     go_ret2
     exact ⟨rs, dr⟩
     }
   }
end Go.Proofs.YtfjidcmegacibaaDoor.Q


namespace Go.Proofs.YtfjidcmegacibaaDoor.Q
open Go.RowKit Go.Proofs.YtfjidcmegacibaaDoorW.PrintWords Go.Proofs.YtfjidcmegacibaaDoorW.PrintLast Go.Proofs.YtfjidcmegacibaaDoorW.PrintMore
set_option linter.unusedVariables false
set_option linter.unusedSimpArgs false
set_option maxHeartbeats 8000000
set_option maxRecDepth 100000
attribute [local go_sem] max2_int min2_int max_two min_two max_three min_three max_four min_four   
def stowageref17_status.j0 : Nat → ByteArray → Bool → Option (Int)
  | 0, _, _ => none
  | k + 1, x0, x17 => if x17 = true then (some 0) else (if 9 ≤ 12 then (if 12 ≤ (x0.size : Int) then ((stowageref1_Int.f k (x0.extract 9 12)).bind fun bt156 => (if bt156.2 = true then (if bt156.1 < 100 then (some 0) else (if 13 ≤ (x0.size : Int) then ((stowageref17_Phrase.f k bt156.1).bind fun t158 => (if (x0.extract 13 x0.size).toList = t158.toList then (some bt156.1) else (some 0))) else (none))) else (some 0))) else (none)) else (none))
def stowageref17_status.f (k : Nat) (a0 : ByteArray) : Option (Int) := if (a0.size : Int) < 13 then (stowageref17_status.j0 k a0 true) else (if 0 ≤ 9 then (if 9 ≤ (a0.size : Int) then (if (a0.extract 0 9).toList = ([72, 84, 84, 80, 47, 49, 46, 49, 32] : List UInt8) then (if 12 < (a0.size : Int) then (stowageref17_status.j0 k a0 ((bt a0 12) != 32)) else (none)) else (stowageref17_status.j0 k a0 true)) else (none)) else (none))
theorem stowageref17_status.mono_l : ∀ k, (∀ y0 y1, LeO (stowageref17_status.j0 k y0 y1) (stowageref17_status.j0 (k + 1) y0 y1))
  | 0 => fun _ _ r h => by simp [stowageref17_status.j0] at h
  | k + 1 => by
    have ih0 := stowageref17_status.mono_l k
    · intro y0 y1
      unfold stowageref17_status.j0
      with_reducible repeat' first | exact ih0 _ _ | exact stowageref17_Phrase.mono _ _ | exact stowageref1_Int.mono _ _ | exact LeO.refl _ | exact LeO.none _ | refine LeO.ite ?_ ?_ | refine LeO.bind ?_ (fun _ => ?_)
theorem stowageref17_status.mono : ∀ a0 k, LeO (stowageref17_status.f k a0) (stowageref17_status.f (k + 1) a0) := by
 intro a0 k
 have ih0 := stowageref17_status.mono_l k
 unfold stowageref17_status.f
 with_reducible repeat' first | exact ih0 _ _ | exact stowageref17_Phrase.mono _ _ | exact stowageref1_Int.mono _ _ | exact LeO.refl _ | exact LeO.none _ | refine LeO.ite ?_ ?_ | refine LeO.bind ?_ (fun _ => ?_)
def stowageref17_status.T4 : Bool × List (List Nat × List Nat) := (true, [([], []), ([0], [0]), ([1], [1]), ([2], [2]), ([3, 2], [2, 3]), ([2, 4], [2, 4]), ([5, 2], [5]), ([6], [6]), ([7, 6], [6, 7]), ([6], [6]), ([9, 6, 6], [6, 9]), ([8, 10, 6], [6, 8, 10]), ([6, 11], [6, 11])])
def stowageref17_status.B4 : List Nat := [0, 1, 3, 7, 15, 31, 63, 127, 255, 127, 639, 2047, 4095]
theorem stowageref17_status.tab4 : rtab .any (opsOf Tryd.f40 4) = stowageref17_status.T4 := by kernel_rfl
theorem stowageref17_status.bits4 : waitsOk stowageref17_status.T4.2 stowageref17_status.B4 = true := by kernel_rfl
theorem stowageref17_status.calls (k : Nat) (a0 : ByteArray) (r : Int) (w : World) (h : stowageref17_status.f k a0 = some r) :
    Calls Tryd.prog 40 #[.string a0] w fun e w' => e = .returned (.int .i64 r) ∧ Below w.heap.size w w' := by
 have HB := Aside0.mk (Below.refl w.heap.size w)
 unfold stowageref17_status.f at h
 have H := h
 clear h
 have HC2 := Aside0.mk H
 clear H
 go_enter Tryd.func40, Tryd.ntmps40
 go_upto_region 1 with (fail)
 go_cut [17] (fun v17 wc => ∃ (kq : Nat) (x17_1 : Bool), v17 = .bool x17_1 ∧ Aside0 (stowageref17_status.j0 kq a0 x17_1 = some r) ∧ Aside0 (kq ≤ k) ∧ Aside0 (Below w.heap.size w wc))
 case first =>
  have H := HC2.out
  clear HC2
  replace H := itO H
  rcases H with ⟨c3, H⟩ | ⟨c3, H⟩
  {
  have c3b0 : decide ((a0.size : Int) < 13) = true := decide_eq_true c3
  clear c3
  (first | rw [c3b0] | (simp only [i64_w, i32_w]; rw [c3b0]) | skip)
  have H' := Aside0.mk H
  clear H
  go_wp2
  go_meet
  case rel => exact ⟨_, (true), rs, H', ⟨by first | omega | exact Nat.le_refl _⟩, ⟨bl⟩⟩
  }
  {
  have c3b0 : decide ((a0.size : Int) < 13) = false := decide_eq_false c3
  clear c3
  (first | rw [c3b0] | (simp only [i64_w, i32_w]; rw [c3b0]) | skip)
  replace H := itO H
  rcases H with ⟨c4, H⟩ | ⟨c4, H⟩
  {
  have c4b0 := eq_true c4
  clear c4
  replace H := itO H
  rcases H with ⟨c5, H⟩ | ⟨c5, H⟩
  {
  have c5b0 := eq_true c5
  clear c5
  replace H := itO H
  rcases H with ⟨c6, H⟩ | ⟨c6, H⟩
  {
  have c6b0 : ((a0.extract 0 9).toList == ([72, 84, 84, 80, 47, 49, 46, 49, 32] : List UInt8)) = true := beq_iff_eq.mpr c6
  clear c6
  replace H := itO H
  rcases H with ⟨c7, H⟩ | ⟨c7, H⟩
  {
  have c7b0 : decide (12 < (a0.size : Int)) = true := decide_eq_true c7
  clear c7
  have H' := Aside0.mk H
  clear H
  have p8 : 0 ≤ (12 : Int) := (by omega)
  have q8 : 12 < a0.size := (by have : (12 : Int) < (a0.size : Int) := of_decide_eq_true asm; omega)
  have hx8 : ∀ h : 12 < a0.size, ((a0[12]'h).toNat : Int) = bt a0 12 := bt_at a0 12
  clear p8
  have qi8 : (12 < (a0.size : Int)) = True := eq_true (of_decide_eq_true asm)
  replace q8 := eq_true q8
  go_wp2
  go_meet
  case rel => exact ⟨_, (((bt a0 12) != 32)), rs, H', ⟨by first | omega | exact Nat.le_refl _⟩, ⟨bl⟩⟩
  }
  ·exact absurd H (by simp)
  }
  {
  have c6b0 : ((a0.extract 0 9).toList == ([72, 84, 84, 80, 47, 49, 46, 49, 32] : List UInt8)) = false := beq_eq_false_iff_ne.mpr c6
  have H' := Aside0.mk H
  clear H
  go_wp2
  go_meet
  case rel => exact ⟨_, (true), rs, H', ⟨by first | omega | exact Nat.le_refl _⟩, ⟨bl⟩⟩
  }
  }
  ·exact absurd H (by simp)
  }
  ·exact absurd H (by simp)
  }
 case rest =>
  clear HC2
  obtain ⟨kq, x17_1, rfl, HA, HJ1, HB⟩ := hcut
  cases kq with
  | zero => exact absurd HA.out (by simp [stowageref17_status.j0])
  | succ kj1 =>
   have H := HA.out
   clear HA
   simp only [stowageref17_status.j0] at H
   by_cases c9 : x17_1 = true
   {
   subst c9
   replace H := itT H
   obtain rfl := Option.some.inj H
   go_wp2
   go_ret
   exact ⟨by first | rfl | (simp [errW_none, errW_some] <;> rfl) | (simp [*, errW_none, errW_some] <;> rfl), bl⟩
   }
   {
   replace c9 := Bool.eq_false_iff.mpr c9
   subst c9
   replace H := itF H
   replace H := itO H
   rcases H with ⟨c10, H⟩ | ⟨c10, H⟩
   {
   have c10b0 := eq_true c10
   clear c10
   replace H := itO H
   rcases H with ⟨c11, H⟩ | ⟨c11, H⟩
   {
   have c11b0 := eq_true c11
   clear c11
   replace H := bndO H
   obtain ⟨⟨t156, t157⟩, A120, H⟩ := H
   dsimp only at H
   have A12 := Aside0.mk A120
   clear A120
   by_cases c13 : t157 = true
   {
   subst c13
   replace H := itT H
   replace H := itO H
   rcases H with ⟨c14, H⟩ | ⟨c14, H⟩
   {
   have c14b0 : decide (t156 < 100) = true := decide_eq_true c14
   clear c14
   obtain rfl := Option.some.inj H
   try go_wp2_with (first | ((with_reducible refine gate_callee (f := 26) rfl ?_); refine goesL_ (some 21) rfl rfl Tryd.func26 kr rfl #[.string (a0.extract 9 12)] rfl am ?_; (with_reducible refine (stowageref1_Int.calls kj1 (a0.extract 9 12) t156 true _ A12.out).mono ?_); rintro e w' ⟨rfl, ⟨nd, rfl⟩⟩; refine ⟨_, rfl, ?_⟩))
   (try (rw [drewN_self wc]; generalize hq_ : World.drewN wc _ = wc; have n0_ : Aside0 (Below w.heap.size w wc) := ⟨by rw [← hq_]; exact bl⟩; clear HB hq_; have HB := n0_; clear n0_))
   have n0_ := Aside0.mk (below_drew1 HB.out)
   clear HB
   have HB := n0_
   clear n0_
   refine start_ (n := 13) (S := fun w' => True) (ds := []) #[false, false, false, false, false, false, false, false, false, false, false, false, false] kr rfl rfl trivial (fun hHeld => ?_); refine with_tabW stowageref17_status.tab4 stowageref17_status.bits4 (fun HT_ HW_ => ?_)
   generalize wc.drew = w15 at HB hHeld ⊢
   refine pure_ (i := 0) (N := some 24) (v := ?_) (a' := ?_) #[true, false, false, false, false, false, false, false, false, false, false, false, false] rfl rfl (any_of HT_.out kr) (fun _ _ _ h => h) (Or.inl ⟨by rfl, ?_⟩) ?_ ?_
   rotate_left
   {
   intro w'
   go_simp
   with_reducible rfl
   }
   rotate_left
   {
   simp only [Act.put, l1, l2, l3, i64_w, i32_w]
   rfl
   }
   refine pure_ (i := 1) (N := some 25) (v := ?_) (a' := ?_) #[true, true, false, false, false, false, false, false, false, false, false, false, false] rfl rfl (any_of HT_.out kr) (fun _ _ _ h => h) (Or.inl ⟨by rfl, ?_⟩) ?_ ?_
   rotate_left
   {
   intro w'
   go_simp
   with_reducible rfl
   }
   rotate_left
   {
   simp only [Act.put, l1, l2, l3, i64_w, i32_w]
   rfl
   }
   refine pure_ (i := 2) (N := some 26) (v := ?_) (a' := ?_) #[true, true, true, false, false, false, false, false, false, false, false, false, false] rfl rfl (any_of HT_.out kr) (fun _ _ _ h => h) (Or.inl ⟨by rfl, ?_⟩) ?_ ?_
   rotate_left
   {
   intro w'
   go_simp
   with_reducible rfl
   }
   rotate_left
   {
   simp only [Act.put, l1, l2, l3, i64_w, i32_w]
   rfl
   }
   refine pure_ (i := 3) (N := some 27) (v := ?_) (a' := ?_) #[true, true, true, true, false, false, false, false, false, false, false, false, false] rfl rfl (any_of HT_.out kr) (fun _ _ _ h => h) (Or.inl ⟨by rfl, ?_⟩) ?_ ?_
   rotate_left
   {
   intro w'
   go_simp
   with_reducible rfl
   }
   rotate_left
   {
   simp only [Act.put, l1, l2, l3, i64_w, i32_w]
   rfl
   }
   refine pure_ (i := 4) (N := some 28) (v := ?_) (a' := ?_) #[true, true, true, true, true, false, false, false, false, false, false, false, false] rfl rfl (any_of HT_.out kr) (fun _ _ _ h => h) (Or.inl ⟨by rfl, ?_⟩) ?_ ?_
   rotate_left
   {
   intro w'
   go_simp
   with_reducible rfl
   }
   rotate_left
   {
   simp only [Act.put, l1, l2, l3, i64_w, i32_w]
   rfl
   }
   refine pure_ (i := 5) (N := some 29) (v := ?_) (a' := ?_) #[true, true, true, true, true, true, false, false, false, false, false, false, false] rfl rfl (any_of HT_.out kr) (fun _ _ _ h => h) (Or.inl ⟨by rfl, ?_⟩) ?_ ?_
   rotate_left
   {
   intro w'
   go_simp
   with_reducible rfl
   }
   rotate_left
   {
   simp only [Act.put, l1, l2, l3, i64_w, i32_w]
   rfl
   }
   refine pure_ (i := 6) (N := some 30) (v := ?_) (a' := ?_) #[true, true, true, true, true, true, true, false, false, false, false, false, false] rfl rfl (any_of HT_.out kr) (fun _ _ _ h => h) (Or.inl ⟨by rfl, ?_⟩) ?_ ?_
   rotate_left
   {
   intro w'
   go_simp
   with_reducible rfl
   }
   rotate_left
   {
   simp only [Act.put, l1, l2, l3, i64_w, i32_w]
   rfl
   }
   refine pure_ (i := 7) (N := some 31) (v := undef) (a' := ?_) #[true, true, true, true, true, true, true, true, false, false, false, false, false] rfl rfl (any_of HT_.out kr) (fun _ _ _ h => h) (Or.inr ⟨by rfl, rfl⟩) ?_ ?_
   rotate_left
   {
   simp only [Act.put, l1, l2, l3, i64_w, i32_w]
   rfl
   }
   refine pure_ (i := 8) (N := some 32) (v := undef) (a' := ?_) #[true, true, true, true, true, true, true, true, true, false, false, false, false] rfl rfl (any_of HT_.out kr) (fun _ _ _ h => h) (Or.inr ⟨by rfl, rfl⟩) ?_ ?_
   rotate_left
   {
   simp only [Act.put, l1, l2, l3, i64_w, i32_w]
   rfl
   }
   refine pure_ (i := 9) (N := some 33) (v := undef) (a' := ?_) #[true, true, true, true, true, true, true, true, true, true, false, false, false] rfl rfl (any_of HT_.out kr) (fun _ _ _ h => h) (Or.inr ⟨by rfl, rfl⟩) ?_ ?_
   rotate_left
   {
   simp only [Act.put, l1, l2, l3, i64_w, i32_w]
   rfl
   }
   refine pure_ (i := 10) (N := some 34) (v := undef) (a' := ?_) #[true, true, true, true, true, true, true, true, true, true, true, false, false] rfl rfl (any_of HT_.out kr) (fun _ _ _ h => h) (Or.inr ⟨by rfl, rfl⟩) ?_ ?_
   rotate_left
   {
   simp only [Act.put, l1, l2, l3, i64_w, i32_w]
   rfl
   }
   refine pure_ (i := 11) (N := some 35) (v := undef) (a' := ?_) #[true, true, true, true, true, true, true, true, true, true, true, true, false] rfl rfl (any_of HT_.out kr) (fun _ _ _ h => h) (Or.inr ⟨by rfl, rfl⟩) ?_ ?_
   rotate_left
   {
   simp only [Act.put, l1, l2, l3, i64_w, i32_w]
   rfl
   }
   refine pure_ (i := 12) (N := some 36) (v := ?_) (a' := ?_) #[true, true, true, true, true, true, true, true, true, true, true, true, true] rfl rfl (any_of HT_.out kr) (fun _ _ _ h => h) (Or.inl ⟨by rfl, ?_⟩) ?_ ?_
   rotate_left
   {
   intro w'
   go_simp
   with_reducible rfl
   }
   rotate_left
   {
   simp only [Act.put, l1, l2, l3, i64_w, i32_w]
   rfl
   }
   refine done_ (done_of HT_.out kr) ?_
   try go_wp2
   go_ret
   exact ⟨by first | rfl | (simp [errW_none, errW_some] <;> rfl) | (simp [*, errW_none, errW_some] <;> rfl), bl⟩
   }
   {
   have c14b0 : decide (t156 < 100) = false := decide_eq_false c14
   clear c14
   replace H := itO H
   rcases H with ⟨c16, H⟩ | ⟨c16, H⟩
   {
   have c16b0 := eq_true c16
   clear c16
   replace H := bndO H
   obtain ⟨t158, A170, H⟩ := H
   have A17 := Aside0.mk A170
   clear A170
   replace H := itO H
   rcases H with ⟨c18, H⟩ | ⟨c18, H⟩
   {
   have c18b0 : ((a0.extract 13 a0.size).toList == t158.toList) = true := beq_iff_eq.mpr c18
   clear c18
   obtain rfl := Option.some.inj H
   try go_wp2_with (first | ((with_reducible refine gate_callee (f := 26) rfl ?_); refine goesL_ (some 21) rfl rfl Tryd.func26 kr rfl #[.string (a0.extract 9 12)] rfl am ?_; (with_reducible refine (stowageref1_Int.calls kj1 (a0.extract 9 12) t156 true _ A12.out).mono ?_); rintro e w' ⟨rfl, ⟨nd, rfl⟩⟩; refine ⟨_, rfl, ?_⟩))
   (try (rw [drewN_self wc]; generalize hq_ : World.drewN wc _ = wc; have n0_ : Aside0 (Below w.heap.size w wc) := ⟨by rw [← hq_]; exact bl⟩; clear HB hq_; have HB := n0_; clear n0_))
   have n0_ := Aside0.mk (below_drew1 HB.out)
   clear HB
   have HB := n0_
   clear n0_
   refine start_ (n := 13) (S := fun w' => True) (ds := []) #[false, false, false, false, false, false, false, false, false, false, false, false, false] kr rfl rfl trivial (fun hHeld => ?_); refine with_tabW stowageref17_status.tab4 stowageref17_status.bits4 (fun HT_ HW_ => ?_)
   generalize wc.drew = w19 at HB hHeld ⊢
   refine pure_ (i := 0) (N := some 24) (v := ?_) (a' := ?_) #[true, false, false, false, false, false, false, false, false, false, false, false, false] rfl rfl (any_of HT_.out kr) (fun _ _ _ h => h) (Or.inl ⟨by rfl, ?_⟩) ?_ ?_
   rotate_left
   {
   intro w'
   go_simp
   with_reducible rfl
   }
   rotate_left
   {
   simp only [Act.put, l1, l2, l3, i64_w, i32_w]
   rfl
   }
   refine pure_ (i := 1) (N := some 25) (v := ?_) (a' := ?_) #[true, true, false, false, false, false, false, false, false, false, false, false, false] rfl rfl (any_of HT_.out kr) (fun _ _ _ h => h) (Or.inl ⟨by rfl, ?_⟩) ?_ ?_
   rotate_left
   {
   intro w'
   go_simp
   with_reducible rfl
   }
   rotate_left
   {
   simp only [Act.put, l1, l2, l3, i64_w, i32_w]
   rfl
   }
   refine pure_ (i := 2) (N := some 26) (v := ?_) (a' := ?_) #[true, true, true, false, false, false, false, false, false, false, false, false, false] rfl rfl (any_of HT_.out kr) (fun _ _ _ h => h) (Or.inl ⟨by rfl, ?_⟩) ?_ ?_
   rotate_left
   {
   intro w'
   go_simp
   with_reducible rfl
   }
   rotate_left
   {
   simp only [Act.put, l1, l2, l3, i64_w, i32_w]
   rfl
   }
   refine pure_ (i := 3) (N := some 27) (v := ?_) (a' := ?_) #[true, true, true, true, false, false, false, false, false, false, false, false, false] rfl rfl (any_of HT_.out kr) (fun _ _ _ h => h) (Or.inl ⟨by rfl, ?_⟩) ?_ ?_
   rotate_left
   {
   intro w'
   go_simp
   with_reducible rfl
   }
   rotate_left
   {
   simp only [Act.put, l1, l2, l3, i64_w, i32_w]
   rfl
   }
   refine pure_ (i := 4) (N := some 28) (v := ?_) (a' := ?_) #[true, true, true, true, true, false, false, false, false, false, false, false, false] rfl rfl (any_of HT_.out kr) (fun _ _ _ h => h) (Or.inl ⟨by rfl, ?_⟩) ?_ ?_
   rotate_left
   {
   intro w'
   go_simp
   with_reducible rfl
   }
   rotate_left
   {
   simp only [Act.put, l1, l2, l3, i64_w, i32_w]
   rfl
   }
   refine pure_ (i := 5) (N := some 29) (v := ?_) (a' := ?_) #[true, true, true, true, true, true, false, false, false, false, false, false, false] rfl rfl (any_of HT_.out kr) (fun _ _ _ h => h) (Or.inl ⟨by rfl, ?_⟩) ?_ ?_
   rotate_left
   {
   intro w'
   go_simp
   with_reducible rfl
   }
   rotate_left
   {
   simp only [Act.put, l1, l2, l3, i64_w, i32_w]
   rfl
   }
   refine pure_ (i := 6) (N := some 30) (v := ?_) (a' := ?_) #[true, true, true, true, true, true, true, false, false, false, false, false, false] rfl rfl (any_of HT_.out kr) (fun _ _ _ h => h) (Or.inl ⟨by rfl, ?_⟩) ?_ ?_
   rotate_left
   {
   intro w'
   go_simp
   with_reducible rfl
   }
   rotate_left
   {
   simp only [Act.put, l1, l2, l3, i64_w, i32_w]
   rfl
   }
   refine pure_ (i := 7) (N := some 31) (v := ?_) (a' := ?_) #[true, true, true, true, true, true, true, true, false, false, false, false, false] rfl rfl (any_of HT_.out kr) (fun _ _ _ h => h) (Or.inl ⟨by rfl, ?_⟩) ?_ ?_
   rotate_left
   {
   intro w'
   go_simp
   with_reducible rfl
   }
   rotate_left
   {
   simp only [Act.put, l1, l2, l3, i64_w, i32_w]
   rfl
   }
   refine pure_ (i := 8) (N := some 32) (v := ?_) (a' := ?_) #[true, true, true, true, true, true, true, true, true, false, false, false, false] rfl rfl (any_of HT_.out kr) (fun _ _ _ h => h) (Or.inl ⟨by rfl, ?_⟩) ?_ ?_
   rotate_left
   {
   intro w'
   go_simp
   with_reducible rfl
   }
   rotate_left
   {
   simp only [Act.put, l1, l2, l3, i64_w, i32_w]
   rfl
   }
   refine pure_ (i := 9) (N := some 33) (v := ?_) (a' := ?_) #[true, true, true, true, true, true, true, true, true, true, false, false, false] rfl rfl (any_of HT_.out kr) (fun _ _ _ h => h) (Or.inl ⟨by rfl, ?_⟩) ?_ ?_
   rotate_left
   {
   intro w'
   go_simp
   with_reducible rfl
   }
   rotate_left
   {
   simp only [Act.put, l1, l2, l3, i64_w, i32_w]
   rfl
   }
   refine one_ (i := 10) (N := some 34) #[true, true, true, true, true, true, true, true, true, true, true, false, false] rfl rfl (one_of HT_.out kr) (by decide) (fun K hK => ?_)
   refine goes_ Tryd.func14 kr rfl #[.int .i64 t156] (by rfl) rfl rfl am ?_
   with_reducible refine (stowageref17_Phrase.calls kj1 t156 t158 _ A17.out).mono ?_
   rintro e w20 ⟨rfl, hb⟩
   refine ⟨_, rfl, ?_⟩
   have n0_ := Aside0.mk (below_step bl hb)
   clear HB
   have HB := n0_
   clear n0_
   (try clear hb)
   (try clear hb2)
   (try clear hk)
   (try clear hi)
   refine hK.out _ _ trivial (fun hHeld => ?_)
   clear hK K
   refine norm_ (a' := ?_) ?_ ?_
   rotate_left
   {
   show Act.put _ (some 34) _ = _
   simp only [Act.put, l1, l2, l3, i64_w, i32_w]
   rfl
   }
   refine pure_ (i := 11) (N := some 35) (v := ?_) (a' := ?_) #[true, true, true, true, true, true, true, true, true, true, true, true, false] rfl rfl (any_of HT_.out kr) (fun _ _ _ h => h) (Or.inl ⟨by rfl, ?_⟩) ?_ ?_
   rotate_left
   {
   intro w'
   go_simp
   with_reducible rfl
   }
   rotate_left
   {
   simp only [Act.put, l1, l2, l3, i64_w, i32_w]
   rfl
   }
   refine pure_ (i := 12) (N := some 36) (v := ?_) (a' := ?_) #[true, true, true, true, true, true, true, true, true, true, true, true, true] rfl rfl (any_of HT_.out kr) (fun _ _ _ h => h) (Or.inl ⟨by rfl, ?_⟩) ?_ ?_
   rotate_left
   {
   intro w'
   go_simp
   with_reducible rfl
   }
   rotate_left
   {
   simp only [Act.put, l1, l2, l3, i64_w, i32_w]
   rfl
   }
   refine done_ (done_of HT_.out kr) ?_
   try go_wp2
   go_ret
   exact ⟨by first | rfl | (simp [errW_none, errW_some] <;> rfl) | (simp [*, errW_none, errW_some] <;> rfl), bl⟩
   }
   {
   have c18b0 : ((a0.extract 13 a0.size).toList == t158.toList) = false := beq_eq_false_iff_ne.mpr c18
   obtain rfl := Option.some.inj H
   try go_wp2_with (first | ((with_reducible refine gate_callee (f := 26) rfl ?_); refine goesL_ (some 21) rfl rfl Tryd.func26 kr rfl #[.string (a0.extract 9 12)] rfl am ?_; (with_reducible refine (stowageref1_Int.calls kj1 (a0.extract 9 12) t156 true _ A12.out).mono ?_); rintro e w' ⟨rfl, ⟨nd, rfl⟩⟩; refine ⟨_, rfl, ?_⟩))
   (try (rw [drewN_self wc]; generalize hq_ : World.drewN wc _ = wc; have n0_ : Aside0 (Below w.heap.size w wc) := ⟨by rw [← hq_]; exact bl⟩; clear HB hq_; have HB := n0_; clear n0_))
   have n0_ := Aside0.mk (below_drew1 HB.out)
   clear HB
   have HB := n0_
   clear n0_
   refine start_ (n := 13) (S := fun w' => True) (ds := []) #[false, false, false, false, false, false, false, false, false, false, false, false, false] kr rfl rfl trivial (fun hHeld => ?_); refine with_tabW stowageref17_status.tab4 stowageref17_status.bits4 (fun HT_ HW_ => ?_)
   generalize wc.drew = w21 at HB hHeld ⊢
   refine pure_ (i := 0) (N := some 24) (v := ?_) (a' := ?_) #[true, false, false, false, false, false, false, false, false, false, false, false, false] rfl rfl (any_of HT_.out kr) (fun _ _ _ h => h) (Or.inl ⟨by rfl, ?_⟩) ?_ ?_
   rotate_left
   {
   intro w'
   go_simp
   with_reducible rfl
   }
   rotate_left
   {
   simp only [Act.put, l1, l2, l3, i64_w, i32_w]
   rfl
   }
   refine pure_ (i := 1) (N := some 25) (v := ?_) (a' := ?_) #[true, true, false, false, false, false, false, false, false, false, false, false, false] rfl rfl (any_of HT_.out kr) (fun _ _ _ h => h) (Or.inl ⟨by rfl, ?_⟩) ?_ ?_
   rotate_left
   {
   intro w'
   go_simp
   with_reducible rfl
   }
   rotate_left
   {
   simp only [Act.put, l1, l2, l3, i64_w, i32_w]
   rfl
   }
   refine pure_ (i := 2) (N := some 26) (v := ?_) (a' := ?_) #[true, true, true, false, false, false, false, false, false, false, false, false, false] rfl rfl (any_of HT_.out kr) (fun _ _ _ h => h) (Or.inl ⟨by rfl, ?_⟩) ?_ ?_
   rotate_left
   {
   intro w'
   go_simp
   with_reducible rfl
   }
   rotate_left
   {
   simp only [Act.put, l1, l2, l3, i64_w, i32_w]
   rfl
   }
   refine pure_ (i := 3) (N := some 27) (v := ?_) (a' := ?_) #[true, true, true, true, false, false, false, false, false, false, false, false, false] rfl rfl (any_of HT_.out kr) (fun _ _ _ h => h) (Or.inl ⟨by rfl, ?_⟩) ?_ ?_
   rotate_left
   {
   intro w'
   go_simp
   with_reducible rfl
   }
   rotate_left
   {
   simp only [Act.put, l1, l2, l3, i64_w, i32_w]
   rfl
   }
   refine pure_ (i := 4) (N := some 28) (v := ?_) (a' := ?_) #[true, true, true, true, true, false, false, false, false, false, false, false, false] rfl rfl (any_of HT_.out kr) (fun _ _ _ h => h) (Or.inl ⟨by rfl, ?_⟩) ?_ ?_
   rotate_left
   {
   intro w'
   go_simp
   with_reducible rfl
   }
   rotate_left
   {
   simp only [Act.put, l1, l2, l3, i64_w, i32_w]
   rfl
   }
   refine pure_ (i := 5) (N := some 29) (v := ?_) (a' := ?_) #[true, true, true, true, true, true, false, false, false, false, false, false, false] rfl rfl (any_of HT_.out kr) (fun _ _ _ h => h) (Or.inl ⟨by rfl, ?_⟩) ?_ ?_
   rotate_left
   {
   intro w'
   go_simp
   with_reducible rfl
   }
   rotate_left
   {
   simp only [Act.put, l1, l2, l3, i64_w, i32_w]
   rfl
   }
   refine pure_ (i := 6) (N := some 30) (v := ?_) (a' := ?_) #[true, true, true, true, true, true, true, false, false, false, false, false, false] rfl rfl (any_of HT_.out kr) (fun _ _ _ h => h) (Or.inl ⟨by rfl, ?_⟩) ?_ ?_
   rotate_left
   {
   intro w'
   go_simp
   with_reducible rfl
   }
   rotate_left
   {
   simp only [Act.put, l1, l2, l3, i64_w, i32_w]
   rfl
   }
   refine pure_ (i := 7) (N := some 31) (v := ?_) (a' := ?_) #[true, true, true, true, true, true, true, true, false, false, false, false, false] rfl rfl (any_of HT_.out kr) (fun _ _ _ h => h) (Or.inl ⟨by rfl, ?_⟩) ?_ ?_
   rotate_left
   {
   intro w'
   go_simp
   with_reducible rfl
   }
   rotate_left
   {
   simp only [Act.put, l1, l2, l3, i64_w, i32_w]
   rfl
   }
   refine pure_ (i := 8) (N := some 32) (v := ?_) (a' := ?_) #[true, true, true, true, true, true, true, true, true, false, false, false, false] rfl rfl (any_of HT_.out kr) (fun _ _ _ h => h) (Or.inl ⟨by rfl, ?_⟩) ?_ ?_
   rotate_left
   {
   intro w'
   go_simp
   with_reducible rfl
   }
   rotate_left
   {
   simp only [Act.put, l1, l2, l3, i64_w, i32_w]
   rfl
   }
   refine pure_ (i := 9) (N := some 33) (v := ?_) (a' := ?_) #[true, true, true, true, true, true, true, true, true, true, false, false, false] rfl rfl (any_of HT_.out kr) (fun _ _ _ h => h) (Or.inl ⟨by rfl, ?_⟩) ?_ ?_
   rotate_left
   {
   intro w'
   go_simp
   with_reducible rfl
   }
   rotate_left
   {
   simp only [Act.put, l1, l2, l3, i64_w, i32_w]
   rfl
   }
   refine one_ (i := 10) (N := some 34) #[true, true, true, true, true, true, true, true, true, true, true, false, false] rfl rfl (one_of HT_.out kr) (by decide) (fun K hK => ?_)
   refine goes_ Tryd.func14 kr rfl #[.int .i64 t156] (by rfl) rfl rfl am ?_
   with_reducible refine (stowageref17_Phrase.calls kj1 t156 t158 _ A17.out).mono ?_
   rintro e w22 ⟨rfl, hb⟩
   refine ⟨_, rfl, ?_⟩
   have n0_ := Aside0.mk (below_step bl hb)
   clear HB
   have HB := n0_
   clear n0_
   (try clear hb)
   (try clear hb2)
   (try clear hk)
   (try clear hi)
   refine hK.out _ _ trivial (fun hHeld => ?_)
   clear hK K
   refine norm_ (a' := ?_) ?_ ?_
   rotate_left
   {
   show Act.put _ (some 34) _ = _
   simp only [Act.put, l1, l2, l3, i64_w, i32_w]
   rfl
   }
   refine pure_ (i := 11) (N := some 35) (v := ?_) (a' := ?_) #[true, true, true, true, true, true, true, true, true, true, true, true, false] rfl rfl (any_of HT_.out kr) (fun _ _ _ h => h) (Or.inl ⟨by rfl, ?_⟩) ?_ ?_
   rotate_left
   {
   intro w'
   go_simp
   with_reducible rfl
   }
   rotate_left
   {
   simp only [Act.put, l1, l2, l3, i64_w, i32_w]
   rfl
   }
   refine pure_ (i := 12) (N := some 36) (v := ?_) (a' := ?_) #[true, true, true, true, true, true, true, true, true, true, true, true, true] rfl rfl (any_of HT_.out kr) (fun _ _ _ h => h) (Or.inl ⟨by rfl, ?_⟩) ?_ ?_
   rotate_left
   {
   intro w'
   go_simp
   with_reducible rfl
   }
   rotate_left
   {
   simp only [Act.put, l1, l2, l3, i64_w, i32_w]
   rfl
   }
   refine done_ (done_of HT_.out kr) ?_
   try go_wp2
   go_ret
   exact ⟨by first | rfl | (simp [errW_none, errW_some] <;> rfl) | (simp [*, errW_none, errW_some] <;> rfl), bl⟩
   }
   }
   ·exact absurd H (by simp)
   }
   }
   {
   replace c13 := Bool.eq_false_iff.mpr c13
   subst c13
   replace H := itF H
   obtain rfl := Option.some.inj H
   try go_wp2_with (first | ((with_reducible refine gate_callee (f := 26) rfl ?_); refine goesL_ (some 21) rfl rfl Tryd.func26 kr rfl #[.string (a0.extract 9 12)] rfl am ?_; (with_reducible refine (stowageref1_Int.calls kj1 (a0.extract 9 12) t156 false _ A12.out).mono ?_); rintro e w' ⟨rfl, ⟨nd, rfl⟩⟩; refine ⟨_, rfl, ?_⟩))
   (try (rw [drewN_self wc]; generalize hq_ : World.drewN wc _ = wc; have n0_ : Aside0 (Below w.heap.size w wc) := ⟨by rw [← hq_]; exact bl⟩; clear HB hq_; have HB := n0_; clear n0_))
   have n0_ := Aside0.mk (below_drew1 HB.out)
   clear HB
   have HB := n0_
   clear n0_
   refine start_ (n := 13) (S := fun w' => True) (ds := []) #[false, false, false, false, false, false, false, false, false, false, false, false, false] kr rfl rfl trivial (fun hHeld => ?_); refine with_tabW stowageref17_status.tab4 stowageref17_status.bits4 (fun HT_ HW_ => ?_)
   generalize wc.drew = w23 at HB hHeld ⊢
   refine pure_ (i := 0) (N := some 24) (v := ?_) (a' := ?_) #[true, false, false, false, false, false, false, false, false, false, false, false, false] rfl rfl (any_of HT_.out kr) (fun _ _ _ h => h) (Or.inl ⟨by rfl, ?_⟩) ?_ ?_
   rotate_left
   {
   intro w'
   go_simp
   with_reducible rfl
   }
   rotate_left
   {
   simp only [Act.put, l1, l2, l3, i64_w, i32_w]
   rfl
   }
   refine pure_ (i := 1) (N := some 25) (v := ?_) (a' := ?_) #[true, true, false, false, false, false, false, false, false, false, false, false, false] rfl rfl (any_of HT_.out kr) (fun _ _ _ h => h) (Or.inl ⟨by rfl, ?_⟩) ?_ ?_
   rotate_left
   {
   intro w'
   go_simp
   with_reducible rfl
   }
   rotate_left
   {
   simp only [Act.put, l1, l2, l3, i64_w, i32_w]
   rfl
   }
   refine pure_ (i := 2) (N := some 26) (v := ?_) (a' := ?_) #[true, true, true, false, false, false, false, false, false, false, false, false, false] rfl rfl (any_of HT_.out kr) (fun _ _ _ h => h) (Or.inl ⟨by rfl, ?_⟩) ?_ ?_
   rotate_left
   {
   intro w'
   go_simp
   with_reducible rfl
   }
   rotate_left
   {
   simp only [Act.put, l1, l2, l3, i64_w, i32_w]
   rfl
   }
   refine pure_ (i := 3) (N := some 27) (v := undef) (a' := ?_) #[true, true, true, true, false, false, false, false, false, false, false, false, false] rfl rfl (any_of HT_.out kr) (fun _ _ _ h => h) (Or.inr ⟨by rfl, rfl⟩) ?_ ?_
   rotate_left
   {
   simp only [Act.put, l1, l2, l3, i64_w, i32_w]
   rfl
   }
   refine pure_ (i := 4) (N := some 28) (v := undef) (a' := ?_) #[true, true, true, true, true, false, false, false, false, false, false, false, false] rfl rfl (any_of HT_.out kr) (fun _ _ _ h => h) (Or.inr ⟨by rfl, rfl⟩) ?_ ?_
   rotate_left
   {
   simp only [Act.put, l1, l2, l3, i64_w, i32_w]
   rfl
   }
   refine pure_ (i := 5) (N := some 29) (v := ?_) (a' := ?_) #[true, true, true, true, true, true, false, false, false, false, false, false, false] rfl rfl (any_of HT_.out kr) (fun _ _ _ h => h) (Or.inl ⟨by rfl, ?_⟩) ?_ ?_
   rotate_left
   {
   intro w'
   go_simp
   with_reducible rfl
   }
   rotate_left
   {
   simp only [Act.put, l1, l2, l3, i64_w, i32_w]
   rfl
   }
   refine pure_ (i := 6) (N := some 30) (v := ?_) (a' := ?_) #[true, true, true, true, true, true, true, false, false, false, false, false, false] rfl rfl (any_of HT_.out kr) (fun _ _ _ h => h) (Or.inl ⟨by rfl, ?_⟩) ?_ ?_
   rotate_left
   {
   intro w'
   go_simp
   with_reducible rfl
   }
   rotate_left
   {
   simp only [Act.put, l1, l2, l3, i64_w, i32_w]
   rfl
   }
   refine pure_ (i := 7) (N := some 31) (v := undef) (a' := ?_) #[true, true, true, true, true, true, true, true, false, false, false, false, false] rfl rfl (any_of HT_.out kr) (fun _ _ _ h => h) (Or.inr ⟨by rfl, rfl⟩) ?_ ?_
   rotate_left
   {
   simp only [Act.put, l1, l2, l3, i64_w, i32_w]
   rfl
   }
   refine pure_ (i := 8) (N := some 32) (v := undef) (a' := ?_) #[true, true, true, true, true, true, true, true, true, false, false, false, false] rfl rfl (any_of HT_.out kr) (fun _ _ _ h => h) (Or.inr ⟨by rfl, rfl⟩) ?_ ?_
   rotate_left
   {
   simp only [Act.put, l1, l2, l3, i64_w, i32_w]
   rfl
   }
   refine pure_ (i := 9) (N := some 33) (v := undef) (a' := ?_) #[true, true, true, true, true, true, true, true, true, true, false, false, false] rfl rfl (any_of HT_.out kr) (fun _ _ _ h => h) (Or.inr ⟨by rfl, rfl⟩) ?_ ?_
   rotate_left
   {
   simp only [Act.put, l1, l2, l3, i64_w, i32_w]
   rfl
   }
   refine pure_ (i := 10) (N := some 34) (v := undef) (a' := ?_) #[true, true, true, true, true, true, true, true, true, true, true, false, false] rfl rfl (any_of HT_.out kr) (fun _ _ _ h => h) (Or.inr ⟨by rfl, rfl⟩) ?_ ?_
   rotate_left
   {
   simp only [Act.put, l1, l2, l3, i64_w, i32_w]
   rfl
   }
   refine pure_ (i := 11) (N := some 35) (v := undef) (a' := ?_) #[true, true, true, true, true, true, true, true, true, true, true, true, false] rfl rfl (any_of HT_.out kr) (fun _ _ _ h => h) (Or.inr ⟨by rfl, rfl⟩) ?_ ?_
   rotate_left
   {
   simp only [Act.put, l1, l2, l3, i64_w, i32_w]
   rfl
   }
   refine pure_ (i := 12) (N := some 36) (v := ?_) (a' := ?_) #[true, true, true, true, true, true, true, true, true, true, true, true, true] rfl rfl (any_of HT_.out kr) (fun _ _ _ h => h) (Or.inl ⟨by rfl, ?_⟩) ?_ ?_
   rotate_left
   {
   intro w'
   go_simp
   with_reducible rfl
   }
   rotate_left
   {
   simp only [Act.put, l1, l2, l3, i64_w, i32_w]
   rfl
   }
   refine done_ (done_of HT_.out kr) ?_
   try go_wp2
   go_ret
   exact ⟨by first | rfl | (simp [errW_none, errW_some] <;> rfl) | (simp [*, errW_none, errW_some] <;> rfl), bl⟩
   }
   }
   ·exact absurd H (by simp)
   }
   ·exact absurd H (by simp)
   }
end Go.Proofs.YtfjidcmegacibaaDoor.Q


namespace Go.Proofs.YtfjidcmegacibaaDoor.Q
open Go.RowKit Go.Proofs.YtfjidcmegacibaaDoorW.PrintWords Go.Proofs.YtfjidcmegacibaaDoorW.PrintLast Go.Proofs.YtfjidcmegacibaaDoorW.PrintMore
set_option linter.unusedVariables false
set_option linter.unusedSimpArgs false
set_option maxHeartbeats 8000000
set_option maxRecDepth 100000
attribute [local go_sem] max2_int min2_int max_two min_two max_three min_three max_four min_four   
def stowageref3_Begins.f (a0 : ByteArray) (a1 : ByteArray) : Option (Bool) := if (a0.size : Int) ≥ (a1.size : Int) then (if 0 ≤ (a1.size : Int) then (if (a1.size : Int) ≤ (a0.size : Int) then (some ((a0.extract 0 a1.size).toList == a1.toList)) else (none)) else (none)) else (some false)
theorem stowageref3_Begins.calls (a0 : ByteArray) (a1 : ByteArray) (r : Bool) (w : World) (h : stowageref3_Begins.f a0 a1 = some r) :
    Calls Tryd.prog 41 #[.string a0, .string a1] w fun e w' => e = .returned (.bool r) ∧ Drawn0 w w' := by
 unfold stowageref3_Begins.f at h
 have H := h
 clear h
 replace H := itO H
 rcases H with ⟨c3, H⟩ | ⟨c3, H⟩
 {
 have c3b0 : decide ((a1.size : Int) ≤ (a0.size : Int)) = true := decide_eq_true c3
 have c3b1 : decide (a1.size ≤ a0.size) = true := decide_eq_true (Int.ofNat_le.mp c3)
 clear c3
 replace H := itO H
 rcases H with ⟨c4, H⟩ | ⟨c4, H⟩
 {
 have c4b0 := eq_true c4
 have c4b1 := decide_eq_true c4
 clear c4
 replace H := itO H
 rcases H with ⟨c5, H⟩ | ⟨c5, H⟩
 {
 have c5b0 := eq_true c5
 have c5b1 := decide_eq_true c5
 clear c5
 obtain rfl := Option.some.inj H
 go_enter Tryd.func41, Tryd.ntmps41
 go_wp2
 go_ret
 exact ⟨rs, dr⟩
 }
 ·exact absurd H (by simp)
 }
 ·exact absurd H (by simp)
 }
 {
 have c3b0 : decide ((a1.size : Int) ≤ (a0.size : Int)) = false := decide_eq_false c3
 have c3b1 : decide (a1.size ≤ a0.size) = false := decide_eq_false (fun h => c3 (Int.ofNat_le.mpr h))
 clear c3
 obtain rfl := Option.some.inj H
 go_enter Tryd.func41, Tryd.ntmps41
 go_wp2
 go_ret
 exact ⟨rs, dr⟩
 }
end Go.Proofs.YtfjidcmegacibaaDoor.Q
