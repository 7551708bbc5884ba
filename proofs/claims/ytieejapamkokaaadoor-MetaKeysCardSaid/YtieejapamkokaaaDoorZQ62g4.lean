/- A part of the proof of the seat's laws. No condition beyond those in the theorems. -/
import Derived.Test.YtieejapamkokaaaDoorZQ0g7
import Derived.Test.YtieejapamkokaaaDoorZQ14g5
import Derived.Test.YtieejapamkokaaaDoorZQ54g5
import Derived.Test.YtieejapamkokaaaDoorZQ59g3
import Derived.Test.YtieejapamkokaaaDoorZQ7g7
import Derived.Lib.Hide

namespace Go.Proofs.YtieejapamkokaaaDoor.Q
open Go.RowKit Go.Proofs.YtieejapamkokaaaDoorW.PrintWords Go.Proofs.YtieejapamkokaaaDoorW.PrintLast Go.Proofs.YtieejapamkokaaaDoorW.PrintMore
set_option linter.unusedVariables false
set_option linter.unusedSimpArgs false
attribute [local go_sem] max2_int min2_int max_two min_two max_three min_three max_four min_four   
def stowagelaw12_awake.f (k : Nat)  : Option (Bool) := (meta_ObjectKey.f k (⟨#[97, 98, 99]⟩ : ByteArray) (⟨#[120, 47, 121]⟩ : ByteArray) 7).bind fun t218 => ((meta_ParseObject.f k t218).bind fun bt219 => ((meta_Seq.f k (⟨#[48, 48, 48, 48, 48, 48, 48, 48, 48, 48, 48, 48, 48, 48, 102, 102]⟩ : ByteArray)).bind fun bt223 => (if bt219.2.2.2 = true then (if bt223.2 = true then (if bt219.1.toList = ([97, 98, 99] : List UInt8) then (if bt219.2.1.toList = ([120, 47, 121] : List UInt8) then (if bt219.2.2.1 = 7 then (if bt223.1 = 255 then ((meta_ID.f k 255).bind fun t225 => (if t225.toList = ([48, 48, 48, 48, 48, 48, 48, 48, 48, 48, 48, 48, 48, 48, 102, 102] : List UInt8) then ((meta_BucketKey.f (⟨#[97, 98, 99]⟩ : ByteArray)).bind fun t226 => (some (t226.toList == ([66, 97, 98, 99] : List UInt8)))) else (some false))) else (some false)) else (some false)) else (some false)) else (some false)) else (some false)) else (some false))))
theorem stowagelaw12_awake.mono : ∀ k, LeO (stowagelaw12_awake.f k ) (stowagelaw12_awake.f (k + 1) ) := by
 intro  k
 unfold stowagelaw12_awake.f
 repeat' first
   | (with_reducible exact meta_ID.mono _ _)
   | (with_reducible exact meta_ObjectKey.mono _ _ _ _)
   | (with_reducible exact meta_ParseObject.mono _ _)
   | (with_reducible exact meta_Seq.mono _ _)
   | (with_reducible exact LeO.refl _)
   | (with_reducible exact LeO.none _)
   | (with_reducible refine LeO.ite ?_ ?_)
   | (with_reducible refine LeO.bind ?_ (fun _ => ?_))
   | exact meta_ID.mono _ _
   | exact meta_ObjectKey.mono _ _ _ _
   | exact meta_ParseObject.mono _ _
   | exact meta_Seq.mono _ _
   | exact LeO.none _
   | refine LeO.ite ?_ ?_
   | refine LeO.bind ?_ (fun _ => ?_)
set_option maxHeartbeats 8000000 in
set_option maxRecDepth 100000 in
theorem stowagelaw12_awake.calls (k : Nat)  (r : Bool) (w : World) (h : stowagelaw12_awake.f k  = some r) :
  Calls Tryd.prog 20 #[] w fun e w' => e = .returned (.bool r) ∧ Below w.heap.size w w' := by
 have HB := Aside0.mk (Below.refl w.heap.size w)
 unfold stowagelaw12_awake.f at h
 have H := h
 clear h
 replace H := bndO H
 obtain ⟨t218, A10, H⟩ := H
 have A1 := Aside0.mk A10
 clear A10
 replace H := bndO H
 obtain ⟨⟨t219, t220, t221, t222⟩, A20, H⟩ := H
 dsimp only at H
 have A2 := Aside0.mk A20
 clear A20
 replace H := bndO H
 obtain ⟨⟨t223, t224⟩, A30, H⟩ := H
 dsimp only at H
 have A3 := Aside0.mk A30
 clear A30
 by_cases c4 : t222 = true
 ·subst c4
  replace H := itT H
  by_cases c5 : t224 = true
  ·subst c5
   replace H := itT H
   replace H := itO H
   rcases H with ⟨c6, H⟩ | ⟨c6, H⟩
   ·skip
    have c6b0 : (t219.toList == ([97, 98, 99] : List UInt8)) = true := beq_iff_eq.mpr c6
    have c6b1 : (t219.toList != ([97, 98, 99] : List UInt8)) = false := bne_eq_false_iff_eq.mpr c6
    clear c6
    replace H := itO H
    rcases H with ⟨c7, H⟩ | ⟨c7, H⟩
    ·skip
     have c7b0 : (t220.toList == ([120, 47, 121] : List UInt8)) = true := beq_iff_eq.mpr c7
     have c7b1 : (t220.toList != ([120, 47, 121] : List UInt8)) = false := bne_eq_false_iff_eq.mpr c7
     clear c7
     replace H := itO H
     rcases H with ⟨c8, H⟩ | ⟨c8, H⟩
     ·skip
      have c8b0 : (t221 == 7) = true := beq_iff_eq.mpr c8
      have c8b1 : (t221 != 7) = false := bne_eq_false_iff_eq.mpr c8
      clear c8
      replace H := itO H
      rcases H with ⟨c9, H⟩ | ⟨c9, H⟩
      ·skip
       have c9b0 : (t223 == 255) = true := beq_iff_eq.mpr c9
       have c9b1 : (t223 != 255) = false := bne_eq_false_iff_eq.mpr c9
       clear c9
       replace H := bndO H
       obtain ⟨t225, A100, H⟩ := H
       have A10 := Aside0.mk A100
       clear A100
       replace H := itO H
       rcases H with ⟨c11, H⟩ | ⟨c11, H⟩
       ·skip
        have c11b0 : (t225.toList == ([48, 48, 48, 48, 48, 48, 48, 48, 48, 48, 48, 48, 48, 48, 102, 102] : List UInt8)) = true := beq_iff_eq.mpr c11
        have c11b1 : (t225.toList != ([48, 48, 48, 48, 48, 48, 48, 48, 48, 48, 48, 48, 48, 48, 102, 102] : List UInt8)) = false := bne_eq_false_iff_eq.mpr c11
        clear c11
        replace H := bndO H
        obtain ⟨t226, A120, H⟩ := H
        have A12 := Aside0.mk A120
        clear A120
        obtain rfl := Option.some.inj H
        go_enter Tryd.func20, Tryd.ntmps20
        go_wp2_with (first | ((with_reducible refine gate_callee (f := 12) rfl ?_); refine goesL_ (some 8) rfl rfl Tryd.func12 (by kernel_rfl) rfl #[.string (⟨#[97, 98, 99]⟩ : ByteArray), .string (⟨#[120, 47, 121]⟩ : ByteArray), .int .i64 7] rfl (by (try simp only [List.map_toArray, List.map_cons, List.map_nil]); first | done | rfl | (simp only [List.length_drop, List.length_take]; rfl)) ?_; (with_reducible refine (meta_ObjectKey.calls k (⟨#[97, 98, 99]⟩ : ByteArray) (⟨#[120, 47, 121]⟩ : ByteArray) 7 t218 _ A1.out).mono ?_); rintro e w13 ⟨rfl, hb⟩; refine ⟨_, rfl, ?_⟩; have n0_ := Aside0.mk (below_step (by repeat (first | (with_reducible first | exact HB.out | apply below_alloc | apply pw_below_drewN | apply below_drew1) | exact HB.out)) hb); clear HB; have HB := n0_; clear n0_; (try clear hb); (try clear hb2); (try clear hk); (try clear hi)) | ((with_reducible refine gate_callee (f := 24) rfl ?_); refine goesL_ (some 9) rfl rfl Tryd.func24 (by kernel_rfl) rfl #[.string t218] rfl (by (try simp only [List.map_toArray, List.map_cons, List.map_nil]); first | done | rfl | (simp only [List.length_drop, List.length_take]; rfl)) ?_; (with_reducible refine (meta_ParseObject.calls k t218 t219 t220 t221 true _ A2.out).mono ?_); rintro e w14 ⟨rfl, hb⟩; refine ⟨_, rfl, ?_⟩; have n0_ := Aside0.mk (below_step (by repeat (first | (with_reducible first | exact HB.out | apply below_alloc | apply pw_below_drewN | apply below_drew1) | exact HB.out)) hb); clear HB; have HB := n0_; clear n0_; (try clear hb); (try clear hb2); (try clear hk); (try clear hi)) | ((with_reducible refine gate_callee (f := 29) rfl ?_); refine goesL_ (some 15) rfl rfl Tryd.func29 (by kernel_rfl) rfl #[.string (⟨#[48, 48, 48, 48, 48, 48, 48, 48, 48, 48, 48, 48, 48, 48, 102, 102]⟩ : ByteArray)] rfl (by (try simp only [List.map_toArray, List.map_cons, List.map_nil]); first | done | rfl | (simp only [List.length_drop, List.length_take]; rfl)) ?_; (with_reducible refine (meta_Seq.calls k (⟨#[48, 48, 48, 48, 48, 48, 48, 48, 48, 48, 48, 48, 48, 48, 102, 102]⟩ : ByteArray) t223 true _ A3.out).mono ?_); rintro e w15 ⟨rfl, hb⟩; refine ⟨_, rfl, ?_⟩; have n0_ := Aside0.mk (below_step (by repeat (first | (with_reducible first | exact HB.out | apply below_alloc | apply pw_below_drewN | apply below_drew1) | exact HB.out)) hb); clear HB; have HB := n0_; clear n0_; (try clear hb); (try clear hb2); (try clear hk); (try clear hi)) | (go_at_call 18; (with_reducible refine (meta_ID.calls k 255 t225 _ A10.out).mono ?_); rintro e w16 ⟨rfl, hb⟩; have n0_ := Aside0.mk (below_step (by repeat (first | (with_reducible first | exact HB.out | apply below_alloc | apply pw_below_drewN | apply below_drew1) | exact HB.out)) hb); clear HB; have HB := n0_; clear n0_; (try clear hb); (try clear hb2); (try clear hk); (try clear hi)) | (go_at_call 10; (with_reducible refine (meta_BucketKey.calls (⟨#[97, 98, 99]⟩ : ByteArray) t226 _ A12.out).mono ?_); rintro e w' ⟨rfl, ⟨nd, rfl⟩⟩))
        go_ret
        exact ⟨by first | rfl | (simp [errW_none, errW_some] <;> rfl) | (simp [*, errW_none, errW_some] <;> rfl), by repeat (first | (with_reducible first | exact HB.out | apply below_alloc | apply pw_below_drewN | apply below_drew1) | exact HB.out)⟩
       ·skip
        have c11b0 : (t225.toList == ([48, 48, 48, 48, 48, 48, 48, 48, 48, 48, 48, 48, 48, 48, 102, 102] : List UInt8)) = false := beq_eq_false_iff_ne.mpr c11
        have c11b1 : (t225.toList != ([48, 48, 48, 48, 48, 48, 48, 48, 48, 48, 48, 48, 48, 48, 102, 102] : List UInt8)) = true := bne_iff_ne.mpr c11
        obtain rfl := Option.some.inj H
        go_enter Tryd.func20, Tryd.ntmps20
        go_wp2_with (first | ((with_reducible refine gate_callee (f := 12) rfl ?_); refine goesL_ (some 8) rfl rfl Tryd.func12 (by kernel_rfl) rfl #[.string (⟨#[97, 98, 99]⟩ : ByteArray), .string (⟨#[120, 47, 121]⟩ : ByteArray), .int .i64 7] rfl (by (try simp only [List.map_toArray, List.map_cons, List.map_nil]); first | done | rfl | (simp only [List.length_drop, List.length_take]; rfl)) ?_; (with_reducible refine (meta_ObjectKey.calls k (⟨#[97, 98, 99]⟩ : ByteArray) (⟨#[120, 47, 121]⟩ : ByteArray) 7 t218 _ A1.out).mono ?_); rintro e w17 ⟨rfl, hb⟩; refine ⟨_, rfl, ?_⟩; have n0_ := Aside0.mk (below_step (by repeat (first | (with_reducible first | exact HB.out | apply below_alloc | apply pw_below_drewN | apply below_drew1) | exact HB.out)) hb); clear HB; have HB := n0_; clear n0_; (try clear hb); (try clear hb2); (try clear hk); (try clear hi)) | ((with_reducible refine gate_callee (f := 24) rfl ?_); refine goesL_ (some 9) rfl rfl Tryd.func24 (by kernel_rfl) rfl #[.string t218] rfl (by (try simp only [List.map_toArray, List.map_cons, List.map_nil]); first | done | rfl | (simp only [List.length_drop, List.length_take]; rfl)) ?_; (with_reducible refine (meta_ParseObject.calls k t218 t219 t220 t221 true _ A2.out).mono ?_); rintro e w18 ⟨rfl, hb⟩; refine ⟨_, rfl, ?_⟩; have n0_ := Aside0.mk (below_step (by repeat (first | (with_reducible first | exact HB.out | apply below_alloc | apply pw_below_drewN | apply below_drew1) | exact HB.out)) hb); clear HB; have HB := n0_; clear n0_; (try clear hb); (try clear hb2); (try clear hk); (try clear hi)) | ((with_reducible refine gate_callee (f := 29) rfl ?_); refine goesL_ (some 15) rfl rfl Tryd.func29 (by kernel_rfl) rfl #[.string (⟨#[48, 48, 48, 48, 48, 48, 48, 48, 48, 48, 48, 48, 48, 48, 102, 102]⟩ : ByteArray)] rfl (by (try simp only [List.map_toArray, List.map_cons, List.map_nil]); first | done | rfl | (simp only [List.length_drop, List.length_take]; rfl)) ?_; (with_reducible refine (meta_Seq.calls k (⟨#[48, 48, 48, 48, 48, 48, 48, 48, 48, 48, 48, 48, 48, 48, 102, 102]⟩ : ByteArray) t223 true _ A3.out).mono ?_); rintro e w19 ⟨rfl, hb⟩; refine ⟨_, rfl, ?_⟩; have n0_ := Aside0.mk (below_step (by repeat (first | (with_reducible first | exact HB.out | apply below_alloc | apply pw_below_drewN | apply below_drew1) | exact HB.out)) hb); clear HB; have HB := n0_; clear n0_; (try clear hb); (try clear hb2); (try clear hk); (try clear hi)) | (go_at_call 18; (with_reducible refine (meta_ID.calls k 255 t225 _ A10.out).mono ?_); rintro e w20 ⟨rfl, hb⟩; have n0_ := Aside0.mk (below_step (by repeat (first | (with_reducible first | exact HB.out | apply below_alloc | apply pw_below_drewN | apply below_drew1) | exact HB.out)) hb); clear HB; have HB := n0_; clear n0_; (try clear hb); (try clear hb2); (try clear hk); (try clear hi)))
        go_ret
        exact ⟨by first | rfl | (simp [errW_none, errW_some] <;> rfl) | (simp [*, errW_none, errW_some] <;> rfl), by repeat (first | (with_reducible first | exact HB.out | apply below_alloc | apply pw_below_drewN | apply below_drew1) | exact HB.out)⟩
      ·skip
       have c9b0 : (t223 == 255) = false := beq_eq_false_iff_ne.mpr c9
       have c9b1 : (t223 != 255) = true := bne_iff_ne.mpr c9
       obtain rfl := Option.some.inj H
       go_enter Tryd.func20, Tryd.ntmps20
       go_wp2_with (first | ((with_reducible refine gate_callee (f := 12) rfl ?_); refine goesL_ (some 8) rfl rfl Tryd.func12 (by kernel_rfl) rfl #[.string (⟨#[97, 98, 99]⟩ : ByteArray), .string (⟨#[120, 47, 121]⟩ : ByteArray), .int .i64 7] rfl (by (try simp only [List.map_toArray, List.map_cons, List.map_nil]); first | done | rfl | (simp only [List.length_drop, List.length_take]; rfl)) ?_; (with_reducible refine (meta_ObjectKey.calls k (⟨#[97, 98, 99]⟩ : ByteArray) (⟨#[120, 47, 121]⟩ : ByteArray) 7 t218 _ A1.out).mono ?_); rintro e w21 ⟨rfl, hb⟩; refine ⟨_, rfl, ?_⟩; have n0_ := Aside0.mk (below_step (by repeat (first | (with_reducible first | exact HB.out | apply below_alloc | apply pw_below_drewN | apply below_drew1) | exact HB.out)) hb); clear HB; have HB := n0_; clear n0_; (try clear hb); (try clear hb2); (try clear hk); (try clear hi)) | ((with_reducible refine gate_callee (f := 24) rfl ?_); refine goesL_ (some 9) rfl rfl Tryd.func24 (by kernel_rfl) rfl #[.string t218] rfl (by (try simp only [List.map_toArray, List.map_cons, List.map_nil]); first | done | rfl | (simp only [List.length_drop, List.length_take]; rfl)) ?_; (with_reducible refine (meta_ParseObject.calls k t218 t219 t220 t221 true _ A2.out).mono ?_); rintro e w22 ⟨rfl, hb⟩; refine ⟨_, rfl, ?_⟩; have n0_ := Aside0.mk (below_step (by repeat (first | (with_reducible first | exact HB.out | apply below_alloc | apply pw_below_drewN | apply below_drew1) | exact HB.out)) hb); clear HB; have HB := n0_; clear n0_; (try clear hb); (try clear hb2); (try clear hk); (try clear hi)) | ((with_reducible refine gate_callee (f := 29) rfl ?_); refine goesL_ (some 15) rfl rfl Tryd.func29 (by kernel_rfl) rfl #[.string (⟨#[48, 48, 48, 48, 48, 48, 48, 48, 48, 48, 48, 48, 48, 48, 102, 102]⟩ : ByteArray)] rfl (by (try simp only [List.map_toArray, List.map_cons, List.map_nil]); first | done | rfl | (simp only [List.length_drop, List.length_take]; rfl)) ?_; (with_reducible refine (meta_Seq.calls k (⟨#[48, 48, 48, 48, 48, 48, 48, 48, 48, 48, 48, 48, 48, 48, 102, 102]⟩ : ByteArray) t223 true _ A3.out).mono ?_); rintro e w23 ⟨rfl, hb⟩; refine ⟨_, rfl, ?_⟩; have n0_ := Aside0.mk (below_step (by repeat (first | (with_reducible first | exact HB.out | apply below_alloc | apply pw_below_drewN | apply below_drew1) | exact HB.out)) hb); clear HB; have HB := n0_; clear n0_; (try clear hb); (try clear hb2); (try clear hk); (try clear hi)))
       go_ret
       exact ⟨by first | rfl | (simp [errW_none, errW_some] <;> rfl) | (simp [*, errW_none, errW_some] <;> rfl), by repeat (first | (with_reducible first | exact HB.out | apply below_alloc | apply pw_below_drewN | apply below_drew1) | exact HB.out)⟩
     ·skip
      have c8b0 : (t221 == 7) = false := beq_eq_false_iff_ne.mpr c8
      have c8b1 : (t221 != 7) = true := bne_iff_ne.mpr c8
      obtain rfl := Option.some.inj H
      go_enter Tryd.func20, Tryd.ntmps20
      go_wp2_with (first | ((with_reducible refine gate_callee (f := 12) rfl ?_); refine goesL_ (some 8) rfl rfl Tryd.func12 (by kernel_rfl) rfl #[.string (⟨#[97, 98, 99]⟩ : ByteArray), .string (⟨#[120, 47, 121]⟩ : ByteArray), .int .i64 7] rfl (by (try simp only [List.map_toArray, List.map_cons, List.map_nil]); first | done | rfl | (simp only [List.length_drop, List.length_take]; rfl)) ?_; (with_reducible refine (meta_ObjectKey.calls k (⟨#[97, 98, 99]⟩ : ByteArray) (⟨#[120, 47, 121]⟩ : ByteArray) 7 t218 _ A1.out).mono ?_); rintro e w24 ⟨rfl, hb⟩; refine ⟨_, rfl, ?_⟩; have n0_ := Aside0.mk (below_step (by repeat (first | (with_reducible first | exact HB.out | apply below_alloc | apply pw_below_drewN | apply below_drew1) | exact HB.out)) hb); clear HB; have HB := n0_; clear n0_; (try clear hb); (try clear hb2); (try clear hk); (try clear hi)) | ((with_reducible refine gate_callee (f := 24) rfl ?_); refine goesL_ (some 9) rfl rfl Tryd.func24 (by kernel_rfl) rfl #[.string t218] rfl (by (try simp only [List.map_toArray, List.map_cons, List.map_nil]); first | done | rfl | (simp only [List.length_drop, List.length_take]; rfl)) ?_; (with_reducible refine (meta_ParseObject.calls k t218 t219 t220 t221 true _ A2.out).mono ?_); rintro e w25 ⟨rfl, hb⟩; refine ⟨_, rfl, ?_⟩; have n0_ := Aside0.mk (below_step (by repeat (first | (with_reducible first | exact HB.out | apply below_alloc | apply pw_below_drewN | apply below_drew1) | exact HB.out)) hb); clear HB; have HB := n0_; clear n0_; (try clear hb); (try clear hb2); (try clear hk); (try clear hi)) | ((with_reducible refine gate_callee (f := 29) rfl ?_); refine goesL_ (some 15) rfl rfl Tryd.func29 (by kernel_rfl) rfl #[.string (⟨#[48, 48, 48, 48, 48, 48, 48, 48, 48, 48, 48, 48, 48, 48, 102, 102]⟩ : ByteArray)] rfl (by (try simp only [List.map_toArray, List.map_cons, List.map_nil]); first | done | rfl | (simp only [List.length_drop, List.length_take]; rfl)) ?_; (with_reducible refine (meta_Seq.calls k (⟨#[48, 48, 48, 48, 48, 48, 48, 48, 48, 48, 48, 48, 48, 48, 102, 102]⟩ : ByteArray) t223 true _ A3.out).mono ?_); rintro e w26 ⟨rfl, hb⟩; refine ⟨_, rfl, ?_⟩; have n0_ := Aside0.mk (below_step (by repeat (first | (with_reducible first | exact HB.out | apply below_alloc | apply pw_below_drewN | apply below_drew1) | exact HB.out)) hb); clear HB; have HB := n0_; clear n0_; (try clear hb); (try clear hb2); (try clear hk); (try clear hi)))
      go_ret
      exact ⟨by first | rfl | (simp [errW_none, errW_some] <;> rfl) | (simp [*, errW_none, errW_some] <;> rfl), by repeat (first | (with_reducible first | exact HB.out | apply below_alloc | apply pw_below_drewN | apply below_drew1) | exact HB.out)⟩
    ·skip
     have c7b0 : (t220.toList == ([120, 47, 121] : List UInt8)) = false := beq_eq_false_iff_ne.mpr c7
     have c7b1 : (t220.toList != ([120, 47, 121] : List UInt8)) = true := bne_iff_ne.mpr c7
     obtain rfl := Option.some.inj H
     go_enter Tryd.func20, Tryd.ntmps20
     go_wp2_with (first | ((with_reducible refine gate_callee (f := 12) rfl ?_); refine goesL_ (some 8) rfl rfl Tryd.func12 (by kernel_rfl) rfl #[.string (⟨#[97, 98, 99]⟩ : ByteArray), .string (⟨#[120, 47, 121]⟩ : ByteArray), .int .i64 7] rfl (by (try simp only [List.map_toArray, List.map_cons, List.map_nil]); first | done | rfl | (simp only [List.length_drop, List.length_take]; rfl)) ?_; (with_reducible refine (meta_ObjectKey.calls k (⟨#[97, 98, 99]⟩ : ByteArray) (⟨#[120, 47, 121]⟩ : ByteArray) 7 t218 _ A1.out).mono ?_); rintro e w27 ⟨rfl, hb⟩; refine ⟨_, rfl, ?_⟩; have n0_ := Aside0.mk (below_step (by repeat (first | (with_reducible first | exact HB.out | apply below_alloc | apply pw_below_drewN | apply below_drew1) | exact HB.out)) hb); clear HB; have HB := n0_; clear n0_; (try clear hb); (try clear hb2); (try clear hk); (try clear hi)) | ((with_reducible refine gate_callee (f := 24) rfl ?_); refine goesL_ (some 9) rfl rfl Tryd.func24 (by kernel_rfl) rfl #[.string t218] rfl (by (try simp only [List.map_toArray, List.map_cons, List.map_nil]); first | done | rfl | (simp only [List.length_drop, List.length_take]; rfl)) ?_; (with_reducible refine (meta_ParseObject.calls k t218 t219 t220 t221 true _ A2.out).mono ?_); rintro e w28 ⟨rfl, hb⟩; refine ⟨_, rfl, ?_⟩; have n0_ := Aside0.mk (below_step (by repeat (first | (with_reducible first | exact HB.out | apply below_alloc | apply pw_below_drewN | apply below_drew1) | exact HB.out)) hb); clear HB; have HB := n0_; clear n0_; (try clear hb); (try clear hb2); (try clear hk); (try clear hi)) | ((with_reducible refine gate_callee (f := 29) rfl ?_); refine goesL_ (some 15) rfl rfl Tryd.func29 (by kernel_rfl) rfl #[.string (⟨#[48, 48, 48, 48, 48, 48, 48, 48, 48, 48, 48, 48, 48, 48, 102, 102]⟩ : ByteArray)] rfl (by (try simp only [List.map_toArray, List.map_cons, List.map_nil]); first | done | rfl | (simp only [List.length_drop, List.length_take]; rfl)) ?_; (with_reducible refine (meta_Seq.calls k (⟨#[48, 48, 48, 48, 48, 48, 48, 48, 48, 48, 48, 48, 48, 48, 102, 102]⟩ : ByteArray) t223 true _ A3.out).mono ?_); rintro e w29 ⟨rfl, hb⟩; refine ⟨_, rfl, ?_⟩; have n0_ := Aside0.mk (below_step (by repeat (first | (with_reducible first | exact HB.out | apply below_alloc | apply pw_below_drewN | apply below_drew1) | exact HB.out)) hb); clear HB; have HB := n0_; clear n0_; (try clear hb); (try clear hb2); (try clear hk); (try clear hi)))
     go_ret
     exact ⟨by first | rfl | (simp [errW_none, errW_some] <;> rfl) | (simp [*, errW_none, errW_some] <;> rfl), by repeat (first | (with_reducible first | exact HB.out | apply below_alloc | apply pw_below_drewN | apply below_drew1) | exact HB.out)⟩
   ·skip
    have c6b0 : (t219.toList == ([97, 98, 99] : List UInt8)) = false := beq_eq_false_iff_ne.mpr c6
    have c6b1 : (t219.toList != ([97, 98, 99] : List UInt8)) = true := bne_iff_ne.mpr c6
    obtain rfl := Option.some.inj H
    go_enter Tryd.func20, Tryd.ntmps20
    go_wp2_with (first | ((with_reducible refine gate_callee (f := 12) rfl ?_); refine goesL_ (some 8) rfl rfl Tryd.func12 (by kernel_rfl) rfl #[.string (⟨#[97, 98, 99]⟩ : ByteArray), .string (⟨#[120, 47, 121]⟩ : ByteArray), .int .i64 7] rfl (by (try simp only [List.map_toArray, List.map_cons, List.map_nil]); first | done | rfl | (simp only [List.length_drop, List.length_take]; rfl)) ?_; (with_reducible refine (meta_ObjectKey.calls k (⟨#[97, 98, 99]⟩ : ByteArray) (⟨#[120, 47, 121]⟩ : ByteArray) 7 t218 _ A1.out).mono ?_); rintro e w30 ⟨rfl, hb⟩; refine ⟨_, rfl, ?_⟩; have n0_ := Aside0.mk (below_step (by repeat (first | (with_reducible first | exact HB.out | apply below_alloc | apply pw_below_drewN | apply below_drew1) | exact HB.out)) hb); clear HB; have HB := n0_; clear n0_; (try clear hb); (try clear hb2); (try clear hk); (try clear hi)) | ((with_reducible refine gate_callee (f := 24) rfl ?_); refine goesL_ (some 9) rfl rfl Tryd.func24 (by kernel_rfl) rfl #[.string t218] rfl (by (try simp only [List.map_toArray, List.map_cons, List.map_nil]); first | done | rfl | (simp only [List.length_drop, List.length_take]; rfl)) ?_; (with_reducible refine (meta_ParseObject.calls k t218 t219 t220 t221 true _ A2.out).mono ?_); rintro e w31 ⟨rfl, hb⟩; refine ⟨_, rfl, ?_⟩; have n0_ := Aside0.mk (below_step (by repeat (first | (with_reducible first | exact HB.out | apply below_alloc | apply pw_below_drewN | apply below_drew1) | exact HB.out)) hb); clear HB; have HB := n0_; clear n0_; (try clear hb); (try clear hb2); (try clear hk); (try clear hi)) | ((with_reducible refine gate_callee (f := 29) rfl ?_); refine goesL_ (some 15) rfl rfl Tryd.func29 (by kernel_rfl) rfl #[.string (⟨#[48, 48, 48, 48, 48, 48, 48, 48, 48, 48, 48, 48, 48, 48, 102, 102]⟩ : ByteArray)] rfl (by (try simp only [List.map_toArray, List.map_cons, List.map_nil]); first | done | rfl | (simp only [List.length_drop, List.length_take]; rfl)) ?_; (with_reducible refine (meta_Seq.calls k (⟨#[48, 48, 48, 48, 48, 48, 48, 48, 48, 48, 48, 48, 48, 48, 102, 102]⟩ : ByteArray) t223 true _ A3.out).mono ?_); rintro e w32 ⟨rfl, hb⟩; refine ⟨_, rfl, ?_⟩; have n0_ := Aside0.mk (below_step (by repeat (first | (with_reducible first | exact HB.out | apply below_alloc | apply pw_below_drewN | apply below_drew1) | exact HB.out)) hb); clear HB; have HB := n0_; clear n0_; (try clear hb); (try clear hb2); (try clear hk); (try clear hi)))
    go_ret
    exact ⟨by first | rfl | (simp [errW_none, errW_some] <;> rfl) | (simp [*, errW_none, errW_some] <;> rfl), by repeat (first | (with_reducible first | exact HB.out | apply below_alloc | apply pw_below_drewN | apply below_drew1) | exact HB.out)⟩
  ·replace c5 := Bool.eq_false_iff.mpr c5
   subst c5
   replace H := itF H
   obtain rfl := Option.some.inj H
   go_enter Tryd.func20, Tryd.ntmps20
   go_wp2_with (first | ((with_reducible refine gate_callee (f := 12) rfl ?_); refine goesL_ (some 8) rfl rfl Tryd.func12 (by kernel_rfl) rfl #[.string (⟨#[97, 98, 99]⟩ : ByteArray), .string (⟨#[120, 47, 121]⟩ : ByteArray), .int .i64 7] rfl (by (try simp only [List.map_toArray, List.map_cons, List.map_nil]); first | done | rfl | (simp only [List.length_drop, List.length_take]; rfl)) ?_; (with_reducible refine (meta_ObjectKey.calls k (⟨#[97, 98, 99]⟩ : ByteArray) (⟨#[120, 47, 121]⟩ : ByteArray) 7 t218 _ A1.out).mono ?_); rintro e w33 ⟨rfl, hb⟩; refine ⟨_, rfl, ?_⟩; have n0_ := Aside0.mk (below_step (by repeat (first | (with_reducible first | exact HB.out | apply below_alloc | apply pw_below_drewN | apply below_drew1) | exact HB.out)) hb); clear HB; have HB := n0_; clear n0_; (try clear hb); (try clear hb2); (try clear hk); (try clear hi)) | ((with_reducible refine gate_callee (f := 24) rfl ?_); refine goesL_ (some 9) rfl rfl Tryd.func24 (by kernel_rfl) rfl #[.string t218] rfl (by (try simp only [List.map_toArray, List.map_cons, List.map_nil]); first | done | rfl | (simp only [List.length_drop, List.length_take]; rfl)) ?_; (with_reducible refine (meta_ParseObject.calls k t218 t219 t220 t221 true _ A2.out).mono ?_); rintro e w34 ⟨rfl, hb⟩; refine ⟨_, rfl, ?_⟩; have n0_ := Aside0.mk (below_step (by repeat (first | (with_reducible first | exact HB.out | apply below_alloc | apply pw_below_drewN | apply below_drew1) | exact HB.out)) hb); clear HB; have HB := n0_; clear n0_; (try clear hb); (try clear hb2); (try clear hk); (try clear hi)) | ((with_reducible refine gate_callee (f := 29) rfl ?_); refine goesL_ (some 15) rfl rfl Tryd.func29 (by kernel_rfl) rfl #[.string (⟨#[48, 48, 48, 48, 48, 48, 48, 48, 48, 48, 48, 48, 48, 48, 102, 102]⟩ : ByteArray)] rfl (by (try simp only [List.map_toArray, List.map_cons, List.map_nil]); first | done | rfl | (simp only [List.length_drop, List.length_take]; rfl)) ?_; (with_reducible refine (meta_Seq.calls k (⟨#[48, 48, 48, 48, 48, 48, 48, 48, 48, 48, 48, 48, 48, 48, 102, 102]⟩ : ByteArray) t223 false _ A3.out).mono ?_); rintro e w35 ⟨rfl, hb⟩; refine ⟨_, rfl, ?_⟩; have n0_ := Aside0.mk (below_step (by repeat (first | (with_reducible first | exact HB.out | apply below_alloc | apply pw_below_drewN | apply below_drew1) | exact HB.out)) hb); clear HB; have HB := n0_; clear n0_; (try clear hb); (try clear hb2); (try clear hk); (try clear hi)))
   go_ret
   exact ⟨by first | rfl | (simp [errW_none, errW_some] <;> rfl) | (simp [*, errW_none, errW_some] <;> rfl), by repeat (first | (with_reducible first | exact HB.out | apply below_alloc | apply pw_below_drewN | apply below_drew1) | exact HB.out)⟩
 ·replace c4 := Bool.eq_false_iff.mpr c4
  subst c4
  replace H := itF H
  obtain rfl := Option.some.inj H
  go_enter Tryd.func20, Tryd.ntmps20
  go_wp2_with (first | ((with_reducible refine gate_callee (f := 12) rfl ?_); refine goesL_ (some 8) rfl rfl Tryd.func12 (by kernel_rfl) rfl #[.string (⟨#[97, 98, 99]⟩ : ByteArray), .string (⟨#[120, 47, 121]⟩ : ByteArray), .int .i64 7] rfl (by (try simp only [List.map_toArray, List.map_cons, List.map_nil]); first | done | rfl | (simp only [List.length_drop, List.length_take]; rfl)) ?_; (with_reducible refine (meta_ObjectKey.calls k (⟨#[97, 98, 99]⟩ : ByteArray) (⟨#[120, 47, 121]⟩ : ByteArray) 7 t218 _ A1.out).mono ?_); rintro e w36 ⟨rfl, hb⟩; refine ⟨_, rfl, ?_⟩; have n0_ := Aside0.mk (below_step (by repeat (first | (with_reducible first | exact HB.out | apply below_alloc | apply pw_below_drewN | apply below_drew1) | exact HB.out)) hb); clear HB; have HB := n0_; clear n0_; (try clear hb); (try clear hb2); (try clear hk); (try clear hi)) | ((with_reducible refine gate_callee (f := 24) rfl ?_); refine goesL_ (some 9) rfl rfl Tryd.func24 (by kernel_rfl) rfl #[.string t218] rfl (by (try simp only [List.map_toArray, List.map_cons, List.map_nil]); first | done | rfl | (simp only [List.length_drop, List.length_take]; rfl)) ?_; (with_reducible refine (meta_ParseObject.calls k t218 t219 t220 t221 false _ A2.out).mono ?_); rintro e w37 ⟨rfl, hb⟩; refine ⟨_, rfl, ?_⟩; have n0_ := Aside0.mk (below_step (by repeat (first | (with_reducible first | exact HB.out | apply below_alloc | apply pw_below_drewN | apply below_drew1) | exact HB.out)) hb); clear HB; have HB := n0_; clear n0_; (try clear hb); (try clear hb2); (try clear hk); (try clear hi)) | ((with_reducible refine gate_callee (f := 29) rfl ?_); refine goesL_ (some 15) rfl rfl Tryd.func29 (by kernel_rfl) rfl #[.string (⟨#[48, 48, 48, 48, 48, 48, 48, 48, 48, 48, 48, 48, 48, 48, 102, 102]⟩ : ByteArray)] rfl (by (try simp only [List.map_toArray, List.map_cons, List.map_nil]); first | done | rfl | (simp only [List.length_drop, List.length_take]; rfl)) ?_; (with_reducible refine (meta_Seq.calls k (⟨#[48, 48, 48, 48, 48, 48, 48, 48, 48, 48, 48, 48, 48, 48, 102, 102]⟩ : ByteArray) t223 t224 _ A3.out).mono ?_); rintro e w38 ⟨rfl, hb⟩; refine ⟨_, rfl, ?_⟩; have n0_ := Aside0.mk (below_step (by repeat (first | (with_reducible first | exact HB.out | apply below_alloc | apply pw_below_drewN | apply below_drew1) | exact HB.out)) hb); clear HB; have HB := n0_; clear n0_; (try clear hb); (try clear hb2); (try clear hk); (try clear hi)))
  go_ret
  exact ⟨by first | rfl | (simp [errW_none, errW_some] <;> rfl) | (simp [*, errW_none, errW_some] <;> rfl), by repeat (first | (with_reducible first | exact HB.out | apply below_alloc | apply pw_below_drewN | apply below_drew1) | exact HB.out)⟩
end Go.Proofs.YtieejapamkokaaaDoor.Q


namespace Go.Proofs.YtieejapamkokaaaDoor.Q
open Go.RowKit Go.Proofs.YtieejapamkokaaaDoorW.PrintWords Go.Proofs.YtieejapamkokaaaDoorW.PrintLast Go.Proofs.YtieejapamkokaaaDoorW.PrintMore
set_option linter.unusedVariables false
set_option linter.unusedSimpArgs false
attribute [local go_sem] max2_int min2_int max_two min_two max_three min_three max_four min_four   
def stowagelaw12_MetaKeys.f (k : Nat) (a0 : ByteArray) (a1 : ByteArray) (a2 : Int) (a3 : Int) : Option (Bool) := (meta_BucketKey.f a0).bind fun t227 => ((stowageref12_BucketKey.f a0).bind fun t228 => (if t227.toList = t228.toList then ((meta_ObjectKey.f k a0 a1 a2).bind fun t229 => ((stowageref12_ObjectKey.f a0 a1 a2).bind fun t230 => (if t229.toList = t230.toList then ((meta_UploadKey.f k a0 a1 a2).bind fun t231 => ((stowageref12_UploadKey.f a0 a1 a2).bind fun t232 => (if t231.toList = t232.toList then ((meta_PartKey.f k a2 a3).bind fun t233 => ((stowageref12_PartKey.f a2 a3).bind fun t234 => (if t233.toList = t234.toList then ((meta_ID.f k a2).bind fun t235 => ((stowageref12_ID.f k a2).bind fun t236 => (if t235.toList = t236.toList then ((stowagelaw12_awake.f k).bind fun t237 => (some t237)) else (some false)))) else (some false)))) else (some false)))) else (some false)))) else (some false)))
theorem stowagelaw12_MetaKeys.mono : ∀ a0 a1 a2 a3 k, LeO (stowagelaw12_MetaKeys.f k a0 a1 a2 a3) (stowagelaw12_MetaKeys.f (k + 1) a0 a1 a2 a3) := by
 intro a0 a1 a2 a3 k
 unfold stowagelaw12_MetaKeys.f
 repeat' first
   | (with_reducible exact meta_ID.mono _ _)
   | (with_reducible exact meta_ObjectKey.mono _ _ _ _)
   | (with_reducible exact meta_PartKey.mono _ _ _)
   | (with_reducible exact meta_UploadKey.mono _ _ _ _)
   | (with_reducible exact stowagelaw12_awake.mono _)
   | (with_reducible exact stowageref12_ID.mono _ _)
   | (with_reducible exact LeO.refl _)
   | (with_reducible exact LeO.none _)
   | (with_reducible refine LeO.ite ?_ ?_)
   | (with_reducible refine LeO.bind ?_ (fun _ => ?_))
   | exact meta_ID.mono _ _
   | exact meta_ObjectKey.mono _ _ _ _
   | exact meta_PartKey.mono _ _ _
   | exact meta_UploadKey.mono _ _ _ _
   | exact stowagelaw12_awake.mono _
   | exact stowageref12_ID.mono _ _
   | exact LeO.none _
   | refine LeO.ite ?_ ?_
   | refine LeO.bind ?_ (fun _ => ?_)
set_option maxHeartbeats 8000000 in
set_option maxRecDepth 100000 in
theorem stowagelaw12_MetaKeys.calls (k : Nat) (a0 : ByteArray) (a1 : ByteArray) (a2 : Int) (a3 : Int) (r : Bool) (w : World) (h : stowagelaw12_MetaKeys.f k a0 a1 a2 a3 = some r) (hr : r = true) :
  Calls Tryd.prog 3 #[.string a0, .string a1, .int .i64 a2, .int .i64 a3] w fun e w' => e = .returned (.bool r) ∧ Below w.heap.size w w' := by
 have HB := Aside0.mk (Below.refl w.heap.size w)
 unfold stowagelaw12_MetaKeys.f at h
 have H := h
 clear h
 replace H := bndO H
 obtain ⟨t227, A50, H⟩ := H
 have A5 := Aside0.mk A50
 clear A50
 replace H := bndO H
 obtain ⟨t228, A60, H⟩ := H
 have A6 := Aside0.mk A60
 clear A60
 replace H := itO H
 rcases H with ⟨c7, H⟩ | ⟨c7, H⟩
 ·skip
  have c7b0 : (t227.toList == t228.toList) = true := beq_iff_eq.mpr c7
  have c7b1 : (t227.toList != t228.toList) = false := bne_eq_false_iff_eq.mpr c7
  clear c7
  replace H := bndO H
  obtain ⟨t229, A80, H⟩ := H
  have A8 := Aside0.mk A80
  clear A80
  replace H := bndO H
  obtain ⟨t230, A90, H⟩ := H
  have A9 := Aside0.mk A90
  clear A90
  replace H := itO H
  rcases H with ⟨c10, H⟩ | ⟨c10, H⟩
  ·skip
   have c10b0 : (t229.toList == t230.toList) = true := beq_iff_eq.mpr c10
   have c10b1 : (t229.toList != t230.toList) = false := bne_eq_false_iff_eq.mpr c10
   clear c10
   replace H := bndO H
   obtain ⟨t231, A110, H⟩ := H
   have A11 := Aside0.mk A110
   clear A110
   replace H := bndO H
   obtain ⟨t232, A120, H⟩ := H
   have A12 := Aside0.mk A120
   clear A120
   replace H := itO H
   rcases H with ⟨c13, H⟩ | ⟨c13, H⟩
   ·skip
    have c13b0 : (t231.toList == t232.toList) = true := beq_iff_eq.mpr c13
    have c13b1 : (t231.toList != t232.toList) = false := bne_eq_false_iff_eq.mpr c13
    clear c13
    replace H := bndO H
    obtain ⟨t233, A140, H⟩ := H
    have A14 := Aside0.mk A140
    clear A140
    replace H := bndO H
    obtain ⟨t234, A150, H⟩ := H
    have A15 := Aside0.mk A150
    clear A150
    replace H := itO H
    rcases H with ⟨c16, H⟩ | ⟨c16, H⟩
    ·skip
     have c16b0 : (t233.toList == t234.toList) = true := beq_iff_eq.mpr c16
     have c16b1 : (t233.toList != t234.toList) = false := bne_eq_false_iff_eq.mpr c16
     clear c16
     replace H := bndO H
     obtain ⟨t235, A170, H⟩ := H
     have A17 := Aside0.mk A170
     clear A170
     replace H := bndO H
     obtain ⟨t236, A180, H⟩ := H
     have A18 := Aside0.mk A180
     clear A180
     replace H := itO H
     rcases H with ⟨c19, H⟩ | ⟨c19, H⟩
     ·skip
      have c19b0 : (t235.toList == t236.toList) = true := beq_iff_eq.mpr c19
      have c19b1 : (t235.toList != t236.toList) = false := bne_eq_false_iff_eq.mpr c19
      clear c19
      replace H := bndO H
      obtain ⟨t237, A200, H⟩ := H
      have A20 := Aside0.mk A200
      clear A200
      clear hr
      obtain rfl := Option.some.inj H
      go_enter Tryd.func3, Tryd.ntmps3
      go_wp2_with (first | ((with_reducible refine gate_callee (f := 10) rfl ?_); refine goesL_ (some 10) rfl rfl Tryd.func10 (by kernel_rfl) rfl #[.string a0] rfl (by (try simp only [List.map_toArray, List.map_cons, List.map_nil]); first | done | rfl | (simp only [List.length_drop, List.length_take]; rfl)) ?_; (with_reducible refine (meta_BucketKey.calls a0 t227 _ A5.out).mono ?_); rintro e w' ⟨rfl, ⟨nd, rfl⟩⟩; refine ⟨_, rfl, ?_⟩) | ((with_reducible refine gate_callee (f := 11) rfl ?_); refine goesL_ (some 12) rfl rfl Tryd.func11 (by kernel_rfl) rfl #[.string a0] rfl (by (try simp only [List.map_toArray, List.map_cons, List.map_nil]); first | done | rfl | (simp only [List.length_drop, List.length_take]; rfl)) ?_; (with_reducible refine (stowageref12_BucketKey.calls a0 t228 _ A6.out).mono ?_); rintro e w' ⟨rfl, ⟨nd, rfl⟩⟩; refine ⟨_, rfl, ?_⟩) | (go_at_call 12; (with_reducible refine (meta_ObjectKey.calls k a0 a1 a2 t229 _ A8.out).mono ?_); rintro e w21 ⟨rfl, hb⟩; have n0_ := Aside0.mk (below_step (by repeat (first | (with_reducible first | exact HB.out | apply below_alloc | apply pw_below_drewN | apply below_drew1) | exact HB.out)) hb); clear HB; have HB := n0_; clear n0_; (try clear hb); (try clear hb2); (try clear hk); (try clear hi)) | (go_at_call 13; (with_reducible refine (stowageref12_ObjectKey.calls a0 a1 a2 t230 _ A9.out).mono ?_); rintro e w22 ⟨rfl, hb⟩; have n0_ := Aside0.mk (below_step (by repeat (first | (with_reducible first | exact HB.out | apply below_alloc | apply pw_below_drewN | apply below_drew1) | exact HB.out)) hb); clear HB; have HB := n0_; clear n0_; (try clear hb); (try clear hb2); (try clear hk); (try clear hi)) | (go_at_call 14; (with_reducible refine (meta_UploadKey.calls k a0 a1 a2 t231 _ A11.out).mono ?_); rintro e w23 ⟨rfl, hb⟩; have n0_ := Aside0.mk (below_step (by repeat (first | (with_reducible first | exact HB.out | apply below_alloc | apply pw_below_drewN | apply below_drew1) | exact HB.out)) hb); clear HB; have HB := n0_; clear n0_; (try clear hb); (try clear hb2); (try clear hk); (try clear hi)) | (go_at_call 15; (with_reducible refine (stowageref12_UploadKey.calls a0 a1 a2 t232 _ A12.out).mono ?_); rintro e w24 ⟨rfl, hb⟩; have n0_ := Aside0.mk (below_step (by repeat (first | (with_reducible first | exact HB.out | apply below_alloc | apply pw_below_drewN | apply below_drew1) | exact HB.out)) hb); clear HB; have HB := n0_; clear n0_; (try clear hb); (try clear hb2); (try clear hk); (try clear hi)) | (go_at_call 16; (with_reducible refine (meta_PartKey.calls k a2 a3 t233 _ A14.out).mono ?_); rintro e w25 ⟨rfl, hb⟩; have n0_ := Aside0.mk (below_step (by repeat (first | (with_reducible first | exact HB.out | apply below_alloc | apply pw_below_drewN | apply below_drew1) | exact HB.out)) hb); clear HB; have HB := n0_; clear n0_; (try clear hb); (try clear hb2); (try clear hk); (try clear hi)) | (go_at_call 17; (with_reducible refine (stowageref12_PartKey.calls a2 a3 t234 _ A15.out).mono ?_); rintro e w26 ⟨rfl, hb⟩; have n0_ := Aside0.mk (below_step (by repeat (first | (with_reducible first | exact HB.out | apply below_alloc | apply pw_below_drewN | apply below_drew1) | exact HB.out)) hb); clear HB; have HB := n0_; clear n0_; (try clear hb); (try clear hb2); (try clear hk); (try clear hi)) | (go_at_call 18; (with_reducible refine (meta_ID.calls k a2 t235 _ A17.out).mono ?_); rintro e w27 ⟨rfl, hb⟩; have n0_ := Aside0.mk (below_step (by repeat (first | (with_reducible first | exact HB.out | apply below_alloc | apply pw_below_drewN | apply below_drew1) | exact HB.out)) hb); clear HB; have HB := n0_; clear n0_; (try clear hb); (try clear hb2); (try clear hk); (try clear hi)) | (go_at_call 19; (with_reducible refine (stowageref12_ID.calls k a2 t236 _ A18.out).mono ?_); rintro e w28 ⟨rfl, hb⟩; have n0_ := Aside0.mk (below_step (by repeat (first | (with_reducible first | exact HB.out | apply below_alloc | apply pw_below_drewN | apply below_drew1) | exact HB.out)) hb); clear HB; have HB := n0_; clear n0_; (try clear hb); (try clear hb2); (try clear hk); (try clear hi)) | (go_at_call 20; (with_reducible refine (stowagelaw12_awake.calls k  t237 _ A20.out).mono ?_); rintro e w29 ⟨rfl, hb⟩; have n0_ := Aside0.mk (below_step (by repeat (first | (with_reducible first | exact HB.out | apply below_alloc | apply pw_below_drewN | apply below_drew1) | exact HB.out)) hb); clear HB; have HB := n0_; clear n0_; (try clear hb); (try clear hb2); (try clear hk); (try clear hi)))
      go_ret
      exact ⟨by first | rfl | (simp [errW_none, errW_some] <;> rfl) | (simp [*, errW_none, errW_some] <;> rfl), by repeat (first | (with_reducible first | exact HB.out | apply below_alloc | apply pw_below_drewN | apply below_drew1) | exact HB.out)⟩
     ·skip
      have c19b0 : (t235.toList == t236.toList) = false := beq_eq_false_iff_ne.mpr c19
      have c19b1 : (t235.toList != t236.toList) = true := bne_iff_ne.mpr c19
      rw [hr] at H
      exact absurd H (by simp)
    ·skip
     have c16b0 : (t233.toList == t234.toList) = false := beq_eq_false_iff_ne.mpr c16
     have c16b1 : (t233.toList != t234.toList) = true := bne_iff_ne.mpr c16
     rw [hr] at H
     exact absurd H (by simp)
   ·skip
    have c13b0 : (t231.toList == t232.toList) = false := beq_eq_false_iff_ne.mpr c13
    have c13b1 : (t231.toList != t232.toList) = true := bne_iff_ne.mpr c13
    rw [hr] at H
    exact absurd H (by simp)
  ·skip
   have c10b0 : (t229.toList == t230.toList) = false := beq_eq_false_iff_ne.mpr c10
   have c10b1 : (t229.toList != t230.toList) = true := bne_iff_ne.mpr c10
   rw [hr] at H
   exact absurd H (by simp)
 ·skip
  have c7b0 : (t227.toList == t228.toList) = false := beq_eq_false_iff_ne.mpr c7
  have c7b1 : (t227.toList != t228.toList) = true := bne_iff_ne.mpr c7
  rw [hr] at H
  exact absurd H (by simp)
def stowagelaw12_MetaKeys.Pure : Prop := ∀ (a0 : ByteArray) (a1 : ByteArray) (a2 : Int) (a3 : Int), a0.size ≤ 140737488351232 → a1.size ≤ 140737488351232 → (Lit.int .i64 a2).wf = true → (Lit.int .i64 a3).wf = true → ∃ k, stowagelaw12_MetaKeys.f k a0 a1 a2 a3 = some true
theorem stowagelaw12_MetaKeys.walk (P : stowagelaw12_MetaKeys.Pure) (a0 : ByteArray) (a1 : ByteArray) (a2 : Int) (a3 : Int) (w : World) (w0 : a0.size ≤ 140737488351232) (w1 : a1.size ≤ 140737488351232) (w2 : (Lit.int .i64 a2).wf = true) (w3 : (Lit.int .i64 a3).wf = true) :
  Calls Tryd.prog 3 #[.string a0, .string a1, .int .i64 a2, .int .i64 a3] w fun e w' => e = .returned (.bool true) ∧ Below w.heap.size w w' := by
 obtain ⟨k, h⟩ := P a0 a1 a2 a3 w0 w1 w2 w3
 refine (stowagelaw12_MetaKeys.calls k a0 a1 a2 a3 true w h rfl).mono ?_
 rintro e w' ⟨rfl, hd⟩
 exact ⟨rfl, hd⟩
end Go.Proofs.YtieejapamkokaaaDoor.Q


namespace Go.Proofs.YtieejapamkokaaaDoor.Q
open Go.RowKit Go.Proofs.YtieejapamkokaaaDoorW.PrintWords Go.Proofs.YtieejapamkokaaaDoorW.PrintLast Go.Proofs.YtieejapamkokaaaDoorW.PrintMore
set_option linter.unusedVariables false
set_option linter.unusedSimpArgs false
attribute [local go_sem] max2_int min2_int max_two min_two max_three min_three max_four min_four   
def stowageref1_Get64.l0 : Nat → List Int → Int → Int → Option (Int × Bool)
 | 0, _, _, _ => none
 | k + 1, x0, x4, x5 => if x5 < 8 then (if 0 ≤ x5 then (if x5 < (x0.length : Int) then (stowageref1_Get64.l0 k x0 (IntKind.u64.wrap ((IntKind.u64.wrap (256 * x4)) + (IntKind.u64.wrap (rd x0 x5)))) (wrap64 (x5 + 1))) else (none)) else (none)) else (some (x4, true))
def stowageref1_Get64.f (k : Nat) (l0 : List Int) : Option (Int × Bool) := if (l0.length : Int) = 8 then (stowageref1_Get64.l0 k l0 0 0) else (some (0, false))
theorem stowageref1_Get64.mono_l : ∀ k, (∀ y0 y1 y2, LeO (stowageref1_Get64.l0 k y0 y1 y2) (stowageref1_Get64.l0 (k + 1) y0 y1 y2))
 | 0 => fun _ _ _ r h => by simp [stowageref1_Get64.l0] at h
 | k + 1 => by
  have ih0 := stowageref1_Get64.mono_l k
  ·intro y0 y1 y2
   unfold stowageref1_Get64.l0
   repeat' first
   | (with_reducible exact ih0 _ _ _)
   | (with_reducible exact LeO.refl _)
   | (with_reducible exact LeO.none _)
   | (with_reducible refine LeO.ite ?_ ?_)
   | (with_reducible refine LeO.bind ?_ (fun _ => ?_))
   | exact ih0 _ _ _
   | exact LeO.none _
   | refine LeO.ite ?_ ?_
   | refine LeO.bind ?_ (fun _ => ?_)
theorem stowageref1_Get64.mono : ∀ a0 k, LeO (stowageref1_Get64.f k a0) (stowageref1_Get64.f (k + 1) a0) := by
 intro a0 k
 have ih0 := stowageref1_Get64.mono_l k
 unfold stowageref1_Get64.f
 repeat' first
   | (with_reducible exact ih0 _ _ _)
   | (with_reducible exact LeO.refl _)
   | (with_reducible exact LeO.none _)
   | (with_reducible refine LeO.ite ?_ ?_)
   | (with_reducible refine LeO.bind ?_ (fun _ => ?_))
   | exact ih0 _ _ _
   | exact LeO.none _
   | refine LeO.ite ?_ ?_
   | refine LeO.bind ?_ (fun _ => ?_)
set_option maxHeartbeats 8000000 in
set_option maxRecDepth 100000 in
theorem stowageref1_Get64.calls (k : Nat) (A0 : Option Addr) (c0 : Nat) (l0 : List Int) (r1 : Int) (r2 : Bool) (w : World) (hr0 : Kd.C (Kd.int .u8) w A0 l0.length l0) (hc0 : l0.length ≤ c0) (h : stowageref1_Get64.f k l0 = some (r1, r2)) :
  Calls Tryd.prog 109 #[.slice A0 l0.length c0] w fun e w' => e = .returned (.tuple #[.int .u64 r1, .bool r2]) ∧ Drawn0 w w' := by
 have HR0 := Aside0.mk hr0
 have HC0 := Aside0.mk hc0
 clear hr0 hc0
 unfold stowageref1_Get64.f at h
 have H := h
 clear h
 replace H := itO H
 rcases H with ⟨c2, H⟩ | ⟨c2, H⟩
 ·skip
  have c2b0 : ((l0.length : Int) == 8) = true := beq_iff_eq.mpr c2
  have c2b1 : ((l0.length : Int) != 8) = false := bne_eq_false_iff_eq.mpr c2
  clear c2
  have H' := Aside0.mk H
  clear H
  go_enter Tryd.func109, Tryd.ntmps109
  go_wp2
  go_loopg [4, 5] k (fun kq v4 v5 w' => ∃ (x4_1 : Int) (x5_1 : Int), v4 = .int .u64 x4_1 ∧ v5 = .int .i64 x5_1 ∧ Aside0 (stowageref1_Get64.l0 kq l0 x4_1 x5_1 = some (r1, r2)) ∧ Aside0 (kq ≤ k) ∧ Drawn0 w w')
  case atStart => exact ⟨(0), (0), (by first | rfl | (simp; done) | (simp [*]; done)), (by first | rfl | (simp; done) | (simp [*]; done)), H', ⟨Nat.le_refl _⟩, by repeat (first | exact Drawn0.refl _ | apply Drawn0.step)⟩
  case round =>
   clear H'
   try clear c1
   try clear c2
   try clear c2b0
   try clear c2b1
   try clear p2
   obtain ⟨x4_1, x5_1, rfl, rfl, HA, HK1, ⟨m1, rfl⟩⟩ := hrel
   cases gk with
   | zero => exact absurd HA.out (by simp [stowageref1_Get64.l0])
   | succ k1 =>
    have H := HA.out
    clear HA
    simp only [stowageref1_Get64.l0] at H
    replace H := itO H
    rcases H with ⟨c3, H⟩ | ⟨c3, H⟩
    ·skip
     have c3b0 : decide (x5_1 < 8) = true := decide_eq_true c3
     clear c3
     replace H := itO H
     rcases H with ⟨c4, H⟩ | ⟨c4, H⟩
     ·skip
      have c4b0 : decide (0 ≤ x5_1) = true := decide_eq_true c4
      clear c4
      replace H := itO H
      rcases H with ⟨c5, H⟩ | ⟨c5, H⟩
      ·skip
       have c5b0 : decide (x5_1 < (l0.length : Int)) = true := decide_eq_true c5
       clear c5
       have H' := Aside0.mk H
       clear H
       have p289 : 0 ≤ (x5_1 : Int) := of_decide_eq_true (by first | (with_reducible assumption) | assumption)
       have q289 : x5_1 < (l0.length : Int) := of_decide_eq_true (by first | (with_reducible assumption) | assumption)
       obtain ⟨ad289, e289, hx289_0⟩ := Kd.at_int HR0.out x5_1 p289 q289
       cases e289
       replace p289 := eq_true p289
       replace q289 := eq_true q289
       go_wp2
       go_roundg k1
       case measure => have := HK1.out; omega
       case rel => exact ⟨(IntKind.u64.wrap ((IntKind.u64.wrap (256 * x4_1)) + (IntKind.u64.wrap (rd l0 x5_1)))), (wrap64 (x5_1 + 1)), (by first | rfl | (simp; done) | (simp [*]; done)), (by first | rfl | (simp; done) | (simp [*]; done)), H', ⟨by have := HK1.out; omega⟩, by repeat (first | exact Drawn0.refl _ | apply Drawn0.step)⟩
      ·exact absurd H (by simp)
     ·exact absurd H (by simp)
    ·skip
     have c3b0 : decide (x5_1 < 8) = false := decide_eq_false c3
     clear c3
     simp only [Option.some.injEq, Prod.mk.injEq] at H
     obtain ⟨rfl, rfl⟩ := H
     go_wp2
     go_ret2
     exact ⟨by first | rfl | (simp; done) | (simp [*]; done), by repeat (first | exact Drawn0.refl _ | apply Drawn0.step)⟩
 ·skip
  have c2b0 : ((l0.length : Int) == 8) = false := beq_eq_false_iff_ne.mpr c2
  have c2b1 : ((l0.length : Int) != 8) = true := bne_iff_ne.mpr c2
  simp only [Option.some.injEq, Prod.mk.injEq] at H
  obtain ⟨rfl, rfl⟩ := H
  go_enter Tryd.func109, Tryd.ntmps109
  go_wp2
  go_ret2
  exact ⟨by first | rfl | (simp; done) | (simp [*]; done), by repeat (first | exact Drawn0.refl _ | apply Drawn0.step)⟩
end Go.Proofs.YtieejapamkokaaaDoor.Q


namespace Go.Proofs.YtieejapamkokaaaDoor.Q
open Go.RowKit Go.Proofs.YtieejapamkokaaaDoorW.PrintWords Go.Proofs.YtieejapamkokaaaDoorW.PrintLast Go.Proofs.YtieejapamkokaaaDoorW.PrintMore
set_option linter.unusedVariables false
set_option linter.unusedSimpArgs false
attribute [local go_sem] max2_int min2_int max_two min_two max_three min_three max_four min_four   
def stowageref12_get.f (k : Nat) (a0 : ByteArray) : Option (Int × Bool) :=
 if a0.size ≤ 140737488351232 then (stowageref1_Get64.f k (bytesOf a0)).bind fun p => if p.2 = true then (if p.1 > 9223372036854775807 then some (0, false) else some (wrap64 p.1, true)) else some (0, false) else none
theorem stowageref12_get.mono : ∀ a0 k, LeO (stowageref12_get.f k a0) (stowageref12_get.f (k + 1) a0) := by
 intro a0 k
 unfold stowageref12_get.f
 refine LeO.ite ?_ (LeO.none _)
 exact LeO.bind (stowageref1_Get64.mono _ _) (fun _ => LeO.refl _)
set_option maxHeartbeats 4000000 in
set_option maxRecDepth 100000 in
theorem stowageref12_get.calls (k : Nat) (a0 : ByteArray) (r1 : Int) (r2 : Bool) (w : World) (h : stowageref12_get.f k a0 = some (r1, r2)) :
  Calls Tryd.prog 62 #[.string a0] w fun e w' => e = .returned (.tuple #[.int .i64 r1, .bool r2]) ∧ Below w.heap.size w w' := by
 unfold stowageref12_get.f at h
 have hs : a0.size ≤ 140737488351232 := by
  by_cases c : a0.size ≤ 140737488351232
  ·exact c
  ·simp [c] at h
 rw [if_pos hs] at h
 obtain ⟨⟨n, ok⟩, hg, h⟩ := bndO h
 have kb := print_bytes (P := Tryd.prog) 9 74 5 Tryd.underlying9 Tryd.underlying74 Tryd.underlying5 a0 w
 have hlen : (bytesOf a0).length = a0.size := bytesOf_length a0
 have hC := Lib.hid (show Kd.C (Kd.int .u8) (Lib.bytesWorld w 5 a0) (some ⟨w.heap.size, 0, none⟩) (bytesOf a0).length (bytesOf a0) from Kd.C_of_reads (d := (0 : Int)) (by rw [hlen]; exact bytes_reads w 5 a0 (by omega)))
 have hn0 := grownCap_ge w a0.size 0 5
 have hB0 := Lib.hid (bytes_below (Below.refl w.heap.size w) (Nat.le_refl _) 5 a0)
 rw [← hlen] at kb hn0
 generalize grownCap w (bytesOf a0).length 0 5 = c0 at kb hn0
 generalize Lib.bytesWorld w 5 a0 = w1 at kb hC hB0
 clear hlen
 generalize bytesOf a0 = l0 at kb hC hg hn0
 go_enter Tryd.func62, Tryd.ntmps62
 cases ok with
 | false =>
  simp only [Bool.false_eq_true, if_false] at h
  obtain ⟨rfl, rfl⟩ := Prod.mk.inj (Option.some.inj h)
  go_wp2_with (first | (go_at_call 109; (with_reducible refine (stowageref1_Get64.calls k _ _ l0 n false _ hC.out hn0 hg).mono ?_); rintro e w9 ⟨rfl, ⟨nd, rfl⟩⟩))
  go_ret2
  exact ⟨rfl, pw_below_drewN hB0.out _⟩
 | true =>
  simp only [if_true] at h
  by_cases c : n > 9223372036854775807
  ·have c1 : decide (n > 9223372036854775807) = true := decide_eq_true c
   rw [if_pos c] at h
   obtain ⟨rfl, rfl⟩ := Prod.mk.inj (Option.some.inj h)
   clear c
   go_wp2_with (first | (go_at_call 109; (with_reducible refine (stowageref1_Get64.calls k _ _ l0 n true _ hC.out hn0 hg).mono ?_); rintro e w9 ⟨rfl, ⟨nd, rfl⟩⟩))
   go_ret2
   exact ⟨rfl, pw_below_drewN hB0.out _⟩
  ·have c1 : decide (n > 9223372036854775807) = false := decide_eq_false c
   rw [if_neg c] at h
   obtain ⟨rfl, rfl⟩ := Prod.mk.inj (Option.some.inj h)
   clear c
   go_wp2_with (first | (go_at_call 109; (with_reducible refine (stowageref1_Get64.calls k _ _ l0 n true _ hC.out hn0 hg).mono ?_); rintro e w9 ⟨rfl, ⟨nd, rfl⟩⟩))
   go_ret2
   exact ⟨rfl, pw_below_drewN hB0.out _⟩
end Go.Proofs.YtieejapamkokaaaDoor.Q
