/- A part of the proof of the seat's laws. No condition beyond those in the theorems. -/
import Derived.Test.YtiaihkcadffllaaDoorZAnsL
import Derived.Lib.Hide
import Derived.Test.YtiaihkcadffllaaDoorZQ0g8
import Derived.Test.YtiaihkcadffllaaDoorZQ29
import Derived.Test.YtiaihkcadffllaaDoorZQ15g8
import Derived.Test.YtiaihkcadffllaaDoorZQ39g2

namespace Go.Proofs.YtiaihkcadffllaaDoor.Q
open Go.RowKit Go.Proofs.YtiaihkcadffllaaDoorW.PrintWords Go.Proofs.YtiaihkcadffllaaDoorW.PrintLast Go.Proofs.YtiaihkcadffllaaDoorW.PrintMore
set_option linter.unusedVariables false
set_option linter.unusedSimpArgs false
attribute [local go_sem] max2_int min2_int max_two min_two max_three min_three max_four min_four   
def cors_Actual.laid (star : Bool) (o j : ByteArray) (ex : List ByteArray) : List S37 :=
 let x0 : List S37 := [⟨(⟨#[65, 99, 99, 101, 115, 115, 45, 67, 111, 110, 116, 114, 111, 108, 45, 65, 108, 108, 111, 119, 45, 79, 114, 105, 103, 105, 110]⟩ : ByteArray), if star = true then ⟨#[42]⟩ else o⟩]
 let x1 := if ex.length > 0 then x0 ++ [⟨(⟨#[65, 99, 99, 101, 115, 115, 45, 67, 111, 110, 116, 114, 111, 108, 45, 69, 120, 112, 111, 115, 101, 45, 72, 101, 97, 100, 101, 114, 115]⟩ : ByteArray), j⟩] else x0
 if star = true then x1 else x1 ++ [⟨(⟨#[86, 97, 114, 121]⟩ : ByteArray), (⟨#[79, 114, 105, 103, 105, 110]⟩ : ByteArray)⟩]
def cors_Actual.f (k : Nat) (l0 : List S40) (a1_0 : ByteArray) (_a1_1 : ByteArray) (l1_2 : List S37) (_l1_3 : List Int) : Option (List S37) :=
 (http_Get.f k l1_2 (⟨#[111, 114, 105, 103, 105, 110]⟩ : ByteArray)).bind fun o => if o.2 = true then (cors_Rule.f k l0 o.1 a1_0 []).bind fun q => (if q.2.2.2.2.2 = true then (cors_first.f q.1 o.1).bind fun p => (strings_Join.f q.2.2.2.1 (⟨#[44, 32]⟩ : ByteArray)).bind fun j => some (cors_Actual.laid (p.1.toList == [42]) o.1 j q.2.2.2.1) else some []) else some []
theorem cors_Actual.mono : ∀ a0 a1 a2 a3 a4 k, LeO (cors_Actual.f k a0 a1 a2 a3 a4) (cors_Actual.f (k + 1) a0 a1 a2 a3 a4) := by
 intro a0 a1 a2 a3 a4 k
 unfold cors_Actual.f
 exact LeO.bind (http_Get.mono _ _ _) fun _ => LeO.ite (LeO.bind (cors_Rule.mono _ _ _ _ _) fun _ => LeO.refl _) (LeO.refl _)
set_option maxHeartbeats 8000000 in
set_option maxRecDepth 100000 in
theorem cors_Actual.calls (k : Nat) (A0 : Option Addr) (c0 : Nat) (l0 : List S40) (a1_0 : ByteArray) (a1_1 : ByteArray) (A1_2 : Option Addr) (c1_2 : Nat) (l1_2 : List S37) (A1_3 : Option Addr) (c1_3 : Nat) (l1_3 : List Int) (r : List S37) (w : World) (hr0 : Kd.C k40 w A0 l0.length l0) (hc0 : l0.length ≤ c0) (hr1_2 : Kd.C k37 w A1_2 l1_2.length l1_2) (hc1_2 : l1_2.length ≤ c1_2) (_hr1_3 : Kd.C (Kd.int .u8) w A1_3 l1_3.length l1_3) (_hc1_3 : l1_3.length ≤ c1_3) (h : cors_Actual.f k l0 a1_0 a1_1 l1_2 l1_3 = some r) :
  Calls Tryd.prog 8 #[.slice A0 l0.length c0, .agg #[.string a1_0, .string a1_1, .slice A1_2 l1_2.length c1_2, .slice A1_3 l1_3.length c1_3]] w fun e w' => ∃ v0_ : Value, e = .returned (v0_) ∧ Kd.V k37 37 w' w.heap.size (fun k_ => (w.heap.size ≤ k_)) v0_ r ∧ Below w.heap.size w w' := by
 have hu26 := Tryd.underlying26
 have hu40 := Tryd.underlying40
 unfold cors_Actual.f at h
 obtain ⟨⟨o, ok⟩, hg, h⟩ := bndO h
 have HH := Lib.hid (And.intro hr0 (And.intro hr1_2 (And.intro hg (And.intro hc0 hc1_2))))
 clear hr0 hr1_2 hg hc0 hc1_2 _hr1_3 _hc1_3
 go_enter Tryd.func8, Tryd.ntmps8
 cases ok with
 | false =>
  rw [if_neg (by simp)] at h
  obtain rfl := Option.some.inj h
  go_wp2_with (first | ((with_reducible refine gate_dst (N := 3) rfl ?_); refine box_event ?hg (N := 3) ?hd (cs := #[.string a1_0, .string a1_1, .slice A1_2 l1_2.length c1_2, .slice A1_3 l1_3.length c1_3]) (t := 26) ?hr ?_; (case hd => rfl); (case hg => rfl); (case hr => first | (go_simp; done) | (go_simp; rfl)); intro g3 hg w4 hbox hb; have F4 := Lib.hid (And.intro hbox hb); have rc0 := (blk_cell hbox 0).trans rfl; have rc2 := (blk_cell hbox 2).trans rfl; clear hbox hb hg) | (go_at_call 11; (refine (http_Get.calls k A1_2 c1_2 l1_2 (⟨#[111, 114, 105, 103, 105, 110]⟩ : ByteArray) o false w4 (Kd.C_below HH.out.2.1 F4.out.2) HH.out.2.2.2.2 HH.out.2.2.1).mono ?_); rintro e w5 ⟨rfl, hb⟩; have F5 := Lib.hid (And.intro (blk_below F4.out.1 hb) (below_step F4.out.2 hb)); clear hb F4 rc0 rc2; have rc0 := (blk_cell F5.out.1 0).trans rfl))
  go_ret
  exact ⟨_, rfl, Kd.V_nil _ _ _ _ _, F5.out.2⟩
 | true =>
  rw [if_pos rfl] at h
  obtain ⟨⟨q0, q1, q2, q3, q4, qok⟩, hq, h⟩ := bndO h
  have HQ := Lib.hid hq
  clear hq
  cases qok with
  | false =>
   rw [if_neg (by simp)] at h
   obtain rfl := Option.some.inj h
   go_wp2_with (first | ((with_reducible refine gate_dst (N := 3) rfl ?_); refine box_event ?hg (N := 3) ?hd (cs := #[.string a1_0, .string a1_1, .slice A1_2 l1_2.length c1_2, .slice A1_3 l1_3.length c1_3]) (t := 26) ?hr ?_; (case hd => rfl); (case hg => rfl); (case hr => first | (go_simp; done) | (go_simp; rfl)); intro g3 hg w4 hbox hb; have F4 := Lib.hid (And.intro hbox hb); have rc0 := (blk_cell hbox 0).trans rfl; have rc2 := (blk_cell hbox 2).trans rfl; clear hbox hb hg) | (go_at_call 11; (refine (http_Get.calls k A1_2 c1_2 l1_2 (⟨#[111, 114, 105, 103, 105, 110]⟩ : ByteArray) o true w4 (Kd.C_below HH.out.2.1 F4.out.2) HH.out.2.2.2.2 HH.out.2.2.1).mono ?_); rintro e w5 ⟨rfl, hb⟩; have F5 := Lib.hid (And.intro (blk_below F4.out.1 hb) (below_step F4.out.2 hb)); clear hb F4 rc0 rc2; have rc0 := (blk_cell F5.out.1 0).trans rfl) | ((with_reducible refine gate_callee (f := 15) rfl ?_); refine goesL_ (some 23) rfl rfl Tryd.func15 (by kernel_rfl) rfl #[.slice A0 l0.length c0, .string o, .string a1_0, .slice none 0 0] rfl (by (try simp only [List.map_toArray, List.map_cons, List.map_nil]); first | done | rfl) ?_; (refine (cors_Rule.calls k A0 c0 l0 o a1_0 none 0 [] q0 q1 q2 q3 q4 false w5 (Kd.C_below HH.out.1 F5.out.2) HH.out.2.2.2.1 (Kd.C_nil _ _) (Nat.le_refl _) HQ.out).mono ?_); rintro e w6 ⟨v0, v1, v2, v3, rfl, h0, h1, h2, h3, hb⟩; obtain ⟨qA0, qc0, rfl, m0, f0⟩ := h0; obtain ⟨qA1, qc1, rfl, m1, f1⟩ := h1; obtain ⟨qA2, qc2, rfl, m2, f2⟩ := h2; obtain ⟨qA3, qc3, rfl, m3, f3⟩ := h3; refine ⟨_, rfl, ?_⟩; have FR := Lib.hid (And.intro (blk_below F5.out.1 hb) (And.intro (below_step F5.out.2 hb) (show (q0.length ≤ qc0 ∧ Kd.C Kd.string w6 qA0 q0.length q0) ∧ (q1.length ≤ qc1 ∧ Kd.C Kd.string w6 qA1 q1.length q1) ∧ (q3.length ≤ qc3 ∧ Kd.C Kd.string w6 qA3 q3.length q3) from ⟨⟨m0, Kd.F_now f0⟩, ⟨m1, Kd.F_now f1⟩, ⟨m3, Kd.F_now f3⟩⟩))); clear hb m0 m1 m2 m3 f0 f1 f2 f3) | ((with_reducible refine gate_dst (N := 7) rfl ?_); refine box_event ?hg (N := 7) ?hd (cs := #[.slice none 0 0, .slice none 0 0, .slice none 0 0, .slice none 0 0, .int .i64 0]) (t := 40) ?hr ?_; (case hd => rfl); (case hg => rfl); (case hr => first | (go_simp; done) | (go_simp; rfl)); intro g7 hg w7 hbox hb; have F7 := Lib.hid (And.intro hbox (And.intro (show w6.heap.size ≤ g7 by omega) hb)); clear hbox hb hg rc0) | ((with_reducible refine gate_store (t := 40) (p := 7) rfl ?_); have ac0 := (blk_cell F7.out.1 0).trans rfl; have ac1 := (blk_cell F7.out.1 1).trans rfl; have ac2 := (blk_cell F7.out.1 2).trans rfl; have ac3 := (blk_cell F7.out.1 3).trans rfl; have ac4 := (blk_cell F7.out.1 4).trans rfl; have az0 := blk_frozen F7.out.1 0; have az1 := blk_frozen F7.out.1 1; have az2 := blk_frozen F7.out.1 2; have az3 := blk_frozen F7.out.1 3; have az4 := blk_frozen F7.out.1 4; refine store_event (t := 40) (p := 7) (v := ?vof) (w1 := ?wnf) ?hg ?ho ?hn ?hr ?_; (case ho => rfl); (case hg => rfl); (case hn => rfl); (case hr => first | (go_simp; done) | (go_simp; rfl)); intro w8 hw; clear ac0 ac1 ac2 ac3 ac4 az0 az1 az2 az3 az4; have F8 := Lib.hid (And.intro (show w8.heap[g7]? = some (.cells #[.slice qA0 q0.length qc0, .slice qA1 q1.length qc1, .slice qA2 q2.length qc2, .slice qA3 q3.length qc3, .int .i64 q4] 40 (0, 0)) by rw [hw]; exact (blk_put (cs := #[.slice qA0 q0.length qc0, .slice qA1 q1.length qc1, .slice qA2 q2.length qc2, .slice qA3 q3.length qc3, .int .i64 0]) (blk_put (cs := #[.slice qA0 q0.length qc0, .slice qA1 q1.length qc1, .slice qA2 q2.length qc2, .slice none 0 0, .int .i64 0]) (blk_put (cs := #[.slice qA0 q0.length qc0, .slice qA1 q1.length qc1, .slice none 0 0, .slice none 0 0, .int .i64 0]) (blk_put (cs := #[.slice qA0 q0.length qc0, .slice none 0 0, .slice none 0 0, .slice none 0 0, .int .i64 0]) (blk_put (cs := #[.slice none 0 0, .slice none 0 0, .slice none 0 0, .slice none 0 0, .int .i64 0]) F7.out.1 0 _ rfl) 1 _ rfl) 2 _ rfl) 3 _ rfl) 4 _ rfl)) (show Below w6.heap.size w6 w8 by rw [hw]; exact (below_set (below_set (below_set (below_set (below_set F7.out.2.2 F7.out.2.1) F7.out.2.1) F7.out.2.1) F7.out.2.1) F7.out.2.1))); clear hw F7))
   go_ret
   exact ⟨_, rfl, Kd.V_nil _ _ _ _ _, below_step FR.out.2.1 F8.out.2⟩
  | true =>
   rw [if_pos rfl] at h
   obtain ⟨⟨p, pok⟩, hp, h⟩ := bndO h
   obtain ⟨j, hj, h⟩ := bndO h
   obtain rfl := Option.some.inj h
   have HP := Lib.hid (And.intro hp hj)
   clear hp hj
   obtain ⟨x0, hx0⟩ : ∃ x0 : List S37, x0 = [⟨(⟨#[65, 99, 99, 101, 115, 115, 45, 67, 111, 110, 116, 114, 111, 108, 45, 65, 108, 108, 111, 119, 45, 79, 114, 105, 103, 105, 110]⟩ : ByteArray), if (p.toList == [42]) = true then ⟨#[42]⟩ else o⟩] := ⟨_, rfl⟩
   obtain ⟨x1, hx1⟩ : ∃ x1 : List S37, x1 = if q3.length > 0 then x0 ++ [⟨(⟨#[65, 99, 99, 101, 115, 115, 45, 67, 111, 110, 116, 114, 111, 108, 45, 69, 120, 112, 111, 115, 101, 45, 72, 101, 97, 100, 101, 114, 115]⟩ : ByteArray), j⟩] else x0 := ⟨_, rfl⟩
   have hl0 : x0.length ≤ 1 := by rw [hx0]; simp
   have hl1 : x1.length ≤ 2 := by
    rw [hx1]
    split
    ·rw [List.length_append, List.length_singleton]; omega
    ·omega
   obtain ⟨x2, hx2⟩ : ∃ x2 : List S37, x2 = if (p.toList == [42]) = true then x1 else x1 ++ [⟨(⟨#[86, 97, 114, 121]⟩ : ByteArray), (⟨#[79, 114, 105, 103, 105, 110]⟩ : ByteArray)⟩] := ⟨_, rfl⟩
   rw [show cors_Actual.laid (p.toList == [42]) o j q3 = x2 by rw [cors_Actual.laid, hx2, hx1, hx0]]
   have HX := Lib.hid (And.intro hx0 (And.intro hx1 hx2))
   clear hx0 hx1 hx2
   go_wp2_with (first | ((with_reducible refine gate_dst (N := 3) rfl ?_); refine box_event ?hg (N := 3) ?hd (cs := #[.string a1_0, .string a1_1, .slice A1_2 l1_2.length c1_2, .slice A1_3 l1_3.length c1_3]) (t := 26) ?hr ?_; (case hd => rfl); (case hg => rfl); (case hr => first | (go_simp; done) | (go_simp; rfl)); intro g3 hg w4 hbox hb; have F4 := Lib.hid (And.intro hbox hb); have rc0 := (blk_cell hbox 0).trans rfl; have rc2 := (blk_cell hbox 2).trans rfl; clear hbox hb hg) | (go_at_call 11; (refine (http_Get.calls k A1_2 c1_2 l1_2 (⟨#[111, 114, 105, 103, 105, 110]⟩ : ByteArray) o true w4 (Kd.C_below HH.out.2.1 F4.out.2) HH.out.2.2.2.2 HH.out.2.2.1).mono ?_); rintro e w5 ⟨rfl, hb⟩; have F5 := Lib.hid (And.intro (blk_below F4.out.1 hb) (below_step F4.out.2 hb)); clear hb F4 rc0 rc2; have rc0 := (blk_cell F5.out.1 0).trans rfl) | ((with_reducible refine gate_callee (f := 15) rfl ?_); refine goesL_ (some 23) rfl rfl Tryd.func15 (by kernel_rfl) rfl #[.slice A0 l0.length c0, .string o, .string a1_0, .slice none 0 0] rfl (by (try simp only [List.map_toArray, List.map_cons, List.map_nil]); first | done | rfl) ?_; (refine (cors_Rule.calls k A0 c0 l0 o a1_0 none 0 [] q0 q1 q2 q3 q4 true w5 (Kd.C_below HH.out.1 F5.out.2) HH.out.2.2.2.1 (Kd.C_nil _ _) (Nat.le_refl _) HQ.out).mono ?_); rintro e w6 ⟨v0, v1, v2, v3, rfl, h0, h1, h2, h3, hb⟩; obtain ⟨qA0, qc0, rfl, m0, f0⟩ := h0; obtain ⟨qA1, qc1, rfl, m1, f1⟩ := h1; obtain ⟨qA2, qc2, rfl, m2, f2⟩ := h2; obtain ⟨qA3, qc3, rfl, m3, f3⟩ := h3; refine ⟨_, rfl, ?_⟩; have FR := Lib.hid (And.intro (blk_below F5.out.1 hb) (And.intro (below_step F5.out.2 hb) (show (q0.length ≤ qc0 ∧ Kd.C Kd.string w6 qA0 q0.length q0) ∧ (q1.length ≤ qc1 ∧ Kd.C Kd.string w6 qA1 q1.length q1) ∧ (q3.length ≤ qc3 ∧ Kd.C Kd.string w6 qA3 q3.length q3) from ⟨⟨m0, Kd.F_now f0⟩, ⟨m1, Kd.F_now f1⟩, ⟨m3, Kd.F_now f3⟩⟩))); clear hb m0 m1 m2 m3 f0 f1 f2 f3) | ((with_reducible refine gate_dst (N := 7) rfl ?_); refine box_event ?hg (N := 7) ?hd (cs := #[.slice none 0 0, .slice none 0 0, .slice none 0 0, .slice none 0 0, .int .i64 0]) (t := 40) ?hr ?_; (case hd => rfl); (case hg => rfl); (case hr => first | (go_simp; done) | (go_simp; rfl)); intro g7 hg w7 hbox hb; have F7 := Lib.hid (And.intro hbox (And.intro (show w6.heap.size ≤ g7 by omega) hb)); clear hbox hb hg rc0) | ((with_reducible refine gate_store (t := 40) (p := 7) rfl ?_); have ac0 := (blk_cell F7.out.1 0).trans rfl; have ac1 := (blk_cell F7.out.1 1).trans rfl; have ac2 := (blk_cell F7.out.1 2).trans rfl; have ac3 := (blk_cell F7.out.1 3).trans rfl; have ac4 := (blk_cell F7.out.1 4).trans rfl; have az0 := blk_frozen F7.out.1 0; have az1 := blk_frozen F7.out.1 1; have az2 := blk_frozen F7.out.1 2; have az3 := blk_frozen F7.out.1 3; have az4 := blk_frozen F7.out.1 4; refine store_event (t := 40) (p := 7) (v := ?vot) (w1 := ?wnt) ?hg ?ho ?hn ?hr ?_; (case ho => rfl); (case hg => rfl); (case hn => rfl); (case hr => first | (go_simp; done) | (go_simp; rfl)); intro w8 hw; clear ac0 ac1 ac2 ac3 ac4 az0 az1 az2 az3 az4; have F8 := Lib.hid (And.intro (show w8.heap[g7]? = some (.cells #[.slice qA0 q0.length qc0, .slice qA1 q1.length qc1, .slice qA2 q2.length qc2, .slice qA3 q3.length qc3, .int .i64 q4] 40 (0, 0)) by rw [hw]; exact (blk_put (cs := #[.slice qA0 q0.length qc0, .slice qA1 q1.length qc1, .slice qA2 q2.length qc2, .slice qA3 q3.length qc3, .int .i64 0]) (blk_put (cs := #[.slice qA0 q0.length qc0, .slice qA1 q1.length qc1, .slice qA2 q2.length qc2, .slice none 0 0, .int .i64 0]) (blk_put (cs := #[.slice qA0 q0.length qc0, .slice qA1 q1.length qc1, .slice none 0 0, .slice none 0 0, .int .i64 0]) (blk_put (cs := #[.slice qA0 q0.length qc0, .slice none 0 0, .slice none 0 0, .slice none 0 0, .int .i64 0]) (blk_put (cs := #[.slice none 0 0, .slice none 0 0, .slice none 0 0, .slice none 0 0, .int .i64 0]) F7.out.1 0 _ rfl) 1 _ rfl) 2 _ rfl) 3 _ rfl) 4 _ rfl)) (show Below w6.heap.size w6 w8 by rw [hw]; exact (below_set (below_set (below_set (below_set (below_set F7.out.2.2 F7.out.2.1) F7.out.2.1) F7.out.2.1) F7.out.2.1) F7.out.2.1))); clear hw F7) | ((with_reducible refine gate_dst (N := 8) rfl ?_); refine box_event ?hg (N := 8) ?hd (cs := #[.slice none 0 0]) (t := 47) ?hr ?_; (case hd => rfl); (case hg => rfl); (case hr => first | (go_simp; done) | (go_simp; rfl)); intro g8 hg w9 hbox hb; have F9 := Lib.hid (And.intro (show Ans w9 w8.heap.size g8 [] from ⟨by omega, hb.size, none, 0, hbox, Kd.R_nil _ _ _ _ _⟩) (And.intro hb (blk_below F8.out.1 hb))); clear hbox hb hg; have bc0 := (blk_cell F9.out.2.2 0).trans rfl; have bc1 := (blk_cell F9.out.2.2 1).trans rfl; have bc2 := (blk_cell F9.out.2.2 2).trans rfl; have bc3 := (blk_cell F9.out.2.2 3).trans rfl; have bc4 := (blk_cell F9.out.2.2 4).trans rfl) | (go_at_call 16; (refine (origin_calls w8.heap.size g8 [] qA0 qA1 qA2 qA3 qc0 qc1 qc2 qc3 q0 q1 q2 q3 q4 o p pok w9 F9.out.1 (by simp) (Kd.C_below FR.out.2.2.1.2 (below_step F8.out.2 F9.out.2.1)) FR.out.2.2.1.1 HP.out.1).mono ?_); rintro e w10 ⟨rfl, h1, h2⟩; rw [List.nil_append, ← HX.out.1] at h1; have F10 := Lib.hid (And.intro h1 (And.intro h2 ((h2.block g7 (blk_lt F8.out.1)).trans F9.out.2.2))); clear h1 h2 bc0 bc1 bc2 bc3 bc4; have bc3 := (blk_cell F10.out.2.2 3).trans rfl) | (go_at_call 19; (refine (list_calls w8.heap.size g8 x0 _ j qA3 qc3 q3 w10 F10.out.1 (by omega) (Kd.C_below FR.out.2.2.2.2.2 (below_weaken (below_step F8.out.2 F9.out.2.1) (below_size F8.out.2) F10.out.2.1)) FR.out.2.2.2.2.1 HP.out.2).mono ?_); rintro e w11 ⟨rfl, h1, h2⟩; rw [← HX.out.2.1] at h1; have F11 := Lib.hid (And.intro h1 (F10.out.2.1.trans h2)); clear h1 h2 bc3) | (go_at_call 21; have hv := vary_calls w8.heap.size g8 x1 (p.toList == [42]) w11 F11.out.1 (by omega); rw [← HX.out.2.2] at hv; (refine hv.mono ?_); clear hv; rintro e w12 ⟨Av, cv, rfl, h1, h2, h3⟩; have F12 := Lib.hid (And.intro h1 (And.intro h2 (F11.out.2.trans h3))); clear h1 h2 h3))
   go_ret
   have hB : w.heap.size ≤ w8.heap.size := Nat.le_trans (below_size FR.out.2.1) (below_size F8.out.2)
   exact ⟨_, rfl, Kd.V_mk F12.out.1 (Kd.F_mono F12.out.2.1 (fun k_ hk => Nat.le_trans hB hk)), below_weaken (below_step FR.out.2.1 (below_step F8.out.2 F9.out.2.1)) hB F12.out.2.2⟩
end Go.Proofs.YtiaihkcadffllaaDoor.Q


namespace Go.Proofs.YtiaihkcadffllaaDoor.Q
open Go.RowKit Go.Proofs.YtiaihkcadffllaaDoorW.PrintWords Go.Proofs.YtiaihkcadffllaaDoorW.PrintLast Go.Proofs.YtiaihkcadffllaaDoorW.PrintMore
set_option linter.unusedVariables false
set_option linter.unusedSimpArgs false
attribute [local go_sem] max2_int min2_int max_two min_two max_three min_three max_four min_four   
def stowagelaw25_awake.f  : Option (Bool) := (cors_Match.f (⟨#[104, 116, 116, 112, 58, 47, 47, 42, 46, 97]⟩ : ByteArray) (⟨#[104, 116, 116, 112, 58, 47, 47, 120, 46, 97]⟩ : ByteArray)).bind fun t380 => (if t380 = true then ((cors_Match.f (⟨#[97, 98, 42, 98, 97]⟩ : ByteArray) (⟨#[97, 98, 97]⟩ : ByteArray)).bind fun t381 => (if t381 = true then (some false) else ((cors_Match.f (⟨#[97, 42]⟩ : ByteArray) (⟨#[97]⟩ : ByteArray)).bind fun t382 => (some t382)))) else (some false))
set_option maxHeartbeats 8000000 in
set_option maxRecDepth 100000 in
theorem stowagelaw25_awake.calls  (r : Bool) (w : World) (h : stowagelaw25_awake.f  = some r) :
  Calls Tryd.prog 10 #[] w fun e w' => e = .returned (.bool r) ∧ Drawn0 w w' := by
 unfold stowagelaw25_awake.f at h
 have H := h
 clear h
 replace H := bndO H
 obtain ⟨t380, A10, H⟩ := H
 have A1 := Aside0.mk A10
 clear A10
 by_cases c2 : t380 = true
 ·subst c2
  replace H := itT H
  replace H := bndO H
  obtain ⟨t381, A30, H⟩ := H
  have A3 := Aside0.mk A30
  clear A30
  by_cases c4 : t381 = true
  ·subst c4
   replace H := itT H
   obtain rfl := Option.some.inj H
   go_enter Tryd.func10, Tryd.ntmps10
   go_wp2_with (first | ((with_reducible refine gate_callee (f := 33) rfl ?_); refine goesL_ (some 1) rfl rfl Tryd.func33 (by kernel_rfl) rfl #[.string (⟨#[104, 116, 116, 112, 58, 47, 47, 42, 46, 97]⟩ : ByteArray), .string (⟨#[104, 116, 116, 112, 58, 47, 47, 120, 46, 97]⟩ : ByteArray)] rfl (by (try simp only [List.map_toArray, List.map_cons, List.map_nil]); first | done | rfl | (simp only [List.length_drop, List.length_take]; rfl)) ?_; (with_reducible refine (cors_Match.calls (⟨#[104, 116, 116, 112, 58, 47, 47, 42, 46, 97]⟩ : ByteArray) (⟨#[104, 116, 116, 112, 58, 47, 47, 120, 46, 97]⟩ : ByteArray) true _ A1.out).mono ?_); rintro e w' ⟨rfl, ⟨nd, rfl⟩⟩; refine ⟨_, rfl, ?_⟩) | (go_at_call 33; (with_reducible refine (cors_Match.calls (⟨#[97, 98, 42, 98, 97]⟩ : ByteArray) (⟨#[97, 98, 97]⟩ : ByteArray) true _ A3.out).mono ?_); rintro e w' ⟨rfl, ⟨nd, rfl⟩⟩))
   go_ret
   exact ⟨by first | rfl | (simp; done) | (simp [*]; done), by repeat (first | exact Drawn0.refl _ | apply Drawn0.step)⟩
  ·replace c4 := Bool.eq_false_iff.mpr c4
   subst c4
   replace H := itF H
   replace H := bndO H
   obtain ⟨t382, A50, H⟩ := H
   have A5 := Aside0.mk A50
   clear A50
   obtain rfl := Option.some.inj H
   go_enter Tryd.func10, Tryd.ntmps10
   go_wp2_with (first | ((with_reducible refine gate_callee (f := 33) rfl ?_); refine goesL_ (some 1) rfl rfl Tryd.func33 (by kernel_rfl) rfl #[.string (⟨#[104, 116, 116, 112, 58, 47, 47, 42, 46, 97]⟩ : ByteArray), .string (⟨#[104, 116, 116, 112, 58, 47, 47, 120, 46, 97]⟩ : ByteArray)] rfl (by (try simp only [List.map_toArray, List.map_cons, List.map_nil]); first | done | rfl | (simp only [List.length_drop, List.length_take]; rfl)) ?_; (with_reducible refine (cors_Match.calls (⟨#[104, 116, 116, 112, 58, 47, 47, 42, 46, 97]⟩ : ByteArray) (⟨#[104, 116, 116, 112, 58, 47, 47, 120, 46, 97]⟩ : ByteArray) true _ A1.out).mono ?_); rintro e w' ⟨rfl, ⟨nd, rfl⟩⟩; refine ⟨_, rfl, ?_⟩) | (go_at_call 33; (with_reducible refine (cors_Match.calls (⟨#[97, 98, 42, 98, 97]⟩ : ByteArray) (⟨#[97, 98, 97]⟩ : ByteArray) false _ A3.out).mono ?_); rintro e w' ⟨rfl, ⟨nd, rfl⟩⟩) | (go_at_call 33; (with_reducible refine (cors_Match.calls (⟨#[97, 42]⟩ : ByteArray) (⟨#[97]⟩ : ByteArray) t382 _ A5.out).mono ?_); rintro e w' ⟨rfl, ⟨nd, rfl⟩⟩))
   go_ret
   exact ⟨by first | rfl | (simp; done) | (simp [*]; done), by repeat (first | exact Drawn0.refl _ | apply Drawn0.step)⟩
 ·replace c2 := Bool.eq_false_iff.mpr c2
  subst c2
  replace H := itF H
  obtain rfl := Option.some.inj H
  go_enter Tryd.func10, Tryd.ntmps10
  go_wp2_with (first | ((with_reducible refine gate_callee (f := 33) rfl ?_); refine goesL_ (some 1) rfl rfl Tryd.func33 (by kernel_rfl) rfl #[.string (⟨#[104, 116, 116, 112, 58, 47, 47, 42, 46, 97]⟩ : ByteArray), .string (⟨#[104, 116, 116, 112, 58, 47, 47, 120, 46, 97]⟩ : ByteArray)] rfl (by (try simp only [List.map_toArray, List.map_cons, List.map_nil]); first | done | rfl | (simp only [List.length_drop, List.length_take]; rfl)) ?_; (with_reducible refine (cors_Match.calls (⟨#[104, 116, 116, 112, 58, 47, 47, 42, 46, 97]⟩ : ByteArray) (⟨#[104, 116, 116, 112, 58, 47, 47, 120, 46, 97]⟩ : ByteArray) false _ A1.out).mono ?_); rintro e w' ⟨rfl, ⟨nd, rfl⟩⟩; refine ⟨_, rfl, ?_⟩))
  go_ret
  exact ⟨by first | rfl | (simp; done) | (simp [*]; done), by repeat (first | exact Drawn0.refl _ | apply Drawn0.step)⟩
end Go.Proofs.YtiaihkcadffllaaDoor.Q
