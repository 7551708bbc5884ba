/- A part of the proof of the seat's laws. No condition beyond those in the theorems. -/
import Derived.Test.YtiaihkcadffllaaZRuleB
import Derived.Test.YtiaihkcadffllaaZQ17g6
import Derived.Lib.Hide

namespace Go.Proofs.Ytiaihkcadffllaa.Q
open Go.RowKit Go.Proofs.YtiaihkcadffllaaW.PrintWords Go.Proofs.YtiaihkcadffllaaW.PrintLast Go.Proofs.YtiaihkcadffllaaW.PrintMore
set_option linter.unusedVariables false
set_option linter.unusedSimpArgs false
def aged : Nat → List S28 → List S28
  | _, [] => []
  | j, r :: l => { r with f4 := ((j + 1 : Nat) : Int) } :: aged (j + 1) l
theorem aged_len (l : List S28) : ∀ j, (aged j l).length = l.length := by
  induction l with
  | nil => intro j; rfl
  | cons r l ih => intro j; rw [aged, List.length_cons, List.length_cons, ih]
theorem aged_get (l : List S28) : ∀ (j i : Nat) (r : S28), l[i]? = some r → (aged j l)[i]? = some { r with f4 := ((j + i + 1 : Nat) : Int) } := by
  induction l with
  | nil => intro j i r h; simp at h
  | cons x l ih =>
    intro j i r h
    cases i with
    | zero =>
      simp only [List.getElem?_cons_zero, Option.some.injEq] at h
      subst h
      rfl
    | succ i =>
      rw [List.getElem?_cons_succ] at h
      rw [aged, List.getElem?_cons_succ, ih (j + 1) i r h]
      congr 3
      omega
def agedTo (l : List S28) (i : Nat) : List S28 := (aged 0 l).take i ++ l.drop i
theorem agedTo_zero (l : List S28) : agedTo l 0 = l := by simp [agedTo]
theorem agedTo_all (l : List S28) : agedTo l l.length = aged 0 l := by
  rw [agedTo, List.drop_length, List.append_nil, List.take_of_length_le (by rw [aged_len]; exact Nat.le_refl _)]
theorem agedTo_len (l : List S28) (i : Nat) (h : i ≤ l.length) : (agedTo l i).length = l.length := by
  rw [agedTo, List.length_append, List.length_take, List.length_drop, aged_len]; omega
theorem agedTo_at (l : List S28) (i : Nat) (r : S28) (h : l[i]? = some r) : (agedTo l i)[i]? = some r := by
  have hi : i < l.length := (List.getElem?_eq_some_iff.mp h).1
  rw [agedTo, List.getElem?_append_right (by rw [List.length_take, aged_len]; omega), List.length_take, aged_len, Nat.min_eq_left (by omega), Nat.sub_self, List.getElem?_drop, Nat.add_zero, h]
theorem agedTo_set (l : List S28) (i : Nat) (r : S28) (h : l[i]? = some r) : (agedTo l i).set i { r with f4 := ((i + 1 : Nat) : Int) } = agedTo l (i + 1) := by
  have hi : i < l.length := (List.getElem?_eq_some_iff.mp h).1
  have ha := aged_get l 0 i r h
  rw [Nat.zero_add] at ha
  apply List.ext_getElem?
  intro q
  rw [List.getElem?_set, agedTo_len l i (by omega)]
  by_cases c : i = q
  · subst c
    rw [if_pos rfl, if_pos hi, agedTo, List.getElem?_append_left (by rw [List.length_take, aged_len]; omega), List.getElem?_take, if_pos (by omega), ha]
  · rw [if_neg c]
    rcases Nat.lt_or_ge q i with g | g
    · rw [agedTo, agedTo, List.getElem?_append_left (by rw [List.length_take, aged_len]; omega), List.getElem?_append_left (by rw [List.length_take, aged_len]; omega), List.getElem?_take, List.getElem?_take, if_pos g, if_pos (by omega)]
    · rw [agedTo, agedTo, List.getElem?_append_right (by rw [List.length_take, aged_len]; omega), List.getElem?_append_right (by rw [List.length_take, aged_len]; omega), List.length_take, List.length_take, aged_len, Nat.min_eq_left (by omega), Nat.min_eq_left (by omega), List.getElem?_drop, List.getElem?_drop]
      congr 1
      omega
theorem R_shape {α : Type} {d : Kd α} {e : Nat} {w : World} {base : Nat} {ok : Nat → Prop} {v : Value} {xs : List α} (h : d.R e w base ok v xs) (hs : 0 < d.sz) : ∃ A c, v = .slice A xs.length c ∧ (0 < xs.length → ∃ g, A = some ⟨g, 0, none⟩) := by
  obtain ⟨_, inner, ho, hr⟩ := h
  rcases ho.2 with ⟨e1, e2⟩ | ⟨g, cap, cur, e1, _⟩
  · have h0 := hr.1
    rw [e2] at h0
    have : xs.length = 0 := by
      rcases Nat.eq_zero_or_pos xs.length with g | g
      · exact g
      · have := Nat.mul_pos g hs
        have z : ([] : List Value).length = 0 := rfl
        omega
    exact ⟨none, 0, by rw [e1, this], fun g => by omega⟩
  · exact ⟨_, cap, e1, fun _ => ⟨g, rfl⟩⟩
set_option maxHeartbeats 8000000 in
set_option maxRecDepth 100000 in
theorem corsFirst_walk (k : Nat) (A0 : Option Addr) (c0 : Nat) (l0 : List S28) (a1 a2 : ByteArray) (w : World) (hr0 : Kd.C k28 w A0 l0.length l0) (hc0 : l0.length ≤ c0) (hn : l0.length ≤ 40)
    (q0 q1 q2 q3 : List ByteArray) (q4 : Int) (ok : Bool) (hq : cors_Rule.f k (aged 0 l0) a1 a2 [] = some (q0, q1, q2, q3, q4, ok)) (F : Nat → Bool)
    (h1 : ∀ i, i < l0.length → ∃ p0 p1 p2 p3 p4, cors_Rule.f k [rd_T28 (aged 0 l0) i] a1 a2 [] = some (p0, p1, p2, p3, p4, F i) ∧ (F i = true → p4 = i + 1))
    (hf : ∀ i, i < l0.length → (∀ j, j < i → F j = false) → F i = true → ok = true ∧ q4 = i + 1) (hno : (∀ j, j < l0.length → F j = false) → ok = false ∧ q4 = 0) (ha : stowagelaw25_awake.f = some true) :
    Calls Try.prog 5 #[.slice A0 l0.length c0, .string a1, .string a2] w fun e w' => e = .returned (.bool true) ∧ Below w.heap.size w w' := by
  have hu28 := Try.underlying28
  have c40 : decide ((l0.length : Int) > 40) = false := decide_eq_false (by omega)
  have HH := Lib.hid (And.intro hr0 (And.intro hc0 (And.intro hq (And.intro h1 (And.intro hf (And.intro hno ha))))))
  clear hr0 hc0 hq h1 hf hno ha
  go_enter Try.func5, Try.ntmps5
  go_wp2_with (first | ((with_reducible refine gate_dst (N := 18) rfl ?_); refine Kd.R_lit (Kd.fixed k28 w) _ 28 ?hg (N := 18) ?hd (xs := ([] : List S28)) (inner := []) (ok := fun _ => True) (okp := fun _ => True) ?hr ?hp (fun _ hk => hk) trivial (Below.refl _ _) (Nat.le_refl _) (by simp) ?_; (case hd => rfl); (case hg => rfl); (case hr => first | (go_simp; done) | (go_simp; rfl)); (case hp => exact Reps.none _ _); intro v5 w4 ho5 hb hg_ hnew_; clear hg_ hnew_; have F5 := Lib.hid (And.intro ho5 hb); clear ho5 hb) | ((with_reducible refine gate_builtin (b := .append) (xs := #[.tmp 18, .tmp 19]) rfl ?_); at_builtin; refine Kd.R_append_rows (Kd.fixed k28 w) (Rr := k28.K w) (w0 := w) w.heap.size rfl (.tmp 18) (.tmp 19) 25 28 _ 104 rfl Try.underlying25 info28 rfl (Nat.succ_pos 4) (by omega) v5 [] l0 _ _ _ (fun _ => True) (fun _ => False) rfl rfl ?aO ?aR (fun _ _ h => h) (fun _ h => h.elim) ?aF ?aB ?aS ?aL ?_; (case aR => exact ReadsRow.imp_ HH.out.1 F5.out.2 (fun _ _ hp => hp)); (case aB => exact F5.out.2); (case aF => exact (fun _ _ => trivial)); (case aO => exact F5.out.1); (case aS => exact below_size F5.out.2); (case aL => simp only [List.length_nil]; omega); intro v7 w7 ho hb hg hat; obtain ⟨A, c, e7, hA⟩ := R_shape ho (Nat.succ_pos 4); rw [List.nil_append] at ho e7 hA; subst e7; have hlc := (Kd.R_reads' ho).2.1; have F7 := Lib.hid (And.intro ho hb); clear ho hb hg hat F5))
  go_loopw [8] (fun i8 wr => ∃ j : Nat, j ≤ l0.length ∧ i8 = .int .i64 j ∧ Hid ((Kd.fixed k28 w).R 28 wr w.heap.size (fun _ => True) (.slice A l0.length c) (agedTo l0 j) ∧ Below w.heap.size w wr)) (fun i8 _ => l0.length - (intOf i8).toNat)
  case atStart => exact ⟨0, Nat.zero_le _, rfl, Lib.hid ⟨by rw [agedTo_zero]; exact F7.out.1, F7.out.2⟩⟩
  case round =>
    obtain ⟨j, hj, rfl, hI⟩ := hrel
    by_cases hlt : j < l0.length
    · obtain ⟨g, rfl⟩ := hA (by omega)
      obtain ⟨r, hr⟩ : ∃ r, l0[j]? = some r := ⟨_, List.getElem?_eq_getElem hlt⟩
      obtain ⟨ce, hcl, hM, hcc, hfz⟩ := Kd.R_elem hI.out.1 z28 (j : Int) (by omega) (by omega)
      have hget : (agedTo l0 j).getD ((j : Int)).toNat z28 = r := by rw [Int.toNat_natCast, List.getD_eq_getElem?_getD, agedTo_at l0 j r hr]; rfl
      rw [hget] at hM
      obtain ⟨B0, d0, B1, d1, B2, d2, B3, d3, rfl, m0, g0, m1, g1, m2, g2, m3, g3⟩ := k28_open (show k28.K w r ce from hM)
      obtain ⟨HP, HG⟩ := Kd.R_seg (seg := [.int .i64 (((j + 1 : Nat) : Int))]) (j := 4) (okp := fun _ => False) (x' := { r with f4 := ((j + 1 : Nat) : Int) }) hI.out.1 (j : Int) (by omega) (by omega) hcl hcc (Nat.le_refl 5) (show k28.K w _ _ from k28_mk w { r with f4 := ((j + 1 : Nat) : Int) } m0 g0 m1 g1 m2 g2 m3 g3) (fun _ h => h.elim)
      have hx4 : wr.cell? ⟨g, j * 5 + 4, none⟩ = some (.int .i64 r.f4) := hcc 4 _ rfl
      have hz4 : wr.frozen? ⟨g, j * 5 + 4, none⟩ = false := hfz 4
      rw [Int.toNat_natCast, agedTo_set l0 j r hr] at HP
      have HP' := Lib.hid (And.intro HP HG)
      have hr' := Lib.hid hr
      clear HP HG hM hcc hfz hcl hget hr m0 g0 m1 g1 m2 g2 m3 g3
      have c0b : decide ((j : Int) < (l0.length : Int)) = true := decide_eq_true (by omega)
      have p0 := eq_true (show 0 ≤ (j : Int) by omega)
      have p1 := eq_true (show (j : Int) < (l0.length : Int) by omega)
      clear hA F7
      go_wp2_with (first | ((with_reducible refine gate_store (t := 3) (p := 32) rfl ?_); refine store_event (t := 3) (p := 32) (v := ?vo) (w1 := wr.setCell ⟨g, j * 5 + 4, none⟩ (.int .i64 ((j : Int) + 1))) ?hg ?ho ?hn ?hr ?_; (case ho => rfl); (case hg => rfl); (case hn => rfl); (case hr => first | (go_simp; done) | (go_simp; rfl)); intro w9 hw; have F9 := Lib.hid hw; clear hw hx4 hz4))
      go_roundw
      case rel => exact ⟨j + 1, by omega, by go_num, Lib.hid ⟨by rw [F9.out]; exact HP'.out.1, by rw [F9.out]; exact below_set hI.out.2 (Kd.R_base HP'.out.1 g rfl)⟩⟩
      case measure => simp [intOf]; omega
    · have e : j = l0.length := by omega
      subst e
      have c0b : decide ((l0.length : Int) < (l0.length : Int)) = false := decide_eq_false (by omega)
      have hX : Hid ((Kd.fixed k28 w).R 28 wr w.heap.size (fun _ => True) (.slice A l0.length c) (aged 0 l0) ∧ Below w.heap.size w wr ∧ Kd.C k28 wr A l0.length (aged 0 l0)) := by
        have h := hI.out.1
        rw [agedTo_all] at h
        have hc := (Kd.R_reads' h).2.2
        rw [aged_len] at hc
        exact Lib.hid ⟨h, hI.out.2, ReadsRow.imp_ hc (Below.refl _ _) (fun _ _ hp => k28.K_below hI.out.2 hp)⟩
      clear hI F7
      have hal : (aged 0 l0).length = l0.length := aged_len l0 0
      go_wp2_with (first | ((with_reducible refine gate_callee (f := 10) rfl ?_); refine goesL_ (some 37) rfl rfl Try.func10 (by kernel_rfl) rfl #[.slice A l0.length c, .string a1, .string a2, .slice none 0 0] rfl (by (try simp only [List.map_toArray, List.map_cons, List.map_nil]); first | done | rfl) ?_; (refine (show Calls _ _ #[.slice A l0.length c, .string a1, .string a2, .slice none 0 0] wr _ by have hcall := cors_Rule.calls k A c (aged 0 l0) a1 a2 none 0 [] q0 q1 q2 q3 q4 ok wr (by rw [hal]; exact hX.out.2.2) (by rw [hal]; exact hlc) (Kd.C_nil _ _) (Nat.le_refl _) HH.out.2.2.1; rw [hal] at hcall; exact hcall).mono ?_); rintro e w1 ⟨v0, v1, v2, v3, rfl, h0, h1, h2, h3, hb⟩; obtain ⟨qA0, qc0, rfl, m0, f0⟩ := h0; obtain ⟨qA1, qc1, rfl, m1, f1⟩ := h1; obtain ⟨qA2, qc2, rfl, m2, f2⟩ := h2; obtain ⟨qA3, qc3, rfl, m3, f3⟩ := h3; refine ⟨_, rfl, ?_⟩; clear m0 m1 m2 m3 f0 f1 f2 f3; have G1 := Lib.hid hb; clear hb) | ((with_reducible refine gate_dst (N := 9) rfl ?_); refine box_event ?hg (N := 9) ?hd (cs := #[.slice none 0 0, .slice none 0 0, .slice none 0 0, .slice none 0 0, .int .i64 0]) (t := 28) ?hr ?_; (case hd => rfl); (case hg => rfl); (case hr => first | (go_simp; done) | (go_simp; rfl)); intro g9 hg w2 hbox hb; have G2 := Lib.hid (And.intro hbox (And.intro (show wr.heap.size ≤ g9 by have := G1.out.size; omega) (below_step G1.out hb))); clear hbox hb hg G1) | ((with_reducible refine gate_store (t := 28) (p := 9) rfl ?_); have ac0 := (blk_cell G2.out.1 0).trans rfl; have ac1 := (blk_cell G2.out.1 1).trans rfl; have ac2 := (blk_cell G2.out.1 2).trans rfl; have ac3 := (blk_cell G2.out.1 3).trans rfl; have ac4 := (blk_cell G2.out.1 4).trans rfl; have az0 := blk_frozen G2.out.1 0; have az1 := blk_frozen G2.out.1 1; have az2 := blk_frozen G2.out.1 2; have az3 := blk_frozen G2.out.1 3; have az4 := blk_frozen G2.out.1 4; refine store_event (t := 28) (p := 9) (v := ?vo9x) (w1 := ?wn9x) ?hg ?ho ?hn ?hr ?_; (case ho => rfl); (case hg => rfl); (case hn => rfl); (case hr => first | (go_simp; done) | (go_simp; rfl)); intro w3 hw; clear ac0 az0 ac1 az1 ac2 az2 ac3 az3 ac4 az4; have G3 := Lib.hid (And.intro (show w3.heap[g9]? = some (.cells #[.slice qA0 q0.length qc0, .slice qA1 q1.length qc1, .slice qA2 q2.length qc2, .slice qA3 q3.length qc3, .int .i64 q4] 28 (0, 0)) by rw [hw]; exact (blk_put (cs := #[.slice qA0 q0.length qc0, .slice qA1 q1.length qc1, .slice qA2 q2.length qc2, .slice qA3 q3.length qc3, .int .i64 0]) (blk_put (cs := #[.slice qA0 q0.length qc0, .slice qA1 q1.length qc1, .slice qA2 q2.length qc2, .slice none 0 0, .int .i64 0]) (blk_put (cs := #[.slice qA0 q0.length qc0, .slice qA1 q1.length qc1, .slice none 0 0, .slice none 0 0, .int .i64 0]) (blk_put (cs := #[.slice qA0 q0.length qc0, .slice none 0 0, .slice none 0 0, .slice none 0 0, .int .i64 0]) (blk_put (cs := #[.slice none 0 0, .slice none 0 0, .slice none 0 0, .slice none 0 0, .int .i64 0]) G2.out.1 0 _ rfl) 1 _ rfl) 2 _ rfl) 3 _ rfl) 4 _ rfl)) (show Below wr.heap.size wr w3 by rw [hw]; exact (below_set (below_set (below_set (below_set (below_set G2.out.2.2 G2.out.2.1) G2.out.2.1) G2.out.2.1) G2.out.2.1) G2.out.2.1))); clear hw G2))
      have hY : Hid ((Kd.fixed k28 w).R 28 w3 w.heap.size (fun _ => True) (.slice A l0.length c) (aged 0 l0) ∧ w3.heap[g9]? = some (.cells #[.slice qA0 q0.length qc0, .slice qA1 q1.length qc1, .slice qA2 q2.length qc2, .slice qA3 q3.length qc3, .int .i64 q4] 28 (0, 0)) ∧ Below w.heap.size w w3) := Lib.hid ⟨Kd.R_below hX.out.1 G3.out.2, G3.out.1, below_step hX.out.2.1 G3.out.2⟩
      clear hX G3
      go_loopw [11] (fun i11 wr => ∃ j : Nat, j ≤ l0.length ∧ i11 = .int .i64 j ∧ Hid ((Kd.fixed k28 w).R 28 wr w.heap.size (fun _ => True) (.slice A l0.length c) (aged 0 l0) ∧ wr.heap[g9]? = some (.cells #[.slice qA0 q0.length qc0, .slice qA1 q1.length qc1, .slice qA2 q2.length qc2, .slice qA3 q3.length qc3, .int .i64 q4] 28 (0, 0)) ∧ Below w.heap.size w wr ∧ ∀ i, i < j → F i = false)) (fun i11 _ => l0.length - (intOf i11).toNat)
      case atStart => exact ⟨0, Nat.zero_le _, rfl, Lib.hid ⟨hY.out.1, hY.out.2.1, hY.out.2.2, fun i h => by omega⟩⟩
      case round =>
        clear hY
        obtain ⟨j, hj, rfl, hI⟩ := hrel
        by_cases hlt : j < l0.length
        · obtain ⟨g, rfl⟩ := hA (by omega)
          obtain ⟨p0, p1, p2, p3, p4, hone, hp4⟩ := HH.out.2.2.2.1 j hlt
          have c0b : decide ((j : Int) < (l0.length : Int)) = true := decide_eq_true (by omega)
          have hC : Hid (Kd.C k28 wr (some ((⟨g, 0, none⟩ : Addr).add (j * 5))) 1 [rd_T28 (aged 0 l0) j] ∧ cors_Rule.f k [rd_T28 (aged 0 l0) j] a1 a2 [] = some (p0, p1, p2, p3, p4, F j)) := by
            have hc := (Kd.R_reads' hI.out.1).2.2
            have hc2 : Kd.C k28 wr (some ⟨g, 0, none⟩) (aged 0 l0).length (aged 0 l0) := ReadsRow.imp_ hc (Below.refl _ _) (fun _ _ hp => k28.K_below hI.out.2.2.1 hp)
            have hm := Kd.C_mid (lo := j) (hi := j + 1) hc2 (by omega) (by rw [aged_len]; omega) (by rw [aged_len]; exact hlc)
            rw [if_neg (by omega)] at hm
            have e1 : ((aged 0 l0).take (j + 1)).drop j = [rd_T28 (aged 0 l0) j] := by
              have hl : j < (aged 0 l0).length := by rw [aged_len]; exact hlt
              rw [List.take_succ_eq_append_getElem hl, List.drop_left' (by rw [List.length_take]; omega)]
              simp [rd_T28, List.getD_eq_getElem?_getD, List.getElem?_eq_getElem hl]
            rw [e1] at hm
            exact Lib.hid ⟨hm, hone⟩
          have hcut : ∀ W : World, (Instr.slice 25 (.slice (some ⟨g, 0, none⟩) l0.length c) (some (.int .i64 (j : Int))) (some (.int .i64 ((j : Int) + 1))) none).run Try.prog W = .ok (.slice (some ((⟨g, 0, none⟩ : Addr).add (j * 5))) 1 (c - j)) W := by
            intro W
            obtain ⟨i0, hi0, hzz⟩ := Option.map_eq_some_iff.1 info28
            simp only [Prod.mk.injEq] at hzz
            rw [cut_mid 25 28 .i64 .i64 Try.underlying25 hi0 5 hzz.2.1 (some ⟨g, 0, none⟩) l0.length c (j : Int) ((j : Int) + 1) (by omega) (by omega) (by omega) hlc W, Int.toNat_natCast, if_neg (by omega), show ((j : Int) + 1).toNat - j = 1 by omega]
            rfl
          obtain ⟨A1, hA1⟩ : ∃ A1, A1 = some ((⟨g, 0, none⟩ : Addr).add (j * 5)) := ⟨_, rfl⟩
          obtain ⟨c1, hc1⟩ : ∃ c1, c1 = c - j := ⟨_, rfl⟩
          obtain ⟨x, hx⟩ : ∃ x, x = rd_T28 (aged 0 l0) j := ⟨_, rfl⟩
          rw [← hA1, ← hc1] at hcut
          rw [← hA1, ← hx] at hC
          have hlc' : 1 ≤ c1 := by omega
          clear hA1 hc1 hx
          have hF := Lib.hid hp4
          clear hone hp4 hA
          cases hb : F j with
          | true =>
            obtain rfl := hF.out hb
            obtain ⟨rfl, rfl⟩ := HH.out.2.2.2.2.1 j hlt hI.out.2.2.2 hb
            rw [hb] at hC
            go_wp2_with (first | ((with_reducible refine gate_callee (f := 10) rfl ?_); refine goesL_ (some 54) rfl rfl Try.func10 (by kernel_rfl) rfl #[.slice A1 1 c1, .string a1, .string a2, .slice none 0 0] rfl (by (try simp only [List.map_toArray, List.map_cons, List.map_nil]); first | done | rfl) ?_; (refine (cors_Rule.calls k A1 c1 [x] a1 a2 none 0 [] p0 p1 p2 p3 ((j : Int) + 1) true wr hC.out.1 hlc' (Kd.C_nil _ _) (Nat.le_refl _) hC.out.2).mono ?_); rintro e w5 ⟨v0, v1, v2, v3, rfl, h0, h1, h2, h3, hb⟩; obtain ⟨pA0, pc0, rfl, m0, f0⟩ := h0; obtain ⟨pA1, pc1, rfl, m1, f1⟩ := h1; obtain ⟨pA2, pc2, rfl, m2, f2⟩ := h2; obtain ⟨pA3, pc3, rfl, m3, f3⟩ := h3; refine ⟨_, rfl, ?_⟩; clear m0 m1 m2 m3 f0 f1 f2 f3; have K5 := Lib.hid (And.intro (blk_below hI.out.2.1 hb) hb); clear hb) | ((with_reducible refine gate_dst (N := 12) rfl ?_); refine box_event ?hg (N := 12) ?hd (cs := #[.slice none 0 0, .slice none 0 0, .slice none 0 0, .slice none 0 0, .int .i64 0]) (t := 28) ?hr ?_; (case hd => rfl); (case hg => rfl); (case hr => first | (go_simp; done) | (go_simp; rfl)); intro g12 hg w6 hbox hb; have K6 := Lib.hid (And.intro hbox (And.intro (show wr.heap.size ≤ g12 by have := K5.out.2.size; omega) (And.intro (below_step K5.out.2 hb) (And.intro (show g9 ≠ g12 from fun e => by have := blk_lt K5.out.1; omega) (blk_below K5.out.1 hb))))); clear hbox hb hg K5) | ((with_reducible refine gate_store (t := 28) (p := 12) rfl ?_); have dc0 := (blk_cell K6.out.1 0).trans rfl; have dc1 := (blk_cell K6.out.1 1).trans rfl; have dc2 := (blk_cell K6.out.1 2).trans rfl; have dc3 := (blk_cell K6.out.1 3).trans rfl; have dc4 := (blk_cell K6.out.1 4).trans rfl; have dz0 := blk_frozen K6.out.1 0; have dz1 := blk_frozen K6.out.1 1; have dz2 := blk_frozen K6.out.1 2; have dz3 := blk_frozen K6.out.1 3; have dz4 := blk_frozen K6.out.1 4; refine store_event (t := 28) (p := 12) (v := ?vo12yt) (w1 := ?wn12yt) ?hg ?ho ?hn ?hr ?_; (case ho => rfl); (case hg => rfl); (case hn => rfl); (case hr => first | (go_simp; done) | (go_simp; rfl)); intro w7 hw; clear dc0 dz0 dc1 dz1 dc2 dz2 dc3 dz3 dc4 dz4; have K7 := Lib.hid (And.intro (show w7.heap[g12]? = some (.cells #[.slice pA0 p0.length pc0, .slice pA1 p1.length pc1, .slice pA2 p2.length pc2, .slice pA3 p3.length pc3, .int .i64 ((j : Int) + 1)] 28 (0, 0)) by rw [hw]; exact (blk_put (cs := #[.slice pA0 p0.length pc0, .slice pA1 p1.length pc1, .slice pA2 p2.length pc2, .slice pA3 p3.length pc3, .int .i64 0]) (blk_put (cs := #[.slice pA0 p0.length pc0, .slice pA1 p1.length pc1, .slice pA2 p2.length pc2, .slice none 0 0, .int .i64 0]) (blk_put (cs := #[.slice pA0 p0.length pc0, .slice pA1 p1.length pc1, .slice none 0 0, .slice none 0 0, .int .i64 0]) (blk_put (cs := #[.slice pA0 p0.length pc0, .slice none 0 0, .slice none 0 0, .slice none 0 0, .int .i64 0]) (blk_put (cs := #[.slice none 0 0, .slice none 0 0, .slice none 0 0, .slice none 0 0, .int .i64 0]) K6.out.1 0 _ rfl) 1 _ rfl) 2 _ rfl) 3 _ rfl) 4 _ rfl)) (And.intro (show w7.heap[g9]? = some (.cells #[.slice qA0 q0.length qc0, .slice qA1 q1.length qc1, .slice qA2 q2.length qc2, .slice qA3 q3.length qc3, .int .i64 ((j : Int) + 1)] 28 (0, 0)) by rw [hw]; exact (blk_far (blk_far (blk_far (blk_far (blk_far K6.out.2.2.2.2 K6.out.2.2.2.1 _) K6.out.2.2.2.1 _) K6.out.2.2.2.1 _) K6.out.2.2.2.1 _) K6.out.2.2.2.1 _)) (show Below wr.heap.size wr w7 by rw [hw]; exact (below_set (below_set (below_set (below_set (below_set K6.out.2.2.1 K6.out.2.1) K6.out.2.1) K6.out.2.1) K6.out.2.1) K6.out.2.1)))); clear hw K6; have n4 := (blk_cell K7.out.1 4).trans rfl; have s4 := (blk_cell K7.out.2.1 4).trans rfl) | (go_at_call 9; (refine (stowagelaw25_awake.calls true _ HH.out.2.2.2.2.2.2).mono ?_); rintro e w10 ⟨rfl, ⟨nd, rfl⟩⟩))
            go_ret
            exact ⟨rfl, pw_below_drewN (below_step hI.out.2.2.1 K7.out.2.2) _⟩
          | false =>
            rw [hb] at hC
            have hb' := Lib.hid hb
            clear hb
            go_wp2_with (first | ((with_reducible refine gate_callee (f := 10) rfl ?_); refine goesL_ (some 54) rfl rfl Try.func10 (by kernel_rfl) rfl #[.slice A1 1 c1, .string a1, .string a2, .slice none 0 0] rfl (by (try simp only [List.map_toArray, List.map_cons, List.map_nil]); first | done | rfl) ?_; (refine (cors_Rule.calls k A1 c1 [x] a1 a2 none 0 [] p0 p1 p2 p3 p4 false wr hC.out.1 hlc' (Kd.C_nil _ _) (Nat.le_refl _) hC.out.2).mono ?_); rintro e w5 ⟨v0, v1, v2, v3, rfl, h0, h1, h2, h3, hb⟩; obtain ⟨pA0, pc0, rfl, m0, f0⟩ := h0; obtain ⟨pA1, pc1, rfl, m1, f1⟩ := h1; obtain ⟨pA2, pc2, rfl, m2, f2⟩ := h2; obtain ⟨pA3, pc3, rfl, m3, f3⟩ := h3; refine ⟨_, rfl, ?_⟩; clear m0 m1 m2 m3 f0 f1 f2 f3; have K5 := Lib.hid (And.intro (blk_below hI.out.2.1 hb) hb); clear hb) | ((with_reducible refine gate_dst (N := 12) rfl ?_); refine box_event ?hg (N := 12) ?hd (cs := #[.slice none 0 0, .slice none 0 0, .slice none 0 0, .slice none 0 0, .int .i64 0]) (t := 28) ?hr ?_; (case hd => rfl); (case hg => rfl); (case hr => first | (go_simp; done) | (go_simp; rfl)); intro g12 hg w6 hbox hb; have K6 := Lib.hid (And.intro hbox (And.intro (show wr.heap.size ≤ g12 by have := K5.out.2.size; omega) (And.intro (below_step K5.out.2 hb) (And.intro (show g9 ≠ g12 from fun e => by have := blk_lt K5.out.1; omega) (blk_below K5.out.1 hb))))); clear hbox hb hg K5) | ((with_reducible refine gate_store (t := 28) (p := 12) rfl ?_); have dc0 := (blk_cell K6.out.1 0).trans rfl; have dc1 := (blk_cell K6.out.1 1).trans rfl; have dc2 := (blk_cell K6.out.1 2).trans rfl; have dc3 := (blk_cell K6.out.1 3).trans rfl; have dc4 := (blk_cell K6.out.1 4).trans rfl; have dz0 := blk_frozen K6.out.1 0; have dz1 := blk_frozen K6.out.1 1; have dz2 := blk_frozen K6.out.1 2; have dz3 := blk_frozen K6.out.1 3; have dz4 := blk_frozen K6.out.1 4; refine store_event (t := 28) (p := 12) (v := ?vo12yf) (w1 := ?wn12yf) ?hg ?ho ?hn ?hr ?_; (case ho => rfl); (case hg => rfl); (case hn => rfl); (case hr => first | (go_simp; done) | (go_simp; rfl)); intro w7 hw; clear dc0 dz0 dc1 dz1 dc2 dz2 dc3 dz3 dc4 dz4; have K7 := Lib.hid (And.intro (show w7.heap[g12]? = some (.cells #[.slice pA0 p0.length pc0, .slice pA1 p1.length pc1, .slice pA2 p2.length pc2, .slice pA3 p3.length pc3, .int .i64 p4] 28 (0, 0)) by rw [hw]; exact (blk_put (cs := #[.slice pA0 p0.length pc0, .slice pA1 p1.length pc1, .slice pA2 p2.length pc2, .slice pA3 p3.length pc3, .int .i64 0]) (blk_put (cs := #[.slice pA0 p0.length pc0, .slice pA1 p1.length pc1, .slice pA2 p2.length pc2, .slice none 0 0, .int .i64 0]) (blk_put (cs := #[.slice pA0 p0.length pc0, .slice pA1 p1.length pc1, .slice none 0 0, .slice none 0 0, .int .i64 0]) (blk_put (cs := #[.slice pA0 p0.length pc0, .slice none 0 0, .slice none 0 0, .slice none 0 0, .int .i64 0]) (blk_put (cs := #[.slice none 0 0, .slice none 0 0, .slice none 0 0, .slice none 0 0, .int .i64 0]) K6.out.1 0 _ rfl) 1 _ rfl) 2 _ rfl) 3 _ rfl) 4 _ rfl)) (And.intro (show w7.heap[g9]? = some (.cells #[.slice qA0 q0.length qc0, .slice qA1 q1.length qc1, .slice qA2 q2.length qc2, .slice qA3 q3.length qc3, .int .i64 q4] 28 (0, 0)) by rw [hw]; exact (blk_far (blk_far (blk_far (blk_far (blk_far K6.out.2.2.2.2 K6.out.2.2.2.1 _) K6.out.2.2.2.1 _) K6.out.2.2.2.1 _) K6.out.2.2.2.1 _) K6.out.2.2.2.1 _)) (show Below wr.heap.size wr w7 by rw [hw]; exact (below_set (below_set (below_set (below_set (below_set K6.out.2.2.1 K6.out.2.1) K6.out.2.1) K6.out.2.1) K6.out.2.1) K6.out.2.1)))); clear hw K6))
            go_roundw
            case rel => exact ⟨j + 1, by omega, by go_num, Lib.hid ⟨Kd.R_below hI.out.1 K7.out.2.2, K7.out.2.1, below_step hI.out.2.2.1 K7.out.2.2, fun i hi => by rcases Nat.lt_or_ge i j with h | h; exact hI.out.2.2.2 i h; exact (show i = j by omega) ▸ hb'.out⟩⟩
            case measure => simp [intOf]; omega
        · have e : j = l0.length := by omega
          subst e
          have c0b : decide ((l0.length : Int) < (l0.length : Int)) = false := decide_eq_false (by omega)
          obtain ⟨rfl, rfl⟩ := HH.out.2.2.2.2.2.1 hI.out.2.2.2
          have s4 := (blk_cell hI.out.2.1 4).trans rfl
          go_wp2_with (first | (go_at_call 9; (refine (stowagelaw25_awake.calls true _ HH.out.2.2.2.2.2.2).mono ?_); rintro e w10 ⟨rfl, ⟨nd, rfl⟩⟩))
          go_ret
          exact ⟨rfl, pw_below_drewN hI.out.2.2.1 _⟩
end Go.Proofs.Ytiaihkcadffllaa.Q
