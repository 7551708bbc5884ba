/- A part of the proof of the seat's laws. No condition beyond those in the theorems. -/
import Derived.Test.YtiaihkcadffllaaDoorZLitB
import Derived.Test.YtiaihkcadffllaaDoorZBase
import Derived.Test.YtiaihkcadffllaaDoorZQ15g8
import Derived.Test.YtiaihkcadffllaaDoorZQ39g2
import Derived.Lib.Hide

namespace Go.Proofs.YtiaihkcadffllaaDoor.Q
open Go.RowKit Go.Proofs.YtiaihkcadffllaaDoorW.PrintWords Go.Proofs.YtiaihkcadffllaaDoorW.PrintLast Go.Proofs.YtiaihkcadffllaaDoorW.PrintMore
set_option linter.unusedVariables false
set_option linter.unusedSimpArgs false
theorem below_le {B B' : Nat} {w w' : World} (h : Below B' w w') (hle : B ≤ B') : Below B w w' := ⟨h.os, h.tape, h.output, h.size, fun i hi => h.block i (by omega)⟩
def Ans (w : World) (B b : Nat) (xs : List S37) : Prop := B ≤ b ∧ B ≤ w.heap.size ∧ ∃ A c, w.heap[b]? = some (.cells #[.slice A xs.length c] 47 (0, 0)) ∧ Kd.R k37 37 w B (fun k => k ≠ b) (.slice A xs.length c) xs
theorem Ans.below {w w' : World} {B b : Nat} {xs : List S37} (h : Ans w B b xs) (hb : Below w.heap.size w w') : Ans w' B b xs := by
  obtain ⟨h1, h2, A, c, hc, hR⟩ := h
  exact ⟨h1, Nat.le_trans h2 hb.size, A, c, blk_below hc hb, Kd.R_below hR hb⟩
set_option maxHeartbeats 8000000 in
set_option maxRecDepth 100000 in
theorem put_calls (B b : Nat) (xs : List S37) (n v : ByteArray) (w : World) (hA : Ans w B b xs) (hl : xs.length ≤ 100) :
    Calls Tryd.prog 17 #[.pointer (some ⟨b, 0, none⟩), .string n, .string v] w fun e w' => e = .returned (.tuple #[]) ∧ Ans w' B b (xs ++ [⟨n, v⟩]) ∧ Below B w w' := by
  obtain ⟨h1, h2, A, c, hb, hR⟩ := hA
  have HH := Lib.hid (And.intro hb (And.intro hR (And.intro h1 h2)))
  clear hb hR h1 h2
  have hc0 := (blk_cell HH.out.1 0).trans rfl
  obtain ⟨ys, hys⟩ : ∃ ys : List S37, ys = xs ++ [⟨n, v⟩] := ⟨_, rfl⟩
  rw [← hys]
  have hys' := Lib.hid hys
  clear hys
  go_enter Tryd.func17, Tryd.ntmps17
  go_wp2_with (first | ((with_reducible refine gate_dst (N := 13) rfl ?_); refine lit_event ?hg (N := 13) ?hd (n := 1) (cs := #[.string n, .string v]) (t := 37) ?hr ?_; (case hd => rfl); (case hg => rfl); (case hr => first | (go_simp; done) | (go_simp; rfl)); intro g13 hg w4 hbox hb; have F4 := Lib.hid (And.intro hbox hb); clear hbox hb hg hc0) | ((with_reducible refine gate_builtin (b := .append) (xs := #[.tmp 9, .tmp 13]) rfl ?_); at_builtin; refine Kd.R_append_rows k37 (Rr := k37.K w4) (w0 := w) B rfl (.tmp 9) (.tmp 13) 47 37 _ 32 rfl Tryd.underlying47 info37 rfl (by decide) (by omega) _ xs [⟨n, v⟩] _ _ _ (fun k => k ≠ b) (fun _ => False) rfl rfl ?aO ?aR (fun _ _ h => h) (fun _ h => h.elim) ?aF ?aB ?aS ?aL ?_; (case aR => exact C_lit1 k37 ⟨n, v⟩ (cs := [.string n, .string v]) F4.out.1 ⟨[.string n], [.string v], rfl, rfl, rfl⟩); (case aB => exact below_le F4.out.2 HH.out.2.2.2); (case aF => intro k hk; show k ≠ b; have := blk_lt HH.out.1; have := F4.out.2.size; omega); (case aO => exact Kd.R_below HH.out.2.1 F4.out.2); (case aS => have := F4.out.2.size; have := HH.out.2.2.2; omega); (case aL => show (xs.length + 1) * 32 ≤ 140737488355328; omega); intro v14 w6 ho hb hg hat; rw [← hys'.out] at ho; obtain ⟨A', c', rfl⟩ := Kd.R_slice ho; have hne : some b ≠ (Value.slice A xs.length c).ownBlock := (fun e => HH.out.2.1.1 b e.symm rfl); have F6 := Lib.hid (And.intro ho (And.intro hb (blk_grown (blk_below HH.out.1 F4.out.2) hg hne))); clear ho hb hg hat hne F4) | ((with_reducible refine gate_store (t := 47) (p := 15) rfl ?_); have hc6 := (blk_cell F6.out.2.2 0).trans rfl; have hz6 := blk_frozen F6.out.2.2 0; refine store_event (t := 47) (p := 15) (v := ?vo) (w1 := ?wn) ?hg ?ho ?hn ?hr ?_; (case ho => rfl); (case hg => rfl); (case hn => rfl); (case hr => first | (go_simp; done) | (go_simp; rfl)); intro w7 hw; clear hc6 hz6; have F7 := Lib.hid hw; clear hw))
  go_end0
  refine ⟨rfl, ⟨HH.out.2.2.1, ?_, A', c', ?_, ?_⟩, ?_⟩
  · rw [F7.out]; have := F6.out.2.1.size; have := HH.out.2.2.2; show B ≤ (w6.setCell _ _).heap.size; simp [World.setCell]; omega
  · rw [F7.out]; exact blk_put (cs := #[.slice A xs.length c]) F6.out.2.2 0 _ rfl
  · rw [F7.out]; exact Kd.R_far F6.out.1 (p := ⟨b, 0, none⟩) (fun k hk => hk) _
  · rw [F7.out]; exact F6.out.2.1.setCell HH.out.2.2.1 _
set_option maxHeartbeats 4000000 in
set_option maxRecDepth 100000 in
theorem clip_calls (A : Option Addr) (c : Nat) (ys : List S37) (hc : ys.length ≤ c) (hl : ys.length ≤ 1000) (w : World) :
    Calls Tryd.prog 43 #[.slice A ys.length c] w fun e w' => e = .returned (.slice A ys.length ys.length) ∧ Drawn0 w w' := by
  obtain ⟨i0, hi0, hzz⟩ := Option.map_eq_some_iff.1 info37
  have hcut := cut_to_max (P := Tryd.prog) 47 37 .i64 .i64 Tryd.underlying47 hi0 A ys.length c (ys.length : Int) (by omega) (by omega) hc
  rw [Int.toNat_natCast] at hcut
  clear hzz hi0
  go_enter Tryd.func43, Tryd.ntmps43
  go_wp2
  go_ret
  exact ⟨rfl, by first | exact ⟨_, rfl⟩ | exact Drawn0.refl _⟩
set_option maxHeartbeats 8000000 in
set_option maxRecDepth 100000 in
theorem list_calls (B b : Nat) (xs : List S37) (n r : ByteArray) (A0 : Option Addr) (c0 : Nat) (l0 : List ByteArray) (w : World) (hA : Ans w B b xs) (hl : xs.length ≤ 100) (hr0 : Kd.C Kd.string w A0 l0.length l0) (hc0 : l0.length ≤ c0) (hj : strings_Join.f l0 ⟨#[44, 32]⟩ = some r) :
    Calls Tryd.prog 19 #[.pointer (some ⟨b, 0, none⟩), .string n, .slice A0 l0.length c0] w fun e w' => e = .returned (.tuple #[]) ∧ Ans w' B b (if l0.length > 0 then xs ++ [⟨n, r⟩] else xs) ∧ Below B w w' := by
  have hB := hA.2.1
  have HH := Lib.hid (And.intro hA (And.intro hr0 (And.intro hc0 (And.intro hj hB))))
  have hlt := hr0.2.1
  clear hA hr0 hc0 hj hB
  go_enter Tryd.func19, Tryd.ntmps19
  by_cases c : l0.length > 0
  · have c1 : decide ((l0.length : Int) > 0) = true := decide_eq_true (by omega)
    rw [if_pos c]
    go_wp2_with (first | (go_at_call 18; (refine (strings_Join.calls A0 c0 l0 ⟨#[44, 32]⟩ r w HH.out.2.1 HH.out.2.2.1 HH.out.2.2.2.1).mono ?_); rintro e w9 ⟨rfl, hb⟩; have F9 := Lib.hid hb; clear hb) | (go_at_call 17; (refine (put_calls B b xs n r w9 (HH.out.1.below F9.out) hl).mono ?_); rintro e w10 ⟨rfl, h1, h2⟩; have F10 := Lib.hid (And.intro h1 h2); clear h1 h2))
    go_end0
    exact ⟨rfl, F10.out.1, (below_le F9.out HH.out.2.2.2.2).trans F10.out.2⟩
  · have c1 : decide ((l0.length : Int) > 0) = false := decide_eq_false (by omega)
    rw [if_neg c]
    go_wp2
    go_end0
    exact ⟨rfl, HH.out.1, Below.refl _ _⟩
set_option maxHeartbeats 8000000 in
set_option maxRecDepth 100000 in
theorem vary_calls (B b : Nat) (xs : List S37) (star : Bool) (w : World) (hA : Ans w B b xs) (hl : xs.length ≤ 100) :
    Calls Tryd.prog 21 #[.pointer (some ⟨b, 0, none⟩), .bool star] w fun e w' => ∃ A c, e = .returned (.slice A (if star = true then xs else xs ++ [⟨⟨#[86, 97, 114, 121]⟩, ⟨#[79, 114, 105, 103, 105, 110]⟩⟩]).length c) ∧ (if star = true then xs else xs ++ [⟨⟨#[86, 97, 114, 121]⟩, ⟨#[79, 114, 105, 103, 105, 110]⟩⟩]).length ≤ c ∧ Kd.F k37 w' (fun k => B ≤ k) A (if star = true then xs else xs ++ [⟨⟨#[86, 97, 114, 121]⟩, ⟨#[79, 114, 105, 103, 105, 110]⟩⟩]).length (if star = true then xs else xs ++ [⟨⟨#[86, 97, 114, 121]⟩, ⟨#[79, 114, 105, 103, 105, 110]⟩⟩]) ∧ Below B w w' := by
  have HH := Lib.hid hA
  have hclip := fun (A : Option Addr) (c : Nat) (ys : List S37) (hc : ys.length ≤ c) (hl : ys.length ≤ 1000) (w : World) => clip_calls A c ys hc hl w
  clear hA
  have fin : ∀ (w9 : World) (ys : List S37), ys.length ≤ 101 → Ans w9 B b ys → ∃ A c, Hid (w9.heap[b]? = some (.cells #[.slice A ys.length c] 47 (0, 0)) ∧ ys.length ≤ c ∧ Kd.F k37 w9 (fun k => B ≤ k) A ys.length ys) := by
    rintro w9 ys _ ⟨_, _, A, c, hb, hR⟩
    have hF := Kd.R_F (Kd.R_mono (Kd.R_bound hR) (ok' := fun k => B ≤ k) (fun k hk => hk.2.1))
    exact ⟨A, c, Lib.hid ⟨hb, (Kd.R_reads' hR).2.1, hF⟩⟩
  go_enter Tryd.func21, Tryd.ntmps21
  cases star with
  | true =>
    rw [if_pos rfl]
    obtain ⟨A, c, F⟩ := fin w xs (by omega) HH.out
    have hcell := (blk_cell F.out.1 0).trans rfl
    go_wp2_with (first | (go_at_call 43; (refine (hclip A c xs F.out.2.1 (by omega) w).mono ?_); rintro e w9 ⟨rfl, ⟨nd, rfl⟩⟩))
    go_ret
    exact ⟨A, xs.length, rfl, Nat.le_refl _, F.out.2.2, pw_below_drewN (Below.refl _ _) _⟩
  | false =>
    rw [if_neg (by simp)]
    obtain ⟨ys, hys⟩ : ∃ ys : List S37, ys = xs ++ [⟨⟨#[86, 97, 114, 121]⟩, ⟨#[79, 114, 105, 103, 105, 110]⟩⟩] := ⟨_, rfl⟩
    have hyl : ys.length ≤ 101 := by rw [hys]; simp; omega
    rw [← hys]
    have hys' := Lib.hid hys
    clear hys
    go_wp2_with (first | (go_at_call 17; (refine (put_calls B b xs ⟨#[86, 97, 114, 121]⟩ ⟨#[79, 114, 105, 103, 105, 110]⟩ w HH.out hl).mono ?_); rintro e w10 ⟨rfl, h1, h2⟩; rw [← hys'.out] at h1; obtain ⟨A, c, F⟩ := fin w10 ys hyl h1; have hcell := (blk_cell F.out.1 0).trans rfl; have F10 := Lib.hid h2; clear h1 h2) | (go_at_call 43; (refine (hclip A c ys F.out.2.1 (by omega) w10).mono ?_); rintro e w9 ⟨rfl, ⟨nd, rfl⟩⟩))
    go_ret
    exact ⟨A, ys.length, rfl, Nat.le_refl _, F.out.2.2, pw_below_drewN F10.out _⟩
set_option maxHeartbeats 8000000 in
set_option maxRecDepth 100000 in
theorem origin_calls (B b : Nat) (xs : List S37) (A0 A1 A2 A3 : Option Addr) (c0 c1 c2 c3 : Nat) (o0 o1 o2 o3 : List ByteArray) (o4 : Int) (a1 p : ByteArray) (ok : Bool) (w : World) (hA : Ans w B b xs) (hl : xs.length ≤ 100) (hr0 : Kd.C Kd.string w A0 o0.length o0) (hc0 : o0.length ≤ c0) (hj : cors_first.f o0 a1 = some (p, ok)) :
    Calls Tryd.prog 16 #[.pointer (some ⟨b, 0, none⟩), .agg #[.slice A0 o0.length c0, .slice A1 o1.length c1, .slice A2 o2.length c2, .slice A3 o3.length c3, .int .i64 o4], .string a1] w fun e w' => e = .returned (.bool (p.toList == [42])) ∧ Ans w' B b (xs ++ [⟨⟨#[65, 99, 99, 101, 115, 115, 45, 67, 111, 110, 116, 114, 111, 108, 45, 65, 108, 108, 111, 119, 45, 79, 114, 105, 103, 105, 110]⟩, if (p.toList == [42]) = true then ⟨#[42]⟩ else a1⟩]) ∧ Below B w w' := by
  have hB := hA.2.1
  have HH := Lib.hid (And.intro hA (And.intro hr0 (And.intro hc0 (And.intro hj hB))))
  clear hA hr0 hc0 hj hB
  have hu := Tryd.underlying40
  have h42 : (⟨#[42]⟩ : ByteArray).toList = [42] := by kernel_rfl
  go_enter Tryd.func16, Tryd.ntmps16
  cases hs : (p.toList == [42]) with
  | true =>
    rw [if_pos rfl]
    go_wp2_with (first | ((with_reducible refine gate_dst (N := 4) rfl ?_); refine box_event ?hg (N := 4) ?hd (cs := #[.slice A0 o0.length c0, .slice A1 o1.length c1, .slice A2 o2.length c2, .slice A3 o3.length c3, .int .i64 o4]) (t := 40) ?hr ?_; (case hd => rfl); (case hg => rfl); (case hr => first | (go_simp; done) | (go_simp; rfl)); intro g4 hg w4 hbox hb; have hx0 := (blk_cell hbox 0).trans rfl; have F4 := Lib.hid hb; clear hbox hb hg) | (go_at_call 38; (refine (cors_first.calls A0 c0 o0 a1 p ok w4 (Kd.C_below HH.out.2.1 F4.out) HH.out.2.2.1 HH.out.2.2.2.1).mono ?_); rintro e w9 ⟨rfl, hb⟩; have F9 := Lib.hid hb; clear hb hx0) | (go_at_call 17; (refine (put_calls B b xs _ _ w9 ((HH.out.1.below F4.out).below F9.out) hl).mono ?_); rintro e w10 ⟨rfl, h1, h2⟩; have F10 := Lib.hid (And.intro h1 h2); clear h1 h2))
    go_ret
    exact ⟨rfl, F10.out.1, ((below_le F4.out HH.out.2.2.2.2).trans (below_le F9.out (by have := F4.out.size; have := HH.out.2.2.2.2; omega))).trans F10.out.2⟩
  | false =>
    rw [if_neg (by simp)]
    go_wp2_with (first | ((with_reducible refine gate_dst (N := 4) rfl ?_); refine box_event ?hg (N := 4) ?hd (cs := #[.slice A0 o0.length c0, .slice A1 o1.length c1, .slice A2 o2.length c2, .slice A3 o3.length c3, .int .i64 o4]) (t := 40) ?hr ?_; (case hd => rfl); (case hg => rfl); (case hr => first | (go_simp; done) | (go_simp; rfl)); intro g4 hg w4 hbox hb; have hx0 := (blk_cell hbox 0).trans rfl; have F4 := Lib.hid hb; clear hbox hb hg) | (go_at_call 38; (refine (cors_first.calls A0 c0 o0 a1 p ok w4 (Kd.C_below HH.out.2.1 F4.out) HH.out.2.2.1 HH.out.2.2.2.1).mono ?_); rintro e w9 ⟨rfl, hb⟩; have F9 := Lib.hid hb; clear hb hx0) | (go_at_call 17; (refine (put_calls B b xs _ _ w9 ((HH.out.1.below F4.out).below F9.out) hl).mono ?_); rintro e w10 ⟨rfl, h1, h2⟩; have F10 := Lib.hid (And.intro h1 h2); clear h1 h2))
    go_ret
    exact ⟨rfl, F10.out.1, ((below_le F4.out HH.out.2.2.2.2).trans (below_le F9.out (by have := F4.out.size; have := HH.out.2.2.2.2; omega))).trans F10.out.2⟩
end Go.Proofs.YtiaihkcadffllaaDoor.Q
