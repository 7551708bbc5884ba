/- For every headers, etag and time of a bulk that the row bounds the law CondAsks answers true: whether a request's conditions hold is told right. -/
import Derived.Test.YthjofhklkkmdoaaRows
import Derived.Test.YthjofhklkkmdoaaZQ76g4
import Derived.Test.YthjofhklkkmdoaaZPureCondAsksUpto
import Derived.Test.YthjofhklkkmdoaaZCondShaped
import Derived.Deep.SlicePairs
import Derived.WalkKit
import Derived.ProofKit
import Derived.OpenShut
import Derived.ShutString
import Derived.ChangeOld
import Derived.Below

namespace Go.Proofs.Ythjofhklkkmdoaa.condAsksUpto
open Go.ChangeShapes Go.WideShapes Go.ChangeAt Go.RowKit Go.Proofs.YthjofhklkkmdoaaW.PrintWords
open Go.ChangeMaps (open_string shut_string)
theorem own : ownKnob Try.prog.godebug = none := by kernel_rfl
theorem laidOut : laidOutB Try.prog = true := by kernel_rfl
theorem part_le {H : Type} {d : DataW H} {l : List (DataW H)} (h : d ∈ l) : Rows.uptoBulk d ≤ Rows.uptoBulkAll l := by
  induction l with
  | nil => cases h
  | cons x r ih =>
    simp only [Rows.uptoBulkAll]
    cases List.mem_cons.1 h with
    | inl e => subst e; omega
    | inr e => have := ih e; omega
theorem one_le {H : Type} (d : DataW H) : 1 ≤ Rows.uptoBulk d := by
  cases d with
  | lit l => cases l <;> simp [Rows.uptoBulk]
  | nil => simp [Rows.uptoBulk]
  | ptr d => simp [Rows.uptoBulk]
  | slice elems spare => simp [Rows.uptoBulk]
  | agg parts => simp [Rows.uptoBulk]
  | iface t d => simp [Rows.uptoBulk]
  | map entries => simp [Rows.uptoBulk]
  | held h => simp [Rows.uptoBulk]
theorem length_le {H : Type} (l : List (DataW H)) : l.length ≤ Rows.uptoBulkAll l := by
  induction l with
  | nil => simp [Rows.uptoBulkAll]
  | cons x r ih => have := one_le x; simp only [Rows.uptoBulkAll, List.length_cons]; omega
theorem open_headers {H : Type} {enc : TypeId × Value → H} {W : World} {v : Value} {d : DataW H} {p : List MemPlace} (hv : ∃ A n c, v = .slice A n c) (h : DataW.Trod enc Try.prog W 0 (fun _ => true) true 42 v d p) :
    ∃ (A : Option Addr) (c : Nat) (l : List Q.S41), v = .slice A l.length c ∧ l.length ≤ c ∧ Kd.C Q.k41 W A l.length l ∧ l.length ≤ Rows.uptoBulk d ∧ ∀ x ∈ l, x.f1.size ≤ Rows.uptoBulk d := by
  obtain ⟨A, n, c, rfl⟩ := hv
  obtain ⟨fuel, hf⟩ := h
  rcases Deep.open_slice_pairs (f0 := ⟨"Name", 9, 0, false, "", "", 0⟩) (f1 := ⟨"Value", 9, 1, false, "", "", 16⟩) Try.underlying42 Try.underlying41 (by kernel_rfl) rfl rfl (by kernel_rfl) (by kernel_rfl) hf with ⟨h1, _⟩ | ⟨a, len, cap, m, n', V0, V1, D0, D1, P0, P1, h1, _, hlc, _, hm, hx, hc⟩
  · have e : (Value.slice A n c) = .slice none 0 0 := by simpa [Value.cells] using h1
    injection e with e1 e2 e3
    subst e1 e2 e3
    exact ⟨none, 0, [], rfl, Nat.le_refl _, Kd.C_nil _ _, Nat.zero_le _, fun x hx => by cases hx⟩
  · have e : (Value.slice A n c) = .slice (some a) len cap := by simpa [Value.cells] using h1
    injection e with e1 e2 e3
    subst e1 e2 e3
    have hmc : m = c := by rw [hm]; rfl
    subst hmc
    have each : ∀ i, i < n → ∃ x : Q.S41, W.cell? (a.add (i * 2)) = some (.string x.f0) ∧ W.cell? (a.add (i * 2 + 1)) = some (.string x.f1) ∧ D1 i = .lit (.string x.f1.data.toList) := by
      intro i hi
      obtain ⟨g0, g1, t0, t1⟩ := hc i (by omega)
      obtain ⟨s0, e0, _, _⟩ := DataW.trod_string Try.underlying9 t0
      obtain ⟨s1, e1, x1, _⟩ := DataW.trod_string Try.underlying9 t1
      have e0' : V0 i = .string s0 := by simpa using e0
      have e1' : V1 i = .string s1 := by simpa using e1
      exact ⟨⟨s0, s1⟩, by rw [g0, e0'], by rw [g1, e1'], (Prod.mk.inj x1).1⟩
    haveI : Inhabited Q.S41 := ⟨Q.z41⟩
    obtain ⟨X, hX⟩ := Deep.choose_lt each
    have hd : d = .slice ((List.range n).map fun i => .agg [D0 i, D1 i]) ((List.range (m - n)).map fun j => .agg [D0 (n + j), D1 (n + j)]) := (Prod.mk.inj hx).1
    have hbulk : Rows.uptoBulkAll ((List.range n).map fun i => (DataW.agg [D0 i, D1 i] : DataW H)) + 1 ≤ Rows.uptoBulk d := by
      rw [hd]; simp only [Rows.uptoBulk]; omega
    have hlen : ((List.range n).map X).length = n := by simp
    refine ⟨some a, m, (List.range n).map X, by rw [hlen], by rw [hlen]; exact hlc, ?_, ?_, ?_⟩
    · rw [hlen]
      refine ⟨hlen, by have : m ≤ maxLen := by assumption
                       simp only [maxLen] at this; omega, fun _ => ⟨a, rfl, fun j p hp => ?_⟩⟩
      have hj : j < n := by
        have := (List.getElem?_eq_some_iff.mp hp).1
        simpa using this
      have hpx : p = X j := by
        rw [List.getElem?_map, List.getElem?_range hj] at hp
        exact (Option.some.inj hp).symm
      subst hpx
      refine ⟨_, rfl, Q.k41_mk W (X j), fun i u hu => ?_⟩
      obtain ⟨g0, g1, _⟩ := hX j hj
      match i, hu with
      | 0, hu => obtain rfl := Option.some.inj hu; exact g0
      | 1, hu => obtain rfl := Option.some.inj hu; exact g1
    · rw [hlen]
      have := length_le ((List.range n).map fun i => (DataW.agg [D0 i, D1 i] : DataW H))
      simp only [List.length_map, List.length_range] at this
      omega
    · intro x hx'
      obtain ⟨i, hi, rfl⟩ := List.mem_map.mp hx'
      have hi' := List.mem_range.mp hi
      have h1 := part_le (H := H) (d := DataW.agg [D0 i, D1 i]) (l := (List.range n).map fun i => (DataW.agg [D0 i, D1 i] : DataW H)) (List.mem_map.mpr ⟨i, hi, rfl⟩)
      have h2 := (hX i hi').2.2
      rw [h2] at h1
      simp only [Rows.uptoBulk, Rows.uptoBulkAll] at h1
      have e : (X i).f1.data.toList.length = (X i).f1.size := by rw [Array.length_toList]; rfl
      omega
set_option maxRecDepth 100000 in
theorem lifted (os : Os) (started : os.Started) (H : Type) (enc : TypeId × Value → H) (F : Stop.Interp) :
    ReturnsInHanded {} Try.checked os 9 .any ((Rows.OpenSpec.upto Rows.condAsksSpec).pre6 enc Try.prog Try.f9 Rows.condAsksUptoRow.domain false) (((Rows.OpenSpec.upto Rows.condAsksSpec).at F).post enc Try.prog Try.f9 false true false false) := by
  refine Shaped.returnsInHanded_of_cond_shaped (C := Try.checked) (s := Rows.OpenSpec.upto Rows.condAsksSpec) (k := Rows.uptoSmall) rfl own started (by kernel_rfl) Try.func9
    (OpenSpec.witness (enc := enc) (C := Try.checked) (s := Rows.OpenSpec.upto Rows.condAsksSpec) (k := Rows.uptoSmall) rfl false ⟨#[], #[.slice none 0 0, .string .empty, .int .i64 0, .bool false], []⟩ 8 (by kernel_rfl) (by kernel_rfl) (by kernel_rfl)
      (x := ([.nil, .lit (.string []), .lit (.int .i64 0), .lit (.bool false)], [], [])) (by kernel_rfl) rfl (by kernel_rfl)) ?_
  intro W base args ds gs before hval0 hW hk hsh
  have hval : ∀ (j : Nat) t v, Try.f9.params[j]? = some t → args[j]? = some v → Value.okWide Try.prog W .any base t v := hval0
  have hW' := hW
  obtain ⟨p, q, hA0, hV, rfl, hfz, hnd⟩ := hW
  have hA : DataW.TrodAll enc Try.prog W 0 (fun _ => true) true Try.f9.params.toList args.toList ds p := hA0
  rw [Try.params9] at hA hval
  obtain ⟨v0, v1, v2, v3, d0, d1, d2, d3, p0, p1, p2, p3, rfl, rfl, rfl, h0, h1, h2, h3⟩ := trodAll_four hA
  obtain ⟨rfl, rfl⟩ := trodVars_none hV
  obtain ⟨a1, rfl, rfl, rfl, y1⟩ := open_string Try.underlying9 (hval 1 9 v1 rfl rfl) h1
  obtain ⟨a2, rfl, rfl, rfl, w2⟩ := open_int Try.underlying3 (hval 2 3 v2 rfl rfl) h2
  obtain ⟨a3, rfl, rfl, rfl⟩ := open_bool Try.underlying4 (hval 3 4 v3 rfl rfl) h3
  obtain ⟨A, c, l, rfl, hlc, hC, hb1, hb2⟩ := open_headers (okWide_slice Try.underlying42 (hval 0 42 v0 rfl rfl)) h0
  have hkb : Rows.uptoBulk d0 ≤ 1048576 := by
    have hk' : Rows.uptoBulkAll ([d0, .lit (.string a1.data.toList), .lit (.int .i64 a2), .lit (.bool a3)] ++ []) ≤ 1048576 := of_decide_eq_true hk
    simp only [List.append_nil, Rows.uptoBulkAll] at hk'
    omega
  have hG : Q.GOk W := Q.gok_start hsh
  obtain ⟨k, h⟩ := Pure.CondAsksUpto l a1 a2 a3 (by omega) (fun x hx => by have := hb2 x hx; omega)
  clear hA0 hval0
  have hlt : ∀ x ∈ p0, x.block < W.heap.size := fun x hx => by simpa using hW'.lt x (by simp [hx])
  refine (Q.stowagelaw21_CondAsks.calls k A c l a1 a2 a3 true W hC hlc hG h rfl).mono fun e W' ⟨he, bel⟩ => ?_
  subst he
  exact ⟨_, rfl, _, _, _, [], _, [], hW', trodAll_mk1 (shut_bool Try.underlying4 _), trodAll_mk4 (Below.trod laidOut (by kernel_rfl) (of_decide_eq_true (by kernel_rfl)) h0 bel hlt) (shut_string Try.underlying9 y1) (shut_int Try.underlying3 w2) (shut_bool Try.underlying4 _), rfl, bel.frame _, fun h => by cases h⟩
theorem over : Rows.condAsksUptoRow.holds Try.pinned (Rows.OpenSpec.upto Rows.condAsksSpec) :=
  OpenClaim.holds_of_cond 9 Try.f9 rfl rfl rfl rfl rfl rfl rfl ⟨rfl, rfl, rfl, rfl, rfl⟩ rfl rfl rfl rfl rfl (by kernel_rfl) Try.func9 (by kernel_rfl)
    (of_decide_eq_true (by kernel_rfl)) (by unfold Func.isWrapper; first | (rw [if_pos (by decide +kernel)]; kernel_rfl) | (rw [if_neg (by decide +kernel)]; exact ⟨rfl, rfl⟩))
    (fun os started H enc _ F => lifted os started H enc F)
end Go.Proofs.Ythjofhklkkmdoaa.condAsksUpto
namespace Go.Proofs.Ythjofhklkkmdoaa
theorem condAsksUpto_holds : Rows.CondAsksUptoSaid := condAsksUpto.over
end Go.Proofs.Ythjofhklkkmdoaa
