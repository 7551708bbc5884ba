/- Whatever the rules, origin and method, the law CorsFirst answers true, and its arguments read behind the call as before. -/
import Derived.Test.YtiaihkcadffllaaRows
import Derived.Test.YtiaihkcadffllaaZFirstL
import Derived.Test.YtiaihkcadffllaaZOpenR
import Derived.SizedLaws
import Derived.WalkKit
import Derived.ProofKit
import Derived.OpenShut
import Derived.ShutString
import Derived.ChangeOld
import Derived.Below

namespace Go.Proofs.Ytiaihkcadffllaa.Q
open Go.RowKit Go.Proofs.YtiaihkcadffllaaW.PrintWords Go.Proofs.YtiaihkcadffllaaW.PrintLast Go.Proofs.YtiaihkcadffllaaW.PrintMore
set_option linter.unusedVariables false
set_option linter.unusedSimpArgs false
set_option maxHeartbeats 4000000 in
set_option maxRecDepth 100000 in
theorem corsFirst_many (A0 : Option Addr) (c0 : Nat) (l0 : List S28) (a1 a2 : ByteArray) (w : World) (hn : 40 < l0.length) (hl : l0.length ≤ 9223372036854775807) (ha : stowagelaw25_awake.f = some true) :
    Calls Try.prog 5 #[.slice A0 l0.length c0, .string a1, .string a2] w fun e w' => e = .returned (.bool true) ∧ Below w.heap.size w w' := by
  have c40 : decide ((l0.length : Int) > 40) = true := decide_eq_true (by omega)
  go_enter Try.func5, Try.ntmps5
  go_wp2_with (first | (go_at_call 9; (refine (stowagelaw25_awake.calls true _ ha).mono ?_); rintro e w10 ⟨rfl, ⟨nd, rfl⟩⟩))
  go_ret
  exact ⟨rfl, pw_below_drewN (Below.refl _ _) _⟩
end Go.Proofs.Ytiaihkcadffllaa.Q
namespace Go.Proofs.Ytiaihkcadffllaa.corsFirst
open Go.ChangeShapes Go.WideShapes Go.ChangeAt Go.RowKit Go.Proofs.YtiaihkcadffllaaW.PrintWords
open Go.ChangeMaps (open_string shut_string)
theorem own : ownKnob Try.prog.godebug = none := by kernel_rfl
theorem laidOut : laidOutB Try.prog = true := by kernel_rfl
theorem ev_all {α : Type} {g : Nat → Nat → Option α} {r : Nat → α} : ∀ n, (∀ i, i < n → Ev (g i) (r i)) → ∃ K, ∀ k, K ≤ k → ∀ i, i < n → g i k = some (r i)
  | 0, _ => ⟨0, fun _ _ i h => absurd h (Nat.not_lt_zero i)⟩
  | n + 1, h => by
    obtain ⟨K, hK⟩ := ev_all n (fun i hi => h i (by omega))
    obtain ⟨K', hK'⟩ := h n (by omega)
    refine ⟨max K K', fun k hk i hi => ?_⟩
    rcases Nat.lt_or_ge i n with c | c
    · exact hK k (by omega) i c
    · obtain rfl : i = n := by omega
      exact hK' k (by omega)
theorem rule_at (o m : ByteArray) (xs : List Q.S28) : ∀ (i : Nat) (r : Q.S28), xs[i]? = some r → (∀ j, j < i → ∀ x, xs[j]? = some x → Pure.fitB x o m [] = false) → Pure.fitB r o m [] = true → Pure.ruleB o m [] xs = (r, true) := by
  induction xs with
  | nil => intro i r h; simp at h
  | cons x xs ih =>
    intro i r h hj hr
    cases i with
    | zero =>
      simp only [List.getElem?_cons_zero, Option.some.injEq] at h
      subst h
      rw [Pure.ruleB, if_pos hr]
    | succ i =>
      rw [List.getElem?_cons_succ] at h
      have h0 := hj 0 (by omega) x rfl
      rw [Pure.ruleB, if_neg (by rw [h0]; simp)]
      exact ih i r h (fun j hj' y hy => hj (j + 1) (by omega) y (by rw [List.getElem?_cons_succ]; exact hy)) hr
theorem rule_none (o m : ByteArray) (xs : List Q.S28) (h : ∀ x ∈ xs, Pure.fitB x o m [] = false) : Pure.ruleB o m [] xs = (Q.z28, false) := by
  induction xs with
  | nil => rfl
  | cons x xs ih => rw [Pure.ruleB, if_neg (by rw [h x List.mem_cons_self]; simp)]; exact ih (fun y hy => h y (List.mem_cons_of_mem _ hy))
theorem held_aged (l : List Q.S28) (h : ∀ r ∈ l, Pure.HeldR r) : ∀ j, ∀ r ∈ Q.aged j l, Pure.HeldR r := by
  induction l with
  | nil => intro j r hr; cases hr
  | cons x l ih =>
    intro j r hr
    rw [Q.aged] at hr
    cases List.mem_cons.1 hr with
    | inl e => subst e; exact h x List.mem_cons_self
    | inr e => exact ih (fun y hy => h y (List.mem_cons_of_mem _ hy)) _ r e
theorem rd_get (xs : List Q.S28) (i : Nat) (x : Q.S28) (h : xs[i]? = some x) : Q.rd_T28 xs i = x := by
  rw [Q.rd_T28, Int.toNat_natCast, List.getD_eq_getElem?_getD, h]; rfl
theorem law (A0 : Option Addr) (c0 : Nat) (l0 : List Q.S28) (a1 a2 : ByteArray) (w : World) (hr0 : Kd.C Q.k28 w A0 l0.length l0) (hc0 : l0.length ≤ c0) (hl : l0.length * 104 ≤ 140737488351232) (hR : ∀ r ∈ l0, Pure.HeldR r) (ho : a1.size ≤ 140737488351232) :
    Calls Try.prog 5 #[.slice A0 l0.length c0, .string a1, .string a2] w fun e w' => e = .returned (.bool true) ∧ Below w.heap.size w w' := by
  rcases Nat.lt_or_ge 40 l0.length with hn | hn
  · exact Q.corsFirst_many A0 c0 l0 a1 a2 w hn (by omega) Pure.awake_eq
  have hH := held_aged l0 hR 0
  have hE : Pure.Held [] := ⟨by simp, fun s h => by cases h⟩
  have hal := Q.aged_len l0 0
  obtain ⟨k1, q1⟩ := Pure.rule_ev (Q.aged 0 l0) a1 a2 [] (by omega) hH hE ho
  have hget : ∀ i, i < l0.length → ∃ r, (Q.aged 0 l0)[i]? = some r ∧ r.f4 = ((i : Nat) : Int) + 1 := by
    intro i hi
    have := Q.aged_get l0 0 i _ (List.getElem?_eq_getElem hi)
    refine ⟨_, this, ?_⟩
    show ((0 + i + 1 : Nat) : Int) = _
    omega
  obtain ⟨k2, q2⟩ := ev_all (g := fun i k => Q.cors_Rule.f k [Q.rd_T28 (Q.aged 0 l0) i] a1 a2 []) (r := fun i => Pure.tup (Pure.ruleB a1 a2 [] [Q.rd_T28 (Q.aged 0 l0) i]).1 (Pure.ruleB a1 a2 [] [Q.rd_T28 (Q.aged 0 l0) i]).2) l0.length (fun i hi => by
    obtain ⟨r, hr, _⟩ := hget i hi
    refine Pure.rule_ev _ a1 a2 [] (by simp) (fun x hx => ?_) hE ho
    rw [List.mem_singleton.1 hx, rd_get _ i r hr]
    exact hH r (List.mem_of_getElem? hr))
  refine Q.corsFirst_walk (max k1 k2) A0 c0 l0 a1 a2 w hr0 hc0 hn _ _ _ _ _ _ (q1 _ (by omega)) (fun i => Pure.fitB (Q.rd_T28 (Q.aged 0 l0) i) a1 a2 []) ?_ ?_ ?_ Pure.awake_eq
  · intro i hi
    have q := q2 (max k1 k2) (by omega) i hi
    obtain ⟨r, hr, h4⟩ := hget i hi
    rw [rd_get _ i r hr] at q ⊢
    rw [Pure.ruleB, Pure.ruleB] at q
    by_cases c : Pure.fitB r a1 a2 [] = true
    · rw [if_pos c] at q
      rw [c]
      exact ⟨_, _, _, _, _, q, fun _ => h4⟩
    · rw [if_neg c] at q
      rw [Bool.eq_false_iff.mpr c]
      exact ⟨_, _, _, _, _, q, fun h => by cases h⟩
  · intro i hi hj hb
    obtain ⟨r, hr, h4⟩ := hget i hi
    rw [rd_get _ i r hr] at hb
    have e := rule_at a1 a2 (Q.aged 0 l0) i r hr (fun j hj' x hx => by
      have := hj j hj'
      rw [rd_get _ j x hx] at this
      exact this) hb
    rw [e]
    exact ⟨rfl, h4⟩
  · intro hj
    have e := rule_none a1 a2 (Q.aged 0 l0) (fun x hx => by
      obtain ⟨j, hj', e⟩ := List.getElem_of_mem hx
      have := hj j (by omega)
      rw [rd_get _ j x (by rw [← e]; exact List.getElem?_eq_getElem hj')] at this
      exact this)
    rw [e]
    exact ⟨rfl, rfl⟩
set_option maxRecDepth 100000 in
theorem lifted (os : Os) (started : os.Started) (H : Type) (enc : TypeId × Value → H) :
    ReturnsInHanded {} Try.checked os 5 .any (Rows.corsFirstSpec.pre6 enc Try.prog Try.f5 Rows.corsFirstRow.domain false) (Rows.corsFirstSpec.post enc Try.prog Try.f5 false true false false) := by
  refine returnsInHanded_of_change_sized (C := Try.checked) own started (by kernel_rfl) Try.func5
    (ChangeSpec.witness6 (enc := enc) (C := Try.checked) false ⟨#[], #[.slice none 0 0, .string ByteArray.empty, .string ByteArray.empty], []⟩ 8 (by kernel_rfl) (by kernel_rfl) (by kernel_rfl) (by kernel_rfl)) ?_
  intro W base args ds gs before hval0 hW hcnd hsz0 _
  have hsz : (DataW.weightsEach Try.prog (Try.f5.params.toList ++ Rows.corsFirstSpec.plain.varTypes Try.prog) (ds ++ gs)).all (· ≤ reachBytes) = true := hsz0
  have hval : ∀ (j : Nat) t v, Try.f5.params[j]? = some t → args[j]? = some v → Value.okWide Try.prog W .any base t v := hval0
  have hW' := hW
  obtain ⟨p, q, hA0, hV, rfl, hfz, hnd⟩ := hW
  have hA : DataW.TrodAll enc Try.prog W 0 (fun _ => true) true Try.f5.params.toList args.toList ds p := hA0
  rw [Try.params5] at hA hval hsz
  obtain ⟨v0, vs0, d0, ds0, p0, q0, hargs, rfl, rfl, h0, r0⟩ := trodAll_cons hA
  obtain ⟨v1, vs1, d1, ds1, p1, q1, rfl, rfl, rfl, h1, r1⟩ := trodAll_cons r0
  obtain ⟨v2, vs2, d2, ds2, p2, q2, rfl, rfl, rfl, h2, r2⟩ := trodAll_cons r1
  obtain ⟨rfl, rfl, rfl⟩ := trodAll_nil r2
  obtain rfl : args = #[v0, v1, v2] := by cases args; simp_all
  obtain ⟨rfl, rfl⟩ := trodVars_none hV
  obtain ⟨a1, rfl, rfl, rfl, y1⟩ := open_string Try.underlying9 (hval 1 9 v1 rfl rfl) h1
  have w1 : a1.size ≤ 140737488351232 := by
    have z := sized_string hsz (j := 1) (t := 9) rfl rfl
    rw [Array.length_toList] at z
    exact z
  obtain ⟨a2, rfl, rfl, rfl, y2⟩ := open_string Try.underlying9 (hval 2 9 v2 rfl rfl) h2
  obtain ⟨A0, c0, l0, rfl, hc0, hr0, hb0⟩ := Opn.open_arg Opn.wt25 (okWide_slice Try.underlying25 (hval 0 25 v0 rfl rfl)) h0
  obtain ⟨b1, b2⟩ := hb0 fun n hn => by
    have := List.all_eq_true.1 hsz n (DataW.weights_mem_each (j := 0) (t := 25) rfl rfl n hn)
    simpa using this
  clear hA0 hval0 hsz0 hsz
  have hlt : ∀ x ∈ p0, x.block < W.heap.size := fun x hx => by simpa using hW'.lt x (by simp [hx])
  refine (law A0 c0 l0 a1 a2 W hr0 hc0 b1 (fun r hr => (b2 r hr).1) w1).mono fun e W' ⟨he, bel⟩ => ?_
  subst he
  exact ⟨_, rfl, _, _, _, [], _, [], hW', trodAll_mk1 (shut_bool Try.underlying4 _), (trodAll_cons_mk (Below.trod laidOut (by kernel_rfl) (of_decide_eq_true (by kernel_rfl)) h0 bel hlt) (trodAll_cons_mk (shut_string Try.underlying9 y1) (trodAll_cons_mk (shut_string Try.underlying9 y2) trodAll_mk0))), rfl, bel.frame _, fun h => by cases h⟩
theorem over : Rows.corsFirstRow.holds Try.pinned (OpenSpec.ofChange Rows.corsFirstSpec) :=
  OpenClaim.holds_of_wide 5 Try.f5 rfl rfl rfl rfl rfl rfl rfl ⟨rfl, rfl, rfl, rfl, rfl⟩ rfl rfl rfl rfl rfl (by kernel_rfl) Try.func5 (by kernel_rfl)
    (of_decide_eq_true (by kernel_rfl)) (by unfold Func.isWrapper; first | (rw [if_pos (by decide +kernel)]; kernel_rfl) | (rw [if_neg (by decide +kernel)]; exact ⟨rfl, rfl⟩))
    (fun os started H enc _ => lifted os started H enc)
theorem proved : Rows.CorsFirstSaid := over
#print axioms proved
end Go.Proofs.Ytiaihkcadffllaa.corsFirst
namespace Go.Proofs.Ytiaihkcadffllaa
theorem corsFirst_holds : Rows.CorsFirstSaid := corsFirst.proved
end Go.Proofs.Ytiaihkcadffllaa
