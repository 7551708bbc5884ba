/- For all rules, origins, methods and headers of a bulk that the row bounds the law CorsRules answers true, and its arguments read behind the call as before. -/
import Derived.Test.YtiaihkcadffllaaRows
import Derived.Test.YtiaihkcadffllaaZRulesL
import Derived.Test.YtiaihkcadffllaaZOpenR
import Derived.Test.YtiaihkcadffllaaZPureCorsMatches
import Derived.JoinedCond
import Derived.WalkKit
import Derived.ProofKit
import Derived.OpenShut
import Derived.ShutString
import Derived.ChangeOld
import Derived.Below

namespace Go.Proofs.Ytiaihkcadffllaa.corsRulesUpto
open Go.ChangeShapes Go.WideShapes Go.ChangeAt Go.RowKit Go.Proofs.YtiaihkcadffllaaW.PrintWords
open Go.ChangeMaps (open_string shut_string)
theorem own : ownKnob Try.prog.godebug = none := by kernel_rfl
theorem laidOut : laidOutB Try.prog = true := by kernel_rfl
theorem pure_ (l : List Q.S28) (o m : ByteArray) (hs : List ByteArray) (hn : l.length ≤ 1048576) (hl : ∀ r ∈ l, Pure.bulkR r ≤ 1048576 ∧ (Lit.int .i64 r.f4).wf = true) (hh : Pure.bulkL hs ≤ 1048576) (ho : o.size ≤ 1048576) :
    ∃ k, Q.cors_Rule.f k l o m hs = some (Pure.tup (Pure.ruleB o m hs l).1 (Pure.ruleB o m hs l).2) ∧ Q.stowageref25_Rule.f k l o m hs = some (Pure.tup (Pure.ruleB o m hs l).1 (Pure.ruleB o m hs l).2) ∧ Q.stowageref12_SameRules.f k [(Pure.ruleB o m hs l).1] [(Pure.ruleB o m hs l).1] = some true := by
  have hR : ∀ r ∈ l, Pure.HeldR r := fun r h => Pure.bulk_heldR r (hl r h).1
  have hH := Pure.bulk_held hs hh
  obtain ⟨k1, q1⟩ := Pure.rule_ev l o m hs (by omega) hR hH (by omega)
  obtain ⟨k2, q2⟩ := Pure.rrule_ev l o m hs (by omega) hR hH (by omega)
  have hz : ∀ l : List Q.S28, (∀ r ∈ l, Pure.bulkR r ≤ 1048576 ∧ (Lit.int .i64 r.f4).wf = true) → Pure.bulkR (Pure.ruleB o m hs l).1 ≤ 1048576 ∧ (Lit.int .i64 (Pure.ruleB o m hs l).1.f4).wf = true := by
    intro l
    induction l with
    | nil => intro _; exact ⟨show Pure.bulkR Q.z28 ≤ 1048576 by decide, show (Lit.int .i64 0).wf = true by decide⟩
    | cons r l ih =>
      intro h
      rw [Pure.ruleB]
      by_cases c : Pure.fitB r o m hs = true
      · rw [if_pos c]; exact h r List.mem_cons_self
      · rw [if_neg c]; exact ih (fun x hx => h x (List.mem_cons_of_mem _ hx))
  obtain ⟨b1, b2⟩ := hz l hl
  obtain ⟨k3, q3⟩ := Pure.sameOne_ev _ b1 (Pure.wf_bd b2)
  exact ⟨max k1 (max k2 k3), q1 _ (by omega), q2 _ (by omega), q3 _ (by omega)⟩
set_option maxRecDepth 100000 in
theorem lifted (os : Os) (started : os.Started) (H : Type) (enc : TypeId × Value → H) (F : Stop.Interp) :
    ReturnsInHanded {} Try.checked os 6 .any ((Rows.OpenSpec.upto Rows.corsRulesSpec).pre6 enc Try.prog Try.f6 Rows.corsRulesUptoRow.domain false) (((Rows.OpenSpec.upto Rows.corsRulesSpec).at F).post enc Try.prog Try.f6 false true false false) := by
  refine returnsInHanded_of_cond (C := Try.checked) (s := Rows.OpenSpec.upto Rows.corsRulesSpec) (k := Rows.uptoSmall) rfl own started (by kernel_rfl) Try.func6
    (OpenSpec.witness (enc := enc) (C := Try.checked) (s := Rows.OpenSpec.upto Rows.corsRulesSpec) (k := Rows.uptoSmall) rfl false ⟨#[], #[.slice none 0 0, .string .empty, .string .empty, .slice none 0 0], []⟩ 8 (by kernel_rfl) (by kernel_rfl) (by kernel_rfl)
      (x := ([.nil, .lit (.string []), .lit (.string []), .nil], [], [])) (by kernel_rfl) rfl (by kernel_rfl)) ?_
  intro W base args ds gs before hval0 hW _ hk _
  have hval : ∀ (j : Nat) t v, Try.f6.params[j]? = some t → args[j]? = some v → Value.okWide Try.prog W .any base t v := hval0
  have hW' := hW
  obtain ⟨p, q, hA0, hV, rfl, hfz, hnd⟩ := hW
  have hA : DataW.TrodAll enc Try.prog W 0 (fun _ => true) true Try.f6.params.toList args.toList ds p := hA0
  rw [Try.params6] at hA hval
  obtain ⟨v0, v1, v2, v3, d0, d1, d2, d3, p0, p1, p2, p3, rfl, rfl, rfl, h0, h1, h2, h3⟩ := trodAll_four hA
  obtain ⟨rfl, rfl⟩ := trodVars_none hV
  obtain ⟨a1, rfl, rfl, rfl, y1⟩ := open_string Try.underlying9 (hval 1 9 v1 rfl rfl) h1
  obtain ⟨a2, rfl, rfl, rfl, y2⟩ := open_string Try.underlying9 (hval 2 9 v2 rfl rfl) h2
  obtain ⟨A0, c0, l0, rfl, hc0, hr0, hb0⟩ := Opn.open_arg Opn.up25 (okWide_slice Try.underlying25 (hval 0 25 v0 rfl rfl)) h0
  obtain ⟨A3, c3, l3, rfl, hc3, hr3, hb3⟩ := Opn.open_arg Opn.up26 (okWide_slice Try.underlying26 (hval 3 26 v3 rfl rfl)) h3
  have hkb : Rows.uptoBulk d0 ≤ 1048576 ∧ Rows.uptoBulk d3 ≤ 1048576 ∧ a1.size ≤ 1048576 := by
    have hk' : Rows.uptoBulkAll ([d0, .lit (.string a1.data.toList), .lit (.string a2.data.toList), d3] ++ []) ≤ 1048576 := of_decide_eq_true hk
    simp only [List.append_nil, Rows.uptoBulkAll, Rows.uptoBulk] at hk'
    have e : a1.data.toList.length = a1.size := by rw [Array.length_toList]; rfl
    omega
  have hb0' := hb0.2
  have hb3' := hb3.2
  have hlen := Opn.msz_len Pure.bulkR l0 (fun r => by have := Pure.bulkL_len r.f0; simp only [Pure.bulkR]; omega)
  obtain ⟨k, q1, q2, q3⟩ := pure_ l0 a1 a2 l3 (by omega) (fun r hr => ⟨by have := Opn.msz_mem Pure.bulkR l0 r hr; omega, hb0.1 r hr⟩) (by omega) (by omega)
  clear hA0 hval0
  have hlt : ∀ x ∈ p0, x.block < W.heap.size := fun x hx => by simpa using hW'.lt x (by simp [hx])
  have hlt3 : ∀ x ∈ p3, x.block < W.heap.size := fun x hx => by simpa using hW'.lt x (by simp [hx])
  refine (Q.corsRules_walk k A0 c0 l0 a1 a2 A3 c3 l3 _ _ _ _ _ _ _ _ _ _ _ W hr0 hc0 hr3 hc3 q1 q2 q3 Pure.awake_eq).mono fun e W' ⟨he, bel⟩ => ?_
  subst he
  exact ⟨_, rfl, _, _, _, [], _, [], hW', trodAll_mk1 (shut_bool Try.underlying4 _), trodAll_mk4 (Below.trod laidOut (by kernel_rfl) (of_decide_eq_true (by kernel_rfl)) h0 bel hlt) (shut_string Try.underlying9 y1) (shut_string Try.underlying9 y2) (Below.trod laidOut (by kernel_rfl) (of_decide_eq_true (by kernel_rfl)) h3 bel hlt3), rfl, bel.frame _, fun h => by cases h⟩
theorem over : Rows.corsRulesUptoRow.holds Try.pinned (Rows.OpenSpec.upto Rows.corsRulesSpec) :=
  OpenClaim.holds_of_cond 6 Try.f6 rfl rfl rfl rfl rfl rfl rfl ⟨rfl, rfl, rfl, rfl, rfl⟩ rfl rfl rfl rfl rfl (by kernel_rfl) Try.func6 (by kernel_rfl)
    (of_decide_eq_true (by kernel_rfl)) (by unfold Func.isWrapper; first | (rw [if_pos (by decide +kernel)]; kernel_rfl) | (rw [if_neg (by decide +kernel)]; exact ⟨rfl, rfl⟩))
    (fun os started H enc _ F => lifted os started H enc F)
end Go.Proofs.Ytiaihkcadffllaa.corsRulesUpto
namespace Go.Proofs.Ytiaihkcadffllaa
theorem corsRulesUpto_holds : Rows.CorsRulesUptoSaid := corsRulesUpto.over
end Go.Proofs.Ytiaihkcadffllaa
