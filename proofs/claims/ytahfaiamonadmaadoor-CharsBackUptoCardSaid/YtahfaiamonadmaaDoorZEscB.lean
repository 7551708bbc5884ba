/- A part of the proof of the seat's laws. No condition beyond those in the theorems. -/
import Derived.Test.YtahfaiamonadmaaDoorZFoldB
import Derived.Test.YtahfaiamonadmaaDoorZQ6
import Derived.Test.YtahfaiamonadmaaDoorZQ56
import Derived.Test.YtahfaiamonadmaaDoorZQ55

namespace Go.Proofs.YtahfaiamonadmaaDoor.Pure
open Go.RowKit Go.Proofs.YtahfaiamonadmaaDoor.Q Go.Proofs.YtahfaiamonadmaaDoorW.PrintWords Go.Proofs.YtahfaiamonadmaaDoorW.PrintLast
set_option linter.unusedVariables false
set_option linter.unusedSimpArgs false
def mkB (c : UInt8) : Bool := [45, 46, 95, 126].contains c
theorem mk_bkey : ∀ n : Fin 256, stowageref3_in.f 20 (⟨#[45, 46, 95, 126]⟩ : ByteArray) (n.val : Int) = some (mkB (UInt8.ofNat n.val)) := by decide +kernel
theorem mk_b (c : UInt8) : Ev (fun k => stowageref3_in.f k (⟨#[45, 46, 95, 126]⟩ : ByteArray) (c.toNat : Int)) (mkB c) := by
  have h := mk_bkey ⟨c.toNat, c.toNat_lt⟩
  simp only [UInt8.ofNat_toNat] at h
  exact Ev.of (fun k => stowageref3_in.mono _ _ k) h
theorem keep_key : ∀ n : Fin 256, ∀ b : Bool, chars_Escape.keep (n.val : Int) b = (chars_Escape.let (n.val : Int) || mkB (UInt8.ofNat n.val) || (b && decide ((n.val : Int) = 47))) := by decide +kernel
theorem keep_eq (c : UInt8) (b : Bool) : chars_Escape.keep (c.toNat : Int) b = (alB c || mkB c || (b && decide ((c.toNat : Int) = 47))) := by
  have h := keep_key ⟨c.toNat, c.toNat_lt⟩ b
  simp only [UInt8.ofNat_toNat] at h
  exact h
theorem hex_cut : ∀ n : Fin 16, ((⟨#[48, 49, 50, 51, 52, 53, 54, 55, 56, 57, 65, 66, 67, 68, 69, 70]⟩ : ByteArray).extract n.val (n.val + 1)).toList = [chars_Escape.hex n.val] := by decide +kernel
theorem hex_cut' (n : Nat) (h : n < 16) : (⟨#[48, 49, 50, 51, 52, 53, 54, 55, 56, 57, 65, 66, 67, 68, 69, 70]⟩ : ByteArray).extract n (n + 1) = B [chars_Escape.hex n] := by
  apply toList_inj
  rw [B_toList]
  exact hex_cut ⟨n, h⟩
theorem esc_text (X : ByteArray → Option ByteArray) (acc : List UInt8) (c : UInt8) (ha : acc.length ≤ 100000000000000) : (if (B acc).size + 1 ≤ 9223372036854775807 then (if 0 ≤ ((Int.tdiv ((c.toNat : Int)) 16) % 256) then (if ((Int.tdiv ((c.toNat : Int)) 16) % 256) ≤ ((((Int.tdiv ((c.toNat : Int)) 16) % 256) + 1) % 256) then (if ((((Int.tdiv ((c.toNat : Int)) 16) % 256) + 1) % 256) ≤ 16 then (if ((B acc) ++ (⟨#[37]⟩ : ByteArray)).size + ((⟨#[48, 49, 50, 51, 52, 53, 54, 55, 56, 57, 65, 66, 67, 68, 69, 70]⟩ : ByteArray).extract (((Int.tdiv ((c.toNat : Int)) 16) % 256) : Int).toNat (((((Int.tdiv ((c.toNat : Int)) 16) % 256) + 1) % 256) : Int).toNat).size ≤ 9223372036854775807 then (if 0 ≤ (Int.tmod ((c.toNat : Int)) 16) then (if (Int.tmod ((c.toNat : Int)) 16) ≤ (((Int.tmod ((c.toNat : Int)) 16) + 1) % 256) then (if (((Int.tmod ((c.toNat : Int)) 16) + 1) % 256) ≤ 16 then (if (((B acc) ++ (⟨#[37]⟩ : ByteArray)) ++ ((⟨#[48, 49, 50, 51, 52, 53, 54, 55, 56, 57, 65, 66, 67, 68, 69, 70]⟩ : ByteArray).extract (((Int.tdiv ((c.toNat : Int)) 16) % 256) : Int).toNat (((((Int.tdiv ((c.toNat : Int)) 16) % 256) + 1) % 256) : Int).toNat)).size + ((⟨#[48, 49, 50, 51, 52, 53, 54, 55, 56, 57, 65, 66, 67, 68, 69, 70]⟩ : ByteArray).extract ((Int.tmod ((c.toNat : Int)) 16) : Int).toNat ((((Int.tmod ((c.toNat : Int)) 16) + 1) % 256) : Int).toNat).size ≤ 9223372036854775807 then (X ((((B acc) ++ (⟨#[37]⟩ : ByteArray)) ++ ((⟨#[48, 49, 50, 51, 52, 53, 54, 55, 56, 57, 65, 66, 67, 68, 69, 70]⟩ : ByteArray).extract (((Int.tdiv ((c.toNat : Int)) 16) % 256) : Int).toNat (((((Int.tdiv ((c.toNat : Int)) 16) % 256) + 1) % 256) : Int).toNat)) ++ ((⟨#[48, 49, 50, 51, 52, 53, 54, 55, 56, 57, 65, 66, 67, 68, 69, 70]⟩ : ByteArray).extract ((Int.tmod ((c.toNat : Int)) 16) : Int).toNat ((((Int.tmod ((c.toNat : Int)) 16) + 1) % 256) : Int).toNat))) else (none)) else (none)) else (none)) else (none)) else (none)) else (none)) else (none)) else (none)) else (none)) = X (B (acc ++ [37, chars_Escape.hex (c.toNat / 16), chars_Escape.hex (c.toNat % 16)])) := by
  have hc := c.toNat_lt
  have hA : (Int.tdiv (c.toNat : Int) 16) % 256 = ((c.toNat / 16 : Nat) : Int) := by rw [Int.tdiv_eq_ediv_of_nonneg (by omega)]; omega
  have hM : Int.tmod (c.toNat : Int) 16 = ((c.toNat % 16 : Nat) : Int) := by rw [Int.tmod_eq_emod_of_nonneg (by omega)]; omega
  have hA1 : (((c.toNat / 16 : Nat) : Int) + 1) % 256 = ((c.toNat / 16 + 1 : Nat) : Int) := by omega
  have hM1 : (((c.toNat % 16 : Nat) : Int) + 1) % 256 = ((c.toNat % 16 + 1 : Nat) : Int) := by omega
  have x1 := hex_cut' (c.toNat / 16) (by omega)
  have x2 := hex_cut' (c.toNat % 16) (by omega)
  have p37 : (⟨#[37]⟩ : ByteArray) = B [37] := rfl
  rw [hA, hM, hA1, hM1]
  simp only [Int.toNat_natCast]
  rw [x1, x2, p37, B_append, B_append, B_append]
  simp only [B_size, List.length_append, List.length_singleton]
  rw [if_pos (by omega), if_pos (by omega), if_pos (by omega), if_pos (by omega), if_pos (by omega), if_pos (by omega), if_pos (by omega), if_pos (by omega), if_pos (by omega)]
  simp
theorem resc_l0 (s : ByteArray) (b : Bool) (hs : s.size ≤ 1000000000000) (l : List UInt8) : ∀ pre acc : List UInt8, s.toList = pre ++ l → acc.length ≤ 3 * pre.length →
    Ev (fun k => stowageref3_Escape.l0 k s b (B acc) (pre.length : Int)) (B (acc ++ l.flatMap (chars_Escape.e b))) := by
  induction l with
  | nil =>
    intro pre acc h _
    have e := pre_end s pre h
    exact Ev.step (f := fun _ => some (B acc)) (fun k => by rw [stowageref3_Escape.l0, if_neg (by omega)]) (ev_eq (Ev.now _) (by simp))
  | cons c l ih =>
    intro pre acc h ha
    obtain ⟨hb, hl⟩ := bt_pre s _ l c h
    have hn := pre_next pre c s.size hl (by omega)
    have hone := one_of s pre l c h
    have hz : (B acc).size = acc.length := B_size acc
    have hz1 : (B [c]).size = 1 := B_size _
    have hlen : (pre ++ [c]).length = pre.length + 1 := by simp
    have happ := pre_app s _ l c h
    have hc := c.toNat_lt
    have keep : chars_Escape.keep (c.toNat : Int) b = true → Ev (fun k => stowageref3_Escape.l0 k s b (B (acc ++ [c])) ((pre ++ [c]).length : Int)) (B (acc ++ (c :: l).flatMap (chars_Escape.e b))) := fun g =>
      ev_eq (ih (pre ++ [c]) (acc ++ [c]) happ (by simp; omega)) (by rw [List.flatMap_cons, chars_Escape.e, if_pos g]; simp)
    have esc : ¬ chars_Escape.keep (c.toNat : Int) b = true → Ev (fun k => stowageref3_Escape.l0 k s b (B (acc ++ [37, chars_Escape.hex (c.toNat / 16), chars_Escape.hex (c.toNat % 16)])) ((pre ++ [c]).length : Int)) (B (acc ++ (c :: l).flatMap (chars_Escape.e b))) := fun g =>
      ev_eq (ih (pre ++ [c]) (acc ++ [37, chars_Escape.hex (c.toNat / 16), chars_Escape.hex (c.toNat % 16)]) happ (by simp; omega)) (by rw [List.flatMap_cons, chars_Escape.e, if_neg g]; simp)
    have hk := keep_eq c b
    have stepK : ∀ k : Nat, (if (pre.length : Int) ≤ wrap64 ((pre.length : Int) + 1) then (if wrap64 ((pre.length : Int) + 1) ≤ (s.size : Int) then (if (B acc).size + (s.extract ((pre.length : Int)).toNat (wrap64 ((pre.length : Int) + 1)).toNat).size ≤ 9223372036854775807 then stowageref3_Escape.l0 k s b (B acc ++ s.extract ((pre.length : Int)).toNat (wrap64 ((pre.length : Int) + 1)).toNat) (wrap64 ((pre.length : Int) + 1)) else none) else none) else none) = stowageref3_Escape.l0 k s b (B (acc ++ [c])) ((pre ++ [c]).length : Int) := by
      intro k
      rw [hn, hone, if_pos (by omega), if_pos (by omega), if_pos (by rw [hz, hz1]; omega), B_append]
    have stepE : ∀ k : Nat, _ = stowageref3_Escape.l0 k s b (B (acc ++ [37, chars_Escape.hex (c.toNat / 16), chars_Escape.hex (c.toNat % 16)])) ((pre ++ [c]).length : Int) := fun k => esc_text (fun t => stowageref3_Escape.l0 k s b t ((pre ++ [c]).length : Int)) acc c (by omega)
    by_cases hal : alB c = true
    · refine Ev.step (fun k => ?_) (keep (by rw [hk, hal]; rfl))
      rw [stowageref3_Escape.l0, if_pos (by omega), if_pos (by omega), hb, al_b, Option.bind_some, if_pos hal, stepK]
    · refine Ev.step (f := fun k => (stowageref3_in.f k (⟨#[45, 46, 95, 126]⟩ : ByteArray) (c.toNat : Int)).bind fun t => if t = true then stowageref3_Escape.l0 k s b (B (acc ++ [c])) ((pre ++ [c]).length : Int) else if (b && decide ((c.toNat : Int) = 47)) = true then stowageref3_Escape.l0 k s b (B (acc ++ [c])) ((pre ++ [c]).length : Int) else stowageref3_Escape.l0 k s b (B (acc ++ [37, chars_Escape.hex (c.toNat / 16), chars_Escape.hex (c.toNat % 16)])) ((pre ++ [c]).length : Int)) (fun k => ?_) (Ev.bind (mk_b c) ?_)
      · rw [stowageref3_Escape.l0, if_pos (by omega), if_pos (by omega), hb, al_b, Option.bind_some, if_neg hal]
        congr 1
        funext t
        simp only [stepK]
        rw [hn]
        cases t
        · simp only [Bool.false_eq_true, if_false]
          have e := stepE k
          cases b
          · simp only [Bool.false_eq_true, if_false, Bool.false_and]
            exact e
          · simp only [if_true, Bool.true_and, decide_eq_true_iff]
            by_cases g : (c.toNat : Int) = 47
            · rw [if_pos g, if_pos g]
            · rw [if_neg g, if_neg g]
              exact e
        · rfl
      · by_cases hm : mkB c = true
        · exact ev_pos hm (keep (by rw [hk, hm]; simp))
        · refine ev_neg hm ?_
          by_cases h47 : (b && decide ((c.toNat : Int) = 47)) = true
          · exact ev_pos h47 (keep (by rw [hk, h47]; simp))
          · exact ev_neg h47 (esc (by rw [hk]; simp only [Bool.not_eq_true] at hal hm h47; rw [hal, hm, h47]; decide))
theorem resc_ev (s : ByteArray) (b : Bool) (hs : s.size ≤ 1000000000000) : Ev (fun k => stowageref3_Escape.f k s b) (chars_Escape.s s b) := by
  have h := resc_l0 s b hs s.toList [] [] rfl (by simp)
  refine ev_eq h ?_
  rw [List.nil_append, chars_Escape.s, ByteArray.toList_eq]
  rfl
def digV (c : Int) : Int := if (chars_Unescape.dig c).2 = true then (chars_Unescape.dig c).1 else -1
theorem rdig_key : ∀ n : Fin 256, stowageref3_Digit.f 3 (n.val : Int) = some (digV (n.val : Int)) := by decide +kernel
theorem rdig_ev (c : Int) (h0 : 0 ≤ c) (h1 : c ≤ 255) : Ev (fun k => stowageref3_Digit.f k c) (digV c) := by
  obtain ⟨n, rfl⟩ := Int.eq_ofNat_of_zero_le h0
  exact Ev.of (fun k => stowageref3_Digit.mono _ k) (rdig_key ⟨n, by omega⟩)
theorem digV_neg (c : Int) : digV c < 0 ↔ (chars_Unescape.dig c).2 = false := by
  unfold digV
  have := chars_Unescape.dig_range c
  cases h : (chars_Unescape.dig c).2
  · simp
  · simp; omega
theorem digV_pos (c : Int) (h : (chars_Unescape.dig c).2 = true) : digV c = (chars_Unescape.dig c).1 := by unfold digV; rw [if_pos h]
theorem byte_of (n : Int) (h0 : 0 ≤ n) (h1 : n ≤ 255) : ((n.toNat.toUInt8).toNat : Int) = n := by
  rw [Nat.toUInt8, UInt8.toNat_ofNat']
  omega
theorem runesc_l0 (s : ByteArray) (hs : s.size ≤ 1000000000000) : ∀ (fuel pos : Nat) (acc : List UInt8), s.size ≤ pos + fuel → pos ≤ s.size → acc.length ≤ pos →
    Ev (fun k => stowageref3_Unescape.l0 k s (nm acc) (pos : Int)) (chars_Unescape.g s fuel pos acc) := by
  intro fuel
  induction fuel with
  | zero =>
    intro pos acc h hp ha
    refine Ev.step (f := fun _ => some (strOfNums (nm acc), true)) (fun k => by rw [stowageref3_Unescape.l0, if_neg (by omega)]) (ev_eq (Ev.now _) ?_)
    rw [nm_str, chars_Unescape.g]; rfl
  | succ fuel ih =>
    intro pos acc h hp ha
    by_cases hlt : pos < s.size
    · have hr := bt_range s (pos : Int)
      have w1 : wrap64 ((pos : Int) + 1) = (pos : Int) + 1 := w64 (by omega) (by omega)
      have w2 : wrap64 ((pos : Int) + 2) = (pos : Int) + 2 := w64 (by omega) (by omega)
      have w3 : wrap64 (((pos : Int) + 2) + 1) = ((pos + 3 : Nat) : Int) := by rw [w64 (by omega) (by omega)]; omega
      by_cases hc : bt s (pos : Int) = 37
      · have bad : ∀ f : Nat → Option (ByteArray × Bool), (∀ k, stowageref3_Unescape.l0 (k + 1) s (nm acc) (pos : Int) = f k) → Ev f (⟨#[]⟩, false) → Ev (fun k => stowageref3_Unescape.l0 k s (nm acc) (pos : Int)) (⟨#[]⟩, false) := fun f hf k => Ev.step hf k
        have j1t : Ev (fun k => stowageref3_Unescape.j1 k s (nm acc) (pos : Int) true) ((⟨#[]⟩ : ByteArray), false) := Ev.step (f := fun _ => some ((⟨#[]⟩ : ByteArray), false)) (fun k => by rw [stowageref3_Unescape.j1, if_pos rfl]) (Ev.now _)
        by_cases hsh : s.size ≤ pos + 2
        · rw [chars_Unescape.g_short s fuel pos acc hlt hc hsh]
          exact Ev.step (fun k => by rw [stowageref3_Unescape.l0, if_pos (by omega), if_pos (by omega), if_pos hc, w2, if_pos (by omega)]) j1t
        · have r1 := bt_range s ((pos : Int) + 1)
          have r2 := bt_range s ((pos : Int) + 2)
          have head : ∀ k, stowageref3_Unescape.l0 (k + 1) s (nm acc) (pos : Int) = (stowageref3_Digit.f k (bt s ((pos : Int) + 1))).bind fun t190 => (if t190 < 0 then (stowageref3_Unescape.j1 k s (nm acc) (pos : Int) true) else ((stowageref3_Digit.f k (bt s ((pos : Int) + 2))).bind fun t191 => (stowageref3_Unescape.j1 k s (nm acc) (pos : Int) (decide (t191 < 0))))) := by
            intro k
            rw [stowageref3_Unescape.l0, if_pos (by omega), if_pos (by omega), if_pos hc, w2, if_neg (by omega), w1, if_pos (by omega), if_pos (by omega)]
            congr 1
            funext t
            rw [if_pos (show (0 : Int) ≤ (pos : Int) + 2 by omega), if_pos (show (pos : Int) + 2 < (s.size : Int) by omega)]
          refine Ev.step head (Ev.bind (rdig_ev _ r1.1 r1.2) ?_)
          by_cases d1 : (chars_Unescape.dig (bt s ((pos : Int) + 1))).2 = true
          · refine ev_neg (by rw [digV_neg, d1]; decide) (Ev.bind (rdig_ev _ r2.1 r2.2) ?_)
            by_cases d2 : (chars_Unescape.dig (bt s ((pos : Int) + 2))).2 = true
            · rw [chars_Unescape.g_esc s fuel pos acc hlt hc hsh (by rw [d1, d2]; rfl)]
              have g1 := chars_Unescape.dig_range (bt s ((pos : Int) + 1))
              have g2 := chars_Unescape.dig_range (bt s ((pos : Int) + 2))
              have e1 := digV_pos _ d1
              have e2 := digV_pos _ d2
              have hv := byte_of ((chars_Unescape.dig (bt s ((pos : Int) + 1))).1 * 16 + (chars_Unescape.dig (bt s ((pos : Int) + 2))).1) (by omega) (by omega)
              have hf : decide (digV (bt s ((pos : Int) + 2)) < 0) = false := decide_eq_false (by rw [digV_neg, d2]; decide)
              rw [hf]
              refine Ev.step (f := fun k => (stowageref3_Digit.f k (bt s ((pos : Int) + 1))).bind fun t192 => ((stowageref3_Digit.f k (bt s ((pos : Int) + 2))).bind fun t193 => (stowageref3_Unescape.l0 k s (nm acc ++ [(wrap64 ((wrap64 (16 * t192)) + t193)) % 256]) ((pos + 3 : Nat) : Int)))) (fun k => ?_) (Ev.bind (rdig_ev _ r1.1 r1.2) (Ev.bind (rdig_ev _ r2.1 r2.2) ?_))
              · rw [stowageref3_Unescape.j1, if_neg (by decide), w1, w2, if_pos (by omega), if_pos (by omega)]
                congr 1
                funext t
                rw [if_pos (show (0 : Int) ≤ (pos : Int) + 2 by omega), if_pos (show (pos : Int) + 2 < (s.size : Int) by omega)]
                congr 1
                funext t'
                rw [if_pos (by rw [nm_len]; omega), w3]
              · rw [e1, e2]
                have ev : (wrap64 ((wrap64 (16 * (chars_Unescape.dig (bt s ((pos : Int) + 1))).1)) + (chars_Unescape.dig (bt s ((pos : Int) + 2))).1)) % 256 = ((((chars_Unescape.dig (bt s ((pos : Int) + 1))).1 * 16 + (chars_Unescape.dig (bt s ((pos : Int) + 2))).1).toNat.toUInt8).toNat : Int) := by
                  rw [hv, w64 (n := 16 * (chars_Unescape.dig (bt s ((pos : Int) + 1))).1) (by omega) (by omega), w64 (by omega) (by omega)]
                  omega
                rw [ev, nm_app]
                exact ih (pos + 3) _ (by omega) (by omega) (by simp; omega)
            · rw [chars_Unescape.g_bad s fuel pos acc hlt hc hsh (by rw [Bool.not_eq_true] at d2; rw [d2, Bool.and_false])]
              have hf : decide (digV (bt s ((pos : Int) + 2)) < 0) = true := decide_eq_true (by rw [digV_neg]; simpa using d2)
              rw [hf]
              exact j1t
          · rw [chars_Unescape.g_bad s fuel pos acc hlt hc hsh (by rw [Bool.not_eq_true] at d1; rw [d1, Bool.false_and])]
            exact ev_pos (by rw [digV_neg]; simpa using d1) j1t
      · rw [chars_Unescape.g_plain s fuel pos acc hlt hc]
        have hv := byte_of (bt s (pos : Int)) hr.1 hr.2
        refine Ev.step (f := fun k => stowageref3_Unescape.l0 k s (nm (acc ++ [(bt s (pos : Int)).toNat.toUInt8])) ((pos + 1 : Nat) : Int)) (fun k => ?_) (ih (pos + 1) _ (by omega) (by omega) (by simp; omega))
        rw [stowageref3_Unescape.l0, if_pos (by omega), if_pos (by omega), if_neg hc, if_pos (by rw [nm_len]; omega), w1, ← nm_app, hv]
        rfl
    · rw [chars_Unescape.g_end s (fuel + 1) pos acc hlt]
      refine Ev.step (f := fun _ => some (strOfNums (nm acc), true)) (fun k => by rw [stowageref3_Unescape.l0, if_neg (by omega)]) (ev_eq (Ev.now _) ?_)
      rw [nm_str]; rfl
theorem runesc_ev (s : ByteArray) (hs : s.size ≤ 1000000000000) : Ev (fun k => stowageref3_Unescape.f k s) (chars_Unescape.g s s.size 0 []) := runesc_l0 s hs s.size 0 [] (by omega) (by omega) (by simp)
end Go.Proofs.YtahfaiamonadmaaDoor.Pure
