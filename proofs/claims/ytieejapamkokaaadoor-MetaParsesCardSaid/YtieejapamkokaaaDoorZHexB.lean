/- A part of the proof of the seat's laws. No condition beyond those in the theorems. -/
import Derived.Test.YtieejapamkokaaaDoorZMetaB
import Derived.Test.YtieejapamkokaaaDoorZQ14g5

namespace Go.Proofs.YtieejapamkokaaaDoor.Pure
open Go.RowKit Go.Proofs.YtieejapamkokaaaDoor.Q Go.Proofs.YtieejapamkokaaaDoorW.PrintWords Go.Proofs.YtieejapamkokaaaDoorW.PrintLast Go.Proofs.YtieejapamkokaaaDoorW.PrintMore
set_option linter.unusedVariables false
set_option linter.unusedSimpArgs false
def hd (n : Nat) : UInt8 := [48, 49, 50, 51, 52, 53, 54, 55, 56, 57, 97, 98, 99, 100, 101, 102].getD n 0
def hx (c : UInt8) : List UInt8 := [hd (c.toNat / 16), hd (c.toNat % 16)]
theorem hd_bt : ∀ n : Fin 16, bt (⟨#[48, 49, 50, 51, 52, 53, 54, 55, 56, 57, 97, 98, 99, 100, 101, 102]⟩ : ByteArray) (n.val : Int) = ((hd n.val).toNat : Int) := by decide +kernel
theorem hd_bt' (n : Nat) (h : n < 16) : bt (⟨#[48, 49, 50, 51, 52, 53, 54, 55, 56, 57, 97, 98, 99, 100, 101, 102]⟩ : ByteArray) (n : Int) = ((hd n).toNat : Int) := hd_bt ⟨n, h⟩
theorem hd_cut : ∀ n : Fin 16, ((⟨#[48, 49, 50, 51, 52, 53, 54, 55, 56, 57, 97, 98, 99, 100, 101, 102]⟩ : ByteArray).extract n.val (n.val + 1)).toList = [hd n.val] := by decide +kernel
theorem digit_eq (n : Nat) (h : n < 16) : stowageref1_digit.f (n : Int) = some (B [hd n]) := by
  have e : wrap64 ((n : Int) + 1) = ((n + 1 : Nat) : Int) := by rw [w64 (by omega) (by omega)]; omega
  unfold stowageref1_digit.f
  rw [e, if_pos (by omega), if_pos (by omega), if_pos (by omega)]
  simp only [Int.toNat_natCast]
  congr 1
  apply toList_inj
  rw [B_toList]
  exact hd_cut ⟨n, h⟩
theorem hex_l0 (l : List UInt8) (hl : l.length ≤ 1000000000000) (m : List UInt8) : ∀ (pre acc : List UInt8), l = pre ++ m → acc.length = 2 * pre.length → Ev (fun k => enc_Hex.l0 k (nm acc) (nm l) ((nm l).length : Int) (pre.length : Int)) (B (acc ++ m.flatMap hx)) := by
  induction m with
  | nil =>
    intro pre acc h _
    have e : l.length = pre.length := by rw [h, List.append_nil]
    exact Ev.step (f := fun _ => some (strOfNums (nm acc))) (fun k => by rw [enc_Hex.l0, if_neg (by rw [nm_len]; omega)]) (ev_eq (Ev.now _) (by rw [nm_str]; simp))
  | cons c m ih =>
    intro pre acc h ha
    have hlen : l.length = pre.length + (m.length + 1) := by rw [h]; simp
    have hc := c.toNat_lt
    have hn : wrap64 ((pre.length : Int) + 1) = ((pre ++ [c]).length : Int) := by rw [w64 (by omega) (by omega)]; simp
    have hr := rd_nm l pre c m h
    have h15 : Go.bits .and .u8 (c.toNat : Int) 15 = ((c.toNat % 16 : Nat) : Int) := by rw [u8_and15 (x := (c.toNat : Int)) (by omega) (by omega)]; omega
    have h16 : (c.toNat : Int) / 16 = ((c.toNat / 16 : Nat) : Int) := by omega
    have hv : [((hd (c.toNat / 16)).toNat : Int), ((hd (c.toNat % 16)).toNat : Int)] = nm (hx c) := rfl
    have h' := ih (pre ++ [c]) (acc ++ hx c) (by rw [h]; simp) (by simp [hx]; omega)
    refine Ev.step (f := fun k => enc_Hex.l0 k (nm (acc ++ hx c)) (nm l) ((nm l).length : Int) ((pre ++ [c]).length : Int)) (fun k => ?_) (ev_eq h' (by rw [List.flatMap_cons, List.append_assoc]))
    rw [enc_Hex.l0, if_pos (by rw [nm_len]; omega), if_pos (by omega), if_pos (by rw [nm_len]; omega), hr, h15, h16, if_pos (by omega), if_pos (by omega), if_pos (by omega), if_pos (by omega), hd_bt' _ (by omega), hd_bt' _ (by omega), hv, Option.bind_some, if_pos (by rw [nm_len, nm_len]; simp [hx]; omega), hn]
    rw [show nm acc ++ nm (hx c) = nm (acc ++ hx c) by simp [nm]]
theorem hex_ev (l : List UInt8) (hl : l.length ≤ 1000000000000) : Ev (fun k => enc_Hex.f k (nm l)) (B (l.flatMap hx)) := by
  unfold enc_Hex.f
  have e : wrap64 (2 * ((nm l).length : Int)) = ((2 * l.length : Nat) : Int) := by rw [nm_len, w64 (by omega) (by omega)]; omega
  rw [e]
  refine ev_pos (by omega) (ev_pos (by omega) ?_)
  exact hex_l0 l hl l [] [] rfl rfl
theorem rhex_l0 (l : List UInt8) (hl : l.length ≤ 1000000000000) (m : List UInt8) : ∀ (pre acc : List UInt8), l = pre ++ m → acc.length = 2 * pre.length → Ev (fun k => stowageref1_Hex.l0 k (nm l) (B acc) (pre.length : Int)) (B (acc ++ m.flatMap hx)) := by
  induction m with
  | nil =>
    intro pre acc h _
    have e : l.length = pre.length := by rw [h, List.append_nil]
    exact Ev.step (f := fun _ => some (B acc)) (fun k => by rw [stowageref1_Hex.l0, if_neg (by rw [nm_len]; omega)]) (ev_eq (Ev.now _) (by simp))
  | cons c m ih =>
    intro pre acc h ha
    have hlen : l.length = pre.length + (m.length + 1) := by rw [h]; simp
    have hc := c.toNat_lt
    have hn : wrap64 ((pre.length : Int) + 1) = ((pre ++ [c]).length : Int) := by rw [w64 (by omega) (by omega)]; simp
    have hr := rd_nm l pre c m h
    have hw : wrap64 (c.toNat : Int) = (c.toNat : Int) := w64 (by omega) (by omega)
    have h16 : wrap64 (Int.tdiv (c.toNat : Int) 16) = ((c.toNat / 16 : Nat) : Int) := by rw [Int.tdiv_eq_ediv_of_nonneg (by omega), w64 (by omega) (by omega)]; omega
    have h15 : Int.tmod (c.toNat : Int) 16 = ((c.toNat % 16 : Nat) : Int) := by rw [Int.tmod_eq_emod_of_nonneg (by omega)]; omega
    have h' := ih (pre ++ [c]) (acc ++ hx c) (by rw [h]; simp) (by simp [hx]; omega)
    have hza : (B acc).size = acc.length := B_size acc
    have hz1 : ∀ d, (B [d]).size = 1 := fun d => B_size _
    refine Ev.step (f := fun k => stowageref1_Hex.l0 k (nm l) (B (acc ++ hx c)) ((pre ++ [c]).length : Int)) (fun k => ?_) (ev_eq h' (by rw [List.flatMap_cons, List.append_assoc]))
    rw [stowageref1_Hex.l0, if_pos (by rw [nm_len]; omega), if_pos (by omega), hr, hw, h16, h15, digit_eq _ (by omega), digit_eq _ (by omega), Option.bind_some, if_pos (by rw [hza, hz1]; omega), Option.bind_some, B_append, if_pos (by rw [B_size, hz1]; simp; omega), B_append, hn]
    simp [hx]
theorem rhex_ev (l : List UInt8) (hl : l.length ≤ 1000000000000) : Ev (fun k => stowageref1_Hex.f k (nm l)) (B (l.flatMap hx)) := rhex_l0 l hl l [] [] rfl rfl
end Go.Proofs.YtieejapamkokaaaDoor.Pure
