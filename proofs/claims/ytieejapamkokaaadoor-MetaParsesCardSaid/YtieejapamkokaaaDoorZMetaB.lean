/- A part of the proof of the seat's laws. No condition beyond those in the theorems. -/
import Derived.Test.YtieejapamkokaaaDoorZLexB
import Derived.Test.YtieejapamkokaaaDoorZCharsB
import Derived.Laws.BitsLemmas
import Derived.Laws.Bits64
import Derived.Test.YtieejapamkokaaaDoorZQ0g7
import Derived.Test.YtieejapamkokaaaDoorZQ7g7
import Derived.Test.YtieejapamkokaaaDoorZQ45g7
import Derived.Test.YtieejapamkokaaaDoorZQ71g4
import Derived.Test.YtieejapamkokaaaDoorZQ62g4

namespace Go.Proofs.YtieejapamkokaaaDoor.Pure
open Go.RowKit Go.Proofs.YtieejapamkokaaaDoor.Q Go.Proofs.YtieejapamkokaaaDoorW.PrintWords Go.Proofs.YtieejapamkokaaaDoorW.PrintLast Go.Proofs.YtieejapamkokaaaDoorW.PrintMore
set_option linter.unusedVariables false
set_option linter.unusedSimpArgs false
theorem w63 {n : Int} (h : -9223372036854775808 ≤ n) (h' : n ≤ 9223372036854775807) : wrap64 n = n := by unfold wrap64; omega
theorem awake_k : stowagelaw12_awake.f 60 = some true := by decide +kernel
theorem awake_ev : Ev (fun k => stowagelaw12_awake.f k) true := Ev.of (fun k => stowagelaw12_awake.mono k) awake_k
theorem aw_ev : Ev (fun k => (stowagelaw12_awake.f k).bind fun t => some t) true := Ev.bind awake_ev (Ev.now true)
theorem u8n (m : Nat) : ((m % 256).toUInt8.toNat : Int) = ((m % 256 : Nat) : Int) := by
  rw [Nat.toUInt8, UInt8.toNat_ofNat']
  omega
theorem put_key (n : Nat) : enc_Put64.f 12 (n : Int) = some (nm (beL 8 n)) := by
  have e : nm (beL 8 n) = [(n : Int) / 72057594037927936 % 256, (n : Int) / 281474976710656 % 256, (n : Int) / 1099511627776 % 256, (n : Int) / 4294967296 % 256, (n : Int) / 16777216 % 256, (n : Int) / 65536 % 256, (n : Int) / 256 % 256, (n : Int) / 1 % 256] := by
    simp only [nm, beL, List.map_cons, List.map_nil, u8n]
    simp
  rw [e]
  simp [enc_Put64.f, enc_Put64.l0, wrap64, shr, IntKind.bits, List.replicate]
theorem put_ev (n : Nat) : Ev (fun k => enc_Put64.f k (n : Int)) (nm (beL 8 n)) := Ev.of (fun k => enc_Put64.mono _ k) (put_key n)
theorem rput_eq (n : Nat) (h : n < 18446744073709551616) : stowageref1_Put64.f (n : Int) = some (nm (beL 8 n)) := by
  have e : nm (beL 8 n) = [(n : Int) / 72057594037927936 % 256, (n : Int) / 281474976710656 % 256, (n : Int) / 1099511627776 % 256, (n : Int) / 4294967296 % 256, (n : Int) / 16777216 % 256, (n : Int) / 65536 % 256, (n : Int) / 256 % 256, (n : Int) / 1 % 256] := by
    simp only [nm, beL, List.map_cons, List.map_nil, u8n]
    simp
  rw [e]
  simp only [stowageref1_Put64.f, stowageref1_Four.f, Option.bind_some, List.length_nil, List.length_cons, List.nil_append]
  rw [if_pos (by omega), if_pos (by omega)]
  simp only [List.cons_append, List.nil_append, Option.some.injEq, List.cons.injEq, and_true]
  refine ⟨?_, ?_, ?_, ?_, ?_, ?_, ?_, ?_⟩ <;> omega
def pos0 (a : Int) : Nat := a.toNat
theorem mx_pos (a : Int) (h : a ≤ 9223372036854775807) : IntKind.u64.wrap (mx a 0) = (pos0 a : Int) ∧ pos0 a ≤ 9223372036854775807 ∧ mx a 0 = (pos0 a : Int) := by
  have e : mx a 0 = (pos0 a : Int) := by unfold mx pos0; split <;> omega
  refine ⟨?_, by unfold pos0; omega, e⟩
  rw [e, IntKind.wrap_u64]
  unfold pos0
  omega
theorem mput_ev (a : Int) (h : a ≤ 9223372036854775807) : Ev (fun k => meta_put.f k a) (B (beL 8 (pos0 a))) := by
  unfold meta_put.f
  rw [(mx_pos a h).1]
  exact Ev.bind (put_ev _) (ev_eq (Ev.now _) (nm_str _))
theorem rmput_eq (a : Int) (h : a ≤ 9223372036854775807) : stowageref12_put.f a = some (B (beL 8 (pos0 a))) := by
  unfold stowageref12_put.f
  have hp := mx_pos a h
  rw [hp.1, rput_eq _ (by omega), Option.bind_some, nm_str]
def val (l : List UInt8) : Nat := l.foldl (fun a c => a * 256 + c.toNat) 0
theorem rd_nm (l pre : List UInt8) (c : UInt8) (m : List UInt8) (h : l = pre ++ c :: m) : rd (nm l) (pre.length : Int) = (c.toNat : Int) := by
  subst h
  simp [rd, nm]
theorem get_l0 (l : List UInt8) (hl : l.length = 8) (m : List UInt8) : ∀ (pre : List UInt8) (v : Nat), l = pre ++ m → v < 256 ^ pre.length → Ev (fun k => enc_Get64.l0 k (v : Int) (nm l) ((nm l).length : Int) (pre.length : Int)) (((m.foldl (fun a c => a * 256 + c.toNat) v : Nat) : Int), true) := by
  induction m with
  | nil =>
    intro pre v h _
    have e : l.length = pre.length := by rw [h, List.append_nil]
    exact Ev.step (f := fun _ => some ((v : Int), true)) (fun k => by rw [enc_Get64.l0, if_neg (by rw [nm_len]; omega)]) (Ev.now _)
  | cons c m ih =>
    intro pre v h hv
    have hlen : l.length = pre.length + (m.length + 1) := by rw [h]; simp
    have hc := c.toNat_lt
    have hle : 256 ^ pre.length ≤ 256 ^ 7 := Nat.pow_le_pow_right (by omega) (by omega)
    have hn : wrap64 ((pre.length : Int) + 1) = ((pre ++ [c]).length : Int) := by rw [w64 (by omega) (by omega)]; simp
    have hb : Go.bits .or .u64 (IntKind.u64.wrap ((v : Int) * 256)) (IntKind.u64.wrap (c.toNat : Int)) = ((v * 256 + c.toNat : Nat) : Int) := by
      have e1 : IntKind.u64.wrap ((v : Int) * 256) = (v : Int) * 256 := by rw [IntKind.wrap_u64]; omega
      have e2 : IntKind.u64.wrap (c.toNat : Int) = (c.toNat : Int) := by rw [IntKind.wrap_u64]; omega
      rw [e1, e2]
      have := bits_join .u64 64 (by decide) (fun n h0 h1 => by rw [IntKind.wrap_u64]; omega) 8 ((v : Int) * 256) (c.toNat : Int) (by omega) (by omega) (by omega) (by omega) (by omega) (by omega)
      rw [this]
      omega
    refine Ev.step (fun k => ?_) (ih (pre ++ [c]) (v * 256 + c.toNat) (by rw [h]; simp) ?_)
    · rw [enc_Get64.l0, if_pos (by rw [nm_len]; omega), if_pos (by omega), if_pos (by rw [nm_len]; omega), rd_nm l pre c m h, hb, hn]
    · rw [List.length_append, List.length_singleton, Nat.pow_succ]
      have : (v + 1) * 256 ≤ 256 ^ pre.length * 256 := Nat.mul_le_mul_right _ hv
      omega
theorem rget_l0 (l : List UInt8) (hl : l.length = 8) (m : List UInt8) : ∀ (pre : List UInt8) (v : Nat), l = pre ++ m → v < 256 ^ pre.length → Ev (fun k => stowageref1_Get64.l0 k (nm l) (v : Int) (pre.length : Int)) (((m.foldl (fun a c => a * 256 + c.toNat) v : Nat) : Int), true) := by
  induction m with
  | nil =>
    intro pre v h _
    have e : l.length = pre.length := by rw [h, List.append_nil]
    exact Ev.step (f := fun _ => some ((v : Int), true)) (fun k => by rw [stowageref1_Get64.l0, if_neg (by omega)]) (Ev.now _)
  | cons c m ih =>
    intro pre v h hv
    have hlen : l.length = pre.length + (m.length + 1) := by rw [h]; simp
    have hc := c.toNat_lt
    have hle : 256 ^ pre.length ≤ 256 ^ 7 := Nat.pow_le_pow_right (by omega) (by omega)
    have hn : wrap64 ((pre.length : Int) + 1) = ((pre ++ [c]).length : Int) := by rw [w64 (by omega) (by omega)]; simp
    have hb : IntKind.u64.wrap ((IntKind.u64.wrap (256 * (v : Int))) + (IntKind.u64.wrap (c.toNat : Int))) = ((v * 256 + c.toNat : Nat) : Int) := by
      rw [IntKind.wrap_u64, IntKind.wrap_u64, IntKind.wrap_u64]
      omega
    refine Ev.step (fun k => ?_) (ih (pre ++ [c]) (v * 256 + c.toNat) (by rw [h]; simp) ?_)
    · rw [stowageref1_Get64.l0, if_pos (by omega), if_pos (by omega), if_pos (by rw [nm_len]; omega), rd_nm l pre c m h, hb, hn]
    · rw [List.length_append, List.length_singleton, Nat.pow_succ]
      have : (v + 1) * 256 ≤ 256 ^ pre.length * 256 := Nat.mul_le_mul_right _ hv
      omega
theorem val_lt (m : List UInt8) : ∀ v j : Nat, v < 256 ^ j → m.foldl (fun a c => a * 256 + c.toNat) v < 256 ^ (j + m.length) := by
  induction m with
  | nil => intro v j h; simpa using h
  | cons c m ih =>
    intro v j h
    rw [List.foldl_cons]
    have hc := c.toNat_lt
    have : (v + 1) * 256 ≤ 256 ^ j * 256 := Nat.mul_le_mul_right _ h
    have := ih (v * 256 + c.toNat) (j + 1) (by rw [Nat.pow_succ]; omega)
    rw [show j + (c :: m).length = j + 1 + m.length by rw [List.length_cons]; omega]
    exact this
theorem val8 (l : List UInt8) (hl : l.length = 8) : val l < 18446744073709551616 := by
  have := val_lt l 0 0 (by decide)
  rw [hl] at this
  exact this
def getR (l : List UInt8) : Int × Bool := if l.length = 8 ∧ val l ≤ 9223372036854775807 then ((val l : Int), true) else (0, false)
theorem bytes_nm (s : ByteArray) : bytesOf s = nm s.toList := by rw [ByteArray.toList_eq]; rfl
theorem mget_ev (s : ByteArray) (h : s.size ≤ 140737488351232) : Ev (fun k => meta_get.f k s) (getR s.toList) := by
  have hz := length_toList s
  unfold meta_get.f getR
  refine ev_pos h ?_
  rw [bytes_nm]
  by_cases g : s.toList.length = 8
  · have h8 := val8 _ g
    have : Ev (fun k => enc_Get64.f k (nm s.toList)) ((val s.toList : Int), true) := by
      unfold enc_Get64.f
      refine ev_pos (by rw [nm_len]; omega) ?_
      exact get_l0 s.toList g s.toList [] 0 rfl (by decide)
    refine Ev.bind this (ev_pos rfl ?_)
    by_cases c : val s.toList ≤ 9223372036854775807
    · refine ev_neg (show ¬ ((val s.toList : Int) > 9223372036854775807) by omega) (ev_eq (Ev.now _) ?_)
      rw [if_pos (show s.toList.length = 8 ∧ val s.toList ≤ 9223372036854775807 from ⟨g, c⟩), w63 (by simp only; omega) (by simp only; omega)]
    · refine ev_pos (show (val s.toList : Int) > 9223372036854775807 by omega) (ev_eq (Ev.now _) ?_)
      rw [if_neg (show ¬ (s.toList.length = 8 ∧ val s.toList ≤ 9223372036854775807) from fun h => c h.2)]
  · rw [if_neg (fun h => g h.1)]
    have : Ev (fun k => enc_Get64.f k (nm s.toList)) ((0 : Int), false) := by
      unfold enc_Get64.f
      exact ev_neg (by rw [nm_len]; omega) (Ev.now _)
    exact Ev.bind this (ev_neg (by decide) (Ev.now _))
theorem rmget_ev (s : ByteArray) (h : s.size ≤ 140737488351232) : Ev (fun k => stowageref12_get.f k s) (getR s.toList) := by
  have hz := length_toList s
  unfold stowageref12_get.f getR
  refine ev_pos h ?_
  rw [bytes_nm]
  by_cases g : s.toList.length = 8
  · have h8 := val8 _ g
    have : Ev (fun k => stowageref1_Get64.f k (nm s.toList)) ((val s.toList : Int), true) := by
      unfold stowageref1_Get64.f
      refine ev_pos (by rw [nm_len]; omega) ?_
      exact rget_l0 s.toList g s.toList [] 0 rfl (by decide)
    refine Ev.bind this (ev_pos rfl ?_)
    by_cases c : val s.toList ≤ 9223372036854775807
    · refine ev_neg (show ¬ ((val s.toList : Int) > 9223372036854775807) by omega) (ev_eq (Ev.now _) ?_)
      rw [if_pos (show s.toList.length = 8 ∧ val s.toList ≤ 9223372036854775807 from ⟨g, c⟩), w63 (by simp only; omega) (by simp only; omega)]
    · refine ev_pos (show (val s.toList : Int) > 9223372036854775807 by omega) (ev_eq (Ev.now _) ?_)
      rw [if_neg (show ¬ (s.toList.length = 8 ∧ val s.toList ≤ 9223372036854775807) from fun h => c h.2)]
  · rw [if_neg (fun h => g h.1)]
    have : Ev (fun k => stowageref1_Get64.f k (nm s.toList)) ((0 : Int), false) := by
      unfold stowageref1_Get64.f
      exact ev_neg (by rw [nm_len]; omega) (Ev.now _)
    exact Ev.bind this (ev_neg (by decide) (Ev.now _))
theorem val_beL (k n : Nat) : ∀ v, (beL k n).foldl (fun a c => a * 256 + c.toNat) v = v * 256 ^ k + n % 256 ^ k := by
  induction k with
  | zero => intro v; simp [beL, Nat.mod_one]
  | succ k ih =>
    intro v
    have e : (n / 256 ^ k % 256).toUInt8.toNat = n / 256 ^ k % 256 := by rw [Nat.toUInt8, UInt8.toNat_ofNat']; omega
    rw [beL, List.foldl_cons, ih, e, mod_split k n, Nat.add_mul, Nat.pow_succ, Nat.mul_assoc, Nat.mul_comm 256 (256 ^ k)]
    omega
theorem val_put (n : Nat) (h : n < 18446744073709551616) : val (beL 8 n) = n := by
  have := val_beL 8 n 0
  rw [Nat.zero_mul, Nat.zero_add, Nat.mod_eq_of_lt h] at this
  exact this
end Go.Proofs.YtieejapamkokaaaDoor.Pure
