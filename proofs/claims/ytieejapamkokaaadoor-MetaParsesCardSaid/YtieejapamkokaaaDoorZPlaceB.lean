/- A part of the proof of the seat's laws. No condition beyond those in the theorems. -/
import Derived.Test.YtieejapamkokaaaDoorZMetaB
import Derived.Test.YtieejapamkokaaaDoorZHexB
import Derived.Test.YtieejapamkokaaaDoorZQ0g7
import Derived.Test.YtieejapamkokaaaDoorZQ7g7
import Derived.Test.YtieejapamkokaaaDoorZQ14g5

namespace Go.Proofs.YtieejapamkokaaaDoor.Pure
open Go.RowKit Go.Proofs.YtieejapamkokaaaDoor.Q Go.Proofs.YtieejapamkokaaaDoorW.PrintWords Go.Proofs.YtieejapamkokaaaDoorW.PrintLast Go.Proofs.YtieejapamkokaaaDoorW.PrintMore
set_option linter.unusedVariables false
set_option linter.unusedSimpArgs false
def longK (c : UInt8) (a k : ByteArray) (n : Nat) : ByteArray := (((((B [c]) ++ a) ++ (B [0])) ++ k) ++ (B [0])) ++ B (beL 8 n)
def oseq (n : Int) : Nat := 9223372036854775807 - pos0 n
theorem b1 (c : UInt8) : (B [c]).size = 1 := B_size _
theorem b8 (n : Nat) : (B (beL 8 n)).size = 8 := by rw [B_size, beL_len]
theorem bucketKey_eq (a : ByteArray) (h : a.size ≤ 1000000000000000) : meta_BucketKey.f a = some (B [66] ++ a) := by
  unfold meta_BucketKey.f
  rw [if_pos (by omega)]
  rfl
theorem rbucketKey_eq (a : ByteArray) (h : a.size ≤ 1000000000000000) : stowageref12_BucketKey.f a = some (B [66] ++ a) := by
  unfold stowageref12_BucketKey.f
  rw [if_pos (by omega)]
  rfl
theorem oseq_eq (n : Int) (h1 : n ≤ 9223372036854775807) : wrap64 (9223372036854775807 - mx n 0) = (oseq n : Int) ∧ pos0 (oseq n : Int) = oseq n := by
  obtain ⟨_, h2, h3⟩ := mx_pos n h1
  unfold oseq
  refine ⟨?_, by unfold pos0; omega⟩
  rw [h3, w63 (by omega) (by omega)]
  omega
theorem objectKey_ev (a k : ByteArray) (n : Int) (ha : a.size ≤ 1000000000000000) (hk : k.size ≤ 1000000000000000) (hn : n ≤ 9223372036854775807) : Ev (fun f => meta_ObjectKey.f f a k n) (longK 79 a k (oseq n)) := by
  obtain ⟨e, e2⟩ := oseq_eq n hn
  have hp := mput_ev (oseq n : Int) (by unfold oseq; omega)
  rw [e2] at hp
  unfold meta_ObjectKey.f
  simp only [ByteArray.size_append]
  refine ev_pos (by omega) (ev_pos (by have := b1 79; have : (⟨#[79]⟩ : ByteArray).size = 1 := rfl; omega) (ev_pos (by have : (⟨#[79]⟩ : ByteArray).size = 1 := rfl; have : (⟨#[0]⟩ : ByteArray).size = 1 := rfl; omega) (ev_pos (by have : (⟨#[79]⟩ : ByteArray).size = 1 := rfl; have : (⟨#[0]⟩ : ByteArray).size = 1 := rfl; omega) ?_)))
  rw [e]
  exact Ev.bind hp (ev_pos (by have := b8 (oseq n); have : (⟨#[79]⟩ : ByteArray).size = 1 := rfl; have : (⟨#[0]⟩ : ByteArray).size = 1 := rfl; omega) (Ev.now _))
theorem robjectKey_eq (a k : ByteArray) (n : Int) (ha : a.size ≤ 1000000000000000) (hk : k.size ≤ 1000000000000000) (hn : n ≤ 9223372036854775807) : stowageref12_ObjectKey.f a k n = some (longK 79 a k (oseq n)) := by
  obtain ⟨e, e2⟩ := oseq_eq n hn
  have hp := rmput_eq (oseq n : Int) (by unfold oseq; omega)
  rw [e2] at hp
  unfold stowageref12_ObjectKey.f
  have z79 : (⟨#[79]⟩ : ByteArray).size = 1 := rfl
  have z0 : (⟨#[0]⟩ : ByteArray).size = 1 := rfl
  have z8 := b8 (oseq n)
  simp only [ByteArray.size_append]
  rw [if_pos (by omega), if_pos (by omega), if_pos (by omega), if_pos (by omega), e, hp, Option.bind_some, if_pos (by omega)]
  rfl
theorem uploadKey_ev (a k : ByteArray) (n : Int) (ha : a.size ≤ 1000000000000000) (hk : k.size ≤ 1000000000000000) (hn : n ≤ 9223372036854775807) : Ev (fun f => meta_UploadKey.f f a k n) (longK 85 a k (pos0 n)) := by
  have hp := mput_ev n hn
  have z85 : (⟨#[85]⟩ : ByteArray).size = 1 := rfl
  have z0 : (⟨#[0]⟩ : ByteArray).size = 1 := rfl
  have z8 := b8 (pos0 n)
  unfold meta_UploadKey.f
  simp only [ByteArray.size_append]
  refine ev_pos (by omega) (ev_pos (by omega) (ev_pos (by omega) (ev_pos (by omega) ?_)))
  exact Ev.bind hp (ev_pos (by omega) (Ev.now _))
theorem ruploadKey_eq (a k : ByteArray) (n : Int) (ha : a.size ≤ 1000000000000000) (hk : k.size ≤ 1000000000000000) (hn : n ≤ 9223372036854775807) : stowageref12_UploadKey.f a k n = some (longK 85 a k (pos0 n)) := by
  have hp := rmput_eq n hn
  have z85 : (⟨#[85]⟩ : ByteArray).size = 1 := rfl
  have z0 : (⟨#[0]⟩ : ByteArray).size = 1 := rfl
  have z8 := b8 (pos0 n)
  unfold stowageref12_UploadKey.f
  simp only [ByteArray.size_append]
  rw [if_pos (by omega), if_pos (by omega), if_pos (by omega), if_pos (by omega), hp, Option.bind_some, if_pos (by omega)]
  rfl
def partK (n m : Nat) : ByteArray := (B [80] ++ B (beL 8 n)) ++ B (beL 8 m)
theorem partKey_ev (n m : Int) (hn : n ≤ 9223372036854775807) (hm : m ≤ 9223372036854775807) : Ev (fun f => meta_PartKey.f f n m) (partK (pos0 n) (pos0 m)) := by
  have z80 : (⟨#[80]⟩ : ByteArray).size = 1 := rfl
  have z8 := b8 (pos0 n)
  have z8' := b8 (pos0 m)
  unfold meta_PartKey.f
  refine Ev.bind (mput_ev n hn) (ev_pos (by omega) (Ev.bind (mput_ev m hm) (ev_pos (by rw [ByteArray.size_append]; omega) (Ev.now _))))
theorem rpartKey_eq (n m : Int) (hn : n ≤ 9223372036854775807) (hm : m ≤ 9223372036854775807) : stowageref12_PartKey.f n m = some (partK (pos0 n) (pos0 m)) := by
  have z80 : (⟨#[80]⟩ : ByteArray).size = 1 := rfl
  have z8 := b8 (pos0 n)
  have z8' := b8 (pos0 m)
  unfold stowageref12_PartKey.f
  rw [rmput_eq n hn, Option.bind_some, if_pos (by omega), rmput_eq m hm, Option.bind_some, if_pos (by rw [ByteArray.size_append]; omega)]
  rfl
def idK (n : Nat) : ByteArray := B ((beL 8 n).flatMap hx)
theorem id_ev (n : Int) (hn : n ≤ 9223372036854775807) : Ev (fun f => meta_ID.f f n) (idK (pos0 n)) := by
  unfold meta_ID.f
  rw [(mx_pos n hn).1]
  exact Ev.bind (put_ev _) (Ev.bind (hex_ev _ (by rw [beL_len]; omega)) (Ev.now _))
theorem rid_ev (n : Int) (hn : n ≤ 9223372036854775807) : Ev (fun f => stowageref12_ID.f f n) (idK (pos0 n)) := by
  have hp := mx_pos n hn
  unfold stowageref12_ID.f
  rw [hp.1]
  exact ev_some (rput_eq _ (by omega)) (Ev.bind (rhex_ev _ (by rw [beL_len]; omega)) (Ev.now _))
end Go.Proofs.YtieejapamkokaaaDoor.Pure
