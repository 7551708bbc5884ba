/- A part of the proof of the seat's laws. No condition beyond those in the theorems. -/
import Derived.Test.YtfjidcmegacibaaDoorZEvB

namespace Go.Proofs.YtfjidcmegacibaaDoor.Pure
open Go.RowKit Go.Proofs.YtfjidcmegacibaaDoorW.PrintWords
set_option linter.unusedVariables false
set_option linter.unusedSimpArgs false
def B (l : List UInt8) : ByteArray := ⟨l.toArray⟩
theorem B_toList (l : List UInt8) : (B l).toList = l := by rw [ByteArray.toList_eq]; rfl
theorem of_B (s : ByteArray) : B s.toList = s := toList_inj (B_toList _)
theorem B_size (l : List UInt8) : (B l).size = l.length := by rw [← length_toList, B_toList]
theorem B_extract (l : List UInt8) (i j : Nat) : (B l).extract i j = B ((l.take j).drop i) := by
  apply toList_inj
  rw [toList_extract, B_toList, B_toList]
theorem B_append (a b : List UInt8) : B a ++ B b = B (a ++ b) := by
  apply toList_inj
  rw [toList_append, B_toList, B_toList, B_toList]
theorem B_inj {a b : List UInt8} (h : B a = B b) : a = b := by
  have := congrArg ByteArray.toList h
  rwa [B_toList, B_toList] at this
theorem bt_B (l : List UInt8) (i : Nat) (c : UInt8) (h : l[i]? = some c) : bt (B l) (i : Int) = (c.toNat : Int) := by
  obtain ⟨hi, e⟩ := List.getElem?_eq_some_iff.mp h
  have hi' : i < (B l).toList.length := by rw [B_toList]; exact hi
  rw [bt_get _ i hi']
  simp only [B_toList, e]
theorem toNat_eq {c d : UInt8} : (c.toNat : Int) = (d.toNat : Int) ↔ c = d := by
  constructor
  · intro h; exact UInt8.toNat_inj.mp (Int.ofNat_inj.mp h)
  · intro h; rw [h]
end Go.Proofs.YtfjidcmegacibaaDoor.Pure
