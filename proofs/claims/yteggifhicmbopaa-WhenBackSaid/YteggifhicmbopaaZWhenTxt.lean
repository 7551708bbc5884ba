/- A part of the proof of the seat's laws. No condition beyond those in the theorems. -/
import Derived.Test.YteggifhicmbopaaZWhenRef
import Derived.Test.YteggifhicmbopaaZQ28
import Derived.Test.YteggifhicmbopaaZQ29
import Derived.Test.YteggifhicmbopaaZQ27
import Derived.Test.YteggifhicmbopaaZQ7
import Derived.Test.YteggifhicmbopaaZQ6

namespace Go.Proofs.Yteggifhicmbopaa.Pure
open Go.RowKit Go.Proofs.Yteggifhicmbopaa.Q Go.Proofs.YteggifhicmbopaaW.PrintWords Go.Proofs.YteggifhicmbopaaW.PrintLast Cal
set_option linter.unusedVariables false
set_option linter.unusedSimpArgs false
def p1 (n : Int) : ByteArray := strOfNums [48 + n]
def p2 (n : Int) : ByteArray := strOfNums [48 + n / 10, 48 + n % 10]
def p4 (n : Int) : ByteArray := strOfNums [48 + n / 1000, 48 + n / 100 % 10, 48 + n / 10 % 10, 48 + n % 10]
theorem p2_size (n : Int) : (p2 n).size = 2 := rfl
theorem p4_size (n : Int) : (p4 n).size = 4 := rfl
theorem son_append (xs ys : List Int) : strOfNums xs ++ strOfNums ys = strOfNums (xs ++ ys) := by apply ByteArray.ext; simp [strOfNums, ByteArray.data_append]
theorem dg (n : Int) (h : 0 ≤ n) : (48 + ((Int.tmod n 10) % 256)) % 256 = 48 + n % 10 := by rw [tmod_pos h]; omega
theorem put2_ev (n : Int) (h0 : 0 ≤ n) (h1 : n ≤ 99) : Ev (fun k => when_put.f k n 2) (p2 n) := by
  refine Ev.congr (f := fun k => when_put.l0 k n [0, 0] 1) (fun k => by rw [when_put.f, if_pos (by omega), if_pos (by decide), w64 (by omega) (by omega)]; rfl) ?_
  refine Ev.step (f := fun k => when_put.l0 k (n / 10) [0, 48 + n % 10] 0) (fun k => ?_) ?_
  · rw [when_put.l0, dg n h0, tdiv_pos h0, w64 (n := n / 10) (by omega) (by omega), w64 (by omega) (by omega)]; rfl
  refine Ev.step (f := fun k => when_put.l0 k (n / 10 / 10) [48 + n / 10 % 10, 48 + n % 10] (-1)) (fun k => ?_) ?_
  · rw [when_put.l0, dg (n / 10) (by omega), tdiv_pos (by omega), w64 (n := n / 10 / 10) (by omega) (by omega), w64 (by omega) (by omega)]; rfl
  refine Ev.step (f := fun k => some (p2 n)) (fun k => ?_) (Ev.now _)
  rw [when_put.l0, if_neg (by omega), p2, show n / 10 % 10 = n / 10 by omega]
theorem put4_ev (n : Int) (h0 : 0 ≤ n) (h1 : n ≤ 9999) : Ev (fun k => when_put.f k n 4) (p4 n) := by
  refine Ev.congr (f := fun k => when_put.l0 k n [0, 0, 0, 0] 3) (fun k => by rw [when_put.f, if_pos (by omega), if_pos (by decide), w64 (by omega) (by omega)]; rfl) ?_
  refine Ev.step (f := fun k => when_put.l0 k (n / 10) [0, 0, 0, 48 + n % 10] 2) (fun k => ?_) ?_
  · rw [when_put.l0, dg n h0, tdiv_pos h0, w64 (n := n / 10) (by omega) (by omega), w64 (by omega) (by omega)]; rfl
  refine Ev.step (f := fun k => when_put.l0 k (n / 10 / 10) [0, 0, 48 + n / 10 % 10, 48 + n % 10] 1) (fun k => ?_) ?_
  · rw [when_put.l0, dg (n / 10) (by omega), tdiv_pos (by omega), w64 (n := n / 10 / 10) (by omega) (by omega), w64 (by omega) (by omega)]; rfl
  refine Ev.step (f := fun k => when_put.l0 k (n / 10 / 10 / 10) [0, 48 + n / 10 / 10 % 10, 48 + n / 10 % 10, 48 + n % 10] 0) (fun k => ?_) ?_
  · rw [when_put.l0, dg (n / 10 / 10) (by omega), tdiv_pos (by omega), w64 (n := n / 10 / 10 / 10) (by omega) (by omega), w64 (by omega) (by omega)]; rfl
  refine Ev.step (f := fun k => when_put.l0 k (n / 10 / 10 / 10 / 10) [48 + n / 10 / 10 / 10 % 10, 48 + n / 10 / 10 % 10, 48 + n / 10 % 10, 48 + n % 10] (-1)) (fun k => ?_) ?_
  · rw [when_put.l0, dg (n / 10 / 10 / 10) (by omega), tdiv_pos (by omega), w64 (n := n / 10 / 10 / 10 / 10) (by omega) (by omega), w64 (by omega) (by omega)]; rfl
  refine Ev.step (f := fun k => some (p4 n)) (fun k => ?_) (Ev.now _)
  rw [when_put.l0, if_neg (by omega), p4, show n / 10 / 10 / 10 % 10 = n / 1000 by omega, show n / 10 / 10 % 10 = n / 100 % 10 by omega]
theorem rdigit_all : ∀ i : Fin 10, stowageref1_digit.f (i.val : Int) = some (p1 i.val) := by decide +kernel
theorem rdigit_eq (n : Int) (h0 : 0 ≤ n) (h1 : n ≤ 9) : stowageref1_digit.f n = some (p1 n) := by
  have h := rdigit_all ⟨n.toNat, by omega⟩
  rw [show (((⟨n.toNat, by omega⟩ : Fin 10).val : Nat) : Int) = n by show ((n.toNat : Nat) : Int) = n; omega] at h
  exact h
theorem text_more (n : Int) (s r : ByteArray) (h0 : 9 < n) (h1 : n ≤ 9999) (hs : s.size ≤ 100) (h : Ev (fun k => stowageref1_Text.l0 k (n / 10) (p1 (n % 10) ++ s)) r) : Ev (fun k => stowageref1_Text.l0 k n s) r := by
  refine Ev.step (f := fun k => _) (fun k => by rw [stowageref1_Text.l0, if_pos (by omega), tmod_pos (by omega), rdigit_eq (n % 10) (by omega) (by omega), Option.bind_some, if_pos (by rw [show (p1 (n % 10)).size = 1 from rfl]; omega), tdiv_pos (by omega), w64 (n := n / 10) (by omega) (by omega)]) h
theorem text_last (n : Int) (s : ByteArray) (h0 : 0 ≤ n) (h1 : n ≤ 9) (hs : s.size ≤ 100) : Ev (fun k => stowageref1_Text.l0 k n s) (p1 n ++ s) :=
  Ev.step (f := fun _ => some (p1 n ++ s)) (fun k => by rw [stowageref1_Text.l0, if_neg (by omega), rdigit_eq n h0 h1, Option.bind_some, if_pos (by rw [show (p1 n).size = 1 from rfl]; omega)]) (Ev.now _)
theorem p1_nil (n : Int) : p1 n ++ (⟨#[]⟩ : ByteArray) = p1 n := by apply ByteArray.ext; simp [ByteArray.data_append]
theorem text_start (n : Int) (r : ByteArray) (h0 : 0 ≤ n) (h : Ev (fun k => stowageref1_Text.l0 k n ⟨#[]⟩) r) : Ev (fun k => stowageref1_Text.f k n) r :=
  Ev.step (f := fun k => _) (fun k => by rw [stowageref1_Text.f, if_neg (by omega)]) h
theorem wide2_ev (n : Int) (h0 : 0 ≤ n) (h1 : n ≤ 99) : Ev (fun k => stowageref4_wide.f k n 2) (p2 n) := by
  by_cases c : n ≤ 9
  · refine Ev.bind (text_start n (p1 n) h0 (ev_eq (text_last n _ h0 c (by decide)) (p1_nil n))) ?_
    refine Ev.step (f := fun k => stowageref4_wide.l0 k 2 (p2 n)) (fun k => ?_) ?_
    · rw [stowageref4_wide.l0, if_pos (by rw [show (p1 n).size = 1 from rfl]; decide), if_pos (by rw [show (p1 n).size = 1 from rfl]; decide)]
      rw [show (⟨#[48]⟩ : ByteArray) = strOfNums [48] from rfl, p1, son_append, p2, show n / 10 = 0 by omega, show n % 10 = n by omega]; rfl
    · exact Ev.step (f := fun _ => some _) (fun k => by rw [stowageref4_wide.l0, if_neg (by rw [p2_size]; decide)]) (Ev.now _)
  · refine Ev.bind (a := p2 n) (text_start n _ h0 (text_more n _ _ (by omega) (by omega) (by decide) (ev_eq (text_last (n / 10) _ (by omega) (by omega) (by rw [p1_nil]; show 1 ≤ 100; omega)) ?_))) ?_
    · rw [p1_nil, p1, p1, son_append]; rfl
    · exact Ev.step (f := fun _ => some _) (fun k => by rw [stowageref4_wide.l0, if_neg (by rw [p2_size]; decide)]) (Ev.now _)
theorem wide4_ev (n : Int) (h0 : 1000 ≤ n) (h1 : n ≤ 9999) : Ev (fun k => stowageref4_wide.f k n 4) (p4 n) := by
  refine Ev.bind (a := p4 n) (text_start n _ (by omega) (text_more n _ _ (by omega) (by omega) (by decide) (text_more (n / 10) _ _ (by omega) (by omega) (by rw [p1_nil]; show 1 ≤ 100; omega) (text_more (n / 10 / 10) _ _ (by omega) (by omega) (by rw [p1_nil, p1, p1, son_append]; show 2 ≤ 100; omega) (ev_eq (text_last (n / 10 / 10 / 10) _ (by omega) (by omega) (by rw [p1_nil, p1, p1, p1, son_append, son_append]; show 3 ≤ 100; omega)) ?_))))) ?_
  · rw [p1_nil, p1, p1, p1, p1, son_append, son_append, son_append, p4, show n / 10 / 10 / 10 = n / 1000 by omega, show n / 10 / 10 % 10 = n / 100 % 10 by omega]; rfl
  · exact Ev.step (f := fun _ => some _) (fun k => by rw [stowageref4_wide.l0, if_neg (by rw [p4_size]; decide)]) (Ev.now _)
theorem empty_out : (⟨#[]⟩ : ByteArray).toList = [] := by kernel_rfl
end Go.Proofs.Yteggifhicmbopaa.Pure
