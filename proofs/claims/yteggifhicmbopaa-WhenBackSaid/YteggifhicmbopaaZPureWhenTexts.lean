/- A part of the proof of the seat's laws. No condition beyond those in the theorems. -/
import Derived.Test.YteggifhicmbopaaZWhenTxt
import Derived.Test.YteggifhicmbopaaZQ30

namespace Go.Proofs.Yteggifhicmbopaa.Pure
open Go.RowKit Go.Proofs.Yteggifhicmbopaa.Q Go.Proofs.YteggifhicmbopaaW.PrintWords Go.Proofs.YteggifhicmbopaaW.PrintLast Cal
set_option linter.unusedVariables false
set_option linter.unusedSimpArgs false
theorem z1 (a : UInt8) : (⟨#[a]⟩ : ByteArray).size = 1 := rfl
theorem z2 (a b : UInt8) : (⟨#[a, b]⟩ : ByteArray).size = 2 := rfl
theorem z4 (a b c d : UInt8) : (⟨#[a, b, c, d]⟩ : ByteArray).size = 4 := rfl
theorem z5 (a b c d e : UInt8) : (⟨#[a, b, c, d, e]⟩ : ByteArray).size = 5 := rfl
def dayT (y m d : Int) : ByteArray := (p4 y ++ p2 m) ++ p2 d
def basicT (y m d h mi s : Int) : ByteArray := (((((dayT y m d) ++ (⟨#[84]⟩ : ByteArray)) ++ p2 h) ++ p2 mi) ++ p2 s) ++ (⟨#[90]⟩ : ByteArray)
theorem dayT_size (y m d : Int) : (dayT y m d).size = 8 := rfl
theorem basicT_size (y m d h mi s : Int) : (basicT y m d h mi s).size = 16 := rfl
structure Date6 (y m d h mi s : Int) : Prop where
  v : ∃ n, Valid y m d n
  h0 : 0 ≤ h
  h1 : h ≤ 23
  mi0 : 0 ≤ mi
  mi1 : mi ≤ 59
  s0 : 0 ≤ s
  s1 : s ≤ 59
theorem Date6.bd {y m d h mi s : Int} (D : Date6 y m d h mi s) : 1970 ≤ y ∧ y ≤ 9999 ∧ 1 ≤ m ∧ m ≤ 12 ∧ 1 ≤ d ∧ d ≤ 31 := by
  obtain ⟨n, v⟩ := D.v
  have := size_bd y m
  exact ⟨v.y0, v.y1, v.m0, v.m1, v.d0, by have := v.d1; omega⟩
theorem iso_ev (t : Int) (y m d h mi s : Int) (D : Date6 y m d h mi s) (he : Ev (fun k => when_Civil.f k t) (y, m, d, h, mi, s, true)) (he' : Ev (fun k => stowageref4_Civil.f k t) (y, m, d, h, mi, s, true)) :
    ∃ r, Ev (fun k => when_Iso.f k t) r ∧ Ev (fun k => stowageref4_Iso.f k t) r := by
  have b := D.bd
  have := D.h0; have := D.h1; have := D.mi0; have := D.mi1; have := D.s0; have := D.s1
  refine ⟨(((((((((((p4 y ++ (⟨#[45]⟩ : ByteArray)) ++ p2 m) ++ (⟨#[45]⟩ : ByteArray)) ++ p2 d) ++ (⟨#[84]⟩ : ByteArray)) ++ p2 h) ++ (⟨#[58]⟩ : ByteArray)) ++ p2 mi) ++ (⟨#[58]⟩ : ByteArray)) ++ p2 s) ++ (⟨#[46, 48, 48, 48, 90]⟩ : ByteArray)), ?_, ?_⟩
  · simp only [when_Iso.f]
    refine Ev.bind he ?_
    dsimp only
    refine ev_pos rfl ?_
    repeat (first | with_reducible refine Ev.bind (put4_ev y (by omega) (by omega)) ?_ | with_reducible refine Ev.bind (put2_ev m (by omega) (by omega)) ?_ | with_reducible refine Ev.bind (put2_ev d (by omega) (by omega)) ?_ | with_reducible refine Ev.bind (put2_ev h (by omega) (by omega)) ?_ | with_reducible refine Ev.bind (put2_ev mi (by omega) (by omega)) ?_ | with_reducible refine Ev.bind (put2_ev s (by omega) (by omega)) ?_ | with_reducible refine ev_pos (by simp only [ByteArray.size_append, p4_size, p2_size, z1, z5]; decide) ?_)
    exact Ev.now _
  · simp only [stowageref4_Iso.f]
    refine Ev.bind he' ?_
    dsimp only
    refine ev_pos rfl ?_
    repeat (first | with_reducible refine Ev.bind (wide4_ev y (by omega) (by omega)) ?_ | with_reducible refine Ev.bind (wide2_ev m (by omega) (by omega)) ?_ | with_reducible refine Ev.bind (wide2_ev d (by omega) (by omega)) ?_ | with_reducible refine Ev.bind (wide2_ev h (by omega) (by omega)) ?_ | with_reducible refine Ev.bind (wide2_ev mi (by omega) (by omega)) ?_ | with_reducible refine Ev.bind (wide2_ev s (by omega) (by omega)) ?_ | with_reducible refine ev_pos (by simp only [ByteArray.size_append, p4_size, p2_size, z1, z5]; decide) ?_)
    exact Ev.now _
theorem day_ev (t : Int) (y m d h mi s : Int) (D : Date6 y m d h mi s) (he : Ev (fun k => when_Civil.f k t) (y, m, d, h, mi, s, true)) : Ev (fun k => when_Day.f k t) (dayT y m d) := by
  have b := D.bd
  simp only [when_Day.f]
  refine Ev.bind he ?_
  dsimp only
  refine ev_pos rfl ?_
  repeat (first | with_reducible refine Ev.bind (put4_ev y (by omega) (by omega)) ?_ | with_reducible refine Ev.bind (put2_ev m (by omega) (by omega)) ?_ | with_reducible refine Ev.bind (put2_ev d (by omega) (by omega)) ?_ | with_reducible refine ev_pos (by simp only [ByteArray.size_append, p4_size, p2_size, z1, z5]; decide) ?_)
  exact Ev.now _
theorem basic_ev (t : Int) (y m d h mi s : Int) (D : Date6 y m d h mi s) (he : Ev (fun k => when_Civil.f k t) (y, m, d, h, mi, s, true)) : Ev (fun k => when_Basic.f k t) (basicT y m d h mi s) := by
  have b := D.bd
  have := D.h0; have := D.h1; have := D.mi0; have := D.mi1; have := D.s0; have := D.s1
  simp only [when_Basic.f]
  refine Ev.bind he ?_
  dsimp only
  refine ev_pos rfl ?_
  refine Ev.bind (day_ev t y m d h mi s D he) ?_
  repeat (first | with_reducible refine Ev.bind (put2_ev h (by omega) (by omega)) ?_ | with_reducible refine Ev.bind (put2_ev mi (by omega) (by omega)) ?_ | with_reducible refine Ev.bind (put2_ev s (by omega) (by omega)) ?_ | with_reducible refine ev_pos (by simp only [ByteArray.size_append, dayT_size, p2_size, z1, z5]; decide) ?_)
  exact Ev.now _
theorem rbasic_ev (t : Int) (y m d h mi s : Int) (D : Date6 y m d h mi s) (he : Ev (fun k => stowageref4_Civil.f k t) (y, m, d, h, mi, s, true)) : Ev (fun k => stowageref4_Basic.f k t) (basicT y m d h mi s) := by
  have b := D.bd
  have := D.h0; have := D.h1; have := D.mi0; have := D.mi1; have := D.s0; have := D.s1
  simp only [stowageref4_Basic.f]
  refine Ev.bind he ?_
  dsimp only
  refine ev_pos rfl ?_
  repeat (first | with_reducible refine Ev.bind (wide4_ev y (by omega) (by omega)) ?_ | with_reducible refine Ev.bind (wide2_ev m (by omega) (by omega)) ?_ | with_reducible refine Ev.bind (wide2_ev d (by omega) (by omega)) ?_ | with_reducible refine Ev.bind (wide2_ev h (by omega) (by omega)) ?_ | with_reducible refine Ev.bind (wide2_ev mi (by omega) (by omega)) ?_ | with_reducible refine Ev.bind (wide2_ev s (by omega) (by omega)) ?_ | with_reducible refine ev_pos (by simp only [ByteArray.size_append, p4_size, p2_size, z1, z5]; decide) ?_)
  exact Ev.now _
theorem rday_ev (t : Int) (y m d h mi s : Int) (D : Date6 y m d h mi s) (he : Ev (fun k => stowageref4_Civil.f k t) (y, m, d, h, mi, s, true)) : Ev (fun k => stowageref4_Day.f k t) (dayT y m d) := by
  simp only [stowageref4_Day.f]
  refine Ev.bind (rbasic_ev t y m d h mi s D he) ?_
  refine ev_neg ?_ ?_
  · intro e
    have := congrArg List.length e
    rw [ByteArray.toList_eq, Array.length_toList] at this
    exact absurd this (by rw [show (basicT y m d h mi s).data.size = 16 from rfl]; decide)
  refine ev_pos (by omega) ?_
  refine ev_pos (by rw [basicT_size]; decide) (ev_eq (Ev.now _) ?_)
  have e : (basicT y m d h mi s).data.toList = (dayT y m d).data.toList ++ [84, UInt8.ofNat (48 + h / 10).toNat, UInt8.ofNat (48 + h % 10).toNat, UInt8.ofNat (48 + mi / 10).toNat, UInt8.ofNat (48 + mi % 10).toNat, UInt8.ofNat (48 + s / 10).toNat, UInt8.ofNat (48 + s % 10).toNat, 90] := by
    simp [basicT, p2, strOfNums, ByteArray.data_append]
  apply ByteArray.ext
  apply Array.toList_inj.mp
  rw [ByteArray.data_extract, Array.toList_extract, e]
  simp [List.extract, dayT, p4, p2, strOfNums, ByteArray.data_append]
def wd (r : Int) : ByteArray := (⟨#[84, 104, 117, 70, 114, 105, 83, 97, 116, 83, 117, 110, 77, 111, 110, 84, 117, 101, 87, 101, 100]⟩ : ByteArray).extract (r * 3).toNat (r * 3 + 3).toNat
def mo (m : Int) : ByteArray := (⟨#[74, 97, 110, 70, 101, 98, 77, 97, 114, 65, 112, 114, 77, 97, 121, 74, 117, 110, 74, 117, 108, 65, 117, 103, 83, 101, 112, 79, 99, 116, 78, 111, 118, 68, 101, 99]⟩ : ByteArray).extract (3 * m - 3).toNat (3 * m).toNat
theorem wd_def (r : Int) : (⟨#[84, 104, 117, 70, 114, 105, 83, 97, 116, 83, 117, 110, 77, 111, 110, 84, 117, 101, 87, 101, 100]⟩ : ByteArray).extract (r * 3).toNat (r * 3 + 3).toNat = wd r := rfl
theorem mo_def (m : Int) : (⟨#[74, 97, 110, 70, 101, 98, 77, 97, 114, 65, 112, 114, 77, 97, 121, 74, 117, 110, 74, 117, 108, 65, 117, 103, 83, 101, 112, 79, 99, 116, 78, 111, 118, 68, 101, 99]⟩ : ByteArray).extract (3 * m - 3).toNat (3 * m).toNat = mo m := rfl
theorem wd_all : ∀ i : Fin 7, (wd (i.val : Int)).size = 3 ∧ (⟨#[77, 111, 110, 84, 117, 101, 87, 101, 100, 84, 104, 117, 70, 114, 105, 83, 97, 116, 83, 117, 110]⟩ : ByteArray).extract (3 * (((i.val : Int) + 3) % 7)).toNat (3 * (((i.val : Int) + 3) % 7) + 3).toNat = wd (i.val : Int) := by decide +kernel
theorem wd_size (r : Int) (h0 : 0 ≤ r) (h1 : r < 7) : (wd r).size = 3 := by
  have h := (wd_all ⟨r.toNat, by omega⟩).1
  rwa [show (((⟨r.toNat, by omega⟩ : Fin 7).val : Nat) : Int) = r by show ((r.toNat : Nat) : Int) = r; omega] at h
theorem rwd_def (r : Int) (h0 : 0 ≤ r) (h1 : r < 7) : (⟨#[77, 111, 110, 84, 117, 101, 87, 101, 100, 84, 104, 117, 70, 114, 105, 83, 97, 116, 83, 117, 110]⟩ : ByteArray).extract (3 * ((r + 3) % 7)).toNat (3 * ((r + 3) % 7) + 3).toNat = wd r := by
  have h := (wd_all ⟨r.toNat, by omega⟩).2
  rwa [show (((⟨r.toNat, by omega⟩ : Fin 7).val : Nat) : Int) = r by show ((r.toNat : Nat) : Int) = r; omega] at h
theorem mo_all : ∀ i : Fin 12, (mo ((i.val : Int) + 1)).size = 3 := by decide +kernel
theorem mo_size (m : Int) (h0 : 1 ≤ m) (h1 : m ≤ 12) : (mo m).size = 3 := by
  have h := mo_all ⟨(m - 1).toNat, by omega⟩
  rwa [show (((⟨(m - 1).toNat, by omega⟩ : Fin 12).val : Nat) : Int) + 1 = m by show (((m - 1).toNat : Nat) : Int) + 1 = m; omega] at h
def httpT (w y m d h mi s : Int) : ByteArray := (((((((((((((wd w) ++ (⟨#[44, 32]⟩ : ByteArray)) ++ p2 d) ++ (⟨#[32]⟩ : ByteArray)) ++ mo m) ++ (⟨#[32]⟩ : ByteArray)) ++ p4 y) ++ (⟨#[32]⟩ : ByteArray)) ++ p2 h) ++ (⟨#[58]⟩ : ByteArray)) ++ p2 mi) ++ (⟨#[58]⟩ : ByteArray)) ++ p2 s) ++ (⟨#[32, 71, 77, 84]⟩ : ByteArray)
theorem http_ev (t : Int) (h0 : 0 ≤ t) (h1 : t ≤ 253402300799) (y m d h mi s : Int) (D : Date6 y m d h mi s) (he : Ev (fun k => when_Civil.f k t) (y, m, d, h, mi, s, true)) : Ev (fun k => when_Http.f k t) (httpT (t / 86400 % 7) y m d h mi s) := by
  have b := D.bd
  have := D.h0; have := D.h1; have := D.mi0; have := D.mi1; have := D.s0; have := D.s1
  have e0 : wrap64 (Int.tdiv t 86400) = t / 86400 := by rw [tdiv_pos h0, w64 (by omega) (by omega)]
  have e1 : Int.tmod (t / 86400) 7 = t / 86400 % 7 := tmod_pos (by omega)
  have e2 : wrap64 (t / 86400 % 7 * 3) = t / 86400 % 7 * 3 := w64 (by omega) (by omega)
  have e3 : wrap64 (t / 86400 % 7 * 3 + 3) = t / 86400 % 7 * 3 + 3 := w64 (by omega) (by omega)
  have e4 : wrap64 (3 * m) = 3 * m := w64 (by omega) (by omega)
  have e5 : wrap64 (3 * m - 3) = 3 * m - 3 := w64 (by omega) (by omega)
  simp only [when_Http.f, e0, e1, e2, e3]
  refine Ev.bind he ?_
  dsimp only
  simp only [e4, e5, wd_def, mo_def]
  have hw0 : 0 ≤ t / 86400 % 7 := by omega
  have hw1 : t / 86400 % 7 < 7 := by omega
  generalize t / 86400 % 7 = w at *
  have hws := wd_size w hw0 hw1
  have hms := mo_size m b.2.2.1 b.2.2.2.1
  refine ev_pos trivial ?_
  repeat (first | with_reducible refine Ev.bind (put4_ev y (by omega) (by omega)) ?_ | with_reducible refine Ev.bind (put2_ev d (by omega) (by omega)) ?_ | with_reducible refine Ev.bind (put2_ev h (by omega) (by omega)) ?_ | with_reducible refine Ev.bind (put2_ev mi (by omega) (by omega)) ?_ | with_reducible refine Ev.bind (put2_ev s (by omega) (by omega)) ?_ | with_reducible refine ev_pos (by simp only [ByteArray.size_append, p4_size, p2_size, z1, z2, z4, z5, hws, hms]; decide) ?_ | with_reducible refine ev_pos (by omega) ?_)
  exact Ev.now _
theorem rhttp_ev (t : Int) (h0 : 0 ≤ t) (h1 : t ≤ 253402300799) (y m d h mi s : Int) (D : Date6 y m d h mi s) (he : Ev (fun k => stowageref4_Civil.f k t) (y, m, d, h, mi, s, true)) : Ev (fun k => stowageref4_Http.f k t) (httpT (t / 86400 % 7) y m d h mi s) := by
  have b := D.bd
  have := D.h0; have := D.h1; have := D.mi0; have := D.mi1; have := D.s0; have := D.s1
  have e0 : wrap64 (Int.tdiv t 86400) = t / 86400 := by rw [tdiv_pos h0, w64 (by omega) (by omega)]
  have e1 : Int.tmod (wrap64 (t / 86400 + 3)) 7 = (t / 86400 % 7 + 3) % 7 := by rw [w64 (by omega) (by omega), tmod_pos (by omega)]; omega
  have e2 : wrap64 (3 * ((t / 86400 % 7 + 3) % 7)) = 3 * ((t / 86400 % 7 + 3) % 7) := w64 (by omega) (by omega)
  have e3 : wrap64 (3 * ((t / 86400 % 7 + 3) % 7) + 3) = 3 * ((t / 86400 % 7 + 3) % 7) + 3 := w64 (by omega) (by omega)
  have e4 : wrap64 (3 * m) = 3 * m := w64 (by omega) (by omega)
  have e5 : wrap64 (3 * m - 3) = 3 * m - 3 := w64 (by omega) (by omega)
  simp only [stowageref4_Http.f, e0, e1, e2, e3]
  refine Ev.bind he ?_
  dsimp only
  have hw0 : 0 ≤ t / 86400 % 7 := by omega
  have hw1 : t / 86400 % 7 < 7 := by omega
  simp only [e4, e5, rwd_def _ hw0 hw1, mo_def]
  generalize t / 86400 % 7 = w at *
  have hws := wd_size w hw0 hw1
  have hms := mo_size m b.2.2.1 b.2.2.2.1
  refine ev_pos trivial ?_
  repeat (first | with_reducible refine Ev.bind (wide4_ev y (by omega) (by omega)) ?_ | with_reducible refine Ev.bind (wide2_ev d (by omega) (by omega)) ?_ | with_reducible refine Ev.bind (wide2_ev h (by omega) (by omega)) ?_ | with_reducible refine Ev.bind (wide2_ev mi (by omega) (by omega)) ?_ | with_reducible refine Ev.bind (wide2_ev s (by omega) (by omega)) ?_ | with_reducible refine ev_pos (by simp only [ByteArray.size_append, p4_size, p2_size, z1, z2, z4, z5, hws, hms]; decide) ?_ | with_reducible refine ev_pos (by omega) ?_)
  exact Ev.now _
theorem civil6 (t : Int) (h0 : 0 ≤ t) (h1 : t ≤ 253402300799) : ∃ y m d h mi s, Date6 y m d h mi s ∧ Valid y m d (t / 86400) ∧ h = t / 3600 % 24 ∧ mi = t / 60 % 60 ∧ s = t % 60 ∧ Ev (fun k => when_Civil.f k t) (y, m, d, h, mi, s, true) ∧ Ev (fun k => stowageref4_Civil.f k t) (y, m, d, h, mi, s, true) := by
  obtain ⟨y, m, d, hv, he⟩ := civil_ev t h0 h1
  obtain ⟨y', m', d', hv', he'⟩ := rcivil_ev t h0 h1
  obtain ⟨rfl, rfl, rfl⟩ := hv.unique hv'
  exact ⟨y, m, d, _, _, _, ⟨⟨_, hv⟩, by omega, by omega, by omega, by omega, by omega, by omega⟩, hv, rfl, rfl, rfl, he, he'⟩
theorem texts_out (t : Int) (h : ¬ (0 ≤ t ∧ t ≤ 253402300799)) :
    (Ev (fun k => when_Basic.f k t) ⟨#[]⟩ ∧ Ev (fun k => when_Day.f k t) ⟨#[]⟩ ∧ Ev (fun k => when_Iso.f k t) ⟨#[]⟩ ∧ Ev (fun k => when_Http.f k t) ⟨#[]⟩) ∧ Ev (fun k => stowageref4_Basic.f k t) ⟨#[]⟩ ∧ Ev (fun k => stowageref4_Day.f k t) ⟨#[]⟩ ∧ Ev (fun k => stowageref4_Iso.f k t) ⟨#[]⟩ ∧ Ev (fun k => stowageref4_Http.f k t) ⟨#[]⟩ := by
  have a := civil_out t h
  have b := rcivil_out t h
  have hb : Ev (fun k => stowageref4_Basic.f k t) ⟨#[]⟩ := by
    simp only [stowageref4_Basic.f]; exact Ev.bind b (ev_neg (by simp) (Ev.now _))
  refine ⟨⟨?_, ?_, ?_, ?_⟩, hb, ?_, ?_, ?_⟩
  · simp only [when_Basic.f]; exact Ev.bind a (ev_neg (by simp) (Ev.now _))
  · simp only [when_Day.f]; exact Ev.bind a (ev_neg (by simp) (Ev.now _))
  · simp only [when_Iso.f]; exact Ev.bind a (ev_neg (by simp) (Ev.now _))
  · simp only [when_Http.f]; exact Ev.bind a (ev_neg (by simp) (Ev.now _))
  · simp only [stowageref4_Day.f]; exact Ev.bind hb (ev_pos empty_out (Ev.now _))
  · simp only [stowageref4_Iso.f]; exact Ev.bind b (ev_neg (by simp) (Ev.now _))
  · simp only [stowageref4_Http.f]; exact Ev.bind b (ev_neg (by simp) (Ev.now _))
theorem WhenTexts : stowagelaw4_WhenTexts.Pure := by
  intro t _
  apply Ev.rounds
  have main : ∀ r1 r2 r3 r4, Ev (fun k => when_Basic.f k t) r1 → Ev (fun k => stowageref4_Basic.f k t) r1 → Ev (fun k => when_Day.f k t) r2 → Ev (fun k => stowageref4_Day.f k t) r2 →
      Ev (fun k => when_Iso.f k t) r3 → Ev (fun k => stowageref4_Iso.f k t) r3 → Ev (fun k => when_Http.f k t) r4 → Ev (fun k => stowageref4_Http.f k t) r4 → Ev (fun k => stowagelaw4_WhenTexts.f k t) true := by
    intro r1 r2 r3 r4 a1 b1 a2 b2 a3 b3 a4 b4
    simp only [stowagelaw4_WhenTexts.f]
    refine Ev.bind a1 (Ev.bind b1 (ev_pos rfl (Ev.bind a2 (Ev.bind b2 (ev_pos rfl (Ev.bind a3 (Ev.bind b3 (ev_pos rfl (Ev.bind a4 (Ev.bind b4 (ev_pos rfl ?_)))))))))))
    exact awb
  by_cases h : 0 ≤ t ∧ t ≤ 253402300799
  · obtain ⟨y, m, d, hh, mi, s, D, _, _, _, _, he, he'⟩ := civil6 t h.1 h.2
    obtain ⟨r3, i1, i2⟩ := iso_ev t y m d hh mi s D he he'
    exact main _ _ r3 _ (basic_ev t y m d hh mi s D he) (rbasic_ev t y m d hh mi s D he') (day_ev t y m d hh mi s D he) (rday_ev t y m d hh mi s D he') i1 i2 (http_ev t h.1 h.2 y m d hh mi s D he) (rhttp_ev t h.1 h.2 y m d hh mi s D he')
  · obtain ⟨⟨a1, a2, a3, a4⟩, b1, b2, b3, b4⟩ := texts_out t h
    exact main _ _ _ _ a1 b1 a2 b2 a3 b3 a4 b4
end Go.Proofs.Yteggifhicmbopaa.Pure
