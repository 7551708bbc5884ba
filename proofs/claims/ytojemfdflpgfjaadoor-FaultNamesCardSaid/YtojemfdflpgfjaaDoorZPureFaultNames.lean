/- A part of the proof of the seat's laws. No condition beyond those in the theorems. -/
import Derived.Test.YtojemfdflpgfjaaDoorZQ28g3
import Derived.Test.YtojemfdflpgfjaaDoorZEvB

namespace Go.Proofs.YtojemfdflpgfjaaDoor.Pure
open Go.RowKit Go.Proofs.YtojemfdflpgfjaaDoor.Q Go.Proofs.YtojemfdflpgfjaaDoorW.PrintWords Go.Proofs.YtojemfdflpgfjaaDoorW.PrintLast
set_option linter.unusedVariables false
set_option linter.unusedSimpArgs false
def tbl : List S50 := fault_table.f.getD []
def nms : List ByteArray := stowageref14_names.f.getD []
def sts : List Int := stowageref14_statuses.f.getD []
theorem tbl_eq : fault_table.f = some tbl := rfl
theorem nms_eq : stowageref14_names.f = some nms := rfl
theorem sts_eq : stowageref14_statuses.f = some sts := rfl
theorem tbl_len : tbl.length = 42 := by kernel_rfl
theorem nms_len : nms.length = 42 := by kernel_rfl
theorem sts_len : sts.length = 42 := by kernel_rfl
theorem same_name : ∀ i : Fin 42, (rd_T50 tbl (i.val : Int)).f0.data.toList = (rdOf ByteArray.empty nms (i.val : Int)).data.toList := by decide +kernel
theorem same_stat : ∀ i : Fin 42, (rd_T50 tbl (i.val : Int)).f1 = rd sts (i.val : Int) := by decide +kernel
theorem name_at (i : Nat) (h : i < 42) : (rd_T50 tbl (i : Int)).f0 = rdOf ByteArray.empty nms (i : Int) := ByteArray.ext (Array.toList_inj.mp (same_name ⟨i, h⟩))
theorem stat_at (i : Nat) (h : i < 42) : (rd_T50 tbl (i : Int)).f1 = rd sts (i : Int) := same_stat ⟨i, h⟩
theorem name_int (j : Int) (h : 0 ≤ j) (h' : j < 42) : (rd_T50 tbl j).f0 = rdOf ByteArray.empty nms j := by
  obtain ⟨m, rfl⟩ := Int.eq_ofNat_of_zero_le h
  exact name_at m (by omega)
theorem stat_int (j : Int) (h : 0 ≤ j) (h' : j < 42) : (rd_T50 tbl j).f1 = rd sts j := by
  obtain ⟨m, rfl⟩ := Int.eq_ofNat_of_zero_le h
  exact stat_at m (by omega)
theorem name_in : (rd_T50 tbl 36).f0 = ⟨#[73, 110, 116, 101, 114, 110, 97, 108, 69, 114, 114, 111, 114]⟩ := by rfl
theorem stat_in : (rd_T50 tbl 36).f1 = 500 := by rfl
theorem of_at (a0 : Int) : fault_of.f (some a0) = some ((rd_T50 tbl (fault_of.j a0)).f0, (rd_T50 tbl (fault_of.j a0)).f1) := by
  show (fault_table.f.bind fun l => if l.length = 42 then some ((rd_T50 l (fault_of.j a0)).f0, (rd_T50 l (fault_of.j a0)).f1) else none) = _
  rw [tbl_eq, Option.bind_some, if_pos tbl_len]
def nameB (a0 : Int) : ByteArray := if a0 = 0 then ⟨#[]⟩ else (rd_T50 tbl (fault_of.j a0)).f0
def statB (a0 : Int) : Int := if a0 = 0 then 200 else (rd_T50 tbl (fault_of.j a0)).f1
theorem name_a (a0 : Int) : fault_Name.f a0 = some (nameB a0) := by
  unfold fault_Name.f nameB
  by_cases c : a0 = 0
  · rw [if_pos c, if_pos c]
  · rw [if_neg c, if_neg c, of_at]; rfl
theorem stat_a (a0 : Int) : fault_Status.f a0 = some (statB a0) := by
  unfold fault_Status.f statB
  by_cases c : a0 = 0
  · rw [if_pos c, if_pos c]
  · rw [if_neg c, if_neg c, of_at]; rfl
theorem j_in (a0 : Int) (h : 300 ≤ a0) (h' : a0 < 342) : fault_of.j a0 = a0 - 300 := by
  unfold fault_of.j
  rw [if_neg (by omega), if_neg (by omega)]
theorem j_out (a0 : Int) (h : a0 < 300 ∨ 342 ≤ a0) : fault_of.j a0 = 36 := by
  unfold fault_of.j
  by_cases c : a0 < 300
  · rw [if_pos c]
  · rw [if_neg c, if_pos (by omega)]
theorem w342 : wrap64 (300 + ((42 : Nat) : Int)) = 342 := w64 (by omega) (by omega)
theorem name_b (a0 : Int) : stowageref14_Name.f a0 = some (nameB a0) := by
  unfold stowageref14_Name.f nameB
  rw [nms_eq, Option.bind_some]
  by_cases c : a0 = 0
  · rw [if_pos c, if_pos c]
  · rw [if_neg c, if_neg c]
    by_cases c1 : a0 ≥ 300
    · rw [if_pos c1, nms_len, w342]
      by_cases c2 : a0 < 342
      · rw [if_pos c2, j_in a0 c1 c2, w64 (by omega) (by omega), if_pos (by omega), if_pos (by omega), name_int _ (by omega) (by omega)]
      · rw [if_neg c2, j_out a0 (by omega), name_in]
    · rw [if_neg c1, j_out a0 (by omega), name_in]
theorem stat_b (a0 : Int) : stowageref14_Status.f a0 = some (statB a0) := by
  unfold stowageref14_Status.f statB
  rw [sts_eq, Option.bind_some]
  by_cases c : a0 = 0
  · rw [if_pos c, if_pos c]
  · rw [if_neg c, if_neg c]
    by_cases c1 : a0 ≥ 300
    · rw [if_pos c1, sts_len, w342]
      by_cases c2 : a0 < 342
      · rw [if_pos c2, j_in a0 c1 c2, w64 (by omega) (by omega), if_pos (by omega), if_pos (by omega), stat_int _ (by omega) (by omega)]
      · rw [if_neg c2, j_out a0 (by omega), stat_in]
    · rw [if_neg c1, j_out a0 (by omega), stat_in]
def devB (a0 : Int) : Int := if a0 = 60 ∨ a0 = 61 then 334 else if a0 = 0 ∨ (300 ≤ a0 ∧ a0 < 342) then a0 else 336
theorem dev_a (k : Nat) (a0 : Int) : fault_Device.f (k + 1) a0 = some (devB a0) := by
  unfold fault_Device.f devB
  by_cases c : a0 = 0
  · subst c; rfl
  · rw [if_neg c]
    have hc : ¬ (a0 == 0) = true := by simpa using c
    by_cases c1 : a0 ≥ 300
    · rw [if_pos c1]
      by_cases c2 : a0 ≤ 341
      · simp only [fault_Device.j0]
        rw [if_pos (decide_eq_true c2), if_neg (by omega), if_pos (by omega)]
      · simp only [fault_Device.j0]
        rw [if_neg (by simpa using c2), if_neg (by omega), if_neg (by omega), if_neg (by omega), if_neg (by omega)]
    · rw [if_neg c1]
      simp only [fault_Device.j0]
      rw [if_neg (by decide)]
      by_cases c3 : a0 = 60
      · rw [if_pos c3, if_pos (.inl c3)]
      · rw [if_neg c3]
        by_cases c4 : a0 = 61
        · rw [if_pos c4, if_pos (.inr c4)]
        · rw [if_neg c4, if_neg (by omega), if_neg (by omega)]
theorem dev_b (k : Nat) (a0 : Int) : stowageref14_Device.f (k + 1) a0 = some (devB a0) := by
  unfold stowageref14_Device.f devB
  have hcnt : stowageref14_Count.f = some 42 := by kernel_rfl
  have w : wrap64 (300 + 42) = 342 := w64 (by omega) (by omega)
  by_cases c : a0 = 60
  · subst c; rfl
  · rw [if_neg c]
    simp only [stowageref14_Device.j0]
    by_cases c4 : a0 = 61
    · rw [if_pos (by simpa using c4), if_pos (.inr c4)]
    · rw [if_neg (by simpa using c4), if_neg (show ¬ (a0 = 60 ∨ a0 = 61) by omega)]
      by_cases c0 : a0 = 0
      · rw [if_pos c0, if_pos (.inl c0)]
      · rw [if_neg c0]
        by_cases c1 : a0 ≥ 300
        · rw [if_pos c1, hcnt, Option.bind_some, w]
          by_cases c2 : a0 < 342
          · rw [if_pos c2, if_pos (.inr ⟨c1, c2⟩)]
          · rw [if_neg c2, if_neg (by omega)]
        · rw [if_neg c1, if_neg (by omega)]
theorem of_both (s : ByteArray) : ∀ d i : Nat, i + d = 42 → ∃ r, Ev (fun k => fault_Of.l0 k s tbl 42 i) r ∧ Ev (fun k => stowageref14_Of.l0 k s nms i) r
  | 0, i, h => by
    refine ⟨(0, false), Ev.of (k := 1) (fun k => fault_Of.mono_l k _ _ _ _) ?_, Ev.of (k := 1) (fun k => stowageref14_Of.mono_l k _ _ _) ?_⟩
    · simp only [fault_Of.l0]; rw [if_neg (by omega)]
    · simp only [stowageref14_Of.l0]; rw [if_neg (by rw [nms_len]; omega)]
  | d + 1, i, h => by
    obtain ⟨r, ha, hb⟩ := of_both s d (i + 1) (by omega)
    have hw : wrap64 ((i : Int) + 1) = ((i + 1 : Nat) : Int) := (w64 (by omega) (by omega)).trans (by omega)
    have hn := name_at i (by omega)
    by_cases c : (rdOf ByteArray.empty nms (i : Int)).toList = s.toList
    · refine ⟨(wrap64 (300 + (i : Int)), true), Ev.of (k := 1) (fun k => fault_Of.mono_l k _ _ _ _) ?_, Ev.of (k := 1) (fun k => stowageref14_Of.mono_l k _ _ _) ?_⟩
      · simp only [fault_Of.l0]
        rw [if_pos (by omega), if_pos (by omega), if_pos (by rw [tbl_len]; omega), hn, if_pos c]
      · simp only [stowageref14_Of.l0]
        rw [if_pos (by rw [nms_len]; omega), if_pos (by omega), if_pos c]
    · refine ⟨r, Ev.step (fun k => ?_) ha, Ev.step (fun k => ?_) hb⟩
      · simp only [fault_Of.l0]
        rw [if_pos (by omega), if_pos (by omega), if_pos (by rw [tbl_len]; omega), hn, if_neg c, hw]
      · simp only [stowageref14_Of.l0]
        rw [if_pos (by rw [nms_len]; omega), if_pos (by omega), if_neg c, hw]
theorem of_ev (s : ByteArray) : ∃ r, Ev (fun k => fault_Of.f k s) r ∧ Ev (fun k => stowageref14_Of.f k s) r := by
  obtain ⟨r, ha, hb⟩ := of_both s 42 0 rfl
  exact ⟨r, ha, hb⟩
theorem same_leaf (k : Nat) (a b : ByteArray) : stowageref13_Same.f (k + 3) a b [] a b [] = some true := by
  simp only [stowageref13_Same.f]
  rw [if_pos trivial, if_pos trivial]
  simp only [stowageref13_Same.j0]
  rw [if_neg (by decide)]
  simp only [stowageref13_Same.l0]
  rw [if_neg (by decide)]
theorem same_step (k i : Nat) (a b c d : ByteArray) (xs ys : List S35) (h : i < xs.length) (h' : i < ys.length) (hm : i < 1000000) (he : xs[i] = ys[i]) (hk : xs[i].f2 = []) :
    stowageref13_Same.l0 (k + 4) (i : Int) a b xs c d ys = stowageref13_Same.l0 (k + 3) ((i + 1 : Nat) : Int) a b xs c d ys := by
  have hw : wrap64 ((i : Int) + 1) = ((i + 1 : Nat) : Int) := (w64 (by omega) (by omega)).trans (by omega)
  have h1 : rd_T35 xs (i : Int) = xs[i] := by unfold rd_T35; rw [List.getD_eq_getElem?_getD, Int.toNat_natCast, List.getElem?_eq_getElem h]; rfl
  have h2 : rd_T35 ys (i : Int) = xs[i] := by unfold rd_T35; rw [List.getD_eq_getElem?_getD, Int.toNat_natCast, List.getElem?_eq_getElem h', he]; rfl
  rw [stowageref13_Same.l0, if_pos (by omega), if_pos (by omega), if_pos (by omega), h1, h2, hk, same_leaf, Option.bind_some, if_pos rfl, hw]
theorem same_four (a b : ByteArray) (x y z v : S35) (hx : x.f2 = []) (hy : y.f2 = []) (hz : z.f2 = []) (hv : v.f2 = []) : stowageref13_Same.f 10 a b [x, y, z, v] a b [x, y, z, v] = some true := by
  simp only [stowageref13_Same.f]
  rw [if_pos trivial, if_pos trivial]
  simp only [stowageref13_Same.j0]
  rw [if_neg (by simp)]
  have e0 := same_step 4 0 a b a b [x, y, z, v] [x, y, z, v] (by simp) (by simp) (by decide) rfl hx
  have e1 := same_step 3 1 a b a b [x, y, z, v] [x, y, z, v] (by simp) (by simp) (by decide) rfl hy
  have e2 := same_step 2 2 a b a b [x, y, z, v] [x, y, z, v] (by simp) (by simp) (by decide) rfl hz
  have e3 := same_step 1 3 a b a b [x, y, z, v] [x, y, z, v] (by simp) (by simp) (by decide) rfl hv
  refine e0.trans (e1.trans (e2.trans (e3.trans ?_)))
  rw [stowageref13_Same.l0, if_neg (by simp)]
theorem node_a (a0 : Int) (a2 a3 : ByteArray) : fault_Node.f a0 a2 a3 = some (⟨#[69, 114, 114, 111, 114]⟩, ⟨#[]⟩, [⟨⟨#[67, 111, 100, 101]⟩, nameB a0, []⟩, ⟨⟨#[77, 101, 115, 115, 97, 103, 101]⟩, nameB a0, []⟩, ⟨⟨#[82, 101, 115, 111, 117, 114, 99, 101]⟩, a2, []⟩, ⟨⟨#[82, 101, 113, 117, 101, 115, 116, 73, 100]⟩, a3, []⟩]) := by
  unfold fault_Node.f
  rw [name_a]
  rfl
theorem node_b (a0 : Int) (a2 a3 : ByteArray) : stowageref14_Node.f a0 a2 a3 = some (⟨#[69, 114, 114, 111, 114]⟩, ⟨#[]⟩, [⟨⟨#[67, 111, 100, 101]⟩, nameB a0, []⟩, ⟨⟨#[77, 101, 115, 115, 97, 103, 101]⟩, nameB a0, []⟩, ⟨⟨#[82, 101, 115, 111, 117, 114, 99, 101]⟩, a2, []⟩, ⟨⟨#[82, 101, 113, 117, 101, 115, 116, 73, 100]⟩, a3, []⟩]) := by
  unfold stowageref14_Node.f
  rw [name_b]
  rfl
theorem to_four (a b : ByteArray) (x y z v x' y' z' v' : ByteArray) : stowagelaw13_To.f 10 a b [⟨x, x', []⟩, ⟨y, y', []⟩, ⟨z, z', []⟩, ⟨v, v', []⟩] = some (a, b, [⟨x, x', []⟩, ⟨y, y', []⟩, ⟨z, z', []⟩, ⟨v, v', []⟩]) := by kernel_rfl
theorem awake_50 : stowagelaw14_awake.f 50 = some true := by decide +kernel
theorem FaultNames : stowagelaw14_FaultNames.Pure := by
  intro a0 a1 a2 a3 _ _ _ _
  obtain ⟨⟨r1, r2⟩, ha, hb⟩ := of_ev a1
  have hto := Ev.of (fun k => (stowagelaw13_To.mono_l k).1 _ _ _) (to_four ⟨#[69, 114, 114, 111, 114]⟩ ⟨#[]⟩ ⟨#[67, 111, 100, 101]⟩ ⟨#[77, 101, 115, 115, 97, 103, 101]⟩ ⟨#[82, 101, 115, 111, 117, 114, 99, 101]⟩ ⟨#[82, 101, 113, 117, 101, 115, 116, 73, 100]⟩ (nameB a0) (nameB a0) a2 a3)
  have hsm := Ev.of (fun k => (stowageref13_Same.mono_l k).1 _ _ _ _ _ _) (same_four ⟨#[69, 114, 114, 111, 114]⟩ ⟨#[]⟩ ⟨⟨#[67, 111, 100, 101]⟩, nameB a0, []⟩ ⟨⟨#[77, 101, 115, 115, 97, 103, 101]⟩, nameB a0, []⟩ ⟨⟨#[82, 101, 115, 111, 117, 114, 99, 101]⟩, a2, []⟩ ⟨⟨#[82, 101, 113, 117, 101, 115, 116, 73, 100]⟩, a3, []⟩ rfl rfl rfl rfl)
  have haw := Ev.of (fun k => stowagelaw14_awake.mono k) awake_50
  refine Ev.rounds (Ev.bind ha (Ev.bind hb ?_))
  refine ev_some (name_a a0) (ev_some (name_b a0) (ev_pos rfl (ev_some (stat_a a0) (ev_some (stat_b a0) (ev_pos rfl (ev_pos rfl (ev_pos (by simp) ?_)))))))
  refine Ev.bind (a := devB a0) ⟨1, fun k hk => ?_⟩ (Ev.bind (a := devB a0) ⟨1, fun k hk => ?_⟩ (ev_pos rfl ?_))
  · obtain ⟨m, rfl⟩ : ∃ m, k = m + 1 := ⟨k - 1, by omega⟩
    exact dev_a m a0
  · obtain ⟨m, rfl⟩ : ∃ m, k = m + 1 := ⟨k - 1, by omega⟩
    exact dev_b m a0
  · exact ev_some (node_a a0 a2 a3) (Ev.bind hto (ev_some (node_b a0 a2 a3) (Ev.bind hsm (ev_pos rfl (Ev.bind haw (Ev.now true))))))
end Go.Proofs.YtojemfdflpgfjaaDoor.Pure
