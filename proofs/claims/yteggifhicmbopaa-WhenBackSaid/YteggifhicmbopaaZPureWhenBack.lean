/- A part of the proof of the seat's laws. No condition beyond those in the theorems. -/
import Derived.Test.YteggifhicmbopaaZWhenHttp
import Derived.Test.YteggifhicmbopaaZQ46

namespace Go.Proofs.Yteggifhicmbopaa.Pure
open Go.RowKit Go.Proofs.Yteggifhicmbopaa.Q Go.Proofs.YteggifhicmbopaaW.PrintWords Go.Proofs.YteggifhicmbopaaW.PrintLast Cal
set_option linter.unusedVariables false
set_option linter.unusedSimpArgs false
def lexLess : List Int → List Int → Bool
  | _, [] => false
  | [], _ :: _ => true
  | a :: x, b :: y => decide (a < b) || (a == b && lexLess x y)
theorem less_son (xs : List Int) : ∀ ys : List Int, (∀ x ∈ xs, 0 ≤ x ∧ x ≤ 255) → (∀ x ∈ ys, 0 ≤ x ∧ x ≤ 255) → Op.bytesLess (strOfNums xs).toList (strOfNums ys).toList = lexLess xs ys := by
  rw [ByteArray.toList_eq]
  induction xs with
  | nil =>
    intro ys _ _
    rw [ByteArray.toList_eq]
    cases ys <;> simp [strOfNums, Op.bytesLess, lexLess]
  | cons a xs ih =>
    intro ys hx hy
    cases ys with
    | nil => rw [ByteArray.toList_eq]; simp [strOfNums, Op.bytesLess, lexLess]
    | cons b ys =>
      have h := ih ys (fun x m => hx x (by simp [m])) (fun x m => hy x (by simp [m]))
      rw [ByteArray.toList_eq] at h ⊢
      have ha := hx a (by simp)
      have hb := hy b (by simp)
      simp only [strOfNums, List.map_cons] at h ⊢
      simp only [Op.bytesLess, lexLess]
      rw [h]
      have e1 : (UInt8.ofNat a.toNat < UInt8.ofNat b.toNat) = (a < b) := by
        rw [UInt8.lt_iff_toNat_lt, UInt8.toNat_ofNat', UInt8.toNat_ofNat']
        apply propext; omega
      have e2 : (UInt8.ofNat a.toNat == UInt8.ofNat b.toNat) = (a == b) := by
        rw [Bool.eq_iff_iff, beq_iff_eq, beq_iff_eq]
        constructor
        · intro q
          have := congrArg UInt8.toNat q
          rw [UInt8.toNat_ofNat', UInt8.toNat_ofNat'] at this
          omega
        · intro q; rw [q]
      simp only [e1, e2]
theorem lex_same (a : Int) (x y : List Int) : lexLess (a :: x) (a :: y) = lexLess x y := by simp [lexLess]
theorem lex_cons (a b : Int) (x y : List Int) : lexLess (a :: x) (b :: y) = if a < b then true else if a = b then lexLess x y else false := by
  simp only [lexLess]
  by_cases h : a < b
  · simp [h]
  · by_cases h2 : a = b
    · simp [h2]
    · simp [h, h2]
theorem lex_two (m m' : Int) (x y : List Int) (h : 0 ≤ m ∧ m ≤ 99) (h' : 0 ≤ m' ∧ m' ≤ 99) :
    lexLess ((48 + m / 10) :: (48 + m % 10) :: x) ((48 + m' / 10) :: (48 + m' % 10) :: y) = if m < m' then true else if m = m' then lexLess x y else false := by
  rw [lex_cons, lex_cons]
  by_cases c : m < m'
  · rw [if_pos c]
    by_cases c2 : 48 + m / 10 < 48 + m' / 10
    · rw [if_pos c2]
    · rw [if_neg c2, if_pos (by omega), if_pos (by omega)]
  · rw [if_neg c]
    by_cases c3 : m = m'
    · subst c3; simp
    · rw [if_neg c3, if_neg (by omega)]
      by_cases c4 : 48 + m / 10 = 48 + m' / 10
      · rw [if_pos c4, if_neg (by omega), if_neg (by omega)]
      · rw [if_neg c4]
theorem lex_four (n n' : Int) (x y : List Int) (h : 0 ≤ n ∧ n ≤ 9999) (h' : 0 ≤ n' ∧ n' ≤ 9999) :
    lexLess ((48 + n / 1000) :: (48 + n / 100 % 10) :: (48 + n / 10 % 10) :: (48 + n % 10) :: x) ((48 + n' / 1000) :: (48 + n' / 100 % 10) :: (48 + n' / 10 % 10) :: (48 + n' % 10) :: y) = if n < n' then true else if n = n' then lexLess x y else false := by
  have a := lex_two (n / 100) (n' / 100) ((48 + n / 10 % 10) :: (48 + n % 10) :: x) ((48 + n' / 10 % 10) :: (48 + n' % 10) :: y) (by omega) (by omega)
  have b := lex_two (n % 100) (n' % 100) x y (by omega) (by omega)
  rw [show n / 100 / 10 = n / 1000 by omega, show n' / 100 / 10 = n' / 1000 by omega] at a
  rw [show n % 100 / 10 = n / 10 % 10 by omega, show n % 100 % 10 = n % 10 by omega, show n' % 100 / 10 = n' / 10 % 10 by omega, show n' % 100 % 10 = n' % 10 by omega] at b
  rw [a, b]
  by_cases c : n / 100 < n' / 100
  · rw [if_pos c, if_pos (by omega)]
  · rw [if_neg c]
    by_cases c2 : n / 100 = n' / 100
    · rw [if_pos c2]
      by_cases c3 : n < n'
      · rw [if_pos c3, if_pos (by omega)]
      · rw [if_neg c3, if_neg (by omega)]
        by_cases c4 : n = n'
        · rw [if_pos c4, if_pos (by omega)]
        · rw [if_neg c4, if_neg (by omega)]
    · rw [if_neg c2, if_neg (by omega), if_neg (by omega)]
def dateLess (y m d h mi s y' m' d' h' mi' s' : Int) : Bool :=
  if y < y' then true else if y = y' then (if m < m' then true else if m = m' then (if d < d' then true else if d = d' then (if h < h' then true else if h = h' then (if mi < mi' then true else if mi = mi' then decide (s < s') else false) else false) else false) else false) else false
theorem day_less {y m d n y' m' d' n' : Int} (v : Valid y m d n) (v' : Valid y' m' d' n') :
    (n < n' ↔ (y < y' ∨ y = y' ∧ (m < m' ∨ m = m' ∧ d < d'))) := by
  have i := v.in_year; have i' := v'.in_year
  have := v.num; have := v'.num
  have f : ∀ {y m d n y' m' d' n' : Int}, Valid y m d n → Valid y' m' d' n' → (y < y' ∨ y = y' ∧ (m < m' ∨ m = m' ∧ d < d')) → n < n' := by
    intro y m d n y' m' d' n' v v' h
    have i := v.in_year; have i' := v'.in_year
    have := v.num; have := v'.num; have := v.d1; have := v'.d0
    rcases h with h | ⟨rfl, h | ⟨rfl, h⟩⟩
    · have := dby_le (y + 1) y' (by omega); omega
    · have := cum_le y (m + 1) m' (by have := v.m0; omega) (by omega) (by have := v'.m1; omega)
      have := cum_succ y m v.m0 v.m1
      omega
    · omega
  constructor
  · intro hn
    by_cases c : y < y' ∨ y = y' ∧ (m < m' ∨ m = m' ∧ d < d')
    · exact c
    · exfalso
      by_cases e : y = y' ∧ m = m' ∧ d = d'
      · obtain ⟨rfl, rfl, rfl⟩ := e; omega
      · have := f v' v (by omega)
        omega
  · exact f v v'
theorem second_less {y m d h mi s y' m' d' h' mi' s' : Int} (r : Real y m d h mi s) (r' : Real y' m' d' h' mi' s') :
    dateLess y m d h mi s y' m' d' h' mi' s' = decide (second y m d h mi s < second y' m' d' h' mi' s') := by
  have dl := day_less r.valid r'.valid
  have du : dby y + cum y m + d - 1 = dby y' + cum y' m' + d' - 1 → y = y' ∧ m = m' ∧ d = d' := by
    intro e
    have v := r.valid; have v' := r'.valid
    rw [e] at v
    exact v.unique v'
  have e1 : second y m d h mi s = (dby y + cum y m + d - 1) * 86400 + h * 3600 + mi * 60 + s := rfl
  have e2 : second y' m' d' h' mi' s' = (dby y' + cum y' m' + d' - 1) * 86400 + h' * 3600 + mi' * 60 + s' := rfl
  obtain ⟨_, _, _, _, _, _, _, _, _, _, _, _⟩ := r
  obtain ⟨_, _, _, _, _, _, _, _, _, _, _, _⟩ := r'
  rw [e1, e2]
  by_cases e : y = y' ∧ m = m' ∧ d = d'
  · obtain ⟨rfl, rfl, rfl⟩ := e
    generalize dby y + cum y m + d - 1 = n at *
    simp only [dateLess, if_true, Int.lt_irrefl, if_false]
    by_cases a1 : h < h'
    · rw [if_pos a1]; symm; exact decide_eq_true (by omega)
    · rw [if_neg a1]
      by_cases a2 : h = h'
      · rw [if_pos a2]
        by_cases a3 : mi < mi'
        · rw [if_pos a3]; symm; exact decide_eq_true (by omega)
        · rw [if_neg a3]
          by_cases a4 : mi = mi'
          · rw [if_pos a4]; apply decide_eq_decide.mpr; omega
          · rw [if_neg a4]; symm; exact decide_eq_false (by omega)
      · rw [if_neg a2]; symm; exact decide_eq_false (by omega)
  · have hne : dby y + cum y m + d - 1 ≠ dby y' + cum y' m' + d' - 1 := fun q => e (du q)
    generalize dby y + cum y m + d - 1 = n at *
    generalize dby y' + cum y' m' + d' - 1 = n' at *
    by_cases c : n < n'
    · have q := dl.mp c
      rw [show decide (n * 86400 + h * 3600 + mi * 60 + s < n' * 86400 + h' * 3600 + mi' * 60 + s') = true from decide_eq_true (by omega)]
      unfold dateLess
      by_cases a1 : y < y'
      · rw [if_pos a1]
      · rw [if_neg a1, if_pos (by omega)]
        by_cases a2 : m < m'
        · rw [if_pos a2]
        · rw [if_neg a2, if_pos (by omega), if_pos (by omega)]
    · have q : ¬ (y < y' ∨ y = y' ∧ (m < m' ∨ m = m' ∧ d < d')) := fun z => c (dl.mpr z)
      rw [show decide (n * 86400 + h * 3600 + mi * 60 + s < n' * 86400 + h' * 3600 + mi' * 60 + s') = false from decide_eq_false (by omega)]
      unfold dateLess
      rw [if_neg (by omega)]
      by_cases a1 : y = y'
      · rw [if_pos a1, if_neg (by omega)]
        by_cases a2 : m = m'
        · rw [if_pos a2, if_neg (by omega), if_neg (by omega)]
        · rw [if_neg a2]
      · rw [if_neg a1]
theorem basic_less {y m d h mi s y' m' d' h' mi' s' : Int} (r : Real y m d h mi s) (r' : Real y' m' d' h' mi' s') :
    Op.bytesLess (basicT y m d h mi s).toList (basicT y' m' d' h' mi' s').toList = decide (second y m d h mi s < second y' m' d' h' mi' s') := by
  rw [basicT_eq, basicT_eq, less_son _ _ (basicL_range (date_of r)) (basicL_range (date_of r')), ← second_less r r']
  obtain ⟨_, _, _, _, _, _, _, _, _, _, _, _⟩ := r
  obtain ⟨_, _, _, _, _, _, _, _, _, _, _, _⟩ := r'
  have hd : d ≤ 31 := by have := size_bd y m; omega
  have hd' : d' ≤ 31 := by have := size_bd y' m'; omega
  unfold basicL dateLess
  rw [lex_four y y' _ _ (by omega) (by omega), lex_two m m' _ _ (by omega) (by omega), lex_two d d' _ _ (by omega) (by omega), lex_same, lex_two h h' _ _ (by omega) (by omega), lex_two mi mi' _ _ (by omega) (by omega), lex_two s s' _ _ (by omega) (by omega), lex_same]
  simp only [lexLess]
  by_cases q : s < s' <;> simp [q]
def isoT (y m d h mi s : Int) : ByteArray := (((((((((((p4 y ++ (⟨#[45]⟩ : ByteArray)) ++ p2 m) ++ (⟨#[45]⟩ : ByteArray)) ++ p2 d) ++ (⟨#[84]⟩ : ByteArray)) ++ p2 h) ++ (⟨#[58]⟩ : ByteArray)) ++ p2 mi) ++ (⟨#[58]⟩ : ByteArray)) ++ p2 s) ++ (⟨#[46, 48, 48, 48, 90]⟩ : ByteArray))
def isoL (y m d h mi s : Int) : List Int := [48 + y / 1000, 48 + y / 100 % 10, 48 + y / 10 % 10, 48 + y % 10, 45, 48 + m / 10, 48 + m % 10, 45, 48 + d / 10, 48 + d % 10, 84, 48 + h / 10, 48 + h % 10, 58, 48 + mi / 10, 48 + mi % 10, 58, 48 + s / 10, 48 + s % 10, 46, 48, 48, 48, 90]
theorem isoT_eq (y m d h mi s : Int) : isoT y m d h mi s = strOfNums (isoL y m d h mi s) := by
  rw [isoT, p4, p2, p2, p2, p2, p2, show (⟨#[45]⟩ : ByteArray) = strOfNums [45] from rfl, show (⟨#[84]⟩ : ByteArray) = strOfNums [84] from rfl, show (⟨#[58]⟩ : ByteArray) = strOfNums [58] from rfl, show (⟨#[46, 48, 48, 48, 90]⟩ : ByteArray) = strOfNums [46, 48, 48, 48, 90] from rfl]
  simp only [son_append]
  rfl
theorem isoL_range {y m d h mi s : Int} (D : Date6 y m d h mi s) : ∀ x ∈ isoL y m d h mi s, 0 ≤ x ∧ x ≤ 255 := by
  have b := D.bd
  have := D.h0; have := D.h1; have := D.mi0; have := D.mi1; have := D.s0; have := D.s1
  intro x hx
  simp only [isoL, List.mem_cons, List.not_mem_nil, or_false] at hx
  rcases hx with rfl | rfl | rfl | rfl | rfl | rfl | rfl | rfl | rfl | rfl | rfl | rfl | rfl | rfl | rfl | rfl | rfl | rfl | rfl | rfl | rfl | rfl | rfl | rfl <;> omega
theorem iso_less {y m d h mi s y' m' d' h' mi' s' : Int} (r : Real y m d h mi s) (r' : Real y' m' d' h' mi' s') :
    Op.bytesLess (isoT y m d h mi s).toList (isoT y' m' d' h' mi' s').toList = decide (second y m d h mi s < second y' m' d' h' mi' s') := by
  rw [isoT_eq, isoT_eq, less_son _ _ (isoL_range (date_of r)) (isoL_range (date_of r')), ← second_less r r']
  obtain ⟨_, _, _, _, _, _, _, _, _, _, _, _⟩ := r
  obtain ⟨_, _, _, _, _, _, _, _, _, _, _, _⟩ := r'
  have hd : d ≤ 31 := by have := size_bd y m; omega
  have hd' : d' ≤ 31 := by have := size_bd y' m'; omega
  unfold isoL dateLess
  rw [lex_four y y' _ _ (by omega) (by omega), lex_same, lex_two m m' _ _ (by omega) (by omega), lex_same, lex_two d d' _ _ (by omega) (by omega), lex_same, lex_two h h' _ _ (by omega) (by omega), lex_same, lex_two mi mi' _ _ (by omega) (by omega), lex_same, lex_two s s' _ _ (by omega) (by omega), lex_same, lex_same, lex_same, lex_same, lex_same]
  simp only [lexLess]
  by_cases q : s < s' <;> simp [q]
theorem iso_is (t : Int) (y m d h mi s : Int) (D : Date6 y m d h mi s) (he : Ev (fun k => when_Civil.f k t) (y, m, d, h, mi, s, true)) : Ev (fun k => when_Iso.f k t) (isoT y m d h mi s) := by
  have b := D.bd
  have := D.h0; have := D.h1; have := D.mi0; have := D.mi1; have := D.s0; have := D.s1
  simp only [when_Iso.f]
  refine Ev.bind he ?_
  dsimp only
  refine ev_pos rfl ?_
  repeat (first | with_reducible refine Ev.bind (put4_ev y (by omega) (by omega)) ?_ | with_reducible refine Ev.bind (put2_ev m (by omega) (by omega)) ?_ | with_reducible refine Ev.bind (put2_ev d (by omega) (by omega)) ?_ | with_reducible refine Ev.bind (put2_ev h (by omega) (by omega)) ?_ | with_reducible refine Ev.bind (put2_ev mi (by omega) (by omega)) ?_ | with_reducible refine Ev.bind (put2_ev s (by omega) (by omega)) ?_ | with_reducible refine ev_pos (by simp only [ByteArray.size_append, p4_size, p2_size, z1, z5]; decide) ?_)
  exact Ev.now _
theorem http_head (w y m d h mi s : Int) (hw0 : 0 ≤ w) (hw : w < 7) (hm0 : 1 ≤ m) (hm : m ≤ 12) : (httpT w y m d h mi s).size = 29 ∧ (httpT w y m d h mi s).extract 0 3 = wd w := by
  obtain ⟨a, b, c, ha, hb, hc, e1⟩ := three (wd w) (wd_size w hw0 hw)
  have hz := mo_size m hm0 hm
  constructor
  · rw [httpT]
    simp only [ByteArray.size_append, wd_size w hw0 hw, hz, p4_size, p2_size, z1, z2, z4]
  · rw [httpT, as_son (mo m), e1, p4, p2, p2, p2, p2, show (⟨#[44, 32]⟩ : ByteArray) = strOfNums [44, 32] from rfl, show (⟨#[32]⟩ : ByteArray) = strOfNums [32] from rfl, show (⟨#[58]⟩ : ByteArray) = strOfNums [58] from rfl, show (⟨#[32, 71, 77, 84]⟩ : ByteArray) = strOfNums [32, 71, 77, 84] from rfl]
    simp only [son_append, son_extract]
    rfl
theorem back_j2 (t : Int) (h0 : 0 ≤ t) (h1 : t ≤ 253402300799) : Ev (fun k => stowagelaw4_WhenBack.j2 k t false) true := by
  refine Ev.step (f := fun k => _) (fun k => by rw [stowagelaw4_WhenBack.j2, if_neg (by simp), w64 (n := t + 604800) (by omega) (by omega)]) ?_
  by_cases c : t + 604800 > 253402300799
  · exact ev_pos c awb
  refine ev_neg c ?_
  obtain ⟨y, m, d, h, mi, s, D, hv, e1, e2, e3, he, _⟩ := civil6 t h0 h1
  obtain ⟨y', m', d', h', mi', s', D', hv', e1', e2', e3', he', _⟩ := civil6 (t + 604800) (by omega) (by omega)
  have b := D.bd
  have b' := D'.bd
  have x := http_head (t / 86400 % 7) y m d h mi s (by omega) (by omega) b.2.2.1 b.2.2.2.1
  have x' := http_head ((t + 604800) / 86400 % 7) y' m' d' h' mi' s' (by omega) (by omega) b'.2.2.1 b'.2.2.2.1
  refine Ev.bind (http_ev _ (by omega) (by omega) y' m' d' h' mi' s' D' he') ?_
  refine ev_pos (by omega) (ev_pos (by rw [x'.1]; decide) ?_)
  refine Ev.bind (http_ev _ h0 h1 y m d h mi s D he) ?_
  refine ev_pos (by rw [x.1]; decide) ?_
  refine ev_pos ?_ awb
  rw [x.2, x'.2, show (t + 604800) / 86400 % 7 = t / 86400 % 7 by omega]
theorem WhenBack : stowagelaw4_WhenBack.Pure := by
  intro t u _ _
  apply Ev.rounds
  simp only [stowagelaw4_WhenBack.f]
  have out : (t < 0 ∨ t > 253402300799 ∨ u < 0 ∨ u > 253402300799) → Ev (fun k => stowagelaw4_WhenBack.j0 k t u true) true := by
    intro hc
    refine Ev.step (f := fun k => _) (fun k => by rw [stowagelaw4_WhenBack.j0, if_pos rfl]) ?_
    by_cases h : 0 ≤ t ∧ t ≤ 253402300799
    · obtain ⟨y, m, d, h', mi, s, D, hv, e1, e2, e3, he, _⟩ := civil6 t h.1 h.2
      refine Ev.bind (basic_ev t y m d h' mi s D he) ?_
      refine ev_neg ?_ (ev_pos (by omega) (ev_pos (by omega) awb))
      intro e
      have := congrArg List.length e
      rw [ByteArray.toList_eq, Array.length_toList] at this
      exact absurd this (by rw [show (basicT y m d h' mi s).data.size = 16 from rfl]; decide)
    · refine Ev.bind (texts_out t h).1.1 ?_
      exact ev_pos empty_out awb
  by_cases c1 : t < 0
  · exact ev_pos c1 (out (by omega))
  refine ev_neg c1 ?_
  by_cases c2 : t > 253402300799
  · exact ev_pos c2 (out (by omega))
  refine ev_neg c2 ?_
  by_cases c3 : u < 0
  · exact ev_pos c3 (out (by omega))
  refine ev_neg c3 ?_
  by_cases c4 : u > 253402300799
  · rw [decide_eq_true c4]; exact out (by omega)
  rw [decide_eq_false c4]
  obtain ⟨y, m, d, h, mi, s, r, et⟩ := civil_second t (by omega) (by omega)
  obtain ⟨y', m', d', h', mi', s', r', eu⟩ := civil_second u (by omega) (by omega)
  have ct := (second_civil r).1
  have cu := (second_civil r').1
  have bt_ := basic_ev _ y m d h mi s (date_of r) ct
  have bu_ := basic_ev _ y' m' d' h' mi' s' (date_of r') cu
  rw [← et] at ct bt_
  rw [← eu] at cu bu_
  refine Ev.step (f := fun k => _) (fun k => by rw [stowagelaw4_WhenBack.j0, if_neg (by simp)]) ?_
  refine Ev.bind bt_ ?_
  have p1_ := pbasic_yes r
  rw [← et] at p1_
  refine Ev.bind p1_ ?_
  have hh := (httpD_ev r).1
  rw [← et] at hh
  refine Ev.bind hh ?_
  have p2_ := phttp_yes r
  rw [← et] at p2_
  refine Ev.bind p2_ ?_
  refine Ev.bind (day_ev t y m d h mi s (date_of r) ct) ?_
  have r0 : Real y m d 0 0 0 := by
    obtain ⟨a1, a2, a3, a4, a5, a6, _⟩ := r
    exact ⟨a1, a2, a3, a4, a5, a6, by omega, by omega, by omega, by omega, by omega, by omega⟩
  have pd : Ev (fun k => when_ParseDay.f k (dayT y m d)) (second y m d 0 0 0, true) := by
    have bf := basic_fields (date_of r0)
    rw [← midnight] at bf
    have hz : (dayT y m d).size = 8 := dayT_size y m d
    rw [dval_append _ _ 4 0 0 (by omega) (by omega), dval_append _ _ 2 4 0 (by omega) (by omega), dval_append _ _ 2 6 0 (by omega) (by omega)] at bf
    have ha := all_ev (dayT y m d) dayAt dayAt_ok (by decide)
    rw [show allOf (dayT y m d) dayAt = some [y, m, d] by simp only [allOf, dayAt, bf.1, bf.2.1, bf.2.2.1]; rfl] at ha
    simp only [when_ParseDay.f]
    refine Ev.bind (a := ([y, m, d], true)) ha ?_
    refine ev_pos rfl (ev_pos (by omega) (ev_pos (by simp) (ev_pos (by simp) (ev_pos (by simp) ?_))))
    have h0 := of_ev y m d 0 0 0
    rw [if_pos r0] at h0
    exact Ev.bind h0 (Ev.now _)
  refine Ev.bind pd ?_
  refine Ev.bind ct ?_
  have h0 := of_ev y m d h mi s
  rw [if_pos r] at h0
  refine Ev.bind h0 ?_
  have hr := r
  obtain ⟨_, _, _, _, _, _, _, _, _, _, _, _⟩ := hr
  have es : t = (dby y + cum y m + d - 1) * 86400 + h * 3600 + mi * 60 + s := et
  have es0 : second y m d 0 0 0 = (dby y + cum y m + d - 1) * 86400 + 0 * 3600 + 0 * 60 + 0 := rfl
  refine ev_pos rfl (ev_pos rfl (ev_pos rfl (ev_pos rfl (ev_pos rfl (ev_pos rfl (ev_pos rfl (ev_pos et.symm (ev_neg (by omega) ?_))))))))
  rw [w64 (n := t - second y m d 0 0 0) (by omega) (by omega), decide_eq_false (by omega)]
  refine Ev.step (f := fun k => _) (fun k => by rw [stowagelaw4_WhenBack.j1, if_neg (by simp)]) ?_
  refine Ev.bind bt_ (Ev.bind bu_ ?_)
  have bl := basic_less r r'
  rw [← et, ← eu] at bl
  refine ev_neg (by rw [bl]; simp) ?_
  have it := iso_is t y m d h mi s (date_of r) ct
  have iu := iso_is u y' m' d' h' mi' s' (date_of r') cu
  refine Ev.bind it (Ev.bind iu ?_)
  have il := iso_less r r'
  rw [← et, ← eu] at il
  rw [show (Op.bytesLess (isoT y m d h mi s).toList (isoT y' m' d' h' mi' s').toList != decide (t < u)) = false by rw [il]; simp]
  exact back_j2 t (by omega) (by omega)
end Go.Proofs.Yteggifhicmbopaa.Pure
