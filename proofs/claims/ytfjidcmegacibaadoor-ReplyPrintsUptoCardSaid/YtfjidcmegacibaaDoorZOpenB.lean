/- A part of the proof of the seat's laws. No condition beyond those in the theorems. -/
import Derived.Test.YtfjidcmegacibaaDoorRows
import Derived.Test.YtfjidcmegacibaaDoorV1
import Derived.Deep.Slices
import Derived.ChangeSame
import Derived.SizedLaws

namespace Go.Proofs.YtfjidcmegacibaaDoor.Opn
open Go.ChangeShapes Go.WideShapes Go.RowKit Go.Proofs.YtfjidcmegacibaaDoorW.PrintWords
section
variable {H : Type} (enc : TypeId × Value → H) (P : Program) (w : World) (base : Nat) (spare : Nat → Bool) (held : Bool)
def Opens (t : TypeId) {α : Type} (d : Kd α) (R : DataW H → α → Prop) : Prop := ∀ fuel cs x, DataW.trod enc P w base spare held fuel t cs = some x → ∃ a, d.K w a cs ∧ R x.1 a
end
section
variable {H : Type} {enc : TypeId × Value → H} {P : Program} {w : World} {base : Nat} {spare : Nat → Bool} {held : Bool} {t e : TypeId} {α : Type} {d : Kd α} {R : DataW H → α → Prop}
theorem Opens.imp_ {R' : DataW H → α → Prop} (h : Opens enc P w base spare held t d R) (hr : ∀ x a, R x a → R' x a) : Opens enc P w base spare held t d R' := fun fuel cs x hx => by
  obtain ⟨a, h1, h2⟩ := h fuel cs x hx
  exact ⟨a, h1, hr _ _ h2⟩
theorem opens_string (ht : P.underlying t = some .string) : Opens enc P w base spare held t Kd.string (fun x a => x = .lit (.string a.data.toList)) := fun fuel cs x hx => by
  obtain ⟨s, rfl, rfl, _⟩ := DataW.trod_string ht hx
  exact ⟨s, rfl, rfl⟩
theorem opens_int {k : IntKind} (ht : P.underlying t = some (.int k)) : Opens enc P w base spare held t (Kd.int k) (fun x a => x = .lit (.int k a) ∧ (Lit.int k a).wf = true) := fun fuel cs x hx => by
  obtain ⟨s, rfl, rfl, h⟩ := DataW.trod_int ht hx
  exact ⟨s, rfl, rfl, h⟩
theorem opens_bool (ht : P.underlying t = some .bool) : Opens enc P w base spare held t Kd.bool (fun x a => x = .lit (.bool a)) := fun fuel cs x hx => by
  obtain ⟨s, rfl, rfl⟩ := DataW.trod_bool ht hx
  exact ⟨s, rfl, rfl⟩
theorem opens_slice [Inhabited α] (ht : P.underlying t = some (.slice e)) (hc : P.cellsOf e = d.sz) (h : Opens enc P w base spare held e d R) :
    Opens enc P w base spare held t (Kd.slice e d) (fun x xs => (x = .nil ∧ xs = []) ∨ ∃ (n : Nat) (D : Nat → DataW H) (X : Nat → α) (sp : List (DataW H)), x = .slice ((List.range n).map D) sp ∧ xs = (List.range n).map X ∧ ∀ i, i < n → R (D i) (X i)) := by
  intro fuel cs x hx
  rcases Deep.open_slice ht hx with ⟨rfl, rfl⟩ | ⟨a, len, cap, m, n, D, Pl, rfl, hb, hl, hm, hmm, rfl, hall⟩
  · exact ⟨[], ⟨none, 0, rfl, Nat.le_refl _, rfl, by simp, fun h => absurd h (Nat.lt_irrefl 0)⟩, .inl ⟨rfl, rfl⟩⟩
  · have hlm : len ≤ m := by rw [hmm]; split <;> omega
    have each : ∀ i, i < len → ∃ x : α, ∃ cs', w.cells? base (a.add (i * P.cellsOf e)) (P.cellsOf e) = some cs' ∧ d.K w x cs' ∧ R (D i) x := by
      intro i hi
      obtain ⟨cs', h1, h2⟩ := hall i (by omega)
      obtain ⟨x, h3, h4⟩ := h _ _ _ h2
      exact ⟨x, cs', h1, h3, h4⟩
    obtain ⟨X, hX⟩ := Deep.choose_lt each
    have hlen : ((List.range len).map X).length = len := by simp
    refine ⟨(List.range len).map X, ⟨some a, cap, by rw [hlen], by rw [hlen]; exact hl, ?_⟩, .inr ⟨len, D, X, _, rfl, rfl, fun i hi => by obtain ⟨_, _, _, h4⟩ := hX i hi; exact h4⟩⟩
    rw [hlen]
    refine ⟨hlen, by simp only [maxLen] at hm; omega, fun _ => ⟨a, rfl, fun j p hp => ?_⟩⟩
    have hj : j < len := by
      have := (List.getElem?_eq_some_iff.mp hp).1
      simpa using this
    have hpx : p = X j := by
      rw [List.getElem?_map, List.getElem?_range hj] at hp
      exact (Option.some.inj hp).symm
    subst hpx
    obtain ⟨cs', h1, h3, _⟩ := hX j hj
    obtain ⟨_, hl', hcell⟩ := World.cells?_some h1
    refine ⟨cs', d.K_len h3, h3, fun i u hu => ?_⟩
    have hi : i < P.cellsOf e := by
      have := (List.getElem?_eq_some_iff.mp hu).1
      omega
    have hcc := hcell i hi
    rw [hu, hc, Deep.add_add] at hcc
    exact hcc
def Up {H : Type} (W : α → Prop) (M : α → Nat) (x : DataW H) (a : α) : Prop := W a ∧ M a ≤ Rows.uptoBulk x
theorem bulk_all {H : Type} (D : Nat → DataW H) (X : Nat → Nat) (l : List Nat) (h : ∀ i ∈ l, X i ≤ Rows.uptoBulk (D i)) : (l.map X).sum ≤ Rows.uptoBulkAll (l.map D) := by
  induction l with
  | nil => simp
  | cons i l ih =>
    simp only [List.map_cons, List.sum_cons, Rows.uptoBulkAll]
    have h1 := h i List.mem_cons_self
    have h2 := ih (fun j hj => h j (List.mem_cons_of_mem _ hj))
    omega
def msz (M : α → Nat) (xs : List α) : Nat := (xs.map M).sum + 1
theorem up_string (ht : P.underlying t = some .string) : Opens enc P w base spare held t Kd.string (Up (fun _ => True) (fun s => s.size + 1)) :=
  (opens_string ht).imp_ fun x a h => by
    subst h
    refine ⟨trivial, ?_⟩
    have e : a.data.toList.length = a.size := by rw [Array.length_toList]; rfl
    show a.size + 1 ≤ a.data.toList.length + 1
    omega
theorem up_int {k : IntKind} (ht : P.underlying t = some (.int k)) : Opens enc P w base spare held t (Kd.int k) (Up (fun a => (Lit.int k a).wf = true) (fun _ => 1)) :=
  (opens_int ht).imp_ fun x a h => by
    obtain ⟨rfl, h⟩ := h
    exact ⟨h, Nat.le_refl _⟩
theorem up_bool (ht : P.underlying t = some .bool) : Opens enc P w base spare held t Kd.bool (Up (fun _ => True) (fun _ => 1)) :=
  (opens_bool ht).imp_ fun x a h => by
    subst h
    exact ⟨trivial, Nat.le_refl _⟩
theorem up_slice [Inhabited α] {W : α → Prop} {M : α → Nat} (ht : P.underlying t = some (.slice e)) (hc : P.cellsOf e = d.sz) (h : Opens enc P w base spare held e d (Up W M)) :
    Opens enc P w base spare held t (Kd.slice e d) (Up (fun xs => ∀ a ∈ xs, W a) (msz M)) :=
  (opens_slice ht hc h).imp_ fun x xs hx => by
    rcases hx with ⟨rfl, rfl⟩ | ⟨n, D, X, sp, rfl, rfl, h⟩
    · exact ⟨fun a ha => (by cases ha), Nat.le_refl _⟩
    · refine ⟨fun a ha => ?_, ?_⟩
      · obtain ⟨i, hi, rfl⟩ := List.mem_map.mp ha
        exact (h i (List.mem_range.mp hi)).1
      · have := bulk_all D (fun i => M (X i)) (List.range n) (fun i hi => (h i (List.mem_range.mp hi)).2)
        simp only [msz, Rows.uptoBulk, List.map_map]
        show ((List.range n).map (M ∘ X)).sum + 1 ≤ _
        have e : ((List.range n).map (M ∘ X)).sum = ((List.range n).map fun i => M (X i)).sum := rfl
        omega
def Wt {H : Type} (P : Program) (t : TypeId) (B : α → Prop) (x : DataW H) (a : α) : Prop := (∀ n ∈ x.weights P t, n ≤ reachBytes) → B a
theorem wt_string (ht : P.underlying t = some .string) : Opens enc P w base spare held t Kd.string (Wt P t (fun s => s.size ≤ 140737488351232)) :=
  (opens_string ht).imp_ fun x a h => by
    subst h
    intro hw
    have e : a.data.toList.length = a.size := by rw [Array.length_toList]; rfl
    have := hw a.data.toList.length (by simp [DataW.weights])
    simp only [reachBytes] at this
    omega
theorem wt_int {k : IntKind} (ht : P.underlying t = some (.int k)) : Opens enc P w base spare held t (Kd.int k) (Wt P t (fun a => (Lit.int k a).wf = true)) :=
  (opens_int ht).imp_ fun x a h => fun _ => h.2
theorem weights_all {H : Type} (P : Program) (e : TypeId) (l : List (DataW H)) (d : DataW H) (hd : d ∈ l) : ∀ n ∈ d.weights P e, n ∈ DataW.weightsAll P e l := by
  induction l with
  | nil => cases hd
  | cons x r ih =>
    intro n hn
    rw [DataW.weightsAll]
    cases List.mem_cons.1 hd with
    | inl h => subst h; exact List.mem_append_left _ hn
    | inr h => exact List.mem_append_right _ (ih h n hn)
theorem wt_slice [Inhabited α] {B : α → Prop} (sz : Nat) (ht : P.underlying t = some (.slice e)) (hc : P.cellsOf e = d.sz) (hsz : P.bytesOf e = sz) (h : Opens enc P w base spare held e d (Wt P e B)) :
    Opens enc P w base spare held t (Kd.slice e d) (Wt P t (fun xs => xs.length * sz ≤ 140737488351232 ∧ ∀ a ∈ xs, B a)) :=
  (opens_slice ht hc h).imp_ fun x xs hx => by
    rcases hx with ⟨rfl, rfl⟩ | ⟨n, D, X, sp, rfl, rfl, h⟩
    · exact fun _ => ⟨by simp, fun a ha => by cases ha⟩
    · intro hw
      simp only [DataW.weights, ht] at hw
      refine ⟨?_, fun a ha => ?_⟩
      · have := hw _ List.mem_cons_self
        simp only [List.length_map, List.length_range, reachBytes, hsz] at this ⊢
        have h2 : n * sz ≤ (n + sp.length) * sz := Nat.mul_le_mul_right _ (by omega)
        omega
      · obtain ⟨i, hi, rfl⟩ := List.mem_map.mp ha
        refine h i (List.mem_range.mp hi) fun m hm => hw m ?_
        refine List.mem_cons_of_mem _ (List.mem_append_left _ (weights_all P e _ (D i) (List.mem_map.mpr ⟨i, hi, rfl⟩) m hm))
end
end Go.Proofs.YtfjidcmegacibaaDoor.Opn
