/- A part of the proof of the seat's laws. No condition beyond those in the theorems. -/
import Derived.Test.YtfjidcmegacibaaDoorZPartB
import Derived.Test.YtfjidcmegacibaaDoorZQ59
import Derived.Test.YtfjidcmegacibaaDoorZQ12

namespace Go.Proofs.YtfjidcmegacibaaDoor.Pure
open Go.RowKit Go.Proofs.YtfjidcmegacibaaDoor.Q Go.Proofs.YtfjidcmegacibaaDoorW.PrintWords Go.Proofs.YtfjidcmegacibaaDoorW.PrintLast
set_option linter.unusedVariables false
set_option linter.unusedSimpArgs false
def NL : ByteArray := ⟨#[13, 10]⟩
def CL : ByteArray := ⟨#[67, 111, 110, 116, 101, 110, 116, 45, 76, 101, 110, 103, 116, 104, 58, 32]⟩
def pbulk (hs : List S52) : Nat := (hs.map fun h => h.f0.size + h.f1.size + 4).sum
theorem pbulk_cons (h : S52) (hs : List S52) : pbulk (h :: hs) = h.f0.size + h.f1.size + 4 + pbulk hs := by simp [pbulk]
theorem pbulk_len (hs : List S52) : hs.length ≤ pbulk hs := by
  induction hs with
  | nil => exact Nat.zero_le _
  | cons h hs ih => rw [pbulk_cons, List.length_cons]; omega
theorem hd_eq (acc : ByteArray) (h : S52) : (((acc ++ h.f0) ++ (⟨#[58, 32]⟩ : ByteArray)) ++ h.f1) ++ (⟨#[13, 10]⟩ : ByteArray) = reply_Print.hd acc h := by
  unfold reply_Print.hd reply_Print.nl
  simp only [ByteArray.append_assoc]
theorem fold_size (hs : List S52) : ∀ X : ByteArray, (hs.foldl reply_Print.hd X).size = X.size + pbulk hs := by
  induction hs with
  | nil => intro X; simp [pbulk]
  | cons h hs ih => intro X; rw [List.foldl_cons, ih, reply_Print.hd_size, pbulk_cons]; omega
def refEnd (k : Nat) (x1 x4 : Bool) (F : ByteArray) (a0 : Int) (hs : List S52) (body : List Int) : Option (List Int) :=
  (stowageref17_Bare.f a0).bind fun t140 => (if t140 = true then (stowageref17_Print.j1 k x1 x4 F a0 hs body) else (if F.size + 16 ≤ 9223372036854775807 then ((stowageref1_Text.f k (body.length : Int)).bind fun t141 => (if (F ++ (⟨#[67, 111, 110, 116, 101, 110, 116, 45, 76, 101, 110, 103, 116, 104, 58, 32]⟩ : ByteArray)).size + t141.size ≤ 9223372036854775807 then (if ((F ++ (⟨#[67, 111, 110, 116, 101, 110, 116, 45, 76, 101, 110, 103, 116, 104, 58, 32]⟩ : ByteArray)) ++ t141).size + 2 ≤ 9223372036854775807 then (stowageref17_Print.j1 k x1 x4 (((F ++ (⟨#[67, 111, 110, 116, 101, 110, 116, 45, 76, 101, 110, 103, 116, 104, 58, 32]⟩ : ByteArray)) ++ t141) ++ (⟨#[13, 10]⟩ : ByteArray)) a0 hs body) else (none)) else (none))) else (none)))
theorem ref_fold (x1 x4 : Bool) (a0 : Int) (hs : List S52) (body : List Int) (X : ByteArray) (r : List Int) (hsz : X.size + pbulk hs ≤ 1000000000000000)
    (hr : Ev (fun k => refEnd k x1 x4 (hs.foldl reply_Print.hd X) a0 hs body) r) (j : Nat) : ∀ i : Nat, i + j = hs.length →
    Ev (fun k => stowageref17_Print.l0 k x1 x4 ((hs.take i).foldl reply_Print.hd X) (i : Int) a0 hs body) r := by
  have hlen := pbulk_len hs
  induction j with
  | zero =>
    intro i hi
    obtain rfl : i = hs.length := by omega
    rw [List.take_length]
    exact Ev.step (f := fun k => refEnd k x1 x4 (hs.foldl reply_Print.hd X) a0 hs body) (fun k => by rw [stowageref17_Print.l0, if_neg (by omega)]; rfl) hr
  | succ j ih =>
    intro i hi
    have hl : i < hs.length := by omega
    have e : rd_T52 hs (i : Int) = hs[i] := by simp [rd_T52, List.getD_eq_getElem?_getD, List.getElem?_eq_getElem hl]
    have hq := reply_Print.take_ge hs (i + 1) X
    rw [fold_size hs X, reply_Print.snoc hs i X hl, reply_Print.hd_size] at hq
    have q := ih (i + 1) (by omega)
    rw [reply_Print.snoc hs i X hl] at q
    have z : ((⟨#[58, 32]⟩ : ByteArray)).size = 2 := rfl
    refine Ev.step (f := fun k => stowageref17_Print.l0 k x1 x4 (reply_Print.hd ((hs.take i).foldl reply_Print.hd X) hs[i]) ((i + 1 : Nat) : Int) a0 hs body) (fun k => ?_) q
    rw [stowageref17_Print.l0, if_pos (by omega), if_pos (by omega), e]
    rw [if_pos (by omega), if_pos (by rw [ByteArray.size_append]; omega), if_pos (by rw [ByteArray.size_append, ByteArray.size_append, z]; omega), if_pos (by rw [ByteArray.size_append, ByteArray.size_append, ByteArray.size_append, z]; omega), hd_eq, w64 (by omega) (by omega)]
    congr 1
theorem app_nil (a : ByteArray) : a ++ (⟨#[]⟩ : ByteArray) = a := by apply toList_inj; rw [toList_append, ByteArray.toList_eq (⟨#[]⟩ : ByteArray)]; simp
theorem closes_eq (a : ByteArray) : a ++ (⟨#[67, 111, 110, 110, 101, 99, 116, 105, 111, 110, 58, 32, 99, 108, 111, 115, 101, 13, 10]⟩ : ByteArray) = a ++ (⟨#[67, 111, 110, 110, 101, 99, 116, 105, 111, 110, 58, 32, 99, 108, 111, 115, 101]⟩ : ByteArray) ++ NL := by
  rw [ByteArray.append_assoc]; rfl
theorem bytesOf_son (xs : List Int) (h : ∀ x ∈ xs, 0 ≤ x ∧ x ≤ 255) : bytesOf (strOfNums xs) = xs := by
  simp only [bytesOf, strOfNums, List.map_map]
  conv => rhs; rw [← List.map_id xs]
  refine List.map_congr_left fun x hx => ?_
  have := h x hx
  simp only [Function.comp, id]
  rw [show (x.toNat.toUInt8).toNat = x.toNat by simp [Nat.toUInt8]; omega]
  omega
theorem bytesOf_app (a b : ByteArray) : bytesOf (a ++ b) = bytesOf a ++ bytesOf b := by
  simp [bytesOf, ByteArray.data_append]
theorem ref_j1 (x1 x4 b : Bool) (G : ByteArray) (a0 : Int) (hs : List S52) (body : List Int) (hb : stowageref17_Bare.f a0 = some b) (hsz : G.size + body.length ≤ 100000000000000) (h8 : ∀ x ∈ body, 0 ≤ x ∧ x ≤ 255) :
    Ev (fun k => stowageref17_Print.j1 k x1 x4 G a0 hs body) (bytesOf (if x1 = true then ((if x4 = true then G ++ (⟨#[67, 111, 110, 110, 101, 99, 116, 105, 111, 110, 58, 32, 99, 108, 111, 115, 101]⟩ : ByteArray) ++ reply_Print.nl else G) ++ (⟨#[]⟩ : ByteArray) ++ reply_Print.nl) else if b = true then ((if x4 = true then G ++ (⟨#[67, 111, 110, 110, 101, 99, 116, 105, 111, 110, 58, 32, 99, 108, 111, 115, 101]⟩ : ByteArray) ++ reply_Print.nl else G) ++ (⟨#[]⟩ : ByteArray) ++ reply_Print.nl) else ((if x4 = true then G ++ (⟨#[67, 111, 110, 110, 101, 99, 116, 105, 111, 110, 58, 32, 99, 108, 111, 115, 101]⟩ : ByteArray) ++ reply_Print.nl else G) ++ (⟨#[]⟩ : ByteArray) ++ reply_Print.nl) ++ strOfNums body)) := by
  have z19 : (⟨#[67, 111, 110, 110, 101, 99, 116, 105, 111, 110, 58, 32, 99, 108, 111, 115, 101, 13, 10]⟩ : ByteArray).size = 19 := rfl
  have z2 : (⟨#[13, 10]⟩ : ByteArray).size = 2 := rfl
  have main : ∀ T : ByteArray, T.size + body.length ≤ 140737488355328 → (((some (bytesOf T : List Int)).bind fun y142 => (if x1 = true then (some y142) else ((stowageref17_Bare.f a0).bind fun t145 => (if t145 = true then (some y142) else (if y142.length + body.length ≤ 140737488355328 then (some (y142 ++ body)) else (none))))))) = some (bytesOf (if x1 = true then T else if b = true then T else T ++ strOfNums body)) := by
    intro T hT
    cases x1 <;> cases b <;> simp only [Option.bind_some, hb, if_true, Bool.false_eq_true, if_false]
    rw [if_pos (by rw [bytesOf_length]; exact hT), bytesOf_app, bytesOf_son body h8]
  cases x4
  · refine Ev.step (f := fun _ => _) (fun k => ?_) (Ev.now _)
    rw [stowageref17_Print.j1, if_neg Bool.false_ne_true, if_pos (by omega), if_pos (by rw [ByteArray.size_append, z2]; omega), main _ (by rw [ByteArray.size_append, z2]; omega)]
    simp only [Bool.false_eq_true, if_false, app_nil]
    rfl
  · refine Ev.step (f := fun _ => _) (fun k => ?_) (Ev.now _)
    rw [stowageref17_Print.j1, if_pos rfl, if_pos (by omega), if_pos (by rw [ByteArray.size_append, z19]; omega), if_pos (by rw [ByteArray.size_append, ByteArray.size_append, z19, z2]; omega), main _ (by rw [ByteArray.size_append, ByteArray.size_append, z19, z2]; omega)]
    simp only [if_true, app_nil, closes_eq]
    rfl
theorem top_app (t p d id : ByteArray) : (((((((((⟨#[72, 84, 84, 80, 47, 49, 46, 49, 32]⟩ : ByteArray) ++ t) ++ (⟨#[32]⟩ : ByteArray)) ++ p) ++ (⟨#[13, 10, 83, 101, 114, 118, 101, 114, 58, 32, 115, 116, 111, 119, 97, 103, 101, 13, 10, 68, 97, 116, 101, 58, 32]⟩ : ByteArray)) ++ d) ++ (⟨#[13, 10, 120, 45, 97, 109, 122, 45, 114, 101, 113, 117, 101, 115, 116, 45, 105, 100, 58, 32]⟩ : ByteArray)) ++ id) ++ (⟨#[13, 10]⟩ : ByteArray)) = reply_Print.top t p d id := by
  apply toList_inj
  unfold reply_Print.top reply_Print.nl
  rw [ByteArray.toList_eq, ByteArray.toList_eq]
  simp [ByteArray.data_append]
theorem print_same (a0 : Int) (hs : List S52) (body : List Int) (head : Bool) (time : Int) (id : ByteArray) (closes : Bool) (h0 : -9223372036854775808 ≤ a0) (h1 : a0 ≤ 9223372036854775807) (h8 : ∀ x ∈ body, 0 ≤ x ∧ x ≤ 255)
    (hsz : pbulk hs + body.length + id.size ≤ 100000000) : ∃ R : List Int, R.length ≤ 1000000000 ∧ Ev (fun k => reply_Print.f k a0 hs body head time id closes) R ∧ Ev (fun k => stowageref17_Print.f k a0 hs body head time id closes) R := by
  obtain ⟨p, hp0, hp1, hp2⟩ := phrase_same a0
  obtain ⟨d, hd0, hd1, hd2⟩ := http_same time
  obtain ⟨b, hb1, hb2⟩ := bare_same a0
  have ht1 := encText_eq a0 h0 h1
  have ht2 := txt_ev a0 h0 h1
  have ht0 : (B (itx a0)).size ≤ 20 := by rw [B_size]; exact itx_len a0 h0 h1
  have hn1 := encText_eq (body.length : Int) (by omega) (by omega)
  have hn2 := txt_ev (body.length : Int) (by omega) (by omega)
  have hn0 : (B (itx (body.length : Int))).size ≤ 20 := by rw [B_size]; exact itx_len _ (by omega) (by omega)
  generalize B (itx a0) = t at ht1 ht2 ht0
  generalize B (itx (body.length : Int)) = n at hn1 hn2 hn0
  have hts := reply_Print.top_size t p d id
  have hF := fold_size hs (reply_Print.top t p d id)
  have z16 : (⟨#[67, 111, 110, 116, 101, 110, 116, 45, 76, 101, 110, 103, 116, 104, 58, 32]⟩ : ByteArray).size = 16 := rfl
  have z17 : (⟨#[67, 111, 110, 110, 101, 99, 116, 105, 111, 110, 58, 32, 99, 108, 111, 115, 101]⟩ : ByteArray).size = 17 := rfl
  have z0 : (⟨#[]⟩ : ByteArray).size = 0 := rfl
  have znl : reply_Print.nl.size = 2 := rfl
  have hall : (reply_Print.all t p d id n hs body head b closes).size ≤ 1000000000 := by
    have hso : (strOfNums body).size = body.length := by simp [strOfNums, ByteArray.size]
    unfold reply_Print.all reply_Print.tail
    cases head <;> cases b <;> cases closes <;> simp only [if_true, Bool.false_eq_true, if_false, ByteArray.size_append, z16, z17, z0, znl, hso] <;> omega
  refine ⟨bytesOf (reply_Print.all t p d id n hs body head b closes), by rw [bytesOf_length]; exact hall, ?_, ?_⟩
  · simp only [reply_Print.f]
    refine ev_some ht1 (ev_some hp1 (Ev.bind hd1 (ev_some hb1 (ev_some hn1 (ev_pos (by omega) (Ev.now _))))))
  · have hend : Ev (fun k => refEnd k head closes (hs.foldl reply_Print.hd (reply_Print.top t p d id)) a0 hs body) (bytesOf (reply_Print.all t p d id n hs body head b closes)) := by
      simp only [refEnd]
      refine ev_some hb2 ?_
      cases b
      · refine ev_neg (by simp) (ev_pos (by omega) (Ev.bind hn2 (ev_pos (by rw [ByteArray.size_append, z16]; omega) (ev_pos (by rw [ByteArray.size_append, ByteArray.size_append, z16]; omega) ?_))))
        refine ev_eq (ref_j1 head closes false _ a0 hs body hb2 (by simp only [ByteArray.size_append, z16]; have : (⟨#[13, 10]⟩ : ByteArray).size = 2 := rfl; omega) h8) ?_
        unfold reply_Print.all reply_Print.tail
        rw [show ∀ F : ByteArray, ((F ++ (⟨#[67, 111, 110, 116, 101, 110, 116, 45, 76, 101, 110, 103, 116, 104, 58, 32]⟩ : ByteArray)) ++ n) ++ (⟨#[13, 10]⟩ : ByteArray) = F ++ ((⟨#[67, 111, 110, 116, 101, 110, 116, 45, 76, 101, 110, 103, 116, 104, 58, 32]⟩ : ByteArray) ++ n) ++ reply_Print.nl from fun F => by simp only [ByteArray.append_assoc]; rfl]
        rfl
      · refine ev_pos rfl ?_
        refine ev_eq (ref_j1 head closes true _ a0 hs body hb2 (by omega) h8) ?_
        unfold reply_Print.all reply_Print.tail
        rfl
    have q := ref_fold head closes a0 hs body (reply_Print.top t p d id) _ (by omega) hend hs.length 0 (by omega)
    rw [List.take_zero, List.foldl_nil] at q
    have y1 : (⟨#[72, 84, 84, 80, 47, 49, 46, 49, 32]⟩ : ByteArray).size = 9 := rfl
    have y2 : (⟨#[32]⟩ : ByteArray).size = 1 := rfl
    have y3 : (⟨#[13, 10, 83, 101, 114, 118, 101, 114, 58, 32, 115, 116, 111, 119, 97, 103, 101, 13, 10, 68, 97, 116, 101, 58, 32]⟩ : ByteArray).size = 25 := rfl
    have y4 : (⟨#[13, 10, 120, 45, 97, 109, 122, 45, 114, 101, 113, 117, 101, 115, 116, 45, 105, 100, 58, 32]⟩ : ByteArray).size = 20 := rfl
    simp only [stowageref17_Print.f]
    refine Ev.bind ht2 (ev_pos (by omega) (ev_pos (by simp only [ByteArray.size_append, y1]; omega) (Ev.bind hp2 (ev_pos (by simp only [ByteArray.size_append, y1, y2]; omega) (ev_pos (by simp only [ByteArray.size_append, y1, y2]; omega) (Ev.bind hd2 (ev_pos (by simp only [ByteArray.size_append, y1, y2, y3]; omega) (ev_pos (by simp only [ByteArray.size_append, y1, y2, y3]; omega) (ev_pos (by simp only [ByteArray.size_append, y1, y2, y3, y4]; omega) (ev_pos (by simp only [ByteArray.size_append, y1, y2, y3, y4]; omega) ?_))))))))))
    rw [top_app]
    exact q
end Go.Proofs.YtfjidcmegacibaaDoor.Pure
