/- A part of the proof of the seat's laws. No condition beyond those in the theorems. -/
import Derived.Test.YtieejapamkokaaaDoorZParsedB
import Derived.Test.YtieejapamkokaaaDoorZQ66

namespace Go.Proofs.YtieejapamkokaaaDoor.Pure
open Go.RowKit Go.Proofs.YtieejapamkokaaaDoor.Q Go.Proofs.YtieejapamkokaaaDoorW.PrintWords Go.Proofs.YtieejapamkokaaaDoorW.PrintLast Go.Proofs.YtieejapamkokaaaDoorW.PrintMore
set_option linter.unusedVariables false
set_option linter.unusedSimpArgs false
theorem order_aw (a b k l : ByteArray) (n m : Int) : Ev (fun f => stowagelaw12_MetaOrder.j0 f a b k l n m true) true := Ev.step (fun f => by rw [stowagelaw12_MetaOrder.j0, if_pos rfl]) aw_ev
theorem MetaOrder : stowagelaw12_MetaOrder.Pure := by
  intro a b k l n m ha hb hk hl hn hm
  have bn := wf_bd hn
  have bm := wf_bd hm
  have z66 : (⟨#[66]⟩ : ByteArray).size = 1 := rfl
  refine Ev.rounds ?_
  refine ev_pos (by omega) (Ev.bind (parseBucket_ev _ (by rw [ByteArray.size_append]; omega)) ?_)
  by_cases g1 : (bucketR ((⟨#[66]⟩ : ByteArray) ++ a).toList).2 = true
  rotate_left
  · exact ev_neg g1 aw_ev
  refine ev_pos g1 (ev_pos (by omega) (Ev.bind (parseBucket_ev _ (by rw [ByteArray.size_append]; omega)) ?_))
  by_cases g2 : (bucketR ((⟨#[66]⟩ : ByteArray) ++ b).toList).2 = true
  rotate_left
  · exact ev_neg g2 aw_ev
  refine ev_pos g2 (Ev.bind (uploadKey_ev a k n (by omega) (by omega) bn.2) (Ev.bind (upload_ev (longK 85 a k (pos0 n)) (by rw [longK_size]; omega)) ?_))
  simp only [tell_ok]
  by_cases g3 : (D 85 (longK 85 a k (pos0 n)).toList).isSome = true
  rotate_left
  · exact ev_neg g3 (order_aw a b k l n m)
  refine ev_pos g3 ?_
  by_cases p1 : n < 0
  · exact ev_pos p1 (order_aw a b k l n m)
  refine ev_neg p1 ?_
  by_cases p2 : m < 0
  · rw [decide_eq_true p2]; exact order_aw a b k l n m
  rw [decide_eq_false p2]
  refine Ev.step (fun f => by rw [stowagelaw12_MetaOrder.j0, if_neg (by decide)]) (Ev.bind (uploadKey_ev b l m (by omega) (by omega) bm.2) (Ev.bind (upload_ev (longK 85 b l (pos0 m)) (by rw [longK_size]; omega)) ?_))
  simp only [tell_ok]
  by_cases g4 : (D 85 (longK 85 b l (pos0 m)).toList).isSome = true
  rotate_left
  · exact ev_neg g4 aw_ev
  refine ev_pos g4 ?_
  obtain ⟨za, zk⟩ := read_zero 85 a k _ g3
  obtain ⟨zb, zl⟩ := read_zero 85 b l _ g4
  have pn : (pos0 n : Int) = n := by unfold pos0; omega
  have pm : (pos0 m : Int) = m := by unfold pos0; omega
  have hO := longK_less 79 a k b l (oseq n) (oseq m) (by unfold oseq; omega) (by unfold oseq; omega) za zk zb zl
  have hU := longK_less 85 a k b l (pos0 n) (pos0 m) (by omega) (by omega) za zk zb zl
  have tail : ∀ x y : Bool, (if y = true then decide (n > m) else x) = (if a.toList = b.toList then (if k.toList = l.toList then decide (oseq n < oseq m) else Op.bytesLess k.toList l.toList) else Op.bytesLess a.toList b.toList) → (if y = true then decide (n < m) else x) = (if a.toList = b.toList then (if k.toList = l.toList then decide (pos0 n < pos0 m) else Op.bytesLess k.toList l.toList) else Op.bytesLess a.toList b.toList) → (x = true → y = false) →
      Ev (fun f => stowagelaw12_MetaOrder.j2 f a b k l n m x y) true := by
    intro x y h1 h2 hxy
    rw [← hO] at h1
    rw [← hU] at h2
    refine Ev.step (f := fun f => (meta_ObjectKey.f f a k n).bind fun t262 => ((meta_ObjectKey.f f b l m).bind fun t263 => ((meta_UploadKey.f f a k n).bind fun t264 => ((meta_UploadKey.f f b l m).bind fun t265 => (if x = true then (if ((Op.bytesLess t262.toList t263.toList) == true) = true then (if ((Op.bytesLess t264.toList t265.toList) == true) = true then ((stowagelaw12_awake.f f).bind fun t266 => (some t266)) else (some false)) else (some false)) else (if y = true then (if ((Op.bytesLess t262.toList t263.toList) == (decide (n > m))) = true then (if ((Op.bytesLess t264.toList t265.toList) == (decide (n < m))) = true then ((stowagelaw12_awake.f f).bind fun t267 => (some t267)) else (some false)) else (some false)) else (if ((Op.bytesLess t262.toList t263.toList) == false) = true then (if ((Op.bytesLess t264.toList t265.toList) == false) = true then ((stowagelaw12_awake.f f).bind fun t268 => (some t268)) else (some false)) else (some false)))))))) (fun f => by rw [stowagelaw12_MetaOrder.j2]) ?_
    refine Ev.bind (objectKey_ev a k n (by omega) (by omega) bn.2) (Ev.bind (objectKey_ev b l m (by omega) (by omega) bm.2) (Ev.bind (uploadKey_ev a k n (by omega) (by omega) bn.2) (Ev.bind (uploadKey_ev b l m (by omega) (by omega) bm.2) ?_)))
    rw [← h1, ← h2]
    cases x with
    | true =>
      rw [hxy rfl]
      exact ev_pos rfl (ev_pos (by simp) (ev_pos (by simp) aw_ev))
    | false =>
      refine ev_neg (by decide) ?_
      cases y with
      | true => exact ev_pos rfl (ev_pos (by simp) (ev_pos (by simp) aw_ev))
      | false => exact ev_neg (by decide) (ev_pos (by simp) (ev_pos (by simp) aw_ev))
  have e1 : decide (oseq n < oseq m) = decide (n > m) := by rw [decide_eq_decide]; unfold oseq; omega
  have e2 : decide (pos0 n < pos0 m) = decide (n < m) := by rw [decide_eq_decide]; omega
  have irr := fun t : List UInt8 => less_irr t
  by_cases c1 : Op.bytesLess a.toList b.toList = true
  · have hne : ¬ a.toList = b.toList := by intro e; rw [e, irr] at c1; exact absurd c1 (by decide)
    refine ev_pos c1 (Ev.step (f := fun f => stowagelaw12_MetaOrder.j2 f a b k l n m true false) (fun f => by rw [stowagelaw12_MetaOrder.j1, if_neg hne]) (tail true false ?_ ?_ (fun _ => rfl)))
    · rw [if_neg hne, c1]; rfl
    · rw [if_neg hne, c1]; rfl
  · refine ev_neg c1 ?_
    simp only [Bool.not_eq_true] at c1
    by_cases c2 : a.toList = b.toList
    · refine ev_pos c2 (Ev.step (f := fun f => stowagelaw12_MetaOrder.j2 f a b k l n m (Op.bytesLess k.toList l.toList) (k.toList == l.toList)) (fun f => by rw [stowagelaw12_MetaOrder.j1, if_pos c2]) ?_)
      by_cases c3 : k.toList = l.toList
      · refine tail _ _ ?_ ?_ ?_
        · rw [if_pos c2, if_pos c3, e1, if_pos (by simpa using c3)]
        · rw [if_pos c2, if_pos c3, e2, if_pos (by simpa using c3)]
        · intro h; rw [c3, irr] at h; exact absurd h (by decide)
      · have c3' : (k.toList == l.toList) = false := by simpa using c3
        refine tail _ _ ?_ ?_ ?_
        · rw [if_pos c2, if_neg c3, c3']; rfl
        · rw [if_pos c2, if_neg c3, c3']; rfl
        · intro _; exact c3'
    · refine ev_neg c2 (Ev.step (f := fun f => stowagelaw12_MetaOrder.j2 f a b k l n m false false) (fun f => by rw [stowagelaw12_MetaOrder.j1, if_neg c2]) (tail false false ?_ ?_ (fun h => absurd h (by decide))))
      · rw [if_neg c2, c1]; rfl
      · rw [if_neg c2, c1]; rfl
end Go.Proofs.YtieejapamkokaaaDoor.Pure
