/- A part of the proof of the seat's laws. No condition beyond those in the theorems. -/
import Derived.Test.YtklcgncaclggcaaDoorZSqzB
import Derived.Deep.RegionWith
import Derived.WalkMore
import Derived.Test.YtklcgncaclggcaaDoorZQ66g4
import Derived.Test.YtklcgncaclggcaaDoorZQ0g18
import Derived.Test.YtklcgncaclggcaaDoorZQ53g10
import Derived.Test.YtklcgncaclggcaaDoorZQ80g5
open Bool renaming true→T,false→F

namespace Go.Proofs.YtklcgncaclggcaaDoor.Q
open Go.RowKit Go.Proofs.YtklcgncaclggcaaDoorW.PrintWords Go.Proofs.YtklcgncaclggcaaDoorW.PrintLast Go.Proofs.YtklcgncaclggcaaDoorW.PrintMore
set_option linter.unusedVariables false
set_option linter.unusedSimpArgs false
set_option maxHeartbeats 8000000
set_option maxRecDepth 100000
attribute [local go_sem] max2_int min2_int max_two min_two max_three min_three max_four min_four   
theorem rco.calls_ (k:Nat) (ih:∀ m,m<k→rel.Does m):rco.Does k:=by
 intro nm s p bd d r w0 w g hI0 hB0 h
 have hI:=Aside0.mk hI0
 have hB:=Aside0.mk hB0
 clear hI0 hB0
 cases k with
 | zero=>exact absurd h (by simp [rco.f])
 | succ k=>
 simp only [rco.f] at h
 have hu30:=Tryd.underlying30
 obtain⟨a_,hq_,h⟩:=bndO h
 obtain⟨a1,a2,a3,a4⟩:=a_
 have hA:=Aside0.mk hq_
 clear hq_
 dsimp only at h
 obtain⟨q,hq_,h⟩:=bndO h
 have hQ:=Aside0.mk hq_
 clear hq_
 have hH:=Aside0.mk h
 clear h
 go_enter Tryd.func69,Tryd.ntmps69
 go_upto_region 3 with(first|((with_reducible refine gate_dst (N:=4) rfl ?_);(try (refine gate_guard (by rfl) ?_;dsimp only));refine box_event ?hg4 (N:=4) ?hd4 (cs:=#[.string nm,.string (⟨#[]⟩ : ByteArray),.slice none 0 0]) (t:=30) ?hr4 ?_;(case hd4=>rfl);(case hg4=>rfl);(case hr4=>first|(go_simp;done)|(go_simp;rfl));intro b hgb w4 hbox hb;have HB4:=Aside0.mk hb;have HX4:=Aside0.mk hbox;have HG4:=Aside0.mk hgb;clear hb hbox hgb)|((with_reducible refine gate_dst (N:=6) rfl ?_);(try (refine gate_guard (by rfl) ?_;dsimp only));refine box_event ?hg6 (N:=6) ?hd6 (cs:=#[.string (⟨#[]⟩ : ByteArray),.string (⟨#[]⟩ : ByteArray),.slice none 0 0]) (t:=30) ?hr6 ?_;(case hd6=>rfl);(case hg6=>rfl);(case hr6=>first|(go_simp;done)|(go_simp;rfl));intro c hgc w5 hbox hb;have HV:=Aside0.mk (rco.begin hI.out hB.out HB4.out HX4.out HG4.out hb hbox hgc);clear hb hbox hgc HB4 HX4 HG4;obtain⟨hc0,hc1,hc2,hf0,hf1,hf2,hr0,hr1,hr2,hs0,hs1,hs2,hcg,hgc⟩:=HV.out.z.all;obtain⟨hd0,hd1,hd2,he0,he1,he2,hbg,hgb,hbc,hcb⟩:=HV.out.all)|(go_at_call 33;with_reducible refine(stowageref13_Reader_skip.calls k g s p bd a1 a2 a3 a4 w0 _ ?s1 ?s2 hA.out).mono ?_;(case s1=>exact rel.zi);(case s2=>exact rel.zb);rintro e_ w_ ⟨rfl,hi,hb,hk⟩;replace HV:=Aside0.mk (rel.In.call rel.c hi hb hk);clear hi hb hk;obtain⟨hc0,hc1,hc2,hf0,hf1,hf2,hr0,hr1,hr2,hs0,hs1,hs2,hcg,hgc⟩:=HV.out.z.all;obtain⟨hd0,hd1,hd2,he0,he1,he2,hbg,hgb,hbc,hcb⟩:=HV.out.all))
 go_cut [51] (fun v51 wc=>v51 = .bool q∧Aside0 (rel.In w0 w wc g b c a2 a3 a4 nm (⟨#[]⟩ : ByteArray) (.slice none 0 0) []))
 case first=>
  clear hH
  have h:=hQ.out
  clear hQ
  unfold rco.is at h
  rcases itO h with⟨c1,h⟩|⟨c1,h⟩
  case inr=>
   have uT:=eq_false c1
   have uD:=decide_eq_false c1
   clear c1
   obtain rfl:=Option.some.inj h
   go_wp2_with (fail)
   repeat (go_quiet (fail);try go_wp2_with (fail))
   go_meet
   case rel=>exact⟨rfl,⟨rel.c⟩⟩
  have uT:=eq_true c1
  have uD:=decide_eq_true c1
  clear c1
  rcases itO h with⟨c2,h⟩|⟨_,h⟩
  case inr=>exact absurd h (by simp)
  have vT:=eq_true c2
  have vD:=decide_eq_true c2
  clear c2
  rcases itO h with⟨c3,h⟩|⟨_,h⟩
  case inr=>exact absurd h (by simp)
  have xT:=eq_true c3
  have xD:=decide_eq_true c3
  clear c3
  have ix1:=bt_at a2 a3
  rcases itO h with⟨c4,h⟩|⟨c4,h⟩
  case inr=>
   have yB:(bt a2 a3 == 60)=false:=beq_eq_false_iff_ne.mpr c4
   have yN:(bt a2 a3 != 60)=true:=bne_iff_ne.mpr c4
   have yT:=eq_false c4
   have yD:=decide_eq_false c4
   clear c4
   obtain rfl:=Option.some.inj h
   go_wp2_with (fail)
   repeat (go_quiet (fail);try go_wp2_with (fail))
   go_meet
   case rel=>exact⟨rfl,⟨rel.c⟩⟩
  have yB:(bt a2 a3 == 60)=true:=beq_iff_eq.mpr c4
  have yN:(bt a2 a3 != 60)=false:=bne_eq_false_iff_eq.mpr c4
  have yT:=eq_true c4
  have yD:=decide_eq_true c4
  clear c4
  rcases itO h with⟨c5,h⟩|⟨_,h⟩
  case inr=>exact absurd h (by simp)
  have zT:=eq_true c5
  have zD:=decide_eq_true c5
  clear c5
  have ix2:=bt_at a2 (wrap64 (a3+1))
  rcases itO h with⟨c6,h⟩|⟨c6,h⟩
  ·skip
   have oB:(bt a2 (wrap64 (a3+1)) == 47)=true:=beq_iff_eq.mpr c6
   have oN:(bt a2 (wrap64 (a3+1)) != 47)=false:=bne_eq_false_iff_eq.mpr c6
   have oT:=eq_true c6
   have oD:=decide_eq_true c6
   clear c6
   obtain rfl:=Option.some.inj h
   go_wp2_with (fail)
   repeat (go_quiet (fail);try go_wp2_with (fail))
   go_meet
   case rel=>exact⟨rfl,⟨rel.c⟩⟩
  have oB:(bt a2 (wrap64 (a3+1)) == 47)=false:=beq_eq_false_iff_ne.mpr c6
  have oN:(bt a2 (wrap64 (a3+1)) != 47)=true:=bne_iff_ne.mpr c6
  have oT:=eq_false c6
  have oD:=decide_eq_false c6
  clear c6
  obtain rfl:=Option.some.inj h
  go_wp2_with (fail)
  repeat (go_quiet (fail);try go_wp2_with (fail))
  go_meet
  case rel=>exact⟨rfl,⟨rel.c⟩⟩
 case rest=>
  obtain⟨rfl,HV⟩:=hcut
  obtain⟨hc0,hc1,hc2,hf0,hf1,hf2,hr0,hr1,hr2,hs0,hs1,hs2,hcg,hgc⟩:=HV.out.z.all
  obtain⟨hd0,hd1,hd2,he0,he1,he2,hbg,hgb,hbc,hcb⟩:=HV.out.all
  have h:=hH.out
  clear hH hQ
  cases q with
  | true=>
   rw [if_pos rfl] at h
   obtain⟨l_,hq_,h⟩:=bndO h
   obtain⟨l1,l2,l3,l4⟩:=l_
   have hL:=Aside0.mk hq_
   clear hq_
   dsimp only at h
   have hH:=Aside0.mk h
   clear h
   go_wp2_with (fail)
   go_loopg [] k (fun kq w'=>∃ (s':ByteArray) (p':Int) (b':Bool) (kids:List S30) (v:Value),Aside0 (rco.lp kq s' p' b' d kids=some (l1,l2,l3,l4))∧Aside0 (kq≤k)∧Aside0 (rel.In w0 w w' g b c s' p' b' nm (⟨#[]⟩ : ByteArray) v kids))
   case atStart=>exact⟨a2,a3,a4,[],.slice none 0 0,hL,⟨Nat.le_refl _⟩,⟨rel.c⟩⟩
   case round=>
    clear hL HV
    obtain⟨s',p',b',kids,v,HA,HK1,HV⟩:=hrel
    obtain⟨vA,vc,rfl⟩:=Kd.R_slice HV.out.row
    obtain⟨hc0,hc1,hc2,hf0,hf1,hf2,hr0,hr1,hr2,hs0,hs1,hs2,hcg,hgc⟩:=HV.out.z.all
    obtain⟨hd0,hd1,hd2,he0,he1,he2,hbg,hgb,hbc,hcb⟩:=HV.out.all
    cases gk with
    | zero=>exact absurd HA.out (by simp [rco.lp])
    | succ k1=>
     have h:=HA.out
     clear HA
     simp only [rco.lp] at h
     have hL:=Aside0.mk h
     clear h
     go_upto_region 4 with fail
     go_cut [81] (fun v81 wc=>∃ (m:Bool),v81 = .bool m∧Aside0 (if m=true then((rel.f k1 s' p' b' (wrap64 (d+1))).bind fun e=>(if kids.length<2513169434916 then((stowageref13_Reader_skip.f k1 e.2.1 e.2.2.1 e.2.2.2).bind fun a=>rco.lp k1 a.2.1 a.2.2.1 a.2.2.2 d (kids ++ [e.1])) else none))=some (l1,l2,l3,l4) else(kids,s',p',b')=(l1,l2,l3,l4))∧Aside0 (rel.In w0 w wc g b c s' p' b' nm (⟨#[]⟩ : ByteArray) (.slice vA kids.length vc) kids))
     case first=>
      have h:=hL.out
      clear hL hH
      cases b' with
      | true=>
       rw [if_pos rfl] at h
       have hH2:=Aside0.mk (Option.some.inj h)
       clear h
       go_wp2_with (fail)
       repeat (go_quiet (fail);try go_wp2_with (fail))
       go_meet
       case rel=>exact⟨false,rfl,⟨by first|exact(if_neg Bool.false_ne_true).mpr hH2.out|(rw [if_neg Bool.false_ne_true];exact hH2.out)|(rw [if_pos rfl];exact hH2.out)⟩,⟨rel.c⟩⟩
      | false=>
       rw [if_neg Bool.false_ne_true] at h
       rcases itO h with⟨c1,h⟩|⟨c1,h⟩
       case inr=>
        have uT:=eq_false c1
        have uD:=decide_eq_false c1
        clear c1
        have hH2:=Aside0.mk (Option.some.inj h)
        clear h
        go_wp2_with (fail)
        repeat (go_quiet (fail);try go_wp2_with (fail))
        go_meet
        case rel=>exact⟨false,rfl,⟨by first|exact(if_neg Bool.false_ne_true).mpr hH2.out|(rw [if_neg Bool.false_ne_true];exact hH2.out)|(rw [if_pos rfl];exact hH2.out)⟩,⟨rel.c⟩⟩
       rcases itO h with⟨c2,h⟩|⟨_,h⟩
       case inr=>exact absurd h (by simp)
       have c3:p'≤(s'.size:Int):=by omega
       have uT:=eq_true c1
       have uD:=decide_eq_true c1
       clear c1
       have vT:=eq_true c2
       have vD:=decide_eq_true c2
       clear c2
       have xT:=eq_true c3
       have xD:=decide_eq_true c3
       clear c3
       obtain⟨x,hx_,h⟩:=bndO h
       have hX:=Aside0.mk hx_
       clear hx_
       cases x with
       | true=>
        rw [if_pos rfl] at h
        have hH2:=Aside0.mk (Option.some.inj h)
        clear h
        go_wp2_with (first|(go_at_call 64;with_reducible refine(stowageref3_Begins.calls (s'.extract (p':Int).toNat s'.size) (⟨#[60,47]⟩ : ByteArray) true _ hX.out).mono ?_;rintro e_ w_ ⟨rfl,⟨nd,rfl⟩⟩;(try first|exact⟨rfl,_,World.drewN_drewN _ _ _⟩|exact⟨rfl,_,Eq.trans (World.drewN_drewN _ _ _) (congrArg (World.drewN _) (Nat.add_assoc _ _ _))⟩)))
        repeat (go_quiet (first|(go_at_call 64;with_reducible refine(stowageref3_Begins.calls (s'.extract (p':Int).toNat s'.size) (⟨#[60,47]⟩ : ByteArray) true _ hX.out).mono ?_;rintro e_ w_ ⟨rfl,⟨nd,rfl⟩⟩;(try first|exact⟨rfl,_,World.drewN_drewN _ _ _⟩|exact⟨rfl,_,Eq.trans (World.drewN_drewN _ _ _) (congrArg (World.drewN _) (Nat.add_assoc _ _ _))⟩)));try go_wp2_with (first|(go_at_call 64;with_reducible refine(stowageref3_Begins.calls (s'.extract (p':Int).toNat s'.size) (⟨#[60,47]⟩ : ByteArray) true _ hX.out).mono ?_;rintro e_ w_ ⟨rfl,⟨nd,rfl⟩⟩;(try first|exact⟨rfl,_,World.drewN_drewN _ _ _⟩|exact⟨rfl,_,Eq.trans (World.drewN_drewN _ _ _) (congrArg (World.drewN _) (Nat.add_assoc _ _ _))⟩))))
        go_meet
        case rel=>exact⟨false,rfl,⟨by first|exact(if_neg Bool.false_ne_true).mpr hH2.out|(rw [if_neg Bool.false_ne_true];exact hH2.out)|(rw [if_pos rfl];exact hH2.out)⟩,⟨rel.c⟩⟩
       | false=>
        rw [if_neg Bool.false_ne_true] at h
        have hH2:=Aside0.mk (h)
        clear h
        go_wp2_with (first|(go_at_call 64;with_reducible refine(stowageref3_Begins.calls (s'.extract (p':Int).toNat s'.size) (⟨#[60,47]⟩ : ByteArray) false _ hX.out).mono ?_;rintro e_ w_ ⟨rfl,⟨nd,rfl⟩⟩;(try first|exact⟨rfl,_,World.drewN_drewN _ _ _⟩|exact⟨rfl,_,Eq.trans (World.drewN_drewN _ _ _) (congrArg (World.drewN _) (Nat.add_assoc _ _ _))⟩)))
        repeat (go_quiet (first|(go_at_call 64;with_reducible refine(stowageref3_Begins.calls (s'.extract (p':Int).toNat s'.size) (⟨#[60,47]⟩ : ByteArray) false _ hX.out).mono ?_;rintro e_ w_ ⟨rfl,⟨nd,rfl⟩⟩;(try first|exact⟨rfl,_,World.drewN_drewN _ _ _⟩|exact⟨rfl,_,Eq.trans (World.drewN_drewN _ _ _) (congrArg (World.drewN _) (Nat.add_assoc _ _ _))⟩)));try go_wp2_with (first|(go_at_call 64;with_reducible refine(stowageref3_Begins.calls (s'.extract (p':Int).toNat s'.size) (⟨#[60,47]⟩ : ByteArray) false _ hX.out).mono ?_;rintro e_ w_ ⟨rfl,⟨nd,rfl⟩⟩;(try first|exact⟨rfl,_,World.drewN_drewN _ _ _⟩|exact⟨rfl,_,Eq.trans (World.drewN_drewN _ _ _) (congrArg (World.drewN _) (Nat.add_assoc _ _ _))⟩))))
        go_meet
        case rel=>exact⟨true,rfl,⟨by first|exact(if_neg Bool.false_ne_true).mpr hH2.out|(rw [if_neg Bool.false_ne_true];exact hH2.out)|(rw [if_pos rfl];exact hH2.out)⟩,⟨rel.c⟩⟩
     case rest=>
      clear hL
      obtain⟨m,rfl,hM,HV⟩:=hcut
      obtain⟨hc0,hc1,hc2,hf0,hf1,hf2,hr0,hr1,hr2,hs0,hs1,hs2,hcg,hgc⟩:=HV.out.z.all
      obtain⟨hd0,hd1,hd2,he0,he1,he2,hbg,hgb,hbc,hcb⟩:=HV.out.all
      cases m with
      | true=>
       have h:=hM.out
       clear hM
       rw [if_pos rfl] at h
       obtain⟨e,he_,h⟩:=bndO h
       obtain⟨⟨x0,x1,x2⟩,e2,e3,e4⟩:=e
       have hE:=Aside0.mk he_
       clear he_
       dsimp only at h
       rcases itO h with⟨hlen,h⟩|⟨_,h⟩
       case inr=>exact absurd h (by simp)
       have hLn:=Aside0.mk hlen
       clear hlen
       obtain⟨u_,hq_,h⟩:=bndO h
       obtain⟨u1,u2,u3,u4⟩:=u_
       have hU:=Aside0.mk hq_
       clear hq_
       dsimp only at h
       have H':=Aside0.mk h
       clear h
       go_upto_region 5 with fail
       refine start_ (n:=10) (S:=fun w'=>w'.cell? ⟨b,2,none⟩=some (.slice vA kids.length vc)) (ds:=[9]) #[F,F,F,F,F,F,F,F,F,F] (by kernel_rfl) rfl rfl rel.d2_ (fun hHeld=>?_)
       refine pu 0 82 #[T,F,F,F,F,F,F,F,F,F] ?_
       refine tk 1 83 #[T,T,F,F,F,F,F,F,F,F] hHeld ?_
       refine pu 2 84 #[T,T,T,F,F,F,F,F,F,F] ?_
       refine pu 3 85 #[T,T,T,T,F,F,F,F,F,F] ?_
       refine pu 4 86 #[T,T,T,T,T,F,F,F,F,F] ?_
       refine one_ (i:=5) (N:=some 87) #[T,T,T,T,T,T,F,F,F,F] rfl rfl (by kernel_rfl) (by decide) (fun K hK=>?_)
       refine goes_ Tryd.func34 (by kernel_rfl) rfl #[.pointer (some ⟨g,0,none⟩),.int .i64 (wrap64 (d+1))] (by rfl) rfl rfl (by(try simp only [List.map_toArray,List.map_cons,List.map_nil]);first|done|rfl) ?_
       with_reducible refine(ih k1 (by have:=HK1.out;omega) s' p' b' (wrap64 (d+1)) _ w0 _ g ?s1 ?s2 hE.out).mono ?_
       case s1=>exact rel.zi
       case s2=>exact rel.zb
       rintro e_ w_ ⟨v,he_,hVV,hi,hb,hk⟩
       dsimp only at he_ hVV hi
       obtain⟨eA,ec,rfl⟩:=Kd.R_slice hVV
       subst he_
       refine⟨_,rfl,?_⟩
       have HE:=Aside0.mk (rel.In.kid rel.c hVV)
       have HV3:=Aside0.mk (rel.In.call rel.c hi hb hk)
       clear HV hi hb hk hVV
       have HV:=HV3
       clear HV3
       refine hK.out _ _ rel.d2_ (fun hHeld=>?_)
       clear hK K
       refine nw ?_
       refine one_ (i:=6) (N:=some 88) #[T,T,T,T,T,T,T,F,F,F] rfl rfl (by kernel_rfl) (by decide) (fun K hK=>?_)
       refine value_ (w1:=?_) (v:=?_) (by rfl) rfl ?_ ?_
       rotate_left 2
       ·go_simp
        constructor
        ·rfl
        ·rfl
       refine hK.out _ _ (HV.out.alloc _).d2 (fun hHeld=>?_)
       clear hK K
       refine nw ?_
       refine one_ (i:=7) (N:=some 89) #[T,T,T,T,T,T,T,T,F,F] rfl rfl (by kernel_rfl) (by decide) (fun K hK=>?_)
       refine Kd.R_append_step k30 (w0:=w_) w.heap.size (by rfl) (.tmp 83) (.tmp 88) 28 30 (.agg #[(.string ⟨#[]⟩),(.string ⟨#[]⟩),(.slice none 0 0)]) 56 rfl Tryd.underlying28 info30 rfl (by decide) (by omega) (.slice vA kids.length vc) kids (⟨x0,x1,x2⟩ : S30) [.string x0,.string x1,.slice eA x2.length ec] (fun k_=>k_≠b∧k_≠c∧k_≠g) (fun k_=>(fun k_=>k_≠b∧k_≠c∧k_≠g) k_∧some k_≠(Value.slice vA kids.length vc).ownBlock) rfl rfl ?aP (fun _ hk=>hk) ?aF ?aO ?aB ?aS ?aL ?_
       case aP=>exact k30_mkM _ _ _ (⟨x0,x1,x2⟩ : S30) HE.out
       case aF=>exact fun k_ hk=>⟨by have:=blk_lt HV.out.blk;omega,by have:=blk_lt HV.out.z.res;omega,by have:=HV.out.z.i.lt;omega⟩
       case aO=>exact HV.out.row
       case aB=>exact Below.refl _ _
       case aS=>exact HV.out.z.grew
       case aL=>have:=hLn.out;omega
       intro v1 w1 hN1 hB1 hG1 hA1
       have hb1:=HV.out.blk1 hG1
       have HV3:=Aside0.mk (HV.out.append hN1 hG1)
       have hlen1:(kids ++ [(⟨x0,x1,x2⟩ : S30)]).length=kids.length+1:=by simp
       obtain⟨nA,nc,rfl⟩:=Kd.R_slice hN1
       clear HV hN1 hB1 hG1 hA1 HE
       refine hK.out _ _ ((blk_cell hb1 2).trans rfl) (fun hHeld=>?_)
       clear hK K
       refine nw ?_
       refine pu 8 90 #[T,T,T,T,T,T,T,T,T,F] ?_
       have hm2:=(blk_cell hb1 2).trans rfl
       have hm3:=blk_frozen hb1 2
       refine last_ (i:=9) (N:=none) #[T,T,T,T,T,T,T,T,T,T] rfl rfl (by kernel_rfl) (by decide) (fun K hK=>?_)
       refine skip_ (w1:=?_) (by rfl) rfl ?_ ?_
       rotate_left
       ·go_simp
        rfl
       refine hK.out _ _ ?_
       clear hK K
       clear hm2 hm3 hb1
       have HV:=HV3
       clear HV3
       try rw [hlen1] at HV
       generalize World.setCell _ _ _=W5 at HV ⊢
       refine done_ (by kernel_rfl) ?_
       obtain⟨hc0,hc1,hc2,hf0,hf1,hf2,hr0,hr1,hr2,hs0,hs1,hs2,hcg,hgc⟩:=HV.out.z.all
       obtain⟨hd0,hd1,hd2,he0,he1,he2,hbg,hgb,hbc,hcb⟩:=HV.out.all
       go_wp2_with (first|(go_at_call 33;with_reducible refine(stowageref13_Reader_skip.calls k1 g e2 e3 e4 u1 u2 u3 u4 w0 _ ?s1 ?s2 hU.out).mono ?_;(case s1=>exact rel.zi);(case s2=>exact rel.zb);rintro e_ w_ ⟨rfl,hi,hb,hk⟩;replace HV:=Aside0.mk (rel.In.call rel.c hi hb hk);clear hi hb hk;obtain⟨hc0,hc1,hc2,hf0,hf1,hf2,hr0,hr1,hr2,hs0,hs1,hs2,hcg,hgc⟩:=HV.out.z.all;obtain⟨hd0,hd1,hd2,he0,he1,he2,hbg,hgb,hbc,hcb⟩:=HV.out.all))
       go_roundg k1
       case measure=>have:=HK1.out;omega
       case rel=>exact⟨u2,u3,u4,_,_,H',⟨by have:=HK1.out;omega⟩,⟨rel.c⟩⟩
      | false=>
       have hM2:=hM.out
       rw [if_neg Bool.false_ne_true] at hM2
       simp only [Prod.mk.injEq] at hM2
       obtain⟨rfl,rfl,rfl,rfl⟩:=hM2
       have h:=hH.out
       clear hM hH
       try dsimp only at h
       go_upto_region 12 with fail
       cases b' with
       | true=>
        rw [rco.out,if_pos rfl] at h
        obtain rfl:=Option.some.inj h
        refine start_ (n:=16) (S:=fun w'=>w'.cell? ⟨g,2,none⟩=some (.bool true)∧w'.cell? ⟨b,0,none⟩=some (.string nm)) (ds:=[]) #[F,F,F,F,F,F,F,F,F,F,F,F,F,F,F,F] (by kernel_rfl) rfl rfl rel.p12 (fun hHeld=>?_)
        clear hc0 hc1 hc2 hf0 hf1 hf2 hr0 hr1 hr2 hs0 hs1 hs2 hcg hgc hd0 hd1 hd2 he0 he1 he2 hbg hgb hbc hcb
        have HV2:=Aside0.mk HV.out.drew
        clear HV
        generalize World.drew _=W12 at HV2 hHeld ⊢
        have HV:=HV2
        clear HV2
        obtain⟨hc0,hc1,hc2,hf0,hf1,hf2,hr0,hr1,hr2,hs0,hs1,hs2,hcg,hgc⟩:=HV.out.z.all
        obtain⟨hd0,hd1,hd2,he0,he1,he2,hbg,hgb,hbc,hcb⟩:=HV.out.all
        refine pu 0 149 #[T,F,F,F,F,F,F,F,F,F,F,F,F,F,F,F] ?_
        refine pu 1 150 #[T,T,F,F,F,F,F,F,F,F,F,F,F,F,F,F] ?_
        refine pu 2 151 #[T,T,T,F,F,F,F,F,F,F,F,F,F,F,F,F] ?_
        refine tk 3 152 #[T,T,T,T,F,F,F,F,F,F,F,F,F,F,F,F] hHeld ?_
        refine pu 4 153 #[T,T,T,T,T,F,F,F,F,F,F,F,F,F,F,F] ?_
        refine po 5 154 #[T,T,T,T,T,T,F,F,F,F,F,F,F,F,F,F] ?_
        refine po 6 155 #[T,T,T,T,T,T,T,F,F,F,F,F,F,F,F,F] ?_
        refine po 7 156 #[T,T,T,T,T,T,T,T,F,F,F,F,F,F,F,F] ?_
        refine pu 8 157 #[T,T,T,T,T,T,T,T,T,F,F,F,F,F,F,F] ?_
        refine pu 9 158 #[T,T,T,T,T,T,T,T,T,T,F,F,F,F,F,F] ?_
        refine po 10 159 #[T,T,T,T,T,T,T,T,T,T,T,F,F,F,F,F] ?_
        refine po 11 160 #[T,T,T,T,T,T,T,T,T,T,T,T,F,F,F,F] ?_
        refine po 12 161 #[T,T,T,T,T,T,T,T,T,T,T,T,T,F,F,F] ?_
        refine po 13 162 #[T,T,T,T,T,T,T,T,T,T,T,T,T,T,F,F] ?_
        refine po 14 163 #[T,T,T,T,T,T,T,T,T,T,T,T,T,T,T,F] ?_
        refine pu 15 164 #[T,T,T,T,T,T,T,T,T,T,T,T,T,T,T,T] ?_
        refine done_ (by kernel_rfl) ?_
        go_wp2_with (fail)
        try simp only [Exit.jump]
        have HZ0:rel.In w0 w _ g b c _ _ true nm (⟨#[]⟩ : ByteArray) (.slice vA kids.length vc) kids:=rel.cs
        have HZ:=rel.In0.fin (nm:=nm) (tx:=(⟨#[]⟩ : ByteArray)) HZ0.z HZ0.own
        refine bodyPost_ret (results_cell_row rfl _ _ c 30 #[.string nm,.string (⟨#[]⟩ : ByteArray),(.slice vA kids.length vc)] (0,0) _ rfl HZ.1 Tryd.underlying30 rfl (by kernel_rfl)) rfl ?_
        exact⟨(.slice vA kids.length vc),rfl,HZ.2⟩
       | false=>
        rw [rco.out,if_neg Bool.false_ne_true] at h
        obtain⟨y_,hq_,h⟩:=bndO h
        obtain⟨y1,y2,y3,y4⟩:=y_
        have hY:=Aside0.mk hq_
        clear hq_
        dsimp only at h
        have e_:=rel.eat_bad hY.out
        dsimp only at e_
        subst e_
        cases y1 with
        | false=>
         rw [if_neg Bool.false_ne_true] at h
         obtain rfl:=Option.some.inj h
         refine start_ (n:=16) (S:=fun w'=>w'.cell? ⟨g,2,none⟩=some (.bool false)∧w'.cell? ⟨b,0,none⟩=some (.string nm)) (ds:=[]) #[F,F,F,F,F,F,F,F,F,F,F,F,F,F,F,F] (by kernel_rfl) rfl rfl rel.p12 (fun hHeld=>?_)
         clear hc0 hc1 hc2 hf0 hf1 hf2 hr0 hr1 hr2 hs0 hs1 hs2 hcg hgc hd0 hd1 hd2 he0 he1 he2 hbg hgb hbc hcb
         have HV2:=Aside0.mk HV.out.drew
         clear HV
         generalize World.drew _=W12 at HV2 hHeld ⊢
         have HV:=HV2
         clear HV2
         obtain⟨hc0,hc1,hc2,hf0,hf1,hf2,hr0,hr1,hr2,hs0,hs1,hs2,hcg,hgc⟩:=HV.out.z.all
         obtain⟨hd0,hd1,hd2,he0,he1,he2,hbg,hgb,hbc,hcb⟩:=HV.out.all
         refine pu 0 149 #[T,F,F,F,F,F,F,F,F,F,F,F,F,F,F,F] ?_
         refine pu 1 150 #[T,T,F,F,F,F,F,F,F,F,F,F,F,F,F,F] ?_
         refine pu 2 151 #[T,T,T,F,F,F,F,F,F,F,F,F,F,F,F,F] ?_
         refine tk 3 152 #[T,T,T,T,F,F,F,F,F,F,F,F,F,F,F,F] hHeld ?_
         refine pu 4 153 #[T,T,T,T,T,F,F,F,F,F,F,F,F,F,F,F] ?_
         refine pu 5 154 #[T,T,T,T,T,T,F,F,F,F,F,F,F,F,F,F] ?_
         refine one_ (i:=6) (N:=some 155) #[T,T,T,T,T,T,T,F,F,F,F,F,F,F,F,F] rfl rfl (by kernel_rfl) (by decide) (fun K hK=>?_)
         refine goes_ Tryd.func66 (by kernel_rfl) rfl #[.pointer (some ⟨g,0,none⟩),.string (⟨#[60,47]⟩ : ByteArray)] (by rfl) rfl rfl (by(try simp only [List.map_toArray,List.map_cons,List.map_nil]);first|done|rfl) ?_
         with_reducible refine(stowageref13_Reader_eat.calls g s' p' false (⟨#[60,47]⟩ : ByteArray) false y2 y3 false w0 _ ?s1 ?s2 hY.out).mono ?_
         case s1=>exact rel.zi
         case s2=>exact rel.zb
         rintro e_ w_ ⟨rfl,hi,hb,hk⟩
         refine⟨_,rfl,?_⟩
         have HV3:=Aside0.mk (rel.In.call rel.c hi hb hk)
         clear HV hi hb hk
         have HV:=HV3
         clear HV3
         refine hK.out _ _ rel.p12 (fun hHeld=>?_)
         clear hK K
         refine nw ?_
         refine pu 7 156 #[T,T,T,T,T,T,T,T,F,F,F,F,F,F,F,F] ?_
         refine pu 8 157 #[T,T,T,T,T,T,T,T,T,F,F,F,F,F,F,F] ?_
         refine pu 9 158 #[T,T,T,T,T,T,T,T,T,T,F,F,F,F,F,F] ?_
         refine po 10 159 #[T,T,T,T,T,T,T,T,T,T,T,F,F,F,F,F] ?_
         refine po 11 160 #[T,T,T,T,T,T,T,T,T,T,T,T,F,F,F,F] ?_
         refine po 12 161 #[T,T,T,T,T,T,T,T,T,T,T,T,T,F,F,F] ?_
         refine po 13 162 #[T,T,T,T,T,T,T,T,T,T,T,T,T,T,F,F] ?_
         refine po 14 163 #[T,T,T,T,T,T,T,T,T,T,T,T,T,T,T,F] ?_
         refine pu 15 164 #[T,T,T,T,T,T,T,T,T,T,T,T,T,T,T,T] ?_
         refine done_ (by kernel_rfl) ?_
         obtain⟨hc0,hc1,hc2,hf0,hf1,hf2,hr0,hr1,hr2,hs0,hs1,hs2,hcg,hgc⟩:=HV.out.z.all
         obtain⟨hd0,hd1,hd2,he0,he1,he2,hbg,hgb,hbc,hcb⟩:=HV.out.all
         go_wp2_with (fail)
         try simp only [Exit.jump]
         have HZ0:rel.In w0 w _ g b c _ _ true nm (⟨#[]⟩ : ByteArray) (.slice vA kids.length vc) kids:=rel.cs
         have HZ:=rel.In0.fin (nm:=nm) (tx:=(⟨#[]⟩ : ByteArray)) HZ0.z HZ0.own
         refine bodyPost_ret (results_cell_row rfl _ _ c 30 #[.string nm,.string (⟨#[]⟩ : ByteArray),(.slice vA kids.length vc)] (0,0) _ rfl HZ.1 Tryd.underlying30 rfl (by kernel_rfl)) rfl ?_
         exact⟨(.slice vA kids.length vc),rfl,HZ.2⟩
        | true=>
         rw [if_pos rfl] at h
         obtain⟨z_,hq_,h⟩:=bndO h
         obtain⟨z1,z2,z3,z4⟩:=z_
         have hZz:=Aside0.mk hq_
         clear hq_
         dsimp only at h
         have e_:=rel.name_bad hZz.out
         dsimp only at e_
         subst e_
         rcases itO h with⟨e9,h⟩|⟨e9,h⟩
         case inr=>
          have f1:(z1.toList != nm.toList)=true:=bne_iff_ne.mpr e9
          have f2:(z1.toList == nm.toList)=false:=beq_eq_false_iff_ne.mpr e9
          clear e9
          obtain rfl:=Option.some.inj h
          refine start_ (n:=16) (S:=fun w'=>w'.cell? ⟨g,2,none⟩=some (.bool false)∧w'.cell? ⟨b,0,none⟩=some (.string nm)) (ds:=[]) #[F,F,F,F,F,F,F,F,F,F,F,F,F,F,F,F] (by kernel_rfl) rfl rfl rel.p12 (fun hHeld=>?_)
          clear hc0 hc1 hc2 hf0 hf1 hf2 hr0 hr1 hr2 hs0 hs1 hs2 hcg hgc hd0 hd1 hd2 he0 he1 he2 hbg hgb hbc hcb
          have HV2:=Aside0.mk HV.out.drew
          clear HV
          generalize World.drew _=W12 at HV2 hHeld ⊢
          have HV:=HV2
          clear HV2
          obtain⟨hc0,hc1,hc2,hf0,hf1,hf2,hr0,hr1,hr2,hs0,hs1,hs2,hcg,hgc⟩:=HV.out.z.all
          obtain⟨hd0,hd1,hd2,he0,he1,he2,hbg,hgb,hbc,hcb⟩:=HV.out.all
          refine pu 0 149 #[T,F,F,F,F,F,F,F,F,F,F,F,F,F,F,F] ?_
          refine pu 1 150 #[T,T,F,F,F,F,F,F,F,F,F,F,F,F,F,F] ?_
          refine pu 2 151 #[T,T,T,F,F,F,F,F,F,F,F,F,F,F,F,F] ?_
          refine tk 3 152 #[T,T,T,T,F,F,F,F,F,F,F,F,F,F,F,F] hHeld ?_
          refine pu 4 153 #[T,T,T,T,T,F,F,F,F,F,F,F,F,F,F,F] ?_
          refine pu 5 154 #[T,T,T,T,T,T,F,F,F,F,F,F,F,F,F,F] ?_
          refine one_ (i:=6) (N:=some 155) #[T,T,T,T,T,T,T,F,F,F,F,F,F,F,F,F] rfl rfl (by kernel_rfl) (by decide) (fun K hK=>?_)
          refine goes_ Tryd.func66 (by kernel_rfl) rfl #[.pointer (some ⟨g,0,none⟩),.string (⟨#[60,47]⟩ : ByteArray)] (by rfl) rfl rfl (by(try simp only [List.map_toArray,List.map_cons,List.map_nil]);first|done|rfl) ?_
          with_reducible refine(stowageref13_Reader_eat.calls g s' p' false (⟨#[60,47]⟩ : ByteArray) true y2 y3 false w0 _ ?s1 ?s2 hY.out).mono ?_
          case s1=>exact rel.zi
          case s2=>exact rel.zb
          rintro e_ w_ ⟨rfl,hi,hb,hk⟩
          refine⟨_,rfl,?_⟩
          have HV3:=Aside0.mk (rel.In.call rel.c hi hb hk)
          clear HV hi hb hk
          have HV:=HV3
          clear HV3
          refine hK.out _ _ rel.p12 (fun hHeld=>?_)
          clear hK K
          refine nw ?_
          refine pu 7 156 #[T,T,T,T,T,T,T,T,F,F,F,F,F,F,F,F] ?_
          refine pu 8 157 #[T,T,T,T,T,T,T,T,T,F,F,F,F,F,F,F] ?_
          refine pu 9 158 #[T,T,T,T,T,T,T,T,T,T,F,F,F,F,F,F] ?_
          refine pu 10 159 #[T,T,T,T,T,T,T,T,T,T,T,F,F,F,F,F] ?_
          refine pu 12 161 #[T,T,T,T,T,T,T,T,T,T,T,F,T,F,F,F] ?_
          refine tk 13 162 #[T,T,T,T,T,T,T,T,T,T,T,F,T,T,F,F] hHeld ?_
          refine one_ (i:=11) (N:=some 160) #[T,T,T,T,T,T,T,T,T,T,T,T,T,T,F,F] rfl rfl (by kernel_rfl) (by decide) (fun K hK=>?_)
          refine goes_ Tryd.func67 (by kernel_rfl) rfl #[.pointer (some ⟨g,0,none⟩)] (by rfl) rfl rfl (by(try simp only [List.map_toArray,List.map_cons,List.map_nil]);first|done|rfl) ?_
          with_reducible refine(stowageref13_Reader_name.calls k g y2 y3 false z1 z2 z3 false w0 _ ?s1 ?s2 hZz.out).mono ?_
          case s1=>exact rel.zi
          case s2=>exact rel.zb
          rintro e_ w_ ⟨rfl,hi,hb,hk⟩
          refine⟨_,rfl,?_⟩
          have HV3:=Aside0.mk (rel.In.call rel.c hi hb hk)
          clear HV hi hb hk
          have HV:=HV3
          clear HV3
          refine hK.out _ _ rel.p12 (fun hHeld=>?_)
          clear hK K
          refine nw ?_
          refine pu 14 163 #[T,T,T,T,T,T,T,T,T,T,T,T,T,T,T,F] ?_
          refine pu 15 164 #[T,T,T,T,T,T,T,T,T,T,T,T,T,T,T,T] ?_
          refine done_ (by kernel_rfl) ?_
          obtain⟨hc0,hc1,hc2,hf0,hf1,hf2,hr0,hr1,hr2,hs0,hs1,hs2,hcg,hgc⟩:=HV.out.z.all
          obtain⟨hd0,hd1,hd2,he0,he1,he2,hbg,hgb,hbc,hcb⟩:=HV.out.all
          go_wp2_with (fail)
          try simp only [Exit.jump]
          have HZ0:rel.In w0 w _ g b c _ _ true nm (⟨#[]⟩ : ByteArray) (.slice vA kids.length vc) kids:=rel.cs
          have HZ:=rel.In0.fin (nm:=nm) (tx:=(⟨#[]⟩ : ByteArray)) HZ0.z HZ0.own
          refine bodyPost_ret (results_cell_row rfl _ _ c 30 #[.string nm,.string (⟨#[]⟩ : ByteArray),(.slice vA kids.length vc)] (0,0) _ rfl HZ.1 Tryd.underlying30 rfl (by kernel_rfl)) rfl ?_
          exact⟨(.slice vA kids.length vc),rfl,HZ.2⟩
         have f1:(z1.toList != nm.toList)=false:=bne_eq_false_iff_eq.mpr e9
         have f2:(z1.toList == nm.toList)=true:=beq_iff_eq.mpr e9
         clear e9
         obtain⟨o_,hq_,h⟩:=bndO h
         obtain⟨o1,o2,o3,o4⟩:=o_
         have hO:=Aside0.mk hq_
         clear hq_
         dsimp only at h
         obtain⟨t_,hq_,h⟩:=bndO h
         obtain⟨t1,t2,t3,t4⟩:=t_
         have hT:=Aside0.mk hq_
         clear hq_
         dsimp only at h
         try dsimp only at hT
         obtain rfl:=Option.some.inj h
         refine start_ (n:=16) (S:=fun w'=>w'.cell? ⟨g,2,none⟩=some (.bool false)∧w'.cell? ⟨b,0,none⟩=some (.string nm)) (ds:=[]) #[F,F,F,F,F,F,F,F,F,F,F,F,F,F,F,F] (by kernel_rfl) rfl rfl rel.p12 (fun hHeld=>?_)
         clear hc0 hc1 hc2 hf0 hf1 hf2 hr0 hr1 hr2 hs0 hs1 hs2 hcg hgc hd0 hd1 hd2 he0 he1 he2 hbg hgb hbc hcb
         have HV2:=Aside0.mk HV.out.drew
         clear HV
         generalize World.drew _=W12 at HV2 hHeld ⊢
         have HV:=HV2
         clear HV2
         obtain⟨hc0,hc1,hc2,hf0,hf1,hf2,hr0,hr1,hr2,hs0,hs1,hs2,hcg,hgc⟩:=HV.out.z.all
         obtain⟨hd0,hd1,hd2,he0,he1,he2,hbg,hgb,hbc,hcb⟩:=HV.out.all
         refine pu 0 149 #[T,F,F,F,F,F,F,F,F,F,F,F,F,F,F,F] ?_
         refine pu 1 150 #[T,T,F,F,F,F,F,F,F,F,F,F,F,F,F,F] ?_
         refine pu 2 151 #[T,T,T,F,F,F,F,F,F,F,F,F,F,F,F,F] ?_
         refine tk 3 152 #[T,T,T,T,F,F,F,F,F,F,F,F,F,F,F,F] hHeld ?_
         refine pu 4 153 #[T,T,T,T,T,F,F,F,F,F,F,F,F,F,F,F] ?_
         refine pu 5 154 #[T,T,T,T,T,T,F,F,F,F,F,F,F,F,F,F] ?_
         refine one_ (i:=6) (N:=some 155) #[T,T,T,T,T,T,T,F,F,F,F,F,F,F,F,F] rfl rfl (by kernel_rfl) (by decide) (fun K hK=>?_)
         refine goes_ Tryd.func66 (by kernel_rfl) rfl #[.pointer (some ⟨g,0,none⟩),.string (⟨#[60,47]⟩ : ByteArray)] (by rfl) rfl rfl (by(try simp only [List.map_toArray,List.map_cons,List.map_nil]);first|done|rfl) ?_
         with_reducible refine(stowageref13_Reader_eat.calls g s' p' false (⟨#[60,47]⟩ : ByteArray) true y2 y3 false w0 _ ?s1 ?s2 hY.out).mono ?_
         case s1=>exact rel.zi
         case s2=>exact rel.zb
         rintro e_ w_ ⟨rfl,hi,hb,hk⟩
         refine⟨_,rfl,?_⟩
         have HV3:=Aside0.mk (rel.In.call rel.c hi hb hk)
         clear HV hi hb hk
         have HV:=HV3
         clear HV3
         refine hK.out _ _ rel.p12 (fun hHeld=>?_)
         clear hK K
         refine nw ?_
         refine pu 7 156 #[T,T,T,T,T,T,T,T,F,F,F,F,F,F,F,F] ?_
         refine pu 8 157 #[T,T,T,T,T,T,T,T,T,F,F,F,F,F,F,F] ?_
         refine pu 9 158 #[T,T,T,T,T,T,T,T,T,T,F,F,F,F,F,F] ?_
         refine pu 10 159 #[T,T,T,T,T,T,T,T,T,T,T,F,F,F,F,F] ?_
         refine pu 12 161 #[T,T,T,T,T,T,T,T,T,T,T,F,T,F,F,F] ?_
         refine tk 13 162 #[T,T,T,T,T,T,T,T,T,T,T,F,T,T,F,F] hHeld ?_
         refine one_ (i:=11) (N:=some 160) #[T,T,T,T,T,T,T,T,T,T,T,T,T,T,F,F] rfl rfl (by kernel_rfl) (by decide) (fun K hK=>?_)
         refine goes_ Tryd.func67 (by kernel_rfl) rfl #[.pointer (some ⟨g,0,none⟩)] (by rfl) rfl rfl (by(try simp only [List.map_toArray,List.map_cons,List.map_nil]);first|done|rfl) ?_
         with_reducible refine(stowageref13_Reader_name.calls k g y2 y3 false z1 z2 z3 false w0 _ ?s1 ?s2 hZz.out).mono ?_
         case s1=>exact rel.zi
         case s2=>exact rel.zb
         rintro e_ w_ ⟨rfl,hi,hb,hk⟩
         refine⟨_,rfl,?_⟩
         have HV3:=Aside0.mk (rel.In.call rel.c hi hb hk)
         clear HV hi hb hk
         have HV:=HV3
         clear HV3
         refine hK.out _ _ rel.p12 (fun hHeld=>?_)
         clear hK K
         refine nw ?_
         refine pu 14 163 #[T,T,T,T,T,T,T,T,T,T,T,T,T,T,T,F] ?_
         refine pu 15 164 #[T,T,T,T,T,T,T,T,T,T,T,T,T,T,T,T] ?_
         refine done_ (by kernel_rfl) ?_
         obtain⟨hc0,hc1,hc2,hf0,hf1,hf2,hr0,hr1,hr2,hs0,hs1,hs2,hcg,hgc⟩:=HV.out.z.all
         obtain⟨hd0,hd1,hd2,he0,he1,he2,hbg,hgb,hbc,hcb⟩:=HV.out.all
         go_wp2_with (first|(go_at_call 33;with_reducible refine(stowageref13_Reader_skip.calls k g z2 z3 false o1 o2 o3 o4 w0 _ ?s1 ?s2 hO.out).mono ?_;(case s1=>exact rel.zi);(case s2=>exact rel.zb);rintro e_ w_ ⟨rfl,hi,hb,hk⟩;replace HV:=Aside0.mk (rel.In.call rel.c hi hb hk);clear hi hb hk;obtain⟨hc0,hc1,hc2,hf0,hf1,hf2,hr0,hr1,hr2,hs0,hs1,hs2,hcg,hgc⟩:=HV.out.z.all;obtain⟨hd0,hd1,hd2,he0,he1,he2,hbg,hgb,hbc,hcb⟩:=HV.out.all)|(go_at_call 66;with_reducible refine(stowageref13_Reader_eat.calls g o2 o3 o4 (⟨#[62]⟩ : ByteArray) t1 t2 t3 t4 w0 _ ?s1 ?s2 hT.out).mono ?_;(case s1=>exact rel.zi);(case s2=>exact rel.zb);rintro e_ w_ ⟨rfl,hi,hb,hk⟩;replace HV:=Aside0.mk (rel.In.call rel.c hi hb hk);clear hi hb hk;obtain⟨hc0,hc1,hc2,hf0,hf1,hf2,hr0,hr1,hr2,hs0,hs1,hs2,hcg,hgc⟩:=HV.out.z.all;obtain⟨hd0,hd1,hd2,he0,he1,he2,hbg,hgb,hbc,hcb⟩:=HV.out.all))
         try simp only [Exit.jump]
         have HZ0:rel.In w0 w _ g b c _ _ (!t1) nm (⟨#[]⟩ : ByteArray) (.slice vA kids.length vc) kids:=rel.cs
         have HZ:=rel.In0.fin (nm:=nm) (tx:=(⟨#[]⟩ : ByteArray)) HZ0.z HZ0.own
         refine bodyPost_ret (results_cell_row rfl _ _ c 30 #[.string nm,.string (⟨#[]⟩ : ByteArray),(.slice vA kids.length vc)] (0,0) _ rfl HZ.1 Tryd.underlying30 rfl (by kernel_rfl)) rfl ?_
         exact⟨(.slice vA kids.length vc),rfl,HZ.2⟩
  | false=>
   rw [if_neg Bool.false_ne_true] at h
   obtain⟨l_,hq_,h⟩:=bndO h
   obtain⟨l1,l2,l3⟩:=l_
   have hL:=Aside0.mk hq_
   clear hq_
   dsimp only at h
   have hH:=Aside0.mk h
   clear h
   go_wp2_with (fail)
   go_loopg [] k (fun kq w'=>∃ (s':ByteArray) (p':Int) (b':Bool),Aside0 (rco.to kq s' p' b'=some (l1,l2,l3))∧Aside0 (kq≤k)∧Aside0 (rel.In w0 w w' g b c s' p' b' nm (⟨#[]⟩ : ByteArray) (.slice none 0 0) []))
   case atStart=>exact⟨a2,a3,a4,hL,⟨Nat.le_refl _⟩,⟨rel.c⟩⟩
   case round=>
    clear hL HV
    obtain⟨s',p',b',HA,HK1,HV⟩:=hrel
    obtain⟨hc0,hc1,hc2,hf0,hf1,hf2,hr0,hr1,hr2,hs0,hs1,hs2,hcg,hgc⟩:=HV.out.z.all
    obtain⟨hd0,hd1,hd2,he0,he1,he2,hbg,hgb,hbc,hcb⟩:=HV.out.all
    cases gk with
    | zero=>exact absurd HA.out (by simp [rco.to])
    | succ k1=>
     have h:=HA.out
     clear HA
     simp only [rco.to] at h
     have hL:=Aside0.mk h
     clear h
     go_upto_region 7 with fail
     go_cut [114] (fun v114 wc=>∃ (m:Bool),v114 = .bool m∧Aside0 (if m=true then rco.to k1 s' (wrap64 (p'+1)) b'=some (l1,l2,l3) else(s',p',b')=(l1,l2,l3))∧Aside0 (rel.In w0 w wc g b c s' p' b' nm (⟨#[]⟩ : ByteArray) (.slice none 0 0) []))
     case first=>
      have h:=hL.out
      clear hL hH
      rcases itO h with⟨c1,h⟩|⟨c1,h⟩
      case inr=>
       have uT:=eq_false c1
       have uD:=decide_eq_false c1
       clear c1
       have hH2:=Aside0.mk (Option.some.inj h)
       clear h
       go_wp2_with (fail)
       repeat (go_quiet (fail);try go_wp2_with (fail))
       go_meet
       case rel=>exact⟨false,rfl,⟨by first|(rw [if_neg Bool.false_ne_true];exact hH2.out)|(rw [if_pos rfl];exact hH2.out)⟩,⟨rel.c⟩⟩
      have uT:=eq_true c1
      have uD:=decide_eq_true c1
      clear c1
      rcases itO h with⟨c2,h⟩|⟨_,h⟩
      case inr=>exact absurd h (by simp)
      have vT:=eq_true c2
      have vD:=decide_eq_true c2
      clear c2
      have ix1:=bt_at s' p'
      rcases itO h with⟨c3,h⟩|⟨c3,h⟩
      ·skip
       have yB:(bt s' p' == 60)=true:=beq_iff_eq.mpr c3
       have yN:(bt s' p' != 60)=false:=bne_eq_false_iff_eq.mpr c3
       have yT:=eq_true c3
       have yD:=decide_eq_true c3
       clear c3
       have hH2:=Aside0.mk (Option.some.inj h)
       clear h
       go_wp2_with (fail)
       repeat (go_quiet (fail);try go_wp2_with (fail))
       go_meet
       case rel=>exact⟨false,rfl,⟨by first|(rw [if_neg Bool.false_ne_true];exact hH2.out)|(rw [if_pos rfl];exact hH2.out)⟩,⟨rel.c⟩⟩
      have yB:(bt s' p' == 60)=false:=beq_eq_false_iff_ne.mpr c3
      have yN:(bt s' p' != 60)=true:=bne_iff_ne.mpr c3
      have yT:=eq_false c3
      have yD:=decide_eq_false c3
      clear c3
      have hH2:=Aside0.mk (h)
      clear h
      go_wp2_with (fail)
      repeat (go_quiet (fail);try go_wp2_with (fail))
      go_meet
      case rel=>exact⟨true,rfl,⟨by first|(rw [if_neg Bool.false_ne_true];exact hH2.out)|(rw [if_pos rfl];exact hH2.out)⟩,⟨rel.c⟩⟩
     case rest=>
      clear hL
      obtain⟨m,rfl,hM,HV⟩:=hcut
      obtain⟨hc0,hc1,hc2,hf0,hf1,hf2,hr0,hr1,hr2,hs0,hs1,hs2,hcg,hgc⟩:=HV.out.z.all
      obtain⟨hd0,hd1,hd2,he0,he1,he2,hbg,hgb,hbc,hcb⟩:=HV.out.all
      cases m with
      | true=>
       have h:=hM.out
       clear hM
       rw [if_pos rfl] at h
       have H':=Aside0.mk h
       clear h
       go_wp2_with (fail)
       go_roundg k1
       case measure=>have:=HK1.out;omega
       case rel=>exact⟨s',wrap64 (p'+1),b',H',⟨by have:=HK1.out;omega⟩,⟨rel.ca⟩⟩
      | false=>
       have hM2:=hM.out
       rw [if_neg Bool.false_ne_true] at hM2
       simp only [Prod.mk.injEq] at hM2
       obtain⟨rfl,rfl,rfl⟩:=hM2
       have h:=hH.out
       clear hM hH
       try dsimp only at h
       rcases itO h with⟨c1,h⟩|⟨_,h⟩
       case inr=>exact absurd h (by simp)
       have uT:=eq_true c1
       have uD:=decide_eq_true c1
       clear c1
       rcases itO h with⟨c2,h⟩|⟨_,h⟩
       case inr=>exact absurd h (by simp)
       have vT:=eq_true c2
       have vD:=decide_eq_true c2
       clear c2
       rcases itO h with⟨c3,h⟩|⟨_,h⟩
       case inr=>exact absurd h (by simp)
       have xT:=eq_true c3
       have xD:=decide_eq_true c3
       clear c3
       obtain⟨t,ht_,h⟩:=bndO h
       obtain⟨ta,tb⟩:=t
       have hTx:=Aside0.mk ht_
       clear ht_
       dsimp only at h
       go_upto_region 9 with fail
       refine start_ (n:=16) (S:=fun w'=>w'.cell? ⟨g,0,none⟩=some (.string s')∧w'.cell? ⟨g,1,none⟩=some (.int .i64 p')) (ds:=[]) #[F,F,F,F,F,F,F,F,F,F,F,F,F,F,F,F] (by kernel_rfl) rfl rfl rel.p9 (fun hHeld=>?_)
       refine pu 0 123 #[T,F,F,F,F,F,F,F,F,F,F,F,F,F,F,F] ?_
       refine pu 1 124 #[T,T,F,F,F,F,F,F,F,F,F,F,F,F,F,F] ?_
       refine pu 2 125 #[T,T,T,F,F,F,F,F,F,F,F,F,F,F,F,F] ?_
       refine tk 3 126 #[T,T,T,T,F,F,F,F,F,F,F,F,F,F,F,F] hHeld ?_
       refine pu 4 127 #[T,T,T,T,T,F,F,F,F,F,F,F,F,F,F,F] ?_
       refine pu 5 128 #[T,T,T,T,T,T,F,F,F,F,F,F,F,F,F,F] ?_
       refine pu 6 129 #[T,T,T,T,T,T,T,F,F,F,F,F,F,F,F,F] ?_
       refine pu 7 130 #[T,T,T,T,T,T,T,T,F,F,F,F,F,F,F,F] ?_
       refine tk 8 131 #[T,T,T,T,T,T,T,T,T,F,F,F,F,F,F,F] hHeld ?_
       refine pu 9 132 #[T,T,T,T,T,T,T,T,T,T,F,F,F,F,F,F] ?_
       refine one_ (i:=10) (N:=some 133) #[T,T,T,T,T,T,T,T,T,T,T,F,F,F,F,F] rfl rfl (by kernel_rfl) (by decide) (fun K hK=>?_)
       refine goes_ Tryd.func16 (by kernel_rfl) rfl #[.string (s'.extract (p:Int).toNat (p':Int).toNat)] (by rfl) rfl rfl (by(try simp only [List.map_toArray,List.map_cons,List.map_nil]);first|done|rfl) ?_
       with_reducible refine(stowageref13_Unescape.calls k (s'.extract (p:Int).toNat (p':Int).toNat) ta tb _ hTx.out).mono ?_
       rintro e_ w_ ⟨rfl,hb⟩
       refine⟨_,rfl,?_⟩
       have HV3:=Aside0.mk (rel.In.below rel.c hb)
       clear HV hb
       have HV:=HV3
       clear HV3
       refine hK.out _ _ rel.p9 (fun hHeld=>?_)
       clear hK K
       refine nw ?_
       refine pu 11 122 #[T,T,T,T,T,T,T,T,T,T,T,T,F,F,F,F] ?_
       refine pu 12 134 #[T,T,T,T,T,T,T,T,T,T,T,T,T,F,F,F] ?_
       refine pu 13 135 #[T,T,T,T,T,T,T,T,T,T,T,T,T,T,F,F] ?_
       refine pu 14 8 #[T,T,T,T,T,T,T,T,T,T,T,T,T,T,T,F] ?_
       refine pu 15 9 #[T,T,T,T,T,T,T,T,T,T,T,T,T,T,T,T] ?_
       refine done_ (by kernel_rfl) ?_
       obtain⟨hc0,hc1,hc2,hf0,hf1,hf2,hr0,hr1,hr2,hs0,hs1,hs2,hcg,hgc⟩:=HV.out.z.all
       obtain⟨hd0,hd1,hd2,he0,he1,he2,hbg,hgb,hbc,hcb⟩:=HV.out.all
       cases b' with
       | true=>
        rw [Bool.true_or] at h
        go_upto_region 12 with fail
        have HV2:Aside0 (rel.In w0 w _ g b c s' p' true nm ta (.slice none 0 0) []):=Aside0.mk (by first|exact(HV.out.put 1 (.string ta) rfl).setB true|exact((HV.out.drewN _).put 1 (.string ta) rfl).setB true|exact(((HV.out.drewN _).drewN _).put 1 (.string ta) rfl).setB true|exact(HV.out.drew.put 1 (.string ta) rfl).setB true|exact((HV.out.drew.drewN _).put 1 (.string ta) rfl).setB true|exact((HV.out.drewN _).drew.put 1 (.string ta) rfl).setB true)
        clear HV
        clear hc0 hc1 hc2 hf0 hf1 hf2 hr0 hr1 hr2 hs0 hs1 hs2 hcg hgc hd0 hd1 hd2 he0 he1 he2 hbg hgb hbc hcb
        generalize World.setCell _ _ _=W11 at HV2 ⊢
        have HV:=HV2
        clear HV2
        obtain⟨hc0,hc1,hc2,hf0,hf1,hf2,hr0,hr1,hr2,hs0,hs1,hs2,hcg,hgc⟩:=HV.out.z.all
        obtain⟨hd0,hd1,hd2,he0,he1,he2,hbg,hgb,hbc,hcb⟩:=HV.out.all
        rw [rco.out,if_pos rfl] at h
        obtain rfl:=Option.some.inj h
        refine start_ (n:=16) (S:=fun w'=>w'.cell? ⟨g,2,none⟩=some (.bool true)∧w'.cell? ⟨b,0,none⟩=some (.string nm)) (ds:=[]) #[F,F,F,F,F,F,F,F,F,F,F,F,F,F,F,F] (by kernel_rfl) rfl rfl rel.p12 (fun hHeld=>?_)
        clear hc0 hc1 hc2 hf0 hf1 hf2 hr0 hr1 hr2 hs0 hs1 hs2 hcg hgc hd0 hd1 hd2 he0 he1 he2 hbg hgb hbc hcb
        have HV2:=Aside0.mk HV.out.drew
        clear HV
        generalize World.drew _=W12 at HV2 hHeld ⊢
        have HV:=HV2
        clear HV2
        obtain⟨hc0,hc1,hc2,hf0,hf1,hf2,hr0,hr1,hr2,hs0,hs1,hs2,hcg,hgc⟩:=HV.out.z.all
        obtain⟨hd0,hd1,hd2,he0,he1,he2,hbg,hgb,hbc,hcb⟩:=HV.out.all
        refine pu 0 149 #[T,F,F,F,F,F,F,F,F,F,F,F,F,F,F,F] ?_
        refine pu 1 150 #[T,T,F,F,F,F,F,F,F,F,F,F,F,F,F,F] ?_
        refine pu 2 151 #[T,T,T,F,F,F,F,F,F,F,F,F,F,F,F,F] ?_
        refine tk 3 152 #[T,T,T,T,F,F,F,F,F,F,F,F,F,F,F,F] hHeld ?_
        refine pu 4 153 #[T,T,T,T,T,F,F,F,F,F,F,F,F,F,F,F] ?_
        refine po 5 154 #[T,T,T,T,T,T,F,F,F,F,F,F,F,F,F,F] ?_
        refine po 6 155 #[T,T,T,T,T,T,T,F,F,F,F,F,F,F,F,F] ?_
        refine po 7 156 #[T,T,T,T,T,T,T,T,F,F,F,F,F,F,F,F] ?_
        refine pu 8 157 #[T,T,T,T,T,T,T,T,T,F,F,F,F,F,F,F] ?_
        refine pu 9 158 #[T,T,T,T,T,T,T,T,T,T,F,F,F,F,F,F] ?_
        refine po 10 159 #[T,T,T,T,T,T,T,T,T,T,T,F,F,F,F,F] ?_
        refine po 11 160 #[T,T,T,T,T,T,T,T,T,T,T,T,F,F,F,F] ?_
        refine po 12 161 #[T,T,T,T,T,T,T,T,T,T,T,T,T,F,F,F] ?_
        refine po 13 162 #[T,T,T,T,T,T,T,T,T,T,T,T,T,T,F,F] ?_
        refine po 14 163 #[T,T,T,T,T,T,T,T,T,T,T,T,T,T,T,F] ?_
        refine pu 15 164 #[T,T,T,T,T,T,T,T,T,T,T,T,T,T,T,T] ?_
        refine done_ (by kernel_rfl) ?_
        go_wp2_with (fail)
        try simp only [Exit.jump]
        have HZ0:rel.In w0 w _ g b c _ _ true nm ta (.slice none 0 0) []:=rel.cs
        have HZ:=rel.In0.fin (nm:=nm) (tx:=ta) HZ0.z HZ0.own
        refine bodyPost_ret (results_cell_row rfl _ _ c 30 #[.string nm,.string ta,(.slice none 0 0)] (0,0) _ rfl HZ.1 Tryd.underlying30 rfl (by kernel_rfl)) rfl ?_
        exact⟨(.slice none 0 0),rfl,HZ.2⟩
       | false=>
        rw [Bool.false_or] at h
        cases tb with
        | false=>
         rw [Bool.not_false] at h
         go_upto_region 12 with fail
         have HV2:Aside0 (rel.In w0 w _ g b c s' p' true nm ta (.slice none 0 0) []):=Aside0.mk (by first|exact(HV.out.put 1 (.string ta) rfl).setB true|exact((HV.out.drewN _).put 1 (.string ta) rfl).setB true|exact(((HV.out.drewN _).drewN _).put 1 (.string ta) rfl).setB true|exact(HV.out.drew.put 1 (.string ta) rfl).setB true|exact((HV.out.drew.drewN _).put 1 (.string ta) rfl).setB true|exact((HV.out.drewN _).drew.put 1 (.string ta) rfl).setB true)
         clear HV
         clear hc0 hc1 hc2 hf0 hf1 hf2 hr0 hr1 hr2 hs0 hs1 hs2 hcg hgc hd0 hd1 hd2 he0 he1 he2 hbg hgb hbc hcb
         generalize World.setCell _ _ _=W11 at HV2 ⊢
         have HV:=HV2
         clear HV2
         obtain⟨hc0,hc1,hc2,hf0,hf1,hf2,hr0,hr1,hr2,hs0,hs1,hs2,hcg,hgc⟩:=HV.out.z.all
         obtain⟨hd0,hd1,hd2,he0,he1,he2,hbg,hgb,hbc,hcb⟩:=HV.out.all
         rw [rco.out,if_pos rfl] at h
         obtain rfl:=Option.some.inj h
         refine start_ (n:=16) (S:=fun w'=>w'.cell? ⟨g,2,none⟩=some (.bool true)∧w'.cell? ⟨b,0,none⟩=some (.string nm)) (ds:=[]) #[F,F,F,F,F,F,F,F,F,F,F,F,F,F,F,F] (by kernel_rfl) rfl rfl rel.p12 (fun hHeld=>?_)
         clear hc0 hc1 hc2 hf0 hf1 hf2 hr0 hr1 hr2 hs0 hs1 hs2 hcg hgc hd0 hd1 hd2 he0 he1 he2 hbg hgb hbc hcb
         have HV2:=Aside0.mk HV.out.drew
         clear HV
         generalize World.drew _=W12 at HV2 hHeld ⊢
         have HV:=HV2
         clear HV2
         obtain⟨hc0,hc1,hc2,hf0,hf1,hf2,hr0,hr1,hr2,hs0,hs1,hs2,hcg,hgc⟩:=HV.out.z.all
         obtain⟨hd0,hd1,hd2,he0,he1,he2,hbg,hgb,hbc,hcb⟩:=HV.out.all
         refine pu 0 149 #[T,F,F,F,F,F,F,F,F,F,F,F,F,F,F,F] ?_
         refine pu 1 150 #[T,T,F,F,F,F,F,F,F,F,F,F,F,F,F,F] ?_
         refine pu 2 151 #[T,T,T,F,F,F,F,F,F,F,F,F,F,F,F,F] ?_
         refine tk 3 152 #[T,T,T,T,F,F,F,F,F,F,F,F,F,F,F,F] hHeld ?_
         refine pu 4 153 #[T,T,T,T,T,F,F,F,F,F,F,F,F,F,F,F] ?_
         refine po 5 154 #[T,T,T,T,T,T,F,F,F,F,F,F,F,F,F,F] ?_
         refine po 6 155 #[T,T,T,T,T,T,T,F,F,F,F,F,F,F,F,F] ?_
         refine po 7 156 #[T,T,T,T,T,T,T,T,F,F,F,F,F,F,F,F] ?_
         refine pu 8 157 #[T,T,T,T,T,T,T,T,T,F,F,F,F,F,F,F] ?_
         refine pu 9 158 #[T,T,T,T,T,T,T,T,T,T,F,F,F,F,F,F] ?_
         refine po 10 159 #[T,T,T,T,T,T,T,T,T,T,T,F,F,F,F,F] ?_
         refine po 11 160 #[T,T,T,T,T,T,T,T,T,T,T,T,F,F,F,F] ?_
         refine po 12 161 #[T,T,T,T,T,T,T,T,T,T,T,T,T,F,F,F] ?_
         refine po 13 162 #[T,T,T,T,T,T,T,T,T,T,T,T,T,T,F,F] ?_
         refine po 14 163 #[T,T,T,T,T,T,T,T,T,T,T,T,T,T,T,F] ?_
         refine pu 15 164 #[T,T,T,T,T,T,T,T,T,T,T,T,T,T,T,T] ?_
         refine done_ (by kernel_rfl) ?_
         go_wp2_with (fail)
         try simp only [Exit.jump]
         have HZ0:rel.In w0 w _ g b c _ _ true nm ta (.slice none 0 0) []:=rel.cs
         have HZ:=rel.In0.fin (nm:=nm) (tx:=ta) HZ0.z HZ0.own
         refine bodyPost_ret (results_cell_row rfl _ _ c 30 #[.string nm,.string ta,(.slice none 0 0)] (0,0) _ rfl HZ.1 Tryd.underlying30 rfl (by kernel_rfl)) rfl ?_
         exact⟨(.slice none 0 0),rfl,HZ.2⟩
        | true=>
         rw [Bool.not_true] at h
         go_upto_region 12 with fail
         have HV2:Aside0 (rel.In w0 w _ g b c s' p' false nm ta (.slice none 0 0) []):=Aside0.mk (by first|exact(HV.out.put 1 (.string ta) rfl).setB false|exact((HV.out.drewN _).put 1 (.string ta) rfl).setB false|exact(((HV.out.drewN _).drewN _).put 1 (.string ta) rfl).setB false|exact(HV.out.drew.put 1 (.string ta) rfl).setB false|exact((HV.out.drew.drewN _).put 1 (.string ta) rfl).setB false|exact((HV.out.drewN _).drew.put 1 (.string ta) rfl).setB false)
         clear HV
         clear hc0 hc1 hc2 hf0 hf1 hf2 hr0 hr1 hr2 hs0 hs1 hs2 hcg hgc hd0 hd1 hd2 he0 he1 he2 hbg hgb hbc hcb
         generalize World.setCell _ _ _=W11 at HV2 ⊢
         have HV:=HV2
         clear HV2
         obtain⟨hc0,hc1,hc2,hf0,hf1,hf2,hr0,hr1,hr2,hs0,hs1,hs2,hcg,hgc⟩:=HV.out.z.all
         obtain⟨hd0,hd1,hd2,he0,he1,he2,hbg,hgb,hbc,hcb⟩:=HV.out.all
         rw [rco.out,if_neg Bool.false_ne_true] at h
         obtain⟨y_,hq_,h⟩:=bndO h
         obtain⟨y1,y2,y3,y4⟩:=y_
         have hY:=Aside0.mk hq_
         clear hq_
         dsimp only at h
         have e_:=rel.eat_bad hY.out
         dsimp only at e_
         subst e_
         cases y1 with
         | false=>
          rw [if_neg Bool.false_ne_true] at h
          obtain rfl:=Option.some.inj h
          refine start_ (n:=16) (S:=fun w'=>w'.cell? ⟨g,2,none⟩=some (.bool false)∧w'.cell? ⟨b,0,none⟩=some (.string nm)) (ds:=[]) #[F,F,F,F,F,F,F,F,F,F,F,F,F,F,F,F] (by kernel_rfl) rfl rfl rel.p12 (fun hHeld=>?_)
          clear hc0 hc1 hc2 hf0 hf1 hf2 hr0 hr1 hr2 hs0 hs1 hs2 hcg hgc hd0 hd1 hd2 he0 he1 he2 hbg hgb hbc hcb
          have HV2:=Aside0.mk HV.out.drew
          clear HV
          generalize World.drew _=W12 at HV2 hHeld ⊢
          have HV:=HV2
          clear HV2
          obtain⟨hc0,hc1,hc2,hf0,hf1,hf2,hr0,hr1,hr2,hs0,hs1,hs2,hcg,hgc⟩:=HV.out.z.all
          obtain⟨hd0,hd1,hd2,he0,he1,he2,hbg,hgb,hbc,hcb⟩:=HV.out.all
          refine pu 0 149 #[T,F,F,F,F,F,F,F,F,F,F,F,F,F,F,F] ?_
          refine pu 1 150 #[T,T,F,F,F,F,F,F,F,F,F,F,F,F,F,F] ?_
          refine pu 2 151 #[T,T,T,F,F,F,F,F,F,F,F,F,F,F,F,F] ?_
          refine tk 3 152 #[T,T,T,T,F,F,F,F,F,F,F,F,F,F,F,F] hHeld ?_
          refine pu 4 153 #[T,T,T,T,T,F,F,F,F,F,F,F,F,F,F,F] ?_
          refine pu 5 154 #[T,T,T,T,T,T,F,F,F,F,F,F,F,F,F,F] ?_
          refine one_ (i:=6) (N:=some 155) #[T,T,T,T,T,T,T,F,F,F,F,F,F,F,F,F] rfl rfl (by kernel_rfl) (by decide) (fun K hK=>?_)
          refine goes_ Tryd.func66 (by kernel_rfl) rfl #[.pointer (some ⟨g,0,none⟩),.string (⟨#[60,47]⟩ : ByteArray)] (by rfl) rfl rfl (by(try simp only [List.map_toArray,List.map_cons,List.map_nil]);first|done|rfl) ?_
          with_reducible refine(stowageref13_Reader_eat.calls g s' p' false (⟨#[60,47]⟩ : ByteArray) false y2 y3 false w0 _ ?s1 ?s2 hY.out).mono ?_
          case s1=>exact rel.zi
          case s2=>exact rel.zb
          rintro e_ w_ ⟨rfl,hi,hb,hk⟩
          refine⟨_,rfl,?_⟩
          have HV3:=Aside0.mk (rel.In.call rel.c hi hb hk)
          clear HV hi hb hk
          have HV:=HV3
          clear HV3
          refine hK.out _ _ rel.p12 (fun hHeld=>?_)
          clear hK K
          refine nw ?_
          refine pu 7 156 #[T,T,T,T,T,T,T,T,F,F,F,F,F,F,F,F] ?_
          refine pu 8 157 #[T,T,T,T,T,T,T,T,T,F,F,F,F,F,F,F] ?_
          refine pu 9 158 #[T,T,T,T,T,T,T,T,T,T,F,F,F,F,F,F] ?_
          refine po 10 159 #[T,T,T,T,T,T,T,T,T,T,T,F,F,F,F,F] ?_
          refine po 11 160 #[T,T,T,T,T,T,T,T,T,T,T,T,F,F,F,F] ?_
          refine po 12 161 #[T,T,T,T,T,T,T,T,T,T,T,T,T,F,F,F] ?_
          refine po 13 162 #[T,T,T,T,T,T,T,T,T,T,T,T,T,T,F,F] ?_
          refine po 14 163 #[T,T,T,T,T,T,T,T,T,T,T,T,T,T,T,F] ?_
          refine pu 15 164 #[T,T,T,T,T,T,T,T,T,T,T,T,T,T,T,T] ?_
          refine done_ (by kernel_rfl) ?_
          obtain⟨hc0,hc1,hc2,hf0,hf1,hf2,hr0,hr1,hr2,hs0,hs1,hs2,hcg,hgc⟩:=HV.out.z.all
          obtain⟨hd0,hd1,hd2,he0,he1,he2,hbg,hgb,hbc,hcb⟩:=HV.out.all
          go_wp2_with (fail)
          try simp only [Exit.jump]
          have HZ0:rel.In w0 w _ g b c _ _ true nm ta (.slice none 0 0) []:=rel.cs
          have HZ:=rel.In0.fin (nm:=nm) (tx:=ta) HZ0.z HZ0.own
          refine bodyPost_ret (results_cell_row rfl _ _ c 30 #[.string nm,.string ta,(.slice none 0 0)] (0,0) _ rfl HZ.1 Tryd.underlying30 rfl (by kernel_rfl)) rfl ?_
          exact⟨(.slice none 0 0),rfl,HZ.2⟩
         | true=>
          rw [if_pos rfl] at h
          obtain⟨z_,hq_,h⟩:=bndO h
          obtain⟨z1,z2,z3,z4⟩:=z_
          have hZz:=Aside0.mk hq_
          clear hq_
          dsimp only at h
          have e_:=rel.name_bad hZz.out
          dsimp only at e_
          subst e_
          rcases itO h with⟨e9,h⟩|⟨e9,h⟩
          case inr=>
           have f1:(z1.toList != nm.toList)=true:=bne_iff_ne.mpr e9
           have f2:(z1.toList == nm.toList)=false:=beq_eq_false_iff_ne.mpr e9
           clear e9
           obtain rfl:=Option.some.inj h
           refine start_ (n:=16) (S:=fun w'=>w'.cell? ⟨g,2,none⟩=some (.bool false)∧w'.cell? ⟨b,0,none⟩=some (.string nm)) (ds:=[]) #[F,F,F,F,F,F,F,F,F,F,F,F,F,F,F,F] (by kernel_rfl) rfl rfl rel.p12 (fun hHeld=>?_)
           clear hc0 hc1 hc2 hf0 hf1 hf2 hr0 hr1 hr2 hs0 hs1 hs2 hcg hgc hd0 hd1 hd2 he0 he1 he2 hbg hgb hbc hcb
           have HV2:=Aside0.mk HV.out.drew
           clear HV
           generalize World.drew _=W12 at HV2 hHeld ⊢
           have HV:=HV2
           clear HV2
           obtain⟨hc0,hc1,hc2,hf0,hf1,hf2,hr0,hr1,hr2,hs0,hs1,hs2,hcg,hgc⟩:=HV.out.z.all
           obtain⟨hd0,hd1,hd2,he0,he1,he2,hbg,hgb,hbc,hcb⟩:=HV.out.all
           refine pu 0 149 #[T,F,F,F,F,F,F,F,F,F,F,F,F,F,F,F] ?_
           refine pu 1 150 #[T,T,F,F,F,F,F,F,F,F,F,F,F,F,F,F] ?_
           refine pu 2 151 #[T,T,T,F,F,F,F,F,F,F,F,F,F,F,F,F] ?_
           refine tk 3 152 #[T,T,T,T,F,F,F,F,F,F,F,F,F,F,F,F] hHeld ?_
           refine pu 4 153 #[T,T,T,T,T,F,F,F,F,F,F,F,F,F,F,F] ?_
           refine pu 5 154 #[T,T,T,T,T,T,F,F,F,F,F,F,F,F,F,F] ?_
           refine one_ (i:=6) (N:=some 155) #[T,T,T,T,T,T,T,F,F,F,F,F,F,F,F,F] rfl rfl (by kernel_rfl) (by decide) (fun K hK=>?_)
           refine goes_ Tryd.func66 (by kernel_rfl) rfl #[.pointer (some ⟨g,0,none⟩),.string (⟨#[60,47]⟩ : ByteArray)] (by rfl) rfl rfl (by(try simp only [List.map_toArray,List.map_cons,List.map_nil]);first|done|rfl) ?_
           with_reducible refine(stowageref13_Reader_eat.calls g s' p' false (⟨#[60,47]⟩ : ByteArray) true y2 y3 false w0 _ ?s1 ?s2 hY.out).mono ?_
           case s1=>exact rel.zi
           case s2=>exact rel.zb
           rintro e_ w_ ⟨rfl,hi,hb,hk⟩
           refine⟨_,rfl,?_⟩
           have HV3:=Aside0.mk (rel.In.call rel.c hi hb hk)
           clear HV hi hb hk
           have HV:=HV3
           clear HV3
           refine hK.out _ _ rel.p12 (fun hHeld=>?_)
           clear hK K
           refine nw ?_
           refine pu 7 156 #[T,T,T,T,T,T,T,T,F,F,F,F,F,F,F,F] ?_
           refine pu 8 157 #[T,T,T,T,T,T,T,T,T,F,F,F,F,F,F,F] ?_
           refine pu 9 158 #[T,T,T,T,T,T,T,T,T,T,F,F,F,F,F,F] ?_
           refine pu 10 159 #[T,T,T,T,T,T,T,T,T,T,T,F,F,F,F,F] ?_
           refine pu 12 161 #[T,T,T,T,T,T,T,T,T,T,T,F,T,F,F,F] ?_
           refine tk 13 162 #[T,T,T,T,T,T,T,T,T,T,T,F,T,T,F,F] hHeld ?_
           refine one_ (i:=11) (N:=some 160) #[T,T,T,T,T,T,T,T,T,T,T,T,T,T,F,F] rfl rfl (by kernel_rfl) (by decide) (fun K hK=>?_)
           refine goes_ Tryd.func67 (by kernel_rfl) rfl #[.pointer (some ⟨g,0,none⟩)] (by rfl) rfl rfl (by(try simp only [List.map_toArray,List.map_cons,List.map_nil]);first|done|rfl) ?_
           with_reducible refine(stowageref13_Reader_name.calls k g y2 y3 false z1 z2 z3 false w0 _ ?s1 ?s2 hZz.out).mono ?_
           case s1=>exact rel.zi
           case s2=>exact rel.zb
           rintro e_ w_ ⟨rfl,hi,hb,hk⟩
           refine⟨_,rfl,?_⟩
           have HV3:=Aside0.mk (rel.In.call rel.c hi hb hk)
           clear HV hi hb hk
           have HV:=HV3
           clear HV3
           refine hK.out _ _ rel.p12 (fun hHeld=>?_)
           clear hK K
           refine nw ?_
           refine pu 14 163 #[T,T,T,T,T,T,T,T,T,T,T,T,T,T,T,F] ?_
           refine pu 15 164 #[T,T,T,T,T,T,T,T,T,T,T,T,T,T,T,T] ?_
           refine done_ (by kernel_rfl) ?_
           obtain⟨hc0,hc1,hc2,hf0,hf1,hf2,hr0,hr1,hr2,hs0,hs1,hs2,hcg,hgc⟩:=HV.out.z.all
           obtain⟨hd0,hd1,hd2,he0,he1,he2,hbg,hgb,hbc,hcb⟩:=HV.out.all
           go_wp2_with (fail)
           try simp only [Exit.jump]
           have HZ0:rel.In w0 w _ g b c _ _ true nm ta (.slice none 0 0) []:=rel.cs
           have HZ:=rel.In0.fin (nm:=nm) (tx:=ta) HZ0.z HZ0.own
           refine bodyPost_ret (results_cell_row rfl _ _ c 30 #[.string nm,.string ta,(.slice none 0 0)] (0,0) _ rfl HZ.1 Tryd.underlying30 rfl (by kernel_rfl)) rfl ?_
           exact⟨(.slice none 0 0),rfl,HZ.2⟩
          have f1:(z1.toList != nm.toList)=false:=bne_eq_false_iff_eq.mpr e9
          have f2:(z1.toList == nm.toList)=true:=beq_iff_eq.mpr e9
          clear e9
          obtain⟨o_,hq_,h⟩:=bndO h
          obtain⟨o1,o2,o3,o4⟩:=o_
          have hO:=Aside0.mk hq_
          clear hq_
          dsimp only at h
          obtain⟨t_,hq_,h⟩:=bndO h
          obtain⟨t1,t2,t3,t4⟩:=t_
          have hT:=Aside0.mk hq_
          clear hq_
          dsimp only at h
          try dsimp only at hT
          obtain rfl:=Option.some.inj h
          refine start_ (n:=16) (S:=fun w'=>w'.cell? ⟨g,2,none⟩=some (.bool false)∧w'.cell? ⟨b,0,none⟩=some (.string nm)) (ds:=[]) #[F,F,F,F,F,F,F,F,F,F,F,F,F,F,F,F] (by kernel_rfl) rfl rfl rel.p12 (fun hHeld=>?_)
          clear hc0 hc1 hc2 hf0 hf1 hf2 hr0 hr1 hr2 hs0 hs1 hs2 hcg hgc hd0 hd1 hd2 he0 he1 he2 hbg hgb hbc hcb
          have HV2:=Aside0.mk HV.out.drew
          clear HV
          generalize World.drew _=W12 at HV2 hHeld ⊢
          have HV:=HV2
          clear HV2
          obtain⟨hc0,hc1,hc2,hf0,hf1,hf2,hr0,hr1,hr2,hs0,hs1,hs2,hcg,hgc⟩:=HV.out.z.all
          obtain⟨hd0,hd1,hd2,he0,he1,he2,hbg,hgb,hbc,hcb⟩:=HV.out.all
          refine pu 0 149 #[T,F,F,F,F,F,F,F,F,F,F,F,F,F,F,F] ?_
          refine pu 1 150 #[T,T,F,F,F,F,F,F,F,F,F,F,F,F,F,F] ?_
          refine pu 2 151 #[T,T,T,F,F,F,F,F,F,F,F,F,F,F,F,F] ?_
          refine tk 3 152 #[T,T,T,T,F,F,F,F,F,F,F,F,F,F,F,F] hHeld ?_
          refine pu 4 153 #[T,T,T,T,T,F,F,F,F,F,F,F,F,F,F,F] ?_
          refine pu 5 154 #[T,T,T,T,T,T,F,F,F,F,F,F,F,F,F,F] ?_
          refine one_ (i:=6) (N:=some 155) #[T,T,T,T,T,T,T,F,F,F,F,F,F,F,F,F] rfl rfl (by kernel_rfl) (by decide) (fun K hK=>?_)
          refine goes_ Tryd.func66 (by kernel_rfl) rfl #[.pointer (some ⟨g,0,none⟩),.string (⟨#[60,47]⟩ : ByteArray)] (by rfl) rfl rfl (by(try simp only [List.map_toArray,List.map_cons,List.map_nil]);first|done|rfl) ?_
          with_reducible refine(stowageref13_Reader_eat.calls g s' p' false (⟨#[60,47]⟩ : ByteArray) true y2 y3 false w0 _ ?s1 ?s2 hY.out).mono ?_
          case s1=>exact rel.zi
          case s2=>exact rel.zb
          rintro e_ w_ ⟨rfl,hi,hb,hk⟩
          refine⟨_,rfl,?_⟩
          have HV3:=Aside0.mk (rel.In.call rel.c hi hb hk)
          clear HV hi hb hk
          have HV:=HV3
          clear HV3
          refine hK.out _ _ rel.p12 (fun hHeld=>?_)
          clear hK K
          refine nw ?_
          refine pu 7 156 #[T,T,T,T,T,T,T,T,F,F,F,F,F,F,F,F] ?_
          refine pu 8 157 #[T,T,T,T,T,T,T,T,T,F,F,F,F,F,F,F] ?_
          refine pu 9 158 #[T,T,T,T,T,T,T,T,T,T,F,F,F,F,F,F] ?_
          refine pu 10 159 #[T,T,T,T,T,T,T,T,T,T,T,F,F,F,F,F] ?_
          refine pu 12 161 #[T,T,T,T,T,T,T,T,T,T,T,F,T,F,F,F] ?_
          refine tk 13 162 #[T,T,T,T,T,T,T,T,T,T,T,F,T,T,F,F] hHeld ?_
          refine one_ (i:=11) (N:=some 160) #[T,T,T,T,T,T,T,T,T,T,T,T,T,T,F,F] rfl rfl (by kernel_rfl) (by decide) (fun K hK=>?_)
          refine goes_ Tryd.func67 (by kernel_rfl) rfl #[.pointer (some ⟨g,0,none⟩)] (by rfl) rfl rfl (by(try simp only [List.map_toArray,List.map_cons,List.map_nil]);first|done|rfl) ?_
          with_reducible refine(stowageref13_Reader_name.calls k g y2 y3 false z1 z2 z3 false w0 _ ?s1 ?s2 hZz.out).mono ?_
          case s1=>exact rel.zi
          case s2=>exact rel.zb
          rintro e_ w_ ⟨rfl,hi,hb,hk⟩
          refine⟨_,rfl,?_⟩
          have HV3:=Aside0.mk (rel.In.call rel.c hi hb hk)
          clear HV hi hb hk
          have HV:=HV3
          clear HV3
          refine hK.out _ _ rel.p12 (fun hHeld=>?_)
          clear hK K
          refine nw ?_
          refine pu 14 163 #[T,T,T,T,T,T,T,T,T,T,T,T,T,T,T,F] ?_
          refine pu 15 164 #[T,T,T,T,T,T,T,T,T,T,T,T,T,T,T,T] ?_
          refine done_ (by kernel_rfl) ?_
          obtain⟨hc0,hc1,hc2,hf0,hf1,hf2,hr0,hr1,hr2,hs0,hs1,hs2,hcg,hgc⟩:=HV.out.z.all
          obtain⟨hd0,hd1,hd2,he0,he1,he2,hbg,hgb,hbc,hcb⟩:=HV.out.all
          go_wp2_with (first|(go_at_call 33;with_reducible refine(stowageref13_Reader_skip.calls k g z2 z3 false o1 o2 o3 o4 w0 _ ?s1 ?s2 hO.out).mono ?_;(case s1=>exact rel.zi);(case s2=>exact rel.zb);rintro e_ w_ ⟨rfl,hi,hb,hk⟩;replace HV:=Aside0.mk (rel.In.call rel.c hi hb hk);clear hi hb hk;obtain⟨hc0,hc1,hc2,hf0,hf1,hf2,hr0,hr1,hr2,hs0,hs1,hs2,hcg,hgc⟩:=HV.out.z.all;obtain⟨hd0,hd1,hd2,he0,he1,he2,hbg,hgb,hbc,hcb⟩:=HV.out.all)|(go_at_call 66;with_reducible refine(stowageref13_Reader_eat.calls g o2 o3 o4 (⟨#[62]⟩ : ByteArray) t1 t2 t3 t4 w0 _ ?s1 ?s2 hT.out).mono ?_;(case s1=>exact rel.zi);(case s2=>exact rel.zb);rintro e_ w_ ⟨rfl,hi,hb,hk⟩;replace HV:=Aside0.mk (rel.In.call rel.c hi hb hk);clear hi hb hk;obtain⟨hc0,hc1,hc2,hf0,hf1,hf2,hr0,hr1,hr2,hs0,hs1,hs2,hcg,hgc⟩:=HV.out.z.all;obtain⟨hd0,hd1,hd2,he0,he1,he2,hbg,hgb,hbc,hcb⟩:=HV.out.all))
          try simp only [Exit.jump]
          have HZ0:rel.In w0 w _ g b c _ _ (!t1) nm ta (.slice none 0 0) []:=rel.cs
          have HZ:=rel.In0.fin (nm:=nm) (tx:=ta) HZ0.z HZ0.own
          refine bodyPost_ret (results_cell_row rfl _ _ c 30 #[.string nm,.string ta,(.slice none 0 0)] (0,0) _ rfl HZ.1 Tryd.underlying30 rfl (by kernel_rfl)) rfl ?_
          exact⟨(.slice none 0 0),rfl,HZ.2⟩
theorem rel_both (k:Nat):rel.Does k∧rco.Does k:=by
 induction k using Nat.strongRecOn with
 | _ k ih=>exact⟨rel.calls_ k (fun m hm=>(ih m hm).2),rco.calls_ k (fun m hm=>(ih m hm).1)⟩
end Go.Proofs.YtklcgncaclggcaaDoor.Q
