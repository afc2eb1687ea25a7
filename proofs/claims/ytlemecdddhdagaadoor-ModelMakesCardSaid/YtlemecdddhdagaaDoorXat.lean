/- Parts of the proof of ModelMakes: what the functions that it reaches compute, and plain facts about that. -/
import Derived.Test.YtlemecdddhdagaaDoorXab
import Derived.Test.YtlemecdddhdagaaDoorXac
import Derived.Test.YtlemecdddhdagaaDoorXal
import Derived.Test.YtlemecdddhdagaaDoorXam
import Derived.Test.YtlemecdddhdagaaDoorXap
import Derived.Test.YtlemecdddhdagaaDoorXar
import Derived.Test.YtlemecdddhdagaaDoorXas
import Derived.Deep.MidRow
set_option linter.unusedVariables false
set_option linter.unusedSimpArgs false
section
namespace Go.Proofs.YtlemecdddhdagaaDoor.P
open Go.RowKit Go.Proofs.ag.bH Go.Proofs.ag.dM Go.Proofs.ag.dY
attribute [local go_sem] kR kP lU lT jM jL kQ kN
mutual
def aA.j0:Nat→Bool→List ByteArray→ByteArray→ByteArray→List (gY)→Option (Int × Int)
 | 0,_,_,_,_,_=>none
 | k+1,x32,mJ,mG,mF,iR=>if x32=true then (some ((-1),5)) else (if (iR.length:Int) < 1 then (aA.j1 k true mJ mG mF iR) else (aA.j1 k (decide ((iR.length:Int) > 200)) mJ mG mF iR))
def aA.j1:Nat→Bool→List ByteArray→ByteArray→ByteArray→List (gY)→Option (Int × Int)
 | 0,_,_,_,_,_=>none
 | k+1,oQ,mJ,mG,mF,iR=>if oQ=true then (some ((-1),3)) else (aA.l0 k 0 mJ mG mF iR)
def aA.l0:Nat→Int→List ByteArray→ByteArray→ByteArray→List (gY)→Option (Int × Int)
 | 0,_,_,_,_,_=>none
 | k+1,x4,mJ,mG,mF,iR=>if x4 < (iR.length:Int) then (if 0≤x4 then (if ((az iR x4).f0)=3 then (aA.j3 k x4 true mJ mG mF iR ((az iR x4).f0) ((az iR x4).f1) ((az iR x4).f2) ((az iR x4).f3) ((az iR x4).f4)) else (aA.j3 k x4 (((az iR x4).f0) == 4) mJ mG mF iR ((az iR x4).f0) ((az iR x4).f1) ((az iR x4).f2) ((az iR x4).f3) ((az iR x4).f4))) else (none)) else (some ((-1),0))
def aA.j3:Nat→Int→Bool→List ByteArray→ByteArray→ByteArray→List (gY)→Int→Int→Int→Int→Int→Option (Int × Int)
 | 0,_,_,_,_,_,_,_,_,_,_,_=>none
 | k+1,x4,x6,mJ,mG,mF,iR,rV,rU,rQ,rP,qm=>(dU.f k rV rU rQ rP qm).bind fun t190=>(if t190=true then (if x6=true then (if qm < 0 then (aA.j4 k x4 true mJ mG mF iR rV rU rQ rP qm) else (aA.j4 k x4 (decide (qm > (iR.length:Int))) mJ mG mF iR rV rU rQ rP qm)) else (aA.j4 k x4 false mJ mG mF iR rV rU rQ rP qm)) else (some (x4,4)))
def aA.j4:Nat→Int→Bool→List ByteArray→ByteArray→ByteArray→List (gY)→Int→Int→Int→Int→Int→Option (Int × Int)
 | 0,_,_,_,_,_,_,_,_,_,_,_=>none
 | k+1,x4,x68,mJ,mG,mF,iR,rV,rU,rQ,rP,qm=>if x68=true then (some (x4,12)) else ((bF.f k rV rU rQ rP qm).bind fun t191=>(if t191=true then ((aX.f k mJ mG mF iR rV rU rQ rP qm).bind fun t192=>(if t192=true then (aA.l0 k (wrap64 (x4+1)) mJ mG mF iR) else (some (x4,5)))) else (some (x4,5))))
end
def aA.f (k:Nat) (aY:List ByteArray) (aT:ByteArray) (aU:ByteArray) (aI:List (gY)):Option (Int × Int):=(aW.f k aY aT).bind fun t186=>(if t186=true then ((aW.f k aY aU).bind fun t187=>(if t187=true then (if (aT.size:Int) > 8 then (aA.j0 k true aY aT aU aI) else (aA.j0 k (decide ((aU.size:Int) > 4)) aY aT aU aI)) else (aA.j0 k true aY aT aU aI))) else (aA.j0 k true aY aT aU aI))
theorem aA.gZ:∀ k,(∀ y0 y1 y2 y3 y4,dK (aA.j0 k y0 y1 y2 y3 y4) (aA.j0 (k+1) y0 y1 y2 y3 y4))∧(∀ y0 y1 y2 y3 y4,dK (aA.j1 k y0 y1 y2 y3 y4) (aA.j1 (k+1) y0 y1 y2 y3 y4))∧(∀ y0 y1 y2 y3 y4,dK (aA.l0 k y0 y1 y2 y3 y4) (aA.l0 (k+1) y0 y1 y2 y3 y4))∧(∀ y0 y1 y2 y3 y4 y5 y6 y7 y8 y9 zg,dK (aA.j3 k y0 y1 y2 y3 y4 y5 y6 y7 y8 y9 zg) (aA.j3 (k+1) y0 y1 y2 y3 y4 y5 y6 y7 y8 y9 zg))∧(∀ y0 y1 y2 y3 y4 y5 y6 y7 y8 y9 zg,dK (aA.j4 k y0 y1 y2 y3 y4 y5 y6 y7 y8 y9 zg) (aA.j4 (k+1) y0 y1 y2 y3 y4 y5 y6 y7 y8 y9 zg))
 | 0=>⟨fun _ _ _ _ _ r h=>by simp [aA.j0] at h,fun _ _ _ _ _ r h=>by simp [aA.j1] at h,fun _ _ _ _ _ r h=>by simp [aA.l0] at h,fun _ _ _ _ _ _ _ _ _ _ _ r h=>by simp [aA.j3] at h,fun _ _ _ _ _ _ _ _ _ _ _ r h=>by simp [aA.j4] at h⟩
 | k+1=>by
  obtain ⟨lu,ih1,ih2,ih3,X8⟩:=aA.gZ k
  refine ⟨?_,?_,?_,?_,?_⟩
  ·
   intro y0 y1 y2 y3 y4
   unfold aA.j0
   repeat' with_reducible first|apply lu|apply ih1|apply ih2|apply ih3|apply X8|apply aW.mono|apply dU.mono|apply bF.mono|apply aX.mono|exact dK.refl _|exact dK.none _|refine dK.ite ?_ ?_|refine dK.bind ?_ (fun _=>?_)
  ·
   intro y0 y1 y2 y3 y4
   unfold aA.j1
   repeat' with_reducible first|apply lu|apply ih1|apply ih2|apply ih3|apply X8|apply aW.mono|apply dU.mono|apply bF.mono|apply aX.mono|exact dK.refl _|exact dK.none _|refine dK.ite ?_ ?_|refine dK.bind ?_ (fun _=>?_)
  ·
   intro y0 y1 y2 y3 y4
   unfold aA.l0
   repeat' with_reducible first|apply lu|apply ih1|apply ih2|apply ih3|apply X8|apply aW.mono|apply dU.mono|apply bF.mono|apply aX.mono|exact dK.refl _|exact dK.none _|refine dK.ite ?_ ?_|refine dK.bind ?_ (fun _=>?_)
  ·
   intro y0 y1 y2 y3 y4 y5 y6 y7 y8 y9 zg
   unfold aA.j3
   repeat' with_reducible first|apply lu|apply ih1|apply ih2|apply ih3|apply X8|apply aW.mono|apply dU.mono|apply bF.mono|apply aX.mono|exact dK.refl _|exact dK.none _|refine dK.ite ?_ ?_|refine dK.bind ?_ (fun _=>?_)
  ·
   intro y0 y1 y2 y3 y4 y5 y6 y7 y8 y9 zg
   unfold aA.j4
   repeat' with_reducible first|apply lu|apply ih1|apply ih2|apply ih3|apply X8|apply aW.mono|apply dU.mono|apply bF.mono|apply aX.mono|exact dK.refl _|exact dK.none _|refine dK.ite ?_ ?_|refine dK.bind ?_ (fun _=>?_)
theorem aA.mono:∀ a0 a1 a2 a3 k,dK (aA.f k a0 a1 a2 a3) (aA.f (k+1) a0 a1 a2 a3):=by
 intro a0 a1 a2 a3 k
 obtain ⟨lu,ih1,ih2,ih3,X8⟩:=aA.gZ k
 unfold aA.f
 repeat' with_reducible first|apply lu|apply ih1|apply ih2|apply ih3|apply X8|apply aW.mono|apply dU.mono|apply bF.mono|apply aX.mono|exact dK.refl _|exact dK.none _|refine dK.ite ?_ ?_|refine dK.bind ?_ (fun _=>?_)
set_option maxHeartbeats 8000000 in
set_option maxRecDepth 100000 in
theorem aA.calls (k:Nat) (dX:Option Addr) (dW:Nat) (aY:List ByteArray) (aT:ByteArray) (aU:ByteArray) (fQ:Option Addr) (eH:Nat) (aI:List (gY)) (r1:Int) (r2:Int) (w:World) (jF:Kd.C Kd.string w dX aY.length aY) (jH:aY.length≤dW) (jE:Kd.C tu w fQ aI.length aI) (jG:aI.length≤eH) (kX:Kd.C xM w xN pg.length pg) (h:aA.f k aY aT aU aI=some (r1,r2)) :
  Calls Tryd.prog 18 #[.agg #[.slice dX aY.length dW,.string aT,.string aU,.slice fQ aI.length eH]] w fun e w'=>e=.returned (.tuple #[.int .i64 r1,.int .i64 r2])∧Below w.heap.size w w':=by
 have xA:=Tryd.underlying25
 have AL:=Tryd.underlying55
 have iq:=ae.mk jF
 have iC:=ae.mk jH
 clear jF jH
 have jB:=ae.mk jE
 have jS:=ae.mk jG
 clear jE jG
 have wo:=ae.mk kX
 clear kX
 have HB:=ae.mk (Below.refl w.heap.size w)
 have H:((aW.f k aY aT).bind fun t186=>(if t186=true then ((aW.f k aY aU).bind fun t187=>(if t187=true then (if (aT.size:Int) > 8 then (aA.j0 k true aY aT aU aI) else (aA.j0 k (decide ((aU.size:Int) > 4)) aY aT aU aI)) else (aA.j0 k true aY aT aU aI))) else (aA.j0 k true aY aT aU aI)))=some (r1,r2):=h
 clear h
 have HC2:=ae.mk H
 clear H
 go_enter Tryd.func18,Tryd.ntmps18
 go_upto_region 1 with (first|((with_reducible refine dN (N:=1) rfl ?_);(try (refine mZ (by rfl) ?_;dsimp only));refine fB ?hg (N:=1) ?hd (cs:=#[.slice dX aY.length dW,.string aT,.string aU,.slice fQ aI.length eH]) (t:=25) ?hr ?_;(case hd=>rfl);(case hg=>rfl);(case hr=>first|(go_simp;done)|(go_simp;rfl));intro qg hg w3 hbox hb;have dS:=ae.mk (bg (by repeat (first|(with_reducible first|exact HB.out|apply ah|apply af|apply ai)|exact HB.out)) hb);have dR:=ae.mk (hbox);have dO:=ae.mk ((by rw [hg];exact (bQ (by repeat (first|(with_reducible first|exact HB.out|apply ah|apply af|apply ai)|exact HB.out))):w.heap.size≤qg));have gQ:=dO;clear HB;have HB:=dS;have iJ:=dR;have amU:=dO;have kK:=gQ;clear dS dR dO gQ;clear hb hbox hg))
 (try simp only [Act.put,List.setIfInBounds_toArray,List.set_cons_zero,List.set_cons_succ])
 go_cut [32] (fun v32 wc=>∃ (kq:Nat) (G9:Bool),v32=.bool G9∧ae (aA.j0 kq G9 aY aT aU aI=some (r1,r2))∧ae (kq≤k)∧ae (wc.heap[qg]? = some (.cells #[(.slice dX aY.length dW),.string aT,.string aU,(.slice fQ aI.length eH)] 25 (0,0)))∧ae (Below w.heap.size w wc))
 case first =>
  have H:=HC2.out
  clear HC2
  replace H:=Option.bind_eq_some_iff.mp H
  obtain ⟨t186,Aw,H⟩:=H
  replace H:(if t186=true then ((aW.f k aY aU).bind fun t187=>(if t187=true then (if (aT.size:Int) > 8 then (aA.j0 k true aY aT aU aI) else (aA.j0 k (decide ((aU.size:Int) > 4)) aY aT aU aI)) else (aA.j0 k true aY aT aU aI))) else (aA.j0 k true aY aT aU aI))=some (r1,r2):=H
  have A4:=ae.mk Aw
  clear Aw
  by_cases c5:t186=true
  ·
   subst c5
   have H1:((aW.f k aY aU).bind fun t187=>(if t187=true then (if (aT.size:Int) > 8 then (aA.j0 k true aY aT aU aI) else (aA.j0 k (decide ((aU.size:Int) > 4)) aY aT aU aI)) else (aA.j0 k true aY aT aU aI)))=some (r1,r2):=by rw [if_pos rfl] at H;exact H
   clear H
   have H:=H1
   clear H1
   replace H:=Option.bind_eq_some_iff.mp H
   obtain ⟨t187,KF,H⟩:=H
   replace H:(if t187=true then (if (aT.size:Int) > 8 then (aA.j0 k true aY aT aU aI) else (aA.j0 k (decide ((aU.size:Int) > 4)) aY aT aU aI)) else (aA.j0 k true aY aT aU aI))=some (r1,r2):=H
   have A6:=ae.mk KF
   clear KF
   by_cases c7:t187=true
   ·
    subst c7
    have H1:(if (aT.size:Int) > 8 then (aA.j0 k true aY aT aU aI) else (aA.j0 k (decide ((aU.size:Int) > 4)) aY aT aU aI))=some (r1,r2):=by rw [if_pos rfl] at H;exact H
    clear H
    have H:=H1
    clear H1
    by_cases c8:(aT.size:Int) > 8
    ·
     rw [if_pos c8] at H
     have oL:decide (8 < (aT.size:Int))=true:=decide_eq_true c8
     have yt:decide (8 < aT.size)=true:=decide_eq_true (by omega)
     clear c8
     (first|rw [oL]|(simp only [bY,bZ];rw [oL])|skip)
     have H':=ae.mk H
     clear H
     obtain ⟨Gp,Gn,Gm,Gl,Gi,Gh,Gg,Gf⟩:=qM iJ.out
     go_wp2_with (first|((with_reducible refine bu (f:=27) rfl ?_);refine dQ (some 11) rfl rfl Tryd.func27 (by kernel_rfl) rfl #[.slice dX aY.length dW,.string aT] rfl (by (try simp only [List.map_toArray,List.map_cons,List.map_nil]);first|done|rfl|(simp only [List.length_drop,List.length_take];rfl)) ?_;(with_reducible refine (aW.calls k _ _ aY aT true _ ?bW ?df A4.out).mono ?_);(case bW=>repeat (first|exact (Kd.bJ iq.out HB.out)|(with_reducible refine Kd.bM ?_ _)|(with_reducible refine Kd.bK ?_ _)|(with_reducible refine Kd.dB ?_)));(case df=>exact iC.out);rintro e w' ⟨rfl,⟨nd,rfl⟩⟩;refine ⟨_,rfl,?_⟩)|(go_at_call 27;(with_reducible refine (aW.calls k _ _ aY aU true _ ?bW ?df A6.out).mono ?_);(case bW=>repeat (first|exact (Kd.bJ iq.out (by repeat (first|(with_reducible first|exact HB.out|apply ah|apply af|apply ai|refine aj ?_ kK.out)|exact HB.out)))|(with_reducible refine Kd.bM ?_ _)|(with_reducible refine Kd.bK ?_ _)|(with_reducible refine Kd.dB ?_)));(case df=>exact iC.out);rintro e w' ⟨rfl,⟨nd,rfl⟩⟩))
     go_meet
     case rel=>exact ⟨_,(true),(by first|rfl|(simp;done)|(simp [*];done)),H',⟨by first|omega|exact Nat.le_refl _⟩,⟨by (with_reducible repeat (first|refine au ?_ _|refine ay ?_|refine ak ?_ _));exact iJ.out⟩,⟨by repeat (first|(with_reducible first|exact HB.out|apply ah|apply af|apply ai|refine aj ?_ kK.out)|exact HB.out)⟩⟩
    ·
     rw [if_neg c8] at H
     have oL:decide (8 < (aT.size:Int))=false:=decide_eq_false c8
     have yt:decide (8 < aT.size)=false:=decide_eq_false (by omega)
     clear c8
     (first|rw [oL]|(simp only [bY,bZ];rw [oL])|skip)
     have H':=ae.mk H
     clear H
     obtain ⟨wR,wQ,wP,wO,wM,wL,wK,wJ⟩:=qM iJ.out
     go_wp2_with (first|((with_reducible refine bu (f:=27) rfl ?_);refine dQ (some 11) rfl rfl Tryd.func27 (by kernel_rfl) rfl #[.slice dX aY.length dW,.string aT] rfl (by (try simp only [List.map_toArray,List.map_cons,List.map_nil]);first|done|rfl|(simp only [List.length_drop,List.length_take];rfl)) ?_;(with_reducible refine (aW.calls k _ _ aY aT true _ ?bW ?df A4.out).mono ?_);(case bW=>repeat (first|exact (Kd.bJ iq.out HB.out)|(with_reducible refine Kd.bM ?_ _)|(with_reducible refine Kd.bK ?_ _)|(with_reducible refine Kd.dB ?_)));(case df=>exact iC.out);rintro e w' ⟨rfl,⟨nd,rfl⟩⟩;refine ⟨_,rfl,?_⟩)|(go_at_call 27;(with_reducible refine (aW.calls k _ _ aY aU true _ ?bW ?df A6.out).mono ?_);(case bW=>repeat (first|exact (Kd.bJ iq.out (by repeat (first|(with_reducible first|exact HB.out|apply ah|apply af|apply ai|refine aj ?_ kK.out)|exact HB.out)))|(with_reducible refine Kd.bM ?_ _)|(with_reducible refine Kd.bK ?_ _)|(with_reducible refine Kd.dB ?_)));(case df=>exact iC.out);rintro e w' ⟨rfl,⟨nd,rfl⟩⟩))
     go_meet
     case rel=>exact ⟨_,(decide ((aU.size:Int) > 4)),(by first|rfl|(simp;done)|(simp [*];done)),H',⟨by first|omega|exact Nat.le_refl _⟩,⟨by (with_reducible repeat (first|refine au ?_ _|refine ay ?_|refine ak ?_ _));exact iJ.out⟩,⟨by repeat (first|(with_reducible first|exact HB.out|apply ah|apply af|apply ai|refine aj ?_ kK.out)|exact HB.out)⟩⟩
   ·
    replace c7:=Bool.eq_false_iff.mpr c7
    subst c7
    have H1:(aA.j0 k true aY aT aU aI)=some (r1,r2):=by rw [if_neg (show ¬ (false=true) by decide)] at H;exact H
    clear H
    have H:=H1
    clear H1
    have H':=ae.mk H
    clear H
    obtain ⟨yU,yT,yS,yR,yM,yL,yK,yJ⟩:=qM iJ.out
    go_wp2_with (first|((with_reducible refine bu (f:=27) rfl ?_);refine dQ (some 11) rfl rfl Tryd.func27 (by kernel_rfl) rfl #[.slice dX aY.length dW,.string aT] rfl (by (try simp only [List.map_toArray,List.map_cons,List.map_nil]);first|done|rfl|(simp only [List.length_drop,List.length_take];rfl)) ?_;(with_reducible refine (aW.calls k _ _ aY aT true _ ?bW ?df A4.out).mono ?_);(case bW=>repeat (first|exact (Kd.bJ iq.out HB.out)|(with_reducible refine Kd.bM ?_ _)|(with_reducible refine Kd.bK ?_ _)|(with_reducible refine Kd.dB ?_)));(case df=>exact iC.out);rintro e w' ⟨rfl,⟨nd,rfl⟩⟩;refine ⟨_,rfl,?_⟩)|(go_at_call 27;(with_reducible refine (aW.calls k _ _ aY aU false _ ?bW ?df A6.out).mono ?_);(case bW=>repeat (first|exact (Kd.bJ iq.out (by repeat (first|(with_reducible first|exact HB.out|apply ah|apply af|apply ai|refine aj ?_ kK.out)|exact HB.out)))|(with_reducible refine Kd.bM ?_ _)|(with_reducible refine Kd.bK ?_ _)|(with_reducible refine Kd.dB ?_)));(case df=>exact iC.out);rintro e w' ⟨rfl,⟨nd,rfl⟩⟩))
    go_meet
    case rel=>exact ⟨_,(true),(by first|rfl|(simp;done)|(simp [*];done)),H',⟨by first|omega|exact Nat.le_refl _⟩,⟨by (with_reducible repeat (first|refine au ?_ _|refine ay ?_|refine ak ?_ _));exact iJ.out⟩,⟨by repeat (first|(with_reducible first|exact HB.out|apply ah|apply af|apply ai|refine aj ?_ kK.out)|exact HB.out)⟩⟩
  ·
   replace c5:=Bool.eq_false_iff.mpr c5
   subst c5
   have H1:(aA.j0 k true aY aT aU aI)=some (r1,r2):=by rw [if_neg (show ¬ (false=true) by decide)] at H;exact H
   clear H
   have H:=H1
   clear H1
   have H':=ae.mk H
   clear H
   obtain ⟨Dv,Du,Dt,Dq,Di,Dh,Df,Dc⟩:=qM iJ.out
   go_wp2_with (first|((with_reducible refine bu (f:=27) rfl ?_);refine dQ (some 11) rfl rfl Tryd.func27 (by kernel_rfl) rfl #[.slice dX aY.length dW,.string aT] rfl (by (try simp only [List.map_toArray,List.map_cons,List.map_nil]);first|done|rfl|(simp only [List.length_drop,List.length_take];rfl)) ?_;(with_reducible refine (aW.calls k _ _ aY aT false _ ?bW ?df A4.out).mono ?_);(case bW=>repeat (first|exact (Kd.bJ iq.out HB.out)|(with_reducible refine Kd.bM ?_ _)|(with_reducible refine Kd.bK ?_ _)|(with_reducible refine Kd.dB ?_)));(case df=>exact iC.out);rintro e w' ⟨rfl,⟨nd,rfl⟩⟩;refine ⟨_,rfl,?_⟩))
   go_meet
   case rel=>exact ⟨_,(true),(by first|rfl|(simp;done)|(simp [*];done)),H',⟨by first|omega|exact Nat.le_refl _⟩,⟨by (with_reducible repeat (first|refine au ?_ _|refine ay ?_|refine ak ?_ _));exact iJ.out⟩,⟨by repeat (first|(with_reducible first|exact HB.out|apply ah|apply af|apply ai|refine aj ?_ kK.out)|exact HB.out)⟩⟩
 case rest =>
  clear HC2
  obtain ⟨kq,G9,rfl,HA,xK,iJ,HB⟩:=hcut
  cases kq with
  | zero=>exact absurd HA.out (by simp [aA.j0])
  | succ MG =>
   have H:=HA.out
   clear HA
   simp only [aA.j0] at H
   by_cases c13:G9=true
   ·
    subst c13
    have H1:(some ((-1),5))=some (r1,r2):=by rw [if_pos rfl] at H;exact H
    clear H
    have H:=H1
    clear H1
    simp only [Option.some.injEq,Prod.mk.injEq] at H
    obtain ⟨rfl,rfl⟩:=H
    go_wp2
    go_ret2
    exact ⟨by first|rfl|(simp [aQ,aN] <;> rfl)|(simp [*,aQ,aN] <;> rfl),by repeat (first|(with_reducible first|exact HB.out|apply ah|apply af|apply ai|refine aj ?_ kK.out)|exact HB.out)⟩
   ·
    replace c13:=Bool.eq_false_iff.mpr c13
    subst c13
    have H1:(if (aI.length:Int) < 1 then (aA.j1 MG true aY aT aU aI) else (aA.j1 MG (decide ((aI.length:Int) > 200)) aY aT aU aI))=some (r1,r2):=by rw [if_neg (show ¬ (false=true) by decide)] at H;exact H
    clear H
    have H:=H1
    clear H1
    have GZ:=ae.mk H
    clear H
    go_upto_region 3 with (fail)
    go_cut [42] (fun v42 wc=>∃ (kq:Nat) (BX:Bool),v42=.bool BX∧ae (aA.j1 kq BX aY aT aU aI=some (r1,r2))∧ae (kq≤MG)∧ae (wc.heap[qg]? = some (.cells #[(.slice dX aY.length dW),.string aT,.string aU,(.slice fQ aI.length eH)] 25 (0,0)))∧ae (Below w.heap.size w wc))
    case first =>
     have H:=GZ.out
     clear GZ
     by_cases c15:(aI.length:Int) < 1
     ·
      rw [if_pos c15] at H
      have qh:decide ((aI.length:Int) < 1)=true:=decide_eq_true c15
      have EY:decide (aI.length < 1)=true:=decide_eq_true (by omega)
      clear c15
      (first|rw [qh]|(simp only [bY,bZ];rw [qh])|skip)
      have H':=ae.mk H
      clear H
      obtain ⟨Dp,Dn,Dl,Dk,C9,CZ,CY,CX⟩:=qM iJ.out
      go_wp2
      go_meet
      case rel=>exact ⟨_,(true),(by first|rfl|(simp;done)|(simp [*];done)),H',⟨by have:=xK.out;first|omega|exact Nat.le_refl _⟩,⟨by (with_reducible repeat (first|refine au ?_ _|refine ay ?_|refine ak ?_ _));exact iJ.out⟩,⟨by repeat (first|(with_reducible first|exact HB.out|apply ah|apply af|apply ai|refine aj ?_ kK.out)|exact HB.out)⟩⟩
     ·
      rw [if_neg c15] at H
      have qh:decide ((aI.length:Int) < 1)=false:=decide_eq_false c15
      have EY:decide (aI.length < 1)=false:=decide_eq_false (by omega)
      clear c15
      (first|rw [qh]|(simp only [bY,bZ];rw [qh])|skip)
      have H':=ae.mk H
      clear H
      obtain ⟨JR,JQ,JP,JO,Jg,Jf,Je,Jd⟩:=qM iJ.out
      go_wp2
      go_meet
      case rel=>exact ⟨_,(decide ((aI.length:Int) > 200)),(by first|rfl|(simp;done)|(simp [*];done)),H',⟨by have:=xK.out;first|omega|exact Nat.le_refl _⟩,⟨by (with_reducible repeat (first|refine au ?_ _|refine ay ?_|refine ak ?_ _));exact iJ.out⟩,⟨by repeat (first|(with_reducible first|exact HB.out|apply ah|apply af|apply ai|refine aj ?_ kK.out)|exact HB.out)⟩⟩
    case rest =>
     clear GZ
     obtain ⟨kq,BX,rfl,HA,Fp,iJ,HB⟩:=hcut
     cases kq with
     | zero=>exact absurd HA.out (by simp [aA.j1])
     | succ QN =>
      have H:=HA.out
      clear HA
      simp only [aA.j1] at H
      by_cases c18:BX=true
      ·
       subst c18
       have H1:(some ((-1),3))=some (r1,r2):=by rw [if_pos rfl] at H;exact H
       clear H
       have H:=H1
       clear H1
       simp only [Option.some.injEq,Prod.mk.injEq] at H
       obtain ⟨rfl,rfl⟩:=H
       go_wp2
       go_ret2
       exact ⟨by first|rfl|(simp [aQ,aN] <;> rfl)|(simp [*,aQ,aN] <;> rfl),by repeat (first|(with_reducible first|exact HB.out|apply ah|apply af|apply ai|refine aj ?_ kK.out)|exact HB.out)⟩
      ·
       replace c18:=Bool.eq_false_iff.mpr c18
       subst c18
       have H1:(aA.l0 QN 0 aY aT aU aI)=some (r1,r2):=by rw [if_neg (show ¬ (false=true) by decide)] at H;exact H
       clear H
       have H:=H1
       clear H1
       have H':=ae.mk H
       clear H
       go_wp2
       go_loopg [4] QN (fun kq v4 w'=>∃ (cu:Int),v4=.int .i64 cu∧ae (aA.l0 kq cu aY aT aU aI=some (r1,r2))∧ae (kq≤QN)∧ae (w'.heap[qg]? = some (.cells #[(.slice dX aY.length dW),.string aT,.string aU,(.slice fQ aI.length eH)] 25 (0,0)))∧ae (Below w.heap.size w w'))
       case atStart=>exact ⟨(0),(by first|rfl|(simp;done)|(simp [*];done)),H',⟨Nat.le_refl _⟩,⟨by (with_reducible repeat (first|refine au ?_ _|refine ay ?_|refine ak ?_ _));exact iJ.out⟩,⟨by repeat (first|(with_reducible first|exact HB.out|apply ah|apply af|apply ai|refine aj ?_ kK.out)|exact HB.out)⟩⟩
       case round =>
        clear H'
        obtain ⟨cu,rfl,HA,Am,iJ,HB⟩:=hrel
        cases gk with
        | zero=>exact absurd HA.out (by simp [aA.l0])
        | succ k3 =>
         have H:=HA.out
         clear HA
         simp only [aA.l0] at H
         by_cases c19:cu < (aI.length:Int)
         ·
          rw [if_pos c19] at H
          have EW:decide (cu < (aI.length:Int))=true:=decide_eq_true c19
          clear c19
          by_cases c20:0≤cu
          ·
           rw [if_pos c20] at H
           have WO:decide (0≤cu)=true:=decide_eq_true c20
           clear c20
           have GY:=ae.mk H
           clear H
           obtain ⟨JI,JH,JG,JF,I8,I7,I5,I4⟩:=qM iJ.out
           have XP:0≤(cu:Int):=of_decide_eq_true (by first|(with_reducible assumption)|assumption)
           have XF:cu < (aI.length:Int):=of_decide_eq_true (by first|(with_reducible assumption)|assumption)
           obtain ⟨uo,akm,CV,CU,CS,CQ,CP⟩:=xG jB.out cu XP XF
           cases akm
           replace CV:=(HB.out.cell (World.block_lt_of_cell? w _ CV)).trans CV
           replace CU:=(HB.out.cell (World.block_lt_of_cell? w _ CU)).trans CU
           replace CS:=(HB.out.cell (World.block_lt_of_cell? w _ CS)).trans CS
           replace CQ:=(HB.out.cell (World.block_lt_of_cell? w _ CQ)).trans CQ
           replace CP:=(HB.out.cell (World.block_lt_of_cell? w _ CP)).trans CP
           replace XP:=eq_true XP
           replace XF:=eq_true XF
           go_upto_region 9 with (first|((with_reducible refine dN (N:=5) rfl ?_);(try (refine mZ (by rfl) ?_;dsimp only));refine fB ?hg (N:=5) ?hd (cs:=#[.int .u8 0,.int .u8 0,.int .u8 0,.int .u8 0,.int .i64 0]) (t:=55) ?hr ?_;(case hd=>rfl);(case hg=>rfl);(case hr=>first|(go_simp;done)|(go_simp;rfl));intro tY hg w23 hbox hb;have dS:=ae.mk (bf (g:=qg) (o:=.cells #[.slice dX aY.length dW,.string aT,.string aU,.slice (some uo) aI.length eH] 25 (0,0)) (by (with_reducible repeat (first|refine au ?_ _|refine ay ?_|refine ak ?_ _));exact iJ.out) hb);have dR:=ae.mk (bg (by repeat (first|(with_reducible first|exact HB.out|apply ah|apply af|apply ai|refine aj ?_ kK.out)|exact HB.out)) hb);have dO:=ae.mk (hbox);have gQ:=ae.mk ((by rw [hg];exact (bQ (by repeat (first|(with_reducible first|exact HB.out|apply ah|apply af|apply ai|refine aj ?_ kK.out)|exact HB.out))):w.heap.size≤tY));have lM:=gQ;have mg:=ae.mk ((by rw [hg];exact Nat.ne_of_lt (jY (g:=qg) (o:=.cells #[.slice dX aY.length dW,.string aT,.string aU,.slice (some uo) aI.length eH] 25 (0,0)) (by (with_reducible repeat (first|refine au ?_ _|refine ay ?_|refine ak ?_ _));exact iJ.out)):qg ≠ tY));have nI:=ae.mk mg.out.symm;clear iJ;clear HB;have iJ:=dS;have HB:=dR;have jA:=dO;have amS:=gQ;have pM:=lM;have iY:=mg;have mi:=nI;clear dS dR dO gQ lM mg nI;clear hb hbox hg;have Wi:=mi.out;have We:=iY.out;obtain ⟨yQ,yP,yO,yN,Dj,yI,yH,yG,yF,CW⟩:=jO jA.out))
           (try simp only [Act.put,List.setIfInBounds_toArray,List.set_cons_zero,List.set_cons_succ])
           go_cut [6] (fun v6 wc=>∃ (kq:Nat) (Bd:Bool),v6=.bool Bd∧ae (aA.j3 kq cu Bd aY aT aU aI ((az aI cu).f0) ((az aI cu).f1) ((az aI cu).f2) ((az aI cu).f3) ((az aI cu).f4)=some (r1,r2))∧ae (kq≤k3)∧ae (wc.heap[qg]? = some (.cells #[(.slice dX aY.length dW),.string aT,.string aU,(.slice (some uo) aI.length eH)] 25 (0,0)))∧ae (wc.heap[tY]? = some (.cells #[.int .u8 ((az aI cu).f0),.int .u8 ((az aI cu).f1),.int .u8 ((az aI cu).f2),.int .u8 ((az aI cu).f3),.int .i64 ((az aI cu).f4)] 55 (0,0)))∧ae (Below w.heap.size w wc))
           case first =>
            have H:=GY.out
            clear GY
            by_cases Gy:((az aI cu).f0)=3
            ·
             rw [if_pos Gy] at H
             have uj:(((az aI cu).f0) == 3)=true:=beq_iff_eq.mpr Gy
             have Pm:(((az aI cu).f0) != 3)=false:=bne_eq_false_iff_eq.mpr Gy
             clear Gy
             (first|rw [uj]|(simp only [bY,bZ];rw [uj])|skip)
             have H':=ae.mk H
             clear H
             have aar:=mi.out
             have aah:=iY.out
             obtain ⟨JE,JD,JC,JB,UU,IZ,IY,IX,IW,SN⟩:=jO jA.out
             go_wp2
             go_meet
             case rel=>exact ⟨_,(true),(by first|rfl|(simp;done)|(simp [*];done)),H',⟨by have:=xK.out;have:=Fp.out;have:=Am.out;first|omega|exact Nat.le_refl _⟩,⟨by (with_reducible repeat (first|refine au ?_ _|refine ay ?_|refine ak ?_ _));refine fO ?_ iY.out _;(with_reducible repeat (first|refine au ?_ _|refine ay ?_|refine ak ?_ _));refine fO ?_ iY.out _;(with_reducible repeat (first|refine au ?_ _|refine ay ?_|refine ak ?_ _));refine fO ?_ iY.out _;(with_reducible repeat (first|refine au ?_ _|refine ay ?_|refine ak ?_ _));refine fO ?_ iY.out _;(with_reducible repeat (first|refine au ?_ _|refine ay ?_|refine ak ?_ _));refine fO ?_ iY.out _;(with_reducible repeat (first|refine au ?_ _|refine ay ?_|refine ak ?_ _));exact iJ.out⟩,⟨by (with_reducible repeat (first|refine au ?_ _|refine ay ?_|refine ak ?_ _));refine dL (cs:=#[.int .u8 ((az aI cu).f0),.int .u8 ((az aI cu).f1),.int .u8 ((az aI cu).f2),.int .u8 ((az aI cu).f3),.int .i64 0]) ?_ 4 _ rfl;(with_reducible repeat (first|refine au ?_ _|refine ay ?_|refine ak ?_ _));refine dL (cs:=#[.int .u8 ((az aI cu).f0),.int .u8 ((az aI cu).f1),.int .u8 ((az aI cu).f2),.int .u8 0,.int .i64 0]) ?_ 3 _ rfl;(with_reducible repeat (first|refine au ?_ _|refine ay ?_|refine ak ?_ _));refine dL (cs:=#[.int .u8 ((az aI cu).f0),.int .u8 ((az aI cu).f1),.int .u8 0,.int .u8 0,.int .i64 0]) ?_ 2 _ rfl;(with_reducible repeat (first|refine au ?_ _|refine ay ?_|refine ak ?_ _));refine dL (cs:=#[.int .u8 ((az aI cu).f0),.int .u8 0,.int .u8 0,.int .u8 0,.int .i64 0]) ?_ 1 _ rfl;(with_reducible repeat (first|refine au ?_ _|refine ay ?_|refine ak ?_ _));refine dL (cs:=#[.int .u8 0,.int .u8 0,.int .u8 0,.int .u8 0,.int .i64 0]) ?_ 0 _ rfl;(with_reducible repeat (first|refine au ?_ _|refine ay ?_|refine ak ?_ _));exact jA.out⟩,⟨by repeat (first|(with_reducible first|exact HB.out|apply ah|apply af|apply ai|refine aj ?_ kK.out|refine aj ?_ pM.out)|exact HB.out)⟩⟩
            ·
             rw [if_neg Gy] at H
             have uj:(((az aI cu).f0) == 3)=false:=beq_eq_false_iff_ne.mpr Gy
             have Pm:(((az aI cu).f0) != 3)=true:=bne_iff_ne.mpr Gy
             (first|rw [uj]|(simp only [bY,bZ];rw [uj])|skip)
             have H':=ae.mk H
             clear H
             have alQ:=mi.out
             have aln:=iY.out
             obtain ⟨aiT,aiS,aiR,aiQ,aiP,agF,agE,agD,agC,agB⟩:=jO jA.out
             go_wp2
             go_meet
             case rel=>exact ⟨_,((((az aI cu).f0) == 4)),(by first|rfl|(simp;done)|(simp [*];done)),H',⟨by have:=xK.out;have:=Fp.out;have:=Am.out;first|omega|exact Nat.le_refl _⟩,⟨by (with_reducible repeat (first|refine au ?_ _|refine ay ?_|refine ak ?_ _));refine fO ?_ iY.out _;(with_reducible repeat (first|refine au ?_ _|refine ay ?_|refine ak ?_ _));refine fO ?_ iY.out _;(with_reducible repeat (first|refine au ?_ _|refine ay ?_|refine ak ?_ _));refine fO ?_ iY.out _;(with_reducible repeat (first|refine au ?_ _|refine ay ?_|refine ak ?_ _));refine fO ?_ iY.out _;(with_reducible repeat (first|refine au ?_ _|refine ay ?_|refine ak ?_ _));refine fO ?_ iY.out _;(with_reducible repeat (first|refine au ?_ _|refine ay ?_|refine ak ?_ _));exact iJ.out⟩,⟨by (with_reducible repeat (first|refine au ?_ _|refine ay ?_|refine ak ?_ _));refine dL (cs:=#[.int .u8 ((az aI cu).f0),.int .u8 ((az aI cu).f1),.int .u8 ((az aI cu).f2),.int .u8 ((az aI cu).f3),.int .i64 0]) ?_ 4 _ rfl;(with_reducible repeat (first|refine au ?_ _|refine ay ?_|refine ak ?_ _));refine dL (cs:=#[.int .u8 ((az aI cu).f0),.int .u8 ((az aI cu).f1),.int .u8 ((az aI cu).f2),.int .u8 0,.int .i64 0]) ?_ 3 _ rfl;(with_reducible repeat (first|refine au ?_ _|refine ay ?_|refine ak ?_ _));refine dL (cs:=#[.int .u8 ((az aI cu).f0),.int .u8 ((az aI cu).f1),.int .u8 0,.int .u8 0,.int .i64 0]) ?_ 2 _ rfl;(with_reducible repeat (first|refine au ?_ _|refine ay ?_|refine ak ?_ _));refine dL (cs:=#[.int .u8 ((az aI cu).f0),.int .u8 0,.int .u8 0,.int .u8 0,.int .i64 0]) ?_ 1 _ rfl;(with_reducible repeat (first|refine au ?_ _|refine ay ?_|refine ak ?_ _));refine dL (cs:=#[.int .u8 0,.int .u8 0,.int .u8 0,.int .u8 0,.int .i64 0]) ?_ 0 _ rfl;(with_reducible repeat (first|refine au ?_ _|refine ay ?_|refine ak ?_ _));exact jA.out⟩,⟨by repeat (first|(with_reducible first|exact HB.out|apply ah|apply af|apply ai|refine aj ?_ kK.out|refine aj ?_ pM.out)|exact HB.out)⟩⟩
           case rest =>
            clear GY
            obtain ⟨kq,Bd,rfl,HA,Fj,iJ,jA,HB⟩:=hcut
            cases kq with
            | zero=>exact absurd HA.out (by simp [aA.j3])
            | succ ru =>
             have H:=HA.out
             clear HA
             simp only [aA.j3] at H
             replace H:=Option.bind_eq_some_iff.mp H
             obtain ⟨t190,adu,H⟩:=H
             replace H:(if t190=true then (if Bd=true then (if ((az aI cu).f4) < 0 then (aA.j4 ru cu true aY aT aU aI ((az aI cu).f0) ((az aI cu).f1) ((az aI cu).f2) ((az aI cu).f3) ((az aI cu).f4)) else (aA.j4 ru cu (decide (((az aI cu).f4) > (aI.length:Int))) aY aT aU aI ((az aI cu).f0) ((az aI cu).f1) ((az aI cu).f2) ((az aI cu).f3) ((az aI cu).f4))) else (aA.j4 ru cu false aY aT aU aI ((az aI cu).f0) ((az aI cu).f1) ((az aI cu).f2) ((az aI cu).f3) ((az aI cu).f4))) else (some (cu,4)))=some (r1,r2):=H
             have A31:=ae.mk adu
             clear adu
             by_cases c32:t190=true
             ·
              subst c32
              have H1:(if Bd=true then (if ((az aI cu).f4) < 0 then (aA.j4 ru cu true aY aT aU aI ((az aI cu).f0) ((az aI cu).f1) ((az aI cu).f2) ((az aI cu).f3) ((az aI cu).f4)) else (aA.j4 ru cu (decide (((az aI cu).f4) > (aI.length:Int))) aY aT aU aI ((az aI cu).f0) ((az aI cu).f1) ((az aI cu).f2) ((az aI cu).f3) ((az aI cu).f4))) else (aA.j4 ru cu false aY aT aU aI ((az aI cu).f0) ((az aI cu).f1) ((az aI cu).f2) ((az aI cu).f3) ((az aI cu).f4)))=some (r1,r2):=by rw [if_pos rfl] at H;exact H
              clear H
              have H:=H1
              clear H1
              have Ze:=ae.mk H
              clear H
              have Wh:=mi.out
              have V9:=iY.out
              obtain ⟨JA,Jz,Jy,Jw,UM,IV,IU,IQ,IP,SE⟩:=jO jA.out
              go_upto_region 12 with (first|((with_reducible refine bu (f:=28) rfl ?_);refine dQ (some 65) rfl rfl Tryd.func28 (by kernel_rfl) rfl #[.agg #[.int .u8 ((az aI cu).f0),.int .u8 ((az aI cu).f1),.int .u8 ((az aI cu).f2),.int .u8 ((az aI cu).f3),.int .i64 ((az aI cu).f4)]] rfl (by (try simp only [List.map_toArray,List.map_cons,List.map_nil]);first|done|rfl|(simp only [List.length_drop,List.length_take];rfl)) ?_;(with_reducible refine (dU.calls ru ((az aI cu).f0) ((az aI cu).f1) ((az aI cu).f2) ((az aI cu).f3) ((az aI cu).f4) true _ ?bW A31.out).mono ?_);(case bW=>repeat (first|exact (Kd.bJ wo.out HB.out)|(with_reducible refine Kd.bM ?_ _)|(with_reducible refine Kd.bK ?_ _)|(with_reducible refine Kd.dB ?_)));rintro e w36 ⟨rfl,hb⟩;refine ⟨_,rfl,?_⟩;have dS:=ae.mk (bf (g:=qg) (o:=.cells #[.slice dX aY.length dW,.string aT,.string aU,.slice (some uo) aI.length eH] 25 (0,0)) (by (with_reducible repeat (first|refine au ?_ _|refine ay ?_|refine ak ?_ _));exact iJ.out) hb);have dR:=ae.mk (bf (g:=tY) (o:=.cells #[.int .u8 ((az aI cu).f0),.int .u8 ((az aI cu).f1),.int .u8 ((az aI cu).f2),.int .u8 ((az aI cu).f3),.int .i64 ((az aI cu).f4)] 55 (0,0)) (by (with_reducible repeat (first|refine au ?_ _|refine ay ?_|refine ak ?_ _));exact jA.out) hb);have dO:=ae.mk (bg (by repeat (first|(with_reducible first|exact HB.out|apply ah|apply af|apply ai|refine aj ?_ kK.out|refine aj ?_ pM.out)|exact HB.out)) hb);clear iJ;clear jA;clear HB;have iJ:=dS;have jA:=dR;have HB:=dO;clear dS dR dO;(try clear hb);(try clear hb2);(try clear hk);(try clear hi)))
              (try simp only [Act.put,List.setIfInBounds_toArray,List.set_cons_zero,List.set_cons_succ])
              go_cut [68] (fun v68 wc=>∃ (kq:Nat) (BU:Bool),v68=.bool BU∧ae (aA.j4 kq cu BU aY aT aU aI ((az aI cu).f0) ((az aI cu).f1) ((az aI cu).f2) ((az aI cu).f3) ((az aI cu).f4)=some (r1,r2))∧ae (kq≤ru)∧ae (wc.heap[qg]? = some (.cells #[(.slice dX aY.length dW),.string aT,.string aU,(.slice (some uo) aI.length eH)] 25 (0,0)))∧ae (wc.heap[tY]? = some (.cells #[.int .u8 ((az aI cu).f0),.int .u8 ((az aI cu).f1),.int .u8 ((az aI cu).f2),.int .u8 ((az aI cu).f3),.int .i64 ((az aI cu).f4)] 55 (0,0)))∧ae (Below w.heap.size w wc))
              case first =>
               have H:=Ze.out
               clear Ze
               by_cases c37:Bd=true
               ·
                subst c37
                have H1:(if ((az aI cu).f4) < 0 then (aA.j4 ru cu true aY aT aU aI ((az aI cu).f0) ((az aI cu).f1) ((az aI cu).f2) ((az aI cu).f3) ((az aI cu).f4)) else (aA.j4 ru cu (decide (((az aI cu).f4) > (aI.length:Int))) aY aT aU aI ((az aI cu).f0) ((az aI cu).f1) ((az aI cu).f2) ((az aI cu).f3) ((az aI cu).f4)))=some (r1,r2):=by rw [if_pos rfl] at H;exact H
                clear H
                have H:=H1
                clear H1
                by_cases J3:((az aI cu).f4) < 0
                ·
                 rw [if_pos J3] at H
                 have Ac:decide (((az aI cu).f4) < 0)=true:=decide_eq_true J3
                 clear J3
                 (first|rw [Ac]|(simp only [bY,bZ];rw [Ac])|skip)
                 have H':=ae.mk H
                 clear H
                 have alJ:=mi.out
                 have alf:=iY.out
                 obtain ⟨aiu,ait,ais,air,aiq,age,agd,agc,agb,aga⟩:=jO jA.out
                 go_wp2
                 go_meet
                 case rel=>exact ⟨_,(true),(by first|rfl|(simp;done)|(simp [*];done)),H',⟨by have:=xK.out;have:=Fp.out;have:=Am.out;have:=Fj.out;first|omega|exact Nat.le_refl _⟩,⟨by (with_reducible repeat (first|refine au ?_ _|refine ay ?_|refine ak ?_ _));exact iJ.out⟩,⟨by (with_reducible repeat (first|refine au ?_ _|refine ay ?_|refine ak ?_ _));exact jA.out⟩,⟨by repeat (first|(with_reducible first|exact HB.out|apply ah|apply af|apply ai|refine aj ?_ kK.out|refine aj ?_ pM.out)|exact HB.out)⟩⟩
                ·
                 rw [if_neg J3] at H
                 have Ac:decide (((az aI cu).f4) < 0)=false:=decide_eq_false J3
                 clear J3
                 (first|rw [Ac]|(simp only [bY,bZ];rw [Ac])|skip)
                 have H':=ae.mk H
                 clear H
                 have alH:=mi.out
                 have ald:=iY.out
                 obtain ⟨aik,aij,aii,aih,aif,af4,af2,af1,af0,afZ⟩:=jO jA.out
                 obtain ⟨Jv,Ju,Jt,Js,IM,IL,IK,IJ⟩:=qM iJ.out
                 go_wp2
                 go_meet
                 case rel=>exact ⟨_,(decide (((az aI cu).f4) > (aI.length:Int))),(by first|rfl|(simp;done)|(simp [*];done)),H',⟨by have:=xK.out;have:=Fp.out;have:=Am.out;have:=Fj.out;first|omega|exact Nat.le_refl _⟩,⟨by (with_reducible repeat (first|refine au ?_ _|refine ay ?_|refine ak ?_ _));exact iJ.out⟩,⟨by (with_reducible repeat (first|refine au ?_ _|refine ay ?_|refine ak ?_ _));exact jA.out⟩,⟨by repeat (first|(with_reducible first|exact HB.out|apply ah|apply af|apply ai|refine aj ?_ kK.out|refine aj ?_ pM.out)|exact HB.out)⟩⟩
               ·
                replace c37:=Bool.eq_false_iff.mpr c37
                subst c37
                have H1:(aA.j4 ru cu false aY aT aU aI ((az aI cu).f0) ((az aI cu).f1) ((az aI cu).f2) ((az aI cu).f3) ((az aI cu).f4))=some (r1,r2):=by rw [if_neg (show ¬ (false=true) by decide)] at H;exact H
                clear H
                have H:=H1
                clear H1
                have H':=ae.mk H
                clear H
                go_wp2
                go_meet
                case rel=>exact ⟨_,(false),(by first|rfl|(simp;done)|(simp [*];done)),H',⟨by have:=xK.out;have:=Fp.out;have:=Am.out;have:=Fj.out;first|omega|exact Nat.le_refl _⟩,⟨by (with_reducible repeat (first|refine au ?_ _|refine ay ?_|refine ak ?_ _));exact iJ.out⟩,⟨by (with_reducible repeat (first|refine au ?_ _|refine ay ?_|refine ak ?_ _));exact jA.out⟩,⟨by repeat (first|(with_reducible first|exact HB.out|apply ah|apply af|apply ai|refine aj ?_ kK.out|refine aj ?_ pM.out)|exact HB.out)⟩⟩
              case rest =>
               clear Ze
               obtain ⟨kq,BU,rfl,HA,acM,iJ,jA,HB⟩:=hcut
               cases kq with
               | zero=>exact absurd HA.out (by simp [aA.j4])
               | succ vX =>
                have H:=HA.out
                clear HA
                simp only [aA.j4] at H
                by_cases VJ:BU=true
                ·
                 subst VJ
                 have H1:(some (cu,12))=some (r1,r2):=by rw [if_pos rfl] at H;exact H
                 clear H
                 have H:=H1
                 clear H1
                 simp only [Option.some.injEq,Prod.mk.injEq] at H
                 obtain ⟨rfl,rfl⟩:=H
                 go_wp2
                 go_ret2
                 exact ⟨by first|rfl|(simp [aQ,aN] <;> rfl)|(simp [*,aQ,aN] <;> rfl),by repeat (first|(with_reducible first|exact HB.out|apply ah|apply af|apply ai|refine aj ?_ kK.out|refine aj ?_ pM.out)|exact HB.out)⟩
                ·
                 replace VJ:=Bool.eq_false_iff.mpr VJ
                 subst VJ
                 have H1:((bF.f vX ((az aI cu).f0) ((az aI cu).f1) ((az aI cu).f2) ((az aI cu).f3) ((az aI cu).f4)).bind fun t191=>(if t191=true then ((aX.f vX aY aT aU aI ((az aI cu).f0) ((az aI cu).f1) ((az aI cu).f2) ((az aI cu).f3) ((az aI cu).f4)).bind fun t192=>(if t192=true then (aA.l0 vX (wrap64 (cu+1)) aY aT aU aI) else (some (cu,5)))) else (some (cu,5))))=some (r1,r2):=by rw [if_neg (show ¬ (false=true) by decide)] at H;exact H
                 clear H
                 have H:=H1
                 clear H1
                 replace H:=Option.bind_eq_some_iff.mp H
                 obtain ⟨t191,ado,H⟩:=H
                 replace H:(if t191=true then ((aX.f vX aY aT aU aI ((az aI cu).f0) ((az aI cu).f1) ((az aI cu).f2) ((az aI cu).f3) ((az aI cu).f4)).bind fun t192=>(if t192=true then (aA.l0 vX (wrap64 (cu+1)) aY aT aU aI) else (some (cu,5)))) else (some (cu,5)))=some (r1,r2):=H
                 have A45:=ae.mk ado
                 clear ado
                 by_cases c46:t191=true
                 ·
                  subst c46
                  have H1:((aX.f vX aY aT aU aI ((az aI cu).f0) ((az aI cu).f1) ((az aI cu).f2) ((az aI cu).f3) ((az aI cu).f4)).bind fun t192=>(if t192=true then (aA.l0 vX (wrap64 (cu+1)) aY aT aU aI) else (some (cu,5))))=some (r1,r2):=by rw [if_pos rfl] at H;exact H
                  clear H
                  have H:=H1
                  clear H1
                  replace H:=Option.bind_eq_some_iff.mp H
                  obtain ⟨t192,adn,H⟩:=H
                  replace H:(if t192=true then (aA.l0 vX (wrap64 (cu+1)) aY aT aU aI) else (some (cu,5)))=some (r1,r2):=H
                  have A47:=ae.mk adn
                  clear adn
                  by_cases c48:t192=true
                  ·
                   subst c48
                   have H1:(aA.l0 vX (wrap64 (cu+1)) aY aT aU aI)=some (r1,r2):=by rw [if_pos rfl] at H;exact H
                   clear H
                   have H:=H1
                   clear H1
                   have H':=ae.mk H
                   clear H
                   have aao:=mi.out
                   have aae:=iY.out
                   obtain ⟨Ux,Uw,Uu,Ut,aia,RV,RU,RS,RQ,afU⟩:=jO jA.out
                   go_wp2_with (first|((with_reducible refine bu (f:=29) rfl ?_);refine dQ (some 86) rfl rfl Tryd.func29 (by kernel_rfl) rfl #[.agg #[.int .u8 ((az aI cu).f0),.int .u8 ((az aI cu).f1),.int .u8 ((az aI cu).f2),.int .u8 ((az aI cu).f3),.int .i64 ((az aI cu).f4)]] rfl (by (try simp only [List.map_toArray,List.map_cons,List.map_nil]);first|done|rfl|(simp only [List.length_drop,List.length_take];rfl)) ?_;(with_reducible refine (bF.calls vX ((az aI cu).f0) ((az aI cu).f1) ((az aI cu).f2) ((az aI cu).f3) ((az aI cu).f4) true _ A45.out).mono ?_);rintro e FI ⟨rfl,hb⟩;refine ⟨_,rfl,?_⟩;have dS:=ae.mk (bf (g:=qg) (o:=.cells #[.slice dX aY.length dW,.string aT,.string aU,.slice (some uo) aI.length eH] 25 (0,0)) (by (with_reducible repeat (first|refine au ?_ _|refine ay ?_|refine ak ?_ _));exact iJ.out) hb);have dR:=ae.mk (bf (g:=tY) (o:=.cells #[.int .u8 ((az aI cu).f0),.int .u8 ((az aI cu).f1),.int .u8 ((az aI cu).f2),.int .u8 ((az aI cu).f3),.int .i64 ((az aI cu).f4)] 55 (0,0)) (by (with_reducible repeat (first|refine au ?_ _|refine ay ?_|refine ak ?_ _));exact jA.out) hb);have dO:=ae.mk (bg (by repeat (first|(with_reducible first|exact HB.out|apply ah|apply af|apply ai|refine aj ?_ kK.out|refine aj ?_ pM.out)|exact HB.out)) hb);clear iJ;clear jA;clear HB;have iJ:=dS;have jA:=dR;have HB:=dO;clear dS dR dO;(try clear hb);(try clear hb2);(try clear hk);(try clear hi);obtain ⟨Um,Ul,Uk,Uj,RH,RG,RF,RD⟩:=qM iJ.out;obtain ⟨ah7,ah6,ah5,ah4,ah3,afR,afQ,afP,afO,afN⟩:=jO jA.out)|(go_at_call 30;(with_reducible refine (aX.calls vX _ _ aY aT aU _ _ aI ((az aI cu).f0) ((az aI cu).f1) ((az aI cu).f2) ((az aI cu).f3) ((az aI cu).f4) true _ ?bW ?df ?iM ?iL A47.out).mono ?_);(case bW=>repeat (first|exact (Kd.bJ iq.out HB.out)|(with_reducible refine Kd.bM ?_ _)|(with_reducible refine Kd.bK ?_ _)|(with_reducible refine Kd.dB ?_)));(case df=>exact iC.out);(case iM=>repeat (first|exact (Kd.bJ jB.out HB.out)|(with_reducible refine Kd.bM ?_ _)|(with_reducible refine Kd.bK ?_ _)|(with_reducible refine Kd.dB ?_)));(case iL=>exact jS.out);rintro e w54 ⟨rfl,hb⟩;have dS:=ae.mk (bf (g:=qg) (o:=.cells #[.slice dX aY.length dW,.string aT,.string aU,.slice (some uo) aI.length eH] 25 (0,0)) (by (with_reducible repeat (first|refine au ?_ _|refine ay ?_|refine ak ?_ _));exact iJ.out) hb);have dR:=ae.mk (bf (g:=tY) (o:=.cells #[.int .u8 ((az aI cu).f0),.int .u8 ((az aI cu).f1),.int .u8 ((az aI cu).f2),.int .u8 ((az aI cu).f3),.int .i64 ((az aI cu).f4)] 55 (0,0)) (by (with_reducible repeat (first|refine au ?_ _|refine ay ?_|refine ak ?_ _));exact jA.out) hb);have dO:=ae.mk (bg (by repeat (first|(with_reducible first|exact HB.out|apply ah|apply af|apply ai|refine aj ?_ kK.out|refine aj ?_ pM.out)|exact HB.out)) hb);clear iJ;clear jA;clear HB;have iJ:=dS;have jA:=dR;have HB:=dO;clear dS dR dO;(try clear hb);(try clear hb2);(try clear hk);(try clear hi)))
                   go_roundg vX
                   case measure=>have:=xK.out;have:=Fp.out;have:=Am.out;have:=Fj.out;have:=acM.out;omega
                   case rel=>exact ⟨(wrap64 (cu+1)),(by first|rfl|(simp;done)|(simp [*];done)),H',⟨by have:=xK.out;have:=Fp.out;have:=Am.out;have:=Fj.out;have:=acM.out;omega⟩,⟨by (with_reducible repeat (first|refine au ?_ _|refine ay ?_|refine ak ?_ _));exact iJ.out⟩,⟨by repeat (first|(with_reducible first|exact HB.out|apply ah|apply af|apply ai|refine aj ?_ kK.out|refine aj ?_ pM.out)|exact HB.out)⟩⟩
                  ·
                   replace c48:=Bool.eq_false_iff.mpr c48
                   subst c48
                   have H1:(some (cu,5))=some (r1,r2):=by rw [if_neg (show ¬ (false=true) by decide)] at H;exact H
                   clear H
                   have H:=H1
                   clear H1
                   simp only [Option.some.injEq,Prod.mk.injEq] at H
                   obtain ⟨rfl,rfl⟩:=H
                   have aan:=mi.out
                   have aad:=iY.out
                   obtain ⟨Ui,Uh,Ug,Uf,Ue,Rz,Ry,Rx,Rw,Ru⟩:=jO jA.out
                   go_wp2_with (first|((with_reducible refine bu (f:=29) rfl ?_);refine dQ (some 86) rfl rfl Tryd.func29 (by kernel_rfl) rfl #[.agg #[.int .u8 ((az aI cu).f0),.int .u8 ((az aI cu).f1),.int .u8 ((az aI cu).f2),.int .u8 ((az aI cu).f3),.int .i64 ((az aI cu).f4)]] rfl (by (try simp only [List.map_toArray,List.map_cons,List.map_nil]);first|done|rfl|(simp only [List.length_drop,List.length_take];rfl)) ?_;(with_reducible refine (bF.calls vX ((az aI cu).f0) ((az aI cu).f1) ((az aI cu).f2) ((az aI cu).f3) ((az aI cu).f4) true _ A45.out).mono ?_);rintro e PY ⟨rfl,hb⟩;refine ⟨_,rfl,?_⟩;have dS:=ae.mk (bf (g:=qg) (o:=.cells #[.slice dX aY.length dW,.string aT,.string aU,.slice (some uo) aI.length eH] 25 (0,0)) (by (with_reducible repeat (first|refine au ?_ _|refine ay ?_|refine ak ?_ _));exact iJ.out) hb);have dR:=ae.mk (bf (g:=tY) (o:=.cells #[.int .u8 ((az aI cu).f0),.int .u8 ((az aI cu).f1),.int .u8 ((az aI cu).f2),.int .u8 ((az aI cu).f3),.int .i64 ((az aI cu).f4)] 55 (0,0)) (by (with_reducible repeat (first|refine au ?_ _|refine ay ?_|refine ak ?_ _));exact jA.out) hb);have dO:=ae.mk (bg (by repeat (first|(with_reducible first|exact HB.out|apply ah|apply af|apply ai|refine aj ?_ kK.out|refine aj ?_ pM.out)|exact HB.out)) hb);clear iJ;clear jA;clear HB;have iJ:=dS;have jA:=dR;have HB:=dO;clear dS dR dO;(try clear hb);(try clear hb2);(try clear hk);(try clear hi);obtain ⟨Ud,Uc,Ub,Ua,Rt,Rq,Ro,Rn⟩:=qM iJ.out;obtain ⟨Jm,Jl,Jk,Jj,Ji,IA,Iz,Iy,Iw,Iu⟩:=jO jA.out)|(go_at_call 30;(with_reducible refine (aX.calls vX _ _ aY aT aU _ _ aI ((az aI cu).f0) ((az aI cu).f1) ((az aI cu).f2) ((az aI cu).f3) ((az aI cu).f4) false _ ?bW ?df ?iM ?iL A47.out).mono ?_);(case bW=>repeat (first|exact (Kd.bJ iq.out HB.out)|(with_reducible refine Kd.bM ?_ _)|(with_reducible refine Kd.bK ?_ _)|(with_reducible refine Kd.dB ?_)));(case df=>exact iC.out);(case iM=>repeat (first|exact (Kd.bJ jB.out HB.out)|(with_reducible refine Kd.bM ?_ _)|(with_reducible refine Kd.bK ?_ _)|(with_reducible refine Kd.dB ?_)));(case iL=>exact jS.out);rintro e w60 ⟨rfl,hb⟩;have dS:=ae.mk (bf (g:=qg) (o:=.cells #[.slice dX aY.length dW,.string aT,.string aU,.slice (some uo) aI.length eH] 25 (0,0)) (by (with_reducible repeat (first|refine au ?_ _|refine ay ?_|refine ak ?_ _));exact iJ.out) hb);have dR:=ae.mk (bf (g:=tY) (o:=.cells #[.int .u8 ((az aI cu).f0),.int .u8 ((az aI cu).f1),.int .u8 ((az aI cu).f2),.int .u8 ((az aI cu).f3),.int .i64 ((az aI cu).f4)] 55 (0,0)) (by (with_reducible repeat (first|refine au ?_ _|refine ay ?_|refine ak ?_ _));exact jA.out) hb);have dO:=ae.mk (bg (by repeat (first|(with_reducible first|exact HB.out|apply ah|apply af|apply ai|refine aj ?_ kK.out|refine aj ?_ pM.out)|exact HB.out)) hb);clear iJ;clear jA;clear HB;have iJ:=dS;have jA:=dR;have HB:=dO;clear dS dR dO;(try clear hb);(try clear hb2);(try clear hk);(try clear hi)))
                   go_ret2
                   exact ⟨by first|rfl|(simp [aQ,aN] <;> rfl)|(simp [*,aQ,aN] <;> rfl),by repeat (first|(with_reducible first|exact HB.out|apply ah|apply af|apply ai|refine aj ?_ kK.out|refine aj ?_ pM.out)|exact HB.out)⟩
                 ·
                  replace c46:=Bool.eq_false_iff.mpr c46
                  subst c46
                  have H1:(some (cu,5))=some (r1,r2):=by rw [if_neg (show ¬ (false=true) by decide)] at H;exact H
                  clear H
                  have H:=H1
                  clear H1
                  simp only [Option.some.injEq,Prod.mk.injEq] at H
                  obtain ⟨rfl,rfl⟩:=H
                  have alB:=mi.out
                  have ak7:=iY.out
                  obtain ⟨TT,TS,TR,TQ,TP,Rf,Q9,Q8,Q7,Q5⟩:=jO jA.out
                  go_wp2_with (first|((with_reducible refine bu (f:=29) rfl ?_);refine dQ (some 86) rfl rfl Tryd.func29 (by kernel_rfl) rfl #[.agg #[.int .u8 ((az aI cu).f0),.int .u8 ((az aI cu).f1),.int .u8 ((az aI cu).f2),.int .u8 ((az aI cu).f3),.int .i64 ((az aI cu).f4)]] rfl (by (try simp only [List.map_toArray,List.map_cons,List.map_nil]);first|done|rfl|(simp only [List.length_drop,List.length_take];rfl)) ?_;(with_reducible refine (bF.calls vX ((az aI cu).f0) ((az aI cu).f1) ((az aI cu).f2) ((az aI cu).f3) ((az aI cu).f4) false _ A45.out).mono ?_);rintro e w63 ⟨rfl,hb⟩;refine ⟨_,rfl,?_⟩;have dS:=ae.mk (bf (g:=qg) (o:=.cells #[.slice dX aY.length dW,.string aT,.string aU,.slice (some uo) aI.length eH] 25 (0,0)) (by (with_reducible repeat (first|refine au ?_ _|refine ay ?_|refine ak ?_ _));exact iJ.out) hb);have dR:=ae.mk (bf (g:=tY) (o:=.cells #[.int .u8 ((az aI cu).f0),.int .u8 ((az aI cu).f1),.int .u8 ((az aI cu).f2),.int .u8 ((az aI cu).f3),.int .i64 ((az aI cu).f4)] 55 (0,0)) (by (with_reducible repeat (first|refine au ?_ _|refine ay ?_|refine ak ?_ _));exact jA.out) hb);have dO:=ae.mk (bg (by repeat (first|(with_reducible first|exact HB.out|apply ah|apply af|apply ai|refine aj ?_ kK.out|refine aj ?_ pM.out)|exact HB.out)) hb);clear iJ;clear jA;clear HB;have iJ:=dS;have jA:=dR;have HB:=dO;clear dS dR dO;(try clear hb);(try clear hb2);(try clear hk);(try clear hi)))
                  go_ret2
                  exact ⟨by first|rfl|(simp [aQ,aN] <;> rfl)|(simp [*,aQ,aN] <;> rfl),by repeat (first|(with_reducible first|exact HB.out|apply ah|apply af|apply ai|refine aj ?_ kK.out|refine aj ?_ pM.out)|exact HB.out)⟩
             ·
              replace c32:=Bool.eq_false_iff.mpr c32
              subst c32
              have H1:(some (cu,4))=some (r1,r2):=by rw [if_neg (show ¬ (false=true) by decide)] at H;exact H
              clear H
              have H:=H1
              clear H1
              simp only [Option.some.injEq,Prod.mk.injEq] at H
              obtain ⟨rfl,rfl⟩:=H
              have aal:=mi.out
              have aab:=iY.out
              obtain ⟨TN,TM,TL,TK,ahJ,Q4,QZ,QY,QX,aft⟩:=jO jA.out
              go_wp2_with (first|((with_reducible refine bu (f:=28) rfl ?_);refine dQ (some 65) rfl rfl Tryd.func28 (by kernel_rfl) rfl #[.agg #[.int .u8 ((az aI cu).f0),.int .u8 ((az aI cu).f1),.int .u8 ((az aI cu).f2),.int .u8 ((az aI cu).f3),.int .i64 ((az aI cu).f4)]] rfl (by (try simp only [List.map_toArray,List.map_cons,List.map_nil]);first|done|rfl|(simp only [List.length_drop,List.length_take];rfl)) ?_;(with_reducible refine (dU.calls ru ((az aI cu).f0) ((az aI cu).f1) ((az aI cu).f2) ((az aI cu).f3) ((az aI cu).f4) false _ ?bW A31.out).mono ?_);(case bW=>repeat (first|exact (Kd.bJ wo.out HB.out)|(with_reducible refine Kd.bM ?_ _)|(with_reducible refine Kd.bK ?_ _)|(with_reducible refine Kd.dB ?_)));rintro e w66 ⟨rfl,hb⟩;refine ⟨_,rfl,?_⟩;have dS:=ae.mk (bf (g:=qg) (o:=.cells #[.slice dX aY.length dW,.string aT,.string aU,.slice (some uo) aI.length eH] 25 (0,0)) (by (with_reducible repeat (first|refine au ?_ _|refine ay ?_|refine ak ?_ _));exact iJ.out) hb);have dR:=ae.mk (bf (g:=tY) (o:=.cells #[.int .u8 ((az aI cu).f0),.int .u8 ((az aI cu).f1),.int .u8 ((az aI cu).f2),.int .u8 ((az aI cu).f3),.int .i64 ((az aI cu).f4)] 55 (0,0)) (by (with_reducible repeat (first|refine au ?_ _|refine ay ?_|refine ak ?_ _));exact jA.out) hb);have dO:=ae.mk (bg (by repeat (first|(with_reducible first|exact HB.out|apply ah|apply af|apply ai|refine aj ?_ kK.out|refine aj ?_ pM.out)|exact HB.out)) hb);clear iJ;clear jA;clear HB;have iJ:=dS;have jA:=dR;have HB:=dO;clear dS dR dO;(try clear hb);(try clear hb2);(try clear hk);(try clear hi)))
              go_ret2
              exact ⟨by first|rfl|(simp [aQ,aN] <;> rfl)|(simp [*,aQ,aN] <;> rfl),by repeat (first|(with_reducible first|exact HB.out|apply ah|apply af|apply ai|refine aj ?_ kK.out|refine aj ?_ pM.out)|exact HB.out)⟩
          ·
           rw [if_neg c20] at H
           exact absurd H (by simp)
         ·
          rw [if_neg c19] at H
          have EW:decide (cu < (aI.length:Int))=false:=decide_eq_false c19
          clear c19
          simp only [Option.some.injEq,Prod.mk.injEq] at H
          obtain ⟨rfl,rfl⟩:=H
          obtain ⟨ahD,ahC,ahB,ahA,afn,afm,afl,afk⟩:=qM iJ.out
          go_wp2
          go_ret2
          exact ⟨by first|rfl|(simp [aQ,aN] <;> rfl)|(simp [*,aQ,aN] <;> rfl),by repeat (first|(with_reducible first|exact HB.out|apply ah|apply af|apply ai|refine aj ?_ kK.out)|exact HB.out)⟩
end Go.Proofs.YtlemecdddhdagaaDoor.P
end
section
namespace Go.Proofs.YtlemecdddhdagaaDoor.P
open Go.RowKit Go.Proofs.ag.bH Go.Proofs.ag.dM Go.Proofs.ag.dY
theorem xZ (a b:ByteArray) (j:Nat) (h:j < a.size):bt (a++b) j=bt a j:=by
  unfold bt
  rw [dif_pos (show ((j:Int)).toNat < (a++b).size by rw [ByteArray.size_append];omega),dif_pos (show ((j:Int)).toNat < a.size by omega)]
  rw [ByteArray.getElem_append_left]
theorem wY (a b:ByteArray) (j:Nat) (h:j < b.size):bt (a++b) ((a.size+j:Nat):Int)=bt b j:=by
  unfold bt
  rw [dif_pos (show (((a.size+j:Nat):Int)).toNat < (a++b).size by rw [ByteArray.size_append];omega),dif_pos (show ((j:Int)).toNat < b.size by omega)]
  rw [ByteArray.getElem_append_right (by rw [Int.toNat_natCast];omega)]
  congr 3
  rw [Int.toNat_natCast,Int.toNat_natCast]
  omega
theorem KU (t:List ByteArray) (lo gl:ByteArray):qJ t (lo++gl)=(qJ t lo && qJ t gl):=by
  have:allB (lo++gl).size (fun i=>decide (0≤kS (bt (lo++gl) i) t.length))=(allB lo.size (fun i=>decide (0≤kS (bt lo i) t.length)) && allB gl.size (fun i=>decide (0≤kS (bt gl i) t.length))):=by
    rw [Bool.eq_iff_iff,Bool.and_eq_true,nN,nN,nN,ByteArray.size_append]
    constructor
    · intro h
      refine ⟨fun j hj=>?_,fun j hj=>?_⟩
      · have:=h j (by omega)
        rwa [xZ lo gl j hj] at this
      · have:=h (lo.size+j) (by omega)
        rwa [wY lo gl j hj] at this
    · rintro ⟨h1,h2⟩ j hj
      by_cases h:j < lo.size
      · rw [xZ lo gl j h]
        exact h1 j h
      · obtain ⟨q,rfl⟩:∃ q,j=lo.size+q:=⟨j - lo.size,by omega⟩
        rw [wY lo gl q (by omega)]
        exact h2 q (by omega)
  unfold qJ
  rw [this]
  cases jK t <;> simp
def WfN (code:List gY):Prop:=∀ i:Nat,-9223372036854775808≤(code.getD i z55).f4∧(code.getD i z55).f4≤9223372036854775807
theorem KQ {x:gY} (h:qI x=true):1≤x.f0∧x.f0≤15:=by
  unfold qI at h
  by_cases h1:x.f0 < 1
  · rw [if_pos h1] at h;cases h
  · by_cases h2:x.f0 > 15
    · rw [if_neg h1,if_pos h2] at h;cases h
    · omega
section
variable (t:List ByteArray) (lo gl:ByteArray) (code:List gY) (ht:t.length≤9223372036854775807) (hs:∀ i:Int,(dV ByteArray.empty t i).size≤9223372036854775807)
  (hn:code.length≤9223372036854775807) (hw:Wf code) (hwn:WfN code)
include ht hs hn hw hwn
theorem ET:Ev (fun k=>aA.l0 k 0 t lo gl code) (vz t lo gl code):=by
  have XD:∀ i:Nat,az code (i:Int)=code.getD i z55:=fun i=>rfl
  have j4:∀ (i:Nat) (x:Bool) (r r':Int × Int),i < code.length→1≤(code.getD i z55).f0∧(code.getD i z55).f0≤15→(x=false→qf t lo gl (code.getD i z55)=true→Ev (fun k=>aA.l0 k ((i+1:Nat):Int) t lo gl code) r) →
      r'=(if x=true then ((i:Int),12) else if qf t lo gl (code.getD i z55)=true then r else ((i:Int),5)) →
      Ev (fun k=>aA.j4 k (i:Int) x t lo gl code (code.getD i z55).f0 (code.getD i z55).f1 (code.getD i z55).f2 (code.getD i z55).f3 (code.getD i z55).f4) r':=by
    intro i x r r' hi ho hr e
    rw [e]
    refine Ev.step (fun k=>by simp only [aA.j4];rfl) ?_
    refine Ev.ite (fun _=>Ev.now _) fun hx=>?_
    have ke:=Ld t lo gl (code.getD i z55).f0 (code.getD i z55).f1 (code.getD i z55).f2 (code.getD i z55).f3 (code.getD i z55).f4 ho
    have hk:qf t lo gl (code.getD i z55)=nJ t lo gl (code.getD i z55).f0 (code.getD i z55).f1 (code.getD i z55).f2 (code.getD i z55).f3 (code.getD i z55).f4:=rfl
    rw [← hk] at ke
    refine Ev.bind (QP _ _ _ _ _) ?_
    cases hin:CJ (code.getD i z55).f0 (code.getD i z55).f1 (code.getD i z55).f2 (code.getD i z55).f3 with
    | false =>
      rw [hin,Bool.false_and] at ke
      rw [← ke,if_neg (by decide)]
      exact Ev.congr (fun k=>if_neg (by decide)) (Ev.now _)
    | true =>
      rw [hin,Bool.true_and] at ke
      refine Ev.congr (fun k=>if_pos rfl) ?_
      refine Ev.bind (NJ t lo gl code _ _ _ _ _ ht hs (hw i).1 (hw i).2.1 (hw i).2.2) ?_
      rw [ke]
      refine Ev.ite (fun h=>?_) (fun _=>Ev.now _)
      rw [wrapN hi hn]
      exact hr (by simpa using hx) h
  have place:∀ (i:Nat) (r r':Int × Int),i < code.length→(nT t lo gl code.length (code.getD i z55)=none→Ev (fun k=>aA.l0 k ((i+1:Nat):Int) t lo gl code) r) →
      r'=(match nT t lo gl code.length (code.getD i z55) with|some e=>((i:Int),e)|none=>r) →
      Ev (fun k=>aA.l0 k (i:Int) t lo gl code) r':=by
    intro i r r' hi hr e
    rw [e]
    have hx4:=Np (code.getD i z55) (hw i).1 (hw i).2.1 (hw i).2.2 (hwn i)
    generalize hx:code.getD i z55=x at *
    have j3:Ev (fun k=>aA.j3 k i (qK x) t lo gl code x.f0 x.f1 x.f2 x.f3 x.f4) (match nT t lo gl code.length x with|some e=>((i:Int),e)|none=>r):=by
      refine Ev.step (fun k=>by simp only [aA.j3];rfl) (Ev.bind hx4 ?_)
      by_cases h1:qI x=true
      · refine Ev.congr (fun k=>if_pos h1) ?_
        have J:∀ b r0,nT t lo gl code.length x=(if b=true then some 12 else if qf t lo gl x=true then none else some 5)→r0=(match nT t lo gl code.length x with|some e=>((i:Int),e)|none=>r)→Ev (fun k=>aA.j4 k i b t lo gl code x.f0 x.f1 x.f2 x.f3 x.f4) r0:=by
          intro b r0 hb e0
          have:=j4 i b r r0 hi (by rw [hx];exact KQ h1) (fun hbf hk=>by
            refine hr ?_
            rw [hx] at hk
            rw [hb,hbf,if_neg (by decide),if_pos hk]) (by
              rw [e0,hb,hx]
              cases b
              · cases qf t lo gl x <;> rfl
              · rfl)
          rw [hx] at this
          exact this
        have hbad:∀ b,(qK x && (decide (x.f4 < 0) || decide (x.f4 > code.length)))=b→nT t lo gl code.length x=(if b=true then some 12 else if qf t lo gl x=true then none else some 5):=by
          intro b hb
          unfold nT
          rw [if_pos h1,hb]
        cases hj:qK x with
        | false =>
          refine Ev.congr (fun k=>if_neg (by decide)) ?_
          exact J false _ (hbad false (by rw [hj];rfl)) rfl
        | true =>
          refine Ev.congr (fun k=>if_pos rfl) ?_
          by_cases h4:x.f4 < 0
          · refine Ev.congr (fun k=>if_pos h4) ?_
            exact J true _ (hbad true (by rw [hj,decide_eq_true h4];rfl)) rfl
          · refine Ev.congr (fun k=>if_neg h4) ?_
            exact J _ _ (hbad _ (by rw [hj,decide_eq_false h4,Bool.false_or,Bool.true_and])) rfl
      · refine Ev.congr (fun k=>if_neg h1) ?_
        have:nT t lo gl code.length x=some 4:=by unfold nT;rw [if_neg h1]
        rw [this]
        exact Ev.now _
    refine Ev.step (fun k=>?_) j3
    simp only [aA.l0]
    rw [if_pos (by omega),if_pos (by omega),XD,hx]
    by_cases h3:x.f0=3
    · rw [if_pos h3,show qK x=true from by unfold qK;rw [h3];rfl]
    · rw [if_neg h3,show qK x=(x.f0 == 4) from by unfold qK;rw [show (x.f0 == 3)=false from beq_eq_false_iff_ne.2 h3,Bool.false_or]]
  have:=lh (g:=fun k i=>aA.l0 k (i:Nat) t lo gl code) (fun i=>(nT t lo gl code.length (code.getD i z55)).map fun e=>((i:Int),e)) code.length (-1,0)
    (fun i hi hb q hq=>?_) (fun i hi b hb=>?_) (fun _=>?_) code.length 0 (by omega) (fun j hj=>by omega)
  · exact this
  · refine place i q q hi (fun _=>hq) ?_
    rw [Option.map_eq_none_iff] at hb
    rw [hb]
  · refine place i (0,0) b hi (fun h=>by rw [h] at hb;cases hb) ?_
    cases h:nT t lo gl code.length (code.getD i z55) with
    | none=>rw [h] at hb;cases hb
    | some e=>rw [h] at hb;cases hb;rfl
  · refine Ev.step (f:=fun _=>some (-1,0)) (fun k=>?_) (Ev.now _)
    simp only [aA.l0]
    rw [if_neg (by omega)]
theorem O9 (hl:lo.size≤9223372036854775807) (hg:gl.size≤9223372036854775807):Ev (fun k=>aA.f k t lo gl code) (oD t lo gl code):=by
  have j1:∀ x,Ev (fun k=>aA.j1 k x t lo gl code) (if x=true then (-1,3) else vz t lo gl code):=fun x=>by
    refine Ev.step (fun k=>by simp only [aA.j1];rfl) ?_
    exact Ev.ite (fun _=>Ev.now _) fun _=>ET t lo gl code ht hs hn hw hwn
  have j0:∀ x,Ev (fun k=>aA.j0 k x t lo gl code) (if x=true then (-1,5) else if (code.length:Int) < 1 then (if true=true then (-1,3) else vz t lo gl code) else (if decide ((code.length:Int) > 200)=true then (-1,3) else vz t lo gl code)):=fun x=>by
    refine Ev.step (fun k=>by simp only [aA.j0];rfl) ?_
    exact Ev.ite (fun _=>Ev.now _) fun _=>Ev.ite (fun _=>j1 _) fun _=>j1 _
  refine Ev.bind (Cm t lo ht hs hl) ?_
  unfold oD headB
  rw [KU]
  cases h1:qJ t lo with
  | false =>
    rw [Bool.false_and,Bool.false_and,if_neg (by decide)]
    exact Ev.congr (fun k=>if_neg (by decide)) (Ev.out (j0 true) (if_pos rfl))
  | true =>
    rw [Bool.true_and]
    refine Ev.congr (fun k=>if_pos rfl) ?_
    refine Ev.bind (Cm t gl ht hs hg) ?_
    cases h2:qJ t gl with
    | false =>
      rw [Bool.false_and,if_neg (by decide)]
      exact Ev.congr (fun k=>if_neg (by decide)) (Ev.out (j0 true) (if_pos rfl))
    | true =>
      rw [Bool.true_and]
      refine Ev.congr (fun k=>if_pos rfl) ?_
      refine Ev.out (Ev.ite (fun _=>j0 _) fun _=>j0 _) ?_
      by_cases h3:lo.size≤8
      · by_cases h4:gl.size≤4
        · rw [if_neg (by omega),decide_eq_true h3,decide_eq_true h4,if_neg (by simp;omega),show (true && true)=true from rfl,if_pos rfl,if_pos rfl]
          by_cases h5:(code.length:Int) < 1
          · rw [if_pos h5,if_neg (by omega)]
          · rw [if_neg h5]
            by_cases h6:(code.length:Int) > 200
            · rw [if_pos (decide_eq_true h6),if_neg (by omega)]
            · rw [if_neg (by simp;omega),if_pos (by omega)]
        · rw [if_neg (by omega),decide_eq_true h3,decide_eq_false h4,if_pos (by simp;omega),if_neg (by decide)]
      · rw [if_pos (by omega),decide_eq_false h3,if_pos rfl,if_neg (by simp)]
end
end Go.Proofs.YtlemecdddhdagaaDoor.P
end
section
namespace Go.Proofs.YtlemecdddhdagaaDoor.P
open Go.RowKit Go.Proofs.ag.bH Go.Proofs.ag.dM Go.Proofs.ag.dY
def Bk (w:World) (g:Nat) (cs:Array Value) (t:TypeId):Prop:=w.heap[g]? = some (.cells cs t (0,0))
section
variable {w w1:World} {g h t:Nat} {cs:Array Value}
theorem Bk.cell (k:Bk w g cs t) (j:Nat):w.cell? ⟨g,j,none⟩=cs[j]?:=cell_of_row w g j cs t (0,0) k
theorem Bk.fr (k:Bk w g cs t) (j:Nat):w.frozen? ⟨g,j,none⟩=false:=frozen_of_row w g j cs t k
theorem Bk.lt (k:Bk w g cs t):g < w.heap.size:=(Array.getElem?_eq_some_iff.1 k).1
theorem Bk.of (k:Bk w g cs t) (e:w1.heap[g]? = w.heap[g]?):Bk w1 g cs t:=e.trans k
theorem Bk.below (k:Bk w g cs t) (hb:Below w.heap.size w w1):Bk w1 g cs t:=k.of (hb.block g k.lt)
theorem Bk.set (k:Bk w g cs t) (j:Nat) (v:Value):Bk (w.setCell ⟨g,j,none⟩ v) g (cs.setIfInBounds j v) t:=by
  unfold Bk at k ⊢
  simp [World.setCell,Array.getElem?_modify,k]
theorem Bk.setRow (k:Bk w g cs t) (ds:Array Value):Bk (w.setRow g ds) g ds t:=kV k ds
theorem Bk.alloc (k:Bk w g cs t) (o:Obj):Bk (w.alloc o) g cs t:=k.of (Below.heap_alloc w o g k.lt)
theorem Bk.new (w:World) (cs:Array Value) (t:TypeId):Bk (w.alloc (.cells cs t)) w.heap.size cs t:=heap_alloc_new w _
theorem sD (ds:List Value):∀ (w:World) (o:Nat),g ≠ h→(w.setCells h o ds).heap[g]? = w.heap[g]?:=by
  induction ds with
  | nil=>intro w o _;rfl
  | cons v ds ih=>intro w o hn;exact (ih _ _ hn).trans (Below.heap_setCell w ⟨h,o,none⟩ v g hn)
theorem Bk.range (k:Bk w g cs t) (o:Nat) (vs:List Value) (hv:∀ j,j < vs.length→cs[o+j]? = vs[j]?):w.rangeAt g o vs:=fun j v hj=>by
  rw [k.cell (o+j),hv j (List.getElem?_eq_some_iff.1 hj).1,hj]
end
section
variable {w:World} {g t:Nat} {s:St} {vO vU:Value}
theorem Bk.xm (k:Bk w g (cellsS s vO vU) t) (j:Nat) (hj:j < 8):w.cell? ⟨g,j,none⟩=some (.int .i64 (s.x j)):=by
  rw [k.cell j]
  match j,hj with
  | 0,_ | 1,_ | 2,_ | 3,_ | 4,_ | 5,_ | 6,_ | 7,_=>rfl
theorem Bk.sF (k:Bk w g (cellsS s vO vU) t) (j:Nat) (hj:j < 8):w.cell? ⟨g,8+j,none⟩=some (.int .i64 (s.p j)):=by
  rw [k.cell (8+j)]
  match j,hj with
  | 0,_ | 1,_ | 2,_ | 3,_ | 4,_ | 5,_ | 6,_ | 7,_=>rfl
end
section
variable {P:Program} {ops:Array Oper} {rest:List Oper} {o:Oper} {a:Act} {w:World} {Q:Exit→Act→World→Prop}
end
structure WX (s:St) (vO vU:Value) (w:World):Prop where
  cZ:∃ A c,vO=.slice A s.cZ.length c∧s.cZ.length≤c∧Kd.C xx w A s.cZ.length s.cZ
  out:∃ A c,vU=.slice A s.out.length c∧s.out.length≤c∧Kd.C (Kd.int .i64) w A s.out.length s.out
section
variable {s s':St} {vO vU:Value} {w w':World}
theorem WX.below (h:WX s vO vU w) (hb:Below w.heap.size w w'):WX s vO vU w':=by
  obtain ⟨⟨A,c,e,hc,hO⟩,⟨B,d,e',hd,hU⟩⟩:=h
  exact ⟨⟨A,c,e,hc,Kd.bJ hO hb⟩,⟨B,d,e',hd,Kd.bJ hU hb⟩⟩
theorem WX.as (h:WX s vO vU w) (e1:s'.cZ=s.cZ) (e2:s'.out=s.out):WX s' vO vU w:=by
  obtain ⟨h1,h2⟩:=h
  exact ⟨by rw [e1];exact h1,by rw [e2];exact h2⟩
theorem WX.one (h:WX s vO vU w) (s':St):(cellsS s' vO vU).all (·.oneCell')=true:=by
  obtain ⟨⟨A,c,rfl,_⟩,⟨B,d,rfl,_⟩⟩:=h
  simp [cellsS,Value.oneCell']
end
def NB (w:World) (k:Nat):Prop:=∃ cells t fr,w.heap[k]? = some (.cells cells t fr)∧t ≠ 44∧t ≠ 39
def Keep (w wF:World):Prop:=∀ k,NB w k→wF.heap[k]? = w.heap[k]?
theorem NB.lt {w:World} {k:Nat} (h:NB w k):k < w.heap.size:=by
  obtain ⟨_,_,_,h,_⟩:=h
  exact (Array.getElem?_eq_some_iff.1 h).1
theorem Keep.after {w w' wF:World} (hb:Below w.heap.size w w') (h:Keep w' wF):Keep w wF:=fun k hk=>by
  have e:=hb.block k hk.lt
  obtain ⟨c,t,fr,h1,h2⟩:=hk
  rw [h k ⟨c,t,fr,e.trans h1,h2⟩,e]
theorem Keep.trans {w w' wF:World} (hb:Keep w w') (h:Keep w' wF):Keep w wF:=fun k hk=>by
  have e:=hb k hk
  obtain ⟨c,t,fr,h1,h2⟩:=hk
  rw [h k ⟨c,t,fr,e.trans h1,h2⟩,e]
structure VO (s:St) (vO vU:Value) (w:World):Prop where
  cZ:∃ A c hs,vO=.slice A s.cZ.length c∧s.cZ.length≤c∧hs.length=s.cZ.length∧(∀ wF,Keep w wF→Kd.C kH wF A s.cZ.length hs)∧∀ j (hj:j < s.cZ.length),∃ q,hs[j]? = some q∧q.2.1=(s.cZ[j]).length∧(s.cZ[j]).length≤q.2.2∧∀ wF,Keep w wF→Kd.C (Kd.int .i64) wF q.1 (s.cZ[j]).length s.cZ[j]
  out:∃ A c,vU=.slice A s.out.length c∧s.out.length≤c∧∀ wF,Keep w wF→Kd.C (Kd.int .i64) wF A s.out.length s.out
section
variable {s s':St} {vO vU:Value} {w w' wF:World}
theorem VO.keep (h:VO s vO vU w) (hk:Keep w w'):VO s vO vU w':=by
  obtain ⟨⟨A,c,hs,e,hc,hl,hH,hE⟩,B,b,e',hb,hU⟩:=h
  exact ⟨⟨A,c,hs,e,hc,hl,fun wF hF=>hH wF (hk.trans hF),fun j hj=>by obtain ⟨q,q1,q2,q3,q4⟩:=hE j hj;exact ⟨q,q1,q2,q3,fun wF hF=>q4 wF (hk.trans hF)⟩⟩,B,b,e',hb,fun wF hF=>hU wF (hk.trans hF)⟩
theorem VO.below (h:VO s vO vU w) (hb:Below w.heap.size w w'):VO s vO vU w':=h.keep (fun k hk=>hb.block k hk.lt)
theorem VO.as (h:VO s vO vU w) (e1:s'.cZ=s.cZ) (e2:s'.out=s.out):VO s' vO vU w:=by
  obtain ⟨h1,h2⟩:=h
  exact ⟨by rw [e1];exact h1,by rw [e2];exact h2⟩
end
end Go.Proofs.YtlemecdddhdagaaDoor.P
end
