/- Parts of the proof of ModelMakes: what the functions that it reaches compute, and plain facts about that. -/
import Derived.Test.YtlemecdddhdagaaDoorXab
import Derived.Test.YtlemecdddhdagaaDoorXad
import Derived.Test.YtlemecdddhdagaaDoorXaf
import Derived.Test.YtlemecdddhdagaaDoorXag
set_option linter.unusedVariables false
set_option linter.unusedSimpArgs false
section
namespace Go.Proofs.YtlemecdddhdagaaDoor.P
open Go.RowKit Go.Proofs.ag.bH Go.Proofs.ag.dM Go.Proofs.ag.dY
attribute [local go_sem] kR kP lU lT jM jL kQ kN
mutual
def bz.j0:Nat→Int→Bool→List ByteArray→ByteArray→ByteArray→List (gY)→Option (Int × Int)
 | 0,_,_,_,_,_,_=>none
 | k+1,x4,x10,oW,oV,oU,mM=>if x10=true then (some ((-1),5)) else (if x4 < 1 then (some ((-1),3)) else (if x4 > 200 then (some ((-1),3)) else (bz.l0 k mM (mM.length:Int) 0 oW oV oU mM)))
def bz.l0:Nat→List (gY)→Int→Int→List ByteArray→ByteArray→ByteArray→List (gY)→Option (Int × Int)
 | 0,_,_,_,_,_,_,_=>none
 | k+1,x40,x41,oQ,oW,oV,oU,mM=>if oQ < x41 then (if 0≤oQ then (if oQ < (x40.length:Int) then ((lV.f ((az x40 oQ).f0) ((az x40 oQ).f1) ((az x40 oQ).f2) ((az x40 oQ).f3) ((az x40 oQ).f4)).bind fun t165=>(if t165=true then (if ((az x40 oQ).f0)=3 then (if ((az x40 oQ).f4) < 0 then (bz.j2 k oQ x40 x41 oQ true oW oV oU mM ((az x40 oQ).f0) ((az x40 oQ).f1) ((az x40 oQ).f2) ((az x40 oQ).f3) ((az x40 oQ).f4)) else (bz.j2 k oQ x40 x41 oQ (decide (((az x40 oQ).f4) > (mM.length:Int))) oW oV oU mM ((az x40 oQ).f0) ((az x40 oQ).f1) ((az x40 oQ).f2) ((az x40 oQ).f3) ((az x40 oQ).f4))) else (if ((az x40 oQ).f0)=4 then (if ((az x40 oQ).f4) < 0 then (bz.j2 k oQ x40 x41 oQ true oW oV oU mM ((az x40 oQ).f0) ((az x40 oQ).f1) ((az x40 oQ).f2) ((az x40 oQ).f3) ((az x40 oQ).f4)) else (bz.j2 k oQ x40 x41 oQ (decide (((az x40 oQ).f4) > (mM.length:Int))) oW oV oU mM ((az x40 oQ).f0) ((az x40 oQ).f1) ((az x40 oQ).f2) ((az x40 oQ).f3) ((az x40 oQ).f4))) else (bz.j2 k oQ x40 x41 oQ false oW oV oU mM ((az x40 oQ).f0) ((az x40 oQ).f1) ((az x40 oQ).f2) ((az x40 oQ).f3) ((az x40 oQ).f4)))) else (some (oQ,4)))) else (none)) else (none)) else (some ((-1),0))
def bz.j2:Nat→Int→List (gY)→Int→Int→Bool→List ByteArray→ByteArray→ByteArray→List (gY)→Int→Int→Int→Int→Int→Option (Int × Int)
 | 0,_,_,_,_,_,_,_,_,_,_,_,_,_,_=>none
 | k+1,x5,x40,x41,oQ,x52,oW,oV,oU,mM,Qj,Qi,Qh,Qg,Qe=>if x52=true then (some (x5,12)) else ((bP.f k oW oV oU mM Qj Qi Qh Qg Qe).bind fun t166=>(if t166=true then (bz.l0 k x40 x41 (wrap64 (oQ+1)) oW oV oU mM) else (some (x5,5))))
end
def bz.f (k:Nat) (aY:List ByteArray) (aT:ByteArray) (aU:ByteArray) (aI:List (gY)):Option (Int × Int):=if aT.size+aU.size≤9223372036854775807 then ((fE.f k aY (aT++aU)).bind fun t162=>(if t162=true then (if (aT.size:Int) > 8 then (bz.j0 k (aI.length:Int) true aY aT aU aI) else (bz.j0 k (aI.length:Int) (decide ((aU.size:Int) > 4)) aY aT aU aI)) else (bz.j0 k (aI.length:Int) true aY aT aU aI))) else (none)
theorem bz.gZ:∀ k,(∀ y0 y1 y2 y3 y4 y5,dK (bz.j0 k y0 y1 y2 y3 y4 y5) (bz.j0 (k+1) y0 y1 y2 y3 y4 y5))∧(∀ y0 y1 y2 y3 y4 y5 y6,dK (bz.l0 k y0 y1 y2 y3 y4 y5 y6) (bz.l0 (k+1) y0 y1 y2 y3 y4 y5 y6))∧(∀ y0 y1 y2 y3 y4 y5 y6 y7 y8 y9 zg FH FD y13,dK (bz.j2 k y0 y1 y2 y3 y4 y5 y6 y7 y8 y9 zg FH FD y13) (bz.j2 (k+1) y0 y1 y2 y3 y4 y5 y6 y7 y8 y9 zg FH FD y13))
 | 0=>⟨fun _ _ _ _ _ _ r h=>by simp [bz.j0] at h,fun _ _ _ _ _ _ _ r h=>by simp [bz.l0] at h,fun _ _ _ _ _ _ _ _ _ _ _ _ _ _ r h=>by simp [bz.j2] at h⟩
 | k+1=>by
  obtain ⟨lu,ih1,ih2⟩:=bz.gZ k
  refine ⟨?_,?_,?_⟩
  ·
   intro y0 y1 y2 y3 y4 y5
   unfold bz.j0
   repeat' with_reducible first|apply lu|apply ih1|apply ih2|apply bP.mono|apply fE.mono|exact dK.refl _|exact dK.none _|refine dK.ite ?_ ?_|refine dK.bind ?_ (fun _=>?_)
  ·
   intro y0 y1 y2 y3 y4 y5 y6
   unfold bz.l0
   repeat' with_reducible first|apply lu|apply ih1|apply ih2|apply bP.mono|apply fE.mono|exact dK.refl _|exact dK.none _|refine dK.ite ?_ ?_|refine dK.bind ?_ (fun _=>?_)
  ·
   intro y0 y1 y2 y3 y4 y5 y6 y7 y8 y9 zg FH FD y13
   unfold bz.j2
   repeat' with_reducible first|apply lu|apply ih1|apply ih2|apply bP.mono|apply fE.mono|exact dK.refl _|exact dK.none _|refine dK.ite ?_ ?_|refine dK.bind ?_ (fun _=>?_)
theorem bz.mono:∀ a0 a1 a2 a3 k,dK (bz.f k a0 a1 a2 a3) (bz.f (k+1) a0 a1 a2 a3):=by
 intro a0 a1 a2 a3 k
 obtain ⟨lu,ih1,ih2⟩:=bz.gZ k
 unfold bz.f
 repeat' with_reducible first|apply lu|apply ih1|apply ih2|apply bP.mono|apply fE.mono|exact dK.refl _|exact dK.none _|refine dK.ite ?_ ?_|refine dK.bind ?_ (fun _=>?_)
set_option maxHeartbeats 8000000 in
set_option maxRecDepth 100000 in
theorem bz.calls (k:Nat) (dX:Option Addr) (dW:Nat) (aY:List ByteArray) (aT:ByteArray) (aU:ByteArray) (fQ:Option Addr) (eH:Nat) (aI:List (gY)) (r1:Int) (r2:Int) (w:World) (jF:Kd.C Kd.string w dX aY.length aY) (jH:aY.length≤dW) (jE:Kd.C tu w fQ aI.length aI) (jG:aI.length≤eH) (kX:Kd.C Kd.string w qo jX.length jX) (h:bz.f k aY aT aU aI=some (r1,r2)) :
  Calls Tryd.prog 21 #[.agg #[.slice dX aY.length dW,.string aT,.string aU,.slice fQ aI.length eH]] w fun e w'=>e=.returned (.tuple #[.int .i64 r1,.int .i64 r2])∧Below w.heap.size w w':=by
 have xA:=Tryd.underlying25
 have AL:=Tryd.underlying55
 have iq:=ae.mk jF
 have iC:=ae.mk jH
 clear jF jH
 have jB:=ae.mk jE
 have jS:=ae.mk jG
 clear jE jG
 have wo:=ae.mk kX
 clear kX
 have HB:=ae.mk (Below.refl w.heap.size w)
 have H:(if aT.size+aU.size≤9223372036854775807 then ((fE.f k aY (aT++aU)).bind fun t162=>(if t162=true then (if (aT.size:Int) > 8 then (bz.j0 k (aI.length:Int) true aY aT aU aI) else (bz.j0 k (aI.length:Int) (decide ((aU.size:Int) > 4)) aY aT aU aI)) else (bz.j0 k (aI.length:Int) true aY aT aU aI))) else (none))=some (r1,r2):=h
 clear h
 have HC2:=ae.mk H
 clear H
 go_enter Tryd.func21,Tryd.ntmps21
 go_upto_region 2 with (first|((with_reducible refine dN (N:=1) rfl ?_);(try (refine mZ (by rfl) ?_;dsimp only));refine fB ?hg (N:=1) ?hd (cs:=#[.slice dX aY.length dW,.string aT,.string aU,.slice fQ aI.length eH]) (t:=25) ?hr ?_;(case hd=>rfl);(case hg=>rfl);(case hr=>first|(go_simp;done)|(go_simp;rfl));intro iU hg w3 hbox hb;have dS:=ae.mk (bg (by repeat (first|(with_reducible first|exact HB.out|apply ah|apply af|apply ai)|exact HB.out)) hb);have dR:=ae.mk (hbox);have dO:=ae.mk ((by rw [hg];exact (bQ (by repeat (first|(with_reducible first|exact HB.out|apply ah|apply af|apply ai)|exact HB.out))):w.heap.size≤iU));have gQ:=dO;clear HB;have HB:=dS;have fA:=dR;have amY:=dO;have lL:=gQ;clear dS dR dO gQ;clear hb hbox hg;have Ov:w3.cell? ⟨iU,0,none⟩=some (.slice dX aY.length dW):=(ax fA.out 0).trans rfl;have Ou:w3.cell? ⟨iU,1,none⟩=some (.string aT):=(ax fA.out 1).trans rfl;have Ot:w3.cell? ⟨iU,2,none⟩=some (.string aU):=(ax fA.out 2).trans rfl;have Oq:w3.cell? ⟨iU,3,none⟩=some (.slice fQ aI.length eH):=(ax fA.out 3).trans rfl;have Og:=aC fA.out 0;have Oe:=aC fA.out 1;have Oc:=aC fA.out 2;have Ob:=aC fA.out 3))
 (try simp only [Act.put,List.setIfInBounds_toArray,List.set_cons_zero,List.set_cons_succ])
 go_cut [10] (fun v10 wc=>∃ (kq:Nat) (H8:Bool),v10=.bool H8∧ae (bz.j0 kq (aI.length:Int) H8 aY aT aU aI=some (r1,r2))∧ae (kq≤k)∧ae (wc.heap[iU]? = some (.cells #[(.slice dX aY.length dW),.string aT,.string aU,(.slice fQ aI.length eH)] 25 (0,0)))∧ae (Below w.heap.size w wc))
 case first =>
  have H:=HC2.out
  clear HC2
  by_cases c5:aT.size+aU.size≤9223372036854775807
  ·
   rw [if_pos c5] at H
   have qO:=eq_true c5
   have L9:decide (aT.size+aU.size≤9223372036854775807)=true:=decide_eq_true c5
   try have aof:(9223372036854775807 < aT.size+aU.size)=False:=eq_false (Nat.not_lt.2 c5)
   replace H:=Option.bind_eq_some_iff.mp H
   obtain ⟨t162,KF,H⟩:=H
   replace H:(if t162=true then (if (aT.size:Int) > 8 then (bz.j0 k (aI.length:Int) true aY aT aU aI) else (bz.j0 k (aI.length:Int) (decide ((aU.size:Int) > 4)) aY aT aU aI)) else (bz.j0 k (aI.length:Int) true aY aT aU aI))=some (r1,r2):=H
   have A6:=ae.mk KF
   clear KF
   by_cases c7:t162=true
   ·
    subst c7
    have H1:(if (aT.size:Int) > 8 then (bz.j0 k (aI.length:Int) true aY aT aU aI) else (bz.j0 k (aI.length:Int) (decide ((aU.size:Int) > 4)) aY aT aU aI))=some (r1,r2):=by rw [if_pos rfl] at H;exact H
    clear H
    have H:=H1
    clear H1
    by_cases c8:(aT.size:Int) > 8
    ·
     rw [if_pos c8] at H
     have oL:decide (8 < (aT.size:Int))=true:=decide_eq_true c8
     have yt:decide (8 < aT.size)=true:=decide_eq_true (by omega)
     clear c8
     (first|rw [oL]|(simp only [bY,bZ];rw [oL])|skip)
     have H':=ae.mk H
     clear H
     have Gp:w3.cell? ⟨iU,0,none⟩=some (.slice dX aY.length dW):=(ax fA.out 0).trans rfl
     have Gn:w3.cell? ⟨iU,1,none⟩=some (.string aT):=(ax fA.out 1).trans rfl
     have Gm:w3.cell? ⟨iU,2,none⟩=some (.string aU):=(ax fA.out 2).trans rfl
     have Gl:w3.cell? ⟨iU,3,none⟩=some (.slice fQ aI.length eH):=(ax fA.out 3).trans rfl
     have Gi:=aC fA.out 0
     have Gh:=aC fA.out 1
     have Gg:=aC fA.out 2
     have Gf:=aC fA.out 3
     go_wp2_with (first|((with_reducible refine bu (f:=32) rfl ?_);refine dQ (some 18) rfl rfl Tryd.func32 (by kernel_rfl) rfl #[.slice dX aY.length dW,.string (aT++aU)] rfl (by (try simp only [List.map_toArray,List.map_cons,List.map_nil]);first|done|rfl|(simp only [List.length_drop,List.length_take];rfl)) ?_;(with_reducible refine (fE.calls k _ _ aY (aT++aU) true _ ?bW ?df A6.out).mono ?_);(case bW=>repeat (first|exact (Kd.bJ iq.out HB.out)|(with_reducible refine Kd.bM ?_ _)|(with_reducible refine Kd.bK ?_ _)|(with_reducible refine Kd.dB ?_)));(case df=>exact iC.out);rintro e w' ⟨rfl,⟨nd,rfl⟩⟩;refine ⟨_,rfl,?_⟩))
     go_meet
     case rel=>exact ⟨_,(true),(by first|rfl|(simp;done)|(simp [*];done)),H',⟨by first|omega|exact Nat.le_refl _⟩,⟨by (with_reducible repeat (first|refine au ?_ _|refine ay ?_|refine ak ?_ _));exact fA.out⟩,⟨by repeat (first|(with_reducible first|exact HB.out|apply ah|apply af|apply ai|refine aj ?_ lL.out)|exact HB.out)⟩⟩
    ·
     rw [if_neg c8] at H
     have oL:decide (8 < (aT.size:Int))=false:=decide_eq_false c8
     have yt:decide (8 < aT.size)=false:=decide_eq_false (by omega)
     clear c8
     (first|rw [oL]|(simp only [bY,bZ];rw [oL])|skip)
     have H':=ae.mk H
     clear H
     have wR:w3.cell? ⟨iU,0,none⟩=some (.slice dX aY.length dW):=(ax fA.out 0).trans rfl
     have wQ:w3.cell? ⟨iU,1,none⟩=some (.string aT):=(ax fA.out 1).trans rfl
     have wP:w3.cell? ⟨iU,2,none⟩=some (.string aU):=(ax fA.out 2).trans rfl
     have wO:w3.cell? ⟨iU,3,none⟩=some (.slice fQ aI.length eH):=(ax fA.out 3).trans rfl
     have wM:=aC fA.out 0
     have wL:=aC fA.out 1
     have wK:=aC fA.out 2
     have wJ:=aC fA.out 3
     go_wp2_with (first|((with_reducible refine bu (f:=32) rfl ?_);refine dQ (some 18) rfl rfl Tryd.func32 (by kernel_rfl) rfl #[.slice dX aY.length dW,.string (aT++aU)] rfl (by (try simp only [List.map_toArray,List.map_cons,List.map_nil]);first|done|rfl|(simp only [List.length_drop,List.length_take];rfl)) ?_;(with_reducible refine (fE.calls k _ _ aY (aT++aU) true _ ?bW ?df A6.out).mono ?_);(case bW=>repeat (first|exact (Kd.bJ iq.out HB.out)|(with_reducible refine Kd.bM ?_ _)|(with_reducible refine Kd.bK ?_ _)|(with_reducible refine Kd.dB ?_)));(case df=>exact iC.out);rintro e w' ⟨rfl,⟨nd,rfl⟩⟩;refine ⟨_,rfl,?_⟩))
     go_meet
     case rel=>exact ⟨_,(decide ((aU.size:Int) > 4)),(by first|rfl|(simp;done)|(simp [*];done)),H',⟨by first|omega|exact Nat.le_refl _⟩,⟨by (with_reducible repeat (first|refine au ?_ _|refine ay ?_|refine ak ?_ _));exact fA.out⟩,⟨by repeat (first|(with_reducible first|exact HB.out|apply ah|apply af|apply ai|refine aj ?_ lL.out)|exact HB.out)⟩⟩
   ·
    replace c7:=Bool.eq_false_iff.mpr c7
    subst c7
    have H1:(bz.j0 k (aI.length:Int) true aY aT aU aI)=some (r1,r2):=by rw [if_neg (show ¬ (false=true) by decide)] at H;exact H
    clear H
    have H:=H1
    clear H1
    have H':=ae.mk H
    clear H
    have yU:w3.cell? ⟨iU,0,none⟩=some (.slice dX aY.length dW):=(ax fA.out 0).trans rfl
    have yT:w3.cell? ⟨iU,1,none⟩=some (.string aT):=(ax fA.out 1).trans rfl
    have yS:w3.cell? ⟨iU,2,none⟩=some (.string aU):=(ax fA.out 2).trans rfl
    have yR:w3.cell? ⟨iU,3,none⟩=some (.slice fQ aI.length eH):=(ax fA.out 3).trans rfl
    have yM:=aC fA.out 0
    have yL:=aC fA.out 1
    have yK:=aC fA.out 2
    have yJ:=aC fA.out 3
    go_wp2_with (first|((with_reducible refine bu (f:=32) rfl ?_);refine dQ (some 18) rfl rfl Tryd.func32 (by kernel_rfl) rfl #[.slice dX aY.length dW,.string (aT++aU)] rfl (by (try simp only [List.map_toArray,List.map_cons,List.map_nil]);first|done|rfl|(simp only [List.length_drop,List.length_take];rfl)) ?_;(with_reducible refine (fE.calls k _ _ aY (aT++aU) false _ ?bW ?df A6.out).mono ?_);(case bW=>repeat (first|exact (Kd.bJ iq.out HB.out)|(with_reducible refine Kd.bM ?_ _)|(with_reducible refine Kd.bK ?_ _)|(with_reducible refine Kd.dB ?_)));(case df=>exact iC.out);rintro e w' ⟨rfl,⟨nd,rfl⟩⟩;refine ⟨_,rfl,?_⟩))
    go_meet
    case rel=>exact ⟨_,(true),(by first|rfl|(simp;done)|(simp [*];done)),H',⟨by first|omega|exact Nat.le_refl _⟩,⟨by (with_reducible repeat (first|refine au ?_ _|refine ay ?_|refine ak ?_ _));exact fA.out⟩,⟨by repeat (first|(with_reducible first|exact HB.out|apply ah|apply af|apply ai|refine aj ?_ lL.out)|exact HB.out)⟩⟩
  ·
   rw [if_neg c5] at H
   exact absurd H (by simp)
 case rest =>
  clear HC2
  obtain ⟨kq,H8,rfl,HA,xK,fA,HB⟩:=hcut
  cases kq with
  | zero=>exact absurd HA.out (by simp [bz.j0])
  | succ MG =>
   have H:=HA.out
   clear HA
   simp only [bz.j0] at H
   by_cases c12:H8=true
   ·
    subst c12
    have H1:(some ((-1),5))=some (r1,r2):=by rw [if_pos rfl] at H;exact H
    clear H
    have H:=H1
    clear H1
    simp only [Option.some.injEq,Prod.mk.injEq] at H
    obtain ⟨rfl,rfl⟩:=H
    go_wp2
    go_ret2
    exact ⟨by first|rfl|(simp [aQ,aN] <;> rfl)|(simp [*,aQ,aN] <;> rfl),by repeat (first|(with_reducible first|exact HB.out|apply ah|apply af|apply ai|refine aj ?_ lL.out)|exact HB.out)⟩
   ·
    replace c12:=Bool.eq_false_iff.mpr c12
    subst c12
    have H1:(if (aI.length:Int) < 1 then (some ((-1),3)) else (if (aI.length:Int) > 200 then (some ((-1),3)) else (bz.l0 MG aI (aI.length:Int) 0 aY aT aU aI)))=some (r1,r2):=by rw [if_neg (show ¬ (false=true) by decide)] at H;exact H
    clear H
    have H:=H1
    clear H1
    by_cases c13:(aI.length:Int) < 1
    ·
     rw [if_pos c13] at H
     have lZ:decide ((aI.length:Int) < 1)=true:=decide_eq_true c13
     have wX:decide (aI.length < 1)=true:=decide_eq_true (by omega)
     clear c13
     simp only [Option.some.injEq,Prod.mk.injEq] at H
     obtain ⟨rfl,rfl⟩:=H
     go_wp2
     go_ret2
     exact ⟨by first|rfl|(simp [aQ,aN] <;> rfl)|(simp [*,aQ,aN] <;> rfl),by repeat (first|(with_reducible first|exact HB.out|apply ah|apply af|apply ai|refine aj ?_ lL.out)|exact HB.out)⟩
    ·
     rw [if_neg c13] at H
     have lZ:decide ((aI.length:Int) < 1)=false:=decide_eq_false c13
     have wX:decide (aI.length < 1)=false:=decide_eq_false (by omega)
     clear c13
     by_cases c14:(aI.length:Int) > 200
     ·
      rw [if_pos c14] at H
      have BL:decide (200 < (aI.length:Int))=true:=decide_eq_true c14
      have EZ:decide (200 < aI.length)=true:=decide_eq_true (by omega)
      clear c14
      simp only [Option.some.injEq,Prod.mk.injEq] at H
      obtain ⟨rfl,rfl⟩:=H
      go_wp2
      go_ret2
      exact ⟨by first|rfl|(simp [aQ,aN] <;> rfl)|(simp [*,aQ,aN] <;> rfl),by repeat (first|(with_reducible first|exact HB.out|apply ah|apply af|apply ai|refine aj ?_ lL.out)|exact HB.out)⟩
     ·
      rw [if_neg c14] at H
      have BL:decide (200 < (aI.length:Int))=false:=decide_eq_false c14
      have EZ:decide (200 < aI.length)=false:=decide_eq_false (by omega)
      clear c14
      have H':=ae.mk H
      clear H
      have Vf:wc.cell? ⟨iU,0,none⟩=some (.slice dX aY.length dW):=(ax fA.out 0).trans rfl
      have Ve:wc.cell? ⟨iU,1,none⟩=some (.string aT):=(ax fA.out 1).trans rfl
      have Vd:wc.cell? ⟨iU,2,none⟩=some (.string aU):=(ax fA.out 2).trans rfl
      have Vb:wc.cell? ⟨iU,3,none⟩=some (.slice fQ aI.length eH):=(ax fA.out 3).trans rfl
      have TA:=aC fA.out 0
      have Tz:=aC fA.out 1
      have Tv:=aC fA.out 2
      have Tu:=aC fA.out 3
      go_wp2
      go_loopg [42] MG (fun kq v42 w'=>∃ (bC:Int),v42=.int .i64 bC∧ae (bz.l0 kq aI (aI.length:Int) bC aY aT aU aI=some (r1,r2))∧ae (kq≤MG)∧ae (w'.heap[iU]? = some (.cells #[(.slice dX aY.length dW),.string aT,.string aU,(.slice fQ aI.length eH)] 25 (0,0)))∧ae (Below w.heap.size w w'))
      case atStart=>exact ⟨(0),(by first|rfl|(simp;done)|(simp [*];done)),H',⟨Nat.le_refl _⟩,⟨by (with_reducible repeat (first|refine au ?_ _|refine ay ?_|refine ak ?_ _));exact fA.out⟩,⟨by repeat (first|(with_reducible first|exact HB.out|apply ah|apply af|apply ai|refine aj ?_ lL.out)|exact HB.out)⟩⟩
      case round =>
       clear H'
       obtain ⟨bC,rfl,HA,Ap,fA,HB⟩:=hrel
       cases gk with
       | zero=>exact absurd HA.out (by simp [bz.l0])
       | succ k2 =>
        have H:=HA.out
        clear HA
        simp only [bz.l0] at H
        by_cases c16:bC < (aI.length:Int)
        ·
         rw [if_pos c16] at H
         have Ad:decide (bC < (aI.length:Int))=true:=decide_eq_true c16
         clear c16
         by_cases c17:0≤bC
         ·
          rw [if_pos c17] at H
          have xX:decide (0≤bC)=true:=decide_eq_true c17
          clear c17
          by_cases c18:bC < (aI.length:Int)
          ·
           rw [if_pos c18] at H
           have WQ:decide (bC < (aI.length:Int))=true:=decide_eq_true c18
           clear c18
           replace H:=Option.bind_eq_some_iff.mp H
           obtain ⟨t165,Fz,H⟩:=H
           replace H:(if t165=true then (if ((az aI bC).f0)=3 then (if ((az aI bC).f4) < 0 then (bz.j2 k2 bC aI (aI.length:Int) bC true aY aT aU aI ((az aI bC).f0) ((az aI bC).f1) ((az aI bC).f2) ((az aI bC).f3) ((az aI bC).f4)) else (bz.j2 k2 bC aI (aI.length:Int) bC (decide (((az aI bC).f4) > (aI.length:Int))) aY aT aU aI ((az aI bC).f0) ((az aI bC).f1) ((az aI bC).f2) ((az aI bC).f3) ((az aI bC).f4))) else (if ((az aI bC).f0)=4 then (if ((az aI bC).f4) < 0 then (bz.j2 k2 bC aI (aI.length:Int) bC true aY aT aU aI ((az aI bC).f0) ((az aI bC).f1) ((az aI bC).f2) ((az aI bC).f3) ((az aI bC).f4)) else (bz.j2 k2 bC aI (aI.length:Int) bC (decide (((az aI bC).f4) > (aI.length:Int))) aY aT aU aI ((az aI bC).f0) ((az aI bC).f1) ((az aI bC).f2) ((az aI bC).f3) ((az aI bC).f4))) else (bz.j2 k2 bC aI (aI.length:Int) bC false aY aT aU aI ((az aI bC).f0) ((az aI bC).f1) ((az aI bC).f2) ((az aI bC).f3) ((az aI bC).f4)))) else (some (bC,4)))=some (r1,r2):=H
           have PW:=ae.mk Fz
           clear Fz
           by_cases c20:t165=true
           ·
            subst c20
            have H1:(if ((az aI bC).f0)=3 then (if ((az aI bC).f4) < 0 then (bz.j2 k2 bC aI (aI.length:Int) bC true aY aT aU aI ((az aI bC).f0) ((az aI bC).f1) ((az aI bC).f2) ((az aI bC).f3) ((az aI bC).f4)) else (bz.j2 k2 bC aI (aI.length:Int) bC (decide (((az aI bC).f4) > (aI.length:Int))) aY aT aU aI ((az aI bC).f0) ((az aI bC).f1) ((az aI bC).f2) ((az aI bC).f3) ((az aI bC).f4))) else (if ((az aI bC).f0)=4 then (if ((az aI bC).f4) < 0 then (bz.j2 k2 bC aI (aI.length:Int) bC true aY aT aU aI ((az aI bC).f0) ((az aI bC).f1) ((az aI bC).f2) ((az aI bC).f3) ((az aI bC).f4)) else (bz.j2 k2 bC aI (aI.length:Int) bC (decide (((az aI bC).f4) > (aI.length:Int))) aY aT aU aI ((az aI bC).f0) ((az aI bC).f1) ((az aI bC).f2) ((az aI bC).f3) ((az aI bC).f4))) else (bz.j2 k2 bC aI (aI.length:Int) bC false aY aT aU aI ((az aI bC).f0) ((az aI bC).f1) ((az aI bC).f2) ((az aI bC).f3) ((az aI bC).f4))))=some (r1,r2):=by rw [if_pos rfl] at H;exact H
            clear H
            have H:=H1
            clear H1
            have GY:=ae.mk H
            clear H
            have FY:0≤(bC:Int):=of_decide_eq_true (by first|(with_reducible assumption)|assumption)
            have FQ:bC < (aI.length:Int):=of_decide_eq_true (by first|(with_reducible assumption)|assumption)
            obtain ⟨qi,Yt,sO,sN,sK,sJ,sH⟩:=xG jB.out bC FY FQ
            cases Yt
            replace sO:=(HB.out.cell (World.block_lt_of_cell? w _ sO)).trans sO
            replace sN:=(HB.out.cell (World.block_lt_of_cell? w _ sN)).trans sN
            replace sK:=(HB.out.cell (World.block_lt_of_cell? w _ sK)).trans sK
            replace sJ:=(HB.out.cell (World.block_lt_of_cell? w _ sJ)).trans sJ
            replace sH:=(HB.out.cell (World.block_lt_of_cell? w _ sH)).trans sH
            replace FY:=eq_true FY
            replace FQ:=eq_true FQ
            go_upto_region 11 with (first|((with_reducible refine dN (N:=6) rfl ?_);(try (refine mZ (by rfl) ?_;dsimp only));refine fB ?hg (N:=6) ?hd (cs:=#[.int .u8 0,.int .u8 0,.int .u8 0,.int .u8 0,.int .i64 0]) (t:=55) ?hr ?_;(case hd=>rfl);(case hg=>rfl);(case hr=>first|(go_simp;done)|(go_simp;rfl));intro iH hg Xp hbox hb;have dS:=ae.mk (bf (g:=iU) (o:=.cells #[.slice dX aY.length dW,.string aT,.string aU,.slice (some qi) aI.length eH] 25 (0,0)) (by (with_reducible repeat (first|refine au ?_ _|refine ay ?_|refine ak ?_ _));exact fA.out) hb);have dR:=ae.mk (bg (by repeat (first|(with_reducible first|exact HB.out|apply ah|apply af|apply ai|refine aj ?_ lL.out)|exact HB.out)) hb);have dO:=ae.mk (hbox);have gQ:=ae.mk ((by rw [hg];exact (bQ (by repeat (first|(with_reducible first|exact HB.out|apply ah|apply af|apply ai|refine aj ?_ lL.out)|exact HB.out))):w.heap.size≤iH));have lM:=gQ;have mg:=ae.mk ((by rw [hg];exact Nat.ne_of_lt (jY (g:=iU) (o:=.cells #[.slice dX aY.length dW,.string aT,.string aU,.slice (some qi) aI.length eH] 25 (0,0)) (by (with_reducible repeat (first|refine au ?_ _|refine ay ?_|refine ak ?_ _));exact fA.out)):iU ≠ iH));have nI:=ae.mk mg.out.symm;clear fA;clear HB;have fA:=dS;have HB:=dR;have eG:=dO;have acP:=gQ;have ql:=lM;have iZ:=mg;have mr:=nI;clear dS dR dO gQ lM mg nI;clear hb hbox hg;have aas:=mr.out;have aai:=iZ.out;have U0:Xp.cell? ⟨iH,0,none⟩=some (.int .u8 0):=(ax eG.out 0).trans rfl;have UZ:Xp.cell? ⟨iH,1,none⟩=some (.int .u8 0):=(ax eG.out 1).trans rfl;have UY:Xp.cell? ⟨iH,2,none⟩=some (.int .u8 0):=(ax eG.out 2).trans rfl;have UX:Xp.cell? ⟨iH,3,none⟩=some (.int .u8 0):=(ax eG.out 3).trans rfl;have UW:Xp.cell? ⟨iH,4,none⟩=some (.int .i64 0):=(ax eG.out 4).trans rfl;have SY:=aC eG.out 0;have SX:=aC eG.out 1;have SV:=aC eG.out 2;have SS:=aC eG.out 3;have SQ:=aC eG.out 4)|((with_reducible refine bu (f:=33) rfl ?_);refine dQ (some 49) rfl rfl Tryd.func33 (by kernel_rfl) rfl #[.agg #[.int .u8 ((az aI bC).f0),.int .u8 ((az aI bC).f1),.int .u8 ((az aI bC).f2),.int .u8 ((az aI bC).f3),.int .i64 ((az aI bC).f4)]] rfl (by (try simp only [List.map_toArray,List.map_cons,List.map_nil]);first|done|rfl|(simp only [List.length_drop,List.length_take];rfl)) ?_;(with_reducible refine (lV.calls ((az aI bC).f0) ((az aI bC).f1) ((az aI bC).f2) ((az aI bC).f3) ((az aI bC).f4) true _ ?bW PW.out).mono ?_);(case bW=>exact Kd.bJ wo.out (by repeat (first|(with_reducible first|exact HB.out|apply ah|apply af|apply ai|refine aj ?_ lL.out|refine aj ?_ ql.out)|exact HB.out)));rintro e qy ⟨rfl,hb⟩;refine ⟨_,rfl,?_⟩;have dS:=ae.mk (bf (g:=iU) (o:=.cells #[.slice dX aY.length dW,.string aT,.string aU,.slice (some qi) aI.length eH] 25 (0,0)) (by (with_reducible repeat (first|refine au ?_ _|refine ay ?_|refine ak ?_ _));refine fO ?_ iZ.out _;(with_reducible repeat (first|refine au ?_ _|refine ay ?_|refine ak ?_ _));refine fO ?_ iZ.out _;(with_reducible repeat (first|refine au ?_ _|refine ay ?_|refine ak ?_ _));refine fO ?_ iZ.out _;(with_reducible repeat (first|refine au ?_ _|refine ay ?_|refine ak ?_ _));refine fO ?_ iZ.out _;(with_reducible repeat (first|refine au ?_ _|refine ay ?_|refine ak ?_ _));refine fO ?_ iZ.out _;(with_reducible repeat (first|refine au ?_ _|refine ay ?_|refine ak ?_ _));exact fA.out) hb);have dR:=ae.mk (bf (g:=iH) (o:=.cells #[.int .u8 ((az aI bC).f0),.int .u8 ((az aI bC).f1),.int .u8 ((az aI bC).f2),.int .u8 ((az aI bC).f3),.int .i64 ((az aI bC).f4)] 55 (0,0)) (by (with_reducible repeat (first|refine au ?_ _|refine ay ?_|refine ak ?_ _));refine dL (cs:=#[.int .u8 ((az aI bC).f0),.int .u8 ((az aI bC).f1),.int .u8 ((az aI bC).f2),.int .u8 ((az aI bC).f3),.int .i64 0]) ?_ 4 _ rfl;(with_reducible repeat (first|refine au ?_ _|refine ay ?_|refine ak ?_ _));refine dL (cs:=#[.int .u8 ((az aI bC).f0),.int .u8 ((az aI bC).f1),.int .u8 ((az aI bC).f2),.int .u8 0,.int .i64 0]) ?_ 3 _ rfl;(with_reducible repeat (first|refine au ?_ _|refine ay ?_|refine ak ?_ _));refine dL (cs:=#[.int .u8 ((az aI bC).f0),.int .u8 ((az aI bC).f1),.int .u8 0,.int .u8 0,.int .i64 0]) ?_ 2 _ rfl;(with_reducible repeat (first|refine au ?_ _|refine ay ?_|refine ak ?_ _));refine dL (cs:=#[.int .u8 ((az aI bC).f0),.int .u8 0,.int .u8 0,.int .u8 0,.int .i64 0]) ?_ 1 _ rfl;(with_reducible repeat (first|refine au ?_ _|refine ay ?_|refine ak ?_ _));refine dL (cs:=#[.int .u8 0,.int .u8 0,.int .u8 0,.int .u8 0,.int .i64 0]) ?_ 0 _ rfl;(with_reducible repeat (first|refine au ?_ _|refine ay ?_|refine ak ?_ _));exact eG.out) hb);have dO:=ae.mk (bg (by repeat (first|(with_reducible first|exact HB.out|apply ah|apply af|apply ai|refine aj ?_ lL.out|refine aj ?_ ql.out)|exact HB.out)) hb);clear fA;clear eG;clear HB;have fA:=dS;have eG:=dR;have HB:=dO;clear dS dR dO;(try clear hb);(try clear hb2);(try clear hk);(try clear hi)))
            (try simp only [Act.put,List.setIfInBounds_toArray,List.set_cons_zero,List.set_cons_succ])
            go_cut [52] (fun v52 wc=>∃ (kq:Nat) (BV:Bool),v52=.bool BV∧ae (bz.j2 kq bC aI (aI.length:Int) bC BV aY aT aU aI ((az aI bC).f0) ((az aI bC).f1) ((az aI bC).f2) ((az aI bC).f3) ((az aI bC).f4)=some (r1,r2))∧ae (kq≤k2)∧ae (wc.heap[iU]? = some (.cells #[(.slice dX aY.length dW),.string aT,.string aU,(.slice (some qi) aI.length eH)] 25 (0,0)))∧ae (wc.heap[iH]? = some (.cells #[.int .u8 ((az aI bC).f0),.int .u8 ((az aI bC).f1),.int .u8 ((az aI bC).f2),.int .u8 ((az aI bC).f3),.int .i64 ((az aI bC).f4)] 55 (0,0)))∧ae (Below w.heap.size w wc))
            case first =>
             have H:=GY.out
             clear GY
             by_cases Gy:((az aI bC).f0)=3
             ·
              rw [if_pos Gy] at H
              have uj:(((az aI bC).f0) == 3)=true:=beq_iff_eq.mpr Gy
              have Pm:(((az aI bC).f0) != 3)=false:=bne_eq_false_iff_eq.mpr Gy
              clear Gy
              (first|rw [uj]|(simp only [bY,bZ];rw [uj])|skip)
              by_cases Zt:((az aI bC).f4) < 0
              ·
               rw [if_pos Zt] at H
               have acg:decide (((az aI bC).f4) < 0)=true:=decide_eq_true Zt
               clear Zt
               have H':=ae.mk H
               clear H
               have alR:=mr.out
               have alo:=iZ.out
               have UT:qy.cell? ⟨iH,0,none⟩=some (.int .u8 ((az aI bC).f0)):=(ax eG.out 0).trans rfl
               have UR:qy.cell? ⟨iH,1,none⟩=some (.int .u8 ((az aI bC).f1)):=(ax eG.out 1).trans rfl
               have UQ:qy.cell? ⟨iH,2,none⟩=some (.int .u8 ((az aI bC).f2)):=(ax eG.out 2).trans rfl
               have UO:qy.cell? ⟨iH,3,none⟩=some (.int .u8 ((az aI bC).f3)):=(ax eG.out 3).trans rfl
               have UN:qy.cell? ⟨iH,4,none⟩=some (.int .i64 ((az aI bC).f4)):=(ax eG.out 4).trans rfl
               have SL:=aC eG.out 0
               have SK:=aC eG.out 1
               have SI:=aC eG.out 2
               have SH:=aC eG.out 3
               have SG:=aC eG.out 4
               go_wp2
               go_meet
               case rel=>exact ⟨_,(true),(by first|rfl|(simp;done)|(simp [*];done)),H',⟨by have:=xK.out;have:=Ap.out;first|omega|exact Nat.le_refl _⟩,⟨by (with_reducible repeat (first|refine au ?_ _|refine ay ?_|refine ak ?_ _));exact fA.out⟩,⟨by (with_reducible repeat (first|refine au ?_ _|refine ay ?_|refine ak ?_ _));exact eG.out⟩,⟨by repeat (first|(with_reducible first|exact HB.out|apply ah|apply af|apply ai|refine aj ?_ lL.out|refine aj ?_ ql.out)|exact HB.out)⟩⟩
              ·
               rw [if_neg Zt] at H
               have acg:decide (((az aI bC).f4) < 0)=false:=decide_eq_false Zt
               clear Zt
               have H':=ae.mk H
               clear H
               have alP:=mr.out
               have alm:=iZ.out
               have aiO:qy.cell? ⟨iH,0,none⟩=some (.int .u8 ((az aI bC).f0)):=(ax eG.out 0).trans rfl
               have aiN:qy.cell? ⟨iH,1,none⟩=some (.int .u8 ((az aI bC).f1)):=(ax eG.out 1).trans rfl
               have aiM:qy.cell? ⟨iH,2,none⟩=some (.int .u8 ((az aI bC).f2)):=(ax eG.out 2).trans rfl
               have aiL:qy.cell? ⟨iH,3,none⟩=some (.int .u8 ((az aI bC).f3)):=(ax eG.out 3).trans rfl
               have aiK:qy.cell? ⟨iH,4,none⟩=some (.int .i64 ((az aI bC).f4)):=(ax eG.out 4).trans rfl
               have agA:=aC eG.out 0
               have agz:=aC eG.out 1
               have agy:=aC eG.out 2
               have agx:=aC eG.out 3
               have agw:=aC eG.out 4
               have aiJ:qy.cell? ⟨iU,0,none⟩=some (.slice dX aY.length dW):=(ax fA.out 0).trans rfl
               have aiI:qy.cell? ⟨iU,1,none⟩=some (.string aT):=(ax fA.out 1).trans rfl
               have aiH:qy.cell? ⟨iU,2,none⟩=some (.string aU):=(ax fA.out 2).trans rfl
               have aiG:qy.cell? ⟨iU,3,none⟩=some (.slice (some qi) aI.length eH):=(ax fA.out 3).trans rfl
               have agv:=aC fA.out 0
               have agu:=aC fA.out 1
               have agt:=aC fA.out 2
               have ags:=aC fA.out 3
               go_wp2
               go_meet
               case rel=>exact ⟨_,(decide (((az aI bC).f4) > (aI.length:Int))),(by first|rfl|(simp;done)|(simp [*];done)),H',⟨by have:=xK.out;have:=Ap.out;first|omega|exact Nat.le_refl _⟩,⟨by (with_reducible repeat (first|refine au ?_ _|refine ay ?_|refine ak ?_ _));exact fA.out⟩,⟨by (with_reducible repeat (first|refine au ?_ _|refine ay ?_|refine ak ?_ _));exact eG.out⟩,⟨by repeat (first|(with_reducible first|exact HB.out|apply ah|apply af|apply ai|refine aj ?_ lL.out|refine aj ?_ ql.out)|exact HB.out)⟩⟩
             ·
              rw [if_neg Gy] at H
              have uj:(((az aI bC).f0) == 3)=false:=beq_eq_false_iff_ne.mpr Gy
              have Pm:(((az aI bC).f0) != 3)=true:=bne_iff_ne.mpr Gy
              (first|rw [uj]|(simp only [bY,bZ];rw [uj])|skip)
              by_cases YQ:((az aI bC).f0)=4
              ·
               rw [if_pos YQ] at H
               have aca:(((az aI bC).f0) == 4)=true:=beq_iff_eq.mpr YQ
               have ab9:(((az aI bC).f0) != 4)=false:=bne_eq_false_iff_eq.mpr YQ
               clear YQ
               by_cases c34:((az aI bC).f4) < 0
               ·
                rw [if_pos c34] at H
                have Ph:decide (((az aI bC).f4) < 0)=true:=decide_eq_true c34
                clear c34
                have H':=ae.mk H
                clear H
                have alM:=mr.out
                have ali:=iZ.out
                have UL:qy.cell? ⟨iH,0,none⟩=some (.int .u8 ((az aI bC).f0)):=(ax eG.out 0).trans rfl
                have UK:qy.cell? ⟨iH,1,none⟩=some (.int .u8 ((az aI bC).f1)):=(ax eG.out 1).trans rfl
                have UJ:qy.cell? ⟨iH,2,none⟩=some (.int .u8 ((az aI bC).f2)):=(ax eG.out 2).trans rfl
                have UI:qy.cell? ⟨iH,3,none⟩=some (.int .u8 ((az aI bC).f3)):=(ax eG.out 3).trans rfl
                have UH:qy.cell? ⟨iH,4,none⟩=some (.int .i64 ((az aI bC).f4)):=(ax eG.out 4).trans rfl
                have SC:=aC eG.out 0
                have SB:=aC eG.out 1
                have SA:=aC eG.out 2
                have Sz:=aC eG.out 3
                have Sv:=aC eG.out 4
                go_wp2
                go_meet
                case rel=>exact ⟨_,(true),(by first|rfl|(simp;done)|(simp [*];done)),H',⟨by have:=xK.out;have:=Ap.out;first|omega|exact Nat.le_refl _⟩,⟨by (with_reducible repeat (first|refine au ?_ _|refine ay ?_|refine ak ?_ _));exact fA.out⟩,⟨by (with_reducible repeat (first|refine au ?_ _|refine ay ?_|refine ak ?_ _));exact eG.out⟩,⟨by repeat (first|(with_reducible first|exact HB.out|apply ah|apply af|apply ai|refine aj ?_ lL.out|refine aj ?_ ql.out)|exact HB.out)⟩⟩
               ·
                rw [if_neg c34] at H
                have Ph:decide (((az aI bC).f4) < 0)=false:=decide_eq_false c34
                clear c34
                have H':=ae.mk H
                clear H
                have alL:=mr.out
                have alh:=iZ.out
                have aiA:qy.cell? ⟨iH,0,none⟩=some (.int .u8 ((az aI bC).f0)):=(ax eG.out 0).trans rfl
                have aiz:qy.cell? ⟨iH,1,none⟩=some (.int .u8 ((az aI bC).f1)):=(ax eG.out 1).trans rfl
                have aiy:qy.cell? ⟨iH,2,none⟩=some (.int .u8 ((az aI bC).f2)):=(ax eG.out 2).trans rfl
                have aix:qy.cell? ⟨iH,3,none⟩=some (.int .u8 ((az aI bC).f3)):=(ax eG.out 3).trans rfl
                have aiw:qy.cell? ⟨iH,4,none⟩=some (.int .i64 ((az aI bC).f4)):=(ax eG.out 4).trans rfl
                have agl:=aC eG.out 0
                have agk:=aC eG.out 1
                have agj:=aC eG.out 2
                have agi:=aC eG.out 3
                have agh:=aC eG.out 4
                have UG:qy.cell? ⟨iU,0,none⟩=some (.slice dX aY.length dW):=(ax fA.out 0).trans rfl
                have UF:qy.cell? ⟨iU,1,none⟩=some (.string aT):=(ax fA.out 1).trans rfl
                have UE:qy.cell? ⟨iU,2,none⟩=some (.string aU):=(ax fA.out 2).trans rfl
                have UD:qy.cell? ⟨iU,3,none⟩=some (.slice (some qi) aI.length eH):=(ax fA.out 3).trans rfl
                have Su:=aC fA.out 0
                have Sr:=aC fA.out 1
                have Sm:=aC fA.out 2
                have Sl:=aC fA.out 3
                go_wp2
                go_meet
                case rel=>exact ⟨_,(decide (((az aI bC).f4) > (aI.length:Int))),(by first|rfl|(simp;done)|(simp [*];done)),H',⟨by have:=xK.out;have:=Ap.out;first|omega|exact Nat.le_refl _⟩,⟨by (with_reducible repeat (first|refine au ?_ _|refine ay ?_|refine ak ?_ _));exact fA.out⟩,⟨by (with_reducible repeat (first|refine au ?_ _|refine ay ?_|refine ak ?_ _));exact eG.out⟩,⟨by repeat (first|(with_reducible first|exact HB.out|apply ah|apply af|apply ai|refine aj ?_ lL.out|refine aj ?_ ql.out)|exact HB.out)⟩⟩
              ·
               rw [if_neg YQ] at H
               have aca:(((az aI bC).f0) == 4)=false:=beq_eq_false_iff_ne.mpr YQ
               have ab9:(((az aI bC).f0) != 4)=true:=bne_iff_ne.mpr YQ
               have H':=ae.mk H
               clear H
               have alI:=mr.out
               have ale:=iZ.out
               have aip:qy.cell? ⟨iH,0,none⟩=some (.int .u8 ((az aI bC).f0)):=(ax eG.out 0).trans rfl
               have aio:qy.cell? ⟨iH,1,none⟩=some (.int .u8 ((az aI bC).f1)):=(ax eG.out 1).trans rfl
               have ain:qy.cell? ⟨iH,2,none⟩=some (.int .u8 ((az aI bC).f2)):=(ax eG.out 2).trans rfl
               have aim:qy.cell? ⟨iH,3,none⟩=some (.int .u8 ((az aI bC).f3)):=(ax eG.out 3).trans rfl
               have ail:qy.cell? ⟨iH,4,none⟩=some (.int .i64 ((az aI bC).f4)):=(ax eG.out 4).trans rfl
               have af9:=aC eG.out 0
               have af8:=aC eG.out 1
               have af7:=aC eG.out 2
               have af6:=aC eG.out 3
               have af5:=aC eG.out 4
               go_wp2
               go_meet
               case rel=>exact ⟨_,(false),(by first|rfl|(simp;done)|(simp [*];done)),H',⟨by have:=xK.out;have:=Ap.out;first|omega|exact Nat.le_refl _⟩,⟨by (with_reducible repeat (first|refine au ?_ _|refine ay ?_|refine ak ?_ _));exact fA.out⟩,⟨by (with_reducible repeat (first|refine au ?_ _|refine ay ?_|refine ak ?_ _));exact eG.out⟩,⟨by repeat (first|(with_reducible first|exact HB.out|apply ah|apply af|apply ai|refine aj ?_ lL.out|refine aj ?_ ql.out)|exact HB.out)⟩⟩
            case rest =>
             clear GY
             obtain ⟨kq,BV,rfl,HA,Fj,fA,eG,HB⟩:=hcut
             cases kq with
             | zero=>exact absurd HA.out (by simp [bz.j2])
             | succ ru =>
              have H:=HA.out
              clear HA
              simp only [bz.j2] at H
              by_cases c42:BV=true
              ·
               subst c42
               have H1:(some (bC,12))=some (r1,r2):=by rw [if_pos rfl] at H;exact H
               clear H
               have H:=H1
               clear H1
               simp only [Option.some.injEq,Prod.mk.injEq] at H
               obtain ⟨rfl,rfl⟩:=H
               go_wp2
               go_ret2
               exact ⟨by first|rfl|(simp [aQ,aN] <;> rfl)|(simp [*,aQ,aN] <;> rfl),by repeat (first|(with_reducible first|exact HB.out|apply ah|apply af|apply ai|refine aj ?_ lL.out|refine aj ?_ ql.out)|exact HB.out)⟩
              ·
               replace c42:=Bool.eq_false_iff.mpr c42
               subst c42
               have H1:((bP.f ru aY aT aU aI ((az aI bC).f0) ((az aI bC).f1) ((az aI bC).f2) ((az aI bC).f3) ((az aI bC).f4)).bind fun t166=>(if t166=true then (bz.l0 ru aI (aI.length:Int) (wrap64 (bC+1)) aY aT aU aI) else (some (bC,5))))=some (r1,r2):=by rw [if_neg (show ¬ (false=true) by decide)] at H;exact H
               clear H
               have H:=H1
               clear H1
               replace H:=Option.bind_eq_some_iff.mp H
               obtain ⟨t166,adp,H⟩:=H
               replace H:(if t166=true then (bz.l0 ru aI (aI.length:Int) (wrap64 (bC+1)) aY aT aU aI) else (some (bC,5)))=some (r1,r2):=H
               have A43:=ae.mk adp
               clear adp
               by_cases VJ:t166=true
               ·
                subst VJ
                have H1:(bz.l0 ru aI (aI.length:Int) (wrap64 (bC+1)) aY aT aU aI)=some (r1,r2):=by rw [if_pos rfl] at H;exact H
                clear H
                have H:=H1
                clear H1
                have H':=ae.mk H
                clear H
                have aaq:=iZ.out
                have aag:=mr.out
                have aie:wc.cell? ⟨iU,0,none⟩=some (.slice dX aY.length dW):=(ax fA.out 0).trans rfl
                have aid:wc.cell? ⟨iU,1,none⟩=some (.string aT):=(ax fA.out 1).trans rfl
                have aic:wc.cell? ⟨iU,2,none⟩=some (.string aU):=(ax fA.out 2).trans rfl
                have aib:wc.cell? ⟨iU,3,none⟩=some (.slice (some qi) aI.length eH):=(ax fA.out 3).trans rfl
                have afY:=aC fA.out 0
                have afX:=aC fA.out 1
                have afW:=aC fA.out 2
                have afV:=aC fA.out 3
                have Jr:wc.cell? ⟨iH,0,none⟩=some (.int .u8 ((az aI bC).f0)):=(ax eG.out 0).trans rfl
                have Jq:wc.cell? ⟨iH,1,none⟩=some (.int .u8 ((az aI bC).f1)):=(ax eG.out 1).trans rfl
                have Jp:wc.cell? ⟨iH,2,none⟩=some (.int .u8 ((az aI bC).f2)):=(ax eG.out 2).trans rfl
                have Jo:wc.cell? ⟨iH,3,none⟩=some (.int .u8 ((az aI bC).f3)):=(ax eG.out 3).trans rfl
                have Jn:wc.cell? ⟨iH,4,none⟩=some (.int .i64 ((az aI bC).f4)):=(ax eG.out 4).trans rfl
                have II:=aC eG.out 0
                have IG:=aC eG.out 1
                have IE:=aC eG.out 2
                have IC:=aC eG.out 3
                have IB:=aC eG.out 4
                go_wp2_with (first|((with_reducible refine bu (f:=34) rfl ?_);refine dQ (some 78) rfl rfl Tryd.func34 (by kernel_rfl) rfl #[.agg #[.slice dX aY.length dW,.string aT,.string aU,.slice (some qi) aI.length eH],.agg #[.int .u8 ((az aI bC).f0),.int .u8 ((az aI bC).f1),.int .u8 ((az aI bC).f2),.int .u8 ((az aI bC).f3),.int .i64 ((az aI bC).f4)]] rfl (by (try simp only [List.map_toArray,List.map_cons,List.map_nil]);first|done|rfl|(simp only [List.length_drop,List.length_take];rfl)) ?_;(with_reducible refine (bP.calls ru _ _ aY aT aU _ _ aI ((az aI bC).f0) ((az aI bC).f1) ((az aI bC).f2) ((az aI bC).f3) ((az aI bC).f4) true _ ?bW ?df ?iM ?iL A43.out).mono ?_);(case bW=>repeat (first|exact (Kd.bJ iq.out HB.out)|(with_reducible refine Kd.bM ?_ _)|(with_reducible refine Kd.bK ?_ _)|(with_reducible refine Kd.dB ?_)));(case df=>exact iC.out);(case iM=>repeat (first|exact (Kd.bJ jB.out HB.out)|(with_reducible refine Kd.bM ?_ _)|(with_reducible refine Kd.bK ?_ _)|(with_reducible refine Kd.dB ?_)));(case iL=>exact jS.out);rintro e w48 ⟨rfl,hb⟩;refine ⟨_,rfl,?_⟩;have dS:=ae.mk (bf (g:=iU) (o:=.cells #[.slice dX aY.length dW,.string aT,.string aU,.slice (some qi) aI.length eH] 25 (0,0)) (by (with_reducible repeat (first|refine au ?_ _|refine ay ?_|refine ak ?_ _));exact fA.out) hb);have dR:=ae.mk (bf (g:=iH) (o:=.cells #[.int .u8 ((az aI bC).f0),.int .u8 ((az aI bC).f1),.int .u8 ((az aI bC).f2),.int .u8 ((az aI bC).f3),.int .i64 ((az aI bC).f4)] 55 (0,0)) (by (with_reducible repeat (first|refine au ?_ _|refine ay ?_|refine ak ?_ _));exact eG.out) hb);have dO:=ae.mk (bg (by repeat (first|(with_reducible first|exact HB.out|apply ah|apply af|apply ai|refine aj ?_ lL.out|refine aj ?_ ql.out)|exact HB.out)) hb);clear fA;clear eG;clear HB;have fA:=dS;have eG:=dR;have HB:=dO;clear dS dR dO;(try clear hb);(try clear hb2);(try clear hk);(try clear hi)))
                go_roundg ru
                case measure=>have:=xK.out;have:=Ap.out;have:=Fj.out;omega
                case rel=>exact ⟨(wrap64 (bC+1)),(by first|rfl|(simp;done)|(simp [*];done)),H',⟨by have:=xK.out;have:=Ap.out;have:=Fj.out;omega⟩,⟨by (with_reducible repeat (first|refine au ?_ _|refine ay ?_|refine ak ?_ _));exact fA.out⟩,⟨by repeat (first|(with_reducible first|exact HB.out|apply ah|apply af|apply ai|refine aj ?_ lL.out|refine aj ?_ ql.out)|exact HB.out)⟩⟩
               ·
                replace VJ:=Bool.eq_false_iff.mpr VJ
                subst VJ
                have H1:(some (bC,5))=some (r1,r2):=by rw [if_neg (show ¬ (false=true) by decide)] at H;exact H
                clear H
                have H:=H1
                clear H1
                simp only [Option.some.injEq,Prod.mk.injEq] at H
                obtain ⟨rfl,rfl⟩:=H
                have aao:=iZ.out
                have aae:=mr.out
                have Ux:wc.cell? ⟨iU,0,none⟩=some (.slice dX aY.length dW):=(ax fA.out 0).trans rfl
                have Uw:wc.cell? ⟨iU,1,none⟩=some (.string aT):=(ax fA.out 1).trans rfl
                have Uu:wc.cell? ⟨iU,2,none⟩=some (.string aU):=(ax fA.out 2).trans rfl
                have Ut:wc.cell? ⟨iU,3,none⟩=some (.slice (some qi) aI.length eH):=(ax fA.out 3).trans rfl
                have RV:=aC fA.out 0
                have RU:=aC fA.out 1
                have RS:=aC fA.out 2
                have RQ:=aC fA.out 3
                have Us:wc.cell? ⟨iH,0,none⟩=some (.int .u8 ((az aI bC).f0)):=(ax eG.out 0).trans rfl
                have Ur:wc.cell? ⟨iH,1,none⟩=some (.int .u8 ((az aI bC).f1)):=(ax eG.out 1).trans rfl
                have Uo:wc.cell? ⟨iH,2,none⟩=some (.int .u8 ((az aI bC).f2)):=(ax eG.out 2).trans rfl
                have Un:wc.cell? ⟨iH,3,none⟩=some (.int .u8 ((az aI bC).f3)):=(ax eG.out 3).trans rfl
                have ah9:wc.cell? ⟨iH,4,none⟩=some (.int .i64 ((az aI bC).f4)):=(ax eG.out 4).trans rfl
                have RP:=aC eG.out 0
                have RN:=aC eG.out 1
                have RJ:=aC eG.out 2
                have RI:=aC eG.out 3
                have afT:=aC eG.out 4
                go_wp2_with (first|((with_reducible refine bu (f:=34) rfl ?_);refine dQ (some 78) rfl rfl Tryd.func34 (by kernel_rfl) rfl #[.agg #[.slice dX aY.length dW,.string aT,.string aU,.slice (some qi) aI.length eH],.agg #[.int .u8 ((az aI bC).f0),.int .u8 ((az aI bC).f1),.int .u8 ((az aI bC).f2),.int .u8 ((az aI bC).f3),.int .i64 ((az aI bC).f4)]] rfl (by (try simp only [List.map_toArray,List.map_cons,List.map_nil]);first|done|rfl|(simp only [List.length_drop,List.length_take];rfl)) ?_;(with_reducible refine (bP.calls ru _ _ aY aT aU _ _ aI ((az aI bC).f0) ((az aI bC).f1) ((az aI bC).f2) ((az aI bC).f3) ((az aI bC).f4) false _ ?bW ?df ?iM ?iL A43.out).mono ?_);(case bW=>repeat (first|exact (Kd.bJ iq.out HB.out)|(with_reducible refine Kd.bM ?_ _)|(with_reducible refine Kd.bK ?_ _)|(with_reducible refine Kd.dB ?_)));(case df=>exact iC.out);(case iM=>repeat (first|exact (Kd.bJ jB.out HB.out)|(with_reducible refine Kd.bM ?_ _)|(with_reducible refine Kd.bK ?_ _)|(with_reducible refine Kd.dB ?_)));(case iL=>exact jS.out);rintro e w52 ⟨rfl,hb⟩;refine ⟨_,rfl,?_⟩;have dS:=ae.mk (bf (g:=iU) (o:=.cells #[.slice dX aY.length dW,.string aT,.string aU,.slice (some qi) aI.length eH] 25 (0,0)) (by (with_reducible repeat (first|refine au ?_ _|refine ay ?_|refine ak ?_ _));exact fA.out) hb);have dR:=ae.mk (bf (g:=iH) (o:=.cells #[.int .u8 ((az aI bC).f0),.int .u8 ((az aI bC).f1),.int .u8 ((az aI bC).f2),.int .u8 ((az aI bC).f3),.int .i64 ((az aI bC).f4)] 55 (0,0)) (by (with_reducible repeat (first|refine au ?_ _|refine ay ?_|refine ak ?_ _));exact eG.out) hb);have dO:=ae.mk (bg (by repeat (first|(with_reducible first|exact HB.out|apply ah|apply af|apply ai|refine aj ?_ lL.out|refine aj ?_ ql.out)|exact HB.out)) hb);clear fA;clear eG;clear HB;have fA:=dS;have eG:=dR;have HB:=dO;clear dS dR dO;(try clear hb);(try clear hb2);(try clear hk);(try clear hi)))
                go_ret2
                exact ⟨by first|rfl|(simp [aQ,aN] <;> rfl)|(simp [*,aQ,aN] <;> rfl),by repeat (first|(with_reducible first|exact HB.out|apply ah|apply af|apply ai|refine aj ?_ lL.out|refine aj ?_ ql.out)|exact HB.out)⟩
           ·
            replace c20:=Bool.eq_false_iff.mpr c20
            subst c20
            have H1:(some (bC,4))=some (r1,r2):=by rw [if_neg (show ¬ (false=true) by decide)] at H;exact H
            clear H
            have H:=H1
            clear H1
            simp only [Option.some.injEq,Prod.mk.injEq] at H
            obtain ⟨rfl,rfl⟩:=H
            have FY:0≤(bC:Int):=of_decide_eq_true (by first|(with_reducible assumption)|assumption)
            have FQ:bC < (aI.length:Int):=of_decide_eq_true (by first|(with_reducible assumption)|assumption)
            obtain ⟨qi,Yt,sO,sN,sK,sJ,sH⟩:=xG jB.out bC FY FQ
            cases Yt
            replace sO:=(HB.out.cell (World.block_lt_of_cell? w _ sO)).trans sO
            replace sN:=(HB.out.cell (World.block_lt_of_cell? w _ sN)).trans sN
            replace sK:=(HB.out.cell (World.block_lt_of_cell? w _ sK)).trans sK
            replace sJ:=(HB.out.cell (World.block_lt_of_cell? w _ sJ)).trans sJ
            replace sH:=(HB.out.cell (World.block_lt_of_cell? w _ sH)).trans sH
            replace FY:=eq_true FY
            replace FQ:=eq_true FQ
            go_wp2_with (first|((with_reducible refine dN (N:=6) rfl ?_);(try (refine mZ (by rfl) ?_;dsimp only));refine fB ?hg (N:=6) ?hd (cs:=#[.int .u8 0,.int .u8 0,.int .u8 0,.int .u8 0,.int .i64 0]) (t:=55) ?hr ?_;(case hd=>rfl);(case hg=>rfl);(case hr=>first|(go_simp;done)|(go_simp;rfl));intro iH hg Zk hbox hb;have dS:=ae.mk (bf (g:=iU) (o:=.cells #[.slice dX aY.length dW,.string aT,.string aU,.slice (some qi) aI.length eH] 25 (0,0)) (by (with_reducible repeat (first|refine au ?_ _|refine ay ?_|refine ak ?_ _));exact fA.out) hb);have dR:=ae.mk (bg (by repeat (first|(with_reducible first|exact HB.out|apply ah|apply af|apply ai|refine aj ?_ lL.out)|exact HB.out)) hb);have dO:=ae.mk (hbox);have gQ:=ae.mk ((by rw [hg];exact (bQ (by repeat (first|(with_reducible first|exact HB.out|apply ah|apply af|apply ai|refine aj ?_ lL.out)|exact HB.out))):w.heap.size≤iH));have lM:=gQ;have mg:=ae.mk ((by rw [hg];exact Nat.ne_of_lt (jY (g:=iU) (o:=.cells #[.slice dX aY.length dW,.string aT,.string aU,.slice (some qi) aI.length eH] 25 (0,0)) (by (with_reducible repeat (first|refine au ?_ _|refine ay ?_|refine ak ?_ _));exact fA.out)):iU ≠ iH));have nI:=ae.mk mg.out.symm;clear fA;clear HB;have fA:=dS;have HB:=dR;have eG:=dO;have acP:=gQ;have ql:=lM;have iZ:=mg;have mr:=nI;clear dS dR dO gQ lM mg nI;clear hb hbox hg;have alE:=mr.out;have ala:=iZ.out;have ah2:Zk.cell? ⟨iH,0,none⟩=some (.int .u8 0):=(ax eG.out 0).trans rfl;have ah1:Zk.cell? ⟨iH,1,none⟩=some (.int .u8 0):=(ax eG.out 1).trans rfl;have ah0:Zk.cell? ⟨iH,2,none⟩=some (.int .u8 0):=(ax eG.out 2).trans rfl;have ahZ:Zk.cell? ⟨iH,3,none⟩=some (.int .u8 0):=(ax eG.out 3).trans rfl;have ahY:Zk.cell? ⟨iH,4,none⟩=some (.int .i64 0):=(ax eG.out 4).trans rfl;have afM:=aC eG.out 0;have afL:=aC eG.out 1;have afK:=aC eG.out 2;have afJ:=aC eG.out 3;have afI:=aC eG.out 4)|((with_reducible refine bu (f:=33) rfl ?_);refine dQ (some 49) rfl rfl Tryd.func33 (by kernel_rfl) rfl #[.agg #[.int .u8 ((az aI bC).f0),.int .u8 ((az aI bC).f1),.int .u8 ((az aI bC).f2),.int .u8 ((az aI bC).f3),.int .i64 ((az aI bC).f4)]] rfl (by (try simp only [List.map_toArray,List.map_cons,List.map_nil]);first|done|rfl|(simp only [List.length_drop,List.length_take];rfl)) ?_;(with_reducible refine (lV.calls ((az aI bC).f0) ((az aI bC).f1) ((az aI bC).f2) ((az aI bC).f3) ((az aI bC).f4) false _ ?bW PW.out).mono ?_);(case bW=>exact Kd.bJ wo.out (by repeat (first|(with_reducible first|exact HB.out|apply ah|apply af|apply ai|refine aj ?_ lL.out|refine aj ?_ ql.out)|exact HB.out)));rintro e w56 ⟨rfl,hb⟩;refine ⟨_,rfl,?_⟩;have dS:=ae.mk (bf (g:=iU) (o:=.cells #[.slice dX aY.length dW,.string aT,.string aU,.slice (some qi) aI.length eH] 25 (0,0)) (by (with_reducible repeat (first|refine au ?_ _|refine ay ?_|refine ak ?_ _));refine fO ?_ iZ.out _;(with_reducible repeat (first|refine au ?_ _|refine ay ?_|refine ak ?_ _));refine fO ?_ iZ.out _;(with_reducible repeat (first|refine au ?_ _|refine ay ?_|refine ak ?_ _));refine fO ?_ iZ.out _;(with_reducible repeat (first|refine au ?_ _|refine ay ?_|refine ak ?_ _));refine fO ?_ iZ.out _;(with_reducible repeat (first|refine au ?_ _|refine ay ?_|refine ak ?_ _));refine fO ?_ iZ.out _;(with_reducible repeat (first|refine au ?_ _|refine ay ?_|refine ak ?_ _));exact fA.out) hb);have dR:=ae.mk (bf (g:=iH) (o:=.cells #[.int .u8 ((az aI bC).f0),.int .u8 ((az aI bC).f1),.int .u8 ((az aI bC).f2),.int .u8 ((az aI bC).f3),.int .i64 ((az aI bC).f4)] 55 (0,0)) (by (with_reducible repeat (first|refine au ?_ _|refine ay ?_|refine ak ?_ _));refine dL (cs:=#[.int .u8 ((az aI bC).f0),.int .u8 ((az aI bC).f1),.int .u8 ((az aI bC).f2),.int .u8 ((az aI bC).f3),.int .i64 0]) ?_ 4 _ rfl;(with_reducible repeat (first|refine au ?_ _|refine ay ?_|refine ak ?_ _));refine dL (cs:=#[.int .u8 ((az aI bC).f0),.int .u8 ((az aI bC).f1),.int .u8 ((az aI bC).f2),.int .u8 0,.int .i64 0]) ?_ 3 _ rfl;(with_reducible repeat (first|refine au ?_ _|refine ay ?_|refine ak ?_ _));refine dL (cs:=#[.int .u8 ((az aI bC).f0),.int .u8 ((az aI bC).f1),.int .u8 0,.int .u8 0,.int .i64 0]) ?_ 2 _ rfl;(with_reducible repeat (first|refine au ?_ _|refine ay ?_|refine ak ?_ _));refine dL (cs:=#[.int .u8 ((az aI bC).f0),.int .u8 0,.int .u8 0,.int .u8 0,.int .i64 0]) ?_ 1 _ rfl;(with_reducible repeat (first|refine au ?_ _|refine ay ?_|refine ak ?_ _));refine dL (cs:=#[.int .u8 0,.int .u8 0,.int .u8 0,.int .u8 0,.int .i64 0]) ?_ 0 _ rfl;(with_reducible repeat (first|refine au ?_ _|refine ay ?_|refine ak ?_ _));exact eG.out) hb);have dO:=ae.mk (bg (by repeat (first|(with_reducible first|exact HB.out|apply ah|apply af|apply ai|refine aj ?_ lL.out|refine aj ?_ ql.out)|exact HB.out)) hb);clear fA;clear eG;clear HB;have fA:=dS;have eG:=dR;have HB:=dO;clear dS dR dO;(try clear hb);(try clear hb2);(try clear hk);(try clear hi)))
            go_ret2
            exact ⟨by first|rfl|(simp [aQ,aN] <;> rfl)|(simp [*,aQ,aN] <;> rfl),by repeat (first|(with_reducible first|exact HB.out|apply ah|apply af|apply ai|refine aj ?_ lL.out|refine aj ?_ ql.out)|exact HB.out)⟩
          ·
           rw [if_neg c18] at H
           exact absurd H (by simp)
         ·
          rw [if_neg c17] at H
          exact absurd H (by simp)
        ·
         rw [if_neg c16] at H
         have Ad:decide (bC < (aI.length:Int))=false:=decide_eq_false c16
         clear c16
         simp only [Option.some.injEq,Prod.mk.injEq] at H
         obtain ⟨rfl,rfl⟩:=H
         go_wp2
         go_ret2
         exact ⟨by first|rfl|(simp [aQ,aN] <;> rfl)|(simp [*,aQ,aN] <;> rfl),by repeat (first|(with_reducible first|exact HB.out|apply ah|apply af|apply ai|refine aj ?_ lL.out)|exact HB.out)⟩
end Go.Proofs.YtlemecdddhdagaaDoor.P
end
section
namespace Go.Proofs.YtlemecdddhdagaaDoor.P
open Go.RowKit Go.Proofs.ag.bH Go.Proofs.ag.dM Go.Proofs.ag.dY
def qI (x:gY):Bool:=if x.f0 < 1 then false else if x.f0 > 15 then false else
  ((hasB x.f0 98 || x.f2 == 0) && (hasB x.f0 99 || x.f3 == 0) && (hasB x.f0 110 || x.f4 == 0) && (hasB x.f0 97 || x.f1 == 0))
theorem Nl (x:gY):lV.f x.f0 x.f1 x.f2 x.f3 x.f4=some (qI x):=by
  unfold lV.f qI
  split
  · rfl
  · split <;> rfl
def qK (x:gY):Bool:=x.f0 == 3 || x.f0 == 4
def qf (t:List ByteArray) (lo gl:ByteArray) (x:gY):Bool:=nJ t lo gl x.f0 x.f1 x.f2 x.f3 x.f4
def nT (t:List ByteArray) (lo gl:ByteArray) (n:Nat) (x:gY):Option Int :=
  if qI x=true then (if (qK x && (decide (x.f4 < 0) || decide (x.f4 > n)))=true then some 12 else if qf t lo gl x=true then none else some 5) else some 4
def headB (t:List ByteArray) (lo gl:ByteArray):Bool:=qJ t (lo++gl) && (decide (lo.size≤8) && decide (gl.size≤4))
def vz (t:List ByteArray) (lo gl:ByteArray) (code:List gY):Int × Int :=
  scan (fun i=>(nT t lo gl code.length (code.getD i z55)).map fun e=>((i:Int),e)) (-1,0) code.length 0
def oD (t:List ByteArray) (lo gl:ByteArray) (code:List gY):Int × Int :=
  if headB t lo gl=true then (if 1≤code.length∧code.length≤200 then vz t lo gl code else (-1,3)) else (-1,5)
def Wf (code:List gY):Prop:=∀ i:Nat,(0≤(code.getD i z55).f1∧(code.getD i z55).f1≤255)∧(0≤(code.getD i z55).f2∧(code.getD i z55).f2≤255)∧(0≤(code.getD i z55).f3∧(code.getD i z55).f3≤255)
theorem Gu (t:List ByteArray) (lo gl:ByteArray) (code:List gY) (ht:t.length≤9223372036854775807) (hn:code.length≤9223372036854775807) (hw:Wf code) :
    Ev (fun k=>bz.l0 k code code.length 0 t lo gl code) (vz t lo gl code):=by
  have XD:∀ i:Nat,az code (i:Int)=code.getD i z55:=fun i=>rfl
  have j2:∀ (i:Nat) (x:Bool) (r r':Int × Int),i < code.length→(x=false→qf t lo gl (code.getD i z55)=true→Ev (fun k=>bz.l0 k code code.length ((i+1:Nat):Int) t lo gl code) r) →
      r'=(if x=true then ((i:Int),12) else if qf t lo gl (code.getD i z55)=true then r else ((i:Int),5)) →
      Ev (fun k=>bz.j2 k (i:Int) code code.length (i:Int) x t lo gl code (code.getD i z55).f0 (code.getD i z55).f1 (code.getD i z55).f2 (code.getD i z55).f3 (code.getD i z55).f4) r':=by
    intro i x r r' hi hr e
    rw [e]
    refine Ev.step (fun k=>by simp only [bz.j2];rfl) ?_
    refine Ev.ite (fun _=>Ev.now _) fun hx=>?_
    refine Ev.bind (QO t lo gl code _ _ _ _ _ ht (hw i).1 (hw i).2.1 (hw i).2.2) ?_
    refine Ev.ite (fun h=>?_) (fun _=>Ev.now _)
    rw [wrapN hi hn]
    exact hr (by simpa using hx) h
  have place:∀ (i:Nat) (r r':Int × Int),i < code.length→(nT t lo gl code.length (code.getD i z55)=none→Ev (fun k=>bz.l0 k code code.length ((i+1:Nat):Int) t lo gl code) r) →
      r'=(match nT t lo gl code.length (code.getD i z55) with|some e=>((i:Int),e)|none=>r) →
      Ev (fun k=>bz.l0 k code code.length (i:Int) t lo gl code) r':=by
    intro i r r' hi hr e
    rw [e]
    generalize hx:code.getD i z55=x at *
    refine Ev.step (f:=fun k=>(lV.f x.f0 x.f1 x.f2 x.f3 x.f4).bind fun t165=>(if t165=true then (if x.f0=3 then (if x.f4 < 0 then (bz.j2 k i code code.length i true t lo gl code x.f0 x.f1 x.f2 x.f3 x.f4) else (bz.j2 k i code code.length i (decide (x.f4 > (code.length:Int))) t lo gl code x.f0 x.f1 x.f2 x.f3 x.f4)) else (if x.f0=4 then (if x.f4 < 0 then (bz.j2 k i code code.length i true t lo gl code x.f0 x.f1 x.f2 x.f3 x.f4) else (bz.j2 k i code code.length i (decide (x.f4 > (code.length:Int))) t lo gl code x.f0 x.f1 x.f2 x.f3 x.f4)) else (bz.j2 k i code code.length i false t lo gl code x.f0 x.f1 x.f2 x.f3 x.f4))) else (some ((i:Int),4)))) (fun k=>?_) ?_
    · simp only [bz.l0]
      rw [if_pos (by omega),if_pos (by omega),if_pos (by omega),XD,hx]
    · rw [Nl]
      simp only [Option.bind_some]
      by_cases h1:qI x=true
      · refine Ev.congr (fun k=>if_pos h1) ?_
        have J:∀ b r0,nT t lo gl code.length x=(if b=true then some 12 else if qf t lo gl x=true then none else some 5)→r0=(match nT t lo gl code.length x with|some e=>((i:Int),e)|none=>r)→Ev (fun k=>bz.j2 k i code code.length i b t lo gl code x.f0 x.f1 x.f2 x.f3 x.f4) r0:=by
          intro b r0 hb e0
          have:=j2 i b r r0 hi (fun hbf hk=>by
            refine hr ?_
            rw [hx] at hk
            rw [hb,hbf,if_neg (by decide),if_pos hk]) (by
              rw [e0,hb,hx]
              cases b
              · cases qf t lo gl x <;> rfl
              · rfl)
          rw [hx] at this
          exact this
        have hbad:∀ b,(qK x && (decide (x.f4 < 0) || decide (x.f4 > code.length)))=b→nT t lo gl code.length x=(if b=true then some 12 else if qf t lo gl x=true then none else some 5):=by
          intro b hb
          unfold nT
          rw [if_pos h1,hb]
        by_cases h3:x.f0=3
        · refine Ev.congr (fun k=>if_pos h3) ?_
          by_cases h4:x.f4 < 0
          · exact Ev.congr (fun k=>if_pos h4) (J true _ (hbad true (by simp [qK,h3,h4])) rfl)
          · exact Ev.congr (fun k=>if_neg h4) (J _ _ (hbad _ (by simp [qK,h3,h4])) rfl)
        · refine Ev.congr (fun k=>if_neg h3) ?_
          by_cases h5:x.f0=4
          · refine Ev.congr (fun k=>if_pos h5) ?_
            by_cases h4:x.f4 < 0
            · exact Ev.congr (fun k=>if_pos h4) (J true _ (hbad true (by simp [qK,h5,h4])) rfl)
            · exact Ev.congr (fun k=>if_neg h4) (J _ _ (hbad _ (by simp [qK,h5,h4])) rfl)
          · exact Ev.congr (fun k=>if_neg h5) (J false _ (hbad false (by simp [qK,h3,h5])) rfl)
      · refine Ev.congr (fun k=>if_neg h1) ?_
        have:nT t lo gl code.length x=some 4:=by unfold nT;rw [if_neg h1]
        rw [this]
        exact Ev.now _
  have:=lh (g:=fun k i=>bz.l0 k code code.length (i:Nat) t lo gl code) (fun i=>(nT t lo gl code.length (code.getD i z55)).map fun e=>((i:Int),e)) code.length (-1,0)
    (fun i hi hb q hq=>?_) (fun i hi b hb=>?_) (fun _=>?_) code.length 0 (by omega) (fun j hj=>by omega)
  · exact this
  · refine place i q q hi (fun _=>hq) ?_
    rw [Option.map_eq_none_iff] at hb
    rw [hb]
  · refine place i (0,0) b hi (fun h=>by rw [h] at hb;cases hb) ?_
    cases h:nT t lo gl code.length (code.getD i z55) with
    | none=>rw [h] at hb;cases hb
    | some e=>rw [h] at hb;cases hb;rfl
  · refine Ev.step (f:=fun _=>some (-1,0)) (fun k=>?_) (Ev.now _)
    simp only [bz.l0]
    rw [if_neg (by omega)]
theorem VF (t:List ByteArray) (lo gl:ByteArray) (code:List gY) (ht:t.length≤9223372036854775807) (hs:lo.size+gl.size≤9223372036854775807) (hn:code.length≤9223372036854775807) (hw:Wf code) :
    Ev (fun k=>bz.f k t lo gl code) (oD t lo gl code):=by
  have j0:∀ x,Ev (fun k=>bz.j0 k code.length x t lo gl code) (if x=true then (-1,5) else if (code.length:Int) < 1 then (-1,3) else if (code.length:Int) > 200 then (-1,3) else vz t lo gl code):=fun x=>by
    refine Ev.step (fun k=>by simp only [bz.j0];rfl) ?_
    exact Ev.ite (fun _=>Ev.now _) fun _=>Ev.ite (fun _=>Ev.now _) fun _=>Ev.ite (fun _=>Ev.now _) fun _=>Gu t lo gl code ht hn hw
  have sz:(lo++gl).size=lo.size+gl.size:=by simp
  refine Ev.congr (fun k=>if_pos hs) (Ev.bind (Nr t (lo++gl) ht (by rw [sz];omega)) ?_)
  refine Ev.out (Ev.ite (fun _=>Ev.ite (fun _=>j0 _) fun _=>j0 _) fun _=>j0 _) ?_
  unfold oD headB
  cases qJ t (lo++gl)
  · rfl
  · rw [if_pos rfl,Bool.true_and]
    by_cases h1:lo.size≤8
    · by_cases h2:gl.size≤4
      · rw [if_neg (by omega),decide_eq_true h1,decide_eq_true h2,if_neg (by simp;omega),show (true && true)=true from rfl,if_pos rfl]
        by_cases h3:(code.length:Int) < 1
        · rw [if_pos h3,if_neg (by omega)]
        · by_cases h4:(code.length:Int) > 200
          · rw [if_neg h3,if_pos h4,if_neg (by omega)]
          · rw [if_neg h3,if_neg h4,if_pos (by omega)]
      · rw [if_neg (by omega),decide_eq_true h1,decide_eq_false h2,if_pos (by simp;omega),if_neg (by decide)]
    · rw [if_pos (by omega),decide_eq_false h1,if_pos rfl,if_neg (by simp)]
theorem D8 (t:List ByteArray) (lo gl:ByteArray) (code:List gY) :
    (vz t lo gl code=(-1,0)∧∀ j,j < code.length→nT t lo gl code.length (code.getD j z55)=none) ∨
    ∃ j e,j < code.length∧nT t lo gl code.length (code.getD j z55)=some e∧vz t lo gl code=((j:Int),e)∧∀ q,q < j→nT t lo gl code.length (code.getD q z55)=none:=by
  unfold vz
  rcases vV (bad:=fun i=>(nT t lo gl code.length (code.getD i z55)).map fun e=>((i:Int),e)) (fin:=((-1,0):Int × Int)) code.length 0 with ⟨h1,h2⟩|⟨j,b,_,h2,h3,h4,h5⟩
  · refine .inl ⟨h1,fun j hj=>?_⟩
    have:=h2 j (Nat.zero_le _) (by omega)
    rwa [Option.map_eq_none_iff] at this
  · rw [Option.map_eq_some_iff] at h3
    obtain ⟨e,h3,rfl⟩:=h3
    refine .inr ⟨j,e,by omega,h3,h4,fun q hq=>?_⟩
    have:=h5 q (Nat.zero_le _) hq
    rwa [Option.map_eq_none_iff] at this
theorem Mc {t:List ByteArray} {lo gl:ByteArray} {n:Nat} {x:gY} {e:Int} (h:nT t lo gl n x=some e):e ≠ 0:=by
  unfold nT at h
  split at h
  · split at h
    · injection h;omega
    · split at h
      · cases h
      · injection h;omega
  · injection h;omega
theorem LZ (t:List ByteArray) (lo gl:ByteArray) (code:List gY):(oD t lo gl code).2=0 ↔ headB t lo gl=true∧(1≤code.length∧code.length≤200)∧∀ j,j < code.length→nT t lo gl code.length (code.getD j z55)=none:=by
  unfold oD
  by_cases h1:headB t lo gl=true
  · rw [if_pos h1]
    by_cases h2:1≤code.length∧code.length≤200
    · rw [if_pos h2]
      rcases D8 t lo gl code with ⟨h3,h4⟩|⟨j,e,h3,h4,h5,_⟩
      · rw [h3]
        exact ⟨fun _=>⟨h1,h2,h4⟩,fun _=>rfl⟩
      · rw [h5]
        refine ⟨fun h=>absurd h (Mc h4),fun h=>?_⟩
        rw [h.2.2 j h3] at h4
        cases h4
    · rw [if_neg h2]
      exact ⟨fun h=>by simp at h,fun h=>absurd h.2.1 h2⟩
  · rw [if_neg h1]
    exact ⟨fun h=>by simp at h,fun h=>absurd h.1 h1⟩
end Go.Proofs.YtlemecdddhdagaaDoor.P
end
