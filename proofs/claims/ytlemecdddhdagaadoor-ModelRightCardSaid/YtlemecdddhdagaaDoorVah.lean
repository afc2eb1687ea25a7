/- Parts of the proof of ModelRight: what the functions that it reaches compute, and plain facts about that. -/
import Derived.Test.YtlemecdddhdagaaDoorVab
import Derived.Test.YtlemecdddhdagaaDoorVad
import Derived.Test.YtlemecdddhdagaaDoorVaf
import Derived.Test.YtlemecdddhdagaaDoorVag
set_option linter.unusedVariables false
set_option linter.unusedSimpArgs false
section
namespace Go.Proofs.YtlemecdddhdagaaDoor.P
open Go.RowKit Go.Proofs.ag.bI Go.Proofs.ag.dM Go.Proofs.ag.dZ
attribute [local go_sem] kU kS lW lV jS jR kT kR
mutual
def bz.j0:Nat→Int→Bool→List ByteArray→ByteArray→ByteArray→List (gZ)→Option (Int × Int)
 | 0,_,_,_,_,_,_=>none
 | k+1,x4,x10,pg,o9,o8,mP=>if x10=true then (some ((-1),5)) else (if x4 < 1 then (some ((-1),3)) else (if x4 > 200 then (some ((-1),3)) else (bz.l0 k mP (mP.length:Int) 0 pg o9 o8 mP)))
def bz.l0:Nat→List (gZ)→Int→Int→List ByteArray→ByteArray→ByteArray→List (gZ)→Option (Int × Int)
 | 0,_,_,_,_,_,_,_=>none
 | k+1,x40,x41,o7,pg,o9,o8,mP=>if o7 < x41 then (if 0≤o7 then (if o7 < (x40.length:Int) then ((lX.f ((aA x40 o7).f0) ((aA x40 o7).f1) ((aA x40 o7).f2) ((aA x40 o7).f3) ((aA x40 o7).f4)).bind fun t165=>(if t165=true then (if ((aA x40 o7).f0)=3 then (if ((aA x40 o7).f4) < 0 then (bz.j2 k o7 x40 x41 o7 true pg o9 o8 mP ((aA x40 o7).f0) ((aA x40 o7).f1) ((aA x40 o7).f2) ((aA x40 o7).f3) ((aA x40 o7).f4)) else (bz.j2 k o7 x40 x41 o7 (decide (((aA x40 o7).f4) > (mP.length:Int))) pg o9 o8 mP ((aA x40 o7).f0) ((aA x40 o7).f1) ((aA x40 o7).f2) ((aA x40 o7).f3) ((aA x40 o7).f4))) else (if ((aA x40 o7).f0)=4 then (if ((aA x40 o7).f4) < 0 then (bz.j2 k o7 x40 x41 o7 true pg o9 o8 mP ((aA x40 o7).f0) ((aA x40 o7).f1) ((aA x40 o7).f2) ((aA x40 o7).f3) ((aA x40 o7).f4)) else (bz.j2 k o7 x40 x41 o7 (decide (((aA x40 o7).f4) > (mP.length:Int))) pg o9 o8 mP ((aA x40 o7).f0) ((aA x40 o7).f1) ((aA x40 o7).f2) ((aA x40 o7).f3) ((aA x40 o7).f4))) else (bz.j2 k o7 x40 x41 o7 false pg o9 o8 mP ((aA x40 o7).f0) ((aA x40 o7).f1) ((aA x40 o7).f2) ((aA x40 o7).f3) ((aA x40 o7).f4)))) else (some (o7,4)))) else (none)) else (none)) else (some ((-1),0))
def bz.j2:Nat→Int→List (gZ)→Int→Int→Bool→List ByteArray→ByteArray→ByteArray→List (gZ)→Int→Int→Int→Int→Int→Option (Int × Int)
 | 0,_,_,_,_,_,_,_,_,_,_,_,_,_,_=>none
 | k+1,x5,x40,x41,o7,x52,pg,o9,o8,mP,QQ,QP,QO,QN,QM=>if x52=true then (some (x5,12)) else ((bV.f k pg o9 o8 mP QQ QP QO QN QM).bind fun t166=>(if t166=true then (bz.l0 k x40 x41 (wrap64 (o7+1)) pg o9 o8 mP) else (some (x5,5))))
end
def bz.f (k:Nat) (aY:List ByteArray) (aU:ByteArray) (aV:ByteArray) (aI:List (gZ)):Option (Int × Int):=if aU.size+aV.size≤9223372036854775807 then ((fJ.f k aY (aU++aV)).bind fun t162=>(if t162=true then (if (aU.size:Int) > 8 then (bz.j0 k (aI.length:Int) true aY aU aV aI) else (bz.j0 k (aI.length:Int) (decide ((aV.size:Int) > 4)) aY aU aV aI)) else (bz.j0 k (aI.length:Int) true aY aU aV aI))) else (none)
theorem bz.gY:∀ k,(∀ y0 y1 y2 y3 y4 y5,dN (bz.j0 k y0 y1 y2 y3 y4 y5) (bz.j0 (k+1) y0 y1 y2 y3 y4 y5))∧(∀ y0 y1 y2 y3 y4 y5 y6,dN (bz.l0 k y0 y1 y2 y3 y4 y5 y6) (bz.l0 (k+1) y0 y1 y2 y3 y4 y5 y6))∧(∀ y0 y1 y2 y3 y4 y5 y6 y7 y8 y9 zA Gj Gi y13,dN (bz.j2 k y0 y1 y2 y3 y4 y5 y6 y7 y8 y9 zA Gj Gi y13) (bz.j2 (k+1) y0 y1 y2 y3 y4 y5 y6 y7 y8 y9 zA Gj Gi y13))
 | 0=>⟨fun _ _ _ _ _ _ r h=>by simp [bz.j0] at h,fun _ _ _ _ _ _ _ r h=>by simp [bz.l0] at h,fun _ _ _ _ _ _ _ _ _ _ _ _ _ _ r h=>by simp [bz.j2] at h⟩
 | k+1=>by
  obtain ⟨lF,ih1,ih2⟩:=bz.gY k
  refine ⟨?_,?_,?_⟩
  ·
   intro y0 y1 y2 y3 y4 y5
   unfold bz.j0
   repeat' with_reducible first|apply lF|apply ih1|apply ih2|apply bV.mono|apply fJ.mono|exact dN.refl _|exact dN.none _|refine dN.ite ?_ ?_|refine dN.bind ?_ (fun _=>?_)
  ·
   intro y0 y1 y2 y3 y4 y5 y6
   unfold bz.l0
   repeat' with_reducible first|apply lF|apply ih1|apply ih2|apply bV.mono|apply fJ.mono|exact dN.refl _|exact dN.none _|refine dN.ite ?_ ?_|refine dN.bind ?_ (fun _=>?_)
  ·
   intro y0 y1 y2 y3 y4 y5 y6 y7 y8 y9 zA Gj Gi y13
   unfold bz.j2
   repeat' with_reducible first|apply lF|apply ih1|apply ih2|apply bV.mono|apply fJ.mono|exact dN.refl _|exact dN.none _|refine dN.ite ?_ ?_|refine dN.bind ?_ (fun _=>?_)
theorem bz.mono:∀ a0 a1 a2 a3 k,dN (bz.f k a0 a1 a2 a3) (bz.f (k+1) a0 a1 a2 a3):=by
 intro a0 a1 a2 a3 k
 obtain ⟨lF,ih1,ih2⟩:=bz.gY k
 unfold bz.f
 repeat' with_reducible first|apply lF|apply ih1|apply ih2|apply bV.mono|apply fJ.mono|exact dN.refl _|exact dN.none _|refine dN.ite ?_ ?_|refine dN.bind ?_ (fun _=>?_)
set_option maxHeartbeats 8000000 in
set_option maxRecDepth 100000 in
theorem bz.calls (k:Nat) (eu:Option Addr) (ed:Nat) (aY:List ByteArray) (aU:ByteArray) (aV:ByteArray) (fV:Option Addr) (eX:Nat) (aI:List (gZ)) (r1:Int) (r2:Int) (w:World) (jK:Kd.C Kd.string w eu aY.length aY) (jM:aY.length≤ed) (jJ:Kd.C tZ w fV aI.length aI) (jL:aI.length≤eX) (kZ:Kd.C Kd.string w qx ku.length ku) (h:bz.f k aY aU aV aI=some (r1,r2)) :
  Calls Tryd.prog 21 #[.agg #[.slice eu aY.length ed,.string aU,.string aV,.slice fV aI.length eX]] w fun e w'=>e=.returned (.tuple #[.int .i64 r1,.int .i64 r2])∧Below w.heap.size w w':=by
 have xM:=Tryd.underlying25
 have Bi:=Tryd.underlying55
 have iq:=ae.mk jK
 have iC:=ae.mk jM
 clear jK jM
 have jG:=ae.mk jJ
 have jW:=ae.mk jL
 clear jJ jL
 have wJ:=ae.mk kZ
 clear kZ
 have HB:=ae.mk (Below.refl w.heap.size w)
 have H:(if aU.size+aV.size≤9223372036854775807 then ((fJ.f k aY (aU++aV)).bind fun t162=>(if t162=true then (if (aU.size:Int) > 8 then (bz.j0 k (aI.length:Int) true aY aU aV aI) else (bz.j0 k (aI.length:Int) (decide ((aV.size:Int) > 4)) aY aU aV aI)) else (bz.j0 k (aI.length:Int) true aY aU aV aI))) else (none))=some (r1,r2):=h
 clear h
 have HC2:=ae.mk H
 clear H
 go_enter Tryd.func21,Tryd.ntmps21
 go_upto_region 2 with (first|((with_reducible refine dL (N:=1) rfl ?_);(try (refine kG (by rfl) ?_;dsimp only));refine fF ?hg (N:=1) ?hd (cs:=#[.slice eu aY.length ed,.string aU,.string aV,.slice fV aI.length eX]) (t:=25) ?hr ?_;(case hd=>rfl);(case hg=>rfl);(case hr=>first|(go_simp;done)|(go_simp;rfl));intro iU hg w3 hbox hb;have dV:=ae.mk (bg (by repeat (first|(with_reducible first|exact HB.out|apply ah|apply af|apply ai)|exact HB.out)) hb);have dU:=ae.mk (hbox);have dR:=ae.mk ((by rw [hg];exact (bW (by repeat (first|(with_reducible first|exact HB.out|apply ah|apply af|apply ai)|exact HB.out))):w.heap.size≤iU));have gQ:=dR;clear HB;have HB:=dV;have fE:=dU;have anY:=dR;have lN:=gQ;clear dV dU dR gQ;clear hb hbox hg;have O8:w3.cell? ⟨iU,0,none⟩=some (.slice eu aY.length ed):=(ax fE.out 0).trans rfl;have O7:w3.cell? ⟨iU,1,none⟩=some (.string aU):=(ax fE.out 1).trans rfl;have O6:w3.cell? ⟨iU,2,none⟩=some (.string aV):=(ax fE.out 2).trans rfl;have O5:w3.cell? ⟨iU,3,none⟩=some (.slice fV aI.length eX):=(ax fE.out 3).trans rfl;have OX:=aC fE.out 0;have OW:=aC fE.out 1;have OV:=aC fE.out 2;have OU:=aC fE.out 3))
 (try simp only [Act.put,List.setIfInBounds_toArray,List.set_cons_zero,List.set_cons_succ])
 go_cut [10] (fun v10 wc=>∃ (kq:Nat) (IG:Bool),v10=.bool IG∧ae (bz.j0 kq (aI.length:Int) IG aY aU aV aI=some (r1,r2))∧ae (kq≤k)∧ae (wc.heap[iU]? = some (.cells #[(.slice eu aY.length ed),.string aU,.string aV,(.slice fV aI.length eX)] 25 (0,0)))∧ae (Below w.heap.size w wc))
 case first =>
  have H:=HC2.out
  clear HC2
  by_cases c5:aU.size+aV.size≤9223372036854775807
  ·
   rw [if_pos c5] at H
   have qO:=eq_true c5
   have Nb:decide (aU.size+aV.size≤9223372036854775807)=true:=decide_eq_true c5
   try have apg:(9223372036854775807 < aU.size+aV.size)=False:=eq_false (Nat.not_lt.2 c5)
   replace H:=Option.bind_eq_some_iff.mp H
   obtain ⟨t162,Lp,H⟩:=H
   replace H:(if t162=true then (if (aU.size:Int) > 8 then (bz.j0 k (aI.length:Int) true aY aU aV aI) else (bz.j0 k (aI.length:Int) (decide ((aV.size:Int) > 4)) aY aU aV aI)) else (bz.j0 k (aI.length:Int) true aY aU aV aI))=some (r1,r2):=H
   have A6:=ae.mk Lp
   clear Lp
   by_cases c7:t162=true
   ·
    subst c7
    have H1:(if (aU.size:Int) > 8 then (bz.j0 k (aI.length:Int) true aY aU aV aI) else (bz.j0 k (aI.length:Int) (decide ((aV.size:Int) > 4)) aY aU aV aI))=some (r1,r2):=by rw [if_pos rfl] at H;exact H
    clear H
    have H:=H1
    clear H1
    by_cases c8:(aU.size:Int) > 8
    ·
     rw [if_pos c8] at H
     have oU:decide (8 < (aU.size:Int))=true:=decide_eq_true c8
     have yH:decide (8 < aU.size)=true:=decide_eq_true (by omega)
     clear c8
     (first|rw [oU]|(simp only [bG,bJ];rw [oU])|skip)
     have H':=ae.mk H
     clear H
     have Ha:w3.cell? ⟨iU,0,none⟩=some (.slice eu aY.length ed):=(ax fE.out 0).trans rfl
     have G9:w3.cell? ⟨iU,1,none⟩=some (.string aU):=(ax fE.out 1).trans rfl
     have G8:w3.cell? ⟨iU,2,none⟩=some (.string aV):=(ax fE.out 2).trans rfl
     have G7:w3.cell? ⟨iU,3,none⟩=some (.slice fV aI.length eX):=(ax fE.out 3).trans rfl
     have G5:=aC fE.out 0
     have GZ:=aC fE.out 1
     have GY:=aC fE.out 2
     have GX:=aC fE.out 3
     go_wp2_with (first|((with_reducible refine bu (f:=32) rfl ?_);refine dS (some 18) rfl rfl Tryd.func32 (by kernel_rfl) rfl #[.slice eu aY.length ed,.string (aU++aV)] rfl (by (try simp only [List.map_toArray,List.map_cons,List.map_nil]);first|done|rfl|(simp only [List.length_drop,List.length_take];rfl)) ?_;(with_reducible refine (fJ.calls k _ _ aY (aU++aV) true _ ?cu ?dw A6.out).mono ?_);(case cu=>repeat (first|exact (Kd.bK iq.out HB.out)|(with_reducible refine Kd.bT ?_ _)|(with_reducible refine Kd.bQ ?_ _)|(with_reducible refine Kd.dD ?_)));(case dw=>exact iC.out);rintro e w' ⟨rfl,⟨nd,rfl⟩⟩;refine ⟨_,rfl,?_⟩))
     go_meet
     case rel=>exact ⟨_,(true),(by first|rfl|(simp;done)|(simp [*];done)),H',⟨by first|omega|exact Nat.le_refl _⟩,⟨by (with_reducible repeat (first|refine au ?_ _|refine ay ?_|refine ak ?_ _));exact fE.out⟩,⟨by repeat (first|(with_reducible first|exact HB.out|apply ah|apply af|apply ai|refine aj ?_ lN.out)|exact HB.out)⟩⟩
    ·
     rw [if_neg c8] at H
     have oU:decide (8 < (aU.size:Int))=false:=decide_eq_false c8
     have yH:decide (8 < aU.size)=false:=decide_eq_false (by omega)
     clear c8
     (first|rw [oU]|(simp only [bG,bJ];rw [oU])|skip)
     have H':=ae.mk H
     clear H
     have xe:w3.cell? ⟨iU,0,none⟩=some (.slice eu aY.length ed):=(ax fE.out 0).trans rfl
     have wZ:w3.cell? ⟨iU,1,none⟩=some (.string aU):=(ax fE.out 1).trans rfl
     have wY:w3.cell? ⟨iU,2,none⟩=some (.string aV):=(ax fE.out 2).trans rfl
     have wX:w3.cell? ⟨iU,3,none⟩=some (.slice fV aI.length eX):=(ax fE.out 3).trans rfl
     have wW:=aC fE.out 0
     have wV:=aC fE.out 1
     have wU:=aC fE.out 2
     have wS:=aC fE.out 3
     go_wp2_with (first|((with_reducible refine bu (f:=32) rfl ?_);refine dS (some 18) rfl rfl Tryd.func32 (by kernel_rfl) rfl #[.slice eu aY.length ed,.string (aU++aV)] rfl (by (try simp only [List.map_toArray,List.map_cons,List.map_nil]);first|done|rfl|(simp only [List.length_drop,List.length_take];rfl)) ?_;(with_reducible refine (fJ.calls k _ _ aY (aU++aV) true _ ?cu ?dw A6.out).mono ?_);(case cu=>repeat (first|exact (Kd.bK iq.out HB.out)|(with_reducible refine Kd.bT ?_ _)|(with_reducible refine Kd.bQ ?_ _)|(with_reducible refine Kd.dD ?_)));(case dw=>exact iC.out);rintro e w' ⟨rfl,⟨nd,rfl⟩⟩;refine ⟨_,rfl,?_⟩))
     go_meet
     case rel=>exact ⟨_,(decide ((aV.size:Int) > 4)),(by first|rfl|(simp;done)|(simp [*];done)),H',⟨by first|omega|exact Nat.le_refl _⟩,⟨by (with_reducible repeat (first|refine au ?_ _|refine ay ?_|refine ak ?_ _));exact fE.out⟩,⟨by repeat (first|(with_reducible first|exact HB.out|apply ah|apply af|apply ai|refine aj ?_ lN.out)|exact HB.out)⟩⟩
   ·
    replace c7:=Bool.eq_false_iff.mpr c7
    subst c7
    have H1:(bz.j0 k (aI.length:Int) true aY aU aV aI)=some (r1,r2):=by rw [if_neg (show ¬ (false=true) by decide)] at H;exact H
    clear H
    have H:=H1
    clear H1
    have H':=ae.mk H
    clear H
    have zn:w3.cell? ⟨iU,0,none⟩=some (.slice eu aY.length ed):=(ax fE.out 0).trans rfl
    have zl:w3.cell? ⟨iU,1,none⟩=some (.string aU):=(ax fE.out 1).trans rfl
    have zk:w3.cell? ⟨iU,2,none⟩=some (.string aV):=(ax fE.out 2).trans rfl
    have zi:w3.cell? ⟨iU,3,none⟩=some (.slice fV aI.length eX):=(ax fE.out 3).trans rfl
    have yY:=aC fE.out 0
    have yX:=aC fE.out 1
    have yV:=aC fE.out 2
    have yU:=aC fE.out 3
    go_wp2_with (first|((with_reducible refine bu (f:=32) rfl ?_);refine dS (some 18) rfl rfl Tryd.func32 (by kernel_rfl) rfl #[.slice eu aY.length ed,.string (aU++aV)] rfl (by (try simp only [List.map_toArray,List.map_cons,List.map_nil]);first|done|rfl|(simp only [List.length_drop,List.length_take];rfl)) ?_;(with_reducible refine (fJ.calls k _ _ aY (aU++aV) false _ ?cu ?dw A6.out).mono ?_);(case cu=>repeat (first|exact (Kd.bK iq.out HB.out)|(with_reducible refine Kd.bT ?_ _)|(with_reducible refine Kd.bQ ?_ _)|(with_reducible refine Kd.dD ?_)));(case dw=>exact iC.out);rintro e w' ⟨rfl,⟨nd,rfl⟩⟩;refine ⟨_,rfl,?_⟩))
    go_meet
    case rel=>exact ⟨_,(true),(by first|rfl|(simp;done)|(simp [*];done)),H',⟨by first|omega|exact Nat.le_refl _⟩,⟨by (with_reducible repeat (first|refine au ?_ _|refine ay ?_|refine ak ?_ _));exact fE.out⟩,⟨by repeat (first|(with_reducible first|exact HB.out|apply ah|apply af|apply ai|refine aj ?_ lN.out)|exact HB.out)⟩⟩
  ·
   rw [if_neg c5] at H
   exact absurd H (by simp)
 case rest =>
  clear HC2
  obtain ⟨kq,IG,rfl,HA,xX,fE,HB⟩:=hcut
  cases kq with
  | zero=>exact absurd HA.out (by simp [bz.j0])
  | succ Nq =>
   have H:=HA.out
   clear HA
   simp only [bz.j0] at H
   by_cases c12:IG=true
   ·
    subst c12
    have H1:(some ((-1),5))=some (r1,r2):=by rw [if_pos rfl] at H;exact H
    clear H
    have H:=H1
    clear H1
    simp only [Option.some.injEq,Prod.mk.injEq] at H
    obtain ⟨rfl,rfl⟩:=H
    go_wp2
    go_ret2
    exact ⟨by first|rfl|(simp [aQ,aN] <;> rfl)|(simp [*,aQ,aN] <;> rfl),by repeat (first|(with_reducible first|exact HB.out|apply ah|apply af|apply ai|refine aj ?_ lN.out)|exact HB.out)⟩
   ·
    replace c12:=Bool.eq_false_iff.mpr c12
    subst c12
    have H1:(if (aI.length:Int) < 1 then (some ((-1),3)) else (if (aI.length:Int) > 200 then (some ((-1),3)) else (bz.l0 Nq aI (aI.length:Int) 0 aY aU aV aI)))=some (r1,r2):=by rw [if_neg (show ¬ (false=true) by decide)] at H;exact H
    clear H
    have H:=H1
    clear H1
    by_cases c13:(aI.length:Int) < 1
    ·
     rw [if_pos c13] at H
     have l9:decide ((aI.length:Int) < 1)=true:=decide_eq_true c13
     have xq:decide (aI.length < 1)=true:=decide_eq_true (by omega)
     clear c13
     simp only [Option.some.injEq,Prod.mk.injEq] at H
     obtain ⟨rfl,rfl⟩:=H
     go_wp2
     go_ret2
     exact ⟨by first|rfl|(simp [aQ,aN] <;> rfl)|(simp [*,aQ,aN] <;> rfl),by repeat (first|(with_reducible first|exact HB.out|apply ah|apply af|apply ai|refine aj ?_ lN.out)|exact HB.out)⟩
    ·
     rw [if_neg c13] at H
     have l9:decide ((aI.length:Int) < 1)=false:=decide_eq_false c13
     have xq:decide (aI.length < 1)=false:=decide_eq_false (by omega)
     clear c13
     by_cases c14:(aI.length:Int) > 200
     ·
      rw [if_pos c14] at H
      have CB:decide (200 < (aI.length:Int))=true:=decide_eq_true c14
      have FN:decide (200 < aI.length)=true:=decide_eq_true (by omega)
      clear c14
      simp only [Option.some.injEq,Prod.mk.injEq] at H
      obtain ⟨rfl,rfl⟩:=H
      go_wp2
      go_ret2
      exact ⟨by first|rfl|(simp [aQ,aN] <;> rfl)|(simp [*,aQ,aN] <;> rfl),by repeat (first|(with_reducible first|exact HB.out|apply ah|apply af|apply ai|refine aj ?_ lN.out)|exact HB.out)⟩
     ·
      rw [if_neg c14] at H
      have CB:decide (200 < (aI.length:Int))=false:=decide_eq_false c14
      have FN:decide (200 < aI.length)=false:=decide_eq_false (by omega)
      clear c14
      have H':=ae.mk H
      clear H
      have VR:wc.cell? ⟨iU,0,none⟩=some (.slice eu aY.length ed):=(ax fE.out 0).trans rfl
      have VQ:wc.cell? ⟨iU,1,none⟩=some (.string aU):=(ax fE.out 1).trans rfl
      have VP:wc.cell? ⟨iU,2,none⟩=some (.string aV):=(ax fE.out 2).trans rfl
      have VO:wc.cell? ⟨iU,3,none⟩=some (.slice fV aI.length eX):=(ax fE.out 3).trans rfl
      have Um:=aC fE.out 0
      have Ul:=aC fE.out 1
      have Uk:=aC fE.out 2
      have Uj:=aC fE.out 3
      go_wp2
      go_loopg [42] Nq (fun kq v42 w'=>∃ (bC:Int),v42=.int .i64 bC∧ae (bz.l0 kq aI (aI.length:Int) bC aY aU aV aI=some (r1,r2))∧ae (kq≤Nq)∧ae (w'.heap[iU]? = some (.cells #[(.slice eu aY.length ed),.string aU,.string aV,(.slice fV aI.length eX)] 25 (0,0)))∧ae (Below w.heap.size w w'))
      case atStart=>exact ⟨(0),(by first|rfl|(simp;done)|(simp [*];done)),H',⟨Nat.le_refl _⟩,⟨by (with_reducible repeat (first|refine au ?_ _|refine ay ?_|refine ak ?_ _));exact fE.out⟩,⟨by repeat (first|(with_reducible first|exact HB.out|apply ah|apply af|apply ai|refine aj ?_ lN.out)|exact HB.out)⟩⟩
      case round =>
       clear H'
       obtain ⟨bC,rfl,HA,AZ,fE,HB⟩:=hrel
       cases gk with
       | zero=>exact absurd HA.out (by simp [bz.l0])
       | succ k2 =>
        have H:=HA.out
        clear HA
        simp only [bz.l0] at H
        by_cases c16:bC < (aI.length:Int)
        ·
         rw [if_pos c16] at H
         have Aw:decide (bC < (aI.length:Int))=true:=decide_eq_true c16
         clear c16
         by_cases c17:0≤bC
         ·
          rw [if_pos c17] at H
          have yt:decide (0≤bC)=true:=decide_eq_true c17
          clear c17
          by_cases c18:bC < (aI.length:Int)
          ·
           rw [if_pos c18] at H
           have XI:decide (bC < (aI.length:Int))=true:=decide_eq_true c18
           clear c18
           replace H:=Option.bind_eq_some_iff.mp H
           obtain ⟨t165,F9,H⟩:=H
           replace H:(if t165=true then (if ((aA aI bC).f0)=3 then (if ((aA aI bC).f4) < 0 then (bz.j2 k2 bC aI (aI.length:Int) bC true aY aU aV aI ((aA aI bC).f0) ((aA aI bC).f1) ((aA aI bC).f2) ((aA aI bC).f3) ((aA aI bC).f4)) else (bz.j2 k2 bC aI (aI.length:Int) bC (decide (((aA aI bC).f4) > (aI.length:Int))) aY aU aV aI ((aA aI bC).f0) ((aA aI bC).f1) ((aA aI bC).f2) ((aA aI bC).f3) ((aA aI bC).f4))) else (if ((aA aI bC).f0)=4 then (if ((aA aI bC).f4) < 0 then (bz.j2 k2 bC aI (aI.length:Int) bC true aY aU aV aI ((aA aI bC).f0) ((aA aI bC).f1) ((aA aI bC).f2) ((aA aI bC).f3) ((aA aI bC).f4)) else (bz.j2 k2 bC aI (aI.length:Int) bC (decide (((aA aI bC).f4) > (aI.length:Int))) aY aU aV aI ((aA aI bC).f0) ((aA aI bC).f1) ((aA aI bC).f2) ((aA aI bC).f3) ((aA aI bC).f4))) else (bz.j2 k2 bC aI (aI.length:Int) bC false aY aU aV aI ((aA aI bC).f0) ((aA aI bC).f1) ((aA aI bC).f2) ((aA aI bC).f3) ((aA aI bC).f4)))) else (some (bC,4)))=some (r1,r2):=H
           have Qz:=ae.mk F9
           clear F9
           by_cases c20:t165=true
           ·
            subst c20
            have H1:(if ((aA aI bC).f0)=3 then (if ((aA aI bC).f4) < 0 then (bz.j2 k2 bC aI (aI.length:Int) bC true aY aU aV aI ((aA aI bC).f0) ((aA aI bC).f1) ((aA aI bC).f2) ((aA aI bC).f3) ((aA aI bC).f4)) else (bz.j2 k2 bC aI (aI.length:Int) bC (decide (((aA aI bC).f4) > (aI.length:Int))) aY aU aV aI ((aA aI bC).f0) ((aA aI bC).f1) ((aA aI bC).f2) ((aA aI bC).f3) ((aA aI bC).f4))) else (if ((aA aI bC).f0)=4 then (if ((aA aI bC).f4) < 0 then (bz.j2 k2 bC aI (aI.length:Int) bC true aY aU aV aI ((aA aI bC).f0) ((aA aI bC).f1) ((aA aI bC).f2) ((aA aI bC).f3) ((aA aI bC).f4)) else (bz.j2 k2 bC aI (aI.length:Int) bC (decide (((aA aI bC).f4) > (aI.length:Int))) aY aU aV aI ((aA aI bC).f0) ((aA aI bC).f1) ((aA aI bC).f2) ((aA aI bC).f3) ((aA aI bC).f4))) else (bz.j2 k2 bC aI (aI.length:Int) bC false aY aU aV aI ((aA aI bC).f0) ((aA aI bC).f1) ((aA aI bC).f2) ((aA aI bC).f3) ((aA aI bC).f4))))=some (r1,r2):=by rw [if_pos rfl] at H;exact H
            clear H
            have H:=H1
            clear H1
            have H9:=ae.mk H
            clear H
            have GI:0≤(bC:Int):=of_decide_eq_true (by first|(with_reducible assumption)|assumption)
            have Gu:bC < (aI.length:Int):=of_decide_eq_true (by first|(with_reducible assumption)|assumption)
            obtain ⟨qm,Zc,sZ,sW,sV,sU,sS⟩:=Az jG.out bC GI Gu
            cases Zc
            replace sZ:=(HB.out.cell (World.block_lt_of_cell? w _ sZ)).trans sZ
            replace sW:=(HB.out.cell (World.block_lt_of_cell? w _ sW)).trans sW
            replace sV:=(HB.out.cell (World.block_lt_of_cell? w _ sV)).trans sV
            replace sU:=(HB.out.cell (World.block_lt_of_cell? w _ sU)).trans sU
            replace sS:=(HB.out.cell (World.block_lt_of_cell? w _ sS)).trans sS
            replace GI:=eq_true GI
            replace Gu:=eq_true Gu
            go_upto_region 11 with (first|((with_reducible refine dL (N:=6) rfl ?_);(try (refine kG (by rfl) ?_;dsimp only));refine fF ?hg (N:=6) ?hd (cs:=#[.int .u8 0,.int .u8 0,.int .u8 0,.int .u8 0,.int .i64 0]) (t:=55) ?hr ?_;(case hd=>rfl);(case hg=>rfl);(case hr=>first|(go_simp;done)|(go_simp;rfl));intro iH hg Ya hbox hb;have dV:=ae.mk (bf (g:=iU) (o:=.cells #[.slice eu aY.length ed,.string aU,.string aV,.slice (some qm) aI.length eX] 25 (0,0)) (by (with_reducible repeat (first|refine au ?_ _|refine ay ?_|refine ak ?_ _));exact fE.out) hb);have dU:=ae.mk (bg (by repeat (first|(with_reducible first|exact HB.out|apply ah|apply af|apply ai|refine aj ?_ lN.out)|exact HB.out)) hb);have dR:=ae.mk (hbox);have gQ:=ae.mk ((by rw [hg];exact (bW (by repeat (first|(with_reducible first|exact HB.out|apply ah|apply af|apply ai|refine aj ?_ lN.out)|exact HB.out))):w.heap.size≤iH));have lQ:=gQ;have mr:=ae.mk ((by rw [hg];exact Nat.ne_of_lt (kC (g:=iU) (o:=.cells #[.slice eu aY.length ed,.string aU,.string aV,.slice (some qm) aI.length eX] 25 (0,0)) (by (with_reducible repeat (first|refine au ?_ _|refine ay ?_|refine ak ?_ _));exact fE.out)):iU ≠ iH));have nJ:=ae.mk mr.out.symm;clear fE;clear HB;have fE:=dV;have HB:=dU;have eU:=dR;have adG:=gQ;have qp:=lQ;have iZ:=mr;have mF:=nJ;clear dV dU dR gQ lQ mr nJ;clear hb hbox hg;have aba:=mF.out;have aa0:=iZ.out;have VD:Ya.cell? ⟨iH,0,none⟩=some (.int .u8 0):=(ax eU.out 0).trans rfl;have VC:Ya.cell? ⟨iH,1,none⟩=some (.int .u8 0):=(ax eU.out 1).trans rfl;have VB:Ya.cell? ⟨iH,2,none⟩=some (.int .u8 0):=(ax eU.out 2).trans rfl;have VA:Ya.cell? ⟨iH,3,none⟩=some (.int .u8 0):=(ax eU.out 3).trans rfl;have Vz:Ya.cell? ⟨iH,4,none⟩=some (.int .i64 0):=(ax eU.out 4).trans rfl;have TY:=aC eU.out 0;have TW:=aC eU.out 1;have TV:=aC eU.out 2;have TU:=aC eU.out 3;have TT:=aC eU.out 4)|((with_reducible refine bu (f:=33) rfl ?_);refine dS (some 49) rfl rfl Tryd.func33 (by kernel_rfl) rfl #[.agg #[.int .u8 ((aA aI bC).f0),.int .u8 ((aA aI bC).f1),.int .u8 ((aA aI bC).f2),.int .u8 ((aA aI bC).f3),.int .i64 ((aA aI bC).f4)]] rfl (by (try simp only [List.map_toArray,List.map_cons,List.map_nil]);first|done|rfl|(simp only [List.length_drop,List.length_take];rfl)) ?_;(with_reducible refine (lX.calls ((aA aI bC).f0) ((aA aI bC).f1) ((aA aI bC).f2) ((aA aI bC).f3) ((aA aI bC).f4) true _ ?cu Qz.out).mono ?_);(case cu=>exact Kd.bK wJ.out (by repeat (first|(with_reducible first|exact HB.out|apply ah|apply af|apply ai|refine aj ?_ lN.out|refine aj ?_ qp.out)|exact HB.out)));rintro e qC ⟨rfl,hb⟩;refine ⟨_,rfl,?_⟩;have dV:=ae.mk (bf (g:=iU) (o:=.cells #[.slice eu aY.length ed,.string aU,.string aV,.slice (some qm) aI.length eX] 25 (0,0)) (by (with_reducible repeat (first|refine au ?_ _|refine ay ?_|refine ak ?_ _));refine fQ ?_ iZ.out _;(with_reducible repeat (first|refine au ?_ _|refine ay ?_|refine ak ?_ _));refine fQ ?_ iZ.out _;(with_reducible repeat (first|refine au ?_ _|refine ay ?_|refine ak ?_ _));refine fQ ?_ iZ.out _;(with_reducible repeat (first|refine au ?_ _|refine ay ?_|refine ak ?_ _));refine fQ ?_ iZ.out _;(with_reducible repeat (first|refine au ?_ _|refine ay ?_|refine ak ?_ _));refine fQ ?_ iZ.out _;(with_reducible repeat (first|refine au ?_ _|refine ay ?_|refine ak ?_ _));exact fE.out) hb);have dU:=ae.mk (bf (g:=iH) (o:=.cells #[.int .u8 ((aA aI bC).f0),.int .u8 ((aA aI bC).f1),.int .u8 ((aA aI bC).f2),.int .u8 ((aA aI bC).f3),.int .i64 ((aA aI bC).f4)] 55 (0,0)) (by (with_reducible repeat (first|refine au ?_ _|refine ay ?_|refine ak ?_ _));refine dP (cs:=#[.int .u8 ((aA aI bC).f0),.int .u8 ((aA aI bC).f1),.int .u8 ((aA aI bC).f2),.int .u8 ((aA aI bC).f3),.int .i64 0]) ?_ 4 _ rfl;(with_reducible repeat (first|refine au ?_ _|refine ay ?_|refine ak ?_ _));refine dP (cs:=#[.int .u8 ((aA aI bC).f0),.int .u8 ((aA aI bC).f1),.int .u8 ((aA aI bC).f2),.int .u8 0,.int .i64 0]) ?_ 3 _ rfl;(with_reducible repeat (first|refine au ?_ _|refine ay ?_|refine ak ?_ _));refine dP (cs:=#[.int .u8 ((aA aI bC).f0),.int .u8 ((aA aI bC).f1),.int .u8 0,.int .u8 0,.int .i64 0]) ?_ 2 _ rfl;(with_reducible repeat (first|refine au ?_ _|refine ay ?_|refine ak ?_ _));refine dP (cs:=#[.int .u8 ((aA aI bC).f0),.int .u8 0,.int .u8 0,.int .u8 0,.int .i64 0]) ?_ 1 _ rfl;(with_reducible repeat (first|refine au ?_ _|refine ay ?_|refine ak ?_ _));refine dP (cs:=#[.int .u8 0,.int .u8 0,.int .u8 0,.int .u8 0,.int .i64 0]) ?_ 0 _ rfl;(with_reducible repeat (first|refine au ?_ _|refine ay ?_|refine ak ?_ _));exact eU.out) hb);have dR:=ae.mk (bg (by repeat (first|(with_reducible first|exact HB.out|apply ah|apply af|apply ai|refine aj ?_ lN.out|refine aj ?_ qp.out)|exact HB.out)) hb);clear fE;clear eU;clear HB;have fE:=dV;have eU:=dU;have HB:=dR;clear dV dU dR;(try clear hb);(try clear hb2);(try clear hk);(try clear hi)))
            (try simp only [Act.put,List.setIfInBounds_toArray,List.set_cons_zero,List.set_cons_succ])
            go_cut [52] (fun v52 wc=>∃ (kq:Nat) (CV:Bool),v52=.bool CV∧ae (bz.j2 kq bC aI (aI.length:Int) bC CV aY aU aV aI ((aA aI bC).f0) ((aA aI bC).f1) ((aA aI bC).f2) ((aA aI bC).f3) ((aA aI bC).f4)=some (r1,r2))∧ae (kq≤k2)∧ae (wc.heap[iU]? = some (.cells #[(.slice eu aY.length ed),.string aU,.string aV,(.slice (some qm) aI.length eX)] 25 (0,0)))∧ae (wc.heap[iH]? = some (.cells #[.int .u8 ((aA aI bC).f0),.int .u8 ((aA aI bC).f1),.int .u8 ((aA aI bC).f2),.int .u8 ((aA aI bC).f3),.int .i64 ((aA aI bC).f4)] 55 (0,0)))∧ae (Below w.heap.size w wc))
            case first =>
             have H:=H9.out
             clear H9
             by_cases Ho:((aA aI bC).f0)=3
             ·
              rw [if_pos Ho] at H
              have uy:(((aA aI bC).f0) == 3)=true:=beq_iff_eq.mpr Ho
              have P7:(((aA aI bC).f0) != 3)=false:=bne_eq_false_iff_eq.mpr Ho
              clear Ho
              (first|rw [uy]|(simp only [bG,bJ];rw [uy])|skip)
              by_cases c27:((aA aI bC).f4) < 0
              ·
               rw [if_pos c27] at H
               have ac3:decide (((aA aI bC).f4) < 0)=true:=decide_eq_true c27
               clear c27
               have H':=ae.mk H
               clear H
               have amG:=mF.out
               have amd:=iZ.out
               have Vx:qC.cell? ⟨iH,0,none⟩=some (.int .u8 ((aA aI bC).f0)):=(ax eU.out 0).trans rfl
               have Vw:qC.cell? ⟨iH,1,none⟩=some (.int .u8 ((aA aI bC).f1)):=(ax eU.out 1).trans rfl
               have Vu:qC.cell? ⟨iH,2,none⟩=some (.int .u8 ((aA aI bC).f2)):=(ax eU.out 2).trans rfl
               have Vt:qC.cell? ⟨iH,3,none⟩=some (.int .u8 ((aA aI bC).f3)):=(ax eU.out 3).trans rfl
               have Vs:qC.cell? ⟨iH,4,none⟩=some (.int .i64 ((aA aI bC).f4)):=(ax eU.out 4).trans rfl
               have TR:=aC eU.out 0
               have TQ:=aC eU.out 1
               have TP:=aC eU.out 2
               have TN:=aC eU.out 3
               have TM:=aC eU.out 4
               go_wp2
               go_meet
               case rel=>exact ⟨_,(true),(by first|rfl|(simp;done)|(simp [*];done)),H',⟨by have:=xX.out;have:=AZ.out;first|omega|exact Nat.le_refl _⟩,⟨by (with_reducible repeat (first|refine au ?_ _|refine ay ?_|refine ak ?_ _));exact fE.out⟩,⟨by (with_reducible repeat (first|refine au ?_ _|refine ay ?_|refine ak ?_ _));exact eU.out⟩,⟨by repeat (first|(with_reducible first|exact HB.out|apply ah|apply af|apply ai|refine aj ?_ lN.out|refine aj ?_ qp.out)|exact HB.out)⟩⟩
              ·
               rw [if_neg c27] at H
               have ac3:decide (((aA aI bC).f4) < 0)=false:=decide_eq_false c27
               clear c27
               have H':=ae.mk H
               clear H
               have amE:=mF.out
               have amb:=iZ.out
               have ajC:qC.cell? ⟨iH,0,none⟩=some (.int .u8 ((aA aI bC).f0)):=(ax eU.out 0).trans rfl
               have ajB:qC.cell? ⟨iH,1,none⟩=some (.int .u8 ((aA aI bC).f1)):=(ax eU.out 1).trans rfl
               have ajA:qC.cell? ⟨iH,2,none⟩=some (.int .u8 ((aA aI bC).f2)):=(ax eU.out 2).trans rfl
               have ajz:qC.cell? ⟨iH,3,none⟩=some (.int .u8 ((aA aI bC).f3)):=(ax eU.out 3).trans rfl
               have ajy:qC.cell? ⟨iH,4,none⟩=some (.int .i64 ((aA aI bC).f4)):=(ax eU.out 4).trans rfl
               have aho:=aC eU.out 0
               have ahn:=aC eU.out 1
               have ahm:=aC eU.out 2
               have ahl:=aC eU.out 3
               have ahk:=aC eU.out 4
               have ajx:qC.cell? ⟨iU,0,none⟩=some (.slice eu aY.length ed):=(ax fE.out 0).trans rfl
               have ajw:qC.cell? ⟨iU,1,none⟩=some (.string aU):=(ax fE.out 1).trans rfl
               have ajv:qC.cell? ⟨iU,2,none⟩=some (.string aV):=(ax fE.out 2).trans rfl
               have aju:qC.cell? ⟨iU,3,none⟩=some (.slice (some qm) aI.length eX):=(ax fE.out 3).trans rfl
               have ahj:=aC fE.out 0
               have ahi:=aC fE.out 1
               have ahh:=aC fE.out 2
               have ahg:=aC fE.out 3
               go_wp2
               go_meet
               case rel=>exact ⟨_,(decide (((aA aI bC).f4) > (aI.length:Int))),(by first|rfl|(simp;done)|(simp [*];done)),H',⟨by have:=xX.out;have:=AZ.out;first|omega|exact Nat.le_refl _⟩,⟨by (with_reducible repeat (first|refine au ?_ _|refine ay ?_|refine ak ?_ _));exact fE.out⟩,⟨by (with_reducible repeat (first|refine au ?_ _|refine ay ?_|refine ak ?_ _));exact eU.out⟩,⟨by repeat (first|(with_reducible first|exact HB.out|apply ah|apply af|apply ai|refine aj ?_ lN.out|refine aj ?_ qp.out)|exact HB.out)⟩⟩
             ·
              rw [if_neg Ho] at H
              have uy:(((aA aI bC).f0) == 3)=false:=beq_eq_false_iff_ne.mpr Ho
              have P7:(((aA aI bC).f0) != 3)=true:=bne_iff_ne.mpr Ho
              (first|rw [uy]|(simp only [bG,bJ];rw [uy])|skip)
              by_cases ZA:((aA aI bC).f0)=4
              ·
               rw [if_pos ZA] at H
               have acY:(((aA aI bC).f0) == 4)=true:=beq_iff_eq.mpr ZA
               have acX:(((aA aI bC).f0) != 4)=false:=bne_eq_false_iff_eq.mpr ZA
               clear ZA
               by_cases c34:((aA aI bC).f4) < 0
               ·
                rw [if_pos c34] at H
                have P5:decide (((aA aI bC).f4) < 0)=true:=decide_eq_true c34
                clear c34
                have H':=ae.mk H
                clear H
                have amB:=mF.out
                have al8:=iZ.out
                have Vq:qC.cell? ⟨iH,0,none⟩=some (.int .u8 ((aA aI bC).f0)):=(ax eU.out 0).trans rfl
                have Vp:qC.cell? ⟨iH,1,none⟩=some (.int .u8 ((aA aI bC).f1)):=(ax eU.out 1).trans rfl
                have Vo:qC.cell? ⟨iH,2,none⟩=some (.int .u8 ((aA aI bC).f2)):=(ax eU.out 2).trans rfl
                have Vm:qC.cell? ⟨iH,3,none⟩=some (.int .u8 ((aA aI bC).f3)):=(ax eU.out 3).trans rfl
                have Vl:qC.cell? ⟨iH,4,none⟩=some (.int .i64 ((aA aI bC).f4)):=(ax eU.out 4).trans rfl
                have TK:=aC eU.out 0
                have TJ:=aC eU.out 1
                have TI:=aC eU.out 2
                have TG:=aC eU.out 3
                have TF:=aC eU.out 4
                go_wp2
                go_meet
                case rel=>exact ⟨_,(true),(by first|rfl|(simp;done)|(simp [*];done)),H',⟨by have:=xX.out;have:=AZ.out;first|omega|exact Nat.le_refl _⟩,⟨by (with_reducible repeat (first|refine au ?_ _|refine ay ?_|refine ak ?_ _));exact fE.out⟩,⟨by (with_reducible repeat (first|refine au ?_ _|refine ay ?_|refine ak ?_ _));exact eU.out⟩,⟨by repeat (first|(with_reducible first|exact HB.out|apply ah|apply af|apply ai|refine aj ?_ lN.out|refine aj ?_ qp.out)|exact HB.out)⟩⟩
               ·
                rw [if_neg c34] at H
                have P5:decide (((aA aI bC).f4) < 0)=false:=decide_eq_false c34
                clear c34
                have H':=ae.mk H
                clear H
                have amA:=mF.out
                have al7:=iZ.out
                have ajo:qC.cell? ⟨iH,0,none⟩=some (.int .u8 ((aA aI bC).f0)):=(ax eU.out 0).trans rfl
                have ajn:qC.cell? ⟨iH,1,none⟩=some (.int .u8 ((aA aI bC).f1)):=(ax eU.out 1).trans rfl
                have ajm:qC.cell? ⟨iH,2,none⟩=some (.int .u8 ((aA aI bC).f2)):=(ax eU.out 2).trans rfl
                have ajl:qC.cell? ⟨iH,3,none⟩=some (.int .u8 ((aA aI bC).f3)):=(ax eU.out 3).trans rfl
                have ajk:qC.cell? ⟨iH,4,none⟩=some (.int .i64 ((aA aI bC).f4)):=(ax eU.out 4).trans rfl
                have aha:=aC eU.out 0
                have ag9:=aC eU.out 1
                have ag8:=aC eU.out 2
                have ag7:=aC eU.out 3
                have ag6:=aC eU.out 4
                have Vk:qC.cell? ⟨iU,0,none⟩=some (.slice eu aY.length ed):=(ax fE.out 0).trans rfl
                have Vj:qC.cell? ⟨iU,1,none⟩=some (.string aU):=(ax fE.out 1).trans rfl
                have Vh:qC.cell? ⟨iU,2,none⟩=some (.string aV):=(ax fE.out 2).trans rfl
                have Vg:qC.cell? ⟨iU,3,none⟩=some (.slice (some qm) aI.length eX):=(ax fE.out 3).trans rfl
                have TE:=aC fE.out 0
                have TD:=aC fE.out 1
                have TC:=aC fE.out 2
                have TB:=aC fE.out 3
                go_wp2
                go_meet
                case rel=>exact ⟨_,(decide (((aA aI bC).f4) > (aI.length:Int))),(by first|rfl|(simp;done)|(simp [*];done)),H',⟨by have:=xX.out;have:=AZ.out;first|omega|exact Nat.le_refl _⟩,⟨by (with_reducible repeat (first|refine au ?_ _|refine ay ?_|refine ak ?_ _));exact fE.out⟩,⟨by (with_reducible repeat (first|refine au ?_ _|refine ay ?_|refine ak ?_ _));exact eU.out⟩,⟨by repeat (first|(with_reducible first|exact HB.out|apply ah|apply af|apply ai|refine aj ?_ lN.out|refine aj ?_ qp.out)|exact HB.out)⟩⟩
              ·
               rw [if_neg ZA] at H
               have acY:(((aA aI bC).f0) == 4)=false:=beq_eq_false_iff_ne.mpr ZA
               have acX:(((aA aI bC).f0) != 4)=true:=bne_iff_ne.mpr ZA
               have H':=ae.mk H
               clear H
               have amx:=mF.out
               have al4:=iZ.out
               have ajd:qC.cell? ⟨iH,0,none⟩=some (.int .u8 ((aA aI bC).f0)):=(ax eU.out 0).trans rfl
               have ajc:qC.cell? ⟨iH,1,none⟩=some (.int .u8 ((aA aI bC).f1)):=(ax eU.out 1).trans rfl
               have ajb:qC.cell? ⟨iH,2,none⟩=some (.int .u8 ((aA aI bC).f2)):=(ax eU.out 2).trans rfl
               have aja:qC.cell? ⟨iH,3,none⟩=some (.int .u8 ((aA aI bC).f3)):=(ax eU.out 3).trans rfl
               have ai9:qC.cell? ⟨iH,4,none⟩=some (.int .i64 ((aA aI bC).f4)):=(ax eU.out 4).trans rfl
               have agZ:=aC eU.out 0
               have agY:=aC eU.out 1
               have agX:=aC eU.out 2
               have agW:=aC eU.out 3
               have agV:=aC eU.out 4
               go_wp2
               go_meet
               case rel=>exact ⟨_,(false),(by first|rfl|(simp;done)|(simp [*];done)),H',⟨by have:=xX.out;have:=AZ.out;first|omega|exact Nat.le_refl _⟩,⟨by (with_reducible repeat (first|refine au ?_ _|refine ay ?_|refine ak ?_ _));exact fE.out⟩,⟨by (with_reducible repeat (first|refine au ?_ _|refine ay ?_|refine ak ?_ _));exact eU.out⟩,⟨by repeat (first|(with_reducible first|exact HB.out|apply ah|apply af|apply ai|refine aj ?_ lN.out|refine aj ?_ qp.out)|exact HB.out)⟩⟩
            case rest =>
             clear H9
             obtain ⟨kq,CV,rfl,HA,F5,fE,eU,HB⟩:=hcut
             cases kq with
             | zero=>exact absurd HA.out (by simp [bz.j2])
             | succ rD =>
              have H:=HA.out
              clear HA
              simp only [bz.j2] at H
              by_cases c42:CV=true
              ·
               subst c42
               have H1:(some (bC,12))=some (r1,r2):=by rw [if_pos rfl] at H;exact H
               clear H
               have H:=H1
               clear H1
               simp only [Option.some.injEq,Prod.mk.injEq] at H
               obtain ⟨rfl,rfl⟩:=H
               go_wp2
               go_ret2
               exact ⟨by first|rfl|(simp [aQ,aN] <;> rfl)|(simp [*,aQ,aN] <;> rfl),by repeat (first|(with_reducible first|exact HB.out|apply ah|apply af|apply ai|refine aj ?_ lN.out|refine aj ?_ qp.out)|exact HB.out)⟩
              ·
               replace c42:=Bool.eq_false_iff.mpr c42
               subst c42
               have H1:((bV.f rD aY aU aV aI ((aA aI bC).f0) ((aA aI bC).f1) ((aA aI bC).f2) ((aA aI bC).f3) ((aA aI bC).f4)).bind fun t166=>(if t166=true then (bz.l0 rD aI (aI.length:Int) (wrap64 (bC+1)) aY aU aV aI) else (some (bC,5))))=some (r1,r2):=by rw [if_neg (show ¬ (false=true) by decide)] at H;exact H
               clear H
               have H:=H1
               clear H1
               replace H:=Option.bind_eq_some_iff.mp H
               obtain ⟨t166,aef,H⟩:=H
               replace H:(if t166=true then (bz.l0 rD aI (aI.length:Int) (wrap64 (bC+1)) aY aU aV aI) else (some (bC,5)))=some (r1,r2):=H
               have A43:=ae.mk aef
               clear aef
               by_cases WC:t166=true
               ·
                subst WC
                have H1:(bz.l0 rD aI (aI.length:Int) (wrap64 (bC+1)) aY aU aV aI)=some (r1,r2):=by rw [if_pos rfl] at H;exact H
                clear H
                have H:=H1
                clear H1
                have H':=ae.mk H
                clear H
                have aa8:=iZ.out
                have aaY:=mF.out
                have ai3:wc.cell? ⟨iU,0,none⟩=some (.slice eu aY.length ed):=(ax fE.out 0).trans rfl
                have ai2:wc.cell? ⟨iU,1,none⟩=some (.string aU):=(ax fE.out 1).trans rfl
                have ai1:wc.cell? ⟨iU,2,none⟩=some (.string aV):=(ax fE.out 2).trans rfl
                have ai0:wc.cell? ⟨iU,3,none⟩=some (.slice (some qm) aI.length eX):=(ax fE.out 3).trans rfl
                have agP:=aC fE.out 0
                have agO:=aC fE.out 1
                have agN:=aC fE.out 2
                have agM:=aC fE.out 3
                have JV:wc.cell? ⟨iH,0,none⟩=some (.int .u8 ((aA aI bC).f0)):=(ax eU.out 0).trans rfl
                have JU:wc.cell? ⟨iH,1,none⟩=some (.int .u8 ((aA aI bC).f1)):=(ax eU.out 1).trans rfl
                have JS:wc.cell? ⟨iH,2,none⟩=some (.int .u8 ((aA aI bC).f2)):=(ax eU.out 2).trans rfl
                have JR:wc.cell? ⟨iH,3,none⟩=some (.int .u8 ((aA aI bC).f3)):=(ax eU.out 3).trans rfl
                have JQ:wc.cell? ⟨iH,4,none⟩=some (.int .i64 ((aA aI bC).f4)):=(ax eU.out 4).trans rfl
                have Jj:=aC eU.out 0
                have Ji:=aC eU.out 1
                have Jh:=aC eU.out 2
                have Jg:=aC eU.out 3
                have Jf:=aC eU.out 4
                go_wp2_with (first|((with_reducible refine bu (f:=34) rfl ?_);refine dS (some 78) rfl rfl Tryd.func34 (by kernel_rfl) rfl #[.agg #[.slice eu aY.length ed,.string aU,.string aV,.slice (some qm) aI.length eX],.agg #[.int .u8 ((aA aI bC).f0),.int .u8 ((aA aI bC).f1),.int .u8 ((aA aI bC).f2),.int .u8 ((aA aI bC).f3),.int .i64 ((aA aI bC).f4)]] rfl (by (try simp only [List.map_toArray,List.map_cons,List.map_nil]);first|done|rfl|(simp only [List.length_drop,List.length_take];rfl)) ?_;(with_reducible refine (bV.calls rD _ _ aY aU aV _ _ aI ((aA aI bC).f0) ((aA aI bC).f1) ((aA aI bC).f2) ((aA aI bC).f3) ((aA aI bC).f4) true _ ?cu ?dw ?iM ?iL A43.out).mono ?_);(case cu=>repeat (first|exact (Kd.bK iq.out HB.out)|(with_reducible refine Kd.bT ?_ _)|(with_reducible refine Kd.bQ ?_ _)|(with_reducible refine Kd.dD ?_)));(case dw=>exact iC.out);(case iM=>repeat (first|exact (Kd.bK jG.out HB.out)|(with_reducible refine Kd.bT ?_ _)|(with_reducible refine Kd.bQ ?_ _)|(with_reducible refine Kd.dD ?_)));(case iL=>exact jW.out);rintro e w48 ⟨rfl,hb⟩;refine ⟨_,rfl,?_⟩;have dV:=ae.mk (bf (g:=iU) (o:=.cells #[.slice eu aY.length ed,.string aU,.string aV,.slice (some qm) aI.length eX] 25 (0,0)) (by (with_reducible repeat (first|refine au ?_ _|refine ay ?_|refine ak ?_ _));exact fE.out) hb);have dU:=ae.mk (bf (g:=iH) (o:=.cells #[.int .u8 ((aA aI bC).f0),.int .u8 ((aA aI bC).f1),.int .u8 ((aA aI bC).f2),.int .u8 ((aA aI bC).f3),.int .i64 ((aA aI bC).f4)] 55 (0,0)) (by (with_reducible repeat (first|refine au ?_ _|refine ay ?_|refine ak ?_ _));exact eU.out) hb);have dR:=ae.mk (bg (by repeat (first|(with_reducible first|exact HB.out|apply ah|apply af|apply ai|refine aj ?_ lN.out|refine aj ?_ qp.out)|exact HB.out)) hb);clear fE;clear eU;clear HB;have fE:=dV;have eU:=dU;have HB:=dR;clear dV dU dR;(try clear hb);(try clear hb2);(try clear hk);(try clear hi)))
                go_roundg rD
                case measure=>have:=xX.out;have:=AZ.out;have:=F5.out;omega
                case rel=>exact ⟨(wrap64 (bC+1)),(by first|rfl|(simp;done)|(simp [*];done)),H',⟨by have:=xX.out;have:=AZ.out;have:=F5.out;omega⟩,⟨by (with_reducible repeat (first|refine au ?_ _|refine ay ?_|refine ak ?_ _));exact fE.out⟩,⟨by repeat (first|(with_reducible first|exact HB.out|apply ah|apply af|apply ai|refine aj ?_ lN.out|refine aj ?_ qp.out)|exact HB.out)⟩⟩
               ·
                replace WC:=Bool.eq_false_iff.mpr WC
                subst WC
                have H1:(some (bC,5))=some (r1,r2):=by rw [if_neg (show ¬ (false=true) by decide)] at H;exact H
                clear H
                have H:=H1
                clear H1
                simp only [Option.some.injEq,Prod.mk.injEq] at H
                obtain ⟨rfl,rfl⟩:=H
                have aa6:=iZ.out
                have aaW:=mF.out
                have U9:wc.cell? ⟨iU,0,none⟩=some (.slice eu aY.length ed):=(ax fE.out 0).trans rfl
                have U8:wc.cell? ⟨iU,1,none⟩=some (.string aU):=(ax fE.out 1).trans rfl
                have U7:wc.cell? ⟨iU,2,none⟩=some (.string aV):=(ax fE.out 2).trans rfl
                have U6:wc.cell? ⟨iU,3,none⟩=some (.slice (some qm) aI.length eX):=(ax fE.out 3).trans rfl
                have Tq:=aC fE.out 0
                have Tn:=aC fE.out 1
                have Tm:=aC fE.out 2
                have Tj:=aC fE.out 3
                have U5:wc.cell? ⟨iH,0,none⟩=some (.int .u8 ((aA aI bC).f0)):=(ax eU.out 0).trans rfl
                have U4:wc.cell? ⟨iH,1,none⟩=some (.int .u8 ((aA aI bC).f1)):=(ax eU.out 1).trans rfl
                have U3:wc.cell? ⟨iH,2,none⟩=some (.int .u8 ((aA aI bC).f2)):=(ax eU.out 2).trans rfl
                have U2:wc.cell? ⟨iH,3,none⟩=some (.int .u8 ((aA aI bC).f3)):=(ax eU.out 3).trans rfl
                have aiY:wc.cell? ⟨iH,4,none⟩=some (.int .i64 ((aA aI bC).f4)):=(ax eU.out 4).trans rfl
                have Ti:=aC eU.out 0
                have Tf:=aC eU.out 1
                have Td:=aC eU.out 2
                have Tc:=aC eU.out 3
                have agK:=aC eU.out 4
                go_wp2_with (first|((with_reducible refine bu (f:=34) rfl ?_);refine dS (some 78) rfl rfl Tryd.func34 (by kernel_rfl) rfl #[.agg #[.slice eu aY.length ed,.string aU,.string aV,.slice (some qm) aI.length eX],.agg #[.int .u8 ((aA aI bC).f0),.int .u8 ((aA aI bC).f1),.int .u8 ((aA aI bC).f2),.int .u8 ((aA aI bC).f3),.int .i64 ((aA aI bC).f4)]] rfl (by (try simp only [List.map_toArray,List.map_cons,List.map_nil]);first|done|rfl|(simp only [List.length_drop,List.length_take];rfl)) ?_;(with_reducible refine (bV.calls rD _ _ aY aU aV _ _ aI ((aA aI bC).f0) ((aA aI bC).f1) ((aA aI bC).f2) ((aA aI bC).f3) ((aA aI bC).f4) false _ ?cu ?dw ?iM ?iL A43.out).mono ?_);(case cu=>repeat (first|exact (Kd.bK iq.out HB.out)|(with_reducible refine Kd.bT ?_ _)|(with_reducible refine Kd.bQ ?_ _)|(with_reducible refine Kd.dD ?_)));(case dw=>exact iC.out);(case iM=>repeat (first|exact (Kd.bK jG.out HB.out)|(with_reducible refine Kd.bT ?_ _)|(with_reducible refine Kd.bQ ?_ _)|(with_reducible refine Kd.dD ?_)));(case iL=>exact jW.out);rintro e w52 ⟨rfl,hb⟩;refine ⟨_,rfl,?_⟩;have dV:=ae.mk (bf (g:=iU) (o:=.cells #[.slice eu aY.length ed,.string aU,.string aV,.slice (some qm) aI.length eX] 25 (0,0)) (by (with_reducible repeat (first|refine au ?_ _|refine ay ?_|refine ak ?_ _));exact fE.out) hb);have dU:=ae.mk (bf (g:=iH) (o:=.cells #[.int .u8 ((aA aI bC).f0),.int .u8 ((aA aI bC).f1),.int .u8 ((aA aI bC).f2),.int .u8 ((aA aI bC).f3),.int .i64 ((aA aI bC).f4)] 55 (0,0)) (by (with_reducible repeat (first|refine au ?_ _|refine ay ?_|refine ak ?_ _));exact eU.out) hb);have dR:=ae.mk (bg (by repeat (first|(with_reducible first|exact HB.out|apply ah|apply af|apply ai|refine aj ?_ lN.out|refine aj ?_ qp.out)|exact HB.out)) hb);clear fE;clear eU;clear HB;have fE:=dV;have eU:=dU;have HB:=dR;clear dV dU dR;(try clear hb);(try clear hb2);(try clear hk);(try clear hi)))
                go_ret2
                exact ⟨by first|rfl|(simp [aQ,aN] <;> rfl)|(simp [*,aQ,aN] <;> rfl),by repeat (first|(with_reducible first|exact HB.out|apply ah|apply af|apply ai|refine aj ?_ lN.out|refine aj ?_ qp.out)|exact HB.out)⟩
           ·
            replace c20:=Bool.eq_false_iff.mpr c20
            subst c20
            have H1:(some (bC,4))=some (r1,r2):=by rw [if_neg (show ¬ (false=true) by decide)] at H;exact H
            clear H
            have H:=H1
            clear H1
            simp only [Option.some.injEq,Prod.mk.injEq] at H
            obtain ⟨rfl,rfl⟩:=H
            have GI:0≤(bC:Int):=of_decide_eq_true (by first|(with_reducible assumption)|assumption)
            have Gu:bC < (aI.length:Int):=of_decide_eq_true (by first|(with_reducible assumption)|assumption)
            obtain ⟨qm,Zc,sZ,sW,sV,sU,sS⟩:=Az jG.out bC GI Gu
            cases Zc
            replace sZ:=(HB.out.cell (World.block_lt_of_cell? w _ sZ)).trans sZ
            replace sW:=(HB.out.cell (World.block_lt_of_cell? w _ sW)).trans sW
            replace sV:=(HB.out.cell (World.block_lt_of_cell? w _ sV)).trans sV
            replace sU:=(HB.out.cell (World.block_lt_of_cell? w _ sU)).trans sU
            replace sS:=(HB.out.cell (World.block_lt_of_cell? w _ sS)).trans sS
            replace GI:=eq_true GI
            replace Gu:=eq_true Gu
            go_wp2_with (first|((with_reducible refine dL (N:=6) rfl ?_);(try (refine kG (by rfl) ?_;dsimp only));refine fF ?hg (N:=6) ?hd (cs:=#[.int .u8 0,.int .u8 0,.int .u8 0,.int .u8 0,.int .i64 0]) (t:=55) ?hr ?_;(case hd=>rfl);(case hg=>rfl);(case hr=>first|(go_simp;done)|(go_simp;rfl));intro iH hg Z9 hbox hb;have dV:=ae.mk (bf (g:=iU) (o:=.cells #[.slice eu aY.length ed,.string aU,.string aV,.slice (some qm) aI.length eX] 25 (0,0)) (by (with_reducible repeat (first|refine au ?_ _|refine ay ?_|refine ak ?_ _));exact fE.out) hb);have dU:=ae.mk (bg (by repeat (first|(with_reducible first|exact HB.out|apply ah|apply af|apply ai|refine aj ?_ lN.out)|exact HB.out)) hb);have dR:=ae.mk (hbox);have gQ:=ae.mk ((by rw [hg];exact (bW (by repeat (first|(with_reducible first|exact HB.out|apply ah|apply af|apply ai|refine aj ?_ lN.out)|exact HB.out))):w.heap.size≤iH));have lQ:=gQ;have mr:=ae.mk ((by rw [hg];exact Nat.ne_of_lt (kC (g:=iU) (o:=.cells #[.slice eu aY.length ed,.string aU,.string aV,.slice (some qm) aI.length eX] 25 (0,0)) (by (with_reducible repeat (first|refine au ?_ _|refine ay ?_|refine ak ?_ _));exact fE.out)):iU ≠ iH));have nJ:=ae.mk mr.out.symm;clear fE;clear HB;have fE:=dV;have HB:=dU;have eU:=dR;have adG:=gQ;have qp:=lQ;have iZ:=mr;have mF:=nJ;clear dV dU dR gQ lQ mr nJ;clear hb hbox hg;have ams:=mF.out;have al0:=iZ.out;have aiR:Z9.cell? ⟨iH,0,none⟩=some (.int .u8 0):=(ax eU.out 0).trans rfl;have aiQ:Z9.cell? ⟨iH,1,none⟩=some (.int .u8 0):=(ax eU.out 1).trans rfl;have aiP:Z9.cell? ⟨iH,2,none⟩=some (.int .u8 0):=(ax eU.out 2).trans rfl;have aiO:Z9.cell? ⟨iH,3,none⟩=some (.int .u8 0):=(ax eU.out 3).trans rfl;have aiN:Z9.cell? ⟨iH,4,none⟩=some (.int .i64 0):=(ax eU.out 4).trans rfl;have agD:=aC eU.out 0;have agC:=aC eU.out 1;have agB:=aC eU.out 2;have agA:=aC eU.out 3;have agz:=aC eU.out 4)|((with_reducible refine bu (f:=33) rfl ?_);refine dS (some 49) rfl rfl Tryd.func33 (by kernel_rfl) rfl #[.agg #[.int .u8 ((aA aI bC).f0),.int .u8 ((aA aI bC).f1),.int .u8 ((aA aI bC).f2),.int .u8 ((aA aI bC).f3),.int .i64 ((aA aI bC).f4)]] rfl (by (try simp only [List.map_toArray,List.map_cons,List.map_nil]);first|done|rfl|(simp only [List.length_drop,List.length_take];rfl)) ?_;(with_reducible refine (lX.calls ((aA aI bC).f0) ((aA aI bC).f1) ((aA aI bC).f2) ((aA aI bC).f3) ((aA aI bC).f4) false _ ?cu Qz.out).mono ?_);(case cu=>exact Kd.bK wJ.out (by repeat (first|(with_reducible first|exact HB.out|apply ah|apply af|apply ai|refine aj ?_ lN.out|refine aj ?_ qp.out)|exact HB.out)));rintro e w56 ⟨rfl,hb⟩;refine ⟨_,rfl,?_⟩;have dV:=ae.mk (bf (g:=iU) (o:=.cells #[.slice eu aY.length ed,.string aU,.string aV,.slice (some qm) aI.length eX] 25 (0,0)) (by (with_reducible repeat (first|refine au ?_ _|refine ay ?_|refine ak ?_ _));refine fQ ?_ iZ.out _;(with_reducible repeat (first|refine au ?_ _|refine ay ?_|refine ak ?_ _));refine fQ ?_ iZ.out _;(with_reducible repeat (first|refine au ?_ _|refine ay ?_|refine ak ?_ _));refine fQ ?_ iZ.out _;(with_reducible repeat (first|refine au ?_ _|refine ay ?_|refine ak ?_ _));refine fQ ?_ iZ.out _;(with_reducible repeat (first|refine au ?_ _|refine ay ?_|refine ak ?_ _));refine fQ ?_ iZ.out _;(with_reducible repeat (first|refine au ?_ _|refine ay ?_|refine ak ?_ _));exact fE.out) hb);have dU:=ae.mk (bf (g:=iH) (o:=.cells #[.int .u8 ((aA aI bC).f0),.int .u8 ((aA aI bC).f1),.int .u8 ((aA aI bC).f2),.int .u8 ((aA aI bC).f3),.int .i64 ((aA aI bC).f4)] 55 (0,0)) (by (with_reducible repeat (first|refine au ?_ _|refine ay ?_|refine ak ?_ _));refine dP (cs:=#[.int .u8 ((aA aI bC).f0),.int .u8 ((aA aI bC).f1),.int .u8 ((aA aI bC).f2),.int .u8 ((aA aI bC).f3),.int .i64 0]) ?_ 4 _ rfl;(with_reducible repeat (first|refine au ?_ _|refine ay ?_|refine ak ?_ _));refine dP (cs:=#[.int .u8 ((aA aI bC).f0),.int .u8 ((aA aI bC).f1),.int .u8 ((aA aI bC).f2),.int .u8 0,.int .i64 0]) ?_ 3 _ rfl;(with_reducible repeat (first|refine au ?_ _|refine ay ?_|refine ak ?_ _));refine dP (cs:=#[.int .u8 ((aA aI bC).f0),.int .u8 ((aA aI bC).f1),.int .u8 0,.int .u8 0,.int .i64 0]) ?_ 2 _ rfl;(with_reducible repeat (first|refine au ?_ _|refine ay ?_|refine ak ?_ _));refine dP (cs:=#[.int .u8 ((aA aI bC).f0),.int .u8 0,.int .u8 0,.int .u8 0,.int .i64 0]) ?_ 1 _ rfl;(with_reducible repeat (first|refine au ?_ _|refine ay ?_|refine ak ?_ _));refine dP (cs:=#[.int .u8 0,.int .u8 0,.int .u8 0,.int .u8 0,.int .i64 0]) ?_ 0 _ rfl;(with_reducible repeat (first|refine au ?_ _|refine ay ?_|refine ak ?_ _));exact eU.out) hb);have dR:=ae.mk (bg (by repeat (first|(with_reducible first|exact HB.out|apply ah|apply af|apply ai|refine aj ?_ lN.out|refine aj ?_ qp.out)|exact HB.out)) hb);clear fE;clear eU;clear HB;have fE:=dV;have eU:=dU;have HB:=dR;clear dV dU dR;(try clear hb);(try clear hb2);(try clear hk);(try clear hi)))
            go_ret2
            exact ⟨by first|rfl|(simp [aQ,aN] <;> rfl)|(simp [*,aQ,aN] <;> rfl),by repeat (first|(with_reducible first|exact HB.out|apply ah|apply af|apply ai|refine aj ?_ lN.out|refine aj ?_ qp.out)|exact HB.out)⟩
          ·
           rw [if_neg c18] at H
           exact absurd H (by simp)
         ·
          rw [if_neg c17] at H
          exact absurd H (by simp)
        ·
         rw [if_neg c16] at H
         have Aw:decide (bC < (aI.length:Int))=false:=decide_eq_false c16
         clear c16
         simp only [Option.some.injEq,Prod.mk.injEq] at H
         obtain ⟨rfl,rfl⟩:=H
         go_wp2
         go_ret2
         exact ⟨by first|rfl|(simp [aQ,aN] <;> rfl)|(simp [*,aQ,aN] <;> rfl),by repeat (first|(with_reducible first|exact HB.out|apply ah|apply af|apply ai|refine aj ?_ lN.out)|exact HB.out)⟩
end Go.Proofs.YtlemecdddhdagaaDoor.P
end
section
namespace Go.Proofs.YtlemecdddhdagaaDoor.P
open Go.RowKit Go.Proofs.ag.bI Go.Proofs.ag.dM Go.Proofs.ag.dZ
def qK (x:gZ):Bool:=if x.f0 < 1 then false else if x.f0 > 15 then false else
  ((hasB x.f0 98 || x.f2 == 0) && (hasB x.f0 99 || x.f3 == 0) && (hasB x.f0 110 || x.f4 == 0) && (hasB x.f0 97 || x.f1 == 0))
theorem NZ (x:gZ):lX.f x.f0 x.f1 x.f2 x.f3 x.f4=some (qK x):=by
  unfold lX.f qK
  split
  · rfl
  · split <;> rfl
def qM (x:gZ):Bool:=x.f0 == 3 || x.f0 == 4
def qi (t:List ByteArray) (lo gl:ByteArray) (x:gZ):Bool:=nK t lo gl x.f0 x.f1 x.f2 x.f3 x.f4
def nX (t:List ByteArray) (lo gl:ByteArray) (n:Nat) (x:gZ):Option Int :=
  if qK x=true then (if (qM x && (decide (x.f4 < 0) || decide (x.f4 > n)))=true then some 12 else if qi t lo gl x=true then none else some 5) else some 4
def headB (t:List ByteArray) (lo gl:ByteArray):Bool:=qL t (lo++gl) && (decide (lo.size≤8) && decide (gl.size≤4))
def vM (t:List ByteArray) (lo gl:ByteArray) (code:List gZ):Int × Int :=
  scan (fun i=>(nX t lo gl code.length (code.getD i z55)).map fun e=>((i:Int),e)) (-1,0) code.length 0
def oL (t:List ByteArray) (lo gl:ByteArray) (code:List gZ):Int × Int :=
  if headB t lo gl=true then (if 1≤code.length∧code.length≤200 then vM t lo gl code else (-1,3)) else (-1,5)
def Wf (code:List gZ):Prop:=∀ i:Nat,(0≤(code.getD i z55).f1∧(code.getD i z55).f1≤255)∧(0≤(code.getD i z55).f2∧(code.getD i z55).f2≤255)∧(0≤(code.getD i z55).f3∧(code.getD i z55).f3≤255)
theorem Hl (t:List ByteArray) (lo gl:ByteArray) (code:List gZ) (ht:t.length≤9223372036854775807) (hn:code.length≤9223372036854775807) (hw:Wf code) :
    Ev (fun k=>bz.l0 k code code.length 0 t lo gl code) (vM t lo gl code):=by
  have Yn:∀ i:Nat,aA code (i:Int)=code.getD i z55:=fun i=>rfl
  have j2:∀ (i:Nat) (x:Bool) (r r':Int × Int),i < code.length→(x=false→qi t lo gl (code.getD i z55)=true→Ev (fun k=>bz.l0 k code code.length ((i+1:Nat):Int) t lo gl code) r) →
      r'=(if x=true then ((i:Int),12) else if qi t lo gl (code.getD i z55)=true then r else ((i:Int),5)) →
      Ev (fun k=>bz.j2 k (i:Int) code code.length (i:Int) x t lo gl code (code.getD i z55).f0 (code.getD i z55).f1 (code.getD i z55).f2 (code.getD i z55).f3 (code.getD i z55).f4) r':=by
    intro i x r r' hi hr e
    rw [e]
    refine Ev.step (fun k=>by simp only [bz.j2];rfl) ?_
    refine Ev.ite (fun _=>Ev.now _) fun hx=>?_
    refine Ev.bind (RD t lo gl code _ _ _ _ _ ht (hw i).1 (hw i).2.1 (hw i).2.2) ?_
    refine Ev.ite (fun h=>?_) (fun _=>Ev.now _)
    rw [wrapN hi hn]
    exact hr (by simpa using hx) h
  have place:∀ (i:Nat) (r r':Int × Int),i < code.length→(nX t lo gl code.length (code.getD i z55)=none→Ev (fun k=>bz.l0 k code code.length ((i+1:Nat):Int) t lo gl code) r) →
      r'=(match nX t lo gl code.length (code.getD i z55) with|some e=>((i:Int),e)|none=>r) →
      Ev (fun k=>bz.l0 k code code.length (i:Int) t lo gl code) r':=by
    intro i r r' hi hr e
    rw [e]
    generalize hx:code.getD i z55=x at *
    refine Ev.step (f:=fun k=>(lX.f x.f0 x.f1 x.f2 x.f3 x.f4).bind fun t165=>(if t165=true then (if x.f0=3 then (if x.f4 < 0 then (bz.j2 k i code code.length i true t lo gl code x.f0 x.f1 x.f2 x.f3 x.f4) else (bz.j2 k i code code.length i (decide (x.f4 > (code.length:Int))) t lo gl code x.f0 x.f1 x.f2 x.f3 x.f4)) else (if x.f0=4 then (if x.f4 < 0 then (bz.j2 k i code code.length i true t lo gl code x.f0 x.f1 x.f2 x.f3 x.f4) else (bz.j2 k i code code.length i (decide (x.f4 > (code.length:Int))) t lo gl code x.f0 x.f1 x.f2 x.f3 x.f4)) else (bz.j2 k i code code.length i false t lo gl code x.f0 x.f1 x.f2 x.f3 x.f4))) else (some ((i:Int),4)))) (fun k=>?_) ?_
    · simp only [bz.l0]
      rw [if_pos (by omega),if_pos (by omega),if_pos (by omega),Yn,hx]
    · rw [NZ]
      simp only [Option.bind_some]
      by_cases h1:qK x=true
      · refine Ev.congr (fun k=>if_pos h1) ?_
        have J:∀ b r0,nX t lo gl code.length x=(if b=true then some 12 else if qi t lo gl x=true then none else some 5)→r0=(match nX t lo gl code.length x with|some e=>((i:Int),e)|none=>r)→Ev (fun k=>bz.j2 k i code code.length i b t lo gl code x.f0 x.f1 x.f2 x.f3 x.f4) r0:=by
          intro b r0 hb e0
          have:=j2 i b r r0 hi (fun hbf hk=>by
            refine hr ?_
            rw [hx] at hk
            rw [hb,hbf,if_neg (by decide),if_pos hk]) (by
              rw [e0,hb,hx]
              cases b
              · cases qi t lo gl x <;> rfl
              · rfl)
          rw [hx] at this
          exact this
        have hbad:∀ b,(qM x && (decide (x.f4 < 0) || decide (x.f4 > code.length)))=b→nX t lo gl code.length x=(if b=true then some 12 else if qi t lo gl x=true then none else some 5):=by
          intro b hb
          unfold nX
          rw [if_pos h1,hb]
        by_cases h3:x.f0=3
        · refine Ev.congr (fun k=>if_pos h3) ?_
          by_cases h4:x.f4 < 0
          · exact Ev.congr (fun k=>if_pos h4) (J true _ (hbad true (by simp [qM,h3,h4])) rfl)
          · exact Ev.congr (fun k=>if_neg h4) (J _ _ (hbad _ (by simp [qM,h3,h4])) rfl)
        · refine Ev.congr (fun k=>if_neg h3) ?_
          by_cases h5:x.f0=4
          · refine Ev.congr (fun k=>if_pos h5) ?_
            by_cases h4:x.f4 < 0
            · exact Ev.congr (fun k=>if_pos h4) (J true _ (hbad true (by simp [qM,h5,h4])) rfl)
            · exact Ev.congr (fun k=>if_neg h4) (J _ _ (hbad _ (by simp [qM,h5,h4])) rfl)
          · exact Ev.congr (fun k=>if_neg h5) (J false _ (hbad false (by simp [qM,h3,h5])) rfl)
      · refine Ev.congr (fun k=>if_neg h1) ?_
        have:nX t lo gl code.length x=some 4:=by unfold nX;rw [if_neg h1]
        rw [this]
        exact Ev.now _
  have:=lu (g:=fun k i=>bz.l0 k code code.length (i:Nat) t lo gl code) (fun i=>(nX t lo gl code.length (code.getD i z55)).map fun e=>((i:Int),e)) code.length (-1,0)
    (fun i hi hb q hq=>?_) (fun i hi b hb=>?_) (fun _=>?_) code.length 0 (by omega) (fun j hj=>by omega)
  · exact this
  · refine place i q q hi (fun _=>hq) ?_
    rw [Option.map_eq_none_iff] at hb
    rw [hb]
  · refine place i (0,0) b hi (fun h=>by rw [h] at hb;cases hb) ?_
    cases h:nX t lo gl code.length (code.getD i z55) with
    | none=>rw [h] at hb;cases hb
    | some e=>rw [h] at hb;cases hb;rfl
  · refine Ev.step (f:=fun _=>some (-1,0)) (fun k=>?_) (Ev.now _)
    simp only [bz.l0]
    rw [if_neg (by omega)]
theorem Wx (t:List ByteArray) (lo gl:ByteArray) (code:List gZ) (ht:t.length≤9223372036854775807) (hs:lo.size+gl.size≤9223372036854775807) (hn:code.length≤9223372036854775807) (hw:Wf code) :
    Ev (fun k=>bz.f k t lo gl code) (oL t lo gl code):=by
  have j0:∀ x,Ev (fun k=>bz.j0 k code.length x t lo gl code) (if x=true then (-1,5) else if (code.length:Int) < 1 then (-1,3) else if (code.length:Int) > 200 then (-1,3) else vM t lo gl code):=fun x=>by
    refine Ev.step (fun k=>by simp only [bz.j0];rfl) ?_
    exact Ev.ite (fun _=>Ev.now _) fun _=>Ev.ite (fun _=>Ev.now _) fun _=>Ev.ite (fun _=>Ev.now _) fun _=>Hl t lo gl code ht hn hw
  have sz:(lo++gl).size=lo.size+gl.size:=by simp
  refine Ev.congr (fun k=>if_pos hs) (Ev.bind (N9 t (lo++gl) ht (by rw [sz];omega)) ?_)
  refine Ev.out (Ev.ite (fun _=>Ev.ite (fun _=>j0 _) fun _=>j0 _) fun _=>j0 _) ?_
  unfold oL headB
  cases qL t (lo++gl)
  · rfl
  · rw [if_pos rfl,Bool.true_and]
    by_cases h1:lo.size≤8
    · by_cases h2:gl.size≤4
      · rw [if_neg (by omega),decide_eq_true h1,decide_eq_true h2,if_neg (by simp;omega),show (true && true)=true from rfl,if_pos rfl]
        by_cases h3:(code.length:Int) < 1
        · rw [if_pos h3,if_neg (by omega)]
        · by_cases h4:(code.length:Int) > 200
          · rw [if_neg h3,if_pos h4,if_neg (by omega)]
          · rw [if_neg h3,if_neg h4,if_pos (by omega)]
      · rw [if_neg (by omega),decide_eq_true h1,decide_eq_false h2,if_pos (by simp;omega),if_neg (by decide)]
    · rw [if_pos (by omega),decide_eq_false h1,if_pos rfl,if_neg (by simp)]
theorem Ey (t:List ByteArray) (lo gl:ByteArray) (code:List gZ) :
    (vM t lo gl code=(-1,0)∧∀ j,j < code.length→nX t lo gl code.length (code.getD j z55)=none) ∨
    ∃ j e,j < code.length∧nX t lo gl code.length (code.getD j z55)=some e∧vM t lo gl code=((j:Int),e)∧∀ q,q < j→nX t lo gl code.length (code.getD q z55)=none:=by
  unfold vM
  rcases wB (bad:=fun i=>(nX t lo gl code.length (code.getD i z55)).map fun e=>((i:Int),e)) (fin:=((-1,0):Int × Int)) code.length 0 with ⟨h1,h2⟩|⟨j,b,_,h2,h3,h4,h5⟩
  · refine .inl ⟨h1,fun j hj=>?_⟩
    have:=h2 j (Nat.zero_le _) (by omega)
    rwa [Option.map_eq_none_iff] at this
  · rw [Option.map_eq_some_iff] at h3
    obtain ⟨e,h3,rfl⟩:=h3
    refine .inr ⟨j,e,by omega,h3,h4,fun q hq=>?_⟩
    have:=h5 q (Nat.zero_le _) hq
    rwa [Option.map_eq_none_iff] at this
theorem Nc {t:List ByteArray} {lo gl:ByteArray} {n:Nat} {x:gZ} {e:Int} (h:nX t lo gl n x=some e):e ≠ 0:=by
  unfold nX at h
  split at h
  · split at h
    · injection h;omega
    · split at h
      · cases h
      · injection h;omega
  · injection h;omega
theorem Cm (t:List ByteArray) (lo gl:ByteArray) (code:List gZ):(oL t lo gl code).2=0 ↔ headB t lo gl=true∧(1≤code.length∧code.length≤200)∧∀ j,j < code.length→nX t lo gl code.length (code.getD j z55)=none:=by
  unfold oL
  by_cases h1:headB t lo gl=true
  · rw [if_pos h1]
    by_cases h2:1≤code.length∧code.length≤200
    · rw [if_pos h2]
      rcases Ey t lo gl code with ⟨h3,h4⟩|⟨j,e,h3,h4,h5,_⟩
      · rw [h3]
        exact ⟨fun _=>⟨h1,h2,h4⟩,fun _=>rfl⟩
      · rw [h5]
        refine ⟨fun h=>absurd h (Nc h4),fun h=>?_⟩
        rw [h.2.2 j h3] at h4
        cases h4
    · rw [if_neg h2]
      exact ⟨fun h=>by simp at h,fun h=>absurd h.2.1 h2⟩
  · rw [if_neg h1]
    exact ⟨fun h=>by simp at h,fun h=>absurd h.1 h1⟩
end Go.Proofs.YtlemecdddhdagaaDoor.P
end
