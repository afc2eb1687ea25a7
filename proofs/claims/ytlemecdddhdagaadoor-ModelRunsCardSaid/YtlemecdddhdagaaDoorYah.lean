/- Parts of the proof of ModelRuns: what the functions that it reaches compute, and plain facts about that. -/
import Derived.Test.YtlemecdddhdagaaDoorYab
import Derived.Test.YtlemecdddhdagaaDoorYad
import Derived.Test.YtlemecdddhdagaaDoorYaf
import Derived.Test.YtlemecdddhdagaaDoorYag
set_option linter.unusedVariables false
set_option linter.unusedSimpArgs false
section
namespace Go.Proofs.YtlemecdddhdagaaDoor.P
open Go.RowKit Go.Proofs.af.bD Go.Proofs.af.dB Go.Proofs.af.dM
attribute [local go_sem] lq lg mG mF jY jX lh kZ
mutual
def bC.j0:Nat→Int→Bool→List ByteArray→ByteArray→ByteArray→List (iw)→Option (Int × Int)
 | 0,_,_,_,_,_,_=>none
 | k+1,x4,x10,qf,qc,pY,nD=>if x10=true then (some ((-1),5)) else (if x4 < 1 then (some ((-1),3)) else (if x4 > 200 then (some ((-1),3)) else (bC.l0 k nD (nD.length:Int) 0 qf qc pY nD)))
def bC.l0:Nat→List (iw)→Int→Int→List ByteArray→ByteArray→ByteArray→List (iw)→Option (Int × Int)
 | 0,_,_,_,_,_,_,_=>none
 | k+1,x40,x41,pX,qf,qc,pY,nD=>if pX < x41 then (if 0≤pX then (if pX < (x40.length:Int) then ((mJ.f ((aA x40 pX).f0) ((aA x40 pX).f1) ((aA x40 pX).f2) ((aA x40 pX).f3) ((aA x40 pX).f4)).bind fun t165=>(if t165=true then (if ((aA x40 pX).f0)=3 then (if ((aA x40 pX).f4) < 0 then (bC.j2 k pX x40 x41 pX true qf qc pY nD ((aA x40 pX).f0) ((aA x40 pX).f1) ((aA x40 pX).f2) ((aA x40 pX).f3) ((aA x40 pX).f4)) else (bC.j2 k pX x40 x41 pX (decide (((aA x40 pX).f4) > (nD.length:Int))) qf qc pY nD ((aA x40 pX).f0) ((aA x40 pX).f1) ((aA x40 pX).f2) ((aA x40 pX).f3) ((aA x40 pX).f4))) else (if ((aA x40 pX).f0)=4 then (if ((aA x40 pX).f4) < 0 then (bC.j2 k pX x40 x41 pX true qf qc pY nD ((aA x40 pX).f0) ((aA x40 pX).f1) ((aA x40 pX).f2) ((aA x40 pX).f3) ((aA x40 pX).f4)) else (bC.j2 k pX x40 x41 pX (decide (((aA x40 pX).f4) > (nD.length:Int))) qf qc pY nD ((aA x40 pX).f0) ((aA x40 pX).f1) ((aA x40 pX).f2) ((aA x40 pX).f3) ((aA x40 pX).f4))) else (bC.j2 k pX x40 x41 pX false qf qc pY nD ((aA x40 pX).f0) ((aA x40 pX).f1) ((aA x40 pX).f2) ((aA x40 pX).f3) ((aA x40 pX).f4)))) else (some (pX,4)))) else (none)) else (none)) else (some ((-1),0))
def bC.j2:Nat→Int→List (iw)→Int→Int→Bool→List ByteArray→ByteArray→ByteArray→List (iw)→Int→Int→Int→Int→Int→Option (Int × Int)
 | 0,_,_,_,_,_,_,_,_,_,_,_,_,_,_=>none
 | k+1,x5,x40,x41,pX,x52,qf,qc,pY,nD,Tc,S9,SY,SX,SV=>if x52=true then (some (x5,12)) else ((bT.f k qf qc pY nD Tc S9 SY SX SV).bind fun t166=>(if t166=true then (bC.l0 k x40 x41 (wrap64 (pX+1)) qf qc pY nD) else (some (x5,5))))
end
def bC.f (k:Nat) (aZ:List ByteArray) (aU:ByteArray) (aV:ByteArray) (aI:List (iw)):Option (Int × Int):=if aU.size+aV.size≤9223372036854775807 then ((fJ.f k aZ (aU++aV)).bind fun t162=>(if t162=true then (if (aU.size:Int) > 8 then (bC.j0 k (aI.length:Int) true aZ aU aV aI) else (bC.j0 k (aI.length:Int) (decide ((aV.size:Int) > 4)) aZ aU aV aI)) else (bC.j0 k (aI.length:Int) true aZ aU aV aI))) else (none)
theorem bC.iD:∀ k,(∀ y0 y1 y2 y3 y4 y5,dO (bC.j0 k y0 y1 y2 y3 y4 y5) (bC.j0 (k+1) y0 y1 y2 y3 y4 y5))∧(∀ y0 y1 y2 y3 y4 y5 y6,dO (bC.l0 k y0 y1 y2 y3 y4 y5 y6) (bC.l0 (k+1) y0 y1 y2 y3 y4 y5 y6))∧(∀ y0 y1 y2 y3 y4 y5 y6 y7 y8 y9 Aa Hy Hw y13,dO (bC.j2 k y0 y1 y2 y3 y4 y5 y6 y7 y8 y9 Aa Hy Hw y13) (bC.j2 (k+1) y0 y1 y2 y3 y4 y5 y6 y7 y8 y9 Aa Hy Hw y13))
 | 0=>⟨fun _ _ _ _ _ _ r h=>by simp [bC.j0] at h,fun _ _ _ _ _ _ _ r h=>by simp [bC.l0] at h,fun _ _ _ _ _ _ _ _ _ _ _ _ _ _ r h=>by simp [bC.j2] at h⟩
 | k+1=>by
  obtain ⟨lS,ih1,ih2⟩:=bC.iD k
  refine ⟨?_,?_,?_⟩
  ·
   intro y0 y1 y2 y3 y4 y5
   unfold bC.j0
   repeat' with_reducible first|apply lS|apply ih1|apply ih2|apply bT.mono|apply fJ.mono|exact dO.refl _|exact dO.none _|refine dO.ite ?_ ?_|refine dO.bind ?_ (fun _=>?_)
  ·
   intro y0 y1 y2 y3 y4 y5 y6
   unfold bC.l0
   repeat' with_reducible first|apply lS|apply ih1|apply ih2|apply bT.mono|apply fJ.mono|exact dO.refl _|exact dO.none _|refine dO.ite ?_ ?_|refine dO.bind ?_ (fun _=>?_)
  ·
   intro y0 y1 y2 y3 y4 y5 y6 y7 y8 y9 Aa Hy Hw y13
   unfold bC.j2
   repeat' with_reducible first|apply lS|apply ih1|apply ih2|apply bT.mono|apply fJ.mono|exact dO.refl _|exact dO.none _|refine dO.ite ?_ ?_|refine dO.bind ?_ (fun _=>?_)
theorem bC.mono:∀ a0 a1 a2 a3 k,dO (bC.f k a0 a1 a2 a3) (bC.f (k+1) a0 a1 a2 a3):=by
 intro a0 a1 a2 a3 k
 obtain ⟨lS,ih1,ih2⟩:=bC.iD k
 unfold bC.f
 repeat' with_reducible first|apply lS|apply ih1|apply ih2|apply bT.mono|apply fJ.mono|exact dO.refl _|exact dO.none _|refine dO.ite ?_ ?_|refine dO.bind ?_ (fun _=>?_)
set_option maxHeartbeats 8000000 in
set_option maxRecDepth 100000 in
theorem bC.calls (k:Nat) (ed:Option Addr) (dZ:Nat) (aZ:List ByteArray) (aU:ByteArray) (aV:ByteArray) (gm:Option Addr) (eU:Nat) (aI:List (iw)) (r1:Int) (r2:Int) (w:World) (jO:Kd.C Kd.string w ed aZ.length aZ) (jQ:aZ.length≤dZ) (jM:Kd.C uq w gm aI.length aI) (jP:aI.length≤eU) (lQ:Kd.C Kd.string w qZ kP.length kP) (h:bC.f k aZ aU aV aI=some (r1,r2)) :
  Calls Tryd.prog 21 #[.agg #[.slice ed aZ.length dZ,.string aU,.string aV,.slice gm aI.length eU]] w fun e w'=>e=.returned (.tuple #[.int .i64 r1,.int .i64 r2])∧Below w.heap.size w w':=by
 have yx:=Tryd.underlying25
 have BV:=Tryd.underlying55
 have iH:=ae.mk jO
 have iK:=ae.mk jQ
 clear jO jQ
 have jJ:=ae.mk jM
 have kC:=ae.mk jP
 clear jM jP
 have yT:=ae.mk lQ
 clear lQ
 have HB:=ae.mk (Below.refl w.heap.size w)
 have H:(if aU.size+aV.size≤9223372036854775807 then ((fJ.f k aZ (aU++aV)).bind fun t162=>(if t162=true then (if (aU.size:Int) > 8 then (bC.j0 k (aI.length:Int) true aZ aU aV aI) else (bC.j0 k (aI.length:Int) (decide ((aV.size:Int) > 4)) aZ aU aV aI)) else (bC.j0 k (aI.length:Int) true aZ aU aV aI))) else (none))=some (r1,r2):=h
 clear h
 have HC2:=ae.mk H
 clear H
 go_enter Tryd.func21,Tryd.ntmps21
 go_upto_region 2 with (first|((with_reducible refine bI (N:=1) rfl ?_);(try (refine nN (by rfl) ?_;dsimp only));refine fF ?hg (N:=1) ?hd (cs:=#[.slice ed aZ.length dZ,.string aU,.string aV,.slice gm aI.length eU]) (t:=25) ?hr ?_;(case hd=>rfl);(case hg=>rfl);(case hr=>first|(go_simp;done)|(go_simp;rfl));intro jd hg w3 hbox hb;have dV:=ae.mk (bn (by repeat (first|(with_reducible first|exact HB.out|apply ah|apply ag|apply ai)|exact HB.out)) hb);have dU:=ae.mk (hbox);have dR:=ae.mk ((by rw [hg];exact (bU (by repeat (first|(with_reducible first|exact HB.out|apply ah|apply ag|apply ai)|exact HB.out))):w.heap.size≤jd));have gZ:=dR;clear HB;have HB:=dV;have fD:=dU;have apQ:=dR;have l7:=gZ;clear dV dU dR gZ;clear hb hbox hg;have Qv:w3.cell? ⟨jd,0,none⟩=some (.slice ed aZ.length dZ):=(ax fD.out 0).trans rfl;have Qu:w3.cell? ⟨jd,1,none⟩=some (.string aU):=(ax fD.out 1).trans rfl;have Qs:w3.cell? ⟨jd,2,none⟩=some (.string aV):=(ax fD.out 2).trans rfl;have Qr:w3.cell? ⟨jd,3,none⟩=some (.slice gm aI.length eU):=(ax fD.out 3).trans rfl;have Qm:=aC fD.out 0;have Ql:=aC fD.out 1;have Qk:=aC fD.out 2;have Qj:=aC fD.out 3))
 (try simp only [Act.put,List.setIfInBounds_toArray,List.set_cons_zero,List.set_cons_succ])
 go_cut [10] (fun v10 wc=>∃ (kq:Nat) (JJ:Bool),v10=.bool JJ∧ae (bC.j0 kq (aI.length:Int) JJ aZ aU aV aI=some (r1,r2))∧ae (kq≤k)∧ae (wc.heap[jd]? = some (.cells #[(.slice ed aZ.length dZ),.string aU,.string aV,(.slice gm aI.length eU)] 25 (0,0)))∧ae (Below w.heap.size w wc))
 case first =>
  have H:=HC2.out
  clear HC2
  by_cases c5:aU.size+aV.size≤9223372036854775807
  ·
   rw [if_pos c5] at H
   have rG:=eq_true c5
   have OM:decide (aU.size+aV.size≤9223372036854775807)=true:=decide_eq_true c5
   try have arh:(9223372036854775807 < aU.size+aV.size)=False:=eq_false (Nat.not_lt.2 c5)
   replace H:=Option.bind_eq_some_iff.mp H
   obtain ⟨t162,Nw,H⟩:=H
   replace H:(if t162=true then (if (aU.size:Int) > 8 then (bC.j0 k (aI.length:Int) true aZ aU aV aI) else (bC.j0 k (aI.length:Int) (decide ((aV.size:Int) > 4)) aZ aU aV aI)) else (bC.j0 k (aI.length:Int) true aZ aU aV aI))=some (r1,r2):=H
   have A6:=ae.mk Nw
   clear Nw
   by_cases c7:t162=true
   ·
    subst c7
    have H1:(if (aU.size:Int) > 8 then (bC.j0 k (aI.length:Int) true aZ aU aV aI) else (bC.j0 k (aI.length:Int) (decide ((aV.size:Int) > 4)) aZ aU aV aI))=some (r1,r2):=by rw [if_pos rfl] at H;exact H
    clear H
    have H:=H1
    clear H1
    by_cases c8:(aU.size:Int) > 8
    ·
     rw [if_pos c8] at H
     have pM:decide (8 < (aU.size:Int))=true:=decide_eq_true c8
     have zh:decide (8 < aU.size)=true:=decide_eq_true (by omega)
     clear c8
     (first|rw [pM]|(simp only [bW,cu];rw [pM])|skip)
     have H':=ae.mk H
     clear H
     have IY:w3.cell? ⟨jd,0,none⟩=some (.slice ed aZ.length dZ):=(ax fD.out 0).trans rfl
     have IX:w3.cell? ⟨jd,1,none⟩=some (.string aU):=(ax fD.out 1).trans rfl
     have IW:w3.cell? ⟨jd,2,none⟩=some (.string aV):=(ax fD.out 2).trans rfl
     have IV:w3.cell? ⟨jd,3,none⟩=some (.slice gm aI.length eU):=(ax fD.out 3).trans rfl
     have IQ:=aC fD.out 0
     have IP:=aC fD.out 1
     have IM:=aC fD.out 2
     have IL:=aC fD.out 3
     go_wp2_with (first|((with_reducible refine bz (f:=32) rfl ?_);refine dS (some 18) rfl rfl Tryd.func32 (by kernel_rfl) rfl #[.slice ed aZ.length dZ,.string (aU++aV)] rfl (by (try simp only [List.map_toArray,List.map_cons,List.map_nil]);first|done|rfl|(simp only [List.length_drop,List.length_take];rfl)) ?_;(with_reducible refine (fJ.calls k _ _ aZ (aU++aV) true _ ?bZ ?dh A6.out).mono ?_);(case bZ=>repeat (first|exact (Kd.bJ iH.out HB.out)|(with_reducible refine Kd.bP ?_ _)|(with_reducible refine Kd.bQ ?_ _)|(with_reducible refine Kd.dD ?_)));(case dh=>exact iK.out);rintro e w' ⟨rfl,⟨nd,rfl⟩⟩;refine ⟨_,rfl,?_⟩))
     go_meet
     case rel=>exact ⟨_,(true),(by first|rfl|(simp;done)|(simp [*];done)),H',⟨by first|omega|exact Nat.le_refl _⟩,⟨by (with_reducible repeat (first|refine au ?_ _|refine ay ?_|refine ak ?_ _));exact fD.out⟩,⟨by repeat (first|(with_reducible first|exact HB.out|apply ah|apply ag|apply ai|refine aj ?_ l7.out)|exact HB.out)⟩⟩
    ·
     rw [if_neg c8] at H
     have pM:decide (8 < (aU.size:Int))=false:=decide_eq_false c8
     have zh:decide (8 < aU.size)=false:=decide_eq_false (by omega)
     clear c8
     (first|rw [pM]|(simp only [bW,cu];rw [pM])|skip)
     have H':=ae.mk H
     clear H
     have xM:w3.cell? ⟨jd,0,none⟩=some (.slice ed aZ.length dZ):=(ax fD.out 0).trans rfl
     have xK:w3.cell? ⟨jd,1,none⟩=some (.string aU):=(ax fD.out 1).trans rfl
     have xJ:w3.cell? ⟨jd,2,none⟩=some (.string aV):=(ax fD.out 2).trans rfl
     have xI:w3.cell? ⟨jd,3,none⟩=some (.slice gm aI.length eU):=(ax fD.out 3).trans rfl
     have xH:=aC fD.out 0
     have xG:=aC fD.out 1
     have xE:=aC fD.out 2
     have xC:=aC fD.out 3
     go_wp2_with (first|((with_reducible refine bz (f:=32) rfl ?_);refine dS (some 18) rfl rfl Tryd.func32 (by kernel_rfl) rfl #[.slice ed aZ.length dZ,.string (aU++aV)] rfl (by (try simp only [List.map_toArray,List.map_cons,List.map_nil]);first|done|rfl|(simp only [List.length_drop,List.length_take];rfl)) ?_;(with_reducible refine (fJ.calls k _ _ aZ (aU++aV) true _ ?bZ ?dh A6.out).mono ?_);(case bZ=>repeat (first|exact (Kd.bJ iH.out HB.out)|(with_reducible refine Kd.bP ?_ _)|(with_reducible refine Kd.bQ ?_ _)|(with_reducible refine Kd.dD ?_)));(case dh=>exact iK.out);rintro e w' ⟨rfl,⟨nd,rfl⟩⟩;refine ⟨_,rfl,?_⟩))
     go_meet
     case rel=>exact ⟨_,(decide ((aV.size:Int) > 4)),(by first|rfl|(simp;done)|(simp [*];done)),H',⟨by first|omega|exact Nat.le_refl _⟩,⟨by (with_reducible repeat (first|refine au ?_ _|refine ay ?_|refine ak ?_ _));exact fD.out⟩,⟨by repeat (first|(with_reducible first|exact HB.out|apply ah|apply ag|apply ai|refine aj ?_ l7.out)|exact HB.out)⟩⟩
   ·
    replace c7:=Bool.eq_false_iff.mpr c7
    subst c7
    have H1:(bC.j0 k (aI.length:Int) true aZ aU aV aI)=some (r1,r2):=by rw [if_neg (show ¬ (false=true) by decide)] at H;exact H
    clear H
    have H:=H1
    clear H1
    have H':=ae.mk H
    clear H
    have zS:w3.cell? ⟨jd,0,none⟩=some (.slice ed aZ.length dZ):=(ax fD.out 0).trans rfl
    have zQ:w3.cell? ⟨jd,1,none⟩=some (.string aU):=(ax fD.out 1).trans rfl
    have zO:w3.cell? ⟨jd,2,none⟩=some (.string aV):=(ax fD.out 2).trans rfl
    have zN:w3.cell? ⟨jd,3,none⟩=some (.slice gm aI.length eU):=(ax fD.out 3).trans rfl
    have zI:=aC fD.out 0
    have zH:=aC fD.out 1
    have zG:=aC fD.out 2
    have zF:=aC fD.out 3
    go_wp2_with (first|((with_reducible refine bz (f:=32) rfl ?_);refine dS (some 18) rfl rfl Tryd.func32 (by kernel_rfl) rfl #[.slice ed aZ.length dZ,.string (aU++aV)] rfl (by (try simp only [List.map_toArray,List.map_cons,List.map_nil]);first|done|rfl|(simp only [List.length_drop,List.length_take];rfl)) ?_;(with_reducible refine (fJ.calls k _ _ aZ (aU++aV) false _ ?bZ ?dh A6.out).mono ?_);(case bZ=>repeat (first|exact (Kd.bJ iH.out HB.out)|(with_reducible refine Kd.bP ?_ _)|(with_reducible refine Kd.bQ ?_ _)|(with_reducible refine Kd.dD ?_)));(case dh=>exact iK.out);rintro e w' ⟨rfl,⟨nd,rfl⟩⟩;refine ⟨_,rfl,?_⟩))
    go_meet
    case rel=>exact ⟨_,(true),(by first|rfl|(simp;done)|(simp [*];done)),H',⟨by first|omega|exact Nat.le_refl _⟩,⟨by (with_reducible repeat (first|refine au ?_ _|refine ay ?_|refine ak ?_ _));exact fD.out⟩,⟨by repeat (first|(with_reducible first|exact HB.out|apply ah|apply ag|apply ai|refine aj ?_ l7.out)|exact HB.out)⟩⟩
  ·
   rw [if_neg c5] at H
   exact absurd H (by simp)
 case rest =>
  clear HC2
  obtain ⟨kq,JJ,rfl,HA,yH,fD,HB⟩:=hcut
  cases kq with
  | zero=>exact absurd HA.out (by simp [bC.j0])
  | succ OV =>
   have H:=HA.out
   clear HA
   simp only [bC.j0] at H
   by_cases c12:JJ=true
   ·
    subst c12
    have H1:(some ((-1),5))=some (r1,r2):=by rw [if_pos rfl] at H;exact H
    clear H
    have H:=H1
    clear H1
    simp only [Option.some.injEq,Prod.mk.injEq] at H
    obtain ⟨rfl,rfl⟩:=H
    go_wp2
    go_ret2
    exact ⟨by first|rfl|(simp [aQ,aN] <;> rfl)|(simp [*,aQ,aN] <;> rfl),by repeat (first|(with_reducible first|exact HB.out|apply ah|apply ag|apply ai|refine aj ?_ l7.out)|exact HB.out)⟩
   ·
    replace c12:=Bool.eq_false_iff.mpr c12
    subst c12
    have H1:(if (aI.length:Int) < 1 then (some ((-1),3)) else (if (aI.length:Int) > 200 then (some ((-1),3)) else (bC.l0 OV aI (aI.length:Int) 0 aZ aU aV aI)))=some (r1,r2):=by rw [if_neg (show ¬ (false=true) by decide)] at H;exact H
    clear H
    have H:=H1
    clear H1
    by_cases c13:(aI.length:Int) < 1
    ·
     rw [if_pos c13] at H
     have mQ:decide ((aI.length:Int) < 1)=true:=decide_eq_true c13
     have xU:decide (aI.length < 1)=true:=decide_eq_true (by omega)
     clear c13
     simp only [Option.some.injEq,Prod.mk.injEq] at H
     obtain ⟨rfl,rfl⟩:=H
     go_wp2
     go_ret2
     exact ⟨by first|rfl|(simp [aQ,aN] <;> rfl)|(simp [*,aQ,aN] <;> rfl),by repeat (first|(with_reducible first|exact HB.out|apply ah|apply ag|apply ai|refine aj ?_ l7.out)|exact HB.out)⟩
    ·
     rw [if_neg c13] at H
     have mQ:decide ((aI.length:Int) < 1)=false:=decide_eq_false c13
     have xU:decide (aI.length < 1)=false:=decide_eq_false (by omega)
     clear c13
     by_cases c14:(aI.length:Int) > 200
     ·
      rw [if_pos c14] at H
      have DC:decide (200 < (aI.length:Int))=true:=decide_eq_true c14
      have GX:decide (200 < aI.length)=true:=decide_eq_true (by omega)
      clear c14
      simp only [Option.some.injEq,Prod.mk.injEq] at H
      obtain ⟨rfl,rfl⟩:=H
      go_wp2
      go_ret2
      exact ⟨by first|rfl|(simp [aQ,aN] <;> rfl)|(simp [*,aQ,aN] <;> rfl),by repeat (first|(with_reducible first|exact HB.out|apply ah|apply ag|apply ai|refine aj ?_ l7.out)|exact HB.out)⟩
     ·
      rw [if_neg c14] at H
      have DC:decide (200 < (aI.length:Int))=false:=decide_eq_false c14
      have GX:decide (200 < aI.length)=false:=decide_eq_false (by omega)
      clear c14
      have H':=ae.mk H
      clear H
      have Xv:wc.cell? ⟨jd,0,none⟩=some (.slice ed aZ.length dZ):=(ax fD.out 0).trans rfl
      have Xu:wc.cell? ⟨jd,1,none⟩=some (.string aU):=(ax fD.out 1).trans rfl
      have Xt:wc.cell? ⟨jd,2,none⟩=some (.string aV):=(ax fD.out 2).trans rfl
      have Xr:wc.cell? ⟨jd,3,none⟩=some (.slice gm aI.length eU):=(ax fD.out 3).trans rfl
      have VF:=aC fD.out 0
      have VE:=aC fD.out 1
      have VD:=aC fD.out 2
      have VC:=aC fD.out 3
      go_wp2
      go_loopg [42] OV (fun kq v42 w'=>∃ (bF:Int),v42=.int .i64 bF∧ae (bC.l0 kq aI (aI.length:Int) bF aZ aU aV aI=some (r1,r2))∧ae (kq≤OV)∧ae (w'.heap[jd]? = some (.cells #[(.slice ed aZ.length dZ),.string aU,.string aV,(.slice gm aI.length eU)] 25 (0,0)))∧ae (Below w.heap.size w w'))
      case atStart=>exact ⟨(0),(by first|rfl|(simp;done)|(simp [*];done)),H',⟨Nat.le_refl _⟩,⟨by (with_reducible repeat (first|refine au ?_ _|refine ay ?_|refine ak ?_ _));exact fD.out⟩,⟨by repeat (first|(with_reducible first|exact HB.out|apply ah|apply ag|apply ai|refine aj ?_ l7.out)|exact HB.out)⟩⟩
      case round =>
       clear H'
       obtain ⟨bF,rfl,HA,wK,fD,HB⟩:=hrel
       cases gk with
       | zero=>exact absurd HA.out (by simp [bC.l0])
       | succ k2 =>
        have H:=HA.out
        clear HA
        simp only [bC.l0] at H
        by_cases c16:bF < (aI.length:Int)
        ·
         rw [if_pos c16] at H
         have Bo:decide (bF < (aI.length:Int))=true:=decide_eq_true c16
         clear c16
         by_cases c17:0≤bF
         ·
          rw [if_pos c17] at H
          have yQ:decide (0≤bF)=true:=decide_eq_true c17
          clear c17
          by_cases c18:bF < (aI.length:Int)
          ·
           rw [if_pos c18] at H
           have YZ:decide (bF < (aI.length:Int))=true:=decide_eq_true c18
           clear c18
           replace H:=Option.bind_eq_some_iff.mp H
           obtain ⟨t165,Ho,H⟩:=H
           replace H:(if t165=true then (if ((aA aI bF).f0)=3 then (if ((aA aI bF).f4) < 0 then (bC.j2 k2 bF aI (aI.length:Int) bF true aZ aU aV aI ((aA aI bF).f0) ((aA aI bF).f1) ((aA aI bF).f2) ((aA aI bF).f3) ((aA aI bF).f4)) else (bC.j2 k2 bF aI (aI.length:Int) bF (decide (((aA aI bF).f4) > (aI.length:Int))) aZ aU aV aI ((aA aI bF).f0) ((aA aI bF).f1) ((aA aI bF).f2) ((aA aI bF).f3) ((aA aI bF).f4))) else (if ((aA aI bF).f0)=4 then (if ((aA aI bF).f4) < 0 then (bC.j2 k2 bF aI (aI.length:Int) bF true aZ aU aV aI ((aA aI bF).f0) ((aA aI bF).f1) ((aA aI bF).f2) ((aA aI bF).f3) ((aA aI bF).f4)) else (bC.j2 k2 bF aI (aI.length:Int) bF (decide (((aA aI bF).f4) > (aI.length:Int))) aZ aU aV aI ((aA aI bF).f0) ((aA aI bF).f1) ((aA aI bF).f2) ((aA aI bF).f3) ((aA aI bF).f4))) else (bC.j2 k2 bF aI (aI.length:Int) bF false aZ aU aV aI ((aA aI bF).f0) ((aA aI bF).f1) ((aA aI bF).f2) ((aA aI bF).f3) ((aA aI bF).f4)))) else (some (bF,4)))=some (r1,r2):=H
           have Sv:=ae.mk Ho
           clear Ho
           by_cases c20:t165=true
           ·
            subst c20
            have H1:(if ((aA aI bF).f0)=3 then (if ((aA aI bF).f4) < 0 then (bC.j2 k2 bF aI (aI.length:Int) bF true aZ aU aV aI ((aA aI bF).f0) ((aA aI bF).f1) ((aA aI bF).f2) ((aA aI bF).f3) ((aA aI bF).f4)) else (bC.j2 k2 bF aI (aI.length:Int) bF (decide (((aA aI bF).f4) > (aI.length:Int))) aZ aU aV aI ((aA aI bF).f0) ((aA aI bF).f1) ((aA aI bF).f2) ((aA aI bF).f3) ((aA aI bF).f4))) else (if ((aA aI bF).f0)=4 then (if ((aA aI bF).f4) < 0 then (bC.j2 k2 bF aI (aI.length:Int) bF true aZ aU aV aI ((aA aI bF).f0) ((aA aI bF).f1) ((aA aI bF).f2) ((aA aI bF).f3) ((aA aI bF).f4)) else (bC.j2 k2 bF aI (aI.length:Int) bF (decide (((aA aI bF).f4) > (aI.length:Int))) aZ aU aV aI ((aA aI bF).f0) ((aA aI bF).f1) ((aA aI bF).f2) ((aA aI bF).f3) ((aA aI bF).f4))) else (bC.j2 k2 bF aI (aI.length:Int) bF false aZ aU aV aI ((aA aI bF).f0) ((aA aI bF).f1) ((aA aI bF).f2) ((aA aI bF).f3) ((aA aI bF).f4))))=some (r1,r2):=by rw [if_pos rfl] at H;exact H
            clear H
            have H:=H1
            clear H1
            have Jl:=ae.mk H
            clear H
            have Ir:0≤(bF:Int):=of_decide_eq_true (by first|(with_reducible assumption)|assumption)
            have Ic:bF < (aI.length:Int):=of_decide_eq_true (by first|(with_reducible assumption)|assumption)
            obtain ⟨qL,aas,um,uk,uj,ui,uh⟩:=Bv jJ.out bF Ir Ic
            cases aas
            replace um:=(HB.out.cell (World.block_lt_of_cell? w _ um)).trans um
            replace uk:=(HB.out.cell (World.block_lt_of_cell? w _ uk)).trans uk
            replace uj:=(HB.out.cell (World.block_lt_of_cell? w _ uj)).trans uj
            replace ui:=(HB.out.cell (World.block_lt_of_cell? w _ ui)).trans ui
            replace uh:=(HB.out.cell (World.block_lt_of_cell? w _ uh)).trans uh
            replace Ir:=eq_true Ir
            replace Ic:=eq_true Ic
            go_upto_region 11 with (first|((with_reducible refine bI (N:=6) rfl ?_);(try (refine nN (by rfl) ?_;dsimp only));refine fF ?hg (N:=6) ?hd (cs:=#[.int .u8 0,.int .u8 0,.int .u8 0,.int .u8 0,.int .i64 0]) (t:=55) ?hr ?_;(case hd=>rfl);(case hg=>rfl);(case hr=>first|(go_simp;done)|(go_simp;rfl));intro iQ hg Zl hbox hb;have dV:=ae.mk (bg (g:=jd) (o:=.cells #[.slice ed aZ.length dZ,.string aU,.string aV,.slice (some qL) aI.length eU] 25 (0,0)) (by (with_reducible repeat (first|refine au ?_ _|refine ay ?_|refine ak ?_ _));exact fD.out) hb);have dU:=ae.mk (bn (by repeat (first|(with_reducible first|exact HB.out|apply ah|apply ag|apply ai|refine aj ?_ l7.out)|exact HB.out)) hb);have dR:=ae.mk (hbox);have gZ:=ae.mk ((by rw [hg];exact (bU (by repeat (first|(with_reducible first|exact HB.out|apply ah|apply ag|apply ai|refine aj ?_ l7.out)|exact HB.out))):w.heap.size≤iQ));have l9:=gZ;have mY:=ae.mk ((by rw [hg];exact Nat.ne_of_lt (kK (g:=jd) (o:=.cells #[.slice ed aZ.length dZ,.string aU,.string aV,.slice (some qL) aI.length eU] 25 (0,0)) (by (with_reducible repeat (first|refine au ?_ _|refine ay ?_|refine ak ?_ _));exact fD.out)):jd ≠ iQ));have nY:=ae.mk mY.out.symm;clear fD;clear HB;have fD:=dV;have HB:=dU;have eQ:=dR;have afe:=gZ;have qP:=l9;have jg:=mY;have ng:=nY;clear dV dU dR gZ l9 mY nY;clear hb hbox hg;have acC:=ng.out;have acr:=jg.out;have Xg:Zl.cell? ⟨iQ,0,none⟩=some (.int .u8 0):=(ax eQ.out 0).trans rfl;have Xf:Zl.cell? ⟨iQ,1,none⟩=some (.int .u8 0):=(ax eQ.out 1).trans rfl;have Xe:Zl.cell? ⟨iQ,2,none⟩=some (.int .u8 0):=(ax eQ.out 2).trans rfl;have Xd:Zl.cell? ⟨iQ,3,none⟩=some (.int .u8 0):=(ax eQ.out 3).trans rfl;have Xc:Zl.cell? ⟨iQ,4,none⟩=some (.int .i64 0):=(ax eQ.out 4).trans rfl;have Vq:=aC eQ.out 0;have Vp:=aC eQ.out 1;have Vo:=aC eQ.out 2;have Vm:=aC eQ.out 3;have Vl:=aC eQ.out 4)|((with_reducible refine bz (f:=33) rfl ?_);refine dS (some 49) rfl rfl Tryd.func33 (by kernel_rfl) rfl #[.agg #[.int .u8 ((aA aI bF).f0),.int .u8 ((aA aI bF).f1),.int .u8 ((aA aI bF).f2),.int .u8 ((aA aI bF).f3),.int .i64 ((aA aI bF).f4)]] rfl (by (try simp only [List.map_toArray,List.map_cons,List.map_nil]);first|done|rfl|(simp only [List.length_drop,List.length_take];rfl)) ?_;(with_reducible refine (mJ.calls ((aA aI bF).f0) ((aA aI bF).f1) ((aA aI bF).f2) ((aA aI bF).f3) ((aA aI bF).f4) true _ ?bZ Sv.out).mono ?_);(case bZ=>exact Kd.bJ yT.out (by repeat (first|(with_reducible first|exact HB.out|apply ah|apply ag|apply ai|refine aj ?_ l7.out|refine aj ?_ qP.out)|exact HB.out)));rintro e qW ⟨rfl,hb⟩;refine ⟨_,rfl,?_⟩;have dV:=ae.mk (bg (g:=jd) (o:=.cells #[.slice ed aZ.length dZ,.string aU,.string aV,.slice (some qL) aI.length eU] 25 (0,0)) (by (with_reducible repeat (first|refine au ?_ _|refine ay ?_|refine ak ?_ _));refine fV ?_ jg.out _;(with_reducible repeat (first|refine au ?_ _|refine ay ?_|refine ak ?_ _));refine fV ?_ jg.out _;(with_reducible repeat (first|refine au ?_ _|refine ay ?_|refine ak ?_ _));refine fV ?_ jg.out _;(with_reducible repeat (first|refine au ?_ _|refine ay ?_|refine ak ?_ _));refine fV ?_ jg.out _;(with_reducible repeat (first|refine au ?_ _|refine ay ?_|refine ak ?_ _));refine fV ?_ jg.out _;(with_reducible repeat (first|refine au ?_ _|refine ay ?_|refine ak ?_ _));exact fD.out) hb);have dU:=ae.mk (bg (g:=iQ) (o:=.cells #[.int .u8 ((aA aI bF).f0),.int .u8 ((aA aI bF).f1),.int .u8 ((aA aI bF).f2),.int .u8 ((aA aI bF).f3),.int .i64 ((aA aI bF).f4)] 55 (0,0)) (by (with_reducible repeat (first|refine au ?_ _|refine ay ?_|refine ak ?_ _));refine dQ (cs:=#[.int .u8 ((aA aI bF).f0),.int .u8 ((aA aI bF).f1),.int .u8 ((aA aI bF).f2),.int .u8 ((aA aI bF).f3),.int .i64 0]) ?_ 4 _ rfl;(with_reducible repeat (first|refine au ?_ _|refine ay ?_|refine ak ?_ _));refine dQ (cs:=#[.int .u8 ((aA aI bF).f0),.int .u8 ((aA aI bF).f1),.int .u8 ((aA aI bF).f2),.int .u8 0,.int .i64 0]) ?_ 3 _ rfl;(with_reducible repeat (first|refine au ?_ _|refine ay ?_|refine ak ?_ _));refine dQ (cs:=#[.int .u8 ((aA aI bF).f0),.int .u8 ((aA aI bF).f1),.int .u8 0,.int .u8 0,.int .i64 0]) ?_ 2 _ rfl;(with_reducible repeat (first|refine au ?_ _|refine ay ?_|refine ak ?_ _));refine dQ (cs:=#[.int .u8 ((aA aI bF).f0),.int .u8 0,.int .u8 0,.int .u8 0,.int .i64 0]) ?_ 1 _ rfl;(with_reducible repeat (first|refine au ?_ _|refine ay ?_|refine ak ?_ _));refine dQ (cs:=#[.int .u8 0,.int .u8 0,.int .u8 0,.int .u8 0,.int .i64 0]) ?_ 0 _ rfl;(with_reducible repeat (first|refine au ?_ _|refine ay ?_|refine ak ?_ _));exact eQ.out) hb);have dR:=ae.mk (bn (by repeat (first|(with_reducible first|exact HB.out|apply ah|apply ag|apply ai|refine aj ?_ l7.out|refine aj ?_ qP.out)|exact HB.out)) hb);clear fD;clear eQ;clear HB;have fD:=dV;have eQ:=dU;have HB:=dR;clear dV dU dR;(try clear hb);(try clear hb2);(try clear hk);(try clear hi)))
            (try simp only [Act.put,List.setIfInBounds_toArray,List.set_cons_zero,List.set_cons_succ])
            go_cut [52] (fun v52 wc=>∃ (kq:Nat) (DR:Bool),v52=.bool DR∧ae (bC.j2 kq bF aI (aI.length:Int) bF DR aZ aU aV aI ((aA aI bF).f0) ((aA aI bF).f1) ((aA aI bF).f2) ((aA aI bF).f3) ((aA aI bF).f4)=some (r1,r2))∧ae (kq≤k2)∧ae (wc.heap[jd]? = some (.cells #[(.slice ed aZ.length dZ),.string aU,.string aV,(.slice (some qL) aI.length eU)] 25 (0,0)))∧ae (wc.heap[iQ]? = some (.cells #[.int .u8 ((aA aI bF).f0),.int .u8 ((aA aI bF).f1),.int .u8 ((aA aI bF).f2),.int .u8 ((aA aI bF).f3),.int .i64 ((aA aI bF).f4)] 55 (0,0)))∧ae (Below w.heap.size w wc))
            case first =>
             have H:=Jl.out
             clear Jl
             by_cases I8:((aA aI bF).f0)=3
             ·
              rw [if_pos I8] at H
              have uT:(((aA aI bF).f0) == 3)=true:=beq_iff_eq.mpr I8
              have Q9:(((aA aI bF).f0) != 3)=false:=bne_eq_false_iff_eq.mpr I8
              clear I8
              (first|rw [uT]|(simp only [bW,cu];rw [uT])|skip)
              by_cases c27:((aA aI bF).f4) < 0
              ·
               rw [if_pos c27] at H
               have aes:decide (((aA aI bF).f4) < 0)=true:=decide_eq_true c27
               clear c27
               have H':=ae.mk H
               clear H
               have aoD:=ng.out
               have aoc:=jg.out
               have Xa:qW.cell? ⟨iQ,0,none⟩=some (.int .u8 ((aA aI bF).f0)):=(ax eQ.out 0).trans rfl
               have W9:qW.cell? ⟨iQ,1,none⟩=some (.int .u8 ((aA aI bF).f1)):=(ax eQ.out 1).trans rfl
               have WZ:qW.cell? ⟨iQ,2,none⟩=some (.int .u8 ((aA aI bF).f2)):=(ax eQ.out 2).trans rfl
               have WY:qW.cell? ⟨iQ,3,none⟩=some (.int .u8 ((aA aI bF).f3)):=(ax eQ.out 3).trans rfl
               have WX:qW.cell? ⟨iQ,4,none⟩=some (.int .i64 ((aA aI bF).f4)):=(ax eQ.out 4).trans rfl
               have Vj:=aC eQ.out 0
               have Vh:=aC eQ.out 1
               have Vg:=aC eQ.out 2
               have Vf:=aC eQ.out 3
               have Ve:=aC eQ.out 4
               go_wp2
               go_meet
               case rel=>exact ⟨_,(true),(by first|rfl|(simp;done)|(simp [*];done)),H',⟨by have:=yH.out;have:=wK.out;first|omega|exact Nat.le_refl _⟩,⟨by (with_reducible repeat (first|refine au ?_ _|refine ay ?_|refine ak ?_ _));exact fD.out⟩,⟨by (with_reducible repeat (first|refine au ?_ _|refine ay ?_|refine ak ?_ _));exact eQ.out⟩,⟨by repeat (first|(with_reducible first|exact HB.out|apply ah|apply ag|apply ai|refine aj ?_ l7.out|refine aj ?_ qP.out)|exact HB.out)⟩⟩
              ·
               rw [if_neg c27] at H
               have aes:decide (((aA aI bF).f4) < 0)=false:=decide_eq_false c27
               clear c27
               have H':=ae.mk H
               clear H
               have aoB:=ng.out
               have aoa:=jg.out
               have alc:qW.cell? ⟨iQ,0,none⟩=some (.int .u8 ((aA aI bF).f0)):=(ax eQ.out 0).trans rfl
               have alb:qW.cell? ⟨iQ,1,none⟩=some (.int .u8 ((aA aI bF).f1)):=(ax eQ.out 1).trans rfl
               have ala:qW.cell? ⟨iQ,2,none⟩=some (.int .u8 ((aA aI bF).f2)):=(ax eQ.out 2).trans rfl
               have ak9:qW.cell? ⟨iQ,3,none⟩=some (.int .u8 ((aA aI bF).f3)):=(ax eQ.out 3).trans rfl
               have ak8:qW.cell? ⟨iQ,4,none⟩=some (.int .i64 ((aA aI bF).f4)):=(ax eQ.out 4).trans rfl
               have aiX:=aC eQ.out 0
               have aiW:=aC eQ.out 1
               have aiV:=aC eQ.out 2
               have aiU:=aC eQ.out 3
               have aiT:=aC eQ.out 4
               have ak7:qW.cell? ⟨jd,0,none⟩=some (.slice ed aZ.length dZ):=(ax fD.out 0).trans rfl
               have ak6:qW.cell? ⟨jd,1,none⟩=some (.string aU):=(ax fD.out 1).trans rfl
               have ak5:qW.cell? ⟨jd,2,none⟩=some (.string aV):=(ax fD.out 2).trans rfl
               have ak4:qW.cell? ⟨jd,3,none⟩=some (.slice (some qL) aI.length eU):=(ax fD.out 3).trans rfl
               have aiS:=aC fD.out 0
               have aiR:=aC fD.out 1
               have aiQ:=aC fD.out 2
               have aiP:=aC fD.out 3
               go_wp2
               go_meet
               case rel=>exact ⟨_,(decide (((aA aI bF).f4) > (aI.length:Int))),(by first|rfl|(simp;done)|(simp [*];done)),H',⟨by have:=yH.out;have:=wK.out;first|omega|exact Nat.le_refl _⟩,⟨by (with_reducible repeat (first|refine au ?_ _|refine ay ?_|refine ak ?_ _));exact fD.out⟩,⟨by (with_reducible repeat (first|refine au ?_ _|refine ay ?_|refine ak ?_ _));exact eQ.out⟩,⟨by repeat (first|(with_reducible first|exact HB.out|apply ah|apply ag|apply ai|refine aj ?_ l7.out|refine aj ?_ qP.out)|exact HB.out)⟩⟩
             ·
              rw [if_neg I8] at H
              have uT:(((aA aI bF).f0) == 3)=false:=beq_eq_false_iff_ne.mpr I8
              have Q9:(((aA aI bF).f0) != 3)=true:=bne_iff_ne.mpr I8
              (first|rw [uT]|(simp only [bW,cu];rw [uT])|skip)
              by_cases c33:((aA aI bF).f0)=4
              ·
               rw [if_pos c33] at H
               have aen:(((aA aI bF).f0) == 4)=true:=beq_iff_eq.mpr c33
               have aem:(((aA aI bF).f0) != 4)=false:=bne_eq_false_iff_eq.mpr c33
               clear c33
               by_cases c34:((aA aI bF).f4) < 0
               ·
                rw [if_pos c34] at H
                have Q7:decide (((aA aI bF).f4) < 0)=true:=decide_eq_true c34
                clear c34
                have H':=ae.mk H
                clear H
                have aoy:=ng.out
                have an7:=jg.out
                have WV:qW.cell? ⟨iQ,0,none⟩=some (.int .u8 ((aA aI bF).f0)):=(ax eQ.out 0).trans rfl
                have WU:qW.cell? ⟨iQ,1,none⟩=some (.int .u8 ((aA aI bF).f1)):=(ax eQ.out 1).trans rfl
                have WT:qW.cell? ⟨iQ,2,none⟩=some (.int .u8 ((aA aI bF).f2)):=(ax eQ.out 2).trans rfl
                have WS:qW.cell? ⟨iQ,3,none⟩=some (.int .u8 ((aA aI bF).f3)):=(ax eQ.out 3).trans rfl
                have WR:qW.cell? ⟨iQ,4,none⟩=some (.int .i64 ((aA aI bF).f4)):=(ax eQ.out 4).trans rfl
                have Vb:=aC eQ.out 0
                have Va:=aC eQ.out 1
                have U9:=aC eQ.out 2
                have U8:=aC eQ.out 3
                have U7:=aC eQ.out 4
                go_wp2
                go_meet
                case rel=>exact ⟨_,(true),(by first|rfl|(simp;done)|(simp [*];done)),H',⟨by have:=yH.out;have:=wK.out;first|omega|exact Nat.le_refl _⟩,⟨by (with_reducible repeat (first|refine au ?_ _|refine ay ?_|refine ak ?_ _));exact fD.out⟩,⟨by (with_reducible repeat (first|refine au ?_ _|refine ay ?_|refine ak ?_ _));exact eQ.out⟩,⟨by repeat (first|(with_reducible first|exact HB.out|apply ah|apply ag|apply ai|refine aj ?_ l7.out|refine aj ?_ qP.out)|exact HB.out)⟩⟩
               ·
                rw [if_neg c34] at H
                have Q7:decide (((aA aI bF).f4) < 0)=false:=decide_eq_false c34
                clear c34
                have H':=ae.mk H
                clear H
                have aox:=ng.out
                have an6:=jg.out
                have akY:qW.cell? ⟨iQ,0,none⟩=some (.int .u8 ((aA aI bF).f0)):=(ax eQ.out 0).trans rfl
                have akX:qW.cell? ⟨iQ,1,none⟩=some (.int .u8 ((aA aI bF).f1)):=(ax eQ.out 1).trans rfl
                have akW:qW.cell? ⟨iQ,2,none⟩=some (.int .u8 ((aA aI bF).f2)):=(ax eQ.out 2).trans rfl
                have akV:qW.cell? ⟨iQ,3,none⟩=some (.int .u8 ((aA aI bF).f3)):=(ax eQ.out 3).trans rfl
                have akU:qW.cell? ⟨iQ,4,none⟩=some (.int .i64 ((aA aI bF).f4)):=(ax eQ.out 4).trans rfl
                have aiJ:=aC eQ.out 0
                have aiI:=aC eQ.out 1
                have aiH:=aC eQ.out 2
                have aiG:=aC eQ.out 3
                have aiF:=aC eQ.out 4
                have WQ:qW.cell? ⟨jd,0,none⟩=some (.slice ed aZ.length dZ):=(ax fD.out 0).trans rfl
                have WO:qW.cell? ⟨jd,1,none⟩=some (.string aU):=(ax fD.out 1).trans rfl
                have WN:qW.cell? ⟨jd,2,none⟩=some (.string aV):=(ax fD.out 2).trans rfl
                have WM:qW.cell? ⟨jd,3,none⟩=some (.slice (some qL) aI.length eU):=(ax fD.out 3).trans rfl
                have U6:=aC fD.out 0
                have U5:=aC fD.out 1
                have U4:=aC fD.out 2
                have U3:=aC fD.out 3
                go_wp2
                go_meet
                case rel=>exact ⟨_,(decide (((aA aI bF).f4) > (aI.length:Int))),(by first|rfl|(simp;done)|(simp [*];done)),H',⟨by have:=yH.out;have:=wK.out;first|omega|exact Nat.le_refl _⟩,⟨by (with_reducible repeat (first|refine au ?_ _|refine ay ?_|refine ak ?_ _));exact fD.out⟩,⟨by (with_reducible repeat (first|refine au ?_ _|refine ay ?_|refine ak ?_ _));exact eQ.out⟩,⟨by repeat (first|(with_reducible first|exact HB.out|apply ah|apply ag|apply ai|refine aj ?_ l7.out|refine aj ?_ qP.out)|exact HB.out)⟩⟩
              ·
               rw [if_neg c33] at H
               have aen:(((aA aI bF).f0) == 4)=false:=beq_eq_false_iff_ne.mpr c33
               have aem:(((aA aI bF).f0) != 4)=true:=bne_iff_ne.mpr c33
               have H':=ae.mk H
               clear H
               have aou:=ng.out
               have an3:=jg.out
               have akN:qW.cell? ⟨iQ,0,none⟩=some (.int .u8 ((aA aI bF).f0)):=(ax eQ.out 0).trans rfl
               have akM:qW.cell? ⟨iQ,1,none⟩=some (.int .u8 ((aA aI bF).f1)):=(ax eQ.out 1).trans rfl
               have akL:qW.cell? ⟨iQ,2,none⟩=some (.int .u8 ((aA aI bF).f2)):=(ax eQ.out 2).trans rfl
               have akK:qW.cell? ⟨iQ,3,none⟩=some (.int .u8 ((aA aI bF).f3)):=(ax eQ.out 3).trans rfl
               have akJ:qW.cell? ⟨iQ,4,none⟩=some (.int .i64 ((aA aI bF).f4)):=(ax eQ.out 4).trans rfl
               have aiy:=aC eQ.out 0
               have aix:=aC eQ.out 1
               have aiw:=aC eQ.out 2
               have aiv:=aC eQ.out 3
               have aiu:=aC eQ.out 4
               go_wp2
               go_meet
               case rel=>exact ⟨_,(false),(by first|rfl|(simp;done)|(simp [*];done)),H',⟨by have:=yH.out;have:=wK.out;first|omega|exact Nat.le_refl _⟩,⟨by (with_reducible repeat (first|refine au ?_ _|refine ay ?_|refine ak ?_ _));exact fD.out⟩,⟨by (with_reducible repeat (first|refine au ?_ _|refine ay ?_|refine ak ?_ _));exact eQ.out⟩,⟨by repeat (first|(with_reducible first|exact HB.out|apply ah|apply ag|apply ai|refine aj ?_ l7.out|refine aj ?_ qP.out)|exact HB.out)⟩⟩
            case rest =>
             clear Jl
             obtain ⟨kq,DR,rfl,HA,He,fD,eQ,HB⟩:=hcut
             cases kq with
             | zero=>exact absurd HA.out (by simp [bC.j2])
             | succ sG =>
              have H:=HA.out
              clear HA
              simp only [bC.j2] at H
              by_cases c42:DR=true
              ·
               subst c42
               have H1:(some (bF,12))=some (r1,r2):=by rw [if_pos rfl] at H;exact H
               clear H
               have H:=H1
               clear H1
               simp only [Option.some.injEq,Prod.mk.injEq] at H
               obtain ⟨rfl,rfl⟩:=H
               go_wp2
               go_ret2
               exact ⟨by first|rfl|(simp [aQ,aN] <;> rfl)|(simp [*,aQ,aN] <;> rfl),by repeat (first|(with_reducible first|exact HB.out|apply ah|apply ag|apply ai|refine aj ?_ l7.out|refine aj ?_ qP.out)|exact HB.out)⟩
              ·
               replace c42:=Bool.eq_false_iff.mpr c42
               subst c42
               have H1:((bT.f sG aZ aU aV aI ((aA aI bF).f0) ((aA aI bF).f1) ((aA aI bF).f2) ((aA aI bF).f3) ((aA aI bF).f4)).bind fun t166=>(if t166=true then (bC.l0 sG aI (aI.length:Int) (wrap64 (bF+1)) aZ aU aV aI) else (some (bF,5))))=some (r1,r2):=by rw [if_neg (show ¬ (false=true) by decide)] at H;exact H
               clear H
               have H:=H1
               clear H1
               replace H:=Option.bind_eq_some_iff.mp H
               obtain ⟨t166,afL,H⟩:=H
               replace H:(if t166=true then (bC.l0 sG aI (aI.length:Int) (wrap64 (bF+1)) aZ aU aV aI) else (some (bF,5)))=some (r1,r2):=H
               have A43:=ae.mk afL
               clear afL
               by_cases XX:t166=true
               ·
                subst XX
                have H1:(bC.l0 sG aI (aI.length:Int) (wrap64 (bF+1)) aZ aU aV aI)=some (r1,r2):=by rw [if_pos rfl] at H;exact H
                clear H
                have H:=H1
                clear H1
                have H':=ae.mk H
                clear H
                have acA:=jg.out
                have aco:=ng.out
                have akD:wc.cell? ⟨jd,0,none⟩=some (.slice ed aZ.length dZ):=(ax fD.out 0).trans rfl
                have akC:wc.cell? ⟨jd,1,none⟩=some (.string aU):=(ax fD.out 1).trans rfl
                have akB:wc.cell? ⟨jd,2,none⟩=some (.string aV):=(ax fD.out 2).trans rfl
                have akA:wc.cell? ⟨jd,3,none⟩=some (.slice (some qL) aI.length eU):=(ax fD.out 3).trans rfl
                have aio:=aC fD.out 0
                have ain:=aC fD.out 1
                have aim:=aC fD.out 2
                have ail:=aC fD.out 3
                have Ls:wc.cell? ⟨iQ,0,none⟩=some (.int .u8 ((aA aI bF).f0)):=(ax eQ.out 0).trans rfl
                have Lr:wc.cell? ⟨iQ,1,none⟩=some (.int .u8 ((aA aI bF).f1)):=(ax eQ.out 1).trans rfl
                have Lp:wc.cell? ⟨iQ,2,none⟩=some (.int .u8 ((aA aI bF).f2)):=(ax eQ.out 2).trans rfl
                have Lm:wc.cell? ⟨iQ,3,none⟩=some (.int .u8 ((aA aI bF).f3)):=(ax eQ.out 3).trans rfl
                have Ll:wc.cell? ⟨iQ,4,none⟩=some (.int .i64 ((aA aI bF).f4)):=(ax eQ.out 4).trans rfl
                have Kv:=aC eQ.out 0
                have Ku:=aC eQ.out 1
                have Kt:=aC eQ.out 2
                have Kr:=aC eQ.out 3
                have Kq:=aC eQ.out 4
                go_wp2_with (first|((with_reducible refine bz (f:=34) rfl ?_);refine dS (some 78) rfl rfl Tryd.func34 (by kernel_rfl) rfl #[.agg #[.slice ed aZ.length dZ,.string aU,.string aV,.slice (some qL) aI.length eU],.agg #[.int .u8 ((aA aI bF).f0),.int .u8 ((aA aI bF).f1),.int .u8 ((aA aI bF).f2),.int .u8 ((aA aI bF).f3),.int .i64 ((aA aI bF).f4)]] rfl (by (try simp only [List.map_toArray,List.map_cons,List.map_nil]);first|done|rfl|(simp only [List.length_drop,List.length_take];rfl)) ?_;(with_reducible refine (bT.calls sG _ _ aZ aU aV _ _ aI ((aA aI bF).f0) ((aA aI bF).f1) ((aA aI bF).f2) ((aA aI bF).f3) ((aA aI bF).f4) true _ ?bZ ?dh ?iW ?iV A43.out).mono ?_);(case bZ=>repeat (first|exact (Kd.bJ iH.out HB.out)|(with_reducible refine Kd.bP ?_ _)|(with_reducible refine Kd.bQ ?_ _)|(with_reducible refine Kd.dD ?_)));(case dh=>exact iK.out);(case iW=>repeat (first|exact (Kd.bJ jJ.out HB.out)|(with_reducible refine Kd.bP ?_ _)|(with_reducible refine Kd.bQ ?_ _)|(with_reducible refine Kd.dD ?_)));(case iV=>exact kC.out);rintro e w48 ⟨rfl,hb⟩;refine ⟨_,rfl,?_⟩;have dV:=ae.mk (bg (g:=jd) (o:=.cells #[.slice ed aZ.length dZ,.string aU,.string aV,.slice (some qL) aI.length eU] 25 (0,0)) (by (with_reducible repeat (first|refine au ?_ _|refine ay ?_|refine ak ?_ _));exact fD.out) hb);have dU:=ae.mk (bg (g:=iQ) (o:=.cells #[.int .u8 ((aA aI bF).f0),.int .u8 ((aA aI bF).f1),.int .u8 ((aA aI bF).f2),.int .u8 ((aA aI bF).f3),.int .i64 ((aA aI bF).f4)] 55 (0,0)) (by (with_reducible repeat (first|refine au ?_ _|refine ay ?_|refine ak ?_ _));exact eQ.out) hb);have dR:=ae.mk (bn (by repeat (first|(with_reducible first|exact HB.out|apply ah|apply ag|apply ai|refine aj ?_ l7.out|refine aj ?_ qP.out)|exact HB.out)) hb);clear fD;clear eQ;clear HB;have fD:=dV;have eQ:=dU;have HB:=dR;clear dV dU dR;(try clear hb);(try clear hb2);(try clear hk);(try clear hi)))
                go_roundg sG
                case measure=>have:=yH.out;have:=wK.out;have:=He.out;omega
                case rel=>exact ⟨(wrap64 (bF+1)),(by first|rfl|(simp;done)|(simp [*];done)),H',⟨by have:=yH.out;have:=wK.out;have:=He.out;omega⟩,⟨by (with_reducible repeat (first|refine au ?_ _|refine ay ?_|refine ak ?_ _));exact fD.out⟩,⟨by repeat (first|(with_reducible first|exact HB.out|apply ah|apply ag|apply ai|refine aj ?_ l7.out|refine aj ?_ qP.out)|exact HB.out)⟩⟩
               ·
                replace XX:=Bool.eq_false_iff.mpr XX
                subst XX
                have H1:(some (bF,5))=some (r1,r2):=by rw [if_neg (show ¬ (false=true) by decide)] at H;exact H
                clear H
                have H:=H1
                clear H1
                simp only [Option.some.injEq,Prod.mk.injEq] at H
                obtain ⟨rfl,rfl⟩:=H
                have acy:=jg.out
                have acm:=ng.out
                have WC:wc.cell? ⟨jd,0,none⟩=some (.slice ed aZ.length dZ):=(ax fD.out 0).trans rfl
                have WB:wc.cell? ⟨jd,1,none⟩=some (.string aU):=(ax fD.out 1).trans rfl
                have WA:wc.cell? ⟨jd,2,none⟩=some (.string aV):=(ax fD.out 2).trans rfl
                have Wy:wc.cell? ⟨jd,3,none⟩=some (.slice (some qL) aI.length eU):=(ax fD.out 3).trans rfl
                have UX:=aC fD.out 0
                have UW:=aC fD.out 1
                have UU:=aC fD.out 2
                have UT:=aC fD.out 3
                have Wx:wc.cell? ⟨iQ,0,none⟩=some (.int .u8 ((aA aI bF).f0)):=(ax eQ.out 0).trans rfl
                have Wv:wc.cell? ⟨iQ,1,none⟩=some (.int .u8 ((aA aI bF).f1)):=(ax eQ.out 1).trans rfl
                have Wu:wc.cell? ⟨iQ,2,none⟩=some (.int .u8 ((aA aI bF).f2)):=(ax eQ.out 2).trans rfl
                have Ws:wc.cell? ⟨iQ,3,none⟩=some (.int .u8 ((aA aI bF).f3)):=(ax eQ.out 3).trans rfl
                have aky:wc.cell? ⟨iQ,4,none⟩=some (.int .i64 ((aA aI bF).f4)):=(ax eQ.out 4).trans rfl
                have UR:=aC eQ.out 0
                have UQ:=aC eQ.out 1
                have UO:=aC eQ.out 2
                have UN:=aC eQ.out 3
                have aij:=aC eQ.out 4
                go_wp2_with (first|((with_reducible refine bz (f:=34) rfl ?_);refine dS (some 78) rfl rfl Tryd.func34 (by kernel_rfl) rfl #[.agg #[.slice ed aZ.length dZ,.string aU,.string aV,.slice (some qL) aI.length eU],.agg #[.int .u8 ((aA aI bF).f0),.int .u8 ((aA aI bF).f1),.int .u8 ((aA aI bF).f2),.int .u8 ((aA aI bF).f3),.int .i64 ((aA aI bF).f4)]] rfl (by (try simp only [List.map_toArray,List.map_cons,List.map_nil]);first|done|rfl|(simp only [List.length_drop,List.length_take];rfl)) ?_;(with_reducible refine (bT.calls sG _ _ aZ aU aV _ _ aI ((aA aI bF).f0) ((aA aI bF).f1) ((aA aI bF).f2) ((aA aI bF).f3) ((aA aI bF).f4) false _ ?bZ ?dh ?iW ?iV A43.out).mono ?_);(case bZ=>repeat (first|exact (Kd.bJ iH.out HB.out)|(with_reducible refine Kd.bP ?_ _)|(with_reducible refine Kd.bQ ?_ _)|(with_reducible refine Kd.dD ?_)));(case dh=>exact iK.out);(case iW=>repeat (first|exact (Kd.bJ jJ.out HB.out)|(with_reducible refine Kd.bP ?_ _)|(with_reducible refine Kd.bQ ?_ _)|(with_reducible refine Kd.dD ?_)));(case iV=>exact kC.out);rintro e w52 ⟨rfl,hb⟩;refine ⟨_,rfl,?_⟩;have dV:=ae.mk (bg (g:=jd) (o:=.cells #[.slice ed aZ.length dZ,.string aU,.string aV,.slice (some qL) aI.length eU] 25 (0,0)) (by (with_reducible repeat (first|refine au ?_ _|refine ay ?_|refine ak ?_ _));exact fD.out) hb);have dU:=ae.mk (bg (g:=iQ) (o:=.cells #[.int .u8 ((aA aI bF).f0),.int .u8 ((aA aI bF).f1),.int .u8 ((aA aI bF).f2),.int .u8 ((aA aI bF).f3),.int .i64 ((aA aI bF).f4)] 55 (0,0)) (by (with_reducible repeat (first|refine au ?_ _|refine ay ?_|refine ak ?_ _));exact eQ.out) hb);have dR:=ae.mk (bn (by repeat (first|(with_reducible first|exact HB.out|apply ah|apply ag|apply ai|refine aj ?_ l7.out|refine aj ?_ qP.out)|exact HB.out)) hb);clear fD;clear eQ;clear HB;have fD:=dV;have eQ:=dU;have HB:=dR;clear dV dU dR;(try clear hb);(try clear hb2);(try clear hk);(try clear hi)))
                go_ret2
                exact ⟨by first|rfl|(simp [aQ,aN] <;> rfl)|(simp [*,aQ,aN] <;> rfl),by repeat (first|(with_reducible first|exact HB.out|apply ah|apply ag|apply ai|refine aj ?_ l7.out|refine aj ?_ qP.out)|exact HB.out)⟩
           ·
            replace c20:=Bool.eq_false_iff.mpr c20
            subst c20
            have H1:(some (bF,4))=some (r1,r2):=by rw [if_neg (show ¬ (false=true) by decide)] at H;exact H
            clear H
            have H:=H1
            clear H1
            simp only [Option.some.injEq,Prod.mk.injEq] at H
            obtain ⟨rfl,rfl⟩:=H
            have Ir:0≤(bF:Int):=of_decide_eq_true (by first|(with_reducible assumption)|assumption)
            have Ic:bF < (aI.length:Int):=of_decide_eq_true (by first|(with_reducible assumption)|assumption)
            obtain ⟨qL,aas,um,uk,uj,ui,uh⟩:=Bv jJ.out bF Ir Ic
            cases aas
            replace um:=(HB.out.cell (World.block_lt_of_cell? w _ um)).trans um
            replace uk:=(HB.out.cell (World.block_lt_of_cell? w _ uk)).trans uk
            replace uj:=(HB.out.cell (World.block_lt_of_cell? w _ uj)).trans uj
            replace ui:=(HB.out.cell (World.block_lt_of_cell? w _ ui)).trans ui
            replace uh:=(HB.out.cell (World.block_lt_of_cell? w _ uh)).trans uh
            replace Ir:=eq_true Ir
            replace Ic:=eq_true Ic
            go_wp2_with (first|((with_reducible refine bI (N:=6) rfl ?_);(try (refine nN (by rfl) ?_;dsimp only));refine fF ?hg (N:=6) ?hd (cs:=#[.int .u8 0,.int .u8 0,.int .u8 0,.int .u8 0,.int .i64 0]) (t:=55) ?hr ?_;(case hd=>rfl);(case hg=>rfl);(case hr=>first|(go_simp;done)|(go_simp;rfl));intro iQ hg w53 hbox hb;have dV:=ae.mk (bg (g:=jd) (o:=.cells #[.slice ed aZ.length dZ,.string aU,.string aV,.slice (some qL) aI.length eU] 25 (0,0)) (by (with_reducible repeat (first|refine au ?_ _|refine ay ?_|refine ak ?_ _));exact fD.out) hb);have dU:=ae.mk (bn (by repeat (first|(with_reducible first|exact HB.out|apply ah|apply ag|apply ai|refine aj ?_ l7.out)|exact HB.out)) hb);have dR:=ae.mk (hbox);have gZ:=ae.mk ((by rw [hg];exact (bU (by repeat (first|(with_reducible first|exact HB.out|apply ah|apply ag|apply ai|refine aj ?_ l7.out)|exact HB.out))):w.heap.size≤iQ));have l9:=gZ;have mY:=ae.mk ((by rw [hg];exact Nat.ne_of_lt (kK (g:=jd) (o:=.cells #[.slice ed aZ.length dZ,.string aU,.string aV,.slice (some qL) aI.length eU] 25 (0,0)) (by (with_reducible repeat (first|refine au ?_ _|refine ay ?_|refine ak ?_ _));exact fD.out)):jd ≠ iQ));have nY:=ae.mk mY.out.symm;clear fD;clear HB;have fD:=dV;have HB:=dU;have eQ:=dR;have afe:=gZ;have qP:=l9;have jg:=mY;have ng:=nY;clear dV dU dR gZ l9 mY nY;clear hb hbox hg;have aoq:=ng.out;have anZ:=jg.out;have akr:w53.cell? ⟨iQ,0,none⟩=some (.int .u8 0):=(ax eQ.out 0).trans rfl;have akq:w53.cell? ⟨iQ,1,none⟩=some (.int .u8 0):=(ax eQ.out 1).trans rfl;have akp:w53.cell? ⟨iQ,2,none⟩=some (.int .u8 0):=(ax eQ.out 2).trans rfl;have ako:w53.cell? ⟨iQ,3,none⟩=some (.int .u8 0):=(ax eQ.out 3).trans rfl;have akn:w53.cell? ⟨iQ,4,none⟩=some (.int .i64 0):=(ax eQ.out 4).trans rfl;have aib:=aC eQ.out 0;have aia:=aC eQ.out 1;have ah9:=aC eQ.out 2;have ah8:=aC eQ.out 3;have ah7:=aC eQ.out 4)|((with_reducible refine bz (f:=33) rfl ?_);refine dS (some 49) rfl rfl Tryd.func33 (by kernel_rfl) rfl #[.agg #[.int .u8 ((aA aI bF).f0),.int .u8 ((aA aI bF).f1),.int .u8 ((aA aI bF).f2),.int .u8 ((aA aI bF).f3),.int .i64 ((aA aI bF).f4)]] rfl (by (try simp only [List.map_toArray,List.map_cons,List.map_nil]);first|done|rfl|(simp only [List.length_drop,List.length_take];rfl)) ?_;(with_reducible refine (mJ.calls ((aA aI bF).f0) ((aA aI bF).f1) ((aA aI bF).f2) ((aA aI bF).f3) ((aA aI bF).f4) false _ ?bZ Sv.out).mono ?_);(case bZ=>exact Kd.bJ yT.out (by repeat (first|(with_reducible first|exact HB.out|apply ah|apply ag|apply ai|refine aj ?_ l7.out|refine aj ?_ qP.out)|exact HB.out)));rintro e w56 ⟨rfl,hb⟩;refine ⟨_,rfl,?_⟩;have dV:=ae.mk (bg (g:=jd) (o:=.cells #[.slice ed aZ.length dZ,.string aU,.string aV,.slice (some qL) aI.length eU] 25 (0,0)) (by (with_reducible repeat (first|refine au ?_ _|refine ay ?_|refine ak ?_ _));refine fV ?_ jg.out _;(with_reducible repeat (first|refine au ?_ _|refine ay ?_|refine ak ?_ _));refine fV ?_ jg.out _;(with_reducible repeat (first|refine au ?_ _|refine ay ?_|refine ak ?_ _));refine fV ?_ jg.out _;(with_reducible repeat (first|refine au ?_ _|refine ay ?_|refine ak ?_ _));refine fV ?_ jg.out _;(with_reducible repeat (first|refine au ?_ _|refine ay ?_|refine ak ?_ _));refine fV ?_ jg.out _;(with_reducible repeat (first|refine au ?_ _|refine ay ?_|refine ak ?_ _));exact fD.out) hb);have dU:=ae.mk (bg (g:=iQ) (o:=.cells #[.int .u8 ((aA aI bF).f0),.int .u8 ((aA aI bF).f1),.int .u8 ((aA aI bF).f2),.int .u8 ((aA aI bF).f3),.int .i64 ((aA aI bF).f4)] 55 (0,0)) (by (with_reducible repeat (first|refine au ?_ _|refine ay ?_|refine ak ?_ _));refine dQ (cs:=#[.int .u8 ((aA aI bF).f0),.int .u8 ((aA aI bF).f1),.int .u8 ((aA aI bF).f2),.int .u8 ((aA aI bF).f3),.int .i64 0]) ?_ 4 _ rfl;(with_reducible repeat (first|refine au ?_ _|refine ay ?_|refine ak ?_ _));refine dQ (cs:=#[.int .u8 ((aA aI bF).f0),.int .u8 ((aA aI bF).f1),.int .u8 ((aA aI bF).f2),.int .u8 0,.int .i64 0]) ?_ 3 _ rfl;(with_reducible repeat (first|refine au ?_ _|refine ay ?_|refine ak ?_ _));refine dQ (cs:=#[.int .u8 ((aA aI bF).f0),.int .u8 ((aA aI bF).f1),.int .u8 0,.int .u8 0,.int .i64 0]) ?_ 2 _ rfl;(with_reducible repeat (first|refine au ?_ _|refine ay ?_|refine ak ?_ _));refine dQ (cs:=#[.int .u8 ((aA aI bF).f0),.int .u8 0,.int .u8 0,.int .u8 0,.int .i64 0]) ?_ 1 _ rfl;(with_reducible repeat (first|refine au ?_ _|refine ay ?_|refine ak ?_ _));refine dQ (cs:=#[.int .u8 0,.int .u8 0,.int .u8 0,.int .u8 0,.int .i64 0]) ?_ 0 _ rfl;(with_reducible repeat (first|refine au ?_ _|refine ay ?_|refine ak ?_ _));exact eQ.out) hb);have dR:=ae.mk (bn (by repeat (first|(with_reducible first|exact HB.out|apply ah|apply ag|apply ai|refine aj ?_ l7.out|refine aj ?_ qP.out)|exact HB.out)) hb);clear fD;clear eQ;clear HB;have fD:=dV;have eQ:=dU;have HB:=dR;clear dV dU dR;(try clear hb);(try clear hb2);(try clear hk);(try clear hi)))
            go_ret2
            exact ⟨by first|rfl|(simp [aQ,aN] <;> rfl)|(simp [*,aQ,aN] <;> rfl),by repeat (first|(with_reducible first|exact HB.out|apply ah|apply ag|apply ai|refine aj ?_ l7.out|refine aj ?_ qP.out)|exact HB.out)⟩
          ·
           rw [if_neg c18] at H
           exact absurd H (by simp)
         ·
          rw [if_neg c17] at H
          exact absurd H (by simp)
        ·
         rw [if_neg c16] at H
         have Bo:decide (bF < (aI.length:Int))=false:=decide_eq_false c16
         clear c16
         simp only [Option.some.injEq,Prod.mk.injEq] at H
         obtain ⟨rfl,rfl⟩:=H
         go_wp2
         go_ret2
         exact ⟨by first|rfl|(simp [aQ,aN] <;> rfl)|(simp [*,aQ,aN] <;> rfl),by repeat (first|(with_reducible first|exact HB.out|apply ah|apply ag|apply ai|refine aj ?_ l7.out)|exact HB.out)⟩
end Go.Proofs.YtlemecdddhdagaaDoor.P
end
section
namespace Go.Proofs.YtlemecdddhdagaaDoor.P
open Go.RowKit Go.Proofs.af.bD Go.Proofs.af.dB Go.Proofs.af.dM
def ru (x:iw):Bool:=if x.f0 < 1 then false else if x.f0 > 15 then false else
  ((hasB x.f0 98 || x.f2 == 0) && (hasB x.f0 99 || x.f3 == 0) && (hasB x.f0 110 || x.f4 == 0) && (hasB x.f0 97 || x.f1 == 0))
theorem PE (x:iw):mJ.f x.f0 x.f1 x.f2 x.f3 x.f4=some (ru x):=by
  unfold mJ.f ru
  split
  · rfl
  · split <;> rfl
def rD (x:iw):Bool:=x.f0 == 3 || x.f0 == 4
def qI (t:List ByteArray) (lo gl:ByteArray) (x:iw):Bool:=nZ t lo gl x.f0 x.f1 x.f2 x.f3 x.f4
def oN (t:List ByteArray) (lo gl:ByteArray) (n:Nat) (x:iw):Option Int :=
  if ru x=true then (if (rD x && (decide (x.f4 < 0) || decide (x.f4 > n)))=true then some 12 else if qI t lo gl x=true then none else some 5) else some 4
def headB (t:List ByteArray) (lo gl:ByteArray):Bool:=ry t (lo++gl) && (decide (lo.size≤8) && decide (gl.size≤4))
def wR (t:List ByteArray) (lo gl:ByteArray) (code:List iw):Int × Int :=
  scan (fun i=>(oN t lo gl code.length (code.getD i z55)).map fun e=>((i:Int),e)) (-1,0) code.length 0
def oh (t:List ByteArray) (lo gl:ByteArray) (code:List iw):Int × Int :=
  if headB t lo gl=true then (if 1≤code.length∧code.length≤200 then wR t lo gl code else (-1,3)) else (-1,5)
def Wf (code:List iw):Prop:=∀ i:Nat,(0≤(code.getD i z55).f1∧(code.getD i z55).f1≤255)∧(0≤(code.getD i z55).f2∧(code.getD i z55).f2≤255)∧(0≤(code.getD i z55).f3∧(code.getD i z55).f3≤255)
theorem I5 (t:List ByteArray) (lo gl:ByteArray) (code:List iw) (ht:t.length≤9223372036854775807) (hn:code.length≤9223372036854775807) (hw:Wf code) :
    Ev (fun k=>bC.l0 k code code.length 0 t lo gl code) (wR t lo gl code):=by
  have Zz:∀ i:Nat,aA code (i:Int)=code.getD i z55:=fun i=>rfl
  have j2:∀ (i:Nat) (x:Bool) (r r':Int × Int),i < code.length→(x=false→qI t lo gl (code.getD i z55)=true→Ev (fun k=>bC.l0 k code code.length ((i+1:Nat):Int) t lo gl code) r) →
      r'=(if x=true then ((i:Int),12) else if qI t lo gl (code.getD i z55)=true then r else ((i:Int),5)) →
      Ev (fun k=>bC.j2 k (i:Int) code code.length (i:Int) x t lo gl code (code.getD i z55).f0 (code.getD i z55).f1 (code.getD i z55).f2 (code.getD i z55).f3 (code.getD i z55).f4) r':=by
    intro i x r r' hi hr e
    rw [e]
    refine Ev.step (fun k=>by simp only [bC.j2];rfl) ?_
    refine Ev.ite (fun _=>Ev.now _) fun hx=>?_
    refine Ev.bind (Ua t lo gl code _ _ _ _ _ ht (hw i).1 (hw i).2.1 (hw i).2.2) ?_
    refine Ev.ite (fun h=>?_) (fun _=>Ev.now _)
    rw [wrapN hi hn]
    exact hr (by simpa using hx) h
  have place:∀ (i:Nat) (r r':Int × Int),i < code.length→(oN t lo gl code.length (code.getD i z55)=none→Ev (fun k=>bC.l0 k code code.length ((i+1:Nat):Int) t lo gl code) r) →
      r'=(match oN t lo gl code.length (code.getD i z55) with|some e=>((i:Int),e)|none=>r) →
      Ev (fun k=>bC.l0 k code code.length (i:Int) t lo gl code) r':=by
    intro i r r' hi hr e
    rw [e]
    generalize hx:code.getD i z55=x at *
    refine Ev.step (f:=fun k=>(mJ.f x.f0 x.f1 x.f2 x.f3 x.f4).bind fun t165=>(if t165=true then (if x.f0=3 then (if x.f4 < 0 then (bC.j2 k i code code.length i true t lo gl code x.f0 x.f1 x.f2 x.f3 x.f4) else (bC.j2 k i code code.length i (decide (x.f4 > (code.length:Int))) t lo gl code x.f0 x.f1 x.f2 x.f3 x.f4)) else (if x.f0=4 then (if x.f4 < 0 then (bC.j2 k i code code.length i true t lo gl code x.f0 x.f1 x.f2 x.f3 x.f4) else (bC.j2 k i code code.length i (decide (x.f4 > (code.length:Int))) t lo gl code x.f0 x.f1 x.f2 x.f3 x.f4)) else (bC.j2 k i code code.length i false t lo gl code x.f0 x.f1 x.f2 x.f3 x.f4))) else (some ((i:Int),4)))) (fun k=>?_) ?_
    · simp only [bC.l0]
      rw [if_pos (by omega),if_pos (by omega),if_pos (by omega),Zz,hx]
    · rw [PE]
      simp only [Option.bind_some]
      by_cases h1:ru x=true
      · refine Ev.congr (fun k=>if_pos h1) ?_
        have J:∀ b r0,oN t lo gl code.length x=(if b=true then some 12 else if qI t lo gl x=true then none else some 5)→r0=(match oN t lo gl code.length x with|some e=>((i:Int),e)|none=>r)→Ev (fun k=>bC.j2 k i code code.length i b t lo gl code x.f0 x.f1 x.f2 x.f3 x.f4) r0:=by
          intro b r0 hb e0
          have:=j2 i b r r0 hi (fun hbf hk=>by
            refine hr ?_
            rw [hx] at hk
            rw [hb,hbf,if_neg (by decide),if_pos hk]) (by
              rw [e0,hb,hx]
              cases b
              · cases qI t lo gl x <;> rfl
              · rfl)
          rw [hx] at this
          exact this
        have hbad:∀ b,(rD x && (decide (x.f4 < 0) || decide (x.f4 > code.length)))=b→oN t lo gl code.length x=(if b=true then some 12 else if qI t lo gl x=true then none else some 5):=by
          intro b hb
          unfold oN
          rw [if_pos h1,hb]
        by_cases h3:x.f0=3
        · refine Ev.congr (fun k=>if_pos h3) ?_
          by_cases h4:x.f4 < 0
          · exact Ev.congr (fun k=>if_pos h4) (J true _ (hbad true (by simp [rD,h3,h4])) rfl)
          · exact Ev.congr (fun k=>if_neg h4) (J _ _ (hbad _ (by simp [rD,h3,h4])) rfl)
        · refine Ev.congr (fun k=>if_neg h3) ?_
          by_cases h5:x.f0=4
          · refine Ev.congr (fun k=>if_pos h5) ?_
            by_cases h4:x.f4 < 0
            · exact Ev.congr (fun k=>if_pos h4) (J true _ (hbad true (by simp [rD,h5,h4])) rfl)
            · exact Ev.congr (fun k=>if_neg h4) (J _ _ (hbad _ (by simp [rD,h5,h4])) rfl)
          · exact Ev.congr (fun k=>if_neg h5) (J false _ (hbad false (by simp [rD,h3,h5])) rfl)
      · refine Ev.congr (fun k=>if_neg h1) ?_
        have:oN t lo gl code.length x=some 4:=by unfold oN;rw [if_neg h1]
        rw [this]
        exact Ev.now _
  have:=lN (g:=fun k i=>bC.l0 k code code.length (i:Nat) t lo gl code) (fun i=>(oN t lo gl code.length (code.getD i z55)).map fun e=>((i:Int),e)) code.length (-1,0)
    (fun i hi hb q hq=>?_) (fun i hi b hb=>?_) (fun _=>?_) code.length 0 (by omega) (fun j hj=>by omega)
  · exact this
  · refine place i q q hi (fun _=>hq) ?_
    rw [Option.map_eq_none_iff] at hb
    rw [hb]
  · refine place i (0,0) b hi (fun h=>by rw [h] at hb;cases hb) ?_
    cases h:oN t lo gl code.length (code.getD i z55) with
    | none=>rw [h] at hb;cases hb
    | some e=>rw [h] at hb;cases hb;rfl
  · refine Ev.step (f:=fun _=>some (-1,0)) (fun k=>?_) (Ev.now _)
    simp only [bC.l0]
    rw [if_neg (by omega)]
theorem ET (t:List ByteArray) (lo gl:ByteArray) (code:List iw) (ht:t.length≤9223372036854775807) (hs:lo.size+gl.size≤9223372036854775807) (hn:code.length≤9223372036854775807) (hw:Wf code) :
    Ev (fun k=>bC.f k t lo gl code) (oh t lo gl code):=by
  have j0:∀ x,Ev (fun k=>bC.j0 k code.length x t lo gl code) (if x=true then (-1,5) else if (code.length:Int) < 1 then (-1,3) else if (code.length:Int) > 200 then (-1,3) else wR t lo gl code):=fun x=>by
    refine Ev.step (fun k=>by simp only [bC.j0];rfl) ?_
    exact Ev.ite (fun _=>Ev.now _) fun _=>Ev.ite (fun _=>Ev.now _) fun _=>Ev.ite (fun _=>Ev.now _) fun _=>I5 t lo gl code ht hn hw
  have sz:(lo++gl).size=lo.size+gl.size:=by simp
  refine Ev.congr (fun k=>if_pos hs) (Ev.bind (PH t (lo++gl) ht (by rw [sz];omega)) ?_)
  refine Ev.out (Ev.ite (fun _=>Ev.ite (fun _=>j0 _) fun _=>j0 _) fun _=>j0 _) ?_
  unfold oh headB
  cases ry t (lo++gl)
  · rfl
  · rw [if_pos rfl,Bool.true_and]
    by_cases h1:lo.size≤8
    · by_cases h2:gl.size≤4
      · rw [if_neg (by omega),decide_eq_true h1,decide_eq_true h2,if_neg (by simp;omega),show (true && true)=true from rfl,if_pos rfl]
        by_cases h3:(code.length:Int) < 1
        · rw [if_pos h3,if_neg (by omega)]
        · by_cases h4:(code.length:Int) > 200
          · rw [if_neg h3,if_pos h4,if_neg (by omega)]
          · rw [if_neg h3,if_neg h4,if_pos (by omega)]
      · rw [if_neg (by omega),decide_eq_true h1,decide_eq_false h2,if_pos (by simp;omega),if_neg (by decide)]
    · rw [if_pos (by omega),decide_eq_false h1,if_pos rfl,if_neg (by simp)]
theorem FI (t:List ByteArray) (lo gl:ByteArray) (code:List iw) :
    (wR t lo gl code=(-1,0)∧∀ j,j < code.length→oN t lo gl code.length (code.getD j z55)=none) ∨
    ∃ j e,j < code.length∧oN t lo gl code.length (code.getD j z55)=some e∧wR t lo gl code=((j:Int),e)∧∀ q,q < j→oN t lo gl code.length (code.getD q z55)=none:=by
  unfold wR
  rcases xk (bad:=fun i=>(oN t lo gl code.length (code.getD i z55)).map fun e=>((i:Int),e)) (fin:=((-1,0):Int × Int)) code.length 0 with ⟨h1,h2⟩|⟨j,b,_,h2,h3,h4,h5⟩
  · refine .inl ⟨h1,fun j hj=>?_⟩
    have:=h2 j (Nat.zero_le _) (by omega)
    rwa [Option.map_eq_none_iff] at this
  · rw [Option.map_eq_some_iff] at h3
    obtain ⟨e,h3,rfl⟩:=h3
    refine .inr ⟨j,e,by omega,h3,h4,fun q hq=>?_⟩
    have:=h5 q (Nat.zero_le _) hq
    rwa [Option.map_eq_none_iff] at this
theorem OO {t:List ByteArray} {lo gl:ByteArray} {n:Nat} {x:iw} {e:Int} (h:oN t lo gl n x=some e):e ≠ 0:=by
  unfold oN at h
  split at h
  · split at h
    · injection h;omega
    · split at h
      · cases h
      · injection h;omega
  · injection h;omega
theorem OH (t:List ByteArray) (lo gl:ByteArray) (code:List iw):(oh t lo gl code).2=0 ↔ headB t lo gl=true∧(1≤code.length∧code.length≤200)∧∀ j,j < code.length→oN t lo gl code.length (code.getD j z55)=none:=by
  unfold oh
  by_cases h1:headB t lo gl=true
  · rw [if_pos h1]
    by_cases h2:1≤code.length∧code.length≤200
    · rw [if_pos h2]
      rcases FI t lo gl code with ⟨h3,h4⟩|⟨j,e,h3,h4,h5,_⟩
      · rw [h3]
        exact ⟨fun _=>⟨h1,h2,h4⟩,fun _=>rfl⟩
      · rw [h5]
        refine ⟨fun h=>absurd h (OO h4),fun h=>?_⟩
        rw [h.2.2 j h3] at h4
        cases h4
    · rw [if_neg h2]
      exact ⟨fun h=>by simp at h,fun h=>absurd h.2.1 h2⟩
  · rw [if_neg h1]
    exact ⟨fun h=>by simp at h,fun h=>absurd h.1 h1⟩
end Go.Proofs.YtlemecdddhdagaaDoor.P
end
