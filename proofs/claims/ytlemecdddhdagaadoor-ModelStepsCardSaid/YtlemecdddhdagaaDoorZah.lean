/- Parts of the proof of ModelSteps: what the functions that it reaches compute, and plain facts about that. -/
import Derived.Test.YtlemecdddhdagaaDoorZab
import Derived.Test.YtlemecdddhdagaaDoorZad
import Derived.Test.YtlemecdddhdagaaDoorZaf
import Derived.Test.YtlemecdddhdagaaDoorZag
set_option linter.unusedVariables false
set_option linter.unusedSimpArgs false
section
namespace Go.Proofs.YtlemecdddhdagaaDoor.P
open Go.RowKit Go.Proofs.af.bF Go.Proofs.af.dD Go.Proofs.af.dN
attribute [local go_sem] lF lC mP mO kE kD lD lu
mutual
def bC.j0:Nat→Int→Bool→List ByteArray→ByteArray→ByteArray→List (iD)→Option (Int × Int)
 | 0,_,_,_,_,_,_=>none
 | k+1,x4,x10,qm,ql,qj,nK=>if x10=true then (some ((-1),5)) else (if x4 < 1 then (some ((-1),3)) else (if x4 > 200 then (some ((-1),3)) else (bC.l0 k nK (nK.length:Int) 0 qm ql qj nK)))
def bC.l0:Nat→List (iD)→Int→Int→List ByteArray→ByteArray→ByteArray→List (iD)→Option (Int × Int)
 | 0,_,_,_,_,_,_,_=>none
 | k+1,x40,x41,qi,qm,ql,qj,nK=>if qi < x41 then (if 0≤qi then (if qi < (x40.length:Int) then ((mQ.f ((aA x40 qi).f0) ((aA x40 qi).f1) ((aA x40 qi).f2) ((aA x40 qi).f3) ((aA x40 qi).f4)).bind fun t165=>(if t165=true then (if ((aA x40 qi).f0)=3 then (if ((aA x40 qi).f4) < 0 then (bC.j2 k qi x40 x41 qi true qm ql qj nK ((aA x40 qi).f0) ((aA x40 qi).f1) ((aA x40 qi).f2) ((aA x40 qi).f3) ((aA x40 qi).f4)) else (bC.j2 k qi x40 x41 qi (decide (((aA x40 qi).f4) > (nK.length:Int))) qm ql qj nK ((aA x40 qi).f0) ((aA x40 qi).f1) ((aA x40 qi).f2) ((aA x40 qi).f3) ((aA x40 qi).f4))) else (if ((aA x40 qi).f0)=4 then (if ((aA x40 qi).f4) < 0 then (bC.j2 k qi x40 x41 qi true qm ql qj nK ((aA x40 qi).f0) ((aA x40 qi).f1) ((aA x40 qi).f2) ((aA x40 qi).f3) ((aA x40 qi).f4)) else (bC.j2 k qi x40 x41 qi (decide (((aA x40 qi).f4) > (nK.length:Int))) qm ql qj nK ((aA x40 qi).f0) ((aA x40 qi).f1) ((aA x40 qi).f2) ((aA x40 qi).f3) ((aA x40 qi).f4))) else (bC.j2 k qi x40 x41 qi false qm ql qj nK ((aA x40 qi).f0) ((aA x40 qi).f1) ((aA x40 qi).f2) ((aA x40 qi).f3) ((aA x40 qi).f4)))) else (some (qi,4)))) else (none)) else (none)) else (some ((-1),0))
def bC.j2:Nat→Int→List (iD)→Int→Int→Bool→List ByteArray→ByteArray→ByteArray→List (iD)→Int→Int→Int→Int→Int→Option (Int × Int)
 | 0,_,_,_,_,_,_,_,_,_,_,_,_,_,_=>none
 | k+1,x5,x40,x41,qi,x52,qm,ql,qj,nK,TS,TP,TN,TM,TL=>if x52=true then (some (x5,12)) else ((bV.f k qm ql qj nK TS TP TN TM TL).bind fun t166=>(if t166=true then (bC.l0 k x40 x41 (wrap64 (qi+1)) qm ql qj nK) else (some (x5,5))))
end
def bC.f (k:Nat) (aZ:List ByteArray) (aV:ByteArray) (aW:ByteArray) (aI:List (iD)):Option (Int × Int):=if aV.size+aW.size≤9223372036854775807 then ((fK.f k aZ (aV++aW)).bind fun t162=>(if t162=true then (if (aV.size:Int) > 8 then (bC.j0 k (aI.length:Int) true aZ aV aW aI) else (bC.j0 k (aI.length:Int) (decide ((aW.size:Int) > 4)) aZ aV aW aI)) else (bC.j0 k (aI.length:Int) true aZ aV aW aI))) else (none)
theorem bC.iF:∀ k,(∀ y0 y1 y2 y3 y4 y5,dP (bC.j0 k y0 y1 y2 y3 y4 y5) (bC.j0 (k+1) y0 y1 y2 y3 y4 y5))∧(∀ y0 y1 y2 y3 y4 y5 y6,dP (bC.l0 k y0 y1 y2 y3 y4 y5 y6) (bC.l0 (k+1) y0 y1 y2 y3 y4 y5 y6))∧(∀ y0 y1 y2 y3 y4 y5 y6 y7 y8 y9 AX Ip Io y13,dP (bC.j2 k y0 y1 y2 y3 y4 y5 y6 y7 y8 y9 AX Ip Io y13) (bC.j2 (k+1) y0 y1 y2 y3 y4 y5 y6 y7 y8 y9 AX Ip Io y13))
 | 0=>⟨fun _ _ _ _ _ _ r h=>by simp [bC.j0] at h,fun _ _ _ _ _ _ _ r h=>by simp [bC.l0] at h,fun _ _ _ _ _ _ _ _ _ _ _ _ _ _ r h=>by simp [bC.j2] at h⟩
 | k+1=>by
  obtain ⟨lW,ih1,ih2⟩:=bC.iF k
  refine ⟨?_,?_,?_⟩
  ·
   intro y0 y1 y2 y3 y4 y5
   unfold bC.j0
   repeat' with_reducible first|apply lW|apply ih1|apply ih2|apply bV.mono|apply fK.mono|exact dP.refl _|exact dP.none _|refine dP.ite ?_ ?_|refine dP.bind ?_ (fun _=>?_)
  ·
   intro y0 y1 y2 y3 y4 y5 y6
   unfold bC.l0
   repeat' with_reducible first|apply lW|apply ih1|apply ih2|apply bV.mono|apply fK.mono|exact dP.refl _|exact dP.none _|refine dP.ite ?_ ?_|refine dP.bind ?_ (fun _=>?_)
  ·
   intro y0 y1 y2 y3 y4 y5 y6 y7 y8 y9 AX Ip Io y13
   unfold bC.j2
   repeat' with_reducible first|apply lW|apply ih1|apply ih2|apply bV.mono|apply fK.mono|exact dP.refl _|exact dP.none _|refine dP.ite ?_ ?_|refine dP.bind ?_ (fun _=>?_)
theorem bC.mono:∀ a0 a1 a2 a3 k,dP (bC.f k a0 a1 a2 a3) (bC.f (k+1) a0 a1 a2 a3):=by
 intro a0 a1 a2 a3 k
 obtain ⟨lW,ih1,ih2⟩:=bC.iF k
 unfold bC.f
 repeat' with_reducible first|apply lW|apply ih1|apply ih2|apply bV.mono|apply fK.mono|exact dP.refl _|exact dP.none _|refine dP.ite ?_ ?_|refine dP.bind ?_ (fun _=>?_)
set_option maxHeartbeats 8000000 in
set_option maxRecDepth 100000 in
theorem bC.calls (k:Nat) (eu:Option Addr) (ed:Nat) (aZ:List ByteArray) (aV:ByteArray) (aW:ByteArray) (gm:Option Addr) (eX:Nat) (aI:List (iD)) (r1:Int) (r2:Int) (w:World) (jV:Kd.C Kd.string w eu aZ.length aZ) (jX:aZ.length≤ed) (jU:Kd.C uD w gm aI.length aI) (jW:aI.length≤eX) (lM:Kd.C Kd.string w rf kQ.length kQ) (h:bC.f k aZ aV aW aI=some (r1,r2)) :
  Calls Tryd.prog 21 #[.agg #[.slice eu aZ.length ed,.string aV,.string aW,.slice gm aI.length eX]] w fun e w'=>e=.returned (.tuple #[.int .i64 r1,.int .i64 r2])∧Below w.heap.size w w':=by
 have yP:=Tryd.underlying25
 have CW:=Tryd.underlying55
 have iI:=ae.mk jV
 have iL:=ae.mk jX
 clear jV jX
 have jR:=ae.mk jU
 have kK:=ae.mk jW
 clear jU jW
 have yH:=ae.mk lM
 clear lM
 have HB:=ae.mk (Below.refl w.heap.size w)
 have H:(if aV.size+aW.size≤9223372036854775807 then ((fK.f k aZ (aV++aW)).bind fun t162=>(if t162=true then (if (aV.size:Int) > 8 then (bC.j0 k (aI.length:Int) true aZ aV aW aI) else (bC.j0 k (aI.length:Int) (decide ((aW.size:Int) > 4)) aZ aV aW aI)) else (bC.j0 k (aI.length:Int) true aZ aV aW aI))) else (none))=some (r1,r2):=h
 clear h
 have HC2:=ae.mk H
 clear H
 go_enter Tryd.func21,Tryd.ntmps21
 go_upto_region 2 with (first|((with_reducible refine bD (N:=1) rfl ?_);(try (refine nT (by rfl) ?_;dsimp only));refine fG ?hg (N:=1) ?hd (cs:=#[.slice eu aZ.length ed,.string aV,.string aW,.slice gm aI.length eX]) (t:=25) ?hr ?_;(case hd=>rfl);(case hg=>rfl);(case hr=>first|(go_simp;done)|(go_simp;rfl));intro jf hg w3 hbox hb;have dX:=ae.mk (bn (by repeat (first|(with_reducible first|exact HB.out|apply ah|apply ag|apply ai)|exact HB.out)) hb);have dW:=ae.mk (hbox);have dU:=ae.mk ((by rw [hg];exact (bY (by repeat (first|(with_reducible first|exact HB.out|apply ah|apply ag|apply ai)|exact HB.out))):w.heap.size≤jf));have iq:=dU;clear HB;have HB:=dX;have fE:=dW;have aqI:=dU;have mi:=iq;clear dX dW dU iq;clear hb hbox hg;have QM:w3.cell? ⟨jf,0,none⟩=some (.slice eu aZ.length ed):=(ax fE.out 0).trans rfl;have QL:w3.cell? ⟨jf,1,none⟩=some (.string aV):=(ax fE.out 1).trans rfl;have QK:w3.cell? ⟨jf,2,none⟩=some (.string aW):=(ax fE.out 2).trans rfl;have QJ:w3.cell? ⟨jf,3,none⟩=some (.slice gm aI.length eX):=(ax fE.out 3).trans rfl;have QD:=aC fE.out 0;have QB:=aC fE.out 1;have QA:=aC fE.out 2;have Qz:=aC fE.out 3))
 (try simp only [Act.put,List.setIfInBounds_toArray,List.set_cons_zero,List.set_cons_succ])
 go_cut [10] (fun v10 wc=>∃ (kq:Nat) (J4:Bool),v10=.bool J4∧ae (bC.j0 kq (aI.length:Int) J4 aZ aV aW aI=some (r1,r2))∧ae (kq≤k)∧ae (wc.heap[jf]? = some (.cells #[(.slice eu aZ.length ed),.string aV,.string aW,(.slice gm aI.length eX)] 25 (0,0)))∧ae (Below w.heap.size w wc))
 case first =>
  have H:=HC2.out
  clear HC2
  by_cases c5:aV.size+aW.size≤9223372036854775807
  ·
   rw [if_pos c5] at H
   have rU:=eq_true c5
   have O6:decide (aV.size+aW.size≤9223372036854775807)=true:=decide_eq_true c5
   try have aso:(9223372036854775807 < aV.size+aW.size)=False:=eq_false (Nat.not_lt.2 c5)
   replace H:=Option.bind_eq_some_iff.mp H
   obtain ⟨t162,NS,H⟩:=H
   replace H:(if t162=true then (if (aV.size:Int) > 8 then (bC.j0 k (aI.length:Int) true aZ aV aW aI) else (bC.j0 k (aI.length:Int) (decide ((aW.size:Int) > 4)) aZ aV aW aI)) else (bC.j0 k (aI.length:Int) true aZ aV aW aI))=some (r1,r2):=H
   have A6:=ae.mk NS
   clear NS
   by_cases c7:t162=true
   ·
    subst c7
    have H1:(if (aV.size:Int) > 8 then (bC.j0 k (aI.length:Int) true aZ aV aW aI) else (bC.j0 k (aI.length:Int) (decide ((aW.size:Int) > 4)) aZ aV aW aI))=some (r1,r2):=by rw [if_pos rfl] at H;exact H
    clear H
    have H:=H1
    clear H1
    by_cases c8:(aV.size:Int) > 8
    ·
     rw [if_pos c8] at H
     have pU:decide (8 < (aV.size:Int))=true:=decide_eq_true c8
     have zN:decide (8 < aV.size)=true:=decide_eq_true (by omega)
     clear c8
     (first|rw [pU]|(simp only [bT,bW];rw [pU])|skip)
     have H':=ae.mk H
     clear H
     have Jh:w3.cell? ⟨jf,0,none⟩=some (.slice eu aZ.length ed):=(ax fE.out 0).trans rfl
     have Jg:w3.cell? ⟨jf,1,none⟩=some (.string aV):=(ax fE.out 1).trans rfl
     have Jf:w3.cell? ⟨jf,2,none⟩=some (.string aW):=(ax fE.out 2).trans rfl
     have Je:w3.cell? ⟨jf,3,none⟩=some (.slice gm aI.length eX):=(ax fE.out 3).trans rfl
     have Jc:=aC fE.out 0
     have Jb:=aC fE.out 1
     have Ja:=aC fE.out 2
     have I9:=aC fE.out 3
     go_wp2_with (first|((with_reducible refine bz (f:=32) rfl ?_);refine dV (some 18) rfl rfl Tryd.func32 (by kernel_rfl) rfl #[.slice eu aZ.length ed,.string (aV++aW)] rfl (by (try simp only [List.map_toArray,List.map_cons,List.map_nil]);first|done|rfl|(simp only [List.length_drop,List.length_take];rfl)) ?_;(with_reducible refine (fK.calls k _ _ aZ (aV++aW) true _ ?df ?dA A6.out).mono ?_);(case df=>repeat (first|exact (Kd.bJ iI.out HB.out)|(with_reducible refine Kd.bQ ?_ _)|(with_reducible refine Kd.bP ?_ _)|(with_reducible refine Kd.dF ?_)));(case dA=>exact iL.out);rintro e w' ⟨rfl,⟨nd,rfl⟩⟩;refine ⟨_,rfl,?_⟩))
     go_meet
     case rel=>exact ⟨_,(true),(by first|rfl|(simp;done)|(simp [*];done)),H',⟨by first|omega|exact Nat.le_refl _⟩,⟨by (with_reducible repeat (first|refine au ?_ _|refine ay ?_|refine ak ?_ _));exact fE.out⟩,⟨by repeat (first|(with_reducible first|exact HB.out|apply ah|apply ag|apply ai|refine aj ?_ mi.out)|exact HB.out)⟩⟩
    ·
     rw [if_neg c8] at H
     have pU:decide (8 < (aV.size:Int))=false:=decide_eq_false c8
     have zN:decide (8 < aV.size)=false:=decide_eq_false (by omega)
     clear c8
     (first|rw [pU]|(simp only [bT,bW];rw [pU])|skip)
     have H':=ae.mk H
     clear H
     have yj:w3.cell? ⟨jf,0,none⟩=some (.slice eu aZ.length ed):=(ax fE.out 0).trans rfl
     have yh:w3.cell? ⟨jf,1,none⟩=some (.string aV):=(ax fE.out 1).trans rfl
     have yg:w3.cell? ⟨jf,2,none⟩=some (.string aW):=(ax fE.out 2).trans rfl
     have yf:w3.cell? ⟨jf,3,none⟩=some (.slice gm aI.length eX):=(ax fE.out 3).trans rfl
     have yc:=aC fE.out 0
     have x9:=aC fE.out 1
     have xZ:=aC fE.out 2
     have xY:=aC fE.out 3
     go_wp2_with (first|((with_reducible refine bz (f:=32) rfl ?_);refine dV (some 18) rfl rfl Tryd.func32 (by kernel_rfl) rfl #[.slice eu aZ.length ed,.string (aV++aW)] rfl (by (try simp only [List.map_toArray,List.map_cons,List.map_nil]);first|done|rfl|(simp only [List.length_drop,List.length_take];rfl)) ?_;(with_reducible refine (fK.calls k _ _ aZ (aV++aW) true _ ?df ?dA A6.out).mono ?_);(case df=>repeat (first|exact (Kd.bJ iI.out HB.out)|(with_reducible refine Kd.bQ ?_ _)|(with_reducible refine Kd.bP ?_ _)|(with_reducible refine Kd.dF ?_)));(case dA=>exact iL.out);rintro e w' ⟨rfl,⟨nd,rfl⟩⟩;refine ⟨_,rfl,?_⟩))
     go_meet
     case rel=>exact ⟨_,(decide ((aW.size:Int) > 4)),(by first|rfl|(simp;done)|(simp [*];done)),H',⟨by first|omega|exact Nat.le_refl _⟩,⟨by (with_reducible repeat (first|refine au ?_ _|refine ay ?_|refine ak ?_ _));exact fE.out⟩,⟨by repeat (first|(with_reducible first|exact HB.out|apply ah|apply ag|apply ai|refine aj ?_ mi.out)|exact HB.out)⟩⟩
   ·
    replace c7:=Bool.eq_false_iff.mpr c7
    subst c7
    have H1:(bC.j0 k (aI.length:Int) true aZ aV aW aI)=some (r1,r2):=by rw [if_neg (show ¬ (false=true) by decide)] at H;exact H
    clear H
    have H:=H1
    clear H1
    have H':=ae.mk H
    clear H
    have Aw:w3.cell? ⟨jf,0,none⟩=some (.slice eu aZ.length ed):=(ax fE.out 0).trans rfl
    have Au:w3.cell? ⟨jf,1,none⟩=some (.string aV):=(ax fE.out 1).trans rfl
    have Ar:w3.cell? ⟨jf,2,none⟩=some (.string aW):=(ax fE.out 2).trans rfl
    have Aq:w3.cell? ⟨jf,3,none⟩=some (.slice gm aI.length eX):=(ax fE.out 3).trans rfl
    have Ai:=aC fE.out 0
    have Ah:=aC fE.out 1
    have Ag:=aC fE.out 2
    have Af:=aC fE.out 3
    go_wp2_with (first|((with_reducible refine bz (f:=32) rfl ?_);refine dV (some 18) rfl rfl Tryd.func32 (by kernel_rfl) rfl #[.slice eu aZ.length ed,.string (aV++aW)] rfl (by (try simp only [List.map_toArray,List.map_cons,List.map_nil]);first|done|rfl|(simp only [List.length_drop,List.length_take];rfl)) ?_;(with_reducible refine (fK.calls k _ _ aZ (aV++aW) false _ ?df ?dA A6.out).mono ?_);(case df=>repeat (first|exact (Kd.bJ iI.out HB.out)|(with_reducible refine Kd.bQ ?_ _)|(with_reducible refine Kd.bP ?_ _)|(with_reducible refine Kd.dF ?_)));(case dA=>exact iL.out);rintro e w' ⟨rfl,⟨nd,rfl⟩⟩;refine ⟨_,rfl,?_⟩))
    go_meet
    case rel=>exact ⟨_,(true),(by first|rfl|(simp;done)|(simp [*];done)),H',⟨by first|omega|exact Nat.le_refl _⟩,⟨by (with_reducible repeat (first|refine au ?_ _|refine ay ?_|refine ak ?_ _));exact fE.out⟩,⟨by repeat (first|(with_reducible first|exact HB.out|apply ah|apply ag|apply ai|refine aj ?_ mi.out)|exact HB.out)⟩⟩
  ·
   rw [if_neg c5] at H
   exact absurd H (by simp)
 case rest =>
  clear HC2
  obtain ⟨kq,J4,rfl,HA,zh,fE,HB⟩:=hcut
  cases kq with
  | zero=>exact absurd HA.out (by simp [bC.j0])
  | succ Ph =>
   have H:=HA.out
   clear HA
   simp only [bC.j0] at H
   by_cases c12:J4=true
   ·
    subst c12
    have H1:(some ((-1),5))=some (r1,r2):=by rw [if_pos rfl] at H;exact H
    clear H
    have H:=H1
    clear H1
    simp only [Option.some.injEq,Prod.mk.injEq] at H
    obtain ⟨rfl,rfl⟩:=H
    go_wp2
    go_ret2
    exact ⟨by first|rfl|(simp [aQ,aN] <;> rfl)|(simp [*,aQ,aN] <;> rfl),by repeat (first|(with_reducible first|exact HB.out|apply ah|apply ag|apply ai|refine aj ?_ mi.out)|exact HB.out)⟩
   ·
    replace c12:=Bool.eq_false_iff.mpr c12
    subst c12
    have H1:(if (aI.length:Int) < 1 then (some ((-1),3)) else (if (aI.length:Int) > 200 then (some ((-1),3)) else (bC.l0 Ph aI (aI.length:Int) 0 aZ aV aW aI)))=some (r1,r2):=by rw [if_neg (show ¬ (false=true) by decide)] at H;exact H
    clear H
    have H:=H1
    clear H1
    by_cases c13:(aI.length:Int) < 1
    ·
     rw [if_pos c13] at H
     have mY:decide ((aI.length:Int) < 1)=true:=decide_eq_true c13
     have yx:decide (aI.length < 1)=true:=decide_eq_true (by omega)
     clear c13
     simp only [Option.some.injEq,Prod.mk.injEq] at H
     obtain ⟨rfl,rfl⟩:=H
     go_wp2
     go_ret2
     exact ⟨by first|rfl|(simp [aQ,aN] <;> rfl)|(simp [*,aQ,aN] <;> rfl),by repeat (first|(with_reducible first|exact HB.out|apply ah|apply ag|apply ai|refine aj ?_ mi.out)|exact HB.out)⟩
    ·
     rw [if_neg c13] at H
     have mY:decide ((aI.length:Int) < 1)=false:=decide_eq_false c13
     have yx:decide (aI.length < 1)=false:=decide_eq_false (by omega)
     clear c13
     by_cases c14:(aI.length:Int) > 200
     ·
      rw [if_pos c14] at H
      have D7:decide (200 < (aI.length:Int))=true:=decide_eq_true c14
      have Ht:decide (200 < aI.length)=true:=decide_eq_true (by omega)
      clear c14
      simp only [Option.some.injEq,Prod.mk.injEq] at H
      obtain ⟨rfl,rfl⟩:=H
      go_wp2
      go_ret2
      exact ⟨by first|rfl|(simp [aQ,aN] <;> rfl)|(simp [*,aQ,aN] <;> rfl),by repeat (first|(with_reducible first|exact HB.out|apply ah|apply ag|apply ai|refine aj ?_ mi.out)|exact HB.out)⟩
     ·
      rw [if_neg c14] at H
      have D7:decide (200 < (aI.length:Int))=false:=decide_eq_false c14
      have Ht:decide (200 < aI.length)=false:=decide_eq_false (by omega)
      clear c14
      have H':=ae.mk H
      clear H
      have XX:wc.cell? ⟨jf,0,none⟩=some (.slice eu aZ.length ed):=(ax fE.out 0).trans rfl
      have XW:wc.cell? ⟨jf,1,none⟩=some (.string aV):=(ax fE.out 1).trans rfl
      have XV:wc.cell? ⟨jf,2,none⟩=some (.string aW):=(ax fE.out 2).trans rfl
      have XU:wc.cell? ⟨jf,3,none⟩=some (.slice gm aI.length eX):=(ax fE.out 3).trans rfl
      have V8:=aC fE.out 0
      have V7:=aC fE.out 1
      have V6:=aC fE.out 2
      have V5:=aC fE.out 3
      go_wp2
      go_loopg [42] Ph (fun kq v42 w'=>∃ (bG:Int),v42=.int .i64 bG∧ae (bC.l0 kq aI (aI.length:Int) bG aZ aV aW aI=some (r1,r2))∧ae (kq≤Ph)∧ae (w'.heap[jf]? = some (.cells #[(.slice eu aZ.length ed),.string aV,.string aW,(.slice gm aI.length eX)] 25 (0,0)))∧ae (Below w.heap.size w w'))
      case atStart=>exact ⟨(0),(by first|rfl|(simp;done)|(simp [*];done)),H',⟨Nat.le_refl _⟩,⟨by (with_reducible repeat (first|refine au ?_ _|refine ay ?_|refine ak ?_ _));exact fE.out⟩,⟨by repeat (first|(with_reducible first|exact HB.out|apply ah|apply ag|apply ai|refine aj ?_ mi.out)|exact HB.out)⟩⟩
      case round =>
       clear H'
       obtain ⟨bG,rfl,HA,uM,fE,HB⟩:=hrel
       cases gk with
       | zero=>exact absurd HA.out (by simp [bC.l0])
       | succ k2 =>
        have H:=HA.out
        clear HA
        simp only [bC.l0] at H
        by_cases c16:bG < (aI.length:Int)
        ·
         rw [if_pos c16] at H
         have BZ:decide (bG < (aI.length:Int))=true:=decide_eq_true c16
         clear c16
         by_cases c17:0≤bG
         ·
          rw [if_pos c17] at H
          have zC:decide (0≤bG)=true:=decide_eq_true c17
          clear c17
          by_cases c18:bG < (aI.length:Int)
          ·
           rw [if_pos c18] at H
           have Zy:decide (bG < (aI.length:Int))=true:=decide_eq_true c18
           clear c18
           replace H:=Option.bind_eq_some_iff.mp H
           obtain ⟨t165,Ih,H⟩:=H
           replace H:(if t165=true then (if ((aA aI bG).f0)=3 then (if ((aA aI bG).f4) < 0 then (bC.j2 k2 bG aI (aI.length:Int) bG true aZ aV aW aI ((aA aI bG).f0) ((aA aI bG).f1) ((aA aI bG).f2) ((aA aI bG).f3) ((aA aI bG).f4)) else (bC.j2 k2 bG aI (aI.length:Int) bG (decide (((aA aI bG).f4) > (aI.length:Int))) aZ aV aW aI ((aA aI bG).f0) ((aA aI bG).f1) ((aA aI bG).f2) ((aA aI bG).f3) ((aA aI bG).f4))) else (if ((aA aI bG).f0)=4 then (if ((aA aI bG).f4) < 0 then (bC.j2 k2 bG aI (aI.length:Int) bG true aZ aV aW aI ((aA aI bG).f0) ((aA aI bG).f1) ((aA aI bG).f2) ((aA aI bG).f3) ((aA aI bG).f4)) else (bC.j2 k2 bG aI (aI.length:Int) bG (decide (((aA aI bG).f4) > (aI.length:Int))) aZ aV aW aI ((aA aI bG).f0) ((aA aI bG).f1) ((aA aI bG).f2) ((aA aI bG).f3) ((aA aI bG).f4))) else (bC.j2 k2 bG aI (aI.length:Int) bG false aZ aV aW aI ((aA aI bG).f0) ((aA aI bG).f1) ((aA aI bG).f2) ((aA aI bG).f3) ((aA aI bG).f4)))) else (some (bG,4)))=some (r1,r2):=H
           have Td:=ae.mk Ih
           clear Ih
           by_cases c20:t165=true
           ·
            subst c20
            have H1:(if ((aA aI bG).f0)=3 then (if ((aA aI bG).f4) < 0 then (bC.j2 k2 bG aI (aI.length:Int) bG true aZ aV aW aI ((aA aI bG).f0) ((aA aI bG).f1) ((aA aI bG).f2) ((aA aI bG).f3) ((aA aI bG).f4)) else (bC.j2 k2 bG aI (aI.length:Int) bG (decide (((aA aI bG).f4) > (aI.length:Int))) aZ aV aW aI ((aA aI bG).f0) ((aA aI bG).f1) ((aA aI bG).f2) ((aA aI bG).f3) ((aA aI bG).f4))) else (if ((aA aI bG).f0)=4 then (if ((aA aI bG).f4) < 0 then (bC.j2 k2 bG aI (aI.length:Int) bG true aZ aV aW aI ((aA aI bG).f0) ((aA aI bG).f1) ((aA aI bG).f2) ((aA aI bG).f3) ((aA aI bG).f4)) else (bC.j2 k2 bG aI (aI.length:Int) bG (decide (((aA aI bG).f4) > (aI.length:Int))) aZ aV aW aI ((aA aI bG).f0) ((aA aI bG).f1) ((aA aI bG).f2) ((aA aI bG).f3) ((aA aI bG).f4))) else (bC.j2 k2 bG aI (aI.length:Int) bG false aZ aV aW aI ((aA aI bG).f0) ((aA aI bG).f1) ((aA aI bG).f2) ((aA aI bG).f3) ((aA aI bG).f4))))=some (r1,r2):=by rw [if_pos rfl] at H;exact H
            clear H
            have H:=H1
            clear H1
            have JC:=ae.mk H
            clear H
            have IP:0≤(bG:Int):=of_decide_eq_true (by first|(with_reducible assumption)|assumption)
            have IB:bG < (aI.length:Int):=of_decide_eq_true (by first|(with_reducible assumption)|assumption)
            obtain ⟨qU,abh,uA,uz,uy,uw,uu⟩:=yU jR.out bG IP IB
            cases abh
            replace uA:=(HB.out.cell (World.block_lt_of_cell? w _ uA)).trans uA
            replace uz:=(HB.out.cell (World.block_lt_of_cell? w _ uz)).trans uz
            replace uy:=(HB.out.cell (World.block_lt_of_cell? w _ uy)).trans uy
            replace uw:=(HB.out.cell (World.block_lt_of_cell? w _ uw)).trans uw
            replace uu:=(HB.out.cell (World.block_lt_of_cell? w _ uu)).trans uu
            replace IP:=eq_true IP
            replace IB:=eq_true IB
            go_upto_region 11 with (first|((with_reducible refine bD (N:=6) rfl ?_);(try (refine nT (by rfl) ?_;dsimp only));refine fG ?hg (N:=6) ?hd (cs:=#[.int .u8 0,.int .u8 0,.int .u8 0,.int .u8 0,.int .i64 0]) (t:=55) ?hr ?_;(case hd=>rfl);(case hg=>rfl);(case hr=>first|(go_simp;done)|(go_simp;rfl));intro iR hg Z4 hbox hb;have dX:=ae.mk (bg (g:=jf) (o:=.cells #[.slice eu aZ.length ed,.string aV,.string aW,.slice (some qU) aI.length eX] 25 (0,0)) (by (with_reducible repeat (first|refine au ?_ _|refine ay ?_|refine ak ?_ _));exact fE.out) hb);have dW:=ae.mk (bn (by repeat (first|(with_reducible first|exact HB.out|apply ah|apply ag|apply ai|refine aj ?_ mi.out)|exact HB.out)) hb);have dU:=ae.mk (hbox);have iq:=ae.mk ((by rw [hg];exact (bY (by repeat (first|(with_reducible first|exact HB.out|apply ah|apply ag|apply ai|refine aj ?_ mi.out)|exact HB.out))):w.heap.size≤iR));have mr:=iq;have ny:=ae.mk ((by rw [hg];exact Nat.ne_of_lt (kR (g:=jf) (o:=.cells #[.slice eu aZ.length ed,.string aV,.string aW,.slice (some qU) aI.length eX] 25 (0,0)) (by (with_reducible repeat (first|refine au ?_ _|refine ay ?_|refine ak ?_ _));exact fE.out)):jf ≠ iR));have oz:=ae.mk ny.out.symm;clear fE;clear HB;have fE:=dX;have HB:=dW;have eU:=dU;have af6:=iq;have qY:=mr;have jl:=ny;have nD:=oz;clear dX dW dU iq mr ny oz;clear hb hbox hg;have adz:=nD.out;have adp:=jl.out;have XI:Z4.cell? ⟨iR,0,none⟩=some (.int .u8 0):=(ax eU.out 0).trans rfl;have XH:Z4.cell? ⟨iR,1,none⟩=some (.int .u8 0):=(ax eU.out 1).trans rfl;have XG:Z4.cell? ⟨iR,2,none⟩=some (.int .u8 0):=(ax eU.out 2).trans rfl;have XF:Z4.cell? ⟨iR,3,none⟩=some (.int .u8 0):=(ax eU.out 3).trans rfl;have XE:Z4.cell? ⟨iR,4,none⟩=some (.int .i64 0):=(ax eU.out 4).trans rfl;have VR:=aC eU.out 0;have VQ:=aC eU.out 1;have VP:=aC eU.out 2;have VO:=aC eU.out 3;have VN:=aC eU.out 4)|((with_reducible refine bz (f:=33) rfl ?_);refine dV (some 49) rfl rfl Tryd.func33 (by kernel_rfl) rfl #[.agg #[.int .u8 ((aA aI bG).f0),.int .u8 ((aA aI bG).f1),.int .u8 ((aA aI bG).f2),.int .u8 ((aA aI bG).f3),.int .i64 ((aA aI bG).f4)]] rfl (by (try simp only [List.map_toArray,List.map_cons,List.map_nil]);first|done|rfl|(simp only [List.length_drop,List.length_take];rfl)) ?_;(with_reducible refine (mQ.calls ((aA aI bG).f0) ((aA aI bG).f1) ((aA aI bG).f2) ((aA aI bG).f3) ((aA aI bG).f4) true _ ?df Td.out).mono ?_);(case df=>exact Kd.bJ yH.out (by repeat (first|(with_reducible first|exact HB.out|apply ah|apply ag|apply ai|refine aj ?_ mi.out|refine aj ?_ qY.out)|exact HB.out)));rintro e rC ⟨rfl,hb⟩;refine ⟨_,rfl,?_⟩;have dX:=ae.mk (bg (g:=jf) (o:=.cells #[.slice eu aZ.length ed,.string aV,.string aW,.slice (some qU) aI.length eX] 25 (0,0)) (by (with_reducible repeat (first|refine au ?_ _|refine ay ?_|refine ak ?_ _));refine fV ?_ jl.out _;(with_reducible repeat (first|refine au ?_ _|refine ay ?_|refine ak ?_ _));refine fV ?_ jl.out _;(with_reducible repeat (first|refine au ?_ _|refine ay ?_|refine ak ?_ _));refine fV ?_ jl.out _;(with_reducible repeat (first|refine au ?_ _|refine ay ?_|refine ak ?_ _));refine fV ?_ jl.out _;(with_reducible repeat (first|refine au ?_ _|refine ay ?_|refine ak ?_ _));refine fV ?_ jl.out _;(with_reducible repeat (first|refine au ?_ _|refine ay ?_|refine ak ?_ _));exact fE.out) hb);have dW:=ae.mk (bg (g:=iR) (o:=.cells #[.int .u8 ((aA aI bG).f0),.int .u8 ((aA aI bG).f1),.int .u8 ((aA aI bG).f2),.int .u8 ((aA aI bG).f3),.int .i64 ((aA aI bG).f4)] 55 (0,0)) (by (with_reducible repeat (first|refine au ?_ _|refine ay ?_|refine ak ?_ _));refine dR (cs:=#[.int .u8 ((aA aI bG).f0),.int .u8 ((aA aI bG).f1),.int .u8 ((aA aI bG).f2),.int .u8 ((aA aI bG).f3),.int .i64 0]) ?_ 4 _ rfl;(with_reducible repeat (first|refine au ?_ _|refine ay ?_|refine ak ?_ _));refine dR (cs:=#[.int .u8 ((aA aI bG).f0),.int .u8 ((aA aI bG).f1),.int .u8 ((aA aI bG).f2),.int .u8 0,.int .i64 0]) ?_ 3 _ rfl;(with_reducible repeat (first|refine au ?_ _|refine ay ?_|refine ak ?_ _));refine dR (cs:=#[.int .u8 ((aA aI bG).f0),.int .u8 ((aA aI bG).f1),.int .u8 0,.int .u8 0,.int .i64 0]) ?_ 2 _ rfl;(with_reducible repeat (first|refine au ?_ _|refine ay ?_|refine ak ?_ _));refine dR (cs:=#[.int .u8 ((aA aI bG).f0),.int .u8 0,.int .u8 0,.int .u8 0,.int .i64 0]) ?_ 1 _ rfl;(with_reducible repeat (first|refine au ?_ _|refine ay ?_|refine ak ?_ _));refine dR (cs:=#[.int .u8 0,.int .u8 0,.int .u8 0,.int .u8 0,.int .i64 0]) ?_ 0 _ rfl;(with_reducible repeat (first|refine au ?_ _|refine ay ?_|refine ak ?_ _));exact eU.out) hb);have dU:=ae.mk (bn (by repeat (first|(with_reducible first|exact HB.out|apply ah|apply ag|apply ai|refine aj ?_ mi.out|refine aj ?_ qY.out)|exact HB.out)) hb);clear fE;clear eU;clear HB;have fE:=dX;have eU:=dW;have HB:=dU;clear dX dW dU;(try clear hb);(try clear hb2);(try clear hk);(try clear hi)))
            (try simp only [Act.put,List.setIfInBounds_toArray,List.set_cons_zero,List.set_cons_succ])
            go_cut [52] (fun v52 wc=>∃ (kq:Nat) (Eg:Bool),v52=.bool Eg∧ae (bC.j2 kq bG aI (aI.length:Int) bG Eg aZ aV aW aI ((aA aI bG).f0) ((aA aI bG).f1) ((aA aI bG).f2) ((aA aI bG).f3) ((aA aI bG).f4)=some (r1,r2))∧ae (kq≤k2)∧ae (wc.heap[jf]? = some (.cells #[(.slice eu aZ.length ed),.string aV,.string aW,(.slice (some qU) aI.length eX)] 25 (0,0)))∧ae (wc.heap[iR]? = some (.cells #[.int .u8 ((aA aI bG).f0),.int .u8 ((aA aI bG).f1),.int .u8 ((aA aI bG).f2),.int .u8 ((aA aI bG).f3),.int .i64 ((aA aI bG).f4)] 55 (0,0)))∧ae (Below w.heap.size w wc))
            case first =>
             have H:=JC.out
             clear JC
             by_cases Jn:((aA aI bG).f0)=3
             ·
              rw [if_pos Jn] at H
              have vw:(((aA aI bG).f0) == 3)=true:=beq_iff_eq.mpr Jn
              have RI:(((aA aI bG).f0) != 3)=false:=bne_eq_false_iff_eq.mpr Jn
              clear Jn
              (first|rw [vw]|(simp only [bT,bW];rw [vw])|skip)
              by_cases c27:((aA aI bG).f4) < 0
              ·
               rw [if_pos c27] at H
               have afo:decide (((aA aI bG).f4) < 0)=true:=decide_eq_true c27
               clear c27
               have H':=ae.mk H
               clear H
               have apu:=nD.out
               have ao2:=jl.out
               have XC:rC.cell? ⟨iR,0,none⟩=some (.int .u8 ((aA aI bG).f0)):=(ax eU.out 0).trans rfl
               have XB:rC.cell? ⟨iR,1,none⟩=some (.int .u8 ((aA aI bG).f1)):=(ax eU.out 1).trans rfl
               have XA:rC.cell? ⟨iR,2,none⟩=some (.int .u8 ((aA aI bG).f2)):=(ax eU.out 2).trans rfl
               have Xz:rC.cell? ⟨iR,3,none⟩=some (.int .u8 ((aA aI bG).f3)):=(ax eU.out 3).trans rfl
               have Xy:rC.cell? ⟨iR,4,none⟩=some (.int .i64 ((aA aI bG).f4)):=(ax eU.out 4).trans rfl
               have VL:=aC eU.out 0
               have VK:=aC eU.out 1
               have VJ:=aC eU.out 2
               have VI:=aC eU.out 3
               have VH:=aC eU.out 4
               go_wp2
               go_meet
               case rel=>exact ⟨_,(true),(by first|rfl|(simp;done)|(simp [*];done)),H',⟨by have:=zh.out;have:=uM.out;first|omega|exact Nat.le_refl _⟩,⟨by (with_reducible repeat (first|refine au ?_ _|refine ay ?_|refine ak ?_ _));exact fE.out⟩,⟨by (with_reducible repeat (first|refine au ?_ _|refine ay ?_|refine ak ?_ _));exact eU.out⟩,⟨by repeat (first|(with_reducible first|exact HB.out|apply ah|apply ag|apply ai|refine aj ?_ mi.out|refine aj ?_ qY.out)|exact HB.out)⟩⟩
              ·
               rw [if_neg c27] at H
               have afo:decide (((aA aI bG).f4) < 0)=false:=decide_eq_false c27
               clear c27
               have H':=ae.mk H
               clear H
               have aps:=nD.out
               have ao0:=jl.out
               have al6:rC.cell? ⟨iR,0,none⟩=some (.int .u8 ((aA aI bG).f0)):=(ax eU.out 0).trans rfl
               have al5:rC.cell? ⟨iR,1,none⟩=some (.int .u8 ((aA aI bG).f1)):=(ax eU.out 1).trans rfl
               have al4:rC.cell? ⟨iR,2,none⟩=some (.int .u8 ((aA aI bG).f2)):=(ax eU.out 2).trans rfl
               have al3:rC.cell? ⟨iR,3,none⟩=some (.int .u8 ((aA aI bG).f3)):=(ax eU.out 3).trans rfl
               have al2:rC.cell? ⟨iR,4,none⟩=some (.int .i64 ((aA aI bG).f4)):=(ax eU.out 4).trans rfl
               have ajO:=aC eU.out 0
               have ajN:=aC eU.out 1
               have ajM:=aC eU.out 2
               have ajL:=aC eU.out 3
               have ajK:=aC eU.out 4
               have al1:rC.cell? ⟨jf,0,none⟩=some (.slice eu aZ.length ed):=(ax fE.out 0).trans rfl
               have al0:rC.cell? ⟨jf,1,none⟩=some (.string aV):=(ax fE.out 1).trans rfl
               have alZ:rC.cell? ⟨jf,2,none⟩=some (.string aW):=(ax fE.out 2).trans rfl
               have alY:rC.cell? ⟨jf,3,none⟩=some (.slice (some qU) aI.length eX):=(ax fE.out 3).trans rfl
               have ajJ:=aC fE.out 0
               have ajI:=aC fE.out 1
               have ajH:=aC fE.out 2
               have ajG:=aC fE.out 3
               go_wp2
               go_meet
               case rel=>exact ⟨_,(decide (((aA aI bG).f4) > (aI.length:Int))),(by first|rfl|(simp;done)|(simp [*];done)),H',⟨by have:=zh.out;have:=uM.out;first|omega|exact Nat.le_refl _⟩,⟨by (with_reducible repeat (first|refine au ?_ _|refine ay ?_|refine ak ?_ _));exact fE.out⟩,⟨by (with_reducible repeat (first|refine au ?_ _|refine ay ?_|refine ak ?_ _));exact eU.out⟩,⟨by repeat (first|(with_reducible first|exact HB.out|apply ah|apply ag|apply ai|refine aj ?_ mi.out|refine aj ?_ qY.out)|exact HB.out)⟩⟩
             ·
              rw [if_neg Jn] at H
              have vw:(((aA aI bG).f0) == 3)=false:=beq_eq_false_iff_ne.mpr Jn
              have RI:(((aA aI bG).f0) != 3)=true:=bne_iff_ne.mpr Jn
              (first|rw [vw]|(simp only [bT,bW];rw [vw])|skip)
              by_cases c33:((aA aI bG).f0)=4
              ·
               rw [if_pos c33] at H
               have afj:(((aA aI bG).f0) == 4)=true:=beq_iff_eq.mpr c33
               have afi:(((aA aI bG).f0) != 4)=false:=bne_eq_false_iff_eq.mpr c33
               clear c33
               by_cases c34:((aA aI bG).f4) < 0
               ·
                rw [if_pos c34] at H
                have RG:decide (((aA aI bG).f4) < 0)=true:=decide_eq_true c34
                clear c34
                have H':=ae.mk H
                clear H
                have apo:=nD.out
                have aoX:=jl.out
                have Xw:rC.cell? ⟨iR,0,none⟩=some (.int .u8 ((aA aI bG).f0)):=(ax eU.out 0).trans rfl
                have Xv:rC.cell? ⟨iR,1,none⟩=some (.int .u8 ((aA aI bG).f1)):=(ax eU.out 1).trans rfl
                have Xu:rC.cell? ⟨iR,2,none⟩=some (.int .u8 ((aA aI bG).f2)):=(ax eU.out 2).trans rfl
                have Xt:rC.cell? ⟨iR,3,none⟩=some (.int .u8 ((aA aI bG).f3)):=(ax eU.out 3).trans rfl
                have Xr:rC.cell? ⟨iR,4,none⟩=some (.int .i64 ((aA aI bG).f4)):=(ax eU.out 4).trans rfl
                have VF:=aC eU.out 0
                have VE:=aC eU.out 1
                have VD:=aC eU.out 2
                have VC:=aC eU.out 3
                have VB:=aC eU.out 4
                go_wp2
                go_meet
                case rel=>exact ⟨_,(true),(by first|rfl|(simp;done)|(simp [*];done)),H',⟨by have:=zh.out;have:=uM.out;first|omega|exact Nat.le_refl _⟩,⟨by (with_reducible repeat (first|refine au ?_ _|refine ay ?_|refine ak ?_ _));exact fE.out⟩,⟨by (with_reducible repeat (first|refine au ?_ _|refine ay ?_|refine ak ?_ _));exact eU.out⟩,⟨by repeat (first|(with_reducible first|exact HB.out|apply ah|apply ag|apply ai|refine aj ?_ mi.out|refine aj ?_ qY.out)|exact HB.out)⟩⟩
               ·
                rw [if_neg c34] at H
                have RG:decide (((aA aI bG).f4) < 0)=false:=decide_eq_false c34
                clear c34
                have H':=ae.mk H
                clear H
                have apn:=nD.out
                have aoW:=jl.out
                have alS:rC.cell? ⟨iR,0,none⟩=some (.int .u8 ((aA aI bG).f0)):=(ax eU.out 0).trans rfl
                have alR:rC.cell? ⟨iR,1,none⟩=some (.int .u8 ((aA aI bG).f1)):=(ax eU.out 1).trans rfl
                have alQ:rC.cell? ⟨iR,2,none⟩=some (.int .u8 ((aA aI bG).f2)):=(ax eU.out 2).trans rfl
                have alP:rC.cell? ⟨iR,3,none⟩=some (.int .u8 ((aA aI bG).f3)):=(ax eU.out 3).trans rfl
                have alO:rC.cell? ⟨iR,4,none⟩=some (.int .i64 ((aA aI bG).f4)):=(ax eU.out 4).trans rfl
                have ajA:=aC eU.out 0
                have ajz:=aC eU.out 1
                have ajy:=aC eU.out 2
                have ajx:=aC eU.out 3
                have ajw:=aC eU.out 4
                have Xq:rC.cell? ⟨jf,0,none⟩=some (.slice eu aZ.length ed):=(ax fE.out 0).trans rfl
                have Xp:rC.cell? ⟨jf,1,none⟩=some (.string aV):=(ax fE.out 1).trans rfl
                have Xo:rC.cell? ⟨jf,2,none⟩=some (.string aW):=(ax fE.out 2).trans rfl
                have Xn:rC.cell? ⟨jf,3,none⟩=some (.slice (some qU) aI.length eX):=(ax fE.out 3).trans rfl
                have VA:=aC fE.out 0
                have Vz:=aC fE.out 1
                have Vy:=aC fE.out 2
                have Vx:=aC fE.out 3
                go_wp2
                go_meet
                case rel=>exact ⟨_,(decide (((aA aI bG).f4) > (aI.length:Int))),(by first|rfl|(simp;done)|(simp [*];done)),H',⟨by have:=zh.out;have:=uM.out;first|omega|exact Nat.le_refl _⟩,⟨by (with_reducible repeat (first|refine au ?_ _|refine ay ?_|refine ak ?_ _));exact fE.out⟩,⟨by (with_reducible repeat (first|refine au ?_ _|refine ay ?_|refine ak ?_ _));exact eU.out⟩,⟨by repeat (first|(with_reducible first|exact HB.out|apply ah|apply ag|apply ai|refine aj ?_ mi.out|refine aj ?_ qY.out)|exact HB.out)⟩⟩
              ·
               rw [if_neg c33] at H
               have afj:(((aA aI bG).f0) == 4)=false:=beq_eq_false_iff_ne.mpr c33
               have afi:(((aA aI bG).f0) != 4)=true:=bne_iff_ne.mpr c33
               have H':=ae.mk H
               clear H
               have apk:=nD.out
               have aoT:=jl.out
               have alH:rC.cell? ⟨iR,0,none⟩=some (.int .u8 ((aA aI bG).f0)):=(ax eU.out 0).trans rfl
               have alG:rC.cell? ⟨iR,1,none⟩=some (.int .u8 ((aA aI bG).f1)):=(ax eU.out 1).trans rfl
               have alF:rC.cell? ⟨iR,2,none⟩=some (.int .u8 ((aA aI bG).f2)):=(ax eU.out 2).trans rfl
               have alE:rC.cell? ⟨iR,3,none⟩=some (.int .u8 ((aA aI bG).f3)):=(ax eU.out 3).trans rfl
               have alD:rC.cell? ⟨iR,4,none⟩=some (.int .i64 ((aA aI bG).f4)):=(ax eU.out 4).trans rfl
               have ajp:=aC eU.out 0
               have ajo:=aC eU.out 1
               have ajn:=aC eU.out 2
               have ajm:=aC eU.out 3
               have ajl:=aC eU.out 4
               go_wp2
               go_meet
               case rel=>exact ⟨_,(false),(by first|rfl|(simp;done)|(simp [*];done)),H',⟨by have:=zh.out;have:=uM.out;first|omega|exact Nat.le_refl _⟩,⟨by (with_reducible repeat (first|refine au ?_ _|refine ay ?_|refine ak ?_ _));exact fE.out⟩,⟨by (with_reducible repeat (first|refine au ?_ _|refine ay ?_|refine ak ?_ _));exact eU.out⟩,⟨by repeat (first|(with_reducible first|exact HB.out|apply ah|apply ag|apply ai|refine aj ?_ mi.out|refine aj ?_ qY.out)|exact HB.out)⟩⟩
            case rest =>
             clear JC
             obtain ⟨kq,Eg,rfl,HA,Ia,fE,eU,HB⟩:=hcut
             cases kq with
             | zero=>exact absurd HA.out (by simp [bC.j2])
             | succ sU =>
              have H:=HA.out
              clear HA
              simp only [bC.j2] at H
              by_cases c42:Eg=true
              ·
               subst c42
               have H1:(some (bG,12))=some (r1,r2):=by rw [if_pos rfl] at H;exact H
               clear H
               have H:=H1
               clear H1
               simp only [Option.some.injEq,Prod.mk.injEq] at H
               obtain ⟨rfl,rfl⟩:=H
               go_wp2
               go_ret2
               exact ⟨by first|rfl|(simp [aQ,aN] <;> rfl)|(simp [*,aQ,aN] <;> rfl),by repeat (first|(with_reducible first|exact HB.out|apply ah|apply ag|apply ai|refine aj ?_ mi.out|refine aj ?_ qY.out)|exact HB.out)⟩
              ·
               replace c42:=Bool.eq_false_iff.mpr c42
               subst c42
               have H1:((bV.f sU aZ aV aW aI ((aA aI bG).f0) ((aA aI bG).f1) ((aA aI bG).f2) ((aA aI bG).f3) ((aA aI bG).f4)).bind fun t166=>(if t166=true then (bC.l0 sU aI (aI.length:Int) (wrap64 (bG+1)) aZ aV aW aI) else (some (bG,5))))=some (r1,r2):=by rw [if_neg (show ¬ (false=true) by decide)] at H;exact H
               clear H
               have H:=H1
               clear H1
               replace H:=Option.bind_eq_some_iff.mp H
               obtain ⟨t166,agF,H⟩:=H
               replace H:(if t166=true then (bC.l0 sU aI (aI.length:Int) (wrap64 (bG+1)) aZ aV aW aI) else (some (bG,5)))=some (r1,r2):=H
               have A43:=ae.mk agF
               clear agF
               by_cases Yy:t166=true
               ·
                subst Yy
                have H1:(bC.l0 sU aI (aI.length:Int) (wrap64 (bG+1)) aZ aV aW aI)=some (r1,r2):=by rw [if_pos rfl] at H;exact H
                clear H
                have H:=H1
                clear H1
                have H':=ae.mk H
                clear H
                have adx:=jl.out
                have adn:=nD.out
                have alx:wc.cell? ⟨jf,0,none⟩=some (.slice eu aZ.length ed):=(ax fE.out 0).trans rfl
                have alv:wc.cell? ⟨jf,1,none⟩=some (.string aV):=(ax fE.out 1).trans rfl
                have alu:wc.cell? ⟨jf,2,none⟩=some (.string aW):=(ax fE.out 2).trans rfl
                have als:wc.cell? ⟨jf,3,none⟩=some (.slice (some qU) aI.length eX):=(ax fE.out 3).trans rfl
                have ajf:=aC fE.out 0
                have aje:=aC fE.out 1
                have ajd:=aC fE.out 2
                have ajc:=aC fE.out 3
                have L8:wc.cell? ⟨iR,0,none⟩=some (.int .u8 ((aA aI bG).f0)):=(ax eU.out 0).trans rfl
                have L6:wc.cell? ⟨iR,1,none⟩=some (.int .u8 ((aA aI bG).f1)):=(ax eU.out 1).trans rfl
                have LZ:wc.cell? ⟨iR,2,none⟩=some (.int .u8 ((aA aI bG).f2)):=(ax eU.out 2).trans rfl
                have LY:wc.cell? ⟨iR,3,none⟩=some (.int .u8 ((aA aI bG).f3)):=(ax eU.out 3).trans rfl
                have LX:wc.cell? ⟨iR,4,none⟩=some (.int .i64 ((aA aI bG).f4)):=(ax eU.out 4).trans rfl
                have KT:=aC eU.out 0
                have KR:=aC eU.out 1
                have KQ:=aC eU.out 2
                have KP:=aC eU.out 3
                have KO:=aC eU.out 4
                go_wp2_with (first|((with_reducible refine bz (f:=34) rfl ?_);refine dV (some 78) rfl rfl Tryd.func34 (by kernel_rfl) rfl #[.agg #[.slice eu aZ.length ed,.string aV,.string aW,.slice (some qU) aI.length eX],.agg #[.int .u8 ((aA aI bG).f0),.int .u8 ((aA aI bG).f1),.int .u8 ((aA aI bG).f2),.int .u8 ((aA aI bG).f3),.int .i64 ((aA aI bG).f4)]] rfl (by (try simp only [List.map_toArray,List.map_cons,List.map_nil]);first|done|rfl|(simp only [List.length_drop,List.length_take];rfl)) ?_;(with_reducible refine (bV.calls sU _ _ aZ aV aW _ _ aI ((aA aI bG).f0) ((aA aI bG).f1) ((aA aI bG).f2) ((aA aI bG).f3) ((aA aI bG).f4) true _ ?df ?dA ?iY ?iW A43.out).mono ?_);(case df=>repeat (first|exact (Kd.bJ iI.out HB.out)|(with_reducible refine Kd.bQ ?_ _)|(with_reducible refine Kd.bP ?_ _)|(with_reducible refine Kd.dF ?_)));(case dA=>exact iL.out);(case iY=>repeat (first|exact (Kd.bJ jR.out HB.out)|(with_reducible refine Kd.bQ ?_ _)|(with_reducible refine Kd.bP ?_ _)|(with_reducible refine Kd.dF ?_)));(case iW=>exact kK.out);rintro e w48 ⟨rfl,hb⟩;refine ⟨_,rfl,?_⟩;have dX:=ae.mk (bg (g:=jf) (o:=.cells #[.slice eu aZ.length ed,.string aV,.string aW,.slice (some qU) aI.length eX] 25 (0,0)) (by (with_reducible repeat (first|refine au ?_ _|refine ay ?_|refine ak ?_ _));exact fE.out) hb);have dW:=ae.mk (bg (g:=iR) (o:=.cells #[.int .u8 ((aA aI bG).f0),.int .u8 ((aA aI bG).f1),.int .u8 ((aA aI bG).f2),.int .u8 ((aA aI bG).f3),.int .i64 ((aA aI bG).f4)] 55 (0,0)) (by (with_reducible repeat (first|refine au ?_ _|refine ay ?_|refine ak ?_ _));exact eU.out) hb);have dU:=ae.mk (bn (by repeat (first|(with_reducible first|exact HB.out|apply ah|apply ag|apply ai|refine aj ?_ mi.out|refine aj ?_ qY.out)|exact HB.out)) hb);clear fE;clear eU;clear HB;have fE:=dX;have eU:=dW;have HB:=dU;clear dX dW dU;(try clear hb);(try clear hb2);(try clear hk);(try clear hi)))
                go_roundg sU
                case measure=>have:=zh.out;have:=uM.out;have:=Ia.out;omega
                case rel=>exact ⟨(wrap64 (bG+1)),(by first|rfl|(simp;done)|(simp [*];done)),H',⟨by have:=zh.out;have:=uM.out;have:=Ia.out;omega⟩,⟨by (with_reducible repeat (first|refine au ?_ _|refine ay ?_|refine ak ?_ _));exact fE.out⟩,⟨by repeat (first|(with_reducible first|exact HB.out|apply ah|apply ag|apply ai|refine aj ?_ mi.out|refine aj ?_ qY.out)|exact HB.out)⟩⟩
               ·
                replace Yy:=Bool.eq_false_iff.mpr Yy
                subst Yy
                have H1:(some (bG,5))=some (r1,r2):=by rw [if_neg (show ¬ (false=true) by decide)] at H;exact H
                clear H
                have H:=H1
                clear H1
                simp only [Option.some.injEq,Prod.mk.injEq] at H
                obtain ⟨rfl,rfl⟩:=H
                have adv:=jl.out
                have adl:=nD.out
                have Xh:wc.cell? ⟨jf,0,none⟩=some (.slice eu aZ.length ed):=(ax fE.out 0).trans rfl
                have Xg:wc.cell? ⟨jf,1,none⟩=some (.string aV):=(ax fE.out 1).trans rfl
                have Xf:wc.cell? ⟨jf,2,none⟩=some (.string aW):=(ax fE.out 2).trans rfl
                have Xe:wc.cell? ⟨jf,3,none⟩=some (.slice (some qU) aI.length eX):=(ax fE.out 3).trans rfl
                have Vq:=aC fE.out 0
                have Vp:=aC fE.out 1
                have Vo:=aC fE.out 2
                have Vm:=aC fE.out 3
                have Xd:wc.cell? ⟨iR,0,none⟩=some (.int .u8 ((aA aI bG).f0)):=(ax eU.out 0).trans rfl
                have Xc:wc.cell? ⟨iR,1,none⟩=some (.int .u8 ((aA aI bG).f1)):=(ax eU.out 1).trans rfl
                have Xb:wc.cell? ⟨iR,2,none⟩=some (.int .u8 ((aA aI bG).f2)):=(ax eU.out 2).trans rfl
                have Xa:wc.cell? ⟨iR,3,none⟩=some (.int .u8 ((aA aI bG).f3)):=(ax eU.out 3).trans rfl
                have alq:wc.cell? ⟨iR,4,none⟩=some (.int .i64 ((aA aI bG).f4)):=(ax eU.out 4).trans rfl
                have Vl:=aC eU.out 0
                have Vk:=aC eU.out 1
                have Vj:=aC eU.out 2
                have Vh:=aC eU.out 3
                have aja:=aC eU.out 4
                go_wp2_with (first|((with_reducible refine bz (f:=34) rfl ?_);refine dV (some 78) rfl rfl Tryd.func34 (by kernel_rfl) rfl #[.agg #[.slice eu aZ.length ed,.string aV,.string aW,.slice (some qU) aI.length eX],.agg #[.int .u8 ((aA aI bG).f0),.int .u8 ((aA aI bG).f1),.int .u8 ((aA aI bG).f2),.int .u8 ((aA aI bG).f3),.int .i64 ((aA aI bG).f4)]] rfl (by (try simp only [List.map_toArray,List.map_cons,List.map_nil]);first|done|rfl|(simp only [List.length_drop,List.length_take];rfl)) ?_;(with_reducible refine (bV.calls sU _ _ aZ aV aW _ _ aI ((aA aI bG).f0) ((aA aI bG).f1) ((aA aI bG).f2) ((aA aI bG).f3) ((aA aI bG).f4) false _ ?df ?dA ?iY ?iW A43.out).mono ?_);(case df=>repeat (first|exact (Kd.bJ iI.out HB.out)|(with_reducible refine Kd.bQ ?_ _)|(with_reducible refine Kd.bP ?_ _)|(with_reducible refine Kd.dF ?_)));(case dA=>exact iL.out);(case iY=>repeat (first|exact (Kd.bJ jR.out HB.out)|(with_reducible refine Kd.bQ ?_ _)|(with_reducible refine Kd.bP ?_ _)|(with_reducible refine Kd.dF ?_)));(case iW=>exact kK.out);rintro e w52 ⟨rfl,hb⟩;refine ⟨_,rfl,?_⟩;have dX:=ae.mk (bg (g:=jf) (o:=.cells #[.slice eu aZ.length ed,.string aV,.string aW,.slice (some qU) aI.length eX] 25 (0,0)) (by (with_reducible repeat (first|refine au ?_ _|refine ay ?_|refine ak ?_ _));exact fE.out) hb);have dW:=ae.mk (bg (g:=iR) (o:=.cells #[.int .u8 ((aA aI bG).f0),.int .u8 ((aA aI bG).f1),.int .u8 ((aA aI bG).f2),.int .u8 ((aA aI bG).f3),.int .i64 ((aA aI bG).f4)] 55 (0,0)) (by (with_reducible repeat (first|refine au ?_ _|refine ay ?_|refine ak ?_ _));exact eU.out) hb);have dU:=ae.mk (bn (by repeat (first|(with_reducible first|exact HB.out|apply ah|apply ag|apply ai|refine aj ?_ mi.out|refine aj ?_ qY.out)|exact HB.out)) hb);clear fE;clear eU;clear HB;have fE:=dX;have eU:=dW;have HB:=dU;clear dX dW dU;(try clear hb);(try clear hb2);(try clear hk);(try clear hi)))
                go_ret2
                exact ⟨by first|rfl|(simp [aQ,aN] <;> rfl)|(simp [*,aQ,aN] <;> rfl),by repeat (first|(with_reducible first|exact HB.out|apply ah|apply ag|apply ai|refine aj ?_ mi.out|refine aj ?_ qY.out)|exact HB.out)⟩
           ·
            replace c20:=Bool.eq_false_iff.mpr c20
            subst c20
            have H1:(some (bG,4))=some (r1,r2):=by rw [if_neg (show ¬ (false=true) by decide)] at H;exact H
            clear H
            have H:=H1
            clear H1
            simp only [Option.some.injEq,Prod.mk.injEq] at H
            obtain ⟨rfl,rfl⟩:=H
            have IP:0≤(bG:Int):=of_decide_eq_true (by first|(with_reducible assumption)|assumption)
            have IB:bG < (aI.length:Int):=of_decide_eq_true (by first|(with_reducible assumption)|assumption)
            obtain ⟨qU,abh,uA,uz,uy,uw,uu⟩:=yU jR.out bG IP IB
            cases abh
            replace uA:=(HB.out.cell (World.block_lt_of_cell? w _ uA)).trans uA
            replace uz:=(HB.out.cell (World.block_lt_of_cell? w _ uz)).trans uz
            replace uy:=(HB.out.cell (World.block_lt_of_cell? w _ uy)).trans uy
            replace uw:=(HB.out.cell (World.block_lt_of_cell? w _ uw)).trans uw
            replace uu:=(HB.out.cell (World.block_lt_of_cell? w _ uu)).trans uu
            replace IP:=eq_true IP
            replace IB:=eq_true IB
            go_wp2_with (first|((with_reducible refine bD (N:=6) rfl ?_);(try (refine nT (by rfl) ?_;dsimp only));refine fG ?hg (N:=6) ?hd (cs:=#[.int .u8 0,.int .u8 0,.int .u8 0,.int .u8 0,.int .i64 0]) (t:=55) ?hr ?_;(case hd=>rfl);(case hg=>rfl);(case hr=>first|(go_simp;done)|(go_simp;rfl));intro iR hg w53 hbox hb;have dX:=ae.mk (bg (g:=jf) (o:=.cells #[.slice eu aZ.length ed,.string aV,.string aW,.slice (some qU) aI.length eX] 25 (0,0)) (by (with_reducible repeat (first|refine au ?_ _|refine ay ?_|refine ak ?_ _));exact fE.out) hb);have dW:=ae.mk (bn (by repeat (first|(with_reducible first|exact HB.out|apply ah|apply ag|apply ai|refine aj ?_ mi.out)|exact HB.out)) hb);have dU:=ae.mk (hbox);have iq:=ae.mk ((by rw [hg];exact (bY (by repeat (first|(with_reducible first|exact HB.out|apply ah|apply ag|apply ai|refine aj ?_ mi.out)|exact HB.out))):w.heap.size≤iR));have mr:=iq;have ny:=ae.mk ((by rw [hg];exact Nat.ne_of_lt (kR (g:=jf) (o:=.cells #[.slice eu aZ.length ed,.string aV,.string aW,.slice (some qU) aI.length eX] 25 (0,0)) (by (with_reducible repeat (first|refine au ?_ _|refine ay ?_|refine ak ?_ _));exact fE.out)):jf ≠ iR));have oz:=ae.mk ny.out.symm;clear fE;clear HB;have fE:=dX;have HB:=dW;have eU:=dU;have af6:=iq;have qY:=mr;have jl:=ny;have nD:=oz;clear dX dW dU iq mr ny oz;clear hb hbox hg;have apg:=nD.out;have aoP:=jl.out;have ali:w53.cell? ⟨iR,0,none⟩=some (.int .u8 0):=(ax eU.out 0).trans rfl;have alh:w53.cell? ⟨iR,1,none⟩=some (.int .u8 0):=(ax eU.out 1).trans rfl;have alg:w53.cell? ⟨iR,2,none⟩=some (.int .u8 0):=(ax eU.out 2).trans rfl;have alf:w53.cell? ⟨iR,3,none⟩=some (.int .u8 0):=(ax eU.out 3).trans rfl;have ale:w53.cell? ⟨iR,4,none⟩=some (.int .i64 0):=(ax eU.out 4).trans rfl;have ai3:=aC eU.out 0;have ai2:=aC eU.out 1;have ai1:=aC eU.out 2;have ai0:=aC eU.out 3;have aiZ:=aC eU.out 4)|((with_reducible refine bz (f:=33) rfl ?_);refine dV (some 49) rfl rfl Tryd.func33 (by kernel_rfl) rfl #[.agg #[.int .u8 ((aA aI bG).f0),.int .u8 ((aA aI bG).f1),.int .u8 ((aA aI bG).f2),.int .u8 ((aA aI bG).f3),.int .i64 ((aA aI bG).f4)]] rfl (by (try simp only [List.map_toArray,List.map_cons,List.map_nil]);first|done|rfl|(simp only [List.length_drop,List.length_take];rfl)) ?_;(with_reducible refine (mQ.calls ((aA aI bG).f0) ((aA aI bG).f1) ((aA aI bG).f2) ((aA aI bG).f3) ((aA aI bG).f4) false _ ?df Td.out).mono ?_);(case df=>exact Kd.bJ yH.out (by repeat (first|(with_reducible first|exact HB.out|apply ah|apply ag|apply ai|refine aj ?_ mi.out|refine aj ?_ qY.out)|exact HB.out)));rintro e w56 ⟨rfl,hb⟩;refine ⟨_,rfl,?_⟩;have dX:=ae.mk (bg (g:=jf) (o:=.cells #[.slice eu aZ.length ed,.string aV,.string aW,.slice (some qU) aI.length eX] 25 (0,0)) (by (with_reducible repeat (first|refine au ?_ _|refine ay ?_|refine ak ?_ _));refine fV ?_ jl.out _;(with_reducible repeat (first|refine au ?_ _|refine ay ?_|refine ak ?_ _));refine fV ?_ jl.out _;(with_reducible repeat (first|refine au ?_ _|refine ay ?_|refine ak ?_ _));refine fV ?_ jl.out _;(with_reducible repeat (first|refine au ?_ _|refine ay ?_|refine ak ?_ _));refine fV ?_ jl.out _;(with_reducible repeat (first|refine au ?_ _|refine ay ?_|refine ak ?_ _));refine fV ?_ jl.out _;(with_reducible repeat (first|refine au ?_ _|refine ay ?_|refine ak ?_ _));exact fE.out) hb);have dW:=ae.mk (bg (g:=iR) (o:=.cells #[.int .u8 ((aA aI bG).f0),.int .u8 ((aA aI bG).f1),.int .u8 ((aA aI bG).f2),.int .u8 ((aA aI bG).f3),.int .i64 ((aA aI bG).f4)] 55 (0,0)) (by (with_reducible repeat (first|refine au ?_ _|refine ay ?_|refine ak ?_ _));refine dR (cs:=#[.int .u8 ((aA aI bG).f0),.int .u8 ((aA aI bG).f1),.int .u8 ((aA aI bG).f2),.int .u8 ((aA aI bG).f3),.int .i64 0]) ?_ 4 _ rfl;(with_reducible repeat (first|refine au ?_ _|refine ay ?_|refine ak ?_ _));refine dR (cs:=#[.int .u8 ((aA aI bG).f0),.int .u8 ((aA aI bG).f1),.int .u8 ((aA aI bG).f2),.int .u8 0,.int .i64 0]) ?_ 3 _ rfl;(with_reducible repeat (first|refine au ?_ _|refine ay ?_|refine ak ?_ _));refine dR (cs:=#[.int .u8 ((aA aI bG).f0),.int .u8 ((aA aI bG).f1),.int .u8 0,.int .u8 0,.int .i64 0]) ?_ 2 _ rfl;(with_reducible repeat (first|refine au ?_ _|refine ay ?_|refine ak ?_ _));refine dR (cs:=#[.int .u8 ((aA aI bG).f0),.int .u8 0,.int .u8 0,.int .u8 0,.int .i64 0]) ?_ 1 _ rfl;(with_reducible repeat (first|refine au ?_ _|refine ay ?_|refine ak ?_ _));refine dR (cs:=#[.int .u8 0,.int .u8 0,.int .u8 0,.int .u8 0,.int .i64 0]) ?_ 0 _ rfl;(with_reducible repeat (first|refine au ?_ _|refine ay ?_|refine ak ?_ _));exact eU.out) hb);have dU:=ae.mk (bn (by repeat (first|(with_reducible first|exact HB.out|apply ah|apply ag|apply ai|refine aj ?_ mi.out|refine aj ?_ qY.out)|exact HB.out)) hb);clear fE;clear eU;clear HB;have fE:=dX;have eU:=dW;have HB:=dU;clear dX dW dU;(try clear hb);(try clear hb2);(try clear hk);(try clear hi)))
            go_ret2
            exact ⟨by first|rfl|(simp [aQ,aN] <;> rfl)|(simp [*,aQ,aN] <;> rfl),by repeat (first|(with_reducible first|exact HB.out|apply ah|apply ag|apply ai|refine aj ?_ mi.out|refine aj ?_ qY.out)|exact HB.out)⟩
          ·
           rw [if_neg c18] at H
           exact absurd H (by simp)
         ·
          rw [if_neg c17] at H
          exact absurd H (by simp)
        ·
         rw [if_neg c16] at H
         have BZ:decide (bG < (aI.length:Int))=false:=decide_eq_false c16
         clear c16
         simp only [Option.some.injEq,Prod.mk.injEq] at H
         obtain ⟨rfl,rfl⟩:=H
         go_wp2
         go_ret2
         exact ⟨by first|rfl|(simp [aQ,aN] <;> rfl)|(simp [*,aQ,aN] <;> rfl),by repeat (first|(with_reducible first|exact HB.out|apply ah|apply ag|apply ai|refine aj ?_ mi.out)|exact HB.out)⟩
end Go.Proofs.YtlemecdddhdagaaDoor.P
end
section
namespace Go.Proofs.YtlemecdddhdagaaDoor.P
open Go.RowKit Go.Proofs.af.bF Go.Proofs.af.dD Go.Proofs.af.dN
def rH (x:iD):Bool:=if x.f0 < 1 then false else if x.f0 > 15 then false else
  ((hasB x.f0 98 || x.f2 == 0) && (hasB x.f0 99 || x.f3 == 0) && (hasB x.f0 110 || x.f4 == 0) && (hasB x.f0 97 || x.f1 == 0))
theorem PW (x:iD):mQ.f x.f0 x.f1 x.f2 x.f3 x.f4=some (rH x):=by
  unfold mQ.f rH
  split
  · rfl
  · split <;> rfl
def rO (x:iD):Bool:=x.f0 == 3 || x.f0 == 4
def qO (t:List ByteArray) (lo gl:ByteArray) (x:iD):Bool:=oC t lo gl x.f0 x.f1 x.f2 x.f3 x.f4
def oU (t:List ByteArray) (lo gl:ByteArray) (n:Nat) (x:iD):Option Int :=
  if rH x=true then (if (rO x && (decide (x.f4 < 0) || decide (x.f4 > n)))=true then some 12 else if qO t lo gl x=true then none else some 5) else some 4
def headB (t:List ByteArray) (lo gl:ByteArray):Bool:=rJ t (lo++gl) && (decide (lo.size≤8) && decide (gl.size≤4))
def xe (t:List ByteArray) (lo gl:ByteArray) (code:List iD):Int × Int :=
  scan (fun i=>(oU t lo gl code.length (code.getD i z55)).map fun e=>((i:Int),e)) (-1,0) code.length 0
def pI (t:List ByteArray) (lo gl:ByteArray) (code:List iD):Int × Int :=
  if headB t lo gl=true then (if 1≤code.length∧code.length≤200 then xe t lo gl code else (-1,3)) else (-1,5)
def Wf (code:List iD):Prop:=∀ i:Nat,(0≤(code.getD i z55).f1∧(code.getD i z55).f1≤255)∧(0≤(code.getD i z55).f2∧(code.getD i z55).f2≤255)∧(0≤(code.getD i z55).f3∧(code.getD i z55).f3≤255)
theorem Jl (t:List ByteArray) (lo gl:ByteArray) (code:List iD) (ht:t.length≤9223372036854775807) (hn:code.length≤9223372036854775807) (hw:Wf code) :
    Ev (fun k=>bC.l0 k code code.length 0 t lo gl code) (xe t lo gl code):=by
  have aal:∀ i:Nat,aA code (i:Int)=code.getD i z55:=fun i=>rfl
  have j2:∀ (i:Nat) (x:Bool) (r r':Int × Int),i < code.length→(x=false→qO t lo gl (code.getD i z55)=true→Ev (fun k=>bC.l0 k code code.length ((i+1:Nat):Int) t lo gl code) r) →
      r'=(if x=true then ((i:Int),12) else if qO t lo gl (code.getD i z55)=true then r else ((i:Int),5)) →
      Ev (fun k=>bC.j2 k (i:Int) code code.length (i:Int) x t lo gl code (code.getD i z55).f0 (code.getD i z55).f1 (code.getD i z55).f2 (code.getD i z55).f3 (code.getD i z55).f4) r':=by
    intro i x r r' hi hr e
    rw [e]
    refine Ev.step (fun k=>by simp only [bC.j2];rfl) ?_
    refine Ev.ite (fun _=>Ev.now _) fun hx=>?_
    refine Ev.bind (UD t lo gl code _ _ _ _ _ ht (hw i).1 (hw i).2.1 (hw i).2.2) ?_
    refine Ev.ite (fun h=>?_) (fun _=>Ev.now _)
    rw [wrapN hi hn]
    exact hr (by simpa using hx) h
  have place:∀ (i:Nat) (r r':Int × Int),i < code.length→(oU t lo gl code.length (code.getD i z55)=none→Ev (fun k=>bC.l0 k code code.length ((i+1:Nat):Int) t lo gl code) r) →
      r'=(match oU t lo gl code.length (code.getD i z55) with|some e=>((i:Int),e)|none=>r) →
      Ev (fun k=>bC.l0 k code code.length (i:Int) t lo gl code) r':=by
    intro i r r' hi hr e
    rw [e]
    generalize hx:code.getD i z55=x at *
    refine Ev.step (f:=fun k=>(mQ.f x.f0 x.f1 x.f2 x.f3 x.f4).bind fun t165=>(if t165=true then (if x.f0=3 then (if x.f4 < 0 then (bC.j2 k i code code.length i true t lo gl code x.f0 x.f1 x.f2 x.f3 x.f4) else (bC.j2 k i code code.length i (decide (x.f4 > (code.length:Int))) t lo gl code x.f0 x.f1 x.f2 x.f3 x.f4)) else (if x.f0=4 then (if x.f4 < 0 then (bC.j2 k i code code.length i true t lo gl code x.f0 x.f1 x.f2 x.f3 x.f4) else (bC.j2 k i code code.length i (decide (x.f4 > (code.length:Int))) t lo gl code x.f0 x.f1 x.f2 x.f3 x.f4)) else (bC.j2 k i code code.length i false t lo gl code x.f0 x.f1 x.f2 x.f3 x.f4))) else (some ((i:Int),4)))) (fun k=>?_) ?_
    · simp only [bC.l0]
      rw [if_pos (by omega),if_pos (by omega),if_pos (by omega),aal,hx]
    · rw [PW]
      simp only [Option.bind_some]
      by_cases h1:rH x=true
      · refine Ev.congr (fun k=>if_pos h1) ?_
        have J:∀ b r0,oU t lo gl code.length x=(if b=true then some 12 else if qO t lo gl x=true then none else some 5)→r0=(match oU t lo gl code.length x with|some e=>((i:Int),e)|none=>r)→Ev (fun k=>bC.j2 k i code code.length i b t lo gl code x.f0 x.f1 x.f2 x.f3 x.f4) r0:=by
          intro b r0 hb e0
          have:=j2 i b r r0 hi (fun hbf hk=>by
            refine hr ?_
            rw [hx] at hk
            rw [hb,hbf,if_neg (by decide),if_pos hk]) (by
              rw [e0,hb,hx]
              cases b
              · cases qO t lo gl x <;> rfl
              · rfl)
          rw [hx] at this
          exact this
        have hbad:∀ b,(rO x && (decide (x.f4 < 0) || decide (x.f4 > code.length)))=b→oU t lo gl code.length x=(if b=true then some 12 else if qO t lo gl x=true then none else some 5):=by
          intro b hb
          unfold oU
          rw [if_pos h1,hb]
        by_cases h3:x.f0=3
        · refine Ev.congr (fun k=>if_pos h3) ?_
          by_cases h4:x.f4 < 0
          · exact Ev.congr (fun k=>if_pos h4) (J true _ (hbad true (by simp [rO,h3,h4])) rfl)
          · exact Ev.congr (fun k=>if_neg h4) (J _ _ (hbad _ (by simp [rO,h3,h4])) rfl)
        · refine Ev.congr (fun k=>if_neg h3) ?_
          by_cases h5:x.f0=4
          · refine Ev.congr (fun k=>if_pos h5) ?_
            by_cases h4:x.f4 < 0
            · exact Ev.congr (fun k=>if_pos h4) (J true _ (hbad true (by simp [rO,h5,h4])) rfl)
            · exact Ev.congr (fun k=>if_neg h4) (J _ _ (hbad _ (by simp [rO,h5,h4])) rfl)
          · exact Ev.congr (fun k=>if_neg h5) (J false _ (hbad false (by simp [rO,h3,h5])) rfl)
      · refine Ev.congr (fun k=>if_neg h1) ?_
        have:oU t lo gl code.length x=some 4:=by unfold oU;rw [if_neg h1]
        rw [this]
        exact Ev.now _
  have:=lV (g:=fun k i=>bC.l0 k code code.length (i:Nat) t lo gl code) (fun i=>(oU t lo gl code.length (code.getD i z55)).map fun e=>((i:Int),e)) code.length (-1,0)
    (fun i hi hb q hq=>?_) (fun i hi b hb=>?_) (fun _=>?_) code.length 0 (by omega) (fun j hj=>by omega)
  · exact this
  · refine place i q q hi (fun _=>hq) ?_
    rw [Option.map_eq_none_iff] at hb
    rw [hb]
  · refine place i (0,0) b hi (fun h=>by rw [h] at hb;cases hb) ?_
    cases h:oU t lo gl code.length (code.getD i z55) with
    | none=>rw [h] at hb;cases hb
    | some e=>rw [h] at hb;cases hb;rfl
  · refine Ev.step (f:=fun _=>some (-1,0)) (fun k=>?_) (Ev.now _)
    simp only [bC.l0]
    rw [if_neg (by omega)]
theorem Yr (t:List ByteArray) (lo gl:ByteArray) (code:List iD) (ht:t.length≤9223372036854775807) (hs:lo.size+gl.size≤9223372036854775807) (hn:code.length≤9223372036854775807) (hw:Wf code) :
    Ev (fun k=>bC.f k t lo gl code) (pI t lo gl code):=by
  have j0:∀ x,Ev (fun k=>bC.j0 k code.length x t lo gl code) (if x=true then (-1,5) else if (code.length:Int) < 1 then (-1,3) else if (code.length:Int) > 200 then (-1,3) else xe t lo gl code):=fun x=>by
    refine Ev.step (fun k=>by simp only [bC.j0];rfl) ?_
    exact Ev.ite (fun _=>Ev.now _) fun _=>Ev.ite (fun _=>Ev.now _) fun _=>Ev.ite (fun _=>Ev.now _) fun _=>Jl t lo gl code ht hn hw
  have sz:(lo++gl).size=lo.size+gl.size:=by simp
  refine Ev.congr (fun k=>if_pos hs) (Ev.bind (PZ t (lo++gl) ht (by rw [sz];omega)) ?_)
  refine Ev.out (Ev.ite (fun _=>Ev.ite (fun _=>j0 _) fun _=>j0 _) fun _=>j0 _) ?_
  unfold pI headB
  cases rJ t (lo++gl)
  · rfl
  · rw [if_pos rfl,Bool.true_and]
    by_cases h1:lo.size≤8
    · by_cases h2:gl.size≤4
      · rw [if_neg (by omega),decide_eq_true h1,decide_eq_true h2,if_neg (by simp;omega),show (true && true)=true from rfl,if_pos rfl]
        by_cases h3:(code.length:Int) < 1
        · rw [if_pos h3,if_neg (by omega)]
        · by_cases h4:(code.length:Int) > 200
          · rw [if_neg h3,if_pos h4,if_neg (by omega)]
          · rw [if_neg h3,if_neg h4,if_pos (by omega)]
      · rw [if_neg (by omega),decide_eq_true h1,decide_eq_false h2,if_pos (by simp;omega),if_neg (by decide)]
    · rw [if_pos (by omega),decide_eq_false h1,if_pos rfl,if_neg (by simp)]
theorem F8 (t:List ByteArray) (lo gl:ByteArray) (code:List iD) :
    (xe t lo gl code=(-1,0)∧∀ j,j < code.length→oU t lo gl code.length (code.getD j z55)=none) ∨
    ∃ j e,j < code.length∧oU t lo gl code.length (code.getD j z55)=some e∧xe t lo gl code=((j:Int),e)∧∀ q,q < j→oU t lo gl code.length (code.getD q z55)=none:=by
  unfold xe
  rcases xA (bad:=fun i=>(oU t lo gl code.length (code.getD i z55)).map fun e=>((i:Int),e)) (fin:=((-1,0):Int × Int)) code.length 0 with ⟨h1,h2⟩|⟨j,b,_,h2,h3,h4,h5⟩
  · refine .inl ⟨h1,fun j hj=>?_⟩
    have:=h2 j (Nat.zero_le _) (by omega)
    rwa [Option.map_eq_none_iff] at this
  · rw [Option.map_eq_some_iff] at h3
    obtain ⟨e,h3,rfl⟩:=h3
    refine .inr ⟨j,e,by omega,h3,h4,fun q hq=>?_⟩
    have:=h5 q (Nat.zero_le _) hq
    rwa [Option.map_eq_none_iff] at this
theorem O7 {t:List ByteArray} {lo gl:ByteArray} {n:Nat} {x:iD} {e:Int} (h:oU t lo gl n x=some e):e ≠ 0:=by
  unfold oU at h
  split at h
  · split at h
    · injection h;omega
    · split at h
      · cases h
      · injection h;omega
  · injection h;omega
theorem O3 (t:List ByteArray) (lo gl:ByteArray) (code:List iD):(pI t lo gl code).2=0 ↔ headB t lo gl=true∧(1≤code.length∧code.length≤200)∧∀ j,j < code.length→oU t lo gl code.length (code.getD j z55)=none:=by
  unfold pI
  by_cases h1:headB t lo gl=true
  · rw [if_pos h1]
    by_cases h2:1≤code.length∧code.length≤200
    · rw [if_pos h2]
      rcases F8 t lo gl code with ⟨h3,h4⟩|⟨j,e,h3,h4,h5,_⟩
      · rw [h3]
        exact ⟨fun _=>⟨h1,h2,h4⟩,fun _=>rfl⟩
      · rw [h5]
        refine ⟨fun h=>absurd h (O7 h4),fun h=>?_⟩
        rw [h.2.2 j h3] at h4
        cases h4
    · rw [if_neg h2]
      exact ⟨fun h=>by simp at h,fun h=>absurd h.2.1 h2⟩
  · rw [if_neg h1]
    exact ⟨fun h=>by simp at h,fun h=>absurd h.1 h1⟩
end Go.Proofs.YtlemecdddhdagaaDoor.P
end
