/- Parts of the proof of CodeParses: what the functions that it reaches compute, and plain facts about that. -/
import Derived.Test.YtkclndkbccbhaaaGreatDoorRac
import Derived.Test.YtkclndkbccbhaaaGreatDoorRag
set_option linter.unusedVariables false
set_option linter.unusedSimpArgs false
section
namespace Go.Proofs.YtkclndkbccbhaaaGreatDoor.P
open Go.RowKit Go.Proofs.ag.bK Go.Proofs.ag.dV Go.Proofs.ag.fE
attribute [local go_sem] lI lG ny ni jW jV lH lF
attribute [local go_sem high] Nk
mutual
def aJ.j0:Nat→Bool→List ByteArray→ByteArray→ByteArray→List (jR)→List ByteArray→ByteArray→ByteArray→List (jR)→Option (Bool)
 | 0,_,_,_,_,_,_,_,_,_=>none
 | k+1,x36,uu,yj,yh,pX,uq,yg,yf,pW=>if x36=true then (some false) else (aJ.l0 k 0 uu yj yh pX uq yg yf pW)
def aJ.l0:Nat→Int→List ByteArray→ByteArray→ByteArray→List (jR)→List ByteArray→ByteArray→ByteArray→List (jR)→Option (Bool)
 | 0,_,_,_,_,_,_,_,_,_=>none
 | k+1,x5,uu,yj,yh,pX,uq,yg,yf,pW=>if x5 < (uu.length:Int) then (if 0≤x5 then (if x5 < (uq.length:Int) then (if (eF ByteArray.empty uu x5).toList=(eF ByteArray.empty uq x5).toList then (aJ.l0 k (wrap64 (x5+1)) uu yj yh pX uq yg yf pW) else (some false)) else (none)) else (none)) else (aJ.l1 k 0 uu yj yh pX uq yg yf pW)
def aJ.l1:Nat→Int→List ByteArray→ByteArray→ByteArray→List (jR)→List ByteArray→ByteArray→ByteArray→List (jR)→Option (Bool)
 | 0,_,_,_,_,_,_,_,_,_=>none
 | k+1,x6,uu,yj,yh,pX,uq,yg,yf,pW=>if x6 < (pX.length:Int) then (if 0≤x6 then (if x6 < (pW.length:Int) then (if (!(((aU pX x6).f0) == ((aU pW x6).f0)) || (!(((aU pX x6).f1) == ((aU pW x6).f1)) || (!(((aU pX x6).f2) == ((aU pW x6).f2)) || (!(((aU pX x6).f3) == ((aU pW x6).f3)) || (!(((aU pX x6).f4) == ((aU pW x6).f4)))))))=true then (some false) else (aJ.l1 k (wrap64 (x6+1)) uu yj yh pX uq yg yf pW)) else (none)) else (none)) else (some true)
end
def aJ.f (k:Nat) (dn:List ByteArray) (bU:ByteArray) (bV:ByteArray) (bM:List (jR)) (lJ:List ByteArray) (oI:ByteArray) (pU:ByteArray) (jQ:List (jR)):Option (Bool):=if (dn.length:Int)=(lJ.length:Int) then (if (bM.length:Int)=(jQ.length:Int) then (if bU.toList=oI.toList then (aJ.j0 k (bV.toList != pU.toList) dn bU bV bM lJ oI pU jQ) else (aJ.j0 k true dn bU bV bM lJ oI pU jQ)) else (aJ.j0 k true dn bU bV bM lJ oI pU jQ)) else (aJ.j0 k true dn bU bV bM lJ oI pU jQ)
theorem aJ.iq:∀ k,(∀ y0 y1 y2 y3 y4 y5 y6 y7 y8,dC (aJ.j0 k y0 y1 y2 y3 y4 y5 y6 y7 y8) (aJ.j0 (k+1) y0 y1 y2 y3 y4 y5 y6 y7 y8))∧(∀ y0 y1 y2 y3 y4 y5 y6 y7 y8,dC (aJ.l0 k y0 y1 y2 y3 y4 y5 y6 y7 y8) (aJ.l0 (k+1) y0 y1 y2 y3 y4 y5 y6 y7 y8))∧(∀ y0 y1 y2 y3 y4 y5 y6 y7 y8,dC (aJ.l1 k y0 y1 y2 y3 y4 y5 y6 y7 y8) (aJ.l1 (k+1) y0 y1 y2 y3 y4 y5 y6 y7 y8))
 | 0=>⟨fun _ _ _ _ _ _ _ _ _ r h=>by simp [aJ.j0] at h,fun _ _ _ _ _ _ _ _ _ r h=>by simp [aJ.l0] at h,fun _ _ _ _ _ _ _ _ _ r h=>by simp [aJ.l1] at h⟩
 | k+1=>by
  obtain ⟨jY,ih1,ih2⟩:=aJ.iq k
  refine ⟨?_,?_,?_⟩
  ·
   intro y0 y1 y2 y3 y4 y5 y6 y7 y8
   unfold aJ.j0
   repeat' with_reducible first|apply jY|apply ih1|apply ih2|exact dC.refl _|exact dC.none _|refine dC.ite ?_ ?_|refine dC.bind ?_ (fun _=>?_)
  ·
   intro y0 y1 y2 y3 y4 y5 y6 y7 y8
   unfold aJ.l0
   repeat' with_reducible first|apply jY|apply ih1|apply ih2|exact dC.refl _|exact dC.none _|refine dC.ite ?_ ?_|refine dC.bind ?_ (fun _=>?_)
  ·
   intro y0 y1 y2 y3 y4 y5 y6 y7 y8
   unfold aJ.l1
   repeat' with_reducible first|apply jY|apply ih1|apply ih2|exact dC.refl _|exact dC.none _|refine dC.ite ?_ ?_|refine dC.bind ?_ (fun _=>?_)
theorem aJ.mono:∀ a0 a1 a2 a3 a4 a5 a6 a7 k,dC (aJ.f k a0 a1 a2 a3 a4 a5 a6 a7) (aJ.f (k+1) a0 a1 a2 a3 a4 a5 a6 a7):=by
 intro a0 a1 a2 a3 a4 a5 a6 a7 k
 obtain ⟨jY,ih1,ih2⟩:=aJ.iq k
 unfold aJ.f
 repeat' with_reducible first|apply jY|apply ih1|apply ih2|exact dC.refl _|exact dC.none _|refine dC.ite ?_ ?_|refine dC.bind ?_ (fun _=>?_)
set_option maxHeartbeats 8000000 in
set_option maxRecDepth 100000 in
theorem aJ.calls (k:Nat) (iR:Option Addr) (iH:Nat) (dn:List ByteArray) (bU:ByteArray) (bV:ByteArray) (jg:Option Addr) (iG:Nat) (bM:List (jR)) (yT:Option Addr) (yQ:Nat) (lJ:List ByteArray) (oI:ByteArray) (pU:ByteArray) (yS:Option Addr) (yP:Nat) (jQ:List (jR)) (r:Bool) (w:World) (BD:Kd.C Kd.string w iR dn.length dn) (BG:dn.length≤iH) (BC:Kd.C k27 w jg bM.length bM) (BF:bM.length≤iG) (Yl:Kd.C Kd.string w yT lJ.length lJ) (Yo:lJ.length≤yQ) (Yk:Kd.C k27 w yS jQ.length jQ) (Yn:jQ.length≤yP) (h:aJ.f k dn bU bV bM lJ oI pU jQ=some r) :
  Calls Tryz.prog 15 #[.agg #[.slice iR dn.length iH,.string bU,.string bV,.slice jg bM.length iG],.agg #[.slice yT lJ.length yQ,.string oI,.string pU,.slice yS jQ.length yP]] w fun e w'=>e=.returned (.bool r)∧Below w.heap.size w w':=by
 have Qq:=Tryz.underlying25
 have Oz:=Tryz.underlying27
 have yY:=ae.mk BD
 have NM:=ae.mk BG
 clear BD BG
 have Ak:=ae.mk BC
 have NL:=ae.mk BF
 clear BC BF
 have YO:=ae.mk Yl
 have amk:=ae.mk Yo
 clear Yl Yo
 have YN:=ae.mk Yk
 have amj:=ae.mk Yn
 clear Yk Yn
 have HB:=ae.mk (Below.refl w.heap.size w)
 have H:(if (dn.length:Int)=(lJ.length:Int) then (if (bM.length:Int)=(jQ.length:Int) then (if bU.toList=oI.toList then (aJ.j0 k (bV.toList != pU.toList) dn bU bV bM lJ oI pU jQ) else (aJ.j0 k true dn bU bV bM lJ oI pU jQ)) else (aJ.j0 k true dn bU bV bM lJ oI pU jQ)) else (aJ.j0 k true dn bU bV bM lJ oI pU jQ))=some r:=h
 clear h
 have HC3:=ae.mk H
 clear H
 go_enter Tryz.func15,Tryz.ntmps15
 go_upto_region 1 with (first|((with_reducible refine fF (N:=2) rfl ?_);(try (refine iU (by rfl) ?_;dsimp only));refine gu ?hg (N:=2) ?hd (cs:=#[.slice iR dn.length iH,.string bU,.string bV,.slice jg bM.length iG]) (t:=25) ?hr ?_;(case hd=>rfl);(case hg=>rfl);(case hr=>first|(go_simp;done)|(go_simp;rfl));intro iY hg w4 hbox hb;have dG:=ae.mk (bf (by repeat (first|(with_reducible first|exact HB.out|apply au|apply af|apply aj)|exact HB.out)) hb);have dM:=ae.mk (hbox);have dW:=ae.mk ((by rw [hg];exact (aZ (by repeat (first|(with_reducible first|exact HB.out|apply au|apply af|apply aj)|exact HB.out))):w.heap.size≤iY));have fK:=dW;clear HB;have HB:=dG;have dY:=dM;have YZ:=dW;have qo:=fK;clear dG dM dW fK;clear hb hbox hg)|((with_reducible refine fF (N:=3) rfl ?_);(try (refine iU (by rfl) ?_;dsimp only));refine gu ?hg (N:=3) ?hd (cs:=#[.slice yT lJ.length yQ,.string oI,.string pU,.slice yS jQ.length yP]) (t:=25) ?hr ?_;(case hd=>rfl);(case hg=>rfl);(case hr=>first|(go_simp;done)|(go_simp;rfl));intro jF hg w5 hbox hb;have dG:=ae.mk (bH (g:=iY) (o:=.cells #[.slice iR dn.length iH,.string bU,.string bV,.slice jg bM.length iG] 25 (0,0)) (by (with_reducible repeat (first|refine ah ?_ _|refine ak ?_|refine ai ?_ _));exact dY.out) hb);have dM:=ae.mk (bf (by repeat (first|(with_reducible first|exact HB.out|apply au|apply af|apply aj|refine az ?_ qo.out)|exact HB.out)) hb);have dW:=ae.mk (hbox);have fK:=ae.mk ((by rw [hg];exact (aZ (by repeat (first|(with_reducible first|exact HB.out|apply au|apply af|apply aj|refine az ?_ qo.out)|exact HB.out))):w.heap.size≤jF));have iO:=fK;have jE:=ae.mk ((by rw [hg];exact Nat.ne_of_lt (gG (g:=iY) (o:=.cells #[.slice iR dn.length iH,.string bU,.string bV,.slice jg bM.length iG] 25 (0,0)) (by (with_reducible repeat (first|refine ah ?_ _|refine ak ?_|refine ai ?_ _));exact dY.out)):iY ≠ jF));have lg:=ae.mk jE.out.symm;clear dY;clear HB;have dY:=dG;have HB:=dM;have gq:=dW;have YY:=fK;have uM:=iO;have mi:=jE;have mg:=lg;clear dG dM dW fK iO jE lg;clear hb hbox hg))
 repeat (go_quiet (first|((with_reducible refine fF (N:=2) rfl ?_);(try (refine iU (by rfl) ?_;dsimp only));refine gu ?hg (N:=2) ?hd (cs:=#[.slice iR dn.length iH,.string bU,.string bV,.slice jg bM.length iG]) (t:=25) ?hr ?_;(case hd=>rfl);(case hg=>rfl);(case hr=>first|(go_simp;done)|(go_simp;rfl));intro iY hg w4 hbox hb;have dG:=ae.mk (bf (by repeat (first|(with_reducible first|exact HB.out|apply au|apply af|apply aj)|exact HB.out)) hb);have dM:=ae.mk (hbox);have dW:=ae.mk ((by rw [hg];exact (aZ (by repeat (first|(with_reducible first|exact HB.out|apply au|apply af|apply aj)|exact HB.out))):w.heap.size≤iY));have fK:=dW;clear HB;have HB:=dG;have dY:=dM;have YZ:=dW;have qo:=fK;clear dG dM dW fK;clear hb hbox hg)|((with_reducible refine fF (N:=3) rfl ?_);(try (refine iU (by rfl) ?_;dsimp only));refine gu ?hg (N:=3) ?hd (cs:=#[.slice yT lJ.length yQ,.string oI,.string pU,.slice yS jQ.length yP]) (t:=25) ?hr ?_;(case hd=>rfl);(case hg=>rfl);(case hr=>first|(go_simp;done)|(go_simp;rfl));intro jF hg w5 hbox hb;have dG:=ae.mk (bH (g:=iY) (o:=.cells #[.slice iR dn.length iH,.string bU,.string bV,.slice jg bM.length iG] 25 (0,0)) (by (with_reducible repeat (first|refine ah ?_ _|refine ak ?_|refine ai ?_ _));exact dY.out) hb);have dM:=ae.mk (bf (by repeat (first|(with_reducible first|exact HB.out|apply au|apply af|apply aj|refine az ?_ qo.out)|exact HB.out)) hb);have dW:=ae.mk (hbox);have fK:=ae.mk ((by rw [hg];exact (aZ (by repeat (first|(with_reducible first|exact HB.out|apply au|apply af|apply aj|refine az ?_ qo.out)|exact HB.out))):w.heap.size≤jF));have iO:=fK;have jE:=ae.mk ((by rw [hg];exact Nat.ne_of_lt (gG (g:=iY) (o:=.cells #[.slice iR dn.length iH,.string bU,.string bV,.slice jg bM.length iG] 25 (0,0)) (by (with_reducible repeat (first|refine ah ?_ _|refine ak ?_|refine ai ?_ _));exact dY.out)):iY ≠ jF));have lg:=ae.mk jE.out.symm;clear dY;clear HB;have dY:=dG;have HB:=dM;have gq:=dW;have YY:=fK;have uM:=iO;have mi:=jE;have mg:=lg;clear dG dM dW fK iO jE lg;clear hb hbox hg));go_upto_region 1 with (first|((with_reducible refine fF (N:=2) rfl ?_);(try (refine iU (by rfl) ?_;dsimp only));refine gu ?hg (N:=2) ?hd (cs:=#[.slice iR dn.length iH,.string bU,.string bV,.slice jg bM.length iG]) (t:=25) ?hr ?_;(case hd=>rfl);(case hg=>rfl);(case hr=>first|(go_simp;done)|(go_simp;rfl));intro iY hg w4 hbox hb;have dG:=ae.mk (bf (by repeat (first|(with_reducible first|exact HB.out|apply au|apply af|apply aj)|exact HB.out)) hb);have dM:=ae.mk (hbox);have dW:=ae.mk ((by rw [hg];exact (aZ (by repeat (first|(with_reducible first|exact HB.out|apply au|apply af|apply aj)|exact HB.out))):w.heap.size≤iY));have fK:=dW;clear HB;have HB:=dG;have dY:=dM;have YZ:=dW;have qo:=fK;clear dG dM dW fK;clear hb hbox hg)|((with_reducible refine fF (N:=3) rfl ?_);(try (refine iU (by rfl) ?_;dsimp only));refine gu ?hg (N:=3) ?hd (cs:=#[.slice yT lJ.length yQ,.string oI,.string pU,.slice yS jQ.length yP]) (t:=25) ?hr ?_;(case hd=>rfl);(case hg=>rfl);(case hr=>first|(go_simp;done)|(go_simp;rfl));intro jF hg w5 hbox hb;have dG:=ae.mk (bH (g:=iY) (o:=.cells #[.slice iR dn.length iH,.string bU,.string bV,.slice jg bM.length iG] 25 (0,0)) (by (with_reducible repeat (first|refine ah ?_ _|refine ak ?_|refine ai ?_ _));exact dY.out) hb);have dM:=ae.mk (bf (by repeat (first|(with_reducible first|exact HB.out|apply au|apply af|apply aj|refine az ?_ qo.out)|exact HB.out)) hb);have dW:=ae.mk (hbox);have fK:=ae.mk ((by rw [hg];exact (aZ (by repeat (first|(with_reducible first|exact HB.out|apply au|apply af|apply aj|refine az ?_ qo.out)|exact HB.out))):w.heap.size≤jF));have iO:=fK;have jE:=ae.mk ((by rw [hg];exact Nat.ne_of_lt (gG (g:=iY) (o:=.cells #[.slice iR dn.length iH,.string bU,.string bV,.slice jg bM.length iG] 25 (0,0)) (by (with_reducible repeat (first|refine ah ?_ _|refine ak ?_|refine ai ?_ _));exact dY.out)):iY ≠ jF));have lg:=ae.mk jE.out.symm;clear dY;clear HB;have dY:=dG;have HB:=dM;have gq:=dW;have YY:=fK;have uM:=iO;have mi:=jE;have mg:=lg;clear dG dM dW fK iO jE lg;clear hb hbox hg)))
 (try simp only [Act.put,List.setIfInBounds_toArray,List.set_cons_zero,List.set_cons_succ])
 go_cut [36] (fun v36 wc=>∃ (kq:Nat) (J9:Bool),v36=.bool J9∧ae (aJ.j0 kq J9 dn bU bV bM lJ oI pU jQ=some r)∧ae (kq≤k)∧ae (wc.heap[iY]? = some (.cells #[(.slice iR dn.length iH),.string bU,.string bV,(.slice jg bM.length iG)] 25 (0,0)))∧ae (wc.heap[jF]? = some (.cells #[(.slice yT lJ.length yQ),.string oI,.string pU,(.slice yS jQ.length yP)] 25 (0,0)))∧ae (Below w.heap.size w wc))
 case first =>
  have H:=HC3.out
  clear HC3
  by_cases c6:(dn.length:Int)=(lJ.length:Int)
  ·
   rw [if_pos c6] at H
   have oP:((dn.length:Int) == (lJ.length:Int))=true:=beq_iff_eq.mpr c6
   have zx:((dn.length:Int) != (lJ.length:Int))=false:=bne_eq_false_iff_eq.mpr c6
   have akm:(dn.length == lJ.length)=true:=by first|simpa using c6|(simp at c6 ⊢;omega)
   clear c6
   (first|rw [oP]|(simp only [aN,aQ];rw [oP])|skip)
   by_cases c7:(bM.length:Int)=(jQ.length:Int)
   ·
    rw [if_pos c7] at H
    have qR:((bM.length:Int) == (jQ.length:Int))=true:=beq_iff_eq.mpr c7
    have xy:((bM.length:Int) != (jQ.length:Int))=false:=bne_eq_false_iff_eq.mpr c7
    have akl:(bM.length == jQ.length)=true:=by first|simpa using c7|(simp at c7 ⊢;omega)
    clear c7
    by_cases c8:bU.toList=oI.toList
    ·
     rw [if_pos c8] at H
     have ry:(bU.toList == oI.toList)=true:=beq_iff_eq.mpr c8
     have Be:(bU.toList != oI.toList)=false:=bne_eq_false_iff_eq.mpr c8
     clear c8
     have H':=ae.mk H
     clear H
     have anl:=mi.out
     have anj:=mg.out
     have ajc:w5.cell? ⟨iY,0,none⟩=some (.slice iR dn.length iH):=(ax dY.out 0).trans rfl
     have ajb:w5.cell? ⟨iY,1,none⟩=some (.string bU):=(ax dY.out 1).trans rfl
     have aja:w5.cell? ⟨iY,2,none⟩=some (.string bV):=(ax dY.out 2).trans rfl
     have ai9:w5.cell? ⟨iY,3,none⟩=some (.slice jg bM.length iG):=(ax dY.out 3).trans rfl
     have ag4:=ay dY.out 0
     have ag3:=ay dY.out 1
     have ag2:=ay dY.out 2
     have ag1:=ay dY.out 3
     have Na:w5.cell? ⟨jF,0,none⟩=some (.slice yT lJ.length yQ):=(ax gq.out 0).trans rfl
     have MZ:w5.cell? ⟨jF,1,none⟩=some (.string oI):=(ax gq.out 1).trans rfl
     have MX:w5.cell? ⟨jF,2,none⟩=some (.string pU):=(ax gq.out 2).trans rfl
     have MW:w5.cell? ⟨jF,3,none⟩=some (.slice yS jQ.length yP):=(ax gq.out 3).trans rfl
     have MB:=ay gq.out 0
     have Me:=ay gq.out 1
     have Md:=ay gq.out 2
     have Mc:=ay gq.out 3
     go_wp2
     repeat (go_quiet (fail);try go_wp2)
     go_meet
     case rel=>exact ⟨_,((bV.toList != pU.toList)),(by first|rfl|(simp;done)|(simp [*];done)),H',⟨by first|omega|exact Nat.le_refl _⟩,⟨by (with_reducible repeat (first|refine ah ?_ _|refine ak ?_|refine ai ?_ _));exact dY.out⟩,⟨by (with_reducible repeat (first|refine ah ?_ _|refine ak ?_|refine ai ?_ _));exact gq.out⟩,⟨by repeat (first|(with_reducible first|exact HB.out|apply au|apply af|apply aj|refine az ?_ qo.out|refine az ?_ uM.out)|exact HB.out)⟩⟩
    ·
     rw [if_neg c8] at H
     have ry:(bU.toList == oI.toList)=false:=beq_eq_false_iff_ne.mpr c8
     have Be:(bU.toList != oI.toList)=true:=bne_iff_ne.mpr c8
     have H':=ae.mk H
     clear H
     have alF:=mi.out
     have alc:=mg.out
     have ai8:w5.cell? ⟨iY,0,none⟩=some (.slice iR dn.length iH):=(ax dY.out 0).trans rfl
     have ai7:w5.cell? ⟨iY,1,none⟩=some (.string bU):=(ax dY.out 1).trans rfl
     have ai6:w5.cell? ⟨iY,2,none⟩=some (.string bV):=(ax dY.out 2).trans rfl
     have ai5:w5.cell? ⟨iY,3,none⟩=some (.slice jg bM.length iG):=(ax dY.out 3).trans rfl
     have ag0:=ay dY.out 0
     have agZ:=ay dY.out 1
     have agY:=ay dY.out 2
     have agX:=ay dY.out 3
     have ai4:w5.cell? ⟨jF,0,none⟩=some (.slice yT lJ.length yQ):=(ax gq.out 0).trans rfl
     have ai3:w5.cell? ⟨jF,1,none⟩=some (.string oI):=(ax gq.out 1).trans rfl
     have ai2:w5.cell? ⟨jF,2,none⟩=some (.string pU):=(ax gq.out 2).trans rfl
     have ai1:w5.cell? ⟨jF,3,none⟩=some (.slice yS jQ.length yP):=(ax gq.out 3).trans rfl
     have agW:=ay gq.out 0
     have agV:=ay gq.out 1
     have agU:=ay gq.out 2
     have agT:=ay gq.out 3
     go_wp2
     repeat (go_quiet (fail);try go_wp2)
     go_meet
     case rel=>exact ⟨_,(true),(by first|rfl|(simp;done)|(simp [*];done)),H',⟨by first|omega|exact Nat.le_refl _⟩,⟨by (with_reducible repeat (first|refine ah ?_ _|refine ak ?_|refine ai ?_ _));exact dY.out⟩,⟨by (with_reducible repeat (first|refine ah ?_ _|refine ak ?_|refine ai ?_ _));exact gq.out⟩,⟨by repeat (first|(with_reducible first|exact HB.out|apply au|apply af|apply aj|refine az ?_ qo.out|refine az ?_ uM.out)|exact HB.out)⟩⟩
   ·
    rw [if_neg c7] at H
    have qR:((bM.length:Int) == (jQ.length:Int))=false:=beq_eq_false_iff_ne.mpr c7
    have xy:((bM.length:Int) != (jQ.length:Int))=true:=bne_iff_ne.mpr c7
    have akl:(bM.length == jQ.length)=false:=by first|simpa using c7|(simp at c7 ⊢;omega)
    have H':=ae.mk H
    clear H
    have abR:=mi.out
    have abI:=mg.out
    have Xf:w5.cell? ⟨iY,0,none⟩=some (.slice iR dn.length iH):=(ax dY.out 0).trans rfl
    have Xe:w5.cell? ⟨iY,1,none⟩=some (.string bU):=(ax dY.out 1).trans rfl
    have Xd:w5.cell? ⟨iY,2,none⟩=some (.string bV):=(ax dY.out 2).trans rfl
    have Xc:w5.cell? ⟨iY,3,none⟩=some (.slice jg bM.length iG):=(ax dY.out 3).trans rfl
    have VD:=ay dY.out 0
    have VC:=ay dY.out 1
    have VB:=ay dY.out 2
    have VA:=ay dY.out 3
    have Xb:w5.cell? ⟨jF,0,none⟩=some (.slice yT lJ.length yQ):=(ax gq.out 0).trans rfl
    have Xa:w5.cell? ⟨jF,1,none⟩=some (.string oI):=(ax gq.out 1).trans rfl
    have W9:w5.cell? ⟨jF,2,none⟩=some (.string pU):=(ax gq.out 2).trans rfl
    have WZ:w5.cell? ⟨jF,3,none⟩=some (.slice yS jQ.length yP):=(ax gq.out 3).trans rfl
    have Vz:=ay gq.out 0
    have Vy:=ay gq.out 1
    have Vx:=ay gq.out 2
    have Vw:=ay gq.out 3
    go_wp2
    repeat (go_quiet (fail);try go_wp2)
    go_meet
    case rel=>exact ⟨_,(true),(by first|rfl|(simp;done)|(simp [*];done)),H',⟨by first|omega|exact Nat.le_refl _⟩,⟨by (with_reducible repeat (first|refine ah ?_ _|refine ak ?_|refine ai ?_ _));exact dY.out⟩,⟨by (with_reducible repeat (first|refine ah ?_ _|refine ak ?_|refine ai ?_ _));exact gq.out⟩,⟨by repeat (first|(with_reducible first|exact HB.out|apply au|apply af|apply aj|refine az ?_ qo.out|refine az ?_ uM.out)|exact HB.out)⟩⟩
  ·
   rw [if_neg c6] at H
   have oP:((dn.length:Int) == (lJ.length:Int))=false:=beq_eq_false_iff_ne.mpr c6
   have zx:((dn.length:Int) != (lJ.length:Int))=true:=bne_iff_ne.mpr c6
   have akm:(dn.length == lJ.length)=false:=by first|simpa using c6|(simp at c6 ⊢;omega)
   (first|rw [oP]|(simp only [aN,aQ];rw [oP])|skip)
   have H':=ae.mk H
   clear H
   have abQ:=mi.out
   have abH:=mg.out
   have MV:w5.cell? ⟨iY,0,none⟩=some (.slice iR dn.length iH):=(ax dY.out 0).trans rfl
   have MS:w5.cell? ⟨iY,1,none⟩=some (.string bU):=(ax dY.out 1).trans rfl
   have MR:w5.cell? ⟨iY,2,none⟩=some (.string bV):=(ax dY.out 2).trans rfl
   have MQ:w5.cell? ⟨iY,3,none⟩=some (.slice jg bM.length iG):=(ax dY.out 3).trans rfl
   have L9:=ay dY.out 0
   have L8:=ay dY.out 1
   have L6:=ay dY.out 2
   have LZ:=ay dY.out 3
   have MP:w5.cell? ⟨jF,0,none⟩=some (.slice yT lJ.length yQ):=(ax gq.out 0).trans rfl
   have MO:w5.cell? ⟨jF,1,none⟩=some (.string oI):=(ax gq.out 1).trans rfl
   have MN:w5.cell? ⟨jF,2,none⟩=some (.string pU):=(ax gq.out 2).trans rfl
   have MM:w5.cell? ⟨jF,3,none⟩=some (.slice yS jQ.length yP):=(ax gq.out 3).trans rfl
   have LY:=ay gq.out 0
   have LX:=ay gq.out 1
   have LW:=ay gq.out 2
   have LV:=ay gq.out 3
   go_wp2
   repeat (go_quiet (fail);try go_wp2)
   go_meet
   case rel=>exact ⟨_,(true),(by first|rfl|(simp;done)|(simp [*];done)),H',⟨by first|omega|exact Nat.le_refl _⟩,⟨by (with_reducible repeat (first|refine ah ?_ _|refine ak ?_|refine ai ?_ _));exact dY.out⟩,⟨by (with_reducible repeat (first|refine ah ?_ _|refine ak ?_|refine ai ?_ _));exact gq.out⟩,⟨by repeat (first|(with_reducible first|exact HB.out|apply au|apply af|apply aj|refine az ?_ qo.out|refine az ?_ uM.out)|exact HB.out)⟩⟩
 case rest =>
  clear HC3
  obtain ⟨kq,J9,rfl,HA,HJ2,dY,gq,HB⟩:=hcut
  cases kq with
  | zero=>exact absurd HA.out (by simp [aJ.j0])
  | succ kj2 =>
   have H:=HA.out
   clear HA
   simp only [aJ.j0] at H
   by_cases c21:J9=true
   ·
    subst c21
    have H1:(some false)=some r:=by rw [if_pos rfl] at H;exact H
    clear H
    have H:=H1
    clear H1
    obtain rfl:=Option.some.inj H
    go_wp2
    repeat (go_quiet (fail);try go_wp2)
    go_ret
    exact ⟨by first|rfl|(simp [bF,bD] <;> rfl)|(simp [*,bF,bD] <;> rfl),by repeat (first|(with_reducible first|exact HB.out|apply au|apply af|apply aj|refine az ?_ qo.out|refine az ?_ uM.out)|exact HB.out)⟩
   ·
    replace c21:=Bool.eq_false_iff.mpr c21
    subst c21
    have H1:(aJ.l0 kj2 0 dn bU bV bM lJ oI pU jQ)=some r:=by rw [if_neg (show ¬ (false=true) by decide)] at H;exact H
    clear H
    have H:=H1
    clear H1
    have H':=ae.mk H
    clear H
    go_wp2
    repeat (go_quiet (fail);try go_wp2)
    go_loopg [5] kj2 (fun kq v5 w'=>∃ (pK:Int),v5=.int .i64 pK∧ae (aJ.l0 kq pK dn bU bV bM lJ oI pU jQ=some r)∧ae (kq≤kj2)∧ae (w'.heap[iY]? = some (.cells #[(.slice iR dn.length iH),.string bU,.string bV,(.slice jg bM.length iG)] 25 (0,0)))∧ae (w'.heap[jF]? = some (.cells #[(.slice yT lJ.length yQ),.string oI,.string pU,(.slice yS jQ.length yP)] 25 (0,0)))∧ae (Below w.heap.size w w'))
    case atStart=>exact ⟨(0),(by first|rfl|(simp;done)|(simp [*];done)),H',⟨Nat.le_refl _⟩,⟨by (with_reducible repeat (first|refine ah ?_ _|refine ak ?_|refine ai ?_ _));exact dY.out⟩,⟨by (with_reducible repeat (first|refine ah ?_ _|refine ak ?_|refine ai ?_ _));exact gq.out⟩,⟨by repeat (first|(with_reducible first|exact HB.out|apply au|apply af|apply aj|refine az ?_ qo.out|refine az ?_ uM.out)|exact HB.out)⟩⟩
    case round =>
     clear H'
     obtain ⟨pK,rfl,HA,CX,dY,gq,HB⟩:=hrel
     cases gk with
     | zero=>exact absurd HA.out (by simp [aJ.l0])
     | succ k2 =>
      have H:=HA.out
      clear HA
      simp only [aJ.l0] at H
      by_cases Np:pK < (dn.length:Int)
      ·
       rw [if_pos Np] at H
       have RX:decide (pK < (dn.length:Int))=true:=decide_eq_true Np
       clear Np
       by_cases c23:0≤pK
       ·
        rw [if_pos c23] at H
        have al2:decide (0≤pK)=true:=decide_eq_true c23
        clear c23
        by_cases c24:pK < (lJ.length:Int)
        ·
         rw [if_pos c24] at H
         have YA:decide (pK < (lJ.length:Int))=true:=decide_eq_true c24
         clear c24
         by_cases c25:(eF ByteArray.empty dn pK).toList=(eF ByteArray.empty lJ pK).toList
         ·
          rw [if_pos c25] at H
          have acf:((eF ByteArray.empty dn pK).toList == (eF ByteArray.empty lJ pK).toList)=true:=beq_iff_eq.mpr c25
          have ace:((eF ByteArray.empty dn pK).toList != (eF ByteArray.empty lJ pK).toList)=false:=bne_eq_false_iff_eq.mpr c25
          clear c25
          have H':=ae.mk H
          clear H
          have abN:=mi.out
          have abD:=mg.out
          have WI:wr.cell? ⟨iY,0,none⟩=some (.slice iR dn.length iH):=(ax dY.out 0).trans rfl
          have WH:wr.cell? ⟨iY,1,none⟩=some (.string bU):=(ax dY.out 1).trans rfl
          have WG:wr.cell? ⟨iY,2,none⟩=some (.string bV):=(ax dY.out 2).trans rfl
          have WE:wr.cell? ⟨iY,3,none⟩=some (.slice jg bM.length iG):=(ax dY.out 3).trans rfl
          have Ve:=ay dY.out 0
          have Vd:=ay dY.out 1
          have Vb:=ay dY.out 2
          have Va:=ay dY.out 3
          have JC:0≤(pK:Int):=of_decide_eq_true (by first|(with_reducible assumption)|assumption)
          have Js:pK < (dn.length:Int):=of_decide_eq_true (by first|(with_reducible assumption)|assumption)
          obtain ⟨acv,aah,wO⟩:=Kd.fO yY.out pK JC Js
          cases aah
          replace wO:=(HB.out.cell (World.block_lt_of_cell? w _ wO)).trans wO
          replace JC:=eq_true JC
          replace Js:=eq_true Js
          have ML:wr.cell? ⟨jF,0,none⟩=some (.slice yT lJ.length yQ):=(ax gq.out 0).trans rfl
          have MK:wr.cell? ⟨jF,1,none⟩=some (.string oI):=(ax gq.out 1).trans rfl
          have MJ:wr.cell? ⟨jF,2,none⟩=some (.string pU):=(ax gq.out 2).trans rfl
          have MI:wr.cell? ⟨jF,3,none⟩=some (.slice yS jQ.length yP):=(ax gq.out 3).trans rfl
          have LU:=ay gq.out 0
          have LQ:=ay gq.out 1
          have LP:=ay gq.out 2
          have LM:=ay gq.out 3
          have JB:0≤(pK:Int):=of_decide_eq_true (by first|(with_reducible assumption)|assumption)
          have Jr:pK < (lJ.length:Int):=of_decide_eq_true (by first|(with_reducible assumption)|assumption)
          obtain ⟨acu,aag,wM⟩:=Kd.fO YO.out pK JB Jr
          cases aag
          replace wM:=(HB.out.cell (World.block_lt_of_cell? w _ wM)).trans wM
          replace JB:=eq_true JB
          replace Jr:=eq_true Jr
          go_wp2
          repeat (go_quiet (fail);try go_wp2)
          go_roundg k2
          case measure=>have:=HJ2.out;have:=CX.out;omega
          case rel=>exact ⟨(wrap64 (pK+1)),(by first|rfl|(simp;done)|(simp [*];done)),H',⟨by have:=HJ2.out;have:=CX.out;omega⟩,⟨by (with_reducible repeat (first|refine ah ?_ _|refine ak ?_|refine ai ?_ _));exact dY.out⟩,⟨by (with_reducible repeat (first|refine ah ?_ _|refine ak ?_|refine ai ?_ _));exact gq.out⟩,⟨by repeat (first|(with_reducible first|exact HB.out|apply au|apply af|apply aj|refine az ?_ qo.out|refine az ?_ uM.out)|exact HB.out)⟩⟩
         ·
          rw [if_neg c25] at H
          have acf:((eF ByteArray.empty dn pK).toList == (eF ByteArray.empty lJ pK).toList)=false:=beq_eq_false_iff_ne.mpr c25
          have ace:((eF ByteArray.empty dn pK).toList != (eF ByteArray.empty lJ pK).toList)=true:=bne_iff_ne.mpr c25
          obtain rfl:=Option.some.inj H
          have alB:=mi.out
          have ak8:=mg.out
          have WC:wr.cell? ⟨iY,0,none⟩=some (.slice iR dn.length iH):=(ax dY.out 0).trans rfl
          have WB:wr.cell? ⟨iY,1,none⟩=some (.string bU):=(ax dY.out 1).trans rfl
          have WA:wr.cell? ⟨iY,2,none⟩=some (.string bV):=(ax dY.out 2).trans rfl
          have Wy:wr.cell? ⟨iY,3,none⟩=some (.slice jg bM.length iG):=(ax dY.out 3).trans rfl
          have U9:=ay dY.out 0
          have U8:=ay dY.out 1
          have U7:=ay dY.out 2
          have U6:=ay dY.out 3
          have JC:0≤(pK:Int):=of_decide_eq_true (by first|(with_reducible assumption)|assumption)
          have Js:pK < (dn.length:Int):=of_decide_eq_true (by first|(with_reducible assumption)|assumption)
          obtain ⟨acv,aah,wO⟩:=Kd.fO yY.out pK JC Js
          cases aah
          replace wO:=(HB.out.cell (World.block_lt_of_cell? w _ wO)).trans wO
          replace JC:=eq_true JC
          replace Js:=eq_true Js
          have aiA:wr.cell? ⟨jF,0,none⟩=some (.slice yT lJ.length yQ):=(ax gq.out 0).trans rfl
          have aiz:wr.cell? ⟨jF,1,none⟩=some (.string oI):=(ax gq.out 1).trans rfl
          have aiy:wr.cell? ⟨jF,2,none⟩=some (.string pU):=(ax gq.out 2).trans rfl
          have aix:wr.cell? ⟨jF,3,none⟩=some (.slice yS jQ.length yP):=(ax gq.out 3).trans rfl
          have ags:=ay gq.out 0
          have agr:=ay gq.out 1
          have agq:=ay gq.out 2
          have agp:=ay gq.out 3
          have JB:0≤(pK:Int):=of_decide_eq_true (by first|(with_reducible assumption)|assumption)
          have Jr:pK < (lJ.length:Int):=of_decide_eq_true (by first|(with_reducible assumption)|assumption)
          obtain ⟨acu,aag,wM⟩:=Kd.fO YO.out pK JB Jr
          cases aag
          replace wM:=(HB.out.cell (World.block_lt_of_cell? w _ wM)).trans wM
          replace JB:=eq_true JB
          replace Jr:=eq_true Jr
          go_wp2
          repeat (go_quiet (fail);try go_wp2)
          go_ret
          exact ⟨by first|rfl|(simp [bF,bD] <;> rfl)|(simp [*,bF,bD] <;> rfl),by repeat (first|(with_reducible first|exact HB.out|apply au|apply af|apply aj|refine az ?_ qo.out|refine az ?_ uM.out)|exact HB.out)⟩
        ·
         rw [if_neg c24] at H
         exact absurd H (by simp)
       ·
        rw [if_neg c23] at H
        exact absurd H (by simp)
      ·
       rw [if_neg Np] at H
       have RX:decide (pK < (dn.length:Int))=false:=decide_eq_false Np
       clear Np
       have H':=ae.mk H
       clear H
       have abL:=mi.out
       have abB:=mg.out
       have Wv:wr.cell? ⟨iY,0,none⟩=some (.slice iR dn.length iH):=(ax dY.out 0).trans rfl
       have Wu:wr.cell? ⟨iY,1,none⟩=some (.string bU):=(ax dY.out 1).trans rfl
       have Ws:wr.cell? ⟨iY,2,none⟩=some (.string bV):=(ax dY.out 2).trans rfl
       have Wp:wr.cell? ⟨iY,3,none⟩=some (.slice jg bM.length iG):=(ax dY.out 3).trans rfl
       have U5:=ay dY.out 0
       have U4:=ay dY.out 1
       have U3:=ay dY.out 2
       have U2:=ay dY.out 3
       go_wp2
       repeat (go_quiet (fail);try go_wp2)
       go_loopg [6] k2 (fun kq v6 w'=>∃ (kT:Int),v6=.int .i64 kT∧ae (aJ.l1 kq kT dn bU bV bM lJ oI pU jQ=some r)∧ae (kq≤k2)∧ae (w'.heap[iY]? = some (.cells #[(.slice iR dn.length iH),.string bU,.string bV,(.slice jg bM.length iG)] 25 (0,0)))∧ae (w'.heap[jF]? = some (.cells #[(.slice yT lJ.length yQ),.string oI,.string pU,(.slice yS jQ.length yP)] 25 (0,0)))∧ae (Below w.heap.size w w'))
       case atStart=>exact ⟨(0),(by first|rfl|(simp;done)|(simp [*];done)),H',⟨Nat.le_refl _⟩,⟨by (with_reducible repeat (first|refine ah ?_ _|refine ak ?_|refine ai ?_ _));exact dY.out⟩,⟨by (with_reducible repeat (first|refine ah ?_ _|refine ak ?_|refine ai ?_ _));exact gq.out⟩,⟨by repeat (first|(with_reducible first|exact HB.out|apply au|apply af|apply aj|refine az ?_ qo.out|refine az ?_ uM.out)|exact HB.out)⟩⟩
       case round =>
        clear H'
        obtain ⟨kT,rfl,HA,J3,dY,gq,HB⟩:=hrel
        cases gk with
        | zero=>exact absurd HA.out (by simp [aJ.l1])
        | succ k3 =>
         have H:=HA.out
         clear HA
         simp only [aJ.l1] at H
         by_cases c34:kT < (bM.length:Int)
         ·
          rw [if_pos c34] at H
          have RQ:decide (kT < (bM.length:Int))=true:=decide_eq_true c34
          clear c34
          by_cases XG:0≤kT
          ·
           rw [if_pos XG] at H
           have acd:decide (0≤kT)=true:=decide_eq_true XG
           clear XG
           by_cases XF:kT < (jQ.length:Int)
           ·
            rw [if_pos XF] at H
            have al1:decide (kT < (jQ.length:Int))=true:=decide_eq_true XF
            clear XF
            by_cases c37:(!(((aU bM kT).f0) == ((aU jQ kT).f0)) || (!(((aU bM kT).f1) == ((aU jQ kT).f1)) || (!(((aU bM kT).f2) == ((aU jQ kT).f2)) || (!(((aU bM kT).f3) == ((aU jQ kT).f3)) || (!(((aU bM kT).f4) == ((aU jQ kT).f4)))))))=true
            ·
             rw [if_pos c37] at H
             have RP:(!(((aU bM kT).f0) == ((aU jQ kT).f0)) || (!(((aU bM kT).f1) == ((aU jQ kT).f1)) || (!(((aU bM kT).f2) == ((aU jQ kT).f2)) || (!(((aU bM kT).f3) == ((aU jQ kT).f3)) || (!(((aU bM kT).f4) == ((aU jQ kT).f4)))))))=true:=c37
             clear c37
             obtain rfl:=Option.some.inj H
             have alA:=mi.out
             have ak7:=mg.out
             have We:wr.cell? ⟨iY,0,none⟩=some (.slice iR dn.length iH):=(ax dY.out 0).trans rfl
             have V9:wr.cell? ⟨iY,1,none⟩=some (.string bU):=(ax dY.out 1).trans rfl
             have V8:wr.cell? ⟨iY,2,none⟩=some (.string bV):=(ax dY.out 2).trans rfl
             have V7:wr.cell? ⟨iY,3,none⟩=some (.slice jg bM.length iG):=(ax dY.out 3).trans rfl
             have UX:=ay dY.out 0
             have UW:=ay dY.out 1
             have UU:=ay dY.out 2
             have UT:=ay dY.out 3
             have JA:0≤(kT:Int):=of_decide_eq_true (by first|(with_reducible assumption)|assumption)
             have Jq:kT < (bM.length:Int):=of_decide_eq_true (by first|(with_reducible assumption)|assumption)
             obtain ⟨acs,aaf,wL,wK,wJ,wI,wH⟩:=xe Ak.out kT JA Jq
             cases aaf
             replace wL:=(HB.out.cell (World.block_lt_of_cell? w _ wL)).trans wL
             replace wK:=(HB.out.cell (World.block_lt_of_cell? w _ wK)).trans wK
             replace wJ:=(HB.out.cell (World.block_lt_of_cell? w _ wJ)).trans wJ
             replace wI:=(HB.out.cell (World.block_lt_of_cell? w _ wI)).trans wI
             replace wH:=(HB.out.cell (World.block_lt_of_cell? w _ wH)).trans wH
             replace JA:=eq_true JA
             replace Jq:=eq_true Jq
             have V6:wr.cell? ⟨jF,0,none⟩=some (.slice yT lJ.length yQ):=(ax gq.out 0).trans rfl
             have V5:wr.cell? ⟨jF,1,none⟩=some (.string oI):=(ax gq.out 1).trans rfl
             have VZ:wr.cell? ⟨jF,2,none⟩=some (.string pU):=(ax gq.out 2).trans rfl
             have VY:wr.cell? ⟨jF,3,none⟩=some (.slice yS jQ.length yP):=(ax gq.out 3).trans rfl
             have UR:=ay gq.out 0
             have UQ:=ay gq.out 1
             have UO:=ay gq.out 2
             have UN:=ay gq.out 3
             have Jz:0≤(kT:Int):=of_decide_eq_true (by first|(with_reducible assumption)|assumption)
             have Jp:kT < (jQ.length:Int):=of_decide_eq_true (by first|(with_reducible assumption)|assumption)
             obtain ⟨acr,aae,wG,wF,wE,wC,wB⟩:=xe YN.out kT Jz Jp
             cases aae
             replace wG:=(HB.out.cell (World.block_lt_of_cell? w _ wG)).trans wG
             replace wF:=(HB.out.cell (World.block_lt_of_cell? w _ wF)).trans wF
             replace wE:=(HB.out.cell (World.block_lt_of_cell? w _ wE)).trans wE
             replace wC:=(HB.out.cell (World.block_lt_of_cell? w _ wC)).trans wC
             replace wB:=(HB.out.cell (World.block_lt_of_cell? w _ wB)).trans wB
             replace Jz:=eq_true Jz
             replace Jp:=eq_true Jp
             go_wp2
             repeat (go_quiet (fail);try go_wp2)
             go_ret
             exact ⟨by first|rfl|(simp [bF,bD] <;> rfl)|(simp [*,bF,bD] <;> rfl),by repeat (first|(with_reducible first|exact HB.out|apply au|apply af|apply aj|refine az ?_ qo.out|refine az ?_ uM.out)|exact HB.out)⟩
            ·
             rw [if_neg c37] at H
             have RP:(!(((aU bM kT).f0) == ((aU jQ kT).f0)) || (!(((aU bM kT).f1) == ((aU jQ kT).f1)) || (!(((aU bM kT).f2) == ((aU jQ kT).f2)) || (!(((aU bM kT).f3) == ((aU jQ kT).f3)) || (!(((aU bM kT).f4) == ((aU jQ kT).f4)))))))=false:=by simpa using c37
             clear c37
             have H':=ae.mk H
             clear H
             have abJ:=mi.out
             have abz:=mg.out
             have VX:wr.cell? ⟨iY,0,none⟩=some (.slice iR dn.length iH):=(ax dY.out 0).trans rfl
             have VW:wr.cell? ⟨iY,1,none⟩=some (.string bU):=(ax dY.out 1).trans rfl
             have VV:wr.cell? ⟨iY,2,none⟩=some (.string bV):=(ax dY.out 2).trans rfl
             have VU:wr.cell? ⟨iY,3,none⟩=some (.slice jg bM.length iG):=(ax dY.out 3).trans rfl
             have UM:=ay dY.out 0
             have UL:=ay dY.out 1
             have UK:=ay dY.out 2
             have UJ:=ay dY.out 3
             have JA:0≤(kT:Int):=of_decide_eq_true (by first|(with_reducible assumption)|assumption)
             have Jq:kT < (bM.length:Int):=of_decide_eq_true (by first|(with_reducible assumption)|assumption)
             obtain ⟨acs,aaf,wL,wK,wJ,wI,wH⟩:=xe Ak.out kT JA Jq
             cases aaf
             replace wL:=(HB.out.cell (World.block_lt_of_cell? w _ wL)).trans wL
             replace wK:=(HB.out.cell (World.block_lt_of_cell? w _ wK)).trans wK
             replace wJ:=(HB.out.cell (World.block_lt_of_cell? w _ wJ)).trans wJ
             replace wI:=(HB.out.cell (World.block_lt_of_cell? w _ wI)).trans wI
             replace wH:=(HB.out.cell (World.block_lt_of_cell? w _ wH)).trans wH
             replace JA:=eq_true JA
             replace Jq:=eq_true Jq
             have VT:wr.cell? ⟨jF,0,none⟩=some (.slice yT lJ.length yQ):=(ax gq.out 0).trans rfl
             have VS:wr.cell? ⟨jF,1,none⟩=some (.string oI):=(ax gq.out 1).trans rfl
             have VR:wr.cell? ⟨jF,2,none⟩=some (.string pU):=(ax gq.out 2).trans rfl
             have VQ:wr.cell? ⟨jF,3,none⟩=some (.slice yS jQ.length yP):=(ax gq.out 3).trans rfl
             have UI:=ay gq.out 0
             have UH:=ay gq.out 1
             have UG:=ay gq.out 2
             have UF:=ay gq.out 3
             have Jz:0≤(kT:Int):=of_decide_eq_true (by first|(with_reducible assumption)|assumption)
             have Jp:kT < (jQ.length:Int):=of_decide_eq_true (by first|(with_reducible assumption)|assumption)
             obtain ⟨acr,aae,wG,wF,wE,wC,wB⟩:=xe YN.out kT Jz Jp
             cases aae
             replace wG:=(HB.out.cell (World.block_lt_of_cell? w _ wG)).trans wG
             replace wF:=(HB.out.cell (World.block_lt_of_cell? w _ wF)).trans wF
             replace wE:=(HB.out.cell (World.block_lt_of_cell? w _ wE)).trans wE
             replace wC:=(HB.out.cell (World.block_lt_of_cell? w _ wC)).trans wC
             replace wB:=(HB.out.cell (World.block_lt_of_cell? w _ wB)).trans wB
             replace Jz:=eq_true Jz
             replace Jp:=eq_true Jp
             go_wp2
             repeat (go_quiet (fail);try go_wp2)
             go_roundg k3
             case measure=>have:=HJ2.out;have:=CX.out;have:=J3.out;omega
             case rel=>exact ⟨(wrap64 (kT+1)),(by first|rfl|(simp;done)|(simp [*];done)),H',⟨by have:=HJ2.out;have:=CX.out;have:=J3.out;omega⟩,⟨by (with_reducible repeat (first|refine ah ?_ _|refine ak ?_|refine ai ?_ _));exact dY.out⟩,⟨by (with_reducible repeat (first|refine ah ?_ _|refine ak ?_|refine ai ?_ _));exact gq.out⟩,⟨by repeat (first|(with_reducible first|exact HB.out|apply au|apply af|apply aj|refine az ?_ qo.out|refine az ?_ uM.out)|exact HB.out)⟩⟩
           ·
            rw [if_neg XF] at H
            exact absurd H (by simp)
          ·
           rw [if_neg XG] at H
           exact absurd H (by simp)
         ·
          rw [if_neg c34] at H
          have RQ:decide (kT < (bM.length:Int))=false:=decide_eq_false c34
          clear c34
          obtain rfl:=Option.some.inj H
          have alv:=mi.out
          have ak3:=mg.out
          have aik:wr.cell? ⟨iY,0,none⟩=some (.slice iR dn.length iH):=(ax dY.out 0).trans rfl
          have aij:wr.cell? ⟨iY,1,none⟩=some (.string bU):=(ax dY.out 1).trans rfl
          have aii:wr.cell? ⟨iY,2,none⟩=some (.string bV):=(ax dY.out 2).trans rfl
          have aih:wr.cell? ⟨iY,3,none⟩=some (.slice jg bM.length iG):=(ax dY.out 3).trans rfl
          have aga:=ay dY.out 0
          have af9:=ay dY.out 1
          have af8:=ay dY.out 2
          have af7:=ay dY.out 3
          go_wp2
          repeat (go_quiet (fail);try go_wp2)
          go_ret
          exact ⟨by first|rfl|(simp [bF,bD] <;> rfl)|(simp [*,bF,bD] <;> rfl),by repeat (first|(with_reducible first|exact HB.out|apply au|apply af|apply aj|refine az ?_ qo.out|refine az ?_ uM.out)|exact HB.out)⟩
end Go.Proofs.YtkclndkbccbhaaaGreatDoor.P
end
