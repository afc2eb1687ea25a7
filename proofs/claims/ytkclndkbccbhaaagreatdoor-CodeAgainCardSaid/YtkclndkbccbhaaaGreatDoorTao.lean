/- Parts of the proof of CodeAgain: what the functions that it reaches compute, and plain facts about that. -/
import Derived.Test.YtkclndkbccbhaaaGreatDoorTac
import Derived.Test.YtkclndkbccbhaaaGreatDoorTan
import Derived.Test.YtkclndkbccbhaaaGreatDoorTag
set_option linter.unusedVariables false
set_option linter.unusedSimpArgs false
section
namespace Go.Proofs.YtkclndkbccbhaaaGreatDoor.P
open Go.RowKit Go.Proofs.ae.bg Go.Proofs.ae.dw Go.Proofs.ae.dO
attribute [local go_sem] jv jq jW jV iQ iP jr jo
mutual
def bC.l0:Nat→List (List ByteArray)→Int→List ByteArray→ByteArray→ByteArray→Option (List ByteArray × ByteArray × ByteArray × (List (iR)) × Int × Int)
 | 0,_,_,_,_,_=>none
 | k+1,x5,x9,o7,qZ,qY=>if x9 < (x5.length:Int) then (if 0≤x9 then (if 0 < ((fM x5 x9).length:Int) then (bC.j1 k x5 x9 ((eX ByteArray.empty (fM x5 x9) 0).toList == ([116,121,112,101]:List UInt8)) o7 qZ qY) else (none)) else (none)) else (bC.j1 k x5 x9 false o7 qZ qY)
def bC.j1:Nat→List (List ByteArray)→Int→Bool→List ByteArray→ByteArray→ByteArray→Option (List ByteArray × ByteArray × ByteArray × (List (iR)) × Int × Int)
 | 0,_,_,_,_,_,_=>none
 | k+1,x5,x9,x42,o7,qZ,qY=>if x42=true then ((bK.f k x5 x9 (⟨#[116,121,112,101]⟩:ByteArray) false).bind fun SX=>(if SX.2=true then (if o7.length < 8796093022208 then (bC.l0 k x5 (wrap64 (x9+1)) (o7++[SX.1]) qZ qY) else (none)) else (some (([]:List ByteArray),(⟨#[]⟩:ByteArray),(⟨#[]⟩:ByteArray),([]:List (iR)),wrap64 (x9+1),4)))) else ((bK.f k x5 x9 (⟨#[108,111,99,97,108,115]⟩:ByteArray) true).bind fun SV=>(if SV.2=true then ((bK.f k x5 (wrap64 (x9+1)) (⟨#[103,108,111,98,97,108,115]⟩:ByteArray) true).bind fun SS=>(if SS.2=true then (bC.l1 k x5 (wrap64 (x9+2)) o7 SV.1 SS.1 ([]:List (iR))) else (some (([]:List ByteArray),(⟨#[]⟩:ByteArray),(⟨#[]⟩:ByteArray),([]:List (iR)),wrap64 (x9+2),4)))) else (some (([]:List ByteArray),(⟨#[]⟩:ByteArray),(⟨#[]⟩:ByteArray),([]:List (iR)),wrap64 (x9+1),4))))
def bC.l1:Nat→List (List ByteArray)→Int→List ByteArray→ByteArray→ByteArray→List (iR)→Option (List ByteArray × ByteArray × ByteArray × (List (iR)) × Int × Int)
 | 0,_,_,_,_,_,_=>none
 | k+1,x5,x16,o7,qZ,qY,yJ=>if x16 < (x5.length:Int) then (if 0≤x16 then ((aZ.f k (fM x5 x16)).bind fun BV=>(if BV.2.2.2.2.2=true then (if (yJ.length:Int) ≥ 200 then (some (([]:List ByteArray),(⟨#[]⟩:ByteArray),(⟨#[]⟩:ByteArray),([]:List (iR)),wrap64 (x16+1),4)) else (if yJ.length < 8796093022208 then (bC.l1 k x5 (wrap64 (x16+1)) o7 qZ qY (yJ++[(⟨BV.1,BV.2.1,BV.2.2.1,BV.2.2.2.1,BV.2.2.2.2.1⟩:iR)])) else (none))) else (some (([]:List ByteArray),(⟨#[]⟩:ByteArray),(⟨#[]⟩:ByteArray),([]:List (iR)),wrap64 (x16+1),4)))) else (none)) else (some (o7,qZ,qY,yJ,0,0))
end
def bC.f (k:Nat) (a0:ByteArray):Option (List ByteArray × ByteArray × ByteArray × (List (iR)) × Int × Int):=(ak.f k a0).bind fun II=>(if II.2.2=0 then (bC.l0 k II.1 0 ([]:List ByteArray) (⟨#[]⟩:ByteArray) (⟨#[]⟩:ByteArray)) else (some (([]:List ByteArray),(⟨#[]⟩:ByteArray),(⟨#[]⟩:ByteArray),([]:List (iR)),II.2.1,II.2.2)))
theorem bC.fC:∀ k,(∀ y0 y1 y2 y3 y4,bV (bC.l0 k y0 y1 y2 y3 y4) (bC.l0 (k+1) y0 y1 y2 y3 y4))∧(∀ y0 y1 y2 y3 y4 y5,bV (bC.j1 k y0 y1 y2 y3 y4 y5) (bC.j1 (k+1) y0 y1 y2 y3 y4 y5))∧(∀ y0 y1 y2 y3 y4 y5,bV (bC.l1 k y0 y1 y2 y3 y4 y5) (bC.l1 (k+1) y0 y1 y2 y3 y4 y5))
 | 0=>⟨fun _ _ _ _ _ r h=>by simp [bC.l0] at h,fun _ _ _ _ _ _ r h=>by simp [bC.j1] at h,fun _ _ _ _ _ _ r h=>by simp [bC.l1] at h⟩
 | k+1=>by
  obtain ⟨iU,ih1,ih2⟩:=bC.fC k
  refine ⟨?_,?_,?_⟩
  ·
   intro y0 y1 y2 y3 y4
   unfold bC.l0
   repeat' with_reducible first|apply iU|apply ih1|apply ih2|apply ak.mono|apply bK.mono|apply aZ.mono|exact bV.refl _|exact bV.none _|refine bV.ite ?_ ?_|refine bV.bind ?_ (fun _=>?_)
  ·
   intro y0 y1 y2 y3 y4 y5
   unfold bC.j1
   repeat' with_reducible first|apply iU|apply ih1|apply ih2|apply ak.mono|apply bK.mono|apply aZ.mono|exact bV.refl _|exact bV.none _|refine bV.ite ?_ ?_|refine bV.bind ?_ (fun _=>?_)
  ·
   intro y0 y1 y2 y3 y4 y5
   unfold bC.l1
   repeat' with_reducible first|apply iU|apply ih1|apply ih2|apply ak.mono|apply bK.mono|apply aZ.mono|exact bV.refl _|exact bV.none _|refine bV.ite ?_ ?_|refine bV.bind ?_ (fun _=>?_)
theorem bC.mono:∀ a0 k,bV (bC.f k a0) (bC.f (k+1) a0):=by
 intro a0 k
 obtain ⟨iU,ih1,ih2⟩:=bC.fC k
 unfold bC.f
 repeat' with_reducible first|apply iU|apply ih1|apply ih2|apply ak.mono|apply bK.mono|apply aZ.mono|exact bV.refl _|exact bV.none _|refine bV.ite ?_ ?_|refine bV.bind ?_ (fun _=>?_)
end Go.Proofs.YtkclndkbccbhaaaGreatDoor.P
end
section
namespace Go.Proofs.YtkclndkbccbhaaaGreatDoor.P
open Go.RowKit Go.Proofs.ae.bg Go.Proofs.ae.dw Go.Proofs.ae.dO
attribute [local go_sem] jv jq jW jV iQ iP jr jo
attribute [local go_sem high] IE
mutual
def ax.j0:Nat→Bool→List ByteArray→ByteArray→ByteArray→List (iR)→List ByteArray→ByteArray→ByteArray→List (iR)→Option (Bool)
 | 0,_,_,_,_,_,_,_,_,_=>none
 | k+1,x36,qj,um,uk,mg,qi,uj,ui,mf=>if x36=true then (some false) else (ax.l0 k 0 qj um uk mg qi uj ui mf)
def ax.l0:Nat→Int→List ByteArray→ByteArray→ByteArray→List (iR)→List ByteArray→ByteArray→ByteArray→List (iR)→Option (Bool)
 | 0,_,_,_,_,_,_,_,_,_=>none
 | k+1,x5,qj,um,uk,mg,qi,uj,ui,mf=>if x5 < (qj.length:Int) then (if 0≤x5 then (if x5 < (qi.length:Int) then (if (eX ByteArray.empty qj x5).toList=(eX ByteArray.empty qi x5).toList then (ax.l0 k (wrap64 (x5+1)) qj um uk mg qi uj ui mf) else (some false)) else (none)) else (none)) else (ax.l1 k 0 qj um uk mg qi uj ui mf)
def ax.l1:Nat→Int→List ByteArray→ByteArray→ByteArray→List (iR)→List ByteArray→ByteArray→ByteArray→List (iR)→Option (Bool)
 | 0,_,_,_,_,_,_,_,_,_=>none
 | k+1,x6,qj,um,uk,mg,qi,uj,ui,mf=>if x6 < (mg.length:Int) then (if 0≤x6 then (if x6 < (mf.length:Int) then (if (!(((aJ mg x6).f0) == ((aJ mf x6).f0)) || (!(((aJ mg x6).f1) == ((aJ mf x6).f1)) || (!(((aJ mg x6).f2) == ((aJ mf x6).f2)) || (!(((aJ mg x6).f3) == ((aJ mf x6).f3)) || (!(((aJ mg x6).f4) == ((aJ mf x6).f4)))))))=true then (some false) else (ax.l1 k (wrap64 (x6+1)) qj um uk mg qi uj ui mf)) else (none)) else (none)) else (some true)
end
def ax.f (k:Nat) (bP:List ByteArray) (bU:ByteArray) (bQ:ByteArray) (bn:List (iR)) (jw:List ByteArray) (lF:ByteArray) (lZ:ByteArray) (iL:List (iR)):Option (Bool):=if (bP.length:Int)=(jw.length:Int) then (if (bn.length:Int)=(iL.length:Int) then (if bU.toList=lF.toList then (ax.j0 k (bQ.toList != lZ.toList) bP bU bQ bn jw lF lZ iL) else (ax.j0 k true bP bU bQ bn jw lF lZ iL)) else (ax.j0 k true bP bU bQ bn jw lF lZ iL)) else (ax.j0 k true bP bU bQ bn jw lF lZ iL)
theorem ax.fC:∀ k,(∀ y0 y1 y2 y3 y4 y5 y6 y7 y8,bV (ax.j0 k y0 y1 y2 y3 y4 y5 y6 y7 y8) (ax.j0 (k+1) y0 y1 y2 y3 y4 y5 y6 y7 y8))∧(∀ y0 y1 y2 y3 y4 y5 y6 y7 y8,bV (ax.l0 k y0 y1 y2 y3 y4 y5 y6 y7 y8) (ax.l0 (k+1) y0 y1 y2 y3 y4 y5 y6 y7 y8))∧(∀ y0 y1 y2 y3 y4 y5 y6 y7 y8,bV (ax.l1 k y0 y1 y2 y3 y4 y5 y6 y7 y8) (ax.l1 (k+1) y0 y1 y2 y3 y4 y5 y6 y7 y8))
 | 0=>⟨fun _ _ _ _ _ _ _ _ _ r h=>by simp [ax.j0] at h,fun _ _ _ _ _ _ _ _ _ r h=>by simp [ax.l0] at h,fun _ _ _ _ _ _ _ _ _ r h=>by simp [ax.l1] at h⟩
 | k+1=>by
  obtain ⟨iU,ih1,ih2⟩:=ax.fC k
  refine ⟨?_,?_,?_⟩
  ·
   intro y0 y1 y2 y3 y4 y5 y6 y7 y8
   unfold ax.j0
   repeat' with_reducible first|apply iU|apply ih1|apply ih2|exact bV.refl _|exact bV.none _|refine bV.ite ?_ ?_|refine bV.bind ?_ (fun _=>?_)
  ·
   intro y0 y1 y2 y3 y4 y5 y6 y7 y8
   unfold ax.l0
   repeat' with_reducible first|apply iU|apply ih1|apply ih2|exact bV.refl _|exact bV.none _|refine bV.ite ?_ ?_|refine bV.bind ?_ (fun _=>?_)
  ·
   intro y0 y1 y2 y3 y4 y5 y6 y7 y8
   unfold ax.l1
   repeat' with_reducible first|apply iU|apply ih1|apply ih2|exact bV.refl _|exact bV.none _|refine bV.ite ?_ ?_|refine bV.bind ?_ (fun _=>?_)
theorem ax.mono:∀ a0 a1 a2 a3 a4 a5 a6 a7 k,bV (ax.f k a0 a1 a2 a3 a4 a5 a6 a7) (ax.f (k+1) a0 a1 a2 a3 a4 a5 a6 a7):=by
 intro a0 a1 a2 a3 a4 a5 a6 a7 k
 obtain ⟨iU,ih1,ih2⟩:=ax.fC k
 unfold ax.f
 repeat' with_reducible first|apply iU|apply ih1|apply ih2|exact bV.refl _|exact bV.none _|refine bV.ite ?_ ?_|refine bV.bind ?_ (fun _=>?_)
set_option maxHeartbeats 8000000 in
set_option maxRecDepth 100000 in
theorem ax.calls (k:Nat) (fK:Option Addr) (fJ:Nat) (bP:List ByteArray) (bU:ByteArray) (bQ:ByteArray) (gy:Option Addr) (fH:Nat) (bn:List (iR)) (uU:Option Addr) (uQ:Nat) (jw:List ByteArray) (lF:ByteArray) (lZ:ByteArray) (uT:Option Addr) (uP:Nat) (iL:List (iR)) (r:Bool) (w:World) (yj:Kd.C Kd.string w fK bP.length bP) (yt:bP.length≤fJ) (yh:Kd.C k27 w gy bn.length bn) (yl:bn.length≤fH) (Sv:Kd.C Kd.string w uU jw.length jw) (SA:jw.length≤uQ) (Su:Kd.C k27 w uT iL.length iL) (Sz:iL.length≤uP) (h:ax.f k bP bU bQ bn jw lF lZ iL=some r) :
  Calls Tryz.prog 15 #[.agg #[.slice fK bP.length fJ,.string bU,.string bQ,.slice gy bn.length fH],.agg #[.slice uU jw.length uQ,.string lF,.string lZ,.slice uT iL.length uP]] w fun e w'=>e=.returned (.bool r)∧Below w.heap.size w w':=by
 have PQ:=Tryz.underlying25
 have Ul:=Tryz.underlying27
 have vw:=af.mk yj
 have I7:=af.mk yt
 clear yj yt
 have xg:=af.mk yh
 have I5:=af.mk yl
 clear yh yl
 have Tn:=af.mk Sv
 have afd:=af.mk SA
 clear Sv SA
 have Tm:=af.mk Su
 have afc:=af.mk Sz
 clear Su Sz
 have HB:=af.mk (Below.refl w.heap.size w)
 have H:(if (bP.length:Int)=(jw.length:Int) then (if (bn.length:Int)=(iL.length:Int) then (if bU.toList=lF.toList then (ax.j0 k (bQ.toList != lZ.toList) bP bU bQ bn jw lF lZ iL) else (ax.j0 k true bP bU bQ bn jw lF lZ iL)) else (ax.j0 k true bP bU bQ bn jw lF lZ iL)) else (ax.j0 k true bP bU bQ bn jw lF lZ iL))=some r:=h
 clear h
 have HC3:=af.mk H
 clear H
 go_enter Tryz.func15,Tryz.ntmps15
 go_upto_region 1 with (first|((with_reducible refine eH (N:=2) rfl ?_);(try (refine fP (by rfl) ?_;dsimp only));refine fU ?hg (N:=2) ?hd (cs:=#[.slice fK bP.length fJ,.string bU,.string bQ,.slice gy bn.length fH]) (t:=25) ?hr ?_;(case hd=>rfl);(case hg=>rfl);(case hr=>first|(go_simp;done)|(go_simp;rfl));intro fZ hg w4 hbox hb;have dE:=af.mk (aX (by repeat (first|(with_reducible first|exact HB.out|apply ai|apply ag|apply ah)|exact HB.out)) hb);have dL:=af.mk (hbox);have eF:=af.mk ((by rw [hg];exact (aY (by repeat (first|(with_reducible first|exact HB.out|apply ai|apply ag|apply ah)|exact HB.out))):w.heap.size≤fZ));have fO:=eF;clear HB;have HB:=dE;have dn:=dL;have TA:=eF;have mY:=fO;clear dE dL eF fO;clear hb hbox hg)|((with_reducible refine eH (N:=3) rfl ?_);(try (refine fP (by rfl) ?_;dsimp only));refine fU ?hg (N:=3) ?hd (cs:=#[.slice uU jw.length uQ,.string lF,.string lZ,.slice uT iL.length uP]) (t:=25) ?hr ?_;(case hd=>rfl);(case hg=>rfl);(case hr=>first|(go_simp;done)|(go_simp;rfl));intro iq hg w5 hbox hb;have dE:=af.mk (bZ (g:=fZ) (o:=.cells #[.slice fK bP.length fJ,.string bU,.string bQ,.slice gy bn.length fH] 25 (0,0)) (by (with_reducible repeat (first|refine ay ?_ _|refine aC ?_|refine az ?_ _));exact dn.out) hb);have dL:=af.mk (aX (by repeat (first|(with_reducible first|exact HB.out|apply ai|apply ag|apply ah|refine aA ?_ mY.out)|exact HB.out)) hb);have eF:=af.mk (hbox);have fO:=af.mk ((by rw [hg];exact (aY (by repeat (first|(with_reducible first|exact HB.out|apply ai|apply ag|apply ah|refine aA ?_ mY.out)|exact HB.out))):w.heap.size≤iq));have ik:=fO;have kR:=af.mk ((by rw [hg];exact Nat.ne_of_lt (kV (g:=fZ) (o:=.cells #[.slice fK bP.length fJ,.string bU,.string bQ,.slice gy bn.length fH] 25 (0,0)) (by (with_reducible repeat (first|refine ay ?_ _|refine aC ?_|refine az ?_ _));exact dn.out)):fZ ≠ iq));have oJ:=af.mk kR.out.symm;clear dn;clear HB;have dn:=dE;have HB:=dL;have dV:=eF;have Tz:=fO;have qA:=ik;have jM:=kR;have jL:=oJ;clear dE dL eF fO ik kR oJ;clear hb hbox hg))
 repeat (go_quiet (first|((with_reducible refine eH (N:=2) rfl ?_);(try (refine fP (by rfl) ?_;dsimp only));refine fU ?hg (N:=2) ?hd (cs:=#[.slice fK bP.length fJ,.string bU,.string bQ,.slice gy bn.length fH]) (t:=25) ?hr ?_;(case hd=>rfl);(case hg=>rfl);(case hr=>first|(go_simp;done)|(go_simp;rfl));intro fZ hg w4 hbox hb;have dE:=af.mk (aX (by repeat (first|(with_reducible first|exact HB.out|apply ai|apply ag|apply ah)|exact HB.out)) hb);have dL:=af.mk (hbox);have eF:=af.mk ((by rw [hg];exact (aY (by repeat (first|(with_reducible first|exact HB.out|apply ai|apply ag|apply ah)|exact HB.out))):w.heap.size≤fZ));have fO:=eF;clear HB;have HB:=dE;have dn:=dL;have TA:=eF;have mY:=fO;clear dE dL eF fO;clear hb hbox hg)|((with_reducible refine eH (N:=3) rfl ?_);(try (refine fP (by rfl) ?_;dsimp only));refine fU ?hg (N:=3) ?hd (cs:=#[.slice uU jw.length uQ,.string lF,.string lZ,.slice uT iL.length uP]) (t:=25) ?hr ?_;(case hd=>rfl);(case hg=>rfl);(case hr=>first|(go_simp;done)|(go_simp;rfl));intro iq hg w5 hbox hb;have dE:=af.mk (bZ (g:=fZ) (o:=.cells #[.slice fK bP.length fJ,.string bU,.string bQ,.slice gy bn.length fH] 25 (0,0)) (by (with_reducible repeat (first|refine ay ?_ _|refine aC ?_|refine az ?_ _));exact dn.out) hb);have dL:=af.mk (aX (by repeat (first|(with_reducible first|exact HB.out|apply ai|apply ag|apply ah|refine aA ?_ mY.out)|exact HB.out)) hb);have eF:=af.mk (hbox);have fO:=af.mk ((by rw [hg];exact (aY (by repeat (first|(with_reducible first|exact HB.out|apply ai|apply ag|apply ah|refine aA ?_ mY.out)|exact HB.out))):w.heap.size≤iq));have ik:=fO;have kR:=af.mk ((by rw [hg];exact Nat.ne_of_lt (kV (g:=fZ) (o:=.cells #[.slice fK bP.length fJ,.string bU,.string bQ,.slice gy bn.length fH] 25 (0,0)) (by (with_reducible repeat (first|refine ay ?_ _|refine aC ?_|refine az ?_ _));exact dn.out)):fZ ≠ iq));have oJ:=af.mk kR.out.symm;clear dn;clear HB;have dn:=dE;have HB:=dL;have dV:=eF;have Tz:=fO;have qA:=ik;have jM:=kR;have jL:=oJ;clear dE dL eF fO ik kR oJ;clear hb hbox hg));go_upto_region 1 with (first|((with_reducible refine eH (N:=2) rfl ?_);(try (refine fP (by rfl) ?_;dsimp only));refine fU ?hg (N:=2) ?hd (cs:=#[.slice fK bP.length fJ,.string bU,.string bQ,.slice gy bn.length fH]) (t:=25) ?hr ?_;(case hd=>rfl);(case hg=>rfl);(case hr=>first|(go_simp;done)|(go_simp;rfl));intro fZ hg w4 hbox hb;have dE:=af.mk (aX (by repeat (first|(with_reducible first|exact HB.out|apply ai|apply ag|apply ah)|exact HB.out)) hb);have dL:=af.mk (hbox);have eF:=af.mk ((by rw [hg];exact (aY (by repeat (first|(with_reducible first|exact HB.out|apply ai|apply ag|apply ah)|exact HB.out))):w.heap.size≤fZ));have fO:=eF;clear HB;have HB:=dE;have dn:=dL;have TA:=eF;have mY:=fO;clear dE dL eF fO;clear hb hbox hg)|((with_reducible refine eH (N:=3) rfl ?_);(try (refine fP (by rfl) ?_;dsimp only));refine fU ?hg (N:=3) ?hd (cs:=#[.slice uU jw.length uQ,.string lF,.string lZ,.slice uT iL.length uP]) (t:=25) ?hr ?_;(case hd=>rfl);(case hg=>rfl);(case hr=>first|(go_simp;done)|(go_simp;rfl));intro iq hg w5 hbox hb;have dE:=af.mk (bZ (g:=fZ) (o:=.cells #[.slice fK bP.length fJ,.string bU,.string bQ,.slice gy bn.length fH] 25 (0,0)) (by (with_reducible repeat (first|refine ay ?_ _|refine aC ?_|refine az ?_ _));exact dn.out) hb);have dL:=af.mk (aX (by repeat (first|(with_reducible first|exact HB.out|apply ai|apply ag|apply ah|refine aA ?_ mY.out)|exact HB.out)) hb);have eF:=af.mk (hbox);have fO:=af.mk ((by rw [hg];exact (aY (by repeat (first|(with_reducible first|exact HB.out|apply ai|apply ag|apply ah|refine aA ?_ mY.out)|exact HB.out))):w.heap.size≤iq));have ik:=fO;have kR:=af.mk ((by rw [hg];exact Nat.ne_of_lt (kV (g:=fZ) (o:=.cells #[.slice fK bP.length fJ,.string bU,.string bQ,.slice gy bn.length fH] 25 (0,0)) (by (with_reducible repeat (first|refine ay ?_ _|refine aC ?_|refine az ?_ _));exact dn.out)):fZ ≠ iq));have oJ:=af.mk kR.out.symm;clear dn;clear HB;have dn:=dE;have HB:=dL;have dV:=eF;have Tz:=fO;have qA:=ik;have jM:=kR;have jL:=oJ;clear dE dL eF fO ik kR oJ;clear hb hbox hg)))
 (try simp only [Act.put,List.setIfInBounds_toArray,List.set_cons_zero,List.set_cons_succ])
 go_cut [36] (fun v36 wc=>∃ (kq:Nat) (GX:Bool),v36=.bool GX∧af (ax.j0 kq GX bP bU bQ bn jw lF lZ iL=some r)∧af (kq≤k)∧af (wc.heap[fZ]? = some (.cells #[(.slice fK bP.length fJ),.string bU,.string bQ,(.slice gy bn.length fH)] 25 (0,0)))∧af (wc.heap[iq]? = some (.cells #[(.slice uU jw.length uQ),.string lF,.string lZ,(.slice uT iL.length uP)] 25 (0,0)))∧af (Below w.heap.size w wc))
 case first =>
  have H:=HC3.out
  clear HC3
  by_cases c6:(bP.length:Int)=(jw.length:Int)
  ·
   rw [if_pos c6] at H
   have qR:((bP.length:Int) == (jw.length:Int))=true:=beq_iff_eq.mpr c6
   have J7:((bP.length:Int) != (jw.length:Int))=false:=bne_eq_false_iff_eq.mpr c6
   have adI:(bP.length == jw.length)=true:=by first|simpa using c6|(simp at c6 ⊢;omega)
   clear c6
   (first|rw [qR]|(simp only [aK,aN];rw [qR])|skip)
   by_cases c7:(bn.length:Int)=(iL.length:Int)
   ·
    rw [if_pos c7] at H
    have xJ:((bn.length:Int) == (iL.length:Int))=true:=beq_iff_eq.mpr c7
    have DJ:((bn.length:Int) != (iL.length:Int))=false:=bne_eq_false_iff_eq.mpr c7
    have VQ:(bn.length == iL.length)=true:=by first|simpa using c7|(simp at c7 ⊢;omega)
    clear c7
    by_cases c8:bU.toList=lF.toList
    ·
     rw [if_pos c8] at H
     have AA:(bU.toList == lF.toList)=true:=beq_iff_eq.mpr c8
     have VN:(bU.toList != lF.toList)=false:=bne_eq_false_iff_eq.mpr c8
     clear c8
     have H':=af.mk H
     clear H
     have afK:=jM.out
     have afJ:=jL.out
     have acs:w5.cell? ⟨fZ,0,none⟩=some (.slice fK bP.length fJ):=(au dn.out 0).trans rfl
     have acr:w5.cell? ⟨fZ,1,none⟩=some (.string bU):=(au dn.out 1).trans rfl
     have acp:w5.cell? ⟨fZ,2,none⟩=some (.string bQ):=(au dn.out 2).trans rfl
     have aco:w5.cell? ⟨fZ,3,none⟩=some (.slice gy bn.length fH):=(au dn.out 3).trans rfl
     have aah:=aj dn.out 0
     have aag:=aj dn.out 1
     have aaf:=aj dn.out 2
     have aae:=aj dn.out 3
     have acn:w5.cell? ⟨iq,0,none⟩=some (.slice uU jw.length uQ):=(au dV.out 0).trans rfl
     have acm:w5.cell? ⟨iq,1,none⟩=some (.string lF):=(au dV.out 1).trans rfl
     have ack:w5.cell? ⟨iq,2,none⟩=some (.string lZ):=(au dV.out 2).trans rfl
     have acj:w5.cell? ⟨iq,3,none⟩=some (.slice uT iL.length uP):=(au dV.out 3).trans rfl
     have aad:=aj dV.out 0
     have aac:=aj dV.out 1
     have aab:=aj dV.out 2
     have Z9:=aj dV.out 3
     go_wp2
     repeat (go_quiet (fail);try go_wp2)
     go_meet
     case rel=>exact ⟨_,((bQ.toList != lZ.toList)),(by first|rfl|(simp;done)|(simp [*];done)),H',⟨by first|omega|exact Nat.le_refl _⟩,⟨by (with_reducible repeat (first|refine ay ?_ _|refine aC ?_|refine az ?_ _));exact dn.out⟩,⟨by (with_reducible repeat (first|refine ay ?_ _|refine aC ?_|refine az ?_ _));exact dV.out⟩,⟨by repeat (first|(with_reducible first|exact HB.out|apply ai|apply ag|apply ah|refine aA ?_ mY.out|refine aA ?_ qA.out)|exact HB.out)⟩⟩
    ·
     rw [if_neg c8] at H
     have AA:(bU.toList == lF.toList)=false:=beq_eq_false_iff_ne.mpr c8
     have VN:(bU.toList != lF.toList)=true:=bne_iff_ne.mpr c8
     have H':=af.mk H
     clear H
     have aeL:=jM.out
     have aeu:=jL.out
     have aci:w5.cell? ⟨fZ,0,none⟩=some (.slice fK bP.length fJ):=(au dn.out 0).trans rfl
     have ach:w5.cell? ⟨fZ,1,none⟩=some (.string bU):=(au dn.out 1).trans rfl
     have acg:w5.cell? ⟨fZ,2,none⟩=some (.string bQ):=(au dn.out 2).trans rfl
     have acf:w5.cell? ⟨fZ,3,none⟩=some (.slice gy bn.length fH):=(au dn.out 3).trans rfl
     have Z8:=aj dn.out 0
     have Z7:=aj dn.out 1
     have Z5:=aj dn.out 2
     have Z4:=aj dn.out 3
     have ace:w5.cell? ⟨iq,0,none⟩=some (.slice uU jw.length uQ):=(au dV.out 0).trans rfl
     have acd:w5.cell? ⟨iq,1,none⟩=some (.string lF):=(au dV.out 1).trans rfl
     have acb:w5.cell? ⟨iq,2,none⟩=some (.string lZ):=(au dV.out 2).trans rfl
     have aca:w5.cell? ⟨iq,3,none⟩=some (.slice uT iL.length uP):=(au dV.out 3).trans rfl
     have ZZ:=aj dV.out 0
     have ZY:=aj dV.out 1
     have ZX:=aj dV.out 2
     have ZW:=aj dV.out 3
     go_wp2
     repeat (go_quiet (fail);try go_wp2)
     go_meet
     case rel=>exact ⟨_,(true),(by first|rfl|(simp;done)|(simp [*];done)),H',⟨by first|omega|exact Nat.le_refl _⟩,⟨by (with_reducible repeat (first|refine ay ?_ _|refine aC ?_|refine az ?_ _));exact dn.out⟩,⟨by (with_reducible repeat (first|refine ay ?_ _|refine aC ?_|refine az ?_ _));exact dV.out⟩,⟨by repeat (first|(with_reducible first|exact HB.out|apply ai|apply ag|apply ah|refine aA ?_ mY.out|refine aA ?_ qA.out)|exact HB.out)⟩⟩
   ·
    rw [if_neg c7] at H
    have xJ:((bn.length:Int) == (iL.length:Int))=false:=beq_eq_false_iff_ne.mpr c7
    have DJ:((bn.length:Int) != (iL.length:Int))=true:=bne_iff_ne.mpr c7
    have VQ:(bn.length == iL.length)=false:=by first|simpa using c7|(simp at c7 ⊢;omega)
    have H':=af.mk H
    clear H
    have aeK:=jM.out
    have aet:=jL.out
    have ab9:w5.cell? ⟨fZ,0,none⟩=some (.slice fK bP.length fJ):=(au dn.out 0).trans rfl
    have ab8:w5.cell? ⟨fZ,1,none⟩=some (.string bU):=(au dn.out 1).trans rfl
    have ab7:w5.cell? ⟨fZ,2,none⟩=some (.string bQ):=(au dn.out 2).trans rfl
    have ab6:w5.cell? ⟨fZ,3,none⟩=some (.slice gy bn.length fH):=(au dn.out 3).trans rfl
    have ZV:=aj dn.out 0
    have ZU:=aj dn.out 1
    have ZT:=aj dn.out 2
    have ZR:=aj dn.out 3
    have ab5:w5.cell? ⟨iq,0,none⟩=some (.slice uU jw.length uQ):=(au dV.out 0).trans rfl
    have ab4:w5.cell? ⟨iq,1,none⟩=some (.string lF):=(au dV.out 1).trans rfl
    have ab3:w5.cell? ⟨iq,2,none⟩=some (.string lZ):=(au dV.out 2).trans rfl
    have ab2:w5.cell? ⟨iq,3,none⟩=some (.slice uT iL.length uP):=(au dV.out 3).trans rfl
    have ZQ:=aj dV.out 0
    have ZP:=aj dV.out 1
    have ZO:=aj dV.out 2
    have ZN:=aj dV.out 3
    go_wp2
    repeat (go_quiet (fail);try go_wp2)
    go_meet
    case rel=>exact ⟨_,(true),(by first|rfl|(simp;done)|(simp [*];done)),H',⟨by first|omega|exact Nat.le_refl _⟩,⟨by (with_reducible repeat (first|refine ay ?_ _|refine aC ?_|refine az ?_ _));exact dn.out⟩,⟨by (with_reducible repeat (first|refine ay ?_ _|refine aC ?_|refine az ?_ _));exact dV.out⟩,⟨by repeat (first|(with_reducible first|exact HB.out|apply ai|apply ag|apply ah|refine aA ?_ mY.out|refine aA ?_ qA.out)|exact HB.out)⟩⟩
  ·
   rw [if_neg c6] at H
   have qR:((bP.length:Int) == (jw.length:Int))=false:=beq_eq_false_iff_ne.mpr c6
   have J7:((bP.length:Int) != (jw.length:Int))=true:=bne_iff_ne.mpr c6
   have adI:(bP.length == jw.length)=false:=by first|simpa using c6|(simp at c6 ⊢;omega)
   (first|rw [qR]|(simp only [aK,aN];rw [qR])|skip)
   have H':=af.mk H
   clear H
   have aeJ:=jM.out
   have aes:=jL.out
   have QI:w5.cell? ⟨fZ,0,none⟩=some (.slice fK bP.length fJ):=(au dn.out 0).trans rfl
   have QH:w5.cell? ⟨fZ,1,none⟩=some (.string bU):=(au dn.out 1).trans rfl
   have QG:w5.cell? ⟨fZ,2,none⟩=some (.string bQ):=(au dn.out 2).trans rfl
   have QF:w5.cell? ⟨fZ,3,none⟩=some (.slice gy bn.length fH):=(au dn.out 3).trans rfl
   have Qh:=aj dn.out 0
   have Qg:=aj dn.out 1
   have Qe:=aj dn.out 2
   have Qd:=aj dn.out 3
   have Iz:w5.cell? ⟨iq,0,none⟩=some (.slice uU jw.length uQ):=(au dV.out 0).trans rfl
   have Iy:w5.cell? ⟨iq,1,none⟩=some (.string lF):=(au dV.out 1).trans rfl
   have Iw:w5.cell? ⟨iq,2,none⟩=some (.string lZ):=(au dV.out 2).trans rfl
   have Iu:w5.cell? ⟨iq,3,none⟩=some (.slice uT iL.length uP):=(au dV.out 3).trans rfl
   have Ir:=aj dV.out 0
   have Iq:=aj dV.out 1
   have Ip:=aj dV.out 2
   have Io:=aj dV.out 3
   go_wp2
   repeat (go_quiet (fail);try go_wp2)
   go_meet
   case rel=>exact ⟨_,(true),(by first|rfl|(simp;done)|(simp [*];done)),H',⟨by first|omega|exact Nat.le_refl _⟩,⟨by (with_reducible repeat (first|refine ay ?_ _|refine aC ?_|refine az ?_ _));exact dn.out⟩,⟨by (with_reducible repeat (first|refine ay ?_ _|refine aC ?_|refine az ?_ _));exact dV.out⟩,⟨by repeat (first|(with_reducible first|exact HB.out|apply ai|apply ag|apply ah|refine aA ?_ mY.out|refine aA ?_ qA.out)|exact HB.out)⟩⟩
 case rest =>
  clear HC3
  obtain ⟨kq,GX,rfl,HA,HJ2,dn,dV,HB⟩:=hcut
  cases kq with
  | zero=>exact absurd HA.out (by simp [ax.j0])
  | succ kj2 =>
   have H:=HA.out
   clear HA
   simp only [ax.j0] at H
   by_cases c21:GX=true
   ·
    subst c21
    have H1:(some false)=some r:=by rw [if_pos rfl] at H;exact H
    clear H
    have H:=H1
    clear H1
    obtain rfl:=Option.some.inj H
    go_wp2
    repeat (go_quiet (fail);try go_wp2)
    go_ret
    exact ⟨by first|rfl|(simp [bF,bD] <;> rfl)|(simp [*,bF,bD] <;> rfl),by repeat (first|(with_reducible first|exact HB.out|apply ai|apply ag|apply ah|refine aA ?_ mY.out|refine aA ?_ qA.out)|exact HB.out)⟩
   ·
    replace c21:=Bool.eq_false_iff.mpr c21
    subst c21
    have H1:(ax.l0 kj2 0 bP bU bQ bn jw lF lZ iL)=some r:=by rw [if_neg (show ¬ (false=true) by decide)] at H;exact H
    clear H
    have H:=H1
    clear H1
    have H':=af.mk H
    clear H
    go_wp2
    repeat (go_quiet (fail);try go_wp2)
    go_loopg [5] kj2 (fun kq v5 w'=>∃ (iE:Int),v5=.int .i64 iE∧af (ax.l0 kq iE bP bU bQ bn jw lF lZ iL=some r)∧af (kq≤kj2)∧af (w'.heap[fZ]? = some (.cells #[(.slice fK bP.length fJ),.string bU,.string bQ,(.slice gy bn.length fH)] 25 (0,0)))∧af (w'.heap[iq]? = some (.cells #[(.slice uU jw.length uQ),.string lF,.string lZ,(.slice uT iL.length uP)] 25 (0,0)))∧af (Below w.heap.size w w'))
    case atStart=>exact ⟨(0),(by first|rfl|(simp;done)|(simp [*];done)),H',⟨Nat.le_refl _⟩,⟨by (with_reducible repeat (first|refine ay ?_ _|refine aC ?_|refine az ?_ _));exact dn.out⟩,⟨by (with_reducible repeat (first|refine ay ?_ _|refine aC ?_|refine az ?_ _));exact dV.out⟩,⟨by repeat (first|(with_reducible first|exact HB.out|apply ai|apply ag|apply ah|refine aA ?_ mY.out|refine aA ?_ qA.out)|exact HB.out)⟩⟩
    case round =>
     clear H'
     obtain ⟨iE,rfl,HA,yA,dn,dV,HB⟩:=hrel
     cases gk with
     | zero=>exact absurd HA.out (by simp [ax.l0])
     | succ k2 =>
      have H:=HA.out
      clear HA
      simp only [ax.l0] at H
      by_cases U3:iE < (bP.length:Int)
      ·
       rw [if_pos U3] at H
       have VY:decide (iE < (bP.length:Int))=true:=decide_eq_true U3
       clear U3
       by_cases c23:0≤iE
       ·
        rw [if_pos c23] at H
        have aeX:decide (0≤iE)=true:=decide_eq_true c23
        clear c23
        by_cases c24:iE < (jw.length:Int)
        ·
         rw [if_pos c24] at H
         have SK:decide (iE < (jw.length:Int))=true:=decide_eq_true c24
         clear c24
         by_cases c25:(eX ByteArray.empty bP iE).toList=(eX ByteArray.empty jw iE).toList
         ·
          rw [if_pos c25] at H
          have VW:((eX ByteArray.empty bP iE).toList == (eX ByteArray.empty jw iE).toList)=true:=beq_iff_eq.mpr c25
          have VV:((eX ByteArray.empty bP iE).toList != (eX ByteArray.empty jw iE).toList)=false:=bne_eq_false_iff_eq.mpr c25
          clear c25
          have H':=af.mk H
          clear H
          have aeF:=jM.out
          have aeo:=jL.out
          have abM:wr.cell? ⟨fZ,0,none⟩=some (.slice fK bP.length fJ):=(au dn.out 0).trans rfl
          have abL:wr.cell? ⟨fZ,1,none⟩=some (.string bU):=(au dn.out 1).trans rfl
          have abK:wr.cell? ⟨fZ,2,none⟩=some (.string bQ):=(au dn.out 2).trans rfl
          have abJ:wr.cell? ⟨fZ,3,none⟩=some (.slice gy bn.length fH):=(au dn.out 3).trans rfl
          have Zx:=aj dn.out 0
          have Zw:=aj dn.out 1
          have Zv:=aj dn.out 2
          have Zu:=aj dn.out 3
          have Gm:0≤(iE:Int):=of_decide_eq_true (by first|(with_reducible assumption)|assumption)
          have F9:iE < (bP.length:Int):=of_decide_eq_true (by first|(with_reducible assumption)|assumption)
          obtain ⟨Wu,UE,rX⟩:=Kd.fG vw.out iE Gm F9
          cases UE
          replace rX:=(HB.out.cell (World.block_lt_of_cell? w _ rX)).trans rX
          replace Gm:=eq_true Gm
          replace F9:=eq_true F9
          have QE:wr.cell? ⟨iq,0,none⟩=some (.slice uU jw.length uQ):=(au dV.out 0).trans rfl
          have QD:wr.cell? ⟨iq,1,none⟩=some (.string lF):=(au dV.out 1).trans rfl
          have QC:wr.cell? ⟨iq,2,none⟩=some (.string lZ):=(au dV.out 2).trans rfl
          have QB:wr.cell? ⟨iq,3,none⟩=some (.slice uT iL.length uP):=(au dV.out 3).trans rfl
          have Qc:=aj dV.out 0
          have Qb:=aj dV.out 1
          have Qa:=aj dV.out 2
          have P9:=aj dV.out 3
          have Gl:0≤(iE:Int):=of_decide_eq_true (by first|(with_reducible assumption)|assumption)
          have F8:iE < (jw.length:Int):=of_decide_eq_true (by first|(with_reducible assumption)|assumption)
          obtain ⟨Ws,UD,rW⟩:=Kd.fG Tn.out iE Gl F8
          cases UD
          replace rW:=(HB.out.cell (World.block_lt_of_cell? w _ rW)).trans rW
          replace Gl:=eq_true Gl
          replace F8:=eq_true F8
          go_wp2
          repeat (go_quiet (fail);try go_wp2)
          go_roundg k2
          case measure=>have:=HJ2.out;have:=yA.out;omega
          case rel=>exact ⟨(wrap64 (iE+1)),(by first|rfl|(simp;done)|(simp [*];done)),H',⟨by have:=HJ2.out;have:=yA.out;omega⟩,⟨by (with_reducible repeat (first|refine ay ?_ _|refine aC ?_|refine az ?_ _));exact dn.out⟩,⟨by (with_reducible repeat (first|refine ay ?_ _|refine aC ?_|refine az ?_ _));exact dV.out⟩,⟨by repeat (first|(with_reducible first|exact HB.out|apply ai|apply ag|apply ah|refine aA ?_ mY.out|refine aA ?_ qA.out)|exact HB.out)⟩⟩
         ·
          rw [if_neg c25] at H
          have VW:((eX ByteArray.empty bP iE).toList == (eX ByteArray.empty jw iE).toList)=false:=beq_eq_false_iff_ne.mpr c25
          have VV:((eX ByteArray.empty bP iE).toList != (eX ByteArray.empty jw iE).toList)=true:=bne_iff_ne.mpr c25
          obtain rfl:=Option.some.inj H
          have aeD:=jM.out
          have aem:=jL.out
          have QA:wr.cell? ⟨fZ,0,none⟩=some (.slice fK bP.length fJ):=(au dn.out 0).trans rfl
          have Qz:wr.cell? ⟨fZ,1,none⟩=some (.string bU):=(au dn.out 1).trans rfl
          have Qy:wr.cell? ⟨fZ,2,none⟩=some (.string bQ):=(au dn.out 2).trans rfl
          have Qx:wr.cell? ⟨fZ,3,none⟩=some (.slice gy bn.length fH):=(au dn.out 3).trans rfl
          have P8:=aj dn.out 0
          have P7:=aj dn.out 1
          have P6:=aj dn.out 2
          have P5:=aj dn.out 3
          have Gm:0≤(iE:Int):=of_decide_eq_true (by first|(with_reducible assumption)|assumption)
          have F9:iE < (bP.length:Int):=of_decide_eq_true (by first|(with_reducible assumption)|assumption)
          obtain ⟨Wu,UE,rX⟩:=Kd.fG vw.out iE Gm F9
          cases UE
          replace rX:=(HB.out.cell (World.block_lt_of_cell? w _ rX)).trans rX
          replace Gm:=eq_true Gm
          replace F9:=eq_true F9
          have abD:wr.cell? ⟨iq,0,none⟩=some (.slice uU jw.length uQ):=(au dV.out 0).trans rfl
          have abC:wr.cell? ⟨iq,1,none⟩=some (.string lF):=(au dV.out 1).trans rfl
          have abB:wr.cell? ⟨iq,2,none⟩=some (.string lZ):=(au dV.out 2).trans rfl
          have abA:wr.cell? ⟨iq,3,none⟩=some (.slice uT iL.length uP):=(au dV.out 3).trans rfl
          have Zo:=aj dV.out 0
          have Zn:=aj dV.out 1
          have Zm:=aj dV.out 2
          have Zl:=aj dV.out 3
          have Gl:0≤(iE:Int):=of_decide_eq_true (by first|(with_reducible assumption)|assumption)
          have F8:iE < (jw.length:Int):=of_decide_eq_true (by first|(with_reducible assumption)|assumption)
          obtain ⟨Ws,UD,rW⟩:=Kd.fG Tn.out iE Gl F8
          cases UD
          replace rW:=(HB.out.cell (World.block_lt_of_cell? w _ rW)).trans rW
          replace Gl:=eq_true Gl
          replace F8:=eq_true F8
          go_wp2
          repeat (go_quiet (fail);try go_wp2)
          go_ret
          exact ⟨by first|rfl|(simp [bF,bD] <;> rfl)|(simp [*,bF,bD] <;> rfl),by repeat (first|(with_reducible first|exact HB.out|apply ai|apply ag|apply ah|refine aA ?_ mY.out|refine aA ?_ qA.out)|exact HB.out)⟩
        ·
         rw [if_neg c24] at H
         exact absurd H (by simp)
       ·
        rw [if_neg c23] at H
        exact absurd H (by simp)
      ·
       rw [if_neg U3] at H
       have VY:decide (iE < (bP.length:Int))=false:=decide_eq_false U3
       clear U3
       have H':=af.mk H
       clear H
       have aeC:=jM.out
       have ael:=jL.out
       have abz:wr.cell? ⟨fZ,0,none⟩=some (.slice fK bP.length fJ):=(au dn.out 0).trans rfl
       have aby:wr.cell? ⟨fZ,1,none⟩=some (.string bU):=(au dn.out 1).trans rfl
       have abx:wr.cell? ⟨fZ,2,none⟩=some (.string bQ):=(au dn.out 2).trans rfl
       have abw:wr.cell? ⟨fZ,3,none⟩=some (.slice gy bn.length fH):=(au dn.out 3).trans rfl
       have Zk:=aj dn.out 0
       have Zj:=aj dn.out 1
       have Zi:=aj dn.out 2
       have Zh:=aj dn.out 3
       go_wp2
       repeat (go_quiet (fail);try go_wp2)
       go_loopg [6] k2 (fun kq v6 w'=>∃ (jg:Int),v6=.int .i64 jg∧af (ax.l1 kq jg bP bU bQ bn jw lF lZ iL=some r)∧af (kq≤k2)∧af (w'.heap[fZ]? = some (.cells #[(.slice fK bP.length fJ),.string bU,.string bQ,(.slice gy bn.length fH)] 25 (0,0)))∧af (w'.heap[iq]? = some (.cells #[(.slice uU jw.length uQ),.string lF,.string lZ,(.slice uT iL.length uP)] 25 (0,0)))∧af (Below w.heap.size w w'))
       case atStart=>exact ⟨(0),(by first|rfl|(simp;done)|(simp [*];done)),H',⟨Nat.le_refl _⟩,⟨by (with_reducible repeat (first|refine ay ?_ _|refine aC ?_|refine az ?_ _));exact dn.out⟩,⟨by (with_reducible repeat (first|refine ay ?_ _|refine aC ?_|refine az ?_ _));exact dV.out⟩,⟨by repeat (first|(with_reducible first|exact HB.out|apply ai|apply ag|apply ah|refine aA ?_ mY.out|refine aA ?_ qA.out)|exact HB.out)⟩⟩
       case round =>
        clear H'
        obtain ⟨jg,rfl,HA,RH,dn,dV,HB⟩:=hrel
        cases gk with
        | zero=>exact absurd HA.out (by simp [ax.l1])
        | succ k3 =>
         have H:=HA.out
         clear HA
         simp only [ax.l1] at H
         by_cases c34:jg < (bn.length:Int)
         ·
          rw [if_pos c34] at H
          have SI:decide (jg < (bn.length:Int))=true:=decide_eq_true c34
          clear c34
          by_cases Rh:0≤jg
          ·
           rw [if_pos Rh] at H
           have VT:decide (0≤jg)=true:=decide_eq_true Rh
           clear Rh
           by_cases c36:jg < (iL.length:Int)
           ·
            rw [if_pos c36] at H
            have aeW:decide (jg < (iL.length:Int))=true:=decide_eq_true c36
            clear c36
            by_cases c37:(!(((aJ bn jg).f0) == ((aJ iL jg).f0)) || (!(((aJ bn jg).f1) == ((aJ iL jg).f1)) || (!(((aJ bn jg).f2) == ((aJ iL jg).f2)) || (!(((aJ bn jg).f3) == ((aJ iL jg).f3)) || (!(((aJ bn jg).f4) == ((aJ iL jg).f4)))))))=true
            ·
             rw [if_pos c37] at H
             have VS:(!(((aJ bn jg).f0) == ((aJ iL jg).f0)) || (!(((aJ bn jg).f1) == ((aJ iL jg).f1)) || (!(((aJ bn jg).f2) == ((aJ iL jg).f2)) || (!(((aJ bn jg).f3) == ((aJ iL jg).f3)) || (!(((aJ bn jg).f4) == ((aJ iL jg).f4)))))))=true:=c37
             clear c37
             obtain rfl:=Option.some.inj H
             have aeB:=jM.out
             have aek:=jL.out
             have Qw:wr.cell? ⟨fZ,0,none⟩=some (.slice fK bP.length fJ):=(au dn.out 0).trans rfl
             have Qv:wr.cell? ⟨fZ,1,none⟩=some (.string bU):=(au dn.out 1).trans rfl
             have Qu:wr.cell? ⟨fZ,2,none⟩=some (.string bQ):=(au dn.out 2).trans rfl
             have Qs:wr.cell? ⟨fZ,3,none⟩=some (.slice gy bn.length fH):=(au dn.out 3).trans rfl
             have PZ:=aj dn.out 0
             have PY:=aj dn.out 1
             have PX:=aj dn.out 2
             have PW:=aj dn.out 3
             have Gj:0≤(jg:Int):=of_decide_eq_true (by first|(with_reducible assumption)|assumption)
             have F7:jg < (bn.length:Int):=of_decide_eq_true (by first|(with_reducible assumption)|assumption)
             obtain ⟨Wp,UC,rV,rU,rQ,rP,rO⟩:=sH xg.out jg Gj F7
             cases UC
             replace rV:=(HB.out.cell (World.block_lt_of_cell? w _ rV)).trans rV
             replace rU:=(HB.out.cell (World.block_lt_of_cell? w _ rU)).trans rU
             replace rQ:=(HB.out.cell (World.block_lt_of_cell? w _ rQ)).trans rQ
             replace rP:=(HB.out.cell (World.block_lt_of_cell? w _ rP)).trans rP
             replace rO:=(HB.out.cell (World.block_lt_of_cell? w _ rO)).trans rO
             replace Gj:=eq_true Gj
             replace F7:=eq_true F7
             have Qr:wr.cell? ⟨iq,0,none⟩=some (.slice uU jw.length uQ):=(au dV.out 0).trans rfl
             have Qq:wr.cell? ⟨iq,1,none⟩=some (.string lF):=(au dV.out 1).trans rfl
             have Qp:wr.cell? ⟨iq,2,none⟩=some (.string lZ):=(au dV.out 2).trans rfl
             have Qo:wr.cell? ⟨iq,3,none⟩=some (.slice uT iL.length uP):=(au dV.out 3).trans rfl
             have PV:=aj dV.out 0
             have PU:=aj dV.out 1
             have PT:=aj dV.out 2
             have PS:=aj dV.out 3
             have Gi:0≤(jg:Int):=of_decide_eq_true (by first|(with_reducible assumption)|assumption)
             have F6:jg < (iL.length:Int):=of_decide_eq_true (by first|(with_reducible assumption)|assumption)
             obtain ⟨Wl,UB,rM,rJ,rH,rG,rF⟩:=sH Tm.out jg Gi F6
             cases UB
             replace rM:=(HB.out.cell (World.block_lt_of_cell? w _ rM)).trans rM
             replace rJ:=(HB.out.cell (World.block_lt_of_cell? w _ rJ)).trans rJ
             replace rH:=(HB.out.cell (World.block_lt_of_cell? w _ rH)).trans rH
             replace rG:=(HB.out.cell (World.block_lt_of_cell? w _ rG)).trans rG
             replace rF:=(HB.out.cell (World.block_lt_of_cell? w _ rF)).trans rF
             replace Gi:=eq_true Gi
             replace F6:=eq_true F6
             go_wp2
             repeat (go_quiet (fail);try go_wp2)
             go_ret
             exact ⟨by first|rfl|(simp [bF,bD] <;> rfl)|(simp [*,bF,bD] <;> rfl),by repeat (first|(with_reducible first|exact HB.out|apply ai|apply ag|apply ah|refine aA ?_ mY.out|refine aA ?_ qA.out)|exact HB.out)⟩
            ·
             rw [if_neg c37] at H
             have VS:(!(((aJ bn jg).f0) == ((aJ iL jg).f0)) || (!(((aJ bn jg).f1) == ((aJ iL jg).f1)) || (!(((aJ bn jg).f2) == ((aJ iL jg).f2)) || (!(((aJ bn jg).f3) == ((aJ iL jg).f3)) || (!(((aJ bn jg).f4) == ((aJ iL jg).f4)))))))=false:=by simpa using c37
             clear c37
             have H':=af.mk H
             clear H
             have aez:=jM.out
             have aei:=jL.out
             have aa7:wr.cell? ⟨fZ,0,none⟩=some (.slice fK bP.length fJ):=(au dn.out 0).trans rfl
             have aa6:wr.cell? ⟨fZ,1,none⟩=some (.string bU):=(au dn.out 1).trans rfl
             have aa5:wr.cell? ⟨fZ,2,none⟩=some (.string bQ):=(au dn.out 2).trans rfl
             have aa4:wr.cell? ⟨fZ,3,none⟩=some (.slice gy bn.length fH):=(au dn.out 3).trans rfl
             have YV:=aj dn.out 0
             have YU:=aj dn.out 1
             have YT:=aj dn.out 2
             have YS:=aj dn.out 3
             have Gj:0≤(jg:Int):=of_decide_eq_true (by first|(with_reducible assumption)|assumption)
             have F7:jg < (bn.length:Int):=of_decide_eq_true (by first|(with_reducible assumption)|assumption)
             obtain ⟨Wp,UC,rV,rU,rQ,rP,rO⟩:=sH xg.out jg Gj F7
             cases UC
             replace rV:=(HB.out.cell (World.block_lt_of_cell? w _ rV)).trans rV
             replace rU:=(HB.out.cell (World.block_lt_of_cell? w _ rU)).trans rU
             replace rQ:=(HB.out.cell (World.block_lt_of_cell? w _ rQ)).trans rQ
             replace rP:=(HB.out.cell (World.block_lt_of_cell? w _ rP)).trans rP
             replace rO:=(HB.out.cell (World.block_lt_of_cell? w _ rO)).trans rO
             replace Gj:=eq_true Gj
             replace F7:=eq_true F7
             have aa3:wr.cell? ⟨iq,0,none⟩=some (.slice uU jw.length uQ):=(au dV.out 0).trans rfl
             have aa2:wr.cell? ⟨iq,1,none⟩=some (.string lF):=(au dV.out 1).trans rfl
             have aa1:wr.cell? ⟨iq,2,none⟩=some (.string lZ):=(au dV.out 2).trans rfl
             have aa0:wr.cell? ⟨iq,3,none⟩=some (.slice uT iL.length uP):=(au dV.out 3).trans rfl
             have YR:=aj dV.out 0
             have YQ:=aj dV.out 1
             have YP:=aj dV.out 2
             have YO:=aj dV.out 3
             have Gi:0≤(jg:Int):=of_decide_eq_true (by first|(with_reducible assumption)|assumption)
             have F6:jg < (iL.length:Int):=of_decide_eq_true (by first|(with_reducible assumption)|assumption)
             obtain ⟨Wl,UB,rM,rJ,rH,rG,rF⟩:=sH Tm.out jg Gi F6
             cases UB
             replace rM:=(HB.out.cell (World.block_lt_of_cell? w _ rM)).trans rM
             replace rJ:=(HB.out.cell (World.block_lt_of_cell? w _ rJ)).trans rJ
             replace rH:=(HB.out.cell (World.block_lt_of_cell? w _ rH)).trans rH
             replace rG:=(HB.out.cell (World.block_lt_of_cell? w _ rG)).trans rG
             replace rF:=(HB.out.cell (World.block_lt_of_cell? w _ rF)).trans rF
             replace Gi:=eq_true Gi
             replace F6:=eq_true F6
             go_wp2
             repeat (go_quiet (fail);try go_wp2)
             go_roundg k3
             case measure=>have:=HJ2.out;have:=yA.out;have:=RH.out;omega
             case rel=>exact ⟨(wrap64 (jg+1)),(by first|rfl|(simp;done)|(simp [*];done)),H',⟨by have:=HJ2.out;have:=yA.out;have:=RH.out;omega⟩,⟨by (with_reducible repeat (first|refine ay ?_ _|refine aC ?_|refine az ?_ _));exact dn.out⟩,⟨by (with_reducible repeat (first|refine ay ?_ _|refine aC ?_|refine az ?_ _));exact dV.out⟩,⟨by repeat (first|(with_reducible first|exact HB.out|apply ai|apply ag|apply ah|refine aA ?_ mY.out|refine aA ?_ qA.out)|exact HB.out)⟩⟩
           ·
            rw [if_neg c36] at H
            exact absurd H (by simp)
          ·
           rw [if_neg Rh] at H
           exact absurd H (by simp)
         ·
          rw [if_neg c34] at H
          have SI:decide (jg < (bn.length:Int))=false:=decide_eq_false c34
          clear c34
          obtain rfl:=Option.some.inj H
          have aey:=jM.out
          have aeh:=jL.out
          have aaZ:wr.cell? ⟨fZ,0,none⟩=some (.slice fK bP.length fJ):=(au dn.out 0).trans rfl
          have aaY:wr.cell? ⟨fZ,1,none⟩=some (.string bU):=(au dn.out 1).trans rfl
          have aaX:wr.cell? ⟨fZ,2,none⟩=some (.string bQ):=(au dn.out 2).trans rfl
          have aaW:wr.cell? ⟨fZ,3,none⟩=some (.slice gy bn.length fH):=(au dn.out 3).trans rfl
          have YN:=aj dn.out 0
          have YM:=aj dn.out 1
          have YL:=aj dn.out 2
          have YK:=aj dn.out 3
          go_wp2
          repeat (go_quiet (fail);try go_wp2)
          go_ret
          exact ⟨by first|rfl|(simp [bF,bD] <;> rfl)|(simp [*,bF,bD] <;> rfl),by repeat (first|(with_reducible first|exact HB.out|apply ai|apply ag|apply ah|refine aA ?_ mY.out|refine aA ?_ qA.out)|exact HB.out)⟩
end Go.Proofs.YtkclndkbccbhaaaGreatDoor.P
end
