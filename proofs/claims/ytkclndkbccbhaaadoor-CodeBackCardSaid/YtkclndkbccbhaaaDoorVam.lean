/- Parts of the proof of CodeBack: what the functions that it reaches compute, and plain facts about that. -/
import Derived.Test.YtkclndkbccbhaaaDoorVak
import Derived.Test.YtkclndkbccbhaaaDoorVal
import Derived.Test.YtkclndkbccbhaaaDoorVac
import Derived.Test.YtkclndkbccbhaaaDoorVag
import Derived.Test.YtkclndkbccbhaaaDoorVah
set_option linter.unusedVariables false
set_option linter.unusedSimpArgs false
section
namespace Go.Proofs.YtkclndkbccbhaaaDoor.P
open Go Go.RowKit Go.Proofs.ay.bY Go.Proofs.ay.fJ Go.Proofs.ay.gG
theorem O5:Ev (fun k=>dO.f k) true:=by
  have h:dO.f 300=some true:=by kernel_rfl
  exact Ev.of dO.mono h
def sumW:Int→List ByteArray→Int
  | a,[]=>a
  | a,s :: r=>sumW (wrap64 (a+wrap64 ((s.size:Int)+1))) r
def H7 (ts:List ByteArray) (lo gl:ByteArray) (cs:List iZ):Bool:=decide (sumW (wrap64 ((lo.size:Int)+(gl.size:Int))) ts≤500) && decide (cs.length≤210)
theorem Oy (ts:List ByteArray) (lo gl:ByteArray) (cs:List iZ) (ht:ts.length≤140737488355328):∀ (d i:Nat) (a:Int),i+d=ts.length →
    Ev (fun k=>bu.l0 k a ts ((ts.length:Nat):Int) (i:Int) ts lo gl cs) (decide (sumW a (ts.drop i)≤500) && decide (cs.length≤210))
  | 0,i,a,hi=>by
    refine Ev.step (f:=fun _=>some _) (fun k=>?_) (Ev.now _)
    simp only [bu.l0]
    rw [if_neg (by omega),List.drop_eq_nil_of_le (by omega)]
    unfold sumW
    by_cases h:a≤500
    · rw [if_pos h,decide_eq_true h,Bool.true_and]
      congr 2
      exact propext (by omega)
    · rw [if_neg h,decide_eq_false h,Bool.false_and]
  | d+1,i,a,hi=>by
    have hlt:i < ts.length:=by omega
    have ih:=Oy ts lo gl cs ht d (i+1) (wrap64 (a+wrap64 (((ts[i]).size:Int)+1))) (by omega)
    rw [List.drop_eq_getElem_cons hlt]
    unfold sumW
    refine Ev.step (fun k=>?_) ih
    conv=>lhs;simp only [bu.l0]
    rw [if_pos (by omega),if_pos (by omega),if_pos (by omega),sU ts i hlt,lK i (by omega)]
theorem Oz (ts:List ByteArray) (lo gl:ByteArray) (cs:List iZ) (ht:ts.length≤140737488355328):Ev (fun k=>bu.f k ts lo gl cs) (H7 ts lo gl cs):=by
  have h:=Oy ts lo gl cs ht ts.length 0 (wrap64 ((lo.size:Int)+(gl.size:Int))) (Nat.zero_add _)
  rw [List.drop_zero] at h
  exact h
theorem IC:∀ (ts:List ByteArray) (a:Nat),(∀ s ∈ ts,s.size≤30)→a+31 * ts.length≤9000000000000000000→sumW (a:Int) ts=((a+sizes ts:Nat):Int)
  | [],a,_,_=>by simp [sumW,sizes]
  | s :: r,a,h,hl=>by
    have hs:=h s (List.mem_cons_self ..)
    rw [List.length_cons] at hl
    unfold sumW
    rw [show wrap64 ((s.size:Int)+1)=((s.size+1:Nat):Int) from by unfold wrap64;omega,show wrap64 ((a:Int)+((s.size+1:Nat):Int))=((a+(s.size+1):Nat):Int) from by unfold wrap64;omega,
      IC r (a+(s.size+1)) (fun x hx=>h x (List.mem_cons_of_mem _ hx)) (by omega),zi,Nat.add_assoc]
theorem uF {ts:List ByteArray} {lo gl:ByteArray} {cs:List iZ} (ht:ts.length≤140737488355328) (hk:Wv ts lo gl cs) {cs':List iZ} (h:H7 ts lo gl cs'=true):sizes ts≤500:=by
  have a:=oH hk.WX
  have b:=oH hk.YH
  rw [← size_data] at a b
  unfold H7 at h
  rw [show wrap64 ((lo.size:Int)+(gl.size:Int))=((lo.size+gl.size:Nat):Int) from by unfold wrap64;omega,IC ts _ (fun s hs=>by rw [size_data];exact oH (wz (hk.typ s hs)).1) (by omega)] at h
  simp only [Bool.and_eq_true,decide_eq_true_eq] at h
  omega
theorem printed {ts:List ByteArray} {lo gl:ByteArray} {cs:List iZ} (ht:ts.length≤140737488355328) (hc:cs.length≤140737488355328) (hw:Wf cs) (hs:wC ts lo gl cs=true→sizes ts≤500) :
    Ev (fun k=>aY.f k ts lo gl cs) (if wC ts lo gl cs=true then (vY ts lo gl cs,0) else (⟨#[]⟩,2)) :=
  MF ts lo gl cs ht hc hw fun h=>by
    have hk:=sV.1 h
    refine ⟨?_,QG hk hw (hs h)⟩
    have:=xm ts hk.typ
    have:=hs h
    omega
end Go.Proofs.YtkclndkbccbhaaaDoor.P
end
section
namespace Go.Proofs.YtkclndkbccbhaaaDoor.P
open Go.RowKit Go.Proofs.ay.bY Go.Proofs.ay.fJ Go.Proofs.ay.gG
attribute [local go_sem] nS nP pR pO mi mg nR nO
attribute [local go_sem high] OD
mutual
def aA.j0:Nat→Bool→List ByteArray→ByteArray→ByteArray→List (iZ)→List ByteArray→ByteArray→ByteArray→List (iZ)→Option (Bool)
  | 0,_,_,_,_,_,_,_,_,_=>none
  | k+1,x36,pF,uj,ui,lT,pz,uh,ug,lS=>if x36=true then (some false) else (aA.l0 k 0 pF uj ui lT pz uh ug lS)
def aA.l0:Nat→Int→List ByteArray→ByteArray→ByteArray→List (iZ)→List ByteArray→ByteArray→ByteArray→List (iZ)→Option (Bool)
  | 0,_,_,_,_,_,_,_,_,_=>none
  | k+1,x5,pF,uj,ui,lT,pz,uh,ug,lS=>if x5 < (pF.length:Int) then (if 0≤x5 then (if x5 < (pz.length:Int) then (if (iD ByteArray.empty pF x5).toList=(iD ByteArray.empty pz x5).toList then (aA.l0 k (wrap64 (x5+1)) pF uj ui lT pz uh ug lS) else (some false)) else (none)) else (none)) else (aA.l1 k 0 pF uj ui lT pz uh ug lS)
def aA.l1:Nat→Int→List ByteArray→ByteArray→ByteArray→List (iZ)→List ByteArray→ByteArray→ByteArray→List (iZ)→Option (Bool)
  | 0,_,_,_,_,_,_,_,_,_=>none
  | k+1,x6,pF,uj,ui,lT,pz,uh,ug,lS=>if x6 < (lT.length:Int) then (if 0≤x6 then (if x6 < (lS.length:Int) then (if (!(((aN lT x6).f0) == ((aN lS x6).f0)) || (!(((aN lT x6).f1) == ((aN lS x6).f1)) || (!(((aN lT x6).f2) == ((aN lS x6).f2)) || (!(((aN lT x6).f3) == ((aN lS x6).f3)) || (!(((aN lT x6).f4) == ((aN lS x6).f4)))))))=true then (some false) else (aA.l1 k (wrap64 (x6+1)) pF uj ui lT pz uh ug lS)) else (none)) else (none)) else (some true)
end
def aA.f (k:Nat) (bn:List ByteArray) (bF:ByteArray) (bD:ByteArray) (aU:List (iZ)) (eF:List ByteArray) (eQ:ByteArray) (eY:ByteArray) (dU:List (iZ)):Option (Bool):=if (bn.length:Int)=(eF.length:Int) then (if (aU.length:Int)=(dU.length:Int) then (if bF.toList=eQ.toList then (aA.j0 k (bD.toList != eY.toList) bn bF bD aU eF eQ eY dU) else (aA.j0 k true bn bF bD aU eF eQ eY dU)) else (aA.j0 k true bn bF bD aU eF eQ eY dU)) else (aA.j0 k true bn bF bD aU eF eQ eY dU)
theorem aA.kZ:∀ k,(∀ y0 y1 y2 y3 y4 y5 y6 y7 y8,gQ (aA.j0 k y0 y1 y2 y3 y4 y5 y6 y7 y8) (aA.j0 (k+1) y0 y1 y2 y3 y4 y5 y6 y7 y8))∧(∀ y0 y1 y2 y3 y4 y5 y6 y7 y8,gQ (aA.l0 k y0 y1 y2 y3 y4 y5 y6 y7 y8) (aA.l0 (k+1) y0 y1 y2 y3 y4 y5 y6 y7 y8))∧(∀ y0 y1 y2 y3 y4 y5 y6 y7 y8,gQ (aA.l1 k y0 y1 y2 y3 y4 y5 y6 y7 y8) (aA.l1 (k+1) y0 y1 y2 y3 y4 y5 y6 y7 y8))
  | 0=>⟨fun _ _ _ _ _ _ _ _ _ r h=>by simp [aA.j0] at h,fun _ _ _ _ _ _ _ _ _ r h=>by simp [aA.l0] at h,fun _ _ _ _ _ _ _ _ _ r h=>by simp [aA.l1] at h⟩
  | k+1=>by
    obtain ⟨o8,ih1,ih2⟩:=aA.kZ k
    refine ⟨?_,?_,?_⟩
    · intro y0 y1 y2 y3 y4 y5 y6 y7 y8
      unfold aA.j0
      repeat' first
      | (with_reducible exact o8 _ _ _ _ _ _ _ _ _)
      | (with_reducible exact ih1 _ _ _ _ _ _ _ _ _)
      | (with_reducible exact ih2 _ _ _ _ _ _ _ _ _)
      | (with_reducible exact gQ.refl _)
      | (with_reducible exact gQ.none _)
      | (with_reducible refine gQ.ite ?_ ?_)
      | (with_reducible refine gQ.bind ?_ (fun _=>?_))
      | exact o8 _ _ _ _ _ _ _ _ _
      | exact ih1 _ _ _ _ _ _ _ _ _
      | exact ih2 _ _ _ _ _ _ _ _ _
      | exact gQ.none _
      | refine gQ.ite ?_ ?_
      | refine gQ.bind ?_ (fun _=>?_)
    · intro y0 y1 y2 y3 y4 y5 y6 y7 y8
      unfold aA.l0
      repeat' first
      | (with_reducible exact o8 _ _ _ _ _ _ _ _ _)
      | (with_reducible exact ih1 _ _ _ _ _ _ _ _ _)
      | (with_reducible exact ih2 _ _ _ _ _ _ _ _ _)
      | (with_reducible exact gQ.refl _)
      | (with_reducible exact gQ.none _)
      | (with_reducible refine gQ.ite ?_ ?_)
      | (with_reducible refine gQ.bind ?_ (fun _=>?_))
      | exact o8 _ _ _ _ _ _ _ _ _
      | exact ih1 _ _ _ _ _ _ _ _ _
      | exact ih2 _ _ _ _ _ _ _ _ _
      | exact gQ.none _
      | refine gQ.ite ?_ ?_
      | refine gQ.bind ?_ (fun _=>?_)
    · intro y0 y1 y2 y3 y4 y5 y6 y7 y8
      unfold aA.l1
      repeat' first
      | (with_reducible exact o8 _ _ _ _ _ _ _ _ _)
      | (with_reducible exact ih1 _ _ _ _ _ _ _ _ _)
      | (with_reducible exact ih2 _ _ _ _ _ _ _ _ _)
      | (with_reducible exact gQ.refl _)
      | (with_reducible exact gQ.none _)
      | (with_reducible refine gQ.ite ?_ ?_)
      | (with_reducible refine gQ.bind ?_ (fun _=>?_))
      | exact o8 _ _ _ _ _ _ _ _ _
      | exact ih1 _ _ _ _ _ _ _ _ _
      | exact ih2 _ _ _ _ _ _ _ _ _
      | exact gQ.none _
      | refine gQ.ite ?_ ?_
      | refine gQ.bind ?_ (fun _=>?_)
theorem aA.mono:∀ a0 a1 a2 a3 a4 a5 a6 a7 k,gQ (aA.f k a0 a1 a2 a3 a4 a5 a6 a7) (aA.f (k+1) a0 a1 a2 a3 a4 a5 a6 a7):=by
  intro a0 a1 a2 a3 a4 a5 a6 a7 k
  obtain ⟨o8,ih1,ih2⟩:=aA.kZ k
  unfold aA.f
  repeat' first
      | (with_reducible exact o8 _ _ _ _ _ _ _ _ _)
      | (with_reducible exact ih1 _ _ _ _ _ _ _ _ _)
      | (with_reducible exact ih2 _ _ _ _ _ _ _ _ _)
      | (with_reducible exact gQ.refl _)
      | (with_reducible exact gQ.none _)
      | (with_reducible refine gQ.ite ?_ ?_)
      | (with_reducible refine gQ.bind ?_ (fun _=>?_))
      | exact o8 _ _ _ _ _ _ _ _ _
      | exact ih1 _ _ _ _ _ _ _ _ _
      | exact ih2 _ _ _ _ _ _ _ _ _
      | exact gQ.none _
      | refine gQ.ite ?_ ?_
      | refine gQ.bind ?_ (fun _=>?_)
set_option maxHeartbeats 8000000 in
set_option maxRecDepth 100000 in
theorem aA.calls (k:Nat) (dN:Option Addr) (dM:Nat) (bn:List ByteArray) (bF:ByteArray) (bD:ByteArray) (dV:Option Addr) (dL:Nat) (aU:List (iZ)) (iC:Option Addr) (iw:Nat) (eF:List ByteArray) (eQ:ByteArray) (eY:ByteArray) (iy:Option Addr) (iq:Nat) (dU:List (iZ)) (r:Bool) (w:World) (pX:Kd.C Kd.string w dN bn.length bn) (qc:bn.length≤dM) (pW:Kd.C sG w dV aU.length aU) (pY:aU.length≤dL) (FZ:Kd.C Kd.string w iC eF.length eF) (F6:eF.length≤iw) (FY:Kd.C sG w iy dU.length dU) (F5:dU.length≤iq) (h:aA.f k bn bF bD aU eF eQ eY dU=some r) :
    Calls Tryd.prog 10 #[.agg #[.slice dN bn.length dM,.string bF,.string bD,.slice dV aU.length dL],.agg #[.slice iC eF.length iw,.string eQ,.string eY,.slice iy dU.length iq]] w fun e w'=>e=.returned (.bool r)∧Below w.heap.size w w':=by
  have Nc:=Tryd.underlying25
  have Vy:=Tryd.underlying35
  have kF:=af.mk pX
  have ny:=af.mk qc
  clear pX qc
  have kU:=af.mk pW
  have ni:=af.mk pY
  clear pW pY
  have sF:=af.mk FZ
  have uZ:=af.mk F6
  clear FZ F6
  have sD:=af.mk FY
  have uY:=af.mk F5
  clear FY F5
  have HB:=af.mk (Below.refl w.heap.size w)
  have H:(if (bn.length:Int)=(eF.length:Int) then (if (aU.length:Int)=(dU.length:Int) then (if bF.toList=eQ.toList then (aA.j0 k (bD.toList != eY.toList) bn bF bD aU eF eQ eY dU) else (aA.j0 k true bn bF bD aU eF eQ eY dU)) else (aA.j0 k true bn bF bD aU eF eQ eY dU)) else (aA.j0 k true bn bF bD aU eF eQ eY dU))=some r:=h
  clear h
  have HC3:=af.mk H
  clear H
  go_enter Tryd.func10,Tryd.ntmps10
  go_upto_region 1 with (first|((with_reducible refine dX (N:=2) rfl ?_);(try (refine fF (by rfl) ?_;dsimp only));refine eG ?hg (N:=2) ?hd (cs:=#[.slice dN bn.length dM,.string bF,.string bD,.slice dV aU.length dL]) (t:=25) ?hr ?_;(case hd=>rfl);(case hg=>rfl);(case hr=>first|(go_simp;done)|(go_simp;rfl));intro gm hg w4 hbox hb;have dE:=af.mk (aI (by repeat (first|(with_reducible first|exact HB.out|apply ah|apply ae|apply ag)|exact HB.out)) hb);have dG:=af.mk (hbox);have dH:=af.mk ((by rw [hg];exact (aC (by repeat (first|(with_reducible first|exact HB.out|apply ah|apply ae|apply ag)|exact HB.out))):w.heap.size≤gm));have eX:=af.mk ((by rw [hg];exact (aC (by repeat (first|(with_reducible first|exact HB.out|apply ah|apply ae|apply ag)|exact HB.out))):w.heap.size≤gm));clear HB;have HB:=dE;have dW:=dG;have U7:=dH;have lq:=eX;clear dE dG dH eX;clear hb hbox hg)|((with_reducible refine dX (N:=3) rfl ?_);(try (refine fF (by rfl) ?_;dsimp only));refine eG ?hg (N:=3) ?hd (cs:=#[.slice iC eF.length iw,.string eQ,.string eY,.slice iy dU.length iq]) (t:=25) ?hr ?_;(case hd=>rfl);(case hg=>rfl);(case hr=>first|(go_simp;done)|(go_simp;rfl));intro iI hg w5 hbox hb;have dE:=af.mk (aQ (g:=gm) (o:=.cells #[.slice dN bn.length dM,.string bF,.string bD,.slice dV aU.length dL] 25 (0,0)) (by (with_reducible repeat (first|refine ak ?_ _|refine az ?_|refine au ?_ _));exact dW.out) hb);have dG:=af.mk (aI (by repeat (first|(with_reducible first|exact HB.out|apply ah|apply ae|apply ag|refine aj ?_ lq.out)|exact HB.out)) hb);have dH:=af.mk (hbox);have eX:=af.mk ((by rw [hg];exact (aC (by repeat (first|(with_reducible first|exact HB.out|apply ah|apply ae|apply ag|refine aj ?_ lq.out)|exact HB.out))):w.heap.size≤iI));have gB:=af.mk ((by rw [hg];exact (aC (by repeat (first|(with_reducible first|exact HB.out|apply ah|apply ae|apply ag|refine aj ?_ lq.out)|exact HB.out))):w.heap.size≤iI));have iH:=af.mk ((by rw [hg];exact Nat.ne_of_lt (fG (g:=gm) (o:=.cells #[.slice dN bn.length dM,.string bF,.string bD,.slice dV aU.length dL] 25 (0,0)) (by (with_reducible repeat (first|refine ak ?_ _|refine az ?_|refine au ?_ _));exact dW.out)):gm ≠ iI));have kL:=af.mk ((by rw [hg];exact Nat.ne_of_gt (fG (g:=gm) (o:=.cells #[.slice dN bn.length dM,.string bF,.string bD,.slice dV aU.length dL] 25 (0,0)) (by (with_reducible repeat (first|refine ak ?_ _|refine az ?_|refine au ?_ _));exact dW.out)):iI ≠ gm));clear dW;clear HB;have dW:=dE;have HB:=dG;have fM:=dH;have U6:=eX;have qj:=gB;have jM:=iH;have jL:=kL;clear dE dG dH eX gB iH kL;clear hb hbox hg))
  repeat (go_quiet (first|((with_reducible refine dX (N:=2) rfl ?_);(try (refine fF (by rfl) ?_;dsimp only));refine eG ?hg (N:=2) ?hd (cs:=#[.slice dN bn.length dM,.string bF,.string bD,.slice dV aU.length dL]) (t:=25) ?hr ?_;(case hd=>rfl);(case hg=>rfl);(case hr=>first|(go_simp;done)|(go_simp;rfl));intro gm hg w4 hbox hb;have dE:=af.mk (aI (by repeat (first|(with_reducible first|exact HB.out|apply ah|apply ae|apply ag)|exact HB.out)) hb);have dG:=af.mk (hbox);have dH:=af.mk ((by rw [hg];exact (aC (by repeat (first|(with_reducible first|exact HB.out|apply ah|apply ae|apply ag)|exact HB.out))):w.heap.size≤gm));have eX:=af.mk ((by rw [hg];exact (aC (by repeat (first|(with_reducible first|exact HB.out|apply ah|apply ae|apply ag)|exact HB.out))):w.heap.size≤gm));clear HB;have HB:=dE;have dW:=dG;have U7:=dH;have lq:=eX;clear dE dG dH eX;clear hb hbox hg)|((with_reducible refine dX (N:=3) rfl ?_);(try (refine fF (by rfl) ?_;dsimp only));refine eG ?hg (N:=3) ?hd (cs:=#[.slice iC eF.length iw,.string eQ,.string eY,.slice iy dU.length iq]) (t:=25) ?hr ?_;(case hd=>rfl);(case hg=>rfl);(case hr=>first|(go_simp;done)|(go_simp;rfl));intro iI hg w5 hbox hb;have dE:=af.mk (aQ (g:=gm) (o:=.cells #[.slice dN bn.length dM,.string bF,.string bD,.slice dV aU.length dL] 25 (0,0)) (by (with_reducible repeat (first|refine ak ?_ _|refine az ?_|refine au ?_ _));exact dW.out) hb);have dG:=af.mk (aI (by repeat (first|(with_reducible first|exact HB.out|apply ah|apply ae|apply ag|refine aj ?_ lq.out)|exact HB.out)) hb);have dH:=af.mk (hbox);have eX:=af.mk ((by rw [hg];exact (aC (by repeat (first|(with_reducible first|exact HB.out|apply ah|apply ae|apply ag|refine aj ?_ lq.out)|exact HB.out))):w.heap.size≤iI));have gB:=af.mk ((by rw [hg];exact (aC (by repeat (first|(with_reducible first|exact HB.out|apply ah|apply ae|apply ag|refine aj ?_ lq.out)|exact HB.out))):w.heap.size≤iI));have iH:=af.mk ((by rw [hg];exact Nat.ne_of_lt (fG (g:=gm) (o:=.cells #[.slice dN bn.length dM,.string bF,.string bD,.slice dV aU.length dL] 25 (0,0)) (by (with_reducible repeat (first|refine ak ?_ _|refine az ?_|refine au ?_ _));exact dW.out)):gm ≠ iI));have kL:=af.mk ((by rw [hg];exact Nat.ne_of_gt (fG (g:=gm) (o:=.cells #[.slice dN bn.length dM,.string bF,.string bD,.slice dV aU.length dL] 25 (0,0)) (by (with_reducible repeat (first|refine ak ?_ _|refine az ?_|refine au ?_ _));exact dW.out)):iI ≠ gm));clear dW;clear HB;have dW:=dE;have HB:=dG;have fM:=dH;have U6:=eX;have qj:=gB;have jM:=iH;have jL:=kL;clear dE dG dH eX gB iH kL;clear hb hbox hg));go_upto_region 1 with (first|((with_reducible refine dX (N:=2) rfl ?_);(try (refine fF (by rfl) ?_;dsimp only));refine eG ?hg (N:=2) ?hd (cs:=#[.slice dN bn.length dM,.string bF,.string bD,.slice dV aU.length dL]) (t:=25) ?hr ?_;(case hd=>rfl);(case hg=>rfl);(case hr=>first|(go_simp;done)|(go_simp;rfl));intro gm hg w4 hbox hb;have dE:=af.mk (aI (by repeat (first|(with_reducible first|exact HB.out|apply ah|apply ae|apply ag)|exact HB.out)) hb);have dG:=af.mk (hbox);have dH:=af.mk ((by rw [hg];exact (aC (by repeat (first|(with_reducible first|exact HB.out|apply ah|apply ae|apply ag)|exact HB.out))):w.heap.size≤gm));have eX:=af.mk ((by rw [hg];exact (aC (by repeat (first|(with_reducible first|exact HB.out|apply ah|apply ae|apply ag)|exact HB.out))):w.heap.size≤gm));clear HB;have HB:=dE;have dW:=dG;have U7:=dH;have lq:=eX;clear dE dG dH eX;clear hb hbox hg)|((with_reducible refine dX (N:=3) rfl ?_);(try (refine fF (by rfl) ?_;dsimp only));refine eG ?hg (N:=3) ?hd (cs:=#[.slice iC eF.length iw,.string eQ,.string eY,.slice iy dU.length iq]) (t:=25) ?hr ?_;(case hd=>rfl);(case hg=>rfl);(case hr=>first|(go_simp;done)|(go_simp;rfl));intro iI hg w5 hbox hb;have dE:=af.mk (aQ (g:=gm) (o:=.cells #[.slice dN bn.length dM,.string bF,.string bD,.slice dV aU.length dL] 25 (0,0)) (by (with_reducible repeat (first|refine ak ?_ _|refine az ?_|refine au ?_ _));exact dW.out) hb);have dG:=af.mk (aI (by repeat (first|(with_reducible first|exact HB.out|apply ah|apply ae|apply ag|refine aj ?_ lq.out)|exact HB.out)) hb);have dH:=af.mk (hbox);have eX:=af.mk ((by rw [hg];exact (aC (by repeat (first|(with_reducible first|exact HB.out|apply ah|apply ae|apply ag|refine aj ?_ lq.out)|exact HB.out))):w.heap.size≤iI));have gB:=af.mk ((by rw [hg];exact (aC (by repeat (first|(with_reducible first|exact HB.out|apply ah|apply ae|apply ag|refine aj ?_ lq.out)|exact HB.out))):w.heap.size≤iI));have iH:=af.mk ((by rw [hg];exact Nat.ne_of_lt (fG (g:=gm) (o:=.cells #[.slice dN bn.length dM,.string bF,.string bD,.slice dV aU.length dL] 25 (0,0)) (by (with_reducible repeat (first|refine ak ?_ _|refine az ?_|refine au ?_ _));exact dW.out)):gm ≠ iI));have kL:=af.mk ((by rw [hg];exact Nat.ne_of_gt (fG (g:=gm) (o:=.cells #[.slice dN bn.length dM,.string bF,.string bD,.slice dV aU.length dL] 25 (0,0)) (by (with_reducible repeat (first|refine ak ?_ _|refine az ?_|refine au ?_ _));exact dW.out)):iI ≠ gm));clear dW;clear HB;have dW:=dE;have HB:=dG;have fM:=dH;have U6:=eX;have qj:=gB;have jM:=iH;have jL:=kL;clear dE dG dH eX gB iH kL;clear hb hbox hg)))
  (try simp only [Act.put,List.setIfInBounds_toArray,List.set_cons_zero,List.set_cons_succ])
  go_cut [36] (fun v36 wc=>∃ (kq:Nat) (Ij:Bool),v36=.bool Ij∧af (aA.j0 kq Ij bn bF bD aU eF eQ eY dU=some r)∧af (kq≤k)∧af (wc.heap[gm]? = some (.cells #[(.slice dN bn.length dM),.string bF,.string bD,(.slice dV aU.length dL)] 25 (0,0)))∧af (wc.heap[iI]? = some (.cells #[(.slice iC eF.length iw),.string eQ,.string eY,(.slice iy dU.length iq)] 25 (0,0)))∧af (Below w.heap.size w wc))
  case first =>
    have H:=HC3.out
    clear HC3
    by_cases c6:(bn.length:Int)=(eF.length:Int)
    · rw [if_pos c6] at H
      have sJ:((bn.length:Int) == (eF.length:Int))=true:=beq_iff_eq.mpr c6
      have Gp:((bn.length:Int) != (eF.length:Int))=false:=bne_eq_false_iff_eq.mpr c6
      have Uf:(bn.length == eF.length)=true:=by first|simpa using c6|(simp at c6 ⊢;omega)
      clear c6
      (first|rw [sJ]|(simp only [aX,aZ];rw [sJ])|skip)
      by_cases c7:(aU.length:Int)=(dU.length:Int)
      · rw [if_pos c7] at H
        have xE:((aU.length:Int) == (dU.length:Int))=true:=beq_iff_eq.mpr c7
        have Ey:((aU.length:Int) != (dU.length:Int))=false:=bne_eq_false_iff_eq.mpr c7
        have Ue:(aU.length == dU.length)=true:=by first|simpa using c7|(simp at c7 ⊢;omega)
        clear c7
        by_cases c8:bF.toList=eQ.toList
        · rw [if_pos c8] at H
          have zS:(bF.toList == eQ.toList)=true:=beq_iff_eq.mpr c8
          have Le:(bF.toList != eQ.toList)=false:=bne_eq_false_iff_eq.mpr c8
          clear c8
          have H':=af.mk H
          clear H
          have aiE:=jM.out
          have aiD:=jL.out
          have Em:w5.cell? ⟨gm,0,none⟩=some (.slice dN bn.length dM):=(ax dW.out 0).trans rfl
          have Ej:w5.cell? ⟨gm,1,none⟩=some (.string bF):=(ax dW.out 1).trans rfl
          have Ei:w5.cell? ⟨gm,2,none⟩=some (.string bD):=(ax dW.out 2).trans rfl
          have Eh:w5.cell? ⟨gm,3,none⟩=some (.slice dV aU.length dL):=(ax dW.out 3).trans rfl
          have DI:=ai dW.out 0
          have DF:=ai dW.out 1
          have DD:=ai dW.out 2
          have DC:=ai dW.out 3
          have Eg:w5.cell? ⟨iI,0,none⟩=some (.slice iC eF.length iw):=(ax fM.out 0).trans rfl
          have Ef:w5.cell? ⟨iI,1,none⟩=some (.string eQ):=(ax fM.out 1).trans rfl
          have Ee:w5.cell? ⟨iI,2,none⟩=some (.string eY):=(ax fM.out 2).trans rfl
          have Ed:w5.cell? ⟨iI,3,none⟩=some (.slice iy dU.length iq):=(ax fM.out 3).trans rfl
          have Dz:=ai fM.out 0
          have Dy:=ai fM.out 1
          have Dx:=ai fM.out 2
          have Dw:=ai fM.out 3
          go_wp2
          repeat (go_quiet (fail);try go_wp2)
          go_meet
          case rel=>exact ⟨_,((bD.toList != eY.toList)),(by first|rfl|(simp;done)|(simp [*];done)),H',⟨by first|omega|exact Nat.le_refl _⟩,⟨by (with_reducible repeat (first|refine ak ?_ _|refine az ?_|refine au ?_ _));exact dW.out⟩,⟨by (with_reducible repeat (first|refine ak ?_ _|refine az ?_|refine au ?_ _));exact fM.out⟩,⟨by repeat (first|(with_reducible first|exact HB.out|apply ah|apply ae|apply ag|refine aj ?_ lq.out|refine aj ?_ qj.out)|exact HB.out)⟩⟩
        · rw [if_neg c8] at H
          have zS:(bF.toList == eQ.toList)=false:=beq_eq_false_iff_ne.mpr c8
          have Le:(bF.toList != eQ.toList)=true:=bne_iff_ne.mpr c8
          have H':=af.mk H
          clear H
          have Xe:=jM.out
          have Xb:=jL.out
          have wO:w5.cell? ⟨gm,0,none⟩=some (.slice dN bn.length dM):=(ax dW.out 0).trans rfl
          have wM:w5.cell? ⟨gm,1,none⟩=some (.string bF):=(ax dW.out 1).trans rfl
          have wL:w5.cell? ⟨gm,2,none⟩=some (.string bD):=(ax dW.out 2).trans rfl
          have wK:w5.cell? ⟨gm,3,none⟩=some (.slice dV aU.length dL):=(ax dW.out 3).trans rfl
          have wJ:=ai dW.out 0
          have wI:=ai dW.out 1
          have wH:=ai dW.out 2
          have wG:=ai dW.out 3
          have Ec:w5.cell? ⟨iI,0,none⟩=some (.slice iC eF.length iw):=(ax fM.out 0).trans rfl
          have Eb:w5.cell? ⟨iI,1,none⟩=some (.string eQ):=(ax fM.out 1).trans rfl
          have Ea:w5.cell? ⟨iI,2,none⟩=some (.string eY):=(ax fM.out 2).trans rfl
          have D9:w5.cell? ⟨iI,3,none⟩=some (.slice iy dU.length iq):=(ax fM.out 3).trans rfl
          have Dv:=ai fM.out 0
          have Du:=ai fM.out 1
          have Dt:=ai fM.out 2
          have Dq:=ai fM.out 3
          go_wp2
          repeat (go_quiet (fail);try go_wp2)
          go_meet
          case rel=>exact ⟨_,(true),(by first|rfl|(simp;done)|(simp [*];done)),H',⟨by first|omega|exact Nat.le_refl _⟩,⟨by (with_reducible repeat (first|refine ak ?_ _|refine az ?_|refine au ?_ _));exact dW.out⟩,⟨by (with_reducible repeat (first|refine ak ?_ _|refine az ?_|refine au ?_ _));exact fM.out⟩,⟨by repeat (first|(with_reducible first|exact HB.out|apply ah|apply ae|apply ag|refine aj ?_ lq.out|refine aj ?_ qj.out)|exact HB.out)⟩⟩
      · rw [if_neg c7] at H
        have xE:((aU.length:Int) == (dU.length:Int))=false:=beq_eq_false_iff_ne.mpr c7
        have Ey:((aU.length:Int) != (dU.length:Int))=true:=bne_iff_ne.mpr c7
        have Ue:(aU.length == dU.length)=false:=by first|simpa using c7|(simp at c7 ⊢;omega)
        have H':=af.mk H
        clear H
        have ahu:=jM.out
        have ag1:=jL.out
        have D8:w5.cell? ⟨gm,0,none⟩=some (.slice dN bn.length dM):=(ax dW.out 0).trans rfl
        have D7:w5.cell? ⟨gm,1,none⟩=some (.string bF):=(ax dW.out 1).trans rfl
        have D6:w5.cell? ⟨gm,2,none⟩=some (.string bD):=(ax dW.out 2).trans rfl
        have D5:w5.cell? ⟨gm,3,none⟩=some (.slice dV aU.length dL):=(ax dW.out 3).trans rfl
        have Dp:=ai dW.out 0
        have Dn:=ai dW.out 1
        have Dl:=ai dW.out 2
        have Dk:=ai dW.out 3
        have DZ:w5.cell? ⟨iI,0,none⟩=some (.slice iC eF.length iw):=(ax fM.out 0).trans rfl
        have DY:w5.cell? ⟨iI,1,none⟩=some (.string eQ):=(ax fM.out 1).trans rfl
        have DX:w5.cell? ⟨iI,2,none⟩=some (.string eY):=(ax fM.out 2).trans rfl
        have DW:w5.cell? ⟨iI,3,none⟩=some (.slice iy dU.length iq):=(ax fM.out 3).trans rfl
        have Dj:=ai fM.out 0
        have Di:=ai fM.out 1
        have Dh:=ai fM.out 2
        have Df:=ai fM.out 3
        go_wp2
        repeat (go_quiet (fail);try go_wp2)
        go_meet
        case rel=>exact ⟨_,(true),(by first|rfl|(simp;done)|(simp [*];done)),H',⟨by first|omega|exact Nat.le_refl _⟩,⟨by (with_reducible repeat (first|refine ak ?_ _|refine az ?_|refine au ?_ _));exact dW.out⟩,⟨by (with_reducible repeat (first|refine ak ?_ _|refine az ?_|refine au ?_ _));exact fM.out⟩,⟨by repeat (first|(with_reducible first|exact HB.out|apply ah|apply ae|apply ag|refine aj ?_ lq.out|refine aj ?_ qj.out)|exact HB.out)⟩⟩
    · rw [if_neg c6] at H
      have sJ:((bn.length:Int) == (eF.length:Int))=false:=beq_eq_false_iff_ne.mpr c6
      have Gp:((bn.length:Int) != (eF.length:Int))=true:=bne_iff_ne.mpr c6
      have Uf:(bn.length == eF.length)=false:=by first|simpa using c6|(simp at c6 ⊢;omega)
      (first|rw [sJ]|(simp only [aX,aZ];rw [sJ])|skip)
      have H':=af.mk H
      clear H
      have ahs:=jM.out
      have agZ:=jL.out
      have yO:w5.cell? ⟨gm,0,none⟩=some (.slice dN bn.length dM):=(ax dW.out 0).trans rfl
      have yN:w5.cell? ⟨gm,1,none⟩=some (.string bF):=(ax dW.out 1).trans rfl
      have yM:w5.cell? ⟨gm,2,none⟩=some (.string bD):=(ax dW.out 2).trans rfl
      have yL:w5.cell? ⟨gm,3,none⟩=some (.slice dV aU.length dL):=(ax dW.out 3).trans rfl
      have yG:=ai dW.out 0
      have yF:=ai dW.out 1
      have yE:=ai dW.out 2
      have yD:=ai dW.out 3
      have yK:w5.cell? ⟨iI,0,none⟩=some (.slice iC eF.length iw):=(ax fM.out 0).trans rfl
      have yJ:w5.cell? ⟨iI,1,none⟩=some (.string eQ):=(ax fM.out 1).trans rfl
      have yI:w5.cell? ⟨iI,2,none⟩=some (.string eY):=(ax fM.out 2).trans rfl
      have yH:w5.cell? ⟨iI,3,none⟩=some (.slice iy dU.length iq):=(ax fM.out 3).trans rfl
      have yC:=ai fM.out 0
      have yB:=ai fM.out 1
      have yA:=ai fM.out 2
      have yz:=ai fM.out 3
      go_wp2
      repeat (go_quiet (fail);try go_wp2)
      go_meet
      case rel=>exact ⟨_,(true),(by first|rfl|(simp;done)|(simp [*];done)),H',⟨by first|omega|exact Nat.le_refl _⟩,⟨by (with_reducible repeat (first|refine ak ?_ _|refine az ?_|refine au ?_ _));exact dW.out⟩,⟨by (with_reducible repeat (first|refine ak ?_ _|refine az ?_|refine au ?_ _));exact fM.out⟩,⟨by repeat (first|(with_reducible first|exact HB.out|apply ah|apply ae|apply ag|refine aj ?_ lq.out|refine aj ?_ qj.out)|exact HB.out)⟩⟩
  case rest =>
    clear HC3
    try clear c1
    try clear p2
    try clear c6
    try clear sJ
    try clear Gp
    try clear Uf
    try clear c7
    try clear xE
    try clear Ey
    try clear Ue
    try clear c8
    try clear zS
    try clear Le
    try clear c9
    try clear c10
    try clear c12
    try clear c15
    try clear c18
    try clear Em
    try clear Ej
    try clear Ei
    try clear Eh
    try clear Eg
    try clear Ef
    try clear Ee
    try clear Ed
    try clear wO
    try clear wM
    try clear wL
    try clear wK
    try clear Ec
    try clear Eb
    try clear Ea
    try clear D9
    try clear D8
    try clear D7
    try clear D6
    try clear D5
    try clear DZ
    try clear DY
    try clear DX
    try clear DW
    try clear yO
    try clear yN
    try clear yM
    try clear yL
    try clear yK
    try clear yJ
    try clear yI
    try clear yH
    try clear DI
    try clear DF
    try clear DD
    try clear DC
    try clear Dz
    try clear Dy
    try clear Dx
    try clear Dw
    try clear wJ
    try clear wI
    try clear wH
    try clear wG
    try clear Dv
    try clear Du
    try clear Dt
    try clear Dq
    try clear Dp
    try clear Dn
    try clear Dl
    try clear Dk
    try clear Dj
    try clear Di
    try clear Dh
    try clear Df
    try clear yG
    try clear yF
    try clear yE
    try clear yD
    try clear yC
    try clear yB
    try clear yA
    try clear yz
    obtain ⟨kq,Ij,rfl,HA,HJ2,dW,fM,HB⟩:=hcut
    cases kq with
    | zero=>exact absurd HA.out (by simp [aA.j0])
    | succ kj2 =>
      have H:=HA.out
      clear HA
      simp only [aA.j0] at H
      by_cases c21:Ij=true
      · subst c21
        have H1:(some false)=some r:=by rw [if_pos rfl] at H;exact H
        clear H
        have H:=H1
        clear H1
        obtain rfl:=Option.some.inj H
        go_wp2
        repeat (go_quiet (fail);try go_wp2)
        go_ret
        exact ⟨by first|rfl|(simp [bT,bQ] <;> rfl)|(simp [*,bT,bQ] <;> rfl),by repeat (first|(with_reducible first|exact HB.out|apply ah|apply ae|apply ag|refine aj ?_ lq.out|refine aj ?_ qj.out)|exact HB.out)⟩
      · replace c21:=Bool.eq_false_iff.mpr c21
        subst c21
        have H1:(aA.l0 kj2 0 bn bF bD aU eF eQ eY dU)=some r:=by rw [if_neg (show ¬ (false=true) by decide)] at H;exact H
        clear H
        have H:=H1
        clear H1
        have H':=af.mk H
        clear H
        go_wp2
        repeat (go_quiet (fail);try go_wp2)
        go_loopg [5] kj2 (fun kq v5 w'=>∃ (lH:Int),v5=.int .i64 lH∧af (aA.l0 kq lH bn bF bD aU eF eQ eY dU=some r)∧af (kq≤kj2)∧af (w'.heap[gm]? = some (.cells #[(.slice dN bn.length dM),.string bF,.string bD,(.slice dV aU.length dL)] 25 (0,0)))∧af (w'.heap[iI]? = some (.cells #[(.slice iC eF.length iw),.string eQ,.string eY,(.slice iy dU.length iq)] 25 (0,0)))∧af (Below w.heap.size w w'))
        case atStart=>exact ⟨(0),(by first|rfl|(simp;done)|(simp [*];done)),H',⟨Nat.le_refl _⟩,⟨by (with_reducible repeat (first|refine ak ?_ _|refine az ?_|refine au ?_ _));exact dW.out⟩,⟨by (with_reducible repeat (first|refine ak ?_ _|refine az ?_|refine au ?_ _));exact fM.out⟩,⟨by repeat (first|(with_reducible first|exact HB.out|apply ah|apply ae|apply ag|refine aj ?_ lq.out|refine aj ?_ qj.out)|exact HB.out)⟩⟩
        case round =>
          clear H'
          try clear c1
          try clear c2
          try clear p2
          try clear c6
          try clear sJ
          try clear Gp
          try clear Uf
          try clear c7
          try clear xE
          try clear Ey
          try clear Ue
          try clear c8
          try clear zS
          try clear Le
          try clear c9
          try clear c10
          try clear c12
          try clear c15
          try clear c18
          try clear c21
          try clear Em
          try clear Ej
          try clear Ei
          try clear Eh
          try clear Eg
          try clear Ef
          try clear Ee
          try clear Ed
          try clear wO
          try clear wM
          try clear wL
          try clear wK
          try clear Ec
          try clear Eb
          try clear Ea
          try clear D9
          try clear D8
          try clear D7
          try clear D6
          try clear D5
          try clear DZ
          try clear DY
          try clear DX
          try clear DW
          try clear yO
          try clear yN
          try clear yM
          try clear yL
          try clear yK
          try clear yJ
          try clear yI
          try clear yH
          try clear DI
          try clear DF
          try clear DD
          try clear DC
          try clear Dz
          try clear Dy
          try clear Dx
          try clear Dw
          try clear wJ
          try clear wI
          try clear wH
          try clear wG
          try clear Dv
          try clear Du
          try clear Dt
          try clear Dq
          try clear Dp
          try clear Dn
          try clear Dl
          try clear Dk
          try clear Dj
          try clear Di
          try clear Dh
          try clear Df
          try clear yG
          try clear yF
          try clear yE
          try clear yD
          try clear yC
          try clear yB
          try clear yA
          try clear yz
          try clear p2
          obtain ⟨lH,rfl,HA,EK,dW,fM,HB⟩:=hrel
          cases gk with
          | zero=>exact absurd HA.out (by simp [aA.l0])
          | succ k2 =>
            have H:=HA.out
            clear HA
            simp only [aA.l0] at H
            by_cases VS:lH < (bn.length:Int)
            · rw [if_pos VS] at H
              have UY:decide (lH < (bn.length:Int))=true:=decide_eq_true VS
              clear VS
              by_cases c23:0≤lH
              · rw [if_pos c23] at H
                have O0:decide (0≤lH)=true:=decide_eq_true c23
                clear c23
                by_cases c24:lH < (eF.length:Int)
                · rw [if_pos c24] at H
                  have OZ:decide (lH < (eF.length:Int))=true:=decide_eq_true c24
                  clear c24
                  by_cases c25:(iD ByteArray.empty bn lH).toList=(iD ByteArray.empty eF lH).toList
                  · rw [if_pos c25] at H
                    have JH:((iD ByteArray.empty bn lH).toList == (iD ByteArray.empty eF lH).toList)=true:=beq_iff_eq.mpr c25
                    have JG:((iD ByteArray.empty bn lH).toList != (iD ByteArray.empty eF lH).toList)=false:=bne_eq_false_iff_eq.mpr c25
                    clear c25
                    have H':=af.mk H
                    clear H
                    have aho:=jM.out
                    have agV:=jL.out
                    have Tt:wr.cell? ⟨gm,0,none⟩=some (.slice dN bn.length dM):=(ax dW.out 0).trans rfl
                    have Tq:wr.cell? ⟨gm,1,none⟩=some (.string bF):=(ax dW.out 1).trans rfl
                    have Tn:wr.cell? ⟨gm,2,none⟩=some (.string bD):=(ax dW.out 2).trans rfl
                    have Tm:wr.cell? ⟨gm,3,none⟩=some (.slice dV aU.length dL):=(ax dW.out 3).trans rfl
                    have Rx:=ai dW.out 0
                    have Rw:=ai dW.out 1
                    have Ru:=ai dW.out 2
                    have Rt:=ai dW.out 3
                    have Fv:0≤(lH:Int):=of_decide_eq_true (by first|(with_reducible assumption)|assumption)
                    have Ff:lH < (bn.length:Int):=of_decide_eq_true (by first|(with_reducible assumption)|assumption)
                    obtain ⟨Zw,e207,pV⟩:=Kd.ik kF.out lH Fv Ff
                    cases e207
                    replace pV:=(HB.out.cell (World.block_lt_of_cell? w _ pV)).trans pV
                    replace Fv:=eq_true Fv
                    replace Ff:=eq_true Ff
                    have JB:wr.cell? ⟨iI,0,none⟩=some (.slice iC eF.length iw):=(ax fM.out 0).trans rfl
                    have JA:wr.cell? ⟨iI,1,none⟩=some (.string eQ):=(ax fM.out 1).trans rfl
                    have Jz:wr.cell? ⟨iI,2,none⟩=some (.string eY):=(ax fM.out 2).trans rfl
                    have Jy:wr.cell? ⟨iI,3,none⟩=some (.slice iy dU.length iq):=(ax fM.out 3).trans rfl
                    have Jk:=ai fM.out 0
                    have Jj:=ai fM.out 1
                    have Ji:=ai fM.out 2
                    have Jh:=ai fM.out 3
                    have Fq:0≤(lH:Int):=of_decide_eq_true (by first|(with_reducible assumption)|assumption)
                    have Fe:lH < (eF.length:Int):=of_decide_eq_true (by first|(with_reducible assumption)|assumption)
                    obtain ⟨Zv,e208,pU⟩:=Kd.ik sF.out lH Fq Fe
                    cases e208
                    replace pU:=(HB.out.cell (World.block_lt_of_cell? w _ pU)).trans pU
                    replace Fq:=eq_true Fq
                    replace Fe:=eq_true Fe
                    go_wp2
                    repeat (go_quiet (fail);try go_wp2)
                    go_roundg k2
                    case measure=>have:=HJ2.out;have:=EK.out;omega
                    case rel=>exact ⟨(wrap64 (lH+1)),(by first|rfl|(simp;done)|(simp [*];done)),H',⟨by have:=HJ2.out;have:=EK.out;omega⟩,⟨by (with_reducible repeat (first|refine ak ?_ _|refine az ?_|refine au ?_ _));exact dW.out⟩,⟨by (with_reducible repeat (first|refine ak ?_ _|refine az ?_|refine au ?_ _));exact fM.out⟩,⟨by repeat (first|(with_reducible first|exact HB.out|apply ah|apply ae|apply ag|refine aj ?_ lq.out|refine aj ?_ qj.out)|exact HB.out)⟩⟩
                  · rw [if_neg c25] at H
                    have JH:((iD ByteArray.empty bn lH).toList == (iD ByteArray.empty eF lH).toList)=false:=beq_eq_false_iff_ne.mpr c25
                    have JG:((iD ByteArray.empty bn lH).toList != (iD ByteArray.empty eF lH).toList)=true:=bne_iff_ne.mpr c25
                    obtain rfl:=Option.some.inj H
                    have ahn:=jM.out
                    have agU:=jL.out
                    have Jw:wr.cell? ⟨gm,0,none⟩=some (.slice dN bn.length dM):=(ax dW.out 0).trans rfl
                    have Jv:wr.cell? ⟨gm,1,none⟩=some (.string bF):=(ax dW.out 1).trans rfl
                    have Ju:wr.cell? ⟨gm,2,none⟩=some (.string bD):=(ax dW.out 2).trans rfl
                    have Jt:wr.cell? ⟨gm,3,none⟩=some (.slice dV aU.length dL):=(ax dW.out 3).trans rfl
                    have Jg:=ai dW.out 0
                    have Jf:=ai dW.out 1
                    have Je:=ai dW.out 2
                    have Jd:=ai dW.out 3
                    have Fv:0≤(lH:Int):=of_decide_eq_true (by first|(with_reducible assumption)|assumption)
                    have Ff:lH < (bn.length:Int):=of_decide_eq_true (by first|(with_reducible assumption)|assumption)
                    obtain ⟨Zw,e207,pV⟩:=Kd.ik kF.out lH Fv Ff
                    cases e207
                    replace pV:=(HB.out.cell (World.block_lt_of_cell? w _ pV)).trans pV
                    replace Fv:=eq_true Fv
                    replace Ff:=eq_true Ff
                    have Tj:wr.cell? ⟨iI,0,none⟩=some (.slice iC eF.length iw):=(ax fM.out 0).trans rfl
                    have Ti:wr.cell? ⟨iI,1,none⟩=some (.string eQ):=(ax fM.out 1).trans rfl
                    have Tf:wr.cell? ⟨iI,2,none⟩=some (.string eY):=(ax fM.out 2).trans rfl
                    have Td:wr.cell? ⟨iI,3,none⟩=some (.slice iy dU.length iq):=(ax fM.out 3).trans rfl
                    have Rq:=ai fM.out 0
                    have Ro:=ai fM.out 1
                    have Rn:=ai fM.out 2
                    have Rl:=ai fM.out 3
                    have Fq:0≤(lH:Int):=of_decide_eq_true (by first|(with_reducible assumption)|assumption)
                    have Fe:lH < (eF.length:Int):=of_decide_eq_true (by first|(with_reducible assumption)|assumption)
                    obtain ⟨Zv,e208,pU⟩:=Kd.ik sF.out lH Fq Fe
                    cases e208
                    replace pU:=(HB.out.cell (World.block_lt_of_cell? w _ pU)).trans pU
                    replace Fq:=eq_true Fq
                    replace Fe:=eq_true Fe
                    go_wp2
                    repeat (go_quiet (fail);try go_wp2)
                    go_ret
                    exact ⟨by first|rfl|(simp [bT,bQ] <;> rfl)|(simp [*,bT,bQ] <;> rfl),by repeat (first|(with_reducible first|exact HB.out|apply ah|apply ae|apply ag|refine aj ?_ lq.out|refine aj ?_ qj.out)|exact HB.out)⟩
                · rw [if_neg c24] at H
                  exact absurd H (by simp)
              · rw [if_neg c23] at H
                exact absurd H (by simp)
            · rw [if_neg VS] at H
              have UY:decide (lH < (bn.length:Int))=false:=decide_eq_false VS
              clear VS
              have H':=af.mk H
              clear H
              have ahl:=jM.out
              have agS:=jL.out
              have Tc:wr.cell? ⟨gm,0,none⟩=some (.slice dN bn.length dM):=(ax dW.out 0).trans rfl
              have S9:wr.cell? ⟨gm,1,none⟩=some (.string bF):=(ax dW.out 1).trans rfl
              have SY:wr.cell? ⟨gm,2,none⟩=some (.string bD):=(ax dW.out 2).trans rfl
              have SX:wr.cell? ⟨gm,3,none⟩=some (.slice dV aU.length dL):=(ax dW.out 3).trans rfl
              have Rk:=ai dW.out 0
              have Rj:=ai dW.out 1
              have Ri:=ai dW.out 2
              have Rh:=ai dW.out 3
              go_wp2
              repeat (go_quiet (fail);try go_wp2)
              go_loopg [6] k2 (fun kq v6 w'=>∃ (jw:Int),v6=.int .i64 jw∧af (aA.l1 kq jw bn bF bD aU eF eQ eY dU=some r)∧af (kq≤k2)∧af (w'.heap[gm]? = some (.cells #[(.slice dN bn.length dM),.string bF,.string bD,(.slice dV aU.length dL)] 25 (0,0)))∧af (w'.heap[iI]? = some (.cells #[(.slice iC eF.length iw),.string eQ,.string eY,(.slice iy dU.length iq)] 25 (0,0)))∧af (Below w.heap.size w w'))
              case atStart=>exact ⟨(0),(by first|rfl|(simp;done)|(simp [*];done)),H',⟨Nat.le_refl _⟩,⟨by (with_reducible repeat (first|refine ak ?_ _|refine az ?_|refine au ?_ _));exact dW.out⟩,⟨by (with_reducible repeat (first|refine ak ?_ _|refine az ?_|refine au ?_ _));exact fM.out⟩,⟨by repeat (first|(with_reducible first|exact HB.out|apply ah|apply ae|apply ag|refine aj ?_ lq.out|refine aj ?_ qj.out)|exact HB.out)⟩⟩
              case round =>
                clear H'
                try clear c1
                try clear c2
                try clear p2
                try clear q2
                try clear hx2
                try clear c3
                try clear c6
                try clear sJ
                try clear Gp
                try clear Uf
                try clear p6
                try clear c7
                try clear xE
                try clear Ey
                try clear Ue
                try clear c8
                try clear zS
                try clear Le
                try clear c9
                try clear c10
                try clear c12
                try clear c15
                try clear c18
                try clear p20
                try clear q20
                try clear aiA
                try clear c21
                try clear VS
                try clear UY
                try clear c23
                try clear O0
                try clear c24
                try clear OZ
                try clear c25
                try clear JH
                try clear JG
                try clear UX
                try clear c29
                try clear c32
                try clear Em
                try clear Ej
                try clear Ei
                try clear Eh
                try clear Eg
                try clear Ef
                try clear Ee
                try clear Ed
                try clear wO
                try clear wM
                try clear wL
                try clear wK
                try clear Ec
                try clear Eb
                try clear Ea
                try clear D9
                try clear D8
                try clear D7
                try clear D6
                try clear D5
                try clear DZ
                try clear DY
                try clear DX
                try clear DW
                try clear yO
                try clear yN
                try clear yM
                try clear yL
                try clear yK
                try clear yJ
                try clear yI
                try clear yH
                try clear Tt
                try clear Tq
                try clear Tn
                try clear Tm
                try clear JB
                try clear JA
                try clear Jz
                try clear Jy
                try clear Jw
                try clear Jv
                try clear Ju
                try clear Jt
                try clear Tj
                try clear Ti
                try clear Tf
                try clear Td
                try clear Tc
                try clear S9
                try clear SY
                try clear SX
                try clear DI
                try clear DF
                try clear DD
                try clear DC
                try clear Dz
                try clear Dy
                try clear Dx
                try clear Dw
                try clear wJ
                try clear wI
                try clear wH
                try clear wG
                try clear Dv
                try clear Du
                try clear Dt
                try clear Dq
                try clear Dp
                try clear Dn
                try clear Dl
                try clear Dk
                try clear Dj
                try clear Di
                try clear Dh
                try clear Df
                try clear yG
                try clear yF
                try clear yE
                try clear yD
                try clear yC
                try clear yB
                try clear yA
                try clear yz
                try clear Rx
                try clear Rw
                try clear Ru
                try clear Rt
                try clear Jk
                try clear Jj
                try clear Ji
                try clear Jh
                try clear Jg
                try clear Jf
                try clear Je
                try clear Jd
                try clear Rq
                try clear Ro
                try clear Rn
                try clear Rl
                try clear Rk
                try clear Rj
                try clear Ri
                try clear Rh
                try clear pV
                try clear pU
                try clear p2
                try clear Fv
                try clear Fq
                try clear Ff
                try clear Fe
                obtain ⟨jw,rfl,HA,HK3,dW,fM,HB⟩:=hrel
                cases gk with
                | zero=>exact absurd HA.out (by simp [aA.l1])
                | succ k3 =>
                  have H:=HA.out
                  clear HA
                  simp only [aA.l1] at H
                  by_cases c34:jw < (aU.length:Int)
                  · rw [if_pos c34] at H
                    have UW:decide (jw < (aU.length:Int))=true:=decide_eq_true c34
                    clear c34
                    by_cases Ug:0≤jw
                    · rw [if_pos Ug] at H
                      have Y8:decide (0≤jw)=true:=decide_eq_true Ug
                      clear Ug
                      by_cases c36:jw < (dU.length:Int)
                      · rw [if_pos c36] at H
                        have ahJ:decide (jw < (dU.length:Int))=true:=decide_eq_true c36
                        clear c36
                        by_cases c37:(!(((aN aU jw).f0) == ((aN dU jw).f0)) || (!(((aN aU jw).f1) == ((aN dU jw).f1)) || (!(((aN aU jw).f2) == ((aN dU jw).f2)) || (!(((aN aU jw).f3) == ((aN dU jw).f3)) || (!(((aN aU jw).f4) == ((aN dU jw).f4)))))))=true
                        · rw [if_pos c37] at H
                          have Y7:(!(((aN aU jw).f0) == ((aN dU jw).f0)) || (!(((aN aU jw).f1) == ((aN dU jw).f1)) || (!(((aN aU jw).f2) == ((aN dU jw).f2)) || (!(((aN aU jw).f3) == ((aN dU jw).f3)) || (!(((aN aU jw).f4) == ((aN dU jw).f4)))))))=true:=c37
                          clear c37
                          obtain rfl:=Option.some.inj H
                          have ahk:=jM.out
                          have agR:=jL.out
                          have SV:wr.cell? ⟨gm,0,none⟩=some (.slice dN bn.length dM):=(ax dW.out 0).trans rfl
                          have SS:wr.cell? ⟨gm,1,none⟩=some (.string bF):=(ax dW.out 1).trans rfl
                          have SQ:wr.cell? ⟨gm,2,none⟩=some (.string bD):=(ax dW.out 2).trans rfl
                          have SN:wr.cell? ⟨gm,3,none⟩=some (.slice dV aU.length dL):=(ax dW.out 3).trans rfl
                          have Rf:=ai dW.out 0
                          have Q9:=ai dW.out 1
                          have Q8:=ai dW.out 2
                          have Q7:=ai dW.out 3
                          have Hl:0≤(jw:Int):=of_decide_eq_true (by first|(with_reducible assumption)|assumption)
                          have G9:jw < (aU.length:Int):=of_decide_eq_true (by first|(with_reducible assumption)|assumption)
                          obtain ⟨Zu,e209,rG,rF,rE,rD,rC⟩:=lI kU.out jw Hl G9
                          cases e209
                          replace rG:=(HB.out.cell (World.block_lt_of_cell? w _ rG)).trans rG
                          replace rF:=(HB.out.cell (World.block_lt_of_cell? w _ rF)).trans rF
                          replace rE:=(HB.out.cell (World.block_lt_of_cell? w _ rE)).trans rE
                          replace rD:=(HB.out.cell (World.block_lt_of_cell? w _ rD)).trans rD
                          replace rC:=(HB.out.cell (World.block_lt_of_cell? w _ rC)).trans rC
                          replace Hl:=eq_true Hl
                          replace G9:=eq_true G9
                          have SL:wr.cell? ⟨iI,0,none⟩=some (.slice iC eF.length iw):=(ax fM.out 0).trans rfl
                          have SK:wr.cell? ⟨iI,1,none⟩=some (.string eQ):=(ax fM.out 1).trans rfl
                          have SI:wr.cell? ⟨iI,2,none⟩=some (.string eY):=(ax fM.out 2).trans rfl
                          have SH:wr.cell? ⟨iI,3,none⟩=some (.slice iy dU.length iq):=(ax fM.out 3).trans rfl
                          have Q5:=ai fM.out 0
                          have Q4:=ai fM.out 1
                          have Q3:=ai fM.out 2
                          have QZ:=ai fM.out 3
                          have Hg:0≤(jw:Int):=of_decide_eq_true (by first|(with_reducible assumption)|assumption)
                          have G8:jw < (dU.length:Int):=of_decide_eq_true (by first|(with_reducible assumption)|assumption)
                          obtain ⟨Zt,e210,ry,ru,rq,rf,qZ⟩:=lI sD.out jw Hg G8
                          cases e210
                          replace ry:=(HB.out.cell (World.block_lt_of_cell? w _ ry)).trans ry
                          replace ru:=(HB.out.cell (World.block_lt_of_cell? w _ ru)).trans ru
                          replace rq:=(HB.out.cell (World.block_lt_of_cell? w _ rq)).trans rq
                          replace rf:=(HB.out.cell (World.block_lt_of_cell? w _ rf)).trans rf
                          replace qZ:=(HB.out.cell (World.block_lt_of_cell? w _ qZ)).trans qZ
                          replace Hg:=eq_true Hg
                          replace G8:=eq_true G8
                          go_wp2
                          repeat (go_quiet (fail);try go_wp2)
                          go_ret
                          exact ⟨by first|rfl|(simp [bT,bQ] <;> rfl)|(simp [*,bT,bQ] <;> rfl),by repeat (first|(with_reducible first|exact HB.out|apply ah|apply ae|apply ag|refine aj ?_ lq.out|refine aj ?_ qj.out)|exact HB.out)⟩
                        · rw [if_neg c37] at H
                          have Y7:(!(((aN aU jw).f0) == ((aN dU jw).f0)) || (!(((aN aU jw).f1) == ((aN dU jw).f1)) || (!(((aN aU jw).f2) == ((aN dU jw).f2)) || (!(((aN aU jw).f3) == ((aN dU jw).f3)) || (!(((aN aU jw).f4) == ((aN dU jw).f4)))))))=false:=by simpa using c37
                          clear c37
                          have H':=af.mk H
                          clear H
                          have ahj:=jM.out
                          have agQ:=jL.out
                          have aew:wr.cell? ⟨gm,0,none⟩=some (.slice dN bn.length dM):=(ax dW.out 0).trans rfl
                          have aev:wr.cell? ⟨gm,1,none⟩=some (.string bF):=(ax dW.out 1).trans rfl
                          have aeu:wr.cell? ⟨gm,2,none⟩=some (.string bD):=(ax dW.out 2).trans rfl
                          have aet:wr.cell? ⟨gm,3,none⟩=some (.slice dV aU.length dL):=(ax dW.out 3).trans rfl
                          have acs:=ai dW.out 0
                          have acr:=ai dW.out 1
                          have acp:=ai dW.out 2
                          have aco:=ai dW.out 3
                          have Hl:0≤(jw:Int):=of_decide_eq_true (by first|(with_reducible assumption)|assumption)
                          have G9:jw < (aU.length:Int):=of_decide_eq_true (by first|(with_reducible assumption)|assumption)
                          obtain ⟨Zu,e209,rG,rF,rE,rD,rC⟩:=lI kU.out jw Hl G9
                          cases e209
                          replace rG:=(HB.out.cell (World.block_lt_of_cell? w _ rG)).trans rG
                          replace rF:=(HB.out.cell (World.block_lt_of_cell? w _ rF)).trans rF
                          replace rE:=(HB.out.cell (World.block_lt_of_cell? w _ rE)).trans rE
                          replace rD:=(HB.out.cell (World.block_lt_of_cell? w _ rD)).trans rD
                          replace rC:=(HB.out.cell (World.block_lt_of_cell? w _ rC)).trans rC
                          replace Hl:=eq_true Hl
                          replace G9:=eq_true G9
                          have Jo:wr.cell? ⟨iI,0,none⟩=some (.slice iC eF.length iw):=(ax fM.out 0).trans rfl
                          have Jn:wr.cell? ⟨iI,1,none⟩=some (.string eQ):=(ax fM.out 1).trans rfl
                          have Jm:wr.cell? ⟨iI,2,none⟩=some (.string eY):=(ax fM.out 2).trans rfl
                          have Jl:wr.cell? ⟨iI,3,none⟩=some (.slice iy dU.length iq):=(ax fM.out 3).trans rfl
                          have I8:=ai fM.out 0
                          have I7:=ai fM.out 1
                          have I5:=ai fM.out 2
                          have I4:=ai fM.out 3
                          have Hg:0≤(jw:Int):=of_decide_eq_true (by first|(with_reducible assumption)|assumption)
                          have G8:jw < (dU.length:Int):=of_decide_eq_true (by first|(with_reducible assumption)|assumption)
                          obtain ⟨Zt,e210,ry,ru,rq,rf,qZ⟩:=lI sD.out jw Hg G8
                          cases e210
                          replace ry:=(HB.out.cell (World.block_lt_of_cell? w _ ry)).trans ry
                          replace ru:=(HB.out.cell (World.block_lt_of_cell? w _ ru)).trans ru
                          replace rq:=(HB.out.cell (World.block_lt_of_cell? w _ rq)).trans rq
                          replace rf:=(HB.out.cell (World.block_lt_of_cell? w _ rf)).trans rf
                          replace qZ:=(HB.out.cell (World.block_lt_of_cell? w _ qZ)).trans qZ
                          replace Hg:=eq_true Hg
                          replace G8:=eq_true G8
                          go_wp2
                          repeat (go_quiet (fail);try go_wp2)
                          go_roundg k3
                          case measure=>have:=HJ2.out;have:=EK.out;have:=HK3.out;omega
                          case rel=>exact ⟨(wrap64 (jw+1)),(by first|rfl|(simp;done)|(simp [*];done)),H',⟨by have:=HJ2.out;have:=EK.out;have:=HK3.out;omega⟩,⟨by (with_reducible repeat (first|refine ak ?_ _|refine az ?_|refine au ?_ _));exact dW.out⟩,⟨by (with_reducible repeat (first|refine ak ?_ _|refine az ?_|refine au ?_ _));exact fM.out⟩,⟨by repeat (first|(with_reducible first|exact HB.out|apply ah|apply ae|apply ag|refine aj ?_ lq.out|refine aj ?_ qj.out)|exact HB.out)⟩⟩
                      · rw [if_neg c36] at H
                        exact absurd H (by simp)
                    · rw [if_neg Ug] at H
                      exact absurd H (by simp)
                  · rw [if_neg c34] at H
                    have UW:decide (jw < (aU.length:Int))=false:=decide_eq_false c34
                    clear c34
                    obtain rfl:=Option.some.inj H
                    have ahi:=jM.out
                    have agP:=jL.out
                    have SA:wr.cell? ⟨gm,0,none⟩=some (.slice dN bn.length dM):=(ax dW.out 0).trans rfl
                    have Sz:wr.cell? ⟨gm,1,none⟩=some (.string bF):=(ax dW.out 1).trans rfl
                    have Sv:wr.cell? ⟨gm,2,none⟩=some (.string bD):=(ax dW.out 2).trans rfl
                    have Su:wr.cell? ⟨gm,3,none⟩=some (.slice dV aU.length dL):=(ax dW.out 3).trans rfl
                    have QU:=ai dW.out 0
                    have QT:=ai dW.out 1
                    have QS:=ai dW.out 2
                    have QR:=ai dW.out 3
                    go_wp2
                    repeat (go_quiet (fail);try go_wp2)
                    go_ret
                    exact ⟨by first|rfl|(simp [bT,bQ] <;> rfl)|(simp [*,bT,bQ] <;> rfl),by repeat (first|(with_reducible first|exact HB.out|apply ah|apply ae|apply ag|refine aj ?_ lq.out|refine aj ?_ qj.out)|exact HB.out)⟩
end Go.Proofs.YtkclndkbccbhaaaDoor.P
end
section
namespace Go.Proofs.YtkclndkbccbhaaaDoor.P
open Go Go.RowKit Go.Proofs.ay.bY Go.Proofs.ay.fJ Go.Proofs.ay.gG
theorem MZ (x y:iZ):(!(x.f0 == y.f0) || (!(x.f1 == y.f1) || (!(x.f2 == y.f2) || (!(x.f3 == y.f3) || (!(x.f4 == y.f4))))))=true ↔ x ≠ y:=by
  obtain ⟨a0,a1,a2,a3,a4⟩:=x
  obtain ⟨b0,b1,b2,b3,b4⟩:=y
  simp only [ne_eq,iZ.mk.injEq,Bool.or_eq_true,Bool.not_eq_true',beq_eq_false_iff_ne]
  by_cases h0:a0=b0 <;> by_cases h1:a1=b1 <;> by_cases h2:a2=b2 <;> by_cases h3:a3=b3 <;> by_cases h4:a4=b4 <;> simp [h0,h1,h2,h3,h4]
theorem II (t1:List ByteArray) (lo1 qM:ByteArray) (c1:List iZ) (t2:List ByteArray) (lo2 vF:ByteArray) (c2:List iZ) (hl:c1.length=c2.length) (hc:c1.length≤140737488355328):∀ (d i:Nat),i+d=c1.length →
    ∃ b,Ev (fun k=>aA.l1 k (i:Int) t1 lo1 qM c1 t2 lo2 vF c2) b∧(b=true ↔ c1.drop i=c2.drop i)
  | 0,i,hi=>by
    refine ⟨true,Ev.step (f:=fun _=>some _) (fun k=>?_) (Ev.now _),?_⟩
    · simp only [aA.l1]
      rw [if_neg (by omega)]
    · rw [List.drop_eq_nil_of_le (by omega),List.drop_eq_nil_of_le (by omega)]
      simp
  | d+1,i,hi=>by
    have h1:i < c1.length:=by omega
    have h2:i < c2.length:=by omega
    obtain ⟨b,hb,hbi⟩:=II t1 lo1 qM c1 t2 lo2 vF c2 hl hc d (i+1) (by omega)
    rw [List.drop_eq_getElem_cons h1,List.drop_eq_getElem_cons h2,List.cons.injEq]
    have Cb:∀ k,aA.l1 (k+1) (i:Int) t1 lo1 qM c1 t2 lo2 vF c2=if (!(c1[i].f0 == c2[i].f0) || (!(c1[i].f1 == c2[i].f1) || (!(c1[i].f2 == c2[i].f2) || (!(c1[i].f3 == c2[i].f3) || (!(c1[i].f4 == c2[i].f4))))))=true then some false else aA.l1 k ((i+1:Nat):Int) t1 lo1 qM c1 t2 lo2 vF c2:=by
      intro k
      conv=>lhs;simp only [aA.l1]
      rw [if_pos (by omega),if_pos (by omega),if_pos (by omega),yw c1 i h1,yw c2 i h2,lK i (by omega)]
    by_cases e:c1[i]=c2[i]
    · refine ⟨b,Ev.step (fun k=>?_) hb,?_⟩
      · rw [Cb k,if_neg (fun h=>(MZ _ _).1 h e)]
      · rw [hbi]
        exact ⟨fun h=>⟨e,h⟩,fun h=>h.2⟩
    · refine ⟨false,Ev.step (f:=fun _=>some _) (fun k=>?_) (Ev.now _),?_⟩
      · rw [Cb k,if_pos ((MZ _ _).2 e)]
      · exact ⟨fun h=>(by cases h),fun h=>absurd h.1 e⟩
theorem IJ (t1:List ByteArray) (lo1 qM:ByteArray) (c1:List iZ) (t2:List ByteArray) (lo2 vF:ByteArray) (c2:List iZ) (hl:c1.length=c2.length) (hc:c1.length≤140737488355328) (hlt:t1.length=t2.length) (ht:t1.length≤140737488355328):∀ (d i:Nat),i+d=t1.length →
    ∃ b,Ev (fun k=>aA.l0 k (i:Int) t1 lo1 qM c1 t2 lo2 vF c2) b∧(b=true ↔ t1.drop i=t2.drop i∧c1=c2)
  | 0,i,hi=>by
    obtain ⟨b,hb,hbi⟩:=II t1 lo1 qM c1 t2 lo2 vF c2 hl hc c1.length 0 (Nat.zero_add _)
    refine ⟨b,Ev.step (fun k=>?_) hb,?_⟩
    · simp only [aA.l0]
      rw [if_neg (by omega)]
      rfl
    · rw [List.drop_eq_nil_of_le (by omega),List.drop_eq_nil_of_le (by omega),hbi,List.drop_zero,List.drop_zero]
      simp
  | d+1,i,hi=>by
    have h1:i < t1.length:=by omega
    have h2:i < t2.length:=by omega
    obtain ⟨b,hb,hbi⟩:=IJ t1 lo1 qM c1 t2 lo2 vF c2 hl hc hlt ht d (i+1) (by omega)
    rw [List.drop_eq_getElem_cons h1,List.drop_eq_getElem_cons h2,List.cons.injEq]
    have Cb:∀ k,aA.l0 (k+1) (i:Int) t1 lo1 qM c1 t2 lo2 vF c2=if t1[i].toList=t2[i].toList then aA.l0 k ((i+1:Nat):Int) t1 lo1 qM c1 t2 lo2 vF c2 else some false:=by
      intro k
      conv=>lhs;simp only [aA.l0]
      rw [if_pos (by omega),if_pos (by omega),if_pos (by omega),sU t1 i h1,sU t2 i h2,lK i (by omega)]
    by_cases e:t1[i].toList=t2[i].toList
    · refine ⟨b,Ev.step (fun k=>?_) hb,?_⟩
      · rw [Cb k,if_pos e]
      · rw [hbi]
        exact ⟨fun h=>⟨⟨toList_inj.1 e,h.1⟩,h.2⟩,fun h=>⟨h.1.2,h.2⟩⟩
    · refine ⟨false,Ev.step (f:=fun _=>some _) (fun k=>?_) (Ev.now _),?_⟩
      · rw [Cb k,if_neg e]
      · exact ⟨fun h=>(by cases h),fun h=>absurd (congrArg ByteArray.toList h.1.1) e⟩
theorem IK (t1:List ByteArray) (lo1 qM:ByteArray) (c1:List iZ) (t2:List ByteArray) (lo2 vF:ByteArray) (c2:List iZ) (hc:c1.length≤140737488355328) (ht:t1.length≤140737488355328) :
    ∃ b,Ev (fun k=>aA.f k t1 lo1 qM c1 t2 lo2 vF c2) b∧(b=true ↔ t1=t2∧lo1=lo2∧qM=vF∧c1=c2):=by
  have no:Ev (fun k=>aA.j0 k true t1 lo1 qM c1 t2 lo2 vF c2) false :=
    Ev.step (f:=fun _=>some false) (fun k=>by simp only [aA.j0];rw [if_pos trivial]) (Ev.now _)
  by_cases h1:t1.length=t2.length
  · by_cases h2:c1.length=c2.length
    · by_cases h3:lo1.toList=lo2.toList
      · by_cases h4:qM.toList=vF.toList
        · obtain ⟨b,hb,hbi⟩:=IJ t1 lo1 qM c1 t2 lo2 vF c2 h2 hc h1 ht t1.length 0 (Nat.zero_add _)
          refine ⟨b,Ev.congr (fun k=>?_) (Ev.step (f:=fun k=>aA.l0 k 0 t1 lo1 qM c1 t2 lo2 vF c2) (g:=fun k=>aA.j0 k (qM.toList != vF.toList) t1 lo1 qM c1 t2 lo2 vF c2) (fun k=>?_) hb),?_⟩
          · unfold aA.f
            rw [if_pos (by omega),if_pos (by omega),if_pos h3]
          · simp only [aA.j0]
            rw [if_neg (by simp [h4])]
          · rw [hbi,List.drop_zero,List.drop_zero]
            exact ⟨fun h=>⟨h.1,toList_inj.1 h3,toList_inj.1 h4,h.2⟩,fun h=>⟨h.1,h.2.2.2⟩⟩
        · refine ⟨false,Ev.congr (fun k=>?_) no,⟨fun h=>(by cases h),fun h=>absurd (congrArg ByteArray.toList h.2.2.1) h4⟩⟩
          unfold aA.f
          rw [if_pos (by omega),if_pos (by omega),if_pos h3,bne_iff_ne.2 h4]
      · refine ⟨false,Ev.congr (fun k=>?_) no,⟨fun h=>(by cases h),fun h=>absurd (congrArg ByteArray.toList h.2.1) h3⟩⟩
        unfold aA.f
        rw [if_pos (by omega),if_pos (by omega),if_neg h3]
    · refine ⟨false,Ev.congr (fun k=>?_) no,⟨fun h=>(by cases h),fun h=>absurd (congrArg List.length h.2.2.2) h2⟩⟩
      unfold aA.f
      rw [if_pos (by omega),if_neg (by omega)]
  · refine ⟨false,Ev.congr (fun k=>?_) no,⟨fun h=>(by cases h),fun h=>absurd (congrArg List.length h.1) h1⟩⟩
    unfold aA.f
    rw [if_neg (by omega)]
theorem J4 (t1:List ByteArray) (lo1 qM:ByteArray) (c1:List iZ) (hc:c1.length≤140737488355328) (ht:t1.length≤140737488355328):Ev (fun k=>aA.f k t1 lo1 qM c1 t1 lo1 qM c1) true:=by
  obtain ⟨b,hb,hi⟩:=IK t1 lo1 qM c1 t1 lo1 qM c1 hc ht
  rwa [hi.2 ⟨rfl,rfl,rfl,rfl⟩] at hb
end Go.Proofs.YtkclndkbccbhaaaDoor.P
end
