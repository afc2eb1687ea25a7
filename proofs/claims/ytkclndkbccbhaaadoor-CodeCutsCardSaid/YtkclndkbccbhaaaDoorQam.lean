/- Parts of the proof of Both: what the functions that it reaches compute, and plain facts about that. -/
import Derived.Test.YtkclndkbccbhaaaDoorQak
import Derived.Test.YtkclndkbccbhaaaDoorQal
import Derived.Test.YtkclndkbccbhaaaDoorQac
import Derived.Test.YtkclndkbccbhaaaDoorQag
set_option linter.unusedVariables false
set_option linter.unusedSimpArgs false
section
namespace Go.Proofs.YtkclndkbccbhaaaDoor.P
open Go Go.RowKit Go.Proofs.az.dw Go.Proofs.az.gB Go.Proofs.az.gX
theorem MC:Ev (fun k=>di.f k) true:=by
  have h:di.f 300=some true:=by kernel_rfl
  exact Ev.of di.mono h
def sumW:Int→List ByteArray→Int
  | a,[]=>a
  | a,s :: r=>sumW (wrap64 (a+wrap64 ((s.size:Int)+1))) r
def Ri (ts:List ByteArray) (lo gl:ByteArray) (cs:List jo):Bool:=decide (sumW (wrap64 ((lo.size:Int)+(gl.size:Int))) ts≤500) && decide (cs.length≤210)
theorem Vj (ts:List ByteArray) (lo gl:ByteArray) (cs:List jo) (ht:ts.length≤140737488355328):∀ (d i:Nat) (a:Int),i+d=ts.length →
    Ev (fun k=>bK.l0 k a ts ((ts.length:Nat):Int) (i:Int) ts lo gl cs) (decide (sumW a (ts.drop i)≤500) && decide (cs.length≤210))
  | 0,i,a,hi=>by
    refine Ev.step (f:=fun _=>some _) (fun k=>?_) (Ev.now _)
    simp only [bK.l0]
    rw [if_neg (by omega),List.drop_eq_nil_of_le (by omega)]
    unfold sumW
    by_cases h:a≤500
    · rw [if_pos h,decide_eq_true h,Bool.true_and]
      congr 2
      exact propext (by omega)
    · rw [if_neg h,decide_eq_false h,Bool.false_and]
  | d+1,i,a,hi=>by
    have hlt:i < ts.length:=by omega
    have ih:=Vj ts lo gl cs ht d (i+1) (wrap64 (a+wrap64 (((ts[i]).size:Int)+1))) (by omega)
    rw [List.drop_eq_getElem_cons hlt]
    unfold sumW
    refine Ev.step (fun k=>?_) ih
    conv=>lhs;simp only [bK.l0]
    rw [if_pos (by omega),if_pos (by omega),if_pos (by omega),xI ts i hlt,nK i (by omega)]
theorem Vk (ts:List ByteArray) (lo gl:ByteArray) (cs:List jo) (ht:ts.length≤140737488355328):Ev (fun k=>bK.f k ts lo gl cs) (Ri ts lo gl cs):=by
  have h:=Vj ts lo gl cs ht ts.length 0 (wrap64 ((lo.size:Int)+(gl.size:Int))) (Nat.zero_add _)
  rw [List.drop_zero] at h
  exact h
theorem Ov:∀ (ts:List ByteArray) (a:Nat),(∀ s ∈ ts,s.size≤30)→a+31 * ts.length≤9000000000000000000→sumW (a:Int) ts=((a+sizes ts:Nat):Int)
  | [],a,_,_=>by simp [sumW,sizes]
  | s :: r,a,h,hl=>by
    have hs:=h s (List.mem_cons_self ..)
    rw [List.length_cons] at hl
    unfold sumW
    rw [show wrap64 ((s.size:Int)+1)=((s.size+1:Nat):Int) from by unfold wrap64;omega,show wrap64 ((a:Int)+((s.size+1:Nat):Int))=((a+(s.size+1):Nat):Int) from by unfold wrap64;omega,
      Ov r (a+(s.size+1)) (fun x hx=>h x (List.mem_cons_of_mem _ hx)) (by omega),ER,Nat.add_assoc]
theorem y9 {ts:List ByteArray} {lo gl:ByteArray} {cs:List jo} (ht:ts.length≤140737488355328) (hk:RD ts lo gl cs) {cs':List jo} (h:Ri ts lo gl cs'=true):sizes ts≤500:=by
  have a:=sH hk.lok
  have b:=sH hk.gok
  rw [← size_data] at a b
  unfold Ri at h
  rw [show wrap64 ((lo.size:Int)+(gl.size:Int))=((lo.size+gl.size:Nat):Int) from by unfold wrap64;omega,Ov ts _ (fun s hs=>by rw [size_data];exact sH (AO (hk.typ s hs)).1) (by omega)] at h
  simp only [Bool.and_eq_true,decide_eq_true_eq] at h
  omega
theorem printed {ts:List ByteArray} {lo gl:ByteArray} {cs:List jo} (ht:ts.length≤140737488355328) (hc:cs.length≤140737488355328) (hw:Wf cs) (hs:wB ts lo gl cs=true→sizes ts≤500) :
    Ev (fun k=>bH.f k ts lo gl cs) (if wB ts lo gl cs=true then (rQ ts lo gl cs,0) else (⟨#[]⟩,2)) :=
  SI ts lo gl cs ht hc hw fun h=>by
    have hk:=xJ.1 h
    refine ⟨?_,XM hk hw (hs h)⟩
    have:=vF ts hk.typ
    have:=hs h
    omega
theorem RD.code {ts:List ByteArray} {lo gl:ByteArray} {cs cs':List jo} (h:RD ts lo gl cs) (hm:∀ x ∈ cs',x ∈ cs) (hl:cs'.length≤cs.length):RD ts lo gl cs' :=
  ⟨h.typ,fun x hx=>h.ins x (hm x hx),h.lok,h.gok,Nat.le_trans hl h.few⟩
end Go.Proofs.YtkclndkbccbhaaaDoor.P
end
section
namespace Go.Proofs.YtkclndkbccbhaaaDoor.P
open Go.RowKit Go.Proofs.az.dw Go.Proofs.az.gB Go.Proofs.az.gX
attribute [local go_sem] pW pU su rZ oh nZ pV pR
attribute [local go_sem high] Vp
mutual
def aH.j0:Nat→Bool→List ByteArray→ByteArray→ByteArray→List (jo)→List ByteArray→ByteArray→ByteArray→List (jo)→Option (Bool)
  | 0,_,_,_,_,_,_,_,_,_=>none
  | k+1,x36,um,yL,yK,oO,uk,yJ,yI,oN=>if x36=true then (some false) else (aH.l0 k 0 um yL yK oO uk yJ yI oN)
def aH.l0:Nat→Int→List ByteArray→ByteArray→ByteArray→List (jo)→List ByteArray→ByteArray→ByteArray→List (jo)→Option (Bool)
  | 0,_,_,_,_,_,_,_,_,_=>none
  | k+1,x5,um,yL,yK,oO,uk,yJ,yI,oN=>if x5 < (um.length:Int) then (if 0≤x5 then (if x5 < (uk.length:Int) then (if (ja ByteArray.empty um x5).toList=(ja ByteArray.empty uk x5).toList then (aH.l0 k (wrap64 (x5+1)) um yL yK oO uk yJ yI oN) else (some false)) else (none)) else (none)) else (aH.l1 k 0 um yL yK oO uk yJ yI oN)
def aH.l1:Nat→Int→List ByteArray→ByteArray→ByteArray→List (jo)→List ByteArray→ByteArray→ByteArray→List (jo)→Option (Bool)
  | 0,_,_,_,_,_,_,_,_,_=>none
  | k+1,x6,um,yL,yK,oO,uk,yJ,yI,oN=>if x6 < (oO.length:Int) then (if 0≤x6 then (if x6 < (oN.length:Int) then (if (!(((bf oO x6).f0) == ((bf oN x6).f0)) || (!(((bf oO x6).f1) == ((bf oN x6).f1)) || (!(((bf oO x6).f2) == ((bf oN x6).f2)) || (!(((bf oO x6).f3) == ((bf oN x6).f3)) || (!(((bf oO x6).f4) == ((bf oN x6).f4)))))))=true then (some false) else (aH.l1 k (wrap64 (x6+1)) um yL yK oO uk yJ yI oN)) else (none)) else (none)) else (some true)
end
def aH.f (k:Nat) (aU:List ByteArray) (aX:ByteArray) (aZ:ByteArray) (aI:List (jo)) (kT:List ByteArray) (nI:ByteArray) (oK:ByteArray) (jK:List (jo)):Option (Bool):=if (aU.length:Int)=(kT.length:Int) then (if (aI.length:Int)=(jK.length:Int) then (if aX.toList=nI.toList then (aH.j0 k (aZ.toList != oK.toList) aU aX aZ aI kT nI oK jK) else (aH.j0 k true aU aX aZ aI kT nI oK jK)) else (aH.j0 k true aU aX aZ aI kT nI oK jK)) else (aH.j0 k true aU aX aZ aI kT nI oK jK)
theorem aH.lX:∀ k,(∀ y0 y1 y2 y3 y4 y5 y6 y7 y8,iw (aH.j0 k y0 y1 y2 y3 y4 y5 y6 y7 y8) (aH.j0 (k+1) y0 y1 y2 y3 y4 y5 y6 y7 y8))∧(∀ y0 y1 y2 y3 y4 y5 y6 y7 y8,iw (aH.l0 k y0 y1 y2 y3 y4 y5 y6 y7 y8) (aH.l0 (k+1) y0 y1 y2 y3 y4 y5 y6 y7 y8))∧(∀ y0 y1 y2 y3 y4 y5 y6 y7 y8,iw (aH.l1 k y0 y1 y2 y3 y4 y5 y6 y7 y8) (aH.l1 (k+1) y0 y1 y2 y3 y4 y5 y6 y7 y8))
  | 0=>⟨fun _ _ _ _ _ _ _ _ _ r h=>by simp [aH.j0] at h,fun _ _ _ _ _ _ _ _ _ r h=>by simp [aH.l0] at h,fun _ _ _ _ _ _ _ _ _ r h=>by simp [aH.l1] at h⟩
  | k+1=>by
    obtain ⟨qW,ih1,ih2⟩:=aH.lX k
    refine ⟨?_,?_,?_⟩
    · intro y0 y1 y2 y3 y4 y5 y6 y7 y8
      unfold aH.j0
      repeat' first
      | (with_reducible exact qW _ _ _ _ _ _ _ _ _)
      | (with_reducible exact ih1 _ _ _ _ _ _ _ _ _)
      | (with_reducible exact ih2 _ _ _ _ _ _ _ _ _)
      | (with_reducible exact iw.refl _)
      | (with_reducible exact iw.none _)
      | (with_reducible refine iw.ite ?_ ?_)
      | (with_reducible refine iw.bind ?_ (fun _=>?_))
      | exact qW _ _ _ _ _ _ _ _ _
      | exact ih1 _ _ _ _ _ _ _ _ _
      | exact ih2 _ _ _ _ _ _ _ _ _
      | exact iw.none _
      | refine iw.ite ?_ ?_
      | refine iw.bind ?_ (fun _=>?_)
    · intro y0 y1 y2 y3 y4 y5 y6 y7 y8
      unfold aH.l0
      repeat' first
      | (with_reducible exact qW _ _ _ _ _ _ _ _ _)
      | (with_reducible exact ih1 _ _ _ _ _ _ _ _ _)
      | (with_reducible exact ih2 _ _ _ _ _ _ _ _ _)
      | (with_reducible exact iw.refl _)
      | (with_reducible exact iw.none _)
      | (with_reducible refine iw.ite ?_ ?_)
      | (with_reducible refine iw.bind ?_ (fun _=>?_))
      | exact qW _ _ _ _ _ _ _ _ _
      | exact ih1 _ _ _ _ _ _ _ _ _
      | exact ih2 _ _ _ _ _ _ _ _ _
      | exact iw.none _
      | refine iw.ite ?_ ?_
      | refine iw.bind ?_ (fun _=>?_)
    · intro y0 y1 y2 y3 y4 y5 y6 y7 y8
      unfold aH.l1
      repeat' first
      | (with_reducible exact qW _ _ _ _ _ _ _ _ _)
      | (with_reducible exact ih1 _ _ _ _ _ _ _ _ _)
      | (with_reducible exact ih2 _ _ _ _ _ _ _ _ _)
      | (with_reducible exact iw.refl _)
      | (with_reducible exact iw.none _)
      | (with_reducible refine iw.ite ?_ ?_)
      | (with_reducible refine iw.bind ?_ (fun _=>?_))
      | exact qW _ _ _ _ _ _ _ _ _
      | exact ih1 _ _ _ _ _ _ _ _ _
      | exact ih2 _ _ _ _ _ _ _ _ _
      | exact iw.none _
      | refine iw.ite ?_ ?_
      | refine iw.bind ?_ (fun _=>?_)
theorem aH.mono:∀ a0 a1 a2 a3 a4 a5 a6 a7 k,iw (aH.f k a0 a1 a2 a3 a4 a5 a6 a7) (aH.f (k+1) a0 a1 a2 a3 a4 a5 a6 a7):=by
  intro a0 a1 a2 a3 a4 a5 a6 a7 k
  obtain ⟨qW,ih1,ih2⟩:=aH.lX k
  unfold aH.f
  repeat' first
      | (with_reducible exact qW _ _ _ _ _ _ _ _ _)
      | (with_reducible exact ih1 _ _ _ _ _ _ _ _ _)
      | (with_reducible exact ih2 _ _ _ _ _ _ _ _ _)
      | (with_reducible exact iw.refl _)
      | (with_reducible exact iw.none _)
      | (with_reducible refine iw.ite ?_ ?_)
      | (with_reducible refine iw.bind ?_ (fun _=>?_))
      | exact qW _ _ _ _ _ _ _ _ _
      | exact ih1 _ _ _ _ _ _ _ _ _
      | exact ih2 _ _ _ _ _ _ _ _ _
      | exact iw.none _
      | refine iw.ite ?_ ?_
      | refine iw.bind ?_ (fun _=>?_)
set_option maxHeartbeats 8000000 in
set_option maxRecDepth 100000 in
theorem aH.calls (k:Nat) (bF:Option Addr) (bD:Nat) (aU:List ByteArray) (aX:ByteArray) (aZ:ByteArray) (bG:Option Addr) (bC:Nat) (aI:List (jo)) (zy:Option Addr) (zq:Nat) (kT:List ByteArray) (nI:ByteArray) (oK:ByteArray) (zx:Option Addr) (zo:Nat) (jK:List (jo)) (r:Bool) (w:World) (qY:Kd.C Kd.string w bF aU.length aU) (rq:aU.length≤bD) (qX:Kd.C qV w bG aI.length aI) (rf:aI.length≤bC) (aa2:Kd.C Kd.string w zy kT.length kT) (aa6:kT.length≤zq) (aa1:Kd.C qV w zx jK.length jK) (aa5:jK.length≤zo) (h:aH.f k aU aX aZ aI kT nI oK jK=some r) :
    Calls Tryd.prog 10 #[.agg #[.slice bF aU.length bD,.string aX,.string aZ,.slice bG aI.length bC],.agg #[.slice zy kT.length zq,.string nI,.string oK,.slice zx jK.length zo]] w fun e w'=>e=.returned (.bool r)∧Below w.heap.size w w':=by
  have QO:=Tryd.underlying25
  have XP:=Tryd.underlying35
  have lL:=ah.mk qY
  have oz:=ah.mk rq
  clear qY rq
  have lK:=ah.mk qX
  have ou:=ah.mk rf
  clear qX rf
  have abw:=ah.mk aa2
  have aum:=ah.mk aa6
  clear aa2 aa6
  have abv:=ah.mk aa1
  have aul:=ah.mk aa5
  clear aa1 aa5
  have HB:=ah.mk (Below.refl w.heap.size w)
  have H:(if (aU.length:Int)=(kT.length:Int) then (if (aI.length:Int)=(jK.length:Int) then (if aX.toList=nI.toList then (aH.j0 k (aZ.toList != oK.toList) aU aX aZ aI kT nI oK jK) else (aH.j0 k true aU aX aZ aI kT nI oK jK)) else (aH.j0 k true aU aX aZ aI kT nI oK jK)) else (aH.j0 k true aU aX aZ aI kT nI oK jK))=some r:=h
  clear h
  have HC3:=ah.mk H
  clear H
  go_enter Tryd.func10,Tryd.ntmps10
  go_upto_region 1 with (first|((with_reducible refine dL (N:=2) rfl ?_);(try (refine dQ (by rfl) ?_;dsimp only));refine dO ?hg (N:=2) ?hd (cs:=#[.slice bF aU.length bD,.string aX,.string aZ,.slice bG aI.length bC]) (t:=25) ?hr ?_;(case hd=>rfl);(case hg=>rfl);(case hr=>first|(go_simp;done)|(go_simp;rfl));intro gW hg w4 hbox hb;have dA:=ah.mk (aT (by repeat (first|(with_reducible first|exact HB.out|apply ak|apply ae|apply aj)|exact HB.out)) hb);have dC:=ah.mk (hbox);have dP:=ah.mk ((by rw [hg];exact (aA (by repeat (first|(with_reducible first|exact HB.out|apply ak|apply ae|apply aj)|exact HB.out))):w.heap.size≤gW));have eF:=ah.mk ((by rw [hg];exact (aA (by repeat (first|(with_reducible first|exact HB.out|apply ak|apply ae|apply aj)|exact HB.out))):w.heap.size≤gW));clear HB;have HB:=dA;have fC:=dC;have abD:=dP;have nX:=eF;clear dA dC dP eF;clear hb hbox hg)|((with_reducible refine dL (N:=3) rfl ?_);(try (refine dQ (by rfl) ?_;dsimp only));refine dO ?hg (N:=3) ?hd (cs:=#[.slice zy kT.length zq,.string nI,.string oK,.slice zx jK.length zo]) (t:=25) ?hr ?_;(case hd=>rfl);(case hg=>rfl);(case hr=>first|(go_simp;done)|(go_simp;rfl));intro jc hg w5 hbox hb;have dA:=ah.mk (aQ (g:=gW) (o:=.cells #[.slice bF aU.length bD,.string aX,.string aZ,.slice bG aI.length bC] 25 (0,0)) (by (with_reducible repeat (first|refine af ?_ _|refine ai ?_|refine ag ?_ _));exact fC.out) hb);have dC:=ah.mk (aT (by repeat (first|(with_reducible first|exact HB.out|apply ak|apply ae|apply aj|refine au ?_ nX.out)|exact HB.out)) hb);have dP:=ah.mk (hbox);have eF:=ah.mk ((by rw [hg];exact (aA (by repeat (first|(with_reducible first|exact HB.out|apply ak|apply ae|apply aj|refine au ?_ nX.out)|exact HB.out))):w.heap.size≤jc));have fK:=ah.mk ((by rw [hg];exact (aA (by repeat (first|(with_reducible first|exact HB.out|apply ak|apply ae|apply aj|refine au ?_ nX.out)|exact HB.out))):w.heap.size≤jc));have fQ:=ah.mk ((by rw [hg];exact Nat.ne_of_lt (dm (g:=gW) (o:=.cells #[.slice bF aU.length bD,.string aX,.string aZ,.slice bG aI.length bC] 25 (0,0)) (by (with_reducible repeat (first|refine af ?_ _|refine ai ?_|refine ag ?_ _));exact fC.out)):gW ≠ jc));have iF:=ah.mk ((by rw [hg];exact Nat.ne_of_gt (dm (g:=gW) (o:=.cells #[.slice bF aU.length bD,.string aX,.string aZ,.slice bG aI.length bC] 25 (0,0)) (by (with_reducible repeat (first|refine af ?_ _|refine ai ?_|refine ag ?_ _));exact fC.out)):jc ≠ gW));clear fC;clear HB;have fC:=dA;have HB:=dC;have gJ:=dP;have abC:=eF;have uT:=fK;have lF:=fQ;have lD:=iF;clear dA dC dP eF fK fQ iF;clear hb hbox hg))
  repeat (go_quiet (first|((with_reducible refine dL (N:=2) rfl ?_);(try (refine dQ (by rfl) ?_;dsimp only));refine dO ?hg (N:=2) ?hd (cs:=#[.slice bF aU.length bD,.string aX,.string aZ,.slice bG aI.length bC]) (t:=25) ?hr ?_;(case hd=>rfl);(case hg=>rfl);(case hr=>first|(go_simp;done)|(go_simp;rfl));intro gW hg w4 hbox hb;have dA:=ah.mk (aT (by repeat (first|(with_reducible first|exact HB.out|apply ak|apply ae|apply aj)|exact HB.out)) hb);have dC:=ah.mk (hbox);have dP:=ah.mk ((by rw [hg];exact (aA (by repeat (first|(with_reducible first|exact HB.out|apply ak|apply ae|apply aj)|exact HB.out))):w.heap.size≤gW));have eF:=ah.mk ((by rw [hg];exact (aA (by repeat (first|(with_reducible first|exact HB.out|apply ak|apply ae|apply aj)|exact HB.out))):w.heap.size≤gW));clear HB;have HB:=dA;have fC:=dC;have abD:=dP;have nX:=eF;clear dA dC dP eF;clear hb hbox hg)|((with_reducible refine dL (N:=3) rfl ?_);(try (refine dQ (by rfl) ?_;dsimp only));refine dO ?hg (N:=3) ?hd (cs:=#[.slice zy kT.length zq,.string nI,.string oK,.slice zx jK.length zo]) (t:=25) ?hr ?_;(case hd=>rfl);(case hg=>rfl);(case hr=>first|(go_simp;done)|(go_simp;rfl));intro jc hg w5 hbox hb;have dA:=ah.mk (aQ (g:=gW) (o:=.cells #[.slice bF aU.length bD,.string aX,.string aZ,.slice bG aI.length bC] 25 (0,0)) (by (with_reducible repeat (first|refine af ?_ _|refine ai ?_|refine ag ?_ _));exact fC.out) hb);have dC:=ah.mk (aT (by repeat (first|(with_reducible first|exact HB.out|apply ak|apply ae|apply aj|refine au ?_ nX.out)|exact HB.out)) hb);have dP:=ah.mk (hbox);have eF:=ah.mk ((by rw [hg];exact (aA (by repeat (first|(with_reducible first|exact HB.out|apply ak|apply ae|apply aj|refine au ?_ nX.out)|exact HB.out))):w.heap.size≤jc));have fK:=ah.mk ((by rw [hg];exact (aA (by repeat (first|(with_reducible first|exact HB.out|apply ak|apply ae|apply aj|refine au ?_ nX.out)|exact HB.out))):w.heap.size≤jc));have fQ:=ah.mk ((by rw [hg];exact Nat.ne_of_lt (dm (g:=gW) (o:=.cells #[.slice bF aU.length bD,.string aX,.string aZ,.slice bG aI.length bC] 25 (0,0)) (by (with_reducible repeat (first|refine af ?_ _|refine ai ?_|refine ag ?_ _));exact fC.out)):gW ≠ jc));have iF:=ah.mk ((by rw [hg];exact Nat.ne_of_gt (dm (g:=gW) (o:=.cells #[.slice bF aU.length bD,.string aX,.string aZ,.slice bG aI.length bC] 25 (0,0)) (by (with_reducible repeat (first|refine af ?_ _|refine ai ?_|refine ag ?_ _));exact fC.out)):jc ≠ gW));clear fC;clear HB;have fC:=dA;have HB:=dC;have gJ:=dP;have abC:=eF;have uT:=fK;have lF:=fQ;have lD:=iF;clear dA dC dP eF fK fQ iF;clear hb hbox hg));go_upto_region 1 with (first|((with_reducible refine dL (N:=2) rfl ?_);(try (refine dQ (by rfl) ?_;dsimp only));refine dO ?hg (N:=2) ?hd (cs:=#[.slice bF aU.length bD,.string aX,.string aZ,.slice bG aI.length bC]) (t:=25) ?hr ?_;(case hd=>rfl);(case hg=>rfl);(case hr=>first|(go_simp;done)|(go_simp;rfl));intro gW hg w4 hbox hb;have dA:=ah.mk (aT (by repeat (first|(with_reducible first|exact HB.out|apply ak|apply ae|apply aj)|exact HB.out)) hb);have dC:=ah.mk (hbox);have dP:=ah.mk ((by rw [hg];exact (aA (by repeat (first|(with_reducible first|exact HB.out|apply ak|apply ae|apply aj)|exact HB.out))):w.heap.size≤gW));have eF:=ah.mk ((by rw [hg];exact (aA (by repeat (first|(with_reducible first|exact HB.out|apply ak|apply ae|apply aj)|exact HB.out))):w.heap.size≤gW));clear HB;have HB:=dA;have fC:=dC;have abD:=dP;have nX:=eF;clear dA dC dP eF;clear hb hbox hg)|((with_reducible refine dL (N:=3) rfl ?_);(try (refine dQ (by rfl) ?_;dsimp only));refine dO ?hg (N:=3) ?hd (cs:=#[.slice zy kT.length zq,.string nI,.string oK,.slice zx jK.length zo]) (t:=25) ?hr ?_;(case hd=>rfl);(case hg=>rfl);(case hr=>first|(go_simp;done)|(go_simp;rfl));intro jc hg w5 hbox hb;have dA:=ah.mk (aQ (g:=gW) (o:=.cells #[.slice bF aU.length bD,.string aX,.string aZ,.slice bG aI.length bC] 25 (0,0)) (by (with_reducible repeat (first|refine af ?_ _|refine ai ?_|refine ag ?_ _));exact fC.out) hb);have dC:=ah.mk (aT (by repeat (first|(with_reducible first|exact HB.out|apply ak|apply ae|apply aj|refine au ?_ nX.out)|exact HB.out)) hb);have dP:=ah.mk (hbox);have eF:=ah.mk ((by rw [hg];exact (aA (by repeat (first|(with_reducible first|exact HB.out|apply ak|apply ae|apply aj|refine au ?_ nX.out)|exact HB.out))):w.heap.size≤jc));have fK:=ah.mk ((by rw [hg];exact (aA (by repeat (first|(with_reducible first|exact HB.out|apply ak|apply ae|apply aj|refine au ?_ nX.out)|exact HB.out))):w.heap.size≤jc));have fQ:=ah.mk ((by rw [hg];exact Nat.ne_of_lt (dm (g:=gW) (o:=.cells #[.slice bF aU.length bD,.string aX,.string aZ,.slice bG aI.length bC] 25 (0,0)) (by (with_reducible repeat (first|refine af ?_ _|refine ai ?_|refine ag ?_ _));exact fC.out)):gW ≠ jc));have iF:=ah.mk ((by rw [hg];exact Nat.ne_of_gt (dm (g:=gW) (o:=.cells #[.slice bF aU.length bD,.string aX,.string aZ,.slice bG aI.length bC] 25 (0,0)) (by (with_reducible repeat (first|refine af ?_ _|refine ai ?_|refine ag ?_ _));exact fC.out)):jc ≠ gW));clear fC;clear HB;have fC:=dA;have HB:=dC;have gJ:=dP;have abC:=eF;have uT:=fK;have lF:=fQ;have lD:=iF;clear dA dC dP eF fK fQ iF;clear hb hbox hg)))
  (try simp only [Act.put,List.setIfInBounds_toArray,List.set_cons_zero,List.set_cons_succ])
  go_cut [36] (fun v36 wc=>∃ (kq:Nat) (Oe:Bool),v36=.bool Oe∧ah (aH.j0 kq Oe aU aX aZ aI kT nI oK jK=some r)∧ah (kq≤k)∧ah (wc.heap[gW]? = some (.cells #[(.slice bF aU.length bD),.string aX,.string aZ,(.slice bG aI.length bC)] 25 (0,0)))∧ah (wc.heap[jc]? = some (.cells #[(.slice zy kT.length zq),.string nI,.string oK,(.slice zx jK.length zo)] 25 (0,0)))∧ah (Below w.heap.size w wc))
  case first =>
    have H:=HC3.out
    clear HC3
    by_cases c6:(aU.length:Int)=(kT.length:Int)
    · rw [if_pos c6] at H
      have xy:((aU.length:Int) == (kT.length:Int))=true:=beq_iff_eq.mpr c6
      have L8:((aU.length:Int) != (kT.length:Int))=false:=bne_eq_false_iff_eq.mpr c6
      have aat:(aU.length == kT.length)=true:=by first|simpa using c6|(simp at c6 ⊢;omega)
      clear c6
      (first|rw [xy]|(simp only [bJ,bM];rw [xy])|skip)
      by_cases c7:(aI.length:Int)=(jK.length:Int)
      · rw [if_pos c7] at H
        have BP:((aI.length:Int) == (jK.length:Int))=true:=beq_iff_eq.mpr c7
        have JO:((aI.length:Int) != (jK.length:Int))=false:=bne_eq_false_iff_eq.mpr c7
        have aas:(aI.length == jK.length)=true:=by first|simpa using c7|(simp at c7 ⊢;omega)
        clear c7
        by_cases c8:aX.toList=nI.toList
        · rw [if_pos c8] at H
          have FI:(aX.toList == nI.toList)=true:=beq_iff_eq.mpr c8
          have Rt:(aX.toList != nI.toList)=false:=bne_eq_false_iff_eq.mpr c8
          clear c8
          have H':=ah.mk H
          clear H
          have avs:=lF.out
          have avr:=lD.out
          have uI:w5.cell? ⟨gW,0,none⟩=some (.slice bF aU.length bD):=(ay fC.out 0).trans rfl
          have uH:w5.cell? ⟨gW,1,none⟩=some (.string aX):=(ay fC.out 1).trans rfl
          have uG:w5.cell? ⟨gW,2,none⟩=some (.string aZ):=(ay fC.out 2).trans rfl
          have uF:w5.cell? ⟨gW,3,none⟩=some (.slice bG aI.length bC):=(ay fC.out 3).trans rfl
          have uD:=ax fC.out 0
          have uC:=ax fC.out 1
          have uB:=ax fC.out 2
          have uA:=ax fC.out 3
          have JG:w5.cell? ⟨jc,0,none⟩=some (.slice zy kT.length zq):=(ay gJ.out 0).trans rfl
          have JF:w5.cell? ⟨jc,1,none⟩=some (.string nI):=(ay gJ.out 1).trans rfl
          have JE:w5.cell? ⟨jc,2,none⟩=some (.string oK):=(ay gJ.out 2).trans rfl
          have JD:w5.cell? ⟨jc,3,none⟩=some (.slice zx jK.length zo):=(ay gJ.out 3).trans rfl
          have Jd:=ax gJ.out 0
          have Jc:=ax gJ.out 1
          have Jb:=ax gJ.out 2
          have Ja:=ax gJ.out 3
          go_wp2
          repeat (go_quiet (fail);try go_wp2)
          go_meet
          case rel=>exact ⟨_,((aZ.toList != oK.toList)),(by first|rfl|(simp;done)|(simp [*];done)),H',⟨by first|omega|exact Nat.le_refl _⟩,⟨by (with_reducible repeat (first|refine af ?_ _|refine ai ?_|refine ag ?_ _));exact fC.out⟩,⟨by (with_reducible repeat (first|refine af ?_ _|refine ai ?_|refine ag ?_ _));exact gJ.out⟩,⟨by repeat (first|(with_reducible first|exact HB.out|apply ak|apply ae|apply aj|refine au ?_ nX.out|refine au ?_ uT.out)|exact HB.out)⟩⟩
        · rw [if_neg c8] at H
          have FI:(aX.toList == nI.toList)=false:=beq_eq_false_iff_ne.mpr c8
          have Rt:(aX.toList != nI.toList)=true:=bne_iff_ne.mpr c8
          have H':=ah.mk H
          clear H
          have atu:=lF.out
          have asY:=lD.out
          have JC:w5.cell? ⟨gW,0,none⟩=some (.slice bF aU.length bD):=(ay fC.out 0).trans rfl
          have JB:w5.cell? ⟨gW,1,none⟩=some (.string aX):=(ay fC.out 1).trans rfl
          have JA:w5.cell? ⟨gW,2,none⟩=some (.string aZ):=(ay fC.out 2).trans rfl
          have Jz:w5.cell? ⟨gW,3,none⟩=some (.slice bG aI.length bC):=(ay fC.out 3).trans rfl
          have I9:=ax fC.out 0
          have I8:=ax fC.out 1
          have I7:=ax fC.out 2
          have I5:=ax fC.out 3
          have Jy:w5.cell? ⟨jc,0,none⟩=some (.slice zy kT.length zq):=(ay gJ.out 0).trans rfl
          have Jw:w5.cell? ⟨jc,1,none⟩=some (.string nI):=(ay gJ.out 1).trans rfl
          have Jv:w5.cell? ⟨jc,2,none⟩=some (.string oK):=(ay gJ.out 2).trans rfl
          have Ju:w5.cell? ⟨jc,3,none⟩=some (.slice zx jK.length zo):=(ay gJ.out 3).trans rfl
          have I4:=ax gJ.out 0
          have IZ:=ax gJ.out 1
          have IY:=ax gJ.out 2
          have IX:=ax gJ.out 3
          go_wp2
          repeat (go_quiet (fail);try go_wp2)
          go_meet
          case rel=>exact ⟨_,(true),(by first|rfl|(simp;done)|(simp [*];done)),H',⟨by first|omega|exact Nat.le_refl _⟩,⟨by (with_reducible repeat (first|refine af ?_ _|refine ai ?_|refine ag ?_ _));exact fC.out⟩,⟨by (with_reducible repeat (first|refine af ?_ _|refine ai ?_|refine ag ?_ _));exact gJ.out⟩,⟨by repeat (first|(with_reducible first|exact HB.out|apply ak|apply ae|apply aj|refine au ?_ nX.out|refine au ?_ uT.out)|exact HB.out)⟩⟩
      · rw [if_neg c7] at H
        have BP:((aI.length:Int) == (jK.length:Int))=false:=beq_eq_false_iff_ne.mpr c7
        have JO:((aI.length:Int) != (jK.length:Int))=true:=bne_iff_ne.mpr c7
        have aas:(aI.length == jK.length)=false:=by first|simpa using c7|(simp at c7 ⊢;omega)
        have H':=ah.mk H
        clear H
        have att:=lF.out
        have asX:=lD.out
        have Jt:w5.cell? ⟨gW,0,none⟩=some (.slice bF aU.length bD):=(ay fC.out 0).trans rfl
        have Js:w5.cell? ⟨gW,1,none⟩=some (.string aX):=(ay fC.out 1).trans rfl
        have Jr:w5.cell? ⟨gW,2,none⟩=some (.string aZ):=(ay fC.out 2).trans rfl
        have Jq:w5.cell? ⟨gW,3,none⟩=some (.slice bG aI.length bC):=(ay fC.out 3).trans rfl
        have IW:=ax fC.out 0
        have IV:=ax fC.out 1
        have IU:=ax fC.out 2
        have IQ:=ax fC.out 3
        have Jp:w5.cell? ⟨jc,0,none⟩=some (.slice zy kT.length zq):=(ay gJ.out 0).trans rfl
        have Jo:w5.cell? ⟨jc,1,none⟩=some (.string nI):=(ay gJ.out 1).trans rfl
        have Jn:w5.cell? ⟨jc,2,none⟩=some (.string oK):=(ay gJ.out 2).trans rfl
        have Jm:w5.cell? ⟨jc,3,none⟩=some (.slice zx jK.length zo):=(ay gJ.out 3).trans rfl
        have IP:=ax gJ.out 0
        have IM:=ax gJ.out 1
        have IL:=ax gJ.out 2
        have IK:=ax gJ.out 3
        go_wp2
        repeat (go_quiet (fail);try go_wp2)
        go_meet
        case rel=>exact ⟨_,(true),(by first|rfl|(simp;done)|(simp [*];done)),H',⟨by first|omega|exact Nat.le_refl _⟩,⟨by (with_reducible repeat (first|refine af ?_ _|refine ai ?_|refine ag ?_ _));exact fC.out⟩,⟨by (with_reducible repeat (first|refine af ?_ _|refine ai ?_|refine ag ?_ _));exact gJ.out⟩,⟨by repeat (first|(with_reducible first|exact HB.out|apply ak|apply ae|apply aj|refine au ?_ nX.out|refine au ?_ uT.out)|exact HB.out)⟩⟩
    · rw [if_neg c6] at H
      have xy:((aU.length:Int) == (kT.length:Int))=false:=beq_eq_false_iff_ne.mpr c6
      have L8:((aU.length:Int) != (kT.length:Int))=true:=bne_iff_ne.mpr c6
      have aat:(aU.length == kT.length)=false:=by first|simpa using c6|(simp at c6 ⊢;omega)
      (first|rw [xy]|(simp only [bJ,bM];rw [xy])|skip)
      have H':=ah.mk H
      clear H
      have atq:=lF.out
      have asV:=lD.out
      have Es:w5.cell? ⟨gW,0,none⟩=some (.slice bF aU.length bD):=(ay fC.out 0).trans rfl
      have Ep:w5.cell? ⟨gW,1,none⟩=some (.string aX):=(ay fC.out 1).trans rfl
      have Eo:w5.cell? ⟨gW,2,none⟩=some (.string aZ):=(ay fC.out 2).trans rfl
      have En:w5.cell? ⟨gW,3,none⟩=some (.slice bG aI.length bC):=(ay fC.out 3).trans rfl
      have D8:=ax fC.out 0
      have D7:=ax fC.out 1
      have D6:=ax fC.out 2
      have D5:=ax fC.out 3
      have Em:w5.cell? ⟨jc,0,none⟩=some (.slice zy kT.length zq):=(ay gJ.out 0).trans rfl
      have Ej:w5.cell? ⟨jc,1,none⟩=some (.string nI):=(ay gJ.out 1).trans rfl
      have Ei:w5.cell? ⟨jc,2,none⟩=some (.string oK):=(ay gJ.out 2).trans rfl
      have Eh:w5.cell? ⟨jc,3,none⟩=some (.slice zx jK.length zo):=(ay gJ.out 3).trans rfl
      have DZ:=ax gJ.out 0
      have DY:=ax gJ.out 1
      have DX:=ax gJ.out 2
      have DW:=ax gJ.out 3
      go_wp2
      repeat (go_quiet (fail);try go_wp2)
      go_meet
      case rel=>exact ⟨_,(true),(by first|rfl|(simp;done)|(simp [*];done)),H',⟨by first|omega|exact Nat.le_refl _⟩,⟨by (with_reducible repeat (first|refine af ?_ _|refine ai ?_|refine ag ?_ _));exact fC.out⟩,⟨by (with_reducible repeat (first|refine af ?_ _|refine ai ?_|refine ag ?_ _));exact gJ.out⟩,⟨by repeat (first|(with_reducible first|exact HB.out|apply ak|apply ae|apply aj|refine au ?_ nX.out|refine au ?_ uT.out)|exact HB.out)⟩⟩
  case rest =>
    clear HC3
    try clear c1
    try clear p2
    try clear c6
    try clear xy
    try clear L8
    try clear aat
    try clear c7
    try clear BP
    try clear JO
    try clear aas
    try clear c8
    try clear FI
    try clear Rt
    try clear c9
    try clear c10
    try clear c12
    try clear c15
    try clear c18
    try clear uI
    try clear uH
    try clear uG
    try clear uF
    try clear JG
    try clear JF
    try clear JE
    try clear JD
    try clear JC
    try clear JB
    try clear JA
    try clear Jz
    try clear Jy
    try clear Jw
    try clear Jv
    try clear Ju
    try clear Jt
    try clear Js
    try clear Jr
    try clear Jq
    try clear Jp
    try clear Jo
    try clear Jn
    try clear Jm
    try clear Es
    try clear Ep
    try clear Eo
    try clear En
    try clear Em
    try clear Ej
    try clear Ei
    try clear Eh
    try clear uD
    try clear uC
    try clear uB
    try clear uA
    try clear Jd
    try clear Jc
    try clear Jb
    try clear Ja
    try clear I9
    try clear I8
    try clear I7
    try clear I5
    try clear I4
    try clear IZ
    try clear IY
    try clear IX
    try clear IW
    try clear IV
    try clear IU
    try clear IQ
    try clear IP
    try clear IM
    try clear IL
    try clear IK
    try clear D8
    try clear D7
    try clear D6
    try clear D5
    try clear DZ
    try clear DY
    try clear DX
    try clear DW
    obtain ⟨kq,Oe,rfl,HA,HJ2,fC,gJ,HB⟩:=hcut
    cases kq with
    | zero=>exact absurd HA.out (by simp [aH.j0])
    | succ kj2 =>
      have H:=HA.out
      clear HA
      simp only [aH.j0] at H
      by_cases c21:Oe=true
      · subst c21
        have H1:(some false)=some r:=by rw [if_pos rfl] at H;exact H
        clear H
        have H:=H1
        clear H1
        obtain rfl:=Option.some.inj H
        go_wp2
        repeat (go_quiet (fail);try go_wp2)
        go_ret
        exact ⟨by first|rfl|(simp [bY,bW] <;> rfl)|(simp [*,bY,bW] <;> rfl),by repeat (first|(with_reducible first|exact HB.out|apply ak|apply ae|apply aj|refine au ?_ nX.out|refine au ?_ uT.out)|exact HB.out)⟩
      · replace c21:=Bool.eq_false_iff.mpr c21
        subst c21
        have H1:(aH.l0 kj2 0 aU aX aZ aI kT nI oK jK)=some r:=by rw [if_neg (show ¬ (false=true) by decide)] at H;exact H
        clear H
        have H:=H1
        clear H1
        have H':=ah.mk H
        clear H
        go_wp2
        repeat (go_quiet (fail);try go_wp2)
        go_loopg [5] kj2 (fun kq v5 w'=>∃ (jk:Int),v5=.int .i64 jk∧ah (aH.l0 kq jk aU aX aZ aI kT nI oK jK=some r)∧ah (kq≤kj2)∧ah (w'.heap[gW]? = some (.cells #[(.slice bF aU.length bD),.string aX,.string aZ,(.slice bG aI.length bC)] 25 (0,0)))∧ah (w'.heap[jc]? = some (.cells #[(.slice zy kT.length zq),.string nI,.string oK,(.slice zx jK.length zo)] 25 (0,0)))∧ah (Below w.heap.size w w'))
        case atStart=>exact ⟨(0),(by first|rfl|(simp;done)|(simp [*];done)),H',⟨Nat.le_refl _⟩,⟨by (with_reducible repeat (first|refine af ?_ _|refine ai ?_|refine ag ?_ _));exact fC.out⟩,⟨by (with_reducible repeat (first|refine af ?_ _|refine ai ?_|refine ag ?_ _));exact gJ.out⟩,⟨by repeat (first|(with_reducible first|exact HB.out|apply ak|apply ae|apply aj|refine au ?_ nX.out|refine au ?_ uT.out)|exact HB.out)⟩⟩
        case round =>
          clear H'
          try clear c1
          try clear c2
          try clear p2
          try clear c6
          try clear xy
          try clear L8
          try clear aat
          try clear c7
          try clear BP
          try clear JO
          try clear aas
          try clear c8
          try clear FI
          try clear Rt
          try clear c9
          try clear c10
          try clear c12
          try clear c15
          try clear c18
          try clear c21
          try clear uI
          try clear uH
          try clear uG
          try clear uF
          try clear JG
          try clear JF
          try clear JE
          try clear JD
          try clear JC
          try clear JB
          try clear JA
          try clear Jz
          try clear Jy
          try clear Jw
          try clear Jv
          try clear Ju
          try clear Jt
          try clear Js
          try clear Jr
          try clear Jq
          try clear Jp
          try clear Jo
          try clear Jn
          try clear Jm
          try clear Es
          try clear Ep
          try clear Eo
          try clear En
          try clear Em
          try clear Ej
          try clear Ei
          try clear Eh
          try clear uD
          try clear uC
          try clear uB
          try clear uA
          try clear Jd
          try clear Jc
          try clear Jb
          try clear Ja
          try clear I9
          try clear I8
          try clear I7
          try clear I5
          try clear I4
          try clear IZ
          try clear IY
          try clear IX
          try clear IW
          try clear IV
          try clear IU
          try clear IQ
          try clear IP
          try clear IM
          try clear IL
          try clear IK
          try clear D8
          try clear D7
          try clear D6
          try clear D5
          try clear DZ
          try clear DY
          try clear DX
          try clear DW
          try clear p2
          obtain ⟨jk,rfl,HA,F7,fC,gJ,HB⟩:=hrel
          cases gk with
          | zero=>exact absurd HA.out (by simp [aH.l0])
          | succ k2 =>
            have H:=HA.out
            clear HA
            simp only [aH.l0] at H
            by_cases NZ:jk < (aU.length:Int)
            · rw [if_pos NZ] at H
              have Qh:decide (jk < (aU.length:Int))=true:=decide_eq_true NZ
              clear NZ
              by_cases c23:0≤jk
              · rw [if_pos c23] at H
                have abm:decide (0≤jk)=true:=decide_eq_true c23
                clear c23
                by_cases c24:jk < (kT.length:Int)
                · rw [if_pos c24] at H
                  have Qg:decide (jk < (kT.length:Int))=true:=decide_eq_true c24
                  clear c24
                  by_cases c25:(ja ByteArray.empty aU jk).toList=(ja ByteArray.empty kT jk).toList
                  · rw [if_pos c25] at H
                    have abk:((ja ByteArray.empty aU jk).toList == (ja ByteArray.empty kT jk).toList)=true:=beq_iff_eq.mpr c25
                    have abj:((ja ByteArray.empty aU jk).toList != (ja ByteArray.empty kT jk).toList)=false:=bne_eq_false_iff_eq.mpr c25
                    clear c25
                    have H':=ah.mk H
                    clear H
                    have atl:=lF.out
                    have asP:=lD.out
                    have ZR:wr.cell? ⟨gW,0,none⟩=some (.slice bF aU.length bD):=(ay fC.out 0).trans rfl
                    have ZQ:wr.cell? ⟨gW,1,none⟩=some (.string aX):=(ay fC.out 1).trans rfl
                    have ZP:wr.cell? ⟨gW,2,none⟩=some (.string aZ):=(ay fC.out 2).trans rfl
                    have ZO:wr.cell? ⟨gW,3,none⟩=some (.slice bG aI.length bC):=(ay fC.out 3).trans rfl
                    have YP:=ax fC.out 0
                    have YO:=ax fC.out 1
                    have YN:=ax fC.out 2
                    have YM:=ax fC.out 3
                    have KL:0≤(jk:Int):=of_decide_eq_true (by first|(with_reducible assumption)|assumption)
                    have KF:jk < (aU.length:Int):=of_decide_eq_true (by first|(with_reducible assumption)|assumption)
                    obtain ⟨akY,e207,uz⟩:=Kd.iU lL.out jk KL KF
                    cases e207
                    replace uz:=(HB.out.cell (World.block_lt_of_cell? w _ uz)).trans uz
                    replace KL:=eq_true KL
                    replace KF:=eq_true KF
                    have Eg:wr.cell? ⟨jc,0,none⟩=some (.slice zy kT.length zq):=(ay gJ.out 0).trans rfl
                    have Ef:wr.cell? ⟨jc,1,none⟩=some (.string nI):=(ay gJ.out 1).trans rfl
                    have Ee:wr.cell? ⟨jc,2,none⟩=some (.string oK):=(ay gJ.out 2).trans rfl
                    have Ed:wr.cell? ⟨jc,3,none⟩=some (.slice zx jK.length zo):=(ay gJ.out 3).trans rfl
                    have DV:=ax gJ.out 0
                    have DU:=ax gJ.out 1
                    have DT:=ax gJ.out 2
                    have DR:=ax gJ.out 3
                    have KJ:0≤(jk:Int):=of_decide_eq_true (by first|(with_reducible assumption)|assumption)
                    have KE:jk < (kT.length:Int):=of_decide_eq_true (by first|(with_reducible assumption)|assumption)
                    obtain ⟨akX,e208,uy⟩:=Kd.iU abw.out jk KJ KE
                    cases e208
                    replace uy:=(HB.out.cell (World.block_lt_of_cell? w _ uy)).trans uy
                    replace KJ:=eq_true KJ
                    replace KE:=eq_true KE
                    go_wp2
                    repeat (go_quiet (fail);try go_wp2)
                    go_roundg k2
                    case measure=>have:=HJ2.out;have:=F7.out;omega
                    case rel=>exact ⟨(wrap64 (jk+1)),(by first|rfl|(simp;done)|(simp [*];done)),H',⟨by have:=HJ2.out;have:=F7.out;omega⟩,⟨by (with_reducible repeat (first|refine af ?_ _|refine ai ?_|refine ag ?_ _));exact fC.out⟩,⟨by (with_reducible repeat (first|refine af ?_ _|refine ai ?_|refine ag ?_ _));exact gJ.out⟩,⟨by repeat (first|(with_reducible first|exact HB.out|apply ak|apply ae|apply aj|refine au ?_ nX.out|refine au ?_ uT.out)|exact HB.out)⟩⟩
                  · rw [if_neg c25] at H
                    have abk:((ja ByteArray.empty aU jk).toList == (ja ByteArray.empty kT jk).toList)=false:=beq_eq_false_iff_ne.mpr c25
                    have abj:((ja ByteArray.empty aU jk).toList != (ja ByteArray.empty kT jk).toList)=true:=bne_iff_ne.mpr c25
                    obtain rfl:=Option.some.inj H
                    have atj:=lF.out
                    have asO:=lD.out
                    have PY:wr.cell? ⟨gW,0,none⟩=some (.slice bF aU.length bD):=(ay fC.out 0).trans rfl
                    have PX:wr.cell? ⟨gW,1,none⟩=some (.string aX):=(ay fC.out 1).trans rfl
                    have PW:wr.cell? ⟨gW,2,none⟩=some (.string aZ):=(ay fC.out 2).trans rfl
                    have PV:wr.cell? ⟨gW,3,none⟩=some (.slice bG aI.length bC):=(ay fC.out 3).trans rfl
                    have Po:=ax fC.out 0
                    have Pn:=ax fC.out 1
                    have Pm:=ax fC.out 2
                    have Pj:=ax fC.out 3
                    have KL:0≤(jk:Int):=of_decide_eq_true (by first|(with_reducible assumption)|assumption)
                    have KF:jk < (aU.length:Int):=of_decide_eq_true (by first|(with_reducible assumption)|assumption)
                    obtain ⟨akY,e207,uz⟩:=Kd.iU lL.out jk KL KF
                    cases e207
                    replace uz:=(HB.out.cell (World.block_lt_of_cell? w _ uz)).trans uz
                    replace KL:=eq_true KL
                    replace KF:=eq_true KF
                    have Jl:wr.cell? ⟨jc,0,none⟩=some (.slice zy kT.length zq):=(ay gJ.out 0).trans rfl
                    have Jk:wr.cell? ⟨jc,1,none⟩=some (.string nI):=(ay gJ.out 1).trans rfl
                    have Jj:wr.cell? ⟨jc,2,none⟩=some (.string oK):=(ay gJ.out 2).trans rfl
                    have Ji:wr.cell? ⟨jc,3,none⟩=some (.slice zx jK.length zo):=(ay gJ.out 3).trans rfl
                    have IJ:=ax gJ.out 0
                    have II:=ax gJ.out 1
                    have IG:=ax gJ.out 2
                    have IE:=ax gJ.out 3
                    have KJ:0≤(jk:Int):=of_decide_eq_true (by first|(with_reducible assumption)|assumption)
                    have KE:jk < (kT.length:Int):=of_decide_eq_true (by first|(with_reducible assumption)|assumption)
                    obtain ⟨akX,e208,uy⟩:=Kd.iU abw.out jk KJ KE
                    cases e208
                    replace uy:=(HB.out.cell (World.block_lt_of_cell? w _ uy)).trans uy
                    replace KJ:=eq_true KJ
                    replace KE:=eq_true KE
                    go_wp2
                    repeat (go_quiet (fail);try go_wp2)
                    go_ret
                    exact ⟨by first|rfl|(simp [bY,bW] <;> rfl)|(simp [*,bY,bW] <;> rfl),by repeat (first|(with_reducible first|exact HB.out|apply ak|apply ae|apply aj|refine au ?_ nX.out|refine au ?_ uT.out)|exact HB.out)⟩
                · rw [if_neg c24] at H
                  exact absurd H (by simp)
              · rw [if_neg c23] at H
                exact absurd H (by simp)
            · rw [if_neg NZ] at H
              have Qh:decide (jk < (aU.length:Int))=false:=decide_eq_false NZ
              clear NZ
              have H':=ah.mk H
              clear H
              have ath:=lF.out
              have asM:=lD.out
              have PQ:wr.cell? ⟨gW,0,none⟩=some (.slice bF aU.length bD):=(ay fC.out 0).trans rfl
              have PO:wr.cell? ⟨gW,1,none⟩=some (.string aX):=(ay fC.out 1).trans rfl
              have PN:wr.cell? ⟨gW,2,none⟩=some (.string aZ):=(ay fC.out 2).trans rfl
              have PM:wr.cell? ⟨gW,3,none⟩=some (.slice bG aI.length bC):=(ay fC.out 3).trans rfl
              have O8:=ax fC.out 0
              have O7:=ax fC.out 1
              have O6:=ax fC.out 2
              have O5:=ax fC.out 3
              go_wp2
              repeat (go_quiet (fail);try go_wp2)
              go_loopg [6] k2 (fun kq v6 w'=>∃ (kK:Int),v6=.int .i64 kK∧ah (aH.l1 kq kK aU aX aZ aI kT nI oK jK=some r)∧ah (kq≤k2)∧ah (w'.heap[gW]? = some (.cells #[(.slice bF aU.length bD),.string aX,.string aZ,(.slice bG aI.length bC)] 25 (0,0)))∧ah (w'.heap[jc]? = some (.cells #[(.slice zy kT.length zq),.string nI,.string oK,(.slice zx jK.length zo)] 25 (0,0)))∧ah (Below w.heap.size w w'))
              case atStart=>exact ⟨(0),(by first|rfl|(simp;done)|(simp [*];done)),H',⟨Nat.le_refl _⟩,⟨by (with_reducible repeat (first|refine af ?_ _|refine ai ?_|refine ag ?_ _));exact fC.out⟩,⟨by (with_reducible repeat (first|refine af ?_ _|refine ai ?_|refine ag ?_ _));exact gJ.out⟩,⟨by repeat (first|(with_reducible first|exact HB.out|apply ak|apply ae|apply aj|refine au ?_ nX.out|refine au ?_ uT.out)|exact HB.out)⟩⟩
              case round =>
                clear H'
                try clear c1
                try clear c2
                try clear p2
                try clear q2
                try clear hx2
                try clear c3
                try clear c6
                try clear xy
                try clear L8
                try clear aat
                try clear p6
                try clear c7
                try clear BP
                try clear JO
                try clear aas
                try clear c8
                try clear FI
                try clear Rt
                try clear c9
                try clear c10
                try clear c12
                try clear c15
                try clear c18
                try clear p20
                try clear q20
                try clear avo
                try clear c21
                try clear NZ
                try clear Qh
                try clear c23
                try clear abm
                try clear c24
                try clear Qg
                try clear c25
                try clear abk
                try clear abj
                try clear c26
                try clear c29
                try clear c32
                try clear uI
                try clear uH
                try clear uG
                try clear uF
                try clear JG
                try clear JF
                try clear JE
                try clear JD
                try clear JC
                try clear JB
                try clear JA
                try clear Jz
                try clear Jy
                try clear Jw
                try clear Jv
                try clear Ju
                try clear Jt
                try clear Js
                try clear Jr
                try clear Jq
                try clear Jp
                try clear Jo
                try clear Jn
                try clear Jm
                try clear Es
                try clear Ep
                try clear Eo
                try clear En
                try clear Em
                try clear Ej
                try clear Ei
                try clear Eh
                try clear ZR
                try clear ZQ
                try clear ZP
                try clear ZO
                try clear Eg
                try clear Ef
                try clear Ee
                try clear Ed
                try clear PY
                try clear PX
                try clear PW
                try clear PV
                try clear Jl
                try clear Jk
                try clear Jj
                try clear Ji
                try clear PQ
                try clear PO
                try clear PN
                try clear PM
                try clear uD
                try clear uC
                try clear uB
                try clear uA
                try clear Jd
                try clear Jc
                try clear Jb
                try clear Ja
                try clear I9
                try clear I8
                try clear I7
                try clear I5
                try clear I4
                try clear IZ
                try clear IY
                try clear IX
                try clear IW
                try clear IV
                try clear IU
                try clear IQ
                try clear IP
                try clear IM
                try clear IL
                try clear IK
                try clear D8
                try clear D7
                try clear D6
                try clear D5
                try clear DZ
                try clear DY
                try clear DX
                try clear DW
                try clear YP
                try clear YO
                try clear YN
                try clear YM
                try clear DV
                try clear DU
                try clear DT
                try clear DR
                try clear Po
                try clear Pn
                try clear Pm
                try clear Pj
                try clear IJ
                try clear II
                try clear IG
                try clear IE
                try clear O8
                try clear O7
                try clear O6
                try clear O5
                try clear uz
                try clear uy
                try clear p2
                try clear KL
                try clear KJ
                try clear KF
                try clear KE
                obtain ⟨kK,rfl,HA,HK3,fC,gJ,HB⟩:=hrel
                cases gk with
                | zero=>exact absurd HA.out (by simp [aH.l1])
                | succ k3 =>
                  have H:=HA.out
                  clear HA
                  simp only [aH.l1] at H
                  by_cases c34:kK < (aI.length:Int)
                  · rw [if_pos c34] at H
                    have Qe:decide (kK < (aI.length:Int))=true:=decide_eq_true c34
                    clear c34
                    by_cases c35:0≤kK
                    · rw [if_pos c35] at H
                      have akH:decide (0≤kK)=true:=decide_eq_true c35
                      clear c35
                      by_cases c36:kK < (jK.length:Int)
                      · rw [if_pos c36] at H
                        have atK:decide (kK < (jK.length:Int))=true:=decide_eq_true c36
                        clear c36
                        by_cases c37:(!(((bf aI kK).f0) == ((bf jK kK).f0)) || (!(((bf aI kK).f1) == ((bf jK kK).f1)) || (!(((bf aI kK).f2) == ((bf jK kK).f2)) || (!(((bf aI kK).f3) == ((bf jK kK).f3)) || (!(((bf aI kK).f4) == ((bf jK kK).f4)))))))=true
                        · rw [if_pos c37] at H
                          have akG:(!(((bf aI kK).f0) == ((bf jK kK).f0)) || (!(((bf aI kK).f1) == ((bf jK kK).f1)) || (!(((bf aI kK).f2) == ((bf jK kK).f2)) || (!(((bf aI kK).f3) == ((bf jK kK).f3)) || (!(((bf aI kK).f4) == ((bf jK kK).f4)))))))=true:=c37
                          clear c37
                          obtain rfl:=Option.some.inj H
                          have adT:=lF.out
                          have adP:=lD.out
                          have PG:wr.cell? ⟨gW,0,none⟩=some (.slice bF aU.length bD):=(ay fC.out 0).trans rfl
                          have PE:wr.cell? ⟨gW,1,none⟩=some (.string aX):=(ay fC.out 1).trans rfl
                          have PD:wr.cell? ⟨gW,2,none⟩=some (.string aZ):=(ay fC.out 2).trans rfl
                          have Pz:wr.cell? ⟨gW,3,none⟩=some (.slice bG aI.length bC):=(ay fC.out 3).trans rfl
                          have OZ:=ax fC.out 0
                          have OY:=ax fC.out 1
                          have OX:=ax fC.out 2
                          have OW:=ax fC.out 3
                          have NF:0≤(kK:Int):=of_decide_eq_true (by first|(with_reducible assumption)|assumption)
                          have Nu:kK < (aI.length:Int):=of_decide_eq_true (by first|(with_reducible assumption)|assumption)
                          obtain ⟨akW,e209,wS,wR,wQ,wP,wO⟩:=ny lK.out kK NF Nu
                          cases e209
                          replace wS:=(HB.out.cell (World.block_lt_of_cell? w _ wS)).trans wS
                          replace wR:=(HB.out.cell (World.block_lt_of_cell? w _ wR)).trans wR
                          replace wQ:=(HB.out.cell (World.block_lt_of_cell? w _ wQ)).trans wQ
                          replace wP:=(HB.out.cell (World.block_lt_of_cell? w _ wP)).trans wP
                          replace wO:=(HB.out.cell (World.block_lt_of_cell? w _ wO)).trans wO
                          replace NF:=eq_true NF
                          replace Nu:=eq_true Nu
                          have ZF:wr.cell? ⟨jc,0,none⟩=some (.slice zy kT.length zq):=(ay gJ.out 0).trans rfl
                          have ZE:wr.cell? ⟨jc,1,none⟩=some (.string nI):=(ay gJ.out 1).trans rfl
                          have ZC:wr.cell? ⟨jc,2,none⟩=some (.string oK):=(ay gJ.out 2).trans rfl
                          have ZB:wr.cell? ⟨jc,3,none⟩=some (.slice zx jK.length zo):=(ay gJ.out 3).trans rfl
                          have YD:=ax gJ.out 0
                          have YC:=ax gJ.out 1
                          have YB:=ax gJ.out 2
                          have YA:=ax gJ.out 3
                          have ND:0≤(kK:Int):=of_decide_eq_true (by first|(with_reducible assumption)|assumption)
                          have Ns:kK < (jK.length:Int):=of_decide_eq_true (by first|(with_reducible assumption)|assumption)
                          obtain ⟨akV,e210,wM,wL,wK,wJ,wI⟩:=ny abv.out kK ND Ns
                          cases e210
                          replace wM:=(HB.out.cell (World.block_lt_of_cell? w _ wM)).trans wM
                          replace wL:=(HB.out.cell (World.block_lt_of_cell? w _ wL)).trans wL
                          replace wK:=(HB.out.cell (World.block_lt_of_cell? w _ wK)).trans wK
                          replace wJ:=(HB.out.cell (World.block_lt_of_cell? w _ wJ)).trans wJ
                          replace wI:=(HB.out.cell (World.block_lt_of_cell? w _ wI)).trans wI
                          replace ND:=eq_true ND
                          replace Ns:=eq_true Ns
                          go_wp2
                          repeat (go_quiet (fail);try go_wp2)
                          go_ret
                          exact ⟨by first|rfl|(simp [bY,bW] <;> rfl)|(simp [*,bY,bW] <;> rfl),by repeat (first|(with_reducible first|exact HB.out|apply ak|apply ae|apply aj|refine au ?_ nX.out|refine au ?_ uT.out)|exact HB.out)⟩
                        · rw [if_neg c37] at H
                          have akG:(!(((bf aI kK).f0) == ((bf jK kK).f0)) || (!(((bf aI kK).f1) == ((bf jK kK).f1)) || (!(((bf aI kK).f2) == ((bf jK kK).f2)) || (!(((bf aI kK).f3) == ((bf jK kK).f3)) || (!(((bf aI kK).f4) == ((bf jK kK).f4)))))))=false:=by simpa using c37
                          clear c37
                          have H':=ah.mk H
                          clear H
                          have atd:=lF.out
                          have asI:=lD.out
                          have Zw:wr.cell? ⟨gW,0,none⟩=some (.slice bF aU.length bD):=(ay fC.out 0).trans rfl
                          have Zv:wr.cell? ⟨gW,1,none⟩=some (.string aX):=(ay fC.out 1).trans rfl
                          have Zu:wr.cell? ⟨gW,2,none⟩=some (.string aZ):=(ay fC.out 2).trans rfl
                          have Zt:wr.cell? ⟨gW,3,none⟩=some (.slice bG aI.length bC):=(ay fC.out 3).trans rfl
                          have Yv:=ax fC.out 0
                          have Yu:=ax fC.out 1
                          have Yt:=ax fC.out 2
                          have Yr:=ax fC.out 3
                          have NF:0≤(kK:Int):=of_decide_eq_true (by first|(with_reducible assumption)|assumption)
                          have Nu:kK < (aI.length:Int):=of_decide_eq_true (by first|(with_reducible assumption)|assumption)
                          obtain ⟨akW,e209,wS,wR,wQ,wP,wO⟩:=ny lK.out kK NF Nu
                          cases e209
                          replace wS:=(HB.out.cell (World.block_lt_of_cell? w _ wS)).trans wS
                          replace wR:=(HB.out.cell (World.block_lt_of_cell? w _ wR)).trans wR
                          replace wQ:=(HB.out.cell (World.block_lt_of_cell? w _ wQ)).trans wQ
                          replace wP:=(HB.out.cell (World.block_lt_of_cell? w _ wP)).trans wP
                          replace wO:=(HB.out.cell (World.block_lt_of_cell? w _ wO)).trans wO
                          replace NF:=eq_true NF
                          replace Nu:=eq_true Nu
                          have Zr:wr.cell? ⟨jc,0,none⟩=some (.slice zy kT.length zq):=(ay gJ.out 0).trans rfl
                          have Zq:wr.cell? ⟨jc,1,none⟩=some (.string nI):=(ay gJ.out 1).trans rfl
                          have Zp:wr.cell? ⟨jc,2,none⟩=some (.string oK):=(ay gJ.out 2).trans rfl
                          have Zo:wr.cell? ⟨jc,3,none⟩=some (.slice zx jK.length zo):=(ay gJ.out 3).trans rfl
                          have Yq:=ax gJ.out 0
                          have Yp:=ax gJ.out 1
                          have Yo:=ax gJ.out 2
                          have Yn:=ax gJ.out 3
                          have ND:0≤(kK:Int):=of_decide_eq_true (by first|(with_reducible assumption)|assumption)
                          have Ns:kK < (jK.length:Int):=of_decide_eq_true (by first|(with_reducible assumption)|assumption)
                          obtain ⟨akV,e210,wM,wL,wK,wJ,wI⟩:=ny abv.out kK ND Ns
                          cases e210
                          replace wM:=(HB.out.cell (World.block_lt_of_cell? w _ wM)).trans wM
                          replace wL:=(HB.out.cell (World.block_lt_of_cell? w _ wL)).trans wL
                          replace wK:=(HB.out.cell (World.block_lt_of_cell? w _ wK)).trans wK
                          replace wJ:=(HB.out.cell (World.block_lt_of_cell? w _ wJ)).trans wJ
                          replace wI:=(HB.out.cell (World.block_lt_of_cell? w _ wI)).trans wI
                          replace ND:=eq_true ND
                          replace Ns:=eq_true Ns
                          go_wp2
                          repeat (go_quiet (fail);try go_wp2)
                          go_roundg k3
                          case measure=>have:=HJ2.out;have:=F7.out;have:=HK3.out;omega
                          case rel=>exact ⟨(wrap64 (kK+1)),(by first|rfl|(simp;done)|(simp [*];done)),H',⟨by have:=HJ2.out;have:=F7.out;have:=HK3.out;omega⟩,⟨by (with_reducible repeat (first|refine af ?_ _|refine ai ?_|refine ag ?_ _));exact fC.out⟩,⟨by (with_reducible repeat (first|refine af ?_ _|refine ai ?_|refine ag ?_ _));exact gJ.out⟩,⟨by repeat (first|(with_reducible first|exact HB.out|apply ak|apply ae|apply aj|refine au ?_ nX.out|refine au ?_ uT.out)|exact HB.out)⟩⟩
                      · rw [if_neg c36] at H
                        exact absurd H (by simp)
                    · rw [if_neg c35] at H
                      exact absurd H (by simp)
                  · rw [if_neg c34] at H
                    have Qe:decide (kK < (aI.length:Int))=false:=decide_eq_false c34
                    clear c34
                    obtain rfl:=Option.some.inj H
                    have adS:=lF.out
                    have adO:=lD.out
                    have Zn:wr.cell? ⟨gW,0,none⟩=some (.slice bF aU.length bD):=(ay fC.out 0).trans rfl
                    have Zm:wr.cell? ⟨gW,1,none⟩=some (.string aX):=(ay fC.out 1).trans rfl
                    have Zl:wr.cell? ⟨gW,2,none⟩=some (.string aZ):=(ay fC.out 2).trans rfl
                    have Zk:wr.cell? ⟨gW,3,none⟩=some (.slice bG aI.length bC):=(ay fC.out 3).trans rfl
                    have Ym:=ax fC.out 0
                    have Yl:=ax fC.out 1
                    have Yk:=ax fC.out 2
                    have Yj:=ax fC.out 3
                    go_wp2
                    repeat (go_quiet (fail);try go_wp2)
                    go_ret
                    exact ⟨by first|rfl|(simp [bY,bW] <;> rfl)|(simp [*,bY,bW] <;> rfl),by repeat (first|(with_reducible first|exact HB.out|apply ak|apply ae|apply aj|refine au ?_ nX.out|refine au ?_ uT.out)|exact HB.out)⟩
end Go.Proofs.YtkclndkbccbhaaaDoor.P
end
