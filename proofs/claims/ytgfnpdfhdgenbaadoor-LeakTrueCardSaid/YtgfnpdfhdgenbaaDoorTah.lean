/- Parts of the proof of LeakTrue: what the functions that it reaches compute, and plain facts about that. -/
import Derived.Test.YtgfnpdfhdgenbaaDoorTab
import Derived.Test.YtgfnpdfhdgenbaaDoorTaf
import Derived.Test.YtgfnpdfhdgenbaaDoorTag
set_option linter.unusedVariables false
set_option linter.unusedSimpArgs false
section
namespace Go.Proofs.YtgfnpdfhdgenbaaDoor.P
open Go.RowKit Go.Proofs.ae.bf Go.Proofs.ae.bY Go.Proofs.ae.cZ
attribute [local go_sem] kU kS mF mD jR jQ kT kR
def aQ.j0:Nat→Int→Int→Int→Bool→List ByteArray→ByteArray→ByteArray→List (gY)→Int→Int→Int→Int→Int→Option (Bool)
 | 0,_,_,_,_,_,_,_,_,_,_,_,_,_=>none
 | k+1,x5,x6,x16,x17,rH,rG,rF,rE,aaW,PQ,PO,PN,xN=>if x17=true then (some (decide (x5 ≥ 0))) else (if x16=7 then ((bZ.f x5 x6).bind fun t174=>(some t174)) else (if x16=15 then ((dE.f k rH rG rF rE PN).bind fun t175=>((bZ.f x6 t175).bind fun t176=>(some t176))) else (if x16=8 then (if x6 ≥ 0 then ((dR.f k rH rG rF rE x6 xN).bind fun t177=>(some t177)) else (some false)) else (if x16=9 then (if x5 ≥ 0 then ((dR.f k rH rG rF rE x5 xN).bind fun t178=>(some t178)) else (some false)) else (if x16=10 then (if x6 ≥ 0 then ((fG.f k rH rG rF rE x6 xN).bind fun t179=>((bZ.f x5 t179).bind fun t180=>(some t180))) else (some false)) else (if x16=11 then (if x5 ≥ 0 then ((fG.f k rH rG rF rE x5 xN).bind fun t181=>((bZ.f x6 t181).bind fun t182=>(some t182))) else (some false)) else (if x16=12 then ((eP.f k rH rG rF rE PO).bind fun t183=>((bZ.f x5 t183).bind fun t184=>(some t184))) else (if x16=13 then ((eP.f k rH rG rF rE PQ).bind fun t185=>((bZ.f x6 t185).bind fun t186=>(some t186))) else (some true)))))))))
def aQ.f (k:Nat) (bF:List ByteArray) (aZ:ByteArray) (bn:ByteArray) (aG:List (gY)) (gG:Int) (mZ:Int) (mQ:Int) (oQ:Int) (mP:Int):Option (Bool):=(dE.f k bF aZ bn aG mZ).bind fun t172=>((dE.f k bF aZ bn aG mQ).bind fun t173=>(if gG=5 then (aQ.j0 k t172 t173 gG (gG == 5) bF aZ bn aG gG mZ mQ oQ mP) else (aQ.j0 k t172 t173 gG (gG == 6) bF aZ bn aG gG mZ mQ oQ mP)))
theorem aQ.iF:∀ k,(∀ y0 y1 y2 y3 y4 y5 y6 y7 y8 y9 ML y11 y12,eu (aQ.j0 k y0 y1 y2 y3 y4 y5 y6 y7 y8 y9 ML y11 y12) (aQ.j0 (k+1) y0 y1 y2 y3 y4 y5 y6 y7 y8 y9 ML y11 y12))
 | 0=>fun _ _ _ _ _ _ _ _ _ _ _ _ _ r h=>by simp [aQ.j0] at h
 | k+1=>by
  have nI:=aQ.iF k
  ·
   intro y0 y1 y2 y3 y4 y5 y6 y7 y8 y9 ML y11 y12
   unfold aQ.j0
   repeat' with_reducible first|apply nI|apply eP.mono|apply dE.mono|apply dR.mono|apply fG.mono|exact eu.refl _|exact eu.none _|refine eu.ite ?_ ?_|refine eu.bind ?_ (fun _=>?_)
theorem aQ.mono:∀ a0 a1 a2 a3 a4 a5 a6 a7 a8 k,eu (aQ.f k a0 a1 a2 a3 a4 a5 a6 a7 a8) (aQ.f (k+1) a0 a1 a2 a3 a4 a5 a6 a7 a8):=by
 intro a0 a1 a2 a3 a4 a5 a6 a7 a8 k
 have nI:=aQ.iF k
 unfold aQ.f
 repeat' with_reducible first|apply nI|apply eP.mono|apply dE.mono|apply dR.mono|apply fG.mono|exact eu.refl _|exact eu.none _|refine eu.ite ?_ ?_|refine eu.bind ?_ (fun _=>?_)
def aQ.T1:Bool × List (List Nat × List Nat):=(true,[([],[]),([],[]),([1],[1]),([0,2],[0,2]),([],[]),([],[]),([5],[5]),([4,6,3],[4,6]),([3,7,0,1,2,3],[3]),([7,8,0,1,2,3,4,5,6,7,8],[7])])
def aQ.B1:List Nat:=[0,0,2,7,0,0,32,127,255,511]
theorem aQ.VW:oz .any (opsOf Tryd.f25 1)=aQ.T1:=by kernel_rfl
theorem aQ.OL:nM aQ.T1.2 aQ.B1=true:=by kernel_rfl
set_option maxHeartbeats 8000000 in
set_option maxRecDepth 100000 in
theorem aQ.calls (k:Nat) (fA:Option Addr) (eY:Nat) (bF:List ByteArray) (aZ:ByteArray) (bn:ByteArray) (gz:Option Addr) (fC:Nat) (aG:List (gY)) (gG:Int) (mZ:Int) (mQ:Int) (oQ:Int) (mP:Int) (r:Bool) (w:World) (jX:Kd.C Kd.string w fA bF.length bF) (jZ:bF.length≤eY) (jW:Kd.C uU w gz aG.length aG) (jY:aG.length≤fC) (h:aQ.f k bF aZ bn aG gG mZ mQ oQ mP=some r) :
  Calls Tryd.prog 25 #[.agg #[.slice fA bF.length eY,.string aZ,.string bn,.slice gz aG.length fC],.agg #[.int .u8 gG,.int .u8 mZ,.int .u8 mQ,.int .u8 oQ,.int .i64 mP]] w fun e w'=>e=.returned (.bool r)∧Below w.heap.size w w':=by
 have Ad:=Tryd.underlying25
 have zl:=Tryd.underlying45
 have jk:=af.mk jX
 have jv:=af.mk jZ
 clear jX jZ
 have jL:=af.mk jW
 have lX:=af.mk jY
 clear jW jY
 have HB:=af.mk (Below.refl w.heap.size w)
 have H:((dE.f k bF aZ bn aG mZ).bind fun t172=>((dE.f k bF aZ bn aG mQ).bind fun t173=>(if gG=5 then (aQ.j0 k t172 t173 gG (gG == 5) bF aZ bn aG gG mZ mQ oQ mP) else (aQ.j0 k t172 t173 gG (gG == 6) bF aZ bn aG gG mZ mQ oQ mP))))=some r:=h
 clear h
 replace H:=Option.bind_eq_some_iff.mp H
 obtain ⟨t172,KQ,H⟩:=H
 replace H:((dE.f k bF aZ bn aG mQ).bind fun t173=>(if gG=5 then (aQ.j0 k t172 t173 gG (gG == 5) bF aZ bn aG gG mZ mQ oQ mP) else (aQ.j0 k t172 t173 gG (gG == 6) bF aZ bn aG gG mZ mQ oQ mP)))=some r:=H
 have A3:=af.mk KQ
 clear KQ
 replace H:=Option.bind_eq_some_iff.mp H
 obtain ⟨t173,FQ,H⟩:=H
 replace H:(if gG=5 then (aQ.j0 k t172 t173 gG (gG == 5) bF aZ bn aG gG mZ mQ oQ mP) else (aQ.j0 k t172 t173 gG (gG == 6) bF aZ bn aG gG mZ mQ oQ mP))=some r:=H
 have A4:=af.mk FQ
 clear FQ
 have XZ:=af.mk H
 clear H
 go_enter Tryd.func25,Tryd.ntmps25
 try go_wp2_with (first|((with_reducible refine bD (N:=2) rfl ?_);refine ed ?hg (N:=2) ?hd (cs:=#[.slice fA bF.length eY,.string aZ,.string bn,.slice gz aG.length fC]) (t:=25) ?hr ?_;(case hd=>rfl);(case hg=>rfl);(case hr=>first|(go_simp;done)|(go_simp;rfl));intro oG hg w6 hbox hb;have dW:=af.mk (bC (by repeat (first|(with_reducible first|exact HB.out|apply aj|apply ag|apply ak)|exact HB.out)) hb);have dV:=af.mk (hbox);have dQ:=af.mk ((by rw [hg];exact (df (by repeat (first|(with_reducible first|exact HB.out|apply aj|apply ag|apply ak)|exact HB.out))):w.heap.size≤oG));have gK:=dQ;clear HB;have HB:=dW;have gX:=dV;have ak6:=dQ;have kZ:=gK;clear dW dV dQ gK;clear hb hbox hg)|((with_reducible refine bD (N:=3) rfl ?_);refine ed ?hg (N:=3) ?hd (cs:=#[.int .u8 gG,.int .u8 mZ,.int .u8 mQ,.int .u8 oQ,.int .i64 mP]) (t:=45) ?hr ?_;(case hd=>rfl);(case hg=>rfl);(case hr=>first|(go_simp;done)|(go_simp;rfl));intro pq hg w7 hbox hb;have dW:=af.mk (bJ (g:=oG) (o:=.cells #[.slice fA bF.length eY,.string aZ,.string bn,.slice gz aG.length fC] 25 (0,0)) (by (with_reducible repeat (first|refine ai ?_ _|refine ax ?_|refine ah ?_ _));exact gX.out) hb);have dV:=af.mk (bC (by repeat (first|(with_reducible first|exact HB.out|apply aj|apply ag|apply ak|refine ay ?_ kZ.out)|exact HB.out)) hb);have dQ:=af.mk (hbox);have gK:=af.mk ((by rw [hg];exact (df (by repeat (first|(with_reducible first|exact HB.out|apply aj|apply ag|apply ak|refine ay ?_ kZ.out)|exact HB.out))):w.heap.size≤pq));have jT:=gK;have lL:=af.mk ((by rw [hg];exact Nat.ne_of_lt (iC (g:=oG) (o:=.cells #[.slice fA bF.length eY,.string aZ,.string bn,.slice gz aG.length fC] 25 (0,0)) (by (with_reducible repeat (first|refine ai ?_ _|refine ax ?_|refine ah ?_ _));exact gX.out)):oG ≠ pq));have kQ:=af.mk lL.out.symm;clear gX;clear HB;have gX:=dW;have HB:=dV;have gW:=dQ;have ak5:=gK;have lJ:=jT;have nD:=lL;have nC:=kQ;clear dW dV dQ gK jT lL kQ;clear hb hbox hg))
 have dW:=af.mk (ax gX.out)
 have dV:=af.mk (ax gW.out)
 have dQ:=af.mk (ak HB.out)
 clear gX
 clear gW
 clear HB
 have gX:=dW
 have gW:=dV
 have HB:=dQ
 clear dW dV dQ
 refine oJ (n:=10) (S:=fun w'=>w'.cell? ⟨oG,0,none⟩=some (.slice fA bF.length eY)∧w'.cell? ⟨oG,1,none⟩=some (.string aZ)∧w'.cell? ⟨oG,2,none⟩=some (.string bn)∧w'.cell? ⟨oG,3,none⟩=some (.slice gz aG.length fC)∧w'.cell? ⟨pq,0,none⟩=some (.int .u8 gG)∧w'.cell? ⟨pq,1,none⟩=some (.int .u8 mZ)∧w'.cell? ⟨pq,2,none⟩=some (.int .u8 mQ)∧w'.cell? ⟨pq,3,none⟩=some (.int .u8 oQ)∧w'.cell? ⟨pq,4,none⟩=some (.int .i64 mP)) (ds:=[]) #[false,false,false,false,false,false,false,false,false,false] (by kernel_rfl) rfl rfl ⟨(aJ gX.out 0).trans rfl,(aJ gX.out 1).trans rfl,(aJ gX.out 2).trans rfl,(aJ gX.out 3).trans rfl,(aJ gW.out 0).trans rfl,(aJ gW.out 1).trans rfl,(aJ gW.out 2).trans rfl,(aJ gW.out 3).trans rfl,(aJ gW.out 4).trans rfl⟩ (fun hHeld=>?_);refine kP aQ.VW aQ.OL (fun fH qy=>?_)
 generalize w7.drew=w8 at gX gW HB hHeld ⊢
 refine bW (i:=1) (N:=some 8) (v:=?_) (a':=?_) #[false,true,false,false,false,false,false,false,false,false] rfl rfl (bG fH.out (by kernel_rfl)) (fun _ _ _ h=>h) (Or.inl ⟨by rfl,?_⟩) ?_ ?_
 rotate_left
 ·
  intro w'
  go_simp
  with_reducible rfl
 rotate_left
 ·
  simp only [Act.put,List.setIfInBounds_toArray,List.set_cons_zero,List.set_cons_succ,aX,aY]
  rfl
 refine bW (i:=5) (N:=some 12) (v:=?_) (a':=?_) #[false,true,false,false,false,true,false,false,false,false] rfl rfl (bG fH.out (by kernel_rfl)) (fun _ _ _ h=>h) (Or.inl ⟨by rfl,?_⟩) ?_ ?_
 rotate_left
 ·
  intro w'
  go_simp
  with_reducible rfl
 rotate_left
 ·
  simp only [Act.put,List.setIfInBounds_toArray,List.set_cons_zero,List.set_cons_succ,aX,aY]
  rfl
 refine jf (i:=0) (N:=some 7) (v:=?_) (a':=?_) #[true,true,false,false,false,true,false,false,false,false] rfl rfl (gm fH.out qy.out (by kernel_rfl)) (fun _ _ _ h=>h) (Or.inl ⟨by rfl,?_⟩) hHeld ?_ ?_
 rotate_left
 ·
  rintro w' ⟨s0,s1,s2,s3,s4,s5,s6,s7,s8⟩
  go_simp
  with_reducible rfl
 rotate_left
 ·
  simp only [Act.put,List.setIfInBounds_toArray,List.set_cons_zero,List.set_cons_succ,aX,aY]
  rfl
 refine jf (i:=2) (N:=some 9) (v:=?_) (a':=?_) #[true,true,true,false,false,true,false,false,false,false] rfl rfl (gm fH.out qy.out (by kernel_rfl)) (fun _ _ _ h=>h) (Or.inl ⟨by rfl,?_⟩) hHeld ?_ ?_
 rotate_left
 ·
  rintro w' ⟨s0,s1,s2,s3,s4,s5,s6,s7,s8⟩
  go_simp
  with_reducible rfl
 rotate_left
 ·
  simp only [Act.put,List.setIfInBounds_toArray,List.set_cons_zero,List.set_cons_succ,aX,aY]
  rfl
 refine jf (i:=4) (N:=some 11) (v:=?_) (a':=?_) #[true,true,true,false,true,true,false,false,false,false] rfl rfl (gm fH.out qy.out (by kernel_rfl)) (fun _ _ _ h=>h) (Or.inl ⟨by rfl,?_⟩) hHeld ?_ ?_
 rotate_left
 ·
  rintro w' ⟨s0,s1,s2,s3,s4,s5,s6,s7,s8⟩
  go_simp
  with_reducible rfl
 rotate_left
 ·
  simp only [Act.put,List.setIfInBounds_toArray,List.set_cons_zero,List.set_cons_succ,aX,aY]
  rfl
 refine jf (i:=6) (N:=some 13) (v:=?_) (a':=?_) #[true,true,true,false,true,true,true,false,false,false] rfl rfl (gm fH.out qy.out (by kernel_rfl)) (fun _ _ _ h=>h) (Or.inl ⟨by rfl,?_⟩) hHeld ?_ ?_
 rotate_left
 ·
  rintro w' ⟨s0,s1,s2,s3,s4,s5,s6,s7,s8⟩
  go_simp
  with_reducible rfl
 rotate_left
 ·
  simp only [Act.put,List.setIfInBounds_toArray,List.set_cons_zero,List.set_cons_succ,aX,aY]
  rfl
 refine nN (i:=3) (N:=some 10) #[true,true,true,true,true,true,true,false,false,false] rfl rfl (jU fH.out (by kernel_rfl)) (by decide) (fun K hK=>?_)
 refine qm Tryd.func28 (by kernel_rfl) rfl #[.agg #[.slice fA bF.length eY,.string aZ,.string bn,.slice gz aG.length fC],.int .u8 mZ] (by rfl) rfl rfl (by (try simp only [List.map_toArray,List.map_cons,List.map_nil]);first|done|rfl|(simp only [List.length_drop,List.length_take];rfl)) ?_
 with_reducible refine (dE.calls k _ _ bF aZ bn _ _ aG mZ t172 _ ?dX ?fB ?jr ?jq A3.out).mono ?_
 (case dX=>repeat (first|exact (Kd.bQ jk.out HB.out)|(with_reducible refine Kd.dG ?_ _)|(with_reducible refine Kd.dH ?_ _)|(with_reducible refine Kd.dS ?_)))
 (case fB=>exact jv.out)
 (case jr=>repeat (first|exact (Kd.bQ jL.out HB.out)|(with_reducible refine Kd.dG ?_ _)|(with_reducible refine Kd.dH ?_ _)|(with_reducible refine Kd.dS ?_)))
 (case jq=>exact lX.out)
 rintro e w9 ⟨rfl,hb⟩
 refine ⟨_,rfl,?_⟩
 have dW:=af.mk (bJ (g:=oG) (o:=.cells #[.slice fA bF.length eY,.string aZ,.string bn,.slice gz aG.length fC] 25 (0,0)) (by (with_reducible repeat (first|refine ai ?_ _|refine ax ?_|refine ah ?_ _));exact gX.out) hb)
 have dV:=af.mk (bJ (g:=pq) (o:=.cells #[.int .u8 gG,.int .u8 mZ,.int .u8 mQ,.int .u8 oQ,.int .i64 mP] 45 (0,0)) (by (with_reducible repeat (first|refine ai ?_ _|refine ax ?_|refine ah ?_ _));exact gW.out) hb)
 have dQ:=af.mk (bC (by repeat (first|(with_reducible first|exact HB.out|apply aj|apply ag|apply ak|refine ay ?_ kZ.out|refine ay ?_ lJ.out)|exact HB.out)) hb)
 clear gX
 clear gW
 clear HB
 have gX:=dW
 have gW:=dV
 have HB:=dQ
 clear dW dV dQ
 (try clear hb)
 (try clear hb2)
 (try clear hk)
 (try clear hi)
 refine hK.out _ _ ⟨(aJ gX.out 0).trans rfl,(aJ gX.out 1).trans rfl,(aJ gX.out 2).trans rfl,(aJ gX.out 3).trans rfl,(aJ gW.out 0).trans rfl,(aJ gW.out 1).trans rfl,(aJ gW.out 2).trans rfl,(aJ gW.out 3).trans rfl,(aJ gW.out 4).trans rfl⟩ (fun hHeld=>?_)
 clear hK K
 refine iT (a':=?_) ?_ ?_
 rotate_left
 ·
  show Act.put _ (some 10) _=_
  simp only [Act.put,List.setIfInBounds_toArray,List.set_cons_zero,List.set_cons_succ,aX,aY]
  rfl
 refine nN (i:=7) (N:=some 14) #[true,true,true,true,true,true,true,true,false,false] rfl rfl (jU fH.out (by kernel_rfl)) (by decide) (fun K hK=>?_)
 refine qm Tryd.func28 (by kernel_rfl) rfl #[.agg #[.slice fA bF.length eY,.string aZ,.string bn,.slice gz aG.length fC],.int .u8 mQ] (by rfl) rfl rfl (by (try simp only [List.map_toArray,List.map_cons,List.map_nil]);first|done|rfl|(simp only [List.length_drop,List.length_take];rfl)) ?_
 with_reducible refine (dE.calls k _ _ bF aZ bn _ _ aG mQ t173 _ ?dX ?fB ?jr ?jq A4.out).mono ?_
 (case dX=>repeat (first|exact (Kd.bQ jk.out HB.out)|(with_reducible refine Kd.dG ?_ _)|(with_reducible refine Kd.dH ?_ _)|(with_reducible refine Kd.dS ?_)))
 (case fB=>exact jv.out)
 (case jr=>repeat (first|exact (Kd.bQ jL.out HB.out)|(with_reducible refine Kd.dG ?_ _)|(with_reducible refine Kd.dH ?_ _)|(with_reducible refine Kd.dS ?_)))
 (case jq=>exact lX.out)
 rintro e w10 ⟨rfl,hb⟩
 refine ⟨_,rfl,?_⟩
 have dW:=af.mk (bJ (g:=oG) (o:=.cells #[.slice fA bF.length eY,.string aZ,.string bn,.slice gz aG.length fC] 25 (0,0)) (by (with_reducible repeat (first|refine ai ?_ _|refine ax ?_|refine ah ?_ _));exact gX.out) hb)
 have dV:=af.mk (bJ (g:=pq) (o:=.cells #[.int .u8 gG,.int .u8 mZ,.int .u8 mQ,.int .u8 oQ,.int .i64 mP] 45 (0,0)) (by (with_reducible repeat (first|refine ai ?_ _|refine ax ?_|refine ah ?_ _));exact gW.out) hb)
 have dQ:=af.mk (bC (by repeat (first|(with_reducible first|exact HB.out|apply aj|apply ag|apply ak|refine ay ?_ kZ.out|refine ay ?_ lJ.out)|exact HB.out)) hb)
 clear gX
 clear gW
 clear HB
 have gX:=dW
 have gW:=dV
 have HB:=dQ
 clear dW dV dQ
 (try clear hb)
 (try clear hb2)
 (try clear hk)
 (try clear hi)
 refine hK.out _ _ ⟨(aJ gX.out 0).trans rfl,(aJ gX.out 1).trans rfl,(aJ gX.out 2).trans rfl,(aJ gX.out 3).trans rfl,(aJ gW.out 0).trans rfl,(aJ gW.out 1).trans rfl,(aJ gW.out 2).trans rfl,(aJ gW.out 3).trans rfl,(aJ gW.out 4).trans rfl⟩ (fun hHeld=>?_)
 clear hK K
 refine iT (a':=?_) ?_ ?_
 rotate_left
 ·
  show Act.put _ (some 14) _=_
  simp only [Act.put,List.setIfInBounds_toArray,List.set_cons_zero,List.set_cons_succ,aX,aY]
  rfl
 refine bW (i:=8) (N:=some 5) (v:=?_) (a':=?_) #[true,true,true,true,true,true,true,true,true,false] rfl rfl (bG fH.out (by kernel_rfl)) (fun _ _ _ h=>h) (Or.inl ⟨by rfl,?_⟩) ?_ ?_
 rotate_left
 ·
  intro w'
  go_simp
  with_reducible rfl
 rotate_left
 ·
  simp only [Act.put,List.setIfInBounds_toArray,List.set_cons_zero,List.set_cons_succ,aX,aY]
  rfl
 refine bW (i:=9) (N:=some 6) (v:=?_) (a':=?_) #[true,true,true,true,true,true,true,true,true,true] rfl rfl (bG fH.out (by kernel_rfl)) (fun _ _ _ h=>h) (Or.inl ⟨by rfl,?_⟩) ?_ ?_
 rotate_left
 ·
  intro w'
  go_simp
  with_reducible rfl
 rotate_left
 ·
  simp only [Act.put,List.setIfInBounds_toArray,List.set_cons_zero,List.set_cons_succ,aX,aY]
  rfl
 refine qW (nV fH.out (by kernel_rfl)) ?_
 have ajJ:=nC.out
 have ajm:=nD.out
 obtain ⟨Ky,Kw,Kv,Ku,agl,JM,JL,JK,JJ,aem⟩:=iV gW.out
 go_upto_if 17 with (fail)
 go_cut [17] (fun v17 wc=>∃ (kq:Nat) (Iu:Bool),v17=.bool Iu∧af (aQ.j0 kq t172 t173 gG Iu bF aZ bn aG gG mZ mQ oQ mP=some r)∧af (kq≤k)∧af (wc.heap[oG]? = some (.cells #[(.slice fA bF.length eY),.string aZ,.string bn,(.slice gz aG.length fC)] 25 (0,0)))∧af (wc.heap[pq]? = some (.cells #[.int .u8 gG,.int .u8 mZ,.int .u8 mQ,.int .u8 oQ,.int .i64 mP] 45 (0,0)))∧af (Below w.heap.size w wc))
 case first =>
  have H:=XZ.out
  clear XZ
  by_cases c13:gG=5
  ·
   rw [if_pos c13] at H
   have oH:(gG == 5)=true:=beq_iff_eq.mpr c13
   have E5:(gG != 5)=false:=bne_eq_false_iff_eq.mpr c13
   clear c13
   (first|rw [oH]|(simp only [aX,aY];rw [oH])|skip)
   have H':=af.mk H
   clear H
   go_wp2
   go_meet
   case rel=>exact ⟨_,((gG == 5)),(by first|rfl|(simp;done)|(simp [*];done)),H',⟨by first|omega|exact Nat.le_refl _⟩,⟨by (with_reducible repeat (first|refine ai ?_ _|refine ax ?_|refine ah ?_ _));exact gX.out⟩,⟨by (with_reducible repeat (first|refine ai ?_ _|refine ax ?_|refine ah ?_ _));exact gW.out⟩,⟨by repeat (first|(with_reducible first|exact HB.out|apply aj|apply ag|apply ak|refine ay ?_ kZ.out|refine ay ?_ lJ.out)|exact HB.out)⟩⟩
  ·
   rw [if_neg c13] at H
   have oH:(gG == 5)=false:=beq_eq_false_iff_ne.mpr c13
   have E5:(gG != 5)=true:=bne_iff_ne.mpr c13
   (first|rw [oH]|(simp only [aX,aY];rw [oH])|skip)
   have H':=af.mk H
   clear H
   go_wp2
   go_meet
   case rel=>exact ⟨_,((gG == 6)),(by first|rfl|(simp;done)|(simp [*];done)),H',⟨by first|omega|exact Nat.le_refl _⟩,⟨by (with_reducible repeat (first|refine ai ?_ _|refine ax ?_|refine ah ?_ _));exact gX.out⟩,⟨by (with_reducible repeat (first|refine ai ?_ _|refine ax ?_|refine ah ?_ _));exact gW.out⟩,⟨by repeat (first|(with_reducible first|exact HB.out|apply aj|apply ag|apply ak|refine ay ?_ kZ.out|refine ay ?_ lJ.out)|exact HB.out)⟩⟩
 case rest =>
  clear XZ
  obtain ⟨kq,Iu,rfl,HA,HJ4,gX,gW,HB⟩:=hcut
  cases kq with
  | zero=>exact absurd HA.out (by simp [aQ.j0])
  | succ Bg =>
   have H:=HA.out
   clear HA
   simp only [aQ.j0] at H
   by_cases c14:Iu=true
   ·
    subst c14
    have H1:(some (decide (t172 ≥ 0)))=some r:=by rw [if_pos rfl] at H;exact H
    clear H
    have H:=H1
    clear H1
    obtain rfl:=Option.some.inj H
    go_wp2
    go_ret
    exact ⟨by first|rfl|(simp [aU,aT] <;> rfl)|(simp [*,aU,aT] <;> rfl),by repeat (first|(with_reducible first|exact HB.out|apply aj|apply ag|apply ak|refine ay ?_ kZ.out|refine ay ?_ lJ.out)|exact HB.out)⟩
   ·
    replace c14:=Bool.eq_false_iff.mpr c14
    subst c14
    have H1:(if gG=7 then ((bZ.f t172 t173).bind fun t174=>(some t174)) else (if gG=15 then ((dE.f Bg bF aZ bn aG oQ).bind fun t175=>((bZ.f t173 t175).bind fun t176=>(some t176))) else (if gG=8 then (if t173 ≥ 0 then ((dR.f Bg bF aZ bn aG t173 mP).bind fun t177=>(some t177)) else (some false)) else (if gG=9 then (if t172 ≥ 0 then ((dR.f Bg bF aZ bn aG t172 mP).bind fun t178=>(some t178)) else (some false)) else (if gG=10 then (if t173 ≥ 0 then ((fG.f Bg bF aZ bn aG t173 mP).bind fun t179=>((bZ.f t172 t179).bind fun t180=>(some t180))) else (some false)) else (if gG=11 then (if t172 ≥ 0 then ((fG.f Bg bF aZ bn aG t172 mP).bind fun t181=>((bZ.f t173 t181).bind fun t182=>(some t182))) else (some false)) else (if gG=12 then ((eP.f Bg bF aZ bn aG mQ).bind fun t183=>((bZ.f t172 t183).bind fun t184=>(some t184))) else (if gG=13 then ((eP.f Bg bF aZ bn aG mZ).bind fun t185=>((bZ.f t173 t185).bind fun t186=>(some t186))) else (some true)))))))))=some r:=by rw [if_neg (show ¬ (false=true) by decide)] at H;exact H
    clear H
    have H:=H1
    clear H1
    by_cases c15:gG=7
    ·
     rw [if_pos c15] at H
     have pW:(gG == 7)=true:=beq_iff_eq.mpr c15
     have zG:(gG != 7)=false:=bne_eq_false_iff_eq.mpr c15
     clear c15
     replace H:=Option.bind_eq_some_iff.mp H
     obtain ⟨t174,Po,H⟩:=H
     replace H:(some t174)=some r:=H
     have A16:=af.mk Po
     clear Po
     obtain rfl:=Option.some.inj H
     go_wp2_with (first|((with_reducible refine bV (f:=33) rfl ?_);refine fU (some 26) rfl rfl Tryd.func33 (by kernel_rfl) rfl #[.int .i64 t172,.int .i64 t173] rfl (by (try simp only [List.map_toArray,List.map_cons,List.map_nil]);first|done|rfl|(simp only [List.length_drop,List.length_take];rfl)) ?_;(with_reducible refine (bZ.calls t172 t173 t174 _ A16.out).mono ?_);rintro e w' ⟨rfl,⟨nd,rfl⟩⟩;refine ⟨_,rfl,?_⟩))
     go_ret
     exact ⟨by first|rfl|(simp [aU,aT] <;> rfl)|(simp [*,aU,aT] <;> rfl),by repeat (first|(with_reducible first|exact HB.out|apply aj|apply ag|apply ak|refine ay ?_ kZ.out|refine ay ?_ lJ.out)|exact HB.out)⟩
    ·
     rw [if_neg c15] at H
     have pW:(gG == 7)=false:=beq_eq_false_iff_ne.mpr c15
     have zG:(gG != 7)=true:=bne_iff_ne.mpr c15
     by_cases c17:gG=15
     ·
      rw [if_pos c17] at H
      have xB:(gG == 15)=true:=beq_iff_eq.mpr c17
      have EY:(gG != 15)=false:=bne_eq_false_iff_eq.mpr c17
      clear c17
      replace H:=Option.bind_eq_some_iff.mp H
      obtain ⟨t175,aaR,H⟩:=H
      replace H:((bZ.f t173 t175).bind fun t176=>(some t176))=some r:=H
      have A18:=af.mk aaR
      clear aaR
      replace H:=Option.bind_eq_some_iff.mp H
      obtain ⟨t176,Pn,H⟩:=H
      replace H:(some t176)=some r:=H
      have VO:=af.mk Pn
      clear Pn
      obtain rfl:=Option.some.inj H
      have ajH:=nD.out
      have ajk:=nC.out
      obtain ⟨TD,TC,TA,Tz,Ry,Rx,Rw,Ru⟩:=lZ gX.out
      obtain ⟨Tv,Tu,Tt,Tq,afR,Rt,Rq,Ro,Rn,adQ⟩:=iV gW.out
      go_wp2_with (first|((with_reducible refine bV (f:=28) rfl ?_);refine fU (some 33) rfl rfl Tryd.func28 (by kernel_rfl) rfl #[.agg #[.slice fA bF.length eY,.string aZ,.string bn,.slice gz aG.length fC],.int .u8 oQ] rfl (by (try simp only [List.map_toArray,List.map_cons,List.map_nil]);first|done|rfl|(simp only [List.length_drop,List.length_take];rfl)) ?_;(with_reducible refine (dE.calls Bg _ _ bF aZ bn _ _ aG oQ t175 _ ?dX ?fB ?jr ?jq A18.out).mono ?_);(case dX=>repeat (first|exact (Kd.bQ jk.out HB.out)|(with_reducible refine Kd.dG ?_ _)|(with_reducible refine Kd.dH ?_ _)|(with_reducible refine Kd.dS ?_)));(case fB=>exact jv.out);(case jr=>repeat (first|exact (Kd.bQ jL.out HB.out)|(with_reducible refine Kd.dG ?_ _)|(with_reducible refine Kd.dH ?_ _)|(with_reducible refine Kd.dS ?_)));(case jq=>exact lX.out);rintro e Yd ⟨rfl,hb⟩;refine ⟨_,rfl,?_⟩;have dW:=af.mk (bJ (g:=oG) (o:=.cells #[.slice fA bF.length eY,.string aZ,.string bn,.slice gz aG.length fC] 25 (0,0)) (by (with_reducible repeat (first|refine ai ?_ _|refine ax ?_|refine ah ?_ _));exact gX.out) hb);have dV:=af.mk (bJ (g:=pq) (o:=.cells #[.int .u8 gG,.int .u8 mZ,.int .u8 mQ,.int .u8 oQ,.int .i64 mP] 45 (0,0)) (by (with_reducible repeat (first|refine ai ?_ _|refine ax ?_|refine ah ?_ _));exact gW.out) hb);have dQ:=af.mk (bC (by repeat (first|(with_reducible first|exact HB.out|apply aj|apply ag|apply ak|refine ay ?_ kZ.out|refine ay ?_ lJ.out)|exact HB.out)) hb);clear gX;clear gW;clear HB;have gX:=dW;have gW:=dV;have HB:=dQ;clear dW dV dQ;(try clear hb);(try clear hb2);(try clear hk);(try clear hi))|((with_reducible refine bV (f:=33) rfl ?_);refine fU (some 34) rfl rfl Tryd.func33 (by kernel_rfl) rfl #[.int .i64 t173,.int .i64 t175] rfl (by (try simp only [List.map_toArray,List.map_cons,List.map_nil]);first|done|rfl|(simp only [List.length_drop,List.length_take];rfl)) ?_;(with_reducible refine (bZ.calls t173 t175 t176 _ VO.out).mono ?_);rintro e w' ⟨rfl,⟨nd,rfl⟩⟩;refine ⟨_,rfl,?_⟩))
      go_ret
      exact ⟨by first|rfl|(simp [aU,aT] <;> rfl)|(simp [*,aU,aT] <;> rfl),by repeat (first|(with_reducible first|exact HB.out|apply aj|apply ag|apply ak|refine ay ?_ kZ.out|refine ay ?_ lJ.out)|exact HB.out)⟩
     ·
      rw [if_neg c17] at H
      have xB:(gG == 15)=false:=beq_eq_false_iff_ne.mpr c17
      have EY:(gG != 15)=true:=bne_iff_ne.mpr c17
      by_cases c24:gG=8
      ·
       rw [if_pos c24] at H
       have ZH:(gG == 8)=true:=beq_iff_eq.mpr c24
       have ZG:(gG != 8)=false:=bne_eq_false_iff_eq.mpr c24
       clear c24
       by_cases c25:t173 ≥ 0
       ·
        rw [if_pos c25] at H
        have Vj:decide (0≤t173)=true:=decide_eq_true c25
        clear c25
        replace H:=Option.bind_eq_some_iff.mp H
        obtain ⟨t177,aaQ,H⟩:=H
        replace H:(some t177)=some r:=H
        have A26:=af.mk aaQ
        clear aaQ
        obtain rfl:=Option.some.inj H
        have Y0:=nD.out
        have YW:=nC.out
        obtain ⟨J8,J7,J6,J5,JD,JC,JB,JA⟩:=lZ gX.out
        obtain ⟨afL,afK,afJ,afI,afH,adK,adJ,adI,adH,adG⟩:=iV gW.out
        go_wp2_with (first|(go_at_call 34;(with_reducible refine (dR.calls Bg _ _ bF aZ bn _ _ aG t173 mP t177 _ ?dX ?fB ?jr ?jq A26.out).mono ?_);(case dX=>repeat (first|exact (Kd.bQ jk.out HB.out)|(with_reducible refine Kd.dG ?_ _)|(with_reducible refine Kd.dH ?_ _)|(with_reducible refine Kd.dS ?_)));(case fB=>exact jv.out);(case jr=>repeat (first|exact (Kd.bQ jL.out HB.out)|(with_reducible refine Kd.dG ?_ _)|(with_reducible refine Kd.dH ?_ _)|(with_reducible refine Kd.dS ?_)));(case jq=>exact lX.out);rintro e w30 ⟨rfl,hb⟩;have dW:=af.mk (bJ (g:=oG) (o:=.cells #[.slice fA bF.length eY,.string aZ,.string bn,.slice gz aG.length fC] 25 (0,0)) (by (with_reducible repeat (first|refine ai ?_ _|refine ax ?_|refine ah ?_ _));exact gX.out) hb);have dV:=af.mk (bJ (g:=pq) (o:=.cells #[.int .u8 gG,.int .u8 mZ,.int .u8 mQ,.int .u8 oQ,.int .i64 mP] 45 (0,0)) (by (with_reducible repeat (first|refine ai ?_ _|refine ax ?_|refine ah ?_ _));exact gW.out) hb);have dQ:=af.mk (bC (by repeat (first|(with_reducible first|exact HB.out|apply aj|apply ag|apply ak|refine ay ?_ kZ.out|refine ay ?_ lJ.out)|exact HB.out)) hb);clear gX;clear gW;clear HB;have gX:=dW;have gW:=dV;have HB:=dQ;clear dW dV dQ;(try clear hb);(try clear hb2);(try clear hk);(try clear hi)))
        go_ret
        exact ⟨by first|rfl|(simp [aU,aT] <;> rfl)|(simp [*,aU,aT] <;> rfl),by repeat (first|(with_reducible first|exact HB.out|apply aj|apply ag|apply ak|refine ay ?_ kZ.out|refine ay ?_ lJ.out)|exact HB.out)⟩
       ·
        rw [if_neg c25] at H
        have Vj:decide (0≤t173)=false:=decide_eq_false c25
        clear c25
        obtain rfl:=Option.some.inj H
        go_wp2
        go_ret
        exact ⟨by first|rfl|(simp [aU,aT] <;> rfl)|(simp [*,aU,aT] <;> rfl),by repeat (first|(with_reducible first|exact HB.out|apply aj|apply ag|apply ak|refine ay ?_ kZ.out|refine ay ?_ lJ.out)|exact HB.out)⟩
      ·
       rw [if_neg c24] at H
       have ZH:(gG == 8)=false:=beq_eq_false_iff_ne.mpr c24
       have ZG:(gG != 8)=true:=bne_iff_ne.mpr c24
       by_cases c31:gG=9
       ·
        rw [if_pos c31] at H
        have ZE:(gG == 9)=true:=beq_iff_eq.mpr c31
        have ZC:(gG != 9)=false:=bne_eq_false_iff_eq.mpr c31
        clear c31
        by_cases c32:t172 ≥ 0
        ·
         rw [if_pos c32] at H
         have ZB:decide (0≤t172)=true:=decide_eq_true c32
         clear c32
         replace H:=Option.bind_eq_some_iff.mp H
         obtain ⟨t178,aaO,H⟩:=H
         replace H:(some t178)=some r:=H
         have A33:=af.mk aaO
         clear aaO
         obtain rfl:=Option.some.inj H
         have UT:=nD.out
         have UO:=nC.out
         obtain ⟨Dt,Dq,Dp,Dn,CY,CX,CW,CV⟩:=lZ gX.out
         obtain ⟨afw,afv,afu,aft,afs,adv,adu,adt,ads,adr⟩:=iV gW.out
         go_wp2_with (first|(go_at_call 34;(with_reducible refine (dR.calls Bg _ _ bF aZ bn _ _ aG t172 mP t178 _ ?dX ?fB ?jr ?jq A33.out).mono ?_);(case dX=>repeat (first|exact (Kd.bQ jk.out HB.out)|(with_reducible refine Kd.dG ?_ _)|(with_reducible refine Kd.dH ?_ _)|(with_reducible refine Kd.dS ?_)));(case fB=>exact jv.out);(case jr=>repeat (first|exact (Kd.bQ jL.out HB.out)|(with_reducible refine Kd.dG ?_ _)|(with_reducible refine Kd.dH ?_ _)|(with_reducible refine Kd.dS ?_)));(case jq=>exact lX.out);rintro e w37 ⟨rfl,hb⟩;have dW:=af.mk (bJ (g:=oG) (o:=.cells #[.slice fA bF.length eY,.string aZ,.string bn,.slice gz aG.length fC] 25 (0,0)) (by (with_reducible repeat (first|refine ai ?_ _|refine ax ?_|refine ah ?_ _));exact gX.out) hb);have dV:=af.mk (bJ (g:=pq) (o:=.cells #[.int .u8 gG,.int .u8 mZ,.int .u8 mQ,.int .u8 oQ,.int .i64 mP] 45 (0,0)) (by (with_reducible repeat (first|refine ai ?_ _|refine ax ?_|refine ah ?_ _));exact gW.out) hb);have dQ:=af.mk (bC (by repeat (first|(with_reducible first|exact HB.out|apply aj|apply ag|apply ak|refine ay ?_ kZ.out|refine ay ?_ lJ.out)|exact HB.out)) hb);clear gX;clear gW;clear HB;have gX:=dW;have gW:=dV;have HB:=dQ;clear dW dV dQ;(try clear hb);(try clear hb2);(try clear hk);(try clear hi)))
         go_ret
         exact ⟨by first|rfl|(simp [aU,aT] <;> rfl)|(simp [*,aU,aT] <;> rfl),by repeat (first|(with_reducible first|exact HB.out|apply aj|apply ag|apply ak|refine ay ?_ kZ.out|refine ay ?_ lJ.out)|exact HB.out)⟩
        ·
         rw [if_neg c32] at H
         have ZB:decide (0≤t172)=false:=decide_eq_false c32
         clear c32
         obtain rfl:=Option.some.inj H
         go_wp2
         go_ret
         exact ⟨by first|rfl|(simp [aU,aT] <;> rfl)|(simp [*,aU,aT] <;> rfl),by repeat (first|(with_reducible first|exact HB.out|apply aj|apply ag|apply ak|refine ay ?_ kZ.out|refine ay ?_ lJ.out)|exact HB.out)⟩
       ·
        rw [if_neg c31] at H
        have ZE:(gG == 9)=false:=beq_eq_false_iff_ne.mpr c31
        have ZC:(gG != 9)=true:=bne_iff_ne.mpr c31
        by_cases EU:gG=10
        ·
         rw [if_pos EU] at H
         have zD:(gG == 10)=true:=beq_iff_eq.mpr EU
         have ZA:(gG != 10)=false:=bne_eq_false_iff_eq.mpr EU
         clear EU
         by_cases ET:t173 ≥ 0
         ·
          rw [if_pos ET] at H
          have OC:decide (0≤t173)=true:=decide_eq_true ET
          clear ET
          replace H:=Option.bind_eq_some_iff.mp H
          obtain ⟨t179,aaN,H⟩:=H
          replace H:((bZ.f t172 t179).bind fun t180=>(some t180))=some r:=H
          have FQ:=af.mk aaN
          clear aaN
          replace H:=Option.bind_eq_some_iff.mp H
          obtain ⟨t180,aaM,H⟩:=H
          replace H:(some t180)=some r:=H
          have A41:=af.mk aaM
          clear aaM
          obtain rfl:=Option.some.inj H
          have ajx:=nD.out
          have aja:=nC.out
          obtain ⟨SQ,SN,SL,SK,QZ,QY,QX,QW⟩:=lZ gX.out
          obtain ⟨afg,aff,afe,afd,afc,ade,adb,ada,ac9,ac8⟩:=iV gW.out
          go_wp2_with (first|(go_at_call 35;(with_reducible refine (fG.calls Bg _ _ bF aZ bn _ _ aG t173 mP t179 _ ?dX ?fB ?jr ?jq FQ.out).mono ?_);(case dX=>repeat (first|exact (Kd.bQ jk.out HB.out)|(with_reducible refine Kd.dG ?_ _)|(with_reducible refine Kd.dH ?_ _)|(with_reducible refine Kd.dS ?_)));(case fB=>exact jv.out);(case jr=>repeat (first|exact (Kd.bQ jL.out HB.out)|(with_reducible refine Kd.dG ?_ _)|(with_reducible refine Kd.dH ?_ _)|(with_reducible refine Kd.dS ?_)));(case jq=>exact lX.out);rintro e w45 ⟨rfl,hb⟩;have dW:=af.mk (bJ (g:=oG) (o:=.cells #[.slice fA bF.length eY,.string aZ,.string bn,.slice gz aG.length fC] 25 (0,0)) (by (with_reducible repeat (first|refine ai ?_ _|refine ax ?_|refine ah ?_ _));exact gX.out) hb);have dV:=af.mk (bJ (g:=pq) (o:=.cells #[.int .u8 gG,.int .u8 mZ,.int .u8 mQ,.int .u8 oQ,.int .i64 mP] 45 (0,0)) (by (with_reducible repeat (first|refine ai ?_ _|refine ax ?_|refine ah ?_ _));exact gW.out) hb);have dQ:=af.mk (bC (by repeat (first|(with_reducible first|exact HB.out|apply aj|apply ag|apply ak|refine ay ?_ kZ.out|refine ay ?_ lJ.out)|exact HB.out)) hb);clear gX;clear gW;clear HB;have gX:=dW;have gW:=dV;have HB:=dQ;clear dW dV dQ;(try clear hb);(try clear hb2);(try clear hk);(try clear hi))|(go_at_call 33;(with_reducible refine (bZ.calls t172 t179 t180 _ A41.out).mono ?_);rintro e w' ⟨rfl,⟨nd,rfl⟩⟩))
          go_ret
          exact ⟨by first|rfl|(simp [aU,aT] <;> rfl)|(simp [*,aU,aT] <;> rfl),by repeat (first|(with_reducible first|exact HB.out|apply aj|apply ag|apply ak|refine ay ?_ kZ.out|refine ay ?_ lJ.out)|exact HB.out)⟩
         ·
          rw [if_neg ET] at H
          have OC:decide (0≤t173)=false:=decide_eq_false ET
          clear ET
          obtain rfl:=Option.some.inj H
          go_wp2
          go_ret
          exact ⟨by first|rfl|(simp [aU,aT] <;> rfl)|(simp [*,aU,aT] <;> rfl),by repeat (first|(with_reducible first|exact HB.out|apply aj|apply ag|apply ak|refine ay ?_ kZ.out|refine ay ?_ lJ.out)|exact HB.out)⟩
        ·
         rw [if_neg EU] at H
         have zD:(gG == 10)=false:=beq_eq_false_iff_ne.mpr EU
         have ZA:(gG != 10)=true:=bne_iff_ne.mpr EU
         by_cases c46:gG=11
         ·
          rw [if_pos c46] at H
          have Zx:(gG == 11)=true:=beq_iff_eq.mpr c46
          have Zw:(gG != 11)=false:=bne_eq_false_iff_eq.mpr c46
          clear c46
          by_cases Ub:t172 ≥ 0
          ·
           rw [if_pos Ub] at H
           have Zv:decide (0≤t172)=true:=decide_eq_true Ub
           clear Ub
           replace H:=Option.bind_eq_some_iff.mp H
           obtain ⟨t181,aaJ,H⟩:=H
           replace H:((bZ.f t173 t181).bind fun t182=>(some t182))=some r:=H
           have A48:=af.mk aaJ
           clear aaJ
           replace H:=Option.bind_eq_some_iff.mp H
           obtain ⟨t182,aaI,H⟩:=H
           replace H:(some t182)=some r:=H
           have A49:=af.mk aaI
           clear aaI
           obtain rfl:=Option.some.inj H
           have ajs:=nD.out
           have ai5:=nC.out
           obtain ⟨SI,SH,SG,SE,QV,QU,QT,QS⟩:=lZ gX.out
           obtain ⟨SC,SB,SA,Sz,aeV,QR,QQ,QP,QO,acR⟩:=iV gW.out
           go_wp2_with (first|(go_at_call 35;(with_reducible refine (fG.calls Bg _ _ bF aZ bn _ _ aG t172 mP t181 _ ?dX ?fB ?jr ?jq A48.out).mono ?_);(case dX=>repeat (first|exact (Kd.bQ jk.out HB.out)|(with_reducible refine Kd.dG ?_ _)|(with_reducible refine Kd.dH ?_ _)|(with_reducible refine Kd.dS ?_)));(case fB=>exact jv.out);(case jr=>repeat (first|exact (Kd.bQ jL.out HB.out)|(with_reducible refine Kd.dG ?_ _)|(with_reducible refine Kd.dH ?_ _)|(with_reducible refine Kd.dS ?_)));(case jq=>exact lX.out);rintro e w53 ⟨rfl,hb⟩;have dW:=af.mk (bJ (g:=oG) (o:=.cells #[.slice fA bF.length eY,.string aZ,.string bn,.slice gz aG.length fC] 25 (0,0)) (by (with_reducible repeat (first|refine ai ?_ _|refine ax ?_|refine ah ?_ _));exact gX.out) hb);have dV:=af.mk (bJ (g:=pq) (o:=.cells #[.int .u8 gG,.int .u8 mZ,.int .u8 mQ,.int .u8 oQ,.int .i64 mP] 45 (0,0)) (by (with_reducible repeat (first|refine ai ?_ _|refine ax ?_|refine ah ?_ _));exact gW.out) hb);have dQ:=af.mk (bC (by repeat (first|(with_reducible first|exact HB.out|apply aj|apply ag|apply ak|refine ay ?_ kZ.out|refine ay ?_ lJ.out)|exact HB.out)) hb);clear gX;clear gW;clear HB;have gX:=dW;have gW:=dV;have HB:=dQ;clear dW dV dQ;(try clear hb);(try clear hb2);(try clear hk);(try clear hi))|(go_at_call 33;(with_reducible refine (bZ.calls t173 t181 t182 _ A49.out).mono ?_);rintro e w' ⟨rfl,⟨nd,rfl⟩⟩))
           go_ret
           exact ⟨by first|rfl|(simp [aU,aT] <;> rfl)|(simp [*,aU,aT] <;> rfl),by repeat (first|(with_reducible first|exact HB.out|apply aj|apply ag|apply ak|refine ay ?_ kZ.out|refine ay ?_ lJ.out)|exact HB.out)⟩
          ·
           rw [if_neg Ub] at H
           have Zv:decide (0≤t172)=false:=decide_eq_false Ub
           clear Ub
           obtain rfl:=Option.some.inj H
           go_wp2
           go_ret
           exact ⟨by first|rfl|(simp [aU,aT] <;> rfl)|(simp [*,aU,aT] <;> rfl),by repeat (first|(with_reducible first|exact HB.out|apply aj|apply ag|apply ak|refine ay ?_ kZ.out|refine ay ?_ lJ.out)|exact HB.out)⟩
         ·
          rw [if_neg c46] at H
          have Zx:(gG == 11)=false:=beq_eq_false_iff_ne.mpr c46
          have Zw:(gG != 11)=true:=bne_iff_ne.mpr c46
          by_cases PE:gG=12
          ·
           rw [if_pos PE] at H
           have Zu:(gG == 12)=true:=beq_iff_eq.mpr PE
           have Zt:(gG != 12)=false:=bne_eq_false_iff_eq.mpr PE
           clear PE
           replace H:=Option.bind_eq_some_iff.mp H
           obtain ⟨t183,aaH,H⟩:=H
           replace H:((bZ.f t172 t183).bind fun t184=>(some t184))=some r:=H
           have A55:=af.mk aaH
           clear aaH
           replace H:=Option.bind_eq_some_iff.mp H
           obtain ⟨t184,aaG,H⟩:=H
           replace H:(some t184)=some r:=H
           have A56:=af.mk aaG
           clear aaG
           obtain rfl:=Option.some.inj H
           have YZ:=nD.out
           have YV:=nC.out
           obtain ⟨Sv,Su,Sr,Sm,QN,QM,QL,QK⟩:=lZ gX.out
           obtain ⟨JX,JW,JV,JU,JS,Ju,Jt,Js,Jr,Jq⟩:=iV gW.out
           go_wp2_with (first|((with_reducible refine bV (f:=36) rfl ?_);refine fU (some 89) rfl rfl Tryd.func36 (by kernel_rfl) rfl #[.agg #[.slice fA bF.length eY,.string aZ,.string bn,.slice gz aG.length fC],.int .u8 mQ] rfl (by (try simp only [List.map_toArray,List.map_cons,List.map_nil]);first|done|rfl|(simp only [List.length_drop,List.length_take];rfl)) ?_;(with_reducible refine (eP.calls Bg _ _ bF aZ bn _ _ aG mQ t183 _ ?dX ?fB ?jr ?jq A55.out).mono ?_);(case dX=>repeat (first|exact (Kd.bQ jk.out HB.out)|(with_reducible refine Kd.dG ?_ _)|(with_reducible refine Kd.dH ?_ _)|(with_reducible refine Kd.dS ?_)));(case fB=>exact jv.out);(case jr=>repeat (first|exact (Kd.bQ jL.out HB.out)|(with_reducible refine Kd.dG ?_ _)|(with_reducible refine Kd.dH ?_ _)|(with_reducible refine Kd.dS ?_)));(case jq=>exact lX.out);rintro e w60 ⟨rfl,hb⟩;refine ⟨_,rfl,?_⟩;have dW:=af.mk (bJ (g:=oG) (o:=.cells #[.slice fA bF.length eY,.string aZ,.string bn,.slice gz aG.length fC] 25 (0,0)) (by (with_reducible repeat (first|refine ai ?_ _|refine ax ?_|refine ah ?_ _));exact gX.out) hb);have dV:=af.mk (bJ (g:=pq) (o:=.cells #[.int .u8 gG,.int .u8 mZ,.int .u8 mQ,.int .u8 oQ,.int .i64 mP] 45 (0,0)) (by (with_reducible repeat (first|refine ai ?_ _|refine ax ?_|refine ah ?_ _));exact gW.out) hb);have dQ:=af.mk (bC (by repeat (first|(with_reducible first|exact HB.out|apply aj|apply ag|apply ak|refine ay ?_ kZ.out|refine ay ?_ lJ.out)|exact HB.out)) hb);clear gX;clear gW;clear HB;have gX:=dW;have gW:=dV;have HB:=dQ;clear dW dV dQ;(try clear hb);(try clear hb2);(try clear hk);(try clear hi))|((with_reducible refine bV (f:=33) rfl ?_);refine fU (some 90) rfl rfl Tryd.func33 (by kernel_rfl) rfl #[.int .i64 t172,.int .i64 t183] rfl (by (try simp only [List.map_toArray,List.map_cons,List.map_nil]);first|done|rfl|(simp only [List.length_drop,List.length_take];rfl)) ?_;(with_reducible refine (bZ.calls t172 t183 t184 _ A56.out).mono ?_);rintro e w' ⟨rfl,⟨nd,rfl⟩⟩;refine ⟨_,rfl,?_⟩))
           go_ret
           exact ⟨by first|rfl|(simp [aU,aT] <;> rfl)|(simp [*,aU,aT] <;> rfl),by repeat (first|(with_reducible first|exact HB.out|apply aj|apply ag|apply ak|refine ay ?_ kZ.out|refine ay ?_ lJ.out)|exact HB.out)⟩
          ·
           rw [if_neg PE] at H
           have Zu:(gG == 12)=false:=beq_eq_false_iff_ne.mpr PE
           have Zt:(gG != 12)=true:=bne_iff_ne.mpr PE
           by_cases Ua:gG=13
           ·
            rw [if_pos Ua] at H
            have Zr:(gG == 13)=true:=beq_iff_eq.mpr Ua
            have Zq:(gG != 13)=false:=bne_eq_false_iff_eq.mpr Ua
            clear Ua
            replace H:=Option.bind_eq_some_iff.mp H
            obtain ⟨t185,aaF,H⟩:=H
            replace H:((bZ.f t173 t185).bind fun t186=>(some t186))=some r:=H
            have A62:=af.mk aaF
            clear aaF
            replace H:=Option.bind_eq_some_iff.mp H
            obtain ⟨t186,aaE,H⟩:=H
            replace H:(some t186)=some r:=H
            have A63:=af.mk aaE
            clear aaE
            obtain rfl:=Option.some.inj H
            have UR:=nD.out
            have UN:=nC.out
            obtain ⟨JR,JQ,JP,JO,Jp,Jo,Jn,Jm⟩:=lZ gX.out
            obtain ⟨aev,aeu,aet,aes,aer,acp,aco,acn,acm,ack⟩:=iV gW.out
            go_wp2_with (first|((with_reducible refine bV (f:=36) rfl ?_);refine fU (some 97) rfl rfl Tryd.func36 (by kernel_rfl) rfl #[.agg #[.slice fA bF.length eY,.string aZ,.string bn,.slice gz aG.length fC],.int .u8 mZ] rfl (by (try simp only [List.map_toArray,List.map_cons,List.map_nil]);first|done|rfl|(simp only [List.length_drop,List.length_take];rfl)) ?_;(with_reducible refine (eP.calls Bg _ _ bF aZ bn _ _ aG mZ t185 _ ?dX ?fB ?jr ?jq A62.out).mono ?_);(case dX=>repeat (first|exact (Kd.bQ jk.out HB.out)|(with_reducible refine Kd.dG ?_ _)|(with_reducible refine Kd.dH ?_ _)|(with_reducible refine Kd.dS ?_)));(case fB=>exact jv.out);(case jr=>repeat (first|exact (Kd.bQ jL.out HB.out)|(with_reducible refine Kd.dG ?_ _)|(with_reducible refine Kd.dH ?_ _)|(with_reducible refine Kd.dS ?_)));(case jq=>exact lX.out);rintro e w67 ⟨rfl,hb⟩;refine ⟨_,rfl,?_⟩;have dW:=af.mk (bJ (g:=oG) (o:=.cells #[.slice fA bF.length eY,.string aZ,.string bn,.slice gz aG.length fC] 25 (0,0)) (by (with_reducible repeat (first|refine ai ?_ _|refine ax ?_|refine ah ?_ _));exact gX.out) hb);have dV:=af.mk (bJ (g:=pq) (o:=.cells #[.int .u8 gG,.int .u8 mZ,.int .u8 mQ,.int .u8 oQ,.int .i64 mP] 45 (0,0)) (by (with_reducible repeat (first|refine ai ?_ _|refine ax ?_|refine ah ?_ _));exact gW.out) hb);have dQ:=af.mk (bC (by repeat (first|(with_reducible first|exact HB.out|apply aj|apply ag|apply ak|refine ay ?_ kZ.out|refine ay ?_ lJ.out)|exact HB.out)) hb);clear gX;clear gW;clear HB;have gX:=dW;have gW:=dV;have HB:=dQ;clear dW dV dQ;(try clear hb);(try clear hb2);(try clear hk);(try clear hi))|((with_reducible refine bV (f:=33) rfl ?_);refine fU (some 98) rfl rfl Tryd.func33 (by kernel_rfl) rfl #[.int .i64 t173,.int .i64 t185] rfl (by (try simp only [List.map_toArray,List.map_cons,List.map_nil]);first|done|rfl|(simp only [List.length_drop,List.length_take];rfl)) ?_;(with_reducible refine (bZ.calls t173 t185 t186 _ A63.out).mono ?_);rintro e w' ⟨rfl,⟨nd,rfl⟩⟩;refine ⟨_,rfl,?_⟩))
            go_ret
            exact ⟨by first|rfl|(simp [aU,aT] <;> rfl)|(simp [*,aU,aT] <;> rfl),by repeat (first|(with_reducible first|exact HB.out|apply aj|apply ag|apply ak|refine ay ?_ kZ.out|refine ay ?_ lJ.out)|exact HB.out)⟩
           ·
            rw [if_neg Ua] at H
            have Zr:(gG == 13)=false:=beq_eq_false_iff_ne.mpr Ua
            have Zq:(gG != 13)=true:=bne_iff_ne.mpr Ua
            obtain rfl:=Option.some.inj H
            go_wp2
            go_ret
            exact ⟨by first|rfl|(simp [aU,aT] <;> rfl)|(simp [*,aU,aT] <;> rfl),by repeat (first|(with_reducible first|exact HB.out|apply aj|apply ag|apply ak|refine ay ?_ kZ.out|refine ay ?_ lJ.out)|exact HB.out)⟩
end Go.Proofs.YtgfnpdfhdgenbaaDoor.P
end
