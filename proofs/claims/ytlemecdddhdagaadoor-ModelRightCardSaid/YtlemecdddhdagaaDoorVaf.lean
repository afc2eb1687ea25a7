/- Parts of the proof of ModelRight: what the functions that it reaches compute, and plain facts about that. -/
import Derived.Test.YtlemecdddhdagaaDoorVab
import Derived.Test.YtlemecdddhdagaaDoorVad
import Derived.Test.YtlemecdddhdagaaDoorVae
set_option linter.unusedVariables false
set_option linter.unusedSimpArgs false
section
namespace Go.Proofs.YtlemecdddhdagaaDoor.P
open Go.RowKit Go.Proofs.ag.bI Go.Proofs.ag.dM Go.Proofs.ag.dZ
attribute [local go_sem] kU kS lW lV jS jR kT kR
mutual
def bV.j0:Nat→Int→Int→Int→Bool→List ByteArray→ByteArray→ByteArray→List (gZ)→Int→Int→Int→Int→Int→Option (Bool)
 | 0,_,_,_,_,_,_,_,_,_,_,_,_,_=>none
 | k+1,x5,x6,x20,QF,pG,pF,pz,pq,CZ,qU,uH,wK,sK=>if QF=true then ((dF.f k (([qU]:List Int))).bind fun t129=>(some t129)) else (if x20=2 then ((dF.f k (([qU,uH,wK]:List Int))).bind fun t133=>(some t133)) else (if x20=5 then (bV.j1 k x5 x6 x20 (x20 == 5) pG pF pz pq CZ qU uH wK sK) else (bV.j1 k x5 x6 x20 (x20 == 6) pG pF pz pq CZ qU uH wK sK)))
def bV.j1:Nat→Int→Int→Int→Bool→List ByteArray→ByteArray→ByteArray→List (gZ)→Int→Int→Int→Int→Int→Option (Bool)
 | 0,_,_,_,_,_,_,_,_,_,_,_,_,_=>none
 | k+1,x5,x6,x20,x39,pG,pF,pz,pq,CZ,qU,uH,wK,sK=>if x39=true then (some (decide (x5 ≥ 0))) else (if x20=7 then ((gU.f x5 x6).bind fun t134=>(some t134)) else (if x20=8 then ((dF.f k (([qU]:List Int))).bind fun t138=>(if t138=true then ((gI.f k pG pF pz pq x6 sK).bind fun t139=>(some t139)) else (some false))) else (if x20=9 then ((dF.f k (([uH]:List Int))).bind fun t143=>(if t143=true then ((gI.f k pG pF pz pq x5 sK).bind fun t144=>(some t144)) else (some false))) else (if x20=10 then ((gK.f k pG pF pz pq x6 sK).bind fun Qc=>((gU.f x5 Qc.1).bind fun t147=>(some t147))) else (if x20=11 then ((gK.f k pG pF pz pq x5 sK).bind fun Qb=>((gU.f x6 Qb.1).bind fun t150=>(some t150))) else (if x20=12 then ((jf.f k pG pF pz pq uH).bind fun t151=>((gU.f x5 t151).bind fun t152=>(some t152))) else (if x20=13 then ((jf.f k pG pF pz pq qU).bind fun t153=>((gU.f x6 t153).bind fun t154=>(some t154))) else (if x20=15 then ((dF.f k (([qU]:List Int))).bind fun t158=>(if t158=true then ((gu.f k pG pF pz pq wK).bind fun t159=>((gU.f x6 t159).bind fun t160=>(some t160))) else (some false))) else (some true)))))))))
end
def bV.f (k:Nat) (aY:List ByteArray) (aU:ByteArray) (aV:ByteArray) (aI:List (gZ)) (bY:Int) (gq:Int) (gJ:Int) (ik:Int) (gW:Int):Option (Bool):=(gu.f k aY aU aV aI gq).bind fun t124=>((gu.f k aY aU aV aI gJ).bind fun t125=>(if bY=1 then (bV.j0 k t124 t125 bY (bY == 1) aY aU aV aI bY gq gJ ik gW) else (if bY=4 then (bV.j0 k t124 t125 bY (bY == 4) aY aU aV aI bY gq gJ ik gW) else (bV.j0 k t124 t125 bY (bY == 14) aY aU aV aI bY gq gJ ik gW))))
theorem bV.gY:∀ k,(∀ y0 y1 y2 y3 y4 y5 y6 y7 y8 y9 zA Gj Gi,dN (bV.j0 k y0 y1 y2 y3 y4 y5 y6 y7 y8 y9 zA Gj Gi) (bV.j0 (k+1) y0 y1 y2 y3 y4 y5 y6 y7 y8 y9 zA Gj Gi))∧(∀ y0 y1 y2 y3 y4 y5 y6 y7 y8 y9 zA Gj Gi,dN (bV.j1 k y0 y1 y2 y3 y4 y5 y6 y7 y8 y9 zA Gj Gi) (bV.j1 (k+1) y0 y1 y2 y3 y4 y5 y6 y7 y8 y9 zA Gj Gi))
 | 0=>⟨fun _ _ _ _ _ _ _ _ _ _ _ _ _ r h=>by simp [bV.j0] at h,fun _ _ _ _ _ _ _ _ _ _ _ _ _ r h=>by simp [bV.j1] at h⟩
 | k+1=>by
  obtain ⟨lF,ih1⟩:=bV.gY k
  refine ⟨?_,?_⟩
  ·
   intro y0 y1 y2 y3 y4 y5 y6 y7 y8 y9 zA Gj Gi
   unfold bV.j0
   repeat' with_reducible first|apply lF|apply ih1|apply jf.mono|apply gu.mono|apply gK.mono|apply dF.mono|apply gI.mono|exact dN.refl _|exact dN.none _|refine dN.ite ?_ ?_|refine dN.bind ?_ (fun _=>?_)
  ·
   intro y0 y1 y2 y3 y4 y5 y6 y7 y8 y9 zA Gj Gi
   unfold bV.j1
   repeat' with_reducible first|apply lF|apply ih1|apply jf.mono|apply gu.mono|apply gK.mono|apply dF.mono|apply gI.mono|exact dN.refl _|exact dN.none _|refine dN.ite ?_ ?_|refine dN.bind ?_ (fun _=>?_)
theorem bV.mono:∀ a0 a1 a2 a3 a4 a5 a6 a7 a8 k,dN (bV.f k a0 a1 a2 a3 a4 a5 a6 a7 a8) (bV.f (k+1) a0 a1 a2 a3 a4 a5 a6 a7 a8):=by
 intro a0 a1 a2 a3 a4 a5 a6 a7 a8 k
 obtain ⟨lF,ih1⟩:=bV.gY k
 unfold bV.f
 repeat' with_reducible first|apply lF|apply ih1|apply jf.mono|apply gu.mono|apply gK.mono|apply dF.mono|apply gI.mono|exact dN.refl _|exact dN.none _|refine dN.ite ?_ ?_|refine dN.bind ?_ (fun _=>?_)
def bV.T1:Bool × List (List Nat × List Nat):=(true,[([],[]),([],[]),([1],[1]),([0,2],[0,2]),([],[]),([],[]),([5],[5]),([4,6,3],[4,6]),([3,7,0,1,2,3],[3]),([7,8,0,1,2,3,4,5,6,7,8],[7])])
def bV.B1:List Nat:=[0,0,2,7,0,0,32,127,255,511]
theorem bV.Yf:qg .any (opsOf Tryd.f34 1)=bV.T1:=by kernel_rfl
theorem bV.Qe:qV bV.T1.2 bV.B1=true:=by kernel_rfl
set_option maxHeartbeats 8000000 in
set_option maxRecDepth 100000 in
theorem bV.calls (k:Nat) (eu:Option Addr) (ed:Nat) (aY:List ByteArray) (aU:ByteArray) (aV:ByteArray) (fV:Option Addr) (eX:Nat) (aI:List (gZ)) (bY:Int) (gq:Int) (gJ:Int) (ik:Int) (gW:Int) (r:Bool) (w:World) (jK:Kd.C Kd.string w eu aY.length aY) (jM:aY.length≤ed) (jJ:Kd.C tZ w fV aI.length aI) (jL:aI.length≤eX) (h:bV.f k aY aU aV aI bY gq gJ ik gW=some r) :
  Calls Tryd.prog 34 #[.agg #[.slice eu aY.length ed,.string aU,.string aV,.slice fV aI.length eX],.agg #[.int .u8 bY,.int .u8 gq,.int .u8 gJ,.int .u8 ik,.int .i64 gW]] w fun e w'=>e=.returned (.bool r)∧Below w.heap.size w w':=by
 have xM:=Tryd.underlying25
 have Bi:=Tryd.underlying55
 have iq:=ae.mk jK
 have iC:=ae.mk jM
 clear jK jM
 have jG:=ae.mk jJ
 have jW:=ae.mk jL
 clear jJ jL
 have HB:=ae.mk (Below.refl w.heap.size w)
 have H:((gu.f k aY aU aV aI gq).bind fun t124=>((gu.f k aY aU aV aI gJ).bind fun t125=>(if bY=1 then (bV.j0 k t124 t125 bY (bY == 1) aY aU aV aI bY gq gJ ik gW) else (if bY=4 then (bV.j0 k t124 t125 bY (bY == 4) aY aU aV aI bY gq gJ ik gW) else (bV.j0 k t124 t125 bY (bY == 14) aY aU aV aI bY gq gJ ik gW)))))=some r:=h
 clear h
 replace H:=Option.bind_eq_some_iff.mp H
 obtain ⟨t124,xB,H⟩:=H
 replace H:((gu.f k aY aU aV aI gJ).bind fun t125=>(if bY=1 then (bV.j0 k t124 t125 bY (bY == 1) aY aU aV aI bY gq gJ ik gW) else (if bY=4 then (bV.j0 k t124 t125 bY (bY == 4) aY aU aV aI bY gq gJ ik gW) else (bV.j0 k t124 t125 bY (bY == 14) aY aU aV aI bY gq gJ ik gW))))=some r:=H
 have A3:=ae.mk xB
 clear xB
 replace H:=Option.bind_eq_some_iff.mp H
 obtain ⟨t125,Be,H⟩:=H
 replace H:(if bY=1 then (bV.j0 k t124 t125 bY (bY == 1) aY aU aV aI bY gq gJ ik gW) else (if bY=4 then (bV.j0 k t124 t125 bY (bY == 4) aY aU aV aI bY gq gJ ik gW) else (bV.j0 k t124 t125 bY (bY == 14) aY aU aV aI bY gq gJ ik gW)))=some r:=H
 have A4:=ae.mk Be
 clear Be
 have H8:=ae.mk H
 clear H
 go_enter Tryd.func34,Tryd.ntmps34
 try go_wp2_with (first|((with_reducible refine dL (N:=2) rfl ?_);refine fF ?hg (N:=2) ?hd (cs:=#[.slice eu aY.length ed,.string aU,.string aV,.slice fV aI.length eX]) (t:=25) ?hr ?_;(case hd=>rfl);(case hg=>rfl);(case hr=>first|(go_simp;done)|(go_simp;rfl));intro iI hg w6 hbox hb;have dV:=ae.mk (bg (by repeat (first|(with_reducible first|exact HB.out|apply ah|apply af|apply ai)|exact HB.out)) hb);have dU:=ae.mk (hbox);have dR:=ae.mk ((by rw [hg];exact (bW (by repeat (first|(with_reducible first|exact HB.out|apply ah|apply af|apply ai)|exact HB.out))):w.heap.size≤iI));have gQ:=dR;clear HB;have HB:=dV;have dO:=dU;have an4:=dR;have iP:=gQ;clear dV dU dR gQ;clear hb hbox hg)|((with_reducible refine dL (N:=3) rfl ?_);refine fF ?hg (N:=3) ?hd (cs:=#[.int .u8 bY,.int .u8 gq,.int .u8 gJ,.int .u8 ik,.int .i64 gW]) (t:=55) ?hr ?_;(case hd=>rfl);(case hg=>rfl);(case hr=>first|(go_simp;done)|(go_simp;rfl));intro fA hg w7 hbox hb;have dV:=ae.mk (bf (g:=iI) (o:=.cells #[.slice eu aY.length ed,.string aU,.string aV,.slice fV aI.length eX] 25 (0,0)) (by (with_reducible repeat (first|refine au ?_ _|refine ay ?_|refine ak ?_ _));exact dO.out) hb);have dU:=ae.mk (bg (by repeat (first|(with_reducible first|exact HB.out|apply ah|apply af|apply ai|refine aj ?_ iP.out)|exact HB.out)) hb);have dR:=ae.mk (hbox);have gQ:=ae.mk ((by rw [hg];exact (bW (by repeat (first|(with_reducible first|exact HB.out|apply ah|apply af|apply ai|refine aj ?_ iP.out)|exact HB.out))):w.heap.size≤fA));have lQ:=gQ;have mr:=ae.mk ((by rw [hg];exact Nat.ne_of_lt (kC (g:=iI) (o:=.cells #[.slice eu aY.length ed,.string aU,.string aV,.slice fV aI.length eX] 25 (0,0)) (by (with_reducible repeat (first|refine au ?_ _|refine ay ?_|refine ak ?_ _));exact dO.out)):iI ≠ fA));have nJ:=ae.mk mr.out.symm;clear dO;clear HB;have dO:=dV;have HB:=dU;have bH:=dR;have an3:=gQ;have iQ:=lQ;have kQ:=mr;have kP:=nJ;clear dV dU dR gQ lQ mr nJ;clear hb hbox hg))
 have dV:=ae.mk (ay dO.out)
 have dU:=ae.mk (ay bH.out)
 have dR:=ae.mk (ai HB.out)
 clear dO
 clear bH
 clear HB
 have dO:=dV
 have bH:=dU
 have HB:=dR
 clear dV dU dR
 refine o5 (n:=10) (S:=fun w'=>w'.cell? ⟨iI,0,none⟩=some (.slice eu aY.length ed)∧w'.cell? ⟨iI,1,none⟩=some (.string aU)∧w'.cell? ⟨iI,2,none⟩=some (.string aV)∧w'.cell? ⟨iI,3,none⟩=some (.slice fV aI.length eX)∧w'.cell? ⟨fA,0,none⟩=some (.int .u8 bY)∧w'.cell? ⟨fA,1,none⟩=some (.int .u8 gq)∧w'.cell? ⟨fA,2,none⟩=some (.int .u8 gJ)∧w'.cell? ⟨fA,3,none⟩=some (.int .u8 ik)∧w'.cell? ⟨fA,4,none⟩=some (.int .i64 gW)) (ds:=[]) #[false,false,false,false,false,false,false,false,false,false] (by kernel_rfl) rfl rfl ⟨(ax dO.out 0).trans rfl,(ax dO.out 1).trans rfl,(ax dO.out 2).trans rfl,(ax dO.out 3).trans rfl,(ax bH.out 0).trans rfl,(ax bH.out 1).trans rfl,(ax bH.out 2).trans rfl,(ax bH.out 3).trans rfl,(ax bH.out 4).trans rfl⟩ (fun hHeld=>?_);refine qB bV.Yf bV.Qe (fun lh BA=>?_)
 generalize w7.drew=w8 at dO bH HB hHeld ⊢
 refine dX (i:=1) (N:=some 12) (v:=?_) (a':=?_) #[false,true,false,false,false,false,false,false,false,false] rfl rfl (iF lh.out (by kernel_rfl)) (fun _ _ _ h=>h) (Or.inl ⟨by rfl,?_⟩) ?_ ?_
 rotate_left
 ·
  intro w'
  go_simp
  with_reducible rfl
 rotate_left
 ·
  simp only [Act.put,List.setIfInBounds_toArray,List.set_cons_zero,List.set_cons_succ,bG,bJ]
  rfl
 refine dX (i:=5) (N:=some 16) (v:=?_) (a':=?_) #[false,true,false,false,false,true,false,false,false,false] rfl rfl (iF lh.out (by kernel_rfl)) (fun _ _ _ h=>h) (Or.inl ⟨by rfl,?_⟩) ?_ ?_
 rotate_left
 ·
  intro w'
  go_simp
  with_reducible rfl
 rotate_left
 ·
  simp only [Act.put,List.setIfInBounds_toArray,List.set_cons_zero,List.set_cons_succ,bG,bJ]
  rfl
 refine jg (i:=0) (N:=some 11) (v:=?_) (a':=?_) #[true,true,false,false,false,true,false,false,false,false] rfl rfl (kJ lh.out BA.out (by kernel_rfl)) (fun _ _ _ h=>h) (Or.inl ⟨by rfl,?_⟩) hHeld ?_ ?_
 rotate_left
 ·
  rintro w' ⟨s0,s1,s2,s3,s4,s5,s6,s7,s8⟩
  go_simp
  with_reducible rfl
 rotate_left
 ·
  simp only [Act.put,List.setIfInBounds_toArray,List.set_cons_zero,List.set_cons_succ,bG,bJ]
  rfl
 refine jg (i:=2) (N:=some 13) (v:=?_) (a':=?_) #[true,true,true,false,false,true,false,false,false,false] rfl rfl (kJ lh.out BA.out (by kernel_rfl)) (fun _ _ _ h=>h) (Or.inl ⟨by rfl,?_⟩) hHeld ?_ ?_
 rotate_left
 ·
  rintro w' ⟨s0,s1,s2,s3,s4,s5,s6,s7,s8⟩
  go_simp
  with_reducible rfl
 rotate_left
 ·
  simp only [Act.put,List.setIfInBounds_toArray,List.set_cons_zero,List.set_cons_succ,bG,bJ]
  rfl
 refine jg (i:=4) (N:=some 15) (v:=?_) (a':=?_) #[true,true,true,false,true,true,false,false,false,false] rfl rfl (kJ lh.out BA.out (by kernel_rfl)) (fun _ _ _ h=>h) (Or.inl ⟨by rfl,?_⟩) hHeld ?_ ?_
 rotate_left
 ·
  rintro w' ⟨s0,s1,s2,s3,s4,s5,s6,s7,s8⟩
  go_simp
  with_reducible rfl
 rotate_left
 ·
  simp only [Act.put,List.setIfInBounds_toArray,List.set_cons_zero,List.set_cons_succ,bG,bJ]
  rfl
 refine jg (i:=6) (N:=some 17) (v:=?_) (a':=?_) #[true,true,true,false,true,true,true,false,false,false] rfl rfl (kJ lh.out BA.out (by kernel_rfl)) (fun _ _ _ h=>h) (Or.inl ⟨by rfl,?_⟩) hHeld ?_ ?_
 rotate_left
 ·
  rintro w' ⟨s0,s1,s2,s3,s4,s5,s6,s7,s8⟩
  go_simp
  with_reducible rfl
 rotate_left
 ·
  simp only [Act.put,List.setIfInBounds_toArray,List.set_cons_zero,List.set_cons_succ,bG,bJ]
  rfl
 refine o6 (i:=3) (N:=some 14) #[true,true,true,true,true,true,true,false,false,false] rfl rfl (mY lh.out (by kernel_rfl)) (by decide) (fun K hK=>?_)
 refine oI Tryd.func36 (by kernel_rfl) rfl #[.agg #[.slice eu aY.length ed,.string aU,.string aV,.slice fV aI.length eX],.int .u8 gq] (by rfl) rfl rfl (by (try simp only [List.map_toArray,List.map_cons,List.map_nil]);first|done|rfl|(simp only [List.length_drop,List.length_take];rfl)) ?_
 with_reducible refine (gu.calls k _ _ aY aU aV _ _ aI gq t124 _ ?cu ?dw ?iM ?iL A3.out).mono ?_
 (case cu=>repeat (first|exact (Kd.bK iq.out HB.out)|(with_reducible refine Kd.bT ?_ _)|(with_reducible refine Kd.bQ ?_ _)|(with_reducible refine Kd.dD ?_)))
 (case dw=>exact iC.out)
 (case iM=>repeat (first|exact (Kd.bK jG.out HB.out)|(with_reducible refine Kd.bT ?_ _)|(with_reducible refine Kd.bQ ?_ _)|(with_reducible refine Kd.dD ?_)))
 (case iL=>exact jW.out)
 rintro e w9 ⟨rfl,hb⟩
 refine ⟨_,rfl,?_⟩
 have dV:=ae.mk (bf (g:=iI) (o:=.cells #[.slice eu aY.length ed,.string aU,.string aV,.slice fV aI.length eX] 25 (0,0)) (by (with_reducible repeat (first|refine au ?_ _|refine ay ?_|refine ak ?_ _));exact dO.out) hb)
 have dU:=ae.mk (bf (g:=fA) (o:=.cells #[.int .u8 bY,.int .u8 gq,.int .u8 gJ,.int .u8 ik,.int .i64 gW] 55 (0,0)) (by (with_reducible repeat (first|refine au ?_ _|refine ay ?_|refine ak ?_ _));exact bH.out) hb)
 have dR:=ae.mk (bg (by repeat (first|(with_reducible first|exact HB.out|apply ah|apply af|apply ai|refine aj ?_ iP.out|refine aj ?_ iQ.out)|exact HB.out)) hb)
 clear dO
 clear bH
 clear HB
 have dO:=dV
 have bH:=dU
 have HB:=dR
 clear dV dU dR
 (try clear hb)
 (try clear hb2)
 (try clear hk)
 (try clear hi)
 refine hK.out _ _ ⟨(ax dO.out 0).trans rfl,(ax dO.out 1).trans rfl,(ax dO.out 2).trans rfl,(ax dO.out 3).trans rfl,(ax bH.out 0).trans rfl,(ax bH.out 1).trans rfl,(ax bH.out 2).trans rfl,(ax bH.out 3).trans rfl,(ax bH.out 4).trans rfl⟩ (fun hHeld=>?_)
 clear hK K
 refine jm (a':=?_) ?_ ?_
 rotate_left
 ·
  show Act.put _ (some 14) _=_
  simp only [Act.put,List.setIfInBounds_toArray,List.set_cons_zero,List.set_cons_succ,bG,bJ]
  rfl
 refine o6 (i:=7) (N:=some 18) #[true,true,true,true,true,true,true,true,false,false] rfl rfl (mY lh.out (by kernel_rfl)) (by decide) (fun K hK=>?_)
 refine oI Tryd.func36 (by kernel_rfl) rfl #[.agg #[.slice eu aY.length ed,.string aU,.string aV,.slice fV aI.length eX],.int .u8 gJ] (by rfl) rfl rfl (by (try simp only [List.map_toArray,List.map_cons,List.map_nil]);first|done|rfl|(simp only [List.length_drop,List.length_take];rfl)) ?_
 with_reducible refine (gu.calls k _ _ aY aU aV _ _ aI gJ t125 _ ?cu ?dw ?iM ?iL A4.out).mono ?_
 (case cu=>repeat (first|exact (Kd.bK iq.out HB.out)|(with_reducible refine Kd.bT ?_ _)|(with_reducible refine Kd.bQ ?_ _)|(with_reducible refine Kd.dD ?_)))
 (case dw=>exact iC.out)
 (case iM=>repeat (first|exact (Kd.bK jG.out HB.out)|(with_reducible refine Kd.bT ?_ _)|(with_reducible refine Kd.bQ ?_ _)|(with_reducible refine Kd.dD ?_)))
 (case iL=>exact jW.out)
 rintro e w10 ⟨rfl,hb⟩
 refine ⟨_,rfl,?_⟩
 have dV:=ae.mk (bf (g:=iI) (o:=.cells #[.slice eu aY.length ed,.string aU,.string aV,.slice fV aI.length eX] 25 (0,0)) (by (with_reducible repeat (first|refine au ?_ _|refine ay ?_|refine ak ?_ _));exact dO.out) hb)
 have dU:=ae.mk (bf (g:=fA) (o:=.cells #[.int .u8 bY,.int .u8 gq,.int .u8 gJ,.int .u8 ik,.int .i64 gW] 55 (0,0)) (by (with_reducible repeat (first|refine au ?_ _|refine ay ?_|refine ak ?_ _));exact bH.out) hb)
 have dR:=ae.mk (bg (by repeat (first|(with_reducible first|exact HB.out|apply ah|apply af|apply ai|refine aj ?_ iP.out|refine aj ?_ iQ.out)|exact HB.out)) hb)
 clear dO
 clear bH
 clear HB
 have dO:=dV
 have bH:=dU
 have HB:=dR
 clear dV dU dR
 (try clear hb)
 (try clear hb2)
 (try clear hk)
 (try clear hi)
 refine hK.out _ _ ⟨(ax dO.out 0).trans rfl,(ax dO.out 1).trans rfl,(ax dO.out 2).trans rfl,(ax dO.out 3).trans rfl,(ax bH.out 0).trans rfl,(ax bH.out 1).trans rfl,(ax bH.out 2).trans rfl,(ax bH.out 3).trans rfl,(ax bH.out 4).trans rfl⟩ (fun hHeld=>?_)
 clear hK K
 refine jm (a':=?_) ?_ ?_
 rotate_left
 ·
  show Act.put _ (some 18) _=_
  simp only [Act.put,List.setIfInBounds_toArray,List.set_cons_zero,List.set_cons_succ,bG,bJ]
  rfl
 refine dX (i:=8) (N:=some 5) (v:=?_) (a':=?_) #[true,true,true,true,true,true,true,true,true,false] rfl rfl (iF lh.out (by kernel_rfl)) (fun _ _ _ h=>h) (Or.inl ⟨by rfl,?_⟩) ?_ ?_
 rotate_left
 ·
  intro w'
  go_simp
  with_reducible rfl
 rotate_left
 ·
  simp only [Act.put,List.setIfInBounds_toArray,List.set_cons_zero,List.set_cons_succ,bG,bJ]
  rfl
 refine dX (i:=9) (N:=some 6) (v:=?_) (a':=?_) #[true,true,true,true,true,true,true,true,true,true] rfl rfl (iF lh.out (by kernel_rfl)) (fun _ _ _ h=>h) (Or.inl ⟨by rfl,?_⟩) ?_ ?_
 rotate_left
 ·
  intro w'
  go_simp
  with_reducible rfl
 rotate_left
 ·
  simp only [Act.put,List.setIfInBounds_toArray,List.set_cons_zero,List.set_cons_succ,bG,bJ]
  rfl
 refine rH (vz lh.out (by kernel_rfl)) ?_
 have abd:=kP.out
 have aa2:=kQ.out
 have DY:w10.cell? ⟨fA,0,none⟩=some (.int .u8 bY):=(ax bH.out 0).trans rfl
 have DX:w10.cell? ⟨fA,1,none⟩=some (.int .u8 gq):=(ax bH.out 1).trans rfl
 have DW:w10.cell? ⟨fA,2,none⟩=some (.int .u8 gJ):=(ax bH.out 2).trans rfl
 have DV:w10.cell? ⟨fA,3,none⟩=some (.int .u8 ik):=(ax bH.out 3).trans rfl
 have VW:w10.cell? ⟨fA,4,none⟩=some (.int .i64 gW):=(ax bH.out 4).trans rfl
 have DK:=aC bH.out 0
 have DJ:=aC bH.out 1
 have DI:=aC bH.out 2
 have DF:=aC bH.out 3
 have Ut:=aC bH.out 4
 go_upto_if 21 with (fail)
 go_cut [21] (fun v21 wc=>∃ (kq:Nat) (Ig:Bool),v21=.bool Ig∧ae (bV.j0 kq t124 t125 bY Ig aY aU aV aI bY gq gJ ik gW=some r)∧ae (kq≤k)∧ae (wc.heap[iI]? = some (.cells #[(.slice eu aY.length ed),.string aU,.string aV,(.slice fV aI.length eX)] 25 (0,0)))∧ae (wc.heap[fA]? = some (.cells #[.int .u8 bY,.int .u8 gq,.int .u8 gJ,.int .u8 ik,.int .i64 gW] 55 (0,0)))∧ae (Below w.heap.size w wc))
 case first =>
  have H:=H8.out
  clear H8
  by_cases c13:bY=1
  ·
   rw [if_pos c13] at H
   have l9:(bY == 1)=true:=beq_iff_eq.mpr c13
   have xq:(bY != 1)=false:=bne_eq_false_iff_eq.mpr c13
   clear c13
   (first|rw [l9]|(simp only [bG,bJ];rw [l9])|skip)
   have H':=ae.mk H
   clear H
   go_wp2
   go_meet
   case rel=>exact ⟨_,((bY == 1)),(by first|rfl|(simp;done)|(simp [*];done)),H',⟨by first|omega|exact Nat.le_refl _⟩,⟨by (with_reducible repeat (first|refine au ?_ _|refine ay ?_|refine ak ?_ _));exact dO.out⟩,⟨by (with_reducible repeat (first|refine au ?_ _|refine ay ?_|refine ak ?_ _));exact bH.out⟩,⟨by repeat (first|(with_reducible first|exact HB.out|apply ah|apply af|apply ai|refine aj ?_ iP.out|refine aj ?_ iQ.out)|exact HB.out)⟩⟩
  ·
   rw [if_neg c13] at H
   have l9:(bY == 1)=false:=beq_eq_false_iff_ne.mpr c13
   have xq:(bY != 1)=true:=bne_iff_ne.mpr c13
   (first|rw [l9]|(simp only [bG,bJ];rw [l9])|skip)
   by_cases c14:bY=4
   ·
    rw [if_pos c14] at H
    have CB:(bY == 4)=true:=beq_iff_eq.mpr c14
    have FN:(bY != 4)=false:=bne_eq_false_iff_eq.mpr c14
    clear c14
    have H':=ae.mk H
    clear H
    go_wp2
    go_meet
    case rel=>exact ⟨_,((bY == 4)),(by first|rfl|(simp;done)|(simp [*];done)),H',⟨by first|omega|exact Nat.le_refl _⟩,⟨by (with_reducible repeat (first|refine au ?_ _|refine ay ?_|refine ak ?_ _));exact dO.out⟩,⟨by (with_reducible repeat (first|refine au ?_ _|refine ay ?_|refine ak ?_ _));exact bH.out⟩,⟨by repeat (first|(with_reducible first|exact HB.out|apply ah|apply af|apply ai|refine aj ?_ iP.out|refine aj ?_ iQ.out)|exact HB.out)⟩⟩
   ·
    rw [if_neg c14] at H
    have CB:(bY == 4)=false:=beq_eq_false_iff_ne.mpr c14
    have FN:(bY != 4)=true:=bne_iff_ne.mpr c14
    have H':=ae.mk H
    clear H
    go_wp2
    go_meet
    case rel=>exact ⟨_,((bY == 14)),(by first|rfl|(simp;done)|(simp [*];done)),H',⟨by first|omega|exact Nat.le_refl _⟩,⟨by (with_reducible repeat (first|refine au ?_ _|refine ay ?_|refine ak ?_ _));exact dO.out⟩,⟨by (with_reducible repeat (first|refine au ?_ _|refine ay ?_|refine ak ?_ _));exact bH.out⟩,⟨by repeat (first|(with_reducible first|exact HB.out|apply ah|apply af|apply ai|refine aj ?_ iP.out|refine aj ?_ iQ.out)|exact HB.out)⟩⟩
 case rest =>
  clear H8
  obtain ⟨kq,Ig,rfl,HA,H7,dO,bH,HB⟩:=hcut
  cases kq with
  | zero=>exact absurd HA.out (by simp [bV.j0])
  | succ uQ =>
   have H:=HA.out
   clear HA
   simp only [bV.j0] at H
   by_cases c15:Ig=true
   ·
    subst c15
    have H1:((dF.f uQ (([gq]:List Int))).bind fun t129=>(some t129))=some r:=by rw [if_pos rfl] at H;exact H
    clear H
    have H:=H1
    clear H1
    obtain ⟨X8,EX⟩:∃ y_:List Int,y_=(([gq]:List Int)):=⟨_,rfl⟩
    replace H:((dF.f uQ X8).bind fun t129=>(some t129))=some r:=by first|(rw [EX];with_reducible exact H)|(have tJ:=(Option.bind_some _ _).symm.trans H;rw [EX];with_reducible exact tJ)|(have tJ:=(Option.bind_some _ _).symm.trans H;with_reducible exact tJ)|with_reducible exact H|(rw [EX];exact H)|exact H
    have XQ:=ae.mk EX
    clear EX
    replace H:=Option.bind_eq_some_iff.mp H
    obtain ⟨t129,Gg,H⟩:=H
    replace H:(some t129)=some r:=H
    have Z8:=ae.mk Gg
    clear Gg
    obtain rfl:=Option.some.inj H
    have amK:=kP.out
    have amh:=kQ.out
    have Kz:wc.cell? ⟨fA,0,none⟩=some (.int .u8 bY):=(ax bH.out 0).trans rfl
    have Ky:wc.cell? ⟨fA,1,none⟩=some (.int .u8 gq):=(ax bH.out 1).trans rfl
    have Kw:wc.cell? ⟨fA,2,none⟩=some (.int .u8 gJ):=(ax bH.out 2).trans rfl
    have Kv:wc.cell? ⟨fA,3,none⟩=some (.int .u8 ik):=(ax bH.out 3).trans rfl
    have VM:wc.cell? ⟨fA,4,none⟩=some (.int .i64 gW):=(ax bH.out 4).trans rfl
    have JE:=aC bH.out 0
    have JD:=aC bH.out 1
    have JC:=aC bH.out 2
    have JB:=aC bH.out 3
    have Uh:=aC bH.out 4
    go_wp2_with (first|((with_reducible refine dL (N:=27) rfl ?_);refine Kd.uC (Kd.int .u8) _ 5 ?hg (N:=27) ?hd (xs:=([gq]:List Int)) (inner:=[.int .u8 gq]) (ok:=fun _=>True) (pM:=fun _=>True) ?hr ?hp (fun _ hk=>hk) trivial (Below.refl _ _) (Nat.le_refl _) (by simp) ?_;(case hd=>rfl);(case hg=>rfl);(case hr=>first|(go_simp;done)|(go_simp;rfl));(case hp=>exact (jk.one (show Kd.M (Kd.int .u8) _ _ _ gq [.int .u8 gq] from rfl) (jk.none _ _)));intro v127 w19 OH hb Bj nP;clear Bj nP;(first|rw [← XQ.out] at OH|(simp only [Int.reduceToNat] at OH;rw [← XQ.out] at OH));have dV:=ae.mk (Kd.jh OH (bW (by repeat (first|(with_reducible first|exact HB.out|apply ah|apply af|apply ai|refine aj ?_ iP.out|refine aj ?_ iQ.out)|exact HB.out))));have dU:=ae.mk (bf (g:=iI) (o:=.cells #[.slice eu aY.length ed,.string aU,.string aV,.slice fV aI.length eX] 25 (0,0)) (by (with_reducible repeat (first|refine au ?_ _|refine ay ?_|refine ak ?_ _));exact dO.out) hb);have dR:=ae.mk (bf (g:=fA) (o:=.cells #[.int .u8 bY,.int .u8 gq,.int .u8 gJ,.int .u8 ik,.int .i64 gW] 55 (0,0)) (by (with_reducible repeat (first|refine au ?_ _|refine ay ?_|refine ak ?_ _));exact bH.out) hb);have gQ:=ae.mk (bg (by repeat (first|(with_reducible first|exact HB.out|apply ah|apply af|apply ai|refine aj ?_ iP.out|refine aj ?_ iQ.out)|exact HB.out)) hb);clear dO;clear bH;clear HB;have Qq:=dV;have dO:=dU;have bH:=dR;have HB:=gQ;clear dV dU dR gQ;clear hb OH;obtain ⟨Z5,Zt,Za⟩:=Kd.jr Qq.out;subst Za)|((with_reducible refine bu (f:=55) rfl ?_);refine dS (some 28) rfl rfl Tryd.func55 (by kernel_rfl) rfl #[.slice Z5 X8.length Zt] rfl (by (try simp only [List.map_toArray,List.map_cons,List.map_nil]);first|done|rfl|(simp only [List.length_drop,List.length_take];rfl)) ?_;(with_reducible refine (dF.calls uQ _ _ X8 t129 _ ?cu ?dw Z8.out).mono ?_);(case cu=>repeat (first|exact (Kd.eG Qq.out).2.2|(with_reducible refine Kd.bT ?_ _)|(with_reducible refine Kd.bQ ?_ _)|(with_reducible refine Kd.dD ?_)));(case dw=>exact (Kd.eG Qq.out).2.1);rintro e w' ⟨rfl,⟨nd,rfl⟩⟩;refine ⟨_,rfl,?_⟩))
    go_ret
    exact ⟨by first|rfl|(simp [aQ,aN] <;> rfl)|(simp [*,aQ,aN] <;> rfl),by repeat (first|(with_reducible first|exact HB.out|apply ah|apply af|apply ai|refine aj ?_ iP.out|refine aj ?_ iQ.out)|exact HB.out)⟩
   ·
    replace c15:=Bool.eq_false_iff.mpr c15
    subst c15
    have H1:(if bY=2 then ((dF.f uQ (([gq,gJ,ik]:List Int))).bind fun t133=>(some t133)) else (if bY=5 then (bV.j1 uQ t124 t125 bY (bY == 5) aY aU aV aI bY gq gJ ik gW) else (bV.j1 uQ t124 t125 bY (bY == 6) aY aU aV aI bY gq gJ ik gW)))=some r:=by rw [if_neg (show ¬ (false=true) by decide)] at H;exact H
    clear H
    have H:=H1
    clear H1
    by_cases qA:bY=2
    ·
     rw [if_pos qA] at H
     have P9:(bY == 2)=true:=beq_iff_eq.mpr qA
     have P8:(bY != 2)=false:=bne_eq_false_iff_eq.mpr qA
     clear qA
     obtain ⟨X7,EU⟩:∃ y_:List Int,y_=(([gq,gJ,ik]:List Int)):=⟨_,rfl⟩
     replace H:((dF.f uQ X7).bind fun t133=>(some t133))=some r:=by first|(rw [EU];with_reducible exact H)|(have tJ:=(Option.bind_some _ _).symm.trans H;rw [EU];with_reducible exact tJ)|(have tJ:=(Option.bind_some _ _).symm.trans H;with_reducible exact tJ)|with_reducible exact H|(rw [EU];exact H)|exact H
     have XO:=ae.mk EU
     clear EU
     replace H:=Option.bind_eq_some_iff.mp H
     obtain ⟨t133,aem,H⟩:=H
     replace H:(some t133)=some r:=H
     have A23:=ae.mk aem
     clear aem
     obtain rfl:=Option.some.inj H
     have Xi:=kP.out
     have Xg:=kQ.out
     have zh:wc.cell? ⟨fA,0,none⟩=some (.int .u8 bY):=(ax bH.out 0).trans rfl
     have zg:wc.cell? ⟨fA,1,none⟩=some (.int .u8 gq):=(ax bH.out 1).trans rfl
     have zf:wc.cell? ⟨fA,2,none⟩=some (.int .u8 gJ):=(ax bH.out 2).trans rfl
     have yZ:wc.cell? ⟨fA,3,none⟩=some (.int .u8 ik):=(ax bH.out 3).trans rfl
     have DL:wc.cell? ⟨fA,4,none⟩=some (.int .i64 gW):=(ax bH.out 4).trans rfl
     have yT:=aC bH.out 0
     have yS:=aC bH.out 1
     have yR:=aC bH.out 2
     have yQ:=aC bH.out 3
     have Dx:=aC bH.out 4
     go_wp2_with (first|((with_reducible refine dL (N:=37) rfl ?_);refine Kd.uC (Kd.int .u8) _ 5 ?hg (N:=37) ?hd (xs:=([gq,gJ,ik]:List Int)) (inner:=[.int .u8 gq,.int .u8 gJ,.int .u8 ik]) (ok:=fun _=>True) (pM:=fun _=>True) ?hr ?hp (fun _ hk=>hk) trivial (Below.refl _ _) (Nat.le_refl _) (by simp) ?_;(case hd=>rfl);(case hg=>rfl);(case hr=>first|(go_simp;done)|(go_simp;rfl));(case hp=>exact (jk.one (show Kd.M (Kd.int .u8) _ _ _ gq [.int .u8 gq] from rfl) (jk.one (show Kd.M (Kd.int .u8) _ _ _ gJ [.int .u8 gJ] from rfl) (jk.one (show Kd.M (Kd.int .u8) _ _ _ ik [.int .u8 ik] from rfl) (jk.none _ _)))));intro v131 w26 OG hb Bj nP;clear Bj nP;(first|rw [← XO.out] at OG|(simp only [Int.reduceToNat] at OG;rw [← XO.out] at OG));have dV:=ae.mk (Kd.jh OG (bW (by repeat (first|(with_reducible first|exact HB.out|apply ah|apply af|apply ai|refine aj ?_ iP.out|refine aj ?_ iQ.out)|exact HB.out))));have dU:=ae.mk (bf (g:=iI) (o:=.cells #[.slice eu aY.length ed,.string aU,.string aV,.slice fV aI.length eX] 25 (0,0)) (by (with_reducible repeat (first|refine au ?_ _|refine ay ?_|refine ak ?_ _));exact dO.out) hb);have dR:=ae.mk (bf (g:=fA) (o:=.cells #[.int .u8 bY,.int .u8 gq,.int .u8 gJ,.int .u8 ik,.int .i64 gW] 55 (0,0)) (by (with_reducible repeat (first|refine au ?_ _|refine ay ?_|refine ak ?_ _));exact bH.out) hb);have gQ:=ae.mk (bg (by repeat (first|(with_reducible first|exact HB.out|apply ah|apply af|apply ai|refine aj ?_ iP.out|refine aj ?_ iQ.out)|exact HB.out)) hb);clear dO;clear bH;clear HB;have Qp:=dV;have dO:=dU;have bH:=dR;have HB:=gQ;clear dV dU dR gQ;clear hb OG;obtain ⟨alH,aln,ak4⟩:=Kd.jr Qp.out;subst ak4)|((with_reducible refine bu (f:=55) rfl ?_);refine dS (some 38) rfl rfl Tryd.func55 (by kernel_rfl) rfl #[.slice alH X7.length aln] rfl (by (try simp only [List.map_toArray,List.map_cons,List.map_nil]);first|done|rfl|(simp only [List.length_drop,List.length_take];rfl)) ?_;(with_reducible refine (dF.calls uQ _ _ X7 t133 _ ?cu ?dw A23.out).mono ?_);(case cu=>repeat (first|exact (Kd.eG Qp.out).2.2|(with_reducible refine Kd.bT ?_ _)|(with_reducible refine Kd.bQ ?_ _)|(with_reducible refine Kd.dD ?_)));(case dw=>exact (Kd.eG Qp.out).2.1);rintro e w' ⟨rfl,⟨nd,rfl⟩⟩;refine ⟨_,rfl,?_⟩))
     go_ret
     exact ⟨by first|rfl|(simp [aQ,aN] <;> rfl)|(simp [*,aQ,aN] <;> rfl),by repeat (first|(with_reducible first|exact HB.out|apply ah|apply af|apply ai|refine aj ?_ iP.out|refine aj ?_ iQ.out)|exact HB.out)⟩
    ·
     rw [if_neg qA] at H
     have P9:(bY == 2)=false:=beq_eq_false_iff_ne.mpr qA
     have P8:(bY != 2)=true:=bne_iff_ne.mpr qA
     have ZZ:=ae.mk H
     clear H
     go_upto_if 39 with (fail)
     go_cut [39] (fun v39 wc=>∃ (kq:Nat) (CX:Bool),v39=.bool CX∧ae (bV.j1 kq t124 t125 bY CX aY aU aV aI bY gq gJ ik gW=some r)∧ae (kq≤uQ)∧ae (wc.heap[iI]? = some (.cells #[(.slice eu aY.length ed),.string aU,.string aV,(.slice fV aI.length eX)] 25 (0,0)))∧ae (wc.heap[fA]? = some (.cells #[.int .u8 bY,.int .u8 gq,.int .u8 gJ,.int .u8 ik,.int .i64 gW] 55 (0,0)))∧ae (Below w.heap.size w wc))
     case first =>
      have H:=ZZ.out
      clear ZZ
      by_cases ZB:bY=5
      ·
       rw [if_pos ZB] at H
       have FD:(bY == 5)=true:=beq_iff_eq.mpr ZB
       have ac2:(bY != 5)=false:=bne_eq_false_iff_eq.mpr ZB
       clear ZB
       (first|rw [FD]|(simp only [bG,bJ];rw [FD])|skip)
       have H':=ae.mk H
       clear H
       go_wp2
       go_meet
       case rel=>exact ⟨_,((bY == 5)),(by first|rfl|(simp;done)|(simp [*];done)),H',⟨by have:=H7.out;first|omega|exact Nat.le_refl _⟩,⟨by (with_reducible repeat (first|refine au ?_ _|refine ay ?_|refine ak ?_ _));exact dO.out⟩,⟨by (with_reducible repeat (first|refine au ?_ _|refine ay ?_|refine ak ?_ _));exact bH.out⟩,⟨by repeat (first|(with_reducible first|exact HB.out|apply ah|apply af|apply ai|refine aj ?_ iP.out|refine aj ?_ iQ.out)|exact HB.out)⟩⟩
      ·
       rw [if_neg ZB] at H
       have FD:(bY == 5)=false:=beq_eq_false_iff_ne.mpr ZB
       have ac2:(bY != 5)=true:=bne_iff_ne.mpr ZB
       (first|rw [FD]|(simp only [bG,bJ];rw [FD])|skip)
       have H':=ae.mk H
       clear H
       go_wp2
       go_meet
       case rel=>exact ⟨_,((bY == 6)),(by first|rfl|(simp;done)|(simp [*];done)),H',⟨by have:=H7.out;first|omega|exact Nat.le_refl _⟩,⟨by (with_reducible repeat (first|refine au ?_ _|refine ay ?_|refine ak ?_ _));exact dO.out⟩,⟨by (with_reducible repeat (first|refine au ?_ _|refine ay ?_|refine ak ?_ _));exact bH.out⟩,⟨by repeat (first|(with_reducible first|exact HB.out|apply ah|apply af|apply ai|refine aj ?_ iP.out|refine aj ?_ iQ.out)|exact HB.out)⟩⟩
     case rest =>
      clear ZZ
      obtain ⟨kq,CX,rfl,HA,apw,dO,bH,HB⟩:=hcut
      cases kq with
      | zero=>exact absurd HA.out (by simp [bV.j1])
      | succ ni =>
       have H:=HA.out
       clear HA
       simp only [bV.j1] at H
       by_cases c31:CX=true
       ·
        subst c31
        have H1:(some (decide (t124 ≥ 0)))=some r:=by rw [if_pos rfl] at H;exact H
        clear H
        have H:=H1
        clear H1
        obtain rfl:=Option.some.inj H
        go_wp2
        go_ret
        exact ⟨by first|rfl|(simp [aQ,aN] <;> rfl)|(simp [*,aQ,aN] <;> rfl),by repeat (first|(with_reducible first|exact HB.out|apply ah|apply af|apply ai|refine aj ?_ iP.out|refine aj ?_ iQ.out)|exact HB.out)⟩
       ·
        replace c31:=Bool.eq_false_iff.mpr c31
        subst c31
        have H1:(if bY=7 then ((gU.f t124 t125).bind fun t134=>(some t134)) else (if bY=8 then ((dF.f ni (([gq]:List Int))).bind fun t138=>(if t138=true then ((gI.f ni aY aU aV aI t125 gW).bind fun t139=>(some t139)) else (some false))) else (if bY=9 then ((dF.f ni (([gJ]:List Int))).bind fun t143=>(if t143=true then ((gI.f ni aY aU aV aI t124 gW).bind fun t144=>(some t144)) else (some false))) else (if bY=10 then ((gK.f ni aY aU aV aI t125 gW).bind fun Qc=>((gU.f t124 Qc.1).bind fun t147=>(some t147))) else (if bY=11 then ((gK.f ni aY aU aV aI t124 gW).bind fun Qb=>((gU.f t125 Qb.1).bind fun t150=>(some t150))) else (if bY=12 then ((jf.f ni aY aU aV aI gJ).bind fun t151=>((gU.f t124 t151).bind fun t152=>(some t152))) else (if bY=13 then ((jf.f ni aY aU aV aI gq).bind fun t153=>((gU.f t125 t153).bind fun t154=>(some t154))) else (if bY=15 then ((dF.f ni (([gq]:List Int))).bind fun t158=>(if t158=true then ((gu.f ni aY aU aV aI ik).bind fun t159=>((gU.f t125 t159).bind fun t160=>(some t160))) else (some false))) else (some true)))))))))=some r:=by rw [if_neg (show ¬ (false=true) by decide)] at H;exact H
        clear H
        have H:=H1
        clear H1
        by_cases c32:bY=7
        ·
         rw [if_pos c32] at H
         have P6:(bY == 7)=true:=beq_iff_eq.mpr c32
         have acZ:(bY != 7)=false:=bne_eq_false_iff_eq.mpr c32
         clear c32
         replace H:=Option.bind_eq_some_iff.mp H
         obtain ⟨t134,Qx,H⟩:=H
         replace H:(some t134)=some r:=H
         have A33:=ae.mk Qx
         clear Qx
         obtain rfl:=Option.some.inj H
         go_wp2_with (first|((with_reducible refine bu (f:=56) rfl ?_);refine dS (some 48) rfl rfl Tryd.func56 (by kernel_rfl) rfl #[.int .i64 t124,.int .i64 t125] rfl (by (try simp only [List.map_toArray,List.map_cons,List.map_nil]);first|done|rfl|(simp only [List.length_drop,List.length_take];rfl)) ?_;(with_reducible refine (gU.calls t124 t125 t134 _ A33.out).mono ?_);rintro e w' ⟨rfl,⟨nd,rfl⟩⟩;refine ⟨_,rfl,?_⟩))
         go_ret
         exact ⟨by first|rfl|(simp [aQ,aN] <;> rfl)|(simp [*,aQ,aN] <;> rfl),by repeat (first|(with_reducible first|exact HB.out|apply ah|apply af|apply ai|refine aj ?_ iP.out|refine aj ?_ iQ.out)|exact HB.out)⟩
        ·
         rw [if_neg c32] at H
         have P6:(bY == 7)=false:=beq_eq_false_iff_ne.mpr c32
         have acZ:(bY != 7)=true:=bne_iff_ne.mpr c32
         by_cases c34:bY=8
         ·
          rw [if_pos c34] at H
          have P5:(bY == 8)=true:=beq_iff_eq.mpr c34
          have acW:(bY != 8)=false:=bne_eq_false_iff_eq.mpr c34
          clear c34
          obtain ⟨NC,ES⟩:∃ y_:List Int,y_=(([gq]:List Int)):=⟨_,rfl⟩
          replace H:((dF.f ni NC).bind fun t138=>(if t138=true then ((gI.f ni aY aU aV aI t125 gW).bind fun t139=>(some t139)) else (some false)))=some r:=by first|(rw [ES];with_reducible exact H)|(have tJ:=(Option.bind_some _ _).symm.trans H;rw [ES];with_reducible exact tJ)|(have tJ:=(Option.bind_some _ _).symm.trans H;with_reducible exact tJ)|with_reducible exact H|(rw [ES];exact H)|exact H
          have Ld:=ae.mk ES
          clear ES
          replace H:=Option.bind_eq_some_iff.mp H
          obtain ⟨t138,aej,H⟩:=H
          replace H:(if t138=true then ((gI.f ni aY aU aV aI t125 gW).bind fun t139=>(some t139)) else (some false))=some r:=H
          have A35:=ae.mk aej
          clear aej
          by_cases c36:t138=true
          ·
           subst c36
           have H1:((gI.f ni aY aU aV aI t125 gW).bind fun t139=>(some t139))=some r:=by rw [if_pos rfl] at H;exact H
           clear H
           have H:=H1
           clear H1
           replace H:=Option.bind_eq_some_iff.mp H
           obtain ⟨t139,aei,H⟩:=H
           replace H:(some t139)=some r:=H
           have A37:=ae.mk aei
           clear aei
           obtain rfl:=Option.some.inj H
           have amz:=kP.out
           have al6:=kQ.out
           have Vk:wc.cell? ⟨fA,0,none⟩=some (.int .u8 bY):=(ax bH.out 0).trans rfl
           have Vj:wc.cell? ⟨fA,1,none⟩=some (.int .u8 gq):=(ax bH.out 1).trans rfl
           have Vh:wc.cell? ⟨fA,2,none⟩=some (.int .u8 gJ):=(ax bH.out 2).trans rfl
           have Vg:wc.cell? ⟨fA,3,none⟩=some (.int .u8 ik):=(ax bH.out 3).trans rfl
           have ajj:wc.cell? ⟨fA,4,none⟩=some (.int .i64 gW):=(ax bH.out 4).trans rfl
           have TE:=aC bH.out 0
           have TD:=aC bH.out 1
           have TC:=aC bH.out 2
           have TB:=aC bH.out 3
           have ag5:=aC bH.out 4
           go_wp2_with (first|((with_reducible refine dL (N:=53) rfl ?_);refine Kd.uC (Kd.int .u8) _ 5 ?hg (N:=53) ?hd (xs:=([gq]:List Int)) (inner:=[.int .u8 gq]) (ok:=fun _=>True) (pM:=fun _=>True) ?hr ?hp (fun _ hk=>hk) trivial (Below.refl _ _) (Nat.le_refl _) (by simp) ?_;(case hd=>rfl);(case hg=>rfl);(case hr=>first|(go_simp;done)|(go_simp;rfl));(case hp=>exact (jk.one (show Kd.M (Kd.int .u8) _ _ _ gq [.int .u8 gq] from rfl) (jk.none _ _)));intro akh QT OE hb Bj nP;clear Bj nP;(first|rw [← Ld.out] at OE|(simp only [Int.reduceToNat] at OE;rw [← Ld.out] at OE));have dV:=ae.mk (Kd.jh OE (bW (by repeat (first|(with_reducible first|exact HB.out|apply ah|apply af|apply ai|refine aj ?_ iP.out|refine aj ?_ iQ.out)|exact HB.out))));have dU:=ae.mk (bf (g:=iI) (o:=.cells #[.slice eu aY.length ed,.string aU,.string aV,.slice fV aI.length eX] 25 (0,0)) (by (with_reducible repeat (first|refine au ?_ _|refine ay ?_|refine ak ?_ _));exact dO.out) hb);have dR:=ae.mk (bf (g:=fA) (o:=.cells #[.int .u8 bY,.int .u8 gq,.int .u8 gJ,.int .u8 ik,.int .i64 gW] 55 (0,0)) (by (with_reducible repeat (first|refine au ?_ _|refine ay ?_|refine ak ?_ _));exact bH.out) hb);have gQ:=ae.mk (bg (by repeat (first|(with_reducible first|exact HB.out|apply ah|apply af|apply ai|refine aj ?_ iP.out|refine aj ?_ iQ.out)|exact HB.out)) hb);clear dO;clear bH;clear HB;have wo:=dV;have dO:=dU;have bH:=dR;have HB:=gQ;clear dV dU dR gQ;clear hb OE;obtain ⟨alG,alm,ak3⟩:=Kd.jr wo.out;subst ak3)|((with_reducible refine bu (f:=55) rfl ?_);refine dS (some 54) rfl rfl Tryd.func55 (by kernel_rfl) rfl #[.slice alG NC.length alm] rfl (by (try simp only [List.map_toArray,List.map_cons,List.map_nil]);first|done|rfl|(simp only [List.length_drop,List.length_take];rfl)) ?_;(with_reducible refine (dF.calls ni _ _ NC true _ ?cu ?dw A35.out).mono ?_);(case cu=>repeat (first|exact (Kd.eG wo.out).2.2|(with_reducible refine Kd.bT ?_ _)|(with_reducible refine Kd.bQ ?_ _)|(with_reducible refine Kd.dD ?_)));(case dw=>exact (Kd.eG wo.out).2.1);rintro e w' ⟨rfl,⟨nd,rfl⟩⟩;refine ⟨_,rfl,?_⟩;have JZ:QT.cell? ⟨iI,0,none⟩=some (.slice eu aY.length ed):=(ax dO.out 0).trans rfl;have JY:QT.cell? ⟨iI,1,none⟩=some (.string aU):=(ax dO.out 1).trans rfl;have JX:QT.cell? ⟨iI,2,none⟩=some (.string aV):=(ax dO.out 2).trans rfl;have JW:QT.cell? ⟨iI,3,none⟩=some (.slice fV aI.length eX):=(ax dO.out 3).trans rfl;have Jn:=aC dO.out 0;have Jm:=aC dO.out 1;have Jl:=aC dO.out 2;have Jk:=aC dO.out 3;have Vf:QT.cell? ⟨fA,0,none⟩=some (.int .u8 bY):=(ax bH.out 0).trans rfl;have Ve:QT.cell? ⟨fA,1,none⟩=some (.int .u8 gq):=(ax bH.out 1).trans rfl;have Vd:QT.cell? ⟨fA,2,none⟩=some (.int .u8 gJ):=(ax bH.out 2).trans rfl;have Vb:QT.cell? ⟨fA,3,none⟩=some (.int .u8 ik):=(ax bH.out 3).trans rfl;have Va:QT.cell? ⟨fA,4,none⟩=some (.int .i64 gW):=(ax bH.out 4).trans rfl;have TA:=aC bH.out 0;have Tz:=aC bH.out 1;have Tv:=aC bH.out 2;have Tu:=aC bH.out 3;have Tt:=aC bH.out 4)|(go_at_call 57;(with_reducible refine (gI.calls ni _ _ aY aU aV _ _ aI t125 gW t139 _ ?cu ?dw ?iM ?iL A37.out).mono ?_);(case cu=>repeat (first|exact (Kd.bK iq.out (by repeat (first|(with_reducible first|exact HB.out|apply ah|apply af|apply ai|refine aj ?_ iP.out|refine aj ?_ iQ.out)|exact HB.out)))|(with_reducible refine Kd.bT ?_ _)|(with_reducible refine Kd.bQ ?_ _)|(with_reducible refine Kd.dD ?_)));(case dw=>exact iC.out);(case iM=>repeat (first|exact (Kd.bK jG.out (by repeat (first|(with_reducible first|exact HB.out|apply ah|apply af|apply ai|refine aj ?_ iP.out|refine aj ?_ iQ.out)|exact HB.out)))|(with_reducible refine Kd.bT ?_ _)|(with_reducible refine Kd.bQ ?_ _)|(with_reducible refine Kd.dD ?_)));(case iL=>exact jW.out);rintro e w45 ⟨rfl,hb⟩;have dV:=ae.mk (Kd.ja (by (with_reducible repeat (first|apply Kd.iy|apply Kd.iw|apply Kd.jc));exact wo.out) hb);have dU:=ae.mk (bf (g:=iI) (o:=.cells #[.slice eu aY.length ed,.string aU,.string aV,.slice fV aI.length eX] 25 (0,0)) (by (with_reducible repeat (first|refine au ?_ _|refine ay ?_|refine ak ?_ _));exact dO.out) hb);have dR:=ae.mk (bf (g:=fA) (o:=.cells #[.int .u8 bY,.int .u8 gq,.int .u8 gJ,.int .u8 ik,.int .i64 gW] 55 (0,0)) (by (with_reducible repeat (first|refine au ?_ _|refine ay ?_|refine ak ?_ _));exact bH.out) hb);have gQ:=ae.mk (bg (by repeat (first|(with_reducible first|exact HB.out|apply ah|apply af|apply ai|refine aj ?_ iP.out|refine aj ?_ iQ.out)|exact HB.out)) hb);clear wo;clear dO;clear bH;clear HB;have wo:=dV;have dO:=dU;have bH:=dR;have HB:=gQ;clear dV dU dR gQ;(try clear hb);(try clear hb2);(try clear hk);(try clear hi)))
           go_ret
           exact ⟨by first|rfl|(simp [aQ,aN] <;> rfl)|(simp [*,aQ,aN] <;> rfl),by repeat (first|(with_reducible first|exact HB.out|apply ah|apply af|apply ai|refine aj ?_ iP.out|refine aj ?_ iQ.out)|exact HB.out)⟩
          ·
           replace c36:=Bool.eq_false_iff.mpr c36
           subst c36
           have H1:(some false)=some r:=by rw [if_neg (show ¬ (false=true) by decide)] at H;exact H
           clear H
           have H:=H1
           clear H1
           obtain rfl:=Option.some.inj H
           have aa7:=kP.out
           have aaX:=kQ.out
           have JV:wc.cell? ⟨fA,0,none⟩=some (.int .u8 bY):=(ax bH.out 0).trans rfl
           have JU:wc.cell? ⟨fA,1,none⟩=some (.int .u8 gq):=(ax bH.out 1).trans rfl
           have JS:wc.cell? ⟨fA,2,none⟩=some (.int .u8 gJ):=(ax bH.out 2).trans rfl
           have JR:wc.cell? ⟨fA,3,none⟩=some (.int .u8 ik):=(ax bH.out 3).trans rfl
           have JQ:wc.cell? ⟨fA,4,none⟩=some (.int .i64 gW):=(ax bH.out 4).trans rfl
           have Jj:=aC bH.out 0
           have Ji:=aC bH.out 1
           have Jh:=aC bH.out 2
           have Jg:=aC bH.out 3
           have Jf:=aC bH.out 4
           go_wp2_with (first|((with_reducible refine dL (N:=53) rfl ?_);refine Kd.uC (Kd.int .u8) _ 5 ?hg (N:=53) ?hd (xs:=([gq]:List Int)) (inner:=[.int .u8 gq]) (ok:=fun _=>True) (pM:=fun _=>True) ?hr ?hp (fun _ hk=>hk) trivial (Below.refl _ _) (Nat.le_refl _) (by simp) ?_;(case hd=>rfl);(case hg=>rfl);(case hr=>first|(go_simp;done)|(go_simp;rfl));(case hp=>exact (jk.one (show Kd.M (Kd.int .u8) _ _ _ gq [.int .u8 gq] from rfl) (jk.none _ _)));intro akh w48 OD hb Bj nP;clear Bj nP;(first|rw [← Ld.out] at OD|(simp only [Int.reduceToNat] at OD;rw [← Ld.out] at OD));have dV:=ae.mk (Kd.jh OD (bW (by repeat (first|(with_reducible first|exact HB.out|apply ah|apply af|apply ai|refine aj ?_ iP.out|refine aj ?_ iQ.out)|exact HB.out))));have dU:=ae.mk (bf (g:=iI) (o:=.cells #[.slice eu aY.length ed,.string aU,.string aV,.slice fV aI.length eX] 25 (0,0)) (by (with_reducible repeat (first|refine au ?_ _|refine ay ?_|refine ak ?_ _));exact dO.out) hb);have dR:=ae.mk (bf (g:=fA) (o:=.cells #[.int .u8 bY,.int .u8 gq,.int .u8 gJ,.int .u8 ik,.int .i64 gW] 55 (0,0)) (by (with_reducible repeat (first|refine au ?_ _|refine ay ?_|refine ak ?_ _));exact bH.out) hb);have gQ:=ae.mk (bg (by repeat (first|(with_reducible first|exact HB.out|apply ah|apply af|apply ai|refine aj ?_ iP.out|refine aj ?_ iQ.out)|exact HB.out)) hb);clear dO;clear bH;clear HB;have wo:=dV;have dO:=dU;have bH:=dR;have HB:=gQ;clear dV dU dR gQ;clear hb OD;obtain ⟨alF,alk,ak2⟩:=Kd.jr wo.out;subst ak2)|((with_reducible refine bu (f:=55) rfl ?_);refine dS (some 54) rfl rfl Tryd.func55 (by kernel_rfl) rfl #[.slice alF NC.length alk] rfl (by (try simp only [List.map_toArray,List.map_cons,List.map_nil]);first|done|rfl|(simp only [List.length_drop,List.length_take];rfl)) ?_;(with_reducible refine (dF.calls ni _ _ NC false _ ?cu ?dw A35.out).mono ?_);(case cu=>repeat (first|exact (Kd.eG wo.out).2.2|(with_reducible refine Kd.bT ?_ _)|(with_reducible refine Kd.bQ ?_ _)|(with_reducible refine Kd.dD ?_)));(case dw=>exact (Kd.eG wo.out).2.1);rintro e w' ⟨rfl,⟨nd,rfl⟩⟩;refine ⟨_,rfl,?_⟩))
           go_ret
           exact ⟨by first|rfl|(simp [aQ,aN] <;> rfl)|(simp [*,aQ,aN] <;> rfl),by repeat (first|(with_reducible first|exact HB.out|apply ah|apply af|apply ai|refine aj ?_ iP.out|refine aj ?_ iQ.out)|exact HB.out)⟩
         ·
          rw [if_neg c34] at H
          have P5:(bY == 8)=false:=beq_eq_false_iff_ne.mpr c34
          have acW:(bY != 8)=true:=bne_iff_ne.mpr c34
          by_cases c51:bY=9
          ·
           rw [if_pos c51] at H
           have acQ:(bY == 9)=true:=beq_iff_eq.mpr c51
           have acP:(bY != 9)=false:=bne_eq_false_iff_eq.mpr c51
           clear c51
           obtain ⟨Nz,ER⟩:∃ y_:List Int,y_=(([gJ]:List Int)):=⟨_,rfl⟩
           replace H:((dF.f ni Nz).bind fun t143=>(if t143=true then ((gI.f ni aY aU aV aI t124 gW).bind fun t144=>(some t144)) else (some false)))=some r:=by first|(rw [ER];with_reducible exact H)|(have tJ:=(Option.bind_some _ _).symm.trans H;rw [ER];with_reducible exact tJ)|(have tJ:=(Option.bind_some _ _).symm.trans H;with_reducible exact tJ)|with_reducible exact H|(rw [ER];exact H)|exact H
           have Lc:=ae.mk ER
           clear ER
           replace H:=Option.bind_eq_some_iff.mp H
           obtain ⟨t143,aea,H⟩:=H
           replace H:(if t143=true then ((gI.f ni aY aU aV aI t124 gW).bind fun t144=>(some t144)) else (some false))=some r:=H
           have A52:=ae.mk aea
           clear aea
           by_cases c53:t143=true
           ·
            subst c53
            have H1:((gI.f ni aY aU aV aI t124 gW).bind fun t144=>(some t144))=some r:=by rw [if_pos rfl] at H;exact H
            clear H
            have H:=H1
            clear H1
            replace H:=Option.bind_eq_some_iff.mp H
            obtain ⟨t144,ad9,H⟩:=H
            replace H:(some t144)=some r:=H
            have A54:=ae.mk ad9
            clear ad9
            obtain rfl:=Option.some.inj H
            have aa5:=kP.out
            have aaV:=kQ.out
            have UX:wc.cell? ⟨fA,0,none⟩=some (.int .u8 bY):=(ax bH.out 0).trans rfl
            have UW:wc.cell? ⟨fA,1,none⟩=some (.int .u8 gq):=(ax bH.out 1).trans rfl
            have UU:wc.cell? ⟨fA,2,none⟩=some (.int .u8 gJ):=(ax bH.out 2).trans rfl
            have UT:wc.cell? ⟨fA,3,none⟩=some (.int .u8 ik):=(ax bH.out 3).trans rfl
            have UR:wc.cell? ⟨fA,4,none⟩=some (.int .i64 gW):=(ax bH.out 4).trans rfl
            have SS:=aC bH.out 0
            have SQ:=aC bH.out 1
            have SN:=aC bH.out 2
            have SL:=aC bH.out 3
            have SK:=aC bH.out 4
            go_wp2_with (first|((with_reducible refine dL (N:=66) rfl ?_);refine Kd.uC (Kd.int .u8) _ 5 ?hg (N:=66) ?hd (xs:=([gJ]:List Int)) (inner:=[.int .u8 gJ]) (ok:=fun _=>True) (pM:=fun _=>True) ?hr ?hp (fun _ hk=>hk) trivial (Below.refl _ _) (Nat.le_refl _) (by simp) ?_;(case hd=>rfl);(case hg=>rfl);(case hr=>first|(go_simp;done)|(go_simp;rfl));(case hp=>exact (jk.one (show Kd.M (Kd.int .u8) _ _ _ gJ [.int .u8 gJ] from rfl) (jk.none _ _)));intro v141 QB OC hb Bj nP;clear Bj nP;(first|rw [← Lc.out] at OC|(simp only [Int.reduceToNat] at OC;rw [← Lc.out] at OC));have dV:=ae.mk (Kd.jh OC (bW (by repeat (first|(with_reducible first|exact HB.out|apply ah|apply af|apply ai|refine aj ?_ iP.out|refine aj ?_ iQ.out)|exact HB.out))));have dU:=ae.mk (bf (g:=iI) (o:=.cells #[.slice eu aY.length ed,.string aU,.string aV,.slice fV aI.length eX] 25 (0,0)) (by (with_reducible repeat (first|refine au ?_ _|refine ay ?_|refine ak ?_ _));exact dO.out) hb);have dR:=ae.mk (bf (g:=fA) (o:=.cells #[.int .u8 bY,.int .u8 gq,.int .u8 gJ,.int .u8 ik,.int .i64 gW] 55 (0,0)) (by (with_reducible repeat (first|refine au ?_ _|refine ay ?_|refine ak ?_ _));exact bH.out) hb);have gQ:=ae.mk (bg (by repeat (first|(with_reducible first|exact HB.out|apply ah|apply af|apply ai|refine aj ?_ iP.out|refine aj ?_ iQ.out)|exact HB.out)) hb);clear dO;clear bH;clear HB;have kV:=dV;have dO:=dU;have bH:=dR;have HB:=gQ;clear dV dU dR gQ;clear hb OC;obtain ⟨alE,alj,ak1⟩:=Kd.jr kV.out;subst ak1)|((with_reducible refine bu (f:=55) rfl ?_);refine dS (some 67) rfl rfl Tryd.func55 (by kernel_rfl) rfl #[.slice alE Nz.length alj] rfl (by (try simp only [List.map_toArray,List.map_cons,List.map_nil]);first|done|rfl|(simp only [List.length_drop,List.length_take];rfl)) ?_;(with_reducible refine (dF.calls ni _ _ Nz true _ ?cu ?dw A52.out).mono ?_);(case cu=>repeat (first|exact (Kd.eG kV.out).2.2|(with_reducible refine Kd.bT ?_ _)|(with_reducible refine Kd.bQ ?_ _)|(with_reducible refine Kd.dD ?_)));(case dw=>exact (Kd.eG kV.out).2.1);rintro e w' ⟨rfl,⟨nd,rfl⟩⟩;refine ⟨_,rfl,?_⟩;have aiM:QB.cell? ⟨iI,0,none⟩=some (.slice eu aY.length ed):=(ax dO.out 0).trans rfl;have aiL:QB.cell? ⟨iI,1,none⟩=some (.string aU):=(ax dO.out 1).trans rfl;have aiK:QB.cell? ⟨iI,2,none⟩=some (.string aV):=(ax dO.out 2).trans rfl;have aiJ:QB.cell? ⟨iI,3,none⟩=some (.slice fV aI.length eX):=(ax dO.out 3).trans rfl;have agy:=aC dO.out 0;have agx:=aC dO.out 1;have agw:=aC dO.out 2;have agv:=aC dO.out 3;have UL:QB.cell? ⟨fA,0,none⟩=some (.int .u8 bY):=(ax bH.out 0).trans rfl;have UK:QB.cell? ⟨fA,1,none⟩=some (.int .u8 gq):=(ax bH.out 1).trans rfl;have UJ:QB.cell? ⟨fA,2,none⟩=some (.int .u8 gJ):=(ax bH.out 2).trans rfl;have UI:QB.cell? ⟨fA,3,none⟩=some (.int .u8 ik):=(ax bH.out 3).trans rfl;have UH:QB.cell? ⟨fA,4,none⟩=some (.int .i64 gW):=(ax bH.out 4).trans rfl;have SC:=aC bH.out 0;have SB:=aC bH.out 1;have SA:=aC bH.out 2;have Sz:=aC bH.out 3;have Sv:=aC bH.out 4)|(go_at_call 57;(with_reducible refine (gI.calls ni _ _ aY aU aV _ _ aI t124 gW t144 _ ?cu ?dw ?iM ?iL A54.out).mono ?_);(case cu=>repeat (first|exact (Kd.bK iq.out (by repeat (first|(with_reducible first|exact HB.out|apply ah|apply af|apply ai|refine aj ?_ iP.out|refine aj ?_ iQ.out)|exact HB.out)))|(with_reducible refine Kd.bT ?_ _)|(with_reducible refine Kd.bQ ?_ _)|(with_reducible refine Kd.dD ?_)));(case dw=>exact iC.out);(case iM=>repeat (first|exact (Kd.bK jG.out (by repeat (first|(with_reducible first|exact HB.out|apply ah|apply af|apply ai|refine aj ?_ iP.out|refine aj ?_ iQ.out)|exact HB.out)))|(with_reducible refine Kd.bT ?_ _)|(with_reducible refine Kd.bQ ?_ _)|(with_reducible refine Kd.dD ?_)));(case iL=>exact jW.out);rintro e w62 ⟨rfl,hb⟩;have dV:=ae.mk (Kd.ja (by (with_reducible repeat (first|apply Kd.iy|apply Kd.iw|apply Kd.jc));exact kV.out) hb);have dU:=ae.mk (bf (g:=iI) (o:=.cells #[.slice eu aY.length ed,.string aU,.string aV,.slice fV aI.length eX] 25 (0,0)) (by (with_reducible repeat (first|refine au ?_ _|refine ay ?_|refine ak ?_ _));exact dO.out) hb);have dR:=ae.mk (bf (g:=fA) (o:=.cells #[.int .u8 bY,.int .u8 gq,.int .u8 gJ,.int .u8 ik,.int .i64 gW] 55 (0,0)) (by (with_reducible repeat (first|refine au ?_ _|refine ay ?_|refine ak ?_ _));exact bH.out) hb);have gQ:=ae.mk (bg (by repeat (first|(with_reducible first|exact HB.out|apply ah|apply af|apply ai|refine aj ?_ iP.out|refine aj ?_ iQ.out)|exact HB.out)) hb);clear kV;clear dO;clear bH;clear HB;have kV:=dV;have dO:=dU;have bH:=dR;have HB:=gQ;clear dV dU dR gQ;(try clear hb);(try clear hb2);(try clear hk);(try clear hi)))
            go_ret
            exact ⟨by first|rfl|(simp [aQ,aN] <;> rfl)|(simp [*,aQ,aN] <;> rfl),by repeat (first|(with_reducible first|exact HB.out|apply ah|apply af|apply ai|refine aj ?_ iP.out|refine aj ?_ iQ.out)|exact HB.out)⟩
           ·
            replace c53:=Bool.eq_false_iff.mpr c53
            subst c53
            have H1:(some false)=some r:=by rw [if_neg (show ¬ (false=true) by decide)] at H;exact H
            clear H
            have H:=H1
            clear H1
            obtain rfl:=Option.some.inj H
            have amn:=kP.out
            have alW:=kQ.out
            have aiD:wc.cell? ⟨fA,0,none⟩=some (.int .u8 bY):=(ax bH.out 0).trans rfl
            have aiC:wc.cell? ⟨fA,1,none⟩=some (.int .u8 gq):=(ax bH.out 1).trans rfl
            have aiB:wc.cell? ⟨fA,2,none⟩=some (.int .u8 gJ):=(ax bH.out 2).trans rfl
            have aiA:wc.cell? ⟨fA,3,none⟩=some (.int .u8 ik):=(ax bH.out 3).trans rfl
            have aiz:wc.cell? ⟨fA,4,none⟩=some (.int .i64 gW):=(ax bH.out 4).trans rfl
            have agp:=aC bH.out 0
            have agn:=aC bH.out 1
            have agm:=aC bH.out 2
            have agl:=aC bH.out 3
            have agk:=aC bH.out 4
            go_wp2_with (first|((with_reducible refine dL (N:=66) rfl ?_);refine Kd.uC (Kd.int .u8) _ 5 ?hg (N:=66) ?hd (xs:=([gJ]:List Int)) (inner:=[.int .u8 gJ]) (ok:=fun _=>True) (pM:=fun _=>True) ?hr ?hp (fun _ hk=>hk) trivial (Below.refl _ _) (Nat.le_refl _) (by simp) ?_;(case hd=>rfl);(case hg=>rfl);(case hr=>first|(go_simp;done)|(go_simp;rfl));(case hp=>exact (jk.one (show Kd.M (Kd.int .u8) _ _ _ gJ [.int .u8 gJ] from rfl) (jk.none _ _)));intro v141 w65 OB hb Bj nP;clear Bj nP;(first|rw [← Lc.out] at OB|(simp only [Int.reduceToNat] at OB;rw [← Lc.out] at OB));have dV:=ae.mk (Kd.jh OB (bW (by repeat (first|(with_reducible first|exact HB.out|apply ah|apply af|apply ai|refine aj ?_ iP.out|refine aj ?_ iQ.out)|exact HB.out))));have dU:=ae.mk (bf (g:=iI) (o:=.cells #[.slice eu aY.length ed,.string aU,.string aV,.slice fV aI.length eX] 25 (0,0)) (by (with_reducible repeat (first|refine au ?_ _|refine ay ?_|refine ak ?_ _));exact dO.out) hb);have dR:=ae.mk (bf (g:=fA) (o:=.cells #[.int .u8 bY,.int .u8 gq,.int .u8 gJ,.int .u8 ik,.int .i64 gW] 55 (0,0)) (by (with_reducible repeat (first|refine au ?_ _|refine ay ?_|refine ak ?_ _));exact bH.out) hb);have gQ:=ae.mk (bg (by repeat (first|(with_reducible first|exact HB.out|apply ah|apply af|apply ai|refine aj ?_ iP.out|refine aj ?_ iQ.out)|exact HB.out)) hb);clear dO;clear bH;clear HB;have kV:=dV;have dO:=dU;have bH:=dR;have HB:=gQ;clear dV dU dR gQ;clear hb OB;obtain ⟨alD,ali,ak0⟩:=Kd.jr kV.out;subst ak0)|((with_reducible refine bu (f:=55) rfl ?_);refine dS (some 67) rfl rfl Tryd.func55 (by kernel_rfl) rfl #[.slice alD Nz.length ali] rfl (by (try simp only [List.map_toArray,List.map_cons,List.map_nil]);first|done|rfl|(simp only [List.length_drop,List.length_take];rfl)) ?_;(with_reducible refine (dF.calls ni _ _ Nz false _ ?cu ?dw A52.out).mono ?_);(case cu=>repeat (first|exact (Kd.eG kV.out).2.2|(with_reducible refine Kd.bT ?_ _)|(with_reducible refine Kd.bQ ?_ _)|(with_reducible refine Kd.dD ?_)));(case dw=>exact (Kd.eG kV.out).2.1);rintro e w' ⟨rfl,⟨nd,rfl⟩⟩;refine ⟨_,rfl,?_⟩))
            go_ret
            exact ⟨by first|rfl|(simp [aQ,aN] <;> rfl)|(simp [*,aQ,aN] <;> rfl),by repeat (first|(with_reducible first|exact HB.out|apply ah|apply af|apply ai|refine aj ?_ iP.out|refine aj ?_ iQ.out)|exact HB.out)⟩
          ·
           rw [if_neg c51] at H
           have acQ:(bY == 9)=false:=beq_eq_false_iff_ne.mpr c51
           have acP:(bY != 9)=true:=bne_iff_ne.mpr c51
           by_cases Zx:bY=10
           ·
            rw [if_pos Zx] at H
            have acK:(bY == 10)=true:=beq_iff_eq.mpr Zx
            have acJ:(bY != 10)=false:=bne_eq_false_iff_eq.mpr Zx
            clear Zx
            replace H:=Option.bind_eq_some_iff.mp H
            obtain ⟨⟨t145,t146⟩,ad4,H⟩:=H
            replace H:((gU.f t124 t145).bind fun t147=>(some t147))=some r:=H
            have A69:=ae.mk ad4
            clear ad4
            replace H:=Option.bind_eq_some_iff.mp H
            obtain ⟨t147,ad3,H⟩:=H
            replace H:(some t147)=some r:=H
            have Z7:=ae.mk ad3
            clear ad3
            obtain rfl:=Option.some.inj H
            have amm:=kQ.out
            have alV:=kP.out
            have aio:wc.cell? ⟨iI,0,none⟩=some (.slice eu aY.length ed):=(ax dO.out 0).trans rfl
            have ain:wc.cell? ⟨iI,1,none⟩=some (.string aU):=(ax dO.out 1).trans rfl
            have aim:wc.cell? ⟨iI,2,none⟩=some (.string aV):=(ax dO.out 2).trans rfl
            have ail:wc.cell? ⟨iI,3,none⟩=some (.slice fV aI.length eX):=(ax dO.out 3).trans rfl
            have af8:=aC dO.out 0
            have af7:=aC dO.out 1
            have af6:=aC dO.out 2
            have af5:=aC dO.out 3
            have aik:wc.cell? ⟨fA,0,none⟩=some (.int .u8 bY):=(ax bH.out 0).trans rfl
            have aij:wc.cell? ⟨fA,1,none⟩=some (.int .u8 gq):=(ax bH.out 1).trans rfl
            have aii:wc.cell? ⟨fA,2,none⟩=some (.int .u8 gJ):=(ax bH.out 2).trans rfl
            have aih:wc.cell? ⟨fA,3,none⟩=some (.int .u8 ik):=(ax bH.out 3).trans rfl
            have aif:wc.cell? ⟨fA,4,none⟩=some (.int .i64 gW):=(ax bH.out 4).trans rfl
            have af4:=aC bH.out 0
            have af2:=aC bH.out 1
            have af1:=aC bH.out 2
            have af0:=aC bH.out 3
            have afZ:=aC bH.out 4
            go_wp2_with (first|((with_reducible refine bu (f:=58) rfl ?_);refine dS (some 82) rfl rfl Tryd.func58 (by kernel_rfl) rfl #[.agg #[.slice eu aY.length ed,.string aU,.string aV,.slice fV aI.length eX],.int .i64 t125,.int .i64 gW] rfl (by (try simp only [List.map_toArray,List.map_cons,List.map_nil]);first|done|rfl|(simp only [List.length_drop,List.length_take];rfl)) ?_;(with_reducible refine (gK.calls ni _ _ aY aU aV _ _ aI t125 gW t145 t146 _ ?cu ?dw ?iM ?iL A69.out).mono ?_);(case cu=>repeat (first|exact (Kd.bK iq.out HB.out)|(with_reducible refine Kd.bT ?_ _)|(with_reducible refine Kd.bQ ?_ _)|(with_reducible refine Kd.dD ?_)));(case dw=>exact iC.out);(case iM=>repeat (first|exact (Kd.bK jG.out HB.out)|(with_reducible refine Kd.bT ?_ _)|(with_reducible refine Kd.bQ ?_ _)|(with_reducible refine Kd.dD ?_)));(case iL=>exact jW.out);rintro e w74 ⟨rfl,hb⟩;refine ⟨_,rfl,?_⟩;have dV:=ae.mk (bf (g:=iI) (o:=.cells #[.slice eu aY.length ed,.string aU,.string aV,.slice fV aI.length eX] 25 (0,0)) (by (with_reducible repeat (first|refine au ?_ _|refine ay ?_|refine ak ?_ _));exact dO.out) hb);have dU:=ae.mk (bf (g:=fA) (o:=.cells #[.int .u8 bY,.int .u8 gq,.int .u8 gJ,.int .u8 ik,.int .i64 gW] 55 (0,0)) (by (with_reducible repeat (first|refine au ?_ _|refine ay ?_|refine ak ?_ _));exact bH.out) hb);have dR:=ae.mk (bg (by repeat (first|(with_reducible first|exact HB.out|apply ah|apply af|apply ai|refine aj ?_ iP.out|refine aj ?_ iQ.out)|exact HB.out)) hb);clear dO;clear bH;clear HB;have dO:=dV;have bH:=dU;have HB:=dR;clear dV dU dR;(try clear hb);(try clear hb2);(try clear hk);(try clear hi))|((with_reducible refine bu (f:=56) rfl ?_);refine dS (some 87) rfl rfl Tryd.func56 (by kernel_rfl) rfl #[.int .i64 t124,.int .i64 t145] rfl (by (try simp only [List.map_toArray,List.map_cons,List.map_nil]);first|done|rfl|(simp only [List.length_drop,List.length_take];rfl)) ?_;(with_reducible refine (gU.calls t124 t145 t147 _ Z7.out).mono ?_);rintro e w' ⟨rfl,⟨nd,rfl⟩⟩;refine ⟨_,rfl,?_⟩))
            go_ret
            exact ⟨by first|rfl|(simp [aQ,aN] <;> rfl)|(simp [*,aQ,aN] <;> rfl),by repeat (first|(with_reducible first|exact HB.out|apply ah|apply af|apply ai|refine aj ?_ iP.out|refine aj ?_ iQ.out)|exact HB.out)⟩
           ·
            rw [if_neg Zx] at H
            have acK:(bY == 10)=false:=beq_eq_false_iff_ne.mpr Zx
            have acJ:(bY != 10)=true:=bne_iff_ne.mpr Zx
            by_cases c75:bY=11
            ·
             rw [if_pos c75] at H
             have acI:(bY == 11)=true:=beq_iff_eq.mpr c75
             have acH:(bY != 11)=false:=bne_eq_false_iff_eq.mpr c75
             clear c75
             replace H:=Option.bind_eq_some_iff.mp H
             obtain ⟨⟨t148,t149⟩,ad1,H⟩:=H
             replace H:((gU.f t125 t148).bind fun t150=>(some t150))=some r:=H
             have A76:=ae.mk ad1
             clear ad1
             replace H:=Option.bind_eq_some_iff.mp H
             obtain ⟨t150,adZ,H⟩:=H
             replace H:(some t150)=some r:=H
             have A77:=ae.mk adZ
             clear adZ
             obtain rfl:=Option.some.inj H
             have aml:=kQ.out
             have alU:=kP.out
             have aie:wc.cell? ⟨iI,0,none⟩=some (.slice eu aY.length ed):=(ax dO.out 0).trans rfl
             have aid:wc.cell? ⟨iI,1,none⟩=some (.string aU):=(ax dO.out 1).trans rfl
             have aic:wc.cell? ⟨iI,2,none⟩=some (.string aV):=(ax dO.out 2).trans rfl
             have aib:wc.cell? ⟨iI,3,none⟩=some (.slice fV aI.length eX):=(ax dO.out 3).trans rfl
             have afY:=aC dO.out 0
             have afX:=aC dO.out 1
             have afW:=aC dO.out 2
             have afV:=aC dO.out 3
             have aia:wc.cell? ⟨fA,0,none⟩=some (.int .u8 bY):=(ax bH.out 0).trans rfl
             have ah9:wc.cell? ⟨fA,1,none⟩=some (.int .u8 gq):=(ax bH.out 1).trans rfl
             have ah8:wc.cell? ⟨fA,2,none⟩=some (.int .u8 gJ):=(ax bH.out 2).trans rfl
             have ah7:wc.cell? ⟨fA,3,none⟩=some (.int .u8 ik):=(ax bH.out 3).trans rfl
             have ah6:wc.cell? ⟨fA,4,none⟩=some (.int .i64 gW):=(ax bH.out 4).trans rfl
             have afU:=aC bH.out 0
             have afT:=aC bH.out 1
             have afS:=aC bH.out 2
             have afR:=aC bH.out 3
             have afQ:=aC bH.out 4
             go_wp2_with (first|((with_reducible refine bu (f:=58) rfl ?_);refine dS (some 95) rfl rfl Tryd.func58 (by kernel_rfl) rfl #[.agg #[.slice eu aY.length ed,.string aU,.string aV,.slice fV aI.length eX],.int .i64 t124,.int .i64 gW] rfl (by (try simp only [List.map_toArray,List.map_cons,List.map_nil]);first|done|rfl|(simp only [List.length_drop,List.length_take];rfl)) ?_;(with_reducible refine (gK.calls ni _ _ aY aU aV _ _ aI t124 gW t148 t149 _ ?cu ?dw ?iM ?iL A76.out).mono ?_);(case cu=>repeat (first|exact (Kd.bK iq.out HB.out)|(with_reducible refine Kd.bT ?_ _)|(with_reducible refine Kd.bQ ?_ _)|(with_reducible refine Kd.dD ?_)));(case dw=>exact iC.out);(case iM=>repeat (first|exact (Kd.bK jG.out HB.out)|(with_reducible refine Kd.bT ?_ _)|(with_reducible refine Kd.bQ ?_ _)|(with_reducible refine Kd.dD ?_)));(case iL=>exact jW.out);rintro e w81 ⟨rfl,hb⟩;refine ⟨_,rfl,?_⟩;have dV:=ae.mk (bf (g:=iI) (o:=.cells #[.slice eu aY.length ed,.string aU,.string aV,.slice fV aI.length eX] 25 (0,0)) (by (with_reducible repeat (first|refine au ?_ _|refine ay ?_|refine ak ?_ _));exact dO.out) hb);have dU:=ae.mk (bf (g:=fA) (o:=.cells #[.int .u8 bY,.int .u8 gq,.int .u8 gJ,.int .u8 ik,.int .i64 gW] 55 (0,0)) (by (with_reducible repeat (first|refine au ?_ _|refine ay ?_|refine ak ?_ _));exact bH.out) hb);have dR:=ae.mk (bg (by repeat (first|(with_reducible first|exact HB.out|apply ah|apply af|apply ai|refine aj ?_ iP.out|refine aj ?_ iQ.out)|exact HB.out)) hb);clear dO;clear bH;clear HB;have dO:=dV;have bH:=dU;have HB:=dR;clear dV dU dR;(try clear hb);(try clear hb2);(try clear hk);(try clear hi))|((with_reducible refine bu (f:=56) rfl ?_);refine dS (some 100) rfl rfl Tryd.func56 (by kernel_rfl) rfl #[.int .i64 t125,.int .i64 t148] rfl (by (try simp only [List.map_toArray,List.map_cons,List.map_nil]);first|done|rfl|(simp only [List.length_drop,List.length_take];rfl)) ?_;(with_reducible refine (gU.calls t125 t148 t150 _ A77.out).mono ?_);rintro e w' ⟨rfl,⟨nd,rfl⟩⟩;refine ⟨_,rfl,?_⟩))
             go_ret
             exact ⟨by first|rfl|(simp [aQ,aN] <;> rfl)|(simp [*,aQ,aN] <;> rfl),by repeat (first|(with_reducible first|exact HB.out|apply ah|apply af|apply ai|refine aj ?_ iP.out|refine aj ?_ iQ.out)|exact HB.out)⟩
            ·
             rw [if_neg c75] at H
             have acI:(bY == 11)=false:=beq_eq_false_iff_ne.mpr c75
             have acH:(bY != 11)=true:=bne_iff_ne.mpr c75
             by_cases Zw:bY=12
             ·
              rw [if_pos Zw] at H
              have acG:(bY == 12)=true:=beq_iff_eq.mpr Zw
              have acF:(bY != 12)=false:=bne_eq_false_iff_eq.mpr Zw
              clear Zw
              replace H:=Option.bind_eq_some_iff.mp H
              obtain ⟨t151,adY,H⟩:=H
              replace H:((gU.f t124 t151).bind fun t152=>(some t152))=some r:=H
              have A83:=ae.mk adY
              clear adY
              replace H:=Option.bind_eq_some_iff.mp H
              obtain ⟨t152,adX,H⟩:=H
              replace H:(some t152)=some r:=H
              have A84:=ae.mk adX
              clear adX
              obtain rfl:=Option.some.inj H
              have amk:=kQ.out
              have alT:=kP.out
              have ah5:wc.cell? ⟨iI,0,none⟩=some (.slice eu aY.length ed):=(ax dO.out 0).trans rfl
              have ah4:wc.cell? ⟨iI,1,none⟩=some (.string aU):=(ax dO.out 1).trans rfl
              have ah3:wc.cell? ⟨iI,2,none⟩=some (.string aV):=(ax dO.out 2).trans rfl
              have ah2:wc.cell? ⟨iI,3,none⟩=some (.slice fV aI.length eX):=(ax dO.out 3).trans rfl
              have afP:=aC dO.out 0
              have afO:=aC dO.out 1
              have afN:=aC dO.out 2
              have afM:=aC dO.out 3
              have ah1:wc.cell? ⟨fA,0,none⟩=some (.int .u8 bY):=(ax bH.out 0).trans rfl
              have ah0:wc.cell? ⟨fA,1,none⟩=some (.int .u8 gq):=(ax bH.out 1).trans rfl
              have ahZ:wc.cell? ⟨fA,2,none⟩=some (.int .u8 gJ):=(ax bH.out 2).trans rfl
              have ahY:wc.cell? ⟨fA,3,none⟩=some (.int .u8 ik):=(ax bH.out 3).trans rfl
              have ahX:wc.cell? ⟨fA,4,none⟩=some (.int .i64 gW):=(ax bH.out 4).trans rfl
              have afL:=aC bH.out 0
              have afK:=aC bH.out 1
              have afJ:=aC bH.out 2
              have afI:=aC bH.out 3
              have afH:=aC bH.out 4
              go_wp2_with (first|((with_reducible refine bu (f:=59) rfl ?_);refine dS (some 107) rfl rfl Tryd.func59 (by kernel_rfl) rfl #[.agg #[.slice eu aY.length ed,.string aU,.string aV,.slice fV aI.length eX],.int .u8 gJ] rfl (by (try simp only [List.map_toArray,List.map_cons,List.map_nil]);first|done|rfl|(simp only [List.length_drop,List.length_take];rfl)) ?_;(with_reducible refine (jf.calls ni _ _ aY aU aV _ _ aI gJ t151 _ ?cu ?dw ?iM ?iL A83.out).mono ?_);(case cu=>repeat (first|exact (Kd.bK iq.out HB.out)|(with_reducible refine Kd.bT ?_ _)|(with_reducible refine Kd.bQ ?_ _)|(with_reducible refine Kd.dD ?_)));(case dw=>exact iC.out);(case iM=>repeat (first|exact (Kd.bK jG.out HB.out)|(with_reducible refine Kd.bT ?_ _)|(with_reducible refine Kd.bQ ?_ _)|(with_reducible refine Kd.dD ?_)));(case iL=>exact jW.out);rintro e w88 ⟨rfl,hb⟩;refine ⟨_,rfl,?_⟩;have dV:=ae.mk (bf (g:=iI) (o:=.cells #[.slice eu aY.length ed,.string aU,.string aV,.slice fV aI.length eX] 25 (0,0)) (by (with_reducible repeat (first|refine au ?_ _|refine ay ?_|refine ak ?_ _));exact dO.out) hb);have dU:=ae.mk (bf (g:=fA) (o:=.cells #[.int .u8 bY,.int .u8 gq,.int .u8 gJ,.int .u8 ik,.int .i64 gW] 55 (0,0)) (by (with_reducible repeat (first|refine au ?_ _|refine ay ?_|refine ak ?_ _));exact bH.out) hb);have dR:=ae.mk (bg (by repeat (first|(with_reducible first|exact HB.out|apply ah|apply af|apply ai|refine aj ?_ iP.out|refine aj ?_ iQ.out)|exact HB.out)) hb);clear dO;clear bH;clear HB;have dO:=dV;have bH:=dU;have HB:=dR;clear dV dU dR;(try clear hb);(try clear hb2);(try clear hk);(try clear hi))|((with_reducible refine bu (f:=56) rfl ?_);refine dS (some 108) rfl rfl Tryd.func56 (by kernel_rfl) rfl #[.int .i64 t124,.int .i64 t151] rfl (by (try simp only [List.map_toArray,List.map_cons,List.map_nil]);first|done|rfl|(simp only [List.length_drop,List.length_take];rfl)) ?_;(with_reducible refine (gU.calls t124 t151 t152 _ A84.out).mono ?_);rintro e w' ⟨rfl,⟨nd,rfl⟩⟩;refine ⟨_,rfl,?_⟩))
              go_ret
              exact ⟨by first|rfl|(simp [aQ,aN] <;> rfl)|(simp [*,aQ,aN] <;> rfl),by repeat (first|(with_reducible first|exact HB.out|apply ah|apply af|apply ai|refine aj ?_ iP.out|refine aj ?_ iQ.out)|exact HB.out)⟩
             ·
              rw [if_neg Zw] at H
              have acG:(bY == 12)=false:=beq_eq_false_iff_ne.mpr Zw
              have acF:(bY != 12)=true:=bne_iff_ne.mpr Zw
              by_cases Zv:bY=13
              ·
               rw [if_pos Zv] at H
               have acE:(bY == 13)=true:=beq_iff_eq.mpr Zv
               have acD:(bY != 13)=false:=bne_eq_false_iff_eq.mpr Zv
               clear Zv
               replace H:=Option.bind_eq_some_iff.mp H
               obtain ⟨t153,adW,H⟩:=H
               replace H:((gU.f t125 t153).bind fun t154=>(some t154))=some r:=H
               have Np:=ae.mk adW
               clear adW
               replace H:=Option.bind_eq_some_iff.mp H
               obtain ⟨t154,adV,H⟩:=H
               replace H:(some t154)=some r:=H
               have A91:=ae.mk adV
               clear adV
               obtain rfl:=Option.some.inj H
               have amj:=kQ.out
               have alS:=kP.out
               have ahW:wc.cell? ⟨iI,0,none⟩=some (.slice eu aY.length ed):=(ax dO.out 0).trans rfl
               have ahV:wc.cell? ⟨iI,1,none⟩=some (.string aU):=(ax dO.out 1).trans rfl
               have ahU:wc.cell? ⟨iI,2,none⟩=some (.string aV):=(ax dO.out 2).trans rfl
               have ahT:wc.cell? ⟨iI,3,none⟩=some (.slice fV aI.length eX):=(ax dO.out 3).trans rfl
               have afG:=aC dO.out 0
               have afF:=aC dO.out 1
               have afE:=aC dO.out 2
               have afD:=aC dO.out 3
               have ahS:wc.cell? ⟨fA,0,none⟩=some (.int .u8 bY):=(ax bH.out 0).trans rfl
               have ahR:wc.cell? ⟨fA,1,none⟩=some (.int .u8 gq):=(ax bH.out 1).trans rfl
               have ahQ:wc.cell? ⟨fA,2,none⟩=some (.int .u8 gJ):=(ax bH.out 2).trans rfl
               have ahP:wc.cell? ⟨fA,3,none⟩=some (.int .u8 ik):=(ax bH.out 3).trans rfl
               have ahO:wc.cell? ⟨fA,4,none⟩=some (.int .i64 gW):=(ax bH.out 4).trans rfl
               have afC:=aC bH.out 0
               have afB:=aC bH.out 1
               have afA:=aC bH.out 2
               have afz:=aC bH.out 3
               have afy:=aC bH.out 4
               go_wp2_with (first|((with_reducible refine bu (f:=59) rfl ?_);refine dS (some 115) rfl rfl Tryd.func59 (by kernel_rfl) rfl #[.agg #[.slice eu aY.length ed,.string aU,.string aV,.slice fV aI.length eX],.int .u8 gq] rfl (by (try simp only [List.map_toArray,List.map_cons,List.map_nil]);first|done|rfl|(simp only [List.length_drop,List.length_take];rfl)) ?_;(with_reducible refine (jf.calls ni _ _ aY aU aV _ _ aI gq t153 _ ?cu ?dw ?iM ?iL Np.out).mono ?_);(case cu=>repeat (first|exact (Kd.bK iq.out HB.out)|(with_reducible refine Kd.bT ?_ _)|(with_reducible refine Kd.bQ ?_ _)|(with_reducible refine Kd.dD ?_)));(case dw=>exact iC.out);(case iM=>repeat (first|exact (Kd.bK jG.out HB.out)|(with_reducible refine Kd.bT ?_ _)|(with_reducible refine Kd.bQ ?_ _)|(with_reducible refine Kd.dD ?_)));(case iL=>exact jW.out);rintro e w95 ⟨rfl,hb⟩;refine ⟨_,rfl,?_⟩;have dV:=ae.mk (bf (g:=iI) (o:=.cells #[.slice eu aY.length ed,.string aU,.string aV,.slice fV aI.length eX] 25 (0,0)) (by (with_reducible repeat (first|refine au ?_ _|refine ay ?_|refine ak ?_ _));exact dO.out) hb);have dU:=ae.mk (bf (g:=fA) (o:=.cells #[.int .u8 bY,.int .u8 gq,.int .u8 gJ,.int .u8 ik,.int .i64 gW] 55 (0,0)) (by (with_reducible repeat (first|refine au ?_ _|refine ay ?_|refine ak ?_ _));exact bH.out) hb);have dR:=ae.mk (bg (by repeat (first|(with_reducible first|exact HB.out|apply ah|apply af|apply ai|refine aj ?_ iP.out|refine aj ?_ iQ.out)|exact HB.out)) hb);clear dO;clear bH;clear HB;have dO:=dV;have bH:=dU;have HB:=dR;clear dV dU dR;(try clear hb);(try clear hb2);(try clear hk);(try clear hi))|((with_reducible refine bu (f:=56) rfl ?_);refine dS (some 116) rfl rfl Tryd.func56 (by kernel_rfl) rfl #[.int .i64 t125,.int .i64 t153] rfl (by (try simp only [List.map_toArray,List.map_cons,List.map_nil]);first|done|rfl|(simp only [List.length_drop,List.length_take];rfl)) ?_;(with_reducible refine (gU.calls t125 t153 t154 _ A91.out).mono ?_);rintro e w' ⟨rfl,⟨nd,rfl⟩⟩;refine ⟨_,rfl,?_⟩))
               go_ret
               exact ⟨by first|rfl|(simp [aQ,aN] <;> rfl)|(simp [*,aQ,aN] <;> rfl),by repeat (first|(with_reducible first|exact HB.out|apply ah|apply af|apply ai|refine aj ?_ iP.out|refine aj ?_ iQ.out)|exact HB.out)⟩
              ·
               rw [if_neg Zv] at H
               have acE:(bY == 13)=false:=beq_eq_false_iff_ne.mpr Zv
               have acD:(bY != 13)=true:=bne_iff_ne.mpr Zv
               by_cases Zu:bY=15
               ·
                rw [if_pos Zu] at H
                have acC:(bY == 15)=true:=beq_iff_eq.mpr Zu
                have acB:(bY != 15)=false:=bne_eq_false_iff_eq.mpr Zu
                clear Zu
                obtain ⟨Ny,EP⟩:∃ y_:List Int,y_=(([gq]:List Int)):=⟨_,rfl⟩
                replace H:((dF.f ni Ny).bind fun t158=>(if t158=true then ((gu.f ni aY aU aV aI ik).bind fun t159=>((gU.f t125 t159).bind fun t160=>(some t160))) else (some false)))=some r:=by first|(rw [EP];with_reducible exact H)|(have tJ:=(Option.bind_some _ _).symm.trans H;rw [EP];with_reducible exact tJ)|(have tJ:=(Option.bind_some _ _).symm.trans H;with_reducible exact tJ)|with_reducible exact H|(rw [EP];exact H)|exact H
                have La:=ae.mk EP
                clear EP
                replace H:=Option.bind_eq_some_iff.mp H
                obtain ⟨t158,adU,H⟩:=H
                replace H:(if t158=true then ((gu.f ni aY aU aV aI ik).bind fun t159=>((gU.f t125 t159).bind fun t160=>(some t160))) else (some false))=some r:=H
                have A97:=ae.mk adU
                clear adU
                by_cases c98:t158=true
                ·
                 subst c98
                 have H1:((gu.f ni aY aU aV aI ik).bind fun t159=>((gU.f t125 t159).bind fun t160=>(some t160)))=some r:=by rw [if_pos rfl] at H;exact H
                 clear H
                 have H:=H1
                 clear H1
                 replace H:=Option.bind_eq_some_iff.mp H
                 obtain ⟨t159,adT,H⟩:=H
                 replace H:((gU.f t125 t159).bind fun t160=>(some t160))=some r:=H
                 have A99:=ae.mk adT
                 clear adT
                 replace H:=Option.bind_eq_some_iff.mp H
                 obtain ⟨t160,X5,H⟩:=H
                 replace H:(some t160)=some r:=H
                 have BF:=ae.mk X5
                 clear X5
                 obtain rfl:=Option.some.inj H
                 have akt:=kP.out
                 have akr:=kQ.out
                 have abV:wc.cell? ⟨fA,0,none⟩=some (.int .u8 bY):=(ax bH.out 0).trans rfl
                 have abU:wc.cell? ⟨fA,1,none⟩=some (.int .u8 gq):=(ax bH.out 1).trans rfl
                 have abT:wc.cell? ⟨fA,2,none⟩=some (.int .u8 gJ):=(ax bH.out 2).trans rfl
                 have abS:wc.cell? ⟨fA,3,none⟩=some (.int .u8 ik):=(ax bH.out 3).trans rfl
                 have abR:wc.cell? ⟨fA,4,none⟩=some (.int .i64 gW):=(ax bH.out 4).trans rfl
                 have abB:=aC bH.out 0
                 have abA:=aC bH.out 1
                 have abz:=aC bH.out 2
                 have aby:=aC bH.out 3
                 have abx:=aC bH.out 4
                 go_wp2_with (first|((with_reducible refine dL (N:=121) rfl ?_);refine Kd.uC (Kd.int .u8) _ 5 ?hg (N:=121) ?hd (xs:=([gq]:List Int)) (inner:=[.int .u8 gq]) (ok:=fun _=>True) (pM:=fun _=>True) ?hr ?hp (fun _ hk=>hk) trivial (Below.refl _ _) (Nat.le_refl _) (by simp) ?_;(case hd=>rfl);(case hg=>rfl);(case hr=>first|(go_simp;done)|(go_simp;rfl));(case hp=>exact (jk.one (show Kd.M (Kd.int .u8) _ _ _ gq [.int .u8 gq] from rfl) (jk.none _ _)));intro akg Dh EZ hb Bj nP;clear Bj nP;(first|rw [← La.out] at EZ|(simp only [Int.reduceToNat] at EZ;rw [← La.out] at EZ));have dV:=ae.mk (Kd.jh EZ (bW (by repeat (first|(with_reducible first|exact HB.out|apply ah|apply af|apply ai|refine aj ?_ iP.out|refine aj ?_ iQ.out)|exact HB.out))));have dU:=ae.mk (bf (g:=iI) (o:=.cells #[.slice eu aY.length ed,.string aU,.string aV,.slice fV aI.length eX] 25 (0,0)) (by (with_reducible repeat (first|refine au ?_ _|refine ay ?_|refine ak ?_ _));exact dO.out) hb);have dR:=ae.mk (bf (g:=fA) (o:=.cells #[.int .u8 bY,.int .u8 gq,.int .u8 gJ,.int .u8 ik,.int .i64 gW] 55 (0,0)) (by (with_reducible repeat (first|refine au ?_ _|refine ay ?_|refine ak ?_ _));exact bH.out) hb);have gQ:=ae.mk (bg (by repeat (first|(with_reducible first|exact HB.out|apply ah|apply af|apply ai|refine aj ?_ iP.out|refine aj ?_ iQ.out)|exact HB.out)) hb);clear dO;clear bH;clear HB;have vZ:=dV;have dO:=dU;have bH:=dR;have HB:=gQ;clear dV dU dR gQ;clear hb EZ;obtain ⟨adS,acA,acf⟩:=Kd.jr vZ.out;subst acf)|((with_reducible refine bu (f:=55) rfl ?_);refine dS (some 122) rfl rfl Tryd.func55 (by kernel_rfl) rfl #[.slice adS Ny.length acA] rfl (by (try simp only [List.map_toArray,List.map_cons,List.map_nil]);first|done|rfl|(simp only [List.length_drop,List.length_take];rfl)) ?_;(with_reducible refine (dF.calls ni _ _ Ny true _ ?cu ?dw A97.out).mono ?_);(case cu=>repeat (first|exact (Kd.eG vZ.out).2.2|(with_reducible refine Kd.bT ?_ _)|(with_reducible refine Kd.bQ ?_ _)|(with_reducible refine Kd.dD ?_)));(case dw=>exact (Kd.eG vZ.out).2.1);rintro e w' ⟨rfl,⟨nd,rfl⟩⟩;refine ⟨_,rfl,?_⟩;have abQ:Dh.cell? ⟨iI,0,none⟩=some (.slice eu aY.length ed):=(ax dO.out 0).trans rfl;have abP:Dh.cell? ⟨iI,1,none⟩=some (.string aU):=(ax dO.out 1).trans rfl;have abO:Dh.cell? ⟨iI,2,none⟩=some (.string aV):=(ax dO.out 2).trans rfl;have abN:Dh.cell? ⟨iI,3,none⟩=some (.slice fV aI.length eX):=(ax dO.out 3).trans rfl;have abw:=aC dO.out 0;have abv:=aC dO.out 1;have abu:=aC dO.out 2;have abt:=aC dO.out 3;have abM:Dh.cell? ⟨fA,0,none⟩=some (.int .u8 bY):=(ax bH.out 0).trans rfl;have abL:Dh.cell? ⟨fA,1,none⟩=some (.int .u8 gq):=(ax bH.out 1).trans rfl;have abK:Dh.cell? ⟨fA,2,none⟩=some (.int .u8 gJ):=(ax bH.out 2).trans rfl;have abJ:Dh.cell? ⟨fA,3,none⟩=some (.int .u8 ik):=(ax bH.out 3).trans rfl;have abI:Dh.cell? ⟨fA,4,none⟩=some (.int .i64 gW):=(ax bH.out 4).trans rfl;have abr:=aC bH.out 0;have abq:=aC bH.out 1;have abp:=aC bH.out 2;have abo:=aC bH.out 3;have abn:=aC bH.out 4)|(go_at_call 36;(with_reducible refine (gu.calls ni _ _ aY aU aV _ _ aI ik t159 _ ?cu ?dw ?iM ?iL A99.out).mono ?_);(case cu=>repeat (first|exact (Kd.bK iq.out (by repeat (first|(with_reducible first|exact HB.out|apply ah|apply af|apply ai|refine aj ?_ iP.out|refine aj ?_ iQ.out)|exact HB.out)))|(with_reducible refine Kd.bT ?_ _)|(with_reducible refine Kd.bQ ?_ _)|(with_reducible refine Kd.dD ?_)));(case dw=>exact iC.out);(case iM=>repeat (first|exact (Kd.bK jG.out (by repeat (first|(with_reducible first|exact HB.out|apply ah|apply af|apply ai|refine aj ?_ iP.out|refine aj ?_ iQ.out)|exact HB.out)))|(with_reducible refine Kd.bT ?_ _)|(with_reducible refine Kd.bQ ?_ _)|(with_reducible refine Kd.dD ?_)));(case iL=>exact jW.out);rintro e aot ⟨rfl,hb⟩;have dV:=ae.mk (Kd.ja (by (with_reducible repeat (first|apply Kd.iy|apply Kd.iw|apply Kd.jc));exact vZ.out) hb);have dU:=ae.mk (bf (g:=iI) (o:=.cells #[.slice eu aY.length ed,.string aU,.string aV,.slice fV aI.length eX] 25 (0,0)) (by (with_reducible repeat (first|refine au ?_ _|refine ay ?_|refine ak ?_ _));exact dO.out) hb);have dR:=ae.mk (bf (g:=fA) (o:=.cells #[.int .u8 bY,.int .u8 gq,.int .u8 gJ,.int .u8 ik,.int .i64 gW] 55 (0,0)) (by (with_reducible repeat (first|refine au ?_ _|refine ay ?_|refine ak ?_ _));exact bH.out) hb);have gQ:=ae.mk (bg (by repeat (first|(with_reducible first|exact HB.out|apply ah|apply af|apply ai|refine aj ?_ iP.out|refine aj ?_ iQ.out)|exact HB.out)) hb);clear vZ;clear dO;clear bH;clear HB;have vZ:=dV;have dO:=dU;have bH:=dR;have HB:=gQ;clear dV dU dR gQ;(try clear hb);(try clear hb2);(try clear hk);(try clear hi))|(go_at_call 56;(with_reducible refine (gU.calls t125 t159 t160 _ BF.out).mono ?_);rintro e w' ⟨rfl,⟨nd,rfl⟩⟩))
                 go_ret
                 exact ⟨by first|rfl|(simp [aQ,aN] <;> rfl)|(simp [*,aQ,aN] <;> rfl),by repeat (first|(with_reducible first|exact HB.out|apply ah|apply af|apply ai|refine aj ?_ iP.out|refine aj ?_ iQ.out)|exact HB.out)⟩
                ·
                 replace c98:=Bool.eq_false_iff.mpr c98
                 subst c98
                 have H1:(some false)=some r:=by rw [if_neg (show ¬ (false=true) by decide)] at H;exact H
                 clear H
                 have H:=H1
                 clear H1
                 obtain rfl:=Option.some.inj H
                 have aks:=kP.out
                 have akq:=kQ.out
                 have abH:wc.cell? ⟨fA,0,none⟩=some (.int .u8 bY):=(ax bH.out 0).trans rfl
                 have abG:wc.cell? ⟨fA,1,none⟩=some (.int .u8 gq):=(ax bH.out 1).trans rfl
                 have abE:wc.cell? ⟨fA,2,none⟩=some (.int .u8 gJ):=(ax bH.out 2).trans rfl
                 have abD:wc.cell? ⟨fA,3,none⟩=some (.int .u8 ik):=(ax bH.out 3).trans rfl
                 have abC:wc.cell? ⟨fA,4,none⟩=some (.int .i64 gW):=(ax bH.out 4).trans rfl
                 have abm:=aC bH.out 0
                 have abl:=aC bH.out 1
                 have abk:=aC bH.out 2
                 have abj:=aC bH.out 3
                 have abh:=aC bH.out 4
                 go_wp2_with (first|((with_reducible refine dL (N:=121) rfl ?_);refine Kd.uC (Kd.int .u8) _ 5 ?hg (N:=121) ?hd (xs:=([gq]:List Int)) (inner:=[.int .u8 gq]) (ok:=fun _=>True) (pM:=fun _=>True) ?hr ?hp (fun _ hk=>hk) trivial (Below.refl _ _) (Nat.le_refl _) (by simp) ?_;(case hd=>rfl);(case hg=>rfl);(case hr=>first|(go_simp;done)|(go_simp;rfl));(case hp=>exact (jk.one (show Kd.M (Kd.int .u8) _ _ _ gq [.int .u8 gq] from rfl) (jk.none _ _)));intro akg aos EY hb Bj nP;clear Bj nP;(first|rw [← La.out] at EY|(simp only [Int.reduceToNat] at EY;rw [← La.out] at EY));have dV:=ae.mk (Kd.jh EY (bW (by repeat (first|(with_reducible first|exact HB.out|apply ah|apply af|apply ai|refine aj ?_ iP.out|refine aj ?_ iQ.out)|exact HB.out))));have dU:=ae.mk (bf (g:=iI) (o:=.cells #[.slice eu aY.length ed,.string aU,.string aV,.slice fV aI.length eX] 25 (0,0)) (by (with_reducible repeat (first|refine au ?_ _|refine ay ?_|refine ak ?_ _));exact dO.out) hb);have dR:=ae.mk (bf (g:=fA) (o:=.cells #[.int .u8 bY,.int .u8 gq,.int .u8 gJ,.int .u8 ik,.int .i64 gW] 55 (0,0)) (by (with_reducible repeat (first|refine au ?_ _|refine ay ?_|refine ak ?_ _));exact bH.out) hb);have gQ:=ae.mk (bg (by repeat (first|(with_reducible first|exact HB.out|apply ah|apply af|apply ai|refine aj ?_ iP.out|refine aj ?_ iQ.out)|exact HB.out)) hb);clear dO;clear bH;clear HB;have vZ:=dV;have dO:=dU;have bH:=dR;have HB:=gQ;clear dV dU dR gQ;clear hb EY;obtain ⟨adR,acz,ace⟩:=Kd.jr vZ.out;subst ace)|((with_reducible refine bu (f:=55) rfl ?_);refine dS (some 122) rfl rfl Tryd.func55 (by kernel_rfl) rfl #[.slice adR Ny.length acz] rfl (by (try simp only [List.map_toArray,List.map_cons,List.map_nil]);first|done|rfl|(simp only [List.length_drop,List.length_take];rfl)) ?_;(with_reducible refine (dF.calls ni _ _ Ny false _ ?cu ?dw A97.out).mono ?_);(case cu=>repeat (first|exact (Kd.eG vZ.out).2.2|(with_reducible refine Kd.bT ?_ _)|(with_reducible refine Kd.bQ ?_ _)|(with_reducible refine Kd.dD ?_)));(case dw=>exact (Kd.eG vZ.out).2.1);rintro e w' ⟨rfl,⟨nd,rfl⟩⟩;refine ⟨_,rfl,?_⟩))
                 go_ret
                 exact ⟨by first|rfl|(simp [aQ,aN] <;> rfl)|(simp [*,aQ,aN] <;> rfl),by repeat (first|(with_reducible first|exact HB.out|apply ah|apply af|apply ai|refine aj ?_ iP.out|refine aj ?_ iQ.out)|exact HB.out)⟩
               ·
                rw [if_neg Zu] at H
                have acC:(bY == 15)=false:=beq_eq_false_iff_ne.mpr Zu
                have acB:(bY != 15)=true:=bne_iff_ne.mpr Zu
                obtain rfl:=Option.some.inj H
                go_wp2
                go_ret
                exact ⟨by first|rfl|(simp [aQ,aN] <;> rfl)|(simp [*,aQ,aN] <;> rfl),by repeat (first|(with_reducible first|exact HB.out|apply ah|apply af|apply ai|refine aj ?_ iP.out|refine aj ?_ iQ.out)|exact HB.out)⟩
end Go.Proofs.YtlemecdddhdagaaDoor.P
end
