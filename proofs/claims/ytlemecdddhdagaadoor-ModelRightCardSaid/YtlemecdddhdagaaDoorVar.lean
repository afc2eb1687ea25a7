/- Parts of the proof of ModelRight: what the functions that it reaches compute, and plain facts about that. -/
import Derived.Test.YtlemecdddhdagaaDoorVab
import Derived.Test.YtlemecdddhdagaaDoorVam
import Derived.Test.YtlemecdddhdagaaDoorVap
import Derived.Test.YtlemecdddhdagaaDoorVaq
import Derived.Test.YtlemecdddhdagaaDoorVah
import Derived.Test.YtlemecdddhdagaaDoorVak
set_option linter.unusedVariables false
set_option linter.unusedSimpArgs false
section
namespace Go.Proofs.YtlemecdddhdagaaDoor.P
open Go.RowKit Go.Proofs.ag.bI Go.Proofs.ag.dM Go.Proofs.ag.dZ
attribute [local go_sem] kU kS lW lV jS jR kT kR
def aX.j0:Nat→Int→Int→Int→Bool→List ByteArray→ByteArray→ByteArray→List (gZ)→Int→Int→Int→Int→Int→Option (Bool)
 | 0,_,_,_,_,_,_,_,_,_,_,_,_,_=>none
 | k+1,x5,x6,x16,x17,sJ,sH,sG,sF,aer,QL,QK,QJ,yJ=>if x17=true then (some (decide (x5 ≥ 0))) else (if x16=7 then ((dA.f x5 x6).bind fun t172=>(some t172)) else (if x16=15 then ((dm.f k sJ sH sG sF QJ).bind fun t173=>((dA.f x6 t173).bind fun t174=>(some t174))) else (if x16=8 then (if x6 ≥ 0 then ((fB.f k sJ sH sG sF x6 yJ).bind fun t175=>(some t175)) else (some false)) else (if x16=9 then (if x5 ≥ 0 then ((fB.f k sJ sH sG sF x5 yJ).bind fun t176=>(some t176)) else (some false)) else (if x16=10 then (if x6 ≥ 0 then ((gp.f k sJ sH sG sF x6 yJ).bind fun t177=>((dA.f x5 t177).bind fun t178=>(some t178))) else (some false)) else (if x16=11 then (if x5 ≥ 0 then ((gp.f k sJ sH sG sF x5 yJ).bind fun t179=>((dA.f x6 t179).bind fun t180=>(some t180))) else (some false)) else (if x16=12 then ((dQ.f k sJ sH sG sF QK).bind fun t181=>((dA.f x5 t181).bind fun t182=>(some t182))) else (if x16=13 then ((dQ.f k sJ sH sG sF QL).bind fun t183=>((dA.f x6 t183).bind fun t184=>(some t184))) else (some true)))))))))
def aX.f (k:Nat) (aY:List ByteArray) (aU:ByteArray) (aV:ByteArray) (aI:List (gZ)) (bY:Int) (gq:Int) (gJ:Int) (ik:Int) (gW:Int):Option (Bool):=(dm.f k aY aU aV aI gq).bind fun t170=>((dm.f k aY aU aV aI gJ).bind fun t171=>(if bY=5 then (aX.j0 k t170 t171 bY (bY == 5) aY aU aV aI bY gq gJ ik gW) else (aX.j0 k t170 t171 bY (bY == 6) aY aU aV aI bY gq gJ ik gW)))
theorem aX.gY:∀ k,(∀ y0 y1 y2 y3 y4 y5 y6 y7 y8 y9 zA Gj Gi,dN (aX.j0 k y0 y1 y2 y3 y4 y5 y6 y7 y8 y9 zA Gj Gi) (aX.j0 (k+1) y0 y1 y2 y3 y4 y5 y6 y7 y8 y9 zA Gj Gi))
 | 0=>fun _ _ _ _ _ _ _ _ _ _ _ _ _ r h=>by simp [aX.j0] at h
 | k+1=>by
  have lF:=aX.gY k
  ·
   intro y0 y1 y2 y3 y4 y5 y6 y7 y8 y9 zA Gj Gi
   unfold aX.j0
   repeat' with_reducible first|apply lF|apply dQ.mono|apply dm.mono|apply fB.mono|apply gp.mono|exact dN.refl _|exact dN.none _|refine dN.ite ?_ ?_|refine dN.bind ?_ (fun _=>?_)
theorem aX.mono:∀ a0 a1 a2 a3 a4 a5 a6 a7 a8 k,dN (aX.f k a0 a1 a2 a3 a4 a5 a6 a7 a8) (aX.f (k+1) a0 a1 a2 a3 a4 a5 a6 a7 a8):=by
 intro a0 a1 a2 a3 a4 a5 a6 a7 a8 k
 have lF:=aX.gY k
 unfold aX.f
 repeat' with_reducible first|apply lF|apply dQ.mono|apply dm.mono|apply fB.mono|apply gp.mono|exact dN.refl _|exact dN.none _|refine dN.ite ?_ ?_|refine dN.bind ?_ (fun _=>?_)
def aX.T1:Bool × List (List Nat × List Nat):=(true,[([],[]),([],[]),([1],[1]),([0,2],[0,2]),([],[]),([],[]),([5],[5]),([4,6,3],[4,6]),([3,7,0,1,2,3],[3]),([7,8,0,1,2,3,4,5,6,7,8],[7])])
def aX.B1:List Nat:=[0,0,2,7,0,0,32,127,255,511]
theorem aX.Yf:qg .any (opsOf Tryd.f30 1)=aX.T1:=by kernel_rfl
theorem aX.Qe:qV aX.T1.2 aX.B1=true:=by kernel_rfl
set_option maxHeartbeats 8000000 in
set_option maxRecDepth 100000 in
theorem aX.calls (k:Nat) (eu:Option Addr) (ed:Nat) (aY:List ByteArray) (aU:ByteArray) (aV:ByteArray) (fV:Option Addr) (eX:Nat) (aI:List (gZ)) (bY:Int) (gq:Int) (gJ:Int) (ik:Int) (gW:Int) (r:Bool) (w:World) (jK:Kd.C Kd.string w eu aY.length aY) (jM:aY.length≤ed) (jJ:Kd.C tZ w fV aI.length aI) (jL:aI.length≤eX) (h:aX.f k aY aU aV aI bY gq gJ ik gW=some r) :
  Calls Tryd.prog 30 #[.agg #[.slice eu aY.length ed,.string aU,.string aV,.slice fV aI.length eX],.agg #[.int .u8 bY,.int .u8 gq,.int .u8 gJ,.int .u8 ik,.int .i64 gW]] w fun e w'=>e=.returned (.bool r)∧Below w.heap.size w w':=by
 have xM:=Tryd.underlying25
 have Bi:=Tryd.underlying55
 have iq:=ae.mk jK
 have iC:=ae.mk jM
 clear jK jM
 have jG:=ae.mk jJ
 have jW:=ae.mk jL
 clear jJ jL
 have HB:=ae.mk (Below.refl w.heap.size w)
 have H:((dm.f k aY aU aV aI gq).bind fun t170=>((dm.f k aY aU aV aI gJ).bind fun t171=>(if bY=5 then (aX.j0 k t170 t171 bY (bY == 5) aY aU aV aI bY gq gJ ik gW) else (aX.j0 k t170 t171 bY (bY == 6) aY aU aV aI bY gq gJ ik gW))))=some r:=h
 clear h
 replace H:=Option.bind_eq_some_iff.mp H
 obtain ⟨t170,xB,H⟩:=H
 replace H:((dm.f k aY aU aV aI gJ).bind fun t171=>(if bY=5 then (aX.j0 k t170 t171 bY (bY == 5) aY aU aV aI bY gq gJ ik gW) else (aX.j0 k t170 t171 bY (bY == 6) aY aU aV aI bY gq gJ ik gW)))=some r:=H
 have A3:=ae.mk xB
 clear xB
 replace H:=Option.bind_eq_some_iff.mp H
 obtain ⟨t171,Be,H⟩:=H
 replace H:(if bY=5 then (aX.j0 k t170 t171 bY (bY == 5) aY aU aV aI bY gq gJ ik gW) else (aX.j0 k t170 t171 bY (bY == 6) aY aU aV aI bY gq gJ ik gW))=some r:=H
 have A4:=ae.mk Be
 clear Be
 have H8:=ae.mk H
 clear H
 go_enter Tryd.func30,Tryd.ntmps30
 try go_wp2_with (first|((with_reducible refine dL (N:=2) rfl ?_);refine fF ?hg (N:=2) ?hd (cs:=#[.slice eu aY.length ed,.string aU,.string aV,.slice fV aI.length eX]) (t:=25) ?hr ?_;(case hd=>rfl);(case hg=>rfl);(case hr=>first|(go_simp;done)|(go_simp;rfl));intro oV hg w6 hbox hb;have dV:=ae.mk (bg (by repeat (first|(with_reducible first|exact HB.out|apply ah|apply af|apply ai)|exact HB.out)) hb);have dU:=ae.mk (hbox);have dR:=ae.mk ((by rw [hg];exact (bW (by repeat (first|(with_reducible first|exact HB.out|apply ah|apply af|apply ai)|exact HB.out))):w.heap.size≤oV));have gQ:=dR;clear HB;have HB:=dV;have iE:=dU;have anX:=dR;have lM:=gQ;clear dV dU dR gQ;clear hb hbox hg)|((with_reducible refine dL (N:=3) rfl ?_);refine fF ?hg (N:=3) ?hd (cs:=#[.int .u8 bY,.int .u8 gq,.int .u8 gJ,.int .u8 ik,.int .i64 gW]) (t:=55) ?hr ?_;(case hd=>rfl);(case hg=>rfl);(case hr=>first|(go_simp;done)|(go_simp;rfl));intro pR hg w7 hbox hb;have dV:=ae.mk (bf (g:=oV) (o:=.cells #[.slice eu aY.length ed,.string aU,.string aV,.slice fV aI.length eX] 25 (0,0)) (by (with_reducible repeat (first|refine au ?_ _|refine ay ?_|refine ak ?_ _));exact iE.out) hb);have dU:=ae.mk (bg (by repeat (first|(with_reducible first|exact HB.out|apply ah|apply af|apply ai|refine aj ?_ lM.out)|exact HB.out)) hb);have dR:=ae.mk (hbox);have gQ:=ae.mk ((by rw [hg];exact (bW (by repeat (first|(with_reducible first|exact HB.out|apply ah|apply af|apply ai|refine aj ?_ lM.out)|exact HB.out))):w.heap.size≤pR));have lQ:=gQ;have mr:=ae.mk ((by rw [hg];exact Nat.ne_of_lt (kC (g:=oV) (o:=.cells #[.slice eu aY.length ed,.string aU,.string aV,.slice fV aI.length eX] 25 (0,0)) (by (with_reducible repeat (first|refine au ?_ _|refine ay ?_|refine ak ?_ _));exact iE.out)):oV ≠ pR));have nJ:=ae.mk mr.out.symm;clear iE;clear HB;have iE:=dV;have HB:=dU;have iD:=dR;have anW:=gQ;have mg:=lQ;have ou:=mr;have oq:=nJ;clear dV dU dR gQ lQ mr nJ;clear hb hbox hg))
 have dV:=ae.mk (ay iE.out)
 have dU:=ae.mk (ay iD.out)
 have dR:=ae.mk (ai HB.out)
 clear iE
 clear iD
 clear HB
 have iE:=dV
 have iD:=dU
 have HB:=dR
 clear dV dU dR
 refine o5 (n:=10) (S:=fun w'=>w'.cell? ⟨oV,0,none⟩=some (.slice eu aY.length ed)∧w'.cell? ⟨oV,1,none⟩=some (.string aU)∧w'.cell? ⟨oV,2,none⟩=some (.string aV)∧w'.cell? ⟨oV,3,none⟩=some (.slice fV aI.length eX)∧w'.cell? ⟨pR,0,none⟩=some (.int .u8 bY)∧w'.cell? ⟨pR,1,none⟩=some (.int .u8 gq)∧w'.cell? ⟨pR,2,none⟩=some (.int .u8 gJ)∧w'.cell? ⟨pR,3,none⟩=some (.int .u8 ik)∧w'.cell? ⟨pR,4,none⟩=some (.int .i64 gW)) (ds:=[]) #[false,false,false,false,false,false,false,false,false,false] (by kernel_rfl) rfl rfl ⟨(ax iE.out 0).trans rfl,(ax iE.out 1).trans rfl,(ax iE.out 2).trans rfl,(ax iE.out 3).trans rfl,(ax iD.out 0).trans rfl,(ax iD.out 1).trans rfl,(ax iD.out 2).trans rfl,(ax iD.out 3).trans rfl,(ax iD.out 4).trans rfl⟩ (fun hHeld=>?_);refine qB aX.Yf aX.Qe (fun lh BA=>?_)
 generalize w7.drew=w8 at iE iD HB hHeld ⊢
 refine dX (i:=1) (N:=some 8) (v:=?_) (a':=?_) #[false,true,false,false,false,false,false,false,false,false] rfl rfl (iF lh.out (by kernel_rfl)) (fun _ _ _ h=>h) (Or.inl ⟨by rfl,?_⟩) ?_ ?_
 rotate_left
 ·
  intro w'
  go_simp
  with_reducible rfl
 rotate_left
 ·
  simp only [Act.put,List.setIfInBounds_toArray,List.set_cons_zero,List.set_cons_succ,bG,bJ]
  rfl
 refine dX (i:=5) (N:=some 12) (v:=?_) (a':=?_) #[false,true,false,false,false,true,false,false,false,false] rfl rfl (iF lh.out (by kernel_rfl)) (fun _ _ _ h=>h) (Or.inl ⟨by rfl,?_⟩) ?_ ?_
 rotate_left
 ·
  intro w'
  go_simp
  with_reducible rfl
 rotate_left
 ·
  simp only [Act.put,List.setIfInBounds_toArray,List.set_cons_zero,List.set_cons_succ,bG,bJ]
  rfl
 refine jg (i:=0) (N:=some 7) (v:=?_) (a':=?_) #[true,true,false,false,false,true,false,false,false,false] rfl rfl (kJ lh.out BA.out (by kernel_rfl)) (fun _ _ _ h=>h) (Or.inl ⟨by rfl,?_⟩) hHeld ?_ ?_
 rotate_left
 ·
  rintro w' ⟨s0,s1,s2,s3,s4,s5,s6,s7,s8⟩
  go_simp
  with_reducible rfl
 rotate_left
 ·
  simp only [Act.put,List.setIfInBounds_toArray,List.set_cons_zero,List.set_cons_succ,bG,bJ]
  rfl
 refine jg (i:=2) (N:=some 9) (v:=?_) (a':=?_) #[true,true,true,false,false,true,false,false,false,false] rfl rfl (kJ lh.out BA.out (by kernel_rfl)) (fun _ _ _ h=>h) (Or.inl ⟨by rfl,?_⟩) hHeld ?_ ?_
 rotate_left
 ·
  rintro w' ⟨s0,s1,s2,s3,s4,s5,s6,s7,s8⟩
  go_simp
  with_reducible rfl
 rotate_left
 ·
  simp only [Act.put,List.setIfInBounds_toArray,List.set_cons_zero,List.set_cons_succ,bG,bJ]
  rfl
 refine jg (i:=4) (N:=some 11) (v:=?_) (a':=?_) #[true,true,true,false,true,true,false,false,false,false] rfl rfl (kJ lh.out BA.out (by kernel_rfl)) (fun _ _ _ h=>h) (Or.inl ⟨by rfl,?_⟩) hHeld ?_ ?_
 rotate_left
 ·
  rintro w' ⟨s0,s1,s2,s3,s4,s5,s6,s7,s8⟩
  go_simp
  with_reducible rfl
 rotate_left
 ·
  simp only [Act.put,List.setIfInBounds_toArray,List.set_cons_zero,List.set_cons_succ,bG,bJ]
  rfl
 refine jg (i:=6) (N:=some 13) (v:=?_) (a':=?_) #[true,true,true,false,true,true,true,false,false,false] rfl rfl (kJ lh.out BA.out (by kernel_rfl)) (fun _ _ _ h=>h) (Or.inl ⟨by rfl,?_⟩) hHeld ?_ ?_
 rotate_left
 ·
  rintro w' ⟨s0,s1,s2,s3,s4,s5,s6,s7,s8⟩
  go_simp
  with_reducible rfl
 rotate_left
 ·
  simp only [Act.put,List.setIfInBounds_toArray,List.set_cons_zero,List.set_cons_succ,bG,bJ]
  rfl
 refine o6 (i:=3) (N:=some 10) #[true,true,true,true,true,true,true,false,false,false] rfl rfl (mY lh.out (by kernel_rfl)) (by decide) (fun K hK=>?_)
 refine oI Tryd.func19 (by kernel_rfl) rfl #[.agg #[.slice eu aY.length ed,.string aU,.string aV,.slice fV aI.length eX],.int .u8 gq] (by rfl) rfl rfl (by (try simp only [List.map_toArray,List.map_cons,List.map_nil]);first|done|rfl|(simp only [List.length_drop,List.length_take];rfl)) ?_
 with_reducible refine (dm.calls k _ _ aY aU aV _ _ aI gq t170 _ ?cu ?dw ?iM ?iL A3.out).mono ?_
 (case cu=>repeat (first|exact (Kd.bK iq.out HB.out)|(with_reducible refine Kd.bT ?_ _)|(with_reducible refine Kd.bQ ?_ _)|(with_reducible refine Kd.dD ?_)))
 (case dw=>exact iC.out)
 (case iM=>repeat (first|exact (Kd.bK jG.out HB.out)|(with_reducible refine Kd.bT ?_ _)|(with_reducible refine Kd.bQ ?_ _)|(with_reducible refine Kd.dD ?_)))
 (case iL=>exact jW.out)
 rintro e w9 ⟨rfl,hb⟩
 refine ⟨_,rfl,?_⟩
 have dV:=ae.mk (bf (g:=oV) (o:=.cells #[.slice eu aY.length ed,.string aU,.string aV,.slice fV aI.length eX] 25 (0,0)) (by (with_reducible repeat (first|refine au ?_ _|refine ay ?_|refine ak ?_ _));exact iE.out) hb)
 have dU:=ae.mk (bf (g:=pR) (o:=.cells #[.int .u8 bY,.int .u8 gq,.int .u8 gJ,.int .u8 ik,.int .i64 gW] 55 (0,0)) (by (with_reducible repeat (first|refine au ?_ _|refine ay ?_|refine ak ?_ _));exact iD.out) hb)
 have dR:=ae.mk (bg (by repeat (first|(with_reducible first|exact HB.out|apply ah|apply af|apply ai|refine aj ?_ lM.out|refine aj ?_ mg.out)|exact HB.out)) hb)
 clear iE
 clear iD
 clear HB
 have iE:=dV
 have iD:=dU
 have HB:=dR
 clear dV dU dR
 (try clear hb)
 (try clear hb2)
 (try clear hk)
 (try clear hi)
 refine hK.out _ _ ⟨(ax iE.out 0).trans rfl,(ax iE.out 1).trans rfl,(ax iE.out 2).trans rfl,(ax iE.out 3).trans rfl,(ax iD.out 0).trans rfl,(ax iD.out 1).trans rfl,(ax iD.out 2).trans rfl,(ax iD.out 3).trans rfl,(ax iD.out 4).trans rfl⟩ (fun hHeld=>?_)
 clear hK K
 refine jm (a':=?_) ?_ ?_
 rotate_left
 ·
  show Act.put _ (some 10) _=_
  simp only [Act.put,List.setIfInBounds_toArray,List.set_cons_zero,List.set_cons_succ,bG,bJ]
  rfl
 refine o6 (i:=7) (N:=some 14) #[true,true,true,true,true,true,true,true,false,false] rfl rfl (mY lh.out (by kernel_rfl)) (by decide) (fun K hK=>?_)
 refine oI Tryd.func19 (by kernel_rfl) rfl #[.agg #[.slice eu aY.length ed,.string aU,.string aV,.slice fV aI.length eX],.int .u8 gJ] (by rfl) rfl rfl (by (try simp only [List.map_toArray,List.map_cons,List.map_nil]);first|done|rfl|(simp only [List.length_drop,List.length_take];rfl)) ?_
 with_reducible refine (dm.calls k _ _ aY aU aV _ _ aI gJ t171 _ ?cu ?dw ?iM ?iL A4.out).mono ?_
 (case cu=>repeat (first|exact (Kd.bK iq.out HB.out)|(with_reducible refine Kd.bT ?_ _)|(with_reducible refine Kd.bQ ?_ _)|(with_reducible refine Kd.dD ?_)))
 (case dw=>exact iC.out)
 (case iM=>repeat (first|exact (Kd.bK jG.out HB.out)|(with_reducible refine Kd.bT ?_ _)|(with_reducible refine Kd.bQ ?_ _)|(with_reducible refine Kd.dD ?_)))
 (case iL=>exact jW.out)
 rintro e w10 ⟨rfl,hb⟩
 refine ⟨_,rfl,?_⟩
 have dV:=ae.mk (bf (g:=oV) (o:=.cells #[.slice eu aY.length ed,.string aU,.string aV,.slice fV aI.length eX] 25 (0,0)) (by (with_reducible repeat (first|refine au ?_ _|refine ay ?_|refine ak ?_ _));exact iE.out) hb)
 have dU:=ae.mk (bf (g:=pR) (o:=.cells #[.int .u8 bY,.int .u8 gq,.int .u8 gJ,.int .u8 ik,.int .i64 gW] 55 (0,0)) (by (with_reducible repeat (first|refine au ?_ _|refine ay ?_|refine ak ?_ _));exact iD.out) hb)
 have dR:=ae.mk (bg (by repeat (first|(with_reducible first|exact HB.out|apply ah|apply af|apply ai|refine aj ?_ lM.out|refine aj ?_ mg.out)|exact HB.out)) hb)
 clear iE
 clear iD
 clear HB
 have iE:=dV
 have iD:=dU
 have HB:=dR
 clear dV dU dR
 (try clear hb)
 (try clear hb2)
 (try clear hk)
 (try clear hi)
 refine hK.out _ _ ⟨(ax iE.out 0).trans rfl,(ax iE.out 1).trans rfl,(ax iE.out 2).trans rfl,(ax iE.out 3).trans rfl,(ax iD.out 0).trans rfl,(ax iD.out 1).trans rfl,(ax iD.out 2).trans rfl,(ax iD.out 3).trans rfl,(ax iD.out 4).trans rfl⟩ (fun hHeld=>?_)
 clear hK K
 refine jm (a':=?_) ?_ ?_
 rotate_left
 ·
  show Act.put _ (some 14) _=_
  simp only [Act.put,List.setIfInBounds_toArray,List.set_cons_zero,List.set_cons_succ,bG,bJ]
  rfl
 refine dX (i:=8) (N:=some 5) (v:=?_) (a':=?_) #[true,true,true,true,true,true,true,true,true,false] rfl rfl (iF lh.out (by kernel_rfl)) (fun _ _ _ h=>h) (Or.inl ⟨by rfl,?_⟩) ?_ ?_
 rotate_left
 ·
  intro w'
  go_simp
  with_reducible rfl
 rotate_left
 ·
  simp only [Act.put,List.setIfInBounds_toArray,List.set_cons_zero,List.set_cons_succ,bG,bJ]
  rfl
 refine dX (i:=9) (N:=some 6) (v:=?_) (a':=?_) #[true,true,true,true,true,true,true,true,true,true] rfl rfl (iF lh.out (by kernel_rfl)) (fun _ _ _ h=>h) (Or.inl ⟨by rfl,?_⟩) ?_ ?_
 rotate_left
 ·
  intro w'
  go_simp
  with_reducible rfl
 rotate_left
 ·
  simp only [Act.put,List.setIfInBounds_toArray,List.set_cons_zero,List.set_cons_succ,bG,bJ]
  rfl
 refine rH (vz lh.out (by kernel_rfl)) ?_
 have abd:=oq.out
 have aa2:=ou.out
 obtain ⟨DY,DX,DW,DV,VW,DK,DJ,DI,DF,Ut⟩:=jT iD.out
 go_upto_if 17 with (fail)
 go_cut [17] (fun v17 wc=>∃ (kq:Nat) (Ik:Bool),v17=.bool Ik∧ae (aX.j0 kq t170 t171 bY Ik aY aU aV aI bY gq gJ ik gW=some r)∧ae (kq≤k)∧ae (wc.heap[oV]? = some (.cells #[(.slice eu aY.length ed),.string aU,.string aV,(.slice fV aI.length eX)] 25 (0,0)))∧ae (wc.heap[pR]? = some (.cells #[.int .u8 bY,.int .u8 gq,.int .u8 gJ,.int .u8 ik,.int .i64 gW] 55 (0,0)))∧ae (Below w.heap.size w wc))
 case first =>
  have H:=H8.out
  clear H8
  by_cases c13:bY=5
  ·
   rw [if_pos c13] at H
   have l9:(bY == 5)=true:=beq_iff_eq.mpr c13
   have xq:(bY != 5)=false:=bne_eq_false_iff_eq.mpr c13
   clear c13
   (first|rw [l9]|(simp only [bG,bJ];rw [l9])|skip)
   have H':=ae.mk H
   clear H
   go_wp2
   go_meet
   case rel=>exact ⟨_,((bY == 5)),(by first|rfl|(simp;done)|(simp [*];done)),H',⟨by first|omega|exact Nat.le_refl _⟩,⟨by (with_reducible repeat (first|refine au ?_ _|refine ay ?_|refine ak ?_ _));exact iE.out⟩,⟨by (with_reducible repeat (first|refine au ?_ _|refine ay ?_|refine ak ?_ _));exact iD.out⟩,⟨by repeat (first|(with_reducible first|exact HB.out|apply ah|apply af|apply ai|refine aj ?_ lM.out|refine aj ?_ mg.out)|exact HB.out)⟩⟩
  ·
   rw [if_neg c13] at H
   have l9:(bY == 5)=false:=beq_eq_false_iff_ne.mpr c13
   have xq:(bY != 5)=true:=bne_iff_ne.mpr c13
   (first|rw [l9]|(simp only [bG,bJ];rw [l9])|skip)
   have H':=ae.mk H
   clear H
   go_wp2
   go_meet
   case rel=>exact ⟨_,((bY == 6)),(by first|rfl|(simp;done)|(simp [*];done)),H',⟨by first|omega|exact Nat.le_refl _⟩,⟨by (with_reducible repeat (first|refine au ?_ _|refine ay ?_|refine ak ?_ _));exact iE.out⟩,⟨by (with_reducible repeat (first|refine au ?_ _|refine ay ?_|refine ak ?_ _));exact iD.out⟩,⟨by repeat (first|(with_reducible first|exact HB.out|apply ah|apply af|apply ai|refine aj ?_ lM.out|refine aj ?_ mg.out)|exact HB.out)⟩⟩
 case rest =>
  clear H8
  obtain ⟨kq,Ik,rfl,HA,H7,iE,iD,HB⟩:=hcut
  cases kq with
  | zero=>exact absurd HA.out (by simp [aX.j0])
  | succ uQ =>
   have H:=HA.out
   clear HA
   simp only [aX.j0] at H
   by_cases c14:Ik=true
   ·
    subst c14
    have H1:(some (decide (t170 ≥ 0)))=some r:=by rw [if_pos rfl] at H;exact H
    clear H
    have H:=H1
    clear H1
    obtain rfl:=Option.some.inj H
    go_wp2
    go_ret
    exact ⟨by first|rfl|(simp [aQ,aN] <;> rfl)|(simp [*,aQ,aN] <;> rfl),by repeat (first|(with_reducible first|exact HB.out|apply ah|apply af|apply ai|refine aj ?_ lM.out|refine aj ?_ mg.out)|exact HB.out)⟩
   ·
    replace c14:=Bool.eq_false_iff.mpr c14
    subst c14
    have H1:(if bY=7 then ((dA.f t170 t171).bind fun t172=>(some t172)) else (if bY=15 then ((dm.f uQ aY aU aV aI ik).bind fun t173=>((dA.f t171 t173).bind fun t174=>(some t174))) else (if bY=8 then (if t171 ≥ 0 then ((fB.f uQ aY aU aV aI t171 gW).bind fun t175=>(some t175)) else (some false)) else (if bY=9 then (if t170 ≥ 0 then ((fB.f uQ aY aU aV aI t170 gW).bind fun t176=>(some t176)) else (some false)) else (if bY=10 then (if t171 ≥ 0 then ((gp.f uQ aY aU aV aI t171 gW).bind fun t177=>((dA.f t170 t177).bind fun t178=>(some t178))) else (some false)) else (if bY=11 then (if t170 ≥ 0 then ((gp.f uQ aY aU aV aI t170 gW).bind fun t179=>((dA.f t171 t179).bind fun t180=>(some t180))) else (some false)) else (if bY=12 then ((dQ.f uQ aY aU aV aI gJ).bind fun t181=>((dA.f t170 t181).bind fun t182=>(some t182))) else (if bY=13 then ((dQ.f uQ aY aU aV aI gq).bind fun t183=>((dA.f t171 t183).bind fun t184=>(some t184))) else (some true)))))))))=some r:=by rw [if_neg (show ¬ (false=true) by decide)] at H;exact H
    clear H
    have H:=H1
    clear H1
    by_cases c15:bY=7
    ·
     rw [if_pos c15] at H
     have ql:(bY == 7)=true:=beq_iff_eq.mpr c15
     have FM:(bY != 7)=false:=bne_eq_false_iff_eq.mpr c15
     clear c15
     replace H:=Option.bind_eq_some_iff.mp H
     obtain ⟨t172,Gg,H⟩:=H
     replace H:(some t172)=some r:=H
     have Z8:=ae.mk Gg
     clear Gg
     obtain rfl:=Option.some.inj H
     go_wp2_with (first|((with_reducible refine bu (f:=48) rfl ?_);refine dS (some 26) rfl rfl Tryd.func48 (by kernel_rfl) rfl #[.int .i64 t170,.int .i64 t171] rfl (by (try simp only [List.map_toArray,List.map_cons,List.map_nil]);first|done|rfl|(simp only [List.length_drop,List.length_take];rfl)) ?_;(with_reducible refine (dA.calls t170 t171 t172 _ Z8.out).mono ?_);rintro e w' ⟨rfl,⟨nd,rfl⟩⟩;refine ⟨_,rfl,?_⟩))
     go_ret
     exact ⟨by first|rfl|(simp [aQ,aN] <;> rfl)|(simp [*,aQ,aN] <;> rfl),by repeat (first|(with_reducible first|exact HB.out|apply ah|apply af|apply ai|refine aj ?_ lM.out|refine aj ?_ mg.out)|exact HB.out)⟩
    ·
     rw [if_neg c15] at H
     have ql:(bY == 7)=false:=beq_eq_false_iff_ne.mpr c15
     have FM:(bY != 7)=true:=bne_iff_ne.mpr c15
     by_cases c17:bY=15
     ·
      rw [if_pos c17] at H
      have yt:(bY == 15)=true:=beq_iff_eq.mpr c17
      have FI:(bY != 15)=false:=bne_eq_false_iff_eq.mpr c17
      clear c17
      replace H:=Option.bind_eq_some_iff.mp H
      obtain ⟨t173,aen,H⟩:=H
      replace H:((dA.f t171 t173).bind fun t174=>(some t174))=some r:=H
      have A18:=ae.mk aen
      clear aen
      replace H:=Option.bind_eq_some_iff.mp H
      obtain ⟨t174,F9,H⟩:=H
      replace H:(some t174)=some r:=H
      have Qz:=ae.mk F9
      clear F9
      obtain rfl:=Option.some.inj H
      have amI:=ou.out
      have amf:=oq.out
      obtain ⟨VH,VG,VF,VE,Uc,Ub,Ua,TZ⟩:=qP iE.out
      obtain ⟨Ku,Kt,Kr,Kq,ajN,JA,Jz,Jy,Jw,ahz⟩:=jT iD.out
      go_wp2_with (first|((with_reducible refine bu (f:=19) rfl ?_);refine dS (some 33) rfl rfl Tryd.func19 (by kernel_rfl) rfl #[.agg #[.slice eu aY.length ed,.string aU,.string aV,.slice fV aI.length eX],.int .u8 ik] rfl (by (try simp only [List.map_toArray,List.map_cons,List.map_nil]);first|done|rfl|(simp only [List.length_drop,List.length_take];rfl)) ?_;(with_reducible refine (dm.calls uQ _ _ aY aU aV _ _ aI ik t173 _ ?cu ?dw ?iM ?iL A18.out).mono ?_);(case cu=>repeat (first|exact (Kd.bK iq.out HB.out)|(with_reducible refine Kd.bT ?_ _)|(with_reducible refine Kd.bQ ?_ _)|(with_reducible refine Kd.dD ?_)));(case dw=>exact iC.out);(case iM=>repeat (first|exact (Kd.bK jG.out HB.out)|(with_reducible refine Kd.bT ?_ _)|(with_reducible refine Kd.bQ ?_ _)|(with_reducible refine Kd.dD ?_)));(case iL=>exact jW.out);rintro e w23 ⟨rfl,hb⟩;refine ⟨_,rfl,?_⟩;have dV:=ae.mk (bf (g:=oV) (o:=.cells #[.slice eu aY.length ed,.string aU,.string aV,.slice fV aI.length eX] 25 (0,0)) (by (with_reducible repeat (first|refine au ?_ _|refine ay ?_|refine ak ?_ _));exact iE.out) hb);have dU:=ae.mk (bf (g:=pR) (o:=.cells #[.int .u8 bY,.int .u8 gq,.int .u8 gJ,.int .u8 ik,.int .i64 gW] 55 (0,0)) (by (with_reducible repeat (first|refine au ?_ _|refine ay ?_|refine ak ?_ _));exact iD.out) hb);have dR:=ae.mk (bg (by repeat (first|(with_reducible first|exact HB.out|apply ah|apply af|apply ai|refine aj ?_ lM.out|refine aj ?_ mg.out)|exact HB.out)) hb);clear iE;clear iD;clear HB;have iE:=dV;have iD:=dU;have HB:=dR;clear dV dU dR;(try clear hb);(try clear hb2);(try clear hk);(try clear hi))|((with_reducible refine bu (f:=48) rfl ?_);refine dS (some 34) rfl rfl Tryd.func48 (by kernel_rfl) rfl #[.int .i64 t171,.int .i64 t173] rfl (by (try simp only [List.map_toArray,List.map_cons,List.map_nil]);first|done|rfl|(simp only [List.length_drop,List.length_take];rfl)) ?_;(with_reducible refine (dA.calls t171 t173 t174 _ Qz.out).mono ?_);rintro e w' ⟨rfl,⟨nd,rfl⟩⟩;refine ⟨_,rfl,?_⟩))
      go_ret
      exact ⟨by first|rfl|(simp [aQ,aN] <;> rfl)|(simp [*,aQ,aN] <;> rfl),by repeat (first|(with_reducible first|exact HB.out|apply ah|apply af|apply ai|refine aj ?_ lM.out|refine aj ?_ mg.out)|exact HB.out)⟩
     ·
      rw [if_neg c17] at H
      have yt:(bY == 15)=false:=beq_eq_false_iff_ne.mpr c17
      have FI:(bY != 15)=true:=bne_iff_ne.mpr c17
      by_cases c24:bY=8
      ·
       rw [if_pos c24] at H
       have ac6:(bY == 8)=true:=beq_iff_eq.mpr c24
       have ac5:(bY != 8)=false:=bne_eq_false_iff_eq.mpr c24
       clear c24
       by_cases c25:t171 ≥ 0
       ·
        rw [if_pos c25] at H
        have ac4:decide (0≤t171)=true:=decide_eq_true c25
        clear c25
        replace H:=Option.bind_eq_some_iff.mp H
        obtain ⟨t175,ael,H⟩:=H
        replace H:(some t175)=some r:=H
        have A26:=ae.mk ael
        clear ael
        obtain rfl:=Option.some.inj H
        have aa9:=ou.out
        have aaZ:=oq.out
        obtain ⟨Ko,J9,J8,J7,Jv,Ju,Jt,Js⟩:=qP iE.out
        obtain ⟨Vx,Vw,Vu,Vt,Vs,TR,TQ,TP,TN,TM⟩:=jT iD.out
        go_wp2_with (first|(go_at_call 49;(with_reducible refine (fB.calls uQ _ _ aY aU aV _ _ aI t171 gW t175 _ ?cu ?dw ?iM ?iL A26.out).mono ?_);(case cu=>repeat (first|exact (Kd.bK iq.out HB.out)|(with_reducible refine Kd.bT ?_ _)|(with_reducible refine Kd.bQ ?_ _)|(with_reducible refine Kd.dD ?_)));(case dw=>exact iC.out);(case iM=>repeat (first|exact (Kd.bK jG.out HB.out)|(with_reducible refine Kd.bT ?_ _)|(with_reducible refine Kd.bQ ?_ _)|(with_reducible refine Kd.dD ?_)));(case iL=>exact jW.out);rintro e w30 ⟨rfl,hb⟩;have dV:=ae.mk (bf (g:=oV) (o:=.cells #[.slice eu aY.length ed,.string aU,.string aV,.slice fV aI.length eX] 25 (0,0)) (by (with_reducible repeat (first|refine au ?_ _|refine ay ?_|refine ak ?_ _));exact iE.out) hb);have dU:=ae.mk (bf (g:=pR) (o:=.cells #[.int .u8 bY,.int .u8 gq,.int .u8 gJ,.int .u8 ik,.int .i64 gW] 55 (0,0)) (by (with_reducible repeat (first|refine au ?_ _|refine ay ?_|refine ak ?_ _));exact iD.out) hb);have dR:=ae.mk (bg (by repeat (first|(with_reducible first|exact HB.out|apply ah|apply af|apply ai|refine aj ?_ lM.out|refine aj ?_ mg.out)|exact HB.out)) hb);clear iE;clear iD;clear HB;have iE:=dV;have iD:=dU;have HB:=dR;clear dV dU dR;(try clear hb);(try clear hb2);(try clear hk);(try clear hi)))
        go_ret
        exact ⟨by first|rfl|(simp [aQ,aN] <;> rfl)|(simp [*,aQ,aN] <;> rfl),by repeat (first|(with_reducible first|exact HB.out|apply ah|apply af|apply ai|refine aj ?_ lM.out|refine aj ?_ mg.out)|exact HB.out)⟩
       ·
        rw [if_neg c25] at H
        have ac4:decide (0≤t171)=false:=decide_eq_false c25
        clear c25
        obtain rfl:=Option.some.inj H
        go_wp2
        go_ret
        exact ⟨by first|rfl|(simp [aQ,aN] <;> rfl)|(simp [*,aQ,aN] <;> rfl),by repeat (first|(with_reducible first|exact HB.out|apply ah|apply af|apply ai|refine aj ?_ lM.out|refine aj ?_ mg.out)|exact HB.out)⟩
      ·
       rw [if_neg c24] at H
       have ac6:(bY == 8)=false:=beq_eq_false_iff_ne.mpr c24
       have ac5:(bY != 8)=true:=bne_iff_ne.mpr c24
       by_cases c31:bY=9
       ·
        rw [if_pos c31] at H
        have ac1:(bY == 9)=true:=beq_iff_eq.mpr c31
        have ac0:(bY != 9)=false:=bne_eq_false_iff_eq.mpr c31
        clear c31
        by_cases c32:t170 ≥ 0
        ·
         rw [if_pos c32] at H
         have P6:decide (0≤t170)=true:=decide_eq_true c32
         clear c32
         replace H:=Option.bind_eq_some_iff.mp H
         obtain ⟨t176,Qx,H⟩:=H
         replace H:(some t176)=some r:=H
         have A33:=ae.mk Qx
         clear Qx
         obtain rfl:=Option.some.inj H
         have Xh:=ou.out
         have Xf:=oq.out
         obtain ⟨J6,J5,J4,J3,Jr,Jq,Jp,Jo⟩:=qP iE.out
         obtain ⟨Vq,Vp,Vo,Vm,Vl,TK,TJ,TI,TG,TF⟩:=jT iD.out
         go_wp2_with (first|(go_at_call 49;(with_reducible refine (fB.calls uQ _ _ aY aU aV _ _ aI t170 gW t176 _ ?cu ?dw ?iM ?iL A33.out).mono ?_);(case cu=>repeat (first|exact (Kd.bK iq.out HB.out)|(with_reducible refine Kd.bT ?_ _)|(with_reducible refine Kd.bQ ?_ _)|(with_reducible refine Kd.dD ?_)));(case dw=>exact iC.out);(case iM=>repeat (first|exact (Kd.bK jG.out HB.out)|(with_reducible refine Kd.bT ?_ _)|(with_reducible refine Kd.bQ ?_ _)|(with_reducible refine Kd.dD ?_)));(case iL=>exact jW.out);rintro e w37 ⟨rfl,hb⟩;have dV:=ae.mk (bf (g:=oV) (o:=.cells #[.slice eu aY.length ed,.string aU,.string aV,.slice fV aI.length eX] 25 (0,0)) (by (with_reducible repeat (first|refine au ?_ _|refine ay ?_|refine ak ?_ _));exact iE.out) hb);have dU:=ae.mk (bf (g:=pR) (o:=.cells #[.int .u8 bY,.int .u8 gq,.int .u8 gJ,.int .u8 ik,.int .i64 gW] 55 (0,0)) (by (with_reducible repeat (first|refine au ?_ _|refine ay ?_|refine ak ?_ _));exact iD.out) hb);have dR:=ae.mk (bg (by repeat (first|(with_reducible first|exact HB.out|apply ah|apply af|apply ai|refine aj ?_ lM.out|refine aj ?_ mg.out)|exact HB.out)) hb);clear iE;clear iD;clear HB;have iE:=dV;have iD:=dU;have HB:=dR;clear dV dU dR;(try clear hb);(try clear hb2);(try clear hk);(try clear hi)))
         go_ret
         exact ⟨by first|rfl|(simp [aQ,aN] <;> rfl)|(simp [*,aQ,aN] <;> rfl),by repeat (first|(with_reducible first|exact HB.out|apply ah|apply af|apply ai|refine aj ?_ lM.out|refine aj ?_ mg.out)|exact HB.out)⟩
        ·
         rw [if_neg c32] at H
         have P6:decide (0≤t170)=false:=decide_eq_false c32
         clear c32
         obtain rfl:=Option.some.inj H
         go_wp2
         go_ret
         exact ⟨by first|rfl|(simp [aQ,aN] <;> rfl)|(simp [*,aQ,aN] <;> rfl),by repeat (first|(with_reducible first|exact HB.out|apply ah|apply af|apply ai|refine aj ?_ lM.out|refine aj ?_ mg.out)|exact HB.out)⟩
       ·
        rw [if_neg c31] at H
        have ac1:(bY == 9)=false:=beq_eq_false_iff_ne.mpr c31
        have ac0:(bY != 9)=true:=bne_iff_ne.mpr c31
        by_cases KN:bY=10
        ·
         rw [if_pos KN] at H
         have Au:(bY == 10)=true:=beq_iff_eq.mpr KN
         have acV:(bY != 10)=false:=bne_eq_false_iff_eq.mpr KN
         clear KN
         by_cases c39:t171 ≥ 0
         ·
          rw [if_pos c39] at H
          have acU:decide (0≤t171)=true:=decide_eq_true c39
          clear c39
          replace H:=Option.bind_eq_some_iff.mp H
          obtain ⟨t177,aeh,H⟩:=H
          replace H:((dA.f t170 t177).bind fun t178=>(some t178))=some r:=H
          have Be:=ae.mk aeh
          clear aeh
          replace H:=Option.bind_eq_some_iff.mp H
          obtain ⟨t178,aeg,H⟩:=H
          replace H:(some t178)=some r:=H
          have A41:=ae.mk aeg
          clear aeg
          obtain rfl:=Option.some.inj H
          have amv:=ou.out
          have al2:=oq.out
          obtain ⟨JZ,JY,JX,JW,Jn,Jm,Jl,Jk⟩:=qP iE.out
          obtain ⟨Vf,Ve,Vd,Vb,Va,TA,Tz,Tv,Tu,Tt⟩:=jT iD.out
          go_wp2_with (first|(go_at_call 50;(with_reducible refine (gp.calls uQ _ _ aY aU aV _ _ aI t171 gW t177 _ ?cu ?dw ?iM ?iL Be.out).mono ?_);(case cu=>repeat (first|exact (Kd.bK iq.out HB.out)|(with_reducible refine Kd.bT ?_ _)|(with_reducible refine Kd.bQ ?_ _)|(with_reducible refine Kd.dD ?_)));(case dw=>exact iC.out);(case iM=>repeat (first|exact (Kd.bK jG.out HB.out)|(with_reducible refine Kd.bT ?_ _)|(with_reducible refine Kd.bQ ?_ _)|(with_reducible refine Kd.dD ?_)));(case iL=>exact jW.out);rintro e w45 ⟨rfl,hb⟩;have dV:=ae.mk (bf (g:=oV) (o:=.cells #[.slice eu aY.length ed,.string aU,.string aV,.slice fV aI.length eX] 25 (0,0)) (by (with_reducible repeat (first|refine au ?_ _|refine ay ?_|refine ak ?_ _));exact iE.out) hb);have dU:=ae.mk (bf (g:=pR) (o:=.cells #[.int .u8 bY,.int .u8 gq,.int .u8 gJ,.int .u8 ik,.int .i64 gW] 55 (0,0)) (by (with_reducible repeat (first|refine au ?_ _|refine ay ?_|refine ak ?_ _));exact iD.out) hb);have dR:=ae.mk (bg (by repeat (first|(with_reducible first|exact HB.out|apply ah|apply af|apply ai|refine aj ?_ lM.out|refine aj ?_ mg.out)|exact HB.out)) hb);clear iE;clear iD;clear HB;have iE:=dV;have iD:=dU;have HB:=dR;clear dV dU dR;(try clear hb);(try clear hb2);(try clear hk);(try clear hi))|(go_at_call 48;(with_reducible refine (dA.calls t170 t177 t178 _ A41.out).mono ?_);rintro e w' ⟨rfl,⟨nd,rfl⟩⟩))
          go_ret
          exact ⟨by first|rfl|(simp [aQ,aN] <;> rfl)|(simp [*,aQ,aN] <;> rfl),by repeat (first|(with_reducible first|exact HB.out|apply ah|apply af|apply ai|refine aj ?_ lM.out|refine aj ?_ mg.out)|exact HB.out)⟩
         ·
          rw [if_neg c39] at H
          have acU:decide (0≤t171)=false:=decide_eq_false c39
          clear c39
          obtain rfl:=Option.some.inj H
          go_wp2
          go_ret
          exact ⟨by first|rfl|(simp [aQ,aN] <;> rfl)|(simp [*,aQ,aN] <;> rfl),by repeat (first|(with_reducible first|exact HB.out|apply ah|apply af|apply ai|refine aj ?_ lM.out|refine aj ?_ mg.out)|exact HB.out)⟩
        ·
         rw [if_neg KN] at H
         have Au:(bY == 10)=false:=beq_eq_false_iff_ne.mpr KN
         have acV:(bY != 10)=true:=bne_iff_ne.mpr KN
         by_cases c46:bY=11
         ·
          rw [if_pos c46] at H
          have acT:(bY == 11)=true:=beq_iff_eq.mpr c46
          have acS:(bY != 11)=false:=bne_eq_false_iff_eq.mpr c46
          clear c46
          by_cases c47:t170 ≥ 0
          ·
           rw [if_pos c47] at H
           have acR:decide (0≤t170)=true:=decide_eq_true c47
           clear c47
           replace H:=Option.bind_eq_some_iff.mp H
           obtain ⟨t179,aec,H⟩:=H
           replace H:((dA.f t171 t179).bind fun t180=>(some t180))=some r:=H
           have A48:=ae.mk aec
           clear aec
           replace H:=Option.bind_eq_some_iff.mp H
           obtain ⟨t180,aeb,H⟩:=H
           replace H:(some t180)=some r:=H
           have A49:=ae.mk aeb
           clear aeb
           obtain rfl:=Option.some.inj H
           have amu:=ou.out
           have al1:=oq.out
           obtain ⟨U5,U4,U3,U2,Ti,Tf,Td,Tc⟩:=qP iE.out
           obtain ⟨U1,U0,UZ,UY,aiX,S9,SY,SX,SV,agJ⟩:=jT iD.out
           go_wp2_with (first|(go_at_call 50;(with_reducible refine (gp.calls uQ _ _ aY aU aV _ _ aI t170 gW t179 _ ?cu ?dw ?iM ?iL A48.out).mono ?_);(case cu=>repeat (first|exact (Kd.bK iq.out HB.out)|(with_reducible refine Kd.bT ?_ _)|(with_reducible refine Kd.bQ ?_ _)|(with_reducible refine Kd.dD ?_)));(case dw=>exact iC.out);(case iM=>repeat (first|exact (Kd.bK jG.out HB.out)|(with_reducible refine Kd.bT ?_ _)|(with_reducible refine Kd.bQ ?_ _)|(with_reducible refine Kd.dD ?_)));(case iL=>exact jW.out);rintro e Z9 ⟨rfl,hb⟩;have dV:=ae.mk (bf (g:=oV) (o:=.cells #[.slice eu aY.length ed,.string aU,.string aV,.slice fV aI.length eX] 25 (0,0)) (by (with_reducible repeat (first|refine au ?_ _|refine ay ?_|refine ak ?_ _));exact iE.out) hb);have dU:=ae.mk (bf (g:=pR) (o:=.cells #[.int .u8 bY,.int .u8 gq,.int .u8 gJ,.int .u8 ik,.int .i64 gW] 55 (0,0)) (by (with_reducible repeat (first|refine au ?_ _|refine ay ?_|refine ak ?_ _));exact iD.out) hb);have dR:=ae.mk (bg (by repeat (first|(with_reducible first|exact HB.out|apply ah|apply af|apply ai|refine aj ?_ lM.out|refine aj ?_ mg.out)|exact HB.out)) hb);clear iE;clear iD;clear HB;have iE:=dV;have iD:=dU;have HB:=dR;clear dV dU dR;(try clear hb);(try clear hb2);(try clear hk);(try clear hi))|(go_at_call 48;(with_reducible refine (dA.calls t171 t179 t180 _ A49.out).mono ?_);rintro e w' ⟨rfl,⟨nd,rfl⟩⟩))
           go_ret
           exact ⟨by first|rfl|(simp [aQ,aN] <;> rfl)|(simp [*,aQ,aN] <;> rfl),by repeat (first|(with_reducible first|exact HB.out|apply ah|apply af|apply ai|refine aj ?_ lM.out|refine aj ?_ mg.out)|exact HB.out)⟩
          ·
           rw [if_neg c47] at H
           have acR:decide (0≤t170)=false:=decide_eq_false c47
           clear c47
           obtain rfl:=Option.some.inj H
           go_wp2
           go_ret
           exact ⟨by first|rfl|(simp [aQ,aN] <;> rfl)|(simp [*,aQ,aN] <;> rfl),by repeat (first|(with_reducible first|exact HB.out|apply ah|apply af|apply ai|refine aj ?_ lM.out|refine aj ?_ mg.out)|exact HB.out)⟩
         ·
          rw [if_neg c46] at H
          have acT:(bY == 11)=false:=beq_eq_false_iff_ne.mpr c46
          have acS:(bY != 11)=true:=bne_iff_ne.mpr c46
          by_cases Zz:bY=12
          ·
           rw [if_pos Zz] at H
           have acO:(bY == 12)=true:=beq_iff_eq.mpr Zz
           have acN:(bY != 12)=false:=bne_eq_false_iff_eq.mpr Zz
           clear Zz
           replace H:=Option.bind_eq_some_iff.mp H
           obtain ⟨t181,ad8,H⟩:=H
           replace H:((dA.f t170 t181).bind fun t182=>(some t182))=some r:=H
           have A55:=ae.mk ad8
           clear ad8
           replace H:=Option.bind_eq_some_iff.mp H
           obtain ⟨t182,ad7,H⟩:=H
           replace H:(some t182)=some r:=H
           have A56:=ae.mk ad7
           clear ad7
           obtain rfl:=Option.some.inj H
           have aa4:=ou.out
           have aaU:=oq.out
           obtain ⟨UQ,UO,UN,UM,SI,SH,SG,SE⟩:=qP iE.out
           obtain ⟨JP,JO,JM,JL,JK,Je,Jd,Jc,Jb,Ja⟩:=jT iD.out
           go_wp2_with (first|((with_reducible refine bu (f:=20) rfl ?_);refine dS (some 89) rfl rfl Tryd.func20 (by kernel_rfl) rfl #[.agg #[.slice eu aY.length ed,.string aU,.string aV,.slice fV aI.length eX],.int .u8 gJ] rfl (by (try simp only [List.map_toArray,List.map_cons,List.map_nil]);first|done|rfl|(simp only [List.length_drop,List.length_take];rfl)) ?_;(with_reducible refine (dQ.calls uQ _ _ aY aU aV _ _ aI gJ t181 _ ?cu ?dw ?iM ?iL A55.out).mono ?_);(case cu=>repeat (first|exact (Kd.bK iq.out HB.out)|(with_reducible refine Kd.bT ?_ _)|(with_reducible refine Kd.bQ ?_ _)|(with_reducible refine Kd.dD ?_)));(case dw=>exact iC.out);(case iM=>repeat (first|exact (Kd.bK jG.out HB.out)|(with_reducible refine Kd.bT ?_ _)|(with_reducible refine Kd.bQ ?_ _)|(with_reducible refine Kd.dD ?_)));(case iL=>exact jW.out);rintro e w60 ⟨rfl,hb⟩;refine ⟨_,rfl,?_⟩;have dV:=ae.mk (bf (g:=oV) (o:=.cells #[.slice eu aY.length ed,.string aU,.string aV,.slice fV aI.length eX] 25 (0,0)) (by (with_reducible repeat (first|refine au ?_ _|refine ay ?_|refine ak ?_ _));exact iE.out) hb);have dU:=ae.mk (bf (g:=pR) (o:=.cells #[.int .u8 bY,.int .u8 gq,.int .u8 gJ,.int .u8 ik,.int .i64 gW] 55 (0,0)) (by (with_reducible repeat (first|refine au ?_ _|refine ay ?_|refine ak ?_ _));exact iD.out) hb);have dR:=ae.mk (bg (by repeat (first|(with_reducible first|exact HB.out|apply ah|apply af|apply ai|refine aj ?_ lM.out|refine aj ?_ mg.out)|exact HB.out)) hb);clear iE;clear iD;clear HB;have iE:=dV;have iD:=dU;have HB:=dR;clear dV dU dR;(try clear hb);(try clear hb2);(try clear hk);(try clear hi))|((with_reducible refine bu (f:=48) rfl ?_);refine dS (some 90) rfl rfl Tryd.func48 (by kernel_rfl) rfl #[.int .i64 t170,.int .i64 t181] rfl (by (try simp only [List.map_toArray,List.map_cons,List.map_nil]);first|done|rfl|(simp only [List.length_drop,List.length_take];rfl)) ?_;(with_reducible refine (dA.calls t170 t181 t182 _ A56.out).mono ?_);rintro e w' ⟨rfl,⟨nd,rfl⟩⟩;refine ⟨_,rfl,?_⟩))
           go_ret
           exact ⟨by first|rfl|(simp [aQ,aN] <;> rfl)|(simp [*,aQ,aN] <;> rfl),by repeat (first|(with_reducible first|exact HB.out|apply ah|apply af|apply ai|refine aj ?_ lM.out|refine aj ?_ mg.out)|exact HB.out)⟩
          ·
           rw [if_neg Zz] at H
           have acO:(bY == 12)=false:=beq_eq_false_iff_ne.mpr Zz
           have acN:(bY != 12)=true:=bne_iff_ne.mpr Zz
           by_cases Zy:bY=13
           ·
            rw [if_pos Zy] at H
            have acM:(bY == 13)=true:=beq_iff_eq.mpr Zy
            have acL:(bY != 13)=false:=bne_eq_false_iff_eq.mpr Zy
            clear Zy
            replace H:=Option.bind_eq_some_iff.mp H
            obtain ⟨t183,ad6,H⟩:=H
            replace H:((dA.f t171 t183).bind fun t184=>(some t184))=some r:=H
            have A62:=ae.mk ad6
            clear ad6
            replace H:=Option.bind_eq_some_iff.mp H
            obtain ⟨t184,ad5,H⟩:=H
            replace H:(some t184)=some r:=H
            have A63:=ae.mk ad5
            clear ad5
            obtain rfl:=Option.some.inj H
            have aa3:=ou.out
            have aaT:=oq.out
            obtain ⟨UB,UA,Uz,Uy,Si,RZ,RY,RX⟩:=qP iE.out
            obtain ⟨aix,aiw,aiv,aiu,ait,agi,agh,agf,age,agd⟩:=jT iD.out
            go_wp2_with (first|((with_reducible refine bu (f:=20) rfl ?_);refine dS (some 97) rfl rfl Tryd.func20 (by kernel_rfl) rfl #[.agg #[.slice eu aY.length ed,.string aU,.string aV,.slice fV aI.length eX],.int .u8 gq] rfl (by (try simp only [List.map_toArray,List.map_cons,List.map_nil]);first|done|rfl|(simp only [List.length_drop,List.length_take];rfl)) ?_;(with_reducible refine (dQ.calls uQ _ _ aY aU aV _ _ aI gq t183 _ ?cu ?dw ?iM ?iL A62.out).mono ?_);(case cu=>repeat (first|exact (Kd.bK iq.out HB.out)|(with_reducible refine Kd.bT ?_ _)|(with_reducible refine Kd.bQ ?_ _)|(with_reducible refine Kd.dD ?_)));(case dw=>exact iC.out);(case iM=>repeat (first|exact (Kd.bK jG.out HB.out)|(with_reducible refine Kd.bT ?_ _)|(with_reducible refine Kd.bQ ?_ _)|(with_reducible refine Kd.dD ?_)));(case iL=>exact jW.out);rintro e w67 ⟨rfl,hb⟩;refine ⟨_,rfl,?_⟩;have dV:=ae.mk (bf (g:=oV) (o:=.cells #[.slice eu aY.length ed,.string aU,.string aV,.slice fV aI.length eX] 25 (0,0)) (by (with_reducible repeat (first|refine au ?_ _|refine ay ?_|refine ak ?_ _));exact iE.out) hb);have dU:=ae.mk (bf (g:=pR) (o:=.cells #[.int .u8 bY,.int .u8 gq,.int .u8 gJ,.int .u8 ik,.int .i64 gW] 55 (0,0)) (by (with_reducible repeat (first|refine au ?_ _|refine ay ?_|refine ak ?_ _));exact iD.out) hb);have dR:=ae.mk (bg (by repeat (first|(with_reducible first|exact HB.out|apply ah|apply af|apply ai|refine aj ?_ lM.out|refine aj ?_ mg.out)|exact HB.out)) hb);clear iE;clear iD;clear HB;have iE:=dV;have iD:=dU;have HB:=dR;clear dV dU dR;(try clear hb);(try clear hb2);(try clear hk);(try clear hi))|((with_reducible refine bu (f:=48) rfl ?_);refine dS (some 98) rfl rfl Tryd.func48 (by kernel_rfl) rfl #[.int .i64 t171,.int .i64 t183] rfl (by (try simp only [List.map_toArray,List.map_cons,List.map_nil]);first|done|rfl|(simp only [List.length_drop,List.length_take];rfl)) ?_;(with_reducible refine (dA.calls t171 t183 t184 _ A63.out).mono ?_);rintro e w' ⟨rfl,⟨nd,rfl⟩⟩;refine ⟨_,rfl,?_⟩))
            go_ret
            exact ⟨by first|rfl|(simp [aQ,aN] <;> rfl)|(simp [*,aQ,aN] <;> rfl),by repeat (first|(with_reducible first|exact HB.out|apply ah|apply af|apply ai|refine aj ?_ lM.out|refine aj ?_ mg.out)|exact HB.out)⟩
           ·
            rw [if_neg Zy] at H
            have acM:(bY == 13)=false:=beq_eq_false_iff_ne.mpr Zy
            have acL:(bY != 13)=true:=bne_iff_ne.mpr Zy
            obtain rfl:=Option.some.inj H
            go_wp2
            go_ret
            exact ⟨by first|rfl|(simp [aQ,aN] <;> rfl)|(simp [*,aQ,aN] <;> rfl),by repeat (first|(with_reducible first|exact HB.out|apply ah|apply af|apply ai|refine aj ?_ lM.out|refine aj ?_ mg.out)|exact HB.out)⟩
end Go.Proofs.YtlemecdddhdagaaDoor.P
end
section
namespace Go.Proofs.YtlemecdddhdagaaDoor.P
open Go.RowKit Go.Proofs.ag.bI Go.Proofs.ag.dM Go.Proofs.ag.dZ
def Tot {α:Type} (P:α→Prop) (g:Nat→Option α):Prop:=∃ r,Ev g r∧P r
abbrev WS {α:Type}:α→Prop:=fun _=>True
theorem Tot.now {α:Type} {P:α→Prop} {r:α} (h:P r):Tot P (fun _=>some r):=⟨r,Ev.now r,h⟩
theorem Tot.bind {α β:Type} {P:α→Prop} {Q:β→Prop} {g:Nat→Option α} {f:Nat→α→Option β} (h:Tot P g) (k:∀ a,P a→Tot Q (fun n=>f n a)):Tot Q (fun n=>(g n).bind (f n)):=by
  obtain ⟨a,ha,hp⟩:=h
  obtain ⟨b,hb,hq⟩:=k a hp
  exact ⟨b,Ev.bind ha hb,hq⟩
theorem Tot.ite {α:Type} {P:α→Prop} {p:Prop} [Decidable p] {f g:Nat→Option α} (h1:p→Tot P f) (h2:¬p→Tot P g):Tot P (fun k=>if p then f k else g k):=by
  by_cases h:p
  · obtain ⟨r,hr,hp⟩:=h1 h
    exact ⟨r,Ev.congr (fun k=>if_pos h) hr,hp⟩
  · obtain ⟨r,hr,hp⟩:=h2 h
    exact ⟨r,Ev.congr (fun k=>if_neg h) hr,hp⟩
theorem Tot.step {α:Type} {P:α→Prop} {g f:Nat→Option α} (h:∀ k,g (k+1)=f k) (k:Tot P f):Tot P g:=by
  obtain ⟨r,hr,hp⟩:=k
  exact ⟨r,Ev.step h hr,hp⟩
theorem Tot.yes {α:Type} {P:α→Prop} {p:Prop} [Decidable p] {f g:Nat→Option α} (h:p) (k:Tot P f):Tot P (fun k=>if p then f k else g k):=Tot.ite (fun _=>k) (fun h'=>absurd h h')
theorem Tot.of {α:Type} {P:α→Prop} {g:Nat→Option α} {r:α} (h:∀ k,g k=some r) (hp:P r):Tot P g:=⟨r,Ev.congr h (Ev.now r),hp⟩
abbrev Mx:Nat:=9223372036854775807
theorem MV (a b:Int):∃ x,eF.f a b=some x:=by
  unfold eF.f
  split
  · exact ⟨_,rfl⟩
  · split <;> exact ⟨_,rfl⟩
theorem Gp (t:List ByteArray) (ht:t.length≤Mx) (hs:∀ i:Int,(dW ByteArray.empty t i).size≤Mx):Tot WS (fun k=>aK.f k t):=by
  have l1:∀ (i:Nat) (s:ByteArray),s.size≤Mx→Tot WS (fun k=>aK.l0 k t (wrap64 ((i:Int)+1)))→∀ d j,j+d=s.size→Tot WS (fun k=>aK.l1 k t (i:Nat) s (j:Nat)):=by
    intro i s hsz hn d
    induction d with
    | zero =>
      intro j hj
      refine Tot.step (fun k=>by simp only [aK.l1];rfl) ?_
      exact Tot.ite (fun h=>by omega) fun _=>Tot.ite (fun _=>Tot.now trivial) fun _=>Tot.ite (fun _=>Tot.now trivial) fun _=>hn
    | succ d ih =>
      intro j hj
      refine Tot.step (fun k=>by simp only [aK.l1];rfl) ?_
      have nx:=ih (j+1) (by omega)
      rw [← wrapN (i:=j) (n:=s.size) (by omega) hsz] at nx
      refine Tot.yes (by omega) (Tot.yes (by omega) (Tot.ite (fun _=>nx) fun _=>?_))
      obtain ⟨x,hx⟩:=MV (bt s j) t.length
      rw [hx]
      exact Tot.ite (fun _=>Tot.now trivial) fun _=>nx
  have l0:∀ d i,i+d=t.length→Tot WS (fun k=>aK.l0 k t (i:Nat)):=by
    intro d
    induction d with
    | zero =>
      intro i hi
      refine Tot.step (fun k=>by simp only [aK.l0];rfl) ?_
      exact Tot.ite (fun h=>by omega) fun _=>Tot.ite (fun _=>Tot.now trivial) fun _=>Tot.now trivial
    | succ d ih =>
      intro i hi
      refine Tot.step (fun k=>by simp only [aK.l0];rfl) ?_
      have nx:=ih (i+1) (by omega)
      rw [← wrapN (i:=i) (n:=t.length) (by omega) ht] at nx
      exact Tot.yes (by omega) (Tot.yes (by omega) (l1 i _ (hs _) nx _ 0 (Nat.zero_add _)))
  exact l0 t.length 0 (by omega)
theorem rJ (s:ByteArray) (i n:Int):eF.f (bt s i) n=some (kK (bt s i) n):=by
  have h:=uA s i
  unfold eF.f kK
  by_cases h1:bt s i < 48
  · rw [if_pos h1,if_neg (by omega)]
  · rw [if_neg h1,show (bt s i - 48) % 256=bt s i - 48 from by omega]
    by_cases h2:bt s i - 48 < n
    · rw [if_neg (show ¬ bt s i - 48 ≥ n from by omega),if_pos (show 48≤bt s i from by omega),if_pos h2]
    · rw [if_pos (show bt s i - 48 ≥ n from by omega),if_pos (show 48≤bt s i from by omega),if_neg h2]
theorem zN (t:List ByteArray) (ht:t.length≤9223372036854775807) (hs:∀ i:Int,(dW ByteArray.empty t i).size≤9223372036854775807):Ev (fun k=>aK.f k t) (jw t):=by
  have l1:∀ (i:Nat) (s:ByteArray) (r:Bool),s.size≤9223372036854775807→Ev (fun k=>aK.l0 k t (wrap64 ((i:Int)+1))) r →
      Ev (fun k=>aK.l1 k t (i:Nat) s 0) (okB s t.length && (if (s.size:Int) < 1 then false else if (s.size:Int) > 6 then false else r)):=by
    intro i s r hsz hr
    have:=lu (g:=fun k j=>aK.l1 k t (i:Nat) s (j:Nat)) (fun j=>if (bt s j == 105 || decide (0≤kK (bt s j) t.length)) then none else some false) s.size (if (s.size:Int) < 1 then false else if (s.size:Int) > 6 then false else r)
      (fun j hj hb q hq=>?_) (fun j hj b hb=>?_) (fun _=>?_) s.size 0 (by omega) (fun j hj=>by omega)
    · rw [qJ s.size (fun j=>bt s j == 105 || decide (0≤kK (bt s j) t.length))] at this
      exact this
    · refine Ev.step (fun k=>?_) hq
      simp only [aK.l1]
      rw [if_pos (by omega),if_pos (by omega),wrapN (i:=j) (n:=s.size) hj hsz]
      by_cases h:bt s j=105
      · rw [if_pos h]
      · rw [if_neg h,rJ]
        simp only [Option.bind_some]
        have h2:0≤kK (bt s j) t.length:=by
          have:=hb
          simp [h] at this
          exact this
        rw [if_neg (by omega)]
    · have hb':¬ bt s j=105∧¬ 0≤kK (bt s j) t.length∧b=false:=by
        by_cases h:bt s j=105
        · simp [h] at hb
        · by_cases h2:0≤kK (bt s j) t.length
          · simp [h2] at hb
          · simp [h,h2] at hb
            exact ⟨h,h2,hb⟩
      obtain ⟨h1,h2,rfl⟩:=hb'
      refine Ev.step (f:=fun _=>some false) (fun k=>?_) (Ev.now false)
      simp only [aK.l1]
      rw [if_pos (by omega),if_pos (by omega),if_neg h1,rJ]
      simp only [Option.bind_some]
      rw [if_pos (by omega)]
    · refine Ev.step (fun k=>by simp only [aK.l1];rfl) ?_
      refine Ev.congr (fun k=>if_neg (by omega)) ?_
      exact Ev.ite (fun _=>Ev.now _) fun _=>Ev.ite (fun _=>Ev.now _) fun _=>hr
  have:=lu (g:=fun k i=>aK.l0 k t (i:Nat)) (fun i=>if tV (dW ByteArray.empty t i) t.length then none else some false) t.length (decide (1≤t.length) && decide (t.length≤8))
    (fun i hi hb q hq=>?_) (fun i hi b hb=>?_) (fun _=>?_) t.length 0 (by omega) (fun j hj=>by omega)
  · rw [qJ t.length (fun i=>tV (dW ByteArray.empty t i) t.length)] at this
    exact this
  · have ho:tV (dW ByteArray.empty t i) t.length=true:=by
      cases h:tV (dW ByteArray.empty t i) t.length <;> simp [h] at hb ⊢
    unfold tV at ho
    simp only [Bool.and_eq_true,decide_eq_true_eq] at ho
    obtain ⟨⟨h1,h2⟩,h3⟩:=ho
    refine Ev.step (f:=fun k=>aK.l1 k t (i:Nat) (dW ByteArray.empty t i) 0) (fun k=>?_) ?_
    · simp only [aK.l0]
      rw [if_pos (by omega),if_pos (by omega)]
    · have:=l1 i (dW ByteArray.empty t i) q (hs _) (by rw [wrapN hi ht];exact hq)
      rw [h3,Bool.true_and,if_neg (by omega),if_neg (by omega)] at this
      exact this
  · have ho:tV (dW ByteArray.empty t i) t.length=false∧b=false:=by
      cases h:tV (dW ByteArray.empty t i) t.length <;> simp [h] at hb
      exact ⟨rfl,hb⟩
    obtain ⟨ho,rfl⟩:=ho
    refine Ev.step (f:=fun k=>aK.l1 k t (i:Nat) (dW ByteArray.empty t i) 0) (fun k=>?_) ?_
    · simp only [aK.l0]
      rw [if_pos (by omega),if_pos (by omega)]
    ·
      have tot:=Gp t ht hs
      have nx:∃ r,Ev (fun k=>aK.l0 k t (wrap64 ((i:Int)+1))) r:=by
        rw [wrapN hi ht]
        have l0:∀ d j,j+d=t.length→∃ r,Ev (fun k=>aK.l0 k t (j:Nat)) r:=by
          intro d
          induction d with
          | zero =>
            intro j hj
            refine ⟨(decide (1≤t.length) && decide (t.length≤8)),Ev.step (f:=fun _=>some _) (fun k=>?_) (Ev.now _)⟩
            simp only [aK.l0]
            rw [if_neg (by omega)]
            by_cases h:1≤t.length
            · rw [if_pos (by omega),decide_eq_true h,Bool.true_and]
              congr 1
              exact decide_eq_decide.2 (by omega)
            · rw [if_neg (by omega),decide_eq_false h,Bool.false_and]
          | succ d ih =>
            intro j hj
            obtain ⟨r,hr⟩:=ih (j+1) (by omega)
            have:=l1 j (dW ByteArray.empty t j) r (hs _) (by rw [wrapN (i:=j) (n:=t.length) (by omega) ht];exact hr)
            refine ⟨_,Ev.step (fun k=>?_) this⟩
            simp only [aK.l0]
            rw [if_pos (by omega),if_pos (by omega)]
        exact l0 (t.length - (i+1)) (i+1) (by omega)
      obtain ⟨r,hr⟩:=nx
      have:=l1 i (dW ByteArray.empty t i) r (hs _) hr
      refine Ev.out this ?_
      unfold tV at ho
      by_cases h1:((dW ByteArray.empty t i).size:Int) < 1
      · rw [if_pos h1,Bool.and_false]
      · by_cases h2:((dW ByteArray.empty t i).size:Int) > 6
        · rw [if_neg h1,if_pos h2,Bool.and_false]
        · rw [decide_eq_true (by omega),decide_eq_true (by omega)] at ho
          simp at ho
          rw [ho,Bool.false_and]
  · refine Ev.step (f:=fun _=>some (decide (1≤t.length) && decide (t.length≤8))) (fun k=>?_) (Ev.now _)
    simp only [aK.l0]
    rw [if_neg (by omega)]
    by_cases h:1≤t.length
    · rw [if_pos (by omega),decide_eq_true h,Bool.true_and]
      congr 1
      exact decide_eq_decide.2 (by omega)
    · rw [if_neg (by omega),decide_eq_false h,Bool.false_and]
theorem Di (t:List ByteArray) (s:ByteArray) (ht:t.length≤9223372036854775807) (hts:∀ i:Int,(dW ByteArray.empty t i).size≤9223372036854775807) (hs:s.size≤9223372036854775807):Ev (fun k=>aW.f k t s) (qL t s):=by
  have:=lu (g:=fun k i=>aW.l0 k t s (i:Nat)) (fun i=>if decide (0≤kK (bt s i) t.length) then none else some false) s.size (jw t)
    (fun i hi hb q hq=>?_) (fun i hi b hb=>?_) (fun _=>?_) s.size 0 (by omega) (fun j hj=>by omega)
  · rw [qJ s.size (fun i=>decide (0≤kK (bt s i) t.length))] at this
    exact this
  · have h2:0≤kK (bt s i) t.length:=by
      by_cases h:0≤kK (bt s i) t.length
      · exact h
      · simp [h] at hb
    refine Ev.step (fun k=>?_) hq
    simp only [aW.l0]
    rw [if_pos (by omega),if_pos (by omega),wrapN hi hs,rJ]
    simp only [Option.bind_some]
    rw [if_neg (by omega)]
  · have h2:¬ 0≤kK (bt s i) t.length∧b=false:=by
      by_cases h:0≤kK (bt s i) t.length
      · simp [h] at hb
      · simp [h] at hb
        exact ⟨h,hb⟩
    obtain ⟨h2,rfl⟩:=h2
    refine Ev.step (f:=fun _=>some false) (fun k=>?_) (Ev.now false)
    simp only [aW.l0]
    rw [if_pos (by omega),if_pos (by omega),rJ]
    simp only [Option.bind_some]
    rw [if_pos (by omega)]
  · refine Ev.step (f:=fun k=>(aK.f k t).bind fun z=>some z) (fun k=>?_) (Ev.bind (zN t ht hts) (Ev.now _))
    simp only [aW.l0]
    rw [if_neg (by omega)]
section
variable (t:List ByteArray) (ht:t.length≤9223372036854775807) (hs:∀ i:Int,(dW ByteArray.empty t i).size≤9223372036854775807)
include ht hs
theorem XJ (s:ByteArray) (a:Int) (h0:0≤a) (h1:a≤255):Ev (fun k=>fO.f k t s a) (df t s a):=by
  have e1:wrap64 a=a:=by unfold wrap64;omega
  have e2:wrap64 (a+1)=a+1:=by unfold wrap64;omega
  by_cases h:a < s.size
  · obtain ⟨n,rfl⟩:=Int.eq_ofNat_of_zero_le h0
    have hn:n < s.size:=by omega
    have hr:=Di t (s.extract n (n+1)) ht hs (by rw [nO s n hn];omega)
    have er:qL t (s.extract n (n+1))=(decide (0≤kK (bt s (n:Int)) t.length) && jw t):=by
      unfold qL
      rw [nO s n hn]
      congr 1
      show (List.range 1).all _=_
      simp only [List.range_one,List.all_cons,List.all_nil,Bool.and_true]
      rw [show ((0:Nat):Int)=0 from rfl,yu s n hn]
    rw [er] at hr
    refine Ev.congr (f:=fun k=>(aW.f k t (s.extract n (n+1))).bind fun z=>if z=true then some ((bt s n - 48) % 256) else some (-1)) (fun k=>?_) (Ev.bind hr ?_)
    · unfold fO.f
      rw [e1,e2,if_neg (by omega),if_pos (by omega),if_pos (by omega),if_pos (by omega)]
      rw [show ((n:Int)+1).toNat=n+1 from by omega,Int.toNat_natCast]
      congr 1
      funext z
      by_cases hb:z=true
      · rw [if_pos hb,if_pos hb,if_pos (by omega),if_pos (by omega)]
      · rw [if_neg hb,if_neg hb]
    · unfold df
      rw [if_pos h]
      cases hb:(decide (0≤kK (bt s (n:Int)) t.length) && jw t)
      · rw [if_neg (by decide),if_neg (by decide)]
        exact Ev.now _
      · rw [if_pos rfl,if_pos rfl]
        have:=Fz.1 (of_decide_eq_true (Bool.and_eq_true _ _ ▸ hb).1)
        have hr:=uA s n
        rw [show (bt s (n:Int) - 48) % 256=bt s n - 48 from by omega]
        exact Ev.now _
  · refine Ev.congr (f:=fun _=>some (-1)) (fun k=>?_) (by unfold df;rw [if_neg h];exact Ev.now _)
    unfold fO.f
    rw [e1,if_pos (by omega)]
theorem wQ (lo gl:ByteArray) (code:List gZ) (a:Int) (h0:0≤a) (h1:a≤255):Ev (fun k=>dm.f k t lo gl code a) (df t lo a):=Ev.bind (XJ t ht hs lo a h0 h1) (Ev.now _)
theorem Q4 (i:Int):Ev (fun k=>gz.f k t i) (jl t i):=by
  have is:Ev (fun k=>eH.f k t i) (jw t && (decide (0≤i) && decide (i < t.length))):=by
    refine Ev.bind (zN t ht hs) ?_
    refine Ev.out (Ev.ite (fun _=>Ev.ite (fun _=>Ev.now (decide (i < (t.length:Int)))) fun _=>Ev.now false) fun _=>Ev.now false) ?_
    cases jw t
    · rfl
    · rw [if_pos rfl,Bool.true_and]
      by_cases h:i ≥ 0
      · rw [if_pos h,decide_eq_true (show 0≤i from h),Bool.true_and]
      · rw [if_neg h,decide_eq_false (show ¬ 0≤i from h),Bool.false_and]
  refine Ev.bind is ?_
  unfold jl LY
  by_cases h:(jw t && (decide (0≤i) && decide (i < t.length)))=true
  · have h':=h
    simp only [Bool.and_eq_true,decide_eq_true_eq] at h'
    rw [if_pos h,if_pos h]
    exact Ev.congr (fun k=>(if_pos h'.2.1).trans (if_pos h'.2.2)) (Ev.now _)
  · rw [if_neg h,if_neg h]
    exact Ev.now _
end
end Go.Proofs.YtlemecdddhdagaaDoor.P
end
section
namespace Go.Proofs.YtlemecdddhdagaaDoor.P
open Go.RowKit Go.Proofs.ag.bI Go.Proofs.ag.dM Go.Proofs.ag.dZ
def pO (t:List ByteArray) (a n:Int):Bool:=if n < 0 then false else if n ≥ jl t a then false else decide (Ei t a n < 0)
def En (t:List ByteArray) (a n:Int):Int:=if n < 0 then -1 else if n > 6 then -1 else Ei t a n
section
variable (t:List ByteArray) (ht:t.length≤9223372036854775807) (hs:∀ i:Int,(dW ByteArray.empty t i).size≤9223372036854775807)
include ht hs
theorem aaM (i:Int):Ev (fun k=>eH.f k t i) (jw t && (decide (0≤i) && decide (i < t.length))):=by
  refine Ev.bind (zN t ht hs) ?_
  refine Ev.out (Ev.ite (fun _=>Ev.ite (fun _=>Ev.now (decide (i < (t.length:Int)))) fun _=>Ev.now false) fun _=>Ev.now false) ?_
  cases jw t
  · rfl
  · rw [if_pos rfl,Bool.true_and]
    by_cases h:i ≥ 0
    · rw [if_pos h,decide_eq_true (show 0≤i from h),Bool.true_and]
    · rw [if_neg h,decide_eq_false (show ¬ 0≤i from h),Bool.false_and]
theorem WU (i f:Int):Ev (fun k=>fU.f k t i f) (Ei t i f):=by
  refine Ev.bind (aaM t ht hs i) ?_
  unfold Ei jl LY
  by_cases h:(jw t && (decide (0≤i) && decide (i < t.length)))=true
  · have h':=h
    simp only [Bool.and_eq_true,decide_eq_true_eq] at h'
    rw [if_pos h,if_pos h]
    by_cases h0:f < 0
    · rw [if_pos h0,if_neg (by omega)]
      exact Ev.now _
    · rw [if_neg h0]
      refine Ev.congr (fun k=>(if_pos h'.2.1).trans (if_pos h'.2.2)) ?_
      by_cases h1:f < (dW ByteArray.empty t i).size
      · rw [if_neg (by omega),if_pos (by omega),if_pos (by omega),if_pos (by omega)]
        refine Ev.congr (fun k=>by rw [rJ];rfl) (Ev.now _)
      · rw [if_pos (by omega),if_neg (by omega)]
        exact Ev.now _
  · rw [if_neg h,if_neg h]
    rw [if_neg (fun h2=>by have h3:f < (0:Int):=h2.2;omega)]
    exact Ev.now _
theorem DZ (lo gl:ByteArray) (code:List gZ) (a:Int) (h0:0≤a) (h1:a≤255):Ev (fun k=>dQ.f k t lo gl code a) (df t gl a):=Ev.bind (XJ t ht hs gl a h0 h1) (Ev.now _)
theorem BP (lo gl:ByteArray) (code:List gZ) (a n:Int):Ev (fun k=>fB.f k t lo gl code a n) (pO t a n):=by
  unfold pO
  refine Ev.ite (fun _=>Ev.now _) fun _=>Ev.bind (Q4 t ht hs a) ?_
  exact Ev.ite (fun _=>Ev.now _) fun _=>Ev.bind (WU t ht hs a n) (Ev.now _)
theorem WT (lo gl:ByteArray) (code:List gZ) (a n:Int):Ev (fun k=>gp.f k t lo gl code a n) (En t a n):=by
  unfold En
  exact Ev.ite (fun _=>Ev.now _) fun _=>Ev.ite (fun _=>Ev.now _) fun _=>Ev.bind (WU t ht hs a n) (Ev.now _)
end
theorem xJ (a b:Int):dA.f a b=some (oP a b):=by
  unfold dA.f oP
  by_cases h:0≤a
  · rw [if_pos h,decide_eq_true h,Bool.true_and]
  · rw [if_neg h,decide_eq_false h,Bool.false_and]
theorem Et (t:List ByteArray) (i:Int):0≤jl t i∧jl t i≤6:=by
  by_cases h:(jw t && (decide (0≤i) && decide (i < t.length)))=true
  · simp only [Bool.and_eq_true,decide_eq_true_eq] at h
    obtain ⟨n,rfl⟩:=Int.eq_ofNat_of_zero_le h.2.1
    have:=zM h.1 n (by omega)
    omega
  · unfold jl LY
    rw [if_neg h]
    decide
theorem zW (t:List ByteArray) (a n:Int):(if a ≥ 0 then pO t a n else false)=pI t a n:=by
  unfold pO pI ny
  by_cases h:a ≥ 0
  · rw [if_pos h]
    by_cases h0:n < 0
    · rw [if_pos h0,if_neg (by omega)];rfl
    · by_cases h1:n < jl t a
      · rw [if_neg h0,if_neg (by omega),if_pos (by omega),Bool.true_and]
      · rw [if_neg h0,if_pos (by omega),if_neg (by omega)];rfl
  · rw [if_neg h,if_neg (by omega)];rfl
theorem NH (t:List ByteArray) (x a n:Int):(if a ≥ 0 then oP x (En t a n) else false)=oP x (ny t a n).1:=by
  have z:oP x (-1)=false:=by
    unfold oP
    by_cases h:0≤x
    · have:(x == -1)=false:=by simp;omega
      rw [this,Bool.and_false]
    · rw [decide_eq_false h,Bool.false_and]
  unfold En ny
  have:=Et t a
  by_cases h:a ≥ 0
  · rw [if_pos h]
    by_cases h0:n < 0
    · rw [if_pos h0,if_neg (by omega)]
    · rw [if_neg h0]
      by_cases h1:n < jl t a
      · rw [if_neg (by omega),if_pos (by omega)]
      · rw [if_neg (show ¬ (0≤a∧0≤n∧n < jl t a) by omega)]
        by_cases h2:n > 6
        · rw [if_pos h2]
        · rw [if_neg h2]
          unfold Ei
          rw [if_neg (by omega)]
  · rw [if_neg h,if_neg (by omega),z]
def wH (o a b c:Int) (x:Bool):Bool:=if x=true then decide (a < 8) else if o=2 then (if a < 8 then (if b < 8 then decide (c < 8) else false) else false) else if o=9 then decide (b < 8) else true
def Dn (o a b c:Int):Bool:=if o=1 then wH o a b c (o == 1) else if o=4 then wH o a b c (o == 4) else if o=8 then wH o a b c (o == 8) else if o=14 then wH o a b c (o == 14) else wH o a b c (o == 15)
theorem RH (o a b c n:Int):Ev (fun k=>bF.f k o a b c n) (Dn o a b c):=by
  have j:∀ x,Ev (fun k=>bF.j0 k o x o a b c n) (wH o a b c x):=fun x=>by
    unfold wH
    refine Ev.step (fun k=>by simp only [bF.j0];rfl) ?_
    exact Ev.ite (fun _=>Ev.now _) fun _=>Ev.ite (fun _=>Ev.ite (fun _=>Ev.ite (fun _=>Ev.now _) fun _=>Ev.now _) fun _=>Ev.now _) fun _=>Ev.ite (fun _=>Ev.now _) fun _=>Ev.now _
  unfold Dn
  exact Ev.ite (fun _=>j _) fun _=>Ev.ite (fun _=>j _) fun _=>Ev.ite (fun _=>j _) fun _=>Ev.ite (fun _=>j _) fun _=>j _
def yP (t:List ByteArray) (lo gl:ByteArray) (o a b c n:Int) (x:Bool):Bool :=
  if x=true then decide (df t lo a ≥ 0)
  else if o=7 then oP (df t lo a) (df t lo b)
  else if o=15 then oP (df t lo b) (df t lo c)
  else if o=8 then (if df t lo b ≥ 0 then pO t (df t lo b) n else false)
  else if o=9 then (if df t lo a ≥ 0 then pO t (df t lo a) n else false)
  else if o=10 then (if df t lo b ≥ 0 then oP (df t lo a) (En t (df t lo b) n) else false)
  else if o=11 then (if df t lo a ≥ 0 then oP (df t lo b) (En t (df t lo a) n) else false)
  else if o=12 then oP (df t lo a) (df t gl b)
  else if o=13 then oP (df t lo b) (df t gl a)
  else true
def I7 (t:List ByteArray) (lo gl:ByteArray) (o a b c n:Int):Bool:=if o=5 then yP t lo gl o a b c n (o == 5) else yP t lo gl o a b c n (o == 6)
theorem Ou (t:List ByteArray) (lo gl:ByteArray) (code:List gZ) (o a b c n:Int) (ht:t.length≤9223372036854775807) (hs:∀ i:Int,(dW ByteArray.empty t i).size≤9223372036854775807)
    (ha:0≤a∧a≤255) (hb:0≤b∧b≤255) (hc:0≤c∧c≤255):Ev (fun k=>aX.f k t lo gl code o a b c n) (I7 t lo gl o a b c n):=by
  have j:∀ x,Ev (fun k=>aX.j0 k (df t lo a) (df t lo b) o x t lo gl code o a b c n) (yP t lo gl o a b c n x):=fun x=>by
    unfold yP
    refine Ev.step (fun k=>by simp only [aX.j0];rfl) ?_
    refine Ev.ite (fun _=>Ev.now _) fun _=>?_
    refine Ev.ite (fun _=>Ev.congr (fun k=>by rw [xJ];rfl) (Ev.now _)) fun _=>?_
    refine Ev.ite (fun _=>Ev.bind (wQ t ht hs lo gl code _ hc.1 hc.2) (Ev.congr (fun k=>by rw [xJ];rfl) (Ev.now _))) fun _=>?_
    refine Ev.ite (fun _=>Ev.ite (fun _=>Ev.bind (BP t ht hs lo gl code _ _) (Ev.now _)) fun _=>Ev.now _) fun _=>?_
    refine Ev.ite (fun _=>Ev.ite (fun _=>Ev.bind (BP t ht hs lo gl code _ _) (Ev.now _)) fun _=>Ev.now _) fun _=>?_
    refine Ev.ite (fun _=>Ev.ite (fun _=>Ev.bind (WT t ht hs lo gl code _ _) (Ev.congr (fun k=>by rw [xJ];rfl) (Ev.now _))) fun _=>Ev.now _) fun _=>?_
    refine Ev.ite (fun _=>Ev.ite (fun _=>Ev.bind (WT t ht hs lo gl code _ _) (Ev.congr (fun k=>by rw [xJ];rfl) (Ev.now _))) fun _=>Ev.now _) fun _=>?_
    refine Ev.ite (fun _=>Ev.bind (DZ t ht hs lo gl code _ hb.1 hb.2) (Ev.congr (fun k=>by rw [xJ];rfl) (Ev.now _))) fun _=>?_
    exact Ev.ite (fun _=>Ev.bind (DZ t ht hs lo gl code _ ha.1 ha.2) (Ev.congr (fun k=>by rw [xJ];rfl) (Ev.now _))) fun _=>Ev.now _
  refine Ev.bind (wQ t ht hs lo gl code a ha.1 ha.2) (Ev.bind (wQ t ht hs lo gl code b hb.1 hb.2) ?_)
  exact Ev.ite (fun _=>j _) fun _=>j _
theorem xK (a:Int):nZ [a]=decide (a < 8):=by
  show (decide (a < 8) && true)=_
  rw [Bool.and_true]
theorem YN (a b c:Int):nZ [a,b,c]=(if a < 8 then (if b < 8 then decide (c < 8) else false) else false):=by
  show (decide (a < 8) && (decide (b < 8) && (decide (c < 8) && true)))=_
  by_cases h:a < 8 <;> by_cases h2:b < 8 <;> simp [h,h2]
theorem L6 (t:List ByteArray) (lo gl:ByteArray) (o a b c n:Int) (h:1≤o∧o≤15):(Dn o a b c && I7 t lo gl o a b c n)=nK t lo gl o a b c n:=by
  have hh:o=1 ∨ o=2 ∨ o=3 ∨ o=4 ∨ o=5 ∨ o=6 ∨ o=7 ∨ o=8 ∨ o=9 ∨ o=10 ∨ o=11 ∨ o=12 ∨ o=13 ∨ o=14 ∨ o=15:=by omega
  rcases hh with rfl|rfl|rfl|rfl|rfl|rfl|rfl|rfl|rfl|rfl|rfl|rfl|rfl|rfl|rfl
  · show (decide (a < 8) && true)=nZ [a]
    rw [xK,Bool.and_true]
  · show ((if a < 8 then (if b < 8 then decide (c < 8) else false) else false) && true)=nZ [a,b,c]
    rw [YN,Bool.and_true]
  · rfl
  · show (decide (a < 8) && true)=nZ [a]
    rw [xK,Bool.and_true]
  · show (true && _)=_
    rw [Bool.true_and];rfl
  · show (true && _)=_
    rw [Bool.true_and];rfl
  · show (true && _)=_
    rw [Bool.true_and];rfl
  · show (decide (a < 8) && (if df t lo b ≥ 0 then pO t (df t lo b) n else false))=(if nZ [a]=true then pI t (df t lo b) n else false)
    rw [xK,zW]
    cases decide (a < 8) <;> rfl
  · show (decide (b < 8) && (if df t lo a ≥ 0 then pO t (df t lo a) n else false))=(if nZ [b]=true then pI t (df t lo a) n else false)
    rw [xK,zW]
    cases decide (b < 8) <;> rfl
  · show (true && (if df t lo b ≥ 0 then oP (df t lo a) (En t (df t lo b) n) else false))=oP (df t lo a) (ny t (df t lo b) n).1
    rw [NH,Bool.true_and]
  · show (true && (if df t lo a ≥ 0 then oP (df t lo b) (En t (df t lo a) n) else false))=oP (df t lo b) (ny t (df t lo a) n).1
    rw [NH,Bool.true_and]
  · show (true && _)=_
    rw [Bool.true_and];rfl
  · show (true && _)=_
    rw [Bool.true_and];rfl
  · show (decide (a < 8) && true)=nZ [a]
    rw [xK,Bool.and_true]
  · show (decide (a < 8) && oP (df t lo b) (df t lo c))=(if nZ [a]=true then oP (df t lo b) (df t lo c) else false)
    rw [xK]
    cases decide (a < 8) <;> rfl
end Go.Proofs.YtlemecdddhdagaaDoor.P
end
