/- Parts of the proof of ModelMakes: what the functions that it reaches compute, and plain facts about that. -/
import Derived.Test.YtlemecdddhdagaaDoorXab
import Derived.Test.YtlemecdddhdagaaDoorXal
import Derived.Test.YtlemecdddhdagaaDoorXap
import Derived.Test.YtlemecdddhdagaaDoorXaq
import Derived.Test.YtlemecdddhdagaaDoorXah
import Derived.Test.YtlemecdddhdagaaDoorXak
set_option linter.unusedVariables false
set_option linter.unusedSimpArgs false
section
namespace Go.Proofs.YtlemecdddhdagaaDoor.P
open Go.RowKit Go.Proofs.ag.bH Go.Proofs.ag.dM Go.Proofs.ag.dY
attribute [local go_sem] kR kP lU lT jM jL kQ kN
def aX.j0:Nat→Int→Int→Int→Bool→List ByteArray→ByteArray→ByteArray→List (gY)→Int→Int→Int→Int→Int→Option (Bool)
 | 0,_,_,_,_,_,_,_,_,_,_,_,_,_=>none
 | k+1,x5,x6,x16,x17,rZ,rY,rX,rW,adB,Qd,Qc,Qb,yx=>if x17=true then (some (decide (x5 ≥ 0))) else (if x16=7 then ((dh.f x5 x6).bind fun t172=>(some t172)) else (if x16=15 then ((dP.f k rZ rY rX rW Qb).bind fun t173=>((dh.f x6 t173).bind fun t174=>(some t174))) else (if x16=8 then (if x6 ≥ 0 then ((eU.f k rZ rY rX rW x6 yx).bind fun t175=>(some t175)) else (some false)) else (if x16=9 then (if x5 ≥ 0 then ((eU.f k rZ rY rX rW x5 yx).bind fun t176=>(some t176)) else (some false)) else (if x16=10 then (if x6 ≥ 0 then ((gm.f k rZ rY rX rW x6 yx).bind fun t177=>((dh.f x5 t177).bind fun t178=>(some t178))) else (some false)) else (if x16=11 then (if x5 ≥ 0 then ((gm.f k rZ rY rX rW x5 yx).bind fun t179=>((dh.f x6 t179).bind fun t180=>(some t180))) else (some false)) else (if x16=12 then ((fJ.f k rZ rY rX rW Qc).bind fun t181=>((dh.f x5 t181).bind fun t182=>(some t182))) else (if x16=13 then ((fJ.f k rZ rY rX rW Qd).bind fun t183=>((dh.f x6 t183).bind fun t184=>(some t184))) else (some true)))))))))
def aX.f (k:Nat) (aY:List ByteArray) (aT:ByteArray) (aU:ByteArray) (aI:List (gY)) (bT:Int) (gp:Int) (gJ:Int) (ik:Int) (gX:Int):Option (Bool):=(dP.f k aY aT aU aI gp).bind fun t170=>((dP.f k aY aT aU aI gJ).bind fun t171=>(if bT=5 then (aX.j0 k t170 t171 bT (bT == 5) aY aT aU aI bT gp gJ ik gX) else (aX.j0 k t170 t171 bT (bT == 6) aY aT aU aI bT gp gJ ik gX)))
theorem aX.gZ:∀ k,(∀ y0 y1 y2 y3 y4 y5 y6 y7 y8 y9 zg FH FD,dK (aX.j0 k y0 y1 y2 y3 y4 y5 y6 y7 y8 y9 zg FH FD) (aX.j0 (k+1) y0 y1 y2 y3 y4 y5 y6 y7 y8 y9 zg FH FD))
 | 0=>fun _ _ _ _ _ _ _ _ _ _ _ _ _ r h=>by simp [aX.j0] at h
 | k+1=>by
  have lu:=aX.gZ k
  ·
   intro y0 y1 y2 y3 y4 y5 y6 y7 y8 y9 zg FH FD
   unfold aX.j0
   repeat' with_reducible first|apply lu|apply fJ.mono|apply dP.mono|apply eU.mono|apply gm.mono|exact dK.refl _|exact dK.none _|refine dK.ite ?_ ?_|refine dK.bind ?_ (fun _=>?_)
theorem aX.mono:∀ a0 a1 a2 a3 a4 a5 a6 a7 a8 k,dK (aX.f k a0 a1 a2 a3 a4 a5 a6 a7 a8) (aX.f (k+1) a0 a1 a2 a3 a4 a5 a6 a7 a8):=by
 intro a0 a1 a2 a3 a4 a5 a6 a7 a8 k
 have lu:=aX.gZ k
 unfold aX.f
 repeat' with_reducible first|apply lu|apply fJ.mono|apply dP.mono|apply eU.mono|apply gm.mono|exact dK.refl _|exact dK.none _|refine dK.ite ?_ ?_|refine dK.bind ?_ (fun _=>?_)
def aX.T1:Bool × List (List Nat × List Nat):=(true,[([],[]),([],[]),([1],[1]),([0,2],[0,2]),([],[]),([],[]),([5],[5]),([4,6,3],[4,6]),([3,7,0,1,2,3],[3]),([7,8,0,1,2,3,4,5,6,7,8],[7])])
def aX.B1:List Nat:=[0,0,2,7,0,0,32,127,255,511]
theorem aX.Xx:pV .any (opsOf Tryd.f30 1)=aX.T1:=by kernel_rfl
theorem aX.Pz:qQ aX.T1.2 aX.B1=true:=by kernel_rfl
set_option maxHeartbeats 8000000 in
set_option maxRecDepth 100000 in
theorem aX.calls (k:Nat) (dX:Option Addr) (dW:Nat) (aY:List ByteArray) (aT:ByteArray) (aU:ByteArray) (fQ:Option Addr) (eH:Nat) (aI:List (gY)) (bT:Int) (gp:Int) (gJ:Int) (ik:Int) (gX:Int) (r:Bool) (w:World) (jF:Kd.C Kd.string w dX aY.length aY) (jH:aY.length≤dW) (jE:Kd.C tu w fQ aI.length aI) (jG:aI.length≤eH) (h:aX.f k aY aT aU aI bT gp gJ ik gX=some r) :
  Calls Tryd.prog 30 #[.agg #[.slice dX aY.length dW,.string aT,.string aU,.slice fQ aI.length eH],.agg #[.int .u8 bT,.int .u8 gp,.int .u8 gJ,.int .u8 ik,.int .i64 gX]] w fun e w'=>e=.returned (.bool r)∧Below w.heap.size w w':=by
 have xA:=Tryd.underlying25
 have AL:=Tryd.underlying55
 have iq:=ae.mk jF
 have iC:=ae.mk jH
 clear jF jH
 have jB:=ae.mk jE
 have jS:=ae.mk jG
 clear jE jG
 have HB:=ae.mk (Below.refl w.heap.size w)
 have H:((dP.f k aY aT aU aI gp).bind fun t170=>((dP.f k aY aT aU aI gJ).bind fun t171=>(if bT=5 then (aX.j0 k t170 t171 bT (bT == 5) aY aT aU aI bT gp gJ ik gX) else (aX.j0 k t170 t171 bT (bT == 6) aY aT aU aI bT gp gJ ik gX))))=some r:=h
 clear h
 replace H:=Option.bind_eq_some_iff.mp H
 obtain ⟨t170,xh,H⟩:=H
 replace H:((dP.f k aY aT aU aI gJ).bind fun t171=>(if bT=5 then (aX.j0 k t170 t171 bT (bT == 5) aY aT aU aI bT gp gJ ik gX) else (aX.j0 k t170 t171 bT (bT == 6) aY aT aU aI bT gp gJ ik gX)))=some r:=H
 have A3:=ae.mk xh
 clear xh
 replace H:=Option.bind_eq_some_iff.mp H
 obtain ⟨t171,Aw,H⟩:=H
 replace H:(if bT=5 then (aX.j0 k t170 t171 bT (bT == 5) aY aT aU aI bT gp gJ ik gX) else (aX.j0 k t170 t171 bT (bT == 6) aY aT aU aI bT gp gJ ik gX))=some r:=H
 have A4:=ae.mk Aw
 clear Aw
 have GX:=ae.mk H
 clear H
 go_enter Tryd.func30,Tryd.ntmps30
 try go_wp2_with (first|((with_reducible refine dN (N:=2) rfl ?_);refine fB ?hg (N:=2) ?hd (cs:=#[.slice dX aY.length dW,.string aT,.string aU,.slice fQ aI.length eH]) (t:=25) ?hr ?_;(case hd=>rfl);(case hg=>rfl);(case hr=>first|(go_simp;done)|(go_simp;rfl));intro oM hg w6 hbox hb;have dS:=ae.mk (bg (by repeat (first|(with_reducible first|exact HB.out|apply ah|apply af|apply ai)|exact HB.out)) hb);have dR:=ae.mk (hbox);have dO:=ae.mk ((by rw [hg];exact (bQ (by repeat (first|(with_reducible first|exact HB.out|apply ah|apply af|apply ai)|exact HB.out))):w.heap.size≤oM));have gQ:=dO;clear HB;have HB:=dS;have iE:=dR;have amX:=dO;have lK:=gQ;clear dS dR dO gQ;clear hb hbox hg)|((with_reducible refine dN (N:=3) rfl ?_);refine fB ?hg (N:=3) ?hd (cs:=#[.int .u8 bT,.int .u8 gp,.int .u8 gJ,.int .u8 ik,.int .i64 gX]) (t:=55) ?hr ?_;(case hd=>rfl);(case hg=>rfl);(case hr=>first|(go_simp;done)|(go_simp;rfl));intro pG hg w7 hbox hb;have dS:=ae.mk (bf (g:=oM) (o:=.cells #[.slice dX aY.length dW,.string aT,.string aU,.slice fQ aI.length eH] 25 (0,0)) (by (with_reducible repeat (first|refine au ?_ _|refine ay ?_|refine ak ?_ _));exact iE.out) hb);have dR:=ae.mk (bg (by repeat (first|(with_reducible first|exact HB.out|apply ah|apply af|apply ai|refine aj ?_ lK.out)|exact HB.out)) hb);have dO:=ae.mk (hbox);have gQ:=ae.mk ((by rw [hg];exact (bQ (by repeat (first|(with_reducible first|exact HB.out|apply ah|apply af|apply ai|refine aj ?_ lK.out)|exact HB.out))):w.heap.size≤pG));have lM:=gQ;have mg:=ae.mk ((by rw [hg];exact Nat.ne_of_lt (jY (g:=oM) (o:=.cells #[.slice dX aY.length dW,.string aT,.string aU,.slice fQ aI.length eH] 25 (0,0)) (by (with_reducible repeat (first|refine au ?_ _|refine ay ?_|refine ak ?_ _));exact iE.out)):oM ≠ pG));have nI:=ae.mk mg.out.symm;clear iE;clear HB;have iE:=dS;have HB:=dR;have iD:=dO;have amW:=gQ;have l9:=lM;have nY:=mg;have nX:=nI;clear dS dR dO gQ lM mg nI;clear hb hbox hg))
 have dS:=ae.mk (ay iE.out)
 have dR:=ae.mk (ay iD.out)
 have dO:=ae.mk (ai HB.out)
 clear iE
 clear iD
 clear HB
 have iE:=dS
 have iD:=dR
 have HB:=dO
 clear dS dR dO
 refine qG (n:=10) (S:=fun w'=>w'.cell? ⟨oM,0,none⟩=some (.slice dX aY.length dW)∧w'.cell? ⟨oM,1,none⟩=some (.string aT)∧w'.cell? ⟨oM,2,none⟩=some (.string aU)∧w'.cell? ⟨oM,3,none⟩=some (.slice fQ aI.length eH)∧w'.cell? ⟨pG,0,none⟩=some (.int .u8 bT)∧w'.cell? ⟨pG,1,none⟩=some (.int .u8 gp)∧w'.cell? ⟨pG,2,none⟩=some (.int .u8 gJ)∧w'.cell? ⟨pG,3,none⟩=some (.int .u8 ik)∧w'.cell? ⟨pG,4,none⟩=some (.int .i64 gX)) (ds:=[]) #[false,false,false,false,false,false,false,false,false,false] (by kernel_rfl) rfl rfl ⟨(ax iE.out 0).trans rfl,(ax iE.out 1).trans rfl,(ax iE.out 2).trans rfl,(ax iE.out 3).trans rfl,(ax iD.out 0).trans rfl,(ax iD.out 1).trans rfl,(ax iD.out 2).trans rfl,(ax iD.out 3).trans rfl,(ax iD.out 4).trans rfl⟩ (fun hHeld=>?_);refine qx aX.Xx aX.Pz (fun kZ AY=>?_)
 generalize w7.drew=w8 at iE iD HB hHeld ⊢
 refine gW (i:=1) (N:=some 8) (v:=?_) (a':=?_) #[false,true,false,false,false,false,false,false,false,false] rfl rfl (iF kZ.out (by kernel_rfl)) (fun _ _ _ h=>h) (Or.inl ⟨by rfl,?_⟩) ?_ ?_
 rotate_left
 ·
  intro w'
  go_simp
  with_reducible rfl
 rotate_left
 ·
  simp only [Act.put,List.setIfInBounds_toArray,List.set_cons_zero,List.set_cons_succ,bY,bZ]
  rfl
 refine gW (i:=5) (N:=some 12) (v:=?_) (a':=?_) #[false,true,false,false,false,true,false,false,false,false] rfl rfl (iF kZ.out (by kernel_rfl)) (fun _ _ _ h=>h) (Or.inl ⟨by rfl,?_⟩) ?_ ?_
 rotate_left
 ·
  intro w'
  go_simp
  with_reducible rfl
 rotate_left
 ·
  simp only [Act.put,List.setIfInBounds_toArray,List.set_cons_zero,List.set_cons_succ,bY,bZ]
  rfl
 refine kG (i:=0) (N:=some 7) (v:=?_) (a':=?_) #[true,true,false,false,false,true,false,false,false,false] rfl rfl (kE kZ.out AY.out (by kernel_rfl)) (fun _ _ _ h=>h) (Or.inl ⟨by rfl,?_⟩) hHeld ?_ ?_
 rotate_left
 ·
  rintro w' ⟨s0,s1,s2,s3,s4,s5,s6,s7,s8⟩
  go_simp
  with_reducible rfl
 rotate_left
 ·
  simp only [Act.put,List.setIfInBounds_toArray,List.set_cons_zero,List.set_cons_succ,bY,bZ]
  rfl
 refine kG (i:=2) (N:=some 9) (v:=?_) (a':=?_) #[true,true,true,false,false,true,false,false,false,false] rfl rfl (kE kZ.out AY.out (by kernel_rfl)) (fun _ _ _ h=>h) (Or.inl ⟨by rfl,?_⟩) hHeld ?_ ?_
 rotate_left
 ·
  rintro w' ⟨s0,s1,s2,s3,s4,s5,s6,s7,s8⟩
  go_simp
  with_reducible rfl
 rotate_left
 ·
  simp only [Act.put,List.setIfInBounds_toArray,List.set_cons_zero,List.set_cons_succ,bY,bZ]
  rfl
 refine kG (i:=4) (N:=some 11) (v:=?_) (a':=?_) #[true,true,true,false,true,true,false,false,false,false] rfl rfl (kE kZ.out AY.out (by kernel_rfl)) (fun _ _ _ h=>h) (Or.inl ⟨by rfl,?_⟩) hHeld ?_ ?_
 rotate_left
 ·
  rintro w' ⟨s0,s1,s2,s3,s4,s5,s6,s7,s8⟩
  go_simp
  with_reducible rfl
 rotate_left
 ·
  simp only [Act.put,List.setIfInBounds_toArray,List.set_cons_zero,List.set_cons_succ,bY,bZ]
  rfl
 refine kG (i:=6) (N:=some 13) (v:=?_) (a':=?_) #[true,true,true,false,true,true,true,false,false,false] rfl rfl (kE kZ.out AY.out (by kernel_rfl)) (fun _ _ _ h=>h) (Or.inl ⟨by rfl,?_⟩) hHeld ?_ ?_
 rotate_left
 ·
  rintro w' ⟨s0,s1,s2,s3,s4,s5,s6,s7,s8⟩
  go_simp
  with_reducible rfl
 rotate_left
 ·
  simp only [Act.put,List.setIfInBounds_toArray,List.set_cons_zero,List.set_cons_succ,bY,bZ]
  rfl
 refine pY (i:=3) (N:=some 10) #[true,true,true,true,true,true,true,false,false,false] rfl rfl (mW kZ.out (by kernel_rfl)) (by decide) (fun K hK=>?_)
 refine pF Tryd.func19 (by kernel_rfl) rfl #[.agg #[.slice dX aY.length dW,.string aT,.string aU,.slice fQ aI.length eH],.int .u8 gp] (by rfl) rfl rfl (by (try simp only [List.map_toArray,List.map_cons,List.map_nil]);first|done|rfl|(simp only [List.length_drop,List.length_take];rfl)) ?_
 with_reducible refine (dP.calls k _ _ aY aT aU _ _ aI gp t170 _ ?bW ?df ?iM ?iL A3.out).mono ?_
 (case bW=>repeat (first|exact (Kd.bJ iq.out HB.out)|(with_reducible refine Kd.bM ?_ _)|(with_reducible refine Kd.bK ?_ _)|(with_reducible refine Kd.dB ?_)))
 (case df=>exact iC.out)
 (case iM=>repeat (first|exact (Kd.bJ jB.out HB.out)|(with_reducible refine Kd.bM ?_ _)|(with_reducible refine Kd.bK ?_ _)|(with_reducible refine Kd.dB ?_)))
 (case iL=>exact jS.out)
 rintro e w9 ⟨rfl,hb⟩
 refine ⟨_,rfl,?_⟩
 have dS:=ae.mk (bf (g:=oM) (o:=.cells #[.slice dX aY.length dW,.string aT,.string aU,.slice fQ aI.length eH] 25 (0,0)) (by (with_reducible repeat (first|refine au ?_ _|refine ay ?_|refine ak ?_ _));exact iE.out) hb)
 have dR:=ae.mk (bf (g:=pG) (o:=.cells #[.int .u8 bT,.int .u8 gp,.int .u8 gJ,.int .u8 ik,.int .i64 gX] 55 (0,0)) (by (with_reducible repeat (first|refine au ?_ _|refine ay ?_|refine ak ?_ _));exact iD.out) hb)
 have dO:=ae.mk (bg (by repeat (first|(with_reducible first|exact HB.out|apply ah|apply af|apply ai|refine aj ?_ lK.out|refine aj ?_ l9.out)|exact HB.out)) hb)
 clear iE
 clear iD
 clear HB
 have iE:=dS
 have iD:=dR
 have HB:=dO
 clear dS dR dO
 (try clear hb)
 (try clear hb2)
 (try clear hk)
 (try clear hi)
 refine hK.out _ _ ⟨(ax iE.out 0).trans rfl,(ax iE.out 1).trans rfl,(ax iE.out 2).trans rfl,(ax iE.out 3).trans rfl,(ax iD.out 0).trans rfl,(ax iD.out 1).trans rfl,(ax iD.out 2).trans rfl,(ax iD.out 3).trans rfl,(ax iD.out 4).trans rfl⟩ (fun hHeld=>?_)
 clear hK K
 refine jo (a':=?_) ?_ ?_
 rotate_left
 ·
  show Act.put _ (some 10) _=_
  simp only [Act.put,List.setIfInBounds_toArray,List.set_cons_zero,List.set_cons_succ,bY,bZ]
  rfl
 refine pY (i:=7) (N:=some 14) #[true,true,true,true,true,true,true,true,false,false] rfl rfl (mW kZ.out (by kernel_rfl)) (by decide) (fun K hK=>?_)
 refine pF Tryd.func19 (by kernel_rfl) rfl #[.agg #[.slice dX aY.length dW,.string aT,.string aU,.slice fQ aI.length eH],.int .u8 gJ] (by rfl) rfl rfl (by (try simp only [List.map_toArray,List.map_cons,List.map_nil]);first|done|rfl|(simp only [List.length_drop,List.length_take];rfl)) ?_
 with_reducible refine (dP.calls k _ _ aY aT aU _ _ aI gJ t171 _ ?bW ?df ?iM ?iL A4.out).mono ?_
 (case bW=>repeat (first|exact (Kd.bJ iq.out HB.out)|(with_reducible refine Kd.bM ?_ _)|(with_reducible refine Kd.bK ?_ _)|(with_reducible refine Kd.dB ?_)))
 (case df=>exact iC.out)
 (case iM=>repeat (first|exact (Kd.bJ jB.out HB.out)|(with_reducible refine Kd.bM ?_ _)|(with_reducible refine Kd.bK ?_ _)|(with_reducible refine Kd.dB ?_)))
 (case iL=>exact jS.out)
 rintro e w10 ⟨rfl,hb⟩
 refine ⟨_,rfl,?_⟩
 have dS:=ae.mk (bf (g:=oM) (o:=.cells #[.slice dX aY.length dW,.string aT,.string aU,.slice fQ aI.length eH] 25 (0,0)) (by (with_reducible repeat (first|refine au ?_ _|refine ay ?_|refine ak ?_ _));exact iE.out) hb)
 have dR:=ae.mk (bf (g:=pG) (o:=.cells #[.int .u8 bT,.int .u8 gp,.int .u8 gJ,.int .u8 ik,.int .i64 gX] 55 (0,0)) (by (with_reducible repeat (first|refine au ?_ _|refine ay ?_|refine ak ?_ _));exact iD.out) hb)
 have dO:=ae.mk (bg (by repeat (first|(with_reducible first|exact HB.out|apply ah|apply af|apply ai|refine aj ?_ lK.out|refine aj ?_ l9.out)|exact HB.out)) hb)
 clear iE
 clear iD
 clear HB
 have iE:=dS
 have iD:=dR
 have HB:=dO
 clear dS dR dO
 (try clear hb)
 (try clear hb2)
 (try clear hk)
 (try clear hi)
 refine hK.out _ _ ⟨(ax iE.out 0).trans rfl,(ax iE.out 1).trans rfl,(ax iE.out 2).trans rfl,(ax iE.out 3).trans rfl,(ax iD.out 0).trans rfl,(ax iD.out 1).trans rfl,(ax iD.out 2).trans rfl,(ax iD.out 3).trans rfl,(ax iD.out 4).trans rfl⟩ (fun hHeld=>?_)
 clear hK K
 refine jo (a':=?_) ?_ ?_
 rotate_left
 ·
  show Act.put _ (some 14) _=_
  simp only [Act.put,List.setIfInBounds_toArray,List.set_cons_zero,List.set_cons_succ,bY,bZ]
  rfl
 refine gW (i:=8) (N:=some 5) (v:=?_) (a':=?_) #[true,true,true,true,true,true,true,true,true,false] rfl rfl (iF kZ.out (by kernel_rfl)) (fun _ _ _ h=>h) (Or.inl ⟨by rfl,?_⟩) ?_ ?_
 rotate_left
 ·
  intro w'
  go_simp
  with_reducible rfl
 rotate_left
 ·
  simp only [Act.put,List.setIfInBounds_toArray,List.set_cons_zero,List.set_cons_succ,bY,bZ]
  rfl
 refine gW (i:=9) (N:=some 6) (v:=?_) (a':=?_) #[true,true,true,true,true,true,true,true,true,true] rfl rfl (iF kZ.out (by kernel_rfl)) (fun _ _ _ h=>h) (Or.inl ⟨by rfl,?_⟩) ?_ ?_
 rotate_left
 ·
  intro w'
  go_simp
  with_reducible rfl
 rotate_left
 ·
  simp only [Act.put,List.setIfInBounds_toArray,List.set_cons_zero,List.set_cons_succ,bY,bZ]
  rfl
 refine ug (uV kZ.out (by kernel_rfl)) ?_
 have aau:=nX.out
 have aak:=nY.out
 obtain ⟨Dv,Du,Dt,Dq,Vl,Di,Dh,Df,Dc,TF⟩:=jO iD.out
 go_upto_if 17 with (fail)
 go_cut [17] (fun v17 wc=>∃ (kq:Nat) (Hl:Bool),v17=.bool Hl∧ae (aX.j0 kq t170 t171 bT Hl aY aT aU aI bT gp gJ ik gX=some r)∧ae (kq≤k)∧ae (wc.heap[oM]? = some (.cells #[(.slice dX aY.length dW),.string aT,.string aU,(.slice fQ aI.length eH)] 25 (0,0)))∧ae (wc.heap[pG]? = some (.cells #[.int .u8 bT,.int .u8 gp,.int .u8 gJ,.int .u8 ik,.int .i64 gX] 55 (0,0)))∧ae (Below w.heap.size w wc))
 case first =>
  have H:=GX.out
  clear GX
  by_cases c13:bT=5
  ·
   rw [if_pos c13] at H
   have lZ:(bT == 5)=true:=beq_iff_eq.mpr c13
   have wX:(bT != 5)=false:=bne_eq_false_iff_eq.mpr c13
   clear c13
   (first|rw [lZ]|(simp only [bY,bZ];rw [lZ])|skip)
   have H':=ae.mk H
   clear H
   go_wp2
   go_meet
   case rel=>exact ⟨_,((bT == 5)),(by first|rfl|(simp;done)|(simp [*];done)),H',⟨by first|omega|exact Nat.le_refl _⟩,⟨by (with_reducible repeat (first|refine au ?_ _|refine ay ?_|refine ak ?_ _));exact iE.out⟩,⟨by (with_reducible repeat (first|refine au ?_ _|refine ay ?_|refine ak ?_ _));exact iD.out⟩,⟨by repeat (first|(with_reducible first|exact HB.out|apply ah|apply af|apply ai|refine aj ?_ lK.out|refine aj ?_ l9.out)|exact HB.out)⟩⟩
  ·
   rw [if_neg c13] at H
   have lZ:(bT == 5)=false:=beq_eq_false_iff_ne.mpr c13
   have wX:(bT != 5)=true:=bne_iff_ne.mpr c13
   (first|rw [lZ]|(simp only [bY,bZ];rw [lZ])|skip)
   have H':=ae.mk H
   clear H
   go_wp2
   go_meet
   case rel=>exact ⟨_,((bT == 6)),(by first|rfl|(simp;done)|(simp [*];done)),H',⟨by first|omega|exact Nat.le_refl _⟩,⟨by (with_reducible repeat (first|refine au ?_ _|refine ay ?_|refine ak ?_ _));exact iE.out⟩,⟨by (with_reducible repeat (first|refine au ?_ _|refine ay ?_|refine ak ?_ _));exact iD.out⟩,⟨by repeat (first|(with_reducible first|exact HB.out|apply ah|apply af|apply ai|refine aj ?_ lK.out|refine aj ?_ l9.out)|exact HB.out)⟩⟩
 case rest =>
  clear GX
  obtain ⟨kq,Hl,rfl,HA,GV,iE,iD,HB⟩:=hcut
  cases kq with
  | zero=>exact absurd HA.out (by simp [aX.j0])
  | succ uI =>
   have H:=HA.out
   clear HA
   simp only [aX.j0] at H
   by_cases c14:Hl=true
   ·
    subst c14
    have H1:(some (decide (t170 ≥ 0)))=some r:=by rw [if_pos rfl] at H;exact H
    clear H
    have H:=H1
    clear H1
    obtain rfl:=Option.some.inj H
    go_wp2
    go_ret
    exact ⟨by first|rfl|(simp [aQ,aN] <;> rfl)|(simp [*,aQ,aN] <;> rfl),by repeat (first|(with_reducible first|exact HB.out|apply ah|apply af|apply ai|refine aj ?_ lK.out|refine aj ?_ l9.out)|exact HB.out)⟩
   ·
    replace c14:=Bool.eq_false_iff.mpr c14
    subst c14
    have H1:(if bT=7 then ((dh.f t170 t171).bind fun t172=>(some t172)) else (if bT=15 then ((dP.f uI aY aT aU aI ik).bind fun t173=>((dh.f t171 t173).bind fun t174=>(some t174))) else (if bT=8 then (if t171 ≥ 0 then ((eU.f uI aY aT aU aI t171 gX).bind fun t175=>(some t175)) else (some false)) else (if bT=9 then (if t170 ≥ 0 then ((eU.f uI aY aT aU aI t170 gX).bind fun t176=>(some t176)) else (some false)) else (if bT=10 then (if t171 ≥ 0 then ((gm.f uI aY aT aU aI t171 gX).bind fun t177=>((dh.f t170 t177).bind fun t178=>(some t178))) else (some false)) else (if bT=11 then (if t170 ≥ 0 then ((gm.f uI aY aT aU aI t170 gX).bind fun t179=>((dh.f t171 t179).bind fun t180=>(some t180))) else (some false)) else (if bT=12 then ((fJ.f uI aY aT aU aI gJ).bind fun t181=>((dh.f t170 t181).bind fun t182=>(some t182))) else (if bT=13 then ((fJ.f uI aY aT aU aI gp).bind fun t183=>((dh.f t171 t183).bind fun t184=>(some t184))) else (some true)))))))))=some r:=by rw [if_neg (show ¬ (false=true) by decide)] at H;exact H
    clear H
    have H:=H1
    clear H1
    by_cases c15:bT=7
    ·
     rw [if_pos c15] at H
     have qh:(bT == 7)=true:=beq_iff_eq.mpr c15
     have EY:(bT != 7)=false:=bne_eq_false_iff_eq.mpr c15
     clear c15
     replace H:=Option.bind_eq_some_iff.mp H
     obtain ⟨t172,FB,H⟩:=H
     replace H:(some t172)=some r:=H
     have Zj:=ae.mk FB
     clear FB
     obtain rfl:=Option.some.inj H
     go_wp2_with (first|((with_reducible refine bu (f:=48) rfl ?_);refine dQ (some 26) rfl rfl Tryd.func48 (by kernel_rfl) rfl #[.int .i64 t170,.int .i64 t171] rfl (by (try simp only [List.map_toArray,List.map_cons,List.map_nil]);first|done|rfl|(simp only [List.length_drop,List.length_take];rfl)) ?_;(with_reducible refine (dh.calls t170 t171 t172 _ Zj.out).mono ?_);rintro e w' ⟨rfl,⟨nd,rfl⟩⟩;refine ⟨_,rfl,?_⟩))
     go_ret
     exact ⟨by first|rfl|(simp [aQ,aN] <;> rfl)|(simp [*,aQ,aN] <;> rfl),by repeat (first|(with_reducible first|exact HB.out|apply ah|apply af|apply ai|refine aj ?_ lK.out|refine aj ?_ l9.out)|exact HB.out)⟩
    ·
     rw [if_neg c15] at H
     have qh:(bT == 7)=false:=beq_eq_false_iff_ne.mpr c15
     have EY:(bT != 7)=true:=bne_iff_ne.mpr c15
     by_cases c17:bT=15
     ·
      rw [if_pos c17] at H
      have xX:(bT == 15)=true:=beq_iff_eq.mpr c17
      have EX:(bT != 15)=false:=bne_eq_false_iff_eq.mpr c17
      clear c17
      replace H:=Option.bind_eq_some_iff.mp H
      obtain ⟨t173,adx,H⟩:=H
      replace H:((dh.f t171 t173).bind fun t174=>(some t174))=some r:=H
      have A18:=ae.mk adx
      clear adx
      replace H:=Option.bind_eq_some_iff.mp H
      obtain ⟨t174,Fz,H⟩:=H
      replace H:(some t174)=some r:=H
      have PW:=ae.mk Fz
      clear Fz
      obtain rfl:=Option.some.inj H
      have alT:=nY.out
      have alq:=nX.out
      obtain ⟨U4,U3,U2,U1,Tf,Td,Tc,S9⟩:=qM iE.out
      obtain ⟨JI,JH,JG,JF,aiZ,I8,I7,I5,I4,agL⟩:=jO iD.out
      go_wp2_with (first|((with_reducible refine bu (f:=19) rfl ?_);refine dQ (some 33) rfl rfl Tryd.func19 (by kernel_rfl) rfl #[.agg #[.slice dX aY.length dW,.string aT,.string aU,.slice fQ aI.length eH],.int .u8 ik] rfl (by (try simp only [List.map_toArray,List.map_cons,List.map_nil]);first|done|rfl|(simp only [List.length_drop,List.length_take];rfl)) ?_;(with_reducible refine (dP.calls uI _ _ aY aT aU _ _ aI ik t173 _ ?bW ?df ?iM ?iL A18.out).mono ?_);(case bW=>repeat (first|exact (Kd.bJ iq.out HB.out)|(with_reducible refine Kd.bM ?_ _)|(with_reducible refine Kd.bK ?_ _)|(with_reducible refine Kd.dB ?_)));(case df=>exact iC.out);(case iM=>repeat (first|exact (Kd.bJ jB.out HB.out)|(with_reducible refine Kd.bM ?_ _)|(with_reducible refine Kd.bK ?_ _)|(with_reducible refine Kd.dB ?_)));(case iL=>exact jS.out);rintro e w23 ⟨rfl,hb⟩;refine ⟨_,rfl,?_⟩;have dS:=ae.mk (bf (g:=oM) (o:=.cells #[.slice dX aY.length dW,.string aT,.string aU,.slice fQ aI.length eH] 25 (0,0)) (by (with_reducible repeat (first|refine au ?_ _|refine ay ?_|refine ak ?_ _));exact iE.out) hb);have dR:=ae.mk (bf (g:=pG) (o:=.cells #[.int .u8 bT,.int .u8 gp,.int .u8 gJ,.int .u8 ik,.int .i64 gX] 55 (0,0)) (by (with_reducible repeat (first|refine au ?_ _|refine ay ?_|refine ak ?_ _));exact iD.out) hb);have dO:=ae.mk (bg (by repeat (first|(with_reducible first|exact HB.out|apply ah|apply af|apply ai|refine aj ?_ lK.out|refine aj ?_ l9.out)|exact HB.out)) hb);clear iE;clear iD;clear HB;have iE:=dS;have iD:=dR;have HB:=dO;clear dS dR dO;(try clear hb);(try clear hb2);(try clear hk);(try clear hi))|((with_reducible refine bu (f:=48) rfl ?_);refine dQ (some 34) rfl rfl Tryd.func48 (by kernel_rfl) rfl #[.int .i64 t171,.int .i64 t173] rfl (by (try simp only [List.map_toArray,List.map_cons,List.map_nil]);first|done|rfl|(simp only [List.length_drop,List.length_take];rfl)) ?_;(with_reducible refine (dh.calls t171 t173 t174 _ PW.out).mono ?_);rintro e w' ⟨rfl,⟨nd,rfl⟩⟩;refine ⟨_,rfl,?_⟩))
      go_ret
      exact ⟨by first|rfl|(simp [aQ,aN] <;> rfl)|(simp [*,aQ,aN] <;> rfl),by repeat (first|(with_reducible first|exact HB.out|apply ah|apply af|apply ai|refine aj ?_ lK.out|refine aj ?_ l9.out)|exact HB.out)⟩
     ·
      rw [if_neg c17] at H
      have xX:(bT == 15)=false:=beq_eq_false_iff_ne.mpr c17
      have EX:(bT != 15)=true:=bne_iff_ne.mpr c17
      by_cases c24:bT=8
      ·
       rw [if_pos c24] at H
       have acj:(bT == 8)=true:=beq_iff_eq.mpr c24
       have aci:(bT != 8)=false:=bne_eq_false_iff_eq.mpr c24
       clear c24
       by_cases c25:t171 ≥ 0
       ·
        rw [if_pos c25] at H
        have ach:decide (0≤t171)=true:=decide_eq_true c25
        clear c25
        replace H:=Option.bind_eq_some_iff.mp H
        obtain ⟨t175,adv,H⟩:=H
        replace H:(some t175)=some r:=H
        have A26:=ae.mk adv
        clear adv
        obtain rfl:=Option.some.inj H
        have aar:=nY.out
        have aah:=nX.out
        obtain ⟨JE,JD,JC,JB,IZ,IY,IX,IW⟩:=qM iE.out
        obtain ⟨UT,UR,UQ,UO,UN,SL,SK,SI,SH,SG⟩:=jO iD.out
        go_wp2_with (first|(go_at_call 49;(with_reducible refine (eU.calls uI _ _ aY aT aU _ _ aI t171 gX t175 _ ?bW ?df ?iM ?iL A26.out).mono ?_);(case bW=>repeat (first|exact (Kd.bJ iq.out HB.out)|(with_reducible refine Kd.bM ?_ _)|(with_reducible refine Kd.bK ?_ _)|(with_reducible refine Kd.dB ?_)));(case df=>exact iC.out);(case iM=>repeat (first|exact (Kd.bJ jB.out HB.out)|(with_reducible refine Kd.bM ?_ _)|(with_reducible refine Kd.bK ?_ _)|(with_reducible refine Kd.dB ?_)));(case iL=>exact jS.out);rintro e w30 ⟨rfl,hb⟩;have dS:=ae.mk (bf (g:=oM) (o:=.cells #[.slice dX aY.length dW,.string aT,.string aU,.slice fQ aI.length eH] 25 (0,0)) (by (with_reducible repeat (first|refine au ?_ _|refine ay ?_|refine ak ?_ _));exact iE.out) hb);have dR:=ae.mk (bf (g:=pG) (o:=.cells #[.int .u8 bT,.int .u8 gp,.int .u8 gJ,.int .u8 ik,.int .i64 gX] 55 (0,0)) (by (with_reducible repeat (first|refine au ?_ _|refine ay ?_|refine ak ?_ _));exact iD.out) hb);have dO:=ae.mk (bg (by repeat (first|(with_reducible first|exact HB.out|apply ah|apply af|apply ai|refine aj ?_ lK.out|refine aj ?_ l9.out)|exact HB.out)) hb);clear iE;clear iD;clear HB;have iE:=dS;have iD:=dR;have HB:=dO;clear dS dR dO;(try clear hb);(try clear hb2);(try clear hk);(try clear hi)))
        go_ret
        exact ⟨by first|rfl|(simp [aQ,aN] <;> rfl)|(simp [*,aQ,aN] <;> rfl),by repeat (first|(with_reducible first|exact HB.out|apply ah|apply af|apply ai|refine aj ?_ lK.out|refine aj ?_ l9.out)|exact HB.out)⟩
       ·
        rw [if_neg c25] at H
        have ach:decide (0≤t171)=false:=decide_eq_false c25
        clear c25
        obtain rfl:=Option.some.inj H
        go_wp2
        go_ret
        exact ⟨by first|rfl|(simp [aQ,aN] <;> rfl)|(simp [*,aQ,aN] <;> rfl),by repeat (first|(with_reducible first|exact HB.out|apply ah|apply af|apply ai|refine aj ?_ lK.out|refine aj ?_ l9.out)|exact HB.out)⟩
      ·
       rw [if_neg c24] at H
       have acj:(bT == 8)=false:=beq_eq_false_iff_ne.mpr c24
       have aci:(bT != 8)=true:=bne_iff_ne.mpr c24
       by_cases c31:bT=9
       ·
        rw [if_pos c31] at H
        have ace:(bT == 9)=true:=beq_iff_eq.mpr c31
        have acd:(bT != 9)=false:=bne_eq_false_iff_eq.mpr c31
        clear c31
        by_cases c32:t170 ≥ 0
        ·
         rw [if_pos c32] at H
         have Pj:decide (0≤t170)=true:=decide_eq_true c32
         clear c32
         replace H:=Option.bind_eq_some_iff.mp H
         obtain ⟨t176,PU,H⟩:=H
         replace H:(some t176)=some r:=H
         have A33:=ae.mk PU
         clear PU
         obtain rfl:=Option.some.inj H
         have Wh:=nY.out
         have V9:=nX.out
         obtain ⟨JA,Jz,Jy,Jw,IV,IU,IQ,IP⟩:=qM iE.out
         obtain ⟨UL,UK,UJ,UI,UH,SC,SB,SA,Sz,Sv⟩:=jO iD.out
         go_wp2_with (first|(go_at_call 49;(with_reducible refine (eU.calls uI _ _ aY aT aU _ _ aI t170 gX t176 _ ?bW ?df ?iM ?iL A33.out).mono ?_);(case bW=>repeat (first|exact (Kd.bJ iq.out HB.out)|(with_reducible refine Kd.bM ?_ _)|(with_reducible refine Kd.bK ?_ _)|(with_reducible refine Kd.dB ?_)));(case df=>exact iC.out);(case iM=>repeat (first|exact (Kd.bJ jB.out HB.out)|(with_reducible refine Kd.bM ?_ _)|(with_reducible refine Kd.bK ?_ _)|(with_reducible refine Kd.dB ?_)));(case iL=>exact jS.out);rintro e w37 ⟨rfl,hb⟩;have dS:=ae.mk (bf (g:=oM) (o:=.cells #[.slice dX aY.length dW,.string aT,.string aU,.slice fQ aI.length eH] 25 (0,0)) (by (with_reducible repeat (first|refine au ?_ _|refine ay ?_|refine ak ?_ _));exact iE.out) hb);have dR:=ae.mk (bf (g:=pG) (o:=.cells #[.int .u8 bT,.int .u8 gp,.int .u8 gJ,.int .u8 ik,.int .i64 gX] 55 (0,0)) (by (with_reducible repeat (first|refine au ?_ _|refine ay ?_|refine ak ?_ _));exact iD.out) hb);have dO:=ae.mk (bg (by repeat (first|(with_reducible first|exact HB.out|apply ah|apply af|apply ai|refine aj ?_ lK.out|refine aj ?_ l9.out)|exact HB.out)) hb);clear iE;clear iD;clear HB;have iE:=dS;have iD:=dR;have HB:=dO;clear dS dR dO;(try clear hb);(try clear hb2);(try clear hk);(try clear hi)))
         go_ret
         exact ⟨by first|rfl|(simp [aQ,aN] <;> rfl)|(simp [*,aQ,aN] <;> rfl),by repeat (first|(with_reducible first|exact HB.out|apply ah|apply af|apply ai|refine aj ?_ lK.out|refine aj ?_ l9.out)|exact HB.out)⟩
        ·
         rw [if_neg c32] at H
         have Pj:decide (0≤t170)=false:=decide_eq_false c32
         clear c32
         obtain rfl:=Option.some.inj H
         go_wp2
         go_ret
         exact ⟨by first|rfl|(simp [aQ,aN] <;> rfl)|(simp [*,aQ,aN] <;> rfl),by repeat (first|(with_reducible first|exact HB.out|apply ah|apply af|apply ai|refine aj ?_ lK.out|refine aj ?_ l9.out)|exact HB.out)⟩
       ·
        rw [if_neg c31] at H
        have ace:(bT == 9)=false:=beq_eq_false_iff_ne.mpr c31
        have acd:(bT != 9)=true:=bne_iff_ne.mpr c31
        by_cases J3:bT=10
        ·
         rw [if_pos J3] at H
         have Ac:(bT == 10)=true:=beq_iff_eq.mpr J3
         have ab7:(bT != 10)=false:=bne_eq_false_iff_eq.mpr J3
         clear J3
         by_cases Zr:t171 ≥ 0
         ·
          rw [if_pos Zr] at H
          have ab6:decide (0≤t171)=true:=decide_eq_true Zr
          clear Zr
          replace H:=Option.bind_eq_some_iff.mp H
          obtain ⟨t177,adr,H⟩:=H
          replace H:((dh.f t170 t177).bind fun t178=>(some t178))=some r:=H
          have Aw:=ae.mk adr
          clear adr
          replace H:=Option.bind_eq_some_iff.mp H
          obtain ⟨t178,adq,H⟩:=H
          replace H:(some t178)=some r:=H
          have A41:=ae.mk adq
          clear adq
          obtain rfl:=Option.some.inj H
          have alG:=nY.out
          have alc:=nX.out
          obtain ⟨Jv,Ju,Jt,Js,IM,IL,IK,IJ⟩:=qM iE.out
          obtain ⟨UC,UB,UA,Uz,Uy,Sj,Si,RZ,RY,RX⟩:=jO iD.out
          go_wp2_with (first|(go_at_call 50;(with_reducible refine (gm.calls uI _ _ aY aT aU _ _ aI t171 gX t177 _ ?bW ?df ?iM ?iL Aw.out).mono ?_);(case bW=>repeat (first|exact (Kd.bJ iq.out HB.out)|(with_reducible refine Kd.bM ?_ _)|(with_reducible refine Kd.bK ?_ _)|(with_reducible refine Kd.dB ?_)));(case df=>exact iC.out);(case iM=>repeat (first|exact (Kd.bJ jB.out HB.out)|(with_reducible refine Kd.bM ?_ _)|(with_reducible refine Kd.bK ?_ _)|(with_reducible refine Kd.dB ?_)));(case iL=>exact jS.out);rintro e w45 ⟨rfl,hb⟩;have dS:=ae.mk (bf (g:=oM) (o:=.cells #[.slice dX aY.length dW,.string aT,.string aU,.slice fQ aI.length eH] 25 (0,0)) (by (with_reducible repeat (first|refine au ?_ _|refine ay ?_|refine ak ?_ _));exact iE.out) hb);have dR:=ae.mk (bf (g:=pG) (o:=.cells #[.int .u8 bT,.int .u8 gp,.int .u8 gJ,.int .u8 ik,.int .i64 gX] 55 (0,0)) (by (with_reducible repeat (first|refine au ?_ _|refine ay ?_|refine ak ?_ _));exact iD.out) hb);have dO:=ae.mk (bg (by repeat (first|(with_reducible first|exact HB.out|apply ah|apply af|apply ai|refine aj ?_ lK.out|refine aj ?_ l9.out)|exact HB.out)) hb);clear iE;clear iD;clear HB;have iE:=dS;have iD:=dR;have HB:=dO;clear dS dR dO;(try clear hb);(try clear hb2);(try clear hk);(try clear hi))|(go_at_call 48;(with_reducible refine (dh.calls t170 t177 t178 _ A41.out).mono ?_);rintro e w' ⟨rfl,⟨nd,rfl⟩⟩))
          go_ret
          exact ⟨by first|rfl|(simp [aQ,aN] <;> rfl)|(simp [*,aQ,aN] <;> rfl),by repeat (first|(with_reducible first|exact HB.out|apply ah|apply af|apply ai|refine aj ?_ lK.out|refine aj ?_ l9.out)|exact HB.out)⟩
         ·
          rw [if_neg Zr] at H
          have ab6:decide (0≤t171)=false:=decide_eq_false Zr
          clear Zr
          obtain rfl:=Option.some.inj H
          go_wp2
          go_ret
          exact ⟨by first|rfl|(simp [aQ,aN] <;> rfl)|(simp [*,aQ,aN] <;> rfl),by repeat (first|(with_reducible first|exact HB.out|apply ah|apply af|apply ai|refine aj ?_ lK.out|refine aj ?_ l9.out)|exact HB.out)⟩
        ·
         rw [if_neg J3] at H
         have Ac:(bT == 10)=false:=beq_eq_false_iff_ne.mpr J3
         have ab7:(bT != 10)=true:=bne_iff_ne.mpr J3
         by_cases c46:bT=11
         ·
          rw [if_pos c46] at H
          have ab5:(bT == 11)=true:=beq_iff_eq.mpr c46
          have ab4:(bT != 11)=false:=bne_eq_false_iff_eq.mpr c46
          clear c46
          by_cases Zq:t170 ≥ 0
          ·
           rw [if_pos Zq] at H
           have ab3:decide (0≤t170)=true:=decide_eq_true Zq
           clear Zq
           replace H:=Option.bind_eq_some_iff.mp H
           obtain ⟨t179,adm,H⟩:=H
           replace H:((dh.f t171 t179).bind fun t180=>(some t180))=some r:=H
           have A48:=ae.mk adm
           clear adm
           replace H:=Option.bind_eq_some_iff.mp H
           obtain ⟨t180,adl,H⟩:=H
           replace H:(some t180)=some r:=H
           have A49:=ae.mk adl
           clear adl
           obtain rfl:=Option.some.inj H
           have alF:=nY.out
           have alb:=nX.out
           obtain ⟨Us,Ur,Uo,Un,RP,RN,RJ,RI⟩:=qM iE.out
           obtain ⟨Um,Ul,Uk,Uj,ah8,RH,RG,RF,RD,afS⟩:=jO iD.out
           go_wp2_with (first|(go_at_call 50;(with_reducible refine (gm.calls uI _ _ aY aT aU _ _ aI t170 gX t179 _ ?bW ?df ?iM ?iL A48.out).mono ?_);(case bW=>repeat (first|exact (Kd.bJ iq.out HB.out)|(with_reducible refine Kd.bM ?_ _)|(with_reducible refine Kd.bK ?_ _)|(with_reducible refine Kd.dB ?_)));(case df=>exact iC.out);(case iM=>repeat (first|exact (Kd.bJ jB.out HB.out)|(with_reducible refine Kd.bM ?_ _)|(with_reducible refine Kd.bK ?_ _)|(with_reducible refine Kd.dB ?_)));(case iL=>exact jS.out);rintro e Zk ⟨rfl,hb⟩;have dS:=ae.mk (bf (g:=oM) (o:=.cells #[.slice dX aY.length dW,.string aT,.string aU,.slice fQ aI.length eH] 25 (0,0)) (by (with_reducible repeat (first|refine au ?_ _|refine ay ?_|refine ak ?_ _));exact iE.out) hb);have dR:=ae.mk (bf (g:=pG) (o:=.cells #[.int .u8 bT,.int .u8 gp,.int .u8 gJ,.int .u8 ik,.int .i64 gX] 55 (0,0)) (by (with_reducible repeat (first|refine au ?_ _|refine ay ?_|refine ak ?_ _));exact iD.out) hb);have dO:=ae.mk (bg (by repeat (first|(with_reducible first|exact HB.out|apply ah|apply af|apply ai|refine aj ?_ lK.out|refine aj ?_ l9.out)|exact HB.out)) hb);clear iE;clear iD;clear HB;have iE:=dS;have iD:=dR;have HB:=dO;clear dS dR dO;(try clear hb);(try clear hb2);(try clear hk);(try clear hi))|(go_at_call 48;(with_reducible refine (dh.calls t171 t179 t180 _ A49.out).mono ?_);rintro e w' ⟨rfl,⟨nd,rfl⟩⟩))
           go_ret
           exact ⟨by first|rfl|(simp [aQ,aN] <;> rfl)|(simp [*,aQ,aN] <;> rfl),by repeat (first|(with_reducible first|exact HB.out|apply ah|apply af|apply ai|refine aj ?_ lK.out|refine aj ?_ l9.out)|exact HB.out)⟩
          ·
           rw [if_neg Zq] at H
           have ab3:decide (0≤t170)=false:=decide_eq_false Zq
           clear Zq
           obtain rfl:=Option.some.inj H
           go_wp2
           go_ret
           exact ⟨by first|rfl|(simp [aQ,aN] <;> rfl)|(simp [*,aQ,aN] <;> rfl),by repeat (first|(with_reducible first|exact HB.out|apply ah|apply af|apply ai|refine aj ?_ lK.out|refine aj ?_ l9.out)|exact HB.out)⟩
         ·
          rw [if_neg c46] at H
          have ab5:(bT == 11)=false:=beq_eq_false_iff_ne.mpr c46
          have ab4:(bT != 11)=true:=bne_iff_ne.mpr c46
          by_cases YP:bT=12
          ·
           rw [if_pos YP] at H
           have abZ:(bT == 12)=true:=beq_iff_eq.mpr YP
           have abY:(bT != 12)=false:=bne_eq_false_iff_eq.mpr YP
           clear YP
           replace H:=Option.bind_eq_some_iff.mp H
           obtain ⟨t181,adh,H⟩:=H
           replace H:((dh.f t170 t181).bind fun t182=>(some t182))=some r:=H
           have A55:=ae.mk adh
           clear adh
           replace H:=Option.bind_eq_some_iff.mp H
           obtain ⟨t182,adg,H⟩:=H
           replace H:(some t182)=some r:=H
           have A56:=ae.mk adg
           clear adg
           obtain rfl:=Option.some.inj H
           have aam:=nY.out
           have aac:=nX.out
           obtain ⟨Ud,Uc,Ub,Ua,Rt,Rq,Ro,Rn⟩:=qM iE.out
           obtain ⟨Jm,Jl,Jk,Jj,Ji,IA,Iz,Iy,Iw,Iu⟩:=jO iD.out
           go_wp2_with (first|((with_reducible refine bu (f:=20) rfl ?_);refine dQ (some 89) rfl rfl Tryd.func20 (by kernel_rfl) rfl #[.agg #[.slice dX aY.length dW,.string aT,.string aU,.slice fQ aI.length eH],.int .u8 gJ] rfl (by (try simp only [List.map_toArray,List.map_cons,List.map_nil]);first|done|rfl|(simp only [List.length_drop,List.length_take];rfl)) ?_;(with_reducible refine (fJ.calls uI _ _ aY aT aU _ _ aI gJ t181 _ ?bW ?df ?iM ?iL A55.out).mono ?_);(case bW=>repeat (first|exact (Kd.bJ iq.out HB.out)|(with_reducible refine Kd.bM ?_ _)|(with_reducible refine Kd.bK ?_ _)|(with_reducible refine Kd.dB ?_)));(case df=>exact iC.out);(case iM=>repeat (first|exact (Kd.bJ jB.out HB.out)|(with_reducible refine Kd.bM ?_ _)|(with_reducible refine Kd.bK ?_ _)|(with_reducible refine Kd.dB ?_)));(case iL=>exact jS.out);rintro e w60 ⟨rfl,hb⟩;refine ⟨_,rfl,?_⟩;have dS:=ae.mk (bf (g:=oM) (o:=.cells #[.slice dX aY.length dW,.string aT,.string aU,.slice fQ aI.length eH] 25 (0,0)) (by (with_reducible repeat (first|refine au ?_ _|refine ay ?_|refine ak ?_ _));exact iE.out) hb);have dR:=ae.mk (bf (g:=pG) (o:=.cells #[.int .u8 bT,.int .u8 gp,.int .u8 gJ,.int .u8 ik,.int .i64 gX] 55 (0,0)) (by (with_reducible repeat (first|refine au ?_ _|refine ay ?_|refine ak ?_ _));exact iD.out) hb);have dO:=ae.mk (bg (by repeat (first|(with_reducible first|exact HB.out|apply ah|apply af|apply ai|refine aj ?_ lK.out|refine aj ?_ l9.out)|exact HB.out)) hb);clear iE;clear iD;clear HB;have iE:=dS;have iD:=dR;have HB:=dO;clear dS dR dO;(try clear hb);(try clear hb2);(try clear hk);(try clear hi))|((with_reducible refine bu (f:=48) rfl ?_);refine dQ (some 90) rfl rfl Tryd.func48 (by kernel_rfl) rfl #[.int .i64 t170,.int .i64 t181] rfl (by (try simp only [List.map_toArray,List.map_cons,List.map_nil]);first|done|rfl|(simp only [List.length_drop,List.length_take];rfl)) ?_;(with_reducible refine (dh.calls t170 t181 t182 _ A56.out).mono ?_);rintro e w' ⟨rfl,⟨nd,rfl⟩⟩;refine ⟨_,rfl,?_⟩))
           go_ret
           exact ⟨by first|rfl|(simp [aQ,aN] <;> rfl)|(simp [*,aQ,aN] <;> rfl),by repeat (first|(with_reducible first|exact HB.out|apply ah|apply af|apply ai|refine aj ?_ lK.out|refine aj ?_ l9.out)|exact HB.out)⟩
          ·
           rw [if_neg YP] at H
           have abZ:(bT == 12)=false:=beq_eq_false_iff_ne.mpr YP
           have abY:(bT != 12)=true:=bne_iff_ne.mpr YP
           by_cases YO:bT=13
           ·
            rw [if_pos YO] at H
            have abX:(bT == 13)=true:=beq_iff_eq.mpr YO
            have abW:(bT != 13)=false:=bne_eq_false_iff_eq.mpr YO
            clear YO
            replace H:=Option.bind_eq_some_iff.mp H
            obtain ⟨t183,adf,H⟩:=H
            replace H:((dh.f t171 t183).bind fun t184=>(some t184))=some r:=H
            have A62:=ae.mk adf
            clear adf
            replace H:=Option.bind_eq_some_iff.mp H
            obtain ⟨t184,ade,H⟩:=H
            replace H:(some t184)=some r:=H
            have A63:=ae.mk ade
            clear ade
            obtain rfl:=Option.some.inj H
            have aal:=nY.out
            have aab:=nX.out
            obtain ⟨TN,TM,TL,TK,Q4,QZ,QY,QX⟩:=qM iE.out
            obtain ⟨ahI,ahH,ahG,ahF,ahE,afs,afr,afq,afp,afo⟩:=jO iD.out
            go_wp2_with (first|((with_reducible refine bu (f:=20) rfl ?_);refine dQ (some 97) rfl rfl Tryd.func20 (by kernel_rfl) rfl #[.agg #[.slice dX aY.length dW,.string aT,.string aU,.slice fQ aI.length eH],.int .u8 gp] rfl (by (try simp only [List.map_toArray,List.map_cons,List.map_nil]);first|done|rfl|(simp only [List.length_drop,List.length_take];rfl)) ?_;(with_reducible refine (fJ.calls uI _ _ aY aT aU _ _ aI gp t183 _ ?bW ?df ?iM ?iL A62.out).mono ?_);(case bW=>repeat (first|exact (Kd.bJ iq.out HB.out)|(with_reducible refine Kd.bM ?_ _)|(with_reducible refine Kd.bK ?_ _)|(with_reducible refine Kd.dB ?_)));(case df=>exact iC.out);(case iM=>repeat (first|exact (Kd.bJ jB.out HB.out)|(with_reducible refine Kd.bM ?_ _)|(with_reducible refine Kd.bK ?_ _)|(with_reducible refine Kd.dB ?_)));(case iL=>exact jS.out);rintro e w67 ⟨rfl,hb⟩;refine ⟨_,rfl,?_⟩;have dS:=ae.mk (bf (g:=oM) (o:=.cells #[.slice dX aY.length dW,.string aT,.string aU,.slice fQ aI.length eH] 25 (0,0)) (by (with_reducible repeat (first|refine au ?_ _|refine ay ?_|refine ak ?_ _));exact iE.out) hb);have dR:=ae.mk (bf (g:=pG) (o:=.cells #[.int .u8 bT,.int .u8 gp,.int .u8 gJ,.int .u8 ik,.int .i64 gX] 55 (0,0)) (by (with_reducible repeat (first|refine au ?_ _|refine ay ?_|refine ak ?_ _));exact iD.out) hb);have dO:=ae.mk (bg (by repeat (first|(with_reducible first|exact HB.out|apply ah|apply af|apply ai|refine aj ?_ lK.out|refine aj ?_ l9.out)|exact HB.out)) hb);clear iE;clear iD;clear HB;have iE:=dS;have iD:=dR;have HB:=dO;clear dS dR dO;(try clear hb);(try clear hb2);(try clear hk);(try clear hi))|((with_reducible refine bu (f:=48) rfl ?_);refine dQ (some 98) rfl rfl Tryd.func48 (by kernel_rfl) rfl #[.int .i64 t171,.int .i64 t183] rfl (by (try simp only [List.map_toArray,List.map_cons,List.map_nil]);first|done|rfl|(simp only [List.length_drop,List.length_take];rfl)) ?_;(with_reducible refine (dh.calls t171 t183 t184 _ A63.out).mono ?_);rintro e w' ⟨rfl,⟨nd,rfl⟩⟩;refine ⟨_,rfl,?_⟩))
            go_ret
            exact ⟨by first|rfl|(simp [aQ,aN] <;> rfl)|(simp [*,aQ,aN] <;> rfl),by repeat (first|(with_reducible first|exact HB.out|apply ah|apply af|apply ai|refine aj ?_ lK.out|refine aj ?_ l9.out)|exact HB.out)⟩
           ·
            rw [if_neg YO] at H
            have abX:(bT == 13)=false:=beq_eq_false_iff_ne.mpr YO
            have abW:(bT != 13)=true:=bne_iff_ne.mpr YO
            obtain rfl:=Option.some.inj H
            go_wp2
            go_ret
            exact ⟨by first|rfl|(simp [aQ,aN] <;> rfl)|(simp [*,aQ,aN] <;> rfl),by repeat (first|(with_reducible first|exact HB.out|apply ah|apply af|apply ai|refine aj ?_ lK.out|refine aj ?_ l9.out)|exact HB.out)⟩
end Go.Proofs.YtlemecdddhdagaaDoor.P
end
section
namespace Go.Proofs.YtlemecdddhdagaaDoor.P
open Go.RowKit Go.Proofs.ag.bH Go.Proofs.ag.dM Go.Proofs.ag.dY
def Tot {α:Type} (P:α→Prop) (g:Nat→Option α):Prop:=∃ r,Ev g r∧P r
abbrev VS {α:Type}:α→Prop:=fun _=>True
theorem Tot.now {α:Type} {P:α→Prop} {r:α} (h:P r):Tot P (fun _=>some r):=⟨r,Ev.now r,h⟩
theorem Tot.bind {α β:Type} {P:α→Prop} {Q:β→Prop} {g:Nat→Option α} {f:Nat→α→Option β} (h:Tot P g) (k:∀ a,P a→Tot Q (fun n=>f n a)):Tot Q (fun n=>(g n).bind (f n)):=by
  obtain ⟨a,ha,hp⟩:=h
  obtain ⟨b,hb,hq⟩:=k a hp
  exact ⟨b,Ev.bind ha hb,hq⟩
theorem Tot.ite {α:Type} {P:α→Prop} {p:Prop} [Decidable p] {f g:Nat→Option α} (h1:p→Tot P f) (h2:¬p→Tot P g):Tot P (fun k=>if p then f k else g k):=by
  by_cases h:p
  · obtain ⟨r,hr,hp⟩:=h1 h
    exact ⟨r,Ev.congr (fun k=>if_pos h) hr,hp⟩
  · obtain ⟨r,hr,hp⟩:=h2 h
    exact ⟨r,Ev.congr (fun k=>if_neg h) hr,hp⟩
theorem Tot.step {α:Type} {P:α→Prop} {g f:Nat→Option α} (h:∀ k,g (k+1)=f k) (k:Tot P f):Tot P g:=by
  obtain ⟨r,hr,hp⟩:=k
  exact ⟨r,Ev.step h hr,hp⟩
theorem Tot.yes {α:Type} {P:α→Prop} {p:Prop} [Decidable p] {f g:Nat→Option α} (h:p) (k:Tot P f):Tot P (fun k=>if p then f k else g k):=Tot.ite (fun _=>k) (fun h'=>absurd h h')
theorem Tot.of {α:Type} {P:α→Prop} {g:Nat→Option α} {r:α} (h:∀ k,g k=some r) (hp:P r):Tot P g:=⟨r,Ev.congr h (Ev.now r),hp⟩
abbrev Mx:Nat:=9223372036854775807
theorem LW (a b:Int):∃ x,dZ.f a b=some x:=by
  unfold dZ.f
  split
  · exact ⟨_,rfl⟩
  · split <;> exact ⟨_,rfl⟩
theorem FO (t:List ByteArray) (ht:t.length≤Mx) (hs:∀ i:Int,(dV ByteArray.empty t i).size≤Mx):Tot VS (fun k=>aK.f k t):=by
  have l1:∀ (i:Nat) (s:ByteArray),s.size≤Mx→Tot VS (fun k=>aK.l0 k t (wrap64 ((i:Int)+1)))→∀ d j,j+d=s.size→Tot VS (fun k=>aK.l1 k t (i:Nat) s (j:Nat)):=by
    intro i s hsz hn d
    induction d with
    | zero =>
      intro j hj
      refine Tot.step (fun k=>by simp only [aK.l1];rfl) ?_
      exact Tot.ite (fun h=>by omega) fun _=>Tot.ite (fun _=>Tot.now trivial) fun _=>Tot.ite (fun _=>Tot.now trivial) fun _=>hn
    | succ d ih =>
      intro j hj
      refine Tot.step (fun k=>by simp only [aK.l1];rfl) ?_
      have nx:=ih (j+1) (by omega)
      rw [← wrapN (i:=j) (n:=s.size) (by omega) hsz] at nx
      refine Tot.yes (by omega) (Tot.yes (by omega) (Tot.ite (fun _=>nx) fun _=>?_))
      obtain ⟨x,hx⟩:=LW (bt s j) t.length
      rw [hx]
      exact Tot.ite (fun _=>Tot.now trivial) fun _=>nx
  have l0:∀ d i,i+d=t.length→Tot VS (fun k=>aK.l0 k t (i:Nat)):=by
    intro d
    induction d with
    | zero =>
      intro i hi
      refine Tot.step (fun k=>by simp only [aK.l0];rfl) ?_
      exact Tot.ite (fun h=>by omega) fun _=>Tot.ite (fun _=>Tot.now trivial) fun _=>Tot.now trivial
    | succ d ih =>
      intro i hi
      refine Tot.step (fun k=>by simp only [aK.l0];rfl) ?_
      have nx:=ih (i+1) (by omega)
      rw [← wrapN (i:=i) (n:=t.length) (by omega) ht] at nx
      exact Tot.yes (by omega) (Tot.yes (by omega) (l1 i _ (hs _) nx _ 0 (Nat.zero_add _)))
  exact l0 t.length 0 (by omega)
theorem rE (s:ByteArray) (i n:Int):dZ.f (bt s i) n=some (kS (bt s i) n):=by
  have h:=um s i
  unfold dZ.f kS
  by_cases h1:bt s i < 48
  · rw [if_pos h1,if_neg (by omega)]
  · rw [if_neg h1,show (bt s i - 48) % 256=bt s i - 48 from by omega]
    by_cases h2:bt s i - 48 < n
    · rw [if_neg (show ¬ bt s i - 48 ≥ n from by omega),if_pos (show 48≤bt s i from by omega),if_pos h2]
    · rw [if_pos (show bt s i - 48 ≥ n from by omega),if_pos (show 48≤bt s i from by omega),if_neg h2]
theorem zu (t:List ByteArray) (ht:t.length≤9223372036854775807) (hs:∀ i:Int,(dV ByteArray.empty t i).size≤9223372036854775807):Ev (fun k=>aK.f k t) (jK t):=by
  have l1:∀ (i:Nat) (s:ByteArray) (r:Bool),s.size≤9223372036854775807→Ev (fun k=>aK.l0 k t (wrap64 ((i:Int)+1))) r →
      Ev (fun k=>aK.l1 k t (i:Nat) s 0) (okB s t.length && (if (s.size:Int) < 1 then false else if (s.size:Int) > 6 then false else r)):=by
    intro i s r hsz hr
    have:=lh (g:=fun k j=>aK.l1 k t (i:Nat) s (j:Nat)) (fun j=>if (bt s j == 105 || decide (0≤kS (bt s j) t.length)) then none else some false) s.size (if (s.size:Int) < 1 then false else if (s.size:Int) > 6 then false else r)
      (fun j hj hb q hq=>?_) (fun j hj b hb=>?_) (fun _=>?_) s.size 0 (by omega) (fun j hj=>by omega)
    · rw [qH s.size (fun j=>bt s j == 105 || decide (0≤kS (bt s j) t.length))] at this
      exact this
    · refine Ev.step (fun k=>?_) hq
      simp only [aK.l1]
      rw [if_pos (by omega),if_pos (by omega),wrapN (i:=j) (n:=s.size) hj hsz]
      by_cases h:bt s j=105
      · rw [if_pos h]
      · rw [if_neg h,rE]
        simp only [Option.bind_some]
        have h2:0≤kS (bt s j) t.length:=by
          have:=hb
          simp [h] at this
          exact this
        rw [if_neg (by omega)]
    · have hb':¬ bt s j=105∧¬ 0≤kS (bt s j) t.length∧b=false:=by
        by_cases h:bt s j=105
        · simp [h] at hb
        · by_cases h2:0≤kS (bt s j) t.length
          · simp [h2] at hb
          · simp [h,h2] at hb
            exact ⟨h,h2,hb⟩
      obtain ⟨h1,h2,rfl⟩:=hb'
      refine Ev.step (f:=fun _=>some false) (fun k=>?_) (Ev.now false)
      simp only [aK.l1]
      rw [if_pos (by omega),if_pos (by omega),if_neg h1,rE]
      simp only [Option.bind_some]
      rw [if_pos (by omega)]
    · refine Ev.step (fun k=>by simp only [aK.l1];rfl) ?_
      refine Ev.congr (fun k=>if_neg (by omega)) ?_
      exact Ev.ite (fun _=>Ev.now _) fun _=>Ev.ite (fun _=>Ev.now _) fun _=>hr
  have:=lh (g:=fun k i=>aK.l0 k t (i:Nat)) (fun i=>if sW (dV ByteArray.empty t i) t.length then none else some false) t.length (decide (1≤t.length) && decide (t.length≤8))
    (fun i hi hb q hq=>?_) (fun i hi b hb=>?_) (fun _=>?_) t.length 0 (by omega) (fun j hj=>by omega)
  · rw [qH t.length (fun i=>sW (dV ByteArray.empty t i) t.length)] at this
    exact this
  · have ho:sW (dV ByteArray.empty t i) t.length=true:=by
      cases h:sW (dV ByteArray.empty t i) t.length <;> simp [h] at hb ⊢
    unfold sW at ho
    simp only [Bool.and_eq_true,decide_eq_true_eq] at ho
    obtain ⟨⟨h1,h2⟩,h3⟩:=ho
    refine Ev.step (f:=fun k=>aK.l1 k t (i:Nat) (dV ByteArray.empty t i) 0) (fun k=>?_) ?_
    · simp only [aK.l0]
      rw [if_pos (by omega),if_pos (by omega)]
    · have:=l1 i (dV ByteArray.empty t i) q (hs _) (by rw [wrapN hi ht];exact hq)
      rw [h3,Bool.true_and,if_neg (by omega),if_neg (by omega)] at this
      exact this
  · have ho:sW (dV ByteArray.empty t i) t.length=false∧b=false:=by
      cases h:sW (dV ByteArray.empty t i) t.length <;> simp [h] at hb
      exact ⟨rfl,hb⟩
    obtain ⟨ho,rfl⟩:=ho
    refine Ev.step (f:=fun k=>aK.l1 k t (i:Nat) (dV ByteArray.empty t i) 0) (fun k=>?_) ?_
    · simp only [aK.l0]
      rw [if_pos (by omega),if_pos (by omega)]
    ·
      have tot:=FO t ht hs
      have nx:∃ r,Ev (fun k=>aK.l0 k t (wrap64 ((i:Int)+1))) r:=by
        rw [wrapN hi ht]
        have l0:∀ d j,j+d=t.length→∃ r,Ev (fun k=>aK.l0 k t (j:Nat)) r:=by
          intro d
          induction d with
          | zero =>
            intro j hj
            refine ⟨(decide (1≤t.length) && decide (t.length≤8)),Ev.step (f:=fun _=>some _) (fun k=>?_) (Ev.now _)⟩
            simp only [aK.l0]
            rw [if_neg (by omega)]
            by_cases h:1≤t.length
            · rw [if_pos (by omega),decide_eq_true h,Bool.true_and]
              congr 1
              exact decide_eq_decide.2 (by omega)
            · rw [if_neg (by omega),decide_eq_false h,Bool.false_and]
          | succ d ih =>
            intro j hj
            obtain ⟨r,hr⟩:=ih (j+1) (by omega)
            have:=l1 j (dV ByteArray.empty t j) r (hs _) (by rw [wrapN (i:=j) (n:=t.length) (by omega) ht];exact hr)
            refine ⟨_,Ev.step (fun k=>?_) this⟩
            simp only [aK.l0]
            rw [if_pos (by omega),if_pos (by omega)]
        exact l0 (t.length - (i+1)) (i+1) (by omega)
      obtain ⟨r,hr⟩:=nx
      have:=l1 i (dV ByteArray.empty t i) r (hs _) hr
      refine Ev.out this ?_
      unfold sW at ho
      by_cases h1:((dV ByteArray.empty t i).size:Int) < 1
      · rw [if_pos h1,Bool.and_false]
      · by_cases h2:((dV ByteArray.empty t i).size:Int) > 6
        · rw [if_neg h1,if_pos h2,Bool.and_false]
        · rw [decide_eq_true (by omega),decide_eq_true (by omega)] at ho
          simp at ho
          rw [ho,Bool.false_and]
  · refine Ev.step (f:=fun _=>some (decide (1≤t.length) && decide (t.length≤8))) (fun k=>?_) (Ev.now _)
    simp only [aK.l0]
    rw [if_neg (by omega)]
    by_cases h:1≤t.length
    · rw [if_pos (by omega),decide_eq_true h,Bool.true_and]
      congr 1
      exact decide_eq_decide.2 (by omega)
    · rw [if_neg (by omega),decide_eq_false h,Bool.false_and]
theorem Cm (t:List ByteArray) (s:ByteArray) (ht:t.length≤9223372036854775807) (hts:∀ i:Int,(dV ByteArray.empty t i).size≤9223372036854775807) (hs:s.size≤9223372036854775807):Ev (fun k=>aW.f k t s) (qJ t s):=by
  have:=lh (g:=fun k i=>aW.l0 k t s (i:Nat)) (fun i=>if decide (0≤kS (bt s i) t.length) then none else some false) s.size (jK t)
    (fun i hi hb q hq=>?_) (fun i hi b hb=>?_) (fun _=>?_) s.size 0 (by omega) (fun j hj=>by omega)
  · rw [qH s.size (fun i=>decide (0≤kS (bt s i) t.length))] at this
    exact this
  · have h2:0≤kS (bt s i) t.length:=by
      by_cases h:0≤kS (bt s i) t.length
      · exact h
      · simp [h] at hb
    refine Ev.step (fun k=>?_) hq
    simp only [aW.l0]
    rw [if_pos (by omega),if_pos (by omega),wrapN hi hs,rE]
    simp only [Option.bind_some]
    rw [if_neg (by omega)]
  · have h2:¬ 0≤kS (bt s i) t.length∧b=false:=by
      by_cases h:0≤kS (bt s i) t.length
      · simp [h] at hb
      · simp [h] at hb
        exact ⟨h,hb⟩
    obtain ⟨h2,rfl⟩:=h2
    refine Ev.step (f:=fun _=>some false) (fun k=>?_) (Ev.now false)
    simp only [aW.l0]
    rw [if_pos (by omega),if_pos (by omega),rE]
    simp only [Option.bind_some]
    rw [if_pos (by omega)]
  · refine Ev.step (f:=fun k=>(aK.f k t).bind fun z=>some z) (fun k=>?_) (Ev.bind (zu t ht hts) (Ev.now _))
    simp only [aW.l0]
    rw [if_neg (by omega)]
section
variable (t:List ByteArray) (ht:t.length≤9223372036854775807) (hs:∀ i:Int,(dV ByteArray.empty t i).size≤9223372036854775807)
include ht hs
theorem WS (s:ByteArray) (a:Int) (h0:0≤a) (h1:a≤255):Ev (fun k=>fH.f k t s a) (dw t s a):=by
  have e1:wrap64 a=a:=by unfold wrap64;omega
  have e2:wrap64 (a+1)=a+1:=by unfold wrap64;omega
  by_cases h:a < s.size
  · obtain ⟨n,rfl⟩:=Int.eq_ofNat_of_zero_le h0
    have hn:n < s.size:=by omega
    have hr:=Cm t (s.extract n (n+1)) ht hs (by rw [nK s n hn];omega)
    have er:qJ t (s.extract n (n+1))=(decide (0≤kS (bt s (n:Int)) t.length) && jK t):=by
      unfold qJ
      rw [nK s n hn]
      congr 1
      show (List.range 1).all _=_
      simp only [List.range_one,List.all_cons,List.all_nil,Bool.and_true]
      rw [show ((0:Nat):Int)=0 from rfl,xY s n hn]
    rw [er] at hr
    refine Ev.congr (f:=fun k=>(aW.f k t (s.extract n (n+1))).bind fun z=>if z=true then some ((bt s n - 48) % 256) else some (-1)) (fun k=>?_) (Ev.bind hr ?_)
    · unfold fH.f
      rw [e1,e2,if_neg (by omega),if_pos (by omega),if_pos (by omega),if_pos (by omega)]
      rw [show ((n:Int)+1).toNat=n+1 from by omega,Int.toNat_natCast]
      congr 1
      funext z
      by_cases hb:z=true
      · rw [if_pos hb,if_pos hb,if_pos (by omega),if_pos (by omega)]
      · rw [if_neg hb,if_neg hb]
    · unfold dw
      rw [if_pos h]
      cases hb:(decide (0≤kS (bt s (n:Int)) t.length) && jK t)
      · rw [if_neg (by decide),if_neg (by decide)]
        exact Ev.now _
      · rw [if_pos rfl,if_pos rfl]
        have:=ER.1 (of_decide_eq_true (Bool.and_eq_true _ _ ▸ hb).1)
        have hr:=um s n
        rw [show (bt s (n:Int) - 48) % 256=bt s n - 48 from by omega]
        exact Ev.now _
  · refine Ev.congr (f:=fun _=>some (-1)) (fun k=>?_) (by unfold dw;rw [if_neg h];exact Ev.now _)
    unfold fH.f
    rw [e1,if_pos (by omega)]
theorem zH (lo gl:ByteArray) (code:List gY) (a:Int) (h0:0≤a) (h1:a≤255):Ev (fun k=>dP.f k t lo gl code a) (dw t lo a):=Ev.bind (WS t ht hs lo a h0 h1) (Ev.now _)
theorem Qv (i:Int):Ev (fun k=>gy.f k t i) (jm t i):=by
  have is:Ev (fun k=>ed.f k t i) (jK t && (decide (0≤i) && decide (i < t.length))):=by
    refine Ev.bind (zu t ht hs) ?_
    refine Ev.out (Ev.ite (fun _=>Ev.ite (fun _=>Ev.now (decide (i < (t.length:Int)))) fun _=>Ev.now false) fun _=>Ev.now false) ?_
    cases jK t
    · rfl
    · rw [if_pos rfl,Bool.true_and]
      by_cases h:i ≥ 0
      · rw [if_pos h,decide_eq_true (show 0≤i from h),Bool.true_and]
      · rw [if_neg h,decide_eq_false (show ¬ 0≤i from h),Bool.false_and]
  refine Ev.bind is ?_
  unfold jm MF
  by_cases h:(jK t && (decide (0≤i) && decide (i < t.length)))=true
  · have h':=h
    simp only [Bool.and_eq_true,decide_eq_true_eq] at h'
    rw [if_pos h,if_pos h]
    exact Ev.congr (fun k=>(if_pos h'.2.1).trans (if_pos h'.2.2)) (Ev.now _)
  · rw [if_neg h,if_neg h]
    exact Ev.now _
end
end Go.Proofs.YtlemecdddhdagaaDoor.P
end
section
namespace Go.Proofs.YtlemecdddhdagaaDoor.P
open Go.RowKit Go.Proofs.ag.bH Go.Proofs.ag.dM Go.Proofs.ag.dY
def pz (t:List ByteArray) (a n:Int):Bool:=if n < 0 then false else if n ≥ jm t a then false else decide (DU t a n < 0)
def DX (t:List ByteArray) (a n:Int):Int:=if n < 0 then -1 else if n > 6 then -1 else DU t a n
section
variable (t:List ByteArray) (ht:t.length≤9223372036854775807) (hs:∀ i:Int,(dV ByteArray.empty t i).size≤9223372036854775807)
include ht hs
theorem ZY (i:Int):Ev (fun k=>ed.f k t i) (jK t && (decide (0≤i) && decide (i < t.length))):=by
  refine Ev.bind (zu t ht hs) ?_
  refine Ev.out (Ev.ite (fun _=>Ev.ite (fun _=>Ev.now (decide (i < (t.length:Int)))) fun _=>Ev.now false) fun _=>Ev.now false) ?_
  cases jK t
  · rfl
  · rw [if_pos rfl,Bool.true_and]
    by_cases h:i ≥ 0
    · rw [if_pos h,decide_eq_true (show 0≤i from h),Bool.true_and]
    · rw [if_neg h,decide_eq_false (show ¬ 0≤i from h),Bool.false_and]
theorem VU (i f:Int):Ev (fun k=>fP.f k t i f) (DU t i f):=by
  refine Ev.bind (ZY t ht hs i) ?_
  unfold DU jm MF
  by_cases h:(jK t && (decide (0≤i) && decide (i < t.length)))=true
  · have h':=h
    simp only [Bool.and_eq_true,decide_eq_true_eq] at h'
    rw [if_pos h,if_pos h]
    by_cases h0:f < 0
    · rw [if_pos h0,if_neg (by omega)]
      exact Ev.now _
    · rw [if_neg h0]
      refine Ev.congr (fun k=>(if_pos h'.2.1).trans (if_pos h'.2.2)) ?_
      by_cases h1:f < (dV ByteArray.empty t i).size
      · rw [if_neg (by omega),if_pos (by omega),if_pos (by omega),if_pos (by omega)]
        refine Ev.congr (fun k=>by rw [rE];rfl) (Ev.now _)
      · rw [if_pos (by omega),if_neg (by omega)]
        exact Ev.now _
  · rw [if_neg h,if_neg h]
    rw [if_neg (fun h2=>by have h3:f < (0:Int):=h2.2;omega)]
    exact Ev.now _
theorem JU (lo gl:ByteArray) (code:List gY) (a:Int) (h0:0≤a) (h1:a≤255):Ev (fun k=>fJ.f k t lo gl code a) (dw t gl a):=Ev.bind (WS t ht hs gl a h0 h1) (Ev.now _)
theorem Bq (lo gl:ByteArray) (code:List gY) (a n:Int):Ev (fun k=>eU.f k t lo gl code a n) (pz t a n):=by
  unfold pz
  refine Ev.ite (fun _=>Ev.now _) fun _=>Ev.bind (Qv t ht hs a) ?_
  exact Ev.ite (fun _=>Ev.now _) fun _=>Ev.bind (VU t ht hs a n) (Ev.now _)
theorem VT (lo gl:ByteArray) (code:List gY) (a n:Int):Ev (fun k=>gm.f k t lo gl code a n) (DX t a n):=by
  unfold DX
  exact Ev.ite (fun _=>Ev.now _) fun _=>Ev.ite (fun _=>Ev.now _) fun _=>Ev.bind (VU t ht hs a n) (Ev.now _)
end
theorem xw (a b:Int):dh.f a b=some (oJ a b):=by
  unfold dh.f oJ
  by_cases h:0≤a
  · rw [if_pos h,decide_eq_true h,Bool.true_and]
  · rw [if_neg h,decide_eq_false h,Bool.false_and]
theorem D5 (t:List ByteArray) (i:Int):0≤jm t i∧jm t i≤6:=by
  by_cases h:(jK t && (decide (0≤i) && decide (i < t.length)))=true
  · simp only [Bool.and_eq_true,decide_eq_true_eq] at h
    obtain ⟨n,rfl⟩:=Int.eq_ofNat_of_zero_le h.2.1
    have:=zt h.1 n (by omega)
    omega
  · unfold jm MF
    rw [if_neg h]
    decide
theorem zF (t:List ByteArray) (a n:Int):(if a ≥ 0 then pz t a n else false)=o8 t a n:=by
  unfold pz o8 ng
  by_cases h:a ≥ 0
  · rw [if_pos h]
    by_cases h0:n < 0
    · rw [if_pos h0,if_neg (by omega)];rfl
    · by_cases h1:n < jm t a
      · rw [if_neg h0,if_neg (by omega),if_pos (by omega),Bool.true_and]
      · rw [if_neg h0,if_pos (by omega),if_neg (by omega)];rfl
  · rw [if_neg h,if_neg (by omega)];rfl
theorem MO (t:List ByteArray) (x a n:Int):(if a ≥ 0 then oJ x (DX t a n) else false)=oJ x (ng t a n).1:=by
  have z:oJ x (-1)=false:=by
    unfold oJ
    by_cases h:0≤x
    · have:(x == -1)=false:=by simp;omega
      rw [this,Bool.and_false]
    · rw [decide_eq_false h,Bool.false_and]
  unfold DX ng
  have:=D5 t a
  by_cases h:a ≥ 0
  · rw [if_pos h]
    by_cases h0:n < 0
    · rw [if_pos h0,if_neg (by omega)]
    · rw [if_neg h0]
      by_cases h1:n < jm t a
      · rw [if_neg (by omega),if_pos (by omega)]
      · rw [if_neg (show ¬ (0≤a∧0≤n∧n < jm t a) by omega)]
        by_cases h2:n > 6
        · rw [if_pos h2]
        · rw [if_neg h2]
          unfold DU
          rw [if_neg (by omega)]
  · rw [if_neg h,if_neg (by omega),z]
def vY (o a b c:Int) (x:Bool):Bool:=if x=true then decide (a < 8) else if o=2 then (if a < 8 then (if b < 8 then decide (c < 8) else false) else false) else if o=9 then decide (b < 8) else true
def CJ (o a b c:Int):Bool:=if o=1 then vY o a b c (o == 1) else if o=4 then vY o a b c (o == 4) else if o=8 then vY o a b c (o == 8) else if o=14 then vY o a b c (o == 14) else vY o a b c (o == 15)
theorem QP (o a b c n:Int):Ev (fun k=>bF.f k o a b c n) (CJ o a b c):=by
  have j:∀ x,Ev (fun k=>bF.j0 k o x o a b c n) (vY o a b c x):=fun x=>by
    unfold vY
    refine Ev.step (fun k=>by simp only [bF.j0];rfl) ?_
    exact Ev.ite (fun _=>Ev.now _) fun _=>Ev.ite (fun _=>Ev.ite (fun _=>Ev.ite (fun _=>Ev.now _) fun _=>Ev.now _) fun _=>Ev.now _) fun _=>Ev.ite (fun _=>Ev.now _) fun _=>Ev.now _
  unfold CJ
  exact Ev.ite (fun _=>j _) fun _=>Ev.ite (fun _=>j _) fun _=>Ev.ite (fun _=>j _) fun _=>Ev.ite (fun _=>j _) fun _=>j _
def yE (t:List ByteArray) (lo gl:ByteArray) (o a b c n:Int) (x:Bool):Bool :=
  if x=true then decide (dw t lo a ≥ 0)
  else if o=7 then oJ (dw t lo a) (dw t lo b)
  else if o=15 then oJ (dw t lo b) (dw t lo c)
  else if o=8 then (if dw t lo b ≥ 0 then pz t (dw t lo b) n else false)
  else if o=9 then (if dw t lo a ≥ 0 then pz t (dw t lo a) n else false)
  else if o=10 then (if dw t lo b ≥ 0 then oJ (dw t lo a) (DX t (dw t lo b) n) else false)
  else if o=11 then (if dw t lo a ≥ 0 then oJ (dw t lo b) (DX t (dw t lo a) n) else false)
  else if o=12 then oJ (dw t lo a) (dw t gl b)
  else if o=13 then oJ (dw t lo b) (dw t gl a)
  else true
def Io (t:List ByteArray) (lo gl:ByteArray) (o a b c n:Int):Bool:=if o=5 then yE t lo gl o a b c n (o == 5) else yE t lo gl o a b c n (o == 6)
theorem NJ (t:List ByteArray) (lo gl:ByteArray) (code:List gY) (o a b c n:Int) (ht:t.length≤9223372036854775807) (hs:∀ i:Int,(dV ByteArray.empty t i).size≤9223372036854775807)
    (ha:0≤a∧a≤255) (hb:0≤b∧b≤255) (hc:0≤c∧c≤255):Ev (fun k=>aX.f k t lo gl code o a b c n) (Io t lo gl o a b c n):=by
  have j:∀ x,Ev (fun k=>aX.j0 k (dw t lo a) (dw t lo b) o x t lo gl code o a b c n) (yE t lo gl o a b c n x):=fun x=>by
    unfold yE
    refine Ev.step (fun k=>by simp only [aX.j0];rfl) ?_
    refine Ev.ite (fun _=>Ev.now _) fun _=>?_
    refine Ev.ite (fun _=>Ev.congr (fun k=>by rw [xw];rfl) (Ev.now _)) fun _=>?_
    refine Ev.ite (fun _=>Ev.bind (zH t ht hs lo gl code _ hc.1 hc.2) (Ev.congr (fun k=>by rw [xw];rfl) (Ev.now _))) fun _=>?_
    refine Ev.ite (fun _=>Ev.ite (fun _=>Ev.bind (Bq t ht hs lo gl code _ _) (Ev.now _)) fun _=>Ev.now _) fun _=>?_
    refine Ev.ite (fun _=>Ev.ite (fun _=>Ev.bind (Bq t ht hs lo gl code _ _) (Ev.now _)) fun _=>Ev.now _) fun _=>?_
    refine Ev.ite (fun _=>Ev.ite (fun _=>Ev.bind (VT t ht hs lo gl code _ _) (Ev.congr (fun k=>by rw [xw];rfl) (Ev.now _))) fun _=>Ev.now _) fun _=>?_
    refine Ev.ite (fun _=>Ev.ite (fun _=>Ev.bind (VT t ht hs lo gl code _ _) (Ev.congr (fun k=>by rw [xw];rfl) (Ev.now _))) fun _=>Ev.now _) fun _=>?_
    refine Ev.ite (fun _=>Ev.bind (JU t ht hs lo gl code _ hb.1 hb.2) (Ev.congr (fun k=>by rw [xw];rfl) (Ev.now _))) fun _=>?_
    exact Ev.ite (fun _=>Ev.bind (JU t ht hs lo gl code _ ha.1 ha.2) (Ev.congr (fun k=>by rw [xw];rfl) (Ev.now _))) fun _=>Ev.now _
  refine Ev.bind (zH t ht hs lo gl code a ha.1 ha.2) (Ev.bind (zH t ht hs lo gl code b hb.1 hb.2) ?_)
  exact Ev.ite (fun _=>j _) fun _=>j _
theorem xy (a:Int):nV [a]=decide (a < 8):=by
  show (decide (a < 8) && true)=_
  rw [Bool.and_true]
theorem X5 (a b c:Int):nV [a,b,c]=(if a < 8 then (if b < 8 then decide (c < 8) else false) else false):=by
  show (decide (a < 8) && (decide (b < 8) && (decide (c < 8) && true)))=_
  by_cases h:a < 8 <;> by_cases h2:b < 8 <;> simp [h,h2]
theorem Ld (t:List ByteArray) (lo gl:ByteArray) (o a b c n:Int) (h:1≤o∧o≤15):(CJ o a b c && Io t lo gl o a b c n)=nJ t lo gl o a b c n:=by
  have hh:o=1 ∨ o=2 ∨ o=3 ∨ o=4 ∨ o=5 ∨ o=6 ∨ o=7 ∨ o=8 ∨ o=9 ∨ o=10 ∨ o=11 ∨ o=12 ∨ o=13 ∨ o=14 ∨ o=15:=by omega
  rcases hh with rfl|rfl|rfl|rfl|rfl|rfl|rfl|rfl|rfl|rfl|rfl|rfl|rfl|rfl|rfl
  · show (decide (a < 8) && true)=nV [a]
    rw [xy,Bool.and_true]
  · show ((if a < 8 then (if b < 8 then decide (c < 8) else false) else false) && true)=nV [a,b,c]
    rw [X5,Bool.and_true]
  · rfl
  · show (decide (a < 8) && true)=nV [a]
    rw [xy,Bool.and_true]
  · show (true && _)=_
    rw [Bool.true_and];rfl
  · show (true && _)=_
    rw [Bool.true_and];rfl
  · show (true && _)=_
    rw [Bool.true_and];rfl
  · show (decide (a < 8) && (if dw t lo b ≥ 0 then pz t (dw t lo b) n else false))=(if nV [a]=true then o8 t (dw t lo b) n else false)
    rw [xy,zF]
    cases decide (a < 8) <;> rfl
  · show (decide (b < 8) && (if dw t lo a ≥ 0 then pz t (dw t lo a) n else false))=(if nV [b]=true then o8 t (dw t lo a) n else false)
    rw [xy,zF]
    cases decide (b < 8) <;> rfl
  · show (true && (if dw t lo b ≥ 0 then oJ (dw t lo a) (DX t (dw t lo b) n) else false))=oJ (dw t lo a) (ng t (dw t lo b) n).1
    rw [MO,Bool.true_and]
  · show (true && (if dw t lo a ≥ 0 then oJ (dw t lo b) (DX t (dw t lo a) n) else false))=oJ (dw t lo b) (ng t (dw t lo a) n).1
    rw [MO,Bool.true_and]
  · show (true && _)=_
    rw [Bool.true_and];rfl
  · show (true && _)=_
    rw [Bool.true_and];rfl
  · show (decide (a < 8) && true)=nV [a]
    rw [xy,Bool.and_true]
  · show (decide (a < 8) && oJ (dw t lo b) (dw t lo c))=(if nV [a]=true then oJ (dw t lo b) (dw t lo c) else false)
    rw [xy]
    cases decide (a < 8) <;> rfl
end Go.Proofs.YtlemecdddhdagaaDoor.P
end
