/- Parts of the proof of ModelMakes: what the functions that it reaches compute, and plain facts about that. -/
import Derived.Test.YtlemecdddhdagaaDoorXab
import Derived.Test.YtlemecdddhdagaaDoorXad
import Derived.Test.YtlemecdddhdagaaDoorXae
set_option linter.unusedVariables false
set_option linter.unusedSimpArgs false
section
namespace Go.Proofs.YtlemecdddhdagaaDoor.P
open Go.RowKit Go.Proofs.ag.bH Go.Proofs.ag.dM Go.Proofs.ag.dY
attribute [local go_sem] kR kP lU lT jM jL kQ kN
mutual
def bP.j0:Nat→Int→Int→Int→Bool→List ByteArray→ByteArray→ByteArray→List (gY)→Int→Int→Int→Int→Int→Option (Bool)
 | 0,_,_,_,_,_,_,_,_,_,_,_,_,_=>none
 | k+1,x5,x6,x20,P7,o7,o6,o5,oZ,Cc,qP,uz,wu,su=>if P7=true then ((dD.f k (([qP]:List Int))).bind fun t129=>(some t129)) else (if x20=2 then ((dD.f k (([qP,uz,wu]:List Int))).bind fun t133=>(some t133)) else (if x20=5 then (bP.j1 k x5 x6 x20 (x20 == 5) o7 o6 o5 oZ Cc qP uz wu su) else (bP.j1 k x5 x6 x20 (x20 == 6) o7 o6 o5 oZ Cc qP uz wu su)))
def bP.j1:Nat→Int→Int→Int→Bool→List ByteArray→ByteArray→ByteArray→List (gY)→Int→Int→Int→Int→Int→Option (Bool)
 | 0,_,_,_,_,_,_,_,_,_,_,_,_,_=>none
 | k+1,x5,x6,x20,x39,o7,o6,o5,oZ,Cc,qP,uz,wu,su=>if x39=true then (some (decide (x5 ≥ 0))) else (if x20=7 then ((gU.f x5 x6).bind fun t134=>(some t134)) else (if x20=8 then ((dD.f k (([qP]:List Int))).bind fun t138=>(if t138=true then ((gG.f k o7 o6 o5 oZ x6 su).bind fun t139=>(some t139)) else (some false))) else (if x20=9 then ((dD.f k (([uz]:List Int))).bind fun t143=>(if t143=true then ((gG.f k o7 o6 o5 oZ x5 su).bind fun t144=>(some t144)) else (some false))) else (if x20=10 then ((gK.f k o7 o6 o5 oZ x6 su).bind fun Px=>((gU.f x5 Px.1).bind fun t147=>(some t147))) else (if x20=11 then ((gK.f k o7 o6 o5 oZ x5 su).bind fun Pv=>((gU.f x6 Pv.1).bind fun t150=>(some t150))) else (if x20=12 then ((jd.f k o7 o6 o5 oZ uz).bind fun t151=>((gU.f x5 t151).bind fun t152=>(some t152))) else (if x20=13 then ((jd.f k o7 o6 o5 oZ qP).bind fun t153=>((gU.f x6 t153).bind fun t154=>(some t154))) else (if x20=15 then ((dD.f k (([qP]:List Int))).bind fun t158=>(if t158=true then ((gq.f k o7 o6 o5 oZ wu).bind fun t159=>((gU.f x6 t159).bind fun t160=>(some t160))) else (some false))) else (some true)))))))))
end
def bP.f (k:Nat) (aY:List ByteArray) (aT:ByteArray) (aU:ByteArray) (aI:List (gY)) (bT:Int) (gp:Int) (gJ:Int) (ik:Int) (gX:Int):Option (Bool):=(gq.f k aY aT aU aI gp).bind fun t124=>((gq.f k aY aT aU aI gJ).bind fun t125=>(if bT=1 then (bP.j0 k t124 t125 bT (bT == 1) aY aT aU aI bT gp gJ ik gX) else (if bT=4 then (bP.j0 k t124 t125 bT (bT == 4) aY aT aU aI bT gp gJ ik gX) else (bP.j0 k t124 t125 bT (bT == 14) aY aT aU aI bT gp gJ ik gX))))
theorem bP.gZ:∀ k,(∀ y0 y1 y2 y3 y4 y5 y6 y7 y8 y9 zg FH FD,dK (bP.j0 k y0 y1 y2 y3 y4 y5 y6 y7 y8 y9 zg FH FD) (bP.j0 (k+1) y0 y1 y2 y3 y4 y5 y6 y7 y8 y9 zg FH FD))∧(∀ y0 y1 y2 y3 y4 y5 y6 y7 y8 y9 zg FH FD,dK (bP.j1 k y0 y1 y2 y3 y4 y5 y6 y7 y8 y9 zg FH FD) (bP.j1 (k+1) y0 y1 y2 y3 y4 y5 y6 y7 y8 y9 zg FH FD))
 | 0=>⟨fun _ _ _ _ _ _ _ _ _ _ _ _ _ r h=>by simp [bP.j0] at h,fun _ _ _ _ _ _ _ _ _ _ _ _ _ r h=>by simp [bP.j1] at h⟩
 | k+1=>by
  obtain ⟨lu,ih1⟩:=bP.gZ k
  refine ⟨?_,?_⟩
  ·
   intro y0 y1 y2 y3 y4 y5 y6 y7 y8 y9 zg FH FD
   unfold bP.j0
   repeat' with_reducible first|apply lu|apply ih1|apply jd.mono|apply gq.mono|apply gK.mono|apply dD.mono|apply gG.mono|exact dK.refl _|exact dK.none _|refine dK.ite ?_ ?_|refine dK.bind ?_ (fun _=>?_)
  ·
   intro y0 y1 y2 y3 y4 y5 y6 y7 y8 y9 zg FH FD
   unfold bP.j1
   repeat' with_reducible first|apply lu|apply ih1|apply jd.mono|apply gq.mono|apply gK.mono|apply dD.mono|apply gG.mono|exact dK.refl _|exact dK.none _|refine dK.ite ?_ ?_|refine dK.bind ?_ (fun _=>?_)
theorem bP.mono:∀ a0 a1 a2 a3 a4 a5 a6 a7 a8 k,dK (bP.f k a0 a1 a2 a3 a4 a5 a6 a7 a8) (bP.f (k+1) a0 a1 a2 a3 a4 a5 a6 a7 a8):=by
 intro a0 a1 a2 a3 a4 a5 a6 a7 a8 k
 obtain ⟨lu,ih1⟩:=bP.gZ k
 unfold bP.f
 repeat' with_reducible first|apply lu|apply ih1|apply jd.mono|apply gq.mono|apply gK.mono|apply dD.mono|apply gG.mono|exact dK.refl _|exact dK.none _|refine dK.ite ?_ ?_|refine dK.bind ?_ (fun _=>?_)
def bP.T1:Bool × List (List Nat × List Nat):=(true,[([],[]),([],[]),([1],[1]),([0,2],[0,2]),([],[]),([],[]),([5],[5]),([4,6,3],[4,6]),([3,7,0,1,2,3],[3]),([7,8,0,1,2,3,4,5,6,7,8],[7])])
def bP.B1:List Nat:=[0,0,2,7,0,0,32,127,255,511]
theorem bP.Xx:pV .any (opsOf Tryd.f34 1)=bP.T1:=by kernel_rfl
theorem bP.Pz:qQ bP.T1.2 bP.B1=true:=by kernel_rfl
set_option maxHeartbeats 8000000 in
set_option maxRecDepth 100000 in
theorem bP.calls (k:Nat) (dX:Option Addr) (dW:Nat) (aY:List ByteArray) (aT:ByteArray) (aU:ByteArray) (fQ:Option Addr) (eH:Nat) (aI:List (gY)) (bT:Int) (gp:Int) (gJ:Int) (ik:Int) (gX:Int) (r:Bool) (w:World) (jF:Kd.C Kd.string w dX aY.length aY) (jH:aY.length≤dW) (jE:Kd.C tu w fQ aI.length aI) (jG:aI.length≤eH) (h:bP.f k aY aT aU aI bT gp gJ ik gX=some r) :
  Calls Tryd.prog 34 #[.agg #[.slice dX aY.length dW,.string aT,.string aU,.slice fQ aI.length eH],.agg #[.int .u8 bT,.int .u8 gp,.int .u8 gJ,.int .u8 ik,.int .i64 gX]] w fun e w'=>e=.returned (.bool r)∧Below w.heap.size w w':=by
 have xA:=Tryd.underlying25
 have AL:=Tryd.underlying55
 have iq:=ae.mk jF
 have iC:=ae.mk jH
 clear jF jH
 have jB:=ae.mk jE
 have jS:=ae.mk jG
 clear jE jG
 have HB:=ae.mk (Below.refl w.heap.size w)
 have H:((gq.f k aY aT aU aI gp).bind fun t124=>((gq.f k aY aT aU aI gJ).bind fun t125=>(if bT=1 then (bP.j0 k t124 t125 bT (bT == 1) aY aT aU aI bT gp gJ ik gX) else (if bT=4 then (bP.j0 k t124 t125 bT (bT == 4) aY aT aU aI bT gp gJ ik gX) else (bP.j0 k t124 t125 bT (bT == 14) aY aT aU aI bT gp gJ ik gX)))))=some r:=h
 clear h
 replace H:=Option.bind_eq_some_iff.mp H
 obtain ⟨t124,xh,H⟩:=H
 replace H:((gq.f k aY aT aU aI gJ).bind fun t125=>(if bT=1 then (bP.j0 k t124 t125 bT (bT == 1) aY aT aU aI bT gp gJ ik gX) else (if bT=4 then (bP.j0 k t124 t125 bT (bT == 4) aY aT aU aI bT gp gJ ik gX) else (bP.j0 k t124 t125 bT (bT == 14) aY aT aU aI bT gp gJ ik gX))))=some r:=H
 have A3:=ae.mk xh
 clear xh
 replace H:=Option.bind_eq_some_iff.mp H
 obtain ⟨t125,Aw,H⟩:=H
 replace H:(if bT=1 then (bP.j0 k t124 t125 bT (bT == 1) aY aT aU aI bT gp gJ ik gX) else (if bT=4 then (bP.j0 k t124 t125 bT (bT == 4) aY aT aU aI bT gp gJ ik gX) else (bP.j0 k t124 t125 bT (bT == 14) aY aT aU aI bT gp gJ ik gX)))=some r:=H
 have A4:=ae.mk Aw
 clear Aw
 have GX:=ae.mk H
 clear H
 go_enter Tryd.func34,Tryd.ntmps34
 try go_wp2_with (first|((with_reducible refine dN (N:=2) rfl ?_);refine fB ?hg (N:=2) ?hd (cs:=#[.slice dX aY.length dW,.string aT,.string aU,.slice fQ aI.length eH]) (t:=25) ?hr ?_;(case hd=>rfl);(case hg=>rfl);(case hr=>first|(go_simp;done)|(go_simp;rfl));intro iI hg w6 hbox hb;have dS:=ae.mk (bg (by repeat (first|(with_reducible first|exact HB.out|apply ah|apply af|apply ai)|exact HB.out)) hb);have dR:=ae.mk (hbox);have dO:=ae.mk ((by rw [hg];exact (bQ (by repeat (first|(with_reducible first|exact HB.out|apply ah|apply af|apply ai)|exact HB.out))):w.heap.size≤iI));have gQ:=dO;clear HB;have HB:=dS;have dJ:=dR;have am4:=dO;have iP:=gQ;clear dS dR dO gQ;clear hb hbox hg)|((with_reducible refine dN (N:=3) rfl ?_);refine fB ?hg (N:=3) ?hd (cs:=#[.int .u8 bT,.int .u8 gp,.int .u8 gJ,.int .u8 ik,.int .i64 gX]) (t:=55) ?hr ?_;(case hd=>rfl);(case hg=>rfl);(case hr=>first|(go_simp;done)|(go_simp;rfl));intro eQ hg w7 hbox hb;have dS:=ae.mk (bf (g:=iI) (o:=.cells #[.slice dX aY.length dW,.string aT,.string aU,.slice fQ aI.length eH] 25 (0,0)) (by (with_reducible repeat (first|refine au ?_ _|refine ay ?_|refine ak ?_ _));exact dJ.out) hb);have dR:=ae.mk (bg (by repeat (first|(with_reducible first|exact HB.out|apply ah|apply af|apply ai|refine aj ?_ iP.out)|exact HB.out)) hb);have dO:=ae.mk (hbox);have gQ:=ae.mk ((by rw [hg];exact (bQ (by repeat (first|(with_reducible first|exact HB.out|apply ah|apply af|apply ai|refine aj ?_ iP.out)|exact HB.out))):w.heap.size≤eQ));have lM:=gQ;have mg:=ae.mk ((by rw [hg];exact Nat.ne_of_lt (jY (g:=iI) (o:=.cells #[.slice dX aY.length dW,.string aT,.string aU,.slice fQ aI.length eH] 25 (0,0)) (by (with_reducible repeat (first|refine au ?_ _|refine ay ?_|refine ak ?_ _));exact dJ.out)):iI ≠ eQ));have nI:=ae.mk mg.out.symm;clear dJ;clear HB;have dJ:=dS;have HB:=dR;have bG:=dO;have am3:=gQ;have iQ:=lM;have kM:=mg;have kL:=nI;clear dS dR dO gQ lM mg nI;clear hb hbox hg))
 have dS:=ae.mk (ay dJ.out)
 have dR:=ae.mk (ay bG.out)
 have dO:=ae.mk (ai HB.out)
 clear dJ
 clear bG
 clear HB
 have dJ:=dS
 have bG:=dR
 have HB:=dO
 clear dS dR dO
 refine qG (n:=10) (S:=fun w'=>w'.cell? ⟨iI,0,none⟩=some (.slice dX aY.length dW)∧w'.cell? ⟨iI,1,none⟩=some (.string aT)∧w'.cell? ⟨iI,2,none⟩=some (.string aU)∧w'.cell? ⟨iI,3,none⟩=some (.slice fQ aI.length eH)∧w'.cell? ⟨eQ,0,none⟩=some (.int .u8 bT)∧w'.cell? ⟨eQ,1,none⟩=some (.int .u8 gp)∧w'.cell? ⟨eQ,2,none⟩=some (.int .u8 gJ)∧w'.cell? ⟨eQ,3,none⟩=some (.int .u8 ik)∧w'.cell? ⟨eQ,4,none⟩=some (.int .i64 gX)) (ds:=[]) #[false,false,false,false,false,false,false,false,false,false] (by kernel_rfl) rfl rfl ⟨(ax dJ.out 0).trans rfl,(ax dJ.out 1).trans rfl,(ax dJ.out 2).trans rfl,(ax dJ.out 3).trans rfl,(ax bG.out 0).trans rfl,(ax bG.out 1).trans rfl,(ax bG.out 2).trans rfl,(ax bG.out 3).trans rfl,(ax bG.out 4).trans rfl⟩ (fun hHeld=>?_);refine qx bP.Xx bP.Pz (fun kZ AY=>?_)
 generalize w7.drew=w8 at dJ bG HB hHeld ⊢
 refine gW (i:=1) (N:=some 12) (v:=?_) (a':=?_) #[false,true,false,false,false,false,false,false,false,false] rfl rfl (iF kZ.out (by kernel_rfl)) (fun _ _ _ h=>h) (Or.inl ⟨by rfl,?_⟩) ?_ ?_
 rotate_left
 ·
  intro w'
  go_simp
  with_reducible rfl
 rotate_left
 ·
  simp only [Act.put,List.setIfInBounds_toArray,List.set_cons_zero,List.set_cons_succ,bY,bZ]
  rfl
 refine gW (i:=5) (N:=some 16) (v:=?_) (a':=?_) #[false,true,false,false,false,true,false,false,false,false] rfl rfl (iF kZ.out (by kernel_rfl)) (fun _ _ _ h=>h) (Or.inl ⟨by rfl,?_⟩) ?_ ?_
 rotate_left
 ·
  intro w'
  go_simp
  with_reducible rfl
 rotate_left
 ·
  simp only [Act.put,List.setIfInBounds_toArray,List.set_cons_zero,List.set_cons_succ,bY,bZ]
  rfl
 refine kG (i:=0) (N:=some 11) (v:=?_) (a':=?_) #[true,true,false,false,false,true,false,false,false,false] rfl rfl (kE kZ.out AY.out (by kernel_rfl)) (fun _ _ _ h=>h) (Or.inl ⟨by rfl,?_⟩) hHeld ?_ ?_
 rotate_left
 ·
  rintro w' ⟨s0,s1,s2,s3,s4,s5,s6,s7,s8⟩
  go_simp
  with_reducible rfl
 rotate_left
 ·
  simp only [Act.put,List.setIfInBounds_toArray,List.set_cons_zero,List.set_cons_succ,bY,bZ]
  rfl
 refine kG (i:=2) (N:=some 13) (v:=?_) (a':=?_) #[true,true,true,false,false,true,false,false,false,false] rfl rfl (kE kZ.out AY.out (by kernel_rfl)) (fun _ _ _ h=>h) (Or.inl ⟨by rfl,?_⟩) hHeld ?_ ?_
 rotate_left
 ·
  rintro w' ⟨s0,s1,s2,s3,s4,s5,s6,s7,s8⟩
  go_simp
  with_reducible rfl
 rotate_left
 ·
  simp only [Act.put,List.setIfInBounds_toArray,List.set_cons_zero,List.set_cons_succ,bY,bZ]
  rfl
 refine kG (i:=4) (N:=some 15) (v:=?_) (a':=?_) #[true,true,true,false,true,true,false,false,false,false] rfl rfl (kE kZ.out AY.out (by kernel_rfl)) (fun _ _ _ h=>h) (Or.inl ⟨by rfl,?_⟩) hHeld ?_ ?_
 rotate_left
 ·
  rintro w' ⟨s0,s1,s2,s3,s4,s5,s6,s7,s8⟩
  go_simp
  with_reducible rfl
 rotate_left
 ·
  simp only [Act.put,List.setIfInBounds_toArray,List.set_cons_zero,List.set_cons_succ,bY,bZ]
  rfl
 refine kG (i:=6) (N:=some 17) (v:=?_) (a':=?_) #[true,true,true,false,true,true,true,false,false,false] rfl rfl (kE kZ.out AY.out (by kernel_rfl)) (fun _ _ _ h=>h) (Or.inl ⟨by rfl,?_⟩) hHeld ?_ ?_
 rotate_left
 ·
  rintro w' ⟨s0,s1,s2,s3,s4,s5,s6,s7,s8⟩
  go_simp
  with_reducible rfl
 rotate_left
 ·
  simp only [Act.put,List.setIfInBounds_toArray,List.set_cons_zero,List.set_cons_succ,bY,bZ]
  rfl
 refine pY (i:=3) (N:=some 14) #[true,true,true,true,true,true,true,false,false,false] rfl rfl (mW kZ.out (by kernel_rfl)) (by decide) (fun K hK=>?_)
 refine pF Tryd.func36 (by kernel_rfl) rfl #[.agg #[.slice dX aY.length dW,.string aT,.string aU,.slice fQ aI.length eH],.int .u8 gp] (by rfl) rfl rfl (by (try simp only [List.map_toArray,List.map_cons,List.map_nil]);first|done|rfl|(simp only [List.length_drop,List.length_take];rfl)) ?_
 with_reducible refine (gq.calls k _ _ aY aT aU _ _ aI gp t124 _ ?bW ?df ?iM ?iL A3.out).mono ?_
 (case bW=>repeat (first|exact (Kd.bJ iq.out HB.out)|(with_reducible refine Kd.bM ?_ _)|(with_reducible refine Kd.bK ?_ _)|(with_reducible refine Kd.dB ?_)))
 (case df=>exact iC.out)
 (case iM=>repeat (first|exact (Kd.bJ jB.out HB.out)|(with_reducible refine Kd.bM ?_ _)|(with_reducible refine Kd.bK ?_ _)|(with_reducible refine Kd.dB ?_)))
 (case iL=>exact jS.out)
 rintro e w9 ⟨rfl,hb⟩
 refine ⟨_,rfl,?_⟩
 have dS:=ae.mk (bf (g:=iI) (o:=.cells #[.slice dX aY.length dW,.string aT,.string aU,.slice fQ aI.length eH] 25 (0,0)) (by (with_reducible repeat (first|refine au ?_ _|refine ay ?_|refine ak ?_ _));exact dJ.out) hb)
 have dR:=ae.mk (bf (g:=eQ) (o:=.cells #[.int .u8 bT,.int .u8 gp,.int .u8 gJ,.int .u8 ik,.int .i64 gX] 55 (0,0)) (by (with_reducible repeat (first|refine au ?_ _|refine ay ?_|refine ak ?_ _));exact bG.out) hb)
 have dO:=ae.mk (bg (by repeat (first|(with_reducible first|exact HB.out|apply ah|apply af|apply ai|refine aj ?_ iP.out|refine aj ?_ iQ.out)|exact HB.out)) hb)
 clear dJ
 clear bG
 clear HB
 have dJ:=dS
 have bG:=dR
 have HB:=dO
 clear dS dR dO
 (try clear hb)
 (try clear hb2)
 (try clear hk)
 (try clear hi)
 refine hK.out _ _ ⟨(ax dJ.out 0).trans rfl,(ax dJ.out 1).trans rfl,(ax dJ.out 2).trans rfl,(ax dJ.out 3).trans rfl,(ax bG.out 0).trans rfl,(ax bG.out 1).trans rfl,(ax bG.out 2).trans rfl,(ax bG.out 3).trans rfl,(ax bG.out 4).trans rfl⟩ (fun hHeld=>?_)
 clear hK K
 refine jo (a':=?_) ?_ ?_
 rotate_left
 ·
  show Act.put _ (some 14) _=_
  simp only [Act.put,List.setIfInBounds_toArray,List.set_cons_zero,List.set_cons_succ,bY,bZ]
  rfl
 refine pY (i:=7) (N:=some 18) #[true,true,true,true,true,true,true,true,false,false] rfl rfl (mW kZ.out (by kernel_rfl)) (by decide) (fun K hK=>?_)
 refine pF Tryd.func36 (by kernel_rfl) rfl #[.agg #[.slice dX aY.length dW,.string aT,.string aU,.slice fQ aI.length eH],.int .u8 gJ] (by rfl) rfl rfl (by (try simp only [List.map_toArray,List.map_cons,List.map_nil]);first|done|rfl|(simp only [List.length_drop,List.length_take];rfl)) ?_
 with_reducible refine (gq.calls k _ _ aY aT aU _ _ aI gJ t125 _ ?bW ?df ?iM ?iL A4.out).mono ?_
 (case bW=>repeat (first|exact (Kd.bJ iq.out HB.out)|(with_reducible refine Kd.bM ?_ _)|(with_reducible refine Kd.bK ?_ _)|(with_reducible refine Kd.dB ?_)))
 (case df=>exact iC.out)
 (case iM=>repeat (first|exact (Kd.bJ jB.out HB.out)|(with_reducible refine Kd.bM ?_ _)|(with_reducible refine Kd.bK ?_ _)|(with_reducible refine Kd.dB ?_)))
 (case iL=>exact jS.out)
 rintro e w10 ⟨rfl,hb⟩
 refine ⟨_,rfl,?_⟩
 have dS:=ae.mk (bf (g:=iI) (o:=.cells #[.slice dX aY.length dW,.string aT,.string aU,.slice fQ aI.length eH] 25 (0,0)) (by (with_reducible repeat (first|refine au ?_ _|refine ay ?_|refine ak ?_ _));exact dJ.out) hb)
 have dR:=ae.mk (bf (g:=eQ) (o:=.cells #[.int .u8 bT,.int .u8 gp,.int .u8 gJ,.int .u8 ik,.int .i64 gX] 55 (0,0)) (by (with_reducible repeat (first|refine au ?_ _|refine ay ?_|refine ak ?_ _));exact bG.out) hb)
 have dO:=ae.mk (bg (by repeat (first|(with_reducible first|exact HB.out|apply ah|apply af|apply ai|refine aj ?_ iP.out|refine aj ?_ iQ.out)|exact HB.out)) hb)
 clear dJ
 clear bG
 clear HB
 have dJ:=dS
 have bG:=dR
 have HB:=dO
 clear dS dR dO
 (try clear hb)
 (try clear hb2)
 (try clear hk)
 (try clear hi)
 refine hK.out _ _ ⟨(ax dJ.out 0).trans rfl,(ax dJ.out 1).trans rfl,(ax dJ.out 2).trans rfl,(ax dJ.out 3).trans rfl,(ax bG.out 0).trans rfl,(ax bG.out 1).trans rfl,(ax bG.out 2).trans rfl,(ax bG.out 3).trans rfl,(ax bG.out 4).trans rfl⟩ (fun hHeld=>?_)
 clear hK K
 refine jo (a':=?_) ?_ ?_
 rotate_left
 ·
  show Act.put _ (some 18) _=_
  simp only [Act.put,List.setIfInBounds_toArray,List.set_cons_zero,List.set_cons_succ,bY,bZ]
  rfl
 refine gW (i:=8) (N:=some 5) (v:=?_) (a':=?_) #[true,true,true,true,true,true,true,true,true,false] rfl rfl (iF kZ.out (by kernel_rfl)) (fun _ _ _ h=>h) (Or.inl ⟨by rfl,?_⟩) ?_ ?_
 rotate_left
 ·
  intro w'
  go_simp
  with_reducible rfl
 rotate_left
 ·
  simp only [Act.put,List.setIfInBounds_toArray,List.set_cons_zero,List.set_cons_succ,bY,bZ]
  rfl
 refine gW (i:=9) (N:=some 6) (v:=?_) (a':=?_) #[true,true,true,true,true,true,true,true,true,true] rfl rfl (iF kZ.out (by kernel_rfl)) (fun _ _ _ h=>h) (Or.inl ⟨by rfl,?_⟩) ?_ ?_
 rotate_left
 ·
  intro w'
  go_simp
  with_reducible rfl
 rotate_left
 ·
  simp only [Act.put,List.setIfInBounds_toArray,List.set_cons_zero,List.set_cons_succ,bY,bZ]
  rfl
 refine ug (uV kZ.out (by kernel_rfl)) ?_
 have aau:=kL.out
 have aak:=kM.out
 have Dv:w10.cell? ⟨eQ,0,none⟩=some (.int .u8 bT):=(ax bG.out 0).trans rfl
 have Du:w10.cell? ⟨eQ,1,none⟩=some (.int .u8 gp):=(ax bG.out 1).trans rfl
 have Dt:w10.cell? ⟨eQ,2,none⟩=some (.int .u8 gJ):=(ax bG.out 2).trans rfl
 have Dq:w10.cell? ⟨eQ,3,none⟩=some (.int .u8 ik):=(ax bG.out 3).trans rfl
 have Vl:w10.cell? ⟨eQ,4,none⟩=some (.int .i64 gX):=(ax bG.out 4).trans rfl
 have Di:=aC bG.out 0
 have Dh:=aC bG.out 1
 have Df:=aC bG.out 2
 have Dc:=aC bG.out 3
 have TF:=aC bG.out 4
 go_upto_if 21 with (fail)
 go_cut [21] (fun v21 wc=>∃ (kq:Nat) (Ha:Bool),v21=.bool Ha∧ae (bP.j0 kq t124 t125 bT Ha aY aT aU aI bT gp gJ ik gX=some r)∧ae (kq≤k)∧ae (wc.heap[iI]? = some (.cells #[(.slice dX aY.length dW),.string aT,.string aU,(.slice fQ aI.length eH)] 25 (0,0)))∧ae (wc.heap[eQ]? = some (.cells #[.int .u8 bT,.int .u8 gp,.int .u8 gJ,.int .u8 ik,.int .i64 gX] 55 (0,0)))∧ae (Below w.heap.size w wc))
 case first =>
  have H:=GX.out
  clear GX
  by_cases c13:bT=1
  ·
   rw [if_pos c13] at H
   have lZ:(bT == 1)=true:=beq_iff_eq.mpr c13
   have wX:(bT != 1)=false:=bne_eq_false_iff_eq.mpr c13
   clear c13
   (first|rw [lZ]|(simp only [bY,bZ];rw [lZ])|skip)
   have H':=ae.mk H
   clear H
   go_wp2
   go_meet
   case rel=>exact ⟨_,((bT == 1)),(by first|rfl|(simp;done)|(simp [*];done)),H',⟨by first|omega|exact Nat.le_refl _⟩,⟨by (with_reducible repeat (first|refine au ?_ _|refine ay ?_|refine ak ?_ _));exact dJ.out⟩,⟨by (with_reducible repeat (first|refine au ?_ _|refine ay ?_|refine ak ?_ _));exact bG.out⟩,⟨by repeat (first|(with_reducible first|exact HB.out|apply ah|apply af|apply ai|refine aj ?_ iP.out|refine aj ?_ iQ.out)|exact HB.out)⟩⟩
  ·
   rw [if_neg c13] at H
   have lZ:(bT == 1)=false:=beq_eq_false_iff_ne.mpr c13
   have wX:(bT != 1)=true:=bne_iff_ne.mpr c13
   (first|rw [lZ]|(simp only [bY,bZ];rw [lZ])|skip)
   by_cases c14:bT=4
   ·
    rw [if_pos c14] at H
    have BL:(bT == 4)=true:=beq_iff_eq.mpr c14
    have EZ:(bT != 4)=false:=bne_eq_false_iff_eq.mpr c14
    clear c14
    have H':=ae.mk H
    clear H
    go_wp2
    go_meet
    case rel=>exact ⟨_,((bT == 4)),(by first|rfl|(simp;done)|(simp [*];done)),H',⟨by first|omega|exact Nat.le_refl _⟩,⟨by (with_reducible repeat (first|refine au ?_ _|refine ay ?_|refine ak ?_ _));exact dJ.out⟩,⟨by (with_reducible repeat (first|refine au ?_ _|refine ay ?_|refine ak ?_ _));exact bG.out⟩,⟨by repeat (first|(with_reducible first|exact HB.out|apply ah|apply af|apply ai|refine aj ?_ iP.out|refine aj ?_ iQ.out)|exact HB.out)⟩⟩
   ·
    rw [if_neg c14] at H
    have BL:(bT == 4)=false:=beq_eq_false_iff_ne.mpr c14
    have EZ:(bT != 4)=true:=bne_iff_ne.mpr c14
    have H':=ae.mk H
    clear H
    go_wp2
    go_meet
    case rel=>exact ⟨_,((bT == 14)),(by first|rfl|(simp;done)|(simp [*];done)),H',⟨by first|omega|exact Nat.le_refl _⟩,⟨by (with_reducible repeat (first|refine au ?_ _|refine ay ?_|refine ak ?_ _));exact dJ.out⟩,⟨by (with_reducible repeat (first|refine au ?_ _|refine ay ?_|refine ak ?_ _));exact bG.out⟩,⟨by repeat (first|(with_reducible first|exact HB.out|apply ah|apply af|apply ai|refine aj ?_ iP.out|refine aj ?_ iQ.out)|exact HB.out)⟩⟩
 case rest =>
  clear GX
  obtain ⟨kq,Ha,rfl,HA,GV,dJ,bG,HB⟩:=hcut
  cases kq with
  | zero=>exact absurd HA.out (by simp [bP.j0])
  | succ uI =>
   have H:=HA.out
   clear HA
   simp only [bP.j0] at H
   by_cases c15:Ha=true
   ·
    subst c15
    have H1:((dD.f uI (([gp]:List Int))).bind fun t129=>(some t129))=some r:=by rw [if_pos rfl] at H;exact H
    clear H
    have H:=H1
    clear H1
    obtain ⟨Xn,Ey⟩:∃ y_:List Int,y_=(([gp]:List Int)):=⟨_,rfl⟩
    replace H:((dD.f uI Xn).bind fun t129=>(some t129))=some r:=by first|(rw [Ey];with_reducible exact H)|(have sS:=(Option.bind_some _ _).symm.trans H;rw [Ey];with_reducible exact sS)|(have sS:=(Option.bind_some _ _).symm.trans H;with_reducible exact sS)|with_reducible exact H|(rw [Ey];exact H)|exact H
    have Xa:=ae.mk Ey
    clear Ey
    replace H:=Option.bind_eq_some_iff.mp H
    obtain ⟨t129,FB,H⟩:=H
    replace H:(some t129)=some r:=H
    have Zj:=ae.mk FB
    clear FB
    obtain rfl:=Option.some.inj H
    have alV:=kL.out
    have als:=kM.out
    have JM:wc.cell? ⟨eQ,0,none⟩=some (.int .u8 bT):=(ax bG.out 0).trans rfl
    have JL:wc.cell? ⟨eQ,1,none⟩=some (.int .u8 gp):=(ax bG.out 1).trans rfl
    have JK:wc.cell? ⟨eQ,2,none⟩=some (.int .u8 gJ):=(ax bG.out 2).trans rfl
    have JJ:wc.cell? ⟨eQ,3,none⟩=some (.int .u8 ik):=(ax bG.out 3).trans rfl
    have U9:wc.cell? ⟨eQ,4,none⟩=some (.int .i64 gX):=(ax bG.out 4).trans rfl
    have Jc:=aC bG.out 0
    have Jb:=aC bG.out 1
    have Ja:=aC bG.out 2
    have I9:=aC bG.out 3
    have Tq:=aC bG.out 4
    go_wp2_with (first|((with_reducible refine dN (N:=27) rfl ?_);refine Kd.uq (Kd.int .u8) _ 5 ?hg (N:=27) ?hd (xs:=([gp]:List Int)) (inner:=[.int .u8 gp]) (ok:=fun _=>True) (pq:=fun _=>True) ?hr ?hp (fun _ hk=>hk) trivial (Below.refl _ _) (Nat.le_refl _) (by simp) ?_;(case hd=>rfl);(case hg=>rfl);(case hr=>first|(go_simp;done)|(go_simp;rfl));(case hp=>exact (jg.one (show Kd.M (Kd.int .u8) _ _ _ gp [.int .u8 gp] from rfl) (jg.none _ _)));intro v127 ZA NW hb AP nM;clear AP nM;(first|rw [← Xa.out] at NW|(simp only [Int.reduceToNat] at NW;rw [← Xa.out] at NW));have dS:=ae.mk (Kd.je NW (bQ (by repeat (first|(with_reducible first|exact HB.out|apply ah|apply af|apply ai|refine aj ?_ iP.out|refine aj ?_ iQ.out)|exact HB.out))));have dR:=ae.mk (bf (g:=iI) (o:=.cells #[.slice dX aY.length dW,.string aT,.string aU,.slice fQ aI.length eH] 25 (0,0)) (by (with_reducible repeat (first|refine au ?_ _|refine ay ?_|refine ak ?_ _));exact dJ.out) hb);have dO:=ae.mk (bf (g:=eQ) (o:=.cells #[.int .u8 bT,.int .u8 gp,.int .u8 gJ,.int .u8 ik,.int .i64 gX] 55 (0,0)) (by (with_reducible repeat (first|refine au ?_ _|refine ay ?_|refine ak ?_ _));exact bG.out) hb);have gQ:=ae.mk (bg (by repeat (first|(with_reducible first|exact HB.out|apply ah|apply af|apply ai|refine aj ?_ iP.out|refine aj ?_ iQ.out)|exact HB.out)) hb);clear dJ;clear bG;clear HB;have PO:=dS;have dJ:=dR;have bG:=dO;have HB:=gQ;clear dS dR dO gQ;clear hb NW;obtain ⟨Zh,YJ,Yr⟩:=Kd.jy PO.out;subst Yr)|((with_reducible refine bu (f:=55) rfl ?_);refine dQ (some 28) rfl rfl Tryd.func55 (by kernel_rfl) rfl #[.slice Zh Xn.length YJ] rfl (by (try simp only [List.map_toArray,List.map_cons,List.map_nil]);first|done|rfl|(simp only [List.length_drop,List.length_take];rfl)) ?_;(with_reducible refine (dD.calls uI _ _ Xn t129 _ ?bW ?df Zj.out).mono ?_);(case bW=>repeat (first|exact (Kd.fK PO.out).2.2|(with_reducible refine Kd.bM ?_ _)|(with_reducible refine Kd.bK ?_ _)|(with_reducible refine Kd.dB ?_)));(case df=>exact (Kd.fK PO.out).2.1);rintro e w' ⟨rfl,⟨nd,rfl⟩⟩;refine ⟨_,rfl,?_⟩))
    go_ret
    exact ⟨by first|rfl|(simp [aQ,aN] <;> rfl)|(simp [*,aQ,aN] <;> rfl),by repeat (first|(with_reducible first|exact HB.out|apply ah|apply af|apply ai|refine aj ?_ iP.out|refine aj ?_ iQ.out)|exact HB.out)⟩
   ·
    replace c15:=Bool.eq_false_iff.mpr c15
    subst c15
    have H1:(if bT=2 then ((dD.f uI (([gp,gJ,ik]:List Int))).bind fun t133=>(some t133)) else (if bT=5 then (bP.j1 uI t124 t125 bT (bT == 5) aY aT aU aI bT gp gJ ik gX) else (bP.j1 uI t124 t125 bT (bT == 6) aY aT aU aI bT gp gJ ik gX)))=some r:=by rw [if_neg (show ¬ (false=true) by decide)] at H;exact H
    clear H
    have H:=H1
    clear H1
    by_cases qw:bT=2
    ·
     rw [if_pos qw] at H
     have Po:(bT == 2)=true:=beq_iff_eq.mpr qw
     have Pn:(bT != 2)=false:=bne_eq_false_iff_eq.mpr qw
     clear qw
     obtain ⟨Xm,Eu⟩:∃ y_:List Int,y_=(([gp,gJ,ik]:List Int)):=⟨_,rfl⟩
     replace H:((dD.f uI Xm).bind fun t133=>(some t133))=some r:=by first|(rw [Eu];with_reducible exact H)|(have sS:=(Option.bind_some _ _).symm.trans H;rw [Eu];with_reducible exact sS)|(have sS:=(Option.bind_some _ _).symm.trans H;with_reducible exact sS)|with_reducible exact H|(rw [Eu];exact H)|exact H
     have WZ:=ae.mk Eu
     clear Eu
     replace H:=Option.bind_eq_some_iff.mp H
     obtain ⟨t133,adw,H⟩:=H
     replace H:(some t133)=some r:=H
     have A23:=ae.mk adw
     clear adw
     obtain rfl:=Option.some.inj H
     have Wi:=kL.out
     have We:=kM.out
     have yQ:wc.cell? ⟨eQ,0,none⟩=some (.int .u8 bT):=(ax bG.out 0).trans rfl
     have yP:wc.cell? ⟨eQ,1,none⟩=some (.int .u8 gp):=(ax bG.out 1).trans rfl
     have yO:wc.cell? ⟨eQ,2,none⟩=some (.int .u8 gJ):=(ax bG.out 2).trans rfl
     have yN:wc.cell? ⟨eQ,3,none⟩=some (.int .u8 ik):=(ax bG.out 3).trans rfl
     have Dj:wc.cell? ⟨eQ,4,none⟩=some (.int .i64 gX):=(ax bG.out 4).trans rfl
     have yI:=aC bG.out 0
     have yH:=aC bG.out 1
     have yG:=aC bG.out 2
     have yF:=aC bG.out 3
     have CW:=aC bG.out 4
     go_wp2_with (first|((with_reducible refine dN (N:=37) rfl ?_);refine Kd.uq (Kd.int .u8) _ 5 ?hg (N:=37) ?hd (xs:=([gp,gJ,ik]:List Int)) (inner:=[.int .u8 gp,.int .u8 gJ,.int .u8 ik]) (ok:=fun _=>True) (pq:=fun _=>True) ?hr ?hp (fun _ hk=>hk) trivial (Below.refl _ _) (Nat.le_refl _) (by simp) ?_;(case hd=>rfl);(case hg=>rfl);(case hr=>first|(go_simp;done)|(go_simp;rfl));(case hp=>exact (jg.one (show Kd.M (Kd.int .u8) _ _ _ gp [.int .u8 gp] from rfl) (jg.one (show Kd.M (Kd.int .u8) _ _ _ gJ [.int .u8 gJ] from rfl) (jg.one (show Kd.M (Kd.int .u8) _ _ _ ik [.int .u8 ik] from rfl) (jg.none _ _)))));intro v131 w26 NV hb AP nM;clear AP nM;(first|rw [← WZ.out] at NV|(simp only [Int.reduceToNat] at NV;rw [← WZ.out] at NV));have dS:=ae.mk (Kd.je NV (bQ (by repeat (first|(with_reducible first|exact HB.out|apply ah|apply af|apply ai|refine aj ?_ iP.out|refine aj ?_ iQ.out)|exact HB.out))));have dR:=ae.mk (bf (g:=iI) (o:=.cells #[.slice dX aY.length dW,.string aT,.string aU,.slice fQ aI.length eH] 25 (0,0)) (by (with_reducible repeat (first|refine au ?_ _|refine ay ?_|refine ak ?_ _));exact dJ.out) hb);have dO:=ae.mk (bf (g:=eQ) (o:=.cells #[.int .u8 bT,.int .u8 gp,.int .u8 gJ,.int .u8 ik,.int .i64 gX] 55 (0,0)) (by (with_reducible repeat (first|refine au ?_ _|refine ay ?_|refine ak ?_ _));exact bG.out) hb);have gQ:=ae.mk (bg (by repeat (first|(with_reducible first|exact HB.out|apply ah|apply af|apply ai|refine aj ?_ iP.out|refine aj ?_ iQ.out)|exact HB.out)) hb);clear dJ;clear bG;clear HB;have PN:=dS;have dJ:=dR;have bG:=dO;have HB:=gQ;clear dS dR dO gQ;clear hb NV;obtain ⟨akR,akz,akh⟩:=Kd.jy PN.out;subst akh)|((with_reducible refine bu (f:=55) rfl ?_);refine dQ (some 38) rfl rfl Tryd.func55 (by kernel_rfl) rfl #[.slice akR Xm.length akz] rfl (by (try simp only [List.map_toArray,List.map_cons,List.map_nil]);first|done|rfl|(simp only [List.length_drop,List.length_take];rfl)) ?_;(with_reducible refine (dD.calls uI _ _ Xm t133 _ ?bW ?df A23.out).mono ?_);(case bW=>repeat (first|exact (Kd.fK PN.out).2.2|(with_reducible refine Kd.bM ?_ _)|(with_reducible refine Kd.bK ?_ _)|(with_reducible refine Kd.dB ?_)));(case df=>exact (Kd.fK PN.out).2.1);rintro e w' ⟨rfl,⟨nd,rfl⟩⟩;refine ⟨_,rfl,?_⟩))
     go_ret
     exact ⟨by first|rfl|(simp [aQ,aN] <;> rfl)|(simp [*,aQ,aN] <;> rfl),by repeat (first|(with_reducible first|exact HB.out|apply ah|apply af|apply ai|refine aj ?_ iP.out|refine aj ?_ iQ.out)|exact HB.out)⟩
    ·
     rw [if_neg qw] at H
     have Po:(bT == 2)=false:=beq_eq_false_iff_ne.mpr qw
     have Pn:(bT != 2)=true:=bne_iff_ne.mpr qw
     have Zf:=ae.mk H
     clear H
     go_upto_if 39 with (fail)
     go_cut [39] (fun v39 wc=>∃ (kq:Nat) (BZ:Bool),v39=.bool BZ∧ae (bP.j1 kq t124 t125 bT BZ aY aT aU aI bT gp gJ ik gX=some r)∧ae (kq≤uI)∧ae (wc.heap[iI]? = some (.cells #[(.slice dX aY.length dW),.string aT,.string aU,(.slice fQ aI.length eH)] 25 (0,0)))∧ae (wc.heap[eQ]? = some (.cells #[.int .u8 bT,.int .u8 gp,.int .u8 gJ,.int .u8 ik,.int .i64 gX] 55 (0,0)))∧ae (Below w.heap.size w wc))
     case first =>
      have H:=Zf.out
      clear Zf
      by_cases YR:bT=5
      ·
       rw [if_pos YR] at H
       have EU:(bT == 5)=true:=beq_iff_eq.mpr YR
       have acf:(bT != 5)=false:=bne_eq_false_iff_eq.mpr YR
       clear YR
       (first|rw [EU]|(simp only [bY,bZ];rw [EU])|skip)
       have H':=ae.mk H
       clear H
       go_wp2
       go_meet
       case rel=>exact ⟨_,((bT == 5)),(by first|rfl|(simp;done)|(simp [*];done)),H',⟨by have:=GV.out;first|omega|exact Nat.le_refl _⟩,⟨by (with_reducible repeat (first|refine au ?_ _|refine ay ?_|refine ak ?_ _));exact dJ.out⟩,⟨by (with_reducible repeat (first|refine au ?_ _|refine ay ?_|refine ak ?_ _));exact bG.out⟩,⟨by repeat (first|(with_reducible first|exact HB.out|apply ah|apply af|apply ai|refine aj ?_ iP.out|refine aj ?_ iQ.out)|exact HB.out)⟩⟩
      ·
       rw [if_neg YR] at H
       have EU:(bT == 5)=false:=beq_eq_false_iff_ne.mpr YR
       have acf:(bT != 5)=true:=bne_iff_ne.mpr YR
       (first|rw [EU]|(simp only [bY,bZ];rw [EU])|skip)
       have H':=ae.mk H
       clear H
       go_wp2
       go_meet
       case rel=>exact ⟨_,((bT == 6)),(by first|rfl|(simp;done)|(simp [*];done)),H',⟨by have:=GV.out;first|omega|exact Nat.le_refl _⟩,⟨by (with_reducible repeat (first|refine au ?_ _|refine ay ?_|refine ak ?_ _));exact dJ.out⟩,⟨by (with_reducible repeat (first|refine au ?_ _|refine ay ?_|refine ak ?_ _));exact bG.out⟩,⟨by repeat (first|(with_reducible first|exact HB.out|apply ah|apply af|apply ai|refine aj ?_ iP.out|refine aj ?_ iQ.out)|exact HB.out)⟩⟩
     case rest =>
      clear Zf
      obtain ⟨kq,BZ,rfl,HA,aoj,dJ,bG,HB⟩:=hcut
      cases kq with
      | zero=>exact absurd HA.out (by simp [bP.j1])
      | succ mY =>
       have H:=HA.out
       clear HA
       simp only [bP.j1] at H
       by_cases c31:BZ=true
       ·
        subst c31
        have H1:(some (decide (t124 ≥ 0)))=some r:=by rw [if_pos rfl] at H;exact H
        clear H
        have H:=H1
        clear H1
        obtain rfl:=Option.some.inj H
        go_wp2
        go_ret
        exact ⟨by first|rfl|(simp [aQ,aN] <;> rfl)|(simp [*,aQ,aN] <;> rfl),by repeat (first|(with_reducible first|exact HB.out|apply ah|apply af|apply ai|refine aj ?_ iP.out|refine aj ?_ iQ.out)|exact HB.out)⟩
       ·
        replace c31:=Bool.eq_false_iff.mpr c31
        subst c31
        have H1:(if bT=7 then ((gU.f t124 t125).bind fun t134=>(some t134)) else (if bT=8 then ((dD.f mY (([gp]:List Int))).bind fun t138=>(if t138=true then ((gG.f mY aY aT aU aI t125 gX).bind fun t139=>(some t139)) else (some false))) else (if bT=9 then ((dD.f mY (([gJ]:List Int))).bind fun t143=>(if t143=true then ((gG.f mY aY aT aU aI t124 gX).bind fun t144=>(some t144)) else (some false))) else (if bT=10 then ((gK.f mY aY aT aU aI t125 gX).bind fun Px=>((gU.f t124 Px.1).bind fun t147=>(some t147))) else (if bT=11 then ((gK.f mY aY aT aU aI t124 gX).bind fun Pv=>((gU.f t125 Pv.1).bind fun t150=>(some t150))) else (if bT=12 then ((jd.f mY aY aT aU aI gJ).bind fun t151=>((gU.f t124 t151).bind fun t152=>(some t152))) else (if bT=13 then ((jd.f mY aY aT aU aI gp).bind fun t153=>((gU.f t125 t153).bind fun t154=>(some t154))) else (if bT=15 then ((dD.f mY (([gp]:List Int))).bind fun t158=>(if t158=true then ((gq.f mY aY aT aU aI ik).bind fun t159=>((gU.f t125 t159).bind fun t160=>(some t160))) else (some false))) else (some true)))))))))=some r:=by rw [if_neg (show ¬ (false=true) by decide)] at H;exact H
        clear H
        have H:=H1
        clear H1
        by_cases c32:bT=7
        ·
         rw [if_pos c32] at H
         have Pj:(bT == 7)=true:=beq_iff_eq.mpr c32
         have acb:(bT != 7)=false:=bne_eq_false_iff_eq.mpr c32
         clear c32
         replace H:=Option.bind_eq_some_iff.mp H
         obtain ⟨t134,PU,H⟩:=H
         replace H:(some t134)=some r:=H
         have A33:=ae.mk PU
         clear PU
         obtain rfl:=Option.some.inj H
         go_wp2_with (first|((with_reducible refine bu (f:=56) rfl ?_);refine dQ (some 48) rfl rfl Tryd.func56 (by kernel_rfl) rfl #[.int .i64 t124,.int .i64 t125] rfl (by (try simp only [List.map_toArray,List.map_cons,List.map_nil]);first|done|rfl|(simp only [List.length_drop,List.length_take];rfl)) ?_;(with_reducible refine (gU.calls t124 t125 t134 _ A33.out).mono ?_);rintro e w' ⟨rfl,⟨nd,rfl⟩⟩;refine ⟨_,rfl,?_⟩))
         go_ret
         exact ⟨by first|rfl|(simp [aQ,aN] <;> rfl)|(simp [*,aQ,aN] <;> rfl),by repeat (first|(with_reducible first|exact HB.out|apply ah|apply af|apply ai|refine aj ?_ iP.out|refine aj ?_ iQ.out)|exact HB.out)⟩
        ·
         rw [if_neg c32] at H
         have Pj:(bT == 7)=false:=beq_eq_false_iff_ne.mpr c32
         have acb:(bT != 7)=true:=bne_iff_ne.mpr c32
         by_cases c34:bT=8
         ·
          rw [if_pos c34] at H
          have Ph:(bT == 8)=true:=beq_iff_eq.mpr c34
          have ab8:(bT != 8)=false:=bne_eq_false_iff_eq.mpr c34
          clear c34
          obtain ⟨MM,Es⟩:∃ y_:List Int,y_=(([gp]:List Int)):=⟨_,rfl⟩
          replace H:((dD.f mY MM).bind fun t138=>(if t138=true then ((gG.f mY aY aT aU aI t125 gX).bind fun t139=>(some t139)) else (some false)))=some r:=by first|(rw [Es];with_reducible exact H)|(have sS:=(Option.bind_some _ _).symm.trans H;rw [Es];with_reducible exact sS)|(have sS:=(Option.bind_some _ _).symm.trans H;with_reducible exact sS)|with_reducible exact H|(rw [Es];exact H)|exact H
          have Ky:=ae.mk Es
          clear Es
          replace H:=Option.bind_eq_some_iff.mp H
          obtain ⟨t138,adt,H⟩:=H
          replace H:(if t138=true then ((gG.f mY aY aT aU aI t125 gX).bind fun t139=>(some t139)) else (some false))=some r:=H
          have A35:=ae.mk adt
          clear adt
          by_cases c36:t138=true
          ·
           subst c36
           have H1:((gG.f mY aY aT aU aI t125 gX).bind fun t139=>(some t139))=some r:=by rw [if_pos rfl] at H;exact H
           clear H
           have H:=H1
           clear H1
           replace H:=Option.bind_eq_some_iff.mp H
           obtain ⟨t139,ads,H⟩:=H
           replace H:(some t139)=some r:=H
           have A37:=ae.mk ads
           clear ads
           obtain rfl:=Option.some.inj H
           have alK:=kL.out
           have alg:=kM.out
           have UG:wc.cell? ⟨eQ,0,none⟩=some (.int .u8 bT):=(ax bG.out 0).trans rfl
           have UF:wc.cell? ⟨eQ,1,none⟩=some (.int .u8 gp):=(ax bG.out 1).trans rfl
           have UE:wc.cell? ⟨eQ,2,none⟩=some (.int .u8 gJ):=(ax bG.out 2).trans rfl
           have UD:wc.cell? ⟨eQ,3,none⟩=some (.int .u8 ik):=(ax bG.out 3).trans rfl
           have aiv:wc.cell? ⟨eQ,4,none⟩=some (.int .i64 gX):=(ax bG.out 4).trans rfl
           have Su:=aC bG.out 0
           have Sr:=aC bG.out 1
           have Sm:=aC bG.out 2
           have Sl:=aC bG.out 3
           have agf:=aC bG.out 4
           go_wp2_with (first|((with_reducible refine dN (N:=53) rfl ?_);refine Kd.uq (Kd.int .u8) _ 5 ?hg (N:=53) ?hd (xs:=([gp]:List Int)) (inner:=[.int .u8 gp]) (ok:=fun _=>True) (pq:=fun _=>True) ?hr ?hp (fun _ hk=>hk) trivial (Below.refl _ _) (Nat.le_refl _) (by simp) ?_;(case hd=>rfl);(case hg=>rfl);(case hr=>first|(go_simp;done)|(go_simp;rfl));(case hp=>exact (jg.one (show Kd.M (Kd.int .u8) _ _ _ gp [.int .u8 gp] from rfl) (jg.none _ _)));intro ajq Qn NU hb AP nM;clear AP nM;(first|rw [← Ky.out] at NU|(simp only [Int.reduceToNat] at NU;rw [← Ky.out] at NU));have dS:=ae.mk (Kd.je NU (bQ (by repeat (first|(with_reducible first|exact HB.out|apply ah|apply af|apply ai|refine aj ?_ iP.out|refine aj ?_ iQ.out)|exact HB.out))));have dR:=ae.mk (bf (g:=iI) (o:=.cells #[.slice dX aY.length dW,.string aT,.string aU,.slice fQ aI.length eH] 25 (0,0)) (by (with_reducible repeat (first|refine au ?_ _|refine ay ?_|refine ak ?_ _));exact dJ.out) hb);have dO:=ae.mk (bf (g:=eQ) (o:=.cells #[.int .u8 bT,.int .u8 gp,.int .u8 gJ,.int .u8 ik,.int .i64 gX] 55 (0,0)) (by (with_reducible repeat (first|refine au ?_ _|refine ay ?_|refine ak ?_ _));exact bG.out) hb);have gQ:=ae.mk (bg (by repeat (first|(with_reducible first|exact HB.out|apply ah|apply af|apply ai|refine aj ?_ iP.out|refine aj ?_ iQ.out)|exact HB.out)) hb);clear dJ;clear bG;clear HB;have vP:=dS;have dJ:=dR;have bG:=dO;have HB:=gQ;clear dS dR dO gQ;clear hb NU;obtain ⟨akQ,aky,akg⟩:=Kd.jy vP.out;subst akg)|((with_reducible refine bu (f:=55) rfl ?_);refine dQ (some 54) rfl rfl Tryd.func55 (by kernel_rfl) rfl #[.slice akQ MM.length aky] rfl (by (try simp only [List.map_toArray,List.map_cons,List.map_nil]);first|done|rfl|(simp only [List.length_drop,List.length_take];rfl)) ?_;(with_reducible refine (dD.calls mY _ _ MM true _ ?bW ?df A35.out).mono ?_);(case bW=>repeat (first|exact (Kd.fK vP.out).2.2|(with_reducible refine Kd.bM ?_ _)|(with_reducible refine Kd.bK ?_ _)|(with_reducible refine Kd.dB ?_)));(case df=>exact (Kd.fK vP.out).2.1);rintro e w' ⟨rfl,⟨nd,rfl⟩⟩;refine ⟨_,rfl,?_⟩;have Jv:Qn.cell? ⟨iI,0,none⟩=some (.slice dX aY.length dW):=(ax dJ.out 0).trans rfl;have Ju:Qn.cell? ⟨iI,1,none⟩=some (.string aT):=(ax dJ.out 1).trans rfl;have Jt:Qn.cell? ⟨iI,2,none⟩=some (.string aU):=(ax dJ.out 2).trans rfl;have Js:Qn.cell? ⟨iI,3,none⟩=some (.slice fQ aI.length eH):=(ax dJ.out 3).trans rfl;have IM:=aC dJ.out 0;have IL:=aC dJ.out 1;have IK:=aC dJ.out 2;have IJ:=aC dJ.out 3;have UC:Qn.cell? ⟨eQ,0,none⟩=some (.int .u8 bT):=(ax bG.out 0).trans rfl;have UB:Qn.cell? ⟨eQ,1,none⟩=some (.int .u8 gp):=(ax bG.out 1).trans rfl;have UA:Qn.cell? ⟨eQ,2,none⟩=some (.int .u8 gJ):=(ax bG.out 2).trans rfl;have Uz:Qn.cell? ⟨eQ,3,none⟩=some (.int .u8 ik):=(ax bG.out 3).trans rfl;have Uy:Qn.cell? ⟨eQ,4,none⟩=some (.int .i64 gX):=(ax bG.out 4).trans rfl;have Sj:=aC bG.out 0;have Si:=aC bG.out 1;have RZ:=aC bG.out 2;have RY:=aC bG.out 3;have RX:=aC bG.out 4)|(go_at_call 57;(with_reducible refine (gG.calls mY _ _ aY aT aU _ _ aI t125 gX t139 _ ?bW ?df ?iM ?iL A37.out).mono ?_);(case bW=>repeat (first|exact (Kd.bJ iq.out (by repeat (first|(with_reducible first|exact HB.out|apply ah|apply af|apply ai|refine aj ?_ iP.out|refine aj ?_ iQ.out)|exact HB.out)))|(with_reducible refine Kd.bM ?_ _)|(with_reducible refine Kd.bK ?_ _)|(with_reducible refine Kd.dB ?_)));(case df=>exact iC.out);(case iM=>repeat (first|exact (Kd.bJ jB.out (by repeat (first|(with_reducible first|exact HB.out|apply ah|apply af|apply ai|refine aj ?_ iP.out|refine aj ?_ iQ.out)|exact HB.out)))|(with_reducible refine Kd.bM ?_ _)|(with_reducible refine Kd.bK ?_ _)|(with_reducible refine Kd.dB ?_)));(case iL=>exact jS.out);rintro e w45 ⟨rfl,hb⟩;have dS:=ae.mk (Kd.ji (by (with_reducible repeat (first|apply Kd.iy|apply Kd.iw|apply Kd.jb));exact vP.out) hb);have dR:=ae.mk (bf (g:=iI) (o:=.cells #[.slice dX aY.length dW,.string aT,.string aU,.slice fQ aI.length eH] 25 (0,0)) (by (with_reducible repeat (first|refine au ?_ _|refine ay ?_|refine ak ?_ _));exact dJ.out) hb);have dO:=ae.mk (bf (g:=eQ) (o:=.cells #[.int .u8 bT,.int .u8 gp,.int .u8 gJ,.int .u8 ik,.int .i64 gX] 55 (0,0)) (by (with_reducible repeat (first|refine au ?_ _|refine ay ?_|refine ak ?_ _));exact bG.out) hb);have gQ:=ae.mk (bg (by repeat (first|(with_reducible first|exact HB.out|apply ah|apply af|apply ai|refine aj ?_ iP.out|refine aj ?_ iQ.out)|exact HB.out)) hb);clear vP;clear dJ;clear bG;clear HB;have vP:=dS;have dJ:=dR;have bG:=dO;have HB:=gQ;clear dS dR dO gQ;(try clear hb);(try clear hb2);(try clear hk);(try clear hi)))
           go_ret
           exact ⟨by first|rfl|(simp [aQ,aN] <;> rfl)|(simp [*,aQ,aN] <;> rfl),by repeat (first|(with_reducible first|exact HB.out|apply ah|apply af|apply ai|refine aj ?_ iP.out|refine aj ?_ iQ.out)|exact HB.out)⟩
          ·
           replace c36:=Bool.eq_false_iff.mpr c36
           subst c36
           have H1:(some false)=some r:=by rw [if_neg (show ¬ (false=true) by decide)] at H;exact H
           clear H
           have H:=H1
           clear H1
           obtain rfl:=Option.some.inj H
           have aap:=kL.out
           have aaf:=kM.out
           have Jr:wc.cell? ⟨eQ,0,none⟩=some (.int .u8 bT):=(ax bG.out 0).trans rfl
           have Jq:wc.cell? ⟨eQ,1,none⟩=some (.int .u8 gp):=(ax bG.out 1).trans rfl
           have Jp:wc.cell? ⟨eQ,2,none⟩=some (.int .u8 gJ):=(ax bG.out 2).trans rfl
           have Jo:wc.cell? ⟨eQ,3,none⟩=some (.int .u8 ik):=(ax bG.out 3).trans rfl
           have Jn:wc.cell? ⟨eQ,4,none⟩=some (.int .i64 gX):=(ax bG.out 4).trans rfl
           have II:=aC bG.out 0
           have IG:=aC bG.out 1
           have IE:=aC bG.out 2
           have IC:=aC bG.out 3
           have IB:=aC bG.out 4
           go_wp2_with (first|((with_reducible refine dN (N:=53) rfl ?_);refine Kd.uq (Kd.int .u8) _ 5 ?hg (N:=53) ?hd (xs:=([gp]:List Int)) (inner:=[.int .u8 gp]) (ok:=fun _=>True) (pq:=fun _=>True) ?hr ?hp (fun _ hk=>hk) trivial (Below.refl _ _) (Nat.le_refl _) (by simp) ?_;(case hd=>rfl);(case hg=>rfl);(case hr=>first|(go_simp;done)|(go_simp;rfl));(case hp=>exact (jg.one (show Kd.M (Kd.int .u8) _ _ _ gp [.int .u8 gp] from rfl) (jg.none _ _)));intro ajq w48 NT hb AP nM;clear AP nM;(first|rw [← Ky.out] at NT|(simp only [Int.reduceToNat] at NT;rw [← Ky.out] at NT));have dS:=ae.mk (Kd.je NT (bQ (by repeat (first|(with_reducible first|exact HB.out|apply ah|apply af|apply ai|refine aj ?_ iP.out|refine aj ?_ iQ.out)|exact HB.out))));have dR:=ae.mk (bf (g:=iI) (o:=.cells #[.slice dX aY.length dW,.string aT,.string aU,.slice fQ aI.length eH] 25 (0,0)) (by (with_reducible repeat (first|refine au ?_ _|refine ay ?_|refine ak ?_ _));exact dJ.out) hb);have dO:=ae.mk (bf (g:=eQ) (o:=.cells #[.int .u8 bT,.int .u8 gp,.int .u8 gJ,.int .u8 ik,.int .i64 gX] 55 (0,0)) (by (with_reducible repeat (first|refine au ?_ _|refine ay ?_|refine ak ?_ _));exact bG.out) hb);have gQ:=ae.mk (bg (by repeat (first|(with_reducible first|exact HB.out|apply ah|apply af|apply ai|refine aj ?_ iP.out|refine aj ?_ iQ.out)|exact HB.out)) hb);clear dJ;clear bG;clear HB;have vP:=dS;have dJ:=dR;have bG:=dO;have HB:=gQ;clear dS dR dO gQ;clear hb NT;obtain ⟨akP,akx,akf⟩:=Kd.jy vP.out;subst akf)|((with_reducible refine bu (f:=55) rfl ?_);refine dQ (some 54) rfl rfl Tryd.func55 (by kernel_rfl) rfl #[.slice akP MM.length akx] rfl (by (try simp only [List.map_toArray,List.map_cons,List.map_nil]);first|done|rfl|(simp only [List.length_drop,List.length_take];rfl)) ?_;(with_reducible refine (dD.calls mY _ _ MM false _ ?bW ?df A35.out).mono ?_);(case bW=>repeat (first|exact (Kd.fK vP.out).2.2|(with_reducible refine Kd.bM ?_ _)|(with_reducible refine Kd.bK ?_ _)|(with_reducible refine Kd.dB ?_)));(case df=>exact (Kd.fK vP.out).2.1);rintro e w' ⟨rfl,⟨nd,rfl⟩⟩;refine ⟨_,rfl,?_⟩))
           go_ret
           exact ⟨by first|rfl|(simp [aQ,aN] <;> rfl)|(simp [*,aQ,aN] <;> rfl),by repeat (first|(with_reducible first|exact HB.out|apply ah|apply af|apply ai|refine aj ?_ iP.out|refine aj ?_ iQ.out)|exact HB.out)⟩
         ·
          rw [if_neg c34] at H
          have Ph:(bT == 8)=false:=beq_eq_false_iff_ne.mpr c34
          have ab8:(bT != 8)=true:=bne_iff_ne.mpr c34
          by_cases c51:bT=9
          ·
           rw [if_pos c51] at H
           have ab2:(bT == 9)=true:=beq_iff_eq.mpr c51
           have ab1:(bT != 9)=false:=bne_eq_false_iff_eq.mpr c51
           clear c51
           obtain ⟨ML,Ep⟩:∃ y_:List Int,y_=(([gJ]:List Int)):=⟨_,rfl⟩
           replace H:((dD.f mY ML).bind fun t143=>(if t143=true then ((gG.f mY aY aT aU aI t124 gX).bind fun t144=>(some t144)) else (some false)))=some r:=by first|(rw [Ep];with_reducible exact H)|(have sS:=(Option.bind_some _ _).symm.trans H;rw [Ep];with_reducible exact sS)|(have sS:=(Option.bind_some _ _).symm.trans H;with_reducible exact sS)|with_reducible exact H|(rw [Ep];exact H)|exact H
           have Kw:=ae.mk Ep
           clear Ep
           replace H:=Option.bind_eq_some_iff.mp H
           obtain ⟨t143,adk,H⟩:=H
           replace H:(if t143=true then ((gG.f mY aY aT aU aI t124 gX).bind fun t144=>(some t144)) else (some false))=some r:=H
           have A52:=ae.mk adk
           clear adk
           by_cases c53:t143=true
           ·
            subst c53
            have H1:((gG.f mY aY aT aU aI t124 gX).bind fun t144=>(some t144))=some r:=by rw [if_pos rfl] at H;exact H
            clear H
            have H:=H1
            clear H1
            replace H:=Option.bind_eq_some_iff.mp H
            obtain ⟨t144,adi,H⟩:=H
            replace H:(some t144)=some r:=H
            have A54:=ae.mk adi
            clear adi
            obtain rfl:=Option.some.inj H
            have aan:=kL.out
            have aad:=kM.out
            have Ui:wc.cell? ⟨eQ,0,none⟩=some (.int .u8 bT):=(ax bG.out 0).trans rfl
            have Uh:wc.cell? ⟨eQ,1,none⟩=some (.int .u8 gp):=(ax bG.out 1).trans rfl
            have Ug:wc.cell? ⟨eQ,2,none⟩=some (.int .u8 gJ):=(ax bG.out 2).trans rfl
            have Uf:wc.cell? ⟨eQ,3,none⟩=some (.int .u8 ik):=(ax bG.out 3).trans rfl
            have Ue:wc.cell? ⟨eQ,4,none⟩=some (.int .i64 gX):=(ax bG.out 4).trans rfl
            have Rz:=aC bG.out 0
            have Ry:=aC bG.out 1
            have Rx:=aC bG.out 2
            have Rw:=aC bG.out 3
            have Ru:=aC bG.out 4
            go_wp2_with (first|((with_reducible refine dN (N:=66) rfl ?_);refine Kd.uq (Kd.int .u8) _ 5 ?hg (N:=66) ?hd (xs:=([gJ]:List Int)) (inner:=[.int .u8 gJ]) (ok:=fun _=>True) (pq:=fun _=>True) ?hr ?hp (fun _ hk=>hk) trivial (Below.refl _ _) (Nat.le_refl _) (by simp) ?_;(case hd=>rfl);(case hg=>rfl);(case hr=>first|(go_simp;done)|(go_simp;rfl));(case hp=>exact (jg.one (show Kd.M (Kd.int .u8) _ _ _ gJ [.int .u8 gJ] from rfl) (jg.none _ _)));intro v141 PY NS hb AP nM;clear AP nM;(first|rw [← Kw.out] at NS|(simp only [Int.reduceToNat] at NS;rw [← Kw.out] at NS));have dS:=ae.mk (Kd.je NS (bQ (by repeat (first|(with_reducible first|exact HB.out|apply ah|apply af|apply ai|refine aj ?_ iP.out|refine aj ?_ iQ.out)|exact HB.out))));have dR:=ae.mk (bf (g:=iI) (o:=.cells #[.slice dX aY.length dW,.string aT,.string aU,.slice fQ aI.length eH] 25 (0,0)) (by (with_reducible repeat (first|refine au ?_ _|refine ay ?_|refine ak ?_ _));exact dJ.out) hb);have dO:=ae.mk (bf (g:=eQ) (o:=.cells #[.int .u8 bT,.int .u8 gp,.int .u8 gJ,.int .u8 ik,.int .i64 gX] 55 (0,0)) (by (with_reducible repeat (first|refine au ?_ _|refine ay ?_|refine ak ?_ _));exact bG.out) hb);have gQ:=ae.mk (bg (by repeat (first|(with_reducible first|exact HB.out|apply ah|apply af|apply ai|refine aj ?_ iP.out|refine aj ?_ iQ.out)|exact HB.out)) hb);clear dJ;clear bG;clear HB;have kT:=dS;have dJ:=dR;have bG:=dO;have HB:=gQ;clear dS dR dO gQ;clear hb NS;obtain ⟨akO,akw,ake⟩:=Kd.jy kT.out;subst ake)|((with_reducible refine bu (f:=55) rfl ?_);refine dQ (some 67) rfl rfl Tryd.func55 (by kernel_rfl) rfl #[.slice akO ML.length akw] rfl (by (try simp only [List.map_toArray,List.map_cons,List.map_nil]);first|done|rfl|(simp only [List.length_drop,List.length_take];rfl)) ?_;(with_reducible refine (dD.calls mY _ _ ML true _ ?bW ?df A52.out).mono ?_);(case bW=>repeat (first|exact (Kd.fK kT.out).2.2|(with_reducible refine Kd.bM ?_ _)|(with_reducible refine Kd.bK ?_ _)|(with_reducible refine Kd.dB ?_)));(case df=>exact (Kd.fK kT.out).2.1);rintro e w' ⟨rfl,⟨nd,rfl⟩⟩;refine ⟨_,rfl,?_⟩;have ahX:PY.cell? ⟨iI,0,none⟩=some (.slice dX aY.length dW):=(ax dJ.out 0).trans rfl;have ahW:PY.cell? ⟨iI,1,none⟩=some (.string aT):=(ax dJ.out 1).trans rfl;have ahV:PY.cell? ⟨iI,2,none⟩=some (.string aU):=(ax dJ.out 2).trans rfl;have ahU:PY.cell? ⟨iI,3,none⟩=some (.slice fQ aI.length eH):=(ax dJ.out 3).trans rfl;have afH:=aC dJ.out 0;have afG:=aC dJ.out 1;have afF:=aC dJ.out 2;have afE:=aC dJ.out 3;have TZ:PY.cell? ⟨eQ,0,none⟩=some (.int .u8 bT):=(ax bG.out 0).trans rfl;have TY:PY.cell? ⟨eQ,1,none⟩=some (.int .u8 gp):=(ax bG.out 1).trans rfl;have TW:PY.cell? ⟨eQ,2,none⟩=some (.int .u8 gJ):=(ax bG.out 2).trans rfl;have TV:PY.cell? ⟨eQ,3,none⟩=some (.int .u8 ik):=(ax bG.out 3).trans rfl;have TU:PY.cell? ⟨eQ,4,none⟩=some (.int .i64 gX):=(ax bG.out 4).trans rfl;have Rl:=aC bG.out 0;have Rk:=aC bG.out 1;have Rj:=aC bG.out 2;have Ri:=aC bG.out 3;have Rh:=aC bG.out 4)|(go_at_call 57;(with_reducible refine (gG.calls mY _ _ aY aT aU _ _ aI t124 gX t144 _ ?bW ?df ?iM ?iL A54.out).mono ?_);(case bW=>repeat (first|exact (Kd.bJ iq.out (by repeat (first|(with_reducible first|exact HB.out|apply ah|apply af|apply ai|refine aj ?_ iP.out|refine aj ?_ iQ.out)|exact HB.out)))|(with_reducible refine Kd.bM ?_ _)|(with_reducible refine Kd.bK ?_ _)|(with_reducible refine Kd.dB ?_)));(case df=>exact iC.out);(case iM=>repeat (first|exact (Kd.bJ jB.out (by repeat (first|(with_reducible first|exact HB.out|apply ah|apply af|apply ai|refine aj ?_ iP.out|refine aj ?_ iQ.out)|exact HB.out)))|(with_reducible refine Kd.bM ?_ _)|(with_reducible refine Kd.bK ?_ _)|(with_reducible refine Kd.dB ?_)));(case iL=>exact jS.out);rintro e w62 ⟨rfl,hb⟩;have dS:=ae.mk (Kd.ji (by (with_reducible repeat (first|apply Kd.iy|apply Kd.iw|apply Kd.jb));exact kT.out) hb);have dR:=ae.mk (bf (g:=iI) (o:=.cells #[.slice dX aY.length dW,.string aT,.string aU,.slice fQ aI.length eH] 25 (0,0)) (by (with_reducible repeat (first|refine au ?_ _|refine ay ?_|refine ak ?_ _));exact dJ.out) hb);have dO:=ae.mk (bf (g:=eQ) (o:=.cells #[.int .u8 bT,.int .u8 gp,.int .u8 gJ,.int .u8 ik,.int .i64 gX] 55 (0,0)) (by (with_reducible repeat (first|refine au ?_ _|refine ay ?_|refine ak ?_ _));exact bG.out) hb);have gQ:=ae.mk (bg (by repeat (first|(with_reducible first|exact HB.out|apply ah|apply af|apply ai|refine aj ?_ iP.out|refine aj ?_ iQ.out)|exact HB.out)) hb);clear kT;clear dJ;clear bG;clear HB;have kT:=dS;have dJ:=dR;have bG:=dO;have HB:=gQ;clear dS dR dO gQ;(try clear hb);(try clear hb2);(try clear hk);(try clear hi)))
            go_ret
            exact ⟨by first|rfl|(simp [aQ,aN] <;> rfl)|(simp [*,aQ,aN] <;> rfl),by repeat (first|(with_reducible first|exact HB.out|apply ah|apply af|apply ai|refine aj ?_ iP.out|refine aj ?_ iQ.out)|exact HB.out)⟩
           ·
            replace c53:=Bool.eq_false_iff.mpr c53
            subst c53
            have H1:(some false)=some r:=by rw [if_neg (show ¬ (false=true) by decide)] at H;exact H
            clear H
            have H:=H1
            clear H1
            obtain rfl:=Option.some.inj H
            have alA:=kL.out
            have ak6:=kM.out
            have ahO:wc.cell? ⟨eQ,0,none⟩=some (.int .u8 bT):=(ax bG.out 0).trans rfl
            have ahN:wc.cell? ⟨eQ,1,none⟩=some (.int .u8 gp):=(ax bG.out 1).trans rfl
            have ahM:wc.cell? ⟨eQ,2,none⟩=some (.int .u8 gJ):=(ax bG.out 2).trans rfl
            have ahL:wc.cell? ⟨eQ,3,none⟩=some (.int .u8 ik):=(ax bG.out 3).trans rfl
            have ahK:wc.cell? ⟨eQ,4,none⟩=some (.int .i64 gX):=(ax bG.out 4).trans rfl
            have afy:=aC bG.out 0
            have afx:=aC bG.out 1
            have afw:=aC bG.out 2
            have afv:=aC bG.out 3
            have afu:=aC bG.out 4
            go_wp2_with (first|((with_reducible refine dN (N:=66) rfl ?_);refine Kd.uq (Kd.int .u8) _ 5 ?hg (N:=66) ?hd (xs:=([gJ]:List Int)) (inner:=[.int .u8 gJ]) (ok:=fun _=>True) (pq:=fun _=>True) ?hr ?hp (fun _ hk=>hk) trivial (Below.refl _ _) (Nat.le_refl _) (by simp) ?_;(case hd=>rfl);(case hg=>rfl);(case hr=>first|(go_simp;done)|(go_simp;rfl));(case hp=>exact (jg.one (show Kd.M (Kd.int .u8) _ _ _ gJ [.int .u8 gJ] from rfl) (jg.none _ _)));intro v141 w65 NR hb AP nM;clear AP nM;(first|rw [← Kw.out] at NR|(simp only [Int.reduceToNat] at NR;rw [← Kw.out] at NR));have dS:=ae.mk (Kd.je NR (bQ (by repeat (first|(with_reducible first|exact HB.out|apply ah|apply af|apply ai|refine aj ?_ iP.out|refine aj ?_ iQ.out)|exact HB.out))));have dR:=ae.mk (bf (g:=iI) (o:=.cells #[.slice dX aY.length dW,.string aT,.string aU,.slice fQ aI.length eH] 25 (0,0)) (by (with_reducible repeat (first|refine au ?_ _|refine ay ?_|refine ak ?_ _));exact dJ.out) hb);have dO:=ae.mk (bf (g:=eQ) (o:=.cells #[.int .u8 bT,.int .u8 gp,.int .u8 gJ,.int .u8 ik,.int .i64 gX] 55 (0,0)) (by (with_reducible repeat (first|refine au ?_ _|refine ay ?_|refine ak ?_ _));exact bG.out) hb);have gQ:=ae.mk (bg (by repeat (first|(with_reducible first|exact HB.out|apply ah|apply af|apply ai|refine aj ?_ iP.out|refine aj ?_ iQ.out)|exact HB.out)) hb);clear dJ;clear bG;clear HB;have kT:=dS;have dJ:=dR;have bG:=dO;have HB:=gQ;clear dS dR dO gQ;clear hb NR;obtain ⟨akN,akv,akd⟩:=Kd.jy kT.out;subst akd)|((with_reducible refine bu (f:=55) rfl ?_);refine dQ (some 67) rfl rfl Tryd.func55 (by kernel_rfl) rfl #[.slice akN ML.length akv] rfl (by (try simp only [List.map_toArray,List.map_cons,List.map_nil]);first|done|rfl|(simp only [List.length_drop,List.length_take];rfl)) ?_;(with_reducible refine (dD.calls mY _ _ ML false _ ?bW ?df A52.out).mono ?_);(case bW=>repeat (first|exact (Kd.fK kT.out).2.2|(with_reducible refine Kd.bM ?_ _)|(with_reducible refine Kd.bK ?_ _)|(with_reducible refine Kd.dB ?_)));(case df=>exact (Kd.fK kT.out).2.1);rintro e w' ⟨rfl,⟨nd,rfl⟩⟩;refine ⟨_,rfl,?_⟩))
            go_ret
            exact ⟨by first|rfl|(simp [aQ,aN] <;> rfl)|(simp [*,aQ,aN] <;> rfl),by repeat (first|(with_reducible first|exact HB.out|apply ah|apply af|apply ai|refine aj ?_ iP.out|refine aj ?_ iQ.out)|exact HB.out)⟩
          ·
           rw [if_neg c51] at H
           have ab2:(bT == 9)=false:=beq_eq_false_iff_ne.mpr c51
           have ab1:(bT != 9)=true:=bne_iff_ne.mpr c51
           by_cases YN:bT=10
           ·
            rw [if_pos YN] at H
            have abV:(bT == 10)=true:=beq_iff_eq.mpr YN
            have abU:(bT != 10)=false:=bne_eq_false_iff_eq.mpr YN
            clear YN
            replace H:=Option.bind_eq_some_iff.mp H
            obtain ⟨⟨t145,t146⟩,adb,H⟩:=H
            replace H:((gU.f t124 t145).bind fun t147=>(some t147))=some r:=H
            have A69:=ae.mk adb
            clear adb
            replace H:=Option.bind_eq_some_iff.mp H
            obtain ⟨t147,ada,H⟩:=H
            replace H:(some t147)=some r:=H
            have Zi:=ae.mk ada
            clear ada
            obtain rfl:=Option.some.inj H
            have alz:=kM.out
            have ak5:=kL.out
            have ahz:wc.cell? ⟨iI,0,none⟩=some (.slice dX aY.length dW):=(ax dJ.out 0).trans rfl
            have ahy:wc.cell? ⟨iI,1,none⟩=some (.string aT):=(ax dJ.out 1).trans rfl
            have ahx:wc.cell? ⟨iI,2,none⟩=some (.string aU):=(ax dJ.out 2).trans rfl
            have ahw:wc.cell? ⟨iI,3,none⟩=some (.slice fQ aI.length eH):=(ax dJ.out 3).trans rfl
            have afj:=aC dJ.out 0
            have afi:=aC dJ.out 1
            have afh:=aC dJ.out 2
            have afg:=aC dJ.out 3
            have ahv:wc.cell? ⟨eQ,0,none⟩=some (.int .u8 bT):=(ax bG.out 0).trans rfl
            have ahu:wc.cell? ⟨eQ,1,none⟩=some (.int .u8 gp):=(ax bG.out 1).trans rfl
            have aht:wc.cell? ⟨eQ,2,none⟩=some (.int .u8 gJ):=(ax bG.out 2).trans rfl
            have ahs:wc.cell? ⟨eQ,3,none⟩=some (.int .u8 ik):=(ax bG.out 3).trans rfl
            have ahr:wc.cell? ⟨eQ,4,none⟩=some (.int .i64 gX):=(ax bG.out 4).trans rfl
            have aff:=aC bG.out 0
            have afe:=aC bG.out 1
            have afd:=aC bG.out 2
            have afc:=aC bG.out 3
            have afb:=aC bG.out 4
            go_wp2_with (first|((with_reducible refine bu (f:=58) rfl ?_);refine dQ (some 82) rfl rfl Tryd.func58 (by kernel_rfl) rfl #[.agg #[.slice dX aY.length dW,.string aT,.string aU,.slice fQ aI.length eH],.int .i64 t125,.int .i64 gX] rfl (by (try simp only [List.map_toArray,List.map_cons,List.map_nil]);first|done|rfl|(simp only [List.length_drop,List.length_take];rfl)) ?_;(with_reducible refine (gK.calls mY _ _ aY aT aU _ _ aI t125 gX t145 t146 _ ?bW ?df ?iM ?iL A69.out).mono ?_);(case bW=>repeat (first|exact (Kd.bJ iq.out HB.out)|(with_reducible refine Kd.bM ?_ _)|(with_reducible refine Kd.bK ?_ _)|(with_reducible refine Kd.dB ?_)));(case df=>exact iC.out);(case iM=>repeat (first|exact (Kd.bJ jB.out HB.out)|(with_reducible refine Kd.bM ?_ _)|(with_reducible refine Kd.bK ?_ _)|(with_reducible refine Kd.dB ?_)));(case iL=>exact jS.out);rintro e w74 ⟨rfl,hb⟩;refine ⟨_,rfl,?_⟩;have dS:=ae.mk (bf (g:=iI) (o:=.cells #[.slice dX aY.length dW,.string aT,.string aU,.slice fQ aI.length eH] 25 (0,0)) (by (with_reducible repeat (first|refine au ?_ _|refine ay ?_|refine ak ?_ _));exact dJ.out) hb);have dR:=ae.mk (bf (g:=eQ) (o:=.cells #[.int .u8 bT,.int .u8 gp,.int .u8 gJ,.int .u8 ik,.int .i64 gX] 55 (0,0)) (by (with_reducible repeat (first|refine au ?_ _|refine ay ?_|refine ak ?_ _));exact bG.out) hb);have dO:=ae.mk (bg (by repeat (first|(with_reducible first|exact HB.out|apply ah|apply af|apply ai|refine aj ?_ iP.out|refine aj ?_ iQ.out)|exact HB.out)) hb);clear dJ;clear bG;clear HB;have dJ:=dS;have bG:=dR;have HB:=dO;clear dS dR dO;(try clear hb);(try clear hb2);(try clear hk);(try clear hi))|((with_reducible refine bu (f:=56) rfl ?_);refine dQ (some 87) rfl rfl Tryd.func56 (by kernel_rfl) rfl #[.int .i64 t124,.int .i64 t145] rfl (by (try simp only [List.map_toArray,List.map_cons,List.map_nil]);first|done|rfl|(simp only [List.length_drop,List.length_take];rfl)) ?_;(with_reducible refine (gU.calls t124 t145 t147 _ Zi.out).mono ?_);rintro e w' ⟨rfl,⟨nd,rfl⟩⟩;refine ⟨_,rfl,?_⟩))
            go_ret
            exact ⟨by first|rfl|(simp [aQ,aN] <;> rfl)|(simp [*,aQ,aN] <;> rfl),by repeat (first|(with_reducible first|exact HB.out|apply ah|apply af|apply ai|refine aj ?_ iP.out|refine aj ?_ iQ.out)|exact HB.out)⟩
           ·
            rw [if_neg YN] at H
            have abV:(bT == 10)=false:=beq_eq_false_iff_ne.mpr YN
            have abU:(bT != 10)=true:=bne_iff_ne.mpr YN
            by_cases c75:bT=11
            ·
             rw [if_pos c75] at H
             have abT:(bT == 11)=true:=beq_iff_eq.mpr c75
             have abS:(bT != 11)=false:=bne_eq_false_iff_eq.mpr c75
             clear c75
             replace H:=Option.bind_eq_some_iff.mp H
             obtain ⟨⟨t148,t149⟩,ac9,H⟩:=H
             replace H:((gU.f t125 t148).bind fun t150=>(some t150))=some r:=H
             have A76:=ae.mk ac9
             clear ac9
             replace H:=Option.bind_eq_some_iff.mp H
             obtain ⟨t150,ac8,H⟩:=H
             replace H:(some t150)=some r:=H
             have A77:=ae.mk ac8
             clear ac8
             obtain rfl:=Option.some.inj H
             have aly:=kM.out
             have ak4:=kL.out
             have ahq:wc.cell? ⟨iI,0,none⟩=some (.slice dX aY.length dW):=(ax dJ.out 0).trans rfl
             have ahp:wc.cell? ⟨iI,1,none⟩=some (.string aT):=(ax dJ.out 1).trans rfl
             have aho:wc.cell? ⟨iI,2,none⟩=some (.string aU):=(ax dJ.out 2).trans rfl
             have ahn:wc.cell? ⟨iI,3,none⟩=some (.slice fQ aI.length eH):=(ax dJ.out 3).trans rfl
             have afa:=aC dJ.out 0
             have ae9:=aC dJ.out 1
             have ae8:=aC dJ.out 2
             have ae7:=aC dJ.out 3
             have ahm:wc.cell? ⟨eQ,0,none⟩=some (.int .u8 bT):=(ax bG.out 0).trans rfl
             have ahl:wc.cell? ⟨eQ,1,none⟩=some (.int .u8 gp):=(ax bG.out 1).trans rfl
             have ahk:wc.cell? ⟨eQ,2,none⟩=some (.int .u8 gJ):=(ax bG.out 2).trans rfl
             have ahj:wc.cell? ⟨eQ,3,none⟩=some (.int .u8 ik):=(ax bG.out 3).trans rfl
             have ahi:wc.cell? ⟨eQ,4,none⟩=some (.int .i64 gX):=(ax bG.out 4).trans rfl
             have ae6:=aC bG.out 0
             have ae5:=aC bG.out 1
             have ae4:=aC bG.out 2
             have ae3:=aC bG.out 3
             have ae2:=aC bG.out 4
             go_wp2_with (first|((with_reducible refine bu (f:=58) rfl ?_);refine dQ (some 95) rfl rfl Tryd.func58 (by kernel_rfl) rfl #[.agg #[.slice dX aY.length dW,.string aT,.string aU,.slice fQ aI.length eH],.int .i64 t124,.int .i64 gX] rfl (by (try simp only [List.map_toArray,List.map_cons,List.map_nil]);first|done|rfl|(simp only [List.length_drop,List.length_take];rfl)) ?_;(with_reducible refine (gK.calls mY _ _ aY aT aU _ _ aI t124 gX t148 t149 _ ?bW ?df ?iM ?iL A76.out).mono ?_);(case bW=>repeat (first|exact (Kd.bJ iq.out HB.out)|(with_reducible refine Kd.bM ?_ _)|(with_reducible refine Kd.bK ?_ _)|(with_reducible refine Kd.dB ?_)));(case df=>exact iC.out);(case iM=>repeat (first|exact (Kd.bJ jB.out HB.out)|(with_reducible refine Kd.bM ?_ _)|(with_reducible refine Kd.bK ?_ _)|(with_reducible refine Kd.dB ?_)));(case iL=>exact jS.out);rintro e w81 ⟨rfl,hb⟩;refine ⟨_,rfl,?_⟩;have dS:=ae.mk (bf (g:=iI) (o:=.cells #[.slice dX aY.length dW,.string aT,.string aU,.slice fQ aI.length eH] 25 (0,0)) (by (with_reducible repeat (first|refine au ?_ _|refine ay ?_|refine ak ?_ _));exact dJ.out) hb);have dR:=ae.mk (bf (g:=eQ) (o:=.cells #[.int .u8 bT,.int .u8 gp,.int .u8 gJ,.int .u8 ik,.int .i64 gX] 55 (0,0)) (by (with_reducible repeat (first|refine au ?_ _|refine ay ?_|refine ak ?_ _));exact bG.out) hb);have dO:=ae.mk (bg (by repeat (first|(with_reducible first|exact HB.out|apply ah|apply af|apply ai|refine aj ?_ iP.out|refine aj ?_ iQ.out)|exact HB.out)) hb);clear dJ;clear bG;clear HB;have dJ:=dS;have bG:=dR;have HB:=dO;clear dS dR dO;(try clear hb);(try clear hb2);(try clear hk);(try clear hi))|((with_reducible refine bu (f:=56) rfl ?_);refine dQ (some 100) rfl rfl Tryd.func56 (by kernel_rfl) rfl #[.int .i64 t125,.int .i64 t148] rfl (by (try simp only [List.map_toArray,List.map_cons,List.map_nil]);first|done|rfl|(simp only [List.length_drop,List.length_take];rfl)) ?_;(with_reducible refine (gU.calls t125 t148 t150 _ A77.out).mono ?_);rintro e w' ⟨rfl,⟨nd,rfl⟩⟩;refine ⟨_,rfl,?_⟩))
             go_ret
             exact ⟨by first|rfl|(simp [aQ,aN] <;> rfl)|(simp [*,aQ,aN] <;> rfl),by repeat (first|(with_reducible first|exact HB.out|apply ah|apply af|apply ai|refine aj ?_ iP.out|refine aj ?_ iQ.out)|exact HB.out)⟩
            ·
             rw [if_neg c75] at H
             have abT:(bT == 11)=false:=beq_eq_false_iff_ne.mpr c75
             have abS:(bT != 11)=true:=bne_iff_ne.mpr c75
             by_cases YM:bT=12
             ·
              rw [if_pos YM] at H
              have abR:(bT == 12)=true:=beq_iff_eq.mpr YM
              have abQ:(bT != 12)=false:=bne_eq_false_iff_eq.mpr YM
              clear YM
              replace H:=Option.bind_eq_some_iff.mp H
              obtain ⟨t151,ac7,H⟩:=H
              replace H:((gU.f t124 t151).bind fun t152=>(some t152))=some r:=H
              have A83:=ae.mk ac7
              clear ac7
              replace H:=Option.bind_eq_some_iff.mp H
              obtain ⟨t152,ac6,H⟩:=H
              replace H:(some t152)=some r:=H
              have A84:=ae.mk ac6
              clear ac6
              obtain rfl:=Option.some.inj H
              have alx:=kM.out
              have ak3:=kL.out
              have ahh:wc.cell? ⟨iI,0,none⟩=some (.slice dX aY.length dW):=(ax dJ.out 0).trans rfl
              have ahg:wc.cell? ⟨iI,1,none⟩=some (.string aT):=(ax dJ.out 1).trans rfl
              have ahf:wc.cell? ⟨iI,2,none⟩=some (.string aU):=(ax dJ.out 2).trans rfl
              have ahe:wc.cell? ⟨iI,3,none⟩=some (.slice fQ aI.length eH):=(ax dJ.out 3).trans rfl
              have ae1:=aC dJ.out 0
              have ae0:=aC dJ.out 1
              have aeZ:=aC dJ.out 2
              have aeY:=aC dJ.out 3
              have ahd:wc.cell? ⟨eQ,0,none⟩=some (.int .u8 bT):=(ax bG.out 0).trans rfl
              have ahc:wc.cell? ⟨eQ,1,none⟩=some (.int .u8 gp):=(ax bG.out 1).trans rfl
              have ahb:wc.cell? ⟨eQ,2,none⟩=some (.int .u8 gJ):=(ax bG.out 2).trans rfl
              have aha:wc.cell? ⟨eQ,3,none⟩=some (.int .u8 ik):=(ax bG.out 3).trans rfl
              have ag9:wc.cell? ⟨eQ,4,none⟩=some (.int .i64 gX):=(ax bG.out 4).trans rfl
              have aeX:=aC bG.out 0
              have aeW:=aC bG.out 1
              have aeV:=aC bG.out 2
              have aeU:=aC bG.out 3
              have aeT:=aC bG.out 4
              go_wp2_with (first|((with_reducible refine bu (f:=59) rfl ?_);refine dQ (some 107) rfl rfl Tryd.func59 (by kernel_rfl) rfl #[.agg #[.slice dX aY.length dW,.string aT,.string aU,.slice fQ aI.length eH],.int .u8 gJ] rfl (by (try simp only [List.map_toArray,List.map_cons,List.map_nil]);first|done|rfl|(simp only [List.length_drop,List.length_take];rfl)) ?_;(with_reducible refine (jd.calls mY _ _ aY aT aU _ _ aI gJ t151 _ ?bW ?df ?iM ?iL A83.out).mono ?_);(case bW=>repeat (first|exact (Kd.bJ iq.out HB.out)|(with_reducible refine Kd.bM ?_ _)|(with_reducible refine Kd.bK ?_ _)|(with_reducible refine Kd.dB ?_)));(case df=>exact iC.out);(case iM=>repeat (first|exact (Kd.bJ jB.out HB.out)|(with_reducible refine Kd.bM ?_ _)|(with_reducible refine Kd.bK ?_ _)|(with_reducible refine Kd.dB ?_)));(case iL=>exact jS.out);rintro e w88 ⟨rfl,hb⟩;refine ⟨_,rfl,?_⟩;have dS:=ae.mk (bf (g:=iI) (o:=.cells #[.slice dX aY.length dW,.string aT,.string aU,.slice fQ aI.length eH] 25 (0,0)) (by (with_reducible repeat (first|refine au ?_ _|refine ay ?_|refine ak ?_ _));exact dJ.out) hb);have dR:=ae.mk (bf (g:=eQ) (o:=.cells #[.int .u8 bT,.int .u8 gp,.int .u8 gJ,.int .u8 ik,.int .i64 gX] 55 (0,0)) (by (with_reducible repeat (first|refine au ?_ _|refine ay ?_|refine ak ?_ _));exact bG.out) hb);have dO:=ae.mk (bg (by repeat (first|(with_reducible first|exact HB.out|apply ah|apply af|apply ai|refine aj ?_ iP.out|refine aj ?_ iQ.out)|exact HB.out)) hb);clear dJ;clear bG;clear HB;have dJ:=dS;have bG:=dR;have HB:=dO;clear dS dR dO;(try clear hb);(try clear hb2);(try clear hk);(try clear hi))|((with_reducible refine bu (f:=56) rfl ?_);refine dQ (some 108) rfl rfl Tryd.func56 (by kernel_rfl) rfl #[.int .i64 t124,.int .i64 t151] rfl (by (try simp only [List.map_toArray,List.map_cons,List.map_nil]);first|done|rfl|(simp only [List.length_drop,List.length_take];rfl)) ?_;(with_reducible refine (gU.calls t124 t151 t152 _ A84.out).mono ?_);rintro e w' ⟨rfl,⟨nd,rfl⟩⟩;refine ⟨_,rfl,?_⟩))
              go_ret
              exact ⟨by first|rfl|(simp [aQ,aN] <;> rfl)|(simp [*,aQ,aN] <;> rfl),by repeat (first|(with_reducible first|exact HB.out|apply ah|apply af|apply ai|refine aj ?_ iP.out|refine aj ?_ iQ.out)|exact HB.out)⟩
             ·
              rw [if_neg YM] at H
              have abR:(bT == 12)=false:=beq_eq_false_iff_ne.mpr YM
              have abQ:(bT != 12)=true:=bne_iff_ne.mpr YM
              by_cases YL:bT=13
              ·
               rw [if_pos YL] at H
               have abP:(bT == 13)=true:=beq_iff_eq.mpr YL
               have abO:(bT != 13)=false:=bne_eq_false_iff_eq.mpr YL
               clear YL
               replace H:=Option.bind_eq_some_iff.mp H
               obtain ⟨t153,ac5,H⟩:=H
               replace H:((gU.f t125 t153).bind fun t154=>(some t154))=some r:=H
               have MC:=ae.mk ac5
               clear ac5
               replace H:=Option.bind_eq_some_iff.mp H
               obtain ⟨t154,ac4,H⟩:=H
               replace H:(some t154)=some r:=H
               have A91:=ae.mk ac4
               clear ac4
               obtain rfl:=Option.some.inj H
               have alv:=kM.out
               have ak2:=kL.out
               have ag8:wc.cell? ⟨iI,0,none⟩=some (.slice dX aY.length dW):=(ax dJ.out 0).trans rfl
               have ag7:wc.cell? ⟨iI,1,none⟩=some (.string aT):=(ax dJ.out 1).trans rfl
               have ag6:wc.cell? ⟨iI,2,none⟩=some (.string aU):=(ax dJ.out 2).trans rfl
               have ag5:wc.cell? ⟨iI,3,none⟩=some (.slice fQ aI.length eH):=(ax dJ.out 3).trans rfl
               have aeS:=aC dJ.out 0
               have aeR:=aC dJ.out 1
               have aeQ:=aC dJ.out 2
               have aeP:=aC dJ.out 3
               have ag4:wc.cell? ⟨eQ,0,none⟩=some (.int .u8 bT):=(ax bG.out 0).trans rfl
               have ag3:wc.cell? ⟨eQ,1,none⟩=some (.int .u8 gp):=(ax bG.out 1).trans rfl
               have ag2:wc.cell? ⟨eQ,2,none⟩=some (.int .u8 gJ):=(ax bG.out 2).trans rfl
               have ag1:wc.cell? ⟨eQ,3,none⟩=some (.int .u8 ik):=(ax bG.out 3).trans rfl
               have ag0:wc.cell? ⟨eQ,4,none⟩=some (.int .i64 gX):=(ax bG.out 4).trans rfl
               have aeO:=aC bG.out 0
               have aeN:=aC bG.out 1
               have aeM:=aC bG.out 2
               have aeL:=aC bG.out 3
               have aeK:=aC bG.out 4
               go_wp2_with (first|((with_reducible refine bu (f:=59) rfl ?_);refine dQ (some 115) rfl rfl Tryd.func59 (by kernel_rfl) rfl #[.agg #[.slice dX aY.length dW,.string aT,.string aU,.slice fQ aI.length eH],.int .u8 gp] rfl (by (try simp only [List.map_toArray,List.map_cons,List.map_nil]);first|done|rfl|(simp only [List.length_drop,List.length_take];rfl)) ?_;(with_reducible refine (jd.calls mY _ _ aY aT aU _ _ aI gp t153 _ ?bW ?df ?iM ?iL MC.out).mono ?_);(case bW=>repeat (first|exact (Kd.bJ iq.out HB.out)|(with_reducible refine Kd.bM ?_ _)|(with_reducible refine Kd.bK ?_ _)|(with_reducible refine Kd.dB ?_)));(case df=>exact iC.out);(case iM=>repeat (first|exact (Kd.bJ jB.out HB.out)|(with_reducible refine Kd.bM ?_ _)|(with_reducible refine Kd.bK ?_ _)|(with_reducible refine Kd.dB ?_)));(case iL=>exact jS.out);rintro e w95 ⟨rfl,hb⟩;refine ⟨_,rfl,?_⟩;have dS:=ae.mk (bf (g:=iI) (o:=.cells #[.slice dX aY.length dW,.string aT,.string aU,.slice fQ aI.length eH] 25 (0,0)) (by (with_reducible repeat (first|refine au ?_ _|refine ay ?_|refine ak ?_ _));exact dJ.out) hb);have dR:=ae.mk (bf (g:=eQ) (o:=.cells #[.int .u8 bT,.int .u8 gp,.int .u8 gJ,.int .u8 ik,.int .i64 gX] 55 (0,0)) (by (with_reducible repeat (first|refine au ?_ _|refine ay ?_|refine ak ?_ _));exact bG.out) hb);have dO:=ae.mk (bg (by repeat (first|(with_reducible first|exact HB.out|apply ah|apply af|apply ai|refine aj ?_ iP.out|refine aj ?_ iQ.out)|exact HB.out)) hb);clear dJ;clear bG;clear HB;have dJ:=dS;have bG:=dR;have HB:=dO;clear dS dR dO;(try clear hb);(try clear hb2);(try clear hk);(try clear hi))|((with_reducible refine bu (f:=56) rfl ?_);refine dQ (some 116) rfl rfl Tryd.func56 (by kernel_rfl) rfl #[.int .i64 t125,.int .i64 t153] rfl (by (try simp only [List.map_toArray,List.map_cons,List.map_nil]);first|done|rfl|(simp only [List.length_drop,List.length_take];rfl)) ?_;(with_reducible refine (gU.calls t125 t153 t154 _ A91.out).mono ?_);rintro e w' ⟨rfl,⟨nd,rfl⟩⟩;refine ⟨_,rfl,?_⟩))
               go_ret
               exact ⟨by first|rfl|(simp [aQ,aN] <;> rfl)|(simp [*,aQ,aN] <;> rfl),by repeat (first|(with_reducible first|exact HB.out|apply ah|apply af|apply ai|refine aj ?_ iP.out|refine aj ?_ iQ.out)|exact HB.out)⟩
              ·
               rw [if_neg YL] at H
               have abP:(bT == 13)=false:=beq_eq_false_iff_ne.mpr YL
               have abO:(bT != 13)=true:=bne_iff_ne.mpr YL
               by_cases YK:bT=15
               ·
                rw [if_pos YK] at H
                have abN:(bT == 15)=true:=beq_iff_eq.mpr YK
                have abM:(bT != 15)=false:=bne_eq_false_iff_eq.mpr YK
                clear YK
                obtain ⟨MK,Eo⟩:∃ y_:List Int,y_=(([gp]:List Int)):=⟨_,rfl⟩
                replace H:((dD.f mY MK).bind fun t158=>(if t158=true then ((gq.f mY aY aT aU aI ik).bind fun t159=>((gU.f t125 t159).bind fun t160=>(some t160))) else (some false)))=some r:=by first|(rw [Eo];with_reducible exact H)|(have sS:=(Option.bind_some _ _).symm.trans H;rw [Eo];with_reducible exact sS)|(have sS:=(Option.bind_some _ _).symm.trans H;with_reducible exact sS)|with_reducible exact H|(rw [Eo];exact H)|exact H
                have Kv:=ae.mk Eo
                clear Eo
                replace H:=Option.bind_eq_some_iff.mp H
                obtain ⟨t158,ac3,H⟩:=H
                replace H:(if t158=true then ((gq.f mY aY aT aU aI ik).bind fun t159=>((gU.f t125 t159).bind fun t160=>(some t160))) else (some false))=some r:=H
                have A97:=ae.mk ac3
                clear ac3
                by_cases c98:t158=true
                ·
                 subst c98
                 have H1:((gq.f mY aY aT aU aI ik).bind fun t159=>((gU.f t125 t159).bind fun t160=>(some t160)))=some r:=by rw [if_pos rfl] at H;exact H
                 clear H
                 have H:=H1
                 clear H1
                 replace H:=Option.bind_eq_some_iff.mp H
                 obtain ⟨t159,ac2,H⟩:=H
                 replace H:((gU.f t125 t159).bind fun t160=>(some t160))=some r:=H
                 have A99:=ae.mk ac2
                 clear ac2
                 replace H:=Option.bind_eq_some_iff.mp H
                 obtain ⟨t160,Xk,H⟩:=H
                 replace H:(some t160)=some r:=H
                 have Ba:=ae.mk Xk
                 clear Xk
                 obtain rfl:=Option.some.inj H
                 have ajC:=kL.out
                 have ajA:=kM.out
                 have aa9:wc.cell? ⟨eQ,0,none⟩=some (.int .u8 bT):=(ax bG.out 0).trans rfl
                 have aa8:wc.cell? ⟨eQ,1,none⟩=some (.int .u8 gp):=(ax bG.out 1).trans rfl
                 have aa7:wc.cell? ⟨eQ,2,none⟩=some (.int .u8 gJ):=(ax bG.out 2).trans rfl
                 have aa6:wc.cell? ⟨eQ,3,none⟩=some (.int .u8 ik):=(ax bG.out 3).trans rfl
                 have aa5:wc.cell? ⟨eQ,4,none⟩=some (.int .i64 gX):=(ax bG.out 4).trans rfl
                 have aaQ:=aC bG.out 0
                 have aaP:=aC bG.out 1
                 have aaO:=aC bG.out 2
                 have aaN:=aC bG.out 3
                 have aaM:=aC bG.out 4
                 go_wp2_with (first|((with_reducible refine dN (N:=121) rfl ?_);refine Kd.uq (Kd.int .u8) _ 5 ?hg (N:=121) ?hd (xs:=([gp]:List Int)) (inner:=[.int .u8 gp]) (ok:=fun _=>True) (pq:=fun _=>True) ?hr ?hp (fun _ hk=>hk) trivial (Below.refl _ _) (Nat.le_refl _) (by simp) ?_;(case hd=>rfl);(case hg=>rfl);(case hr=>first|(go_simp;done)|(go_simp;rfl));(case hp=>exact (jg.one (show Kd.M (Kd.int .u8) _ _ _ gp [.int .u8 gp] from rfl) (jg.none _ _)));intro ajp Cj EC hb AP nM;clear AP nM;(first|rw [← Kv.out] at EC|(simp only [Int.reduceToNat] at EC;rw [← Kv.out] at EC));have dS:=ae.mk (Kd.je EC (bQ (by repeat (first|(with_reducible first|exact HB.out|apply ah|apply af|apply ai|refine aj ?_ iP.out|refine aj ?_ iQ.out)|exact HB.out))));have dR:=ae.mk (bf (g:=iI) (o:=.cells #[.slice dX aY.length dW,.string aT,.string aU,.slice fQ aI.length eH] 25 (0,0)) (by (with_reducible repeat (first|refine au ?_ _|refine ay ?_|refine ak ?_ _));exact dJ.out) hb);have dO:=ae.mk (bf (g:=eQ) (o:=.cells #[.int .u8 bT,.int .u8 gp,.int .u8 gJ,.int .u8 ik,.int .i64 gX] 55 (0,0)) (by (with_reducible repeat (first|refine au ?_ _|refine ay ?_|refine ak ?_ _));exact bG.out) hb);have gQ:=ae.mk (bg (by repeat (first|(with_reducible first|exact HB.out|apply ah|apply af|apply ai|refine aj ?_ iP.out|refine aj ?_ iQ.out)|exact HB.out)) hb);clear dJ;clear bG;clear HB;have vN:=dS;have dJ:=dR;have bG:=dO;have HB:=gQ;clear dS dR dO gQ;clear hb EC;obtain ⟨ac1,abL,abt⟩:=Kd.jy vN.out;subst abt)|((with_reducible refine bu (f:=55) rfl ?_);refine dQ (some 122) rfl rfl Tryd.func55 (by kernel_rfl) rfl #[.slice ac1 MK.length abL] rfl (by (try simp only [List.map_toArray,List.map_cons,List.map_nil]);first|done|rfl|(simp only [List.length_drop,List.length_take];rfl)) ?_;(with_reducible refine (dD.calls mY _ _ MK true _ ?bW ?df A97.out).mono ?_);(case bW=>repeat (first|exact (Kd.fK vN.out).2.2|(with_reducible refine Kd.bM ?_ _)|(with_reducible refine Kd.bK ?_ _)|(with_reducible refine Kd.dB ?_)));(case df=>exact (Kd.fK vN.out).2.1);rintro e w' ⟨rfl,⟨nd,rfl⟩⟩;refine ⟨_,rfl,?_⟩;have aa4:Cj.cell? ⟨iI,0,none⟩=some (.slice dX aY.length dW):=(ax dJ.out 0).trans rfl;have aa3:Cj.cell? ⟨iI,1,none⟩=some (.string aT):=(ax dJ.out 1).trans rfl;have aa2:Cj.cell? ⟨iI,2,none⟩=some (.string aU):=(ax dJ.out 2).trans rfl;have aa1:Cj.cell? ⟨iI,3,none⟩=some (.slice fQ aI.length eH):=(ax dJ.out 3).trans rfl;have aaL:=aC dJ.out 0;have aaK:=aC dJ.out 1;have aaJ:=aC dJ.out 2;have aaI:=aC dJ.out 3;have aa0:Cj.cell? ⟨eQ,0,none⟩=some (.int .u8 bT):=(ax bG.out 0).trans rfl;have aaZ:Cj.cell? ⟨eQ,1,none⟩=some (.int .u8 gp):=(ax bG.out 1).trans rfl;have aaY:Cj.cell? ⟨eQ,2,none⟩=some (.int .u8 gJ):=(ax bG.out 2).trans rfl;have aaX:Cj.cell? ⟨eQ,3,none⟩=some (.int .u8 ik):=(ax bG.out 3).trans rfl;have aaW:Cj.cell? ⟨eQ,4,none⟩=some (.int .i64 gX):=(ax bG.out 4).trans rfl;have aaH:=aC bG.out 0;have aaG:=aC bG.out 1;have aaF:=aC bG.out 2;have aaE:=aC bG.out 3;have aaD:=aC bG.out 4)|(go_at_call 36;(with_reducible refine (gq.calls mY _ _ aY aT aU _ _ aI ik t159 _ ?bW ?df ?iM ?iL A99.out).mono ?_);(case bW=>repeat (first|exact (Kd.bJ iq.out (by repeat (first|(with_reducible first|exact HB.out|apply ah|apply af|apply ai|refine aj ?_ iP.out|refine aj ?_ iQ.out)|exact HB.out)))|(with_reducible refine Kd.bM ?_ _)|(with_reducible refine Kd.bK ?_ _)|(with_reducible refine Kd.dB ?_)));(case df=>exact iC.out);(case iM=>repeat (first|exact (Kd.bJ jB.out (by repeat (first|(with_reducible first|exact HB.out|apply ah|apply af|apply ai|refine aj ?_ iP.out|refine aj ?_ iQ.out)|exact HB.out)))|(with_reducible refine Kd.bM ?_ _)|(with_reducible refine Kd.bK ?_ _)|(with_reducible refine Kd.dB ?_)));(case iL=>exact jS.out);rintro e anv ⟨rfl,hb⟩;have dS:=ae.mk (Kd.ji (by (with_reducible repeat (first|apply Kd.iy|apply Kd.iw|apply Kd.jb));exact vN.out) hb);have dR:=ae.mk (bf (g:=iI) (o:=.cells #[.slice dX aY.length dW,.string aT,.string aU,.slice fQ aI.length eH] 25 (0,0)) (by (with_reducible repeat (first|refine au ?_ _|refine ay ?_|refine ak ?_ _));exact dJ.out) hb);have dO:=ae.mk (bf (g:=eQ) (o:=.cells #[.int .u8 bT,.int .u8 gp,.int .u8 gJ,.int .u8 ik,.int .i64 gX] 55 (0,0)) (by (with_reducible repeat (first|refine au ?_ _|refine ay ?_|refine ak ?_ _));exact bG.out) hb);have gQ:=ae.mk (bg (by repeat (first|(with_reducible first|exact HB.out|apply ah|apply af|apply ai|refine aj ?_ iP.out|refine aj ?_ iQ.out)|exact HB.out)) hb);clear vN;clear dJ;clear bG;clear HB;have vN:=dS;have dJ:=dR;have bG:=dO;have HB:=gQ;clear dS dR dO gQ;(try clear hb);(try clear hb2);(try clear hk);(try clear hi))|(go_at_call 56;(with_reducible refine (gU.calls t125 t159 t160 _ Ba.out).mono ?_);rintro e w' ⟨rfl,⟨nd,rfl⟩⟩))
                 go_ret
                 exact ⟨by first|rfl|(simp [aQ,aN] <;> rfl)|(simp [*,aQ,aN] <;> rfl),by repeat (first|(with_reducible first|exact HB.out|apply ah|apply af|apply ai|refine aj ?_ iP.out|refine aj ?_ iQ.out)|exact HB.out)⟩
                ·
                 replace c98:=Bool.eq_false_iff.mpr c98
                 subst c98
                 have H1:(some false)=some r:=by rw [if_neg (show ¬ (false=true) by decide)] at H;exact H
                 clear H
                 have H:=H1
                 clear H1
                 obtain rfl:=Option.some.inj H
                 have ajB:=kL.out
                 have ajz:=kM.out
                 have aaV:wc.cell? ⟨eQ,0,none⟩=some (.int .u8 bT):=(ax bG.out 0).trans rfl
                 have aaU:wc.cell? ⟨eQ,1,none⟩=some (.int .u8 gp):=(ax bG.out 1).trans rfl
                 have aaT:wc.cell? ⟨eQ,2,none⟩=some (.int .u8 gJ):=(ax bG.out 2).trans rfl
                 have aaS:wc.cell? ⟨eQ,3,none⟩=some (.int .u8 ik):=(ax bG.out 3).trans rfl
                 have aaR:wc.cell? ⟨eQ,4,none⟩=some (.int .i64 gX):=(ax bG.out 4).trans rfl
                 have aaC:=aC bG.out 0
                 have aaB:=aC bG.out 1
                 have aaA:=aC bG.out 2
                 have aaz:=aC bG.out 3
                 have aay:=aC bG.out 4
                 go_wp2_with (first|((with_reducible refine dN (N:=121) rfl ?_);refine Kd.uq (Kd.int .u8) _ 5 ?hg (N:=121) ?hd (xs:=([gp]:List Int)) (inner:=[.int .u8 gp]) (ok:=fun _=>True) (pq:=fun _=>True) ?hr ?hp (fun _ hk=>hk) trivial (Below.refl _ _) (Nat.le_refl _) (by simp) ?_;(case hd=>rfl);(case hg=>rfl);(case hr=>first|(go_simp;done)|(go_simp;rfl));(case hp=>exact (jg.one (show Kd.M (Kd.int .u8) _ _ _ gp [.int .u8 gp] from rfl) (jg.none _ _)));intro ajp anu Ez hb AP nM;clear AP nM;(first|rw [← Kv.out] at Ez|(simp only [Int.reduceToNat] at Ez;rw [← Kv.out] at Ez));have dS:=ae.mk (Kd.je Ez (bQ (by repeat (first|(with_reducible first|exact HB.out|apply ah|apply af|apply ai|refine aj ?_ iP.out|refine aj ?_ iQ.out)|exact HB.out))));have dR:=ae.mk (bf (g:=iI) (o:=.cells #[.slice dX aY.length dW,.string aT,.string aU,.slice fQ aI.length eH] 25 (0,0)) (by (with_reducible repeat (first|refine au ?_ _|refine ay ?_|refine ak ?_ _));exact dJ.out) hb);have dO:=ae.mk (bf (g:=eQ) (o:=.cells #[.int .u8 bT,.int .u8 gp,.int .u8 gJ,.int .u8 ik,.int .i64 gX] 55 (0,0)) (by (with_reducible repeat (first|refine au ?_ _|refine ay ?_|refine ak ?_ _));exact bG.out) hb);have gQ:=ae.mk (bg (by repeat (first|(with_reducible first|exact HB.out|apply ah|apply af|apply ai|refine aj ?_ iP.out|refine aj ?_ iQ.out)|exact HB.out)) hb);clear dJ;clear bG;clear HB;have vN:=dS;have dJ:=dR;have bG:=dO;have HB:=gQ;clear dS dR dO gQ;clear hb Ez;obtain ⟨ac0,abK,abr⟩:=Kd.jy vN.out;subst abr)|((with_reducible refine bu (f:=55) rfl ?_);refine dQ (some 122) rfl rfl Tryd.func55 (by kernel_rfl) rfl #[.slice ac0 MK.length abK] rfl (by (try simp only [List.map_toArray,List.map_cons,List.map_nil]);first|done|rfl|(simp only [List.length_drop,List.length_take];rfl)) ?_;(with_reducible refine (dD.calls mY _ _ MK false _ ?bW ?df A97.out).mono ?_);(case bW=>repeat (first|exact (Kd.fK vN.out).2.2|(with_reducible refine Kd.bM ?_ _)|(with_reducible refine Kd.bK ?_ _)|(with_reducible refine Kd.dB ?_)));(case df=>exact (Kd.fK vN.out).2.1);rintro e w' ⟨rfl,⟨nd,rfl⟩⟩;refine ⟨_,rfl,?_⟩))
                 go_ret
                 exact ⟨by first|rfl|(simp [aQ,aN] <;> rfl)|(simp [*,aQ,aN] <;> rfl),by repeat (first|(with_reducible first|exact HB.out|apply ah|apply af|apply ai|refine aj ?_ iP.out|refine aj ?_ iQ.out)|exact HB.out)⟩
               ·
                rw [if_neg YK] at H
                have abN:(bT == 15)=false:=beq_eq_false_iff_ne.mpr YK
                have abM:(bT != 15)=true:=bne_iff_ne.mpr YK
                obtain rfl:=Option.some.inj H
                go_wp2
                go_ret
                exact ⟨by first|rfl|(simp [aQ,aN] <;> rfl)|(simp [*,aQ,aN] <;> rfl),by repeat (first|(with_reducible first|exact HB.out|apply ah|apply af|apply ai|refine aj ?_ iP.out|refine aj ?_ iQ.out)|exact HB.out)⟩
end Go.Proofs.YtlemecdddhdagaaDoor.P
end
