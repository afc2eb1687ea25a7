/- Parts of the proof of ModelSteps: what the functions that it reaches compute, and plain facts about that. -/
import Derived.Test.YtlemecdddhdagaaDoorZab
import Derived.Test.YtlemecdddhdagaaDoorZad
import Derived.Test.YtlemecdddhdagaaDoorZae
set_option linter.unusedVariables false
set_option linter.unusedSimpArgs false
section
namespace Go.Proofs.YtlemecdddhdagaaDoor.P
open Go.RowKit Go.Proofs.af.bF Go.Proofs.af.dD Go.Proofs.af.dN
attribute [local go_sem] lF lC mP mO kE kD lD lu
mutual
def bV.j0:Nat→Int→Int→Int→Bool→List ByteArray→ByteArray→ByteArray→List (iD)→Int→Int→Int→Int→Int→Option (Bool)
 | 0,_,_,_,_,_,_,_,_,_,_,_,_,_=>none
 | k+1,x5,x6,x20,TD,qx,qw,qp,qo,Em,rY,vK,xK,uo=>if TD=true then ((dH.f k (([rY]:List Int))).bind fun t129=>(some t129)) else (if x20=2 then ((dH.f k (([rY,vK,xK]:List Int))).bind fun t133=>(some t133)) else (if x20=5 then (bV.j1 k x5 x6 x20 (x20 == 5) qx qw qp qo Em rY vK xK uo) else (bV.j1 k x5 x6 x20 (x20 == 6) qx qw qp qo Em rY vK xK uo)))
def bV.j1:Nat→Int→Int→Int→Bool→List ByteArray→ByteArray→ByteArray→List (iD)→Int→Int→Int→Int→Int→Option (Bool)
 | 0,_,_,_,_,_,_,_,_,_,_,_,_,_=>none
 | k+1,x5,x6,x20,x39,qx,qw,qp,qo,Em,rY,vK,xK,uo=>if x39=true then (some (decide (x5 ≥ 0))) else (if x20=7 then ((iw.f x5 x6).bind fun t134=>(some t134)) else (if x20=8 then ((dH.f k (([rY]:List Int))).bind fun t138=>(if t138=true then ((gY.f k qx qw qp qo x6 uo).bind fun t139=>(some t139)) else (some false))) else (if x20=9 then ((dH.f k (([vK]:List Int))).bind fun t143=>(if t143=true then ((gY.f k qx qw qp qo x5 uo).bind fun t144=>(some t144)) else (some false))) else (if x20=10 then ((ik.f k qx qw qp qo x6 uo).bind fun RS=>((iw.f x5 RS.1).bind fun t147=>(some t147))) else (if x20=11 then ((ik.f k qx qw qp qo x5 uo).bind fun RQ=>((iw.f x6 RQ.1).bind fun t150=>(some t150))) else (if x20=12 then ((jD.f k qx qw qp qo vK).bind fun t151=>((iw.f x5 t151).bind fun t152=>(some t152))) else (if x20=13 then ((jD.f k qx qw qp qo rY).bind fun t153=>((iw.f x6 t153).bind fun t154=>(some t154))) else (if x20=15 then ((dH.f k (([rY]:List Int))).bind fun t158=>(if t158=true then ((gG.f k qx qw qp qo xK).bind fun t159=>((iw.f x6 t159).bind fun t160=>(some t160))) else (some false))) else (some true)))))))))
end
def bV.f (k:Nat) (aZ:List ByteArray) (aV:ByteArray) (aW:ByteArray) (aI:List (iD)) (bZ:Int) (gB:Int) (ig:Int) (iH:Int) (iC:Int):Option (Bool):=(gG.f k aZ aV aW aI gB).bind fun t124=>((gG.f k aZ aV aW aI ig).bind fun t125=>(if bZ=1 then (bV.j0 k t124 t125 bZ (bZ == 1) aZ aV aW aI bZ gB ig iH iC) else (if bZ=4 then (bV.j0 k t124 t125 bZ (bZ == 4) aZ aV aW aI bZ gB ig iH iC) else (bV.j0 k t124 t125 bZ (bZ == 14) aZ aV aW aI bZ gB ig iH iC))))
theorem bV.iF:∀ k,(∀ y0 y1 y2 y3 y4 y5 y6 y7 y8 y9 AX Ip Io,dP (bV.j0 k y0 y1 y2 y3 y4 y5 y6 y7 y8 y9 AX Ip Io) (bV.j0 (k+1) y0 y1 y2 y3 y4 y5 y6 y7 y8 y9 AX Ip Io))∧(∀ y0 y1 y2 y3 y4 y5 y6 y7 y8 y9 AX Ip Io,dP (bV.j1 k y0 y1 y2 y3 y4 y5 y6 y7 y8 y9 AX Ip Io) (bV.j1 (k+1) y0 y1 y2 y3 y4 y5 y6 y7 y8 y9 AX Ip Io))
 | 0=>⟨fun _ _ _ _ _ _ _ _ _ _ _ _ _ r h=>by simp [bV.j0] at h,fun _ _ _ _ _ _ _ _ _ _ _ _ _ r h=>by simp [bV.j1] at h⟩
 | k+1=>by
  obtain ⟨lW,ih1⟩:=bV.iF k
  refine ⟨?_,?_⟩
  ·
   intro y0 y1 y2 y3 y4 y5 y6 y7 y8 y9 AX Ip Io
   unfold bV.j0
   repeat' with_reducible first|apply lW|apply ih1|apply jD.mono|apply gG.mono|apply ik.mono|apply dH.mono|apply gY.mono|exact dP.refl _|exact dP.none _|refine dP.ite ?_ ?_|refine dP.bind ?_ (fun _=>?_)
  ·
   intro y0 y1 y2 y3 y4 y5 y6 y7 y8 y9 AX Ip Io
   unfold bV.j1
   repeat' with_reducible first|apply lW|apply ih1|apply jD.mono|apply gG.mono|apply ik.mono|apply dH.mono|apply gY.mono|exact dP.refl _|exact dP.none _|refine dP.ite ?_ ?_|refine dP.bind ?_ (fun _=>?_)
theorem bV.mono:∀ a0 a1 a2 a3 a4 a5 a6 a7 a8 k,dP (bV.f k a0 a1 a2 a3 a4 a5 a6 a7 a8) (bV.f (k+1) a0 a1 a2 a3 a4 a5 a6 a7 a8):=by
 intro a0 a1 a2 a3 a4 a5 a6 a7 a8 k
 obtain ⟨lW,ih1⟩:=bV.iF k
 unfold bV.f
 repeat' with_reducible first|apply lW|apply ih1|apply jD.mono|apply gG.mono|apply ik.mono|apply dH.mono|apply gY.mono|exact dP.refl _|exact dP.none _|refine dP.ite ?_ ?_|refine dP.bind ?_ (fun _=>?_)
def bV.T1:Bool × List (List Nat × List Nat):=(true,[([],[]),([],[]),([1],[1]),([0,2],[0,2]),([],[]),([],[]),([5],[5]),([4,6,3],[4,6]),([3,7,0,1,2,3],[3]),([7,8,0,1,2,3,4,5,6,7,8],[7])])
def bV.B1:List Nat:=[0,0,2,7,0,0,32,127,255,511]
theorem bV.aac:qM .any (opsOf Tryd.f34 1)=bV.T1:=by kernel_rfl
theorem bV.RV:rZ bV.T1.2 bV.B1=true:=by kernel_rfl
set_option maxHeartbeats 8000000 in
set_option maxRecDepth 100000 in
theorem bV.calls (k:Nat) (eu:Option Addr) (ed:Nat) (aZ:List ByteArray) (aV:ByteArray) (aW:ByteArray) (gm:Option Addr) (eX:Nat) (aI:List (iD)) (bZ:Int) (gB:Int) (ig:Int) (iH:Int) (iC:Int) (r:Bool) (w:World) (jV:Kd.C Kd.string w eu aZ.length aZ) (jX:aZ.length≤ed) (jU:Kd.C uD w gm aI.length aI) (jW:aI.length≤eX) (h:bV.f k aZ aV aW aI bZ gB ig iH iC=some r) :
  Calls Tryd.prog 34 #[.agg #[.slice eu aZ.length ed,.string aV,.string aW,.slice gm aI.length eX],.agg #[.int .u8 bZ,.int .u8 gB,.int .u8 ig,.int .u8 iH,.int .i64 iC]] w fun e w'=>e=.returned (.bool r)∧Below w.heap.size w w':=by
 have yP:=Tryd.underlying25
 have CW:=Tryd.underlying55
 have iI:=ae.mk jV
 have iL:=ae.mk jX
 clear jV jX
 have jR:=ae.mk jU
 have kK:=ae.mk jW
 clear jU jW
 have HB:=ae.mk (Below.refl w.heap.size w)
 have H:((gG.f k aZ aV aW aI gB).bind fun t124=>((gG.f k aZ aV aW aI ig).bind fun t125=>(if bZ=1 then (bV.j0 k t124 t125 bZ (bZ == 1) aZ aV aW aI bZ gB ig iH iC) else (if bZ=4 then (bV.j0 k t124 t125 bZ (bZ == 4) aZ aV aW aI bZ gB ig iH iC) else (bV.j0 k t124 t125 bZ (bZ == 14) aZ aV aW aI bZ gB ig iH iC)))))=some r:=h
 clear h
 replace H:=Option.bind_eq_some_iff.mp H
 obtain ⟨t124,yF,H⟩:=H
 replace H:((gG.f k aZ aV aW aI ig).bind fun t125=>(if bZ=1 then (bV.j0 k t124 t125 bZ (bZ == 1) aZ aV aW aI bZ gB ig iH iC) else (if bZ=4 then (bV.j0 k t124 t125 bZ (bZ == 4) aZ aV aW aI bZ gB ig iH iC) else (bV.j0 k t124 t125 bZ (bZ == 14) aZ aV aW aI bZ gB ig iH iC))))=some r:=H
 have A3:=ae.mk yF
 clear yF
 replace H:=Option.bind_eq_some_iff.mp H
 obtain ⟨t125,CO,H⟩:=H
 replace H:(if bZ=1 then (bV.j0 k t124 t125 bZ (bZ == 1) aZ aV aW aI bZ gB ig iH iC) else (if bZ=4 then (bV.j0 k t124 t125 bZ (bZ == 4) aZ aV aW aI bZ gB ig iH iC) else (bV.j0 k t124 t125 bZ (bZ == 14) aZ aV aW aI bZ gB ig iH iC)))=some r:=H
 have A4:=ae.mk CO
 clear CO
 have JB:=ae.mk H
 clear H
 go_enter Tryd.func34,Tryd.ntmps34
 try go_wp2_with (first|((with_reducible refine bD (N:=2) rfl ?_);refine fG ?hg (N:=2) ?hd (cs:=#[.slice eu aZ.length ed,.string aV,.string aW,.slice gm aI.length eX]) (t:=25) ?hr ?_;(case hd=>rfl);(case hg=>rfl);(case hr=>first|(go_simp;done)|(go_simp;rfl));intro iT hg w6 hbox hb;have dX:=ae.mk (bn (by repeat (first|(with_reducible first|exact HB.out|apply ah|apply ag|apply ai)|exact HB.out)) hb);have dW:=ae.mk (hbox);have dU:=ae.mk ((by rw [hg];exact (bY (by repeat (first|(with_reducible first|exact HB.out|apply ah|apply ag|apply ai)|exact HB.out))):w.heap.size≤iT));have iq:=dU;clear HB;have HB:=dX;have dQ:=dW;have aqO:=dU;have ja:=iq;clear dX dW dU iq;clear hb hbox hg)|((with_reducible refine bD (N:=3) rfl ?_);refine fG ?hg (N:=3) ?hd (cs:=#[.int .u8 bZ,.int .u8 gB,.int .u8 ig,.int .u8 iH,.int .i64 iC]) (t:=55) ?hr ?_;(case hd=>rfl);(case hg=>rfl);(case hr=>first|(go_simp;done)|(go_simp;rfl));intro fA hg w7 hbox hb;have dX:=ae.mk (bg (g:=iT) (o:=.cells #[.slice eu aZ.length ed,.string aV,.string aW,.slice gm aI.length eX] 25 (0,0)) (by (with_reducible repeat (first|refine au ?_ _|refine ay ?_|refine ak ?_ _));exact dQ.out) hb);have dW:=ae.mk (bn (by repeat (first|(with_reducible first|exact HB.out|apply ah|apply ag|apply ai|refine aj ?_ ja.out)|exact HB.out)) hb);have dU:=ae.mk (hbox);have iq:=ae.mk ((by rw [hg];exact (bY (by repeat (first|(with_reducible first|exact HB.out|apply ah|apply ag|apply ai|refine aj ?_ ja.out)|exact HB.out))):w.heap.size≤fA));have mr:=iq;have ny:=ae.mk ((by rw [hg];exact Nat.ne_of_lt (kR (g:=iT) (o:=.cells #[.slice eu aZ.length ed,.string aV,.string aW,.slice gm aI.length eX] 25 (0,0)) (by (with_reducible repeat (first|refine au ?_ _|refine ay ?_|refine ak ?_ _));exact dQ.out)):iT ≠ fA));have oz:=ae.mk ny.out.symm;clear dQ;clear HB;have dQ:=dX;have HB:=dW;have bK:=dU;have aqN:=iq;have jb:=mr;have lq:=ny;have lh:=oz;clear dX dW dU iq mr ny oz;clear hb hbox hg))
 have dX:=ae.mk (ay dQ.out)
 have dW:=ae.mk (ay bK.out)
 have dU:=ae.mk (ai HB.out)
 clear dQ
 clear bK
 clear HB
 have dQ:=dX
 have bK:=dW
 have HB:=dU
 clear dX dW dU
 refine qg (n:=10) (S:=fun w'=>w'.cell? ⟨iT,0,none⟩=some (.slice eu aZ.length ed)∧w'.cell? ⟨iT,1,none⟩=some (.string aV)∧w'.cell? ⟨iT,2,none⟩=some (.string aW)∧w'.cell? ⟨iT,3,none⟩=some (.slice gm aI.length eX)∧w'.cell? ⟨fA,0,none⟩=some (.int .u8 bZ)∧w'.cell? ⟨fA,1,none⟩=some (.int .u8 gB)∧w'.cell? ⟨fA,2,none⟩=some (.int .u8 ig)∧w'.cell? ⟨fA,3,none⟩=some (.int .u8 iH)∧w'.cell? ⟨fA,4,none⟩=some (.int .i64 iC)) (ds:=[]) #[false,false,false,false,false,false,false,false,false,false] (by kernel_rfl) rfl rfl ⟨(ax dQ.out 0).trans rfl,(ax dQ.out 1).trans rfl,(ax dQ.out 2).trans rfl,(ax dQ.out 3).trans rfl,(ax bK.out 0).trans rfl,(ax bK.out 1).trans rfl,(ax bK.out 2).trans rfl,(ax bK.out 3).trans rfl,(ax bK.out 4).trans rfl⟩ (fun hHeld=>?_);refine ry bV.aac bV.RV (fun lT Df=>?_)
 generalize w7.drew=w8 at dQ bK HB hHeld ⊢
 refine gZ (i:=1) (N:=some 12) (v:=?_) (a':=?_) #[false,true,false,false,false,false,false,false,false,false] rfl rfl (iP lT.out (by kernel_rfl)) (fun _ _ _ h=>h) (Or.inl ⟨by rfl,?_⟩) ?_ ?_
 rotate_left
 ·
  intro w'
  go_simp
  with_reducible rfl
 rotate_left
 ·
  simp only [Act.put,List.setIfInBounds_toArray,List.set_cons_zero,List.set_cons_succ,bT,bW]
  rfl
 refine gZ (i:=5) (N:=some 16) (v:=?_) (a':=?_) #[false,true,false,false,false,true,false,false,false,false] rfl rfl (iP lT.out (by kernel_rfl)) (fun _ _ _ h=>h) (Or.inl ⟨by rfl,?_⟩) ?_ ?_
 rotate_left
 ·
  intro w'
  go_simp
  with_reducible rfl
 rotate_left
 ·
  simp only [Act.put,List.setIfInBounds_toArray,List.set_cons_zero,List.set_cons_succ,bT,bW]
  rfl
 refine jY (i:=0) (N:=some 11) (v:=?_) (a':=?_) #[true,true,false,false,false,true,false,false,false,false] rfl rfl (kX lT.out Df.out (by kernel_rfl)) (fun _ _ _ h=>h) (Or.inl ⟨by rfl,?_⟩) hHeld ?_ ?_
 rotate_left
 ·
  rintro w' ⟨s0,s1,s2,s3,s4,s5,s6,s7,s8⟩
  go_simp
  with_reducible rfl
 rotate_left
 ·
  simp only [Act.put,List.setIfInBounds_toArray,List.set_cons_zero,List.set_cons_succ,bT,bW]
  rfl
 refine jY (i:=2) (N:=some 13) (v:=?_) (a':=?_) #[true,true,true,false,false,true,false,false,false,false] rfl rfl (kX lT.out Df.out (by kernel_rfl)) (fun _ _ _ h=>h) (Or.inl ⟨by rfl,?_⟩) hHeld ?_ ?_
 rotate_left
 ·
  rintro w' ⟨s0,s1,s2,s3,s4,s5,s6,s7,s8⟩
  go_simp
  with_reducible rfl
 rotate_left
 ·
  simp only [Act.put,List.setIfInBounds_toArray,List.set_cons_zero,List.set_cons_succ,bT,bW]
  rfl
 refine jY (i:=4) (N:=some 15) (v:=?_) (a':=?_) #[true,true,true,false,true,true,false,false,false,false] rfl rfl (kX lT.out Df.out (by kernel_rfl)) (fun _ _ _ h=>h) (Or.inl ⟨by rfl,?_⟩) hHeld ?_ ?_
 rotate_left
 ·
  rintro w' ⟨s0,s1,s2,s3,s4,s5,s6,s7,s8⟩
  go_simp
  with_reducible rfl
 rotate_left
 ·
  simp only [Act.put,List.setIfInBounds_toArray,List.set_cons_zero,List.set_cons_succ,bT,bW]
  rfl
 refine jY (i:=6) (N:=some 17) (v:=?_) (a':=?_) #[true,true,true,false,true,true,true,false,false,false] rfl rfl (kX lT.out Df.out (by kernel_rfl)) (fun _ _ _ h=>h) (Or.inl ⟨by rfl,?_⟩) hHeld ?_ ?_
 rotate_left
 ·
  rintro w' ⟨s0,s1,s2,s3,s4,s5,s6,s7,s8⟩
  go_simp
  with_reducible rfl
 rotate_left
 ·
  simp only [Act.put,List.setIfInBounds_toArray,List.set_cons_zero,List.set_cons_succ,bT,bW]
  rfl
 refine oP (i:=3) (N:=some 14) #[true,true,true,true,true,true,true,false,false,false] rfl rfl (nP lT.out (by kernel_rfl)) (by decide) (fun K hK=>?_)
 refine pz Tryd.func36 (by kernel_rfl) rfl #[.agg #[.slice eu aZ.length ed,.string aV,.string aW,.slice gm aI.length eX],.int .u8 gB] (by rfl) rfl rfl (by (try simp only [List.map_toArray,List.map_cons,List.map_nil]);first|done|rfl|(simp only [List.length_drop,List.length_take];rfl)) ?_
 with_reducible refine (gG.calls k _ _ aZ aV aW _ _ aI gB t124 _ ?df ?dA ?iY ?iW A3.out).mono ?_
 (case df=>repeat (first|exact (Kd.bJ iI.out HB.out)|(with_reducible refine Kd.bQ ?_ _)|(with_reducible refine Kd.bP ?_ _)|(with_reducible refine Kd.dF ?_)))
 (case dA=>exact iL.out)
 (case iY=>repeat (first|exact (Kd.bJ jR.out HB.out)|(with_reducible refine Kd.bQ ?_ _)|(with_reducible refine Kd.bP ?_ _)|(with_reducible refine Kd.dF ?_)))
 (case iW=>exact kK.out)
 rintro e w9 ⟨rfl,hb⟩
 refine ⟨_,rfl,?_⟩
 have dX:=ae.mk (bg (g:=iT) (o:=.cells #[.slice eu aZ.length ed,.string aV,.string aW,.slice gm aI.length eX] 25 (0,0)) (by (with_reducible repeat (first|refine au ?_ _|refine ay ?_|refine ak ?_ _));exact dQ.out) hb)
 have dW:=ae.mk (bg (g:=fA) (o:=.cells #[.int .u8 bZ,.int .u8 gB,.int .u8 ig,.int .u8 iH,.int .i64 iC] 55 (0,0)) (by (with_reducible repeat (first|refine au ?_ _|refine ay ?_|refine ak ?_ _));exact bK.out) hb)
 have dU:=ae.mk (bn (by repeat (first|(with_reducible first|exact HB.out|apply ah|apply ag|apply ai|refine aj ?_ ja.out|refine aj ?_ jb.out)|exact HB.out)) hb)
 clear dQ
 clear bK
 clear HB
 have dQ:=dX
 have bK:=dW
 have HB:=dU
 clear dX dW dU
 (try clear hb)
 (try clear hb2)
 (try clear hk)
 (try clear hi)
 refine hK.out _ _ ⟨(ax dQ.out 0).trans rfl,(ax dQ.out 1).trans rfl,(ax dQ.out 2).trans rfl,(ax dQ.out 3).trans rfl,(ax bK.out 0).trans rfl,(ax bK.out 1).trans rfl,(ax bK.out 2).trans rfl,(ax bK.out 3).trans rfl,(ax bK.out 4).trans rfl⟩ (fun hHeld=>?_)
 clear hK K
 refine je (a':=?_) ?_ ?_
 rotate_left
 ·
  show Act.put _ (some 14) _=_
  simp only [Act.put,List.setIfInBounds_toArray,List.set_cons_zero,List.set_cons_succ,bT,bW]
  rfl
 refine oP (i:=7) (N:=some 18) #[true,true,true,true,true,true,true,true,false,false] rfl rfl (nP lT.out (by kernel_rfl)) (by decide) (fun K hK=>?_)
 refine pz Tryd.func36 (by kernel_rfl) rfl #[.agg #[.slice eu aZ.length ed,.string aV,.string aW,.slice gm aI.length eX],.int .u8 ig] (by rfl) rfl rfl (by (try simp only [List.map_toArray,List.map_cons,List.map_nil]);first|done|rfl|(simp only [List.length_drop,List.length_take];rfl)) ?_
 with_reducible refine (gG.calls k _ _ aZ aV aW _ _ aI ig t125 _ ?df ?dA ?iY ?iW A4.out).mono ?_
 (case df=>repeat (first|exact (Kd.bJ iI.out HB.out)|(with_reducible refine Kd.bQ ?_ _)|(with_reducible refine Kd.bP ?_ _)|(with_reducible refine Kd.dF ?_)))
 (case dA=>exact iL.out)
 (case iY=>repeat (first|exact (Kd.bJ jR.out HB.out)|(with_reducible refine Kd.bQ ?_ _)|(with_reducible refine Kd.bP ?_ _)|(with_reducible refine Kd.dF ?_)))
 (case iW=>exact kK.out)
 rintro e w10 ⟨rfl,hb⟩
 refine ⟨_,rfl,?_⟩
 have dX:=ae.mk (bg (g:=iT) (o:=.cells #[.slice eu aZ.length ed,.string aV,.string aW,.slice gm aI.length eX] 25 (0,0)) (by (with_reducible repeat (first|refine au ?_ _|refine ay ?_|refine ak ?_ _));exact dQ.out) hb)
 have dW:=ae.mk (bg (g:=fA) (o:=.cells #[.int .u8 bZ,.int .u8 gB,.int .u8 ig,.int .u8 iH,.int .i64 iC] 55 (0,0)) (by (with_reducible repeat (first|refine au ?_ _|refine ay ?_|refine ak ?_ _));exact bK.out) hb)
 have dU:=ae.mk (bn (by repeat (first|(with_reducible first|exact HB.out|apply ah|apply ag|apply ai|refine aj ?_ ja.out|refine aj ?_ jb.out)|exact HB.out)) hb)
 clear dQ
 clear bK
 clear HB
 have dQ:=dX
 have bK:=dW
 have HB:=dU
 clear dX dW dU
 (try clear hb)
 (try clear hb2)
 (try clear hk)
 (try clear hi)
 refine hK.out _ _ ⟨(ax dQ.out 0).trans rfl,(ax dQ.out 1).trans rfl,(ax dQ.out 2).trans rfl,(ax dQ.out 3).trans rfl,(ax bK.out 0).trans rfl,(ax bK.out 1).trans rfl,(ax bK.out 2).trans rfl,(ax bK.out 3).trans rfl,(ax bK.out 4).trans rfl⟩ (fun hHeld=>?_)
 clear hK K
 refine je (a':=?_) ?_ ?_
 rotate_left
 ·
  show Act.put _ (some 18) _=_
  simp only [Act.put,List.setIfInBounds_toArray,List.set_cons_zero,List.set_cons_succ,bT,bW]
  rfl
 refine gZ (i:=8) (N:=some 5) (v:=?_) (a':=?_) #[true,true,true,true,true,true,true,true,true,false] rfl rfl (iP lT.out (by kernel_rfl)) (fun _ _ _ h=>h) (Or.inl ⟨by rfl,?_⟩) ?_ ?_
 rotate_left
 ·
  intro w'
  go_simp
  with_reducible rfl
 rotate_left
 ·
  simp only [Act.put,List.setIfInBounds_toArray,List.set_cons_zero,List.set_cons_succ,bT,bW]
  rfl
 refine gZ (i:=9) (N:=some 6) (v:=?_) (a':=?_) #[true,true,true,true,true,true,true,true,true,true] rfl rfl (iP lT.out (by kernel_rfl)) (fun _ _ _ h=>h) (Or.inl ⟨by rfl,?_⟩) ?_ ?_
 rotate_left
 ·
  intro w'
  go_simp
  with_reducible rfl
 rotate_left
 ·
  simp only [Act.put,List.setIfInBounds_toArray,List.set_cons_zero,List.set_cons_succ,bT,bW]
  rfl
 refine tq (wL lT.out (by kernel_rfl)) ?_
 have adB:=lh.out
 have adr:=lq.out
 have Fg:w10.cell? ⟨fA,0,none⟩=some (.int .u8 bZ):=(ax bK.out 0).trans rfl
 have Ff:w10.cell? ⟨fA,1,none⟩=some (.int .u8 gB):=(ax bK.out 1).trans rfl
 have Fe:w10.cell? ⟨fA,2,none⟩=some (.int .u8 ig):=(ax bK.out 2).trans rfl
 have Fb:w10.cell? ⟨fA,3,none⟩=some (.int .u8 iH):=(ax bK.out 3).trans rfl
 have X4:w10.cell? ⟨fA,4,none⟩=some (.int .i64 iC):=(ax bK.out 4).trans rfl
 have EX:=aC bK.out 0
 have EW:=aC bK.out 1
 have EU:=aC bK.out 2
 have ET:=aC bK.out 3
 have Wj:=aC bK.out 4
 go_upto_if 21 with (fail)
 go_cut [21] (fun v21 wc=>∃ (kq:Nat) (JH:Bool),v21=.bool JH∧ae (bV.j0 kq t124 t125 bZ JH aZ aV aW aI bZ gB ig iH iC=some r)∧ae (kq≤k)∧ae (wc.heap[iT]? = some (.cells #[(.slice eu aZ.length ed),.string aV,.string aW,(.slice gm aI.length eX)] 25 (0,0)))∧ae (wc.heap[fA]? = some (.cells #[.int .u8 bZ,.int .u8 gB,.int .u8 ig,.int .u8 iH,.int .i64 iC] 55 (0,0)))∧ae (Below w.heap.size w wc))
 case first =>
  have H:=JB.out
  clear JB
  by_cases c13:bZ=1
  ·
   rw [if_pos c13] at H
   have mY:(bZ == 1)=true:=beq_iff_eq.mpr c13
   have yx:(bZ != 1)=false:=bne_eq_false_iff_eq.mpr c13
   clear c13
   (first|rw [mY]|(simp only [bT,bW];rw [mY])|skip)
   have H':=ae.mk H
   clear H
   go_wp2
   go_meet
   case rel=>exact ⟨_,((bZ == 1)),(by first|rfl|(simp;done)|(simp [*];done)),H',⟨by first|omega|exact Nat.le_refl _⟩,⟨by (with_reducible repeat (first|refine au ?_ _|refine ay ?_|refine ak ?_ _));exact dQ.out⟩,⟨by (with_reducible repeat (first|refine au ?_ _|refine ay ?_|refine ak ?_ _));exact bK.out⟩,⟨by repeat (first|(with_reducible first|exact HB.out|apply ah|apply ag|apply ai|refine aj ?_ ja.out|refine aj ?_ jb.out)|exact HB.out)⟩⟩
  ·
   rw [if_neg c13] at H
   have mY:(bZ == 1)=false:=beq_eq_false_iff_ne.mpr c13
   have yx:(bZ != 1)=true:=bne_iff_ne.mpr c13
   (first|rw [mY]|(simp only [bT,bW];rw [mY])|skip)
   by_cases c14:bZ=4
   ·
    rw [if_pos c14] at H
    have D7:(bZ == 4)=true:=beq_iff_eq.mpr c14
    have Ht:(bZ != 4)=false:=bne_eq_false_iff_eq.mpr c14
    clear c14
    have H':=ae.mk H
    clear H
    go_wp2
    go_meet
    case rel=>exact ⟨_,((bZ == 4)),(by first|rfl|(simp;done)|(simp [*];done)),H',⟨by first|omega|exact Nat.le_refl _⟩,⟨by (with_reducible repeat (first|refine au ?_ _|refine ay ?_|refine ak ?_ _));exact dQ.out⟩,⟨by (with_reducible repeat (first|refine au ?_ _|refine ay ?_|refine ak ?_ _));exact bK.out⟩,⟨by repeat (first|(with_reducible first|exact HB.out|apply ah|apply ag|apply ai|refine aj ?_ ja.out|refine aj ?_ jb.out)|exact HB.out)⟩⟩
   ·
    rw [if_neg c14] at H
    have D7:(bZ == 4)=false:=beq_eq_false_iff_ne.mpr c14
    have Ht:(bZ != 4)=true:=bne_iff_ne.mpr c14
    have H':=ae.mk H
    clear H
    go_wp2
    go_meet
    case rel=>exact ⟨_,((bZ == 14)),(by first|rfl|(simp;done)|(simp [*];done)),H',⟨by first|omega|exact Nat.le_refl _⟩,⟨by (with_reducible repeat (first|refine au ?_ _|refine ay ?_|refine ak ?_ _));exact dQ.out⟩,⟨by (with_reducible repeat (first|refine au ?_ _|refine ay ?_|refine ak ?_ _));exact bK.out⟩,⟨by repeat (first|(with_reducible first|exact HB.out|apply ah|apply ag|apply ai|refine aj ?_ ja.out|refine aj ?_ jb.out)|exact HB.out)⟩⟩
 case rest =>
  clear JB
  obtain ⟨kq,JH,rfl,HA,JA,dQ,bK,HB⟩:=hcut
  cases kq with
  | zero=>exact absurd HA.out (by simp [bV.j0])
  | succ vZ =>
   have H:=HA.out
   clear HA
   simp only [bV.j0] at H
   by_cases c15:JH=true
   ·
    subst c15
    have H1:((dH.f vZ (([gB]:List Int))).bind fun t129=>(some t129))=some r:=by rw [if_pos rfl] at H;exact H
    clear H
    have H:=H1
    clear H1
    obtain ⟨ZY,GK⟩:∃ y_:List Int,y_=(([gB]:List Int)):=⟨_,rfl⟩
    replace H:((dH.f vZ ZY).bind fun t129=>(some t129))=some r:=by first|(rw [GK];with_reducible exact H)|(have uB:=(Option.bind_some _ _).symm.trans H;rw [GK];with_reducible exact uB)|(have uB:=(Option.bind_some _ _).symm.trans H;with_reducible exact uB)|with_reducible exact H|(rw [GK];exact H)|exact H
    have ZH:=ae.mk GK
    clear GK
    replace H:=Option.bind_eq_some_iff.mp H
    obtain ⟨t129,Ii,H⟩:=H
    replace H:(some t129)=some r:=H
    have A16:=ae.mk Ii
    clear Ii
    obtain rfl:=Option.some.inj H
    have apy:=lh.out
    have ao6:=lq.out
    have MV:wc.cell? ⟨fA,0,none⟩=some (.int .u8 bZ):=(ax bK.out 0).trans rfl
    have MS:wc.cell? ⟨fA,1,none⟩=some (.int .u8 gB):=(ax bK.out 1).trans rfl
    have MR:wc.cell? ⟨fA,2,none⟩=some (.int .u8 ig):=(ax bK.out 2).trans rfl
    have MQ:wc.cell? ⟨fA,3,none⟩=some (.int .u8 iH):=(ax bK.out 3).trans rfl
    have XR:wc.cell? ⟨fA,4,none⟩=some (.int .i64 iC):=(ax bK.out 4).trans rfl
    have LD:=aC bK.out 0
    have LC:=aC bK.out 1
    have Lu:=aC bK.out 2
    have Lt:=aC bK.out 3
    have V3:=aC bK.out 4
    go_wp2_with (first|((with_reducible refine bD (N:=27) rfl ?_);refine Kd.uF (Kd.int .u8) _ 5 ?hg (N:=27) ?hd (xs:=([gB]:List Int)) (inner:=[.int .u8 gB]) (ok:=fun _=>True) (oW:=fun _=>True) ?hr ?hp (fun _ hk=>hk) trivial (Below.refl _ _) (Nat.le_refl _) (by simp) ?_;(case hd=>rfl);(case hg=>rfl);(case hr=>first|(go_simp;done)|(go_simp;rfl));(case hp=>exact (jF.one (show Kd.M (Kd.int .u8) _ _ _ gB [.int .u8 gB] from rfl) (jF.none _ _)));intro v127 w19 Qr hb CX oJ;clear CX oJ;(first|rw [← ZH.out] at Qr|(simp only [Int.reduceToNat] at Qr;rw [← ZH.out] at Qr));have dX:=ae.mk (Kd.jy Qr (bY (by repeat (first|(with_reducible first|exact HB.out|apply ah|apply ag|apply ai|refine aj ?_ ja.out|refine aj ?_ jb.out)|exact HB.out))));have dW:=ae.mk (bg (g:=iT) (o:=.cells #[.slice eu aZ.length ed,.string aV,.string aW,.slice gm aI.length eX] 25 (0,0)) (by (with_reducible repeat (first|refine au ?_ _|refine ay ?_|refine ak ?_ _));exact dQ.out) hb);have dU:=ae.mk (bg (g:=fA) (o:=.cells #[.int .u8 bZ,.int .u8 gB,.int .u8 ig,.int .u8 iH,.int .i64 iC] 55 (0,0)) (by (with_reducible repeat (first|refine au ?_ _|refine ay ?_|refine ak ?_ _));exact bK.out) hb);have iq:=ae.mk (bn (by repeat (first|(with_reducible first|exact HB.out|apply ah|apply ag|apply ai|refine aj ?_ ja.out|refine aj ?_ jb.out)|exact HB.out)) hb);clear dQ;clear bK;clear HB;have SE:=dX;have dQ:=dW;have bK:=dU;have HB:=iq;clear dX dW dU iq;clear hb Qr;obtain ⟨aca,abz,abf⟩:=Kd.jw SE.out;subst abf)|((with_reducible refine bz (f:=55) rfl ?_);refine dV (some 28) rfl rfl Tryd.func55 (by kernel_rfl) rfl #[.slice aca ZY.length abz] rfl (by (try simp only [List.map_toArray,List.map_cons,List.map_nil]);first|done|rfl|(simp only [List.length_drop,List.length_take];rfl)) ?_;(with_reducible refine (dH.calls vZ _ _ ZY t129 _ ?df ?dA A16.out).mono ?_);(case df=>repeat (first|exact (Kd.dS SE.out).2.2|(with_reducible refine Kd.bQ ?_ _)|(with_reducible refine Kd.bP ?_ _)|(with_reducible refine Kd.dF ?_)));(case dA=>exact (Kd.dS SE.out).2.1);rintro e w' ⟨rfl,⟨nd,rfl⟩⟩;refine ⟨_,rfl,?_⟩))
    go_ret
    exact ⟨by first|rfl|(simp [aQ,aN] <;> rfl)|(simp [*,aQ,aN] <;> rfl),by repeat (first|(with_reducible first|exact HB.out|apply ah|apply ag|apply ai|refine aj ?_ ja.out|refine aj ?_ jb.out)|exact HB.out)⟩
   ·
    replace c15:=Bool.eq_false_iff.mpr c15
    subst c15
    have H1:(if bZ=2 then ((dH.f vZ (([gB,ig,iH]:List Int))).bind fun t133=>(some t133)) else (if bZ=5 then (bV.j1 vZ t124 t125 bZ (bZ == 5) aZ aV aW aI bZ gB ig iH iC) else (bV.j1 vZ t124 t125 bZ (bZ == 6) aZ aV aW aI bZ gB ig iH iC)))=some r:=by rw [if_neg (show ¬ (false=true) by decide)] at H;exact H
    clear H
    have H:=H1
    clear H1
    by_cases ru:bZ=2
    ·
     rw [if_pos ru] at H
     have RN:(bZ == 2)=true:=beq_iff_eq.mpr ru
     have RJ:(bZ != 2)=false:=bne_eq_false_iff_eq.mpr ru
     clear ru
     obtain ⟨ZX,GH⟩:∃ y_:List Int,y_=(([gB,ig,iH]:List Int)):=⟨_,rfl⟩
     replace H:((dH.f vZ ZX).bind fun t133=>(some t133))=some r:=by first|(rw [GH];with_reducible exact H)|(have uB:=(Option.bind_some _ _).symm.trans H;rw [GH];with_reducible exact uB)|(have uB:=(Option.bind_some _ _).symm.trans H;with_reducible exact uB)|with_reducible exact H|(rw [GH];exact H)|exact H
     have ZF:=ae.mk GH
     clear GH
     replace H:=Option.bind_eq_some_iff.mp H
     obtain ⟨t133,agM,H⟩:=H
     replace H:(some t133)=some r:=H
     have A23:=ae.mk agM
     clear agM
     obtain rfl:=Option.some.inj H
     have Y5:=lh.out
     have Y3:=lq.out
     have Ap:wc.cell? ⟨fA,0,none⟩=some (.int .u8 bZ):=(ax bK.out 0).trans rfl
     have Am:wc.cell? ⟨fA,1,none⟩=some (.int .u8 gB):=(ax bK.out 1).trans rfl
     have Ak:wc.cell? ⟨fA,2,none⟩=some (.int .u8 ig):=(ax bK.out 2).trans rfl
     have Aj:wc.cell? ⟨fA,3,none⟩=some (.int .u8 iH):=(ax bK.out 3).trans rfl
     have EY:wc.cell? ⟨fA,4,none⟩=some (.int .i64 iC):=(ax bK.out 4).trans rfl
     have Ae:=aC bK.out 0
     have Ad:=aC bK.out 1
     have Ac:=aC bK.out 2
     have Aa:=aC bK.out 3
     have EN:=aC bK.out 4
     go_wp2_with (first|((with_reducible refine bD (N:=37) rfl ?_);refine Kd.uF (Kd.int .u8) _ 5 ?hg (N:=37) ?hd (xs:=([gB,ig,iH]:List Int)) (inner:=[.int .u8 gB,.int .u8 ig,.int .u8 iH]) (ok:=fun _=>True) (oW:=fun _=>True) ?hr ?hp (fun _ hk=>hk) trivial (Below.refl _ _) (Nat.le_refl _) (by simp) ?_;(case hd=>rfl);(case hg=>rfl);(case hr=>first|(go_simp;done)|(go_simp;rfl));(case hp=>exact (jF.one (show Kd.M (Kd.int .u8) _ _ _ gB [.int .u8 gB] from rfl) (jF.one (show Kd.M (Kd.int .u8) _ _ _ ig [.int .u8 ig] from rfl) (jF.one (show Kd.M (Kd.int .u8) _ _ _ iH [.int .u8 iH] from rfl) (jF.none _ _)))));intro v131 w26 Qq hb CX oJ;clear CX oJ;(first|rw [← ZF.out] at Qq|(simp only [Int.reduceToNat] at Qq;rw [← ZF.out] at Qq));have dX:=ae.mk (Kd.jy Qq (bY (by repeat (first|(with_reducible first|exact HB.out|apply ah|apply ag|apply ai|refine aj ?_ ja.out|refine aj ?_ jb.out)|exact HB.out))));have dW:=ae.mk (bg (g:=iT) (o:=.cells #[.slice eu aZ.length ed,.string aV,.string aW,.slice gm aI.length eX] 25 (0,0)) (by (with_reducible repeat (first|refine au ?_ _|refine ay ?_|refine ak ?_ _));exact dQ.out) hb);have dU:=ae.mk (bg (g:=fA) (o:=.cells #[.int .u8 bZ,.int .u8 gB,.int .u8 ig,.int .u8 iH,.int .i64 iC] 55 (0,0)) (by (with_reducible repeat (first|refine au ?_ _|refine ay ?_|refine ak ?_ _));exact bK.out) hb);have iq:=ae.mk (bn (by repeat (first|(with_reducible first|exact HB.out|apply ah|apply ag|apply ai|refine aj ?_ ja.out|refine aj ?_ jb.out)|exact HB.out)) hb);clear dQ;clear bK;clear HB;have SC:=dX;have dQ:=dW;have bK:=dU;have HB:=iq;clear dX dW dU iq;clear hb Qq;obtain ⟨aov,an6,anO⟩:=Kd.jw SC.out;subst anO)|((with_reducible refine bz (f:=55) rfl ?_);refine dV (some 38) rfl rfl Tryd.func55 (by kernel_rfl) rfl #[.slice aov ZX.length an6] rfl (by (try simp only [List.map_toArray,List.map_cons,List.map_nil]);first|done|rfl|(simp only [List.length_drop,List.length_take];rfl)) ?_;(with_reducible refine (dH.calls vZ _ _ ZX t133 _ ?df ?dA A23.out).mono ?_);(case df=>repeat (first|exact (Kd.dS SC.out).2.2|(with_reducible refine Kd.bQ ?_ _)|(with_reducible refine Kd.bP ?_ _)|(with_reducible refine Kd.dF ?_)));(case dA=>exact (Kd.dS SC.out).2.1);rintro e w' ⟨rfl,⟨nd,rfl⟩⟩;refine ⟨_,rfl,?_⟩))
     go_ret
     exact ⟨by first|rfl|(simp [aQ,aN] <;> rfl)|(simp [*,aQ,aN] <;> rfl),by repeat (first|(with_reducible first|exact HB.out|apply ah|apply ag|apply ai|refine aj ?_ ja.out|refine aj ?_ jb.out)|exact HB.out)⟩
    ·
     rw [if_neg ru] at H
     have RN:(bZ == 2)=false:=beq_eq_false_iff_ne.mpr ru
     have RJ:(bZ != 2)=true:=bne_iff_ne.mpr ru
     have ab8:=ae.mk H
     clear H
     go_upto_if 39 with (fail)
     go_cut [39] (fun v39 wc=>∃ (kq:Nat) (Ei:Bool),v39=.bool Ei∧ae (bV.j1 kq t124 t125 bZ Ei aZ aV aW aI bZ gB ig iH iC=some r)∧ae (kq≤vZ)∧ae (wc.heap[iT]? = some (.cells #[(.slice eu aZ.length ed),.string aV,.string aW,(.slice gm aI.length eX)] 25 (0,0)))∧ae (wc.heap[fA]? = some (.cells #[.int .u8 bZ,.int .u8 gB,.int .u8 ig,.int .u8 iH,.int .i64 iC] 55 (0,0)))∧ae (Below w.heap.size w wc))
     case first =>
      have H:=ab8.out
      clear ab8
      by_cases c30:bZ=5
      ·
       rw [if_pos c30] at H
       have Hm:(bZ == 5)=true:=beq_iff_eq.mpr c30
       have afn:(bZ != 5)=false:=bne_eq_false_iff_eq.mpr c30
       clear c30
       (first|rw [Hm]|(simp only [bT,bW];rw [Hm])|skip)
       have H':=ae.mk H
       clear H
       go_wp2
       go_meet
       case rel=>exact ⟨_,((bZ == 5)),(by first|rfl|(simp;done)|(simp [*];done)),H',⟨by have:=JA.out;first|omega|exact Nat.le_refl _⟩,⟨by (with_reducible repeat (first|refine au ?_ _|refine ay ?_|refine ak ?_ _));exact dQ.out⟩,⟨by (with_reducible repeat (first|refine au ?_ _|refine ay ?_|refine ak ?_ _));exact bK.out⟩,⟨by repeat (first|(with_reducible first|exact HB.out|apply ah|apply ag|apply ai|refine aj ?_ ja.out|refine aj ?_ jb.out)|exact HB.out)⟩⟩
      ·
       rw [if_neg c30] at H
       have Hm:(bZ == 5)=false:=beq_eq_false_iff_ne.mpr c30
       have afn:(bZ != 5)=true:=bne_iff_ne.mpr c30
       (first|rw [Hm]|(simp only [bT,bW];rw [Hm])|skip)
       have H':=ae.mk H
       clear H
       go_wp2
       go_meet
       case rel=>exact ⟨_,((bZ == 6)),(by first|rfl|(simp;done)|(simp [*];done)),H',⟨by have:=JA.out;first|omega|exact Nat.le_refl _⟩,⟨by (with_reducible repeat (first|refine au ?_ _|refine ay ?_|refine ak ?_ _));exact dQ.out⟩,⟨by (with_reducible repeat (first|refine au ?_ _|refine ay ?_|refine ak ?_ _));exact bK.out⟩,⟨by repeat (first|(with_reducible first|exact HB.out|apply ah|apply ag|apply ai|refine aj ?_ ja.out|refine aj ?_ jb.out)|exact HB.out)⟩⟩
     case rest =>
      clear ab8
      obtain ⟨kq,Ei,rfl,HA,asH,dQ,bK,HB⟩:=hcut
      cases kq with
      | zero=>exact absurd HA.out (by simp [bV.j1])
      | succ nS =>
       have H:=HA.out
       clear HA
       simp only [bV.j1] at H
       by_cases c31:Ei=true
       ·
        subst c31
        have H1:(some (decide (t124 ≥ 0)))=some r:=by rw [if_pos rfl] at H;exact H
        clear H
        have H:=H1
        clear H1
        obtain rfl:=Option.some.inj H
        go_wp2
        go_ret
        exact ⟨by first|rfl|(simp [aQ,aN] <;> rfl)|(simp [*,aQ,aN] <;> rfl),by repeat (first|(with_reducible first|exact HB.out|apply ah|apply ag|apply ai|refine aj ?_ ja.out|refine aj ?_ jb.out)|exact HB.out)⟩
       ·
        replace c31:=Bool.eq_false_iff.mpr c31
        subst c31
        have H1:(if bZ=7 then ((iw.f t124 t125).bind fun t134=>(some t134)) else (if bZ=8 then ((dH.f nS (([gB]:List Int))).bind fun t138=>(if t138=true then ((gY.f nS aZ aV aW aI t125 iC).bind fun t139=>(some t139)) else (some false))) else (if bZ=9 then ((dH.f nS (([ig]:List Int))).bind fun t143=>(if t143=true then ((gY.f nS aZ aV aW aI t124 iC).bind fun t144=>(some t144)) else (some false))) else (if bZ=10 then ((ik.f nS aZ aV aW aI t125 iC).bind fun RS=>((iw.f t124 RS.1).bind fun t147=>(some t147))) else (if bZ=11 then ((ik.f nS aZ aV aW aI t124 iC).bind fun RQ=>((iw.f t125 RQ.1).bind fun t150=>(some t150))) else (if bZ=12 then ((jD.f nS aZ aV aW aI ig).bind fun t151=>((iw.f t124 t151).bind fun t152=>(some t152))) else (if bZ=13 then ((jD.f nS aZ aV aW aI gB).bind fun t153=>((iw.f t125 t153).bind fun t154=>(some t154))) else (if bZ=15 then ((dH.f nS (([gB]:List Int))).bind fun t158=>(if t158=true then ((gG.f nS aZ aV aW aI iH).bind fun t159=>((iw.f t125 t159).bind fun t160=>(some t160))) else (some false))) else (some true)))))))))=some r:=by rw [if_neg (show ¬ (false=true) by decide)] at H;exact H
        clear H
        have H:=H1
        clear H1
        by_cases c32:bZ=7
        ·
         rw [if_pos c32] at H
         have RH:(bZ == 7)=true:=beq_iff_eq.mpr c32
         have afk:(bZ != 7)=false:=bne_eq_false_iff_eq.mpr c32
         clear c32
         replace H:=Option.bind_eq_some_iff.mp H
         obtain ⟨t134,S9,H⟩:=H
         replace H:(some t134)=some r:=H
         have A33:=ae.mk S9
         clear S9
         obtain rfl:=Option.some.inj H
         go_wp2_with (first|((with_reducible refine bz (f:=56) rfl ?_);refine dV (some 48) rfl rfl Tryd.func56 (by kernel_rfl) rfl #[.int .i64 t124,.int .i64 t125] rfl (by (try simp only [List.map_toArray,List.map_cons,List.map_nil]);first|done|rfl|(simp only [List.length_drop,List.length_take];rfl)) ?_;(with_reducible refine (iw.calls t124 t125 t134 _ A33.out).mono ?_);rintro e w' ⟨rfl,⟨nd,rfl⟩⟩;refine ⟨_,rfl,?_⟩))
         go_ret
         exact ⟨by first|rfl|(simp [aQ,aN] <;> rfl)|(simp [*,aQ,aN] <;> rfl),by repeat (first|(with_reducible first|exact HB.out|apply ah|apply ag|apply ai|refine aj ?_ ja.out|refine aj ?_ jb.out)|exact HB.out)⟩
        ·
         rw [if_neg c32] at H
         have RH:(bZ == 7)=false:=beq_eq_false_iff_ne.mpr c32
         have afk:(bZ != 7)=true:=bne_iff_ne.mpr c32
         by_cases c34:bZ=8
         ·
          rw [if_pos c34] at H
          have RG:(bZ == 8)=true:=beq_iff_eq.mpr c34
          have afh:(bZ != 8)=false:=bne_eq_false_iff_eq.mpr c34
          clear c34
          obtain ⟨Pv,Gz⟩:∃ y_:List Int,y_=(([gB]:List Int)):=⟨_,rfl⟩
          replace H:((dH.f nS Pv).bind fun t138=>(if t138=true then ((gY.f nS aZ aV aW aI t125 iC).bind fun t139=>(some t139)) else (some false)))=some r:=by first|(rw [Gz];with_reducible exact H)|(have uB:=(Option.bind_some _ _).symm.trans H;rw [Gz];with_reducible exact uB)|(have uB:=(Option.bind_some _ _).symm.trans H;with_reducible exact uB)|with_reducible exact H|(rw [Gz];exact H)|exact H
          have NJ:=ae.mk Gz
          clear Gz
          replace H:=Option.bind_eq_some_iff.mp H
          obtain ⟨t138,agJ,H⟩:=H
          replace H:(if t138=true then ((gY.f nS aZ aV aW aI t125 iC).bind fun t139=>(some t139)) else (some false))=some r:=H
          have A35:=ae.mk agJ
          clear agJ
          by_cases c36:t138=true
          ·
           subst c36
           have H1:((gY.f nS aZ aV aW aI t125 iC).bind fun t139=>(some t139))=some r:=by rw [if_pos rfl] at H;exact H
           clear H
           have H:=H1
           clear H1
           replace H:=Option.bind_eq_some_iff.mp H
           obtain ⟨t139,agI,H⟩:=H
           replace H:(some t139)=some r:=H
           have A37:=ae.mk agI
           clear agI
           obtain rfl:=Option.some.inj H
           have apm:=lh.out
           have aoV:=lq.out
           have Xq:wc.cell? ⟨fA,0,none⟩=some (.int .u8 bZ):=(ax bK.out 0).trans rfl
           have Xp:wc.cell? ⟨fA,1,none⟩=some (.int .u8 gB):=(ax bK.out 1).trans rfl
           have Xo:wc.cell? ⟨fA,2,none⟩=some (.int .u8 ig):=(ax bK.out 2).trans rfl
           have Xn:wc.cell? ⟨fA,3,none⟩=some (.int .u8 iH):=(ax bK.out 3).trans rfl
           have alN:wc.cell? ⟨fA,4,none⟩=some (.int .i64 iC):=(ax bK.out 4).trans rfl
           have VA:=aC bK.out 0
           have Vz:=aC bK.out 1
           have Vy:=aC bK.out 2
           have Vx:=aC bK.out 3
           have ajv:=aC bK.out 4
           go_wp2_with (first|((with_reducible refine bD (N:=53) rfl ?_);refine Kd.uF (Kd.int .u8) _ 5 ?hg (N:=53) ?hd (xs:=([gB]:List Int)) (inner:=[.int .u8 gB]) (ok:=fun _=>True) (oW:=fun _=>True) ?hr ?hp (fun _ hk=>hk) trivial (Below.refl _ _) (Nat.le_refl _) (by simp) ?_;(case hd=>rfl);(case hg=>rfl);(case hr=>first|(go_simp;done)|(go_simp;rfl));(case hp=>exact (jF.one (show Kd.M (Kd.int .u8) _ _ _ gB [.int .u8 gB] from rfl) (jF.none _ _)));intro amN TV Qp hb CX oJ;clear CX oJ;(first|rw [← NJ.out] at Qp|(simp only [Int.reduceToNat] at Qp;rw [← NJ.out] at Qp));have dX:=ae.mk (Kd.jy Qp (bY (by repeat (first|(with_reducible first|exact HB.out|apply ah|apply ag|apply ai|refine aj ?_ ja.out|refine aj ?_ jb.out)|exact HB.out))));have dW:=ae.mk (bg (g:=iT) (o:=.cells #[.slice eu aZ.length ed,.string aV,.string aW,.slice gm aI.length eX] 25 (0,0)) (by (with_reducible repeat (first|refine au ?_ _|refine ay ?_|refine ak ?_ _));exact dQ.out) hb);have dU:=ae.mk (bg (g:=fA) (o:=.cells #[.int .u8 bZ,.int .u8 gB,.int .u8 ig,.int .u8 iH,.int .i64 iC] 55 (0,0)) (by (with_reducible repeat (first|refine au ?_ _|refine ay ?_|refine ak ?_ _));exact bK.out) hb);have iq:=ae.mk (bn (by repeat (first|(with_reducible first|exact HB.out|apply ah|apply ag|apply ai|refine aj ?_ ja.out|refine aj ?_ jb.out)|exact HB.out)) hb);clear dQ;clear bK;clear HB;have xw:=dX;have dQ:=dW;have bK:=dU;have HB:=iq;clear dX dW dU iq;clear hb Qp;obtain ⟨aou,an5,anN⟩:=Kd.jw xw.out;subst anN)|((with_reducible refine bz (f:=55) rfl ?_);refine dV (some 54) rfl rfl Tryd.func55 (by kernel_rfl) rfl #[.slice aou Pv.length an5] rfl (by (try simp only [List.map_toArray,List.map_cons,List.map_nil]);first|done|rfl|(simp only [List.length_drop,List.length_take];rfl)) ?_;(with_reducible refine (dH.calls nS _ _ Pv true _ ?df ?dA A35.out).mono ?_);(case df=>repeat (first|exact (Kd.dS xw.out).2.2|(with_reducible refine Kd.bQ ?_ _)|(with_reducible refine Kd.bP ?_ _)|(with_reducible refine Kd.dF ?_)));(case dA=>exact (Kd.dS xw.out).2.1);rintro e w' ⟨rfl,⟨nd,rfl⟩⟩;refine ⟨_,rfl,?_⟩;have Me:TV.cell? ⟨iT,0,none⟩=some (.slice eu aZ.length ed):=(ax dQ.out 0).trans rfl;have Md:TV.cell? ⟨iT,1,none⟩=some (.string aV):=(ax dQ.out 1).trans rfl;have Mc:TV.cell? ⟨iT,2,none⟩=some (.string aW):=(ax dQ.out 2).trans rfl;have L9:TV.cell? ⟨iT,3,none⟩=some (.slice gm aI.length eX):=(ax dQ.out 3).trans rfl;have KY:=aC dQ.out 0;have KX:=aC dQ.out 1;have KW:=aC dQ.out 2;have KU:=aC dQ.out 3;have Xm:TV.cell? ⟨fA,0,none⟩=some (.int .u8 bZ):=(ax bK.out 0).trans rfl;have Xl:TV.cell? ⟨fA,1,none⟩=some (.int .u8 gB):=(ax bK.out 1).trans rfl;have Xk:TV.cell? ⟨fA,2,none⟩=some (.int .u8 ig):=(ax bK.out 2).trans rfl;have Xj:TV.cell? ⟨fA,3,none⟩=some (.int .u8 iH):=(ax bK.out 3).trans rfl;have Xi:TV.cell? ⟨fA,4,none⟩=some (.int .i64 iC):=(ax bK.out 4).trans rfl;have Vw:=aC bK.out 0;have Vu:=aC bK.out 1;have Vt:=aC bK.out 2;have Vs:=aC bK.out 3;have Vr:=aC bK.out 4)|(go_at_call 57;(with_reducible refine (gY.calls nS _ _ aZ aV aW _ _ aI t125 iC t139 _ ?df ?dA ?iY ?iW A37.out).mono ?_);(case df=>repeat (first|exact (Kd.bJ iI.out (by repeat (first|(with_reducible first|exact HB.out|apply ah|apply ag|apply ai|refine aj ?_ ja.out|refine aj ?_ jb.out)|exact HB.out)))|(with_reducible refine Kd.bQ ?_ _)|(with_reducible refine Kd.bP ?_ _)|(with_reducible refine Kd.dF ?_)));(case dA=>exact iL.out);(case iY=>repeat (first|exact (Kd.bJ jR.out (by repeat (first|(with_reducible first|exact HB.out|apply ah|apply ag|apply ai|refine aj ?_ ja.out|refine aj ?_ jb.out)|exact HB.out)))|(with_reducible refine Kd.bQ ?_ _)|(with_reducible refine Kd.bP ?_ _)|(with_reducible refine Kd.dF ?_)));(case iW=>exact kK.out);rintro e w45 ⟨rfl,hb⟩;have dX:=ae.mk (Kd.jA (by (with_reducible repeat (first|apply Kd.iK|apply Kd.iJ|apply Kd.jq));exact xw.out) hb);have dW:=ae.mk (bg (g:=iT) (o:=.cells #[.slice eu aZ.length ed,.string aV,.string aW,.slice gm aI.length eX] 25 (0,0)) (by (with_reducible repeat (first|refine au ?_ _|refine ay ?_|refine ak ?_ _));exact dQ.out) hb);have dU:=ae.mk (bg (g:=fA) (o:=.cells #[.int .u8 bZ,.int .u8 gB,.int .u8 ig,.int .u8 iH,.int .i64 iC] 55 (0,0)) (by (with_reducible repeat (first|refine au ?_ _|refine ay ?_|refine ak ?_ _));exact bK.out) hb);have iq:=ae.mk (bn (by repeat (first|(with_reducible first|exact HB.out|apply ah|apply ag|apply ai|refine aj ?_ ja.out|refine aj ?_ jb.out)|exact HB.out)) hb);clear xw;clear dQ;clear bK;clear HB;have xw:=dX;have dQ:=dW;have bK:=dU;have HB:=iq;clear dX dW dU iq;(try clear hb);(try clear hb2);(try clear hk);(try clear hi)))
           go_ret
           exact ⟨by first|rfl|(simp [aQ,aN] <;> rfl)|(simp [*,aQ,aN] <;> rfl),by repeat (first|(with_reducible first|exact HB.out|apply ah|apply ag|apply ai|refine aj ?_ ja.out|refine aj ?_ jb.out)|exact HB.out)⟩
          ·
           replace c36:=Bool.eq_false_iff.mpr c36
           subst c36
           have H1:(some false)=some r:=by rw [if_neg (show ¬ (false=true) by decide)] at H;exact H
           clear H
           have H:=H1
           clear H1
           obtain rfl:=Option.some.inj H
           have adw:=lh.out
           have adm:=lq.out
           have L8:wc.cell? ⟨fA,0,none⟩=some (.int .u8 bZ):=(ax bK.out 0).trans rfl
           have L6:wc.cell? ⟨fA,1,none⟩=some (.int .u8 gB):=(ax bK.out 1).trans rfl
           have LZ:wc.cell? ⟨fA,2,none⟩=some (.int .u8 ig):=(ax bK.out 2).trans rfl
           have LY:wc.cell? ⟨fA,3,none⟩=some (.int .u8 iH):=(ax bK.out 3).trans rfl
           have LX:wc.cell? ⟨fA,4,none⟩=some (.int .i64 iC):=(ax bK.out 4).trans rfl
           have KT:=aC bK.out 0
           have KR:=aC bK.out 1
           have KQ:=aC bK.out 2
           have KP:=aC bK.out 3
           have KO:=aC bK.out 4
           go_wp2_with (first|((with_reducible refine bD (N:=53) rfl ?_);refine Kd.uF (Kd.int .u8) _ 5 ?hg (N:=53) ?hd (xs:=([gB]:List Int)) (inner:=[.int .u8 gB]) (ok:=fun _=>True) (oW:=fun _=>True) ?hr ?hp (fun _ hk=>hk) trivial (Below.refl _ _) (Nat.le_refl _) (by simp) ?_;(case hd=>rfl);(case hg=>rfl);(case hr=>first|(go_simp;done)|(go_simp;rfl));(case hp=>exact (jF.one (show Kd.M (Kd.int .u8) _ _ _ gB [.int .u8 gB] from rfl) (jF.none _ _)));intro amN w48 Qo hb CX oJ;clear CX oJ;(first|rw [← NJ.out] at Qo|(simp only [Int.reduceToNat] at Qo;rw [← NJ.out] at Qo));have dX:=ae.mk (Kd.jy Qo (bY (by repeat (first|(with_reducible first|exact HB.out|apply ah|apply ag|apply ai|refine aj ?_ ja.out|refine aj ?_ jb.out)|exact HB.out))));have dW:=ae.mk (bg (g:=iT) (o:=.cells #[.slice eu aZ.length ed,.string aV,.string aW,.slice gm aI.length eX] 25 (0,0)) (by (with_reducible repeat (first|refine au ?_ _|refine ay ?_|refine ak ?_ _));exact dQ.out) hb);have dU:=ae.mk (bg (g:=fA) (o:=.cells #[.int .u8 bZ,.int .u8 gB,.int .u8 ig,.int .u8 iH,.int .i64 iC] 55 (0,0)) (by (with_reducible repeat (first|refine au ?_ _|refine ay ?_|refine ak ?_ _));exact bK.out) hb);have iq:=ae.mk (bn (by repeat (first|(with_reducible first|exact HB.out|apply ah|apply ag|apply ai|refine aj ?_ ja.out|refine aj ?_ jb.out)|exact HB.out)) hb);clear dQ;clear bK;clear HB;have xw:=dX;have dQ:=dW;have bK:=dU;have HB:=iq;clear dX dW dU iq;clear hb Qo;obtain ⟨aot,an4,anM⟩:=Kd.jw xw.out;subst anM)|((with_reducible refine bz (f:=55) rfl ?_);refine dV (some 54) rfl rfl Tryd.func55 (by kernel_rfl) rfl #[.slice aot Pv.length an4] rfl (by (try simp only [List.map_toArray,List.map_cons,List.map_nil]);first|done|rfl|(simp only [List.length_drop,List.length_take];rfl)) ?_;(with_reducible refine (dH.calls nS _ _ Pv false _ ?df ?dA A35.out).mono ?_);(case df=>repeat (first|exact (Kd.dS xw.out).2.2|(with_reducible refine Kd.bQ ?_ _)|(with_reducible refine Kd.bP ?_ _)|(with_reducible refine Kd.dF ?_)));(case dA=>exact (Kd.dS xw.out).2.1);rintro e w' ⟨rfl,⟨nd,rfl⟩⟩;refine ⟨_,rfl,?_⟩))
           go_ret
           exact ⟨by first|rfl|(simp [aQ,aN] <;> rfl)|(simp [*,aQ,aN] <;> rfl),by repeat (first|(with_reducible first|exact HB.out|apply ah|apply ag|apply ai|refine aj ?_ ja.out|refine aj ?_ jb.out)|exact HB.out)⟩
         ·
          rw [if_neg c34] at H
          have RG:(bZ == 8)=false:=beq_eq_false_iff_ne.mpr c34
          have afh:(bZ != 8)=true:=bne_iff_ne.mpr c34
          by_cases c51:bZ=9
          ·
           rw [if_pos c51] at H
           have afb:(bZ == 9)=true:=beq_iff_eq.mpr c51
           have afa:(bZ != 9)=false:=bne_eq_false_iff_eq.mpr c51
           clear c51
           obtain ⟨Pq,Gy⟩:∃ y_:List Int,y_=(([ig]:List Int)):=⟨_,rfl⟩
           replace H:((dH.f nS Pq).bind fun t143=>(if t143=true then ((gY.f nS aZ aV aW aI t124 iC).bind fun t144=>(some t144)) else (some false)))=some r:=by first|(rw [Gy];with_reducible exact H)|(have uB:=(Option.bind_some _ _).symm.trans H;rw [Gy];with_reducible exact uB)|(have uB:=(Option.bind_some _ _).symm.trans H;with_reducible exact uB)|with_reducible exact H|(rw [Gy];exact H)|exact H
           have NI:=ae.mk Gy
           clear Gy
           replace H:=Option.bind_eq_some_iff.mp H
           obtain ⟨t143,agA,H⟩:=H
           replace H:(if t143=true then ((gY.f nS aZ aV aW aI t124 iC).bind fun t144=>(some t144)) else (some false))=some r:=H
           have A52:=ae.mk agA
           clear agA
           by_cases c53:t143=true
           ·
            subst c53
            have H1:((gY.f nS aZ aV aW aI t124 iC).bind fun t144=>(some t144))=some r:=by rw [if_pos rfl] at H;exact H
            clear H
            have H:=H1
            clear H1
            replace H:=Option.bind_eq_some_iff.mp H
            obtain ⟨t144,agz,H⟩:=H
            replace H:(some t144)=some r:=H
            have A54:=ae.mk agz
            clear agz
            obtain rfl:=Option.some.inj H
            have adu:=lh.out
            have adk:=lq.out
            have WW:wc.cell? ⟨fA,0,none⟩=some (.int .u8 bZ):=(ax bK.out 0).trans rfl
            have WV:wc.cell? ⟨fA,1,none⟩=some (.int .u8 gB):=(ax bK.out 1).trans rfl
            have WU:wc.cell? ⟨fA,2,none⟩=some (.int .u8 ig):=(ax bK.out 2).trans rfl
            have WT:wc.cell? ⟨fA,3,none⟩=some (.int .u8 iH):=(ax bK.out 3).trans rfl
            have WS:wc.cell? ⟨fA,4,none⟩=some (.int .i64 iC):=(ax bK.out 4).trans rfl
            have Vb:=aC bK.out 0
            have Va:=aC bK.out 1
            have U9:=aC bK.out 2
            have U8:=aC bK.out 3
            have U7:=aC bK.out 4
            go_wp2_with (first|((with_reducible refine bD (N:=66) rfl ?_);refine Kd.uF (Kd.int .u8) _ 5 ?hg (N:=66) ?hd (xs:=([ig]:List Int)) (inner:=[.int .u8 ig]) (ok:=fun _=>True) (oW:=fun _=>True) ?hr ?hp (fun _ hk=>hk) trivial (Below.refl _ _) (Nat.le_refl _) (by simp) ?_;(case hd=>rfl);(case hg=>rfl);(case hr=>first|(go_simp;done)|(go_simp;rfl));(case hp=>exact (jF.one (show Kd.M (Kd.int .u8) _ _ _ ig [.int .u8 ig] from rfl) (jF.none _ _)));intro v141 Ti Qn hb CX oJ;clear CX oJ;(first|rw [← NI.out] at Qn|(simp only [Int.reduceToNat] at Qn;rw [← NI.out] at Qn));have dX:=ae.mk (Kd.jy Qn (bY (by repeat (first|(with_reducible first|exact HB.out|apply ah|apply ag|apply ai|refine aj ?_ ja.out|refine aj ?_ jb.out)|exact HB.out))));have dW:=ae.mk (bg (g:=iT) (o:=.cells #[.slice eu aZ.length ed,.string aV,.string aW,.slice gm aI.length eX] 25 (0,0)) (by (with_reducible repeat (first|refine au ?_ _|refine ay ?_|refine ak ?_ _));exact dQ.out) hb);have dU:=ae.mk (bg (g:=fA) (o:=.cells #[.int .u8 bZ,.int .u8 gB,.int .u8 ig,.int .u8 iH,.int .i64 iC] 55 (0,0)) (by (with_reducible repeat (first|refine au ?_ _|refine ay ?_|refine ak ?_ _));exact bK.out) hb);have iq:=ae.mk (bn (by repeat (first|(with_reducible first|exact HB.out|apply ah|apply ag|apply ai|refine aj ?_ ja.out|refine aj ?_ jb.out)|exact HB.out)) hb);clear dQ;clear bK;clear HB;have lI:=dX;have dQ:=dW;have bK:=dU;have HB:=iq;clear dX dW dU iq;clear hb Qn;obtain ⟨aos,an3,anL⟩:=Kd.jw lI.out;subst anL)|((with_reducible refine bz (f:=55) rfl ?_);refine dV (some 67) rfl rfl Tryd.func55 (by kernel_rfl) rfl #[.slice aos Pq.length an3] rfl (by (try simp only [List.map_toArray,List.map_cons,List.map_nil]);first|done|rfl|(simp only [List.length_drop,List.length_take];rfl)) ?_;(with_reducible refine (dH.calls nS _ _ Pq true _ ?df ?dA A52.out).mono ?_);(case df=>repeat (first|exact (Kd.dS lI.out).2.2|(with_reducible refine Kd.bQ ?_ _)|(with_reducible refine Kd.bP ?_ _)|(with_reducible refine Kd.dF ?_)));(case dA=>exact (Kd.dS lI.out).2.1);rintro e w' ⟨rfl,⟨nd,rfl⟩⟩;refine ⟨_,rfl,?_⟩;have ald:Ti.cell? ⟨iT,0,none⟩=some (.slice eu aZ.length ed):=(ax dQ.out 0).trans rfl;have alc:Ti.cell? ⟨iT,1,none⟩=some (.string aV):=(ax dQ.out 1).trans rfl;have alb:Ti.cell? ⟨iT,2,none⟩=some (.string aW):=(ax dQ.out 2).trans rfl;have ala:Ti.cell? ⟨iT,3,none⟩=some (.slice gm aI.length eX):=(ax dQ.out 3).trans rfl;have aiY:=aC dQ.out 0;have aiX:=aC dQ.out 1;have aiW:=aC dQ.out 2;have aiV:=aC dQ.out 3;have WM:Ti.cell? ⟨fA,0,none⟩=some (.int .u8 bZ):=(ax bK.out 0).trans rfl;have WL:Ti.cell? ⟨fA,1,none⟩=some (.int .u8 gB):=(ax bK.out 1).trans rfl;have WI:Ti.cell? ⟨fA,2,none⟩=some (.int .u8 ig):=(ax bK.out 2).trans rfl;have WH:Ti.cell? ⟨fA,3,none⟩=some (.int .u8 iH):=(ax bK.out 3).trans rfl;have WG:Ti.cell? ⟨fA,4,none⟩=some (.int .i64 iC):=(ax bK.out 4).trans rfl;have U2:=aC bK.out 0;have U1:=aC bK.out 1;have U0:=aC bK.out 2;have UZ:=aC bK.out 3;have UY:=aC bK.out 4)|(go_at_call 57;(with_reducible refine (gY.calls nS _ _ aZ aV aW _ _ aI t124 iC t144 _ ?df ?dA ?iY ?iW A54.out).mono ?_);(case df=>repeat (first|exact (Kd.bJ iI.out (by repeat (first|(with_reducible first|exact HB.out|apply ah|apply ag|apply ai|refine aj ?_ ja.out|refine aj ?_ jb.out)|exact HB.out)))|(with_reducible refine Kd.bQ ?_ _)|(with_reducible refine Kd.bP ?_ _)|(with_reducible refine Kd.dF ?_)));(case dA=>exact iL.out);(case iY=>repeat (first|exact (Kd.bJ jR.out (by repeat (first|(with_reducible first|exact HB.out|apply ah|apply ag|apply ai|refine aj ?_ ja.out|refine aj ?_ jb.out)|exact HB.out)))|(with_reducible refine Kd.bQ ?_ _)|(with_reducible refine Kd.bP ?_ _)|(with_reducible refine Kd.dF ?_)));(case iW=>exact kK.out);rintro e w62 ⟨rfl,hb⟩;have dX:=ae.mk (Kd.jA (by (with_reducible repeat (first|apply Kd.iK|apply Kd.iJ|apply Kd.jq));exact lI.out) hb);have dW:=ae.mk (bg (g:=iT) (o:=.cells #[.slice eu aZ.length ed,.string aV,.string aW,.slice gm aI.length eX] 25 (0,0)) (by (with_reducible repeat (first|refine au ?_ _|refine ay ?_|refine ak ?_ _));exact dQ.out) hb);have dU:=ae.mk (bg (g:=fA) (o:=.cells #[.int .u8 bZ,.int .u8 gB,.int .u8 ig,.int .u8 iH,.int .i64 iC] 55 (0,0)) (by (with_reducible repeat (first|refine au ?_ _|refine ay ?_|refine ak ?_ _));exact bK.out) hb);have iq:=ae.mk (bn (by repeat (first|(with_reducible first|exact HB.out|apply ah|apply ag|apply ai|refine aj ?_ ja.out|refine aj ?_ jb.out)|exact HB.out)) hb);clear lI;clear dQ;clear bK;clear HB;have lI:=dX;have dQ:=dW;have bK:=dU;have HB:=iq;clear dX dW dU iq;(try clear hb);(try clear hb2);(try clear hk);(try clear hi)))
            go_ret
            exact ⟨by first|rfl|(simp [aQ,aN] <;> rfl)|(simp [*,aQ,aN] <;> rfl),by repeat (first|(with_reducible first|exact HB.out|apply ah|apply ag|apply ai|refine aj ?_ ja.out|refine aj ?_ jb.out)|exact HB.out)⟩
           ·
            replace c53:=Bool.eq_false_iff.mpr c53
            subst c53
            have H1:(some false)=some r:=by rw [if_neg (show ¬ (false=true) by decide)] at H;exact H
            clear H
            have H:=H1
            clear H1
            obtain rfl:=Option.some.inj H
            have apc:=lh.out
            have aoL:=lq.out
            have ak4:wc.cell? ⟨fA,0,none⟩=some (.int .u8 bZ):=(ax bK.out 0).trans rfl
            have ak3:wc.cell? ⟨fA,1,none⟩=some (.int .u8 gB):=(ax bK.out 1).trans rfl
            have ak2:wc.cell? ⟨fA,2,none⟩=some (.int .u8 ig):=(ax bK.out 2).trans rfl
            have ak1:wc.cell? ⟨fA,3,none⟩=some (.int .u8 iH):=(ax bK.out 3).trans rfl
            have ak0:wc.cell? ⟨fA,4,none⟩=some (.int .i64 iC):=(ax bK.out 4).trans rfl
            have aiP:=aC bK.out 0
            have aiO:=aC bK.out 1
            have aiN:=aC bK.out 2
            have aiM:=aC bK.out 3
            have aiL:=aC bK.out 4
            go_wp2_with (first|((with_reducible refine bD (N:=66) rfl ?_);refine Kd.uF (Kd.int .u8) _ 5 ?hg (N:=66) ?hd (xs:=([ig]:List Int)) (inner:=[.int .u8 ig]) (ok:=fun _=>True) (oW:=fun _=>True) ?hr ?hp (fun _ hk=>hk) trivial (Below.refl _ _) (Nat.le_refl _) (by simp) ?_;(case hd=>rfl);(case hg=>rfl);(case hr=>first|(go_simp;done)|(go_simp;rfl));(case hp=>exact (jF.one (show Kd.M (Kd.int .u8) _ _ _ ig [.int .u8 ig] from rfl) (jF.none _ _)));intro v141 w65 Qm hb CX oJ;clear CX oJ;(first|rw [← NI.out] at Qm|(simp only [Int.reduceToNat] at Qm;rw [← NI.out] at Qm));have dX:=ae.mk (Kd.jy Qm (bY (by repeat (first|(with_reducible first|exact HB.out|apply ah|apply ag|apply ai|refine aj ?_ ja.out|refine aj ?_ jb.out)|exact HB.out))));have dW:=ae.mk (bg (g:=iT) (o:=.cells #[.slice eu aZ.length ed,.string aV,.string aW,.slice gm aI.length eX] 25 (0,0)) (by (with_reducible repeat (first|refine au ?_ _|refine ay ?_|refine ak ?_ _));exact dQ.out) hb);have dU:=ae.mk (bg (g:=fA) (o:=.cells #[.int .u8 bZ,.int .u8 gB,.int .u8 ig,.int .u8 iH,.int .i64 iC] 55 (0,0)) (by (with_reducible repeat (first|refine au ?_ _|refine ay ?_|refine ak ?_ _));exact bK.out) hb);have iq:=ae.mk (bn (by repeat (first|(with_reducible first|exact HB.out|apply ah|apply ag|apply ai|refine aj ?_ ja.out|refine aj ?_ jb.out)|exact HB.out)) hb);clear dQ;clear bK;clear HB;have lI:=dX;have dQ:=dW;have bK:=dU;have HB:=iq;clear dX dW dU iq;clear hb Qm;obtain ⟨aor,an2,anK⟩:=Kd.jw lI.out;subst anK)|((with_reducible refine bz (f:=55) rfl ?_);refine dV (some 67) rfl rfl Tryd.func55 (by kernel_rfl) rfl #[.slice aor Pq.length an2] rfl (by (try simp only [List.map_toArray,List.map_cons,List.map_nil]);first|done|rfl|(simp only [List.length_drop,List.length_take];rfl)) ?_;(with_reducible refine (dH.calls nS _ _ Pq false _ ?df ?dA A52.out).mono ?_);(case df=>repeat (first|exact (Kd.dS lI.out).2.2|(with_reducible refine Kd.bQ ?_ _)|(with_reducible refine Kd.bP ?_ _)|(with_reducible refine Kd.dF ?_)));(case dA=>exact (Kd.dS lI.out).2.1);rintro e w' ⟨rfl,⟨nd,rfl⟩⟩;refine ⟨_,rfl,?_⟩))
            go_ret
            exact ⟨by first|rfl|(simp [aQ,aN] <;> rfl)|(simp [*,aQ,aN] <;> rfl),by repeat (first|(with_reducible first|exact HB.out|apply ah|apply ag|apply ai|refine aj ?_ ja.out|refine aj ?_ jb.out)|exact HB.out)⟩
          ·
           rw [if_neg c51] at H
           have afb:(bZ == 9)=false:=beq_eq_false_iff_ne.mpr c51
           have afa:(bZ != 9)=true:=bne_iff_ne.mpr c51
           by_cases c68:bZ=10
           ·
            rw [if_pos c68] at H
            have ae5:(bZ == 10)=true:=beq_iff_eq.mpr c68
            have ae4:(bZ != 10)=false:=bne_eq_false_iff_eq.mpr c68
            clear c68
            replace H:=Option.bind_eq_some_iff.mp H
            obtain ⟨⟨t145,t146⟩,agu,H⟩:=H
            replace H:((iw.f t124 t145).bind fun t147=>(some t147))=some r:=H
            have A69:=ae.mk agu
            clear agu
            replace H:=Option.bind_eq_some_iff.mp H
            obtain ⟨t147,agt,H⟩:=H
            replace H:(some t147)=some r:=H
            have A70:=ae.mk agt
            clear agt
            obtain rfl:=Option.some.inj H
            have apb:=lq.out
            have aoK:=lh.out
            have akP:wc.cell? ⟨iT,0,none⟩=some (.slice eu aZ.length ed):=(ax dQ.out 0).trans rfl
            have akO:wc.cell? ⟨iT,1,none⟩=some (.string aV):=(ax dQ.out 1).trans rfl
            have akN:wc.cell? ⟨iT,2,none⟩=some (.string aW):=(ax dQ.out 2).trans rfl
            have akM:wc.cell? ⟨iT,3,none⟩=some (.slice gm aI.length eX):=(ax dQ.out 3).trans rfl
            have aiA:=aC dQ.out 0
            have aiz:=aC dQ.out 1
            have aiy:=aC dQ.out 2
            have aix:=aC dQ.out 3
            have akL:wc.cell? ⟨fA,0,none⟩=some (.int .u8 bZ):=(ax bK.out 0).trans rfl
            have akK:wc.cell? ⟨fA,1,none⟩=some (.int .u8 gB):=(ax bK.out 1).trans rfl
            have akJ:wc.cell? ⟨fA,2,none⟩=some (.int .u8 ig):=(ax bK.out 2).trans rfl
            have akI:wc.cell? ⟨fA,3,none⟩=some (.int .u8 iH):=(ax bK.out 3).trans rfl
            have akH:wc.cell? ⟨fA,4,none⟩=some (.int .i64 iC):=(ax bK.out 4).trans rfl
            have aiw:=aC bK.out 0
            have aiv:=aC bK.out 1
            have aiu:=aC bK.out 2
            have ait:=aC bK.out 3
            have ais:=aC bK.out 4
            go_wp2_with (first|((with_reducible refine bz (f:=58) rfl ?_);refine dV (some 82) rfl rfl Tryd.func58 (by kernel_rfl) rfl #[.agg #[.slice eu aZ.length ed,.string aV,.string aW,.slice gm aI.length eX],.int .i64 t125,.int .i64 iC] rfl (by (try simp only [List.map_toArray,List.map_cons,List.map_nil]);first|done|rfl|(simp only [List.length_drop,List.length_take];rfl)) ?_;(with_reducible refine (ik.calls nS _ _ aZ aV aW _ _ aI t125 iC t145 t146 _ ?df ?dA ?iY ?iW A69.out).mono ?_);(case df=>repeat (first|exact (Kd.bJ iI.out HB.out)|(with_reducible refine Kd.bQ ?_ _)|(with_reducible refine Kd.bP ?_ _)|(with_reducible refine Kd.dF ?_)));(case dA=>exact iL.out);(case iY=>repeat (first|exact (Kd.bJ jR.out HB.out)|(with_reducible refine Kd.bQ ?_ _)|(with_reducible refine Kd.bP ?_ _)|(with_reducible refine Kd.dF ?_)));(case iW=>exact kK.out);rintro e w74 ⟨rfl,hb⟩;refine ⟨_,rfl,?_⟩;have dX:=ae.mk (bg (g:=iT) (o:=.cells #[.slice eu aZ.length ed,.string aV,.string aW,.slice gm aI.length eX] 25 (0,0)) (by (with_reducible repeat (first|refine au ?_ _|refine ay ?_|refine ak ?_ _));exact dQ.out) hb);have dW:=ae.mk (bg (g:=fA) (o:=.cells #[.int .u8 bZ,.int .u8 gB,.int .u8 ig,.int .u8 iH,.int .i64 iC] 55 (0,0)) (by (with_reducible repeat (first|refine au ?_ _|refine ay ?_|refine ak ?_ _));exact bK.out) hb);have dU:=ae.mk (bn (by repeat (first|(with_reducible first|exact HB.out|apply ah|apply ag|apply ai|refine aj ?_ ja.out|refine aj ?_ jb.out)|exact HB.out)) hb);clear dQ;clear bK;clear HB;have dQ:=dX;have bK:=dW;have HB:=dU;clear dX dW dU;(try clear hb);(try clear hb2);(try clear hk);(try clear hi))|((with_reducible refine bz (f:=56) rfl ?_);refine dV (some 87) rfl rfl Tryd.func56 (by kernel_rfl) rfl #[.int .i64 t124,.int .i64 t145] rfl (by (try simp only [List.map_toArray,List.map_cons,List.map_nil]);first|done|rfl|(simp only [List.length_drop,List.length_take];rfl)) ?_;(with_reducible refine (iw.calls t124 t145 t147 _ A70.out).mono ?_);rintro e w' ⟨rfl,⟨nd,rfl⟩⟩;refine ⟨_,rfl,?_⟩))
            go_ret
            exact ⟨by first|rfl|(simp [aQ,aN] <;> rfl)|(simp [*,aQ,aN] <;> rfl),by repeat (first|(with_reducible first|exact HB.out|apply ah|apply ag|apply ai|refine aj ?_ ja.out|refine aj ?_ jb.out)|exact HB.out)⟩
           ·
            rw [if_neg c68] at H
            have ae5:(bZ == 10)=false:=beq_eq_false_iff_ne.mpr c68
            have ae4:(bZ != 10)=true:=bne_iff_ne.mpr c68
            by_cases c75:bZ=11
            ·
             rw [if_pos c75] at H
             have ae3:(bZ == 11)=true:=beq_iff_eq.mpr c75
             have ae2:(bZ != 11)=false:=bne_eq_false_iff_eq.mpr c75
             clear c75
             replace H:=Option.bind_eq_some_iff.mp H
             obtain ⟨⟨t148,t149⟩,ags,H⟩:=H
             replace H:((iw.f t125 t148).bind fun t150=>(some t150))=some r:=H
             have A76:=ae.mk ags
             clear ags
             replace H:=Option.bind_eq_some_iff.mp H
             obtain ⟨t150,agr,H⟩:=H
             replace H:(some t150)=some r:=H
             have A77:=ae.mk agr
             clear agr
             obtain rfl:=Option.some.inj H
             have apa:=lq.out
             have aoJ:=lh.out
             have akG:wc.cell? ⟨iT,0,none⟩=some (.slice eu aZ.length ed):=(ax dQ.out 0).trans rfl
             have akF:wc.cell? ⟨iT,1,none⟩=some (.string aV):=(ax dQ.out 1).trans rfl
             have akE:wc.cell? ⟨iT,2,none⟩=some (.string aW):=(ax dQ.out 2).trans rfl
             have akD:wc.cell? ⟨iT,3,none⟩=some (.slice gm aI.length eX):=(ax dQ.out 3).trans rfl
             have air:=aC dQ.out 0
             have aiq:=aC dQ.out 1
             have aip:=aC dQ.out 2
             have aio:=aC dQ.out 3
             have akC:wc.cell? ⟨fA,0,none⟩=some (.int .u8 bZ):=(ax bK.out 0).trans rfl
             have akB:wc.cell? ⟨fA,1,none⟩=some (.int .u8 gB):=(ax bK.out 1).trans rfl
             have akA:wc.cell? ⟨fA,2,none⟩=some (.int .u8 ig):=(ax bK.out 2).trans rfl
             have akz:wc.cell? ⟨fA,3,none⟩=some (.int .u8 iH):=(ax bK.out 3).trans rfl
             have aky:wc.cell? ⟨fA,4,none⟩=some (.int .i64 iC):=(ax bK.out 4).trans rfl
             have ain:=aC bK.out 0
             have aim:=aC bK.out 1
             have ail:=aC bK.out 2
             have aik:=aC bK.out 3
             have aij:=aC bK.out 4
             go_wp2_with (first|((with_reducible refine bz (f:=58) rfl ?_);refine dV (some 95) rfl rfl Tryd.func58 (by kernel_rfl) rfl #[.agg #[.slice eu aZ.length ed,.string aV,.string aW,.slice gm aI.length eX],.int .i64 t124,.int .i64 iC] rfl (by (try simp only [List.map_toArray,List.map_cons,List.map_nil]);first|done|rfl|(simp only [List.length_drop,List.length_take];rfl)) ?_;(with_reducible refine (ik.calls nS _ _ aZ aV aW _ _ aI t124 iC t148 t149 _ ?df ?dA ?iY ?iW A76.out).mono ?_);(case df=>repeat (first|exact (Kd.bJ iI.out HB.out)|(with_reducible refine Kd.bQ ?_ _)|(with_reducible refine Kd.bP ?_ _)|(with_reducible refine Kd.dF ?_)));(case dA=>exact iL.out);(case iY=>repeat (first|exact (Kd.bJ jR.out HB.out)|(with_reducible refine Kd.bQ ?_ _)|(with_reducible refine Kd.bP ?_ _)|(with_reducible refine Kd.dF ?_)));(case iW=>exact kK.out);rintro e w81 ⟨rfl,hb⟩;refine ⟨_,rfl,?_⟩;have dX:=ae.mk (bg (g:=iT) (o:=.cells #[.slice eu aZ.length ed,.string aV,.string aW,.slice gm aI.length eX] 25 (0,0)) (by (with_reducible repeat (first|refine au ?_ _|refine ay ?_|refine ak ?_ _));exact dQ.out) hb);have dW:=ae.mk (bg (g:=fA) (o:=.cells #[.int .u8 bZ,.int .u8 gB,.int .u8 ig,.int .u8 iH,.int .i64 iC] 55 (0,0)) (by (with_reducible repeat (first|refine au ?_ _|refine ay ?_|refine ak ?_ _));exact bK.out) hb);have dU:=ae.mk (bn (by repeat (first|(with_reducible first|exact HB.out|apply ah|apply ag|apply ai|refine aj ?_ ja.out|refine aj ?_ jb.out)|exact HB.out)) hb);clear dQ;clear bK;clear HB;have dQ:=dX;have bK:=dW;have HB:=dU;clear dX dW dU;(try clear hb);(try clear hb2);(try clear hk);(try clear hi))|((with_reducible refine bz (f:=56) rfl ?_);refine dV (some 100) rfl rfl Tryd.func56 (by kernel_rfl) rfl #[.int .i64 t125,.int .i64 t148] rfl (by (try simp only [List.map_toArray,List.map_cons,List.map_nil]);first|done|rfl|(simp only [List.length_drop,List.length_take];rfl)) ?_;(with_reducible refine (iw.calls t125 t148 t150 _ A77.out).mono ?_);rintro e w' ⟨rfl,⟨nd,rfl⟩⟩;refine ⟨_,rfl,?_⟩))
             go_ret
             exact ⟨by first|rfl|(simp [aQ,aN] <;> rfl)|(simp [*,aQ,aN] <;> rfl),by repeat (first|(with_reducible first|exact HB.out|apply ah|apply ag|apply ai|refine aj ?_ ja.out|refine aj ?_ jb.out)|exact HB.out)⟩
            ·
             rw [if_neg c75] at H
             have ae3:(bZ == 11)=false:=beq_eq_false_iff_ne.mpr c75
             have ae2:(bZ != 11)=true:=bne_iff_ne.mpr c75
             by_cases c82:bZ=12
             ·
              rw [if_pos c82] at H
              have ae1:(bZ == 12)=true:=beq_iff_eq.mpr c82
              have ae0:(bZ != 12)=false:=bne_eq_false_iff_eq.mpr c82
              clear c82
              replace H:=Option.bind_eq_some_iff.mp H
              obtain ⟨t151,agq,H⟩:=H
              replace H:((iw.f t124 t151).bind fun t152=>(some t152))=some r:=H
              have A83:=ae.mk agq
              clear agq
              replace H:=Option.bind_eq_some_iff.mp H
              obtain ⟨t152,agp,H⟩:=H
              replace H:(some t152)=some r:=H
              have A84:=ae.mk agp
              clear agp
              obtain rfl:=Option.some.inj H
              have ao9:=lq.out
              have aoI:=lh.out
              have akx:wc.cell? ⟨iT,0,none⟩=some (.slice eu aZ.length ed):=(ax dQ.out 0).trans rfl
              have akw:wc.cell? ⟨iT,1,none⟩=some (.string aV):=(ax dQ.out 1).trans rfl
              have akv:wc.cell? ⟨iT,2,none⟩=some (.string aW):=(ax dQ.out 2).trans rfl
              have aku:wc.cell? ⟨iT,3,none⟩=some (.slice gm aI.length eX):=(ax dQ.out 3).trans rfl
              have aii:=aC dQ.out 0
              have aih:=aC dQ.out 1
              have aif:=aC dQ.out 2
              have aie:=aC dQ.out 3
              have akt:wc.cell? ⟨fA,0,none⟩=some (.int .u8 bZ):=(ax bK.out 0).trans rfl
              have aks:wc.cell? ⟨fA,1,none⟩=some (.int .u8 gB):=(ax bK.out 1).trans rfl
              have akr:wc.cell? ⟨fA,2,none⟩=some (.int .u8 ig):=(ax bK.out 2).trans rfl
              have akq:wc.cell? ⟨fA,3,none⟩=some (.int .u8 iH):=(ax bK.out 3).trans rfl
              have akp:wc.cell? ⟨fA,4,none⟩=some (.int .i64 iC):=(ax bK.out 4).trans rfl
              have aid:=aC bK.out 0
              have aic:=aC bK.out 1
              have aib:=aC bK.out 2
              have aia:=aC bK.out 3
              have ah9:=aC bK.out 4
              go_wp2_with (first|((with_reducible refine bz (f:=59) rfl ?_);refine dV (some 107) rfl rfl Tryd.func59 (by kernel_rfl) rfl #[.agg #[.slice eu aZ.length ed,.string aV,.string aW,.slice gm aI.length eX],.int .u8 ig] rfl (by (try simp only [List.map_toArray,List.map_cons,List.map_nil]);first|done|rfl|(simp only [List.length_drop,List.length_take];rfl)) ?_;(with_reducible refine (jD.calls nS _ _ aZ aV aW _ _ aI ig t151 _ ?df ?dA ?iY ?iW A83.out).mono ?_);(case df=>repeat (first|exact (Kd.bJ iI.out HB.out)|(with_reducible refine Kd.bQ ?_ _)|(with_reducible refine Kd.bP ?_ _)|(with_reducible refine Kd.dF ?_)));(case dA=>exact iL.out);(case iY=>repeat (first|exact (Kd.bJ jR.out HB.out)|(with_reducible refine Kd.bQ ?_ _)|(with_reducible refine Kd.bP ?_ _)|(with_reducible refine Kd.dF ?_)));(case iW=>exact kK.out);rintro e w88 ⟨rfl,hb⟩;refine ⟨_,rfl,?_⟩;have dX:=ae.mk (bg (g:=iT) (o:=.cells #[.slice eu aZ.length ed,.string aV,.string aW,.slice gm aI.length eX] 25 (0,0)) (by (with_reducible repeat (first|refine au ?_ _|refine ay ?_|refine ak ?_ _));exact dQ.out) hb);have dW:=ae.mk (bg (g:=fA) (o:=.cells #[.int .u8 bZ,.int .u8 gB,.int .u8 ig,.int .u8 iH,.int .i64 iC] 55 (0,0)) (by (with_reducible repeat (first|refine au ?_ _|refine ay ?_|refine ak ?_ _));exact bK.out) hb);have dU:=ae.mk (bn (by repeat (first|(with_reducible first|exact HB.out|apply ah|apply ag|apply ai|refine aj ?_ ja.out|refine aj ?_ jb.out)|exact HB.out)) hb);clear dQ;clear bK;clear HB;have dQ:=dX;have bK:=dW;have HB:=dU;clear dX dW dU;(try clear hb);(try clear hb2);(try clear hk);(try clear hi))|((with_reducible refine bz (f:=56) rfl ?_);refine dV (some 108) rfl rfl Tryd.func56 (by kernel_rfl) rfl #[.int .i64 t124,.int .i64 t151] rfl (by (try simp only [List.map_toArray,List.map_cons,List.map_nil]);first|done|rfl|(simp only [List.length_drop,List.length_take];rfl)) ?_;(with_reducible refine (iw.calls t124 t151 t152 _ A84.out).mono ?_);rintro e w' ⟨rfl,⟨nd,rfl⟩⟩;refine ⟨_,rfl,?_⟩))
              go_ret
              exact ⟨by first|rfl|(simp [aQ,aN] <;> rfl)|(simp [*,aQ,aN] <;> rfl),by repeat (first|(with_reducible first|exact HB.out|apply ah|apply ag|apply ai|refine aj ?_ ja.out|refine aj ?_ jb.out)|exact HB.out)⟩
             ·
              rw [if_neg c82] at H
              have ae1:(bZ == 12)=false:=beq_eq_false_iff_ne.mpr c82
              have ae0:(bZ != 12)=true:=bne_iff_ne.mpr c82
              by_cases c89:bZ=13
              ·
               rw [if_pos c89] at H
               have aeZ:(bZ == 13)=true:=beq_iff_eq.mpr c89
               have aeY:(bZ != 13)=false:=bne_eq_false_iff_eq.mpr c89
               clear c89
               replace H:=Option.bind_eq_some_iff.mp H
               obtain ⟨t153,agn,H⟩:=H
               replace H:((iw.f t125 t153).bind fun t154=>(some t154))=some r:=H
               have Pe:=ae.mk agn
               clear agn
               replace H:=Option.bind_eq_some_iff.mp H
               obtain ⟨t154,agm,H⟩:=H
               replace H:(some t154)=some r:=H
               have A91:=ae.mk agm
               clear agm
               obtain rfl:=Option.some.inj H
               have ao8:=lq.out
               have aoH:=lh.out
               have ako:wc.cell? ⟨iT,0,none⟩=some (.slice eu aZ.length ed):=(ax dQ.out 0).trans rfl
               have akn:wc.cell? ⟨iT,1,none⟩=some (.string aV):=(ax dQ.out 1).trans rfl
               have akm:wc.cell? ⟨iT,2,none⟩=some (.string aW):=(ax dQ.out 2).trans rfl
               have akl:wc.cell? ⟨iT,3,none⟩=some (.slice gm aI.length eX):=(ax dQ.out 3).trans rfl
               have ah8:=aC dQ.out 0
               have ah7:=aC dQ.out 1
               have ah6:=aC dQ.out 2
               have ah5:=aC dQ.out 3
               have akk:wc.cell? ⟨fA,0,none⟩=some (.int .u8 bZ):=(ax bK.out 0).trans rfl
               have akj:wc.cell? ⟨fA,1,none⟩=some (.int .u8 gB):=(ax bK.out 1).trans rfl
               have aki:wc.cell? ⟨fA,2,none⟩=some (.int .u8 ig):=(ax bK.out 2).trans rfl
               have akh:wc.cell? ⟨fA,3,none⟩=some (.int .u8 iH):=(ax bK.out 3).trans rfl
               have akg:wc.cell? ⟨fA,4,none⟩=some (.int .i64 iC):=(ax bK.out 4).trans rfl
               have ah4:=aC bK.out 0
               have ah3:=aC bK.out 1
               have ah2:=aC bK.out 2
               have ah1:=aC bK.out 3
               have ah0:=aC bK.out 4
               go_wp2_with (first|((with_reducible refine bz (f:=59) rfl ?_);refine dV (some 115) rfl rfl Tryd.func59 (by kernel_rfl) rfl #[.agg #[.slice eu aZ.length ed,.string aV,.string aW,.slice gm aI.length eX],.int .u8 gB] rfl (by (try simp only [List.map_toArray,List.map_cons,List.map_nil]);first|done|rfl|(simp only [List.length_drop,List.length_take];rfl)) ?_;(with_reducible refine (jD.calls nS _ _ aZ aV aW _ _ aI gB t153 _ ?df ?dA ?iY ?iW Pe.out).mono ?_);(case df=>repeat (first|exact (Kd.bJ iI.out HB.out)|(with_reducible refine Kd.bQ ?_ _)|(with_reducible refine Kd.bP ?_ _)|(with_reducible refine Kd.dF ?_)));(case dA=>exact iL.out);(case iY=>repeat (first|exact (Kd.bJ jR.out HB.out)|(with_reducible refine Kd.bQ ?_ _)|(with_reducible refine Kd.bP ?_ _)|(with_reducible refine Kd.dF ?_)));(case iW=>exact kK.out);rintro e w95 ⟨rfl,hb⟩;refine ⟨_,rfl,?_⟩;have dX:=ae.mk (bg (g:=iT) (o:=.cells #[.slice eu aZ.length ed,.string aV,.string aW,.slice gm aI.length eX] 25 (0,0)) (by (with_reducible repeat (first|refine au ?_ _|refine ay ?_|refine ak ?_ _));exact dQ.out) hb);have dW:=ae.mk (bg (g:=fA) (o:=.cells #[.int .u8 bZ,.int .u8 gB,.int .u8 ig,.int .u8 iH,.int .i64 iC] 55 (0,0)) (by (with_reducible repeat (first|refine au ?_ _|refine ay ?_|refine ak ?_ _));exact bK.out) hb);have dU:=ae.mk (bn (by repeat (first|(with_reducible first|exact HB.out|apply ah|apply ag|apply ai|refine aj ?_ ja.out|refine aj ?_ jb.out)|exact HB.out)) hb);clear dQ;clear bK;clear HB;have dQ:=dX;have bK:=dW;have HB:=dU;clear dX dW dU;(try clear hb);(try clear hb2);(try clear hk);(try clear hi))|((with_reducible refine bz (f:=56) rfl ?_);refine dV (some 116) rfl rfl Tryd.func56 (by kernel_rfl) rfl #[.int .i64 t125,.int .i64 t153] rfl (by (try simp only [List.map_toArray,List.map_cons,List.map_nil]);first|done|rfl|(simp only [List.length_drop,List.length_take];rfl)) ?_;(with_reducible refine (iw.calls t125 t153 t154 _ A91.out).mono ?_);rintro e w' ⟨rfl,⟨nd,rfl⟩⟩;refine ⟨_,rfl,?_⟩))
               go_ret
               exact ⟨by first|rfl|(simp [aQ,aN] <;> rfl)|(simp [*,aQ,aN] <;> rfl),by repeat (first|(with_reducible first|exact HB.out|apply ah|apply ag|apply ai|refine aj ?_ ja.out|refine aj ?_ jb.out)|exact HB.out)⟩
              ·
               rw [if_neg c89] at H
               have aeZ:(bZ == 13)=false:=beq_eq_false_iff_ne.mpr c89
               have aeY:(bZ != 13)=true:=bne_iff_ne.mpr c89
               by_cases c96:bZ=15
               ·
                rw [if_pos c96] at H
                have aeX:(bZ == 15)=true:=beq_iff_eq.mpr c96
                have aeW:(bZ != 15)=false:=bne_eq_false_iff_eq.mpr c96
                clear c96
                obtain ⟨Po,Gx⟩:∃ y_:List Int,y_=(([gB]:List Int)):=⟨_,rfl⟩
                replace H:((dH.f nS Po).bind fun t158=>(if t158=true then ((gG.f nS aZ aV aW aI iH).bind fun t159=>((iw.f t125 t159).bind fun t160=>(some t160))) else (some false)))=some r:=by first|(rw [Gx];with_reducible exact H)|(have uB:=(Option.bind_some _ _).symm.trans H;rw [Gx];with_reducible exact uB)|(have uB:=(Option.bind_some _ _).symm.trans H;with_reducible exact uB)|with_reducible exact H|(rw [Gx];exact H)|exact H
                have NH:=ae.mk Gx
                clear Gx
                replace H:=Option.bind_eq_some_iff.mp H
                obtain ⟨t158,agl,H⟩:=H
                replace H:(if t158=true then ((gG.f nS aZ aV aW aI iH).bind fun t159=>((iw.f t125 t159).bind fun t160=>(some t160))) else (some false))=some r:=H
                have A97:=ae.mk agl
                clear agl
                by_cases c98:t158=true
                ·
                 subst c98
                 have H1:((gG.f nS aZ aV aW aI iH).bind fun t159=>((iw.f t125 t159).bind fun t160=>(some t160)))=some r:=by rw [if_pos rfl] at H;exact H
                 clear H
                 have H:=H1
                 clear H1
                 replace H:=Option.bind_eq_some_iff.mp H
                 obtain ⟨t159,agk,H⟩:=H
                 replace H:((iw.f t125 t159).bind fun t160=>(some t160))=some r:=H
                 have A99:=ae.mk agk
                 clear agk
                 replace H:=Option.bind_eq_some_iff.mp H
                 obtain ⟨t160,ZV,H⟩:=H
                 replace H:(some t160)=some r:=H
                 have Dj:=ae.mk ZV
                 clear ZV
                 obtain rfl:=Option.some.inj H
                 have am2:=lh.out
                 have am0:=lq.out
                 have aek:wc.cell? ⟨fA,0,none⟩=some (.int .u8 bZ):=(ax bK.out 0).trans rfl
                 have aej:wc.cell? ⟨fA,1,none⟩=some (.int .u8 gB):=(ax bK.out 1).trans rfl
                 have aei:wc.cell? ⟨fA,2,none⟩=some (.int .u8 ig):=(ax bK.out 2).trans rfl
                 have aeh:wc.cell? ⟨fA,3,none⟩=some (.int .u8 iH):=(ax bK.out 3).trans rfl
                 have aeg:wc.cell? ⟨fA,4,none⟩=some (.int .i64 iC):=(ax bK.out 4).trans rfl
                 have adZ:=aC bK.out 0
                 have adY:=aC bK.out 1
                 have adX:=aC bK.out 2
                 have adW:=aC bK.out 3
                 have adV:=aC bK.out 4
                 go_wp2_with (first|((with_reducible refine bD (N:=121) rfl ?_);refine Kd.uF (Kd.int .u8) _ 5 ?hg (N:=121) ?hd (xs:=([gB]:List Int)) (inner:=[.int .u8 gB]) (ok:=fun _=>True) (oW:=fun _=>True) ?hr ?hp (fun _ hk=>hk) trivial (Below.refl _ _) (Nat.le_refl _) (by simp) ?_;(case hd=>rfl);(case hg=>rfl);(case hr=>first|(go_simp;done)|(go_simp;rfl));(case hp=>exact (jF.one (show Kd.M (Kd.int .u8) _ _ _ gB [.int .u8 gB] from rfl) (jF.none _ _)));intro amM Es GM hb CX oJ;clear CX oJ;(first|rw [← NH.out] at GM|(simp only [Int.reduceToNat] at GM;rw [← NH.out] at GM));have dX:=ae.mk (Kd.jy GM (bY (by repeat (first|(with_reducible first|exact HB.out|apply ah|apply ag|apply ai|refine aj ?_ ja.out|refine aj ?_ jb.out)|exact HB.out))));have dW:=ae.mk (bg (g:=iT) (o:=.cells #[.slice eu aZ.length ed,.string aV,.string aW,.slice gm aI.length eX] 25 (0,0)) (by (with_reducible repeat (first|refine au ?_ _|refine ay ?_|refine ak ?_ _));exact dQ.out) hb);have dU:=ae.mk (bg (g:=fA) (o:=.cells #[.int .u8 bZ,.int .u8 gB,.int .u8 ig,.int .u8 iH,.int .i64 iC] 55 (0,0)) (by (with_reducible repeat (first|refine au ?_ _|refine ay ?_|refine ak ?_ _));exact bK.out) hb);have iq:=ae.mk (bn (by repeat (first|(with_reducible first|exact HB.out|apply ah|apply ag|apply ai|refine aj ?_ ja.out|refine aj ?_ jb.out)|exact HB.out)) hb);clear dQ;clear bK;clear HB;have xu:=dX;have dQ:=dW;have bK:=dU;have HB:=iq;clear dX dW dU iq;clear hb GM;obtain ⟨agj,aeV,aeF⟩:=Kd.jw xu.out;subst aeF)|((with_reducible refine bz (f:=55) rfl ?_);refine dV (some 122) rfl rfl Tryd.func55 (by kernel_rfl) rfl #[.slice agj Po.length aeV] rfl (by (try simp only [List.map_toArray,List.map_cons,List.map_nil]);first|done|rfl|(simp only [List.length_drop,List.length_take];rfl)) ?_;(with_reducible refine (dH.calls nS _ _ Po true _ ?df ?dA A97.out).mono ?_);(case df=>repeat (first|exact (Kd.dS xu.out).2.2|(with_reducible refine Kd.bQ ?_ _)|(with_reducible refine Kd.bP ?_ _)|(with_reducible refine Kd.dF ?_)));(case dA=>exact (Kd.dS xu.out).2.1);rintro e w' ⟨rfl,⟨nd,rfl⟩⟩;refine ⟨_,rfl,?_⟩;have aef:Es.cell? ⟨iT,0,none⟩=some (.slice eu aZ.length ed):=(ax dQ.out 0).trans rfl;have aee:Es.cell? ⟨iT,1,none⟩=some (.string aV):=(ax dQ.out 1).trans rfl;have aed:Es.cell? ⟨iT,2,none⟩=some (.string aW):=(ax dQ.out 2).trans rfl;have aec:Es.cell? ⟨iT,3,none⟩=some (.slice gm aI.length eX):=(ax dQ.out 3).trans rfl;have adU:=aC dQ.out 0;have adT:=aC dQ.out 1;have adS:=aC dQ.out 2;have adR:=aC dQ.out 3;have aeb:Es.cell? ⟨fA,0,none⟩=some (.int .u8 bZ):=(ax bK.out 0).trans rfl;have aea:Es.cell? ⟨fA,1,none⟩=some (.int .u8 gB):=(ax bK.out 1).trans rfl;have ad9:Es.cell? ⟨fA,2,none⟩=some (.int .u8 ig):=(ax bK.out 2).trans rfl;have ad8:Es.cell? ⟨fA,3,none⟩=some (.int .u8 iH):=(ax bK.out 3).trans rfl;have ad7:Es.cell? ⟨fA,4,none⟩=some (.int .i64 iC):=(ax bK.out 4).trans rfl;have adQ:=aC bK.out 0;have adP:=aC bK.out 1;have adO:=aC bK.out 2;have adN:=aC bK.out 3;have adM:=aC bK.out 4)|(go_at_call 36;(with_reducible refine (gG.calls nS _ _ aZ aV aW _ _ aI iH t159 _ ?df ?dA ?iY ?iW A99.out).mono ?_);(case df=>repeat (first|exact (Kd.bJ iI.out (by repeat (first|(with_reducible first|exact HB.out|apply ah|apply ag|apply ai|refine aj ?_ ja.out|refine aj ?_ jb.out)|exact HB.out)))|(with_reducible refine Kd.bQ ?_ _)|(with_reducible refine Kd.bP ?_ _)|(with_reducible refine Kd.dF ?_)));(case dA=>exact iL.out);(case iY=>repeat (first|exact (Kd.bJ jR.out (by repeat (first|(with_reducible first|exact HB.out|apply ah|apply ag|apply ai|refine aj ?_ ja.out|refine aj ?_ jb.out)|exact HB.out)))|(with_reducible refine Kd.bQ ?_ _)|(with_reducible refine Kd.bP ?_ _)|(with_reducible refine Kd.dF ?_)));(case iW=>exact kK.out);rintro e ari ⟨rfl,hb⟩;have dX:=ae.mk (Kd.jA (by (with_reducible repeat (first|apply Kd.iK|apply Kd.iJ|apply Kd.jq));exact xu.out) hb);have dW:=ae.mk (bg (g:=iT) (o:=.cells #[.slice eu aZ.length ed,.string aV,.string aW,.slice gm aI.length eX] 25 (0,0)) (by (with_reducible repeat (first|refine au ?_ _|refine ay ?_|refine ak ?_ _));exact dQ.out) hb);have dU:=ae.mk (bg (g:=fA) (o:=.cells #[.int .u8 bZ,.int .u8 gB,.int .u8 ig,.int .u8 iH,.int .i64 iC] 55 (0,0)) (by (with_reducible repeat (first|refine au ?_ _|refine ay ?_|refine ak ?_ _));exact bK.out) hb);have iq:=ae.mk (bn (by repeat (first|(with_reducible first|exact HB.out|apply ah|apply ag|apply ai|refine aj ?_ ja.out|refine aj ?_ jb.out)|exact HB.out)) hb);clear xu;clear dQ;clear bK;clear HB;have xu:=dX;have dQ:=dW;have bK:=dU;have HB:=iq;clear dX dW dU iq;(try clear hb);(try clear hb2);(try clear hk);(try clear hi))|(go_at_call 56;(with_reducible refine (iw.calls t125 t159 t160 _ Dj.out).mono ?_);rintro e w' ⟨rfl,⟨nd,rfl⟩⟩))
                 go_ret
                 exact ⟨by first|rfl|(simp [aQ,aN] <;> rfl)|(simp [*,aQ,aN] <;> rfl),by repeat (first|(with_reducible first|exact HB.out|apply ah|apply ag|apply ai|refine aj ?_ ja.out|refine aj ?_ jb.out)|exact HB.out)⟩
                ·
                 replace c98:=Bool.eq_false_iff.mpr c98
                 subst c98
                 have H1:(some false)=some r:=by rw [if_neg (show ¬ (false=true) by decide)] at H;exact H
                 clear H
                 have H:=H1
                 clear H1
                 obtain rfl:=Option.some.inj H
                 have am1:=lh.out
                 have amZ:=lq.out
                 have ad6:wc.cell? ⟨fA,0,none⟩=some (.int .u8 bZ):=(ax bK.out 0).trans rfl
                 have ad5:wc.cell? ⟨fA,1,none⟩=some (.int .u8 gB):=(ax bK.out 1).trans rfl
                 have ad4:wc.cell? ⟨fA,2,none⟩=some (.int .u8 ig):=(ax bK.out 2).trans rfl
                 have ad3:wc.cell? ⟨fA,3,none⟩=some (.int .u8 iH):=(ax bK.out 3).trans rfl
                 have ad1:wc.cell? ⟨fA,4,none⟩=some (.int .i64 iC):=(ax bK.out 4).trans rfl
                 have adL:=aC bK.out 0
                 have adK:=aC bK.out 1
                 have adJ:=aC bK.out 2
                 have adI:=aC bK.out 3
                 have adH:=aC bK.out 4
                 go_wp2_with (first|((with_reducible refine bD (N:=121) rfl ?_);refine Kd.uF (Kd.int .u8) _ 5 ?hg (N:=121) ?hd (xs:=([gB]:List Int)) (inner:=[.int .u8 gB]) (ok:=fun _=>True) (oW:=fun _=>True) ?hr ?hp (fun _ hk=>hk) trivial (Below.refl _ _) (Nat.le_refl _) (by simp) ?_;(case hd=>rfl);(case hg=>rfl);(case hr=>first|(go_simp;done)|(go_simp;rfl));(case hp=>exact (jF.one (show Kd.M (Kd.int .u8) _ _ _ gB [.int .u8 gB] from rfl) (jF.none _ _)));intro amM arh GL hb CX oJ;clear CX oJ;(first|rw [← NH.out] at GL|(simp only [Int.reduceToNat] at GL;rw [← NH.out] at GL));have dX:=ae.mk (Kd.jy GL (bY (by repeat (first|(with_reducible first|exact HB.out|apply ah|apply ag|apply ai|refine aj ?_ ja.out|refine aj ?_ jb.out)|exact HB.out))));have dW:=ae.mk (bg (g:=iT) (o:=.cells #[.slice eu aZ.length ed,.string aV,.string aW,.slice gm aI.length eX] 25 (0,0)) (by (with_reducible repeat (first|refine au ?_ _|refine ay ?_|refine ak ?_ _));exact dQ.out) hb);have dU:=ae.mk (bg (g:=fA) (o:=.cells #[.int .u8 bZ,.int .u8 gB,.int .u8 ig,.int .u8 iH,.int .i64 iC] 55 (0,0)) (by (with_reducible repeat (first|refine au ?_ _|refine ay ?_|refine ak ?_ _));exact bK.out) hb);have iq:=ae.mk (bn (by repeat (first|(with_reducible first|exact HB.out|apply ah|apply ag|apply ai|refine aj ?_ ja.out|refine aj ?_ jb.out)|exact HB.out)) hb);clear dQ;clear bK;clear HB;have xu:=dX;have dQ:=dW;have bK:=dU;have HB:=iq;clear dX dW dU iq;clear hb GL;obtain ⟨agi,aeU,aeE⟩:=Kd.jw xu.out;subst aeE)|((with_reducible refine bz (f:=55) rfl ?_);refine dV (some 122) rfl rfl Tryd.func55 (by kernel_rfl) rfl #[.slice agi Po.length aeU] rfl (by (try simp only [List.map_toArray,List.map_cons,List.map_nil]);first|done|rfl|(simp only [List.length_drop,List.length_take];rfl)) ?_;(with_reducible refine (dH.calls nS _ _ Po false _ ?df ?dA A97.out).mono ?_);(case df=>repeat (first|exact (Kd.dS xu.out).2.2|(with_reducible refine Kd.bQ ?_ _)|(with_reducible refine Kd.bP ?_ _)|(with_reducible refine Kd.dF ?_)));(case dA=>exact (Kd.dS xu.out).2.1);rintro e w' ⟨rfl,⟨nd,rfl⟩⟩;refine ⟨_,rfl,?_⟩))
                 go_ret
                 exact ⟨by first|rfl|(simp [aQ,aN] <;> rfl)|(simp [*,aQ,aN] <;> rfl),by repeat (first|(with_reducible first|exact HB.out|apply ah|apply ag|apply ai|refine aj ?_ ja.out|refine aj ?_ jb.out)|exact HB.out)⟩
               ·
                rw [if_neg c96] at H
                have aeX:(bZ == 15)=false:=beq_eq_false_iff_ne.mpr c96
                have aeW:(bZ != 15)=true:=bne_iff_ne.mpr c96
                obtain rfl:=Option.some.inj H
                go_wp2
                go_ret
                exact ⟨by first|rfl|(simp [aQ,aN] <;> rfl)|(simp [*,aQ,aN] <;> rfl),by repeat (first|(with_reducible first|exact HB.out|apply ah|apply ag|apply ai|refine aj ?_ ja.out|refine aj ?_ jb.out)|exact HB.out)⟩
end Go.Proofs.YtlemecdddhdagaaDoor.P
end
