/- Parts of the proof of ModelRuns: what the functions that it reaches compute, and plain facts about that. -/
import Derived.Test.YtlemecdddhdagaaDoorYab
import Derived.Test.YtlemecdddhdagaaDoorYad
import Derived.Test.YtlemecdddhdagaaDoorYae
set_option linter.unusedVariables false
set_option linter.unusedSimpArgs false
section
namespace Go.Proofs.YtlemecdddhdagaaDoor.P
open Go.RowKit Go.Proofs.af.bD Go.Proofs.af.dB Go.Proofs.af.dM
attribute [local go_sem] lq lg mG mF jY jX lh kZ
mutual
def bT.j0:Nat→Int→Int→Int→Bool→List ByteArray→ByteArray→ByteArray→List (iw)→Int→Int→Int→Int→Int→Option (Bool)
 | 0,_,_,_,_,_,_,_,_,_,_,_,_,_=>none
 | k+1,x5,x6,x20,SH,qj,qi,qh,qg,DW,rM,vk,xq,tY=>if SH=true then ((dG.f k (([rM]:List Int))).bind fun t129=>(some t129)) else (if x20=2 then ((dG.f k (([rM,vk,xq]:List Int))).bind fun t133=>(some t133)) else (if x20=5 then (bT.j1 k x5 x6 x20 (x20 == 5) qj qi qh qg DW rM vk xq tY) else (bT.j1 k x5 x6 x20 (x20 == 6) qj qi qh qg DW rM vk xq tY)))
def bT.j1:Nat→Int→Int→Int→Bool→List ByteArray→ByteArray→ByteArray→List (iw)→Int→Int→Int→Int→Int→Option (Bool)
 | 0,_,_,_,_,_,_,_,_,_,_,_,_,_=>none
 | k+1,x5,x6,x20,x39,qj,qi,qh,qg,DW,rM,vk,xq,tY=>if x39=true then (some (decide (x5 ≥ 0))) else (if x20=7 then ((ig.f x5 x6).bind fun t134=>(some t134)) else (if x20=8 then ((dG.f k (([rM]:List Int))).bind fun t138=>(if t138=true then ((gQ.f k qj qi qh qg x6 tY).bind fun t139=>(some t139)) else (some false))) else (if x20=9 then ((dG.f k (([vk]:List Int))).bind fun t143=>(if t143=true then ((gQ.f k qj qi qh qg x5 tY).bind fun t144=>(some t144)) else (some false))) else (if x20=10 then ((gY.f k qj qi qh qg x6 tY).bind fun Rk=>((ig.f x5 Rk.1).bind fun t147=>(some t147))) else (if x20=11 then ((gY.f k qj qi qh qg x5 tY).bind fun Rj=>((ig.f x6 Rj.1).bind fun t150=>(some t150))) else (if x20=12 then ((jv.f k qj qi qh qg vk).bind fun t151=>((ig.f x5 t151).bind fun t152=>(some t152))) else (if x20=13 then ((jv.f k qj qi qh qg rM).bind fun t153=>((ig.f x6 t153).bind fun t154=>(some t154))) else (if x20=15 then ((dG.f k (([rM]:List Int))).bind fun t158=>(if t158=true then ((gB.f k qj qi qh qg xq).bind fun t159=>((ig.f x6 t159).bind fun t160=>(some t160))) else (some false))) else (some true)))))))))
end
def bT.f (k:Nat) (aZ:List ByteArray) (aU:ByteArray) (aV:ByteArray) (aI:List (iw)) (bV:Int) (gz:Int) (gX:Int) (iF:Int) (iq:Int):Option (Bool):=(gB.f k aZ aU aV aI gz).bind fun t124=>((gB.f k aZ aU aV aI gX).bind fun t125=>(if bV=1 then (bT.j0 k t124 t125 bV (bV == 1) aZ aU aV aI bV gz gX iF iq) else (if bV=4 then (bT.j0 k t124 t125 bV (bV == 4) aZ aU aV aI bV gz gX iF iq) else (bT.j0 k t124 t125 bV (bV == 14) aZ aU aV aI bV gz gX iF iq))))
theorem bT.iD:∀ k,(∀ y0 y1 y2 y3 y4 y5 y6 y7 y8 y9 Aa Hy Hw,dO (bT.j0 k y0 y1 y2 y3 y4 y5 y6 y7 y8 y9 Aa Hy Hw) (bT.j0 (k+1) y0 y1 y2 y3 y4 y5 y6 y7 y8 y9 Aa Hy Hw))∧(∀ y0 y1 y2 y3 y4 y5 y6 y7 y8 y9 Aa Hy Hw,dO (bT.j1 k y0 y1 y2 y3 y4 y5 y6 y7 y8 y9 Aa Hy Hw) (bT.j1 (k+1) y0 y1 y2 y3 y4 y5 y6 y7 y8 y9 Aa Hy Hw))
 | 0=>⟨fun _ _ _ _ _ _ _ _ _ _ _ _ _ r h=>by simp [bT.j0] at h,fun _ _ _ _ _ _ _ _ _ _ _ _ _ r h=>by simp [bT.j1] at h⟩
 | k+1=>by
  obtain ⟨lS,ih1⟩:=bT.iD k
  refine ⟨?_,?_⟩
  ·
   intro y0 y1 y2 y3 y4 y5 y6 y7 y8 y9 Aa Hy Hw
   unfold bT.j0
   repeat' with_reducible first|apply lS|apply ih1|apply jv.mono|apply gB.mono|apply gY.mono|apply dG.mono|apply gQ.mono|exact dO.refl _|exact dO.none _|refine dO.ite ?_ ?_|refine dO.bind ?_ (fun _=>?_)
  ·
   intro y0 y1 y2 y3 y4 y5 y6 y7 y8 y9 Aa Hy Hw
   unfold bT.j1
   repeat' with_reducible first|apply lS|apply ih1|apply jv.mono|apply gB.mono|apply gY.mono|apply dG.mono|apply gQ.mono|exact dO.refl _|exact dO.none _|refine dO.ite ?_ ?_|refine dO.bind ?_ (fun _=>?_)
theorem bT.mono:∀ a0 a1 a2 a3 a4 a5 a6 a7 a8 k,dO (bT.f k a0 a1 a2 a3 a4 a5 a6 a7 a8) (bT.f (k+1) a0 a1 a2 a3 a4 a5 a6 a7 a8):=by
 intro a0 a1 a2 a3 a4 a5 a6 a7 a8 k
 obtain ⟨lS,ih1⟩:=bT.iD k
 unfold bT.f
 repeat' with_reducible first|apply lS|apply ih1|apply jv.mono|apply gB.mono|apply gY.mono|apply dG.mono|apply gQ.mono|exact dO.refl _|exact dO.none _|refine dO.ite ?_ ?_|refine dO.bind ?_ (fun _=>?_)
def bT.T1:Bool × List (List Nat × List Nat):=(true,[([],[]),([],[]),([1],[1]),([0,2],[0,2]),([],[]),([],[]),([5],[5]),([4,6,3],[4,6]),([3,7,0,1,2,3],[3]),([7,8,0,1,2,3,4,5,6,7,8],[7])])
def bT.B1:List Nat:=[0,0,2,7,0,0,32,127,255,511]
theorem bT.Zp:qG .any (opsOf Tryd.f34 1)=bT.T1:=by kernel_rfl
theorem bT.Rn:rO bT.T1.2 bT.B1=true:=by kernel_rfl
set_option maxHeartbeats 8000000 in
set_option maxRecDepth 100000 in
theorem bT.calls (k:Nat) (ed:Option Addr) (dZ:Nat) (aZ:List ByteArray) (aU:ByteArray) (aV:ByteArray) (gm:Option Addr) (eU:Nat) (aI:List (iw)) (bV:Int) (gz:Int) (gX:Int) (iF:Int) (iq:Int) (r:Bool) (w:World) (jO:Kd.C Kd.string w ed aZ.length aZ) (jQ:aZ.length≤dZ) (jM:Kd.C uq w gm aI.length aI) (jP:aI.length≤eU) (h:bT.f k aZ aU aV aI bV gz gX iF iq=some r) :
  Calls Tryd.prog 34 #[.agg #[.slice ed aZ.length dZ,.string aU,.string aV,.slice gm aI.length eU],.agg #[.int .u8 bV,.int .u8 gz,.int .u8 gX,.int .u8 iF,.int .i64 iq]] w fun e w'=>e=.returned (.bool r)∧Below w.heap.size w w':=by
 have yx:=Tryd.underlying25
 have BV:=Tryd.underlying55
 have iH:=ae.mk jO
 have iK:=ae.mk jQ
 clear jO jQ
 have jJ:=ae.mk jM
 have kC:=ae.mk jP
 clear jM jP
 have HB:=ae.mk (Below.refl w.heap.size w)
 have H:((gB.f k aZ aU aV aI gz).bind fun t124=>((gB.f k aZ aU aV aI gX).bind fun t125=>(if bV=1 then (bT.j0 k t124 t125 bV (bV == 1) aZ aU aV aI bV gz gX iF iq) else (if bV=4 then (bT.j0 k t124 t125 bV (bV == 4) aZ aU aV aI bV gz gX iF iq) else (bT.j0 k t124 t125 bV (bV == 14) aZ aU aV aI bV gz gX iF iq)))))=some r:=h
 clear h
 replace H:=Option.bind_eq_some_iff.mp H
 obtain ⟨t124,yc,H⟩:=H
 replace H:((gB.f k aZ aU aV aI gX).bind fun t125=>(if bV=1 then (bT.j0 k t124 t125 bV (bV == 1) aZ aU aV aI bV gz gX iF iq) else (if bV=4 then (bT.j0 k t124 t125 bV (bV == 4) aZ aU aV aI bV gz gX iF iq) else (bT.j0 k t124 t125 bV (bV == 14) aZ aU aV aI bV gz gX iF iq))))=some r:=H
 have A3:=ae.mk yc
 clear yc
 replace H:=Option.bind_eq_some_iff.mp H
 obtain ⟨t125,BL,H⟩:=H
 replace H:(if bV=1 then (bT.j0 k t124 t125 bV (bV == 1) aZ aU aV aI bV gz gX iF iq) else (if bV=4 then (bT.j0 k t124 t125 bV (bV == 4) aZ aU aV aI bV gz gX iF iq) else (bT.j0 k t124 t125 bV (bV == 14) aZ aU aV aI bV gz gX iF iq)))=some r:=H
 have A4:=ae.mk BL
 clear BL
 have Jk:=ae.mk H
 clear H
 go_enter Tryd.func34,Tryd.ntmps34
 try go_wp2_with (first|((with_reducible refine bI (N:=2) rfl ?_);refine fF ?hg (N:=2) ?hd (cs:=#[.slice ed aZ.length dZ,.string aU,.string aV,.slice gm aI.length eU]) (t:=25) ?hr ?_;(case hd=>rfl);(case hg=>rfl);(case hr=>first|(go_simp;done)|(go_simp;rfl));intro iR hg w6 hbox hb;have dV:=ae.mk (bn (by repeat (first|(with_reducible first|exact HB.out|apply ah|apply ag|apply ai)|exact HB.out)) hb);have dU:=ae.mk (hbox);have dR:=ae.mk ((by rw [hg];exact (bU (by repeat (first|(with_reducible first|exact HB.out|apply ah|apply ag|apply ai)|exact HB.out))):w.heap.size≤iR));have gZ:=dR;clear HB;have HB:=dV;have dP:=dU;have apW:=dR;have iZ:=gZ;clear dV dU dR gZ;clear hb hbox hg)|((with_reducible refine bI (N:=3) rfl ?_);refine fF ?hg (N:=3) ?hd (cs:=#[.int .u8 bV,.int .u8 gz,.int .u8 gX,.int .u8 iF,.int .i64 iq]) (t:=55) ?hr ?_;(case hd=>rfl);(case hg=>rfl);(case hr=>first|(go_simp;done)|(go_simp;rfl));intro eY hg w7 hbox hb;have dV:=ae.mk (bg (g:=iR) (o:=.cells #[.slice ed aZ.length dZ,.string aU,.string aV,.slice gm aI.length eU] 25 (0,0)) (by (with_reducible repeat (first|refine au ?_ _|refine ay ?_|refine ak ?_ _));exact dP.out) hb);have dU:=ae.mk (bn (by repeat (first|(with_reducible first|exact HB.out|apply ah|apply ag|apply ai|refine aj ?_ iZ.out)|exact HB.out)) hb);have dR:=ae.mk (hbox);have gZ:=ae.mk ((by rw [hg];exact (bU (by repeat (first|(with_reducible first|exact HB.out|apply ah|apply ag|apply ai|refine aj ?_ iZ.out)|exact HB.out))):w.heap.size≤eY));have l9:=gZ;have mY:=ae.mk ((by rw [hg];exact Nat.ne_of_lt (kK (g:=iR) (o:=.cells #[.slice ed aZ.length dZ,.string aU,.string aV,.slice gm aI.length eU] 25 (0,0)) (by (with_reducible repeat (first|refine au ?_ _|refine ay ?_|refine ak ?_ _));exact dP.out)):iR ≠ eY));have nY:=ae.mk mY.out.symm;clear dP;clear HB;have dP:=dV;have HB:=dU;have bK:=dR;have apV:=gZ;have ja:=l9;have kY:=mY;have kX:=nY;clear dV dU dR gZ l9 mY nY;clear hb hbox hg))
 have dV:=ae.mk (ay dP.out)
 have dU:=ae.mk (ay bK.out)
 have dR:=ae.mk (ai HB.out)
 clear dP
 clear bK
 clear HB
 have dP:=dV
 have bK:=dU
 have HB:=dR
 clear dV dU dR
 refine rf (n:=10) (S:=fun w'=>w'.cell? ⟨iR,0,none⟩=some (.slice ed aZ.length dZ)∧w'.cell? ⟨iR,1,none⟩=some (.string aU)∧w'.cell? ⟨iR,2,none⟩=some (.string aV)∧w'.cell? ⟨iR,3,none⟩=some (.slice gm aI.length eU)∧w'.cell? ⟨eY,0,none⟩=some (.int .u8 bV)∧w'.cell? ⟨eY,1,none⟩=some (.int .u8 gz)∧w'.cell? ⟨eY,2,none⟩=some (.int .u8 gX)∧w'.cell? ⟨eY,3,none⟩=some (.int .u8 iF)∧w'.cell? ⟨eY,4,none⟩=some (.int .i64 iq)) (ds:=[]) #[false,false,false,false,false,false,false,false,false,false] (by kernel_rfl) rfl rfl ⟨(ax dP.out 0).trans rfl,(ax dP.out 1).trans rfl,(ax dP.out 2).trans rfl,(ax dP.out 3).trans rfl,(ax bK.out 0).trans rfl,(ax bK.out 1).trans rfl,(ax bK.out 2).trans rfl,(ax bK.out 3).trans rfl,(ax bK.out 4).trans rfl⟩ (fun hHeld=>?_);refine qV bT.Zp bT.Rn (fun lL Cf=>?_)
 generalize w7.drew=w8 at dP bK HB hHeld ⊢
 refine iy (i:=1) (N:=some 12) (v:=?_) (a':=?_) #[false,true,false,false,false,false,false,false,false,false] rfl rfl (iO lL.out (by kernel_rfl)) (fun _ _ _ h=>h) (Or.inl ⟨by rfl,?_⟩) ?_ ?_
 rotate_left
 ·
  intro w'
  go_simp
  with_reducible rfl
 rotate_left
 ·
  simp only [Act.put,List.setIfInBounds_toArray,List.set_cons_zero,List.set_cons_succ,bW,cu]
  rfl
 refine iy (i:=5) (N:=some 16) (v:=?_) (a':=?_) #[false,true,false,false,false,true,false,false,false,false] rfl rfl (iO lL.out (by kernel_rfl)) (fun _ _ _ h=>h) (Or.inl ⟨by rfl,?_⟩) ?_ ?_
 rotate_left
 ·
  intro w'
  go_simp
  with_reducible rfl
 rotate_left
 ·
  simp only [Act.put,List.setIfInBounds_toArray,List.set_cons_zero,List.set_cons_succ,bW,cu]
  rfl
 refine kU (i:=0) (N:=some 11) (v:=?_) (a':=?_) #[true,true,false,false,false,true,false,false,false,false] rfl rfl (kQ lL.out Cf.out (by kernel_rfl)) (fun _ _ _ h=>h) (Or.inl ⟨by rfl,?_⟩) hHeld ?_ ?_
 rotate_left
 ·
  rintro w' ⟨s0,s1,s2,s3,s4,s5,s6,s7,s8⟩
  go_simp
  with_reducible rfl
 rotate_left
 ·
  simp only [Act.put,List.setIfInBounds_toArray,List.set_cons_zero,List.set_cons_succ,bW,cu]
  rfl
 refine kU (i:=2) (N:=some 13) (v:=?_) (a':=?_) #[true,true,true,false,false,true,false,false,false,false] rfl rfl (kQ lL.out Cf.out (by kernel_rfl)) (fun _ _ _ h=>h) (Or.inl ⟨by rfl,?_⟩) hHeld ?_ ?_
 rotate_left
 ·
  rintro w' ⟨s0,s1,s2,s3,s4,s5,s6,s7,s8⟩
  go_simp
  with_reducible rfl
 rotate_left
 ·
  simp only [Act.put,List.setIfInBounds_toArray,List.set_cons_zero,List.set_cons_succ,bW,cu]
  rfl
 refine kU (i:=4) (N:=some 15) (v:=?_) (a':=?_) #[true,true,true,false,true,true,false,false,false,false] rfl rfl (kQ lL.out Cf.out (by kernel_rfl)) (fun _ _ _ h=>h) (Or.inl ⟨by rfl,?_⟩) hHeld ?_ ?_
 rotate_left
 ·
  rintro w' ⟨s0,s1,s2,s3,s4,s5,s6,s7,s8⟩
  go_simp
  with_reducible rfl
 rotate_left
 ·
  simp only [Act.put,List.setIfInBounds_toArray,List.set_cons_zero,List.set_cons_succ,bW,cu]
  rfl
 refine kU (i:=6) (N:=some 17) (v:=?_) (a':=?_) #[true,true,true,false,true,true,true,false,false,false] rfl rfl (kQ lL.out Cf.out (by kernel_rfl)) (fun _ _ _ h=>h) (Or.inl ⟨by rfl,?_⟩) hHeld ?_ ?_
 rotate_left
 ·
  rintro w' ⟨s0,s1,s2,s3,s4,s5,s6,s7,s8⟩
  go_simp
  with_reducible rfl
 rotate_left
 ·
  simp only [Act.put,List.setIfInBounds_toArray,List.set_cons_zero,List.set_cons_succ,bW,cu]
  rfl
 refine o6 (i:=3) (N:=some 14) #[true,true,true,true,true,true,true,false,false,false] rfl rfl (nJ lL.out (by kernel_rfl)) (by decide) (fun K hK=>?_)
 refine qy Tryd.func36 (by kernel_rfl) rfl #[.agg #[.slice ed aZ.length dZ,.string aU,.string aV,.slice gm aI.length eU],.int .u8 gz] (by rfl) rfl rfl (by (try simp only [List.map_toArray,List.map_cons,List.map_nil]);first|done|rfl|(simp only [List.length_drop,List.length_take];rfl)) ?_
 with_reducible refine (gB.calls k _ _ aZ aU aV _ _ aI gz t124 _ ?bZ ?dh ?iW ?iV A3.out).mono ?_
 (case bZ=>repeat (first|exact (Kd.bJ iH.out HB.out)|(with_reducible refine Kd.bP ?_ _)|(with_reducible refine Kd.bQ ?_ _)|(with_reducible refine Kd.dD ?_)))
 (case dh=>exact iK.out)
 (case iW=>repeat (first|exact (Kd.bJ jJ.out HB.out)|(with_reducible refine Kd.bP ?_ _)|(with_reducible refine Kd.bQ ?_ _)|(with_reducible refine Kd.dD ?_)))
 (case iV=>exact kC.out)
 rintro e w9 ⟨rfl,hb⟩
 refine ⟨_,rfl,?_⟩
 have dV:=ae.mk (bg (g:=iR) (o:=.cells #[.slice ed aZ.length dZ,.string aU,.string aV,.slice gm aI.length eU] 25 (0,0)) (by (with_reducible repeat (first|refine au ?_ _|refine ay ?_|refine ak ?_ _));exact dP.out) hb)
 have dU:=ae.mk (bg (g:=eY) (o:=.cells #[.int .u8 bV,.int .u8 gz,.int .u8 gX,.int .u8 iF,.int .i64 iq] 55 (0,0)) (by (with_reducible repeat (first|refine au ?_ _|refine ay ?_|refine ak ?_ _));exact bK.out) hb)
 have dR:=ae.mk (bn (by repeat (first|(with_reducible first|exact HB.out|apply ah|apply ag|apply ai|refine aj ?_ iZ.out|refine aj ?_ ja.out)|exact HB.out)) hb)
 clear dP
 clear bK
 clear HB
 have dP:=dV
 have bK:=dU
 have HB:=dR
 clear dV dU dR
 (try clear hb)
 (try clear hb2)
 (try clear hk)
 (try clear hi)
 refine hK.out _ _ ⟨(ax dP.out 0).trans rfl,(ax dP.out 1).trans rfl,(ax dP.out 2).trans rfl,(ax dP.out 3).trans rfl,(ax bK.out 0).trans rfl,(ax bK.out 1).trans rfl,(ax bK.out 2).trans rfl,(ax bK.out 3).trans rfl,(ax bK.out 4).trans rfl⟩ (fun hHeld=>?_)
 clear hK K
 refine ji (a':=?_) ?_ ?_
 rotate_left
 ·
  show Act.put _ (some 14) _=_
  simp only [Act.put,List.setIfInBounds_toArray,List.set_cons_zero,List.set_cons_succ,bW,cu]
  rfl
 refine o6 (i:=7) (N:=some 18) #[true,true,true,true,true,true,true,true,false,false] rfl rfl (nJ lL.out (by kernel_rfl)) (by decide) (fun K hK=>?_)
 refine qy Tryd.func36 (by kernel_rfl) rfl #[.agg #[.slice ed aZ.length dZ,.string aU,.string aV,.slice gm aI.length eU],.int .u8 gX] (by rfl) rfl rfl (by (try simp only [List.map_toArray,List.map_cons,List.map_nil]);first|done|rfl|(simp only [List.length_drop,List.length_take];rfl)) ?_
 with_reducible refine (gB.calls k _ _ aZ aU aV _ _ aI gX t125 _ ?bZ ?dh ?iW ?iV A4.out).mono ?_
 (case bZ=>repeat (first|exact (Kd.bJ iH.out HB.out)|(with_reducible refine Kd.bP ?_ _)|(with_reducible refine Kd.bQ ?_ _)|(with_reducible refine Kd.dD ?_)))
 (case dh=>exact iK.out)
 (case iW=>repeat (first|exact (Kd.bJ jJ.out HB.out)|(with_reducible refine Kd.bP ?_ _)|(with_reducible refine Kd.bQ ?_ _)|(with_reducible refine Kd.dD ?_)))
 (case iV=>exact kC.out)
 rintro e w10 ⟨rfl,hb⟩
 refine ⟨_,rfl,?_⟩
 have dV:=ae.mk (bg (g:=iR) (o:=.cells #[.slice ed aZ.length dZ,.string aU,.string aV,.slice gm aI.length eU] 25 (0,0)) (by (with_reducible repeat (first|refine au ?_ _|refine ay ?_|refine ak ?_ _));exact dP.out) hb)
 have dU:=ae.mk (bg (g:=eY) (o:=.cells #[.int .u8 bV,.int .u8 gz,.int .u8 gX,.int .u8 iF,.int .i64 iq] 55 (0,0)) (by (with_reducible repeat (first|refine au ?_ _|refine ay ?_|refine ak ?_ _));exact bK.out) hb)
 have dR:=ae.mk (bn (by repeat (first|(with_reducible first|exact HB.out|apply ah|apply ag|apply ai|refine aj ?_ iZ.out|refine aj ?_ ja.out)|exact HB.out)) hb)
 clear dP
 clear bK
 clear HB
 have dP:=dV
 have bK:=dU
 have HB:=dR
 clear dV dU dR
 (try clear hb)
 (try clear hb2)
 (try clear hk)
 (try clear hi)
 refine hK.out _ _ ⟨(ax dP.out 0).trans rfl,(ax dP.out 1).trans rfl,(ax dP.out 2).trans rfl,(ax dP.out 3).trans rfl,(ax bK.out 0).trans rfl,(ax bK.out 1).trans rfl,(ax bK.out 2).trans rfl,(ax bK.out 3).trans rfl,(ax bK.out 4).trans rfl⟩ (fun hHeld=>?_)
 clear hK K
 refine ji (a':=?_) ?_ ?_
 rotate_left
 ·
  show Act.put _ (some 18) _=_
  simp only [Act.put,List.setIfInBounds_toArray,List.set_cons_zero,List.set_cons_succ,bW,cu]
  rfl
 refine iy (i:=8) (N:=some 5) (v:=?_) (a':=?_) #[true,true,true,true,true,true,true,true,true,false] rfl rfl (iO lL.out (by kernel_rfl)) (fun _ _ _ h=>h) (Or.inl ⟨by rfl,?_⟩) ?_ ?_
 rotate_left
 ·
  intro w'
  go_simp
  with_reducible rfl
 rotate_left
 ·
  simp only [Act.put,List.setIfInBounds_toArray,List.set_cons_zero,List.set_cons_succ,bW,cu]
  rfl
 refine iy (i:=9) (N:=some 6) (v:=?_) (a':=?_) #[true,true,true,true,true,true,true,true,true,true] rfl rfl (iO lL.out (by kernel_rfl)) (fun _ _ _ h=>h) (Or.inl ⟨by rfl,?_⟩) ?_ ?_
 rotate_left
 ·
  intro w'
  go_simp
  with_reducible rfl
 rotate_left
 ·
  simp only [Act.put,List.setIfInBounds_toArray,List.set_cons_zero,List.set_cons_succ,bW,cu]
  rfl
 refine uQ (wB lL.out (by kernel_rfl)) ?_
 have acE:=kX.out
 have acu:=kY.out
 have EL:w10.cell? ⟨eY,0,none⟩=some (.int .u8 bV):=(ax bK.out 0).trans rfl
 have EK:w10.cell? ⟨eY,1,none⟩=some (.int .u8 gz):=(ax bK.out 1).trans rfl
 have EJ:w10.cell? ⟨eY,2,none⟩=some (.int .u8 gX):=(ax bK.out 2).trans rfl
 have EI:w10.cell? ⟨eY,3,none⟩=some (.int .u8 iF):=(ax bK.out 3).trans rfl
 have XA:w10.cell? ⟨eY,4,none⟩=some (.int .i64 iq):=(ax bK.out 4).trans rfl
 have EC:=aC bK.out 0
 have Ez:=aC bK.out 1
 have Ey:=aC bK.out 2
 have Ew:=aC bK.out 3
 have VK:=aC bK.out 4
 go_upto_if 21 with (fail)
 go_cut [21] (fun v21 wc=>∃ (kq:Nat) (Jq:Bool),v21=.bool Jq∧ae (bT.j0 kq t124 t125 bV Jq aZ aU aV aI bV gz gX iF iq=some r)∧ae (kq≤k)∧ae (wc.heap[iR]? = some (.cells #[(.slice ed aZ.length dZ),.string aU,.string aV,(.slice gm aI.length eU)] 25 (0,0)))∧ae (wc.heap[eY]? = some (.cells #[.int .u8 bV,.int .u8 gz,.int .u8 gX,.int .u8 iF,.int .i64 iq] 55 (0,0)))∧ae (Below w.heap.size w wc))
 case first =>
  have H:=Jk.out
  clear Jk
  by_cases c13:bV=1
  ·
   rw [if_pos c13] at H
   have mQ:(bV == 1)=true:=beq_iff_eq.mpr c13
   have xU:(bV != 1)=false:=bne_eq_false_iff_eq.mpr c13
   clear c13
   (first|rw [mQ]|(simp only [bW,cu];rw [mQ])|skip)
   have H':=ae.mk H
   clear H
   go_wp2
   go_meet
   case rel=>exact ⟨_,((bV == 1)),(by first|rfl|(simp;done)|(simp [*];done)),H',⟨by first|omega|exact Nat.le_refl _⟩,⟨by (with_reducible repeat (first|refine au ?_ _|refine ay ?_|refine ak ?_ _));exact dP.out⟩,⟨by (with_reducible repeat (first|refine au ?_ _|refine ay ?_|refine ak ?_ _));exact bK.out⟩,⟨by repeat (first|(with_reducible first|exact HB.out|apply ah|apply ag|apply ai|refine aj ?_ iZ.out|refine aj ?_ ja.out)|exact HB.out)⟩⟩
  ·
   rw [if_neg c13] at H
   have mQ:(bV == 1)=false:=beq_eq_false_iff_ne.mpr c13
   have xU:(bV != 1)=true:=bne_iff_ne.mpr c13
   (first|rw [mQ]|(simp only [bW,cu];rw [mQ])|skip)
   by_cases c14:bV=4
   ·
    rw [if_pos c14] at H
    have DC:(bV == 4)=true:=beq_iff_eq.mpr c14
    have GX:(bV != 4)=false:=bne_eq_false_iff_eq.mpr c14
    clear c14
    have H':=ae.mk H
    clear H
    go_wp2
    go_meet
    case rel=>exact ⟨_,((bV == 4)),(by first|rfl|(simp;done)|(simp [*];done)),H',⟨by first|omega|exact Nat.le_refl _⟩,⟨by (with_reducible repeat (first|refine au ?_ _|refine ay ?_|refine ak ?_ _));exact dP.out⟩,⟨by (with_reducible repeat (first|refine au ?_ _|refine ay ?_|refine ak ?_ _));exact bK.out⟩,⟨by repeat (first|(with_reducible first|exact HB.out|apply ah|apply ag|apply ai|refine aj ?_ iZ.out|refine aj ?_ ja.out)|exact HB.out)⟩⟩
   ·
    rw [if_neg c14] at H
    have DC:(bV == 4)=false:=beq_eq_false_iff_ne.mpr c14
    have GX:(bV != 4)=true:=bne_iff_ne.mpr c14
    have H':=ae.mk H
    clear H
    go_wp2
    go_meet
    case rel=>exact ⟨_,((bV == 14)),(by first|rfl|(simp;done)|(simp [*];done)),H',⟨by first|omega|exact Nat.le_refl _⟩,⟨by (with_reducible repeat (first|refine au ?_ _|refine ay ?_|refine ak ?_ _));exact dP.out⟩,⟨by (with_reducible repeat (first|refine au ?_ _|refine ay ?_|refine ak ?_ _));exact bK.out⟩,⟨by repeat (first|(with_reducible first|exact HB.out|apply ah|apply ag|apply ai|refine aj ?_ iZ.out|refine aj ?_ ja.out)|exact HB.out)⟩⟩
 case rest =>
  clear Jk
  obtain ⟨kq,Jq,rfl,HA,Jj,dP,bK,HB⟩:=hcut
  cases kq with
  | zero=>exact absurd HA.out (by simp [bT.j0])
  | succ vK =>
   have H:=HA.out
   clear HA
   simp only [bT.j0] at H
   by_cases c15:Jq=true
   ·
    subst c15
    have H1:((dG.f vK (([gz]:List Int))).bind fun t129=>(some t129))=some r:=by rw [if_pos rfl] at H;exact H
    clear H
    have H:=H1
    clear H1
    obtain ⟨Zj,Gl⟩:∃ y_:List Int,y_=(([gz]:List Int)):=⟨_,rfl⟩
    replace H:((dG.f vK Zj).bind fun t129=>(some t129))=some r:=by first|(rw [Gl];with_reducible exact H)|(have uo:=(Option.bind_some _ _).symm.trans H;rw [Gl];with_reducible exact uo)|(have uo:=(Option.bind_some _ _).symm.trans H;with_reducible exact uo)|with_reducible exact H|(rw [Gl];exact H)|exact H
    have Y6:=ae.mk Gl
    clear Gl
    replace H:=Option.bind_eq_some_iff.mp H
    obtain ⟨t129,Hq,H⟩:=H
    replace H:(some t129)=some r:=H
    have A16:=ae.mk Hq
    clear Hq
    obtain rfl:=Option.some.inj H
    have aoH:=kX.out
    have aog:=kY.out
    have L9:wc.cell? ⟨eY,0,none⟩=some (.int .u8 bV):=(ax bK.out 0).trans rfl
    have L8:wc.cell? ⟨eY,1,none⟩=some (.int .u8 gz):=(ax bK.out 1).trans rfl
    have L6:wc.cell? ⟨eY,2,none⟩=some (.int .u8 gX):=(ax bK.out 2).trans rfl
    have LZ:wc.cell? ⟨eY,3,none⟩=some (.int .u8 iF):=(ax bK.out 3).trans rfl
    have Xp:wc.cell? ⟨eY,4,none⟩=some (.int .i64 iq):=(ax bK.out 4).trans rfl
    have KU:=aC bK.out 0
    have KT:=aC bK.out 1
    have KR:=aC bK.out 2
    have KQ:=aC bK.out 3
    have VA:=aC bK.out 4
    go_wp2_with (first|((with_reducible refine bI (N:=27) rfl ?_);refine Kd.uu (Kd.int .u8) _ 5 ?hg (N:=27) ?hd (xs:=([gz]:List Int)) (inner:=[.int .u8 gz]) (ok:=fun _=>True) (oQ:=fun _=>True) ?hr ?hp (fun _ hk=>hk) trivial (Below.refl _ _) (Nat.le_refl _) (by simp) ?_;(case hd=>rfl);(case hg=>rfl);(case hr=>first|(go_simp;done)|(go_simp;rfl));(case hp=>exact (jA.one (show Kd.M (Kd.int .u8) _ _ _ gz [.int .u8 gz] from rfl) (jA.none _ _)));intro v127 w19 Qb hb BX oG;clear BX oG;(first|rw [← Y6.out] at Qb|(simp only [Int.reduceToNat] at Qb;rw [← Y6.out] at Qb));have dV:=ae.mk (Kd.jS Qb (bU (by repeat (first|(with_reducible first|exact HB.out|apply ah|apply ag|apply ai|refine aj ?_ iZ.out|refine aj ?_ ja.out)|exact HB.out))));have dU:=ae.mk (bg (g:=iR) (o:=.cells #[.slice ed aZ.length dZ,.string aU,.string aV,.slice gm aI.length eU] 25 (0,0)) (by (with_reducible repeat (first|refine au ?_ _|refine ay ?_|refine ak ?_ _));exact dP.out) hb);have dR:=ae.mk (bg (g:=eY) (o:=.cells #[.int .u8 bV,.int .u8 gz,.int .u8 gX,.int .u8 iF,.int .i64 iq] 55 (0,0)) (by (with_reducible repeat (first|refine au ?_ _|refine ay ?_|refine ak ?_ _));exact bK.out) hb);have gZ:=ae.mk (bn (by repeat (first|(with_reducible first|exact HB.out|apply ah|apply ag|apply ai|refine aj ?_ iZ.out|refine aj ?_ ja.out)|exact HB.out)) hb);clear dP;clear bK;clear HB;have RP:=dV;have dP:=dU;have bK:=dR;have HB:=gZ;clear dV dU dR gZ;clear hb Qb;obtain ⟨abj,aaF,aaq⟩:=Kd.jR RP.out;subst aaq)|((with_reducible refine bz (f:=55) rfl ?_);refine dS (some 28) rfl rfl Tryd.func55 (by kernel_rfl) rfl #[.slice abj Zj.length aaF] rfl (by (try simp only [List.map_toArray,List.map_cons,List.map_nil]);first|done|rfl|(simp only [List.length_drop,List.length_take];rfl)) ?_;(with_reducible refine (dG.calls vK _ _ Zj t129 _ ?bZ ?dh A16.out).mono ?_);(case bZ=>repeat (first|exact (Kd.dW RP.out).2.2|(with_reducible refine Kd.bP ?_ _)|(with_reducible refine Kd.bQ ?_ _)|(with_reducible refine Kd.dD ?_)));(case dh=>exact (Kd.dW RP.out).2.1);rintro e w' ⟨rfl,⟨nd,rfl⟩⟩;refine ⟨_,rfl,?_⟩))
    go_ret
    exact ⟨by first|rfl|(simp [aQ,aN] <;> rfl)|(simp [*,aQ,aN] <;> rfl),by repeat (first|(with_reducible first|exact HB.out|apply ah|apply ag|apply ai|refine aj ?_ iZ.out|refine aj ?_ ja.out)|exact HB.out)⟩
   ·
    replace c15:=Bool.eq_false_iff.mpr c15
    subst c15
    have H1:(if bV=2 then ((dG.f vK (([gz,gX,iF]:List Int))).bind fun t133=>(some t133)) else (if bV=5 then (bT.j1 vK t124 t125 bV (bV == 5) aZ aU aV aI bV gz gX iF iq) else (bT.j1 vK t124 t125 bV (bV == 6) aZ aU aV aI bV gz gX iF iq)))=some r:=by rw [if_neg (show ¬ (false=true) by decide)] at H;exact H
    clear H
    have H:=H1
    clear H1
    by_cases qU:bV=2
    ·
     rw [if_pos qU] at H
     have Rh:(bV == 2)=true:=beq_iff_eq.mpr qU
     have Rf:(bV != 2)=false:=bne_eq_false_iff_eq.mpr qU
     clear qU
     obtain ⟨Zi,Gi⟩:∃ y_:List Int,y_=(([gz,gX,iF]:List Int)):=⟨_,rfl⟩
     replace H:((dG.f vK Zi).bind fun t133=>(some t133))=some r:=by first|(rw [Gi];with_reducible exact H)|(have uo:=(Option.bind_some _ _).symm.trans H;rw [Gi];with_reducible exact uo)|(have uo:=(Option.bind_some _ _).symm.trans H;with_reducible exact uo)|with_reducible exact H|(rw [Gi];exact H)|exact H
     have Y4:=ae.mk Gi
     clear Gi
     replace H:=Option.bind_eq_some_iff.mp H
     obtain ⟨t133,afS,H⟩:=H
     replace H:(some t133)=some r:=H
     have A23:=ae.mk afS
     clear afS
     obtain rfl:=Option.some.inj H
     have Yw:=kX.out
     have Yu:=kY.out
     have zM:wc.cell? ⟨eY,0,none⟩=some (.int .u8 bV):=(ax bK.out 0).trans rfl
     have zL:wc.cell? ⟨eY,1,none⟩=some (.int .u8 gz):=(ax bK.out 1).trans rfl
     have zK:wc.cell? ⟨eY,2,none⟩=some (.int .u8 gX):=(ax bK.out 2).trans rfl
     have zJ:wc.cell? ⟨eY,3,none⟩=some (.int .u8 iF):=(ax bK.out 3).trans rfl
     have ED:wc.cell? ⟨eY,4,none⟩=some (.int .i64 iq):=(ax bK.out 4).trans rfl
     have zD:=aC bK.out 0
     have zC:=aC bK.out 1
     have zB:=aC bK.out 2
     have zA:=aC bK.out 3
     have Eo:=aC bK.out 4
     go_wp2_with (first|((with_reducible refine bI (N:=37) rfl ?_);refine Kd.uu (Kd.int .u8) _ 5 ?hg (N:=37) ?hd (xs:=([gz,gX,iF]:List Int)) (inner:=[.int .u8 gz,.int .u8 gX,.int .u8 iF]) (ok:=fun _=>True) (oQ:=fun _=>True) ?hr ?hp (fun _ hk=>hk) trivial (Below.refl _ _) (Nat.le_refl _) (by simp) ?_;(case hd=>rfl);(case hg=>rfl);(case hr=>first|(go_simp;done)|(go_simp;rfl));(case hp=>exact (jA.one (show Kd.M (Kd.int .u8) _ _ _ gz [.int .u8 gz] from rfl) (jA.one (show Kd.M (Kd.int .u8) _ _ _ gX [.int .u8 gX] from rfl) (jA.one (show Kd.M (Kd.int .u8) _ _ _ iF [.int .u8 iF] from rfl) (jA.none _ _)))));intro v131 w26 Qa hb BX oG;clear BX oG;(first|rw [← Y4.out] at Qa|(simp only [Int.reduceToNat] at Qa;rw [← Y4.out] at Qa));have dV:=ae.mk (Kd.jS Qa (bU (by repeat (first|(with_reducible first|exact HB.out|apply ah|apply ag|apply ai|refine aj ?_ iZ.out|refine aj ?_ ja.out)|exact HB.out))));have dU:=ae.mk (bg (g:=iR) (o:=.cells #[.slice ed aZ.length dZ,.string aU,.string aV,.slice gm aI.length eU] 25 (0,0)) (by (with_reducible repeat (first|refine au ?_ _|refine ay ?_|refine ak ?_ _));exact dP.out) hb);have dR:=ae.mk (bg (g:=eY) (o:=.cells #[.int .u8 bV,.int .u8 gz,.int .u8 gX,.int .u8 iF,.int .i64 iq] 55 (0,0)) (by (with_reducible repeat (first|refine au ?_ _|refine ay ?_|refine ak ?_ _));exact bK.out) hb);have gZ:=ae.mk (bn (by repeat (first|(with_reducible first|exact HB.out|apply ah|apply ag|apply ai|refine aj ?_ iZ.out|refine aj ?_ ja.out)|exact HB.out)) hb);clear dP;clear bK;clear HB;have RN:=dV;have dP:=dU;have bK:=dR;have HB:=gZ;clear dV dU dR gZ;clear hb Qa;obtain ⟨anF,anh,amT⟩:=Kd.jR RN.out;subst amT)|((with_reducible refine bz (f:=55) rfl ?_);refine dS (some 38) rfl rfl Tryd.func55 (by kernel_rfl) rfl #[.slice anF Zi.length anh] rfl (by (try simp only [List.map_toArray,List.map_cons,List.map_nil]);first|done|rfl|(simp only [List.length_drop,List.length_take];rfl)) ?_;(with_reducible refine (dG.calls vK _ _ Zi t133 _ ?bZ ?dh A23.out).mono ?_);(case bZ=>repeat (first|exact (Kd.dW RN.out).2.2|(with_reducible refine Kd.bP ?_ _)|(with_reducible refine Kd.bQ ?_ _)|(with_reducible refine Kd.dD ?_)));(case dh=>exact (Kd.dW RN.out).2.1);rintro e w' ⟨rfl,⟨nd,rfl⟩⟩;refine ⟨_,rfl,?_⟩))
     go_ret
     exact ⟨by first|rfl|(simp [aQ,aN] <;> rfl)|(simp [*,aQ,aN] <;> rfl),by repeat (first|(with_reducible first|exact HB.out|apply ah|apply ag|apply ai|refine aj ?_ iZ.out|refine aj ?_ ja.out)|exact HB.out)⟩
    ·
     rw [if_neg qU] at H
     have Rh:(bV == 2)=false:=beq_eq_false_iff_ne.mpr qU
     have Rf:(bV != 2)=true:=bne_iff_ne.mpr qU
     have abg:=ae.mk H
     clear H
     go_upto_if 39 with (fail)
     go_cut [39] (fun v39 wc=>∃ (kq:Nat) (DU:Bool),v39=.bool DU∧ae (bT.j1 kq t124 t125 bV DU aZ aU aV aI bV gz gX iF iq=some r)∧ae (kq≤vK)∧ae (wc.heap[iR]? = some (.cells #[(.slice ed aZ.length dZ),.string aU,.string aV,(.slice gm aI.length eU)] 25 (0,0)))∧ae (wc.heap[eY]? = some (.cells #[.int .u8 bV,.int .u8 gz,.int .u8 gX,.int .u8 iF,.int .i64 iq] 55 (0,0)))∧ae (Below w.heap.size w wc))
     case first =>
      have H:=abg.out
      clear abg
      by_cases c30:bV=5
      ·
       rw [if_pos c30] at H
       have GN:(bV == 5)=true:=beq_iff_eq.mpr c30
       have aer:(bV != 5)=false:=bne_eq_false_iff_eq.mpr c30
       clear c30
       (first|rw [GN]|(simp only [bW,cu];rw [GN])|skip)
       have H':=ae.mk H
       clear H
       go_wp2
       go_meet
       case rel=>exact ⟨_,((bV == 5)),(by first|rfl|(simp;done)|(simp [*];done)),H',⟨by have:=Jj.out;first|omega|exact Nat.le_refl _⟩,⟨by (with_reducible repeat (first|refine au ?_ _|refine ay ?_|refine ak ?_ _));exact dP.out⟩,⟨by (with_reducible repeat (first|refine au ?_ _|refine ay ?_|refine ak ?_ _));exact bK.out⟩,⟨by repeat (first|(with_reducible first|exact HB.out|apply ah|apply ag|apply ai|refine aj ?_ iZ.out|refine aj ?_ ja.out)|exact HB.out)⟩⟩
      ·
       rw [if_neg c30] at H
       have GN:(bV == 5)=false:=beq_eq_false_iff_ne.mpr c30
       have aer:(bV != 5)=true:=bne_iff_ne.mpr c30
       (first|rw [GN]|(simp only [bW,cu];rw [GN])|skip)
       have H':=ae.mk H
       clear H
       go_wp2
       go_meet
       case rel=>exact ⟨_,((bV == 6)),(by first|rfl|(simp;done)|(simp [*];done)),H',⟨by have:=Jj.out;first|omega|exact Nat.le_refl _⟩,⟨by (with_reducible repeat (first|refine au ?_ _|refine ay ?_|refine ak ?_ _));exact dP.out⟩,⟨by (with_reducible repeat (first|refine au ?_ _|refine ay ?_|refine ak ?_ _));exact bK.out⟩,⟨by repeat (first|(with_reducible first|exact HB.out|apply ah|apply ag|apply ai|refine aj ?_ iZ.out|refine aj ?_ ja.out)|exact HB.out)⟩⟩
     case rest =>
      clear abg
      obtain ⟨kq,DU,rfl,HA,arn,dP,bK,HB⟩:=hcut
      cases kq with
      | zero=>exact absurd HA.out (by simp [bT.j1])
      | succ nM =>
       have H:=HA.out
       clear HA
       simp only [bT.j1] at H
       by_cases c31:DU=true
       ·
        subst c31
        have H1:(some (decide (t124 ≥ 0)))=some r:=by rw [if_pos rfl] at H;exact H
        clear H
        have H:=H1
        clear H1
        obtain rfl:=Option.some.inj H
        go_wp2
        go_ret
        exact ⟨by first|rfl|(simp [aQ,aN] <;> rfl)|(simp [*,aQ,aN] <;> rfl),by repeat (first|(with_reducible first|exact HB.out|apply ah|apply ag|apply ai|refine aj ?_ iZ.out|refine aj ?_ ja.out)|exact HB.out)⟩
       ·
        replace c31:=Bool.eq_false_iff.mpr c31
        subst c31
        have H1:(if bV=7 then ((ig.f t124 t125).bind fun t134=>(some t134)) else (if bV=8 then ((dG.f nM (([gz]:List Int))).bind fun t138=>(if t138=true then ((gQ.f nM aZ aU aV aI t125 iq).bind fun t139=>(some t139)) else (some false))) else (if bV=9 then ((dG.f nM (([gX]:List Int))).bind fun t143=>(if t143=true then ((gQ.f nM aZ aU aV aI t124 iq).bind fun t144=>(some t144)) else (some false))) else (if bV=10 then ((gY.f nM aZ aU aV aI t125 iq).bind fun Rk=>((ig.f t124 Rk.1).bind fun t147=>(some t147))) else (if bV=11 then ((gY.f nM aZ aU aV aI t124 iq).bind fun Rj=>((ig.f t125 Rj.1).bind fun t150=>(some t150))) else (if bV=12 then ((jv.f nM aZ aU aV aI gX).bind fun t151=>((ig.f t124 t151).bind fun t152=>(some t152))) else (if bV=13 then ((jv.f nM aZ aU aV aI gz).bind fun t153=>((ig.f t125 t153).bind fun t154=>(some t154))) else (if bV=15 then ((dG.f nM (([gz]:List Int))).bind fun t158=>(if t158=true then ((gB.f nM aZ aU aV aI iF).bind fun t159=>((ig.f t125 t159).bind fun t160=>(some t160))) else (some false))) else (some true)))))))))=some r:=by rw [if_neg (show ¬ (false=true) by decide)] at H;exact H
        clear H
        have H:=H1
        clear H1
        by_cases c32:bV=7
        ·
         rw [if_pos c32] at H
         have Q8:(bV == 7)=true:=beq_iff_eq.mpr c32
         have aeo:(bV != 7)=false:=bne_eq_false_iff_eq.mpr c32
         clear c32
         replace H:=Option.bind_eq_some_iff.mp H
         obtain ⟨t134,Sr,H⟩:=H
         replace H:(some t134)=some r:=H
         have A33:=ae.mk Sr
         clear Sr
         obtain rfl:=Option.some.inj H
         go_wp2_with (first|((with_reducible refine bz (f:=56) rfl ?_);refine dS (some 48) rfl rfl Tryd.func56 (by kernel_rfl) rfl #[.int .i64 t124,.int .i64 t125] rfl (by (try simp only [List.map_toArray,List.map_cons,List.map_nil]);first|done|rfl|(simp only [List.length_drop,List.length_take];rfl)) ?_;(with_reducible refine (ig.calls t124 t125 t134 _ A33.out).mono ?_);rintro e w' ⟨rfl,⟨nd,rfl⟩⟩;refine ⟨_,rfl,?_⟩))
         go_ret
         exact ⟨by first|rfl|(simp [aQ,aN] <;> rfl)|(simp [*,aQ,aN] <;> rfl),by repeat (first|(with_reducible first|exact HB.out|apply ah|apply ag|apply ai|refine aj ?_ iZ.out|refine aj ?_ ja.out)|exact HB.out)⟩
        ·
         rw [if_neg c32] at H
         have Q8:(bV == 7)=false:=beq_eq_false_iff_ne.mpr c32
         have aeo:(bV != 7)=true:=bne_iff_ne.mpr c32
         by_cases c34:bV=8
         ·
          rw [if_pos c34] at H
          have Q7:(bV == 8)=true:=beq_iff_eq.mpr c34
          have ael:(bV != 8)=false:=bne_eq_false_iff_eq.mpr c34
          clear c34
          obtain ⟨O5,Gg⟩:∃ y_:List Int,y_=(([gz]:List Int)):=⟨_,rfl⟩
          replace H:((dG.f nM O5).bind fun t138=>(if t138=true then ((gQ.f nM aZ aU aV aI t125 iq).bind fun t139=>(some t139)) else (some false)))=some r:=by first|(rw [Gg];with_reducible exact H)|(have uo:=(Option.bind_some _ _).symm.trans H;rw [Gg];with_reducible exact uo)|(have uo:=(Option.bind_some _ _).symm.trans H;with_reducible exact uo)|with_reducible exact H|(rw [Gg];exact H)|exact H
          have Nk:=ae.mk Gg
          clear Gg
          replace H:=Option.bind_eq_some_iff.mp H
          obtain ⟨t138,afP,H⟩:=H
          replace H:(if t138=true then ((gQ.f nM aZ aU aV aI t125 iq).bind fun t139=>(some t139)) else (some false))=some r:=H
          have A35:=ae.mk afP
          clear afP
          by_cases c36:t138=true
          ·
           subst c36
           have H1:((gQ.f nM aZ aU aV aI t125 iq).bind fun t139=>(some t139))=some r:=by rw [if_pos rfl] at H;exact H
           clear H
           have H:=H1
           clear H1
           replace H:=Option.bind_eq_some_iff.mp H
           obtain ⟨t139,afO,H⟩:=H
           replace H:(some t139)=some r:=H
           have A37:=ae.mk afO
           clear afO
           obtain rfl:=Option.some.inj H
           have aow:=kX.out
           have an5:=kY.out
           have WQ:wc.cell? ⟨eY,0,none⟩=some (.int .u8 bV):=(ax bK.out 0).trans rfl
           have WO:wc.cell? ⟨eY,1,none⟩=some (.int .u8 gz):=(ax bK.out 1).trans rfl
           have WN:wc.cell? ⟨eY,2,none⟩=some (.int .u8 gX):=(ax bK.out 2).trans rfl
           have WM:wc.cell? ⟨eY,3,none⟩=some (.int .u8 iF):=(ax bK.out 3).trans rfl
           have akT:wc.cell? ⟨eY,4,none⟩=some (.int .i64 iq):=(ax bK.out 4).trans rfl
           have U6:=aC bK.out 0
           have U5:=aC bK.out 1
           have U4:=aC bK.out 2
           have U3:=aC bK.out 3
           have aiE:=aC bK.out 4
           go_wp2_with (first|((with_reducible refine bI (N:=53) rfl ?_);refine Kd.uu (Kd.int .u8) _ 5 ?hg (N:=53) ?hd (xs:=([gz]:List Int)) (inner:=[.int .u8 gz]) (ok:=fun _=>True) (oQ:=fun _=>True) ?hr ?hp (fun _ hk=>hk) trivial (Below.refl _ _) (Nat.le_refl _) (by simp) ?_;(case hd=>rfl);(case hg=>rfl);(case hr=>first|(go_simp;done)|(go_simp;rfl));(case hp=>exact (jA.one (show Kd.M (Kd.int .u8) _ _ _ gz [.int .u8 gz] from rfl) (jA.none _ _)));intro alS Ti P9 hb BX oG;clear BX oG;(first|rw [← Nk.out] at P9|(simp only [Int.reduceToNat] at P9;rw [← Nk.out] at P9));have dV:=ae.mk (Kd.jS P9 (bU (by repeat (first|(with_reducible first|exact HB.out|apply ah|apply ag|apply ai|refine aj ?_ iZ.out|refine aj ?_ ja.out)|exact HB.out))));have dU:=ae.mk (bg (g:=iR) (o:=.cells #[.slice ed aZ.length dZ,.string aU,.string aV,.slice gm aI.length eU] 25 (0,0)) (by (with_reducible repeat (first|refine au ?_ _|refine ay ?_|refine ak ?_ _));exact dP.out) hb);have dR:=ae.mk (bg (g:=eY) (o:=.cells #[.int .u8 bV,.int .u8 gz,.int .u8 gX,.int .u8 iF,.int .i64 iq] 55 (0,0)) (by (with_reducible repeat (first|refine au ?_ _|refine ay ?_|refine ak ?_ _));exact bK.out) hb);have gZ:=ae.mk (bn (by repeat (first|(with_reducible first|exact HB.out|apply ah|apply ag|apply ai|refine aj ?_ iZ.out|refine aj ?_ ja.out)|exact HB.out)) hb);clear dP;clear bK;clear HB;have xe:=dV;have dP:=dU;have bK:=dR;have HB:=gZ;clear dV dU dR gZ;clear hb P9;obtain ⟨anE,ang,amS⟩:=Kd.jR xe.out;subst amS)|((with_reducible refine bz (f:=55) rfl ?_);refine dS (some 54) rfl rfl Tryd.func55 (by kernel_rfl) rfl #[.slice anE O5.length ang] rfl (by (try simp only [List.map_toArray,List.map_cons,List.map_nil]);first|done|rfl|(simp only [List.length_drop,List.length_take];rfl)) ?_;(with_reducible refine (dG.calls nM _ _ O5 true _ ?bZ ?dh A35.out).mono ?_);(case bZ=>repeat (first|exact (Kd.dW xe.out).2.2|(with_reducible refine Kd.bP ?_ _)|(with_reducible refine Kd.bQ ?_ _)|(with_reducible refine Kd.dD ?_)));(case dh=>exact (Kd.dW xe.out).2.1);rintro e w' ⟨rfl,⟨nd,rfl⟩⟩;refine ⟨_,rfl,?_⟩;have LD:Ti.cell? ⟨iR,0,none⟩=some (.slice ed aZ.length dZ):=(ax dP.out 0).trans rfl;have LC:Ti.cell? ⟨iR,1,none⟩=some (.string aU):=(ax dP.out 1).trans rfl;have Lu:Ti.cell? ⟨iR,2,none⟩=some (.string aV):=(ax dP.out 2).trans rfl;have Lt:Ti.cell? ⟨iR,3,none⟩=some (.slice gm aI.length eU):=(ax dP.out 3).trans rfl;have KA:=aC dP.out 0;have Kz:=aC dP.out 1;have Ky:=aC dP.out 2;have Kw:=aC dP.out 3;have WL:Ti.cell? ⟨eY,0,none⟩=some (.int .u8 bV):=(ax bK.out 0).trans rfl;have WI:Ti.cell? ⟨eY,1,none⟩=some (.int .u8 gz):=(ax bK.out 1).trans rfl;have WH:Ti.cell? ⟨eY,2,none⟩=some (.int .u8 gX):=(ax bK.out 2).trans rfl;have WG:Ti.cell? ⟨eY,3,none⟩=some (.int .u8 iF):=(ax bK.out 3).trans rfl;have WE:Ti.cell? ⟨eY,4,none⟩=some (.int .i64 iq):=(ax bK.out 4).trans rfl;have U2:=aC bK.out 0;have U1:=aC bK.out 1;have U0:=aC bK.out 2;have UZ:=aC bK.out 3;have UY:=aC bK.out 4)|(go_at_call 57;(with_reducible refine (gQ.calls nM _ _ aZ aU aV _ _ aI t125 iq t139 _ ?bZ ?dh ?iW ?iV A37.out).mono ?_);(case bZ=>repeat (first|exact (Kd.bJ iH.out (by repeat (first|(with_reducible first|exact HB.out|apply ah|apply ag|apply ai|refine aj ?_ iZ.out|refine aj ?_ ja.out)|exact HB.out)))|(with_reducible refine Kd.bP ?_ _)|(with_reducible refine Kd.bQ ?_ _)|(with_reducible refine Kd.dD ?_)));(case dh=>exact iK.out);(case iW=>repeat (first|exact (Kd.bJ jJ.out (by repeat (first|(with_reducible first|exact HB.out|apply ah|apply ag|apply ai|refine aj ?_ iZ.out|refine aj ?_ ja.out)|exact HB.out)))|(with_reducible refine Kd.bP ?_ _)|(with_reducible refine Kd.bQ ?_ _)|(with_reducible refine Kd.dD ?_)));(case iV=>exact kC.out);rintro e w45 ⟨rfl,hb⟩;have dV:=ae.mk (Kd.kF (by (with_reducible repeat (first|apply Kd.iJ|apply Kd.iI|apply Kd.jk));exact xe.out) hb);have dU:=ae.mk (bg (g:=iR) (o:=.cells #[.slice ed aZ.length dZ,.string aU,.string aV,.slice gm aI.length eU] 25 (0,0)) (by (with_reducible repeat (first|refine au ?_ _|refine ay ?_|refine ak ?_ _));exact dP.out) hb);have dR:=ae.mk (bg (g:=eY) (o:=.cells #[.int .u8 bV,.int .u8 gz,.int .u8 gX,.int .u8 iF,.int .i64 iq] 55 (0,0)) (by (with_reducible repeat (first|refine au ?_ _|refine ay ?_|refine ak ?_ _));exact bK.out) hb);have gZ:=ae.mk (bn (by repeat (first|(with_reducible first|exact HB.out|apply ah|apply ag|apply ai|refine aj ?_ iZ.out|refine aj ?_ ja.out)|exact HB.out)) hb);clear xe;clear dP;clear bK;clear HB;have xe:=dV;have dP:=dU;have bK:=dR;have HB:=gZ;clear dV dU dR gZ;(try clear hb);(try clear hb2);(try clear hk);(try clear hi)))
           go_ret
           exact ⟨by first|rfl|(simp [aQ,aN] <;> rfl)|(simp [*,aQ,aN] <;> rfl),by repeat (first|(with_reducible first|exact HB.out|apply ah|apply ag|apply ai|refine aj ?_ iZ.out|refine aj ?_ ja.out)|exact HB.out)⟩
          ·
           replace c36:=Bool.eq_false_iff.mpr c36
           subst c36
           have H1:(some false)=some r:=by rw [if_neg (show ¬ (false=true) by decide)] at H;exact H
           clear H
           have H:=H1
           clear H1
           obtain rfl:=Option.some.inj H
           have acz:=kX.out
           have acn:=kY.out
           have Ls:wc.cell? ⟨eY,0,none⟩=some (.int .u8 bV):=(ax bK.out 0).trans rfl
           have Lr:wc.cell? ⟨eY,1,none⟩=some (.int .u8 gz):=(ax bK.out 1).trans rfl
           have Lp:wc.cell? ⟨eY,2,none⟩=some (.int .u8 gX):=(ax bK.out 2).trans rfl
           have Lm:wc.cell? ⟨eY,3,none⟩=some (.int .u8 iF):=(ax bK.out 3).trans rfl
           have Ll:wc.cell? ⟨eY,4,none⟩=some (.int .i64 iq):=(ax bK.out 4).trans rfl
           have Kv:=aC bK.out 0
           have Ku:=aC bK.out 1
           have Kt:=aC bK.out 2
           have Kr:=aC bK.out 3
           have Kq:=aC bK.out 4
           go_wp2_with (first|((with_reducible refine bI (N:=53) rfl ?_);refine Kd.uu (Kd.int .u8) _ 5 ?hg (N:=53) ?hd (xs:=([gz]:List Int)) (inner:=[.int .u8 gz]) (ok:=fun _=>True) (oQ:=fun _=>True) ?hr ?hp (fun _ hk=>hk) trivial (Below.refl _ _) (Nat.le_refl _) (by simp) ?_;(case hd=>rfl);(case hg=>rfl);(case hr=>first|(go_simp;done)|(go_simp;rfl));(case hp=>exact (jA.one (show Kd.M (Kd.int .u8) _ _ _ gz [.int .u8 gz] from rfl) (jA.none _ _)));intro alS w48 P8 hb BX oG;clear BX oG;(first|rw [← Nk.out] at P8|(simp only [Int.reduceToNat] at P8;rw [← Nk.out] at P8));have dV:=ae.mk (Kd.jS P8 (bU (by repeat (first|(with_reducible first|exact HB.out|apply ah|apply ag|apply ai|refine aj ?_ iZ.out|refine aj ?_ ja.out)|exact HB.out))));have dU:=ae.mk (bg (g:=iR) (o:=.cells #[.slice ed aZ.length dZ,.string aU,.string aV,.slice gm aI.length eU] 25 (0,0)) (by (with_reducible repeat (first|refine au ?_ _|refine ay ?_|refine ak ?_ _));exact dP.out) hb);have dR:=ae.mk (bg (g:=eY) (o:=.cells #[.int .u8 bV,.int .u8 gz,.int .u8 gX,.int .u8 iF,.int .i64 iq] 55 (0,0)) (by (with_reducible repeat (first|refine au ?_ _|refine ay ?_|refine ak ?_ _));exact bK.out) hb);have gZ:=ae.mk (bn (by repeat (first|(with_reducible first|exact HB.out|apply ah|apply ag|apply ai|refine aj ?_ iZ.out|refine aj ?_ ja.out)|exact HB.out)) hb);clear dP;clear bK;clear HB;have xe:=dV;have dP:=dU;have bK:=dR;have HB:=gZ;clear dV dU dR gZ;clear hb P8;obtain ⟨anD,anf,amR⟩:=Kd.jR xe.out;subst amR)|((with_reducible refine bz (f:=55) rfl ?_);refine dS (some 54) rfl rfl Tryd.func55 (by kernel_rfl) rfl #[.slice anD O5.length anf] rfl (by (try simp only [List.map_toArray,List.map_cons,List.map_nil]);first|done|rfl|(simp only [List.length_drop,List.length_take];rfl)) ?_;(with_reducible refine (dG.calls nM _ _ O5 false _ ?bZ ?dh A35.out).mono ?_);(case bZ=>repeat (first|exact (Kd.dW xe.out).2.2|(with_reducible refine Kd.bP ?_ _)|(with_reducible refine Kd.bQ ?_ _)|(with_reducible refine Kd.dD ?_)));(case dh=>exact (Kd.dW xe.out).2.1);rintro e w' ⟨rfl,⟨nd,rfl⟩⟩;refine ⟨_,rfl,?_⟩))
           go_ret
           exact ⟨by first|rfl|(simp [aQ,aN] <;> rfl)|(simp [*,aQ,aN] <;> rfl),by repeat (first|(with_reducible first|exact HB.out|apply ah|apply ag|apply ai|refine aj ?_ iZ.out|refine aj ?_ ja.out)|exact HB.out)⟩
         ·
          rw [if_neg c34] at H
          have Q7:(bV == 8)=false:=beq_eq_false_iff_ne.mpr c34
          have ael:(bV != 8)=true:=bne_iff_ne.mpr c34
          by_cases c51:bV=9
          ·
           rw [if_pos c51] at H
           have aef:(bV == 9)=true:=beq_iff_eq.mpr c51
           have aee:(bV != 9)=false:=bne_eq_false_iff_eq.mpr c51
           clear c51
           obtain ⟨O4,Gf⟩:∃ y_:List Int,y_=(([gX]:List Int)):=⟨_,rfl⟩
           replace H:((dG.f nM O4).bind fun t143=>(if t143=true then ((gQ.f nM aZ aU aV aI t124 iq).bind fun t144=>(some t144)) else (some false)))=some r:=by first|(rw [Gf];with_reducible exact H)|(have uo:=(Option.bind_some _ _).symm.trans H;rw [Gf];with_reducible exact uo)|(have uo:=(Option.bind_some _ _).symm.trans H;with_reducible exact uo)|with_reducible exact H|(rw [Gf];exact H)|exact H
           have Nh:=ae.mk Gf
           clear Gf
           replace H:=Option.bind_eq_some_iff.mp H
           obtain ⟨t143,afG,H⟩:=H
           replace H:(if t143=true then ((gQ.f nM aZ aU aV aI t124 iq).bind fun t144=>(some t144)) else (some false))=some r:=H
           have A52:=ae.mk afG
           clear afG
           by_cases c53:t143=true
           ·
            subst c53
            have H1:((gQ.f nM aZ aU aV aI t124 iq).bind fun t144=>(some t144))=some r:=by rw [if_pos rfl] at H;exact H
            clear H
            have H:=H1
            clear H1
            replace H:=Option.bind_eq_some_iff.mp H
            obtain ⟨t144,afF,H⟩:=H
            replace H:(some t144)=some r:=H
            have A54:=ae.mk afF
            clear afF
            obtain rfl:=Option.some.inj H
            have acx:=kX.out
            have ack:=kY.out
            have Wj:wc.cell? ⟨eY,0,none⟩=some (.int .u8 bV):=(ax bK.out 0).trans rfl
            have Wi:wc.cell? ⟨eY,1,none⟩=some (.int .u8 gz):=(ax bK.out 1).trans rfl
            have Wh:wc.cell? ⟨eY,2,none⟩=some (.int .u8 gX):=(ax bK.out 2).trans rfl
            have We:wc.cell? ⟨eY,3,none⟩=some (.int .u8 iF):=(ax bK.out 3).trans rfl
            have V9:wc.cell? ⟨eY,4,none⟩=some (.int .i64 iq):=(ax bK.out 4).trans rfl
            have UI:=aC bK.out 0
            have UH:=aC bK.out 1
            have UG:=aC bK.out 2
            have UF:=aC bK.out 3
            have UE:=aC bK.out 4
            go_wp2_with (first|((with_reducible refine bI (N:=66) rfl ?_);refine Kd.uu (Kd.int .u8) _ 5 ?hg (N:=66) ?hd (xs:=([gX]:List Int)) (inner:=[.int .u8 gX]) (ok:=fun _=>True) (oQ:=fun _=>True) ?hr ?hp (fun _ hk=>hk) trivial (Below.refl _ _) (Nat.le_refl _) (by simp) ?_;(case hd=>rfl);(case hg=>rfl);(case hr=>first|(go_simp;done)|(go_simp;rfl));(case hp=>exact (jA.one (show Kd.M (Kd.int .u8) _ _ _ gX [.int .u8 gX] from rfl) (jA.none _ _)));intro v141 SA P7 hb BX oG;clear BX oG;(first|rw [← Nh.out] at P7|(simp only [Int.reduceToNat] at P7;rw [← Nh.out] at P7));have dV:=ae.mk (Kd.jS P7 (bU (by repeat (first|(with_reducible first|exact HB.out|apply ah|apply ag|apply ai|refine aj ?_ iZ.out|refine aj ?_ ja.out)|exact HB.out))));have dU:=ae.mk (bg (g:=iR) (o:=.cells #[.slice ed aZ.length dZ,.string aU,.string aV,.slice gm aI.length eU] 25 (0,0)) (by (with_reducible repeat (first|refine au ?_ _|refine ay ?_|refine ak ?_ _));exact dP.out) hb);have dR:=ae.mk (bg (g:=eY) (o:=.cells #[.int .u8 bV,.int .u8 gz,.int .u8 gX,.int .u8 iF,.int .i64 iq] 55 (0,0)) (by (with_reducible repeat (first|refine au ?_ _|refine ay ?_|refine ak ?_ _));exact bK.out) hb);have gZ:=ae.mk (bn (by repeat (first|(with_reducible first|exact HB.out|apply ah|apply ag|apply ai|refine aj ?_ iZ.out|refine aj ?_ ja.out)|exact HB.out)) hb);clear dP;clear bK;clear HB;have lF:=dV;have dP:=dU;have bK:=dR;have HB:=gZ;clear dV dU dR gZ;clear hb P7;obtain ⟨anC,ane,amQ⟩:=Kd.jR lF.out;subst amQ)|((with_reducible refine bz (f:=55) rfl ?_);refine dS (some 67) rfl rfl Tryd.func55 (by kernel_rfl) rfl #[.slice anC O4.length ane] rfl (by (try simp only [List.map_toArray,List.map_cons,List.map_nil]);first|done|rfl|(simp only [List.length_drop,List.length_take];rfl)) ?_;(with_reducible refine (dG.calls nM _ _ O4 true _ ?bZ ?dh A52.out).mono ?_);(case bZ=>repeat (first|exact (Kd.dW lF.out).2.2|(with_reducible refine Kd.bP ?_ _)|(with_reducible refine Kd.bQ ?_ _)|(with_reducible refine Kd.dD ?_)));(case dh=>exact (Kd.dW lF.out).2.1);rintro e w' ⟨rfl,⟨nd,rfl⟩⟩;refine ⟨_,rfl,?_⟩;have akm:SA.cell? ⟨iR,0,none⟩=some (.slice ed aZ.length dZ):=(ax dP.out 0).trans rfl;have akl:SA.cell? ⟨iR,1,none⟩=some (.string aU):=(ax dP.out 1).trans rfl;have akk:SA.cell? ⟨iR,2,none⟩=some (.string aV):=(ax dP.out 2).trans rfl;have akj:SA.cell? ⟨iR,3,none⟩=some (.slice gm aI.length eU):=(ax dP.out 3).trans rfl;have ah6:=aC dP.out 0;have ah5:=aC dP.out 1;have ah4:=aC dP.out 2;have ah3:=aC dP.out 3;have V4:SA.cell? ⟨eY,0,none⟩=some (.int .u8 bV):=(ax bK.out 0).trans rfl;have V3:SA.cell? ⟨eY,1,none⟩=some (.int .u8 gz):=(ax bK.out 1).trans rfl;have VZ:SA.cell? ⟨eY,2,none⟩=some (.int .u8 gX):=(ax bK.out 2).trans rfl;have VY:SA.cell? ⟨eY,3,none⟩=some (.int .u8 iF):=(ax bK.out 3).trans rfl;have VX:SA.cell? ⟨eY,4,none⟩=some (.int .i64 iq):=(ax bK.out 4).trans rfl;have Uz:=aC bK.out 0;have Uy:=aC bK.out 1;have Ux:=aC bK.out 2;have Uw:=aC bK.out 3;have Uu:=aC bK.out 4)|(go_at_call 57;(with_reducible refine (gQ.calls nM _ _ aZ aU aV _ _ aI t124 iq t144 _ ?bZ ?dh ?iW ?iV A54.out).mono ?_);(case bZ=>repeat (first|exact (Kd.bJ iH.out (by repeat (first|(with_reducible first|exact HB.out|apply ah|apply ag|apply ai|refine aj ?_ iZ.out|refine aj ?_ ja.out)|exact HB.out)))|(with_reducible refine Kd.bP ?_ _)|(with_reducible refine Kd.bQ ?_ _)|(with_reducible refine Kd.dD ?_)));(case dh=>exact iK.out);(case iW=>repeat (first|exact (Kd.bJ jJ.out (by repeat (first|(with_reducible first|exact HB.out|apply ah|apply ag|apply ai|refine aj ?_ iZ.out|refine aj ?_ ja.out)|exact HB.out)))|(with_reducible refine Kd.bP ?_ _)|(with_reducible refine Kd.bQ ?_ _)|(with_reducible refine Kd.dD ?_)));(case iV=>exact kC.out);rintro e w62 ⟨rfl,hb⟩;have dV:=ae.mk (Kd.kF (by (with_reducible repeat (first|apply Kd.iJ|apply Kd.iI|apply Kd.jk));exact lF.out) hb);have dU:=ae.mk (bg (g:=iR) (o:=.cells #[.slice ed aZ.length dZ,.string aU,.string aV,.slice gm aI.length eU] 25 (0,0)) (by (with_reducible repeat (first|refine au ?_ _|refine ay ?_|refine ak ?_ _));exact dP.out) hb);have dR:=ae.mk (bg (g:=eY) (o:=.cells #[.int .u8 bV,.int .u8 gz,.int .u8 gX,.int .u8 iF,.int .i64 iq] 55 (0,0)) (by (with_reducible repeat (first|refine au ?_ _|refine ay ?_|refine ak ?_ _));exact bK.out) hb);have gZ:=ae.mk (bn (by repeat (first|(with_reducible first|exact HB.out|apply ah|apply ag|apply ai|refine aj ?_ iZ.out|refine aj ?_ ja.out)|exact HB.out)) hb);clear lF;clear dP;clear bK;clear HB;have lF:=dV;have dP:=dU;have bK:=dR;have HB:=gZ;clear dV dU dR gZ;(try clear hb);(try clear hb2);(try clear hk);(try clear hi)))
            go_ret
            exact ⟨by first|rfl|(simp [aQ,aN] <;> rfl)|(simp [*,aQ,aN] <;> rfl),by repeat (first|(with_reducible first|exact HB.out|apply ah|apply ag|apply ai|refine aj ?_ iZ.out|refine aj ?_ ja.out)|exact HB.out)⟩
           ·
            replace c53:=Bool.eq_false_iff.mpr c53
            subst c53
            have H1:(some false)=some r:=by rw [if_neg (show ¬ (false=true) by decide)] at H;exact H
            clear H
            have H:=H1
            clear H1
            obtain rfl:=Option.some.inj H
            have aom:=kX.out
            have anV:=kY.out
            have akd:wc.cell? ⟨eY,0,none⟩=some (.int .u8 bV):=(ax bK.out 0).trans rfl
            have akc:wc.cell? ⟨eY,1,none⟩=some (.int .u8 gz):=(ax bK.out 1).trans rfl
            have akb:wc.cell? ⟨eY,2,none⟩=some (.int .u8 gX):=(ax bK.out 2).trans rfl
            have aka:wc.cell? ⟨eY,3,none⟩=some (.int .u8 iF):=(ax bK.out 3).trans rfl
            have aj9:wc.cell? ⟨eY,4,none⟩=some (.int .i64 iq):=(ax bK.out 4).trans rfl
            have ahX:=aC bK.out 0
            have ahW:=aC bK.out 1
            have ahV:=aC bK.out 2
            have ahU:=aC bK.out 3
            have ahT:=aC bK.out 4
            go_wp2_with (first|((with_reducible refine bI (N:=66) rfl ?_);refine Kd.uu (Kd.int .u8) _ 5 ?hg (N:=66) ?hd (xs:=([gX]:List Int)) (inner:=[.int .u8 gX]) (ok:=fun _=>True) (oQ:=fun _=>True) ?hr ?hp (fun _ hk=>hk) trivial (Below.refl _ _) (Nat.le_refl _) (by simp) ?_;(case hd=>rfl);(case hg=>rfl);(case hr=>first|(go_simp;done)|(go_simp;rfl));(case hp=>exact (jA.one (show Kd.M (Kd.int .u8) _ _ _ gX [.int .u8 gX] from rfl) (jA.none _ _)));intro v141 w65 P6 hb BX oG;clear BX oG;(first|rw [← Nh.out] at P6|(simp only [Int.reduceToNat] at P6;rw [← Nh.out] at P6));have dV:=ae.mk (Kd.jS P6 (bU (by repeat (first|(with_reducible first|exact HB.out|apply ah|apply ag|apply ai|refine aj ?_ iZ.out|refine aj ?_ ja.out)|exact HB.out))));have dU:=ae.mk (bg (g:=iR) (o:=.cells #[.slice ed aZ.length dZ,.string aU,.string aV,.slice gm aI.length eU] 25 (0,0)) (by (with_reducible repeat (first|refine au ?_ _|refine ay ?_|refine ak ?_ _));exact dP.out) hb);have dR:=ae.mk (bg (g:=eY) (o:=.cells #[.int .u8 bV,.int .u8 gz,.int .u8 gX,.int .u8 iF,.int .i64 iq] 55 (0,0)) (by (with_reducible repeat (first|refine au ?_ _|refine ay ?_|refine ak ?_ _));exact bK.out) hb);have gZ:=ae.mk (bn (by repeat (first|(with_reducible first|exact HB.out|apply ah|apply ag|apply ai|refine aj ?_ iZ.out|refine aj ?_ ja.out)|exact HB.out)) hb);clear dP;clear bK;clear HB;have lF:=dV;have dP:=dU;have bK:=dR;have HB:=gZ;clear dV dU dR gZ;clear hb P6;obtain ⟨anB,anc,amP⟩:=Kd.jR lF.out;subst amP)|((with_reducible refine bz (f:=55) rfl ?_);refine dS (some 67) rfl rfl Tryd.func55 (by kernel_rfl) rfl #[.slice anB O4.length anc] rfl (by (try simp only [List.map_toArray,List.map_cons,List.map_nil]);first|done|rfl|(simp only [List.length_drop,List.length_take];rfl)) ?_;(with_reducible refine (dG.calls nM _ _ O4 false _ ?bZ ?dh A52.out).mono ?_);(case bZ=>repeat (first|exact (Kd.dW lF.out).2.2|(with_reducible refine Kd.bP ?_ _)|(with_reducible refine Kd.bQ ?_ _)|(with_reducible refine Kd.dD ?_)));(case dh=>exact (Kd.dW lF.out).2.1);rintro e w' ⟨rfl,⟨nd,rfl⟩⟩;refine ⟨_,rfl,?_⟩))
            go_ret
            exact ⟨by first|rfl|(simp [aQ,aN] <;> rfl)|(simp [*,aQ,aN] <;> rfl),by repeat (first|(with_reducible first|exact HB.out|apply ah|apply ag|apply ai|refine aj ?_ iZ.out|refine aj ?_ ja.out)|exact HB.out)⟩
          ·
           rw [if_neg c51] at H
           have aef:(bV == 9)=false:=beq_eq_false_iff_ne.mpr c51
           have aee:(bV != 9)=true:=bne_iff_ne.mpr c51
           by_cases c68:bV=10
           ·
            rw [if_pos c68] at H
            have ad9:(bV == 10)=true:=beq_iff_eq.mpr c68
            have ad8:(bV != 10)=false:=bne_eq_false_iff_eq.mpr c68
            clear c68
            replace H:=Option.bind_eq_some_iff.mp H
            obtain ⟨⟨t145,t146⟩,afA,H⟩:=H
            replace H:((ig.f t124 t145).bind fun t147=>(some t147))=some r:=H
            have A69:=ae.mk afA
            clear afA
            replace H:=Option.bind_eq_some_iff.mp H
            obtain ⟨t147,afz,H⟩:=H
            replace H:(some t147)=some r:=H
            have A70:=ae.mk afz
            clear afz
            obtain rfl:=Option.some.inj H
            have aol:=kY.out
            have anU:=kX.out
            have ajW:wc.cell? ⟨iR,0,none⟩=some (.slice ed aZ.length dZ):=(ax dP.out 0).trans rfl
            have ajV:wc.cell? ⟨iR,1,none⟩=some (.string aU):=(ax dP.out 1).trans rfl
            have ajU:wc.cell? ⟨iR,2,none⟩=some (.string aV):=(ax dP.out 2).trans rfl
            have ajT:wc.cell? ⟨iR,3,none⟩=some (.slice gm aI.length eU):=(ax dP.out 3).trans rfl
            have ahI:=aC dP.out 0
            have ahH:=aC dP.out 1
            have ahG:=aC dP.out 2
            have ahF:=aC dP.out 3
            have ajS:wc.cell? ⟨eY,0,none⟩=some (.int .u8 bV):=(ax bK.out 0).trans rfl
            have ajR:wc.cell? ⟨eY,1,none⟩=some (.int .u8 gz):=(ax bK.out 1).trans rfl
            have ajQ:wc.cell? ⟨eY,2,none⟩=some (.int .u8 gX):=(ax bK.out 2).trans rfl
            have ajP:wc.cell? ⟨eY,3,none⟩=some (.int .u8 iF):=(ax bK.out 3).trans rfl
            have ajO:wc.cell? ⟨eY,4,none⟩=some (.int .i64 iq):=(ax bK.out 4).trans rfl
            have ahE:=aC bK.out 0
            have ahD:=aC bK.out 1
            have ahC:=aC bK.out 2
            have ahB:=aC bK.out 3
            have ahA:=aC bK.out 4
            go_wp2_with (first|((with_reducible refine bz (f:=58) rfl ?_);refine dS (some 82) rfl rfl Tryd.func58 (by kernel_rfl) rfl #[.agg #[.slice ed aZ.length dZ,.string aU,.string aV,.slice gm aI.length eU],.int .i64 t125,.int .i64 iq] rfl (by (try simp only [List.map_toArray,List.map_cons,List.map_nil]);first|done|rfl|(simp only [List.length_drop,List.length_take];rfl)) ?_;(with_reducible refine (gY.calls nM _ _ aZ aU aV _ _ aI t125 iq t145 t146 _ ?bZ ?dh ?iW ?iV A69.out).mono ?_);(case bZ=>repeat (first|exact (Kd.bJ iH.out HB.out)|(with_reducible refine Kd.bP ?_ _)|(with_reducible refine Kd.bQ ?_ _)|(with_reducible refine Kd.dD ?_)));(case dh=>exact iK.out);(case iW=>repeat (first|exact (Kd.bJ jJ.out HB.out)|(with_reducible refine Kd.bP ?_ _)|(with_reducible refine Kd.bQ ?_ _)|(with_reducible refine Kd.dD ?_)));(case iV=>exact kC.out);rintro e w74 ⟨rfl,hb⟩;refine ⟨_,rfl,?_⟩;have dV:=ae.mk (bg (g:=iR) (o:=.cells #[.slice ed aZ.length dZ,.string aU,.string aV,.slice gm aI.length eU] 25 (0,0)) (by (with_reducible repeat (first|refine au ?_ _|refine ay ?_|refine ak ?_ _));exact dP.out) hb);have dU:=ae.mk (bg (g:=eY) (o:=.cells #[.int .u8 bV,.int .u8 gz,.int .u8 gX,.int .u8 iF,.int .i64 iq] 55 (0,0)) (by (with_reducible repeat (first|refine au ?_ _|refine ay ?_|refine ak ?_ _));exact bK.out) hb);have dR:=ae.mk (bn (by repeat (first|(with_reducible first|exact HB.out|apply ah|apply ag|apply ai|refine aj ?_ iZ.out|refine aj ?_ ja.out)|exact HB.out)) hb);clear dP;clear bK;clear HB;have dP:=dV;have bK:=dU;have HB:=dR;clear dV dU dR;(try clear hb);(try clear hb2);(try clear hk);(try clear hi))|((with_reducible refine bz (f:=56) rfl ?_);refine dS (some 87) rfl rfl Tryd.func56 (by kernel_rfl) rfl #[.int .i64 t124,.int .i64 t145] rfl (by (try simp only [List.map_toArray,List.map_cons,List.map_nil]);first|done|rfl|(simp only [List.length_drop,List.length_take];rfl)) ?_;(with_reducible refine (ig.calls t124 t145 t147 _ A70.out).mono ?_);rintro e w' ⟨rfl,⟨nd,rfl⟩⟩;refine ⟨_,rfl,?_⟩))
            go_ret
            exact ⟨by first|rfl|(simp [aQ,aN] <;> rfl)|(simp [*,aQ,aN] <;> rfl),by repeat (first|(with_reducible first|exact HB.out|apply ah|apply ag|apply ai|refine aj ?_ iZ.out|refine aj ?_ ja.out)|exact HB.out)⟩
           ·
            rw [if_neg c68] at H
            have ad9:(bV == 10)=false:=beq_eq_false_iff_ne.mpr c68
            have ad8:(bV != 10)=true:=bne_iff_ne.mpr c68
            by_cases c75:bV=11
            ·
             rw [if_pos c75] at H
             have ad7:(bV == 11)=true:=beq_iff_eq.mpr c75
             have ad6:(bV != 11)=false:=bne_eq_false_iff_eq.mpr c75
             clear c75
             replace H:=Option.bind_eq_some_iff.mp H
             obtain ⟨⟨t148,t149⟩,afy,H⟩:=H
             replace H:((ig.f t125 t148).bind fun t150=>(some t150))=some r:=H
             have A76:=ae.mk afy
             clear afy
             replace H:=Option.bind_eq_some_iff.mp H
             obtain ⟨t150,afx,H⟩:=H
             replace H:(some t150)=some r:=H
             have A77:=ae.mk afx
             clear afx
             obtain rfl:=Option.some.inj H
             have aok:=kY.out
             have anT:=kX.out
             have ajN:wc.cell? ⟨iR,0,none⟩=some (.slice ed aZ.length dZ):=(ax dP.out 0).trans rfl
             have ajM:wc.cell? ⟨iR,1,none⟩=some (.string aU):=(ax dP.out 1).trans rfl
             have ajL:wc.cell? ⟨iR,2,none⟩=some (.string aV):=(ax dP.out 2).trans rfl
             have ajK:wc.cell? ⟨iR,3,none⟩=some (.slice gm aI.length eU):=(ax dP.out 3).trans rfl
             have ahz:=aC dP.out 0
             have ahy:=aC dP.out 1
             have ahx:=aC dP.out 2
             have ahw:=aC dP.out 3
             have ajJ:wc.cell? ⟨eY,0,none⟩=some (.int .u8 bV):=(ax bK.out 0).trans rfl
             have ajI:wc.cell? ⟨eY,1,none⟩=some (.int .u8 gz):=(ax bK.out 1).trans rfl
             have ajH:wc.cell? ⟨eY,2,none⟩=some (.int .u8 gX):=(ax bK.out 2).trans rfl
             have ajG:wc.cell? ⟨eY,3,none⟩=some (.int .u8 iF):=(ax bK.out 3).trans rfl
             have ajF:wc.cell? ⟨eY,4,none⟩=some (.int .i64 iq):=(ax bK.out 4).trans rfl
             have ahv:=aC bK.out 0
             have ahu:=aC bK.out 1
             have aht:=aC bK.out 2
             have ahs:=aC bK.out 3
             have ahr:=aC bK.out 4
             go_wp2_with (first|((with_reducible refine bz (f:=58) rfl ?_);refine dS (some 95) rfl rfl Tryd.func58 (by kernel_rfl) rfl #[.agg #[.slice ed aZ.length dZ,.string aU,.string aV,.slice gm aI.length eU],.int .i64 t124,.int .i64 iq] rfl (by (try simp only [List.map_toArray,List.map_cons,List.map_nil]);first|done|rfl|(simp only [List.length_drop,List.length_take];rfl)) ?_;(with_reducible refine (gY.calls nM _ _ aZ aU aV _ _ aI t124 iq t148 t149 _ ?bZ ?dh ?iW ?iV A76.out).mono ?_);(case bZ=>repeat (first|exact (Kd.bJ iH.out HB.out)|(with_reducible refine Kd.bP ?_ _)|(with_reducible refine Kd.bQ ?_ _)|(with_reducible refine Kd.dD ?_)));(case dh=>exact iK.out);(case iW=>repeat (first|exact (Kd.bJ jJ.out HB.out)|(with_reducible refine Kd.bP ?_ _)|(with_reducible refine Kd.bQ ?_ _)|(with_reducible refine Kd.dD ?_)));(case iV=>exact kC.out);rintro e w81 ⟨rfl,hb⟩;refine ⟨_,rfl,?_⟩;have dV:=ae.mk (bg (g:=iR) (o:=.cells #[.slice ed aZ.length dZ,.string aU,.string aV,.slice gm aI.length eU] 25 (0,0)) (by (with_reducible repeat (first|refine au ?_ _|refine ay ?_|refine ak ?_ _));exact dP.out) hb);have dU:=ae.mk (bg (g:=eY) (o:=.cells #[.int .u8 bV,.int .u8 gz,.int .u8 gX,.int .u8 iF,.int .i64 iq] 55 (0,0)) (by (with_reducible repeat (first|refine au ?_ _|refine ay ?_|refine ak ?_ _));exact bK.out) hb);have dR:=ae.mk (bn (by repeat (first|(with_reducible first|exact HB.out|apply ah|apply ag|apply ai|refine aj ?_ iZ.out|refine aj ?_ ja.out)|exact HB.out)) hb);clear dP;clear bK;clear HB;have dP:=dV;have bK:=dU;have HB:=dR;clear dV dU dR;(try clear hb);(try clear hb2);(try clear hk);(try clear hi))|((with_reducible refine bz (f:=56) rfl ?_);refine dS (some 100) rfl rfl Tryd.func56 (by kernel_rfl) rfl #[.int .i64 t125,.int .i64 t148] rfl (by (try simp only [List.map_toArray,List.map_cons,List.map_nil]);first|done|rfl|(simp only [List.length_drop,List.length_take];rfl)) ?_;(with_reducible refine (ig.calls t125 t148 t150 _ A77.out).mono ?_);rintro e w' ⟨rfl,⟨nd,rfl⟩⟩;refine ⟨_,rfl,?_⟩))
             go_ret
             exact ⟨by first|rfl|(simp [aQ,aN] <;> rfl)|(simp [*,aQ,aN] <;> rfl),by repeat (first|(with_reducible first|exact HB.out|apply ah|apply ag|apply ai|refine aj ?_ iZ.out|refine aj ?_ ja.out)|exact HB.out)⟩
            ·
             rw [if_neg c75] at H
             have ad7:(bV == 11)=false:=beq_eq_false_iff_ne.mpr c75
             have ad6:(bV != 11)=true:=bne_iff_ne.mpr c75
             by_cases c82:bV=12
             ·
              rw [if_pos c82] at H
              have ad5:(bV == 12)=true:=beq_iff_eq.mpr c82
              have ad4:(bV != 12)=false:=bne_eq_false_iff_eq.mpr c82
              clear c82
              replace H:=Option.bind_eq_some_iff.mp H
              obtain ⟨t151,afw,H⟩:=H
              replace H:((ig.f t124 t151).bind fun t152=>(some t152))=some r:=H
              have A83:=ae.mk afw
              clear afw
              replace H:=Option.bind_eq_some_iff.mp H
              obtain ⟨t152,afv,H⟩:=H
              replace H:(some t152)=some r:=H
              have A84:=ae.mk afv
              clear afv
              obtain rfl:=Option.some.inj H
              have aoj:=kY.out
              have anS:=kX.out
              have ajE:wc.cell? ⟨iR,0,none⟩=some (.slice ed aZ.length dZ):=(ax dP.out 0).trans rfl
              have ajD:wc.cell? ⟨iR,1,none⟩=some (.string aU):=(ax dP.out 1).trans rfl
              have ajC:wc.cell? ⟨iR,2,none⟩=some (.string aV):=(ax dP.out 2).trans rfl
              have ajB:wc.cell? ⟨iR,3,none⟩=some (.slice gm aI.length eU):=(ax dP.out 3).trans rfl
              have ahq:=aC dP.out 0
              have ahp:=aC dP.out 1
              have aho:=aC dP.out 2
              have ahn:=aC dP.out 3
              have ajA:wc.cell? ⟨eY,0,none⟩=some (.int .u8 bV):=(ax bK.out 0).trans rfl
              have ajz:wc.cell? ⟨eY,1,none⟩=some (.int .u8 gz):=(ax bK.out 1).trans rfl
              have ajy:wc.cell? ⟨eY,2,none⟩=some (.int .u8 gX):=(ax bK.out 2).trans rfl
              have ajx:wc.cell? ⟨eY,3,none⟩=some (.int .u8 iF):=(ax bK.out 3).trans rfl
              have ajw:wc.cell? ⟨eY,4,none⟩=some (.int .i64 iq):=(ax bK.out 4).trans rfl
              have ahm:=aC bK.out 0
              have ahl:=aC bK.out 1
              have ahk:=aC bK.out 2
              have ahj:=aC bK.out 3
              have ahi:=aC bK.out 4
              go_wp2_with (first|((with_reducible refine bz (f:=59) rfl ?_);refine dS (some 107) rfl rfl Tryd.func59 (by kernel_rfl) rfl #[.agg #[.slice ed aZ.length dZ,.string aU,.string aV,.slice gm aI.length eU],.int .u8 gX] rfl (by (try simp only [List.map_toArray,List.map_cons,List.map_nil]);first|done|rfl|(simp only [List.length_drop,List.length_take];rfl)) ?_;(with_reducible refine (jv.calls nM _ _ aZ aU aV _ _ aI gX t151 _ ?bZ ?dh ?iW ?iV A83.out).mono ?_);(case bZ=>repeat (first|exact (Kd.bJ iH.out HB.out)|(with_reducible refine Kd.bP ?_ _)|(with_reducible refine Kd.bQ ?_ _)|(with_reducible refine Kd.dD ?_)));(case dh=>exact iK.out);(case iW=>repeat (first|exact (Kd.bJ jJ.out HB.out)|(with_reducible refine Kd.bP ?_ _)|(with_reducible refine Kd.bQ ?_ _)|(with_reducible refine Kd.dD ?_)));(case iV=>exact kC.out);rintro e w88 ⟨rfl,hb⟩;refine ⟨_,rfl,?_⟩;have dV:=ae.mk (bg (g:=iR) (o:=.cells #[.slice ed aZ.length dZ,.string aU,.string aV,.slice gm aI.length eU] 25 (0,0)) (by (with_reducible repeat (first|refine au ?_ _|refine ay ?_|refine ak ?_ _));exact dP.out) hb);have dU:=ae.mk (bg (g:=eY) (o:=.cells #[.int .u8 bV,.int .u8 gz,.int .u8 gX,.int .u8 iF,.int .i64 iq] 55 (0,0)) (by (with_reducible repeat (first|refine au ?_ _|refine ay ?_|refine ak ?_ _));exact bK.out) hb);have dR:=ae.mk (bn (by repeat (first|(with_reducible first|exact HB.out|apply ah|apply ag|apply ai|refine aj ?_ iZ.out|refine aj ?_ ja.out)|exact HB.out)) hb);clear dP;clear bK;clear HB;have dP:=dV;have bK:=dU;have HB:=dR;clear dV dU dR;(try clear hb);(try clear hb2);(try clear hk);(try clear hi))|((with_reducible refine bz (f:=56) rfl ?_);refine dS (some 108) rfl rfl Tryd.func56 (by kernel_rfl) rfl #[.int .i64 t124,.int .i64 t151] rfl (by (try simp only [List.map_toArray,List.map_cons,List.map_nil]);first|done|rfl|(simp only [List.length_drop,List.length_take];rfl)) ?_;(with_reducible refine (ig.calls t124 t151 t152 _ A84.out).mono ?_);rintro e w' ⟨rfl,⟨nd,rfl⟩⟩;refine ⟨_,rfl,?_⟩))
              go_ret
              exact ⟨by first|rfl|(simp [aQ,aN] <;> rfl)|(simp [*,aQ,aN] <;> rfl),by repeat (first|(with_reducible first|exact HB.out|apply ah|apply ag|apply ai|refine aj ?_ iZ.out|refine aj ?_ ja.out)|exact HB.out)⟩
             ·
              rw [if_neg c82] at H
              have ad5:(bV == 12)=false:=beq_eq_false_iff_ne.mpr c82
              have ad4:(bV != 12)=true:=bne_iff_ne.mpr c82
              by_cases c89:bV=13
              ·
               rw [if_pos c89] at H
               have ad3:(bV == 13)=true:=beq_iff_eq.mpr c89
               have ad1:(bV != 13)=false:=bne_eq_false_iff_eq.mpr c89
               clear c89
               replace H:=Option.bind_eq_some_iff.mp H
               obtain ⟨t153,afu,H⟩:=H
               replace H:((ig.f t125 t153).bind fun t154=>(some t154))=some r:=H
               have OT:=ae.mk afu
               clear afu
               replace H:=Option.bind_eq_some_iff.mp H
               obtain ⟨t154,aft,H⟩:=H
               replace H:(some t154)=some r:=H
               have A91:=ae.mk aft
               clear aft
               obtain rfl:=Option.some.inj H
               have aoi:=kY.out
               have anR:=kX.out
               have ajv:wc.cell? ⟨iR,0,none⟩=some (.slice ed aZ.length dZ):=(ax dP.out 0).trans rfl
               have aju:wc.cell? ⟨iR,1,none⟩=some (.string aU):=(ax dP.out 1).trans rfl
               have ajt:wc.cell? ⟨iR,2,none⟩=some (.string aV):=(ax dP.out 2).trans rfl
               have ajs:wc.cell? ⟨iR,3,none⟩=some (.slice gm aI.length eU):=(ax dP.out 3).trans rfl
               have ahh:=aC dP.out 0
               have ahg:=aC dP.out 1
               have ahf:=aC dP.out 2
               have ahe:=aC dP.out 3
               have ajr:wc.cell? ⟨eY,0,none⟩=some (.int .u8 bV):=(ax bK.out 0).trans rfl
               have ajq:wc.cell? ⟨eY,1,none⟩=some (.int .u8 gz):=(ax bK.out 1).trans rfl
               have ajp:wc.cell? ⟨eY,2,none⟩=some (.int .u8 gX):=(ax bK.out 2).trans rfl
               have ajo:wc.cell? ⟨eY,3,none⟩=some (.int .u8 iF):=(ax bK.out 3).trans rfl
               have ajn:wc.cell? ⟨eY,4,none⟩=some (.int .i64 iq):=(ax bK.out 4).trans rfl
               have ahd:=aC bK.out 0
               have ahc:=aC bK.out 1
               have ahb:=aC bK.out 2
               have aha:=aC bK.out 3
               have ag9:=aC bK.out 4
               go_wp2_with (first|((with_reducible refine bz (f:=59) rfl ?_);refine dS (some 115) rfl rfl Tryd.func59 (by kernel_rfl) rfl #[.agg #[.slice ed aZ.length dZ,.string aU,.string aV,.slice gm aI.length eU],.int .u8 gz] rfl (by (try simp only [List.map_toArray,List.map_cons,List.map_nil]);first|done|rfl|(simp only [List.length_drop,List.length_take];rfl)) ?_;(with_reducible refine (jv.calls nM _ _ aZ aU aV _ _ aI gz t153 _ ?bZ ?dh ?iW ?iV OT.out).mono ?_);(case bZ=>repeat (first|exact (Kd.bJ iH.out HB.out)|(with_reducible refine Kd.bP ?_ _)|(with_reducible refine Kd.bQ ?_ _)|(with_reducible refine Kd.dD ?_)));(case dh=>exact iK.out);(case iW=>repeat (first|exact (Kd.bJ jJ.out HB.out)|(with_reducible refine Kd.bP ?_ _)|(with_reducible refine Kd.bQ ?_ _)|(with_reducible refine Kd.dD ?_)));(case iV=>exact kC.out);rintro e w95 ⟨rfl,hb⟩;refine ⟨_,rfl,?_⟩;have dV:=ae.mk (bg (g:=iR) (o:=.cells #[.slice ed aZ.length dZ,.string aU,.string aV,.slice gm aI.length eU] 25 (0,0)) (by (with_reducible repeat (first|refine au ?_ _|refine ay ?_|refine ak ?_ _));exact dP.out) hb);have dU:=ae.mk (bg (g:=eY) (o:=.cells #[.int .u8 bV,.int .u8 gz,.int .u8 gX,.int .u8 iF,.int .i64 iq] 55 (0,0)) (by (with_reducible repeat (first|refine au ?_ _|refine ay ?_|refine ak ?_ _));exact bK.out) hb);have dR:=ae.mk (bn (by repeat (first|(with_reducible first|exact HB.out|apply ah|apply ag|apply ai|refine aj ?_ iZ.out|refine aj ?_ ja.out)|exact HB.out)) hb);clear dP;clear bK;clear HB;have dP:=dV;have bK:=dU;have HB:=dR;clear dV dU dR;(try clear hb);(try clear hb2);(try clear hk);(try clear hi))|((with_reducible refine bz (f:=56) rfl ?_);refine dS (some 116) rfl rfl Tryd.func56 (by kernel_rfl) rfl #[.int .i64 t125,.int .i64 t153] rfl (by (try simp only [List.map_toArray,List.map_cons,List.map_nil]);first|done|rfl|(simp only [List.length_drop,List.length_take];rfl)) ?_;(with_reducible refine (ig.calls t125 t153 t154 _ A91.out).mono ?_);rintro e w' ⟨rfl,⟨nd,rfl⟩⟩;refine ⟨_,rfl,?_⟩))
               go_ret
               exact ⟨by first|rfl|(simp [aQ,aN] <;> rfl)|(simp [*,aQ,aN] <;> rfl),by repeat (first|(with_reducible first|exact HB.out|apply ah|apply ag|apply ai|refine aj ?_ iZ.out|refine aj ?_ ja.out)|exact HB.out)⟩
              ·
               rw [if_neg c89] at H
               have ad3:(bV == 13)=false:=beq_eq_false_iff_ne.mpr c89
               have ad1:(bV != 13)=true:=bne_iff_ne.mpr c89
               by_cases c96:bV=15
               ·
                rw [if_pos c96] at H
                have adZ:(bV == 15)=true:=beq_iff_eq.mpr c96
                have adY:(bV != 15)=false:=bne_eq_false_iff_eq.mpr c96
                clear c96
                obtain ⟨O3,F9⟩:∃ y_:List Int,y_=(([gz]:List Int)):=⟨_,rfl⟩
                replace H:((dG.f nM O3).bind fun t158=>(if t158=true then ((gB.f nM aZ aU aV aI iF).bind fun t159=>((ig.f t125 t159).bind fun t160=>(some t160))) else (some false)))=some r:=by first|(rw [F9];with_reducible exact H)|(have uo:=(Option.bind_some _ _).symm.trans H;rw [F9];with_reducible exact uo)|(have uo:=(Option.bind_some _ _).symm.trans H;with_reducible exact uo)|with_reducible exact H|(rw [F9];exact H)|exact H
                have Nc:=ae.mk F9
                clear F9
                replace H:=Option.bind_eq_some_iff.mp H
                obtain ⟨t158,afs,H⟩:=H
                replace H:(if t158=true then ((gB.f nM aZ aU aV aI iF).bind fun t159=>((ig.f t125 t159).bind fun t160=>(some t160))) else (some false))=some r:=H
                have A97:=ae.mk afs
                clear afs
                by_cases c98:t158=true
                ·
                 subst c98
                 have H1:((gB.f nM aZ aU aV aI iF).bind fun t159=>((ig.f t125 t159).bind fun t160=>(some t160)))=some r:=by rw [if_pos rfl] at H;exact H
                 clear H
                 have H:=H1
                 clear H1
                 replace H:=Option.bind_eq_some_iff.mp H
                 obtain ⟨t159,afr,H⟩:=H
                 replace H:((ig.f t125 t159).bind fun t160=>(some t160))=some r:=H
                 have A99:=ae.mk afr
                 clear afr
                 replace H:=Option.bind_eq_some_iff.mp H
                 obtain ⟨t160,Zg,H⟩:=H
                 replace H:(some t160)=some r:=H
                 have Cm:=ae.mk Zg
                 clear Zg
                 obtain rfl:=Option.some.inj H
                 have ama:=kX.out
                 have al8:=kY.out
                 have adn:wc.cell? ⟨eY,0,none⟩=some (.int .u8 bV):=(ax bK.out 0).trans rfl
                 have adm:wc.cell? ⟨eY,1,none⟩=some (.int .u8 gz):=(ax bK.out 1).trans rfl
                 have adl:wc.cell? ⟨eY,2,none⟩=some (.int .u8 gX):=(ax bK.out 2).trans rfl
                 have adk:wc.cell? ⟨eY,3,none⟩=some (.int .u8 iF):=(ax bK.out 3).trans rfl
                 have adi:wc.cell? ⟨eY,4,none⟩=some (.int .i64 iq):=(ax bK.out 4).trans rfl
                 have ac1:=aC bK.out 0
                 have ac0:=aC bK.out 1
                 have acZ:=aC bK.out 2
                 have acY:=aC bK.out 3
                 have acX:=aC bK.out 4
                 go_wp2_with (first|((with_reducible refine bI (N:=121) rfl ?_);refine Kd.uu (Kd.int .u8) _ 5 ?hg (N:=121) ?hd (xs:=([gz]:List Int)) (inner:=[.int .u8 gz]) (ok:=fun _=>True) (oQ:=fun _=>True) ?hr ?hp (fun _ hk=>hk) trivial (Below.refl _ _) (Nat.le_refl _) (by simp) ?_;(case hd=>rfl);(case hg=>rfl);(case hr=>first|(go_simp;done)|(go_simp;rfl));(case hp=>exact (jA.one (show Kd.M (Kd.int .u8) _ _ _ gz [.int .u8 gz] from rfl) (jA.none _ _)));intro alR D5 Gn hb BX oG;clear BX oG;(first|rw [← Nc.out] at Gn|(simp only [Int.reduceToNat] at Gn;rw [← Nc.out] at Gn));have dV:=ae.mk (Kd.jS Gn (bU (by repeat (first|(with_reducible first|exact HB.out|apply ah|apply ag|apply ai|refine aj ?_ iZ.out|refine aj ?_ ja.out)|exact HB.out))));have dU:=ae.mk (bg (g:=iR) (o:=.cells #[.slice ed aZ.length dZ,.string aU,.string aV,.slice gm aI.length eU] 25 (0,0)) (by (with_reducible repeat (first|refine au ?_ _|refine ay ?_|refine ak ?_ _));exact dP.out) hb);have dR:=ae.mk (bg (g:=eY) (o:=.cells #[.int .u8 bV,.int .u8 gz,.int .u8 gX,.int .u8 iF,.int .i64 iq] 55 (0,0)) (by (with_reducible repeat (first|refine au ?_ _|refine ay ?_|refine ak ?_ _));exact bK.out) hb);have gZ:=ae.mk (bn (by repeat (first|(with_reducible first|exact HB.out|apply ah|apply ag|apply ai|refine aj ?_ iZ.out|refine aj ?_ ja.out)|exact HB.out)) hb);clear dP;clear bK;clear HB;have wZ:=dV;have dP:=dU;have bK:=dR;have HB:=gZ;clear dV dU dR gZ;clear hb Gn;obtain ⟨afq,adX,adH⟩:=Kd.jR wZ.out;subst adH)|((with_reducible refine bz (f:=55) rfl ?_);refine dS (some 122) rfl rfl Tryd.func55 (by kernel_rfl) rfl #[.slice afq O3.length adX] rfl (by (try simp only [List.map_toArray,List.map_cons,List.map_nil]);first|done|rfl|(simp only [List.length_drop,List.length_take];rfl)) ?_;(with_reducible refine (dG.calls nM _ _ O3 true _ ?bZ ?dh A97.out).mono ?_);(case bZ=>repeat (first|exact (Kd.dW wZ.out).2.2|(with_reducible refine Kd.bP ?_ _)|(with_reducible refine Kd.bQ ?_ _)|(with_reducible refine Kd.dD ?_)));(case dh=>exact (Kd.dW wZ.out).2.1);rintro e w' ⟨rfl,⟨nd,rfl⟩⟩;refine ⟨_,rfl,?_⟩;have adh:D5.cell? ⟨iR,0,none⟩=some (.slice ed aZ.length dZ):=(ax dP.out 0).trans rfl;have adg:D5.cell? ⟨iR,1,none⟩=some (.string aU):=(ax dP.out 1).trans rfl;have adf:D5.cell? ⟨iR,2,none⟩=some (.string aV):=(ax dP.out 2).trans rfl;have ade:D5.cell? ⟨iR,3,none⟩=some (.slice gm aI.length eU):=(ax dP.out 3).trans rfl;have acW:=aC dP.out 0;have acV:=aC dP.out 1;have acU:=aC dP.out 2;have acT:=aC dP.out 3;have adb:D5.cell? ⟨eY,0,none⟩=some (.int .u8 bV):=(ax bK.out 0).trans rfl;have ada:D5.cell? ⟨eY,1,none⟩=some (.int .u8 gz):=(ax bK.out 1).trans rfl;have ac9:D5.cell? ⟨eY,2,none⟩=some (.int .u8 gX):=(ax bK.out 2).trans rfl;have ac8:D5.cell? ⟨eY,3,none⟩=some (.int .u8 iF):=(ax bK.out 3).trans rfl;have ac7:D5.cell? ⟨eY,4,none⟩=some (.int .i64 iq):=(ax bK.out 4).trans rfl;have acS:=aC bK.out 0;have acR:=aC bK.out 1;have acQ:=aC bK.out 2;have acP:=aC bK.out 3;have acO:=aC bK.out 4)|(go_at_call 36;(with_reducible refine (gB.calls nM _ _ aZ aU aV _ _ aI iF t159 _ ?bZ ?dh ?iW ?iV A99.out).mono ?_);(case bZ=>repeat (first|exact (Kd.bJ iH.out (by repeat (first|(with_reducible first|exact HB.out|apply ah|apply ag|apply ai|refine aj ?_ iZ.out|refine aj ?_ ja.out)|exact HB.out)))|(with_reducible refine Kd.bP ?_ _)|(with_reducible refine Kd.bQ ?_ _)|(with_reducible refine Kd.dD ?_)));(case dh=>exact iK.out);(case iW=>repeat (first|exact (Kd.bJ jJ.out (by repeat (first|(with_reducible first|exact HB.out|apply ah|apply ag|apply ai|refine aj ?_ iZ.out|refine aj ?_ ja.out)|exact HB.out)))|(with_reducible refine Kd.bP ?_ _)|(with_reducible refine Kd.bQ ?_ _)|(with_reducible refine Kd.dD ?_)));(case iV=>exact kC.out);rintro e aqo ⟨rfl,hb⟩;have dV:=ae.mk (Kd.kF (by (with_reducible repeat (first|apply Kd.iJ|apply Kd.iI|apply Kd.jk));exact wZ.out) hb);have dU:=ae.mk (bg (g:=iR) (o:=.cells #[.slice ed aZ.length dZ,.string aU,.string aV,.slice gm aI.length eU] 25 (0,0)) (by (with_reducible repeat (first|refine au ?_ _|refine ay ?_|refine ak ?_ _));exact dP.out) hb);have dR:=ae.mk (bg (g:=eY) (o:=.cells #[.int .u8 bV,.int .u8 gz,.int .u8 gX,.int .u8 iF,.int .i64 iq] 55 (0,0)) (by (with_reducible repeat (first|refine au ?_ _|refine ay ?_|refine ak ?_ _));exact bK.out) hb);have gZ:=ae.mk (bn (by repeat (first|(with_reducible first|exact HB.out|apply ah|apply ag|apply ai|refine aj ?_ iZ.out|refine aj ?_ ja.out)|exact HB.out)) hb);clear wZ;clear dP;clear bK;clear HB;have wZ:=dV;have dP:=dU;have bK:=dR;have HB:=gZ;clear dV dU dR gZ;(try clear hb);(try clear hb2);(try clear hk);(try clear hi))|(go_at_call 56;(with_reducible refine (ig.calls t125 t159 t160 _ Cm.out).mono ?_);rintro e w' ⟨rfl,⟨nd,rfl⟩⟩))
                 go_ret
                 exact ⟨by first|rfl|(simp [aQ,aN] <;> rfl)|(simp [*,aQ,aN] <;> rfl),by repeat (first|(with_reducible first|exact HB.out|apply ah|apply ag|apply ai|refine aj ?_ iZ.out|refine aj ?_ ja.out)|exact HB.out)⟩
                ·
                 replace c98:=Bool.eq_false_iff.mpr c98
                 subst c98
                 have H1:(some false)=some r:=by rw [if_neg (show ¬ (false=true) by decide)] at H;exact H
                 clear H
                 have H:=H1
                 clear H1
                 obtain rfl:=Option.some.inj H
                 have al9:=kX.out
                 have al7:=kY.out
                 have ac6:wc.cell? ⟨eY,0,none⟩=some (.int .u8 bV):=(ax bK.out 0).trans rfl
                 have ac5:wc.cell? ⟨eY,1,none⟩=some (.int .u8 gz):=(ax bK.out 1).trans rfl
                 have ac4:wc.cell? ⟨eY,2,none⟩=some (.int .u8 gX):=(ax bK.out 2).trans rfl
                 have ac3:wc.cell? ⟨eY,3,none⟩=some (.int .u8 iF):=(ax bK.out 3).trans rfl
                 have ac2:wc.cell? ⟨eY,4,none⟩=some (.int .i64 iq):=(ax bK.out 4).trans rfl
                 have acN:=aC bK.out 0
                 have acM:=aC bK.out 1
                 have acL:=aC bK.out 2
                 have acK:=aC bK.out 3
                 have acJ:=aC bK.out 4
                 go_wp2_with (first|((with_reducible refine bI (N:=121) rfl ?_);refine Kd.uu (Kd.int .u8) _ 5 ?hg (N:=121) ?hd (xs:=([gz]:List Int)) (inner:=[.int .u8 gz]) (ok:=fun _=>True) (oQ:=fun _=>True) ?hr ?hp (fun _ hk=>hk) trivial (Below.refl _ _) (Nat.le_refl _) (by simp) ?_;(case hd=>rfl);(case hg=>rfl);(case hr=>first|(go_simp;done)|(go_simp;rfl));(case hp=>exact (jA.one (show Kd.M (Kd.int .u8) _ _ _ gz [.int .u8 gz] from rfl) (jA.none _ _)));intro alR aqn Gm hb BX oG;clear BX oG;(first|rw [← Nc.out] at Gm|(simp only [Int.reduceToNat] at Gm;rw [← Nc.out] at Gm));have dV:=ae.mk (Kd.jS Gm (bU (by repeat (first|(with_reducible first|exact HB.out|apply ah|apply ag|apply ai|refine aj ?_ iZ.out|refine aj ?_ ja.out)|exact HB.out))));have dU:=ae.mk (bg (g:=iR) (o:=.cells #[.slice ed aZ.length dZ,.string aU,.string aV,.slice gm aI.length eU] 25 (0,0)) (by (with_reducible repeat (first|refine au ?_ _|refine ay ?_|refine ak ?_ _));exact dP.out) hb);have dR:=ae.mk (bg (g:=eY) (o:=.cells #[.int .u8 bV,.int .u8 gz,.int .u8 gX,.int .u8 iF,.int .i64 iq] 55 (0,0)) (by (with_reducible repeat (first|refine au ?_ _|refine ay ?_|refine ak ?_ _));exact bK.out) hb);have gZ:=ae.mk (bn (by repeat (first|(with_reducible first|exact HB.out|apply ah|apply ag|apply ai|refine aj ?_ iZ.out|refine aj ?_ ja.out)|exact HB.out)) hb);clear dP;clear bK;clear HB;have wZ:=dV;have dP:=dU;have bK:=dR;have HB:=gZ;clear dV dU dR gZ;clear hb Gm;obtain ⟨afp,adW,adG⟩:=Kd.jR wZ.out;subst adG)|((with_reducible refine bz (f:=55) rfl ?_);refine dS (some 122) rfl rfl Tryd.func55 (by kernel_rfl) rfl #[.slice afp O3.length adW] rfl (by (try simp only [List.map_toArray,List.map_cons,List.map_nil]);first|done|rfl|(simp only [List.length_drop,List.length_take];rfl)) ?_;(with_reducible refine (dG.calls nM _ _ O3 false _ ?bZ ?dh A97.out).mono ?_);(case bZ=>repeat (first|exact (Kd.dW wZ.out).2.2|(with_reducible refine Kd.bP ?_ _)|(with_reducible refine Kd.bQ ?_ _)|(with_reducible refine Kd.dD ?_)));(case dh=>exact (Kd.dW wZ.out).2.1);rintro e w' ⟨rfl,⟨nd,rfl⟩⟩;refine ⟨_,rfl,?_⟩))
                 go_ret
                 exact ⟨by first|rfl|(simp [aQ,aN] <;> rfl)|(simp [*,aQ,aN] <;> rfl),by repeat (first|(with_reducible first|exact HB.out|apply ah|apply ag|apply ai|refine aj ?_ iZ.out|refine aj ?_ ja.out)|exact HB.out)⟩
               ·
                rw [if_neg c96] at H
                have adZ:(bV == 15)=false:=beq_eq_false_iff_ne.mpr c96
                have adY:(bV != 15)=true:=bne_iff_ne.mpr c96
                obtain rfl:=Option.some.inj H
                go_wp2
                go_ret
                exact ⟨by first|rfl|(simp [aQ,aN] <;> rfl)|(simp [*,aQ,aN] <;> rfl),by repeat (first|(with_reducible first|exact HB.out|apply ah|apply ag|apply ai|refine aj ?_ iZ.out|refine aj ?_ ja.out)|exact HB.out)⟩
end Go.Proofs.YtlemecdddhdagaaDoor.P
end
