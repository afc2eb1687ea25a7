/- Parts of the proof of ModelRuns: what the functions that it reaches compute, and plain facts about that. -/
import Derived.Test.YtlemecdddhdagaaDoorYab
import Derived.Test.YtlemecdddhdagaaDoorYal
import Derived.Test.YtlemecdddhdagaaDoorYao
import Derived.Test.YtlemecdddhdagaaDoorYap
import Derived.Test.YtlemecdddhdagaaDoorYah
import Derived.Test.YtlemecdddhdagaaDoorYak
set_option linter.unusedVariables false
set_option linter.unusedSimpArgs false
section
namespace Go.Proofs.YtlemecdddhdagaaDoor.P
open Go.RowKit Go.Proofs.af.bD Go.Proofs.af.dB Go.Proofs.af.dM
attribute [local go_sem] lq lg mG mF jY jX lh kZ
def aY.j0:Nat→Int→Int→Int→Bool→List ByteArray→ByteArray→ByteArray→List (iw)→Int→Int→Int→Int→Int→Option (Bool)
 | 0,_,_,_,_,_,_,_,_,_,_,_,_,_=>none
 | k+1,x5,x6,x16,x17,tX,tV,tN,tK,afX,SS,SQ,SN,zl=>if x17=true then (some (decide (x5 ≥ 0))) else (if x16=7 then ((dA.f x5 x6).bind fun t172=>(some t172)) else (if x16=15 then ((dN.f k tX tV tN tK SN).bind fun t173=>((dA.f x6 t173).bind fun t174=>(some t174))) else (if x16=8 then (if x6 ≥ 0 then ((fA.f k tX tV tN tK x6 zl).bind fun t175=>(some t175)) else (some false)) else (if x16=9 then (if x5 ≥ 0 then ((fA.f k tX tV tN tK x5 zl).bind fun t176=>(some t176)) else (some false)) else (if x16=10 then (if x6 ≥ 0 then ((gy.f k tX tV tN tK x6 zl).bind fun t177=>((dA.f x5 t177).bind fun t178=>(some t178))) else (some false)) else (if x16=11 then (if x5 ≥ 0 then ((gy.f k tX tV tN tK x5 zl).bind fun t179=>((dA.f x6 t179).bind fun t180=>(some t180))) else (some false)) else (if x16=12 then ((fP.f k tX tV tN tK SQ).bind fun t181=>((dA.f x5 t181).bind fun t182=>(some t182))) else (if x16=13 then ((fP.f k tX tV tN tK SS).bind fun t183=>((dA.f x6 t183).bind fun t184=>(some t184))) else (some true)))))))))
def aY.f (k:Nat) (aZ:List ByteArray) (aU:ByteArray) (aV:ByteArray) (aI:List (iw)) (bV:Int) (gz:Int) (gX:Int) (iF:Int) (iq:Int):Option (Bool):=(dN.f k aZ aU aV aI gz).bind fun t170=>((dN.f k aZ aU aV aI gX).bind fun t171=>(if bV=5 then (aY.j0 k t170 t171 bV (bV == 5) aZ aU aV aI bV gz gX iF iq) else (aY.j0 k t170 t171 bV (bV == 6) aZ aU aV aI bV gz gX iF iq)))
theorem aY.iD:∀ k,(∀ y0 y1 y2 y3 y4 y5 y6 y7 y8 y9 Aa Hy Hw,dO (aY.j0 k y0 y1 y2 y3 y4 y5 y6 y7 y8 y9 Aa Hy Hw) (aY.j0 (k+1) y0 y1 y2 y3 y4 y5 y6 y7 y8 y9 Aa Hy Hw))
 | 0=>fun _ _ _ _ _ _ _ _ _ _ _ _ _ r h=>by simp [aY.j0] at h
 | k+1=>by
  have lS:=aY.iD k
  ·
   intro y0 y1 y2 y3 y4 y5 y6 y7 y8 y9 Aa Hy Hw
   unfold aY.j0
   repeat' with_reducible first|apply lS|apply fP.mono|apply dN.mono|apply fA.mono|apply gy.mono|exact dO.refl _|exact dO.none _|refine dO.ite ?_ ?_|refine dO.bind ?_ (fun _=>?_)
theorem aY.mono:∀ a0 a1 a2 a3 a4 a5 a6 a7 a8 k,dO (aY.f k a0 a1 a2 a3 a4 a5 a6 a7 a8) (aY.f (k+1) a0 a1 a2 a3 a4 a5 a6 a7 a8):=by
 intro a0 a1 a2 a3 a4 a5 a6 a7 a8 k
 have lS:=aY.iD k
 unfold aY.f
 repeat' with_reducible first|apply lS|apply fP.mono|apply dN.mono|apply fA.mono|apply gy.mono|exact dO.refl _|exact dO.none _|refine dO.ite ?_ ?_|refine dO.bind ?_ (fun _=>?_)
def aY.T1:Bool × List (List Nat × List Nat):=(true,[([],[]),([],[]),([1],[1]),([0,2],[0,2]),([],[]),([],[]),([5],[5]),([4,6,3],[4,6]),([3,7,0,1,2,3],[3]),([7,8,0,1,2,3,4,5,6,7,8],[7])])
def aY.B1:List Nat:=[0,0,2,7,0,0,32,127,255,511]
theorem aY.Zp:qG .any (opsOf Tryd.f30 1)=aY.T1:=by kernel_rfl
theorem aY.Rn:rO aY.T1.2 aY.B1=true:=by kernel_rfl
set_option maxHeartbeats 8000000 in
set_option maxRecDepth 100000 in
theorem aY.calls (k:Nat) (ed:Option Addr) (dZ:Nat) (aZ:List ByteArray) (aU:ByteArray) (aV:ByteArray) (gm:Option Addr) (eU:Nat) (aI:List (iw)) (bV:Int) (gz:Int) (gX:Int) (iF:Int) (iq:Int) (r:Bool) (w:World) (jO:Kd.C Kd.string w ed aZ.length aZ) (jQ:aZ.length≤dZ) (jM:Kd.C uq w gm aI.length aI) (jP:aI.length≤eU) (h:aY.f k aZ aU aV aI bV gz gX iF iq=some r) :
  Calls Tryd.prog 30 #[.agg #[.slice ed aZ.length dZ,.string aU,.string aV,.slice gm aI.length eU],.agg #[.int .u8 bV,.int .u8 gz,.int .u8 gX,.int .u8 iF,.int .i64 iq]] w fun e w'=>e=.returned (.bool r)∧Below w.heap.size w w':=by
 have yx:=Tryd.underlying25
 have BV:=Tryd.underlying55
 have iH:=ae.mk jO
 have iK:=ae.mk jQ
 clear jO jQ
 have jJ:=ae.mk jM
 have kC:=ae.mk jP
 clear jM jP
 have HB:=ae.mk (Below.refl w.heap.size w)
 have H:((dN.f k aZ aU aV aI gz).bind fun t170=>((dN.f k aZ aU aV aI gX).bind fun t171=>(if bV=5 then (aY.j0 k t170 t171 bV (bV == 5) aZ aU aV aI bV gz gX iF iq) else (aY.j0 k t170 t171 bV (bV == 6) aZ aU aV aI bV gz gX iF iq))))=some r:=h
 clear h
 replace H:=Option.bind_eq_some_iff.mp H
 obtain ⟨t170,yc,H⟩:=H
 replace H:((dN.f k aZ aU aV aI gX).bind fun t171=>(if bV=5 then (aY.j0 k t170 t171 bV (bV == 5) aZ aU aV aI bV gz gX iF iq) else (aY.j0 k t170 t171 bV (bV == 6) aZ aU aV aI bV gz gX iF iq)))=some r:=H
 have A3:=ae.mk yc
 clear yc
 replace H:=Option.bind_eq_some_iff.mp H
 obtain ⟨t171,BL,H⟩:=H
 replace H:(if bV=5 then (aY.j0 k t170 t171 bV (bV == 5) aZ aU aV aI bV gz gX iF iq) else (aY.j0 k t170 t171 bV (bV == 6) aZ aU aV aI bV gz gX iF iq))=some r:=H
 have A4:=ae.mk BL
 clear BL
 have Jk:=ae.mk H
 clear H
 go_enter Tryd.func30,Tryd.ntmps30
 try go_wp2_with (first|((with_reducible refine bI (N:=2) rfl ?_);refine fF ?hg (N:=2) ?hd (cs:=#[.slice ed aZ.length dZ,.string aU,.string aV,.slice gm aI.length eU]) (t:=25) ?hr ?_;(case hd=>rfl);(case hg=>rfl);(case hr=>first|(go_simp;done)|(go_simp;rfl));intro pO hg w6 hbox hb;have dV:=ae.mk (bn (by repeat (first|(with_reducible first|exact HB.out|apply ah|apply ag|apply ai)|exact HB.out)) hb);have dU:=ae.mk (hbox);have dR:=ae.mk ((by rw [hg];exact (bU (by repeat (first|(with_reducible first|exact HB.out|apply ah|apply ag|apply ai)|exact HB.out))):w.heap.size≤pO));have gZ:=dR;clear HB;have HB:=dV;have iM:=dU;have apP:=dR;have lZ:=gZ;clear dV dU dR gZ;clear hb hbox hg)|((with_reducible refine bI (N:=3) rfl ?_);refine fF ?hg (N:=3) ?hd (cs:=#[.int .u8 bV,.int .u8 gz,.int .u8 gX,.int .u8 iF,.int .i64 iq]) (t:=55) ?hr ?_;(case hd=>rfl);(case hg=>rfl);(case hr=>first|(go_simp;done)|(go_simp;rfl));intro qA hg w7 hbox hb;have dV:=ae.mk (bg (g:=pO) (o:=.cells #[.slice ed aZ.length dZ,.string aU,.string aV,.slice gm aI.length eU] 25 (0,0)) (by (with_reducible repeat (first|refine au ?_ _|refine ay ?_|refine ak ?_ _));exact iM.out) hb);have dU:=ae.mk (bn (by repeat (first|(with_reducible first|exact HB.out|apply ah|apply ag|apply ai|refine aj ?_ lZ.out)|exact HB.out)) hb);have dR:=ae.mk (hbox);have gZ:=ae.mk ((by rw [hg];exact (bU (by repeat (first|(with_reducible first|exact HB.out|apply ah|apply ag|apply ai|refine aj ?_ lZ.out)|exact HB.out))):w.heap.size≤qA));have l9:=gZ;have mY:=ae.mk ((by rw [hg];exact Nat.ne_of_lt (kK (g:=pO) (o:=.cells #[.slice ed aZ.length dZ,.string aU,.string aV,.slice gm aI.length eU] 25 (0,0)) (by (with_reducible repeat (first|refine au ?_ _|refine ay ?_|refine ak ?_ _));exact iM.out)):pO ≠ qA));have nY:=ae.mk mY.out.symm;clear iM;clear HB;have iM:=dV;have HB:=dU;have iL:=dR;have apO:=gZ;have mW:=l9;have oW:=mY;have oV:=nY;clear dV dU dR gZ l9 mY nY;clear hb hbox hg))
 have dV:=ae.mk (ay iM.out)
 have dU:=ae.mk (ay iL.out)
 have dR:=ae.mk (ai HB.out)
 clear iM
 clear iL
 clear HB
 have iM:=dV
 have iL:=dU
 have HB:=dR
 clear dV dU dR
 refine rf (n:=10) (S:=fun w'=>w'.cell? ⟨pO,0,none⟩=some (.slice ed aZ.length dZ)∧w'.cell? ⟨pO,1,none⟩=some (.string aU)∧w'.cell? ⟨pO,2,none⟩=some (.string aV)∧w'.cell? ⟨pO,3,none⟩=some (.slice gm aI.length eU)∧w'.cell? ⟨qA,0,none⟩=some (.int .u8 bV)∧w'.cell? ⟨qA,1,none⟩=some (.int .u8 gz)∧w'.cell? ⟨qA,2,none⟩=some (.int .u8 gX)∧w'.cell? ⟨qA,3,none⟩=some (.int .u8 iF)∧w'.cell? ⟨qA,4,none⟩=some (.int .i64 iq)) (ds:=[]) #[false,false,false,false,false,false,false,false,false,false] (by kernel_rfl) rfl rfl ⟨(ax iM.out 0).trans rfl,(ax iM.out 1).trans rfl,(ax iM.out 2).trans rfl,(ax iM.out 3).trans rfl,(ax iL.out 0).trans rfl,(ax iL.out 1).trans rfl,(ax iL.out 2).trans rfl,(ax iL.out 3).trans rfl,(ax iL.out 4).trans rfl⟩ (fun hHeld=>?_);refine qV aY.Zp aY.Rn (fun lL Cf=>?_)
 generalize w7.drew=w8 at iM iL HB hHeld ⊢
 refine iy (i:=1) (N:=some 8) (v:=?_) (a':=?_) #[false,true,false,false,false,false,false,false,false,false] rfl rfl (iO lL.out (by kernel_rfl)) (fun _ _ _ h=>h) (Or.inl ⟨by rfl,?_⟩) ?_ ?_
 rotate_left
 ·
  intro w'
  go_simp
  with_reducible rfl
 rotate_left
 ·
  simp only [Act.put,List.setIfInBounds_toArray,List.set_cons_zero,List.set_cons_succ,bW,cu]
  rfl
 refine iy (i:=5) (N:=some 12) (v:=?_) (a':=?_) #[false,true,false,false,false,true,false,false,false,false] rfl rfl (iO lL.out (by kernel_rfl)) (fun _ _ _ h=>h) (Or.inl ⟨by rfl,?_⟩) ?_ ?_
 rotate_left
 ·
  intro w'
  go_simp
  with_reducible rfl
 rotate_left
 ·
  simp only [Act.put,List.setIfInBounds_toArray,List.set_cons_zero,List.set_cons_succ,bW,cu]
  rfl
 refine kU (i:=0) (N:=some 7) (v:=?_) (a':=?_) #[true,true,false,false,false,true,false,false,false,false] rfl rfl (kQ lL.out Cf.out (by kernel_rfl)) (fun _ _ _ h=>h) (Or.inl ⟨by rfl,?_⟩) hHeld ?_ ?_
 rotate_left
 ·
  rintro w' ⟨s0,s1,s2,s3,s4,s5,s6,s7,s8⟩
  go_simp
  with_reducible rfl
 rotate_left
 ·
  simp only [Act.put,List.setIfInBounds_toArray,List.set_cons_zero,List.set_cons_succ,bW,cu]
  rfl
 refine kU (i:=2) (N:=some 9) (v:=?_) (a':=?_) #[true,true,true,false,false,true,false,false,false,false] rfl rfl (kQ lL.out Cf.out (by kernel_rfl)) (fun _ _ _ h=>h) (Or.inl ⟨by rfl,?_⟩) hHeld ?_ ?_
 rotate_left
 ·
  rintro w' ⟨s0,s1,s2,s3,s4,s5,s6,s7,s8⟩
  go_simp
  with_reducible rfl
 rotate_left
 ·
  simp only [Act.put,List.setIfInBounds_toArray,List.set_cons_zero,List.set_cons_succ,bW,cu]
  rfl
 refine kU (i:=4) (N:=some 11) (v:=?_) (a':=?_) #[true,true,true,false,true,true,false,false,false,false] rfl rfl (kQ lL.out Cf.out (by kernel_rfl)) (fun _ _ _ h=>h) (Or.inl ⟨by rfl,?_⟩) hHeld ?_ ?_
 rotate_left
 ·
  rintro w' ⟨s0,s1,s2,s3,s4,s5,s6,s7,s8⟩
  go_simp
  with_reducible rfl
 rotate_left
 ·
  simp only [Act.put,List.setIfInBounds_toArray,List.set_cons_zero,List.set_cons_succ,bW,cu]
  rfl
 refine kU (i:=6) (N:=some 13) (v:=?_) (a':=?_) #[true,true,true,false,true,true,true,false,false,false] rfl rfl (kQ lL.out Cf.out (by kernel_rfl)) (fun _ _ _ h=>h) (Or.inl ⟨by rfl,?_⟩) hHeld ?_ ?_
 rotate_left
 ·
  rintro w' ⟨s0,s1,s2,s3,s4,s5,s6,s7,s8⟩
  go_simp
  with_reducible rfl
 rotate_left
 ·
  simp only [Act.put,List.setIfInBounds_toArray,List.set_cons_zero,List.set_cons_succ,bW,cu]
  rfl
 refine o6 (i:=3) (N:=some 10) #[true,true,true,true,true,true,true,false,false,false] rfl rfl (nJ lL.out (by kernel_rfl)) (by decide) (fun K hK=>?_)
 refine qy Tryd.func19 (by kernel_rfl) rfl #[.agg #[.slice ed aZ.length dZ,.string aU,.string aV,.slice gm aI.length eU],.int .u8 gz] (by rfl) rfl rfl (by (try simp only [List.map_toArray,List.map_cons,List.map_nil]);first|done|rfl|(simp only [List.length_drop,List.length_take];rfl)) ?_
 with_reducible refine (dN.calls k _ _ aZ aU aV _ _ aI gz t170 _ ?bZ ?dh ?iW ?iV A3.out).mono ?_
 (case bZ=>repeat (first|exact (Kd.bJ iH.out HB.out)|(with_reducible refine Kd.bP ?_ _)|(with_reducible refine Kd.bQ ?_ _)|(with_reducible refine Kd.dD ?_)))
 (case dh=>exact iK.out)
 (case iW=>repeat (first|exact (Kd.bJ jJ.out HB.out)|(with_reducible refine Kd.bP ?_ _)|(with_reducible refine Kd.bQ ?_ _)|(with_reducible refine Kd.dD ?_)))
 (case iV=>exact kC.out)
 rintro e w9 ⟨rfl,hb⟩
 refine ⟨_,rfl,?_⟩
 have dV:=ae.mk (bg (g:=pO) (o:=.cells #[.slice ed aZ.length dZ,.string aU,.string aV,.slice gm aI.length eU] 25 (0,0)) (by (with_reducible repeat (first|refine au ?_ _|refine ay ?_|refine ak ?_ _));exact iM.out) hb)
 have dU:=ae.mk (bg (g:=qA) (o:=.cells #[.int .u8 bV,.int .u8 gz,.int .u8 gX,.int .u8 iF,.int .i64 iq] 55 (0,0)) (by (with_reducible repeat (first|refine au ?_ _|refine ay ?_|refine ak ?_ _));exact iL.out) hb)
 have dR:=ae.mk (bn (by repeat (first|(with_reducible first|exact HB.out|apply ah|apply ag|apply ai|refine aj ?_ lZ.out|refine aj ?_ mW.out)|exact HB.out)) hb)
 clear iM
 clear iL
 clear HB
 have iM:=dV
 have iL:=dU
 have HB:=dR
 clear dV dU dR
 (try clear hb)
 (try clear hb2)
 (try clear hk)
 (try clear hi)
 refine hK.out _ _ ⟨(ax iM.out 0).trans rfl,(ax iM.out 1).trans rfl,(ax iM.out 2).trans rfl,(ax iM.out 3).trans rfl,(ax iL.out 0).trans rfl,(ax iL.out 1).trans rfl,(ax iL.out 2).trans rfl,(ax iL.out 3).trans rfl,(ax iL.out 4).trans rfl⟩ (fun hHeld=>?_)
 clear hK K
 refine ji (a':=?_) ?_ ?_
 rotate_left
 ·
  show Act.put _ (some 10) _=_
  simp only [Act.put,List.setIfInBounds_toArray,List.set_cons_zero,List.set_cons_succ,bW,cu]
  rfl
 refine o6 (i:=7) (N:=some 14) #[true,true,true,true,true,true,true,true,false,false] rfl rfl (nJ lL.out (by kernel_rfl)) (by decide) (fun K hK=>?_)
 refine qy Tryd.func19 (by kernel_rfl) rfl #[.agg #[.slice ed aZ.length dZ,.string aU,.string aV,.slice gm aI.length eU],.int .u8 gX] (by rfl) rfl rfl (by (try simp only [List.map_toArray,List.map_cons,List.map_nil]);first|done|rfl|(simp only [List.length_drop,List.length_take];rfl)) ?_
 with_reducible refine (dN.calls k _ _ aZ aU aV _ _ aI gX t171 _ ?bZ ?dh ?iW ?iV A4.out).mono ?_
 (case bZ=>repeat (first|exact (Kd.bJ iH.out HB.out)|(with_reducible refine Kd.bP ?_ _)|(with_reducible refine Kd.bQ ?_ _)|(with_reducible refine Kd.dD ?_)))
 (case dh=>exact iK.out)
 (case iW=>repeat (first|exact (Kd.bJ jJ.out HB.out)|(with_reducible refine Kd.bP ?_ _)|(with_reducible refine Kd.bQ ?_ _)|(with_reducible refine Kd.dD ?_)))
 (case iV=>exact kC.out)
 rintro e w10 ⟨rfl,hb⟩
 refine ⟨_,rfl,?_⟩
 have dV:=ae.mk (bg (g:=pO) (o:=.cells #[.slice ed aZ.length dZ,.string aU,.string aV,.slice gm aI.length eU] 25 (0,0)) (by (with_reducible repeat (first|refine au ?_ _|refine ay ?_|refine ak ?_ _));exact iM.out) hb)
 have dU:=ae.mk (bg (g:=qA) (o:=.cells #[.int .u8 bV,.int .u8 gz,.int .u8 gX,.int .u8 iF,.int .i64 iq] 55 (0,0)) (by (with_reducible repeat (first|refine au ?_ _|refine ay ?_|refine ak ?_ _));exact iL.out) hb)
 have dR:=ae.mk (bn (by repeat (first|(with_reducible first|exact HB.out|apply ah|apply ag|apply ai|refine aj ?_ lZ.out|refine aj ?_ mW.out)|exact HB.out)) hb)
 clear iM
 clear iL
 clear HB
 have iM:=dV
 have iL:=dU
 have HB:=dR
 clear dV dU dR
 (try clear hb)
 (try clear hb2)
 (try clear hk)
 (try clear hi)
 refine hK.out _ _ ⟨(ax iM.out 0).trans rfl,(ax iM.out 1).trans rfl,(ax iM.out 2).trans rfl,(ax iM.out 3).trans rfl,(ax iL.out 0).trans rfl,(ax iL.out 1).trans rfl,(ax iL.out 2).trans rfl,(ax iL.out 3).trans rfl,(ax iL.out 4).trans rfl⟩ (fun hHeld=>?_)
 clear hK K
 refine ji (a':=?_) ?_ ?_
 rotate_left
 ·
  show Act.put _ (some 14) _=_
  simp only [Act.put,List.setIfInBounds_toArray,List.set_cons_zero,List.set_cons_succ,bW,cu]
  rfl
 refine iy (i:=8) (N:=some 5) (v:=?_) (a':=?_) #[true,true,true,true,true,true,true,true,true,false] rfl rfl (iO lL.out (by kernel_rfl)) (fun _ _ _ h=>h) (Or.inl ⟨by rfl,?_⟩) ?_ ?_
 rotate_left
 ·
  intro w'
  go_simp
  with_reducible rfl
 rotate_left
 ·
  simp only [Act.put,List.setIfInBounds_toArray,List.set_cons_zero,List.set_cons_succ,bW,cu]
  rfl
 refine iy (i:=9) (N:=some 6) (v:=?_) (a':=?_) #[true,true,true,true,true,true,true,true,true,true] rfl rfl (iO lL.out (by kernel_rfl)) (fun _ _ _ h=>h) (Or.inl ⟨by rfl,?_⟩) ?_ ?_
 rotate_left
 ·
  intro w'
  go_simp
  with_reducible rfl
 rotate_left
 ·
  simp only [Act.put,List.setIfInBounds_toArray,List.set_cons_zero,List.set_cons_succ,bW,cu]
  rfl
 refine uQ (wB lL.out (by kernel_rfl)) ?_
 have acE:=oV.out
 have acu:=oW.out
 obtain ⟨EL,EK,EJ,EI,XA,EC,Ez,Ey,Ew,VK⟩:=jZ iL.out
 go_upto_if 17 with (fail)
 go_cut [17] (fun v17 wc=>∃ (kq:Nat) (Ju:Bool),v17=.bool Ju∧ae (aY.j0 kq t170 t171 bV Ju aZ aU aV aI bV gz gX iF iq=some r)∧ae (kq≤k)∧ae (wc.heap[pO]? = some (.cells #[(.slice ed aZ.length dZ),.string aU,.string aV,(.slice gm aI.length eU)] 25 (0,0)))∧ae (wc.heap[qA]? = some (.cells #[.int .u8 bV,.int .u8 gz,.int .u8 gX,.int .u8 iF,.int .i64 iq] 55 (0,0)))∧ae (Below w.heap.size w wc))
 case first =>
  have H:=Jk.out
  clear Jk
  by_cases c13:bV=5
  ·
   rw [if_pos c13] at H
   have mQ:(bV == 5)=true:=beq_iff_eq.mpr c13
   have xU:(bV != 5)=false:=bne_eq_false_iff_eq.mpr c13
   clear c13
   (first|rw [mQ]|(simp only [bW,cu];rw [mQ])|skip)
   have H':=ae.mk H
   clear H
   go_wp2
   go_meet
   case rel=>exact ⟨_,((bV == 5)),(by first|rfl|(simp;done)|(simp [*];done)),H',⟨by first|omega|exact Nat.le_refl _⟩,⟨by (with_reducible repeat (first|refine au ?_ _|refine ay ?_|refine ak ?_ _));exact iM.out⟩,⟨by (with_reducible repeat (first|refine au ?_ _|refine ay ?_|refine ak ?_ _));exact iL.out⟩,⟨by repeat (first|(with_reducible first|exact HB.out|apply ah|apply ag|apply ai|refine aj ?_ lZ.out|refine aj ?_ mW.out)|exact HB.out)⟩⟩
  ·
   rw [if_neg c13] at H
   have mQ:(bV == 5)=false:=beq_eq_false_iff_ne.mpr c13
   have xU:(bV != 5)=true:=bne_iff_ne.mpr c13
   (first|rw [mQ]|(simp only [bW,cu];rw [mQ])|skip)
   have H':=ae.mk H
   clear H
   go_wp2
   go_meet
   case rel=>exact ⟨_,((bV == 6)),(by first|rfl|(simp;done)|(simp [*];done)),H',⟨by first|omega|exact Nat.le_refl _⟩,⟨by (with_reducible repeat (first|refine au ?_ _|refine ay ?_|refine ak ?_ _));exact iM.out⟩,⟨by (with_reducible repeat (first|refine au ?_ _|refine ay ?_|refine ak ?_ _));exact iL.out⟩,⟨by repeat (first|(with_reducible first|exact HB.out|apply ah|apply ag|apply ai|refine aj ?_ lZ.out|refine aj ?_ mW.out)|exact HB.out)⟩⟩
 case rest =>
  clear Jk
  obtain ⟨kq,Ju,rfl,HA,Jj,iM,iL,HB⟩:=hcut
  cases kq with
  | zero=>exact absurd HA.out (by simp [aY.j0])
  | succ vK =>
   have H:=HA.out
   clear HA
   simp only [aY.j0] at H
   by_cases c14:Ju=true
   ·
    subst c14
    have H1:(some (decide (t170 ≥ 0)))=some r:=by rw [if_pos rfl] at H;exact H
    clear H
    have H:=H1
    clear H1
    obtain rfl:=Option.some.inj H
    go_wp2
    go_ret
    exact ⟨by first|rfl|(simp [aQ,aN] <;> rfl)|(simp [*,aQ,aN] <;> rfl),by repeat (first|(with_reducible first|exact HB.out|apply ah|apply ag|apply ai|refine aj ?_ lZ.out|refine aj ?_ mW.out)|exact HB.out)⟩
   ·
    replace c14:=Bool.eq_false_iff.mpr c14
    subst c14
    have H1:(if bV=7 then ((dA.f t170 t171).bind fun t172=>(some t172)) else (if bV=15 then ((dN.f vK aZ aU aV aI iF).bind fun t173=>((dA.f t171 t173).bind fun t174=>(some t174))) else (if bV=8 then (if t171 ≥ 0 then ((fA.f vK aZ aU aV aI t171 iq).bind fun t175=>(some t175)) else (some false)) else (if bV=9 then (if t170 ≥ 0 then ((fA.f vK aZ aU aV aI t170 iq).bind fun t176=>(some t176)) else (some false)) else (if bV=10 then (if t171 ≥ 0 then ((gy.f vK aZ aU aV aI t171 iq).bind fun t177=>((dA.f t170 t177).bind fun t178=>(some t178))) else (some false)) else (if bV=11 then (if t170 ≥ 0 then ((gy.f vK aZ aU aV aI t170 iq).bind fun t179=>((dA.f t171 t179).bind fun t180=>(some t180))) else (some false)) else (if bV=12 then ((fP.f vK aZ aU aV aI gX).bind fun t181=>((dA.f t170 t181).bind fun t182=>(some t182))) else (if bV=13 then ((fP.f vK aZ aU aV aI gz).bind fun t183=>((dA.f t171 t183).bind fun t184=>(some t184))) else (some true)))))))))=some r:=by rw [if_neg (show ¬ (false=true) by decide)] at H;exact H
    clear H
    have H:=H1
    clear H1
    by_cases c15:bV=7
    ·
     rw [if_pos c15] at H
     have qK:(bV == 7)=true:=beq_iff_eq.mpr c15
     have GV:(bV != 7)=false:=bne_eq_false_iff_eq.mpr c15
     clear c15
     replace H:=Option.bind_eq_some_iff.mp H
     obtain ⟨t172,Hq,H⟩:=H
     replace H:(some t172)=some r:=H
     have A16:=ae.mk Hq
     clear Hq
     obtain rfl:=Option.some.inj H
     go_wp2_with (first|((with_reducible refine bz (f:=48) rfl ?_);refine dS (some 26) rfl rfl Tryd.func48 (by kernel_rfl) rfl #[.int .i64 t170,.int .i64 t171] rfl (by (try simp only [List.map_toArray,List.map_cons,List.map_nil]);first|done|rfl|(simp only [List.length_drop,List.length_take];rfl)) ?_;(with_reducible refine (dA.calls t170 t171 t172 _ A16.out).mono ?_);rintro e w' ⟨rfl,⟨nd,rfl⟩⟩;refine ⟨_,rfl,?_⟩))
     go_ret
     exact ⟨by first|rfl|(simp [aQ,aN] <;> rfl)|(simp [*,aQ,aN] <;> rfl),by repeat (first|(with_reducible first|exact HB.out|apply ah|apply ag|apply ai|refine aj ?_ lZ.out|refine aj ?_ mW.out)|exact HB.out)⟩
    ·
     rw [if_neg c15] at H
     have qK:(bV == 7)=false:=beq_eq_false_iff_ne.mpr c15
     have GV:(bV != 7)=true:=bne_iff_ne.mpr c15
     by_cases c17:bV=15
     ·
      rw [if_pos c17] at H
      have yQ:(bV == 15)=true:=beq_iff_eq.mpr c17
      have GU:(bV != 15)=false:=bne_eq_false_iff_eq.mpr c17
      clear c17
      replace H:=Option.bind_eq_some_iff.mp H
      obtain ⟨t173,afT,H⟩:=H
      replace H:((dA.f t171 t173).bind fun t174=>(some t174))=some r:=H
      have A18:=ae.mk afT
      clear afT
      replace H:=Option.bind_eq_some_iff.mp H
      obtain ⟨t174,Ho,H⟩:=H
      replace H:(some t174)=some r:=H
      have Sv:=ae.mk Ho
      clear Ho
      obtain rfl:=Option.some.inj H
      have aoF:=oW.out
      have aoe:=oV.out
      obtain ⟨Xk,Xj,Xi,Xh,Vu,Vt,Vs,Vr⟩:=rJ iM.out
      obtain ⟨LY,LX,LW,LV,alo,KP,KO,KN,KL,ai8⟩:=jZ iL.out
      go_wp2_with (first|((with_reducible refine bz (f:=19) rfl ?_);refine dS (some 33) rfl rfl Tryd.func19 (by kernel_rfl) rfl #[.agg #[.slice ed aZ.length dZ,.string aU,.string aV,.slice gm aI.length eU],.int .u8 iF] rfl (by (try simp only [List.map_toArray,List.map_cons,List.map_nil]);first|done|rfl|(simp only [List.length_drop,List.length_take];rfl)) ?_;(with_reducible refine (dN.calls vK _ _ aZ aU aV _ _ aI iF t173 _ ?bZ ?dh ?iW ?iV A18.out).mono ?_);(case bZ=>repeat (first|exact (Kd.bJ iH.out HB.out)|(with_reducible refine Kd.bP ?_ _)|(with_reducible refine Kd.bQ ?_ _)|(with_reducible refine Kd.dD ?_)));(case dh=>exact iK.out);(case iW=>repeat (first|exact (Kd.bJ jJ.out HB.out)|(with_reducible refine Kd.bP ?_ _)|(with_reducible refine Kd.bQ ?_ _)|(with_reducible refine Kd.dD ?_)));(case iV=>exact kC.out);rintro e w23 ⟨rfl,hb⟩;refine ⟨_,rfl,?_⟩;have dV:=ae.mk (bg (g:=pO) (o:=.cells #[.slice ed aZ.length dZ,.string aU,.string aV,.slice gm aI.length eU] 25 (0,0)) (by (with_reducible repeat (first|refine au ?_ _|refine ay ?_|refine ak ?_ _));exact iM.out) hb);have dU:=ae.mk (bg (g:=qA) (o:=.cells #[.int .u8 bV,.int .u8 gz,.int .u8 gX,.int .u8 iF,.int .i64 iq] 55 (0,0)) (by (with_reducible repeat (first|refine au ?_ _|refine ay ?_|refine ak ?_ _));exact iL.out) hb);have dR:=ae.mk (bn (by repeat (first|(with_reducible first|exact HB.out|apply ah|apply ag|apply ai|refine aj ?_ lZ.out|refine aj ?_ mW.out)|exact HB.out)) hb);clear iM;clear iL;clear HB;have iM:=dV;have iL:=dU;have HB:=dR;clear dV dU dR;(try clear hb);(try clear hb2);(try clear hk);(try clear hi))|((with_reducible refine bz (f:=48) rfl ?_);refine dS (some 34) rfl rfl Tryd.func48 (by kernel_rfl) rfl #[.int .i64 t171,.int .i64 t173] rfl (by (try simp only [List.map_toArray,List.map_cons,List.map_nil]);first|done|rfl|(simp only [List.length_drop,List.length_take];rfl)) ?_;(with_reducible refine (dA.calls t171 t173 t174 _ Sv.out).mono ?_);rintro e w' ⟨rfl,⟨nd,rfl⟩⟩;refine ⟨_,rfl,?_⟩))
      go_ret
      exact ⟨by first|rfl|(simp [aQ,aN] <;> rfl)|(simp [*,aQ,aN] <;> rfl),by repeat (first|(with_reducible first|exact HB.out|apply ah|apply ag|apply ai|refine aj ?_ lZ.out|refine aj ?_ mW.out)|exact HB.out)⟩
     ·
      rw [if_neg c17] at H
      have yQ:(bV == 15)=false:=beq_eq_false_iff_ne.mpr c17
      have GU:(bV != 15)=true:=bne_iff_ne.mpr c17
      by_cases c24:bV=8
      ·
       rw [if_pos c24] at H
       have aev:(bV == 8)=true:=beq_iff_eq.mpr c24
       have aeu:(bV != 8)=false:=bne_eq_false_iff_eq.mpr c24
       clear c24
       by_cases c25:t171 ≥ 0
       ·
        rw [if_pos c25] at H
        have aet:decide (0≤t171)=true:=decide_eq_true c25
        clear c25
        replace H:=Option.bind_eq_some_iff.mp H
        obtain ⟨t175,afR,H⟩:=H
        replace H:(some t175)=some r:=H
        have A26:=ae.mk afR
        clear afR
        obtain rfl:=Option.some.inj H
        have acB:=oW.out
        have acp:=oV.out
        obtain ⟨LU,LQ,LP,LM,KJ,KI,KH,KG⟩:=rJ iM.out
        obtain ⟨Xa,W9,WZ,WY,WX,Vj,Vh,Vg,Vf,Ve⟩:=jZ iL.out
        go_wp2_with (first|(go_at_call 49;(with_reducible refine (fA.calls vK _ _ aZ aU aV _ _ aI t171 iq t175 _ ?bZ ?dh ?iW ?iV A26.out).mono ?_);(case bZ=>repeat (first|exact (Kd.bJ iH.out HB.out)|(with_reducible refine Kd.bP ?_ _)|(with_reducible refine Kd.bQ ?_ _)|(with_reducible refine Kd.dD ?_)));(case dh=>exact iK.out);(case iW=>repeat (first|exact (Kd.bJ jJ.out HB.out)|(with_reducible refine Kd.bP ?_ _)|(with_reducible refine Kd.bQ ?_ _)|(with_reducible refine Kd.dD ?_)));(case iV=>exact kC.out);rintro e w30 ⟨rfl,hb⟩;have dV:=ae.mk (bg (g:=pO) (o:=.cells #[.slice ed aZ.length dZ,.string aU,.string aV,.slice gm aI.length eU] 25 (0,0)) (by (with_reducible repeat (first|refine au ?_ _|refine ay ?_|refine ak ?_ _));exact iM.out) hb);have dU:=ae.mk (bg (g:=qA) (o:=.cells #[.int .u8 bV,.int .u8 gz,.int .u8 gX,.int .u8 iF,.int .i64 iq] 55 (0,0)) (by (with_reducible repeat (first|refine au ?_ _|refine ay ?_|refine ak ?_ _));exact iL.out) hb);have dR:=ae.mk (bn (by repeat (first|(with_reducible first|exact HB.out|apply ah|apply ag|apply ai|refine aj ?_ lZ.out|refine aj ?_ mW.out)|exact HB.out)) hb);clear iM;clear iL;clear HB;have iM:=dV;have iL:=dU;have HB:=dR;clear dV dU dR;(try clear hb);(try clear hb2);(try clear hk);(try clear hi)))
        go_ret
        exact ⟨by first|rfl|(simp [aQ,aN] <;> rfl)|(simp [*,aQ,aN] <;> rfl),by repeat (first|(with_reducible first|exact HB.out|apply ah|apply ag|apply ai|refine aj ?_ lZ.out|refine aj ?_ mW.out)|exact HB.out)⟩
       ·
        rw [if_neg c25] at H
        have aet:decide (0≤t171)=false:=decide_eq_false c25
        clear c25
        obtain rfl:=Option.some.inj H
        go_wp2
        go_ret
        exact ⟨by first|rfl|(simp [aQ,aN] <;> rfl)|(simp [*,aQ,aN] <;> rfl),by repeat (first|(with_reducible first|exact HB.out|apply ah|apply ag|apply ai|refine aj ?_ lZ.out|refine aj ?_ mW.out)|exact HB.out)⟩
      ·
       rw [if_neg c24] at H
       have aev:(bV == 8)=false:=beq_eq_false_iff_ne.mpr c24
       have aeu:(bV != 8)=true:=bne_iff_ne.mpr c24
       by_cases c31:bV=9
       ·
        rw [if_pos c31] at H
        have aeq:(bV == 9)=true:=beq_iff_eq.mpr c31
        have aep:(bV != 9)=false:=bne_eq_false_iff_eq.mpr c31
        clear c31
        by_cases c32:t170 ≥ 0
        ·
         rw [if_pos c32] at H
         have Q8:decide (0≤t170)=true:=decide_eq_true c32
         clear c32
         replace H:=Option.bind_eq_some_iff.mp H
         obtain ⟨t176,Sr,H⟩:=H
         replace H:(some t176)=some r:=H
         have A33:=ae.mk Sr
         clear Sr
         obtain rfl:=Option.some.inj H
         have Yv:=oW.out
         have Yt:=oV.out
         obtain ⟨LK,LJ,LH,LG,KF,KE,KD,KC⟩:=rJ iM.out
         obtain ⟨WV,WU,WT,WS,WR,Vb,Va,U9,U8,U7⟩:=jZ iL.out
         go_wp2_with (first|(go_at_call 49;(with_reducible refine (fA.calls vK _ _ aZ aU aV _ _ aI t170 iq t176 _ ?bZ ?dh ?iW ?iV A33.out).mono ?_);(case bZ=>repeat (first|exact (Kd.bJ iH.out HB.out)|(with_reducible refine Kd.bP ?_ _)|(with_reducible refine Kd.bQ ?_ _)|(with_reducible refine Kd.dD ?_)));(case dh=>exact iK.out);(case iW=>repeat (first|exact (Kd.bJ jJ.out HB.out)|(with_reducible refine Kd.bP ?_ _)|(with_reducible refine Kd.bQ ?_ _)|(with_reducible refine Kd.dD ?_)));(case iV=>exact kC.out);rintro e w37 ⟨rfl,hb⟩;have dV:=ae.mk (bg (g:=pO) (o:=.cells #[.slice ed aZ.length dZ,.string aU,.string aV,.slice gm aI.length eU] 25 (0,0)) (by (with_reducible repeat (first|refine au ?_ _|refine ay ?_|refine ak ?_ _));exact iM.out) hb);have dU:=ae.mk (bg (g:=qA) (o:=.cells #[.int .u8 bV,.int .u8 gz,.int .u8 gX,.int .u8 iF,.int .i64 iq] 55 (0,0)) (by (with_reducible repeat (first|refine au ?_ _|refine ay ?_|refine ak ?_ _));exact iL.out) hb);have dR:=ae.mk (bn (by repeat (first|(with_reducible first|exact HB.out|apply ah|apply ag|apply ai|refine aj ?_ lZ.out|refine aj ?_ mW.out)|exact HB.out)) hb);clear iM;clear iL;clear HB;have iM:=dV;have iL:=dU;have HB:=dR;clear dV dU dR;(try clear hb);(try clear hb2);(try clear hk);(try clear hi)))
         go_ret
         exact ⟨by first|rfl|(simp [aQ,aN] <;> rfl)|(simp [*,aQ,aN] <;> rfl),by repeat (first|(with_reducible first|exact HB.out|apply ah|apply ag|apply ai|refine aj ?_ lZ.out|refine aj ?_ mW.out)|exact HB.out)⟩
        ·
         rw [if_neg c32] at H
         have Q8:decide (0≤t170)=false:=decide_eq_false c32
         clear c32
         obtain rfl:=Option.some.inj H
         go_wp2
         go_ret
         exact ⟨by first|rfl|(simp [aQ,aN] <;> rfl)|(simp [*,aQ,aN] <;> rfl),by repeat (first|(with_reducible first|exact HB.out|apply ah|apply ag|apply ai|refine aj ?_ lZ.out|refine aj ?_ mW.out)|exact HB.out)⟩
       ·
        rw [if_neg c31] at H
        have aeq:(bV == 9)=false:=beq_eq_false_iff_ne.mpr c31
        have aep:(bV != 9)=true:=bne_iff_ne.mpr c31
        by_cases MN:bV=10
        ·
         rw [if_pos MN] at H
         have Bl:(bV == 10)=true:=beq_iff_eq.mpr MN
         have aek:(bV != 10)=false:=bne_eq_false_iff_eq.mpr MN
         clear MN
         by_cases c39:t171 ≥ 0
         ·
          rw [if_pos c39] at H
          have aej:decide (0≤t171)=true:=decide_eq_true c39
          clear c39
          replace H:=Option.bind_eq_some_iff.mp H
          obtain ⟨t177,afN,H⟩:=H
          replace H:((dA.f t170 t177).bind fun t178=>(some t178))=some r:=H
          have BL:=ae.mk afN
          clear afN
          replace H:=Option.bind_eq_some_iff.mp H
          obtain ⟨t178,afM,H⟩:=H
          replace H:(some t178)=some r:=H
          have A41:=ae.mk afM
          clear afM
          obtain rfl:=Option.some.inj H
          have aos:=oW.out
          have an1:=oV.out
          obtain ⟨LD,LC,Lu,Lt,KA,Kz,Ky,Kw⟩:=rJ iM.out
          obtain ⟨WL,WI,WH,WG,WE,U2,U1,U0,UZ,UY⟩:=jZ iL.out
          go_wp2_with (first|(go_at_call 50;(with_reducible refine (gy.calls vK _ _ aZ aU aV _ _ aI t171 iq t177 _ ?bZ ?dh ?iW ?iV BL.out).mono ?_);(case bZ=>repeat (first|exact (Kd.bJ iH.out HB.out)|(with_reducible refine Kd.bP ?_ _)|(with_reducible refine Kd.bQ ?_ _)|(with_reducible refine Kd.dD ?_)));(case dh=>exact iK.out);(case iW=>repeat (first|exact (Kd.bJ jJ.out HB.out)|(with_reducible refine Kd.bP ?_ _)|(with_reducible refine Kd.bQ ?_ _)|(with_reducible refine Kd.dD ?_)));(case iV=>exact kC.out);rintro e w45 ⟨rfl,hb⟩;have dV:=ae.mk (bg (g:=pO) (o:=.cells #[.slice ed aZ.length dZ,.string aU,.string aV,.slice gm aI.length eU] 25 (0,0)) (by (with_reducible repeat (first|refine au ?_ _|refine ay ?_|refine ak ?_ _));exact iM.out) hb);have dU:=ae.mk (bg (g:=qA) (o:=.cells #[.int .u8 bV,.int .u8 gz,.int .u8 gX,.int .u8 iF,.int .i64 iq] 55 (0,0)) (by (with_reducible repeat (first|refine au ?_ _|refine ay ?_|refine ak ?_ _));exact iL.out) hb);have dR:=ae.mk (bn (by repeat (first|(with_reducible first|exact HB.out|apply ah|apply ag|apply ai|refine aj ?_ lZ.out|refine aj ?_ mW.out)|exact HB.out)) hb);clear iM;clear iL;clear HB;have iM:=dV;have iL:=dU;have HB:=dR;clear dV dU dR;(try clear hb);(try clear hb2);(try clear hk);(try clear hi))|(go_at_call 48;(with_reducible refine (dA.calls t170 t177 t178 _ A41.out).mono ?_);rintro e w' ⟨rfl,⟨nd,rfl⟩⟩))
          go_ret
          exact ⟨by first|rfl|(simp [aQ,aN] <;> rfl)|(simp [*,aQ,aN] <;> rfl),by repeat (first|(with_reducible first|exact HB.out|apply ah|apply ag|apply ai|refine aj ?_ lZ.out|refine aj ?_ mW.out)|exact HB.out)⟩
         ·
          rw [if_neg c39] at H
          have aej:decide (0≤t171)=false:=decide_eq_false c39
          clear c39
          obtain rfl:=Option.some.inj H
          go_wp2
          go_ret
          exact ⟨by first|rfl|(simp [aQ,aN] <;> rfl)|(simp [*,aQ,aN] <;> rfl),by repeat (first|(with_reducible first|exact HB.out|apply ah|apply ag|apply ai|refine aj ?_ lZ.out|refine aj ?_ mW.out)|exact HB.out)⟩
        ·
         rw [if_neg MN] at H
         have Bl:(bV == 10)=false:=beq_eq_false_iff_ne.mpr MN
         have aek:(bV != 10)=true:=bne_iff_ne.mpr MN
         by_cases c46:bV=11
         ·
          rw [if_pos c46] at H
          have aei:(bV == 11)=true:=beq_iff_eq.mpr c46
          have aeh:(bV != 11)=false:=bne_eq_false_iff_eq.mpr c46
          clear c46
          by_cases c47:t170 ≥ 0
          ·
           rw [if_pos c47] at H
           have aeg:decide (0≤t170)=true:=decide_eq_true c47
           clear c47
           replace H:=Option.bind_eq_some_iff.mp H
           obtain ⟨t179,afI,H⟩:=H
           replace H:((dA.f t171 t179).bind fun t180=>(some t180))=some r:=H
           have A48:=ae.mk afI
           clear afI
           replace H:=Option.bind_eq_some_iff.mp H
           obtain ⟨t180,afH,H⟩:=H
           replace H:(some t180)=some r:=H
           have A49:=ae.mk afH
           clear afH
           obtain rfl:=Option.some.inj H
           have aor:=oW.out
           have an0:=oV.out
           obtain ⟨Wx,Wv,Wu,Ws,UR,UQ,UO,UN⟩:=rJ iM.out
           obtain ⟨Wq,Wp,Wn,Wl,akx,UM,UL,UK,UJ,aii⟩:=jZ iL.out
           go_wp2_with (first|(go_at_call 50;(with_reducible refine (gy.calls vK _ _ aZ aU aV _ _ aI t170 iq t179 _ ?bZ ?dh ?iW ?iV A48.out).mono ?_);(case bZ=>repeat (first|exact (Kd.bJ iH.out HB.out)|(with_reducible refine Kd.bP ?_ _)|(with_reducible refine Kd.bQ ?_ _)|(with_reducible refine Kd.dD ?_)));(case dh=>exact iK.out);(case iW=>repeat (first|exact (Kd.bJ jJ.out HB.out)|(with_reducible refine Kd.bP ?_ _)|(with_reducible refine Kd.bQ ?_ _)|(with_reducible refine Kd.dD ?_)));(case iV=>exact kC.out);rintro e w53 ⟨rfl,hb⟩;have dV:=ae.mk (bg (g:=pO) (o:=.cells #[.slice ed aZ.length dZ,.string aU,.string aV,.slice gm aI.length eU] 25 (0,0)) (by (with_reducible repeat (first|refine au ?_ _|refine ay ?_|refine ak ?_ _));exact iM.out) hb);have dU:=ae.mk (bg (g:=qA) (o:=.cells #[.int .u8 bV,.int .u8 gz,.int .u8 gX,.int .u8 iF,.int .i64 iq] 55 (0,0)) (by (with_reducible repeat (first|refine au ?_ _|refine ay ?_|refine ak ?_ _));exact iL.out) hb);have dR:=ae.mk (bn (by repeat (first|(with_reducible first|exact HB.out|apply ah|apply ag|apply ai|refine aj ?_ lZ.out|refine aj ?_ mW.out)|exact HB.out)) hb);clear iM;clear iL;clear HB;have iM:=dV;have iL:=dU;have HB:=dR;clear dV dU dR;(try clear hb);(try clear hb2);(try clear hk);(try clear hi))|(go_at_call 48;(with_reducible refine (dA.calls t171 t179 t180 _ A49.out).mono ?_);rintro e w' ⟨rfl,⟨nd,rfl⟩⟩))
           go_ret
           exact ⟨by first|rfl|(simp [aQ,aN] <;> rfl)|(simp [*,aQ,aN] <;> rfl),by repeat (first|(with_reducible first|exact HB.out|apply ah|apply ag|apply ai|refine aj ?_ lZ.out|refine aj ?_ mW.out)|exact HB.out)⟩
          ·
           rw [if_neg c47] at H
           have aeg:decide (0≤t170)=false:=decide_eq_false c47
           clear c47
           obtain rfl:=Option.some.inj H
           go_wp2
           go_ret
           exact ⟨by first|rfl|(simp [aQ,aN] <;> rfl)|(simp [*,aQ,aN] <;> rfl),by repeat (first|(with_reducible first|exact HB.out|apply ah|apply ag|apply ai|refine aj ?_ lZ.out|refine aj ?_ mW.out)|exact HB.out)⟩
         ·
          rw [if_neg c46] at H
          have aei:(bV == 11)=false:=beq_eq_false_iff_ne.mpr c46
          have aeh:(bV != 11)=true:=bne_iff_ne.mpr c46
          by_cases c54:bV=12
          ·
           rw [if_pos c54] at H
           have aed:(bV == 12)=true:=beq_iff_eq.mpr c54
           have aec:(bV != 12)=false:=bne_eq_false_iff_eq.mpr c54
           clear c54
           replace H:=Option.bind_eq_some_iff.mp H
           obtain ⟨t181,afE,H⟩:=H
           replace H:((dA.f t170 t181).bind fun t182=>(some t182))=some r:=H
           have A55:=ae.mk afE
           clear afE
           replace H:=Option.bind_eq_some_iff.mp H
           obtain ⟨t182,afD,H⟩:=H
           replace H:(some t182)=some r:=H
           have A56:=ae.mk afD
           clear afD
           obtain rfl:=Option.some.inj H
           have acw:=oW.out
           have acj:=oV.out
           obtain ⟨V8,V7,V6,V5,UD,UC,UB,UA⟩:=rJ iM.out
           obtain ⟨Lj,Lh,Le,Ld,Lc,Ko,J9,J8,J7,J6⟩:=jZ iL.out
           go_wp2_with (first|((with_reducible refine bz (f:=20) rfl ?_);refine dS (some 89) rfl rfl Tryd.func20 (by kernel_rfl) rfl #[.agg #[.slice ed aZ.length dZ,.string aU,.string aV,.slice gm aI.length eU],.int .u8 gX] rfl (by (try simp only [List.map_toArray,List.map_cons,List.map_nil]);first|done|rfl|(simp only [List.length_drop,List.length_take];rfl)) ?_;(with_reducible refine (fP.calls vK _ _ aZ aU aV _ _ aI gX t181 _ ?bZ ?dh ?iW ?iV A55.out).mono ?_);(case bZ=>repeat (first|exact (Kd.bJ iH.out HB.out)|(with_reducible refine Kd.bP ?_ _)|(with_reducible refine Kd.bQ ?_ _)|(with_reducible refine Kd.dD ?_)));(case dh=>exact iK.out);(case iW=>repeat (first|exact (Kd.bJ jJ.out HB.out)|(with_reducible refine Kd.bP ?_ _)|(with_reducible refine Kd.bQ ?_ _)|(with_reducible refine Kd.dD ?_)));(case iV=>exact kC.out);rintro e w60 ⟨rfl,hb⟩;refine ⟨_,rfl,?_⟩;have dV:=ae.mk (bg (g:=pO) (o:=.cells #[.slice ed aZ.length dZ,.string aU,.string aV,.slice gm aI.length eU] 25 (0,0)) (by (with_reducible repeat (first|refine au ?_ _|refine ay ?_|refine ak ?_ _));exact iM.out) hb);have dU:=ae.mk (bg (g:=qA) (o:=.cells #[.int .u8 bV,.int .u8 gz,.int .u8 gX,.int .u8 iF,.int .i64 iq] 55 (0,0)) (by (with_reducible repeat (first|refine au ?_ _|refine ay ?_|refine ak ?_ _));exact iL.out) hb);have dR:=ae.mk (bn (by repeat (first|(with_reducible first|exact HB.out|apply ah|apply ag|apply ai|refine aj ?_ lZ.out|refine aj ?_ mW.out)|exact HB.out)) hb);clear iM;clear iL;clear HB;have iM:=dV;have iL:=dU;have HB:=dR;clear dV dU dR;(try clear hb);(try clear hb2);(try clear hk);(try clear hi))|((with_reducible refine bz (f:=48) rfl ?_);refine dS (some 90) rfl rfl Tryd.func48 (by kernel_rfl) rfl #[.int .i64 t170,.int .i64 t181] rfl (by (try simp only [List.map_toArray,List.map_cons,List.map_nil]);first|done|rfl|(simp only [List.length_drop,List.length_take];rfl)) ?_;(with_reducible refine (dA.calls t170 t181 t182 _ A56.out).mono ?_);rintro e w' ⟨rfl,⟨nd,rfl⟩⟩;refine ⟨_,rfl,?_⟩))
           go_ret
           exact ⟨by first|rfl|(simp [aQ,aN] <;> rfl)|(simp [*,aQ,aN] <;> rfl),by repeat (first|(with_reducible first|exact HB.out|apply ah|apply ag|apply ai|refine aj ?_ lZ.out|refine aj ?_ mW.out)|exact HB.out)⟩
          ·
           rw [if_neg c54] at H
           have aed:(bV == 12)=false:=beq_eq_false_iff_ne.mpr c54
           have aec:(bV != 12)=true:=bne_iff_ne.mpr c54
           by_cases c61:bV=13
           ·
            rw [if_pos c61] at H
            have aeb:(bV == 13)=true:=beq_iff_eq.mpr c61
            have aea:(bV != 13)=false:=bne_eq_false_iff_eq.mpr c61
            clear c61
            replace H:=Option.bind_eq_some_iff.mp H
            obtain ⟨t183,afC,H⟩:=H
            replace H:((dA.f t171 t183).bind fun t184=>(some t184))=some r:=H
            have A62:=ae.mk afC
            clear afC
            replace H:=Option.bind_eq_some_iff.mp H
            obtain ⟨t184,afB,H⟩:=H
            replace H:(some t184)=some r:=H
            have A63:=ae.mk afB
            clear afB
            obtain rfl:=Option.some.inj H
            have acv:=oW.out
            have aci:=oV.out
            obtain ⟨VR,VQ,VP,VO,Um,Ul,Uk,Uj⟩:=rJ iM.out
            obtain ⟨aj7,aj6,aj3,aj2,aj1,ahR,ahQ,ahP,ahO,ahN⟩:=jZ iL.out
            go_wp2_with (first|((with_reducible refine bz (f:=20) rfl ?_);refine dS (some 97) rfl rfl Tryd.func20 (by kernel_rfl) rfl #[.agg #[.slice ed aZ.length dZ,.string aU,.string aV,.slice gm aI.length eU],.int .u8 gz] rfl (by (try simp only [List.map_toArray,List.map_cons,List.map_nil]);first|done|rfl|(simp only [List.length_drop,List.length_take];rfl)) ?_;(with_reducible refine (fP.calls vK _ _ aZ aU aV _ _ aI gz t183 _ ?bZ ?dh ?iW ?iV A62.out).mono ?_);(case bZ=>repeat (first|exact (Kd.bJ iH.out HB.out)|(with_reducible refine Kd.bP ?_ _)|(with_reducible refine Kd.bQ ?_ _)|(with_reducible refine Kd.dD ?_)));(case dh=>exact iK.out);(case iW=>repeat (first|exact (Kd.bJ jJ.out HB.out)|(with_reducible refine Kd.bP ?_ _)|(with_reducible refine Kd.bQ ?_ _)|(with_reducible refine Kd.dD ?_)));(case iV=>exact kC.out);rintro e w67 ⟨rfl,hb⟩;refine ⟨_,rfl,?_⟩;have dV:=ae.mk (bg (g:=pO) (o:=.cells #[.slice ed aZ.length dZ,.string aU,.string aV,.slice gm aI.length eU] 25 (0,0)) (by (with_reducible repeat (first|refine au ?_ _|refine ay ?_|refine ak ?_ _));exact iM.out) hb);have dU:=ae.mk (bg (g:=qA) (o:=.cells #[.int .u8 bV,.int .u8 gz,.int .u8 gX,.int .u8 iF,.int .i64 iq] 55 (0,0)) (by (with_reducible repeat (first|refine au ?_ _|refine ay ?_|refine ak ?_ _));exact iL.out) hb);have dR:=ae.mk (bn (by repeat (first|(with_reducible first|exact HB.out|apply ah|apply ag|apply ai|refine aj ?_ lZ.out|refine aj ?_ mW.out)|exact HB.out)) hb);clear iM;clear iL;clear HB;have iM:=dV;have iL:=dU;have HB:=dR;clear dV dU dR;(try clear hb);(try clear hb2);(try clear hk);(try clear hi))|((with_reducible refine bz (f:=48) rfl ?_);refine dS (some 98) rfl rfl Tryd.func48 (by kernel_rfl) rfl #[.int .i64 t171,.int .i64 t183] rfl (by (try simp only [List.map_toArray,List.map_cons,List.map_nil]);first|done|rfl|(simp only [List.length_drop,List.length_take];rfl)) ?_;(with_reducible refine (dA.calls t171 t183 t184 _ A63.out).mono ?_);rintro e w' ⟨rfl,⟨nd,rfl⟩⟩;refine ⟨_,rfl,?_⟩))
            go_ret
            exact ⟨by first|rfl|(simp [aQ,aN] <;> rfl)|(simp [*,aQ,aN] <;> rfl),by repeat (first|(with_reducible first|exact HB.out|apply ah|apply ag|apply ai|refine aj ?_ lZ.out|refine aj ?_ mW.out)|exact HB.out)⟩
           ·
            rw [if_neg c61] at H
            have aeb:(bV == 13)=false:=beq_eq_false_iff_ne.mpr c61
            have aea:(bV != 13)=true:=bne_iff_ne.mpr c61
            obtain rfl:=Option.some.inj H
            go_wp2
            go_ret
            exact ⟨by first|rfl|(simp [aQ,aN] <;> rfl)|(simp [*,aQ,aN] <;> rfl),by repeat (first|(with_reducible first|exact HB.out|apply ah|apply ag|apply ai|refine aj ?_ lZ.out|refine aj ?_ mW.out)|exact HB.out)⟩
end Go.Proofs.YtlemecdddhdagaaDoor.P
end
section
namespace Go.Proofs.YtlemecdddhdagaaDoor.P
open Go.RowKit Go.Proofs.af.bD Go.Proofs.af.dB Go.Proofs.af.dM
def Tot {α:Type} (P:α→Prop) (g:Nat→Option α):Prop:=∃ r,Ev g r∧P r
abbrev Yc {α:Type}:α→Prop:=fun _=>True
theorem Tot.now {α:Type} {P:α→Prop} {r:α} (h:P r):Tot P (fun _=>some r):=⟨r,Ev.now r,h⟩
theorem Tot.bind {α β:Type} {P:α→Prop} {Q:β→Prop} {g:Nat→Option α} {f:Nat→α→Option β} (h:Tot P g) (k:∀ a,P a→Tot Q (fun n=>f n a)):Tot Q (fun n=>(g n).bind (f n)):=by
  obtain ⟨a,ha,hp⟩:=h
  obtain ⟨b,hb,hq⟩:=k a hp
  exact ⟨b,Ev.bind ha hb,hq⟩
theorem Tot.ite {α:Type} {P:α→Prop} {p:Prop} [Decidable p] {f g:Nat→Option α} (h1:p→Tot P f) (h2:¬p→Tot P g):Tot P (fun k=>if p then f k else g k):=by
  by_cases h:p
  · obtain ⟨r,hr,hp⟩:=h1 h
    exact ⟨r,Ev.congr (fun k=>if_pos h) hr,hp⟩
  · obtain ⟨r,hr,hp⟩:=h2 h
    exact ⟨r,Ev.congr (fun k=>if_neg h) hr,hp⟩
theorem Tot.step {α:Type} {P:α→Prop} {g f:Nat→Option α} (h:∀ k,g (k+1)=f k) (k:Tot P f):Tot P g:=by
  obtain ⟨r,hr,hp⟩:=k
  exact ⟨r,Ev.step h hr,hp⟩
theorem Tot.yes {α:Type} {P:α→Prop} {p:Prop} [Decidable p] {f g:Nat→Option α} (h:p) (k:Tot P f):Tot P (fun k=>if p then f k else g k):=Tot.ite (fun _=>k) (fun h'=>absurd h h')
theorem Tot.of {α:Type} {P:α→Prop} {g:Nat→Option α} {r:α} (h:∀ k,g k=some r) (hp:P r):Tot P g:=⟨r,Ev.congr h (Ev.now r),hp⟩
abbrev Mx:Nat:=9223372036854775807
theorem OD (a b:Int):∃ x,eF.f a b=some x:=by
  unfold eF.f
  split
  · exact ⟨_,rfl⟩
  · split <;> exact ⟨_,rfl⟩
theorem H8 (t:List ByteArray) (ht:t.length≤Mx) (hs:∀ i:Int,(dY ByteArray.empty t i).size≤Mx):Tot Yc (fun k=>aK.f k t):=by
  have l1:∀ (i:Nat) (s:ByteArray),s.size≤Mx→Tot Yc (fun k=>aK.l0 k t (wrap64 ((i:Int)+1)))→∀ d j,j+d=s.size→Tot Yc (fun k=>aK.l1 k t (i:Nat) s (j:Nat)):=by
    intro i s hsz hn d
    induction d with
    | zero =>
      intro j hj
      refine Tot.step (fun k=>by simp only [aK.l1];rfl) ?_
      exact Tot.ite (fun h=>by omega) fun _=>Tot.ite (fun _=>Tot.now trivial) fun _=>Tot.ite (fun _=>Tot.now trivial) fun _=>hn
    | succ d ih =>
      intro j hj
      refine Tot.step (fun k=>by simp only [aK.l1];rfl) ?_
      have nx:=ih (j+1) (by omega)
      rw [← wrapN (i:=j) (n:=s.size) (by omega) hsz] at nx
      refine Tot.yes (by omega) (Tot.yes (by omega) (Tot.ite (fun _=>nx) fun _=>?_))
      obtain ⟨x,hx⟩:=OD (bt s j) t.length
      rw [hx]
      exact Tot.ite (fun _=>Tot.now trivial) fun _=>nx
  have l0:∀ d i,i+d=t.length→Tot Yc (fun k=>aK.l0 k t (i:Nat)):=by
    intro d
    induction d with
    | zero =>
      intro i hi
      refine Tot.step (fun k=>by simp only [aK.l0];rfl) ?_
      exact Tot.ite (fun h=>by omega) fun _=>Tot.ite (fun _=>Tot.now trivial) fun _=>Tot.now trivial
    | succ d ih =>
      intro i hi
      refine Tot.step (fun k=>by simp only [aK.l0];rfl) ?_
      have nx:=ih (i+1) (by omega)
      rw [← wrapN (i:=i) (n:=t.length) (by omega) ht] at nx
      exact Tot.yes (by omega) (Tot.yes (by omega) (l1 i _ (hs _) nx _ 0 (Nat.zero_add _)))
  exact l0 t.length 0 (by omega)
theorem sN (s:ByteArray) (i n:Int):eF.f (bt s i) n=some (lu (bt s i) n):=by
  have h:=uV s i
  unfold eF.f lu
  by_cases h1:bt s i < 48
  · rw [if_pos h1,if_neg (by omega)]
  · rw [if_neg h1,show (bt s i - 48) % 256=bt s i - 48 from by omega]
    by_cases h2:bt s i - 48 < n
    · rw [if_neg (show ¬ bt s i - 48 ≥ n from by omega),if_pos (show 48≤bt s i from by omega),if_pos h2]
    · rw [if_pos (show bt s i - 48 ≥ n from by omega),if_pos (show 48≤bt s i from by omega),if_neg h2]
theorem Aj (t:List ByteArray) (ht:t.length≤9223372036854775807) (hs:∀ i:Int,(dY ByteArray.empty t i).size≤9223372036854775807):Ev (fun k=>aK.f k t) (jW t):=by
  have l1:∀ (i:Nat) (s:ByteArray) (r:Bool),s.size≤9223372036854775807→Ev (fun k=>aK.l0 k t (wrap64 ((i:Int)+1))) r →
      Ev (fun k=>aK.l1 k t (i:Nat) s 0) (okB s t.length && (if (s.size:Int) < 1 then false else if (s.size:Int) > 6 then false else r)):=by
    intro i s r hsz hr
    have:=lN (g:=fun k j=>aK.l1 k t (i:Nat) s (j:Nat)) (fun j=>if (bt s j == 105 || decide (0≤lu (bt s j) t.length)) then none else some false) s.size (if (s.size:Int) < 1 then false else if (s.size:Int) > 6 then false else r)
      (fun j hj hb q hq=>?_) (fun j hj b hb=>?_) (fun _=>?_) s.size 0 (by omega) (fun j hj=>by omega)
    · rw [rq s.size (fun j=>bt s j == 105 || decide (0≤lu (bt s j) t.length))] at this
      exact this
    · refine Ev.step (fun k=>?_) hq
      simp only [aK.l1]
      rw [if_pos (by omega),if_pos (by omega),wrapN (i:=j) (n:=s.size) hj hsz]
      by_cases h:bt s j=105
      · rw [if_pos h]
      · rw [if_neg h,sN]
        simp only [Option.bind_some]
        have h2:0≤lu (bt s j) t.length:=by
          have:=hb
          simp [h] at this
          exact this
        rw [if_neg (by omega)]
    · have hb':¬ bt s j=105∧¬ 0≤lu (bt s j) t.length∧b=false:=by
        by_cases h:bt s j=105
        · simp [h] at hb
        · by_cases h2:0≤lu (bt s j) t.length
          · simp [h2] at hb
          · simp [h,h2] at hb
            exact ⟨h,h2,hb⟩
      obtain ⟨h1,h2,rfl⟩:=hb'
      refine Ev.step (f:=fun _=>some false) (fun k=>?_) (Ev.now false)
      simp only [aK.l1]
      rw [if_pos (by omega),if_pos (by omega),if_neg h1,sN]
      simp only [Option.bind_some]
      rw [if_pos (by omega)]
    · refine Ev.step (fun k=>by simp only [aK.l1];rfl) ?_
      refine Ev.congr (fun k=>if_neg (by omega)) ?_
      exact Ev.ite (fun _=>Ev.now _) fun _=>Ev.ite (fun _=>Ev.now _) fun _=>hr
  have:=lN (g:=fun k i=>aK.l0 k t (i:Nat)) (fun i=>if uz (dY ByteArray.empty t i) t.length then none else some false) t.length (decide (1≤t.length) && decide (t.length≤8))
    (fun i hi hb q hq=>?_) (fun i hi b hb=>?_) (fun _=>?_) t.length 0 (by omega) (fun j hj=>by omega)
  · rw [rq t.length (fun i=>uz (dY ByteArray.empty t i) t.length)] at this
    exact this
  · have ho:uz (dY ByteArray.empty t i) t.length=true:=by
      cases h:uz (dY ByteArray.empty t i) t.length <;> simp [h] at hb ⊢
    unfold uz at ho
    simp only [Bool.and_eq_true,decide_eq_true_eq] at ho
    obtain ⟨⟨h1,h2⟩,h3⟩:=ho
    refine Ev.step (f:=fun k=>aK.l1 k t (i:Nat) (dY ByteArray.empty t i) 0) (fun k=>?_) ?_
    · simp only [aK.l0]
      rw [if_pos (by omega),if_pos (by omega)]
    · have:=l1 i (dY ByteArray.empty t i) q (hs _) (by rw [wrapN hi ht];exact hq)
      rw [h3,Bool.true_and,if_neg (by omega),if_neg (by omega)] at this
      exact this
  · have ho:uz (dY ByteArray.empty t i) t.length=false∧b=false:=by
      cases h:uz (dY ByteArray.empty t i) t.length <;> simp [h] at hb
      exact ⟨rfl,hb⟩
    obtain ⟨ho,rfl⟩:=ho
    refine Ev.step (f:=fun k=>aK.l1 k t (i:Nat) (dY ByteArray.empty t i) 0) (fun k=>?_) ?_
    · simp only [aK.l0]
      rw [if_pos (by omega),if_pos (by omega)]
    ·
      have tot:=H8 t ht hs
      have nx:∃ r,Ev (fun k=>aK.l0 k t (wrap64 ((i:Int)+1))) r:=by
        rw [wrapN hi ht]
        have l0:∀ d j,j+d=t.length→∃ r,Ev (fun k=>aK.l0 k t (j:Nat)) r:=by
          intro d
          induction d with
          | zero =>
            intro j hj
            refine ⟨(decide (1≤t.length) && decide (t.length≤8)),Ev.step (f:=fun _=>some _) (fun k=>?_) (Ev.now _)⟩
            simp only [aK.l0]
            rw [if_neg (by omega)]
            by_cases h:1≤t.length
            · rw [if_pos (by omega),decide_eq_true h,Bool.true_and]
              congr 1
              exact decide_eq_decide.2 (by omega)
            · rw [if_neg (by omega),decide_eq_false h,Bool.false_and]
          | succ d ih =>
            intro j hj
            obtain ⟨r,hr⟩:=ih (j+1) (by omega)
            have:=l1 j (dY ByteArray.empty t j) r (hs _) (by rw [wrapN (i:=j) (n:=t.length) (by omega) ht];exact hr)
            refine ⟨_,Ev.step (fun k=>?_) this⟩
            simp only [aK.l0]
            rw [if_pos (by omega),if_pos (by omega)]
        exact l0 (t.length - (i+1)) (i+1) (by omega)
      obtain ⟨r,hr⟩:=nx
      have:=l1 i (dY ByteArray.empty t i) r (hs _) hr
      refine Ev.out this ?_
      unfold uz at ho
      by_cases h1:((dY ByteArray.empty t i).size:Int) < 1
      · rw [if_pos h1,Bool.and_false]
      · by_cases h2:((dY ByteArray.empty t i).size:Int) > 6
        · rw [if_neg h1,if_pos h2,Bool.and_false]
        · rw [decide_eq_true (by omega),decide_eq_true (by omega)] at ho
          simp at ho
          rw [ho,Bool.false_and]
  · refine Ev.step (f:=fun _=>some (decide (1≤t.length) && decide (t.length≤8))) (fun k=>?_) (Ev.now _)
    simp only [aK.l0]
    rw [if_neg (by omega)]
    by_cases h:1≤t.length
    · rw [if_pos (by omega),decide_eq_true h,Bool.true_and]
      congr 1
      exact decide_eq_decide.2 (by omega)
    · rw [if_neg (by omega),decide_eq_false h,Bool.false_and]
theorem D7 (t:List ByteArray) (s:ByteArray) (ht:t.length≤9223372036854775807) (hts:∀ i:Int,(dY ByteArray.empty t i).size≤9223372036854775807) (hs:s.size≤9223372036854775807):Ev (fun k=>aX.f k t s) (ry t s):=by
  have:=lN (g:=fun k i=>aX.l0 k t s (i:Nat)) (fun i=>if decide (0≤lu (bt s i) t.length) then none else some false) s.size (jW t)
    (fun i hi hb q hq=>?_) (fun i hi b hb=>?_) (fun _=>?_) s.size 0 (by omega) (fun j hj=>by omega)
  · rw [rq s.size (fun i=>decide (0≤lu (bt s i) t.length))] at this
    exact this
  · have h2:0≤lu (bt s i) t.length:=by
      by_cases h:0≤lu (bt s i) t.length
      · exact h
      · simp [h] at hb
    refine Ev.step (fun k=>?_) hq
    simp only [aX.l0]
    rw [if_pos (by omega),if_pos (by omega),wrapN hi hs,sN]
    simp only [Option.bind_some]
    rw [if_neg (by omega)]
  · have h2:¬ 0≤lu (bt s i) t.length∧b=false:=by
      by_cases h:0≤lu (bt s i) t.length
      · simp [h] at hb
      · simp [h] at hb
        exact ⟨h,hb⟩
    obtain ⟨h2,rfl⟩:=h2
    refine Ev.step (f:=fun _=>some false) (fun k=>?_) (Ev.now false)
    simp only [aX.l0]
    rw [if_pos (by omega),if_pos (by omega),sN]
    simp only [Option.bind_some]
    rw [if_pos (by omega)]
  · refine Ev.step (f:=fun k=>(aK.f k t).bind fun z=>some z) (fun k=>?_) (Ev.bind (Aj t ht hts) (Ev.now _))
    simp only [aX.l0]
    rw [if_neg (by omega)]
section
variable (t:List ByteArray) (ht:t.length≤9223372036854775807) (hs:∀ i:Int,(dY ByteArray.empty t i).size≤9223372036854775807)
include ht hs
theorem Y0 (s:ByteArray) (a:Int) (h0:0≤a) (h1:a≤255):Ev (fun k=>fO.f k t s a) (dw t s a):=by
  have e1:wrap64 a=a:=by unfold wrap64;omega
  have e2:wrap64 (a+1)=a+1:=by unfold wrap64;omega
  by_cases h:a < s.size
  · obtain ⟨n,rfl⟩:=Int.eq_ofNat_of_zero_le h0
    have hn:n < s.size:=by omega
    have hr:=D7 t (s.extract n (n+1)) ht hs (by rw [oC s n hn];omega)
    have er:ry t (s.extract n (n+1))=(decide (0≤lu (bt s (n:Int)) t.length) && jW t):=by
      unfold ry
      rw [oC s n hn]
      congr 1
      show (List.range 1).all _=_
      simp only [List.range_one,List.all_cons,List.all_nil,Bool.and_true]
      rw [show ((0:Nat):Int)=0 from rfl,yR s n hn]
    rw [er] at hr
    refine Ev.congr (f:=fun k=>(aX.f k t (s.extract n (n+1))).bind fun z=>if z=true then some ((bt s n - 48) % 256) else some (-1)) (fun k=>?_) (Ev.bind hr ?_)
    · unfold fO.f
      rw [e1,e2,if_neg (by omega),if_pos (by omega),if_pos (by omega),if_pos (by omega)]
      rw [show ((n:Int)+1).toNat=n+1 from by omega,Int.toNat_natCast]
      congr 1
      funext z
      by_cases hb:z=true
      · rw [if_pos hb,if_pos hb,if_pos (by omega),if_pos (by omega)]
      · rw [if_neg hb,if_neg hb]
    · unfold dw
      rw [if_pos h]
      cases hb:(decide (0≤lu (bt s (n:Int)) t.length) && jW t)
      · rw [if_neg (by decide),if_neg (by decide)]
        exact Ev.now _
      · rw [if_pos rfl,if_pos rfl]
        have:=GK.1 (of_decide_eq_true (Bool.and_eq_true _ _ ▸ hb).1)
        have hr:=uV s n
        rw [show (bt s (n:Int) - 48) % 256=bt s n - 48 from by omega]
        exact Ev.now _
  · refine Ev.congr (f:=fun _=>some (-1)) (fun k=>?_) (by unfold dw;rw [if_neg h];exact Ev.now _)
    unfold fO.f
    rw [e1,if_pos (by omega)]
theorem xA (lo gl:ByteArray) (code:List iw) (a:Int) (h0:0≤a) (h1:a≤255):Ev (fun k=>dN.f k t lo gl code a) (dw t lo a):=Ev.bind (Y0 t ht hs lo a h0 h1) (Ev.now _)
theorem JQ (i:Int):Ev (fun k=>gp.f k t i) (jy t i):=by
  have is:Ev (fun k=>eG.f k t i) (jW t && (decide (0≤i) && decide (i < t.length))):=by
    refine Ev.bind (Aj t ht hs) ?_
    refine Ev.out (Ev.ite (fun _=>Ev.ite (fun _=>Ev.now (decide (i < (t.length:Int)))) fun _=>Ev.now false) fun _=>Ev.now false) ?_
    cases jW t
    · rfl
    · rw [if_pos rfl,Bool.true_and]
      by_cases h:i ≥ 0
      · rw [if_pos h,decide_eq_true (show 0≤i from h),Bool.true_and]
      · rw [if_neg h,decide_eq_false (show ¬ 0≤i from h),Bool.false_and]
  refine Ev.bind is ?_
  unfold jy OU
  by_cases h:(jW t && (decide (0≤i) && decide (i < t.length)))=true
  · have h':=h
    simp only [Bool.and_eq_true,decide_eq_true_eq] at h'
    rw [if_pos h,if_pos h]
    exact Ev.congr (fun k=>(if_pos h'.2.1).trans (if_pos h'.2.2)) (Ev.now _)
  · rw [if_neg h,if_neg h]
    exact Ev.now _
end
end Go.Proofs.YtlemecdddhdagaaDoor.P
end
section
namespace Go.Proofs.YtlemecdddhdagaaDoor.P
open Go.RowKit Go.Proofs.af.bD Go.Proofs.af.dB Go.Proofs.af.dM
def qw (t:List ByteArray) (a n:Int):Bool:=if n < 0 then false else if n ≥ jy t a then false else decide (Fh t a n < 0)
def Fq (t:List ByteArray) (a n:Int):Int:=if n < 0 then -1 else if n > 6 then -1 else Fh t a n
section
variable (t:List ByteArray) (ht:t.length≤9223372036854775807) (hs:∀ i:Int,(dY ByteArray.empty t i).size≤9223372036854775807)
include ht hs
theorem ab8 (i:Int):Ev (fun k=>eG.f k t i) (jW t && (decide (0≤i) && decide (i < t.length))):=by
  refine Ev.bind (Aj t ht hs) ?_
  refine Ev.out (Ev.ite (fun _=>Ev.ite (fun _=>Ev.now (decide (i < (t.length:Int)))) fun _=>Ev.now false) fun _=>Ev.now false) ?_
  cases jW t
  · rfl
  · rw [if_pos rfl,Bool.true_and]
    by_cases h:i ≥ 0
    · rw [if_pos h,decide_eq_true (show 0≤i from h),Bool.true_and]
    · rw [if_neg h,decide_eq_false (show ¬ 0≤i from h),Bool.false_and]
theorem Ye (i f:Int):Ev (fun k=>fZ.f k t i f) (Fh t i f):=by
  refine Ev.bind (ab8 t ht hs i) ?_
  unfold Fh jy OU
  by_cases h:(jW t && (decide (0≤i) && decide (i < t.length)))=true
  · have h':=h
    simp only [Bool.and_eq_true,decide_eq_true_eq] at h'
    rw [if_pos h,if_pos h]
    by_cases h0:f < 0
    · rw [if_pos h0,if_neg (by omega)]
      exact Ev.now _
    · rw [if_neg h0]
      refine Ev.congr (fun k=>(if_pos h'.2.1).trans (if_pos h'.2.2)) ?_
      by_cases h1:f < (dY ByteArray.empty t i).size
      · rw [if_neg (by omega),if_pos (by omega),if_pos (by omega),if_pos (by omega)]
        refine Ev.congr (fun k=>by rw [sN];rfl) (Ev.now _)
      · rw [if_pos (by omega),if_neg (by omega)]
        exact Ev.now _
  · rw [if_neg h,if_neg h]
    rw [if_neg (fun h2=>by have h3:f < (0:Int):=h2.2;omega)]
    exact Ev.now _
theorem MG (lo gl:ByteArray) (code:List iw) (a:Int) (h0:0≤a) (h1:a≤255):Ev (fun k=>fP.f k t lo gl code a) (dw t gl a):=Ev.bind (Y0 t ht hs gl a h0 h1) (Ev.now _)
theorem Dh (lo gl:ByteArray) (code:List iw) (a n:Int):Ev (fun k=>fA.f k t lo gl code a n) (qw t a n):=by
  unfold qw
  refine Ev.ite (fun _=>Ev.now _) fun _=>Ev.bind (JQ t ht hs a) ?_
  exact Ev.ite (fun _=>Ev.now _) fun _=>Ev.bind (Ye t ht hs a n) (Ev.now _)
theorem Yd (lo gl:ByteArray) (code:List iw) (a n:Int):Ev (fun k=>gy.f k t lo gl code a n) (Fq t a n):=by
  unfold Fq
  exact Ev.ite (fun _=>Ev.now _) fun _=>Ev.ite (fun _=>Ev.now _) fun _=>Ev.bind (Ye t ht hs a n) (Ev.now _)
end
theorem yu (a b:Int):dA.f a b=some (pJ a b):=by
  unfold dA.f pJ
  by_cases h:0≤a
  · rw [if_pos h,decide_eq_true h,Bool.true_and]
  · rw [if_neg h,decide_eq_false h,Bool.false_and]
theorem FC (t:List ByteArray) (i:Int):0≤jy t i∧jy t i≤6:=by
  by_cases h:(jW t && (decide (0≤i) && decide (i < t.length)))=true
  · simp only [Bool.and_eq_true,decide_eq_true_eq] at h
    obtain ⟨n,rfl⟩:=Int.eq_ofNat_of_zero_le h.2.1
    have:=Ai h.1 n (by omega)
    omega
  · unfold jy OU
    rw [if_neg h]
    decide
theorem Az (t:List ByteArray) (a n:Int):(if a ≥ 0 then qw t a n else false)=ql t a n:=by
  unfold qw ql nO
  by_cases h:a ≥ 0
  · rw [if_pos h]
    by_cases h0:n < 0
    · rw [if_pos h0,if_neg (by omega)];rfl
    · by_cases h1:n < jy t a
      · rw [if_neg h0,if_neg (by omega),if_pos (by omega),Bool.true_and]
      · rw [if_neg h0,if_pos (by omega),if_neg (by omega)];rfl
  · rw [if_neg h,if_neg (by omega)];rfl
theorem O9 (t:List ByteArray) (x a n:Int):(if a ≥ 0 then pJ x (Fq t a n) else false)=pJ x (nO t a n).1:=by
  have z:pJ x (-1)=false:=by
    unfold pJ
    by_cases h:0≤x
    · have:(x == -1)=false:=by simp;omega
      rw [this,Bool.and_false]
    · rw [decide_eq_false h,Bool.false_and]
  unfold Fq nO
  have:=FC t a
  by_cases h:a ≥ 0
  · rw [if_pos h]
    by_cases h0:n < 0
    · rw [if_pos h0,if_neg (by omega)]
    · rw [if_neg h0]
      by_cases h1:n < jy t a
      · rw [if_neg (by omega),if_pos (by omega)]
      · rw [if_neg (show ¬ (0≤a∧0≤n∧n < jy t a) by omega)]
        by_cases h2:n > 6
        · rw [if_pos h2]
        · rw [if_neg h2]
          unfold Fh
          rw [if_neg (by omega)]
  · rw [if_neg h,if_neg (by omega),z]
def xn (o a b c:Int) (x:Bool):Bool:=if x=true then decide (a < 8) else if o=2 then (if a < 8 then (if b < 8 then decide (c < 8) else false) else false) else if o=9 then decide (b < 8) else true
def Ed (o a b c:Int):Bool:=if o=1 then xn o a b c (o == 1) else if o=4 then xn o a b c (o == 4) else if o=8 then xn o a b c (o == 8) else if o=14 then xn o a b c (o == 14) else xn o a b c (o == 15)
theorem Ub (o a b c n:Int):Ev (fun k=>bH.f k o a b c n) (Ed o a b c):=by
  have j:∀ x,Ev (fun k=>bH.j0 k o x o a b c n) (xn o a b c x):=fun x=>by
    unfold xn
    refine Ev.step (fun k=>by simp only [bH.j0];rfl) ?_
    exact Ev.ite (fun _=>Ev.now _) fun _=>Ev.ite (fun _=>Ev.ite (fun _=>Ev.ite (fun _=>Ev.now _) fun _=>Ev.now _) fun _=>Ev.now _) fun _=>Ev.ite (fun _=>Ev.now _) fun _=>Ev.now _
  unfold Ed
  exact Ev.ite (fun _=>j _) fun _=>Ev.ite (fun _=>j _) fun _=>Ev.ite (fun _=>j _) fun _=>Ev.ite (fun _=>j _) fun _=>j _
def zy (t:List ByteArray) (lo gl:ByteArray) (o a b c n:Int) (x:Bool):Bool :=
  if x=true then decide (dw t lo a ≥ 0)
  else if o=7 then pJ (dw t lo a) (dw t lo b)
  else if o=15 then pJ (dw t lo b) (dw t lo c)
  else if o=8 then (if dw t lo b ≥ 0 then qw t (dw t lo b) n else false)
  else if o=9 then (if dw t lo a ≥ 0 then qw t (dw t lo a) n else false)
  else if o=10 then (if dw t lo b ≥ 0 then pJ (dw t lo a) (Fq t (dw t lo b) n) else false)
  else if o=11 then (if dw t lo a ≥ 0 then pJ (dw t lo b) (Fq t (dw t lo a) n) else false)
  else if o=12 then pJ (dw t lo a) (dw t gl b)
  else if o=13 then pJ (dw t lo b) (dw t gl a)
  else true
def JY (t:List ByteArray) (lo gl:ByteArray) (o a b c n:Int):Bool:=if o=5 then zy t lo gl o a b c n (o == 5) else zy t lo gl o a b c n (o == 6)
theorem PX (t:List ByteArray) (lo gl:ByteArray) (code:List iw) (o a b c n:Int) (ht:t.length≤9223372036854775807) (hs:∀ i:Int,(dY ByteArray.empty t i).size≤9223372036854775807)
    (ha:0≤a∧a≤255) (hb:0≤b∧b≤255) (hc:0≤c∧c≤255):Ev (fun k=>aY.f k t lo gl code o a b c n) (JY t lo gl o a b c n):=by
  have j:∀ x,Ev (fun k=>aY.j0 k (dw t lo a) (dw t lo b) o x t lo gl code o a b c n) (zy t lo gl o a b c n x):=fun x=>by
    unfold zy
    refine Ev.step (fun k=>by simp only [aY.j0];rfl) ?_
    refine Ev.ite (fun _=>Ev.now _) fun _=>?_
    refine Ev.ite (fun _=>Ev.congr (fun k=>by rw [yu];rfl) (Ev.now _)) fun _=>?_
    refine Ev.ite (fun _=>Ev.bind (xA t ht hs lo gl code _ hc.1 hc.2) (Ev.congr (fun k=>by rw [yu];rfl) (Ev.now _))) fun _=>?_
    refine Ev.ite (fun _=>Ev.ite (fun _=>Ev.bind (Dh t ht hs lo gl code _ _) (Ev.now _)) fun _=>Ev.now _) fun _=>?_
    refine Ev.ite (fun _=>Ev.ite (fun _=>Ev.bind (Dh t ht hs lo gl code _ _) (Ev.now _)) fun _=>Ev.now _) fun _=>?_
    refine Ev.ite (fun _=>Ev.ite (fun _=>Ev.bind (Yd t ht hs lo gl code _ _) (Ev.congr (fun k=>by rw [yu];rfl) (Ev.now _))) fun _=>Ev.now _) fun _=>?_
    refine Ev.ite (fun _=>Ev.ite (fun _=>Ev.bind (Yd t ht hs lo gl code _ _) (Ev.congr (fun k=>by rw [yu];rfl) (Ev.now _))) fun _=>Ev.now _) fun _=>?_
    refine Ev.ite (fun _=>Ev.bind (MG t ht hs lo gl code _ hb.1 hb.2) (Ev.congr (fun k=>by rw [yu];rfl) (Ev.now _))) fun _=>?_
    exact Ev.ite (fun _=>Ev.bind (MG t ht hs lo gl code _ ha.1 ha.2) (Ev.congr (fun k=>by rw [yu];rfl) (Ev.now _))) fun _=>Ev.now _
  refine Ev.bind (xA t ht hs lo gl code a ha.1 ha.2) (Ev.bind (xA t ht hs lo gl code b hb.1 hb.2) ?_)
  exact Ev.ite (fun _=>j _) fun _=>j _
theorem yw (a:Int):oU [a]=decide (a < 8):=by
  show (decide (a < 8) && true)=_
  rw [Bool.and_true]
theorem ZX (a b c:Int):oU [a,b,c]=(if a < 8 then (if b < 8 then decide (c < 8) else false) else false):=by
  show (decide (a < 8) && (decide (b < 8) && (decide (c < 8) && true)))=_
  by_cases h:a < 8 <;> by_cases h2:b < 8 <;> simp [h,h2]
theorem NZ (t:List ByteArray) (lo gl:ByteArray) (o a b c n:Int) (h:1≤o∧o≤15):(Ed o a b c && JY t lo gl o a b c n)=nZ t lo gl o a b c n:=by
  have hh:o=1 ∨ o=2 ∨ o=3 ∨ o=4 ∨ o=5 ∨ o=6 ∨ o=7 ∨ o=8 ∨ o=9 ∨ o=10 ∨ o=11 ∨ o=12 ∨ o=13 ∨ o=14 ∨ o=15:=by omega
  rcases hh with rfl|rfl|rfl|rfl|rfl|rfl|rfl|rfl|rfl|rfl|rfl|rfl|rfl|rfl|rfl
  · show (decide (a < 8) && true)=oU [a]
    rw [yw,Bool.and_true]
  · show ((if a < 8 then (if b < 8 then decide (c < 8) else false) else false) && true)=oU [a,b,c]
    rw [ZX,Bool.and_true]
  · rfl
  · show (decide (a < 8) && true)=oU [a]
    rw [yw,Bool.and_true]
  · show (true && _)=_
    rw [Bool.true_and];rfl
  · show (true && _)=_
    rw [Bool.true_and];rfl
  · show (true && _)=_
    rw [Bool.true_and];rfl
  · show (decide (a < 8) && (if dw t lo b ≥ 0 then qw t (dw t lo b) n else false))=(if oU [a]=true then ql t (dw t lo b) n else false)
    rw [yw,Az]
    cases decide (a < 8) <;> rfl
  · show (decide (b < 8) && (if dw t lo a ≥ 0 then qw t (dw t lo a) n else false))=(if oU [b]=true then ql t (dw t lo a) n else false)
    rw [yw,Az]
    cases decide (b < 8) <;> rfl
  · show (true && (if dw t lo b ≥ 0 then pJ (dw t lo a) (Fq t (dw t lo b) n) else false))=pJ (dw t lo a) (nO t (dw t lo b) n).1
    rw [O9,Bool.true_and]
  · show (true && (if dw t lo a ≥ 0 then pJ (dw t lo b) (Fq t (dw t lo a) n) else false))=pJ (dw t lo b) (nO t (dw t lo a) n).1
    rw [O9,Bool.true_and]
  · show (true && _)=_
    rw [Bool.true_and];rfl
  · show (true && _)=_
    rw [Bool.true_and];rfl
  · show (decide (a < 8) && true)=oU [a]
    rw [yw,Bool.and_true]
  · show (decide (a < 8) && pJ (dw t lo b) (dw t lo c))=(if oU [a]=true then pJ (dw t lo b) (dw t lo c) else false)
    rw [yw]
    cases decide (a < 8) <;> rfl
end Go.Proofs.YtlemecdddhdagaaDoor.P
end
