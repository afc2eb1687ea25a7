/- Parts of the proof of FullTrue: what the functions that it reaches compute, and plain facts about that. -/
import Derived.Test.YtbmhmlgfpijmhaaDoorFab
import Derived.Test.YtbmhmlgfpijmhaaDoorFac
set_option linter.unusedVariables false
set_option linter.unusedSimpArgs false
section
namespace Go.Proofs.YtbmhmlgfpijmhaaDoor.P
open Go.RowKit Go.Proofs.af.bG Go.Proofs.af.dD Go.Proofs.af.dM
attribute [local go_sem] kF kD lK lJ jH jG kE kC
mutual
def aN.j0:Nat→Int→Bool→List ByteArray→ByteArray→ByteArray→List (iG)→Option (Int)
 | 0,_,_,_,_,_,_=>none
 | k+1,x1,x27,Ip,PU,PT,uC=>if x27=true then (some (-1)) else (if 0≤x1 then (if x1 < (uC.length:Int) then ((iL.f k Ip PU PT uC ((aj uC x1).f1)).bind fun t114=>((jc.f k Ip t114).bind fun t115=>(if 0≤t115 then (if 0≤(wrap64 (x1+1)) then (if (wrap64 (x1+1))≤(uC.length:Int) then ((some (uC.drop ((wrap64 (x1+1)):Int).toNat:List (iG))).bind fun bQ=>(aN.l0 k x1 ((aj uC x1).f1) (wrap64 ((shl .i64 1 t115) - 1)) 0 bQ (bQ.length:Int) 0)) else (none)) else (none)) else (none)))) else (none)) else (none))
def aN.l0:Nat→Int→Int→Int→Int→List (iG)→Int→Int→Option (Int)
 | 0,_,_,_,_,_,_,_=>none
 | k+1,x1,x5,x6,x7,nM,zZ,oC=>if oC < zZ then (if 0≤oC then (if oC < (nM.length:Int) then (if ((aj nM oC).f0)=1 then (aN.j2 k x1 x5 x6 x7 oC nM zZ oC ((aj nM oC).f0) (((aj nM oC).f0) == 1) ((aj nM oC).f0) ((aj nM oC).f1) ((aj nM oC).f2) ((aj nM oC).f3) ((aj nM oC).f4)) else (if ((aj nM oC).f0)=2 then (aN.j2 k x1 x5 x6 x7 oC nM zZ oC ((aj nM oC).f0) (((aj nM oC).f0) == 2) ((aj nM oC).f0) ((aj nM oC).f1) ((aj nM oC).f2) ((aj nM oC).f3) ((aj nM oC).f4)) else (if ((aj nM oC).f0)=14 then (aN.j2 k x1 x5 x6 x7 oC nM zZ oC ((aj nM oC).f0) (((aj nM oC).f0) == 14) ((aj nM oC).f0) ((aj nM oC).f1) ((aj nM oC).f2) ((aj nM oC).f3) ((aj nM oC).f4)) else (aN.j2 k x1 x5 x6 x7 oC nM zZ oC ((aj nM oC).f0) (((aj nM oC).f0) == 15) ((aj nM oC).f0) ((aj nM oC).f1) ((aj nM oC).f2) ((aj nM oC).f3) ((aj nM oC).f4))))) else (none)) else (none)) else (some (-1))
def aN.j2:Nat→Int→Int→Int→Int→Int→List (iG)→Int→Int→Int→Bool→Int→Int→Int→Int→Int→Option (Int)
 | 0,_,_,_,_,_,_,_,_,_,_,_,_,_,_,_=>none
 | k+1,x1,x5,x6,x7,x8,nM,zZ,oC,x54,x55,pV,nV,pU,pR,lZ=>if x55=true then (aN.l0 k x1 x5 x6 x7 nM zZ (wrap64 (oC+1))) else (if x54=6 then (aN.j3 k x1 x5 x6 x7 x8 nM zZ oC x54 (x54 == 6) pV nV pU pR lZ) else (aN.j3 k x1 x5 x6 x7 x8 nM zZ oC x54 (x54 == 7) pV nV pU pR lZ))
def aN.j3:Nat→Int→Int→Int→Int→Int→List (iG)→Int→Int→Int→Bool→Int→Int→Int→Int→Int→Option (Int)
 | 0,_,_,_,_,_,_,_,_,_,_,_,_,_,_,_=>none
 | k+1,x1,x5,x6,x7,x8,nM,zZ,oC,x54,x60,pV,nV,pU,pR,lZ=>if x60=true then (if nV=x5 then (some (-1)) else (aN.l0 k x1 x5 x6 x7 nM zZ (wrap64 (oC+1)))) else (if x54=9 then (aN.j4 k x1 x5 x6 x7 x8 nM zZ oC (x54 == 9) pV nV pU pR lZ) else (aN.j4 k x1 x5 x6 x7 x8 nM zZ oC (x54 == 11) pV nV pU pR lZ))
def aN.j4:Nat→Int→Int→Int→Int→Int→List (iG)→Int→Int→Bool→Int→Int→Int→Int→Int→Option (Int)
 | 0,_,_,_,_,_,_,_,_,_,_,_,_,_,_=>none
 | k+1,x1,x5,x6,x7,x8,nM,zZ,oC,x67,pV,nV,pU,pR,lZ=>if x67=true then (if nV=x5 then (if lZ < 0 then (aN.j5 k x1 x5 x6 x7 x8 nM zZ oC true pV nV pU pR lZ) else (aN.j5 k x1 x5 x6 x7 x8 nM zZ oC (decide (lZ ≥ 6)) pV nV pU pR lZ)) else (aN.j5 k x1 x5 x6 x7 x8 nM zZ oC true pV nV pU pR lZ)) else (some (-1))
def aN.j5:Nat→Int→Int→Int→Int→Int→List (iG)→Int→Int→Bool→Int→Int→Int→Int→Int→Option (Int)
 | 0,_,_,_,_,_,_,_,_,_,_,_,_,_,_=>none
 | k+1,x1,x5,x6,x7,x8,nM,zZ,oC,x83,pV,nV,pU,pR,lZ=>if x83=true then (some (-1)) else (if 0≤lZ then (if (Go.bits .or .i64 x7 (shl .i64 1 lZ))=x6 then (some (wrap64 ((wrap64 (x1+1))+x8))) else (aN.l0 k x1 x5 x6 (Go.bits .or .i64 x7 (shl .i64 1 lZ)) nM zZ (wrap64 (oC+1)))) else (none))
end
def aN.f (k:Nat) (bC:List ByteArray) (aY:ByteArray) (aZ:ByteArray) (aJ:List (iG)) (a1:Int):Option (Int):=if a1 < 0 then (aN.j0 k a1 true bC aY aZ aJ) else (if a1 ≥ (aJ.length:Int) then (aN.j0 k a1 true bC aY aZ aJ) else (if 0≤a1 then (if a1 < (aJ.length:Int) then (aN.j0 k a1 (((aj aJ a1).f0) != 5) bC aY aZ aJ) else (none)) else (none)))
theorem aN.iq:∀ k,(∀ y0 y1 y2 y3 y4 y5,dN (aN.j0 k y0 y1 y2 y3 y4 y5) (aN.j0 (k+1) y0 y1 y2 y3 y4 y5))∧(∀ y0 y1 y2 y3 y4 y5 y6,dN (aN.l0 k y0 y1 y2 y3 y4 y5 y6) (aN.l0 (k+1) y0 y1 y2 y3 y4 y5 y6))∧(∀ y0 y1 y2 y3 y4 y5 y6 y7 y8 y9 su vg uZ y13 BG,dN (aN.j2 k y0 y1 y2 y3 y4 y5 y6 y7 y8 y9 su vg uZ y13 BG) (aN.j2 (k+1) y0 y1 y2 y3 y4 y5 y6 y7 y8 y9 su vg uZ y13 BG))∧(∀ y0 y1 y2 y3 y4 y5 y6 y7 y8 y9 su vg uZ y13 BG,dN (aN.j3 k y0 y1 y2 y3 y4 y5 y6 y7 y8 y9 su vg uZ y13 BG) (aN.j3 (k+1) y0 y1 y2 y3 y4 y5 y6 y7 y8 y9 su vg uZ y13 BG))∧(∀ y0 y1 y2 y3 y4 y5 y6 y7 y8 y9 su vg uZ y13,dN (aN.j4 k y0 y1 y2 y3 y4 y5 y6 y7 y8 y9 su vg uZ y13) (aN.j4 (k+1) y0 y1 y2 y3 y4 y5 y6 y7 y8 y9 su vg uZ y13))∧(∀ y0 y1 y2 y3 y4 y5 y6 y7 y8 y9 su vg uZ y13,dN (aN.j5 k y0 y1 y2 y3 y4 y5 y6 y7 y8 y9 su vg uZ y13) (aN.j5 (k+1) y0 y1 y2 y3 y4 y5 y6 y7 y8 y9 su vg uZ y13))
 | 0=>⟨fun _ _ _ _ _ _ r h=>by simp [aN.j0] at h,fun _ _ _ _ _ _ _ r h=>by simp [aN.l0] at h,fun _ _ _ _ _ _ _ _ _ _ _ _ _ _ _ r h=>by simp [aN.j2] at h,fun _ _ _ _ _ _ _ _ _ _ _ _ _ _ _ r h=>by simp [aN.j3] at h,fun _ _ _ _ _ _ _ _ _ _ _ _ _ _ r h=>by simp [aN.j4] at h,fun _ _ _ _ _ _ _ _ _ _ _ _ _ _ r h=>by simp [aN.j5] at h⟩
 | k+1=>by
  obtain ⟨kZ,ih1,ih2,ih3,F8,UO⟩:=aN.iq k
  refine ⟨?_,?_,?_,?_,?_,?_⟩
  ·
   intro y0 y1 y2 y3 y4 y5
   unfold aN.j0
   repeat' with_reducible first|apply kZ|apply ih1|apply ih2|apply ih3|apply F8|apply UO|apply iL.mono|apply jc.mono|exact dN.refl _|exact dN.none _|refine dN.ite ?_ ?_|refine dN.bind ?_ (fun _=>?_)
  ·
   intro y0 y1 y2 y3 y4 y5 y6
   unfold aN.l0
   repeat' with_reducible first|apply kZ|apply ih1|apply ih2|apply ih3|apply F8|apply UO|apply iL.mono|apply jc.mono|exact dN.refl _|exact dN.none _|refine dN.ite ?_ ?_|refine dN.bind ?_ (fun _=>?_)
  ·
   intro y0 y1 y2 y3 y4 y5 y6 y7 y8 y9 su vg uZ y13 BG
   unfold aN.j2
   repeat' with_reducible first|apply kZ|apply ih1|apply ih2|apply ih3|apply F8|apply UO|apply iL.mono|apply jc.mono|exact dN.refl _|exact dN.none _|refine dN.ite ?_ ?_|refine dN.bind ?_ (fun _=>?_)
  ·
   intro y0 y1 y2 y3 y4 y5 y6 y7 y8 y9 su vg uZ y13 BG
   unfold aN.j3
   repeat' with_reducible first|apply kZ|apply ih1|apply ih2|apply ih3|apply F8|apply UO|apply iL.mono|apply jc.mono|exact dN.refl _|exact dN.none _|refine dN.ite ?_ ?_|refine dN.bind ?_ (fun _=>?_)
  ·
   intro y0 y1 y2 y3 y4 y5 y6 y7 y8 y9 su vg uZ y13
   unfold aN.j4
   repeat' with_reducible first|apply kZ|apply ih1|apply ih2|apply ih3|apply F8|apply UO|apply iL.mono|apply jc.mono|exact dN.refl _|exact dN.none _|refine dN.ite ?_ ?_|refine dN.bind ?_ (fun _=>?_)
  ·
   intro y0 y1 y2 y3 y4 y5 y6 y7 y8 y9 su vg uZ y13
   unfold aN.j5
   repeat' with_reducible first|apply kZ|apply ih1|apply ih2|apply ih3|apply F8|apply UO|apply iL.mono|apply jc.mono|exact dN.refl _|exact dN.none _|refine dN.ite ?_ ?_|refine dN.bind ?_ (fun _=>?_)
theorem aN.mono:∀ a0 a1 a2 a3 a4 k,dN (aN.f k a0 a1 a2 a3 a4) (aN.f (k+1) a0 a1 a2 a3 a4):=by
 intro a0 a1 a2 a3 a4 k
 obtain ⟨kZ,ih1,ih2,ih3,F8,UO⟩:=aN.iq k
 unfold aN.f
 repeat' with_reducible first|apply kZ|apply ih1|apply ih2|apply ih3|apply F8|apply UO|apply iL.mono|apply jc.mono|exact dN.refl _|exact dN.none _|refine dN.ite ?_ ?_|refine dN.bind ?_ (fun _=>?_)
def aN.T4:Bool × List (List Nat × List Nat):=(true,[([],[]),([0],[0]),([],[]),([],[]),([2,3],[2,3]),([1,4,4],[1,4]),([5],[5]),([6],[6]),([7,5,0,1,2,3,4,5,6,7],[7])])
def aN.B4:List Nat:=[0,1,0,0,12,31,63,127,255]
theorem aN.afQ:pG .any (opsOf Tryd.f11 4)=aN.T4:=by kernel_rfl
theorem aN.aao:pW aN.T4.2 aN.B4=true:=by kernel_rfl
set_option maxHeartbeats 8000000 in
set_option maxRecDepth 100000 in
theorem aN.calls (k:Nat) (eP:Option Addr) (eH:Nat) (bC:List ByteArray) (aY:ByteArray) (aZ:ByteArray) (gy:Option Addr) (fB:Nat) (aJ:List (iG)) (a1:Int) (r:Int) (w:World) (jV:Kd.C Kd.string w eP bC.length bC) (jX:bC.length≤eH) (jU:Kd.C k39 w gy aJ.length aJ) (jW:aJ.length≤fB) (h:aN.f k bC aY aZ aJ a1=some r) :
  Calls Tryd.prog 11 #[.agg #[.slice eP bC.length eH,.string aY,.string aZ,.slice gy aJ.length fB],.int .i64 a1] w fun e w'=>e=.returned (.int .i64 r)∧Below w.heap.size w w':=by
 have yj:=Tryd.underlying25
 have Ai:=Tryd.underlying39
 have ji:=ae.mk jV
 have jr:=ae.mk jX
 clear jV jX
 have jR:=ae.mk jU
 have lD:=ae.mk jW
 clear jU jW
 have HB:=ae.mk (Below.refl w.heap.size w)
 have H:(if a1 < 0 then (aN.j0 k a1 true bC aY aZ aJ) else (if a1 ≥ (aJ.length:Int) then (aN.j0 k a1 true bC aY aZ aJ) else (if 0≤a1 then (if a1 < (aJ.length:Int) then (aN.j0 k a1 (((aj aJ a1).f0) != 5) bC aY aZ aJ) else (none)) else (none))))=some r:=h
 clear h
 have HC3:=ae.mk H
 clear H
 go_enter Tryd.func11,Tryd.ntmps11
 go_upto_region 1 with (first|((with_reducible refine bI (N:=2) rfl ?_);(try (refine iP (by rfl) ?_;dsimp only));refine dZ ?hg (N:=2) ?hd (cs:=#[.slice eP bC.length eH,.string aY,.string aZ,.slice gy aJ.length fB]) (t:=25) ?hr ?_;(case hd=>rfl);(case hg=>rfl);(case hr=>first|(go_simp;done)|(go_simp;rfl));intro kW hg w4 hbox hb;have eU:=ae.mk (bz (by repeat (first|(with_reducible first|exact HB.out|apply ay|apply ai|apply ax)|exact HB.out)) hb);have eQ:=ae.mk (hbox);have eu:=ae.mk ((by rw [hg];exact (cu (by repeat (first|(with_reducible first|exact HB.out|apply ay|apply ai|apply ax)|exact HB.out))):w.heap.size≤kW));have ig:=eu;clear HB;have HB:=eU;have gG:=eQ;have ajE:=eu;have lS:=ig;clear eU eQ eu ig;clear hb hbox hg))
 (try simp only [Act.put,List.setIfInBounds_toArray,List.set_cons_zero,List.set_cons_succ])
 go_cut [27] (fun v27 wc=>∃ (kq:Nat) (Hq:Bool),v27=.bool Hq∧ae (aN.j0 kq a1 Hq bC aY aZ aJ=some r)∧ae (kq≤k)∧ae (wc.heap[kW]? = some (.cells #[(.slice eP bC.length eH),.string aY,.string aZ,(.slice gy aJ.length fB)] 25 (0,0)))∧ae (Below w.heap.size w wc))
 case first =>
  have H:=HC3.out
  clear HC3
  by_cases c5:a1 < 0
  ·
   rw [if_pos c5] at H
   have qB:decide (a1 < 0)=true:=decide_eq_true c5
   clear c5
   (first|rw [qB]|(simp only [bY,bZ];rw [qB])|skip)
   have H':=ae.mk H
   clear H
   go_wp2
   go_meet
   case rel=>exact ⟨_,(true),(by first|rfl|(simp;done)|(simp [*];done)),H',⟨by first|omega|exact Nat.le_refl _⟩,⟨by (with_reducible repeat (first|refine au ?_ _|refine aC ?_|refine ak ?_ _));exact gG.out⟩,⟨by repeat (first|(with_reducible first|exact HB.out|apply ay|apply ai|apply ax|refine aA ?_ lS.out)|exact HB.out)⟩⟩
  ·
   rw [if_neg c5] at H
   have qB:decide (a1 < 0)=false:=decide_eq_false c5
   clear c5
   (first|rw [qB]|(simp only [bY,bZ];rw [qB])|skip)
   by_cases c6:a1 ≥ (aJ.length:Int)
   ·
    rw [if_pos c6] at H
    have oP:decide ((aJ.length:Int)≤a1)=true:=decide_eq_true c6
    clear c6
    have H':=ae.mk H
    clear H
    have Xt:w4.cell? ⟨kW,0,none⟩=some (.slice eP bC.length eH):=(ah gG.out 0).trans rfl
    have Xr:w4.cell? ⟨kW,1,none⟩=some (.string aY):=(ah gG.out 1).trans rfl
    have Xq:w4.cell? ⟨kW,2,none⟩=some (.string aZ):=(ah gG.out 2).trans rfl
    have Xp:w4.cell? ⟨kW,3,none⟩=some (.slice gy aJ.length fB):=(ah gG.out 3).trans rfl
    have Xh:=ag gG.out 0
    have Xg:=ag gG.out 1
    have Xf:=ag gG.out 2
    have Xe:=ag gG.out 3
    go_wp2
    go_meet
    case rel=>exact ⟨_,(true),(by first|rfl|(simp;done)|(simp [*];done)),H',⟨by first|omega|exact Nat.le_refl _⟩,⟨by (with_reducible repeat (first|refine au ?_ _|refine aC ?_|refine ak ?_ _));exact gG.out⟩,⟨by repeat (first|(with_reducible first|exact HB.out|apply ay|apply ai|apply ax|refine aA ?_ lS.out)|exact HB.out)⟩⟩
   ·
    rw [if_neg c6] at H
    have oP:decide ((aJ.length:Int)≤a1)=false:=decide_eq_false c6
    clear c6
    by_cases c8:0≤a1
    ·
     rw [if_pos c8] at H
     have qU:decide (0≤a1)=true:=decide_eq_true c8
     clear c8
     by_cases c9:a1 < (aJ.length:Int)
     ·
      rw [if_pos c9] at H
      have Fv:decide (a1 < (aJ.length:Int))=true:=decide_eq_true c9
      clear c9
      have H':=ae.mk H
      clear H
      have yS:w4.cell? ⟨kW,0,none⟩=some (.slice eP bC.length eH):=(ah gG.out 0).trans rfl
      have yR:w4.cell? ⟨kW,1,none⟩=some (.string aY):=(ah gG.out 1).trans rfl
      have yQ:w4.cell? ⟨kW,2,none⟩=some (.string aZ):=(ah gG.out 2).trans rfl
      have yP:w4.cell? ⟨kW,3,none⟩=some (.slice gy aJ.length fB):=(ah gG.out 3).trans rfl
      have yK:=ag gG.out 0
      have yJ:=ag gG.out 1
      have yI:=ag gG.out 2
      have yH:=ag gG.out 3
      have WE:0≤(a1:Int):=of_decide_eq_true (by first|(with_reducible assumption)|assumption)
      have Wl:a1 < (aJ.length:Int):=of_decide_eq_true (by first|(with_reducible assumption)|assumption)
      obtain ⟨ai4,ahh,Dt,Dq,Dp,Dn,Dl⟩:=vM jR.out a1 WE Wl
      cases ahh
      replace Dt:=(HB.out.cell (World.block_lt_of_cell? w _ Dt)).trans Dt
      replace Dq:=(HB.out.cell (World.block_lt_of_cell? w _ Dq)).trans Dq
      replace Dp:=(HB.out.cell (World.block_lt_of_cell? w _ Dp)).trans Dp
      replace Dn:=(HB.out.cell (World.block_lt_of_cell? w _ Dn)).trans Dn
      replace Dl:=(HB.out.cell (World.block_lt_of_cell? w _ Dl)).trans Dl
      replace WE:=eq_true WE
      replace Wl:=eq_true Wl
      go_wp2
      go_meet
      case rel=>exact ⟨_,((((aj aJ a1).f0) != 5)),(by first|rfl|(simp;done)|(simp [*];done)),H',⟨by first|omega|exact Nat.le_refl _⟩,⟨by (with_reducible repeat (first|refine au ?_ _|refine aC ?_|refine ak ?_ _));exact gG.out⟩,⟨by repeat (first|(with_reducible first|exact HB.out|apply ay|apply ai|apply ax|refine aA ?_ lS.out)|exact HB.out)⟩⟩
     ·
      rw [if_neg c9] at H
      exact absurd H (by simp)
    ·
     rw [if_neg c8] at H
     exact absurd H (by simp)
 case rest =>
  clear HC3
  obtain ⟨kq,Hq,rfl,HA,HJ2,gG,HB⟩:=hcut
  cases kq with
  | zero=>exact absurd HA.out (by simp [aN.j0])
  | succ LC =>
   have H:=HA.out
   clear HA
   simp only [aN.j0] at H
   by_cases c11:Hq=true
   ·
    subst c11
    have H1:(some (-1))=some r:=by rw [if_pos rfl] at H;exact H
    clear H
    have H:=H1
    clear H1
    obtain rfl:=Option.some.inj H
    go_wp2
    go_ret
    exact ⟨by first|rfl|(simp [aT,aQ] <;> rfl)|(simp [*,aT,aQ] <;> rfl),by repeat (first|(with_reducible first|exact HB.out|apply ay|apply ai|apply ax|refine aA ?_ lS.out)|exact HB.out)⟩
   ·
    replace c11:=Bool.eq_false_iff.mpr c11
    subst c11
    have H1:(if 0≤a1 then (if a1 < (aJ.length:Int) then ((iL.f LC bC aY aZ aJ ((aj aJ a1).f1)).bind fun t114=>((jc.f LC bC t114).bind fun t115=>(if 0≤t115 then (if 0≤(wrap64 (a1+1)) then (if (wrap64 (a1+1))≤(aJ.length:Int) then ((some (aJ.drop ((wrap64 (a1+1)):Int).toNat:List (iG))).bind fun bQ=>(aN.l0 LC a1 ((aj aJ a1).f1) (wrap64 ((shl .i64 1 t115) - 1)) 0 bQ (bQ.length:Int) 0)) else (none)) else (none)) else (none)))) else (none)) else (none))=some r:=by rw [if_neg (show ¬ (false=true) by decide)] at H;exact H
    clear H
    have H:=H1
    clear H1
    by_cases c12:0≤a1
    ·
     rw [if_pos c12] at H
     have um:decide (0≤a1)=true:=decide_eq_true c12
     clear c12
     by_cases c13:a1 < (aJ.length:Int)
     ·
      rw [if_pos c13] at H
      have pg:decide (a1 < (aJ.length:Int))=true:=decide_eq_true c13
      clear c13
      replace H:=Option.bind_eq_some_iff.mp H
      obtain ⟨t114,Pv,H⟩:=H
      replace H:((jc.f LC bC t114).bind fun t115=>(if 0≤t115 then (if 0≤(wrap64 (a1+1)) then (if (wrap64 (a1+1))≤(aJ.length:Int) then ((some (aJ.drop ((wrap64 (a1+1)):Int).toNat:List (iG))).bind fun bQ=>(aN.l0 LC a1 ((aj aJ a1).f1) (wrap64 ((shl .i64 1 t115) - 1)) 0 bQ (bQ.length:Int) 0)) else (none)) else (none)) else (none)))=some r:=H
      have Yu:=ae.mk Pv
      clear Pv
      replace H:=Option.bind_eq_some_iff.mp H
      obtain ⟨t115,abd,H⟩:=H
      replace H:(if 0≤t115 then (if 0≤(wrap64 (a1+1)) then (if (wrap64 (a1+1))≤(aJ.length:Int) then ((some (aJ.drop ((wrap64 (a1+1)):Int).toNat:List (iG))).bind fun bQ=>(aN.l0 LC a1 ((aj aJ a1).f1) (wrap64 ((shl .i64 1 t115) - 1)) 0 bQ (bQ.length:Int) 0)) else (none)) else (none)) else (none))=some r:=H
      have A15:=ae.mk abd
      clear abd
      by_cases c16:0≤t115
      ·
       rw [if_pos c16] at H
       have xP:=eq_true c16
       have KH:decide (0≤t115)=true:=decide_eq_true c16
       clear c16
       obtain ⟨nO,uj⟩:∃ j_:Int,(shl .i64 1 t115)=j_:=⟨_,rfl⟩
       replace H:(if 0≤(wrap64 (a1+1)) then (if (wrap64 (a1+1))≤(aJ.length:Int) then ((some (aJ.drop ((wrap64 (a1+1)):Int).toNat:List (iG))).bind fun bQ=>(aN.l0 LC a1 ((aj aJ a1).f1) (wrap64 ((nO) - 1)) 0 bQ (bQ.length:Int) 0)) else (none)) else (none))=some r:=by first|(rw [uj] at H;exact H)|(simp only [uj] at H ⊢;exact H)
       (try rw [uj] at Yu)
       (try rw [uj] at A15)
       have NQ:(IntKind.i64.wrap (1 * 2 ^ min t115.toNat 64))=nO:=uj
       have NP:t115≤64→(IntKind.i64.wrap (1 * 2 ^ t115.toNat))=nO:=AV uj
       have agx:(IntKind.i64.wrap (2 ^ min t115.toNat 64))=nO:=by have h_:=NQ;rw [Int.one_mul] at h_;exact h_
       have agw:t115≤64→(IntKind.i64.wrap (2 ^ t115.toNat))=nO:=fun Xb=>by have h_:=NP Xb;rw [Int.one_mul] at h_;exact h_
       have agu:(wrap64 (1 * 2 ^ min t115.toNat 64))=nO:=(bY _).symm.trans NQ
       have agv:t115≤64→(wrap64 (1 * 2 ^ t115.toNat))=nO:=fun h_=>(bY _).symm.trans (NP h_)
       obtain ⟨tJ,uU⟩:∃ j_:Int,(wrap64 (a1+1))=j_:=⟨_,rfl⟩
       replace H:(if 0≤(tJ) then (if (tJ)≤(aJ.length:Int) then ((some (aJ.drop ((tJ):Int).toNat:List (iG))).bind fun bQ=>(aN.l0 LC a1 ((aj aJ a1).f1) (wrap64 ((nO) - 1)) 0 bQ (bQ.length:Int) 0)) else (none)) else (none))=some r:=by first|(rw [uU] at H;exact H)|(simp only [uU] at H ⊢;exact H)
       (try rw [uU] at Yu)
       (try rw [uU] at A15)
       have agt:(IntKind.i64.wrap (a1+1))=tJ:=(bY _).trans uU
       by_cases c19:0≤(tJ)
       ·
        rw [if_pos c19] at H
        have Bv:=eq_true c19
        have Vp:decide (0≤(tJ))=true:=decide_eq_true c19
        clear c19
        by_cases c20:(tJ)≤(aJ.length:Int)
        ·
         rw [if_pos c20] at H
         have OG:=eq_true c20
         have Vo:decide ((tJ)≤(aJ.length:Int))=true:=decide_eq_true c20
         clear c20
         obtain ⟨bQ,EU⟩:∃ y_:List (iG),y_=(aJ.drop ((tJ):Int).toNat):=⟨_,rfl⟩
         replace H:(aN.l0 LC a1 ((aj aJ a1).f1) (wrap64 ((nO) - 1)) 0 bQ (bQ.length:Int) 0)=some r:=by first|(rw [EU];with_reducible exact H)|(have Eo:=(Option.bind_some _ _).symm.trans H;rw [EU];with_reducible exact Eo)|(have Eo:=(Option.bind_some _ _).symm.trans H;with_reducible exact Eo)|with_reducible exact H|(rw [EU];exact H)|exact H
         have Vx:=ae.mk EU
         clear EU
         have H':=ae.mk H
         clear H
         have DW:wc.cell? ⟨kW,0,none⟩=some (.slice eP bC.length eH):=(ah gG.out 0).trans rfl
         have DV:wc.cell? ⟨kW,1,none⟩=some (.string aY):=(ah gG.out 1).trans rfl
         have DU:wc.cell? ⟨kW,2,none⟩=some (.string aZ):=(ah gG.out 2).trans rfl
         have DT:wc.cell? ⟨kW,3,none⟩=some (.slice gy aJ.length fB):=(ah gG.out 3).trans rfl
         have Dz:=ag gG.out 0
         have Dy:=ag gG.out 1
         have Dx:=ag gG.out 2
         have Dw:=ag gG.out 3
         have WC:0≤(a1:Int):=of_decide_eq_true (by first|(with_reducible assumption)|assumption)
         have Wj:a1 < (aJ.length:Int):=of_decide_eq_true (by first|(with_reducible assumption)|assumption)
         obtain ⟨qQ,ahg,Dk,Dj,Di,Dh,Df⟩:=vM jR.out a1 WC Wj
         cases ahg
         replace Dk:=(HB.out.cell (World.block_lt_of_cell? w _ Dk)).trans Dk
         replace Dj:=(HB.out.cell (World.block_lt_of_cell? w _ Dj)).trans Dj
         replace Di:=(HB.out.cell (World.block_lt_of_cell? w _ Di)).trans Di
         replace Dh:=(HB.out.cell (World.block_lt_of_cell? w _ Dh)).trans Dh
         replace Df:=(HB.out.cell (World.block_lt_of_cell? w _ Df)).trans Df
         replace WC:=eq_true WC
         replace Wj:=eq_true Wj
         try go_wp2
         have eU:=ae.mk (aC gG.out)
         have eQ:=ae.mk (ax HB.out)
         clear gG
         clear HB
         have gG:=eU
         have HB:=eQ
         clear eU eQ
         refine qy (n:=9) (S:=fun w'=>w'.cell? ⟨kW,0,none⟩=some (.slice eP bC.length eH)∧w'.cell? ⟨kW,1,none⟩=some (.string aY)∧w'.cell? ⟨kW,2,none⟩=some (.string aZ)∧w'.cell? ⟨kW,3,none⟩=some (.slice (some qQ) aJ.length fB)) (ds:=[]) #[false,false,false,false,false,false,false,false,false] (by kernel_rfl) rfl rfl ⟨(ah gG.out 0).trans rfl,(ah gG.out 1).trans rfl,(ah gG.out 2).trans rfl,(ah gG.out 3).trans rfl⟩ (fun hHeld=>?_);refine mF aN.afQ aN.aao (fun jh tN=>?_)
         generalize wc.drew=w22 at gG HB hHeld ⊢
         refine iC (i:=0) (N:=some 34) (v:=?_) (a':=?_) #[true,false,false,false,false,false,false,false,false] rfl rfl (gq jh.out (by kernel_rfl)) (fun _ _ _ h=>h) (Or.inl ⟨by rfl,?_⟩) ?_ ?_
         rotate_left
         ·
          intro w'
          go_simp
          with_reducible rfl
         rotate_left
         ·
          simp only [Act.put,List.setIfInBounds_toArray,List.set_cons_zero,List.set_cons_succ,bY,bZ]
          rfl
         refine iC (i:=3) (N:=some 37) (v:=?_) (a':=?_) #[true,false,false,true,false,false,false,false,false] rfl rfl (gq jh.out (by kernel_rfl)) (fun _ _ _ h=>h) (Or.inl ⟨by rfl,?_⟩) ?_ ?_
         rotate_left
         ·
          intro w'
          go_simp
          with_reducible rfl
         rotate_left
         ·
          simp only [Act.put,List.setIfInBounds_toArray,List.set_cons_zero,List.set_cons_succ,bY,bZ]
          rfl
         refine kM (i:=1) (N:=some 35) (v:=?_) (a':=?_) #[true,true,false,true,false,false,false,false,false] rfl rfl (iO jh.out tN.out (by kernel_rfl)) (fun _ _ _ h=>h) (Or.inl ⟨by rfl,?_⟩) hHeld ?_ ?_
         rotate_left
         ·
          rintro w' ⟨s0,s1,s2,s3⟩
          go_simp
          with_reducible rfl
         rotate_left
         ·
          simp only [Act.put,List.setIfInBounds_toArray,List.set_cons_zero,List.set_cons_succ,bY,bZ]
          rfl
         refine kM (i:=2) (N:=some 36) (v:=?_) (a':=?_) #[true,true,true,true,false,false,false,false,false] rfl rfl (iO jh.out tN.out (by kernel_rfl)) (fun _ _ _ h=>h) (Or.inl ⟨by rfl,?_⟩) hHeld ?_ ?_
         rotate_left
         ·
          rintro w' ⟨s0,s1,s2,s3⟩
          go_simp
          with_reducible rfl
         rotate_left
         ·
          simp only [Act.put,List.setIfInBounds_toArray,List.set_cons_zero,List.set_cons_succ,bY,bZ]
          rfl
         refine oD (i:=4) (N:=some 38) #[true,true,true,true,true,false,false,false,false] rfl rfl (kG jh.out (by kernel_rfl)) (by decide) (fun K hK=>?_)
         refine nR Tryd.func21 (by kernel_rfl) rfl #[.agg #[.slice eP bC.length eH,.string aY,.string aZ,.slice (some qQ) aJ.length fB],.int .u8 ((aj aJ a1).f1)] (by rfl) rfl rfl (by (try simp only [List.map_toArray,List.map_cons,List.map_nil]);first|done|rfl|(simp only [List.length_drop,List.length_take];rfl)) ?_
         with_reducible refine (iL.calls LC _ _ bC aY aZ _ _ aJ ((aj aJ a1).f1) t114 _ ?dR ?dU ?jq ?jo Yu.out).mono ?_
         (case dR=>repeat (first|exact (Kd.bW ji.out HB.out)|(with_reducible refine Kd.dA ?_ _)|(with_reducible refine Kd.dL ?_ _)|(with_reducible refine Kd.dW ?_)))
         (case dU=>exact jr.out)
         (case jq=>repeat (first|exact (Kd.bW jR.out HB.out)|(with_reducible refine Kd.dA ?_ _)|(with_reducible refine Kd.dL ?_ _)|(with_reducible refine Kd.dW ?_)))
         (case jo=>exact lD.out)
         rintro e vT ⟨rfl,hb⟩
         refine ⟨_,rfl,?_⟩
         have eU:=ae.mk (bK (g:=kW) (o:=.cells #[.slice eP bC.length eH,.string aY,.string aZ,.slice (some qQ) aJ.length fB] 25 (0,0)) (by (with_reducible repeat (first|refine au ?_ _|refine aC ?_|refine ak ?_ _));exact gG.out) hb)
         have eQ:=ae.mk (bz (by repeat (first|(with_reducible first|exact HB.out|apply ay|apply ai|apply ax|refine aA ?_ lS.out)|exact HB.out)) hb)
         clear gG
         clear HB
         have gG:=eU
         have HB:=eQ
         clear eU eQ
         (try clear hb)
         (try clear hb2)
         (try clear hk)
         (try clear hi)
         refine hK.out _ _ ⟨(ah gG.out 0).trans rfl,(ah gG.out 1).trans rfl,(ah gG.out 2).trans rfl,(ah gG.out 3).trans rfl⟩ (fun hHeld=>?_)
         clear hK K
         refine je (a':=?_) ?_ ?_
         rotate_left
         ·
          show Act.put _ (some 38) _=_
          simp only [Act.put,List.setIfInBounds_toArray,List.set_cons_zero,List.set_cons_succ,bY,bZ]
          rfl
         refine oD (i:=5) (N:=some 39) #[true,true,true,true,true,true,false,false,false] rfl rfl (kG jh.out (by kernel_rfl)) (by decide) (fun K hK=>?_)
         refine nR Tryd.func20 (by kernel_rfl) rfl #[.slice eP bC.length eH,.int .i64 t114] (by rfl) rfl rfl (by (try simp only [List.map_toArray,List.map_cons,List.map_nil]);first|done|rfl|(simp only [List.length_drop,List.length_take];rfl)) ?_
         with_reducible refine (jc.calls LC _ _ bC t114 t115 _ ?dR ?dU A15.out).mono ?_
         (case dR=>repeat (first|exact (Kd.bW ji.out HB.out)|(with_reducible refine Kd.dA ?_ _)|(with_reducible refine Kd.dL ?_ _)|(with_reducible refine Kd.dW ?_)))
         (case dU=>exact jr.out)
         rintro e w' ⟨rfl,⟨nd,rfl⟩⟩
         refine ⟨_,rfl,?_⟩
         refine hK.out _ _ ⟨(ah gG.out 0).trans rfl,(ah gG.out 1).trans rfl,(ah gG.out 2).trans rfl,(ah gG.out 3).trans rfl⟩ (fun hHeld=>?_)
         clear hK K
         refine je (a':=?_) ?_ ?_
         rotate_left
         ·
          show Act.put _ (some 39) _=_
          simp only [Act.put,List.setIfInBounds_toArray,List.set_cons_zero,List.set_cons_succ,bY,bZ]
          rfl
         refine iC (i:=6) (N:=some 40) (v:=?_) (a':=?_) #[true,true,true,true,true,true,true,false,false] rfl rfl (gq jh.out (by kernel_rfl)) (fun _ _ _ h=>h) (Or.inl ⟨by rfl,?_⟩) ?_ ?_
         rotate_left
         ·
          intro w'
          go_simp
          with_reducible rfl
         rotate_left
         ·
          simp only [Act.put,List.setIfInBounds_toArray,List.set_cons_zero,List.set_cons_succ,bY,bZ]
          rfl
         refine iC (i:=7) (N:=some 41) (v:=?_) (a':=?_) #[true,true,true,true,true,true,true,true,false] rfl rfl (gq jh.out (by kernel_rfl)) (fun _ _ _ h=>h) (Or.inl ⟨by rfl,?_⟩) ?_ ?_
         rotate_left
         ·
          intro w'
          go_simp
          with_reducible rfl
         rotate_left
         ·
          simp only [Act.put,List.setIfInBounds_toArray,List.set_cons_zero,List.set_cons_succ,bY,bZ]
          rfl
         refine iC (i:=8) (N:=some 6) (v:=?_) (a':=?_) #[true,true,true,true,true,true,true,true,true] rfl rfl (gq jh.out (by kernel_rfl)) (fun _ _ _ h=>h) (Or.inl ⟨by rfl,?_⟩) ?_ ?_
         rotate_left
         ·
          intro w'
          go_simp
          with_reducible rfl
         rotate_left
         ·
          simp only [Act.put,List.setIfInBounds_toArray,List.set_cons_zero,List.set_cons_succ,bY,bZ]
          rfl
         refine tu (pX jh.out (by kernel_rfl)) ?_
         have Ku:vT.cell? ⟨kW,0,none⟩=some (.slice eP bC.length eH):=(ah gG.out 0).trans rfl
         have Kt:vT.cell? ⟨kW,1,none⟩=some (.string aY):=(ah gG.out 1).trans rfl
         have Kr:vT.cell? ⟨kW,2,none⟩=some (.string aZ):=(ah gG.out 2).trans rfl
         have Kq:vT.cell? ⟨kW,3,none⟩=some (.slice (some qQ) aJ.length fB):=(ah gG.out 3).trans rfl
         have Ju:=ag gG.out 0
         have Jt:=ag gG.out 1
         have Js:=ag gG.out 2
         have Jr:=ag gG.out 3
         have q25:((tJ):Int)≤((aJ.length:Int):Int):=of_decide_eq_true (by first|(with_reducible assumption)|assumption)
         obtain ⟨akd,U0,_,UQ,_⟩:=info_parts WY
         have Du:aJ.length≤fB:=lD.out
         have ZC:Kd.C k39 _ (some qQ) aJ.length aJ:=jR.out
         have age:(0:Int)≤((tJ):Int):=of_decide_eq_true (by first|(with_reducible assumption)|assumption)
         have XA:=Ox (P:=Tryd.prog) 23 39 .i64 Tryd.underlying23 U0 5 UQ (some qQ) aJ.length fB (tJ) age q25
         have NI:=Kd.Ye (m:=((tJ):Int).toNat) (c:=fB) ZC (by omega) Du
         obtain ⟨A25,Ug⟩:∃ A1,A1=(if fB=((tJ):Int).toNat then (some qQ) else ((some qQ):Option Addr).map (·.add (((tJ):Int).toNat * 5))):=⟨_,rfl⟩
         obtain ⟨c25,hc25⟩:∃ c1,c1=fB - ((tJ):Int).toNat:=⟨_,rfl⟩
         have hy25:bQ.length=aJ.length - ((tJ):Int).toNat:=(by rw [Vx.out,List.length_drop] <;> omega)
         rw [show (aJ).drop ((tJ):Int).toNat=bQ from Vx.out.symm] at NI
         replace NI:Kd.C k39 _ A25 bQ.length bQ:=(by rw [Ug];exact NI)
         rw [← hy25,← Ug,← hc25] at XA
         have aaC:=ae.mk NI
         have ajo:=ae.mk (show bQ.length≤c25 from by rw [hy25,hc25];exact Nat.sub_le_sub_right Du _)
         clear NI ZC Du U0 UQ hc25
         have akW:=ae.mk hy25
         have akX:=ae.mk Ug
         clear hy25 Ug
         replace q25:=eq_true q25
         try go_wp2
         go_loopg [7,48] LC (fun kq v7 v48 w'=>∃ (kY:Int) (bn:Int),v7=.int .i64 kY∧v48=.int .i64 bn∧ae (aN.l0 kq a1 ((aj aJ a1).f1) (wrap64 ((nO) - 1)) kY bQ (bQ.length:Int) bn=some r)∧ae (kq≤LC)∧ae (w'.heap[kW]? = some (.cells #[(.slice eP bC.length eH),.string aY,.string aZ,(.slice (some qQ) aJ.length fB)] 25 (0,0)))∧ae (Below w.heap.size w w'))
         case atStart=>exact ⟨(0),(0),(by first|rfl|(simp;done)|(simp [*];done)),(by first|rfl|(simp;done)|(simp [*];done)),H',⟨Nat.le_refl _⟩,⟨by (with_reducible repeat (first|refine au ?_ _|refine aC ?_|refine ak ?_ _));exact gG.out⟩,⟨by repeat (first|(with_reducible first|exact HB.out|apply ay|apply ai|apply ax|refine aA ?_ lS.out)|exact HB.out)⟩⟩
         case round =>
          clear H'
          obtain ⟨kY,bn,rfl,rfl,HA,rJ,gG,HB⟩:=hrel
          cases gk with
          | zero=>exact absurd HA.out (by simp [aN.l0])
          | succ k2 =>
           have H:=HA.out
           clear HA
           simp only [aN.l0] at H
           by_cases KG:bn < (bQ.length:Int)
           ·
            rw [if_pos KG] at H
            have zN:decide (bn < (bQ.length:Int))=true:=decide_eq_true KG
            clear KG
            by_cases c27:0≤bn
            ·
             rw [if_pos c27] at H
             have aiY:decide (0≤bn)=true:=decide_eq_true c27
             clear c27
             by_cases c28:bn < (bQ.length:Int)
             ·
              rw [if_pos c28] at H
              have aiX:decide (bn < (bQ.length:Int))=true:=decide_eq_true c28
              clear c28
              have Yb:=ae.mk H
              clear H
              have WB:0≤(bn:Int):=of_decide_eq_true (by first|(with_reducible assumption)|assumption)
              have Wi:bn < (bQ.length:Int):=of_decide_eq_true (by first|(with_reducible assumption)|assumption)
              obtain ⟨ai3,e120,Dc,C9,CZ,CY,CX⟩:=vM aaC.out bn WB Wi
              cases e120
              replace Dc:=(HB.out.cell (World.block_lt_of_cell? w _ Dc)).trans Dc
              replace C9:=(HB.out.cell (World.block_lt_of_cell? w _ C9)).trans C9
              replace CZ:=(HB.out.cell (World.block_lt_of_cell? w _ CZ)).trans CZ
              replace CY:=(HB.out.cell (World.block_lt_of_cell? w _ CY)).trans CY
              replace CX:=(HB.out.cell (World.block_lt_of_cell? w _ CX)).trans CX
              replace WB:=eq_true WB
              replace Wi:=eq_true Wi
              go_upto_if 55 with (first|((with_reducible refine bI (N:=9) rfl ?_);(try (refine iP (by rfl) ?_;dsimp only));refine dZ ?hg (N:=9) ?hd (cs:=#[.int .u8 0,.int .u8 0,.int .u8 0,.int .u8 0,.int .i64 0]) (t:=39) ?hr ?_;(case hd=>rfl);(case hg=>rfl);(case hr=>first|(go_simp;done)|(go_simp;rfl));intro jb hg VS hbox hb;have eU:=ae.mk (bK (g:=kW) (o:=.cells #[.slice eP bC.length eH,.string aY,.string aZ,.slice (some qQ) aJ.length fB] 25 (0,0)) (by (with_reducible repeat (first|refine au ?_ _|refine aC ?_|refine ak ?_ _));exact gG.out) hb);have eQ:=ae.mk (bz (by repeat (first|(with_reducible first|exact HB.out|apply ay|apply ai|apply ax|refine aA ?_ lS.out)|exact HB.out)) hb);have eu:=ae.mk (hbox);have ig:=ae.mk ((by rw [hg];exact (cu (by repeat (first|(with_reducible first|exact HB.out|apply ay|apply ai|apply ax|refine aA ?_ lS.out)|exact HB.out))):w.heap.size≤jb));have mW:=ig;have mM:=ae.mk ((by rw [hg];exact Nat.ne_of_lt (jJ (g:=kW) (o:=.cells #[.slice eP bC.length eH,.string aY,.string aZ,.slice (some qQ) aJ.length fB] 25 (0,0)) (by (with_reducible repeat (first|refine au ?_ _|refine aC ?_|refine ak ?_ _));exact gG.out)):kW ≠ jb));have nD:=ae.mk mM.out.symm;clear gG;clear HB;have gG:=eU;have HB:=eQ;have fM:=eu;have ajD:=ig;have pq:=mW;have iw:=mM;have oq:=nD;clear eU eQ eu ig mW mM nD;clear hb hbox hg;have UW:=oq.out;have UT:=iw.out;have JY:VS.cell? ⟨jb,0,none⟩=some (.int .u8 0):=(ah fM.out 0).trans rfl;have JX:VS.cell? ⟨jb,1,none⟩=some (.int .u8 0):=(ah fM.out 1).trans rfl;have JW:VS.cell? ⟨jb,2,none⟩=some (.int .u8 0):=(ah fM.out 2).trans rfl;have JV:VS.cell? ⟨jb,3,none⟩=some (.int .u8 0):=(ah fM.out 3).trans rfl;have Tm:VS.cell? ⟨jb,4,none⟩=some (.int .i64 0):=(ah fM.out 4).trans rfl;have Jh:=ag fM.out 0;have Jg:=ag fM.out 1;have Jf:=ag fM.out 2;have Je:=ag fM.out 3;have QV:=ag fM.out 4))
              (try simp only [Act.put,List.setIfInBounds_toArray,List.set_cons_zero,List.set_cons_succ])
              go_cut [55] (fun v55 wc=>∃ (kq:Nat) (BL:Bool),v55=.bool BL∧ae (aN.j2 kq a1 ((aj aJ a1).f1) (wrap64 ((nO) - 1)) kY bn bQ (bQ.length:Int) bn ((aj bQ bn).f0) BL ((aj bQ bn).f0) ((aj bQ bn).f1) ((aj bQ bn).f2) ((aj bQ bn).f3) ((aj bQ bn).f4)=some r)∧ae (kq≤k2)∧ae (wc.heap[kW]? = some (.cells #[(.slice eP bC.length eH),.string aY,.string aZ,(.slice (some qQ) aJ.length fB)] 25 (0,0)))∧ae (wc.heap[jb]? = some (.cells #[.int .u8 ((aj bQ bn).f0),.int .u8 ((aj bQ bn).f1),.int .u8 ((aj bQ bn).f2),.int .u8 ((aj bQ bn).f3),.int .i64 ((aj bQ bn).f4)] 39 (0,0)))∧ae (Below w.heap.size w wc))
              case first =>
               have H:=Yb.out
               clear Yb
               by_cases XO:((aj bQ bn).f0)=1
               ·
                rw [if_pos XO] at H
                have FB:(((aj bQ bn).f0) == 1)=true:=beq_iff_eq.mpr XO
                have Z8:(((aj bQ bn).f0) != 1)=false:=bne_eq_false_iff_eq.mpr XO
                clear XO
                (first|rw [FB]|(simp only [bY,bZ];rw [FB])|skip)
                have H':=ae.mk H
                clear H
                go_wp2
                go_meet
                case rel=>exact ⟨_,((((aj bQ bn).f0) == 1)),(by first|rfl|(simp;done)|(simp [*];done)),H',⟨by have:=HJ2.out;have:=rJ.out;first|omega|exact Nat.le_refl _⟩,⟨by (with_reducible repeat (first|refine au ?_ _|refine aC ?_|refine ak ?_ _));refine fA ?_ iw.out _;(with_reducible repeat (first|refine au ?_ _|refine aC ?_|refine ak ?_ _));refine fA ?_ iw.out _;(with_reducible repeat (first|refine au ?_ _|refine aC ?_|refine ak ?_ _));refine fA ?_ iw.out _;(with_reducible repeat (first|refine au ?_ _|refine aC ?_|refine ak ?_ _));refine fA ?_ iw.out _;(with_reducible repeat (first|refine au ?_ _|refine aC ?_|refine ak ?_ _));refine fA ?_ iw.out _;(with_reducible repeat (first|refine au ?_ _|refine aC ?_|refine ak ?_ _));exact gG.out⟩,⟨by (with_reducible repeat (first|refine au ?_ _|refine aC ?_|refine ak ?_ _));refine dw (cs:=#[.int .u8 ((aj bQ bn).f0),.int .u8 ((aj bQ bn).f1),.int .u8 ((aj bQ bn).f2),.int .u8 ((aj bQ bn).f3),.int .i64 0]) ?_ 4 _ rfl;(with_reducible repeat (first|refine au ?_ _|refine aC ?_|refine ak ?_ _));refine dw (cs:=#[.int .u8 ((aj bQ bn).f0),.int .u8 ((aj bQ bn).f1),.int .u8 ((aj bQ bn).f2),.int .u8 0,.int .i64 0]) ?_ 3 _ rfl;(with_reducible repeat (first|refine au ?_ _|refine aC ?_|refine ak ?_ _));refine dw (cs:=#[.int .u8 ((aj bQ bn).f0),.int .u8 ((aj bQ bn).f1),.int .u8 0,.int .u8 0,.int .i64 0]) ?_ 2 _ rfl;(with_reducible repeat (first|refine au ?_ _|refine aC ?_|refine ak ?_ _));refine dw (cs:=#[.int .u8 ((aj bQ bn).f0),.int .u8 0,.int .u8 0,.int .u8 0,.int .i64 0]) ?_ 1 _ rfl;(with_reducible repeat (first|refine au ?_ _|refine aC ?_|refine ak ?_ _));refine dw (cs:=#[.int .u8 0,.int .u8 0,.int .u8 0,.int .u8 0,.int .i64 0]) ?_ 0 _ rfl;(with_reducible repeat (first|refine au ?_ _|refine aC ?_|refine ak ?_ _));exact fM.out⟩,⟨by repeat (first|(with_reducible first|exact HB.out|apply ay|apply ai|apply ax|refine aA ?_ lS.out|refine aA ?_ pq.out)|exact HB.out)⟩⟩
               ·
                rw [if_neg XO] at H
                have FB:(((aj bQ bn).f0) == 1)=false:=beq_eq_false_iff_ne.mpr XO
                have Z8:(((aj bQ bn).f0) != 1)=true:=bne_iff_ne.mpr XO
                (first|rw [FB]|(simp only [bY,bZ];rw [FB])|skip)
                by_cases c34:((aj bQ bn).f0)=2
                ·
                 rw [if_pos c34] at H
                 have Z7:(((aj bQ bn).f0) == 2)=true:=beq_iff_eq.mpr c34
                 have Z5:(((aj bQ bn).f0) != 2)=false:=bne_eq_false_iff_eq.mpr c34
                 clear c34
                 have H':=ae.mk H
                 clear H
                 go_wp2
                 go_meet
                 case rel=>exact ⟨_,((((aj bQ bn).f0) == 2)),(by first|rfl|(simp;done)|(simp [*];done)),H',⟨by have:=HJ2.out;have:=rJ.out;first|omega|exact Nat.le_refl _⟩,⟨by (with_reducible repeat (first|refine au ?_ _|refine aC ?_|refine ak ?_ _));refine fA ?_ iw.out _;(with_reducible repeat (first|refine au ?_ _|refine aC ?_|refine ak ?_ _));refine fA ?_ iw.out _;(with_reducible repeat (first|refine au ?_ _|refine aC ?_|refine ak ?_ _));refine fA ?_ iw.out _;(with_reducible repeat (first|refine au ?_ _|refine aC ?_|refine ak ?_ _));refine fA ?_ iw.out _;(with_reducible repeat (first|refine au ?_ _|refine aC ?_|refine ak ?_ _));refine fA ?_ iw.out _;(with_reducible repeat (first|refine au ?_ _|refine aC ?_|refine ak ?_ _));exact gG.out⟩,⟨by (with_reducible repeat (first|refine au ?_ _|refine aC ?_|refine ak ?_ _));refine dw (cs:=#[.int .u8 ((aj bQ bn).f0),.int .u8 ((aj bQ bn).f1),.int .u8 ((aj bQ bn).f2),.int .u8 ((aj bQ bn).f3),.int .i64 0]) ?_ 4 _ rfl;(with_reducible repeat (first|refine au ?_ _|refine aC ?_|refine ak ?_ _));refine dw (cs:=#[.int .u8 ((aj bQ bn).f0),.int .u8 ((aj bQ bn).f1),.int .u8 ((aj bQ bn).f2),.int .u8 0,.int .i64 0]) ?_ 3 _ rfl;(with_reducible repeat (first|refine au ?_ _|refine aC ?_|refine ak ?_ _));refine dw (cs:=#[.int .u8 ((aj bQ bn).f0),.int .u8 ((aj bQ bn).f1),.int .u8 0,.int .u8 0,.int .i64 0]) ?_ 2 _ rfl;(with_reducible repeat (first|refine au ?_ _|refine aC ?_|refine ak ?_ _));refine dw (cs:=#[.int .u8 ((aj bQ bn).f0),.int .u8 0,.int .u8 0,.int .u8 0,.int .i64 0]) ?_ 1 _ rfl;(with_reducible repeat (first|refine au ?_ _|refine aC ?_|refine ak ?_ _));refine dw (cs:=#[.int .u8 0,.int .u8 0,.int .u8 0,.int .u8 0,.int .i64 0]) ?_ 0 _ rfl;(with_reducible repeat (first|refine au ?_ _|refine aC ?_|refine ak ?_ _));exact fM.out⟩,⟨by repeat (first|(with_reducible first|exact HB.out|apply ay|apply ai|apply ax|refine aA ?_ lS.out|refine aA ?_ pq.out)|exact HB.out)⟩⟩
                ·
                 rw [if_neg c34] at H
                 have Z7:(((aj bQ bn).f0) == 2)=false:=beq_eq_false_iff_ne.mpr c34
                 have Z5:(((aj bQ bn).f0) != 2)=true:=bne_iff_ne.mpr c34
                 by_cases XN:((aj bQ bn).f0)=14
                 ·
                  rw [if_pos XN] at H
                  have Z4:(((aj bQ bn).f0) == 14)=true:=beq_iff_eq.mpr XN
                  have ZZ:(((aj bQ bn).f0) != 14)=false:=bne_eq_false_iff_eq.mpr XN
                  clear XN
                  have H':=ae.mk H
                  clear H
                  go_wp2
                  go_meet
                  case rel=>exact ⟨_,((((aj bQ bn).f0) == 14)),(by first|rfl|(simp;done)|(simp [*];done)),H',⟨by have:=HJ2.out;have:=rJ.out;first|omega|exact Nat.le_refl _⟩,⟨by (with_reducible repeat (first|refine au ?_ _|refine aC ?_|refine ak ?_ _));refine fA ?_ iw.out _;(with_reducible repeat (first|refine au ?_ _|refine aC ?_|refine ak ?_ _));refine fA ?_ iw.out _;(with_reducible repeat (first|refine au ?_ _|refine aC ?_|refine ak ?_ _));refine fA ?_ iw.out _;(with_reducible repeat (first|refine au ?_ _|refine aC ?_|refine ak ?_ _));refine fA ?_ iw.out _;(with_reducible repeat (first|refine au ?_ _|refine aC ?_|refine ak ?_ _));refine fA ?_ iw.out _;(with_reducible repeat (first|refine au ?_ _|refine aC ?_|refine ak ?_ _));exact gG.out⟩,⟨by (with_reducible repeat (first|refine au ?_ _|refine aC ?_|refine ak ?_ _));refine dw (cs:=#[.int .u8 ((aj bQ bn).f0),.int .u8 ((aj bQ bn).f1),.int .u8 ((aj bQ bn).f2),.int .u8 ((aj bQ bn).f3),.int .i64 0]) ?_ 4 _ rfl;(with_reducible repeat (first|refine au ?_ _|refine aC ?_|refine ak ?_ _));refine dw (cs:=#[.int .u8 ((aj bQ bn).f0),.int .u8 ((aj bQ bn).f1),.int .u8 ((aj bQ bn).f2),.int .u8 0,.int .i64 0]) ?_ 3 _ rfl;(with_reducible repeat (first|refine au ?_ _|refine aC ?_|refine ak ?_ _));refine dw (cs:=#[.int .u8 ((aj bQ bn).f0),.int .u8 ((aj bQ bn).f1),.int .u8 0,.int .u8 0,.int .i64 0]) ?_ 2 _ rfl;(with_reducible repeat (first|refine au ?_ _|refine aC ?_|refine ak ?_ _));refine dw (cs:=#[.int .u8 ((aj bQ bn).f0),.int .u8 0,.int .u8 0,.int .u8 0,.int .i64 0]) ?_ 1 _ rfl;(with_reducible repeat (first|refine au ?_ _|refine aC ?_|refine ak ?_ _));refine dw (cs:=#[.int .u8 0,.int .u8 0,.int .u8 0,.int .u8 0,.int .i64 0]) ?_ 0 _ rfl;(with_reducible repeat (first|refine au ?_ _|refine aC ?_|refine ak ?_ _));exact fM.out⟩,⟨by repeat (first|(with_reducible first|exact HB.out|apply ay|apply ai|apply ax|refine aA ?_ lS.out|refine aA ?_ pq.out)|exact HB.out)⟩⟩
                 ·
                  rw [if_neg XN] at H
                  have Z4:(((aj bQ bn).f0) == 14)=false:=beq_eq_false_iff_ne.mpr XN
                  have ZZ:(((aj bQ bn).f0) != 14)=true:=bne_iff_ne.mpr XN
                  have H':=ae.mk H
                  clear H
                  go_wp2
                  go_meet
                  case rel=>exact ⟨_,((((aj bQ bn).f0) == 15)),(by first|rfl|(simp;done)|(simp [*];done)),H',⟨by have:=HJ2.out;have:=rJ.out;first|omega|exact Nat.le_refl _⟩,⟨by (with_reducible repeat (first|refine au ?_ _|refine aC ?_|refine ak ?_ _));refine fA ?_ iw.out _;(with_reducible repeat (first|refine au ?_ _|refine aC ?_|refine ak ?_ _));refine fA ?_ iw.out _;(with_reducible repeat (first|refine au ?_ _|refine aC ?_|refine ak ?_ _));refine fA ?_ iw.out _;(with_reducible repeat (first|refine au ?_ _|refine aC ?_|refine ak ?_ _));refine fA ?_ iw.out _;(with_reducible repeat (first|refine au ?_ _|refine aC ?_|refine ak ?_ _));refine fA ?_ iw.out _;(with_reducible repeat (first|refine au ?_ _|refine aC ?_|refine ak ?_ _));exact gG.out⟩,⟨by (with_reducible repeat (first|refine au ?_ _|refine aC ?_|refine ak ?_ _));refine dw (cs:=#[.int .u8 ((aj bQ bn).f0),.int .u8 ((aj bQ bn).f1),.int .u8 ((aj bQ bn).f2),.int .u8 ((aj bQ bn).f3),.int .i64 0]) ?_ 4 _ rfl;(with_reducible repeat (first|refine au ?_ _|refine aC ?_|refine ak ?_ _));refine dw (cs:=#[.int .u8 ((aj bQ bn).f0),.int .u8 ((aj bQ bn).f1),.int .u8 ((aj bQ bn).f2),.int .u8 0,.int .i64 0]) ?_ 3 _ rfl;(with_reducible repeat (first|refine au ?_ _|refine aC ?_|refine ak ?_ _));refine dw (cs:=#[.int .u8 ((aj bQ bn).f0),.int .u8 ((aj bQ bn).f1),.int .u8 0,.int .u8 0,.int .i64 0]) ?_ 2 _ rfl;(with_reducible repeat (first|refine au ?_ _|refine aC ?_|refine ak ?_ _));refine dw (cs:=#[.int .u8 ((aj bQ bn).f0),.int .u8 0,.int .u8 0,.int .u8 0,.int .i64 0]) ?_ 1 _ rfl;(with_reducible repeat (first|refine au ?_ _|refine aC ?_|refine ak ?_ _));refine dw (cs:=#[.int .u8 0,.int .u8 0,.int .u8 0,.int .u8 0,.int .i64 0]) ?_ 0 _ rfl;(with_reducible repeat (first|refine au ?_ _|refine aC ?_|refine ak ?_ _));exact fM.out⟩,⟨by repeat (first|(with_reducible first|exact HB.out|apply ay|apply ai|apply ax|refine aA ?_ lS.out|refine aA ?_ pq.out)|exact HB.out)⟩⟩
              case rest =>
               clear Yb
               obtain ⟨kq,BL,rfl,HA,xA,gG,fM,HB⟩:=hcut
               cases kq with
               | zero=>exact absurd HA.out (by simp [aN.j2])
               | succ Ny =>
                have H:=HA.out
                clear HA
                simp only [aN.j2] at H
                by_cases c36:BL=true
                ·
                 subst c36
                 have H1:(aN.l0 Ny a1 ((aj aJ a1).f1) (wrap64 ((nO) - 1)) kY bQ (bQ.length:Int) (wrap64 (bn+1)))=some r:=by rw [if_pos rfl] at H;exact H
                 clear H
                 have H:=H1
                 clear H1
                 have H':=ae.mk H
                 clear H
                 go_wp2
                 go_roundg Ny
                 case measure=>have:=HJ2.out;have:=rJ.out;have:=xA.out;omega
                 case rel=>exact ⟨(kY),(wrap64 (bn+1)),(by first|rfl|(simp;done)|(simp [*];done)),(by first|rfl|(simp;done)|(simp [*];done)),H',⟨by have:=HJ2.out;have:=rJ.out;have:=xA.out;omega⟩,⟨by (with_reducible repeat (first|refine au ?_ _|refine aC ?_|refine ak ?_ _));exact gG.out⟩,⟨by repeat (first|(with_reducible first|exact HB.out|apply ay|apply ai|apply ax|refine aA ?_ lS.out|refine aA ?_ pq.out)|exact HB.out)⟩⟩
                ·
                 replace c36:=Bool.eq_false_iff.mpr c36
                 subst c36
                 have H1:(if ((aj bQ bn).f0)=6 then (aN.j3 Ny a1 ((aj aJ a1).f1) (wrap64 ((nO) - 1)) kY bn bQ (bQ.length:Int) bn ((aj bQ bn).f0) (((aj bQ bn).f0) == 6) ((aj bQ bn).f0) ((aj bQ bn).f1) ((aj bQ bn).f2) ((aj bQ bn).f3) ((aj bQ bn).f4)) else (aN.j3 Ny a1 ((aj aJ a1).f1) (wrap64 ((nO) - 1)) kY bn bQ (bQ.length:Int) bn ((aj bQ bn).f0) (((aj bQ bn).f0) == 7) ((aj bQ bn).f0) ((aj bQ bn).f1) ((aj bQ bn).f2) ((aj bQ bn).f3) ((aj bQ bn).f4)))=some r:=by rw [if_neg (show ¬ (false=true) by decide)] at H;exact H
                 clear H
                 have H:=H1
                 clear H1
                 have X9:=ae.mk H
                 clear H
                 go_upto_if 60 with (fail)
                 go_cut [60] (fun v60 wc=>∃ (kq:Nat) (BK:Bool),v60=.bool BK∧ae (aN.j3 kq a1 ((aj aJ a1).f1) (wrap64 ((nO) - 1)) kY bn bQ (bQ.length:Int) bn ((aj bQ bn).f0) BK ((aj bQ bn).f0) ((aj bQ bn).f1) ((aj bQ bn).f2) ((aj bQ bn).f3) ((aj bQ bn).f4)=some r)∧ae (kq≤Ny)∧ae (wc.heap[kW]? = some (.cells #[(.slice eP bC.length eH),.string aY,.string aZ,(.slice (some qQ) aJ.length fB)] 25 (0,0)))∧ae (wc.heap[jb]? = some (.cells #[.int .u8 ((aj bQ bn).f0),.int .u8 ((aj bQ bn).f1),.int .u8 ((aj bQ bn).f2),.int .u8 ((aj bQ bn).f3),.int .i64 ((aj bQ bn).f4)] 39 (0,0)))∧ae (Below w.heap.size w wc))
                 case first =>
                  have H:=X9.out
                  clear X9
                  by_cases zY:((aj bQ bn).f0)=6
                  ·
                   rw [if_pos zY] at H
                   have rX:(((aj bQ bn).f0) == 6)=true:=beq_iff_eq.mpr zY
                   have OC:(((aj bQ bn).f0) != 6)=false:=bne_eq_false_iff_eq.mpr zY
                   clear zY
                   (first|rw [rX]|(simp only [bY,bZ];rw [rX])|skip)
                   have H':=ae.mk H
                   clear H
                   go_wp2
                   go_meet
                   case rel=>exact ⟨_,((((aj bQ bn).f0) == 6)),(by first|rfl|(simp;done)|(simp [*];done)),H',⟨by have:=HJ2.out;have:=rJ.out;have:=xA.out;first|omega|exact Nat.le_refl _⟩,⟨by (with_reducible repeat (first|refine au ?_ _|refine aC ?_|refine ak ?_ _));exact gG.out⟩,⟨by (with_reducible repeat (first|refine au ?_ _|refine aC ?_|refine ak ?_ _));exact fM.out⟩,⟨by repeat (first|(with_reducible first|exact HB.out|apply ay|apply ai|apply ax|refine aA ?_ lS.out|refine aA ?_ pq.out)|exact HB.out)⟩⟩
                  ·
                   rw [if_neg zY] at H
                   have rX:(((aj bQ bn).f0) == 6)=false:=beq_eq_false_iff_ne.mpr zY
                   have OC:(((aj bQ bn).f0) != 6)=true:=bne_iff_ne.mpr zY
                   (first|rw [rX]|(simp only [bY,bZ];rw [rX])|skip)
                   have H':=ae.mk H
                   clear H
                   go_wp2
                   go_meet
                   case rel=>exact ⟨_,((((aj bQ bn).f0) == 7)),(by first|rfl|(simp;done)|(simp [*];done)),H',⟨by have:=HJ2.out;have:=rJ.out;have:=xA.out;first|omega|exact Nat.le_refl _⟩,⟨by (with_reducible repeat (first|refine au ?_ _|refine aC ?_|refine ak ?_ _));exact gG.out⟩,⟨by (with_reducible repeat (first|refine au ?_ _|refine aC ?_|refine ak ?_ _));exact fM.out⟩,⟨by repeat (first|(with_reducible first|exact HB.out|apply ay|apply ai|apply ax|refine aA ?_ lS.out|refine aA ?_ pq.out)|exact HB.out)⟩⟩
                 case rest =>
                  clear X9
                  obtain ⟨kq,BK,rfl,HA,Em,gG,fM,HB⟩:=hcut
                  cases kq with
                  | zero=>exact absurd HA.out (by simp [aN.j3])
                  | succ Nw =>
                   have H:=HA.out
                   clear HA
                   simp only [aN.j3] at H
                   by_cases OB:BK=true
                   ·
                    subst OB
                    have H1:(if ((aj bQ bn).f1)=((aj aJ a1).f1) then (some (-1)) else (aN.l0 Nw a1 ((aj aJ a1).f1) (wrap64 ((nO) - 1)) kY bQ (bQ.length:Int) (wrap64 (bn+1))))=some r:=by rw [if_pos rfl] at H;exact H
                    clear H
                    have H:=H1
                    clear H1
                    by_cases c40:((aj bQ bn).f1)=((aj aJ a1).f1)
                    ·
                     rw [if_pos c40] at H
                     have ZX:(((aj bQ bn).f1) == ((aj aJ a1).f1))=true:=beq_iff_eq.mpr c40
                     have ZW:(((aj bQ bn).f1) != ((aj aJ a1).f1))=false:=bne_eq_false_iff_eq.mpr c40
                     clear c40
                     obtain rfl:=Option.some.inj H
                     have Zi:=oq.out
                     have Y8:=iw.out
                     have SS:wc.cell? ⟨jb,0,none⟩=some (.int .u8 ((aj bQ bn).f0)):=(ah fM.out 0).trans rfl
                     have SQ:wc.cell? ⟨jb,1,none⟩=some (.int .u8 ((aj bQ bn).f1)):=(ah fM.out 1).trans rfl
                     have SN:wc.cell? ⟨jb,2,none⟩=some (.int .u8 ((aj bQ bn).f2)):=(ah fM.out 2).trans rfl
                     have SL:wc.cell? ⟨jb,3,none⟩=some (.int .u8 ((aj bQ bn).f3)):=(ah fM.out 3).trans rfl
                     have SK:wc.cell? ⟨jb,4,none⟩=some (.int .i64 ((aj bQ bn).f4)):=(ah fM.out 4).trans rfl
                     have QL:=ag fM.out 0
                     have QK:=ag fM.out 1
                     have QJ:=ag fM.out 2
                     have QI:=ag fM.out 3
                     have QH:=ag fM.out 4
                     go_wp2
                     go_ret
                     exact ⟨by first|rfl|(simp [aT,aQ] <;> rfl)|(simp only [← uj,← uU];first|rfl|(simp [aT,aQ] <;> rfl))|(simp [*,aT,aQ] <;> rfl),by repeat (first|(with_reducible first|exact HB.out|apply ay|apply ai|apply ax|refine aA ?_ lS.out|refine aA ?_ pq.out)|exact HB.out)⟩
                    ·
                     rw [if_neg c40] at H
                     have ZX:(((aj bQ bn).f1) == ((aj aJ a1).f1))=false:=beq_eq_false_iff_ne.mpr c40
                     have ZW:(((aj bQ bn).f1) != ((aj aJ a1).f1))=true:=bne_iff_ne.mpr c40
                     have H':=ae.mk H
                     clear H
                     have aiq:=oq.out
                     have ah6:=iw.out
                     have SC:wc.cell? ⟨jb,0,none⟩=some (.int .u8 ((aj bQ bn).f0)):=(ah fM.out 0).trans rfl
                     have SB:wc.cell? ⟨jb,1,none⟩=some (.int .u8 ((aj bQ bn).f1)):=(ah fM.out 1).trans rfl
                     have SA:wc.cell? ⟨jb,2,none⟩=some (.int .u8 ((aj bQ bn).f2)):=(ah fM.out 2).trans rfl
                     have Sz:wc.cell? ⟨jb,3,none⟩=some (.int .u8 ((aj bQ bn).f3)):=(ah fM.out 3).trans rfl
                     have Sv:wc.cell? ⟨jb,4,none⟩=some (.int .i64 ((aj bQ bn).f4)):=(ah fM.out 4).trans rfl
                     have QC:=ag fM.out 0
                     have QB:=ag fM.out 1
                     have QA:=ag fM.out 2
                     have Qz:=ag fM.out 3
                     have Qy:=ag fM.out 4
                     go_wp2
                     go_roundg Nw
                     case measure=>have:=HJ2.out;have:=rJ.out;have:=xA.out;have:=Em.out;omega
                     case rel=>exact ⟨(kY),(wrap64 (bn+1)),(by first|rfl|(simp;done)|(simp [*];done)),(by first|rfl|(simp;done)|(simp [*];done)),H',⟨by have:=HJ2.out;have:=rJ.out;have:=xA.out;have:=Em.out;omega⟩,⟨by (with_reducible repeat (first|refine au ?_ _|refine aC ?_|refine ak ?_ _));exact gG.out⟩,⟨by repeat (first|(with_reducible first|exact HB.out|apply ay|apply ai|apply ax|refine aA ?_ lS.out|refine aA ?_ pq.out)|exact HB.out)⟩⟩
                   ·
                    replace OB:=Bool.eq_false_iff.mpr OB
                    subst OB
                    have H1:(if ((aj bQ bn).f0)=9 then (aN.j4 Nw a1 ((aj aJ a1).f1) (wrap64 ((nO) - 1)) kY bn bQ (bQ.length:Int) bn (((aj bQ bn).f0) == 9) ((aj bQ bn).f0) ((aj bQ bn).f1) ((aj bQ bn).f2) ((aj bQ bn).f3) ((aj bQ bn).f4)) else (aN.j4 Nw a1 ((aj aJ a1).f1) (wrap64 ((nO) - 1)) kY bn bQ (bQ.length:Int) bn (((aj bQ bn).f0) == 11) ((aj bQ bn).f0) ((aj bQ bn).f1) ((aj bQ bn).f2) ((aj bQ bn).f3) ((aj bQ bn).f4)))=some r:=by rw [if_neg (show ¬ (false=true) by decide)] at H;exact H
                    clear H
                    have H:=H1
                    clear H1
                    have X8:=ae.mk H
                    clear H
                    go_upto_if 67 with (fail)
                    go_cut [67] (fun v67 wc=>∃ (kq:Nat) (BJ:Bool),v67=.bool BJ∧ae (aN.j4 kq a1 ((aj aJ a1).f1) (wrap64 ((nO) - 1)) kY bn bQ (bQ.length:Int) bn BJ ((aj bQ bn).f0) ((aj bQ bn).f1) ((aj bQ bn).f2) ((aj bQ bn).f3) ((aj bQ bn).f4)=some r)∧ae (kq≤Nw)∧ae (wc.heap[kW]? = some (.cells #[(.slice eP bC.length eH),.string aY,.string aZ,(.slice (some qQ) aJ.length fB)] 25 (0,0)))∧ae (wc.heap[jb]? = some (.cells #[.int .u8 ((aj bQ bn).f0),.int .u8 ((aj bQ bn).f1),.int .u8 ((aj bQ bn).f2),.int .u8 ((aj bQ bn).f3),.int .i64 ((aj bQ bn).f4)] 39 (0,0)))∧ae (Below w.heap.size w wc))
                    case first =>
                     have H:=X8.out
                     clear X8
                     by_cases c46:((aj bQ bn).f0)=9
                     ·
                      rw [if_pos c46] at H
                      have zM:(((aj bQ bn).f0) == 9)=true:=beq_iff_eq.mpr c46
                      have OA:(((aj bQ bn).f0) != 9)=false:=bne_eq_false_iff_eq.mpr c46
                      clear c46
                      (first|rw [zM]|(simp only [bY,bZ];rw [zM])|skip)
                      have H':=ae.mk H
                      clear H
                      go_wp2
                      go_meet
                      case rel=>exact ⟨_,((((aj bQ bn).f0) == 9)),(by first|rfl|(simp;done)|(simp [*];done)),H',⟨by have:=HJ2.out;have:=rJ.out;have:=xA.out;have:=Em.out;first|omega|exact Nat.le_refl _⟩,⟨by (with_reducible repeat (first|refine au ?_ _|refine aC ?_|refine ak ?_ _));exact gG.out⟩,⟨by (with_reducible repeat (first|refine au ?_ _|refine aC ?_|refine ak ?_ _));exact fM.out⟩,⟨by repeat (first|(with_reducible first|exact HB.out|apply ay|apply ai|apply ax|refine aA ?_ lS.out|refine aA ?_ pq.out)|exact HB.out)⟩⟩
                     ·
                      rw [if_neg c46] at H
                      have zM:(((aj bQ bn).f0) == 9)=false:=beq_eq_false_iff_ne.mpr c46
                      have OA:(((aj bQ bn).f0) != 9)=true:=bne_iff_ne.mpr c46
                      (first|rw [zM]|(simp only [bY,bZ];rw [zM])|skip)
                      have H':=ae.mk H
                      clear H
                      go_wp2
                      go_meet
                      case rel=>exact ⟨_,((((aj bQ bn).f0) == 11)),(by first|rfl|(simp;done)|(simp [*];done)),H',⟨by have:=HJ2.out;have:=rJ.out;have:=xA.out;have:=Em.out;first|omega|exact Nat.le_refl _⟩,⟨by (with_reducible repeat (first|refine au ?_ _|refine aC ?_|refine ak ?_ _));exact gG.out⟩,⟨by (with_reducible repeat (first|refine au ?_ _|refine aC ?_|refine ak ?_ _));exact fM.out⟩,⟨by repeat (first|(with_reducible first|exact HB.out|apply ay|apply ai|apply ax|refine aA ?_ lS.out|refine aA ?_ pq.out)|exact HB.out)⟩⟩
                    case rest =>
                     clear X8
                     obtain ⟨kq,BJ,rfl,HA,O4,gG,fM,HB⟩:=hcut
                     cases kq with
                     | zero=>exact absurd HA.out (by simp [aN.j4])
                     | succ Qc =>
                      have H:=HA.out
                      clear HA
                      simp only [aN.j4] at H
                      by_cases Oz:BJ=true
                      ·
                       subst Oz
                       have H1:(if ((aj bQ bn).f1)=((aj aJ a1).f1) then (if ((aj bQ bn).f4) < 0 then (aN.j5 Qc a1 ((aj aJ a1).f1) (wrap64 ((nO) - 1)) kY bn bQ (bQ.length:Int) bn true ((aj bQ bn).f0) ((aj bQ bn).f1) ((aj bQ bn).f2) ((aj bQ bn).f3) ((aj bQ bn).f4)) else (aN.j5 Qc a1 ((aj aJ a1).f1) (wrap64 ((nO) - 1)) kY bn bQ (bQ.length:Int) bn (decide (((aj bQ bn).f4) ≥ 6)) ((aj bQ bn).f0) ((aj bQ bn).f1) ((aj bQ bn).f2) ((aj bQ bn).f3) ((aj bQ bn).f4))) else (aN.j5 Qc a1 ((aj aJ a1).f1) (wrap64 ((nO) - 1)) kY bn bQ (bQ.length:Int) bn true ((aj bQ bn).f0) ((aj bQ bn).f1) ((aj bQ bn).f2) ((aj bQ bn).f3) ((aj bQ bn).f4)))=some r:=by rw [if_pos rfl] at H;exact H
                       clear H
                       have H:=H1
                       clear H1
                       have X7:=ae.mk H
                       clear H
                       go_upto_region 21 with (fail)
                       go_cut [83] (fun v83 wc=>∃ (kq:Nat) (BH:Bool),v83=.bool BH∧ae (aN.j5 kq a1 ((aj aJ a1).f1) (wrap64 ((nO) - 1)) kY bn bQ (bQ.length:Int) bn BH ((aj bQ bn).f0) ((aj bQ bn).f1) ((aj bQ bn).f2) ((aj bQ bn).f3) ((aj bQ bn).f4)=some r)∧ae (kq≤Qc)∧ae (wc.heap[kW]? = some (.cells #[(.slice eP bC.length eH),.string aY,.string aZ,(.slice (some qQ) aJ.length fB)] 25 (0,0)))∧ae (wc.heap[jb]? = some (.cells #[.int .u8 ((aj bQ bn).f0),.int .u8 ((aj bQ bn).f1),.int .u8 ((aj bQ bn).f2),.int .u8 ((aj bQ bn).f3),.int .i64 ((aj bQ bn).f4)] 39 (0,0)))∧ae (Below w.heap.size w wc))
                       case first =>
                        have H:=X7.out
                        clear X7
                        by_cases c49:((aj bQ bn).f1)=((aj aJ a1).f1)
                        ·
                         rw [if_pos c49] at H
                         have Fz:(((aj bQ bn).f1) == ((aj aJ a1).f1))=true:=beq_iff_eq.mpr c49
                         have ZU:(((aj bQ bn).f1) != ((aj aJ a1).f1))=false:=bne_eq_false_iff_eq.mpr c49
                         clear c49
                         (first|rw [Fz]|(simp only [bY,bZ];rw [Fz])|skip)
                         by_cases Ym:((aj bQ bn).f4) < 0
                         ·
                          rw [if_pos Ym] at H
                          have ZT:decide (((aj bQ bn).f4) < 0)=true:=decide_eq_true Ym
                          clear Ym
                          have H':=ae.mk H
                          clear H
                          have ail:=oq.out
                          have ah1:=iw.out
                          have JP:wc.cell? ⟨jb,0,none⟩=some (.int .u8 ((aj bQ bn).f0)):=(ah fM.out 0).trans rfl
                          have JO:wc.cell? ⟨jb,1,none⟩=some (.int .u8 ((aj bQ bn).f1)):=(ah fM.out 1).trans rfl
                          have JM:wc.cell? ⟨jb,2,none⟩=some (.int .u8 ((aj bQ bn).f2)):=(ah fM.out 2).trans rfl
                          have JL:wc.cell? ⟨jb,3,none⟩=some (.int .u8 ((aj bQ bn).f3)):=(ah fM.out 3).trans rfl
                          have Su:wc.cell? ⟨jb,4,none⟩=some (.int .i64 ((aj bQ bn).f4)):=(ah fM.out 4).trans rfl
                          have I9:=ag fM.out 0
                          have I8:=ag fM.out 1
                          have I7:=ag fM.out 2
                          have I5:=ag fM.out 3
                          have Qx:=ag fM.out 4
                          go_wp2
                          go_meet
                          case rel=>exact ⟨_,(true),(by first|rfl|(simp;done)|(simp [*];done)),H',⟨by have:=HJ2.out;have:=rJ.out;have:=xA.out;have:=Em.out;have:=O4.out;first|omega|exact Nat.le_refl _⟩,⟨by (with_reducible repeat (first|refine au ?_ _|refine aC ?_|refine ak ?_ _));exact gG.out⟩,⟨by (with_reducible repeat (first|refine au ?_ _|refine aC ?_|refine ak ?_ _));exact fM.out⟩,⟨by repeat (first|(with_reducible first|exact HB.out|apply ay|apply ai|apply ax|refine aA ?_ lS.out|refine aA ?_ pq.out)|exact HB.out)⟩⟩
                         ·
                          rw [if_neg Ym] at H
                          have ZT:decide (((aj bQ bn).f4) < 0)=false:=decide_eq_false Ym
                          clear Ym
                          have H':=ae.mk H
                          clear H
                          have aik:=oq.out
                          have ah0:=iw.out
                          have aeB:wc.cell? ⟨jb,0,none⟩=some (.int .u8 ((aj bQ bn).f0)):=(ah fM.out 0).trans rfl
                          have aeA:wc.cell? ⟨jb,1,none⟩=some (.int .u8 ((aj bQ bn).f1)):=(ah fM.out 1).trans rfl
                          have aez:wc.cell? ⟨jb,2,none⟩=some (.int .u8 ((aj bQ bn).f2)):=(ah fM.out 2).trans rfl
                          have aey:wc.cell? ⟨jb,3,none⟩=some (.int .u8 ((aj bQ bn).f3)):=(ah fM.out 3).trans rfl
                          have aex:wc.cell? ⟨jb,4,none⟩=some (.int .i64 ((aj bQ bn).f4)):=(ah fM.out 4).trans rfl
                          have ac4:=ag fM.out 0
                          have ac3:=ag fM.out 1
                          have ac2:=ag fM.out 2
                          have ac1:=ag fM.out 3
                          have ac0:=ag fM.out 4
                          go_wp2
                          go_meet
                          case rel=>exact ⟨_,(decide (((aj bQ bn).f4) ≥ 6)),(by first|rfl|(simp;done)|(simp [*];done)),H',⟨by have:=HJ2.out;have:=rJ.out;have:=xA.out;have:=Em.out;have:=O4.out;first|omega|exact Nat.le_refl _⟩,⟨by (with_reducible repeat (first|refine au ?_ _|refine aC ?_|refine ak ?_ _));exact gG.out⟩,⟨by (with_reducible repeat (first|refine au ?_ _|refine aC ?_|refine ak ?_ _));exact fM.out⟩,⟨by repeat (first|(with_reducible first|exact HB.out|apply ay|apply ai|apply ax|refine aA ?_ lS.out|refine aA ?_ pq.out)|exact HB.out)⟩⟩
                        ·
                         rw [if_neg c49] at H
                         have Fz:(((aj bQ bn).f1) == ((aj aJ a1).f1))=false:=beq_eq_false_iff_ne.mpr c49
                         have ZU:(((aj bQ bn).f1) != ((aj aJ a1).f1))=true:=bne_iff_ne.mpr c49
                         (first|rw [Fz]|(simp only [bY,bZ];rw [Fz])|skip)
                         have H':=ae.mk H
                         clear H
                         have Zh:=oq.out
                         have Y7:=iw.out
                         have Sr:wc.cell? ⟨jb,0,none⟩=some (.int .u8 ((aj bQ bn).f0)):=(ah fM.out 0).trans rfl
                         have Sm:wc.cell? ⟨jb,1,none⟩=some (.int .u8 ((aj bQ bn).f1)):=(ah fM.out 1).trans rfl
                         have Sl:wc.cell? ⟨jb,2,none⟩=some (.int .u8 ((aj bQ bn).f2)):=(ah fM.out 2).trans rfl
                         have Sj:wc.cell? ⟨jb,3,none⟩=some (.int .u8 ((aj bQ bn).f3)):=(ah fM.out 3).trans rfl
                         have Si:wc.cell? ⟨jb,4,none⟩=some (.int .i64 ((aj bQ bn).f4)):=(ah fM.out 4).trans rfl
                         have Qw:=ag fM.out 0
                         have Qv:=ag fM.out 1
                         have Qu:=ag fM.out 2
                         have Qs:=ag fM.out 3
                         have Qr:=ag fM.out 4
                         go_wp2
                         go_meet
                         case rel=>exact ⟨_,(true),(by first|rfl|(simp;done)|(simp [*];done)),H',⟨by have:=HJ2.out;have:=rJ.out;have:=xA.out;have:=Em.out;have:=O4.out;first|omega|exact Nat.le_refl _⟩,⟨by (with_reducible repeat (first|refine au ?_ _|refine aC ?_|refine ak ?_ _));exact gG.out⟩,⟨by (with_reducible repeat (first|refine au ?_ _|refine aC ?_|refine ak ?_ _));exact fM.out⟩,⟨by repeat (first|(with_reducible first|exact HB.out|apply ay|apply ai|apply ax|refine aA ?_ lS.out|refine aA ?_ pq.out)|exact HB.out)⟩⟩
                       case rest =>
                        clear X7
                        obtain ⟨kq,BH,rfl,HA,aaH,gG,fM,HB⟩:=hcut
                        cases kq with
                        | zero=>exact absurd HA.out (by simp [aN.j5])
                        | succ WU =>
                         have H:=HA.out
                         clear HA
                         simp only [aN.j5] at H
                         by_cases c57:BH=true
                         ·
                          subst c57
                          have H1:(some (-1))=some r:=by rw [if_pos rfl] at H;exact H
                          clear H
                          have H:=H1
                          clear H1
                          obtain rfl:=Option.some.inj H
                          go_wp2
                          go_ret
                          exact ⟨by first|rfl|(simp [aT,aQ] <;> rfl)|(simp only [← uj,← uU];first|rfl|(simp [aT,aQ] <;> rfl))|(simp [*,aT,aQ] <;> rfl),by repeat (first|(with_reducible first|exact HB.out|apply ay|apply ai|apply ax|refine aA ?_ lS.out|refine aA ?_ pq.out)|exact HB.out)⟩
                         ·
                          replace c57:=Bool.eq_false_iff.mpr c57
                          subst c57
                          have H1:(if 0≤((aj bQ bn).f4) then (if (Go.bits .or .i64 kY (shl .i64 1 ((aj bQ bn).f4)))=(wrap64 ((nO) - 1)) then (some (wrap64 ((wrap64 (a1+1))+bn))) else (aN.l0 WU a1 ((aj aJ a1).f1) (wrap64 ((nO) - 1)) (Go.bits .or .i64 kY (shl .i64 1 ((aj bQ bn).f4))) bQ (bQ.length:Int) (wrap64 (bn+1)))) else (none))=some r:=by rw [if_neg (show ¬ (false=true) by decide)] at H;exact H
                          clear H
                          have H:=H1
                          clear H1
                          by_cases ZP:0≤((aj bQ bn).f4)
                          ·
                           rw [if_pos ZP] at H
                           have aiW:=eq_true ZP
                           have aiV:decide (0≤((aj bQ bn).f4))=true:=decide_eq_true ZP
                           clear ZP
                           obtain ⟨wG,Bi⟩:∃ j_:Int,(shl .i64 1 ((aj bQ bn).f4))=j_:=⟨_,rfl⟩
                           replace H:(if (Go.bits .or .i64 kY (wG))=(wrap64 ((nO) - 1)) then (some (wrap64 ((wrap64 (a1+1))+bn))) else (aN.l0 WU a1 ((aj aJ a1).f1) (wrap64 ((nO) - 1)) (Go.bits .or .i64 kY (wG)) bQ (bQ.length:Int) (wrap64 (bn+1))))=some r:=by first|(rw [Bi] at H;exact H)|(simp only [Bi] at H ⊢;exact H)
                           have NM:(IntKind.i64.wrap (1 * 2 ^ min ((aj bQ bn).f4).toNat 64))=wG:=Bi
                           have NL:((aj bQ bn).f4)≤64→(IntKind.i64.wrap (1 * 2 ^ ((aj bQ bn).f4).toNat))=wG:=AV Bi
                           have ags:(IntKind.i64.wrap (2 ^ min ((aj bQ bn).f4).toNat 64))=wG:=by have h_:=NM;rw [Int.one_mul] at h_;exact h_
                           have agr:((aj bQ bn).f4)≤64→(IntKind.i64.wrap (2 ^ ((aj bQ bn).f4).toNat))=wG:=fun Xb=>by have h_:=NL Xb;rw [Int.one_mul] at h_;exact h_
                           have agp:(wrap64 (1 * 2 ^ min ((aj bQ bn).f4).toNat 64))=wG:=(bY _).symm.trans NM
                           have agq:((aj bQ bn).f4)≤64→(wrap64 (1 * 2 ^ ((aj bQ bn).f4).toNat))=wG:=fun h_=>(bY _).symm.trans (NL h_)
                           by_cases XL:(Go.bits .or .i64 kY (wG))=(wrap64 ((nO) - 1))
                           ·
                            rw [if_pos XL] at H
                            have ZO:((Go.bits .or .i64 kY (wG)) == (wrap64 ((nO) - 1)))=true:=beq_iff_eq.mpr XL
                            have ZN:((Go.bits .or .i64 kY (wG)) != (wrap64 ((nO) - 1)))=false:=bne_eq_false_iff_eq.mpr XL
                            clear XL
                            obtain rfl:=Option.some.inj H
                            have Zf:=oq.out
                            have Y5:=iw.out
                            have JF:wc.cell? ⟨jb,0,none⟩=some (.int .u8 ((aj bQ bn).f0)):=(ah fM.out 0).trans rfl
                            have JE:wc.cell? ⟨jb,1,none⟩=some (.int .u8 ((aj bQ bn).f1)):=(ah fM.out 1).trans rfl
                            have JD:wc.cell? ⟨jb,2,none⟩=some (.int .u8 ((aj bQ bn).f2)):=(ah fM.out 2).trans rfl
                            have JC:wc.cell? ⟨jb,3,none⟩=some (.int .u8 ((aj bQ bn).f3)):=(ah fM.out 3).trans rfl
                            have JB:wc.cell? ⟨jb,4,none⟩=some (.int .i64 ((aj bQ bn).f4)):=(ah fM.out 4).trans rfl
                            have IV:=ag fM.out 0
                            have IU:=ag fM.out 1
                            have IQ:=ag fM.out 2
                            have IP:=ag fM.out 3
                            have IM:=ag fM.out 4
                            go_wp2
                            go_ret
                            exact ⟨by first|rfl|(simp [aT,aQ] <;> rfl)|(simp only [← uj,← uU,← Bi];first|rfl|(simp [aT,aQ] <;> rfl))|(simp [*,aT,aQ] <;> rfl),by repeat (first|(with_reducible first|exact HB.out|apply ay|apply ai|apply ax|refine aA ?_ lS.out|refine aA ?_ pq.out)|exact HB.out)⟩
                           ·
                            rw [if_neg XL] at H
                            have ZO:((Go.bits .or .i64 kY (wG)) == (wrap64 ((nO) - 1)))=false:=beq_eq_false_iff_ne.mpr XL
                            have ZN:((Go.bits .or .i64 kY (wG)) != (wrap64 ((nO) - 1)))=true:=bne_iff_ne.mpr XL
                            have H':=ae.mk H
                            clear H
                            have aih:=oq.out
                            have ahX:=iw.out
                            have aem:wc.cell? ⟨jb,0,none⟩=some (.int .u8 ((aj bQ bn).f0)):=(ah fM.out 0).trans rfl
                            have ael:wc.cell? ⟨jb,1,none⟩=some (.int .u8 ((aj bQ bn).f1)):=(ah fM.out 1).trans rfl
                            have aek:wc.cell? ⟨jb,2,none⟩=some (.int .u8 ((aj bQ bn).f2)):=(ah fM.out 2).trans rfl
                            have aej:wc.cell? ⟨jb,3,none⟩=some (.int .u8 ((aj bQ bn).f3)):=(ah fM.out 3).trans rfl
                            have aei:wc.cell? ⟨jb,4,none⟩=some (.int .i64 ((aj bQ bn).f4)):=(ah fM.out 4).trans rfl
                            have acP:=ag fM.out 0
                            have acO:=ag fM.out 1
                            have acN:=ag fM.out 2
                            have acM:=ag fM.out 3
                            have acL:=ag fM.out 4
                            go_wp2
                            go_roundg WU
                            case measure=>have:=HJ2.out;have:=rJ.out;have:=xA.out;have:=Em.out;have:=O4.out;have:=aaH.out;omega
                            case rel=>exact ⟨(Go.bits .or .i64 kY (wG)),(wrap64 (bn+1)),(by first|rfl|(simp;done)|(simp only [← Bi] <;> (first|rfl|simp))|(simp [*];done)),(by first|rfl|(simp;done)|(simp [*];done)),H',⟨by have:=HJ2.out;have:=rJ.out;have:=xA.out;have:=Em.out;have:=O4.out;have:=aaH.out;omega⟩,⟨by (with_reducible repeat (first|refine au ?_ _|refine aC ?_|refine ak ?_ _));exact gG.out⟩,⟨by repeat (first|(with_reducible first|exact HB.out|apply ay|apply ai|apply ax|refine aA ?_ lS.out|refine aA ?_ pq.out)|exact HB.out)⟩⟩
                          ·
                           rw [if_neg ZP] at H
                           exact absurd H (by simp)
                      ·
                       replace Oz:=Bool.eq_false_iff.mpr Oz
                       subst Oz
                       have H1:(some (-1))=some r:=by rw [if_neg (show ¬ (false=true) by decide)] at H;exact H
                       clear H
                       have H:=H1
                       clear H1
                       obtain rfl:=Option.some.inj H
                       go_wp2
                       go_ret
                       exact ⟨by first|rfl|(simp [aT,aQ] <;> rfl)|(simp only [← uj,← uU];first|rfl|(simp [aT,aQ] <;> rfl))|(simp [*,aT,aQ] <;> rfl),by repeat (first|(with_reducible first|exact HB.out|apply ay|apply ai|apply ax|refine aA ?_ lS.out|refine aA ?_ pq.out)|exact HB.out)⟩
             ·
              rw [if_neg c28] at H
              exact absurd H (by simp)
            ·
             rw [if_neg c27] at H
             exact absurd H (by simp)
           ·
            rw [if_neg KG] at H
            have zN:decide (bn < (bQ.length:Int))=false:=decide_eq_false KG
            clear KG
            obtain rfl:=Option.some.inj H
            go_wp2
            go_ret
            exact ⟨by first|rfl|(simp [aT,aQ] <;> rfl)|(simp only [← uj,← uU];first|rfl|(simp [aT,aQ] <;> rfl))|(simp [*,aT,aQ] <;> rfl),by repeat (first|(with_reducible first|exact HB.out|apply ay|apply ai|apply ax|refine aA ?_ lS.out)|exact HB.out)⟩
        ·
         rw [if_neg c20] at H
         exact absurd H (by simp)
       ·
        rw [if_neg c19] at H
        exact absurd H (by simp)
      ·
       rw [if_neg c16] at H
       exact absurd H (by simp)
     ·
      rw [if_neg c13] at H
      exact absurd H (by simp)
    ·
     rw [if_neg c12] at H
     exact absurd H (by simp)
end Go.Proofs.YtbmhmlgfpijmhaaDoor.P
end
