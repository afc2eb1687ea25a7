/- Parts of the proof of ModelRight: what the functions that it reaches compute, and plain facts about that. -/
import Derived.Test.YtlemecdddhdagaaDoorVab
import Derived.Test.YtlemecdddhdagaaDoorVam
import Derived.Test.YtlemecdddhdagaaDoorVan
set_option linter.unusedVariables false
set_option linter.unusedSimpArgs false
section
namespace Go.Proofs.YtlemecdddhdagaaDoor.P
open Go.RowKit Go.Proofs.ag.bI Go.Proofs.ag.dM Go.Proofs.ag.dZ
attribute [local go_sem] kU kS lW lV jS jR kT kR
mutual
def aJ.l0:Nat→List ByteArray→Int→Option (Int × Int × Int × Int × Int × Bool)
 | 0,_,_=>none
 | k+1,x0,x4=>if x4≤15 then ((fG.f x4).bind fun KP=>(if 0 < (x0.length:Int) then (if (dW ByteArray.empty x0 0).toList=KP.1.toList then (aJ.j1 k x0 x4 KP.2 ((x0.length:Int) != (wrap64 ((KP.2.size:Int)+1)))) else (aJ.j1 k x0 x4 KP.2 true)) else (none))) else (some (0,0,0,0,0,false))
def aJ.j1:Nat→List ByteArray→Int→ByteArray→Bool→Option (Int × Int × Int × Int × Int × Bool)
 | 0,_,_,_,_=>none
 | k+1,x0,x4,x6,x34=>if x34=true then (aJ.l0 k x0 ((x4+1) % 256)) else (aJ.l1 k x0 x6 0 x4 0 0 0 0)
def aJ.l1:Nat→List ByteArray→ByteArray→Int→Int→Int→Int→Int→Int→Option (Int × Int × Int × Int × Int × Bool)
 | 0,_,_,_,_,_,_,_,_=>none
 | k+1,x0,x6,x8,IE,IC,IB,IA,Iz=>if x8 < (x6.size:Int) then (if 0≤(wrap64 (x8+1)) then (if (wrap64 (x8+1)) < (x0.length:Int) then ((aH.f k (dW ByteArray.empty x0 (wrap64 (x8+1)))).bind fun FQ=>(if 0≤x8 then ((aZ.f k IE IC IB IA Iz (bt x6 x8) FQ.1).bind fun lS=>(if FQ.2=0 then (if lS.2.2.2.2.2=true then (aJ.l1 k x0 x6 (wrap64 (x8+1)) lS.1 lS.2.1 lS.2.2.1 lS.2.2.2.1 lS.2.2.2.2.1) else (some (0,0,0,0,0,false))) else (some (0,0,0,0,0,false)))) else (none))) else (none)) else (none)) else (some (IE,IC,IB,IA,Iz,true))
end
def aJ.f (k:Nat) (l0:List ByteArray):Option (Int × Int × Int × Int × Int × Bool):=aJ.l0 k l0 1
theorem aJ.gY:∀ k,(∀ y0 y1,dN (aJ.l0 k y0 y1) (aJ.l0 (k+1) y0 y1))∧(∀ y0 y1 y2 y3,dN (aJ.j1 k y0 y1 y2 y3) (aJ.j1 (k+1) y0 y1 y2 y3))∧(∀ y0 y1 y2 y3 y4 y5 y6 y7,dN (aJ.l1 k y0 y1 y2 y3 y4 y5 y6 y7) (aJ.l1 (k+1) y0 y1 y2 y3 y4 y5 y6 y7))
 | 0=>⟨fun _ _ r h=>by simp [aJ.l0] at h,fun _ _ _ _ r h=>by simp [aJ.j1] at h,fun _ _ _ _ _ _ _ _ r h=>by simp [aJ.l1] at h⟩
 | k+1=>by
  obtain ⟨lF,ih1,ih2⟩:=aJ.gY k
  refine ⟨?_,?_,?_⟩
  ·
   intro y0 y1
   unfold aJ.l0
   repeat' with_reducible first|apply lF|apply ih1|apply ih2|apply aH.mono|apply aZ.mono|exact dN.refl _|exact dN.none _|refine dN.ite ?_ ?_|refine dN.bind ?_ (fun _=>?_)
  ·
   intro y0 y1 y2 y3
   unfold aJ.j1
   repeat' with_reducible first|apply lF|apply ih1|apply ih2|apply aH.mono|apply aZ.mono|exact dN.refl _|exact dN.none _|refine dN.ite ?_ ?_|refine dN.bind ?_ (fun _=>?_)
  ·
   intro y0 y1 y2 y3 y4 y5 y6 y7
   unfold aJ.l1
   repeat' with_reducible first|apply lF|apply ih1|apply ih2|apply aH.mono|apply aZ.mono|exact dN.refl _|exact dN.none _|refine dN.ite ?_ ?_|refine dN.bind ?_ (fun _=>?_)
theorem aJ.mono:∀ a0 k,dN (aJ.f k a0) (aJ.f (k+1) a0):=by
 intro a0 k
 obtain ⟨lF,ih1,ih2⟩:=aJ.gY k
 unfold aJ.f
 repeat' with_reducible first|apply lF|apply ih1|apply ih2|apply aH.mono|apply aZ.mono|exact dN.refl _|exact dN.none _|refine dN.ite ?_ ?_|refine dN.bind ?_ (fun _=>?_)
def aJ.T11:Bool × List (List Nat × List Nat):=(true,[([],[]),([],[]),([],[]),([1,2],[1,2]),([],[]),([0,3,4],[0,3,4]),([5],[5]),([6],[6]),([6],[6]),([],[]),([9,7,5,0,1,2,3,4,5,6,7,9],[7,9]),([8,10,0,1,2,3,4,5,6,7,8,9,10],[8])])
def aJ.B11:List Nat:=[0,0,0,6,0,31,63,127,127,0,767,2047]
theorem aJ.NK:qg .any (opsOf Tryd.f46 11)=aJ.T11:=by kernel_rfl
theorem aJ.Hq:qV aJ.T11.2 aJ.B11=true:=by kernel_rfl
set_option maxHeartbeats 8000000 in
set_option maxRecDepth 100000 in
theorem aJ.calls (k:Nat) (A0:Option Addr) (c0:Nat) (l0:List ByteArray) (r1:Int) (r2:Int) (r3:Int) (r4:Int) (r5:Int) (r6:Bool) (w:World) (hr0:Kd.C Kd.string w A0 l0.length l0) (hc0:l0.length≤c0) (h:aJ.f k l0=some (r1,r2,r3,r4,r5,r6)) :
  Calls Tryd.prog 46 #[.slice A0 l0.length c0] w fun e w'=>e=.returned (.tuple #[.agg #[.int .u8 r1,.int .u8 r2,.int .u8 r3,.int .u8 r4,.int .i64 r5],.bool r6])∧Below w.heap.size w w':=by
 have Bi:=Tryd.underlying55
 have HR0:=ae.mk hr0
 have tY:=ae.mk hc0
 clear hr0 hc0
 have HB:=ae.mk (Below.refl w.heap.size w)
 have H:(aJ.l0 k l0 1)=some (r1,r2,r3,r4,r5,r6):=h
 clear h
 have H':=ae.mk H
 clear H
 go_enter Tryd.func46,Tryd.ntmps46
 go_wp2_with (first|((with_reducible refine dL (N:=2) rfl ?_);(try (refine kG (by rfl) ?_;dsimp only));refine fF ?hg (N:=2) ?hd (cs:=#[.int .u8 0,.int .u8 0,.int .u8 0,.int .u8 0,.int .i64 0]) (t:=55) ?hr ?_;(case hd=>rfl);(case hg=>rfl);(case hr=>first|(go_simp;done)|(go_simp;rfl));intro iG hg w2 hbox hb;have dV:=ae.mk (bg (by repeat (first|(with_reducible first|exact HB.out|apply ah|apply af|apply ai)|exact HB.out)) hb);have dU:=ae.mk (hbox);have dR:=ae.mk ((by rw [hg];exact (bW (by repeat (first|(with_reducible first|exact HB.out|apply ah|apply af|apply ai)|exact HB.out))):w.heap.size≤iG));have gQ:=dR;clear HB;have HB:=dV;have fM:=dU;have an6:=dR;have jH:=gQ;clear dV dU dR gQ;clear hb hbox hg))
 go_loopg [4] k (fun kq v4 w'=>∃ (rX:Int) (nY:Int) (nD:Int) (mi:Int) (lJ:Int) (kW:Int),v4=.int .u8 rX∧ae (aJ.l0 kq l0 rX=some (r1,r2,r3,r4,r5,r6))∧ae (kq≤k)∧ae (w'.heap[iG]? = some (.cells #[.int .u8 nY,.int .u8 nD,.int .u8 mi,.int .u8 lJ,.int .i64 kW] 55 (0,0)))∧ae (Below w.heap.size w w'))
 case atStart=>exact ⟨(1),(0),(0),(0),(0),(0),(by first|rfl|(simp;done)|(simp [*];done)),H',⟨Nat.le_refl _⟩,⟨by (with_reducible repeat (first|refine au ?_ _|refine ay ?_|refine ak ?_ _));exact fM.out⟩,⟨by repeat (first|(with_reducible first|exact HB.out|apply ah|apply af|apply ai|refine aj ?_ jH.out)|exact HB.out)⟩⟩
 case round =>
  clear H'
  obtain ⟨rX,nY,nD,mi,lJ,kW,rfl,HA,rW,fM,HB⟩:=hrel
  cases gk with
  | zero=>exact absurd HA.out (by simp [aJ.l0])
  | succ k1 =>
   have H:=HA.out
   clear HA
   simp only [aJ.l0] at H
   by_cases c3:rX≤15
   ·
    rw [if_pos c3] at H
    have nN:decide (rX≤15)=true:=decide_eq_true c3
    clear c3
    replace H:=Option.bind_eq_some_iff.mp H
    obtain ⟨⟨t111,t112⟩,Be,H⟩:=H
    replace H:(if 0 < (l0.length:Int) then (if (dW ByteArray.empty l0 0).toList=t111.toList then (aJ.j1 k1 l0 rX t112 ((l0.length:Int) != (wrap64 ((t112.size:Int)+1)))) else (aJ.j1 k1 l0 rX t112 true)) else (none))=some (r1,r2,r3,r4,r5,r6):=H
    have A4:=ae.mk Be
    clear Be
    have H8:=ae.mk H
    clear H
    go_upto_region 5 with (first|((with_reducible refine bu (f:=45) rfl ?_);refine dS (some 19) rfl rfl Tryd.func45 (by kernel_rfl) rfl #[.int .u8 rX] rfl (by (try simp only [List.map_toArray,List.map_cons,List.map_nil]);first|done|rfl|(simp only [List.length_drop,List.length_take];rfl)) ?_;(with_reducible refine (fG.calls rX t111 t112 _ A4.out).mono ?_);rintro e w' ⟨rfl,⟨nd,rfl⟩⟩;refine ⟨_,rfl,?_⟩))
    (try simp only [Act.put,List.setIfInBounds_toArray,List.set_cons_zero,List.set_cons_succ])
    go_cut [34] (fun v34 wc=>∃ (kq:Nat) (Ib:Bool),v34=.bool Ib∧ae (aJ.j1 kq l0 rX t112 Ib=some (r1,r2,r3,r4,r5,r6))∧ae (kq≤k1)∧ae (wc.heap[iG]? = some (.cells #[.int .u8 nY,.int .u8 nD,.int .u8 mi,.int .u8 lJ,.int .i64 kW] 55 (0,0)))∧ae (Below w.heap.size w wc))
    case first =>
     have H:=H8.out
     clear H8
     by_cases c6:0 < (l0.length:Int)
     ·
      rw [if_pos c6] at H
      have nR:decide (0 < (l0.length:Int))=true:=decide_eq_true c6
      have xP:decide (0 < l0.length)=true:=decide_eq_true (by omega)
      clear c6
      (first|rw [nR]|(simp only [bG,bJ];rw [nR])|skip)
      by_cases c7:(dW ByteArray.empty l0 0).toList=t111.toList
      ·
       rw [if_pos c7] at H
       have nV:((dW ByteArray.empty l0 0).toList == t111.toList)=true:=beq_iff_eq.mpr c7
       have xn:((dW ByteArray.empty l0 0).toList != t111.toList)=false:=bne_eq_false_iff_eq.mpr c7
       clear c7
       have H':=ae.mk H
       clear H
       have GL:0≤(0:Int):=(by omega)
       have Gw:0 < (l0.length:Int):=of_decide_eq_true (by first|(with_reducible assumption)|assumption)
       obtain ⟨adm,Zd,oH⟩:=Kd.jD HR0.out 0 GL Gw
       cases Zd
       have aay:(0 < l0.length)=True:=eq_true (by omega)
       (try rw [show ((0:Int)).toNat=0 from rfl] at oH)
       (try rw [Addr.add_zero'] at oH)
       replace oH:=(HB.out.cell (World.block_lt_of_cell? w _ oH)).trans oH
       replace GL:=eq_true GL
       replace Gw:=eq_true Gw
       go_wp2
       go_meet
       case rel=>exact ⟨_,(((l0.length:Int) != (wrap64 ((t112.size:Int)+1)))),(by first|rfl|(simp;done)|(simp [*];done)),H',⟨by have:=rW.out;first|omega|exact Nat.le_refl _⟩,⟨by (with_reducible repeat (first|refine au ?_ _|refine ay ?_|refine ak ?_ _));exact fM.out⟩,⟨by repeat (first|(with_reducible first|exact HB.out|apply ah|apply af|apply ai|refine aj ?_ jH.out)|exact HB.out)⟩⟩
      ·
       rw [if_neg c7] at H
       have nV:((dW ByteArray.empty l0 0).toList == t111.toList)=false:=beq_eq_false_iff_ne.mpr c7
       have xn:((dW ByteArray.empty l0 0).toList != t111.toList)=true:=bne_iff_ne.mpr c7
       have H':=ae.mk H
       clear H
       have GL:0≤(0:Int):=(by omega)
       have Gw:0 < (l0.length:Int):=of_decide_eq_true (by first|(with_reducible assumption)|assumption)
       obtain ⟨adm,Zd,oH⟩:=Kd.jD HR0.out 0 GL Gw
       cases Zd
       have aay:(0 < l0.length)=True:=eq_true (by omega)
       (try rw [show ((0:Int)).toNat=0 from rfl] at oH)
       (try rw [Addr.add_zero'] at oH)
       replace oH:=(HB.out.cell (World.block_lt_of_cell? w _ oH)).trans oH
       replace GL:=eq_true GL
       replace Gw:=eq_true Gw
       go_wp2
       go_meet
       case rel=>exact ⟨_,(true),(by first|rfl|(simp;done)|(simp [*];done)),H',⟨by have:=rW.out;first|omega|exact Nat.le_refl _⟩,⟨by (with_reducible repeat (first|refine au ?_ _|refine ay ?_|refine ak ?_ _));exact fM.out⟩,⟨by repeat (first|(with_reducible first|exact HB.out|apply ah|apply af|apply ai|refine aj ?_ jH.out)|exact HB.out)⟩⟩
     ·
      rw [if_neg c6] at H
      exact absurd H (by simp)
    case rest =>
     clear H8
     obtain ⟨kq,Ib,rfl,HA,H7,fM,HB⟩:=hcut
     cases kq with
     | zero=>exact absurd HA.out (by simp [aJ.j1])
     | succ uQ =>
      have H:=HA.out
      clear HA
      simp only [aJ.j1] at H
      by_cases c8:Ib=true
      ·
       subst c8
       have H1:(aJ.l0 uQ l0 ((rX+1) % 256))=some (r1,r2,r3,r4,r5,r6):=by rw [if_pos rfl] at H;exact H
       clear H
       have H:=H1
       clear H1
       have H':=ae.mk H
       clear H
       go_wp2
       go_roundg uQ
       case measure=>have:=rW.out;have:=H7.out;omega
       case rel=>exact ⟨((rX+1) % 256),(nY),(nD),(mi),(lJ),(kW),(by first|rfl|(simp;done)|(simp [*];done)),H',⟨by have:=rW.out;have:=H7.out;omega⟩,⟨by (with_reducible repeat (first|refine au ?_ _|refine ay ?_|refine ak ?_ _));exact fM.out⟩,⟨by repeat (first|(with_reducible first|exact HB.out|apply ah|apply af|apply ai|refine aj ?_ jH.out)|exact HB.out)⟩⟩
      ·
       replace c8:=Bool.eq_false_iff.mpr c8
       subst c8
       have H1:(aJ.l1 uQ l0 t112 0 rX 0 0 0 0)=some (r1,r2,r3,r4,r5,r6):=by rw [if_neg (show ¬ (false=true) by decide)] at H;exact H
       clear H
       have H:=H1
       clear H1
       have H':=ae.mk H
       clear H
       go_wp2_with (first|((with_reducible refine dL (N:=7) rfl ?_);(try (refine kG (by rfl) ?_;dsimp only));refine fF ?hg (N:=7) ?hd (cs:=#[.int .u8 0,.int .u8 0,.int .u8 0,.int .u8 0,.int .i64 0]) (t:=55) ?hr ?_;(case hd=>rfl);(case hg=>rfl);(case hr=>first|(go_simp;done)|(go_simp;rfl));intro eQ hg w9 hbox hb;have dV:=ae.mk (bf (g:=iG) (o:=.cells #[.int .u8 nY,.int .u8 nD,.int .u8 mi,.int .u8 lJ,.int .i64 kW] 55 (0,0)) (by (with_reducible repeat (first|refine au ?_ _|refine ay ?_|refine ak ?_ _));exact fM.out) hb);have dU:=ae.mk (bg (by repeat (first|(with_reducible first|exact HB.out|apply ah|apply af|apply ai|refine aj ?_ jH.out)|exact HB.out)) hb);have dR:=ae.mk (hbox);have gQ:=ae.mk ((by rw [hg];exact (bW (by repeat (first|(with_reducible first|exact HB.out|apply ah|apply af|apply ai|refine aj ?_ jH.out)|exact HB.out))):w.heap.size≤eQ));have lQ:=gQ;have mr:=ae.mk ((by rw [hg];exact Nat.ne_of_lt (kC (g:=iG) (o:=.cells #[.int .u8 nY,.int .u8 nD,.int .u8 mi,.int .u8 lJ,.int .i64 kW] 55 (0,0)) (by (with_reducible repeat (first|refine au ?_ _|refine ay ?_|refine ak ?_ _));exact fM.out)):iG ≠ eQ));have nJ:=ae.mk mr.out.symm;clear fM;clear HB;have fM:=dV;have HB:=dU;have bZ:=dR;have Lj:=gQ;have jE:=lQ;have jV:=mr;have rU:=nJ;clear dV dU dR gQ lQ mr nJ;clear hb hbox hg;have amL:=rU.out;have ami:=jV.out;obtain ⟨zn,zl,zk,zi,VX,yY,yX,yV,yU,Uu⟩:=jT bZ.out))
       go_loopg [8] uQ (fun kq v8 w'=>∃ (mW:Int) (gy:Int) (gm:Int) (fP:Int) (fH:Int) (eY:Int) (dK:Int) (dJ:Int) (dI:Int) (dH:Int) (dG:Int),v8=.int .i64 mW∧ae (aJ.l1 kq l0 t112 mW dK dJ dI dH dG=some (r1,r2,r3,r4,r5,r6))∧ae (kq≤uQ)∧ae (w'.heap[iG]? = some (.cells #[.int .u8 gy,.int .u8 gm,.int .u8 fP,.int .u8 fH,.int .i64 eY] 55 (0,0)))∧ae (w'.heap[eQ]? = some (.cells #[.int .u8 dK,.int .u8 dJ,.int .u8 dI,.int .u8 dH,.int .i64 dG] 55 (0,0)))∧ae (Below w.heap.size w w'))
       case atStart=>exact ⟨(0),(nY),(nD),(mi),(lJ),(kW),(rX),(0),(0),(0),(0),(by first|rfl|(simp;done)|(simp [*];done)),H',⟨Nat.le_refl _⟩,⟨by (with_reducible repeat (first|refine au ?_ _|refine ay ?_|refine ak ?_ _));refine fQ ?_ jV.out _;(with_reducible repeat (first|refine au ?_ _|refine ay ?_|refine ak ?_ _));refine fQ ?_ jV.out _;(with_reducible repeat (first|refine au ?_ _|refine ay ?_|refine ak ?_ _));refine fQ ?_ jV.out _;(with_reducible repeat (first|refine au ?_ _|refine ay ?_|refine ak ?_ _));refine fQ ?_ jV.out _;(with_reducible repeat (first|refine au ?_ _|refine ay ?_|refine ak ?_ _));refine fQ ?_ jV.out _;(with_reducible repeat (first|refine au ?_ _|refine ay ?_|refine ak ?_ _));exact fM.out⟩,⟨by (with_reducible repeat (first|refine au ?_ _|refine ay ?_|refine ak ?_ _));refine dP (cs:=#[.int .u8 rX,.int .u8 0,.int .u8 0,.int .u8 0,.int .i64 0]) ?_ 4 _ rfl;(with_reducible repeat (first|refine au ?_ _|refine ay ?_|refine ak ?_ _));refine dP (cs:=#[.int .u8 rX,.int .u8 0,.int .u8 0,.int .u8 0,.int .i64 0]) ?_ 3 _ rfl;(with_reducible repeat (first|refine au ?_ _|refine ay ?_|refine ak ?_ _));refine dP (cs:=#[.int .u8 rX,.int .u8 0,.int .u8 0,.int .u8 0,.int .i64 0]) ?_ 2 _ rfl;(with_reducible repeat (first|refine au ?_ _|refine ay ?_|refine ak ?_ _));refine dP (cs:=#[.int .u8 rX,.int .u8 0,.int .u8 0,.int .u8 0,.int .i64 0]) ?_ 1 _ rfl;(with_reducible repeat (first|refine au ?_ _|refine ay ?_|refine ak ?_ _));refine dP (cs:=#[.int .u8 0,.int .u8 0,.int .u8 0,.int .u8 0,.int .i64 0]) ?_ 0 _ rfl;(with_reducible repeat (first|refine au ?_ _|refine ay ?_|refine ak ?_ _));exact bZ.out⟩,⟨by repeat (first|(with_reducible first|exact HB.out|apply ah|apply af|apply ai|refine aj ?_ jH.out|refine aj ?_ jE.out)|exact HB.out)⟩⟩
       case round =>
        clear H'
        obtain ⟨mW,gy,gm,fP,fH,eY,dK,dJ,dI,dH,dG,rfl,HA,AY,fM,bZ,HB⟩:=hrel
        cases gk with
        | zero=>exact absurd HA.out (by simp [aJ.l1])
        | succ k3 =>
         have H:=HA.out
         clear HA
         simp only [aJ.l1] at H
         by_cases c12:mW < (t112.size:Int)
         ·
          rw [if_pos c12] at H
          have vW:decide (mW < (t112.size:Int))=true:=decide_eq_true c12
          clear c12
          obtain ⟨oQ,wR⟩:∃ j_:Int,(wrap64 (mW+1))=j_:=⟨_,rfl⟩
          replace H:(if 0≤(oQ) then (if (oQ) < (l0.length:Int) then ((aH.f k3 (dW ByteArray.empty l0 (oQ))).bind fun FQ=>(if 0≤mW then ((aZ.f k3 dK dJ dI dH dG (bt t112 mW) FQ.1).bind fun lS=>(if FQ.2=0 then (if lS.2.2.2.2.2=true then (aJ.l1 k3 l0 t112 oQ lS.1 lS.2.1 lS.2.2.1 lS.2.2.2.1 lS.2.2.2.2.1) else (some (0,0,0,0,0,false))) else (some (0,0,0,0,0,false)))) else (none))) else (none)) else (none))=some (r1,r2,r3,r4,r5,r6):=by first|(rw [wR] at H;exact H)|(simp only [wR] at H ⊢;exact H)
          have akv:(IntKind.i64.wrap (mW+1))=oQ:=(bG _).trans wR
          by_cases c14:0≤(oQ)
          ·
           rw [if_pos c14] at H
           have CB:decide (0≤(oQ))=true:=decide_eq_true c14
           clear c14
           by_cases c15:(oQ) < (l0.length:Int)
           ·
            rw [if_pos c15] at H
            have ql:decide ((oQ) < (l0.length:Int))=true:=decide_eq_true c15
            clear c15
            replace H:=Option.bind_eq_some_iff.mp H
            obtain ⟨⟨t116,t117⟩,Gg,H⟩:=H
            replace H:(if 0≤mW then ((aZ.f k3 dK dJ dI dH dG (bt t112 mW) t116).bind fun lS=>(if t117=0 then (if lS.2.2.2.2.2=true then (aJ.l1 k3 l0 t112 oQ lS.1 lS.2.1 lS.2.2.1 lS.2.2.2.1 lS.2.2.2.2.1) else (some (0,0,0,0,0,false))) else (some (0,0,0,0,0,false)))) else (none))=some (r1,r2,r3,r4,r5,r6):=H
            have Z8:=ae.mk Gg
            clear Gg
            by_cases c17:0≤mW
            ·
             rw [if_pos c17] at H
             have yt:decide (0≤mW)=true:=decide_eq_true c17
             clear c17
             replace H:=Option.bind_eq_some_iff.mp H
             obtain ⟨⟨t118,t119,t120,t121,t122,t123⟩,F9,H⟩:=H
             replace H:(if t117=0 then (if t123=true then (aJ.l1 k3 l0 t112 oQ t118 t119 t120 t121 t122) else (some (0,0,0,0,0,false))) else (some (0,0,0,0,0,false)))=some (r1,r2,r3,r4,r5,r6):=H
             have Qz:=ae.mk F9
             clear F9
             by_cases c20:t117=0
             ·
              rw [if_pos c20] at H
              have XH:(t117 == 0)=true:=beq_iff_eq.mpr c20
              have ac8:(t117 != 0)=false:=bne_eq_false_iff_eq.mpr c20
              clear c20
              by_cases c21:t123=true
              ·
               subst c21
               have H1:(aJ.l1 k3 l0 t112 oQ t118 t119 t120 t121 t122)=some (r1,r2,r3,r4,r5,r6):=by rw [if_pos rfl] at H;exact H
               clear H
               have H:=H1
               clear H1
               have H':=ae.mk H
               clear H
               have zT:0≤((oQ):Int):=of_decide_eq_true (by first|(with_reducible assumption)|assumption)
               have zQ:(oQ) < (l0.length:Int):=of_decide_eq_true (by first|(with_reducible assumption)|assumption)
               obtain ⟨XL,e115,oG⟩:=Kd.jD HR0.out (oQ) zT zQ
               cases e115
               replace oG:=(HB.out.cell (World.block_lt_of_cell? w _ oG)).trans oG
               replace zT:=eq_true zT
               replace zQ:=eq_true zQ
               try go_wp2_with (first|((with_reducible refine bu (f:=64) rfl ?_);refine dS (some 49) rfl rfl Tryd.func64 (by kernel_rfl) rfl #[.string (dW ByteArray.empty l0 (oQ))] rfl (by (try simp only [List.map_toArray,List.map_cons,List.map_nil]);first|done|(simp only [wR];rfl)|rfl|(simp only [List.length_drop,List.length_take];rfl)) ?_;(with_reducible refine (aH.calls k3 (dW ByteArray.empty l0 (oQ)) t116 t117 _ Z8.out).mono ?_);rintro e w' ⟨rfl,⟨nd,rfl⟩⟩;refine ⟨_,rfl,?_⟩;(try (rw [qN wr];generalize Bd:World.drewN wr _=wr;have dV:ae (wr.heap[iG]? = some (.cells #[.int .u8 gy,.int .u8 gm,.int .u8 fP,.int .u8 fH,.int .i64 eY] 55 (0,0))):=⟨by rw [← Bd];exact (by (with_reducible repeat (first|refine au ?_ _|refine ay ?_|refine ak ?_ _));exact fM.out)⟩;have dU:ae (wr.heap[eQ]? = some (.cells #[.int .u8 dK,.int .u8 dJ,.int .u8 dI,.int .u8 dH,.int .i64 dG] 55 (0,0))):=⟨by rw [← Bd];exact (by (with_reducible repeat (first|refine au ?_ _|refine ay ?_|refine ak ?_ _));exact bZ.out)⟩;have dR:ae (Below w.heap.size w wr):=⟨by rw [← Bd];exact (by repeat (first|(with_reducible first|exact HB.out|apply ah|apply af|apply ai|refine aj ?_ jH.out|refine aj ?_ jE.out)|exact HB.out))⟩;clear fM bZ HB Bd;have fM:=dV;have bZ:=dU;have HB:=dR;clear dV dU dR))))
               have dV:=ae.mk (ay fM.out)
               have dU:=ae.mk (ay bZ.out)
               have dR:=ae.mk (ai HB.out)
               clear fM
               clear bZ
               clear HB
               have fM:=dV
               have bZ:=dU
               have HB:=dR
               clear dV dU dR
               have EI:0≤(mW:Int):=of_decide_eq_true (by first|(with_reducible assumption)|assumption)
               have EE:mW < (t112.size:Int):=of_decide_eq_true (by first|(with_reducible assumption)|assumption)
               have OA:=kL t112 mW
               replace EI:=eq_true EI
               replace EE:=eq_true EE
               refine o5 (n:=12) (S:=fun w'=>w'.cell? ⟨eQ,0,none⟩=some (.int .u8 dK)∧w'.cell? ⟨eQ,1,none⟩=some (.int .u8 dJ)∧w'.cell? ⟨eQ,2,none⟩=some (.int .u8 dI)∧w'.cell? ⟨eQ,3,none⟩=some (.int .u8 dH)∧w'.cell? ⟨eQ,4,none⟩=some (.int .i64 dG)) (ds:=[]) #[false,false,false,false,false,false,false,false,false,false,false,false] (by kernel_rfl) rfl rfl ⟨(ax bZ.out 0).trans rfl,(ax bZ.out 1).trans rfl,(ax bZ.out 2).trans rfl,(ax bZ.out 3).trans rfl,(ax bZ.out 4).trans rfl⟩ (fun hHeld=>?_);refine qB aJ.NK aJ.Hq (fun lh BA=>?_)
               generalize wr.drew=Ya at fM bZ HB hHeld ⊢
               refine dX (i:=1) (N:=some 54) (v:=?_) (a':=?_) #[false,true,false,false,false,false,false,false,false,false,false,false] rfl rfl (iF lh.out (by kernel_rfl)) (fun _ _ _ h=>h) (Or.inl ⟨by rfl,?_⟩) ?_ ?_
               rotate_left
               ·
                intro w'
                go_simp
                with_reducible rfl
               rotate_left
               ·
                simp only [Act.put,List.setIfInBounds_toArray,List.set_cons_zero,List.set_cons_succ,bG,bJ]
                rfl
               refine dX (i:=2) (N:=some 55) (v:=?_) (a':=?_) #[false,true,true,false,false,false,false,false,false,false,false,false] rfl rfl (iF lh.out (by kernel_rfl)) (fun _ _ _ h=>h) (Or.inl ⟨by rfl,?_⟩) ?_ ?_
               rotate_left
               ·
                intro w'
                go_simp
                with_reducible rfl
               rotate_left
               ·
                simp only [Act.put,List.setIfInBounds_toArray,List.set_cons_zero,List.set_cons_succ,bG,bJ]
                rfl
               refine dX (i:=4) (N:=some 57) (v:=?_) (a':=?_) #[false,true,true,false,true,false,false,false,false,false,false,false] rfl rfl (iF lh.out (by kernel_rfl)) (fun _ _ _ h=>h) (Or.inl ⟨by rfl,?_⟩) ?_ ?_
               rotate_left
               ·
                intro w'
                go_simp
                with_reducible rfl
               rotate_left
               ·
                simp only [Act.put,List.setIfInBounds_toArray,List.set_cons_zero,List.set_cons_succ,bG,bJ]
                rfl
               refine jg (i:=0) (N:=some 53) (v:=?_) (a':=?_) #[true,true,true,false,true,false,false,false,false,false,false,false] rfl rfl (kJ lh.out BA.out (by kernel_rfl)) (fun _ _ _ h=>h) (Or.inl ⟨by rfl,?_⟩) hHeld ?_ ?_
               rotate_left
               ·
                rintro w' ⟨s0,s1,s2,s3,s4⟩
                go_simp
                with_reducible rfl
               rotate_left
               ·
                simp only [Act.put,List.setIfInBounds_toArray,List.set_cons_zero,List.set_cons_succ,bG,bJ]
                rfl
               refine jg (i:=3) (N:=some 56) (v:=?_) (a':=?_) #[true,true,true,true,true,false,false,false,false,false,false,false] rfl rfl (kJ lh.out BA.out (by kernel_rfl)) (fun _ _ _ h=>h) (Or.inl ⟨by rfl,?_⟩) hHeld ?_ ?_
               rotate_left
               ·
                rintro w' ⟨s0,s1,s2,s3,s4⟩
                go_simp
                with_reducible rfl
               rotate_left
               ·
                simp only [Act.put,List.setIfInBounds_toArray,List.set_cons_zero,List.set_cons_succ,bG,bJ]
                rfl
               refine Ox (σ:=Nat) 2 #[true,true,true,true,true,true,true,true,true,true,false,false] (fun s_=>[(58,.tuple #[.agg #[.int .u8 t118,.int .u8 t119,.int .u8 t120,.int .u8 t121,.int .i64 t122],.bool true]),(11,.pointer (some ⟨s_,0,none⟩)),(52,.tuple #[.agg #[.int .u8 t118,.int .u8 t119,.int .u8 t120,.int .u8 t121,.int .i64 t122],.bool true]),(59,.agg #[.int .u8 t118,.int .u8 t119,.int .u8 t120,.int .u8 t121,.int .i64 t122]),(60,.bool true)]) (fun s_ w'=>(w'.cell? ⟨eQ,0,none⟩=some (.int .u8 dK)∧w'.cell? ⟨eQ,1,none⟩=some (.int .u8 dJ)∧w'.cell? ⟨eQ,2,none⟩=some (.int .u8 dI)∧w'.cell? ⟨eQ,3,none⟩=some (.int .u8 dH)∧w'.cell? ⟨eQ,4,none⟩=some (.int .i64 dG))∧(w'.heap[iG]? = some (.cells #[.int .u8 gy,.int .u8 gm,.int .u8 fP,.int .u8 fH,.int .i64 eY] 55 (0,0)))∧(w'.heap[eQ]? = some (.cells #[.int .u8 dK,.int .u8 dJ,.int .u8 dI,.int .u8 dH,.int .i64 dG] 55 (0,0)))∧(w'.heap[s_]? = some (.cells #[.int .u8 0,.int .u8 0,.int .u8 0,.int .u8 0,.int .i64 0] 55 (0,0)))∧(w.heap.size≤s_)∧(w.heap.size≤s_)∧(iG ≠ s_)∧(s_ ≠ iG)∧(eQ ≠ s_)∧(s_ ≠ eQ)∧(Below w.heap.size w w')) ?_ ?_
               rotate_left
               ·
                intro yj
                refine Yd (i:=5) (j:=9) (Ni:=some 58) (Nj:=some 11) #[true,true,true,true,true,true,false,false,false,false,false,false] #[true,true,true,true,true,false,false,false,false,true,false,false] rfl rfl rfl rfl (Gm lh.out (by kernel_rfl)) (by decide) (by decide) (fun K hK=>?_) (fun K hK=>?_)
                ·
                 skip
                 refine oI Tryd.func65 (by kernel_rfl) rfl #[.agg #[.int .u8 dK,.int .u8 dJ,.int .u8 dI,.int .u8 dH,.int .i64 dG],.int .u8 (bt t112 mW),.int .i64 t116] (by rfl) rfl rfl (by (try simp only [List.map_toArray,List.map_cons,List.map_nil]);first|done|rfl|(simp only [List.length_drop,List.length_take];rfl)) ?_
                 with_reducible refine (aZ.calls k3 dK dJ dI dH dG (bt t112 mW) t116 t118 t119 t120 t121 t122 true _ Qz.out).mono ?_
                 rintro e w23 ⟨rfl,hb⟩
                 refine ⟨_,rfl,?_⟩
                 have dV:=ae.mk (bf (g:=iG) (o:=.cells #[.int .u8 gy,.int .u8 gm,.int .u8 fP,.int .u8 fH,.int .i64 eY] 55 (0,0)) (by (with_reducible repeat (first|refine au ?_ _|refine ay ?_|refine ak ?_ _));exact fM.out) hb)
                 have dU:=ae.mk (bf (g:=eQ) (o:=.cells #[.int .u8 dK,.int .u8 dJ,.int .u8 dI,.int .u8 dH,.int .i64 dG] 55 (0,0)) (by (with_reducible repeat (first|refine au ?_ _|refine ay ?_|refine ak ?_ _));exact bZ.out) hb)
                 have dR:=ae.mk (bg (by repeat (first|(with_reducible first|exact HB.out|apply ah|apply af|apply ai|refine aj ?_ jH.out|refine aj ?_ jE.out)|exact HB.out)) hb)
                 clear fM
                 clear bZ
                 clear HB
                 have fM:=dV
                 have bZ:=dU
                 have HB:=dR
                 clear dV dU dR
                 (try clear hb)
                 (try clear hb2)
                 (try clear hk)
                 (try clear hi)
                 refine hK.out _ _ ⟨(ax bZ.out 0).trans rfl,(ax bZ.out 1).trans rfl,(ax bZ.out 2).trans rfl,(ax bZ.out 3).trans rfl,(ax bZ.out 4).trans rfl⟩ (fun hHeld=>?_)
                 clear hK K
                 refine jm (a':=?_) ?_ ?_
                 rotate_left
                 ·
                  show Act.put _ (some 58) _=_
                  simp only [Act.put,List.setIfInBounds_toArray,List.set_cons_zero,List.set_cons_succ,bG,bJ]
                  rfl
                 refine dX (i:=6) (N:=some 52) (v:=?_) (a':=?_) #[true,true,true,true,true,true,true,false,false,false,false,false] rfl rfl (iF lh.out (by kernel_rfl)) (fun _ _ _ h=>h) (Or.inl ⟨by rfl,?_⟩) ?_ ?_
                 rotate_left
                 ·
                  intro w'
                  go_simp
                  with_reducible rfl
                 rotate_left
                 ·
                  simp only [Act.put,List.setIfInBounds_toArray,List.set_cons_zero,List.set_cons_succ,bG,bJ]
                  rfl
                 refine dX (i:=7) (N:=some 59) (v:=?_) (a':=?_) #[true,true,true,true,true,true,true,true,false,false,false,false] rfl rfl (iF lh.out (by kernel_rfl)) (fun _ _ _ h=>h) (Or.inl ⟨by rfl,?_⟩) ?_ ?_
                 rotate_left
                 ·
                  intro w'
                  go_simp
                  with_reducible rfl
                 rotate_left
                 ·
                  simp only [Act.put,List.setIfInBounds_toArray,List.set_cons_zero,List.set_cons_succ,bG,bJ]
                  rfl
                 refine dX (i:=8) (N:=some 60) (v:=?_) (a':=?_) #[true,true,true,true,true,true,true,true,true,false,false,false] rfl rfl (iF lh.out (by kernel_rfl)) (fun _ _ _ h=>h) (Or.inl ⟨by rfl,?_⟩) ?_ ?_
                 rotate_left
                 ·
                  intro w'
                  go_simp
                  with_reducible rfl
                 rotate_left
                 ·
                  simp only [Act.put,List.setIfInBounds_toArray,List.set_cons_zero,List.set_cons_succ,bG,bJ]
                  rfl
                 refine o6 (i:=9) (N:=some 11) #[true,true,true,true,true,true,true,true,true,true,false,false] rfl rfl (mY lh.out (by kernel_rfl)) (by decide) (fun K hK=>?_)
                 refine rP ?hg (N:=11) ?hd (cs:=#[.int .u8 0,.int .u8 0,.int .u8 0,.int .u8 0,.int .i64 0]) (t:=55) ?hr ?_;(case hd=>rfl);(case hg=>rfl);(case hr=>first|(go_simp;done)|(go_simp;rfl))
                 intro dE hg QU hbox hb
                 have dV:=ae.mk (bf (g:=iG) (o:=.cells #[.int .u8 gy,.int .u8 gm,.int .u8 fP,.int .u8 fH,.int .i64 eY] 55 (0,0)) (by (with_reducible repeat (first|refine au ?_ _|refine ay ?_|refine ak ?_ _));exact fM.out) hb)
                 have dU:=ae.mk (bf (g:=eQ) (o:=.cells #[.int .u8 dK,.int .u8 dJ,.int .u8 dI,.int .u8 dH,.int .i64 dG] 55 (0,0)) (by (with_reducible repeat (first|refine au ?_ _|refine ay ?_|refine ak ?_ _));exact bZ.out) hb)
                 have dR:=ae.mk (bg (by repeat (first|(with_reducible first|exact HB.out|apply ah|apply af|apply ai|refine aj ?_ jH.out|refine aj ?_ jE.out)|exact HB.out)) hb)
                 have gQ:=ae.mk (hbox)
                 have lQ:=ae.mk ((by rw [hg];exact (bW (by repeat (first|(with_reducible first|exact HB.out|apply ah|apply af|apply ai|refine aj ?_ jH.out|refine aj ?_ jE.out)|exact HB.out))):w.heap.size≤dE))
                 have mr:=lQ
                 have nJ:=ae.mk ((by rw [hg];exact Nat.ne_of_lt (kC (g:=iG) (o:=.cells #[.int .u8 gy,.int .u8 gm,.int .u8 fP,.int .u8 fH,.int .i64 eY] 55 (0,0)) (by (with_reducible repeat (first|refine au ?_ _|refine ay ?_|refine ak ?_ _));exact fM.out)):iG ≠ dE))
                 have vS:=ae.mk nJ.out.symm
                 have vP:=ae.mk ((by rw [hg];exact Nat.ne_of_lt (kC (g:=eQ) (o:=.cells #[.int .u8 dK,.int .u8 dJ,.int .u8 dI,.int .u8 dH,.int .i64 dG] 55 (0,0)) (by (with_reducible repeat (first|refine au ?_ _|refine ay ?_|refine ak ?_ _));exact bZ.out)):eQ ≠ dE))
                 have yf:=ae.mk vP.out.symm
                 clear fM
                 clear bZ
                 clear HB
                 have fM:=dV
                 have bZ:=dU
                 have HB:=dR
                 have iK:=gQ
                 have qZ:=lQ
                 have lT:=mr
                 have eP:=nJ
                 have gG:=vS
                 have bD:=vP
                 have gV:=yf
                 clear dV dU dR gQ lQ mr nJ vS vP yf
                 clear hb hbox hg
                 refine hK.out _ _ ⟨(ax bZ.out 0).trans rfl,(ax bZ.out 1).trans rfl,(ax bZ.out 2).trans rfl,(ax bZ.out 3).trans rfl,(ax bZ.out 4).trans rfl⟩ (fun hHeld=>?_)
                 clear hK K
                 refine jm (a':=?_) ?_ ?_
                 rotate_left
                 ·
                  show Act.put _ (some 11) _=_
                  simp only [Act.put,List.setIfInBounds_toArray,List.set_cons_zero,List.set_cons_succ,bG,bJ]
                  rfl
                 exact jm (by simp only [oD,Act.put,List.setIfInBounds_toArray,List.set_cons_zero,List.set_cons_succ]) (yj (dE) _ ⟨hHeld,(by (with_reducible repeat (first|refine au ?_ _|refine ay ?_|refine ak ?_ _));exact fM.out),(by (with_reducible repeat (first|refine au ?_ _|refine ay ?_|refine ak ?_ _));exact bZ.out),(by (with_reducible repeat (first|refine au ?_ _|refine ay ?_|refine ak ?_ _));exact iK.out),qZ.out,lT.out,eP.out,gG.out,bD.out,gV.out,(by repeat (first|(with_reducible first|exact HB.out|apply ah|apply af|apply ai|refine aj ?_ jH.out|refine aj ?_ jE.out|refine aj ?_ lT.out)|exact HB.out))⟩)
                ·
                 skip
                 refine rP ?hg (N:=11) ?hd (cs:=#[.int .u8 0,.int .u8 0,.int .u8 0,.int .u8 0,.int .i64 0]) (t:=55) ?hr ?_;(case hd=>rfl);(case hg=>rfl);(case hr=>first|(go_simp;done)|(go_simp;rfl))
                 intro dE hg w23 hbox hb
                 have dV:=ae.mk (bf (g:=iG) (o:=.cells #[.int .u8 gy,.int .u8 gm,.int .u8 fP,.int .u8 fH,.int .i64 eY] 55 (0,0)) (by (with_reducible repeat (first|refine au ?_ _|refine ay ?_|refine ak ?_ _));exact fM.out) hb)
                 have dU:=ae.mk (bf (g:=eQ) (o:=.cells #[.int .u8 dK,.int .u8 dJ,.int .u8 dI,.int .u8 dH,.int .i64 dG] 55 (0,0)) (by (with_reducible repeat (first|refine au ?_ _|refine ay ?_|refine ak ?_ _));exact bZ.out) hb)
                 have dR:=ae.mk (bg (by repeat (first|(with_reducible first|exact HB.out|apply ah|apply af|apply ai|refine aj ?_ jH.out|refine aj ?_ jE.out)|exact HB.out)) hb)
                 have gQ:=ae.mk (hbox)
                 have lQ:=ae.mk ((by rw [hg];exact (bW (by repeat (first|(with_reducible first|exact HB.out|apply ah|apply af|apply ai|refine aj ?_ jH.out|refine aj ?_ jE.out)|exact HB.out))):w.heap.size≤dE))
                 have mr:=lQ
                 have nJ:=ae.mk ((by rw [hg];exact Nat.ne_of_lt (kC (g:=iG) (o:=.cells #[.int .u8 gy,.int .u8 gm,.int .u8 fP,.int .u8 fH,.int .i64 eY] 55 (0,0)) (by (with_reducible repeat (first|refine au ?_ _|refine ay ?_|refine ak ?_ _));exact fM.out)):iG ≠ dE))
                 have vS:=ae.mk nJ.out.symm
                 have vP:=ae.mk ((by rw [hg];exact Nat.ne_of_lt (kC (g:=eQ) (o:=.cells #[.int .u8 dK,.int .u8 dJ,.int .u8 dI,.int .u8 dH,.int .i64 dG] 55 (0,0)) (by (with_reducible repeat (first|refine au ?_ _|refine ay ?_|refine ak ?_ _));exact bZ.out)):eQ ≠ dE))
                 have yf:=ae.mk vP.out.symm
                 clear fM
                 clear bZ
                 clear HB
                 have fM:=dV
                 have bZ:=dU
                 have HB:=dR
                 have iK:=gQ
                 have qZ:=lQ
                 have lT:=mr
                 have eP:=nJ
                 have gG:=vS
                 have bD:=vP
                 have gV:=yf
                 clear dV dU dR gQ lQ mr nJ vS vP yf
                 clear hb hbox hg
                 refine hK.out _ _ ⟨(ax bZ.out 0).trans rfl,(ax bZ.out 1).trans rfl,(ax bZ.out 2).trans rfl,(ax bZ.out 3).trans rfl,(ax bZ.out 4).trans rfl⟩ (fun hHeld=>?_)
                 clear hK K
                 refine jm (a':=?_) ?_ ?_
                 rotate_left
                 ·
                  show Act.put _ (some 11) _=_
                  simp only [Act.put,List.setIfInBounds_toArray,List.set_cons_zero,List.set_cons_succ,bG,bJ]
                  rfl
                 refine o6 (i:=5) (N:=some 58) #[true,true,true,true,true,true,false,false,false,true,false,false] rfl rfl (mY lh.out (by kernel_rfl)) (by decide) (fun K hK=>?_)
                 refine oI Tryd.func65 (by kernel_rfl) rfl #[.agg #[.int .u8 dK,.int .u8 dJ,.int .u8 dI,.int .u8 dH,.int .i64 dG],.int .u8 (bt t112 mW),.int .i64 t116] (by rfl) rfl rfl (by (try simp only [List.map_toArray,List.map_cons,List.map_nil]);first|done|rfl|(simp only [List.length_drop,List.length_take];rfl)) ?_
                 with_reducible refine (aZ.calls k3 dK dJ dI dH dG (bt t112 mW) t116 t118 t119 t120 t121 t122 true _ Qz.out).mono ?_
                 rintro e QU ⟨rfl,hb⟩
                 refine ⟨_,rfl,?_⟩
                 have dV:=ae.mk (bf (g:=iG) (o:=.cells #[.int .u8 gy,.int .u8 gm,.int .u8 fP,.int .u8 fH,.int .i64 eY] 55 (0,0)) (by (with_reducible repeat (first|refine au ?_ _|refine ay ?_|refine ak ?_ _));exact fM.out) hb)
                 have dU:=ae.mk (bf (g:=eQ) (o:=.cells #[.int .u8 dK,.int .u8 dJ,.int .u8 dI,.int .u8 dH,.int .i64 dG] 55 (0,0)) (by (with_reducible repeat (first|refine au ?_ _|refine ay ?_|refine ak ?_ _));exact bZ.out) hb)
                 have dR:=ae.mk (bf (g:=dE) (o:=.cells #[.int .u8 0,.int .u8 0,.int .u8 0,.int .u8 0,.int .i64 0] 55 (0,0)) (by (with_reducible repeat (first|refine au ?_ _|refine ay ?_|refine ak ?_ _));exact iK.out) hb)
                 have gQ:=ae.mk (bg (by repeat (first|(with_reducible first|exact HB.out|apply ah|apply af|apply ai|refine aj ?_ jH.out|refine aj ?_ jE.out|refine aj ?_ lT.out)|exact HB.out)) hb)
                 clear fM
                 clear bZ
                 clear iK
                 clear HB
                 have fM:=dV
                 have bZ:=dU
                 have iK:=dR
                 have HB:=gQ
                 clear dV dU dR gQ
                 (try clear hb)
                 (try clear hb2)
                 (try clear hk)
                 (try clear hi)
                 refine hK.out _ _ ⟨(ax bZ.out 0).trans rfl,(ax bZ.out 1).trans rfl,(ax bZ.out 2).trans rfl,(ax bZ.out 3).trans rfl,(ax bZ.out 4).trans rfl⟩ (fun hHeld=>?_)
                 clear hK K
                 refine jm (a':=?_) ?_ ?_
                 rotate_left
                 ·
                  show Act.put _ (some 58) _=_
                  simp only [Act.put,List.setIfInBounds_toArray,List.set_cons_zero,List.set_cons_succ,bG,bJ]
                  rfl
                 refine dX (i:=6) (N:=some 52) (v:=?_) (a':=?_) #[true,true,true,true,true,true,true,false,false,true,false,false] rfl rfl (iF lh.out (by kernel_rfl)) (fun _ _ _ h=>h) (Or.inl ⟨by rfl,?_⟩) ?_ ?_
                 rotate_left
                 ·
                  intro w'
                  go_simp
                  with_reducible rfl
                 rotate_left
                 ·
                  simp only [Act.put,List.setIfInBounds_toArray,List.set_cons_zero,List.set_cons_succ,bG,bJ]
                  rfl
                 refine dX (i:=7) (N:=some 59) (v:=?_) (a':=?_) #[true,true,true,true,true,true,true,true,false,true,false,false] rfl rfl (iF lh.out (by kernel_rfl)) (fun _ _ _ h=>h) (Or.inl ⟨by rfl,?_⟩) ?_ ?_
                 rotate_left
                 ·
                  intro w'
                  go_simp
                  with_reducible rfl
                 rotate_left
                 ·
                  simp only [Act.put,List.setIfInBounds_toArray,List.set_cons_zero,List.set_cons_succ,bG,bJ]
                  rfl
                 refine dX (i:=8) (N:=some 60) (v:=?_) (a':=?_) #[true,true,true,true,true,true,true,true,true,true,false,false] rfl rfl (iF lh.out (by kernel_rfl)) (fun _ _ _ h=>h) (Or.inl ⟨by rfl,?_⟩) ?_ ?_
                 rotate_left
                 ·
                  intro w'
                  go_simp
                  with_reducible rfl
                 rotate_left
                 ·
                  simp only [Act.put,List.setIfInBounds_toArray,List.set_cons_zero,List.set_cons_succ,bG,bJ]
                  rfl
                 exact jm (by simp only [oD,Act.put,List.setIfInBounds_toArray,List.set_cons_zero,List.set_cons_succ]) (yj (dE) _ ⟨hHeld,(by (with_reducible repeat (first|refine au ?_ _|refine ay ?_|refine ak ?_ _));exact fM.out),(by (with_reducible repeat (first|refine au ?_ _|refine ay ?_|refine ak ?_ _));exact bZ.out),(by (with_reducible repeat (first|refine au ?_ _|refine ay ?_|refine ak ?_ _));exact iK.out),qZ.out,lT.out,eP.out,gG.out,bD.out,gV.out,(by repeat (first|(with_reducible first|exact HB.out|apply ah|apply af|apply ai|refine aj ?_ jH.out|refine aj ?_ jE.out|refine aj ?_ lT.out)|exact HB.out))⟩)
               rintro dE qC ⟨yG,XD,PI,XC,XB,XA,Xz,Xy,Xx,Xw,Xv⟩
               have dV:ae (qC.heap[iG]? = some (.cells #[.int .u8 gy,.int .u8 gm,.int .u8 fP,.int .u8 fH,.int .i64 eY] 55 (0,0))):=⟨XD⟩
               have dU:ae (qC.heap[eQ]? = some (.cells #[.int .u8 dK,.int .u8 dJ,.int .u8 dI,.int .u8 dH,.int .i64 dG] 55 (0,0))):=⟨PI⟩
               have dR:ae (qC.heap[dE]? = some (.cells #[.int .u8 0,.int .u8 0,.int .u8 0,.int .u8 0,.int .i64 0] 55 (0,0))):=⟨XC⟩
               have gQ:ae (w.heap.size≤dE):=⟨XB⟩
               have lQ:ae (w.heap.size≤dE):=⟨XA⟩
               have mr:ae (iG ≠ dE):=⟨Xz⟩
               have nJ:ae (dE ≠ iG):=⟨Xy⟩
               have vS:ae (eQ ≠ dE):=⟨Xx⟩
               have vP:ae (dE ≠ eQ):=⟨Xw⟩
               have yf:ae (Below w.heap.size w qC):=⟨Xv⟩
               clear fM
               clear bZ
               clear HB
               clear XD PI XC XB XA Xz Xy Xx Xw Xv
               have fM:=dV
               have bZ:=dU
               have iK:=dR
               have qZ:=gQ
               have lT:=lQ
               have eP:=mr
               have gG:=nJ
               have bD:=vS
               have gV:=vP
               have HB:=yf
               clear dV dU dR gQ lQ mr nJ vS vP yf
               have hHeld:qC.cell? ⟨eQ,0,none⟩=some (.int .u8 dK)∧qC.cell? ⟨eQ,1,none⟩=some (.int .u8 dJ)∧qC.cell? ⟨eQ,2,none⟩=some (.int .u8 dI)∧qC.cell? ⟨eQ,3,none⟩=some (.int .u8 dH)∧qC.cell? ⟨eQ,4,none⟩=some (.int .i64 dG):=yG
               refine jm (a':=?_) ?_ ?_
               rotate_left
               ·
                simp only [oD,Act.put,List.setIfInBounds_toArray,List.set_cons_zero,List.set_cons_succ]
                rfl
               refine o6 (i:=10) (N:=none) #[true,true,true,true,true,true,true,true,true,true,true,false] rfl rfl (mY lh.out (by kernel_rfl)) (by decide) (fun K hK=>?_)
               have aoX:qC.cell? ⟨dE,0,none⟩=some (.int .u8 0):=(ax iK.out 0).trans rfl
               have am3:=aC iK.out 0
               have ae3:=eP.out
               have ae2:=bD.out
               have afx:=gG.out
               have afw:=gV.out
               have aoW:qC.cell? ⟨dE,1,none⟩=some (.int .u8 0):=(ax iK.out 1).trans rfl
               have am2:=aC iK.out 1
               have ae1:=eP.out
               have ae0:=bD.out
               have afv:=gG.out
               have afu:=gV.out
               have aoV:qC.cell? ⟨dE,2,none⟩=some (.int .u8 0):=(ax iK.out 2).trans rfl
               have am1:=aC iK.out 2
               have aeZ:=eP.out
               have aeY:=bD.out
               have aft:=gG.out
               have afs:=gV.out
               have aoU:qC.cell? ⟨dE,3,none⟩=some (.int .u8 0):=(ax iK.out 3).trans rfl
               have am0:=aC iK.out 3
               have aeX:=eP.out
               have aeW:=bD.out
               have afr:=gG.out
               have afq:=gV.out
               have aoT:qC.cell? ⟨dE,4,none⟩=some (.int .i64 0):=(ax iK.out 4).trans rfl
               have amZ:=aC iK.out 4
               have aeV:=eP.out
               have aeU:=bD.out
               have afp:=gG.out
               have afo:=gV.out
               refine BJ (w1:=?_) (by rfl) rfl ?_ ?_
               rotate_left
               ·
                go_simp
                rfl
               refine hK.out _ _ ⟨((cell_far (p:=⟨dE,_,none⟩) bD.out _).trans (((cell_far (p:=⟨dE,_,none⟩) bD.out _).trans (((cell_far (p:=⟨dE,_,none⟩) bD.out _).trans (((cell_far (p:=⟨dE,_,none⟩) bD.out _).trans (((cell_far (p:=⟨dE,_,none⟩) bD.out _).trans (hHeld.1)))))))))),((cell_far (p:=⟨dE,_,none⟩) bD.out _).trans (((cell_far (p:=⟨dE,_,none⟩) bD.out _).trans (((cell_far (p:=⟨dE,_,none⟩) bD.out _).trans (((cell_far (p:=⟨dE,_,none⟩) bD.out _).trans (((cell_far (p:=⟨dE,_,none⟩) bD.out _).trans (hHeld.2.1)))))))))),((cell_far (p:=⟨dE,_,none⟩) bD.out _).trans (((cell_far (p:=⟨dE,_,none⟩) bD.out _).trans (((cell_far (p:=⟨dE,_,none⟩) bD.out _).trans (((cell_far (p:=⟨dE,_,none⟩) bD.out _).trans (((cell_far (p:=⟨dE,_,none⟩) bD.out _).trans (hHeld.2.2.1)))))))))),((cell_far (p:=⟨dE,_,none⟩) bD.out _).trans (((cell_far (p:=⟨dE,_,none⟩) bD.out _).trans (((cell_far (p:=⟨dE,_,none⟩) bD.out _).trans (((cell_far (p:=⟨dE,_,none⟩) bD.out _).trans (((cell_far (p:=⟨dE,_,none⟩) bD.out _).trans (hHeld.2.2.2.1)))))))))),((cell_far (p:=⟨dE,_,none⟩) bD.out _).trans (((cell_far (p:=⟨dE,_,none⟩) bD.out _).trans (((cell_far (p:=⟨dE,_,none⟩) bD.out _).trans (((cell_far (p:=⟨dE,_,none⟩) bD.out _).trans (((cell_far (p:=⟨dE,_,none⟩) bD.out _).trans (hHeld.2.2.2.2))))))))))⟩ (fun hHeld=>?_)
               clear hK K
               refine dX (i:=11) (N:=some 12) (v:=?_) (a':=?_) #[true,true,true,true,true,true,true,true,true,true,true,true] rfl rfl (iF lh.out (by kernel_rfl)) (fun _ _ _ h=>h) (Or.inl ⟨by rfl,?_⟩) ?_ ?_
               rotate_left
               ·
                intro w'
                go_simp
                with_reducible rfl
               rotate_left
               ·
                simp only [Act.put,List.setIfInBounds_toArray,List.set_cons_zero,List.set_cons_succ,bG,bJ]
                rfl
               refine rH (vz lh.out (by kernel_rfl)) ?_
               have amD:=gG.out
               have ama:=eP.out
               have amC:=gV.out
               have al9:=bD.out
               obtain ⟨ajt,ajs,ajr,ajq,ajp,ahf,ahe,ahd,ahc,ahb⟩:=jT iK.out
               have Xh:=rU.out
               have Xf:=jV.out
               obtain ⟨J6,J5,J4,J3,Vr,Jr,Jq,Jp,Jo,TL⟩:=jT bZ.out
               try go_wp2
               go_roundg k3
               case measure=>have:=rW.out;have:=H7.out;have:=AY.out;omega
               case rel=>exact ⟨(oQ),(gy),(gm),(fP),(fH),(eY),(t118),(t119),(t120),(t121),(t122),(by first|rfl|(simp;done)|(simp only [← wR] <;> (first|rfl|simp))|(simp [*];done)),H',⟨by have:=rW.out;have:=H7.out;have:=AY.out;omega⟩,⟨by (with_reducible repeat (first|refine au ?_ _|refine ay ?_|refine ak ?_ _));refine fQ ?_ jV.out _;(with_reducible repeat (first|refine au ?_ _|refine ay ?_|refine ak ?_ _));refine fQ ?_ jV.out _;(with_reducible repeat (first|refine au ?_ _|refine ay ?_|refine ak ?_ _));refine fQ ?_ jV.out _;(with_reducible repeat (first|refine au ?_ _|refine ay ?_|refine ak ?_ _));refine fQ ?_ jV.out _;(with_reducible repeat (first|refine au ?_ _|refine ay ?_|refine ak ?_ _));refine fQ ?_ jV.out _;(with_reducible repeat (first|refine au ?_ _|refine ay ?_|refine ak ?_ _));refine fQ ?_ eP.out _;(with_reducible repeat (first|refine au ?_ _|refine ay ?_|refine ak ?_ _));refine fQ ?_ eP.out _;(with_reducible repeat (first|refine au ?_ _|refine ay ?_|refine ak ?_ _));refine fQ ?_ eP.out _;(with_reducible repeat (first|refine au ?_ _|refine ay ?_|refine ak ?_ _));refine fQ ?_ eP.out _;(with_reducible repeat (first|refine au ?_ _|refine ay ?_|refine ak ?_ _));refine fQ ?_ eP.out _;(with_reducible repeat (first|refine au ?_ _|refine ay ?_|refine ak ?_ _));exact fM.out⟩,⟨by (with_reducible repeat (first|refine au ?_ _|refine ay ?_|refine ak ?_ _));refine dP (cs:=#[.int .u8 t118,.int .u8 t119,.int .u8 t120,.int .u8 t121,.int .i64 dG]) ?_ 4 _ rfl;(with_reducible repeat (first|refine au ?_ _|refine ay ?_|refine ak ?_ _));refine dP (cs:=#[.int .u8 t118,.int .u8 t119,.int .u8 t120,.int .u8 dH,.int .i64 dG]) ?_ 3 _ rfl;(with_reducible repeat (first|refine au ?_ _|refine ay ?_|refine ak ?_ _));refine dP (cs:=#[.int .u8 t118,.int .u8 t119,.int .u8 dI,.int .u8 dH,.int .i64 dG]) ?_ 2 _ rfl;(with_reducible repeat (first|refine au ?_ _|refine ay ?_|refine ak ?_ _));refine dP (cs:=#[.int .u8 t118,.int .u8 dJ,.int .u8 dI,.int .u8 dH,.int .i64 dG]) ?_ 1 _ rfl;(with_reducible repeat (first|refine au ?_ _|refine ay ?_|refine ak ?_ _));refine dP (cs:=#[.int .u8 dK,.int .u8 dJ,.int .u8 dI,.int .u8 dH,.int .i64 dG]) ?_ 0 _ rfl;(with_reducible repeat (first|refine au ?_ _|refine ay ?_|refine ak ?_ _));refine fQ ?_ bD.out _;(with_reducible repeat (first|refine au ?_ _|refine ay ?_|refine ak ?_ _));refine fQ ?_ bD.out _;(with_reducible repeat (first|refine au ?_ _|refine ay ?_|refine ak ?_ _));refine fQ ?_ bD.out _;(with_reducible repeat (first|refine au ?_ _|refine ay ?_|refine ak ?_ _));refine fQ ?_ bD.out _;(with_reducible repeat (first|refine au ?_ _|refine ay ?_|refine ak ?_ _));refine fQ ?_ bD.out _;(with_reducible repeat (first|refine au ?_ _|refine ay ?_|refine ak ?_ _));exact bZ.out⟩,⟨by repeat (first|(with_reducible first|exact HB.out|apply ah|apply af|apply ai|refine aj ?_ jH.out|refine aj ?_ jE.out|refine aj ?_ lT.out)|exact HB.out)⟩⟩
              ·
               replace c21:=Bool.eq_false_iff.mpr c21
               subst c21
               have H1:(some (0,0,0,0,0,false))=some (r1,r2,r3,r4,r5,r6):=by rw [if_neg (show ¬ (false=true) by decide)] at H;exact H
               clear H
               have H:=H1
               clear H1
               simp only [Option.some.injEq,Prod.mk.injEq] at H
               obtain ⟨rfl,rfl,rfl,rfl,rfl,rfl⟩:=H
               have zT:0≤((oQ):Int):=of_decide_eq_true (by first|(with_reducible assumption)|assumption)
               have zQ:(oQ) < (l0.length:Int):=of_decide_eq_true (by first|(with_reducible assumption)|assumption)
               obtain ⟨XL,e115,oG⟩:=Kd.jD HR0.out (oQ) zT zQ
               cases e115
               replace oG:=(HB.out.cell (World.block_lt_of_cell? w _ oG)).trans oG
               replace zT:=eq_true zT
               replace zQ:=eq_true zQ
               try go_wp2_with (first|((with_reducible refine bu (f:=64) rfl ?_);refine dS (some 49) rfl rfl Tryd.func64 (by kernel_rfl) rfl #[.string (dW ByteArray.empty l0 (oQ))] rfl (by (try simp only [List.map_toArray,List.map_cons,List.map_nil]);first|done|(simp only [wR];rfl)|rfl|(simp only [List.length_drop,List.length_take];rfl)) ?_;(with_reducible refine (aH.calls k3 (dW ByteArray.empty l0 (oQ)) t116 t117 _ Z8.out).mono ?_);rintro e w' ⟨rfl,⟨nd,rfl⟩⟩;refine ⟨_,rfl,?_⟩;(try (rw [qN wr];generalize Bd:World.drewN wr _=wr;have dV:ae (wr.heap[iG]? = some (.cells #[.int .u8 gy,.int .u8 gm,.int .u8 fP,.int .u8 fH,.int .i64 eY] 55 (0,0))):=⟨by rw [← Bd];exact (by (with_reducible repeat (first|refine au ?_ _|refine ay ?_|refine ak ?_ _));exact fM.out)⟩;have dU:ae (wr.heap[eQ]? = some (.cells #[.int .u8 dK,.int .u8 dJ,.int .u8 dI,.int .u8 dH,.int .i64 dG] 55 (0,0))):=⟨by rw [← Bd];exact (by (with_reducible repeat (first|refine au ?_ _|refine ay ?_|refine ak ?_ _));exact bZ.out)⟩;have dR:ae (Below w.heap.size w wr):=⟨by rw [← Bd];exact (by repeat (first|(with_reducible first|exact HB.out|apply ah|apply af|apply ai|refine aj ?_ jH.out|refine aj ?_ jE.out)|exact HB.out))⟩;clear fM bZ HB Bd;have fM:=dV;have bZ:=dU;have HB:=dR;clear dV dU dR))))
               have dV:=ae.mk (ay fM.out)
               have dU:=ae.mk (ay bZ.out)
               have dR:=ae.mk (ai HB.out)
               clear fM
               clear bZ
               clear HB
               have fM:=dV
               have bZ:=dU
               have HB:=dR
               clear dV dU dR
               have EI:0≤(mW:Int):=of_decide_eq_true (by first|(with_reducible assumption)|assumption)
               have EE:mW < (t112.size:Int):=of_decide_eq_true (by first|(with_reducible assumption)|assumption)
               have OA:=kL t112 mW
               replace EI:=eq_true EI
               replace EE:=eq_true EE
               refine o5 (n:=12) (S:=fun w'=>w'.cell? ⟨eQ,0,none⟩=some (.int .u8 dK)∧w'.cell? ⟨eQ,1,none⟩=some (.int .u8 dJ)∧w'.cell? ⟨eQ,2,none⟩=some (.int .u8 dI)∧w'.cell? ⟨eQ,3,none⟩=some (.int .u8 dH)∧w'.cell? ⟨eQ,4,none⟩=some (.int .i64 dG)) (ds:=[]) #[false,false,false,false,false,false,false,false,false,false,false,false] (by kernel_rfl) rfl rfl ⟨(ax bZ.out 0).trans rfl,(ax bZ.out 1).trans rfl,(ax bZ.out 2).trans rfl,(ax bZ.out 3).trans rfl,(ax bZ.out 4).trans rfl⟩ (fun hHeld=>?_);refine qB aJ.NK aJ.Hq (fun lh BA=>?_)
               generalize wr.drew=w36 at fM bZ HB hHeld ⊢
               refine dX (i:=1) (N:=some 54) (v:=?_) (a':=?_) #[false,true,false,false,false,false,false,false,false,false,false,false] rfl rfl (iF lh.out (by kernel_rfl)) (fun _ _ _ h=>h) (Or.inl ⟨by rfl,?_⟩) ?_ ?_
               rotate_left
               ·
                intro w'
                go_simp
                with_reducible rfl
               rotate_left
               ·
                simp only [Act.put,List.setIfInBounds_toArray,List.set_cons_zero,List.set_cons_succ,bG,bJ]
                rfl
               refine dX (i:=2) (N:=some 55) (v:=?_) (a':=?_) #[false,true,true,false,false,false,false,false,false,false,false,false] rfl rfl (iF lh.out (by kernel_rfl)) (fun _ _ _ h=>h) (Or.inl ⟨by rfl,?_⟩) ?_ ?_
               rotate_left
               ·
                intro w'
                go_simp
                with_reducible rfl
               rotate_left
               ·
                simp only [Act.put,List.setIfInBounds_toArray,List.set_cons_zero,List.set_cons_succ,bG,bJ]
                rfl
               refine dX (i:=4) (N:=some 57) (v:=?_) (a':=?_) #[false,true,true,false,true,false,false,false,false,false,false,false] rfl rfl (iF lh.out (by kernel_rfl)) (fun _ _ _ h=>h) (Or.inl ⟨by rfl,?_⟩) ?_ ?_
               rotate_left
               ·
                intro w'
                go_simp
                with_reducible rfl
               rotate_left
               ·
                simp only [Act.put,List.setIfInBounds_toArray,List.set_cons_zero,List.set_cons_succ,bG,bJ]
                rfl
               refine jg (i:=0) (N:=some 53) (v:=?_) (a':=?_) #[true,true,true,false,true,false,false,false,false,false,false,false] rfl rfl (kJ lh.out BA.out (by kernel_rfl)) (fun _ _ _ h=>h) (Or.inl ⟨by rfl,?_⟩) hHeld ?_ ?_
               rotate_left
               ·
                rintro w' ⟨s0,s1,s2,s3,s4⟩
                go_simp
                with_reducible rfl
               rotate_left
               ·
                simp only [Act.put,List.setIfInBounds_toArray,List.set_cons_zero,List.set_cons_succ,bG,bJ]
                rfl
               refine jg (i:=3) (N:=some 56) (v:=?_) (a':=?_) #[true,true,true,true,true,false,false,false,false,false,false,false] rfl rfl (kJ lh.out BA.out (by kernel_rfl)) (fun _ _ _ h=>h) (Or.inl ⟨by rfl,?_⟩) hHeld ?_ ?_
               rotate_left
               ·
                rintro w' ⟨s0,s1,s2,s3,s4⟩
                go_simp
                with_reducible rfl
               rotate_left
               ·
                simp only [Act.put,List.setIfInBounds_toArray,List.set_cons_zero,List.set_cons_succ,bG,bJ]
                rfl
               refine Ox (σ:=Nat) 2 #[true,true,true,true,true,true,true,true,true,true,false,false] (fun s_=>[(58,.tuple #[.agg #[.int .u8 t118,.int .u8 t119,.int .u8 t120,.int .u8 t121,.int .i64 t122],.bool false]),(11,.pointer (some ⟨s_,0,none⟩)),(52,.tuple #[.agg #[.int .u8 t118,.int .u8 t119,.int .u8 t120,.int .u8 t121,.int .i64 t122],.bool false]),(59,.agg #[.int .u8 t118,.int .u8 t119,.int .u8 t120,.int .u8 t121,.int .i64 t122]),(60,.bool false)]) (fun s_ w'=>(w'.cell? ⟨eQ,0,none⟩=some (.int .u8 dK)∧w'.cell? ⟨eQ,1,none⟩=some (.int .u8 dJ)∧w'.cell? ⟨eQ,2,none⟩=some (.int .u8 dI)∧w'.cell? ⟨eQ,3,none⟩=some (.int .u8 dH)∧w'.cell? ⟨eQ,4,none⟩=some (.int .i64 dG))∧(w'.heap[iG]? = some (.cells #[.int .u8 gy,.int .u8 gm,.int .u8 fP,.int .u8 fH,.int .i64 eY] 55 (0,0)))∧(w'.heap[eQ]? = some (.cells #[.int .u8 dK,.int .u8 dJ,.int .u8 dI,.int .u8 dH,.int .i64 dG] 55 (0,0)))∧(w'.heap[s_]? = some (.cells #[.int .u8 0,.int .u8 0,.int .u8 0,.int .u8 0,.int .i64 0] 55 (0,0)))∧(w.heap.size≤s_)∧(w.heap.size≤s_)∧(iG ≠ s_)∧(s_ ≠ iG)∧(eQ ≠ s_)∧(s_ ≠ eQ)∧(Below w.heap.size w w')) ?_ ?_
               rotate_left
               ·
                intro yj
                refine Yd (i:=5) (j:=9) (Ni:=some 58) (Nj:=some 11) #[true,true,true,true,true,true,false,false,false,false,false,false] #[true,true,true,true,true,false,false,false,false,true,false,false] rfl rfl rfl rfl (Gm lh.out (by kernel_rfl)) (by decide) (by decide) (fun K hK=>?_) (fun K hK=>?_)
                ·
                 skip
                 refine oI Tryd.func65 (by kernel_rfl) rfl #[.agg #[.int .u8 dK,.int .u8 dJ,.int .u8 dI,.int .u8 dH,.int .i64 dG],.int .u8 (bt t112 mW),.int .i64 t116] (by rfl) rfl rfl (by (try simp only [List.map_toArray,List.map_cons,List.map_nil]);first|done|rfl|(simp only [List.length_drop,List.length_take];rfl)) ?_
                 with_reducible refine (aZ.calls k3 dK dJ dI dH dG (bt t112 mW) t116 t118 t119 t120 t121 t122 false _ Qz.out).mono ?_
                 rintro e w37 ⟨rfl,hb⟩
                 refine ⟨_,rfl,?_⟩
                 have dV:=ae.mk (bf (g:=iG) (o:=.cells #[.int .u8 gy,.int .u8 gm,.int .u8 fP,.int .u8 fH,.int .i64 eY] 55 (0,0)) (by (with_reducible repeat (first|refine au ?_ _|refine ay ?_|refine ak ?_ _));exact fM.out) hb)
                 have dU:=ae.mk (bf (g:=eQ) (o:=.cells #[.int .u8 dK,.int .u8 dJ,.int .u8 dI,.int .u8 dH,.int .i64 dG] 55 (0,0)) (by (with_reducible repeat (first|refine au ?_ _|refine ay ?_|refine ak ?_ _));exact bZ.out) hb)
                 have dR:=ae.mk (bg (by repeat (first|(with_reducible first|exact HB.out|apply ah|apply af|apply ai|refine aj ?_ jH.out|refine aj ?_ jE.out)|exact HB.out)) hb)
                 clear fM
                 clear bZ
                 clear HB
                 have fM:=dV
                 have bZ:=dU
                 have HB:=dR
                 clear dV dU dR
                 (try clear hb)
                 (try clear hb2)
                 (try clear hk)
                 (try clear hi)
                 refine hK.out _ _ ⟨(ax bZ.out 0).trans rfl,(ax bZ.out 1).trans rfl,(ax bZ.out 2).trans rfl,(ax bZ.out 3).trans rfl,(ax bZ.out 4).trans rfl⟩ (fun hHeld=>?_)
                 clear hK K
                 refine jm (a':=?_) ?_ ?_
                 rotate_left
                 ·
                  show Act.put _ (some 58) _=_
                  simp only [Act.put,List.setIfInBounds_toArray,List.set_cons_zero,List.set_cons_succ,bG,bJ]
                  rfl
                 refine dX (i:=6) (N:=some 52) (v:=?_) (a':=?_) #[true,true,true,true,true,true,true,false,false,false,false,false] rfl rfl (iF lh.out (by kernel_rfl)) (fun _ _ _ h=>h) (Or.inl ⟨by rfl,?_⟩) ?_ ?_
                 rotate_left
                 ·
                  intro w'
                  go_simp
                  with_reducible rfl
                 rotate_left
                 ·
                  simp only [Act.put,List.setIfInBounds_toArray,List.set_cons_zero,List.set_cons_succ,bG,bJ]
                  rfl
                 refine dX (i:=7) (N:=some 59) (v:=?_) (a':=?_) #[true,true,true,true,true,true,true,true,false,false,false,false] rfl rfl (iF lh.out (by kernel_rfl)) (fun _ _ _ h=>h) (Or.inl ⟨by rfl,?_⟩) ?_ ?_
                 rotate_left
                 ·
                  intro w'
                  go_simp
                  with_reducible rfl
                 rotate_left
                 ·
                  simp only [Act.put,List.setIfInBounds_toArray,List.set_cons_zero,List.set_cons_succ,bG,bJ]
                  rfl
                 refine dX (i:=8) (N:=some 60) (v:=?_) (a':=?_) #[true,true,true,true,true,true,true,true,true,false,false,false] rfl rfl (iF lh.out (by kernel_rfl)) (fun _ _ _ h=>h) (Or.inl ⟨by rfl,?_⟩) ?_ ?_
                 rotate_left
                 ·
                  intro w'
                  go_simp
                  with_reducible rfl
                 rotate_left
                 ·
                  simp only [Act.put,List.setIfInBounds_toArray,List.set_cons_zero,List.set_cons_succ,bG,bJ]
                  rfl
                 refine o6 (i:=9) (N:=some 11) #[true,true,true,true,true,true,true,true,true,true,false,false] rfl rfl (mY lh.out (by kernel_rfl)) (by decide) (fun K hK=>?_)
                 refine rP ?hg (N:=11) ?hd (cs:=#[.int .u8 0,.int .u8 0,.int .u8 0,.int .u8 0,.int .i64 0]) (t:=55) ?hr ?_;(case hd=>rfl);(case hg=>rfl);(case hr=>first|(go_simp;done)|(go_simp;rfl))
                 intro dE hg w38 hbox hb
                 have dV:=ae.mk (bf (g:=iG) (o:=.cells #[.int .u8 gy,.int .u8 gm,.int .u8 fP,.int .u8 fH,.int .i64 eY] 55 (0,0)) (by (with_reducible repeat (first|refine au ?_ _|refine ay ?_|refine ak ?_ _));exact fM.out) hb)
                 have dU:=ae.mk (bf (g:=eQ) (o:=.cells #[.int .u8 dK,.int .u8 dJ,.int .u8 dI,.int .u8 dH,.int .i64 dG] 55 (0,0)) (by (with_reducible repeat (first|refine au ?_ _|refine ay ?_|refine ak ?_ _));exact bZ.out) hb)
                 have dR:=ae.mk (bg (by repeat (first|(with_reducible first|exact HB.out|apply ah|apply af|apply ai|refine aj ?_ jH.out|refine aj ?_ jE.out)|exact HB.out)) hb)
                 have gQ:=ae.mk (hbox)
                 have lQ:=ae.mk ((by rw [hg];exact (bW (by repeat (first|(with_reducible first|exact HB.out|apply ah|apply af|apply ai|refine aj ?_ jH.out|refine aj ?_ jE.out)|exact HB.out))):w.heap.size≤dE))
                 have mr:=lQ
                 have nJ:=ae.mk ((by rw [hg];exact Nat.ne_of_lt (kC (g:=iG) (o:=.cells #[.int .u8 gy,.int .u8 gm,.int .u8 fP,.int .u8 fH,.int .i64 eY] 55 (0,0)) (by (with_reducible repeat (first|refine au ?_ _|refine ay ?_|refine ak ?_ _));exact fM.out)):iG ≠ dE))
                 have vS:=ae.mk nJ.out.symm
                 have vP:=ae.mk ((by rw [hg];exact Nat.ne_of_lt (kC (g:=eQ) (o:=.cells #[.int .u8 dK,.int .u8 dJ,.int .u8 dI,.int .u8 dH,.int .i64 dG] 55 (0,0)) (by (with_reducible repeat (first|refine au ?_ _|refine ay ?_|refine ak ?_ _));exact bZ.out)):eQ ≠ dE))
                 have yf:=ae.mk vP.out.symm
                 clear fM
                 clear bZ
                 clear HB
                 have fM:=dV
                 have bZ:=dU
                 have HB:=dR
                 have iK:=gQ
                 have qZ:=lQ
                 have lT:=mr
                 have eP:=nJ
                 have gG:=vS
                 have bD:=vP
                 have gV:=yf
                 clear dV dU dR gQ lQ mr nJ vS vP yf
                 clear hb hbox hg
                 refine hK.out _ _ ⟨(ax bZ.out 0).trans rfl,(ax bZ.out 1).trans rfl,(ax bZ.out 2).trans rfl,(ax bZ.out 3).trans rfl,(ax bZ.out 4).trans rfl⟩ (fun hHeld=>?_)
                 clear hK K
                 refine jm (a':=?_) ?_ ?_
                 rotate_left
                 ·
                  show Act.put _ (some 11) _=_
                  simp only [Act.put,List.setIfInBounds_toArray,List.set_cons_zero,List.set_cons_succ,bG,bJ]
                  rfl
                 exact jm (by simp only [oD,Act.put,List.setIfInBounds_toArray,List.set_cons_zero,List.set_cons_succ]) (yj (dE) _ ⟨hHeld,(by (with_reducible repeat (first|refine au ?_ _|refine ay ?_|refine ak ?_ _));exact fM.out),(by (with_reducible repeat (first|refine au ?_ _|refine ay ?_|refine ak ?_ _));exact bZ.out),(by (with_reducible repeat (first|refine au ?_ _|refine ay ?_|refine ak ?_ _));exact iK.out),qZ.out,lT.out,eP.out,gG.out,bD.out,gV.out,(by repeat (first|(with_reducible first|exact HB.out|apply ah|apply af|apply ai|refine aj ?_ jH.out|refine aj ?_ jE.out|refine aj ?_ lT.out)|exact HB.out))⟩)
                ·
                 skip
                 refine rP ?hg (N:=11) ?hd (cs:=#[.int .u8 0,.int .u8 0,.int .u8 0,.int .u8 0,.int .i64 0]) (t:=55) ?hr ?_;(case hd=>rfl);(case hg=>rfl);(case hr=>first|(go_simp;done)|(go_simp;rfl))
                 intro dE hg w37 hbox hb
                 have dV:=ae.mk (bf (g:=iG) (o:=.cells #[.int .u8 gy,.int .u8 gm,.int .u8 fP,.int .u8 fH,.int .i64 eY] 55 (0,0)) (by (with_reducible repeat (first|refine au ?_ _|refine ay ?_|refine ak ?_ _));exact fM.out) hb)
                 have dU:=ae.mk (bf (g:=eQ) (o:=.cells #[.int .u8 dK,.int .u8 dJ,.int .u8 dI,.int .u8 dH,.int .i64 dG] 55 (0,0)) (by (with_reducible repeat (first|refine au ?_ _|refine ay ?_|refine ak ?_ _));exact bZ.out) hb)
                 have dR:=ae.mk (bg (by repeat (first|(with_reducible first|exact HB.out|apply ah|apply af|apply ai|refine aj ?_ jH.out|refine aj ?_ jE.out)|exact HB.out)) hb)
                 have gQ:=ae.mk (hbox)
                 have lQ:=ae.mk ((by rw [hg];exact (bW (by repeat (first|(with_reducible first|exact HB.out|apply ah|apply af|apply ai|refine aj ?_ jH.out|refine aj ?_ jE.out)|exact HB.out))):w.heap.size≤dE))
                 have mr:=lQ
                 have nJ:=ae.mk ((by rw [hg];exact Nat.ne_of_lt (kC (g:=iG) (o:=.cells #[.int .u8 gy,.int .u8 gm,.int .u8 fP,.int .u8 fH,.int .i64 eY] 55 (0,0)) (by (with_reducible repeat (first|refine au ?_ _|refine ay ?_|refine ak ?_ _));exact fM.out)):iG ≠ dE))
                 have vS:=ae.mk nJ.out.symm
                 have vP:=ae.mk ((by rw [hg];exact Nat.ne_of_lt (kC (g:=eQ) (o:=.cells #[.int .u8 dK,.int .u8 dJ,.int .u8 dI,.int .u8 dH,.int .i64 dG] 55 (0,0)) (by (with_reducible repeat (first|refine au ?_ _|refine ay ?_|refine ak ?_ _));exact bZ.out)):eQ ≠ dE))
                 have yf:=ae.mk vP.out.symm
                 clear fM
                 clear bZ
                 clear HB
                 have fM:=dV
                 have bZ:=dU
                 have HB:=dR
                 have iK:=gQ
                 have qZ:=lQ
                 have lT:=mr
                 have eP:=nJ
                 have gG:=vS
                 have bD:=vP
                 have gV:=yf
                 clear dV dU dR gQ lQ mr nJ vS vP yf
                 clear hb hbox hg
                 refine hK.out _ _ ⟨(ax bZ.out 0).trans rfl,(ax bZ.out 1).trans rfl,(ax bZ.out 2).trans rfl,(ax bZ.out 3).trans rfl,(ax bZ.out 4).trans rfl⟩ (fun hHeld=>?_)
                 clear hK K
                 refine jm (a':=?_) ?_ ?_
                 rotate_left
                 ·
                  show Act.put _ (some 11) _=_
                  simp only [Act.put,List.setIfInBounds_toArray,List.set_cons_zero,List.set_cons_succ,bG,bJ]
                  rfl
                 refine o6 (i:=5) (N:=some 58) #[true,true,true,true,true,true,false,false,false,true,false,false] rfl rfl (mY lh.out (by kernel_rfl)) (by decide) (fun K hK=>?_)
                 refine oI Tryd.func65 (by kernel_rfl) rfl #[.agg #[.int .u8 dK,.int .u8 dJ,.int .u8 dI,.int .u8 dH,.int .i64 dG],.int .u8 (bt t112 mW),.int .i64 t116] (by rfl) rfl rfl (by (try simp only [List.map_toArray,List.map_cons,List.map_nil]);first|done|rfl|(simp only [List.length_drop,List.length_take];rfl)) ?_
                 with_reducible refine (aZ.calls k3 dK dJ dI dH dG (bt t112 mW) t116 t118 t119 t120 t121 t122 false _ Qz.out).mono ?_
                 rintro e w38 ⟨rfl,hb⟩
                 refine ⟨_,rfl,?_⟩
                 have dV:=ae.mk (bf (g:=iG) (o:=.cells #[.int .u8 gy,.int .u8 gm,.int .u8 fP,.int .u8 fH,.int .i64 eY] 55 (0,0)) (by (with_reducible repeat (first|refine au ?_ _|refine ay ?_|refine ak ?_ _));exact fM.out) hb)
                 have dU:=ae.mk (bf (g:=eQ) (o:=.cells #[.int .u8 dK,.int .u8 dJ,.int .u8 dI,.int .u8 dH,.int .i64 dG] 55 (0,0)) (by (with_reducible repeat (first|refine au ?_ _|refine ay ?_|refine ak ?_ _));exact bZ.out) hb)
                 have dR:=ae.mk (bf (g:=dE) (o:=.cells #[.int .u8 0,.int .u8 0,.int .u8 0,.int .u8 0,.int .i64 0] 55 (0,0)) (by (with_reducible repeat (first|refine au ?_ _|refine ay ?_|refine ak ?_ _));exact iK.out) hb)
                 have gQ:=ae.mk (bg (by repeat (first|(with_reducible first|exact HB.out|apply ah|apply af|apply ai|refine aj ?_ jH.out|refine aj ?_ jE.out|refine aj ?_ lT.out)|exact HB.out)) hb)
                 clear fM
                 clear bZ
                 clear iK
                 clear HB
                 have fM:=dV
                 have bZ:=dU
                 have iK:=dR
                 have HB:=gQ
                 clear dV dU dR gQ
                 (try clear hb)
                 (try clear hb2)
                 (try clear hk)
                 (try clear hi)
                 refine hK.out _ _ ⟨(ax bZ.out 0).trans rfl,(ax bZ.out 1).trans rfl,(ax bZ.out 2).trans rfl,(ax bZ.out 3).trans rfl,(ax bZ.out 4).trans rfl⟩ (fun hHeld=>?_)
                 clear hK K
                 refine jm (a':=?_) ?_ ?_
                 rotate_left
                 ·
                  show Act.put _ (some 58) _=_
                  simp only [Act.put,List.setIfInBounds_toArray,List.set_cons_zero,List.set_cons_succ,bG,bJ]
                  rfl
                 refine dX (i:=6) (N:=some 52) (v:=?_) (a':=?_) #[true,true,true,true,true,true,true,false,false,true,false,false] rfl rfl (iF lh.out (by kernel_rfl)) (fun _ _ _ h=>h) (Or.inl ⟨by rfl,?_⟩) ?_ ?_
                 rotate_left
                 ·
                  intro w'
                  go_simp
                  with_reducible rfl
                 rotate_left
                 ·
                  simp only [Act.put,List.setIfInBounds_toArray,List.set_cons_zero,List.set_cons_succ,bG,bJ]
                  rfl
                 refine dX (i:=7) (N:=some 59) (v:=?_) (a':=?_) #[true,true,true,true,true,true,true,true,false,true,false,false] rfl rfl (iF lh.out (by kernel_rfl)) (fun _ _ _ h=>h) (Or.inl ⟨by rfl,?_⟩) ?_ ?_
                 rotate_left
                 ·
                  intro w'
                  go_simp
                  with_reducible rfl
                 rotate_left
                 ·
                  simp only [Act.put,List.setIfInBounds_toArray,List.set_cons_zero,List.set_cons_succ,bG,bJ]
                  rfl
                 refine dX (i:=8) (N:=some 60) (v:=?_) (a':=?_) #[true,true,true,true,true,true,true,true,true,true,false,false] rfl rfl (iF lh.out (by kernel_rfl)) (fun _ _ _ h=>h) (Or.inl ⟨by rfl,?_⟩) ?_ ?_
                 rotate_left
                 ·
                  intro w'
                  go_simp
                  with_reducible rfl
                 rotate_left
                 ·
                  simp only [Act.put,List.setIfInBounds_toArray,List.set_cons_zero,List.set_cons_succ,bG,bJ]
                  rfl
                 exact jm (by simp only [oD,Act.put,List.setIfInBounds_toArray,List.set_cons_zero,List.set_cons_succ]) (yj (dE) _ ⟨hHeld,(by (with_reducible repeat (first|refine au ?_ _|refine ay ?_|refine ak ?_ _));exact fM.out),(by (with_reducible repeat (first|refine au ?_ _|refine ay ?_|refine ak ?_ _));exact bZ.out),(by (with_reducible repeat (first|refine au ?_ _|refine ay ?_|refine ak ?_ _));exact iK.out),qZ.out,lT.out,eP.out,gG.out,bD.out,gV.out,(by repeat (first|(with_reducible first|exact HB.out|apply ah|apply af|apply ai|refine aj ?_ jH.out|refine aj ?_ jE.out|refine aj ?_ lT.out)|exact HB.out))⟩)
               rintro dE IJ ⟨yG,XD,PI,XC,XB,XA,Xz,Xy,Xx,Xw,Xv⟩
               have dV:ae (IJ.heap[iG]? = some (.cells #[.int .u8 gy,.int .u8 gm,.int .u8 fP,.int .u8 fH,.int .i64 eY] 55 (0,0))):=⟨XD⟩
               have dU:ae (IJ.heap[eQ]? = some (.cells #[.int .u8 dK,.int .u8 dJ,.int .u8 dI,.int .u8 dH,.int .i64 dG] 55 (0,0))):=⟨PI⟩
               have dR:ae (IJ.heap[dE]? = some (.cells #[.int .u8 0,.int .u8 0,.int .u8 0,.int .u8 0,.int .i64 0] 55 (0,0))):=⟨XC⟩
               have gQ:ae (w.heap.size≤dE):=⟨XB⟩
               have lQ:ae (w.heap.size≤dE):=⟨XA⟩
               have mr:ae (iG ≠ dE):=⟨Xz⟩
               have nJ:ae (dE ≠ iG):=⟨Xy⟩
               have vS:ae (eQ ≠ dE):=⟨Xx⟩
               have vP:ae (dE ≠ eQ):=⟨Xw⟩
               have yf:ae (Below w.heap.size w IJ):=⟨Xv⟩
               clear fM
               clear bZ
               clear HB
               clear XD PI XC XB XA Xz Xy Xx Xw Xv
               have fM:=dV
               have bZ:=dU
               have iK:=dR
               have qZ:=gQ
               have lT:=lQ
               have eP:=mr
               have gG:=nJ
               have bD:=vS
               have gV:=vP
               have HB:=yf
               clear dV dU dR gQ lQ mr nJ vS vP yf
               have hHeld:IJ.cell? ⟨eQ,0,none⟩=some (.int .u8 dK)∧IJ.cell? ⟨eQ,1,none⟩=some (.int .u8 dJ)∧IJ.cell? ⟨eQ,2,none⟩=some (.int .u8 dI)∧IJ.cell? ⟨eQ,3,none⟩=some (.int .u8 dH)∧IJ.cell? ⟨eQ,4,none⟩=some (.int .i64 dG):=yG
               refine jm (a':=?_) ?_ ?_
               rotate_left
               ·
                simp only [oD,Act.put,List.setIfInBounds_toArray,List.set_cons_zero,List.set_cons_succ]
                rfl
               refine o6 (i:=10) (N:=none) #[true,true,true,true,true,true,true,true,true,true,true,false] rfl rfl (mY lh.out (by kernel_rfl)) (by decide) (fun K hK=>?_)
               have aoS:IJ.cell? ⟨dE,0,none⟩=some (.int .u8 0):=(ax iK.out 0).trans rfl
               have amY:=aC iK.out 0
               have aeT:=eP.out
               have aeS:=bD.out
               have afn:=gG.out
               have afm:=gV.out
               have aoR:IJ.cell? ⟨dE,1,none⟩=some (.int .u8 0):=(ax iK.out 1).trans rfl
               have amX:=aC iK.out 1
               have aeR:=eP.out
               have aeQ:=bD.out
               have afl:=gG.out
               have afk:=gV.out
               have aoQ:IJ.cell? ⟨dE,2,none⟩=some (.int .u8 0):=(ax iK.out 2).trans rfl
               have amW:=aC iK.out 2
               have aeP:=eP.out
               have aeO:=bD.out
               have afj:=gG.out
               have afi:=gV.out
               have aoP:IJ.cell? ⟨dE,3,none⟩=some (.int .u8 0):=(ax iK.out 3).trans rfl
               have amV:=aC iK.out 3
               have aeN:=eP.out
               have aeM:=bD.out
               have afh:=gG.out
               have afg:=gV.out
               have aoO:IJ.cell? ⟨dE,4,none⟩=some (.int .i64 0):=(ax iK.out 4).trans rfl
               have amU:=aC iK.out 4
               have aeL:=eP.out
               have aeK:=bD.out
               have aff:=gG.out
               have afe:=gV.out
               refine BJ (w1:=?_) (by rfl) rfl ?_ ?_
               rotate_left
               ·
                go_simp
                rfl
               refine hK.out _ _ ⟨((cell_far (p:=⟨dE,_,none⟩) bD.out _).trans (((cell_far (p:=⟨dE,_,none⟩) bD.out _).trans (((cell_far (p:=⟨dE,_,none⟩) bD.out _).trans (((cell_far (p:=⟨dE,_,none⟩) bD.out _).trans (((cell_far (p:=⟨dE,_,none⟩) bD.out _).trans (hHeld.1)))))))))),((cell_far (p:=⟨dE,_,none⟩) bD.out _).trans (((cell_far (p:=⟨dE,_,none⟩) bD.out _).trans (((cell_far (p:=⟨dE,_,none⟩) bD.out _).trans (((cell_far (p:=⟨dE,_,none⟩) bD.out _).trans (((cell_far (p:=⟨dE,_,none⟩) bD.out _).trans (hHeld.2.1)))))))))),((cell_far (p:=⟨dE,_,none⟩) bD.out _).trans (((cell_far (p:=⟨dE,_,none⟩) bD.out _).trans (((cell_far (p:=⟨dE,_,none⟩) bD.out _).trans (((cell_far (p:=⟨dE,_,none⟩) bD.out _).trans (((cell_far (p:=⟨dE,_,none⟩) bD.out _).trans (hHeld.2.2.1)))))))))),((cell_far (p:=⟨dE,_,none⟩) bD.out _).trans (((cell_far (p:=⟨dE,_,none⟩) bD.out _).trans (((cell_far (p:=⟨dE,_,none⟩) bD.out _).trans (((cell_far (p:=⟨dE,_,none⟩) bD.out _).trans (((cell_far (p:=⟨dE,_,none⟩) bD.out _).trans (hHeld.2.2.2.1)))))))))),((cell_far (p:=⟨dE,_,none⟩) bD.out _).trans (((cell_far (p:=⟨dE,_,none⟩) bD.out _).trans (((cell_far (p:=⟨dE,_,none⟩) bD.out _).trans (((cell_far (p:=⟨dE,_,none⟩) bD.out _).trans (((cell_far (p:=⟨dE,_,none⟩) bD.out _).trans (hHeld.2.2.2.2))))))))))⟩ (fun hHeld=>?_)
               clear hK K
               refine dX (i:=11) (N:=some 12) (v:=?_) (a':=?_) #[true,true,true,true,true,true,true,true,true,true,true,true] rfl rfl (iF lh.out (by kernel_rfl)) (fun _ _ _ h=>h) (Or.inl ⟨by rfl,?_⟩) ?_ ?_
               rotate_left
               ·
                intro w'
                go_simp
                with_reducible rfl
               rotate_left
               ·
                simp only [Act.put,List.setIfInBounds_toArray,List.set_cons_zero,List.set_cons_succ,bG,bJ]
                rfl
               refine rH (vz lh.out (by kernel_rfl)) ?_
               have aa8:=jV.out
               have aaY:=rU.out
               have aa7:=eP.out
               have aaX:=gG.out
               obtain ⟨JV,JU,JS,JR,JQ,Jj,Ji,Jh,Jg,Jf⟩:=jT fM.out
               try go_wp2
               refine bodyPost_ret (lU rfl _ _ iG 55 #[.int .u8 0,.int .u8 0,.int .u8 0,.int .u8 0,.int .i64 0] (0,0) _ rfl (by (with_reducible repeat (first|refine au ?_ _|refine ay ?_|refine ak ?_ _));refine dP (cs:=#[.int .u8 0,.int .u8 0,.int .u8 0,.int .u8 0,.int .i64 eY]) ?_ 4 _ rfl;(with_reducible repeat (first|refine au ?_ _|refine ay ?_|refine ak ?_ _));refine dP (cs:=#[.int .u8 0,.int .u8 0,.int .u8 0,.int .u8 fH,.int .i64 eY]) ?_ 3 _ rfl;(with_reducible repeat (first|refine au ?_ _|refine ay ?_|refine ak ?_ _));refine dP (cs:=#[.int .u8 0,.int .u8 0,.int .u8 fP,.int .u8 fH,.int .i64 eY]) ?_ 2 _ rfl;(with_reducible repeat (first|refine au ?_ _|refine ay ?_|refine ak ?_ _));refine dP (cs:=#[.int .u8 0,.int .u8 gm,.int .u8 fP,.int .u8 fH,.int .i64 eY]) ?_ 1 _ rfl;(with_reducible repeat (first|refine au ?_ _|refine ay ?_|refine ak ?_ _));refine dP (cs:=#[.int .u8 gy,.int .u8 gm,.int .u8 fP,.int .u8 fH,.int .i64 eY]) ?_ 0 _ rfl;(with_reducible repeat (first|refine au ?_ _|refine ay ?_|refine ak ?_ _));refine fQ ?_ eP.out _;(with_reducible repeat (first|refine au ?_ _|refine ay ?_|refine ak ?_ _));refine fQ ?_ eP.out _;(with_reducible repeat (first|refine au ?_ _|refine ay ?_|refine ak ?_ _));refine fQ ?_ eP.out _;(with_reducible repeat (first|refine au ?_ _|refine ay ?_|refine ak ?_ _));refine fQ ?_ eP.out _;(with_reducible repeat (first|refine au ?_ _|refine ay ?_|refine ak ?_ _));refine fQ ?_ eP.out _;(with_reducible repeat (first|refine au ?_ _|refine ay ?_|refine ak ?_ _));exact fM.out) Tryd.underlying55 rfl (by kernel_rfl)) rfl ?_
               exact ⟨by first|rfl|(simp [aQ,aN] <;> rfl)|(simp only [← wR];first|rfl|(simp [aQ,aN] <;> rfl))|(simp [*,aQ,aN] <;> rfl),by repeat (first|(with_reducible first|exact HB.out|apply ah|apply af|apply ai|refine aj ?_ jH.out|refine aj ?_ jE.out|refine aj ?_ lT.out)|exact HB.out)⟩
             ·
              rw [if_neg c20] at H
              have XH:(t117 == 0)=false:=beq_eq_false_iff_ne.mpr c20
              have ac8:(t117 != 0)=true:=bne_iff_ne.mpr c20
              simp only [Option.some.injEq,Prod.mk.injEq] at H
              obtain ⟨rfl,rfl,rfl,rfl,rfl,rfl⟩:=H
              have zT:0≤((oQ):Int):=of_decide_eq_true (by first|(with_reducible assumption)|assumption)
              have zQ:(oQ) < (l0.length:Int):=of_decide_eq_true (by first|(with_reducible assumption)|assumption)
              obtain ⟨XL,e115,oG⟩:=Kd.jD HR0.out (oQ) zT zQ
              cases e115
              replace oG:=(HB.out.cell (World.block_lt_of_cell? w _ oG)).trans oG
              replace zT:=eq_true zT
              replace zQ:=eq_true zQ
              try go_wp2_with (first|((with_reducible refine bu (f:=64) rfl ?_);refine dS (some 49) rfl rfl Tryd.func64 (by kernel_rfl) rfl #[.string (dW ByteArray.empty l0 (oQ))] rfl (by (try simp only [List.map_toArray,List.map_cons,List.map_nil]);first|done|(simp only [wR];rfl)|rfl|(simp only [List.length_drop,List.length_take];rfl)) ?_;(with_reducible refine (aH.calls k3 (dW ByteArray.empty l0 (oQ)) t116 t117 _ Z8.out).mono ?_);rintro e w' ⟨rfl,⟨nd,rfl⟩⟩;refine ⟨_,rfl,?_⟩;(try (rw [qN wr];generalize Bd:World.drewN wr _=wr;have dV:ae (wr.heap[iG]? = some (.cells #[.int .u8 gy,.int .u8 gm,.int .u8 fP,.int .u8 fH,.int .i64 eY] 55 (0,0))):=⟨by rw [← Bd];exact (by (with_reducible repeat (first|refine au ?_ _|refine ay ?_|refine ak ?_ _));exact fM.out)⟩;have dU:ae (wr.heap[eQ]? = some (.cells #[.int .u8 dK,.int .u8 dJ,.int .u8 dI,.int .u8 dH,.int .i64 dG] 55 (0,0))):=⟨by rw [← Bd];exact (by (with_reducible repeat (first|refine au ?_ _|refine ay ?_|refine ak ?_ _));exact bZ.out)⟩;have dR:ae (Below w.heap.size w wr):=⟨by rw [← Bd];exact (by repeat (first|(with_reducible first|exact HB.out|apply ah|apply af|apply ai|refine aj ?_ jH.out|refine aj ?_ jE.out)|exact HB.out))⟩;clear fM bZ HB Bd;have fM:=dV;have bZ:=dU;have HB:=dR;clear dV dU dR))))
              have dV:=ae.mk (ay fM.out)
              have dU:=ae.mk (ay bZ.out)
              have dR:=ae.mk (ai HB.out)
              clear fM
              clear bZ
              clear HB
              have fM:=dV
              have bZ:=dU
              have HB:=dR
              clear dV dU dR
              have EI:0≤(mW:Int):=of_decide_eq_true (by first|(with_reducible assumption)|assumption)
              have EE:mW < (t112.size:Int):=of_decide_eq_true (by first|(with_reducible assumption)|assumption)
              have OA:=kL t112 mW
              replace EI:=eq_true EI
              replace EE:=eq_true EE
              refine o5 (n:=12) (S:=fun w'=>w'.cell? ⟨eQ,0,none⟩=some (.int .u8 dK)∧w'.cell? ⟨eQ,1,none⟩=some (.int .u8 dJ)∧w'.cell? ⟨eQ,2,none⟩=some (.int .u8 dI)∧w'.cell? ⟨eQ,3,none⟩=some (.int .u8 dH)∧w'.cell? ⟨eQ,4,none⟩=some (.int .i64 dG)) (ds:=[]) #[false,false,false,false,false,false,false,false,false,false,false,false] (by kernel_rfl) rfl rfl ⟨(ax bZ.out 0).trans rfl,(ax bZ.out 1).trans rfl,(ax bZ.out 2).trans rfl,(ax bZ.out 3).trans rfl,(ax bZ.out 4).trans rfl⟩ (fun hHeld=>?_);refine qB aJ.NK aJ.Hq (fun lh BA=>?_)
              generalize wr.drew=w48 at fM bZ HB hHeld ⊢
              refine dX (i:=1) (N:=some 54) (v:=?_) (a':=?_) #[false,true,false,false,false,false,false,false,false,false,false,false] rfl rfl (iF lh.out (by kernel_rfl)) (fun _ _ _ h=>h) (Or.inl ⟨by rfl,?_⟩) ?_ ?_
              rotate_left
              ·
               intro w'
               go_simp
               with_reducible rfl
              rotate_left
              ·
               simp only [Act.put,List.setIfInBounds_toArray,List.set_cons_zero,List.set_cons_succ,bG,bJ]
               rfl
              refine dX (i:=2) (N:=some 55) (v:=?_) (a':=?_) #[false,true,true,false,false,false,false,false,false,false,false,false] rfl rfl (iF lh.out (by kernel_rfl)) (fun _ _ _ h=>h) (Or.inl ⟨by rfl,?_⟩) ?_ ?_
              rotate_left
              ·
               intro w'
               go_simp
               with_reducible rfl
              rotate_left
              ·
               simp only [Act.put,List.setIfInBounds_toArray,List.set_cons_zero,List.set_cons_succ,bG,bJ]
               rfl
              refine dX (i:=4) (N:=some 57) (v:=?_) (a':=?_) #[false,true,true,false,true,false,false,false,false,false,false,false] rfl rfl (iF lh.out (by kernel_rfl)) (fun _ _ _ h=>h) (Or.inl ⟨by rfl,?_⟩) ?_ ?_
              rotate_left
              ·
               intro w'
               go_simp
               with_reducible rfl
              rotate_left
              ·
               simp only [Act.put,List.setIfInBounds_toArray,List.set_cons_zero,List.set_cons_succ,bG,bJ]
               rfl
              refine jg (i:=0) (N:=some 53) (v:=?_) (a':=?_) #[true,true,true,false,true,false,false,false,false,false,false,false] rfl rfl (kJ lh.out BA.out (by kernel_rfl)) (fun _ _ _ h=>h) (Or.inl ⟨by rfl,?_⟩) hHeld ?_ ?_
              rotate_left
              ·
               rintro w' ⟨s0,s1,s2,s3,s4⟩
               go_simp
               with_reducible rfl
              rotate_left
              ·
               simp only [Act.put,List.setIfInBounds_toArray,List.set_cons_zero,List.set_cons_succ,bG,bJ]
               rfl
              refine jg (i:=3) (N:=some 56) (v:=?_) (a':=?_) #[true,true,true,true,true,false,false,false,false,false,false,false] rfl rfl (kJ lh.out BA.out (by kernel_rfl)) (fun _ _ _ h=>h) (Or.inl ⟨by rfl,?_⟩) hHeld ?_ ?_
              rotate_left
              ·
               rintro w' ⟨s0,s1,s2,s3,s4⟩
               go_simp
               with_reducible rfl
              rotate_left
              ·
               simp only [Act.put,List.setIfInBounds_toArray,List.set_cons_zero,List.set_cons_succ,bG,bJ]
               rfl
              refine Ox (σ:=Nat) 2 #[true,true,true,true,true,true,true,true,true,true,false,false] (fun s_=>[(58,.tuple #[.agg #[.int .u8 t118,.int .u8 t119,.int .u8 t120,.int .u8 t121,.int .i64 t122],.bool t123]),(11,.pointer (some ⟨s_,0,none⟩)),(52,.tuple #[.agg #[.int .u8 t118,.int .u8 t119,.int .u8 t120,.int .u8 t121,.int .i64 t122],.bool t123]),(59,.agg #[.int .u8 t118,.int .u8 t119,.int .u8 t120,.int .u8 t121,.int .i64 t122]),(60,.bool t123)]) (fun s_ w'=>(w'.cell? ⟨eQ,0,none⟩=some (.int .u8 dK)∧w'.cell? ⟨eQ,1,none⟩=some (.int .u8 dJ)∧w'.cell? ⟨eQ,2,none⟩=some (.int .u8 dI)∧w'.cell? ⟨eQ,3,none⟩=some (.int .u8 dH)∧w'.cell? ⟨eQ,4,none⟩=some (.int .i64 dG))∧(w'.heap[iG]? = some (.cells #[.int .u8 gy,.int .u8 gm,.int .u8 fP,.int .u8 fH,.int .i64 eY] 55 (0,0)))∧(w'.heap[eQ]? = some (.cells #[.int .u8 dK,.int .u8 dJ,.int .u8 dI,.int .u8 dH,.int .i64 dG] 55 (0,0)))∧(w'.heap[s_]? = some (.cells #[.int .u8 0,.int .u8 0,.int .u8 0,.int .u8 0,.int .i64 0] 55 (0,0)))∧(w.heap.size≤s_)∧(w.heap.size≤s_)∧(iG ≠ s_)∧(s_ ≠ iG)∧(eQ ≠ s_)∧(s_ ≠ eQ)∧(Below w.heap.size w w')) ?_ ?_
              rotate_left
              ·
               intro yj
               refine Yd (i:=5) (j:=9) (Ni:=some 58) (Nj:=some 11) #[true,true,true,true,true,true,false,false,false,false,false,false] #[true,true,true,true,true,false,false,false,false,true,false,false] rfl rfl rfl rfl (Gm lh.out (by kernel_rfl)) (by decide) (by decide) (fun K hK=>?_) (fun K hK=>?_)
               ·
                skip
                refine oI Tryd.func65 (by kernel_rfl) rfl #[.agg #[.int .u8 dK,.int .u8 dJ,.int .u8 dI,.int .u8 dH,.int .i64 dG],.int .u8 (bt t112 mW),.int .i64 t116] (by rfl) rfl rfl (by (try simp only [List.map_toArray,List.map_cons,List.map_nil]);first|done|rfl|(simp only [List.length_drop,List.length_take];rfl)) ?_
                with_reducible refine (aZ.calls k3 dK dJ dI dH dG (bt t112 mW) t116 t118 t119 t120 t121 t122 t123 _ Qz.out).mono ?_
                rintro e w49 ⟨rfl,hb⟩
                refine ⟨_,rfl,?_⟩
                have dV:=ae.mk (bf (g:=iG) (o:=.cells #[.int .u8 gy,.int .u8 gm,.int .u8 fP,.int .u8 fH,.int .i64 eY] 55 (0,0)) (by (with_reducible repeat (first|refine au ?_ _|refine ay ?_|refine ak ?_ _));exact fM.out) hb)
                have dU:=ae.mk (bf (g:=eQ) (o:=.cells #[.int .u8 dK,.int .u8 dJ,.int .u8 dI,.int .u8 dH,.int .i64 dG] 55 (0,0)) (by (with_reducible repeat (first|refine au ?_ _|refine ay ?_|refine ak ?_ _));exact bZ.out) hb)
                have dR:=ae.mk (bg (by repeat (first|(with_reducible first|exact HB.out|apply ah|apply af|apply ai|refine aj ?_ jH.out|refine aj ?_ jE.out)|exact HB.out)) hb)
                clear fM
                clear bZ
                clear HB
                have fM:=dV
                have bZ:=dU
                have HB:=dR
                clear dV dU dR
                (try clear hb)
                (try clear hb2)
                (try clear hk)
                (try clear hi)
                refine hK.out _ _ ⟨(ax bZ.out 0).trans rfl,(ax bZ.out 1).trans rfl,(ax bZ.out 2).trans rfl,(ax bZ.out 3).trans rfl,(ax bZ.out 4).trans rfl⟩ (fun hHeld=>?_)
                clear hK K
                refine jm (a':=?_) ?_ ?_
                rotate_left
                ·
                 show Act.put _ (some 58) _=_
                 simp only [Act.put,List.setIfInBounds_toArray,List.set_cons_zero,List.set_cons_succ,bG,bJ]
                 rfl
                refine dX (i:=6) (N:=some 52) (v:=?_) (a':=?_) #[true,true,true,true,true,true,true,false,false,false,false,false] rfl rfl (iF lh.out (by kernel_rfl)) (fun _ _ _ h=>h) (Or.inl ⟨by rfl,?_⟩) ?_ ?_
                rotate_left
                ·
                 intro w'
                 go_simp
                 with_reducible rfl
                rotate_left
                ·
                 simp only [Act.put,List.setIfInBounds_toArray,List.set_cons_zero,List.set_cons_succ,bG,bJ]
                 rfl
                refine dX (i:=7) (N:=some 59) (v:=?_) (a':=?_) #[true,true,true,true,true,true,true,true,false,false,false,false] rfl rfl (iF lh.out (by kernel_rfl)) (fun _ _ _ h=>h) (Or.inl ⟨by rfl,?_⟩) ?_ ?_
                rotate_left
                ·
                 intro w'
                 go_simp
                 with_reducible rfl
                rotate_left
                ·
                 simp only [Act.put,List.setIfInBounds_toArray,List.set_cons_zero,List.set_cons_succ,bG,bJ]
                 rfl
                refine dX (i:=8) (N:=some 60) (v:=?_) (a':=?_) #[true,true,true,true,true,true,true,true,true,false,false,false] rfl rfl (iF lh.out (by kernel_rfl)) (fun _ _ _ h=>h) (Or.inl ⟨by rfl,?_⟩) ?_ ?_
                rotate_left
                ·
                 intro w'
                 go_simp
                 with_reducible rfl
                rotate_left
                ·
                 simp only [Act.put,List.setIfInBounds_toArray,List.set_cons_zero,List.set_cons_succ,bG,bJ]
                 rfl
                refine o6 (i:=9) (N:=some 11) #[true,true,true,true,true,true,true,true,true,true,false,false] rfl rfl (mY lh.out (by kernel_rfl)) (by decide) (fun K hK=>?_)
                refine rP ?hg (N:=11) ?hd (cs:=#[.int .u8 0,.int .u8 0,.int .u8 0,.int .u8 0,.int .i64 0]) (t:=55) ?hr ?_;(case hd=>rfl);(case hg=>rfl);(case hr=>first|(go_simp;done)|(go_simp;rfl))
                intro dE hg w50 hbox hb
                have dV:=ae.mk (bf (g:=iG) (o:=.cells #[.int .u8 gy,.int .u8 gm,.int .u8 fP,.int .u8 fH,.int .i64 eY] 55 (0,0)) (by (with_reducible repeat (first|refine au ?_ _|refine ay ?_|refine ak ?_ _));exact fM.out) hb)
                have dU:=ae.mk (bf (g:=eQ) (o:=.cells #[.int .u8 dK,.int .u8 dJ,.int .u8 dI,.int .u8 dH,.int .i64 dG] 55 (0,0)) (by (with_reducible repeat (first|refine au ?_ _|refine ay ?_|refine ak ?_ _));exact bZ.out) hb)
                have dR:=ae.mk (bg (by repeat (first|(with_reducible first|exact HB.out|apply ah|apply af|apply ai|refine aj ?_ jH.out|refine aj ?_ jE.out)|exact HB.out)) hb)
                have gQ:=ae.mk (hbox)
                have lQ:=ae.mk ((by rw [hg];exact (bW (by repeat (first|(with_reducible first|exact HB.out|apply ah|apply af|apply ai|refine aj ?_ jH.out|refine aj ?_ jE.out)|exact HB.out))):w.heap.size≤dE))
                have mr:=lQ
                have nJ:=ae.mk ((by rw [hg];exact Nat.ne_of_lt (kC (g:=iG) (o:=.cells #[.int .u8 gy,.int .u8 gm,.int .u8 fP,.int .u8 fH,.int .i64 eY] 55 (0,0)) (by (with_reducible repeat (first|refine au ?_ _|refine ay ?_|refine ak ?_ _));exact fM.out)):iG ≠ dE))
                have vS:=ae.mk nJ.out.symm
                have vP:=ae.mk ((by rw [hg];exact Nat.ne_of_lt (kC (g:=eQ) (o:=.cells #[.int .u8 dK,.int .u8 dJ,.int .u8 dI,.int .u8 dH,.int .i64 dG] 55 (0,0)) (by (with_reducible repeat (first|refine au ?_ _|refine ay ?_|refine ak ?_ _));exact bZ.out)):eQ ≠ dE))
                have yf:=ae.mk vP.out.symm
                clear fM
                clear bZ
                clear HB
                have fM:=dV
                have bZ:=dU
                have HB:=dR
                have iK:=gQ
                have qZ:=lQ
                have lT:=mr
                have eP:=nJ
                have gG:=vS
                have bD:=vP
                have gV:=yf
                clear dV dU dR gQ lQ mr nJ vS vP yf
                clear hb hbox hg
                refine hK.out _ _ ⟨(ax bZ.out 0).trans rfl,(ax bZ.out 1).trans rfl,(ax bZ.out 2).trans rfl,(ax bZ.out 3).trans rfl,(ax bZ.out 4).trans rfl⟩ (fun hHeld=>?_)
                clear hK K
                refine jm (a':=?_) ?_ ?_
                rotate_left
                ·
                 show Act.put _ (some 11) _=_
                 simp only [Act.put,List.setIfInBounds_toArray,List.set_cons_zero,List.set_cons_succ,bG,bJ]
                 rfl
                exact jm (by simp only [oD,Act.put,List.setIfInBounds_toArray,List.set_cons_zero,List.set_cons_succ]) (yj (dE) _ ⟨hHeld,(by (with_reducible repeat (first|refine au ?_ _|refine ay ?_|refine ak ?_ _));exact fM.out),(by (with_reducible repeat (first|refine au ?_ _|refine ay ?_|refine ak ?_ _));exact bZ.out),(by (with_reducible repeat (first|refine au ?_ _|refine ay ?_|refine ak ?_ _));exact iK.out),qZ.out,lT.out,eP.out,gG.out,bD.out,gV.out,(by repeat (first|(with_reducible first|exact HB.out|apply ah|apply af|apply ai|refine aj ?_ jH.out|refine aj ?_ jE.out|refine aj ?_ lT.out)|exact HB.out))⟩)
               ·
                skip
                refine rP ?hg (N:=11) ?hd (cs:=#[.int .u8 0,.int .u8 0,.int .u8 0,.int .u8 0,.int .i64 0]) (t:=55) ?hr ?_;(case hd=>rfl);(case hg=>rfl);(case hr=>first|(go_simp;done)|(go_simp;rfl))
                intro dE hg w49 hbox hb
                have dV:=ae.mk (bf (g:=iG) (o:=.cells #[.int .u8 gy,.int .u8 gm,.int .u8 fP,.int .u8 fH,.int .i64 eY] 55 (0,0)) (by (with_reducible repeat (first|refine au ?_ _|refine ay ?_|refine ak ?_ _));exact fM.out) hb)
                have dU:=ae.mk (bf (g:=eQ) (o:=.cells #[.int .u8 dK,.int .u8 dJ,.int .u8 dI,.int .u8 dH,.int .i64 dG] 55 (0,0)) (by (with_reducible repeat (first|refine au ?_ _|refine ay ?_|refine ak ?_ _));exact bZ.out) hb)
                have dR:=ae.mk (bg (by repeat (first|(with_reducible first|exact HB.out|apply ah|apply af|apply ai|refine aj ?_ jH.out|refine aj ?_ jE.out)|exact HB.out)) hb)
                have gQ:=ae.mk (hbox)
                have lQ:=ae.mk ((by rw [hg];exact (bW (by repeat (first|(with_reducible first|exact HB.out|apply ah|apply af|apply ai|refine aj ?_ jH.out|refine aj ?_ jE.out)|exact HB.out))):w.heap.size≤dE))
                have mr:=lQ
                have nJ:=ae.mk ((by rw [hg];exact Nat.ne_of_lt (kC (g:=iG) (o:=.cells #[.int .u8 gy,.int .u8 gm,.int .u8 fP,.int .u8 fH,.int .i64 eY] 55 (0,0)) (by (with_reducible repeat (first|refine au ?_ _|refine ay ?_|refine ak ?_ _));exact fM.out)):iG ≠ dE))
                have vS:=ae.mk nJ.out.symm
                have vP:=ae.mk ((by rw [hg];exact Nat.ne_of_lt (kC (g:=eQ) (o:=.cells #[.int .u8 dK,.int .u8 dJ,.int .u8 dI,.int .u8 dH,.int .i64 dG] 55 (0,0)) (by (with_reducible repeat (first|refine au ?_ _|refine ay ?_|refine ak ?_ _));exact bZ.out)):eQ ≠ dE))
                have yf:=ae.mk vP.out.symm
                clear fM
                clear bZ
                clear HB
                have fM:=dV
                have bZ:=dU
                have HB:=dR
                have iK:=gQ
                have qZ:=lQ
                have lT:=mr
                have eP:=nJ
                have gG:=vS
                have bD:=vP
                have gV:=yf
                clear dV dU dR gQ lQ mr nJ vS vP yf
                clear hb hbox hg
                refine hK.out _ _ ⟨(ax bZ.out 0).trans rfl,(ax bZ.out 1).trans rfl,(ax bZ.out 2).trans rfl,(ax bZ.out 3).trans rfl,(ax bZ.out 4).trans rfl⟩ (fun hHeld=>?_)
                clear hK K
                refine jm (a':=?_) ?_ ?_
                rotate_left
                ·
                 show Act.put _ (some 11) _=_
                 simp only [Act.put,List.setIfInBounds_toArray,List.set_cons_zero,List.set_cons_succ,bG,bJ]
                 rfl
                refine o6 (i:=5) (N:=some 58) #[true,true,true,true,true,true,false,false,false,true,false,false] rfl rfl (mY lh.out (by kernel_rfl)) (by decide) (fun K hK=>?_)
                refine oI Tryd.func65 (by kernel_rfl) rfl #[.agg #[.int .u8 dK,.int .u8 dJ,.int .u8 dI,.int .u8 dH,.int .i64 dG],.int .u8 (bt t112 mW),.int .i64 t116] (by rfl) rfl rfl (by (try simp only [List.map_toArray,List.map_cons,List.map_nil]);first|done|rfl|(simp only [List.length_drop,List.length_take];rfl)) ?_
                with_reducible refine (aZ.calls k3 dK dJ dI dH dG (bt t112 mW) t116 t118 t119 t120 t121 t122 t123 _ Qz.out).mono ?_
                rintro e w50 ⟨rfl,hb⟩
                refine ⟨_,rfl,?_⟩
                have dV:=ae.mk (bf (g:=iG) (o:=.cells #[.int .u8 gy,.int .u8 gm,.int .u8 fP,.int .u8 fH,.int .i64 eY] 55 (0,0)) (by (with_reducible repeat (first|refine au ?_ _|refine ay ?_|refine ak ?_ _));exact fM.out) hb)
                have dU:=ae.mk (bf (g:=eQ) (o:=.cells #[.int .u8 dK,.int .u8 dJ,.int .u8 dI,.int .u8 dH,.int .i64 dG] 55 (0,0)) (by (with_reducible repeat (first|refine au ?_ _|refine ay ?_|refine ak ?_ _));exact bZ.out) hb)
                have dR:=ae.mk (bf (g:=dE) (o:=.cells #[.int .u8 0,.int .u8 0,.int .u8 0,.int .u8 0,.int .i64 0] 55 (0,0)) (by (with_reducible repeat (first|refine au ?_ _|refine ay ?_|refine ak ?_ _));exact iK.out) hb)
                have gQ:=ae.mk (bg (by repeat (first|(with_reducible first|exact HB.out|apply ah|apply af|apply ai|refine aj ?_ jH.out|refine aj ?_ jE.out|refine aj ?_ lT.out)|exact HB.out)) hb)
                clear fM
                clear bZ
                clear iK
                clear HB
                have fM:=dV
                have bZ:=dU
                have iK:=dR
                have HB:=gQ
                clear dV dU dR gQ
                (try clear hb)
                (try clear hb2)
                (try clear hk)
                (try clear hi)
                refine hK.out _ _ ⟨(ax bZ.out 0).trans rfl,(ax bZ.out 1).trans rfl,(ax bZ.out 2).trans rfl,(ax bZ.out 3).trans rfl,(ax bZ.out 4).trans rfl⟩ (fun hHeld=>?_)
                clear hK K
                refine jm (a':=?_) ?_ ?_
                rotate_left
                ·
                 show Act.put _ (some 58) _=_
                 simp only [Act.put,List.setIfInBounds_toArray,List.set_cons_zero,List.set_cons_succ,bG,bJ]
                 rfl
                refine dX (i:=6) (N:=some 52) (v:=?_) (a':=?_) #[true,true,true,true,true,true,true,false,false,true,false,false] rfl rfl (iF lh.out (by kernel_rfl)) (fun _ _ _ h=>h) (Or.inl ⟨by rfl,?_⟩) ?_ ?_
                rotate_left
                ·
                 intro w'
                 go_simp
                 with_reducible rfl
                rotate_left
                ·
                 simp only [Act.put,List.setIfInBounds_toArray,List.set_cons_zero,List.set_cons_succ,bG,bJ]
                 rfl
                refine dX (i:=7) (N:=some 59) (v:=?_) (a':=?_) #[true,true,true,true,true,true,true,true,false,true,false,false] rfl rfl (iF lh.out (by kernel_rfl)) (fun _ _ _ h=>h) (Or.inl ⟨by rfl,?_⟩) ?_ ?_
                rotate_left
                ·
                 intro w'
                 go_simp
                 with_reducible rfl
                rotate_left
                ·
                 simp only [Act.put,List.setIfInBounds_toArray,List.set_cons_zero,List.set_cons_succ,bG,bJ]
                 rfl
                refine dX (i:=8) (N:=some 60) (v:=?_) (a':=?_) #[true,true,true,true,true,true,true,true,true,true,false,false] rfl rfl (iF lh.out (by kernel_rfl)) (fun _ _ _ h=>h) (Or.inl ⟨by rfl,?_⟩) ?_ ?_
                rotate_left
                ·
                 intro w'
                 go_simp
                 with_reducible rfl
                rotate_left
                ·
                 simp only [Act.put,List.setIfInBounds_toArray,List.set_cons_zero,List.set_cons_succ,bG,bJ]
                 rfl
                exact jm (by simp only [oD,Act.put,List.setIfInBounds_toArray,List.set_cons_zero,List.set_cons_succ]) (yj (dE) _ ⟨hHeld,(by (with_reducible repeat (first|refine au ?_ _|refine ay ?_|refine ak ?_ _));exact fM.out),(by (with_reducible repeat (first|refine au ?_ _|refine ay ?_|refine ak ?_ _));exact bZ.out),(by (with_reducible repeat (first|refine au ?_ _|refine ay ?_|refine ak ?_ _));exact iK.out),qZ.out,lT.out,eP.out,gG.out,bD.out,gV.out,(by repeat (first|(with_reducible first|exact HB.out|apply ah|apply af|apply ai|refine aj ?_ jH.out|refine aj ?_ jE.out|refine aj ?_ lT.out)|exact HB.out))⟩)
              rintro dE Gl ⟨yG,XD,PI,XC,XB,XA,Xz,Xy,Xx,Xw,Xv⟩
              have dV:ae (Gl.heap[iG]? = some (.cells #[.int .u8 gy,.int .u8 gm,.int .u8 fP,.int .u8 fH,.int .i64 eY] 55 (0,0))):=⟨XD⟩
              have dU:ae (Gl.heap[eQ]? = some (.cells #[.int .u8 dK,.int .u8 dJ,.int .u8 dI,.int .u8 dH,.int .i64 dG] 55 (0,0))):=⟨PI⟩
              have dR:ae (Gl.heap[dE]? = some (.cells #[.int .u8 0,.int .u8 0,.int .u8 0,.int .u8 0,.int .i64 0] 55 (0,0))):=⟨XC⟩
              have gQ:ae (w.heap.size≤dE):=⟨XB⟩
              have lQ:ae (w.heap.size≤dE):=⟨XA⟩
              have mr:ae (iG ≠ dE):=⟨Xz⟩
              have nJ:ae (dE ≠ iG):=⟨Xy⟩
              have vS:ae (eQ ≠ dE):=⟨Xx⟩
              have vP:ae (dE ≠ eQ):=⟨Xw⟩
              have yf:ae (Below w.heap.size w Gl):=⟨Xv⟩
              clear fM
              clear bZ
              clear HB
              clear XD PI XC XB XA Xz Xy Xx Xw Xv
              have fM:=dV
              have bZ:=dU
              have iK:=dR
              have qZ:=gQ
              have lT:=lQ
              have eP:=mr
              have gG:=nJ
              have bD:=vS
              have gV:=vP
              have HB:=yf
              clear dV dU dR gQ lQ mr nJ vS vP yf
              have hHeld:Gl.cell? ⟨eQ,0,none⟩=some (.int .u8 dK)∧Gl.cell? ⟨eQ,1,none⟩=some (.int .u8 dJ)∧Gl.cell? ⟨eQ,2,none⟩=some (.int .u8 dI)∧Gl.cell? ⟨eQ,3,none⟩=some (.int .u8 dH)∧Gl.cell? ⟨eQ,4,none⟩=some (.int .i64 dG):=yG
              refine jm (a':=?_) ?_ ?_
              rotate_left
              ·
               simp only [oD,Act.put,List.setIfInBounds_toArray,List.set_cons_zero,List.set_cons_succ]
               rfl
              refine o6 (i:=10) (N:=none) #[true,true,true,true,true,true,true,true,true,true,true,false] rfl rfl (mY lh.out (by kernel_rfl)) (by decide) (fun K hK=>?_)
              have aoM:Gl.cell? ⟨dE,0,none⟩=some (.int .u8 0):=(ax iK.out 0).trans rfl
              have amT:=aC iK.out 0
              have aeJ:=eP.out
              have aeI:=bD.out
              have afd:=gG.out
              have afc:=gV.out
              have aoL:Gl.cell? ⟨dE,1,none⟩=some (.int .u8 0):=(ax iK.out 1).trans rfl
              have amS:=aC iK.out 1
              have aeH:=eP.out
              have aeG:=bD.out
              have afb:=gG.out
              have afa:=gV.out
              have aoK:Gl.cell? ⟨dE,2,none⟩=some (.int .u8 0):=(ax iK.out 2).trans rfl
              have amR:=aC iK.out 2
              have aeF:=eP.out
              have aeE:=bD.out
              have ae9:=gG.out
              have ae8:=gV.out
              have aoJ:Gl.cell? ⟨dE,3,none⟩=some (.int .u8 0):=(ax iK.out 3).trans rfl
              have amQ:=aC iK.out 3
              have aeD:=eP.out
              have aeC:=bD.out
              have ae7:=gG.out
              have ae6:=gV.out
              have aoI:Gl.cell? ⟨dE,4,none⟩=some (.int .i64 0):=(ax iK.out 4).trans rfl
              have amP:=aC iK.out 4
              have aeB:=eP.out
              have aeA:=bD.out
              have ae5:=gG.out
              have ae4:=gV.out
              refine BJ (w1:=?_) (by rfl) rfl ?_ ?_
              rotate_left
              ·
               go_simp
               rfl
              refine hK.out _ _ ⟨((cell_far (p:=⟨dE,_,none⟩) bD.out _).trans (((cell_far (p:=⟨dE,_,none⟩) bD.out _).trans (((cell_far (p:=⟨dE,_,none⟩) bD.out _).trans (((cell_far (p:=⟨dE,_,none⟩) bD.out _).trans (((cell_far (p:=⟨dE,_,none⟩) bD.out _).trans (hHeld.1)))))))))),((cell_far (p:=⟨dE,_,none⟩) bD.out _).trans (((cell_far (p:=⟨dE,_,none⟩) bD.out _).trans (((cell_far (p:=⟨dE,_,none⟩) bD.out _).trans (((cell_far (p:=⟨dE,_,none⟩) bD.out _).trans (((cell_far (p:=⟨dE,_,none⟩) bD.out _).trans (hHeld.2.1)))))))))),((cell_far (p:=⟨dE,_,none⟩) bD.out _).trans (((cell_far (p:=⟨dE,_,none⟩) bD.out _).trans (((cell_far (p:=⟨dE,_,none⟩) bD.out _).trans (((cell_far (p:=⟨dE,_,none⟩) bD.out _).trans (((cell_far (p:=⟨dE,_,none⟩) bD.out _).trans (hHeld.2.2.1)))))))))),((cell_far (p:=⟨dE,_,none⟩) bD.out _).trans (((cell_far (p:=⟨dE,_,none⟩) bD.out _).trans (((cell_far (p:=⟨dE,_,none⟩) bD.out _).trans (((cell_far (p:=⟨dE,_,none⟩) bD.out _).trans (((cell_far (p:=⟨dE,_,none⟩) bD.out _).trans (hHeld.2.2.2.1)))))))))),((cell_far (p:=⟨dE,_,none⟩) bD.out _).trans (((cell_far (p:=⟨dE,_,none⟩) bD.out _).trans (((cell_far (p:=⟨dE,_,none⟩) bD.out _).trans (((cell_far (p:=⟨dE,_,none⟩) bD.out _).trans (((cell_far (p:=⟨dE,_,none⟩) bD.out _).trans (hHeld.2.2.2.2))))))))))⟩ (fun hHeld=>?_)
              clear hK K
              refine dX (i:=11) (N:=some 12) (v:=?_) (a':=?_) #[true,true,true,true,true,true,true,true,true,true,true,true] rfl rfl (iF lh.out (by kernel_rfl)) (fun _ _ _ h=>h) (Or.inl ⟨by rfl,?_⟩) ?_ ?_
              rotate_left
              ·
               intro w'
               go_simp
               with_reducible rfl
              rotate_left
              ·
               simp only [Act.put,List.setIfInBounds_toArray,List.set_cons_zero,List.set_cons_succ,bG,bJ]
               rfl
              refine rH (vz lh.out (by kernel_rfl)) ?_
              have aa4:=jV.out
              have aaU:=rU.out
              have amr:=eP.out
              have alZ:=gG.out
              obtain ⟨JP,JO,JM,JL,JK,Je,Jd,Jc,Jb,Ja⟩:=jT fM.out
              try go_wp2
              refine bodyPost_ret (lU rfl _ _ iG 55 #[.int .u8 0,.int .u8 0,.int .u8 0,.int .u8 0,.int .i64 0] (0,0) _ rfl (by (with_reducible repeat (first|refine au ?_ _|refine ay ?_|refine ak ?_ _));refine dP (cs:=#[.int .u8 0,.int .u8 0,.int .u8 0,.int .u8 0,.int .i64 eY]) ?_ 4 _ rfl;(with_reducible repeat (first|refine au ?_ _|refine ay ?_|refine ak ?_ _));refine dP (cs:=#[.int .u8 0,.int .u8 0,.int .u8 0,.int .u8 fH,.int .i64 eY]) ?_ 3 _ rfl;(with_reducible repeat (first|refine au ?_ _|refine ay ?_|refine ak ?_ _));refine dP (cs:=#[.int .u8 0,.int .u8 0,.int .u8 fP,.int .u8 fH,.int .i64 eY]) ?_ 2 _ rfl;(with_reducible repeat (first|refine au ?_ _|refine ay ?_|refine ak ?_ _));refine dP (cs:=#[.int .u8 0,.int .u8 gm,.int .u8 fP,.int .u8 fH,.int .i64 eY]) ?_ 1 _ rfl;(with_reducible repeat (first|refine au ?_ _|refine ay ?_|refine ak ?_ _));refine dP (cs:=#[.int .u8 gy,.int .u8 gm,.int .u8 fP,.int .u8 fH,.int .i64 eY]) ?_ 0 _ rfl;(with_reducible repeat (first|refine au ?_ _|refine ay ?_|refine ak ?_ _));refine fQ ?_ eP.out _;(with_reducible repeat (first|refine au ?_ _|refine ay ?_|refine ak ?_ _));refine fQ ?_ eP.out _;(with_reducible repeat (first|refine au ?_ _|refine ay ?_|refine ak ?_ _));refine fQ ?_ eP.out _;(with_reducible repeat (first|refine au ?_ _|refine ay ?_|refine ak ?_ _));refine fQ ?_ eP.out _;(with_reducible repeat (first|refine au ?_ _|refine ay ?_|refine ak ?_ _));refine fQ ?_ eP.out _;(with_reducible repeat (first|refine au ?_ _|refine ay ?_|refine ak ?_ _));exact fM.out) Tryd.underlying55 rfl (by kernel_rfl)) rfl ?_
              exact ⟨by first|rfl|(simp [aQ,aN] <;> rfl)|(simp only [← wR];first|rfl|(simp [aQ,aN] <;> rfl))|(simp [*,aQ,aN] <;> rfl),by repeat (first|(with_reducible first|exact HB.out|apply ah|apply af|apply ai|refine aj ?_ jH.out|refine aj ?_ jE.out|refine aj ?_ lT.out)|exact HB.out)⟩
            ·
             rw [if_neg c17] at H
             exact absurd H (by simp)
           ·
            rw [if_neg c15] at H
            exact absurd H (by simp)
          ·
           rw [if_neg c14] at H
           exact absurd H (by simp)
         ·
          rw [if_neg c12] at H
          have vW:decide (mW < (t112.size:Int))=false:=decide_eq_false c12
          clear c12
          simp only [Option.some.injEq,Prod.mk.injEq] at H
          obtain ⟨rfl,rfl,rfl,rfl,rfl,rfl⟩:=H
          have amq:=rU.out
          have alY:=jV.out
          obtain ⟨UL,UK,UJ,UI,UH,SC,SB,SA,Sz,Sv⟩:=jT bZ.out
          obtain ⟨UG,UF,UE,UD,UC,Su,Sr,Sm,Sl,Sj⟩:=jT fM.out
          go_wp2
          refine bodyPost_ret (lU rfl _ _ iG 55 #[.int .u8 dK,.int .u8 dJ,.int .u8 dI,.int .u8 dH,.int .i64 dG] (0,0) _ rfl (by (with_reducible repeat (first|refine au ?_ _|refine ay ?_|refine ak ?_ _));refine dP (cs:=#[.int .u8 dK,.int .u8 dJ,.int .u8 dI,.int .u8 dH,.int .i64 eY]) ?_ 4 _ rfl;(with_reducible repeat (first|refine au ?_ _|refine ay ?_|refine ak ?_ _));refine dP (cs:=#[.int .u8 dK,.int .u8 dJ,.int .u8 dI,.int .u8 fH,.int .i64 eY]) ?_ 3 _ rfl;(with_reducible repeat (first|refine au ?_ _|refine ay ?_|refine ak ?_ _));refine dP (cs:=#[.int .u8 dK,.int .u8 dJ,.int .u8 fP,.int .u8 fH,.int .i64 eY]) ?_ 2 _ rfl;(with_reducible repeat (first|refine au ?_ _|refine ay ?_|refine ak ?_ _));refine dP (cs:=#[.int .u8 dK,.int .u8 gm,.int .u8 fP,.int .u8 fH,.int .i64 eY]) ?_ 1 _ rfl;(with_reducible repeat (first|refine au ?_ _|refine ay ?_|refine ak ?_ _));refine dP (cs:=#[.int .u8 gy,.int .u8 gm,.int .u8 fP,.int .u8 fH,.int .i64 eY]) ?_ 0 _ rfl;(with_reducible repeat (first|refine au ?_ _|refine ay ?_|refine ak ?_ _));exact fM.out) Tryd.underlying55 rfl (by kernel_rfl)) rfl ?_
          exact ⟨by first|rfl|(simp [aQ,aN] <;> rfl)|(simp [*,aQ,aN] <;> rfl),by repeat (first|(with_reducible first|exact HB.out|apply ah|apply af|apply ai|refine aj ?_ jH.out|refine aj ?_ jE.out)|exact HB.out)⟩
   ·
    rw [if_neg c3] at H
    have nN:decide (rX≤15)=false:=decide_eq_false c3
    clear c3
    simp only [Option.some.injEq,Prod.mk.injEq] at H
    obtain ⟨rfl,rfl,rfl,rfl,rfl,rfl⟩:=H
    obtain ⟨aiI,aiH,aiG,aiF,aiE,agu,agt,ags,agr,agq⟩:=jT fM.out
    go_wp2
    refine bodyPost_ret (lU rfl _ _ iG 55 #[.int .u8 0,.int .u8 0,.int .u8 0,.int .u8 0,.int .i64 0] (0,0) _ rfl (by (with_reducible repeat (first|refine au ?_ _|refine ay ?_|refine ak ?_ _));refine dP (cs:=#[.int .u8 0,.int .u8 0,.int .u8 0,.int .u8 0,.int .i64 kW]) ?_ 4 _ rfl;(with_reducible repeat (first|refine au ?_ _|refine ay ?_|refine ak ?_ _));refine dP (cs:=#[.int .u8 0,.int .u8 0,.int .u8 0,.int .u8 lJ,.int .i64 kW]) ?_ 3 _ rfl;(with_reducible repeat (first|refine au ?_ _|refine ay ?_|refine ak ?_ _));refine dP (cs:=#[.int .u8 0,.int .u8 0,.int .u8 mi,.int .u8 lJ,.int .i64 kW]) ?_ 2 _ rfl;(with_reducible repeat (first|refine au ?_ _|refine ay ?_|refine ak ?_ _));refine dP (cs:=#[.int .u8 0,.int .u8 nD,.int .u8 mi,.int .u8 lJ,.int .i64 kW]) ?_ 1 _ rfl;(with_reducible repeat (first|refine au ?_ _|refine ay ?_|refine ak ?_ _));refine dP (cs:=#[.int .u8 nY,.int .u8 nD,.int .u8 mi,.int .u8 lJ,.int .i64 kW]) ?_ 0 _ rfl;(with_reducible repeat (first|refine au ?_ _|refine ay ?_|refine ak ?_ _));exact fM.out) Tryd.underlying55 rfl (by kernel_rfl)) rfl ?_
    exact ⟨by first|rfl|(simp [aQ,aN] <;> rfl)|(simp [*,aQ,aN] <;> rfl),by repeat (first|(with_reducible first|exact HB.out|apply ah|apply af|apply ai|refine aj ?_ jH.out)|exact HB.out)⟩
end Go.Proofs.YtlemecdddhdagaaDoor.P
end
