/- Parts of the proof of ModelSteps: what the functions that it reaches compute, and plain facts about that. -/
import Derived.Test.YtlemecdddhdagaaDoorZab
import Derived.Test.YtlemecdddhdagaaDoorZam
import Derived.Test.YtlemecdddhdagaaDoorZan
set_option linter.unusedVariables false
set_option linter.unusedSimpArgs false
section
namespace Go.Proofs.YtlemecdddhdagaaDoor.P
open Go.RowKit Go.Proofs.af.bF Go.Proofs.af.dD Go.Proofs.af.dN
attribute [local go_sem] lF lC mP mO kE kD lD lu
mutual
def aJ.l0:Nat→List ByteArray→Int→Option (Int × Int × Int × Int × Int × Bool)
 | 0,_,_=>none
 | k+1,x0,x4=>if x4≤15 then ((fH.f x4).bind fun Nv=>(if 0 < (x0.length:Int) then (if (dZ ByteArray.empty x0 0).toList=Nv.1.toList then (aJ.j1 k x0 x4 Nv.2 ((x0.length:Int) != (wrap64 ((Nv.2.size:Int)+1)))) else (aJ.j1 k x0 x4 Nv.2 true)) else (none))) else (some (0,0,0,0,0,false))
def aJ.j1:Nat→List ByteArray→Int→ByteArray→Bool→Option (Int × Int × Int × Int × Int × Bool)
 | 0,_,_,_,_=>none
 | k+1,x0,x4,x6,x34=>if x34=true then (aJ.l0 k x0 ((x4+1) % 256)) else (aJ.l1 k x0 x6 0 x4 0 0 0 0)
def aJ.l1:Nat→List ByteArray→ByteArray→Int→Int→Int→Int→Int→Int→Option (Int × Int × Int × Int × Int × Bool)
 | 0,_,_,_,_,_,_,_,_=>none
 | k+1,x0,x6,x8,J3,JZ,JY,JX,JW=>if x8 < (x6.size:Int) then (if 0≤(wrap64 (x8+1)) then (if (wrap64 (x8+1)) < (x0.length:Int) then ((aH.f k (dZ ByteArray.empty x0 (wrap64 (x8+1)))).bind fun Hy=>(if 0≤x8 then ((bf.f k J3 JZ JY JX JW (bt x6 x8) Hy.1).bind fun mD=>(if Hy.2=0 then (if mD.2.2.2.2.2=true then (aJ.l1 k x0 x6 (wrap64 (x8+1)) mD.1 mD.2.1 mD.2.2.1 mD.2.2.2.1 mD.2.2.2.2.1) else (some (0,0,0,0,0,false))) else (some (0,0,0,0,0,false)))) else (none))) else (none)) else (none)) else (some (J3,JZ,JY,JX,JW,true))
end
def aJ.f (k:Nat) (l0:List ByteArray):Option (Int × Int × Int × Int × Int × Bool):=aJ.l0 k l0 1
theorem aJ.iF:∀ k,(∀ y0 y1,dP (aJ.l0 k y0 y1) (aJ.l0 (k+1) y0 y1))∧(∀ y0 y1 y2 y3,dP (aJ.j1 k y0 y1 y2 y3) (aJ.j1 (k+1) y0 y1 y2 y3))∧(∀ y0 y1 y2 y3 y4 y5 y6 y7,dP (aJ.l1 k y0 y1 y2 y3 y4 y5 y6 y7) (aJ.l1 (k+1) y0 y1 y2 y3 y4 y5 y6 y7))
 | 0=>⟨fun _ _ r h=>by simp [aJ.l0] at h,fun _ _ _ _ r h=>by simp [aJ.j1] at h,fun _ _ _ _ _ _ _ _ r h=>by simp [aJ.l1] at h⟩
 | k+1=>by
  obtain ⟨lW,ih1,ih2⟩:=aJ.iF k
  refine ⟨?_,?_,?_⟩
  ·
   intro y0 y1
   unfold aJ.l0
   repeat' with_reducible first|apply lW|apply ih1|apply ih2|apply aH.mono|apply bf.mono|exact dP.refl _|exact dP.none _|refine dP.ite ?_ ?_|refine dP.bind ?_ (fun _=>?_)
  ·
   intro y0 y1 y2 y3
   unfold aJ.j1
   repeat' with_reducible first|apply lW|apply ih1|apply ih2|apply aH.mono|apply bf.mono|exact dP.refl _|exact dP.none _|refine dP.ite ?_ ?_|refine dP.bind ?_ (fun _=>?_)
  ·
   intro y0 y1 y2 y3 y4 y5 y6 y7
   unfold aJ.l1
   repeat' with_reducible first|apply lW|apply ih1|apply ih2|apply aH.mono|apply bf.mono|exact dP.refl _|exact dP.none _|refine dP.ite ?_ ?_|refine dP.bind ?_ (fun _=>?_)
theorem aJ.mono:∀ a0 k,dP (aJ.f k a0) (aJ.f (k+1) a0):=by
 intro a0 k
 obtain ⟨lW,ih1,ih2⟩:=aJ.iF k
 unfold aJ.f
 repeat' with_reducible first|apply lW|apply ih1|apply ih2|apply aH.mono|apply bf.mono|exact dP.refl _|exact dP.none _|refine dP.ite ?_ ?_|refine dP.bind ?_ (fun _=>?_)
def aJ.T11:Bool × List (List Nat × List Nat):=(true,[([],[]),([],[]),([],[]),([1,2],[1,2]),([],[]),([0,3,4],[0,3,4]),([5],[5]),([6],[6]),([6],[6]),([],[]),([9,7,5,0,1,2,3,4,5,6,7,9],[7,9]),([8,10,0,1,2,3,4,5,6,7,8,9,10],[8])])
def aJ.B11:List Nat:=[0,0,0,6,0,31,63,127,127,0,767,2047]
theorem aJ.PE:qM .any (opsOf Tryd.f46 11)=aJ.T11:=by kernel_rfl
theorem aJ.Jo:rZ aJ.T11.2 aJ.B11=true:=by kernel_rfl
set_option maxHeartbeats 8000000 in
set_option maxRecDepth 100000 in
theorem aJ.calls (k:Nat) (A0:Option Addr) (c0:Nat) (l0:List ByteArray) (r1:Int) (r2:Int) (r3:Int) (r4:Int) (r5:Int) (r6:Bool) (w:World) (hr0:Kd.C Kd.string w A0 l0.length l0) (hc0:l0.length≤c0) (h:aJ.f k l0=some (r1,r2,r3,r4,r5,r6)) :
  Calls Tryd.prog 46 #[.slice A0 l0.length c0] w fun e w'=>e=.returned (.tuple #[.agg #[.int .u8 r1,.int .u8 r2,.int .u8 r3,.int .u8 r4,.int .i64 r5],.bool r6])∧Below w.heap.size w w':=by
 have CW:=Tryd.underlying55
 have HR0:=ae.mk hr0
 have tX:=ae.mk hc0
 clear hr0 hc0
 have HB:=ae.mk (Below.refl w.heap.size w)
 have H:(aJ.l0 k l0 1)=some (r1,r2,r3,r4,r5,r6):=h
 clear h
 have H':=ae.mk H
 clear H
 go_enter Tryd.func46,Tryd.ntmps46
 go_wp2_with (first|((with_reducible refine bD (N:=2) rfl ?_);(try (refine nT (by rfl) ?_;dsimp only));refine fG ?hg (N:=2) ?hd (cs:=#[.int .u8 0,.int .u8 0,.int .u8 0,.int .u8 0,.int .i64 0]) (t:=55) ?hr ?_;(case hd=>rfl);(case hg=>rfl);(case hr=>first|(go_simp;done)|(go_simp;rfl));intro iQ hg w2 hbox hb;have dX:=ae.mk (bn (by repeat (first|(with_reducible first|exact HB.out|apply ah|apply ag|apply ai)|exact HB.out)) hb);have dW:=ae.mk (hbox);have dU:=ae.mk ((by rw [hg];exact (bY (by repeat (first|(with_reducible first|exact HB.out|apply ah|apply ag|apply ai)|exact HB.out))):w.heap.size≤iQ));have iq:=dU;clear HB;have HB:=dX;have fO:=dW;have aqQ:=dU;have jS:=iq;clear dX dW dU iq;clear hb hbox hg))
 go_loopg [4] k (fun kq v4 w'=>∃ (tY:Int) (oV:Int) (nY:Int) (ni:Int) (lZ:Int) (lJ:Int),v4=.int .u8 tY∧ae (aJ.l0 kq l0 tY=some (r1,r2,r3,r4,r5,r6))∧ae (kq≤k)∧ae (w'.heap[iQ]? = some (.cells #[.int .u8 oV,.int .u8 nY,.int .u8 ni,.int .u8 lZ,.int .i64 lJ] 55 (0,0)))∧ae (Below w.heap.size w w'))
 case atStart=>exact ⟨(1),(0),(0),(0),(0),(0),(by first|rfl|(simp;done)|(simp [*];done)),H',⟨Nat.le_refl _⟩,⟨by (with_reducible repeat (first|refine au ?_ _|refine ay ?_|refine ak ?_ _));exact fO.out⟩,⟨by repeat (first|(with_reducible first|exact HB.out|apply ah|apply ag|apply ai|refine aj ?_ jS.out)|exact HB.out)⟩⟩
 case round =>
  clear H'
  obtain ⟨tY,oV,nY,ni,lZ,lJ,rfl,HA,qX,fO,HB⟩:=hrel
  cases gk with
  | zero=>exact absurd HA.out (by simp [aJ.l0])
  | succ k1 =>
   have H:=HA.out
   clear HA
   simp only [aJ.l0] at H
   by_cases c3:tY≤15
   ·
    rw [if_pos c3] at H
    have oG:decide (tY≤15)=true:=decide_eq_true c3
    clear c3
    replace H:=Option.bind_eq_some_iff.mp H
    obtain ⟨⟨t111,t112⟩,CO,H⟩:=H
    replace H:(if 0 < (l0.length:Int) then (if (dZ ByteArray.empty l0 0).toList=t111.toList then (aJ.j1 k1 l0 tY t112 ((l0.length:Int) != (wrap64 ((t112.size:Int)+1)))) else (aJ.j1 k1 l0 tY t112 true)) else (none))=some (r1,r2,r3,r4,r5,r6):=H
    have A4:=ae.mk CO
    clear CO
    have JB:=ae.mk H
    clear H
    go_upto_region 5 with (first|((with_reducible refine bz (f:=45) rfl ?_);refine dV (some 19) rfl rfl Tryd.func45 (by kernel_rfl) rfl #[.int .u8 tY] rfl (by (try simp only [List.map_toArray,List.map_cons,List.map_nil]);first|done|rfl|(simp only [List.length_drop,List.length_take];rfl)) ?_;(with_reducible refine (fH.calls tY t111 t112 _ A4.out).mono ?_);rintro e w' ⟨rfl,⟨nd,rfl⟩⟩;refine ⟨_,rfl,?_⟩))
    (try simp only [Act.put,List.setIfInBounds_toArray,List.set_cons_zero,List.set_cons_succ])
    go_cut [34] (fun v34 wc=>∃ (kq:Nat) (JE:Bool),v34=.bool JE∧ae (aJ.j1 kq l0 tY t112 JE=some (r1,r2,r3,r4,r5,r6))∧ae (kq≤k1)∧ae (wc.heap[iQ]? = some (.cells #[.int .u8 oV,.int .u8 nY,.int .u8 ni,.int .u8 lZ,.int .i64 lJ] 55 (0,0)))∧ae (Below w.heap.size w wc))
    case first =>
     have H:=JB.out
     clear JB
     by_cases c6:0 < (l0.length:Int)
     ·
      rw [if_pos c6] at H
      have oK:decide (0 < (l0.length:Int))=true:=decide_eq_true c6
      have yT:decide (0 < l0.length)=true:=decide_eq_true (by omega)
      clear c6
      (first|rw [oK]|(simp only [bT,bW];rw [oK])|skip)
      by_cases c7:(dZ ByteArray.empty l0 0).toList=t111.toList
      ·
       rw [if_pos c7] at H
       have oQ:((dZ ByteArray.empty l0 0).toList == t111.toList)=true:=beq_iff_eq.mpr c7
       have yw:((dZ ByteArray.empty l0 0).toList != t111.toList)=false:=bne_eq_false_iff_eq.mpr c7
       clear c7
       have H':=ae.mk H
       clear H
       have IU:0≤(0:Int):=(by omega)
       have IE:0 < (l0.length:Int):=of_decide_eq_true (by first|(with_reducible assumption)|assumption)
       obtain ⟨afE,abj,pq⟩:=Kd.kT HR0.out 0 IU IE
       cases abj
       have acL:(0 < l0.length)=True:=eq_true (by omega)
       (try rw [show ((0:Int)).toNat=0 from rfl] at pq)
       (try rw [Addr.add_zero'] at pq)
       replace pq:=(HB.out.cell (World.block_lt_of_cell? w _ pq)).trans pq
       replace IU:=eq_true IU
       replace IE:=eq_true IE
       go_wp2
       go_meet
       case rel=>exact ⟨_,(((l0.length:Int) != (wrap64 ((t112.size:Int)+1)))),(by first|rfl|(simp;done)|(simp [*];done)),H',⟨by have:=qX.out;first|omega|exact Nat.le_refl _⟩,⟨by (with_reducible repeat (first|refine au ?_ _|refine ay ?_|refine ak ?_ _));exact fO.out⟩,⟨by repeat (first|(with_reducible first|exact HB.out|apply ah|apply ag|apply ai|refine aj ?_ jS.out)|exact HB.out)⟩⟩
      ·
       rw [if_neg c7] at H
       have oQ:((dZ ByteArray.empty l0 0).toList == t111.toList)=false:=beq_eq_false_iff_ne.mpr c7
       have yw:((dZ ByteArray.empty l0 0).toList != t111.toList)=true:=bne_iff_ne.mpr c7
       have H':=ae.mk H
       clear H
       have IU:0≤(0:Int):=(by omega)
       have IE:0 < (l0.length:Int):=of_decide_eq_true (by first|(with_reducible assumption)|assumption)
       obtain ⟨afE,abj,pq⟩:=Kd.kT HR0.out 0 IU IE
       cases abj
       have acL:(0 < l0.length)=True:=eq_true (by omega)
       (try rw [show ((0:Int)).toNat=0 from rfl] at pq)
       (try rw [Addr.add_zero'] at pq)
       replace pq:=(HB.out.cell (World.block_lt_of_cell? w _ pq)).trans pq
       replace IU:=eq_true IU
       replace IE:=eq_true IE
       go_wp2
       go_meet
       case rel=>exact ⟨_,(true),(by first|rfl|(simp;done)|(simp [*];done)),H',⟨by have:=qX.out;first|omega|exact Nat.le_refl _⟩,⟨by (with_reducible repeat (first|refine au ?_ _|refine ay ?_|refine ak ?_ _));exact fO.out⟩,⟨by repeat (first|(with_reducible first|exact HB.out|apply ah|apply ag|apply ai|refine aj ?_ jS.out)|exact HB.out)⟩⟩
     ·
      rw [if_neg c6] at H
      exact absurd H (by simp)
    case rest =>
     clear JB
     obtain ⟨kq,JE,rfl,HA,JA,fO,HB⟩:=hcut
     cases kq with
     | zero=>exact absurd HA.out (by simp [aJ.j1])
     | succ vZ =>
      have H:=HA.out
      clear HA
      simp only [aJ.j1] at H
      by_cases c8:JE=true
      ·
       subst c8
       have H1:(aJ.l0 vZ l0 ((tY+1) % 256))=some (r1,r2,r3,r4,r5,r6):=by rw [if_pos rfl] at H;exact H
       clear H
       have H:=H1
       clear H1
       have H':=ae.mk H
       clear H
       go_wp2
       go_roundg vZ
       case measure=>have:=qX.out;have:=JA.out;omega
       case rel=>exact ⟨((tY+1) % 256),(oV),(nY),(ni),(lZ),(lJ),(by first|rfl|(simp;done)|(simp [*];done)),H',⟨by have:=qX.out;have:=JA.out;omega⟩,⟨by (with_reducible repeat (first|refine au ?_ _|refine ay ?_|refine ak ?_ _));exact fO.out⟩,⟨by repeat (first|(with_reducible first|exact HB.out|apply ah|apply ag|apply ai|refine aj ?_ jS.out)|exact HB.out)⟩⟩
      ·
       replace c8:=Bool.eq_false_iff.mpr c8
       subst c8
       have H1:(aJ.l1 vZ l0 t112 0 tY 0 0 0 0)=some (r1,r2,r3,r4,r5,r6):=by rw [if_neg (show ¬ (false=true) by decide)] at H;exact H
       clear H
       have H:=H1
       clear H1
       have H':=ae.mk H
       clear H
       go_wp2_with (first|((with_reducible refine bD (N:=7) rfl ?_);(try (refine nT (by rfl) ?_;dsimp only));refine fG ?hg (N:=7) ?hd (cs:=#[.int .u8 0,.int .u8 0,.int .u8 0,.int .u8 0,.int .i64 0]) (t:=55) ?hr ?_;(case hd=>rfl);(case hg=>rfl);(case hr=>first|(go_simp;done)|(go_simp;rfl));intro eQ hg w9 hbox hb;have dX:=ae.mk (bg (g:=iQ) (o:=.cells #[.int .u8 oV,.int .u8 nY,.int .u8 ni,.int .u8 lZ,.int .i64 lJ] 55 (0,0)) (by (with_reducible repeat (first|refine au ?_ _|refine ay ?_|refine ak ?_ _));exact fO.out) hb);have dW:=ae.mk (bn (by repeat (first|(with_reducible first|exact HB.out|apply ah|apply ag|apply ai|refine aj ?_ jS.out)|exact HB.out)) hb);have dU:=ae.mk (hbox);have iq:=ae.mk ((by rw [hg];exact (bY (by repeat (first|(with_reducible first|exact HB.out|apply ah|apply ag|apply ai|refine aj ?_ jS.out)|exact HB.out))):w.heap.size≤eQ));have mr:=iq;have ny:=ae.mk ((by rw [hg];exact Nat.ne_of_lt (kR (g:=iQ) (o:=.cells #[.int .u8 oV,.int .u8 nY,.int .u8 ni,.int .u8 lZ,.int .i64 lJ] 55 (0,0)) (by (with_reducible repeat (first|refine au ?_ _|refine ay ?_|refine ak ?_ _));exact fO.out)):iQ ≠ eQ));have oz:=ae.mk ny.out.symm;clear fO;clear HB;have fO:=dX;have HB:=dW;have cu:=dU;have NP:=iq;have jP:=mr;have kJ:=ny;have tK:=oz;clear dX dW dU iq mr ny oz;clear hb hbox hg;have apz:=tK.out;have ao7:=kJ.out;obtain ⟨Aw,Au,Ar,Aq,X5,Ai,Ah,Ag,Af,Wl⟩:=kF cu.out))
       go_loopg [8] vZ (fun kq v8 w'=>∃ (nN:Int) (gQ:Int) (gy:Int) (fU:Int) (fJ:Int) (eY:Int) (dM:Int) (dL:Int) (dK:Int) (dJ:Int) (dI:Int),v8=.int .i64 nN∧ae (aJ.l1 kq l0 t112 nN dM dL dK dJ dI=some (r1,r2,r3,r4,r5,r6))∧ae (kq≤vZ)∧ae (w'.heap[iQ]? = some (.cells #[.int .u8 gQ,.int .u8 gy,.int .u8 fU,.int .u8 fJ,.int .i64 eY] 55 (0,0)))∧ae (w'.heap[eQ]? = some (.cells #[.int .u8 dM,.int .u8 dL,.int .u8 dK,.int .u8 dJ,.int .i64 dI] 55 (0,0)))∧ae (Below w.heap.size w w'))
       case atStart=>exact ⟨(0),(oV),(nY),(ni),(lZ),(lJ),(tY),(0),(0),(0),(0),(by first|rfl|(simp;done)|(simp [*];done)),H',⟨Nat.le_refl _⟩,⟨by (with_reducible repeat (first|refine au ?_ _|refine ay ?_|refine ak ?_ _));refine fV ?_ kJ.out _;(with_reducible repeat (first|refine au ?_ _|refine ay ?_|refine ak ?_ _));refine fV ?_ kJ.out _;(with_reducible repeat (first|refine au ?_ _|refine ay ?_|refine ak ?_ _));refine fV ?_ kJ.out _;(with_reducible repeat (first|refine au ?_ _|refine ay ?_|refine ak ?_ _));refine fV ?_ kJ.out _;(with_reducible repeat (first|refine au ?_ _|refine ay ?_|refine ak ?_ _));refine fV ?_ kJ.out _;(with_reducible repeat (first|refine au ?_ _|refine ay ?_|refine ak ?_ _));exact fO.out⟩,⟨by (with_reducible repeat (first|refine au ?_ _|refine ay ?_|refine ak ?_ _));refine dR (cs:=#[.int .u8 tY,.int .u8 0,.int .u8 0,.int .u8 0,.int .i64 0]) ?_ 4 _ rfl;(with_reducible repeat (first|refine au ?_ _|refine ay ?_|refine ak ?_ _));refine dR (cs:=#[.int .u8 tY,.int .u8 0,.int .u8 0,.int .u8 0,.int .i64 0]) ?_ 3 _ rfl;(with_reducible repeat (first|refine au ?_ _|refine ay ?_|refine ak ?_ _));refine dR (cs:=#[.int .u8 tY,.int .u8 0,.int .u8 0,.int .u8 0,.int .i64 0]) ?_ 2 _ rfl;(with_reducible repeat (first|refine au ?_ _|refine ay ?_|refine ak ?_ _));refine dR (cs:=#[.int .u8 tY,.int .u8 0,.int .u8 0,.int .u8 0,.int .i64 0]) ?_ 1 _ rfl;(with_reducible repeat (first|refine au ?_ _|refine ay ?_|refine ak ?_ _));refine dR (cs:=#[.int .u8 0,.int .u8 0,.int .u8 0,.int .u8 0,.int .i64 0]) ?_ 0 _ rfl;(with_reducible repeat (first|refine au ?_ _|refine ay ?_|refine ak ?_ _));exact cu.out⟩,⟨by repeat (first|(with_reducible first|exact HB.out|apply ah|apply ag|apply ai|refine aj ?_ jS.out|refine aj ?_ jP.out)|exact HB.out)⟩⟩
       case round =>
        clear H'
        obtain ⟨nN,gQ,gy,fU,fJ,eY,dM,dL,dK,dJ,dI,rfl,HA,xH,fO,cu,HB⟩:=hrel
        cases gk with
        | zero=>exact absurd HA.out (by simp [aJ.l1])
        | succ k3 =>
         have H:=HA.out
         clear HA
         simp only [aJ.l1] at H
         by_cases c12:nN < (t112.size:Int)
         ·
          rw [if_pos c12] at H
          have xq:decide (nN < (t112.size:Int))=true:=decide_eq_true c12
          clear c12
          obtain ⟨pR,xX⟩:∃ j_:Int,(wrap64 (nN+1))=j_:=⟨_,rfl⟩
          replace H:(if 0≤(pR) then (if (pR) < (l0.length:Int) then ((aH.f k3 (dZ ByteArray.empty l0 (pR))).bind fun Hy=>(if 0≤nN then ((bf.f k3 dM dL dK dJ dI (bt t112 nN) Hy.1).bind fun mD=>(if Hy.2=0 then (if mD.2.2.2.2.2=true then (aJ.l1 k3 l0 t112 pR mD.1 mD.2.1 mD.2.2.1 mD.2.2.2.1 mD.2.2.2.2.1) else (some (0,0,0,0,0,false))) else (some (0,0,0,0,0,false)))) else (none))) else (none)) else (none))=some (r1,r2,r3,r4,r5,r6):=by first|(rw [xX] at H;exact H)|(simp only [xX] at H ⊢;exact H)
          have am5:(IntKind.i64.wrap (nN+1))=pR:=(bT _).trans xX
          by_cases c14:0≤(pR)
          ·
           rw [if_pos c14] at H
           have D7:decide (0≤(pR))=true:=decide_eq_true c14
           clear c14
           by_cases c15:(pR) < (l0.length:Int)
           ·
            rw [if_pos c15] at H
            have qR:decide ((pR) < (l0.length:Int))=true:=decide_eq_true c15
            clear c15
            replace H:=Option.bind_eq_some_iff.mp H
            obtain ⟨⟨t116,t117⟩,Ii,H⟩:=H
            replace H:(if 0≤nN then ((bf.f k3 dM dL dK dJ dI (bt t112 nN) t116).bind fun mD=>(if t117=0 then (if mD.2.2.2.2.2=true then (aJ.l1 k3 l0 t112 pR mD.1 mD.2.1 mD.2.2.1 mD.2.2.2.1 mD.2.2.2.2.1) else (some (0,0,0,0,0,false))) else (some (0,0,0,0,0,false)))) else (none))=some (r1,r2,r3,r4,r5,r6):=H
            have A16:=ae.mk Ii
            clear Ii
            by_cases c17:0≤nN
            ·
             rw [if_pos c17] at H
             have zC:decide (0≤nN)=true:=decide_eq_true c17
             clear c17
             replace H:=Option.bind_eq_some_iff.mp H
             obtain ⟨⟨t118,t119,t120,t121,t122,t123⟩,Ih,H⟩:=H
             replace H:(if t117=0 then (if t123=true then (aJ.l1 k3 l0 t112 pR t118 t119 t120 t121 t122) else (some (0,0,0,0,0,false))) else (some (0,0,0,0,0,false)))=some (r1,r2,r3,r4,r5,r6):=H
             have Td:=ae.mk Ih
             clear Ih
             by_cases c20:t117=0
             ·
              rw [if_pos c20] at H
              have Zx:(t117 == 0)=true:=beq_iff_eq.mpr c20
              have aft:(t117 != 0)=false:=bne_eq_false_iff_eq.mpr c20
              clear c20
              by_cases c21:t123=true
              ·
               subst c21
               have H1:(aJ.l1 k3 l0 t112 pR t118 t119 t120 t121 t122)=some (r1,r2,r3,r4,r5,r6):=by rw [if_pos rfl] at H;exact H
               clear H
               have H:=H1
               clear H1
               have H':=ae.mk H
               clear H
               have Bv:0≤((pR):Int):=of_decide_eq_true (by first|(with_reducible assumption)|assumption)
               have Bo:(pR) < (l0.length:Int):=of_decide_eq_true (by first|(with_reducible assumption)|assumption)
               obtain ⟨ZB,e115,pg⟩:=Kd.kT HR0.out (pR) Bv Bo
               cases e115
               replace pg:=(HB.out.cell (World.block_lt_of_cell? w _ pg)).trans pg
               replace Bv:=eq_true Bv
               replace Bo:=eq_true Bo
               try go_wp2_with (first|((with_reducible refine bz (f:=64) rfl ?_);refine dV (some 49) rfl rfl Tryd.func64 (by kernel_rfl) rfl #[.string (dZ ByteArray.empty l0 (pR))] rfl (by (try simp only [List.map_toArray,List.map_cons,List.map_nil]);first|done|(simp only [xX];rfl)|rfl|(simp only [List.length_drop,List.length_take];rfl)) ?_;(with_reducible refine (aH.calls k3 (dZ ByteArray.empty l0 (pR)) t116 t117 _ A16.out).mono ?_);rintro e w' ⟨rfl,⟨nd,rfl⟩⟩;refine ⟨_,rfl,?_⟩;(try (rw [rP wr];generalize CJ:World.drewN wr _=wr;have dX:ae (wr.heap[iQ]? = some (.cells #[.int .u8 gQ,.int .u8 gy,.int .u8 fU,.int .u8 fJ,.int .i64 eY] 55 (0,0))):=⟨by rw [← CJ];exact (by (with_reducible repeat (first|refine au ?_ _|refine ay ?_|refine ak ?_ _));exact fO.out)⟩;have dW:ae (wr.heap[eQ]? = some (.cells #[.int .u8 dM,.int .u8 dL,.int .u8 dK,.int .u8 dJ,.int .i64 dI] 55 (0,0))):=⟨by rw [← CJ];exact (by (with_reducible repeat (first|refine au ?_ _|refine ay ?_|refine ak ?_ _));exact cu.out)⟩;have dU:ae (Below w.heap.size w wr):=⟨by rw [← CJ];exact (by repeat (first|(with_reducible first|exact HB.out|apply ah|apply ag|apply ai|refine aj ?_ jS.out|refine aj ?_ jP.out)|exact HB.out))⟩;clear fO cu HB CJ;have fO:=dX;have cu:=dW;have HB:=dU;clear dX dW dU))))
               have dX:=ae.mk (ay fO.out)
               have dW:=ae.mk (ay cu.out)
               have dU:=ae.mk (ai HB.out)
               clear fO
               clear cu
               clear HB
               have fO:=dX
               have cu:=dW
               have HB:=dU
               clear dX dW dU
               have Gl:0≤(nN:Int):=of_decide_eq_true (by first|(with_reducible assumption)|assumption)
               have Gh:nN < (t112.size:Int):=of_decide_eq_true (by first|(with_reducible assumption)|assumption)
               have Ql:=kY t112 nN
               replace Gl:=eq_true Gl
               replace Gh:=eq_true Gh
               refine qg (n:=12) (S:=fun w'=>w'.cell? ⟨eQ,0,none⟩=some (.int .u8 dM)∧w'.cell? ⟨eQ,1,none⟩=some (.int .u8 dL)∧w'.cell? ⟨eQ,2,none⟩=some (.int .u8 dK)∧w'.cell? ⟨eQ,3,none⟩=some (.int .u8 dJ)∧w'.cell? ⟨eQ,4,none⟩=some (.int .i64 dI)) (ds:=[]) #[false,false,false,false,false,false,false,false,false,false,false,false] (by kernel_rfl) rfl rfl ⟨(ax cu.out 0).trans rfl,(ax cu.out 1).trans rfl,(ax cu.out 2).trans rfl,(ax cu.out 3).trans rfl,(ax cu.out 4).trans rfl⟩ (fun hHeld=>?_);refine ry aJ.PE aJ.Jo (fun lT Df=>?_)
               generalize wr.drew=Z4 at fO cu HB hHeld ⊢
               refine gZ (i:=1) (N:=some 54) (v:=?_) (a':=?_) #[false,true,false,false,false,false,false,false,false,false,false,false] rfl rfl (iP lT.out (by kernel_rfl)) (fun _ _ _ h=>h) (Or.inl ⟨by rfl,?_⟩) ?_ ?_
               rotate_left
               ·
                intro w'
                go_simp
                with_reducible rfl
               rotate_left
               ·
                simp only [Act.put,List.setIfInBounds_toArray,List.set_cons_zero,List.set_cons_succ,bT,bW]
                rfl
               refine gZ (i:=2) (N:=some 55) (v:=?_) (a':=?_) #[false,true,true,false,false,false,false,false,false,false,false,false] rfl rfl (iP lT.out (by kernel_rfl)) (fun _ _ _ h=>h) (Or.inl ⟨by rfl,?_⟩) ?_ ?_
               rotate_left
               ·
                intro w'
                go_simp
                with_reducible rfl
               rotate_left
               ·
                simp only [Act.put,List.setIfInBounds_toArray,List.set_cons_zero,List.set_cons_succ,bT,bW]
                rfl
               refine gZ (i:=4) (N:=some 57) (v:=?_) (a':=?_) #[false,true,true,false,true,false,false,false,false,false,false,false] rfl rfl (iP lT.out (by kernel_rfl)) (fun _ _ _ h=>h) (Or.inl ⟨by rfl,?_⟩) ?_ ?_
               rotate_left
               ·
                intro w'
                go_simp
                with_reducible rfl
               rotate_left
               ·
                simp only [Act.put,List.setIfInBounds_toArray,List.set_cons_zero,List.set_cons_succ,bT,bW]
                rfl
               refine jY (i:=0) (N:=some 53) (v:=?_) (a':=?_) #[true,true,true,false,true,false,false,false,false,false,false,false] rfl rfl (kX lT.out Df.out (by kernel_rfl)) (fun _ _ _ h=>h) (Or.inl ⟨by rfl,?_⟩) hHeld ?_ ?_
               rotate_left
               ·
                rintro w' ⟨s0,s1,s2,s3,s4⟩
                go_simp
                with_reducible rfl
               rotate_left
               ·
                simp only [Act.put,List.setIfInBounds_toArray,List.set_cons_zero,List.set_cons_succ,bT,bW]
                rfl
               refine jY (i:=3) (N:=some 56) (v:=?_) (a':=?_) #[true,true,true,true,true,false,false,false,false,false,false,false] rfl rfl (kX lT.out Df.out (by kernel_rfl)) (fun _ _ _ h=>h) (Or.inl ⟨by rfl,?_⟩) hHeld ?_ ?_
               rotate_left
               ·
                rintro w' ⟨s0,s1,s2,s3,s4⟩
                go_simp
                with_reducible rfl
               rotate_left
               ·
                simp only [Act.put,List.setIfInBounds_toArray,List.set_cons_zero,List.set_cons_succ,bT,bW]
                rfl
               refine KC (σ:=Nat) 2 #[true,true,true,true,true,true,true,true,true,true,false,false] (fun s_=>[(58,.tuple #[.agg #[.int .u8 t118,.int .u8 t119,.int .u8 t120,.int .u8 t121,.int .i64 t122],.bool true]),(11,.pointer (some ⟨s_,0,none⟩)),(52,.tuple #[.agg #[.int .u8 t118,.int .u8 t119,.int .u8 t120,.int .u8 t121,.int .i64 t122],.bool true]),(59,.agg #[.int .u8 t118,.int .u8 t119,.int .u8 t120,.int .u8 t121,.int .i64 t122]),(60,.bool true)]) (fun s_ w'=>(w'.cell? ⟨eQ,0,none⟩=some (.int .u8 dM)∧w'.cell? ⟨eQ,1,none⟩=some (.int .u8 dL)∧w'.cell? ⟨eQ,2,none⟩=some (.int .u8 dK)∧w'.cell? ⟨eQ,3,none⟩=some (.int .u8 dJ)∧w'.cell? ⟨eQ,4,none⟩=some (.int .i64 dI))∧(w'.heap[iQ]? = some (.cells #[.int .u8 gQ,.int .u8 gy,.int .u8 fU,.int .u8 fJ,.int .i64 eY] 55 (0,0)))∧(w'.heap[eQ]? = some (.cells #[.int .u8 dM,.int .u8 dL,.int .u8 dK,.int .u8 dJ,.int .i64 dI] 55 (0,0)))∧(w'.heap[s_]? = some (.cells #[.int .u8 0,.int .u8 0,.int .u8 0,.int .u8 0,.int .i64 0] 55 (0,0)))∧(w.heap.size≤s_)∧(w.heap.size≤s_)∧(iQ ≠ s_)∧(s_ ≠ iQ)∧(eQ ≠ s_)∧(s_ ≠ eQ)∧(Below w.heap.size w w')) ?_ ?_
               rotate_left
               ·
                intro zA
                refine TZ (i:=5) (j:=9) (Ni:=some 58) (Nj:=some 11) #[true,true,true,true,true,true,false,false,false,false,false,false] #[true,true,true,true,true,false,false,false,false,true,false,false] rfl rfl rfl rfl (Ir lT.out (by kernel_rfl)) (by decide) (by decide) (fun K hK=>?_) (fun K hK=>?_)
                ·
                 skip
                 refine pz Tryd.func65 (by kernel_rfl) rfl #[.agg #[.int .u8 dM,.int .u8 dL,.int .u8 dK,.int .u8 dJ,.int .i64 dI],.int .u8 (bt t112 nN),.int .i64 t116] (by rfl) rfl rfl (by (try simp only [List.map_toArray,List.map_cons,List.map_nil]);first|done|rfl|(simp only [List.length_drop,List.length_take];rfl)) ?_
                 with_reducible refine (bf.calls k3 dM dL dK dJ dI (bt t112 nN) t116 t118 t119 t120 t121 t122 true _ Td.out).mono ?_
                 rintro e w23 ⟨rfl,hb⟩
                 refine ⟨_,rfl,?_⟩
                 have dX:=ae.mk (bg (g:=iQ) (o:=.cells #[.int .u8 gQ,.int .u8 gy,.int .u8 fU,.int .u8 fJ,.int .i64 eY] 55 (0,0)) (by (with_reducible repeat (first|refine au ?_ _|refine ay ?_|refine ak ?_ _));exact fO.out) hb)
                 have dW:=ae.mk (bg (g:=eQ) (o:=.cells #[.int .u8 dM,.int .u8 dL,.int .u8 dK,.int .u8 dJ,.int .i64 dI] 55 (0,0)) (by (with_reducible repeat (first|refine au ?_ _|refine ay ?_|refine ak ?_ _));exact cu.out) hb)
                 have dU:=ae.mk (bn (by repeat (first|(with_reducible first|exact HB.out|apply ah|apply ag|apply ai|refine aj ?_ jS.out|refine aj ?_ jP.out)|exact HB.out)) hb)
                 clear fO
                 clear cu
                 clear HB
                 have fO:=dX
                 have cu:=dW
                 have HB:=dU
                 clear dX dW dU
                 (try clear hb)
                 (try clear hb2)
                 (try clear hk)
                 (try clear hi)
                 refine hK.out _ _ ⟨(ax cu.out 0).trans rfl,(ax cu.out 1).trans rfl,(ax cu.out 2).trans rfl,(ax cu.out 3).trans rfl,(ax cu.out 4).trans rfl⟩ (fun hHeld=>?_)
                 clear hK K
                 refine je (a':=?_) ?_ ?_
                 rotate_left
                 ·
                  show Act.put _ (some 58) _=_
                  simp only [Act.put,List.setIfInBounds_toArray,List.set_cons_zero,List.set_cons_succ,bT,bW]
                  rfl
                 refine gZ (i:=6) (N:=some 52) (v:=?_) (a':=?_) #[true,true,true,true,true,true,true,false,false,false,false,false] rfl rfl (iP lT.out (by kernel_rfl)) (fun _ _ _ h=>h) (Or.inl ⟨by rfl,?_⟩) ?_ ?_
                 rotate_left
                 ·
                  intro w'
                  go_simp
                  with_reducible rfl
                 rotate_left
                 ·
                  simp only [Act.put,List.setIfInBounds_toArray,List.set_cons_zero,List.set_cons_succ,bT,bW]
                  rfl
                 refine gZ (i:=7) (N:=some 59) (v:=?_) (a':=?_) #[true,true,true,true,true,true,true,true,false,false,false,false] rfl rfl (iP lT.out (by kernel_rfl)) (fun _ _ _ h=>h) (Or.inl ⟨by rfl,?_⟩) ?_ ?_
                 rotate_left
                 ·
                  intro w'
                  go_simp
                  with_reducible rfl
                 rotate_left
                 ·
                  simp only [Act.put,List.setIfInBounds_toArray,List.set_cons_zero,List.set_cons_succ,bT,bW]
                  rfl
                 refine gZ (i:=8) (N:=some 60) (v:=?_) (a':=?_) #[true,true,true,true,true,true,true,true,true,false,false,false] rfl rfl (iP lT.out (by kernel_rfl)) (fun _ _ _ h=>h) (Or.inl ⟨by rfl,?_⟩) ?_ ?_
                 rotate_left
                 ·
                  intro w'
                  go_simp
                  with_reducible rfl
                 rotate_left
                 ·
                  simp only [Act.put,List.setIfInBounds_toArray,List.set_cons_zero,List.set_cons_succ,bT,bW]
                  rfl
                 refine oP (i:=9) (N:=some 11) #[true,true,true,true,true,true,true,true,true,true,false,false] rfl rfl (nP lT.out (by kernel_rfl)) (by decide) (fun K hK=>?_)
                 refine tJ ?hg (N:=11) ?hd (cs:=#[.int .u8 0,.int .u8 0,.int .u8 0,.int .u8 0,.int .i64 0]) (t:=55) ?hr ?_;(case hd=>rfl);(case hg=>rfl);(case hr=>first|(go_simp;done)|(go_simp;rfl))
                 intro dG hg TW hbox hb
                 have dX:=ae.mk (bg (g:=iQ) (o:=.cells #[.int .u8 gQ,.int .u8 gy,.int .u8 fU,.int .u8 fJ,.int .i64 eY] 55 (0,0)) (by (with_reducible repeat (first|refine au ?_ _|refine ay ?_|refine ak ?_ _));exact fO.out) hb)
                 have dW:=ae.mk (bg (g:=eQ) (o:=.cells #[.int .u8 dM,.int .u8 dL,.int .u8 dK,.int .u8 dJ,.int .i64 dI] 55 (0,0)) (by (with_reducible repeat (first|refine au ?_ _|refine ay ?_|refine ak ?_ _));exact cu.out) hb)
                 have dU:=ae.mk (bn (by repeat (first|(with_reducible first|exact HB.out|apply ah|apply ag|apply ai|refine aj ?_ jS.out|refine aj ?_ jP.out)|exact HB.out)) hb)
                 have iq:=ae.mk (hbox)
                 have mr:=ae.mk ((by rw [hg];exact (bY (by repeat (first|(with_reducible first|exact HB.out|apply ah|apply ag|apply ai|refine aj ?_ jS.out|refine aj ?_ jP.out)|exact HB.out))):w.heap.size≤dG))
                 have ny:=mr
                 have oz:=ae.mk ((by rw [hg];exact Nat.ne_of_lt (kR (g:=iQ) (o:=.cells #[.int .u8 gQ,.int .u8 gy,.int .u8 fU,.int .u8 fJ,.int .i64 eY] 55 (0,0)) (by (with_reducible repeat (first|refine au ?_ _|refine ay ?_|refine ak ?_ _));exact fO.out)):iQ ≠ dG))
                 have xk:=ae.mk oz.out.symm
                 have xh:=ae.mk ((by rw [hg];exact Nat.ne_of_lt (kR (g:=eQ) (o:=.cells #[.int .u8 dM,.int .u8 dL,.int .u8 dK,.int .u8 dJ,.int .i64 dI] 55 (0,0)) (by (with_reducible repeat (first|refine au ?_ _|refine ay ?_|refine ak ?_ _));exact cu.out)):eQ ≠ dG))
                 have zq:=ae.mk xh.out.symm
                 clear fO
                 clear cu
                 clear HB
                 have fO:=dX
                 have cu:=dW
                 have HB:=dU
                 have iV:=iq
                 have sG:=mr
                 have mF:=ny
                 have eP:=oz
                 have gX:=xk
                 have bH:=xh
                 have iy:=zq
                 clear dX dW dU iq mr ny oz xk xh zq
                 clear hb hbox hg
                 refine hK.out _ _ ⟨(ax cu.out 0).trans rfl,(ax cu.out 1).trans rfl,(ax cu.out 2).trans rfl,(ax cu.out 3).trans rfl,(ax cu.out 4).trans rfl⟩ (fun hHeld=>?_)
                 clear hK K
                 refine je (a':=?_) ?_ ?_
                 rotate_left
                 ·
                  show Act.put _ (some 11) _=_
                  simp only [Act.put,List.setIfInBounds_toArray,List.set_cons_zero,List.set_cons_succ,bT,bW]
                  rfl
                 exact je (by simp only [l7,Act.put,List.setIfInBounds_toArray,List.set_cons_zero,List.set_cons_succ]) (zA (dG) _ ⟨hHeld,(by (with_reducible repeat (first|refine au ?_ _|refine ay ?_|refine ak ?_ _));exact fO.out),(by (with_reducible repeat (first|refine au ?_ _|refine ay ?_|refine ak ?_ _));exact cu.out),(by (with_reducible repeat (first|refine au ?_ _|refine ay ?_|refine ak ?_ _));exact iV.out),sG.out,mF.out,eP.out,gX.out,bH.out,iy.out,(by repeat (first|(with_reducible first|exact HB.out|apply ah|apply ag|apply ai|refine aj ?_ jS.out|refine aj ?_ jP.out|refine aj ?_ mF.out)|exact HB.out))⟩)
                ·
                 skip
                 refine tJ ?hg (N:=11) ?hd (cs:=#[.int .u8 0,.int .u8 0,.int .u8 0,.int .u8 0,.int .i64 0]) (t:=55) ?hr ?_;(case hd=>rfl);(case hg=>rfl);(case hr=>first|(go_simp;done)|(go_simp;rfl))
                 intro dG hg w23 hbox hb
                 have dX:=ae.mk (bg (g:=iQ) (o:=.cells #[.int .u8 gQ,.int .u8 gy,.int .u8 fU,.int .u8 fJ,.int .i64 eY] 55 (0,0)) (by (with_reducible repeat (first|refine au ?_ _|refine ay ?_|refine ak ?_ _));exact fO.out) hb)
                 have dW:=ae.mk (bg (g:=eQ) (o:=.cells #[.int .u8 dM,.int .u8 dL,.int .u8 dK,.int .u8 dJ,.int .i64 dI] 55 (0,0)) (by (with_reducible repeat (first|refine au ?_ _|refine ay ?_|refine ak ?_ _));exact cu.out) hb)
                 have dU:=ae.mk (bn (by repeat (first|(with_reducible first|exact HB.out|apply ah|apply ag|apply ai|refine aj ?_ jS.out|refine aj ?_ jP.out)|exact HB.out)) hb)
                 have iq:=ae.mk (hbox)
                 have mr:=ae.mk ((by rw [hg];exact (bY (by repeat (first|(with_reducible first|exact HB.out|apply ah|apply ag|apply ai|refine aj ?_ jS.out|refine aj ?_ jP.out)|exact HB.out))):w.heap.size≤dG))
                 have ny:=mr
                 have oz:=ae.mk ((by rw [hg];exact Nat.ne_of_lt (kR (g:=iQ) (o:=.cells #[.int .u8 gQ,.int .u8 gy,.int .u8 fU,.int .u8 fJ,.int .i64 eY] 55 (0,0)) (by (with_reducible repeat (first|refine au ?_ _|refine ay ?_|refine ak ?_ _));exact fO.out)):iQ ≠ dG))
                 have xk:=ae.mk oz.out.symm
                 have xh:=ae.mk ((by rw [hg];exact Nat.ne_of_lt (kR (g:=eQ) (o:=.cells #[.int .u8 dM,.int .u8 dL,.int .u8 dK,.int .u8 dJ,.int .i64 dI] 55 (0,0)) (by (with_reducible repeat (first|refine au ?_ _|refine ay ?_|refine ak ?_ _));exact cu.out)):eQ ≠ dG))
                 have zq:=ae.mk xh.out.symm
                 clear fO
                 clear cu
                 clear HB
                 have fO:=dX
                 have cu:=dW
                 have HB:=dU
                 have iV:=iq
                 have sG:=mr
                 have mF:=ny
                 have eP:=oz
                 have gX:=xk
                 have bH:=xh
                 have iy:=zq
                 clear dX dW dU iq mr ny oz xk xh zq
                 clear hb hbox hg
                 refine hK.out _ _ ⟨(ax cu.out 0).trans rfl,(ax cu.out 1).trans rfl,(ax cu.out 2).trans rfl,(ax cu.out 3).trans rfl,(ax cu.out 4).trans rfl⟩ (fun hHeld=>?_)
                 clear hK K
                 refine je (a':=?_) ?_ ?_
                 rotate_left
                 ·
                  show Act.put _ (some 11) _=_
                  simp only [Act.put,List.setIfInBounds_toArray,List.set_cons_zero,List.set_cons_succ,bT,bW]
                  rfl
                 refine oP (i:=5) (N:=some 58) #[true,true,true,true,true,true,false,false,false,true,false,false] rfl rfl (nP lT.out (by kernel_rfl)) (by decide) (fun K hK=>?_)
                 refine pz Tryd.func65 (by kernel_rfl) rfl #[.agg #[.int .u8 dM,.int .u8 dL,.int .u8 dK,.int .u8 dJ,.int .i64 dI],.int .u8 (bt t112 nN),.int .i64 t116] (by rfl) rfl rfl (by (try simp only [List.map_toArray,List.map_cons,List.map_nil]);first|done|rfl|(simp only [List.length_drop,List.length_take];rfl)) ?_
                 with_reducible refine (bf.calls k3 dM dL dK dJ dI (bt t112 nN) t116 t118 t119 t120 t121 t122 true _ Td.out).mono ?_
                 rintro e TW ⟨rfl,hb⟩
                 refine ⟨_,rfl,?_⟩
                 have dX:=ae.mk (bg (g:=iQ) (o:=.cells #[.int .u8 gQ,.int .u8 gy,.int .u8 fU,.int .u8 fJ,.int .i64 eY] 55 (0,0)) (by (with_reducible repeat (first|refine au ?_ _|refine ay ?_|refine ak ?_ _));exact fO.out) hb)
                 have dW:=ae.mk (bg (g:=eQ) (o:=.cells #[.int .u8 dM,.int .u8 dL,.int .u8 dK,.int .u8 dJ,.int .i64 dI] 55 (0,0)) (by (with_reducible repeat (first|refine au ?_ _|refine ay ?_|refine ak ?_ _));exact cu.out) hb)
                 have dU:=ae.mk (bg (g:=dG) (o:=.cells #[.int .u8 0,.int .u8 0,.int .u8 0,.int .u8 0,.int .i64 0] 55 (0,0)) (by (with_reducible repeat (first|refine au ?_ _|refine ay ?_|refine ak ?_ _));exact iV.out) hb)
                 have iq:=ae.mk (bn (by repeat (first|(with_reducible first|exact HB.out|apply ah|apply ag|apply ai|refine aj ?_ jS.out|refine aj ?_ jP.out|refine aj ?_ mF.out)|exact HB.out)) hb)
                 clear fO
                 clear cu
                 clear iV
                 clear HB
                 have fO:=dX
                 have cu:=dW
                 have iV:=dU
                 have HB:=iq
                 clear dX dW dU iq
                 (try clear hb)
                 (try clear hb2)
                 (try clear hk)
                 (try clear hi)
                 refine hK.out _ _ ⟨(ax cu.out 0).trans rfl,(ax cu.out 1).trans rfl,(ax cu.out 2).trans rfl,(ax cu.out 3).trans rfl,(ax cu.out 4).trans rfl⟩ (fun hHeld=>?_)
                 clear hK K
                 refine je (a':=?_) ?_ ?_
                 rotate_left
                 ·
                  show Act.put _ (some 58) _=_
                  simp only [Act.put,List.setIfInBounds_toArray,List.set_cons_zero,List.set_cons_succ,bT,bW]
                  rfl
                 refine gZ (i:=6) (N:=some 52) (v:=?_) (a':=?_) #[true,true,true,true,true,true,true,false,false,true,false,false] rfl rfl (iP lT.out (by kernel_rfl)) (fun _ _ _ h=>h) (Or.inl ⟨by rfl,?_⟩) ?_ ?_
                 rotate_left
                 ·
                  intro w'
                  go_simp
                  with_reducible rfl
                 rotate_left
                 ·
                  simp only [Act.put,List.setIfInBounds_toArray,List.set_cons_zero,List.set_cons_succ,bT,bW]
                  rfl
                 refine gZ (i:=7) (N:=some 59) (v:=?_) (a':=?_) #[true,true,true,true,true,true,true,true,false,true,false,false] rfl rfl (iP lT.out (by kernel_rfl)) (fun _ _ _ h=>h) (Or.inl ⟨by rfl,?_⟩) ?_ ?_
                 rotate_left
                 ·
                  intro w'
                  go_simp
                  with_reducible rfl
                 rotate_left
                 ·
                  simp only [Act.put,List.setIfInBounds_toArray,List.set_cons_zero,List.set_cons_succ,bT,bW]
                  rfl
                 refine gZ (i:=8) (N:=some 60) (v:=?_) (a':=?_) #[true,true,true,true,true,true,true,true,true,true,false,false] rfl rfl (iP lT.out (by kernel_rfl)) (fun _ _ _ h=>h) (Or.inl ⟨by rfl,?_⟩) ?_ ?_
                 rotate_left
                 ·
                  intro w'
                  go_simp
                  with_reducible rfl
                 rotate_left
                 ·
                  simp only [Act.put,List.setIfInBounds_toArray,List.set_cons_zero,List.set_cons_succ,bT,bW]
                  rfl
                 exact je (by simp only [l7,Act.put,List.setIfInBounds_toArray,List.set_cons_zero,List.set_cons_succ]) (zA (dG) _ ⟨hHeld,(by (with_reducible repeat (first|refine au ?_ _|refine ay ?_|refine ak ?_ _));exact fO.out),(by (with_reducible repeat (first|refine au ?_ _|refine ay ?_|refine ak ?_ _));exact cu.out),(by (with_reducible repeat (first|refine au ?_ _|refine ay ?_|refine ak ?_ _));exact iV.out),sG.out,mF.out,eP.out,gX.out,bH.out,iy.out,(by repeat (first|(with_reducible first|exact HB.out|apply ah|apply ag|apply ai|refine aj ?_ jS.out|refine aj ?_ jP.out|refine aj ?_ mF.out)|exact HB.out))⟩)
               rintro dG rC ⟨Yh,Zt,Rf,Zr,Zq,Zp,Zo,Zn,Zm,Zl,Zk⟩
               have dX:ae (rC.heap[iQ]? = some (.cells #[.int .u8 gQ,.int .u8 gy,.int .u8 fU,.int .u8 fJ,.int .i64 eY] 55 (0,0))):=⟨Zt⟩
               have dW:ae (rC.heap[eQ]? = some (.cells #[.int .u8 dM,.int .u8 dL,.int .u8 dK,.int .u8 dJ,.int .i64 dI] 55 (0,0))):=⟨Rf⟩
               have dU:ae (rC.heap[dG]? = some (.cells #[.int .u8 0,.int .u8 0,.int .u8 0,.int .u8 0,.int .i64 0] 55 (0,0))):=⟨Zr⟩
               have iq:ae (w.heap.size≤dG):=⟨Zq⟩
               have mr:ae (w.heap.size≤dG):=⟨Zp⟩
               have ny:ae (iQ ≠ dG):=⟨Zo⟩
               have oz:ae (dG ≠ iQ):=⟨Zn⟩
               have xk:ae (eQ ≠ dG):=⟨Zm⟩
               have xh:ae (dG ≠ eQ):=⟨Zl⟩
               have zq:ae (Below w.heap.size w rC):=⟨Zk⟩
               clear fO
               clear cu
               clear HB
               clear Zt Rf Zr Zq Zp Zo Zn Zm Zl Zk
               have fO:=dX
               have cu:=dW
               have iV:=dU
               have sG:=iq
               have mF:=mr
               have eP:=ny
               have gX:=oz
               have bH:=xk
               have iy:=xh
               have HB:=zq
               clear dX dW dU iq mr ny oz xk xh zq
               have hHeld:rC.cell? ⟨eQ,0,none⟩=some (.int .u8 dM)∧rC.cell? ⟨eQ,1,none⟩=some (.int .u8 dL)∧rC.cell? ⟨eQ,2,none⟩=some (.int .u8 dK)∧rC.cell? ⟨eQ,3,none⟩=some (.int .u8 dJ)∧rC.cell? ⟨eQ,4,none⟩=some (.int .i64 dI):=Yh
               refine je (a':=?_) ?_ ?_
               rotate_left
               ·
                simp only [l7,Act.put,List.setIfInBounds_toArray,List.set_cons_zero,List.set_cons_succ]
                rfl
               refine oP (i:=10) (N:=none) #[true,true,true,true,true,true,true,true,true,true,true,false] rfl rfl (nP lT.out (by kernel_rfl)) (by decide) (fun K hK=>?_)
               have arP:rC.cell? ⟨dG,0,none⟩=some (.int .u8 0):=(ax iV.out 0).trans rfl
               have apR:=aC iV.out 0
               have ahv:=eP.out
               have ahu:=bH.out
               have ahZ:=gX.out
               have ahY:=iy.out
               have arO:rC.cell? ⟨dG,1,none⟩=some (.int .u8 0):=(ax iV.out 1).trans rfl
               have apQ:=aC iV.out 1
               have aht:=eP.out
               have ahs:=bH.out
               have ahX:=gX.out
               have ahW:=iy.out
               have arN:rC.cell? ⟨dG,2,none⟩=some (.int .u8 0):=(ax iV.out 2).trans rfl
               have apP:=aC iV.out 2
               have ahr:=eP.out
               have ahq:=bH.out
               have ahV:=gX.out
               have ahU:=iy.out
               have arM:rC.cell? ⟨dG,3,none⟩=some (.int .u8 0):=(ax iV.out 3).trans rfl
               have apO:=aC iV.out 3
               have ahp:=eP.out
               have aho:=bH.out
               have ahT:=gX.out
               have ahS:=iy.out
               have arL:rC.cell? ⟨dG,4,none⟩=some (.int .i64 0):=(ax iV.out 4).trans rfl
               have apN:=aC iV.out 4
               have ahn:=eP.out
               have ahm:=bH.out
               have ahR:=gX.out
               have ahQ:=iy.out
               refine Dw (w1:=?_) (by rfl) rfl ?_ ?_
               rotate_left
               ·
                go_simp
                rfl
               refine hK.out _ _ ⟨((cell_far (p:=⟨dG,_,none⟩) bH.out _).trans (((cell_far (p:=⟨dG,_,none⟩) bH.out _).trans (((cell_far (p:=⟨dG,_,none⟩) bH.out _).trans (((cell_far (p:=⟨dG,_,none⟩) bH.out _).trans (((cell_far (p:=⟨dG,_,none⟩) bH.out _).trans (hHeld.1)))))))))),((cell_far (p:=⟨dG,_,none⟩) bH.out _).trans (((cell_far (p:=⟨dG,_,none⟩) bH.out _).trans (((cell_far (p:=⟨dG,_,none⟩) bH.out _).trans (((cell_far (p:=⟨dG,_,none⟩) bH.out _).trans (((cell_far (p:=⟨dG,_,none⟩) bH.out _).trans (hHeld.2.1)))))))))),((cell_far (p:=⟨dG,_,none⟩) bH.out _).trans (((cell_far (p:=⟨dG,_,none⟩) bH.out _).trans (((cell_far (p:=⟨dG,_,none⟩) bH.out _).trans (((cell_far (p:=⟨dG,_,none⟩) bH.out _).trans (((cell_far (p:=⟨dG,_,none⟩) bH.out _).trans (hHeld.2.2.1)))))))))),((cell_far (p:=⟨dG,_,none⟩) bH.out _).trans (((cell_far (p:=⟨dG,_,none⟩) bH.out _).trans (((cell_far (p:=⟨dG,_,none⟩) bH.out _).trans (((cell_far (p:=⟨dG,_,none⟩) bH.out _).trans (((cell_far (p:=⟨dG,_,none⟩) bH.out _).trans (hHeld.2.2.2.1)))))))))),((cell_far (p:=⟨dG,_,none⟩) bH.out _).trans (((cell_far (p:=⟨dG,_,none⟩) bH.out _).trans (((cell_far (p:=⟨dG,_,none⟩) bH.out _).trans (((cell_far (p:=⟨dG,_,none⟩) bH.out _).trans (((cell_far (p:=⟨dG,_,none⟩) bH.out _).trans (hHeld.2.2.2.2))))))))))⟩ (fun hHeld=>?_)
               clear hK K
               refine gZ (i:=11) (N:=some 12) (v:=?_) (a':=?_) #[true,true,true,true,true,true,true,true,true,true,true,true] rfl rfl (iP lT.out (by kernel_rfl)) (fun _ _ _ h=>h) (Or.inl ⟨by rfl,?_⟩) ?_ ?_
               rotate_left
               ·
                intro w'
                go_simp
                with_reducible rfl
               rotate_left
               ·
                simp only [Act.put,List.setIfInBounds_toArray,List.set_cons_zero,List.set_cons_succ,bT,bW]
                rfl
               refine tq (wL lT.out (by kernel_rfl)) ?_
               have apr:=gX.out
               have aoZ:=eP.out
               have apq:=iy.out
               have aoY:=bH.out
               obtain ⟨alX,alW,alV,alU,alT,ajF,ajE,ajD,ajC,ajB⟩:=kF iV.out
               have Y4:=tK.out
               have Y2:=kJ.out
               obtain ⟨MH,MG,MF,MC,Xx,Ld,Lc,La,KZ,VG⟩:=kF cu.out
               try go_wp2
               go_roundg k3
               case measure=>have:=qX.out;have:=JA.out;have:=xH.out;omega
               case rel=>exact ⟨(pR),(gQ),(gy),(fU),(fJ),(eY),(t118),(t119),(t120),(t121),(t122),(by first|rfl|(simp;done)|(simp only [← xX] <;> (first|rfl|simp))|(simp [*];done)),H',⟨by have:=qX.out;have:=JA.out;have:=xH.out;omega⟩,⟨by (with_reducible repeat (first|refine au ?_ _|refine ay ?_|refine ak ?_ _));refine fV ?_ kJ.out _;(with_reducible repeat (first|refine au ?_ _|refine ay ?_|refine ak ?_ _));refine fV ?_ kJ.out _;(with_reducible repeat (first|refine au ?_ _|refine ay ?_|refine ak ?_ _));refine fV ?_ kJ.out _;(with_reducible repeat (first|refine au ?_ _|refine ay ?_|refine ak ?_ _));refine fV ?_ kJ.out _;(with_reducible repeat (first|refine au ?_ _|refine ay ?_|refine ak ?_ _));refine fV ?_ kJ.out _;(with_reducible repeat (first|refine au ?_ _|refine ay ?_|refine ak ?_ _));refine fV ?_ eP.out _;(with_reducible repeat (first|refine au ?_ _|refine ay ?_|refine ak ?_ _));refine fV ?_ eP.out _;(with_reducible repeat (first|refine au ?_ _|refine ay ?_|refine ak ?_ _));refine fV ?_ eP.out _;(with_reducible repeat (first|refine au ?_ _|refine ay ?_|refine ak ?_ _));refine fV ?_ eP.out _;(with_reducible repeat (first|refine au ?_ _|refine ay ?_|refine ak ?_ _));refine fV ?_ eP.out _;(with_reducible repeat (first|refine au ?_ _|refine ay ?_|refine ak ?_ _));exact fO.out⟩,⟨by (with_reducible repeat (first|refine au ?_ _|refine ay ?_|refine ak ?_ _));refine dR (cs:=#[.int .u8 t118,.int .u8 t119,.int .u8 t120,.int .u8 t121,.int .i64 dI]) ?_ 4 _ rfl;(with_reducible repeat (first|refine au ?_ _|refine ay ?_|refine ak ?_ _));refine dR (cs:=#[.int .u8 t118,.int .u8 t119,.int .u8 t120,.int .u8 dJ,.int .i64 dI]) ?_ 3 _ rfl;(with_reducible repeat (first|refine au ?_ _|refine ay ?_|refine ak ?_ _));refine dR (cs:=#[.int .u8 t118,.int .u8 t119,.int .u8 dK,.int .u8 dJ,.int .i64 dI]) ?_ 2 _ rfl;(with_reducible repeat (first|refine au ?_ _|refine ay ?_|refine ak ?_ _));refine dR (cs:=#[.int .u8 t118,.int .u8 dL,.int .u8 dK,.int .u8 dJ,.int .i64 dI]) ?_ 1 _ rfl;(with_reducible repeat (first|refine au ?_ _|refine ay ?_|refine ak ?_ _));refine dR (cs:=#[.int .u8 dM,.int .u8 dL,.int .u8 dK,.int .u8 dJ,.int .i64 dI]) ?_ 0 _ rfl;(with_reducible repeat (first|refine au ?_ _|refine ay ?_|refine ak ?_ _));refine fV ?_ bH.out _;(with_reducible repeat (first|refine au ?_ _|refine ay ?_|refine ak ?_ _));refine fV ?_ bH.out _;(with_reducible repeat (first|refine au ?_ _|refine ay ?_|refine ak ?_ _));refine fV ?_ bH.out _;(with_reducible repeat (first|refine au ?_ _|refine ay ?_|refine ak ?_ _));refine fV ?_ bH.out _;(with_reducible repeat (first|refine au ?_ _|refine ay ?_|refine ak ?_ _));refine fV ?_ bH.out _;(with_reducible repeat (first|refine au ?_ _|refine ay ?_|refine ak ?_ _));exact cu.out⟩,⟨by repeat (first|(with_reducible first|exact HB.out|apply ah|apply ag|apply ai|refine aj ?_ jS.out|refine aj ?_ jP.out|refine aj ?_ mF.out)|exact HB.out)⟩⟩
              ·
               replace c21:=Bool.eq_false_iff.mpr c21
               subst c21
               have H1:(some (0,0,0,0,0,false))=some (r1,r2,r3,r4,r5,r6):=by rw [if_neg (show ¬ (false=true) by decide)] at H;exact H
               clear H
               have H:=H1
               clear H1
               simp only [Option.some.injEq,Prod.mk.injEq] at H
               obtain ⟨rfl,rfl,rfl,rfl,rfl,rfl⟩:=H
               have Bv:0≤((pR):Int):=of_decide_eq_true (by first|(with_reducible assumption)|assumption)
               have Bo:(pR) < (l0.length:Int):=of_decide_eq_true (by first|(with_reducible assumption)|assumption)
               obtain ⟨ZB,e115,pg⟩:=Kd.kT HR0.out (pR) Bv Bo
               cases e115
               replace pg:=(HB.out.cell (World.block_lt_of_cell? w _ pg)).trans pg
               replace Bv:=eq_true Bv
               replace Bo:=eq_true Bo
               try go_wp2_with (first|((with_reducible refine bz (f:=64) rfl ?_);refine dV (some 49) rfl rfl Tryd.func64 (by kernel_rfl) rfl #[.string (dZ ByteArray.empty l0 (pR))] rfl (by (try simp only [List.map_toArray,List.map_cons,List.map_nil]);first|done|(simp only [xX];rfl)|rfl|(simp only [List.length_drop,List.length_take];rfl)) ?_;(with_reducible refine (aH.calls k3 (dZ ByteArray.empty l0 (pR)) t116 t117 _ A16.out).mono ?_);rintro e w' ⟨rfl,⟨nd,rfl⟩⟩;refine ⟨_,rfl,?_⟩;(try (rw [rP wr];generalize CJ:World.drewN wr _=wr;have dX:ae (wr.heap[iQ]? = some (.cells #[.int .u8 gQ,.int .u8 gy,.int .u8 fU,.int .u8 fJ,.int .i64 eY] 55 (0,0))):=⟨by rw [← CJ];exact (by (with_reducible repeat (first|refine au ?_ _|refine ay ?_|refine ak ?_ _));exact fO.out)⟩;have dW:ae (wr.heap[eQ]? = some (.cells #[.int .u8 dM,.int .u8 dL,.int .u8 dK,.int .u8 dJ,.int .i64 dI] 55 (0,0))):=⟨by rw [← CJ];exact (by (with_reducible repeat (first|refine au ?_ _|refine ay ?_|refine ak ?_ _));exact cu.out)⟩;have dU:ae (Below w.heap.size w wr):=⟨by rw [← CJ];exact (by repeat (first|(with_reducible first|exact HB.out|apply ah|apply ag|apply ai|refine aj ?_ jS.out|refine aj ?_ jP.out)|exact HB.out))⟩;clear fO cu HB CJ;have fO:=dX;have cu:=dW;have HB:=dU;clear dX dW dU))))
               have dX:=ae.mk (ay fO.out)
               have dW:=ae.mk (ay cu.out)
               have dU:=ae.mk (ai HB.out)
               clear fO
               clear cu
               clear HB
               have fO:=dX
               have cu:=dW
               have HB:=dU
               clear dX dW dU
               have Gl:0≤(nN:Int):=of_decide_eq_true (by first|(with_reducible assumption)|assumption)
               have Gh:nN < (t112.size:Int):=of_decide_eq_true (by first|(with_reducible assumption)|assumption)
               have Ql:=kY t112 nN
               replace Gl:=eq_true Gl
               replace Gh:=eq_true Gh
               refine qg (n:=12) (S:=fun w'=>w'.cell? ⟨eQ,0,none⟩=some (.int .u8 dM)∧w'.cell? ⟨eQ,1,none⟩=some (.int .u8 dL)∧w'.cell? ⟨eQ,2,none⟩=some (.int .u8 dK)∧w'.cell? ⟨eQ,3,none⟩=some (.int .u8 dJ)∧w'.cell? ⟨eQ,4,none⟩=some (.int .i64 dI)) (ds:=[]) #[false,false,false,false,false,false,false,false,false,false,false,false] (by kernel_rfl) rfl rfl ⟨(ax cu.out 0).trans rfl,(ax cu.out 1).trans rfl,(ax cu.out 2).trans rfl,(ax cu.out 3).trans rfl,(ax cu.out 4).trans rfl⟩ (fun hHeld=>?_);refine ry aJ.PE aJ.Jo (fun lT Df=>?_)
               generalize wr.drew=w36 at fO cu HB hHeld ⊢
               refine gZ (i:=1) (N:=some 54) (v:=?_) (a':=?_) #[false,true,false,false,false,false,false,false,false,false,false,false] rfl rfl (iP lT.out (by kernel_rfl)) (fun _ _ _ h=>h) (Or.inl ⟨by rfl,?_⟩) ?_ ?_
               rotate_left
               ·
                intro w'
                go_simp
                with_reducible rfl
               rotate_left
               ·
                simp only [Act.put,List.setIfInBounds_toArray,List.set_cons_zero,List.set_cons_succ,bT,bW]
                rfl
               refine gZ (i:=2) (N:=some 55) (v:=?_) (a':=?_) #[false,true,true,false,false,false,false,false,false,false,false,false] rfl rfl (iP lT.out (by kernel_rfl)) (fun _ _ _ h=>h) (Or.inl ⟨by rfl,?_⟩) ?_ ?_
               rotate_left
               ·
                intro w'
                go_simp
                with_reducible rfl
               rotate_left
               ·
                simp only [Act.put,List.setIfInBounds_toArray,List.set_cons_zero,List.set_cons_succ,bT,bW]
                rfl
               refine gZ (i:=4) (N:=some 57) (v:=?_) (a':=?_) #[false,true,true,false,true,false,false,false,false,false,false,false] rfl rfl (iP lT.out (by kernel_rfl)) (fun _ _ _ h=>h) (Or.inl ⟨by rfl,?_⟩) ?_ ?_
               rotate_left
               ·
                intro w'
                go_simp
                with_reducible rfl
               rotate_left
               ·
                simp only [Act.put,List.setIfInBounds_toArray,List.set_cons_zero,List.set_cons_succ,bT,bW]
                rfl
               refine jY (i:=0) (N:=some 53) (v:=?_) (a':=?_) #[true,true,true,false,true,false,false,false,false,false,false,false] rfl rfl (kX lT.out Df.out (by kernel_rfl)) (fun _ _ _ h=>h) (Or.inl ⟨by rfl,?_⟩) hHeld ?_ ?_
               rotate_left
               ·
                rintro w' ⟨s0,s1,s2,s3,s4⟩
                go_simp
                with_reducible rfl
               rotate_left
               ·
                simp only [Act.put,List.setIfInBounds_toArray,List.set_cons_zero,List.set_cons_succ,bT,bW]
                rfl
               refine jY (i:=3) (N:=some 56) (v:=?_) (a':=?_) #[true,true,true,true,true,false,false,false,false,false,false,false] rfl rfl (kX lT.out Df.out (by kernel_rfl)) (fun _ _ _ h=>h) (Or.inl ⟨by rfl,?_⟩) hHeld ?_ ?_
               rotate_left
               ·
                rintro w' ⟨s0,s1,s2,s3,s4⟩
                go_simp
                with_reducible rfl
               rotate_left
               ·
                simp only [Act.put,List.setIfInBounds_toArray,List.set_cons_zero,List.set_cons_succ,bT,bW]
                rfl
               refine KC (σ:=Nat) 2 #[true,true,true,true,true,true,true,true,true,true,false,false] (fun s_=>[(58,.tuple #[.agg #[.int .u8 t118,.int .u8 t119,.int .u8 t120,.int .u8 t121,.int .i64 t122],.bool false]),(11,.pointer (some ⟨s_,0,none⟩)),(52,.tuple #[.agg #[.int .u8 t118,.int .u8 t119,.int .u8 t120,.int .u8 t121,.int .i64 t122],.bool false]),(59,.agg #[.int .u8 t118,.int .u8 t119,.int .u8 t120,.int .u8 t121,.int .i64 t122]),(60,.bool false)]) (fun s_ w'=>(w'.cell? ⟨eQ,0,none⟩=some (.int .u8 dM)∧w'.cell? ⟨eQ,1,none⟩=some (.int .u8 dL)∧w'.cell? ⟨eQ,2,none⟩=some (.int .u8 dK)∧w'.cell? ⟨eQ,3,none⟩=some (.int .u8 dJ)∧w'.cell? ⟨eQ,4,none⟩=some (.int .i64 dI))∧(w'.heap[iQ]? = some (.cells #[.int .u8 gQ,.int .u8 gy,.int .u8 fU,.int .u8 fJ,.int .i64 eY] 55 (0,0)))∧(w'.heap[eQ]? = some (.cells #[.int .u8 dM,.int .u8 dL,.int .u8 dK,.int .u8 dJ,.int .i64 dI] 55 (0,0)))∧(w'.heap[s_]? = some (.cells #[.int .u8 0,.int .u8 0,.int .u8 0,.int .u8 0,.int .i64 0] 55 (0,0)))∧(w.heap.size≤s_)∧(w.heap.size≤s_)∧(iQ ≠ s_)∧(s_ ≠ iQ)∧(eQ ≠ s_)∧(s_ ≠ eQ)∧(Below w.heap.size w w')) ?_ ?_
               rotate_left
               ·
                intro zA
                refine TZ (i:=5) (j:=9) (Ni:=some 58) (Nj:=some 11) #[true,true,true,true,true,true,false,false,false,false,false,false] #[true,true,true,true,true,false,false,false,false,true,false,false] rfl rfl rfl rfl (Ir lT.out (by kernel_rfl)) (by decide) (by decide) (fun K hK=>?_) (fun K hK=>?_)
                ·
                 skip
                 refine pz Tryd.func65 (by kernel_rfl) rfl #[.agg #[.int .u8 dM,.int .u8 dL,.int .u8 dK,.int .u8 dJ,.int .i64 dI],.int .u8 (bt t112 nN),.int .i64 t116] (by rfl) rfl rfl (by (try simp only [List.map_toArray,List.map_cons,List.map_nil]);first|done|rfl|(simp only [List.length_drop,List.length_take];rfl)) ?_
                 with_reducible refine (bf.calls k3 dM dL dK dJ dI (bt t112 nN) t116 t118 t119 t120 t121 t122 false _ Td.out).mono ?_
                 rintro e w37 ⟨rfl,hb⟩
                 refine ⟨_,rfl,?_⟩
                 have dX:=ae.mk (bg (g:=iQ) (o:=.cells #[.int .u8 gQ,.int .u8 gy,.int .u8 fU,.int .u8 fJ,.int .i64 eY] 55 (0,0)) (by (with_reducible repeat (first|refine au ?_ _|refine ay ?_|refine ak ?_ _));exact fO.out) hb)
                 have dW:=ae.mk (bg (g:=eQ) (o:=.cells #[.int .u8 dM,.int .u8 dL,.int .u8 dK,.int .u8 dJ,.int .i64 dI] 55 (0,0)) (by (with_reducible repeat (first|refine au ?_ _|refine ay ?_|refine ak ?_ _));exact cu.out) hb)
                 have dU:=ae.mk (bn (by repeat (first|(with_reducible first|exact HB.out|apply ah|apply ag|apply ai|refine aj ?_ jS.out|refine aj ?_ jP.out)|exact HB.out)) hb)
                 clear fO
                 clear cu
                 clear HB
                 have fO:=dX
                 have cu:=dW
                 have HB:=dU
                 clear dX dW dU
                 (try clear hb)
                 (try clear hb2)
                 (try clear hk)
                 (try clear hi)
                 refine hK.out _ _ ⟨(ax cu.out 0).trans rfl,(ax cu.out 1).trans rfl,(ax cu.out 2).trans rfl,(ax cu.out 3).trans rfl,(ax cu.out 4).trans rfl⟩ (fun hHeld=>?_)
                 clear hK K
                 refine je (a':=?_) ?_ ?_
                 rotate_left
                 ·
                  show Act.put _ (some 58) _=_
                  simp only [Act.put,List.setIfInBounds_toArray,List.set_cons_zero,List.set_cons_succ,bT,bW]
                  rfl
                 refine gZ (i:=6) (N:=some 52) (v:=?_) (a':=?_) #[true,true,true,true,true,true,true,false,false,false,false,false] rfl rfl (iP lT.out (by kernel_rfl)) (fun _ _ _ h=>h) (Or.inl ⟨by rfl,?_⟩) ?_ ?_
                 rotate_left
                 ·
                  intro w'
                  go_simp
                  with_reducible rfl
                 rotate_left
                 ·
                  simp only [Act.put,List.setIfInBounds_toArray,List.set_cons_zero,List.set_cons_succ,bT,bW]
                  rfl
                 refine gZ (i:=7) (N:=some 59) (v:=?_) (a':=?_) #[true,true,true,true,true,true,true,true,false,false,false,false] rfl rfl (iP lT.out (by kernel_rfl)) (fun _ _ _ h=>h) (Or.inl ⟨by rfl,?_⟩) ?_ ?_
                 rotate_left
                 ·
                  intro w'
                  go_simp
                  with_reducible rfl
                 rotate_left
                 ·
                  simp only [Act.put,List.setIfInBounds_toArray,List.set_cons_zero,List.set_cons_succ,bT,bW]
                  rfl
                 refine gZ (i:=8) (N:=some 60) (v:=?_) (a':=?_) #[true,true,true,true,true,true,true,true,true,false,false,false] rfl rfl (iP lT.out (by kernel_rfl)) (fun _ _ _ h=>h) (Or.inl ⟨by rfl,?_⟩) ?_ ?_
                 rotate_left
                 ·
                  intro w'
                  go_simp
                  with_reducible rfl
                 rotate_left
                 ·
                  simp only [Act.put,List.setIfInBounds_toArray,List.set_cons_zero,List.set_cons_succ,bT,bW]
                  rfl
                 refine oP (i:=9) (N:=some 11) #[true,true,true,true,true,true,true,true,true,true,false,false] rfl rfl (nP lT.out (by kernel_rfl)) (by decide) (fun K hK=>?_)
                 refine tJ ?hg (N:=11) ?hd (cs:=#[.int .u8 0,.int .u8 0,.int .u8 0,.int .u8 0,.int .i64 0]) (t:=55) ?hr ?_;(case hd=>rfl);(case hg=>rfl);(case hr=>first|(go_simp;done)|(go_simp;rfl))
                 intro dG hg w38 hbox hb
                 have dX:=ae.mk (bg (g:=iQ) (o:=.cells #[.int .u8 gQ,.int .u8 gy,.int .u8 fU,.int .u8 fJ,.int .i64 eY] 55 (0,0)) (by (with_reducible repeat (first|refine au ?_ _|refine ay ?_|refine ak ?_ _));exact fO.out) hb)
                 have dW:=ae.mk (bg (g:=eQ) (o:=.cells #[.int .u8 dM,.int .u8 dL,.int .u8 dK,.int .u8 dJ,.int .i64 dI] 55 (0,0)) (by (with_reducible repeat (first|refine au ?_ _|refine ay ?_|refine ak ?_ _));exact cu.out) hb)
                 have dU:=ae.mk (bn (by repeat (first|(with_reducible first|exact HB.out|apply ah|apply ag|apply ai|refine aj ?_ jS.out|refine aj ?_ jP.out)|exact HB.out)) hb)
                 have iq:=ae.mk (hbox)
                 have mr:=ae.mk ((by rw [hg];exact (bY (by repeat (first|(with_reducible first|exact HB.out|apply ah|apply ag|apply ai|refine aj ?_ jS.out|refine aj ?_ jP.out)|exact HB.out))):w.heap.size≤dG))
                 have ny:=mr
                 have oz:=ae.mk ((by rw [hg];exact Nat.ne_of_lt (kR (g:=iQ) (o:=.cells #[.int .u8 gQ,.int .u8 gy,.int .u8 fU,.int .u8 fJ,.int .i64 eY] 55 (0,0)) (by (with_reducible repeat (first|refine au ?_ _|refine ay ?_|refine ak ?_ _));exact fO.out)):iQ ≠ dG))
                 have xk:=ae.mk oz.out.symm
                 have xh:=ae.mk ((by rw [hg];exact Nat.ne_of_lt (kR (g:=eQ) (o:=.cells #[.int .u8 dM,.int .u8 dL,.int .u8 dK,.int .u8 dJ,.int .i64 dI] 55 (0,0)) (by (with_reducible repeat (first|refine au ?_ _|refine ay ?_|refine ak ?_ _));exact cu.out)):eQ ≠ dG))
                 have zq:=ae.mk xh.out.symm
                 clear fO
                 clear cu
                 clear HB
                 have fO:=dX
                 have cu:=dW
                 have HB:=dU
                 have iV:=iq
                 have sG:=mr
                 have mF:=ny
                 have eP:=oz
                 have gX:=xk
                 have bH:=xh
                 have iy:=zq
                 clear dX dW dU iq mr ny oz xk xh zq
                 clear hb hbox hg
                 refine hK.out _ _ ⟨(ax cu.out 0).trans rfl,(ax cu.out 1).trans rfl,(ax cu.out 2).trans rfl,(ax cu.out 3).trans rfl,(ax cu.out 4).trans rfl⟩ (fun hHeld=>?_)
                 clear hK K
                 refine je (a':=?_) ?_ ?_
                 rotate_left
                 ·
                  show Act.put _ (some 11) _=_
                  simp only [Act.put,List.setIfInBounds_toArray,List.set_cons_zero,List.set_cons_succ,bT,bW]
                  rfl
                 exact je (by simp only [l7,Act.put,List.setIfInBounds_toArray,List.set_cons_zero,List.set_cons_succ]) (zA (dG) _ ⟨hHeld,(by (with_reducible repeat (first|refine au ?_ _|refine ay ?_|refine ak ?_ _));exact fO.out),(by (with_reducible repeat (first|refine au ?_ _|refine ay ?_|refine ak ?_ _));exact cu.out),(by (with_reducible repeat (first|refine au ?_ _|refine ay ?_|refine ak ?_ _));exact iV.out),sG.out,mF.out,eP.out,gX.out,bH.out,iy.out,(by repeat (first|(with_reducible first|exact HB.out|apply ah|apply ag|apply ai|refine aj ?_ jS.out|refine aj ?_ jP.out|refine aj ?_ mF.out)|exact HB.out))⟩)
                ·
                 skip
                 refine tJ ?hg (N:=11) ?hd (cs:=#[.int .u8 0,.int .u8 0,.int .u8 0,.int .u8 0,.int .i64 0]) (t:=55) ?hr ?_;(case hd=>rfl);(case hg=>rfl);(case hr=>first|(go_simp;done)|(go_simp;rfl))
                 intro dG hg w37 hbox hb
                 have dX:=ae.mk (bg (g:=iQ) (o:=.cells #[.int .u8 gQ,.int .u8 gy,.int .u8 fU,.int .u8 fJ,.int .i64 eY] 55 (0,0)) (by (with_reducible repeat (first|refine au ?_ _|refine ay ?_|refine ak ?_ _));exact fO.out) hb)
                 have dW:=ae.mk (bg (g:=eQ) (o:=.cells #[.int .u8 dM,.int .u8 dL,.int .u8 dK,.int .u8 dJ,.int .i64 dI] 55 (0,0)) (by (with_reducible repeat (first|refine au ?_ _|refine ay ?_|refine ak ?_ _));exact cu.out) hb)
                 have dU:=ae.mk (bn (by repeat (first|(with_reducible first|exact HB.out|apply ah|apply ag|apply ai|refine aj ?_ jS.out|refine aj ?_ jP.out)|exact HB.out)) hb)
                 have iq:=ae.mk (hbox)
                 have mr:=ae.mk ((by rw [hg];exact (bY (by repeat (first|(with_reducible first|exact HB.out|apply ah|apply ag|apply ai|refine aj ?_ jS.out|refine aj ?_ jP.out)|exact HB.out))):w.heap.size≤dG))
                 have ny:=mr
                 have oz:=ae.mk ((by rw [hg];exact Nat.ne_of_lt (kR (g:=iQ) (o:=.cells #[.int .u8 gQ,.int .u8 gy,.int .u8 fU,.int .u8 fJ,.int .i64 eY] 55 (0,0)) (by (with_reducible repeat (first|refine au ?_ _|refine ay ?_|refine ak ?_ _));exact fO.out)):iQ ≠ dG))
                 have xk:=ae.mk oz.out.symm
                 have xh:=ae.mk ((by rw [hg];exact Nat.ne_of_lt (kR (g:=eQ) (o:=.cells #[.int .u8 dM,.int .u8 dL,.int .u8 dK,.int .u8 dJ,.int .i64 dI] 55 (0,0)) (by (with_reducible repeat (first|refine au ?_ _|refine ay ?_|refine ak ?_ _));exact cu.out)):eQ ≠ dG))
                 have zq:=ae.mk xh.out.symm
                 clear fO
                 clear cu
                 clear HB
                 have fO:=dX
                 have cu:=dW
                 have HB:=dU
                 have iV:=iq
                 have sG:=mr
                 have mF:=ny
                 have eP:=oz
                 have gX:=xk
                 have bH:=xh
                 have iy:=zq
                 clear dX dW dU iq mr ny oz xk xh zq
                 clear hb hbox hg
                 refine hK.out _ _ ⟨(ax cu.out 0).trans rfl,(ax cu.out 1).trans rfl,(ax cu.out 2).trans rfl,(ax cu.out 3).trans rfl,(ax cu.out 4).trans rfl⟩ (fun hHeld=>?_)
                 clear hK K
                 refine je (a':=?_) ?_ ?_
                 rotate_left
                 ·
                  show Act.put _ (some 11) _=_
                  simp only [Act.put,List.setIfInBounds_toArray,List.set_cons_zero,List.set_cons_succ,bT,bW]
                  rfl
                 refine oP (i:=5) (N:=some 58) #[true,true,true,true,true,true,false,false,false,true,false,false] rfl rfl (nP lT.out (by kernel_rfl)) (by decide) (fun K hK=>?_)
                 refine pz Tryd.func65 (by kernel_rfl) rfl #[.agg #[.int .u8 dM,.int .u8 dL,.int .u8 dK,.int .u8 dJ,.int .i64 dI],.int .u8 (bt t112 nN),.int .i64 t116] (by rfl) rfl rfl (by (try simp only [List.map_toArray,List.map_cons,List.map_nil]);first|done|rfl|(simp only [List.length_drop,List.length_take];rfl)) ?_
                 with_reducible refine (bf.calls k3 dM dL dK dJ dI (bt t112 nN) t116 t118 t119 t120 t121 t122 false _ Td.out).mono ?_
                 rintro e w38 ⟨rfl,hb⟩
                 refine ⟨_,rfl,?_⟩
                 have dX:=ae.mk (bg (g:=iQ) (o:=.cells #[.int .u8 gQ,.int .u8 gy,.int .u8 fU,.int .u8 fJ,.int .i64 eY] 55 (0,0)) (by (with_reducible repeat (first|refine au ?_ _|refine ay ?_|refine ak ?_ _));exact fO.out) hb)
                 have dW:=ae.mk (bg (g:=eQ) (o:=.cells #[.int .u8 dM,.int .u8 dL,.int .u8 dK,.int .u8 dJ,.int .i64 dI] 55 (0,0)) (by (with_reducible repeat (first|refine au ?_ _|refine ay ?_|refine ak ?_ _));exact cu.out) hb)
                 have dU:=ae.mk (bg (g:=dG) (o:=.cells #[.int .u8 0,.int .u8 0,.int .u8 0,.int .u8 0,.int .i64 0] 55 (0,0)) (by (with_reducible repeat (first|refine au ?_ _|refine ay ?_|refine ak ?_ _));exact iV.out) hb)
                 have iq:=ae.mk (bn (by repeat (first|(with_reducible first|exact HB.out|apply ah|apply ag|apply ai|refine aj ?_ jS.out|refine aj ?_ jP.out|refine aj ?_ mF.out)|exact HB.out)) hb)
                 clear fO
                 clear cu
                 clear iV
                 clear HB
                 have fO:=dX
                 have cu:=dW
                 have iV:=dU
                 have HB:=iq
                 clear dX dW dU iq
                 (try clear hb)
                 (try clear hb2)
                 (try clear hk)
                 (try clear hi)
                 refine hK.out _ _ ⟨(ax cu.out 0).trans rfl,(ax cu.out 1).trans rfl,(ax cu.out 2).trans rfl,(ax cu.out 3).trans rfl,(ax cu.out 4).trans rfl⟩ (fun hHeld=>?_)
                 clear hK K
                 refine je (a':=?_) ?_ ?_
                 rotate_left
                 ·
                  show Act.put _ (some 58) _=_
                  simp only [Act.put,List.setIfInBounds_toArray,List.set_cons_zero,List.set_cons_succ,bT,bW]
                  rfl
                 refine gZ (i:=6) (N:=some 52) (v:=?_) (a':=?_) #[true,true,true,true,true,true,true,false,false,true,false,false] rfl rfl (iP lT.out (by kernel_rfl)) (fun _ _ _ h=>h) (Or.inl ⟨by rfl,?_⟩) ?_ ?_
                 rotate_left
                 ·
                  intro w'
                  go_simp
                  with_reducible rfl
                 rotate_left
                 ·
                  simp only [Act.put,List.setIfInBounds_toArray,List.set_cons_zero,List.set_cons_succ,bT,bW]
                  rfl
                 refine gZ (i:=7) (N:=some 59) (v:=?_) (a':=?_) #[true,true,true,true,true,true,true,true,false,true,false,false] rfl rfl (iP lT.out (by kernel_rfl)) (fun _ _ _ h=>h) (Or.inl ⟨by rfl,?_⟩) ?_ ?_
                 rotate_left
                 ·
                  intro w'
                  go_simp
                  with_reducible rfl
                 rotate_left
                 ·
                  simp only [Act.put,List.setIfInBounds_toArray,List.set_cons_zero,List.set_cons_succ,bT,bW]
                  rfl
                 refine gZ (i:=8) (N:=some 60) (v:=?_) (a':=?_) #[true,true,true,true,true,true,true,true,true,true,false,false] rfl rfl (iP lT.out (by kernel_rfl)) (fun _ _ _ h=>h) (Or.inl ⟨by rfl,?_⟩) ?_ ?_
                 rotate_left
                 ·
                  intro w'
                  go_simp
                  with_reducible rfl
                 rotate_left
                 ·
                  simp only [Act.put,List.setIfInBounds_toArray,List.set_cons_zero,List.set_cons_succ,bT,bW]
                  rfl
                 exact je (by simp only [l7,Act.put,List.setIfInBounds_toArray,List.set_cons_zero,List.set_cons_succ]) (zA (dG) _ ⟨hHeld,(by (with_reducible repeat (first|refine au ?_ _|refine ay ?_|refine ak ?_ _));exact fO.out),(by (with_reducible repeat (first|refine au ?_ _|refine ay ?_|refine ak ?_ _));exact cu.out),(by (with_reducible repeat (first|refine au ?_ _|refine ay ?_|refine ak ?_ _));exact iV.out),sG.out,mF.out,eP.out,gX.out,bH.out,iy.out,(by repeat (first|(with_reducible first|exact HB.out|apply ah|apply ag|apply ai|refine aj ?_ jS.out|refine aj ?_ jP.out|refine aj ?_ mF.out)|exact HB.out))⟩)
               rintro dG J6 ⟨Yh,Zt,Rf,Zr,Zq,Zp,Zo,Zn,Zm,Zl,Zk⟩
               have dX:ae (J6.heap[iQ]? = some (.cells #[.int .u8 gQ,.int .u8 gy,.int .u8 fU,.int .u8 fJ,.int .i64 eY] 55 (0,0))):=⟨Zt⟩
               have dW:ae (J6.heap[eQ]? = some (.cells #[.int .u8 dM,.int .u8 dL,.int .u8 dK,.int .u8 dJ,.int .i64 dI] 55 (0,0))):=⟨Rf⟩
               have dU:ae (J6.heap[dG]? = some (.cells #[.int .u8 0,.int .u8 0,.int .u8 0,.int .u8 0,.int .i64 0] 55 (0,0))):=⟨Zr⟩
               have iq:ae (w.heap.size≤dG):=⟨Zq⟩
               have mr:ae (w.heap.size≤dG):=⟨Zp⟩
               have ny:ae (iQ ≠ dG):=⟨Zo⟩
               have oz:ae (dG ≠ iQ):=⟨Zn⟩
               have xk:ae (eQ ≠ dG):=⟨Zm⟩
               have xh:ae (dG ≠ eQ):=⟨Zl⟩
               have zq:ae (Below w.heap.size w J6):=⟨Zk⟩
               clear fO
               clear cu
               clear HB
               clear Zt Rf Zr Zq Zp Zo Zn Zm Zl Zk
               have fO:=dX
               have cu:=dW
               have iV:=dU
               have sG:=iq
               have mF:=mr
               have eP:=ny
               have gX:=oz
               have bH:=xk
               have iy:=xh
               have HB:=zq
               clear dX dW dU iq mr ny oz xk xh zq
               have hHeld:J6.cell? ⟨eQ,0,none⟩=some (.int .u8 dM)∧J6.cell? ⟨eQ,1,none⟩=some (.int .u8 dL)∧J6.cell? ⟨eQ,2,none⟩=some (.int .u8 dK)∧J6.cell? ⟨eQ,3,none⟩=some (.int .u8 dJ)∧J6.cell? ⟨eQ,4,none⟩=some (.int .i64 dI):=Yh
               refine je (a':=?_) ?_ ?_
               rotate_left
               ·
                simp only [l7,Act.put,List.setIfInBounds_toArray,List.set_cons_zero,List.set_cons_succ]
                rfl
               refine oP (i:=10) (N:=none) #[true,true,true,true,true,true,true,true,true,true,true,false] rfl rfl (nP lT.out (by kernel_rfl)) (by decide) (fun K hK=>?_)
               have arK:J6.cell? ⟨dG,0,none⟩=some (.int .u8 0):=(ax iV.out 0).trans rfl
               have apM:=aC iV.out 0
               have ahl:=eP.out
               have ahk:=bH.out
               have ahP:=gX.out
               have ahO:=iy.out
               have arJ:J6.cell? ⟨dG,1,none⟩=some (.int .u8 0):=(ax iV.out 1).trans rfl
               have apL:=aC iV.out 1
               have ahj:=eP.out
               have ahi:=bH.out
               have ahN:=gX.out
               have ahM:=iy.out
               have arI:J6.cell? ⟨dG,2,none⟩=some (.int .u8 0):=(ax iV.out 2).trans rfl
               have apK:=aC iV.out 2
               have ahh:=eP.out
               have ahg:=bH.out
               have ahL:=gX.out
               have ahK:=iy.out
               have arH:J6.cell? ⟨dG,3,none⟩=some (.int .u8 0):=(ax iV.out 3).trans rfl
               have apJ:=aC iV.out 3
               have ahf:=eP.out
               have ahe:=bH.out
               have ahJ:=gX.out
               have ahI:=iy.out
               have arG:J6.cell? ⟨dG,4,none⟩=some (.int .i64 0):=(ax iV.out 4).trans rfl
               have apI:=aC iV.out 4
               have ahd:=eP.out
               have ahc:=bH.out
               have ahH:=gX.out
               have ahG:=iy.out
               refine Dw (w1:=?_) (by rfl) rfl ?_ ?_
               rotate_left
               ·
                go_simp
                rfl
               refine hK.out _ _ ⟨((cell_far (p:=⟨dG,_,none⟩) bH.out _).trans (((cell_far (p:=⟨dG,_,none⟩) bH.out _).trans (((cell_far (p:=⟨dG,_,none⟩) bH.out _).trans (((cell_far (p:=⟨dG,_,none⟩) bH.out _).trans (((cell_far (p:=⟨dG,_,none⟩) bH.out _).trans (hHeld.1)))))))))),((cell_far (p:=⟨dG,_,none⟩) bH.out _).trans (((cell_far (p:=⟨dG,_,none⟩) bH.out _).trans (((cell_far (p:=⟨dG,_,none⟩) bH.out _).trans (((cell_far (p:=⟨dG,_,none⟩) bH.out _).trans (((cell_far (p:=⟨dG,_,none⟩) bH.out _).trans (hHeld.2.1)))))))))),((cell_far (p:=⟨dG,_,none⟩) bH.out _).trans (((cell_far (p:=⟨dG,_,none⟩) bH.out _).trans (((cell_far (p:=⟨dG,_,none⟩) bH.out _).trans (((cell_far (p:=⟨dG,_,none⟩) bH.out _).trans (((cell_far (p:=⟨dG,_,none⟩) bH.out _).trans (hHeld.2.2.1)))))))))),((cell_far (p:=⟨dG,_,none⟩) bH.out _).trans (((cell_far (p:=⟨dG,_,none⟩) bH.out _).trans (((cell_far (p:=⟨dG,_,none⟩) bH.out _).trans (((cell_far (p:=⟨dG,_,none⟩) bH.out _).trans (((cell_far (p:=⟨dG,_,none⟩) bH.out _).trans (hHeld.2.2.2.1)))))))))),((cell_far (p:=⟨dG,_,none⟩) bH.out _).trans (((cell_far (p:=⟨dG,_,none⟩) bH.out _).trans (((cell_far (p:=⟨dG,_,none⟩) bH.out _).trans (((cell_far (p:=⟨dG,_,none⟩) bH.out _).trans (((cell_far (p:=⟨dG,_,none⟩) bH.out _).trans (hHeld.2.2.2.2))))))))))⟩ (fun hHeld=>?_)
               clear hK K
               refine gZ (i:=11) (N:=some 12) (v:=?_) (a':=?_) #[true,true,true,true,true,true,true,true,true,true,true,true] rfl rfl (iP lT.out (by kernel_rfl)) (fun _ _ _ h=>h) (Or.inl ⟨by rfl,?_⟩) ?_ ?_
               rotate_left
               ·
                intro w'
                go_simp
                with_reducible rfl
               rotate_left
               ·
                simp only [Act.put,List.setIfInBounds_toArray,List.set_cons_zero,List.set_cons_succ,bT,bW]
                rfl
               refine tq (wL lT.out (by kernel_rfl)) ?_
               have adx:=kJ.out
               have adn:=tK.out
               have adw:=eP.out
               have adm:=gX.out
               obtain ⟨L8,L6,LZ,LY,LX,KT,KR,KQ,KP,KO⟩:=kF fO.out
               try go_wp2
               refine bodyPost_ret (mJ rfl _ _ iQ 55 #[.int .u8 0,.int .u8 0,.int .u8 0,.int .u8 0,.int .i64 0] (0,0) _ rfl (by (with_reducible repeat (first|refine au ?_ _|refine ay ?_|refine ak ?_ _));refine dR (cs:=#[.int .u8 0,.int .u8 0,.int .u8 0,.int .u8 0,.int .i64 eY]) ?_ 4 _ rfl;(with_reducible repeat (first|refine au ?_ _|refine ay ?_|refine ak ?_ _));refine dR (cs:=#[.int .u8 0,.int .u8 0,.int .u8 0,.int .u8 fJ,.int .i64 eY]) ?_ 3 _ rfl;(with_reducible repeat (first|refine au ?_ _|refine ay ?_|refine ak ?_ _));refine dR (cs:=#[.int .u8 0,.int .u8 0,.int .u8 fU,.int .u8 fJ,.int .i64 eY]) ?_ 2 _ rfl;(with_reducible repeat (first|refine au ?_ _|refine ay ?_|refine ak ?_ _));refine dR (cs:=#[.int .u8 0,.int .u8 gy,.int .u8 fU,.int .u8 fJ,.int .i64 eY]) ?_ 1 _ rfl;(with_reducible repeat (first|refine au ?_ _|refine ay ?_|refine ak ?_ _));refine dR (cs:=#[.int .u8 gQ,.int .u8 gy,.int .u8 fU,.int .u8 fJ,.int .i64 eY]) ?_ 0 _ rfl;(with_reducible repeat (first|refine au ?_ _|refine ay ?_|refine ak ?_ _));refine fV ?_ eP.out _;(with_reducible repeat (first|refine au ?_ _|refine ay ?_|refine ak ?_ _));refine fV ?_ eP.out _;(with_reducible repeat (first|refine au ?_ _|refine ay ?_|refine ak ?_ _));refine fV ?_ eP.out _;(with_reducible repeat (first|refine au ?_ _|refine ay ?_|refine ak ?_ _));refine fV ?_ eP.out _;(with_reducible repeat (first|refine au ?_ _|refine ay ?_|refine ak ?_ _));refine fV ?_ eP.out _;(with_reducible repeat (first|refine au ?_ _|refine ay ?_|refine ak ?_ _));exact fO.out) Tryd.underlying55 rfl (by kernel_rfl)) rfl ?_
               exact ⟨by first|rfl|(simp [aQ,aN] <;> rfl)|(simp only [← xX];first|rfl|(simp [aQ,aN] <;> rfl))|(simp [*,aQ,aN] <;> rfl),by repeat (first|(with_reducible first|exact HB.out|apply ah|apply ag|apply ai|refine aj ?_ jS.out|refine aj ?_ jP.out|refine aj ?_ mF.out)|exact HB.out)⟩
             ·
              rw [if_neg c20] at H
              have Zx:(t117 == 0)=false:=beq_eq_false_iff_ne.mpr c20
              have aft:(t117 != 0)=true:=bne_iff_ne.mpr c20
              simp only [Option.some.injEq,Prod.mk.injEq] at H
              obtain ⟨rfl,rfl,rfl,rfl,rfl,rfl⟩:=H
              have Bv:0≤((pR):Int):=of_decide_eq_true (by first|(with_reducible assumption)|assumption)
              have Bo:(pR) < (l0.length:Int):=of_decide_eq_true (by first|(with_reducible assumption)|assumption)
              obtain ⟨ZB,e115,pg⟩:=Kd.kT HR0.out (pR) Bv Bo
              cases e115
              replace pg:=(HB.out.cell (World.block_lt_of_cell? w _ pg)).trans pg
              replace Bv:=eq_true Bv
              replace Bo:=eq_true Bo
              try go_wp2_with (first|((with_reducible refine bz (f:=64) rfl ?_);refine dV (some 49) rfl rfl Tryd.func64 (by kernel_rfl) rfl #[.string (dZ ByteArray.empty l0 (pR))] rfl (by (try simp only [List.map_toArray,List.map_cons,List.map_nil]);first|done|(simp only [xX];rfl)|rfl|(simp only [List.length_drop,List.length_take];rfl)) ?_;(with_reducible refine (aH.calls k3 (dZ ByteArray.empty l0 (pR)) t116 t117 _ A16.out).mono ?_);rintro e w' ⟨rfl,⟨nd,rfl⟩⟩;refine ⟨_,rfl,?_⟩;(try (rw [rP wr];generalize CJ:World.drewN wr _=wr;have dX:ae (wr.heap[iQ]? = some (.cells #[.int .u8 gQ,.int .u8 gy,.int .u8 fU,.int .u8 fJ,.int .i64 eY] 55 (0,0))):=⟨by rw [← CJ];exact (by (with_reducible repeat (first|refine au ?_ _|refine ay ?_|refine ak ?_ _));exact fO.out)⟩;have dW:ae (wr.heap[eQ]? = some (.cells #[.int .u8 dM,.int .u8 dL,.int .u8 dK,.int .u8 dJ,.int .i64 dI] 55 (0,0))):=⟨by rw [← CJ];exact (by (with_reducible repeat (first|refine au ?_ _|refine ay ?_|refine ak ?_ _));exact cu.out)⟩;have dU:ae (Below w.heap.size w wr):=⟨by rw [← CJ];exact (by repeat (first|(with_reducible first|exact HB.out|apply ah|apply ag|apply ai|refine aj ?_ jS.out|refine aj ?_ jP.out)|exact HB.out))⟩;clear fO cu HB CJ;have fO:=dX;have cu:=dW;have HB:=dU;clear dX dW dU))))
              have dX:=ae.mk (ay fO.out)
              have dW:=ae.mk (ay cu.out)
              have dU:=ae.mk (ai HB.out)
              clear fO
              clear cu
              clear HB
              have fO:=dX
              have cu:=dW
              have HB:=dU
              clear dX dW dU
              have Gl:0≤(nN:Int):=of_decide_eq_true (by first|(with_reducible assumption)|assumption)
              have Gh:nN < (t112.size:Int):=of_decide_eq_true (by first|(with_reducible assumption)|assumption)
              have Ql:=kY t112 nN
              replace Gl:=eq_true Gl
              replace Gh:=eq_true Gh
              refine qg (n:=12) (S:=fun w'=>w'.cell? ⟨eQ,0,none⟩=some (.int .u8 dM)∧w'.cell? ⟨eQ,1,none⟩=some (.int .u8 dL)∧w'.cell? ⟨eQ,2,none⟩=some (.int .u8 dK)∧w'.cell? ⟨eQ,3,none⟩=some (.int .u8 dJ)∧w'.cell? ⟨eQ,4,none⟩=some (.int .i64 dI)) (ds:=[]) #[false,false,false,false,false,false,false,false,false,false,false,false] (by kernel_rfl) rfl rfl ⟨(ax cu.out 0).trans rfl,(ax cu.out 1).trans rfl,(ax cu.out 2).trans rfl,(ax cu.out 3).trans rfl,(ax cu.out 4).trans rfl⟩ (fun hHeld=>?_);refine ry aJ.PE aJ.Jo (fun lT Df=>?_)
              generalize wr.drew=w48 at fO cu HB hHeld ⊢
              refine gZ (i:=1) (N:=some 54) (v:=?_) (a':=?_) #[false,true,false,false,false,false,false,false,false,false,false,false] rfl rfl (iP lT.out (by kernel_rfl)) (fun _ _ _ h=>h) (Or.inl ⟨by rfl,?_⟩) ?_ ?_
              rotate_left
              ·
               intro w'
               go_simp
               with_reducible rfl
              rotate_left
              ·
               simp only [Act.put,List.setIfInBounds_toArray,List.set_cons_zero,List.set_cons_succ,bT,bW]
               rfl
              refine gZ (i:=2) (N:=some 55) (v:=?_) (a':=?_) #[false,true,true,false,false,false,false,false,false,false,false,false] rfl rfl (iP lT.out (by kernel_rfl)) (fun _ _ _ h=>h) (Or.inl ⟨by rfl,?_⟩) ?_ ?_
              rotate_left
              ·
               intro w'
               go_simp
               with_reducible rfl
              rotate_left
              ·
               simp only [Act.put,List.setIfInBounds_toArray,List.set_cons_zero,List.set_cons_succ,bT,bW]
               rfl
              refine gZ (i:=4) (N:=some 57) (v:=?_) (a':=?_) #[false,true,true,false,true,false,false,false,false,false,false,false] rfl rfl (iP lT.out (by kernel_rfl)) (fun _ _ _ h=>h) (Or.inl ⟨by rfl,?_⟩) ?_ ?_
              rotate_left
              ·
               intro w'
               go_simp
               with_reducible rfl
              rotate_left
              ·
               simp only [Act.put,List.setIfInBounds_toArray,List.set_cons_zero,List.set_cons_succ,bT,bW]
               rfl
              refine jY (i:=0) (N:=some 53) (v:=?_) (a':=?_) #[true,true,true,false,true,false,false,false,false,false,false,false] rfl rfl (kX lT.out Df.out (by kernel_rfl)) (fun _ _ _ h=>h) (Or.inl ⟨by rfl,?_⟩) hHeld ?_ ?_
              rotate_left
              ·
               rintro w' ⟨s0,s1,s2,s3,s4⟩
               go_simp
               with_reducible rfl
              rotate_left
              ·
               simp only [Act.put,List.setIfInBounds_toArray,List.set_cons_zero,List.set_cons_succ,bT,bW]
               rfl
              refine jY (i:=3) (N:=some 56) (v:=?_) (a':=?_) #[true,true,true,true,true,false,false,false,false,false,false,false] rfl rfl (kX lT.out Df.out (by kernel_rfl)) (fun _ _ _ h=>h) (Or.inl ⟨by rfl,?_⟩) hHeld ?_ ?_
              rotate_left
              ·
               rintro w' ⟨s0,s1,s2,s3,s4⟩
               go_simp
               with_reducible rfl
              rotate_left
              ·
               simp only [Act.put,List.setIfInBounds_toArray,List.set_cons_zero,List.set_cons_succ,bT,bW]
               rfl
              refine KC (σ:=Nat) 2 #[true,true,true,true,true,true,true,true,true,true,false,false] (fun s_=>[(58,.tuple #[.agg #[.int .u8 t118,.int .u8 t119,.int .u8 t120,.int .u8 t121,.int .i64 t122],.bool t123]),(11,.pointer (some ⟨s_,0,none⟩)),(52,.tuple #[.agg #[.int .u8 t118,.int .u8 t119,.int .u8 t120,.int .u8 t121,.int .i64 t122],.bool t123]),(59,.agg #[.int .u8 t118,.int .u8 t119,.int .u8 t120,.int .u8 t121,.int .i64 t122]),(60,.bool t123)]) (fun s_ w'=>(w'.cell? ⟨eQ,0,none⟩=some (.int .u8 dM)∧w'.cell? ⟨eQ,1,none⟩=some (.int .u8 dL)∧w'.cell? ⟨eQ,2,none⟩=some (.int .u8 dK)∧w'.cell? ⟨eQ,3,none⟩=some (.int .u8 dJ)∧w'.cell? ⟨eQ,4,none⟩=some (.int .i64 dI))∧(w'.heap[iQ]? = some (.cells #[.int .u8 gQ,.int .u8 gy,.int .u8 fU,.int .u8 fJ,.int .i64 eY] 55 (0,0)))∧(w'.heap[eQ]? = some (.cells #[.int .u8 dM,.int .u8 dL,.int .u8 dK,.int .u8 dJ,.int .i64 dI] 55 (0,0)))∧(w'.heap[s_]? = some (.cells #[.int .u8 0,.int .u8 0,.int .u8 0,.int .u8 0,.int .i64 0] 55 (0,0)))∧(w.heap.size≤s_)∧(w.heap.size≤s_)∧(iQ ≠ s_)∧(s_ ≠ iQ)∧(eQ ≠ s_)∧(s_ ≠ eQ)∧(Below w.heap.size w w')) ?_ ?_
              rotate_left
              ·
               intro zA
               refine TZ (i:=5) (j:=9) (Ni:=some 58) (Nj:=some 11) #[true,true,true,true,true,true,false,false,false,false,false,false] #[true,true,true,true,true,false,false,false,false,true,false,false] rfl rfl rfl rfl (Ir lT.out (by kernel_rfl)) (by decide) (by decide) (fun K hK=>?_) (fun K hK=>?_)
               ·
                skip
                refine pz Tryd.func65 (by kernel_rfl) rfl #[.agg #[.int .u8 dM,.int .u8 dL,.int .u8 dK,.int .u8 dJ,.int .i64 dI],.int .u8 (bt t112 nN),.int .i64 t116] (by rfl) rfl rfl (by (try simp only [List.map_toArray,List.map_cons,List.map_nil]);first|done|rfl|(simp only [List.length_drop,List.length_take];rfl)) ?_
                with_reducible refine (bf.calls k3 dM dL dK dJ dI (bt t112 nN) t116 t118 t119 t120 t121 t122 t123 _ Td.out).mono ?_
                rintro e w49 ⟨rfl,hb⟩
                refine ⟨_,rfl,?_⟩
                have dX:=ae.mk (bg (g:=iQ) (o:=.cells #[.int .u8 gQ,.int .u8 gy,.int .u8 fU,.int .u8 fJ,.int .i64 eY] 55 (0,0)) (by (with_reducible repeat (first|refine au ?_ _|refine ay ?_|refine ak ?_ _));exact fO.out) hb)
                have dW:=ae.mk (bg (g:=eQ) (o:=.cells #[.int .u8 dM,.int .u8 dL,.int .u8 dK,.int .u8 dJ,.int .i64 dI] 55 (0,0)) (by (with_reducible repeat (first|refine au ?_ _|refine ay ?_|refine ak ?_ _));exact cu.out) hb)
                have dU:=ae.mk (bn (by repeat (first|(with_reducible first|exact HB.out|apply ah|apply ag|apply ai|refine aj ?_ jS.out|refine aj ?_ jP.out)|exact HB.out)) hb)
                clear fO
                clear cu
                clear HB
                have fO:=dX
                have cu:=dW
                have HB:=dU
                clear dX dW dU
                (try clear hb)
                (try clear hb2)
                (try clear hk)
                (try clear hi)
                refine hK.out _ _ ⟨(ax cu.out 0).trans rfl,(ax cu.out 1).trans rfl,(ax cu.out 2).trans rfl,(ax cu.out 3).trans rfl,(ax cu.out 4).trans rfl⟩ (fun hHeld=>?_)
                clear hK K
                refine je (a':=?_) ?_ ?_
                rotate_left
                ·
                 show Act.put _ (some 58) _=_
                 simp only [Act.put,List.setIfInBounds_toArray,List.set_cons_zero,List.set_cons_succ,bT,bW]
                 rfl
                refine gZ (i:=6) (N:=some 52) (v:=?_) (a':=?_) #[true,true,true,true,true,true,true,false,false,false,false,false] rfl rfl (iP lT.out (by kernel_rfl)) (fun _ _ _ h=>h) (Or.inl ⟨by rfl,?_⟩) ?_ ?_
                rotate_left
                ·
                 intro w'
                 go_simp
                 with_reducible rfl
                rotate_left
                ·
                 simp only [Act.put,List.setIfInBounds_toArray,List.set_cons_zero,List.set_cons_succ,bT,bW]
                 rfl
                refine gZ (i:=7) (N:=some 59) (v:=?_) (a':=?_) #[true,true,true,true,true,true,true,true,false,false,false,false] rfl rfl (iP lT.out (by kernel_rfl)) (fun _ _ _ h=>h) (Or.inl ⟨by rfl,?_⟩) ?_ ?_
                rotate_left
                ·
                 intro w'
                 go_simp
                 with_reducible rfl
                rotate_left
                ·
                 simp only [Act.put,List.setIfInBounds_toArray,List.set_cons_zero,List.set_cons_succ,bT,bW]
                 rfl
                refine gZ (i:=8) (N:=some 60) (v:=?_) (a':=?_) #[true,true,true,true,true,true,true,true,true,false,false,false] rfl rfl (iP lT.out (by kernel_rfl)) (fun _ _ _ h=>h) (Or.inl ⟨by rfl,?_⟩) ?_ ?_
                rotate_left
                ·
                 intro w'
                 go_simp
                 with_reducible rfl
                rotate_left
                ·
                 simp only [Act.put,List.setIfInBounds_toArray,List.set_cons_zero,List.set_cons_succ,bT,bW]
                 rfl
                refine oP (i:=9) (N:=some 11) #[true,true,true,true,true,true,true,true,true,true,false,false] rfl rfl (nP lT.out (by kernel_rfl)) (by decide) (fun K hK=>?_)
                refine tJ ?hg (N:=11) ?hd (cs:=#[.int .u8 0,.int .u8 0,.int .u8 0,.int .u8 0,.int .i64 0]) (t:=55) ?hr ?_;(case hd=>rfl);(case hg=>rfl);(case hr=>first|(go_simp;done)|(go_simp;rfl))
                intro dG hg w50 hbox hb
                have dX:=ae.mk (bg (g:=iQ) (o:=.cells #[.int .u8 gQ,.int .u8 gy,.int .u8 fU,.int .u8 fJ,.int .i64 eY] 55 (0,0)) (by (with_reducible repeat (first|refine au ?_ _|refine ay ?_|refine ak ?_ _));exact fO.out) hb)
                have dW:=ae.mk (bg (g:=eQ) (o:=.cells #[.int .u8 dM,.int .u8 dL,.int .u8 dK,.int .u8 dJ,.int .i64 dI] 55 (0,0)) (by (with_reducible repeat (first|refine au ?_ _|refine ay ?_|refine ak ?_ _));exact cu.out) hb)
                have dU:=ae.mk (bn (by repeat (first|(with_reducible first|exact HB.out|apply ah|apply ag|apply ai|refine aj ?_ jS.out|refine aj ?_ jP.out)|exact HB.out)) hb)
                have iq:=ae.mk (hbox)
                have mr:=ae.mk ((by rw [hg];exact (bY (by repeat (first|(with_reducible first|exact HB.out|apply ah|apply ag|apply ai|refine aj ?_ jS.out|refine aj ?_ jP.out)|exact HB.out))):w.heap.size≤dG))
                have ny:=mr
                have oz:=ae.mk ((by rw [hg];exact Nat.ne_of_lt (kR (g:=iQ) (o:=.cells #[.int .u8 gQ,.int .u8 gy,.int .u8 fU,.int .u8 fJ,.int .i64 eY] 55 (0,0)) (by (with_reducible repeat (first|refine au ?_ _|refine ay ?_|refine ak ?_ _));exact fO.out)):iQ ≠ dG))
                have xk:=ae.mk oz.out.symm
                have xh:=ae.mk ((by rw [hg];exact Nat.ne_of_lt (kR (g:=eQ) (o:=.cells #[.int .u8 dM,.int .u8 dL,.int .u8 dK,.int .u8 dJ,.int .i64 dI] 55 (0,0)) (by (with_reducible repeat (first|refine au ?_ _|refine ay ?_|refine ak ?_ _));exact cu.out)):eQ ≠ dG))
                have zq:=ae.mk xh.out.symm
                clear fO
                clear cu
                clear HB
                have fO:=dX
                have cu:=dW
                have HB:=dU
                have iV:=iq
                have sG:=mr
                have mF:=ny
                have eP:=oz
                have gX:=xk
                have bH:=xh
                have iy:=zq
                clear dX dW dU iq mr ny oz xk xh zq
                clear hb hbox hg
                refine hK.out _ _ ⟨(ax cu.out 0).trans rfl,(ax cu.out 1).trans rfl,(ax cu.out 2).trans rfl,(ax cu.out 3).trans rfl,(ax cu.out 4).trans rfl⟩ (fun hHeld=>?_)
                clear hK K
                refine je (a':=?_) ?_ ?_
                rotate_left
                ·
                 show Act.put _ (some 11) _=_
                 simp only [Act.put,List.setIfInBounds_toArray,List.set_cons_zero,List.set_cons_succ,bT,bW]
                 rfl
                exact je (by simp only [l7,Act.put,List.setIfInBounds_toArray,List.set_cons_zero,List.set_cons_succ]) (zA (dG) _ ⟨hHeld,(by (with_reducible repeat (first|refine au ?_ _|refine ay ?_|refine ak ?_ _));exact fO.out),(by (with_reducible repeat (first|refine au ?_ _|refine ay ?_|refine ak ?_ _));exact cu.out),(by (with_reducible repeat (first|refine au ?_ _|refine ay ?_|refine ak ?_ _));exact iV.out),sG.out,mF.out,eP.out,gX.out,bH.out,iy.out,(by repeat (first|(with_reducible first|exact HB.out|apply ah|apply ag|apply ai|refine aj ?_ jS.out|refine aj ?_ jP.out|refine aj ?_ mF.out)|exact HB.out))⟩)
               ·
                skip
                refine tJ ?hg (N:=11) ?hd (cs:=#[.int .u8 0,.int .u8 0,.int .u8 0,.int .u8 0,.int .i64 0]) (t:=55) ?hr ?_;(case hd=>rfl);(case hg=>rfl);(case hr=>first|(go_simp;done)|(go_simp;rfl))
                intro dG hg w49 hbox hb
                have dX:=ae.mk (bg (g:=iQ) (o:=.cells #[.int .u8 gQ,.int .u8 gy,.int .u8 fU,.int .u8 fJ,.int .i64 eY] 55 (0,0)) (by (with_reducible repeat (first|refine au ?_ _|refine ay ?_|refine ak ?_ _));exact fO.out) hb)
                have dW:=ae.mk (bg (g:=eQ) (o:=.cells #[.int .u8 dM,.int .u8 dL,.int .u8 dK,.int .u8 dJ,.int .i64 dI] 55 (0,0)) (by (with_reducible repeat (first|refine au ?_ _|refine ay ?_|refine ak ?_ _));exact cu.out) hb)
                have dU:=ae.mk (bn (by repeat (first|(with_reducible first|exact HB.out|apply ah|apply ag|apply ai|refine aj ?_ jS.out|refine aj ?_ jP.out)|exact HB.out)) hb)
                have iq:=ae.mk (hbox)
                have mr:=ae.mk ((by rw [hg];exact (bY (by repeat (first|(with_reducible first|exact HB.out|apply ah|apply ag|apply ai|refine aj ?_ jS.out|refine aj ?_ jP.out)|exact HB.out))):w.heap.size≤dG))
                have ny:=mr
                have oz:=ae.mk ((by rw [hg];exact Nat.ne_of_lt (kR (g:=iQ) (o:=.cells #[.int .u8 gQ,.int .u8 gy,.int .u8 fU,.int .u8 fJ,.int .i64 eY] 55 (0,0)) (by (with_reducible repeat (first|refine au ?_ _|refine ay ?_|refine ak ?_ _));exact fO.out)):iQ ≠ dG))
                have xk:=ae.mk oz.out.symm
                have xh:=ae.mk ((by rw [hg];exact Nat.ne_of_lt (kR (g:=eQ) (o:=.cells #[.int .u8 dM,.int .u8 dL,.int .u8 dK,.int .u8 dJ,.int .i64 dI] 55 (0,0)) (by (with_reducible repeat (first|refine au ?_ _|refine ay ?_|refine ak ?_ _));exact cu.out)):eQ ≠ dG))
                have zq:=ae.mk xh.out.symm
                clear fO
                clear cu
                clear HB
                have fO:=dX
                have cu:=dW
                have HB:=dU
                have iV:=iq
                have sG:=mr
                have mF:=ny
                have eP:=oz
                have gX:=xk
                have bH:=xh
                have iy:=zq
                clear dX dW dU iq mr ny oz xk xh zq
                clear hb hbox hg
                refine hK.out _ _ ⟨(ax cu.out 0).trans rfl,(ax cu.out 1).trans rfl,(ax cu.out 2).trans rfl,(ax cu.out 3).trans rfl,(ax cu.out 4).trans rfl⟩ (fun hHeld=>?_)
                clear hK K
                refine je (a':=?_) ?_ ?_
                rotate_left
                ·
                 show Act.put _ (some 11) _=_
                 simp only [Act.put,List.setIfInBounds_toArray,List.set_cons_zero,List.set_cons_succ,bT,bW]
                 rfl
                refine oP (i:=5) (N:=some 58) #[true,true,true,true,true,true,false,false,false,true,false,false] rfl rfl (nP lT.out (by kernel_rfl)) (by decide) (fun K hK=>?_)
                refine pz Tryd.func65 (by kernel_rfl) rfl #[.agg #[.int .u8 dM,.int .u8 dL,.int .u8 dK,.int .u8 dJ,.int .i64 dI],.int .u8 (bt t112 nN),.int .i64 t116] (by rfl) rfl rfl (by (try simp only [List.map_toArray,List.map_cons,List.map_nil]);first|done|rfl|(simp only [List.length_drop,List.length_take];rfl)) ?_
                with_reducible refine (bf.calls k3 dM dL dK dJ dI (bt t112 nN) t116 t118 t119 t120 t121 t122 t123 _ Td.out).mono ?_
                rintro e w50 ⟨rfl,hb⟩
                refine ⟨_,rfl,?_⟩
                have dX:=ae.mk (bg (g:=iQ) (o:=.cells #[.int .u8 gQ,.int .u8 gy,.int .u8 fU,.int .u8 fJ,.int .i64 eY] 55 (0,0)) (by (with_reducible repeat (first|refine au ?_ _|refine ay ?_|refine ak ?_ _));exact fO.out) hb)
                have dW:=ae.mk (bg (g:=eQ) (o:=.cells #[.int .u8 dM,.int .u8 dL,.int .u8 dK,.int .u8 dJ,.int .i64 dI] 55 (0,0)) (by (with_reducible repeat (first|refine au ?_ _|refine ay ?_|refine ak ?_ _));exact cu.out) hb)
                have dU:=ae.mk (bg (g:=dG) (o:=.cells #[.int .u8 0,.int .u8 0,.int .u8 0,.int .u8 0,.int .i64 0] 55 (0,0)) (by (with_reducible repeat (first|refine au ?_ _|refine ay ?_|refine ak ?_ _));exact iV.out) hb)
                have iq:=ae.mk (bn (by repeat (first|(with_reducible first|exact HB.out|apply ah|apply ag|apply ai|refine aj ?_ jS.out|refine aj ?_ jP.out|refine aj ?_ mF.out)|exact HB.out)) hb)
                clear fO
                clear cu
                clear iV
                clear HB
                have fO:=dX
                have cu:=dW
                have iV:=dU
                have HB:=iq
                clear dX dW dU iq
                (try clear hb)
                (try clear hb2)
                (try clear hk)
                (try clear hi)
                refine hK.out _ _ ⟨(ax cu.out 0).trans rfl,(ax cu.out 1).trans rfl,(ax cu.out 2).trans rfl,(ax cu.out 3).trans rfl,(ax cu.out 4).trans rfl⟩ (fun hHeld=>?_)
                clear hK K
                refine je (a':=?_) ?_ ?_
                rotate_left
                ·
                 show Act.put _ (some 58) _=_
                 simp only [Act.put,List.setIfInBounds_toArray,List.set_cons_zero,List.set_cons_succ,bT,bW]
                 rfl
                refine gZ (i:=6) (N:=some 52) (v:=?_) (a':=?_) #[true,true,true,true,true,true,true,false,false,true,false,false] rfl rfl (iP lT.out (by kernel_rfl)) (fun _ _ _ h=>h) (Or.inl ⟨by rfl,?_⟩) ?_ ?_
                rotate_left
                ·
                 intro w'
                 go_simp
                 with_reducible rfl
                rotate_left
                ·
                 simp only [Act.put,List.setIfInBounds_toArray,List.set_cons_zero,List.set_cons_succ,bT,bW]
                 rfl
                refine gZ (i:=7) (N:=some 59) (v:=?_) (a':=?_) #[true,true,true,true,true,true,true,true,false,true,false,false] rfl rfl (iP lT.out (by kernel_rfl)) (fun _ _ _ h=>h) (Or.inl ⟨by rfl,?_⟩) ?_ ?_
                rotate_left
                ·
                 intro w'
                 go_simp
                 with_reducible rfl
                rotate_left
                ·
                 simp only [Act.put,List.setIfInBounds_toArray,List.set_cons_zero,List.set_cons_succ,bT,bW]
                 rfl
                refine gZ (i:=8) (N:=some 60) (v:=?_) (a':=?_) #[true,true,true,true,true,true,true,true,true,true,false,false] rfl rfl (iP lT.out (by kernel_rfl)) (fun _ _ _ h=>h) (Or.inl ⟨by rfl,?_⟩) ?_ ?_
                rotate_left
                ·
                 intro w'
                 go_simp
                 with_reducible rfl
                rotate_left
                ·
                 simp only [Act.put,List.setIfInBounds_toArray,List.set_cons_zero,List.set_cons_succ,bT,bW]
                 rfl
                exact je (by simp only [l7,Act.put,List.setIfInBounds_toArray,List.set_cons_zero,List.set_cons_succ]) (zA (dG) _ ⟨hHeld,(by (with_reducible repeat (first|refine au ?_ _|refine ay ?_|refine ak ?_ _));exact fO.out),(by (with_reducible repeat (first|refine au ?_ _|refine ay ?_|refine ak ?_ _));exact cu.out),(by (with_reducible repeat (first|refine au ?_ _|refine ay ?_|refine ak ?_ _));exact iV.out),sG.out,mF.out,eP.out,gX.out,bH.out,iy.out,(by repeat (first|(with_reducible first|exact HB.out|apply ah|apply ag|apply ai|refine aj ?_ jS.out|refine aj ?_ jP.out|refine aj ?_ mF.out)|exact HB.out))⟩)
              rintro dG Iq ⟨Yh,Zt,Rf,Zr,Zq,Zp,Zo,Zn,Zm,Zl,Zk⟩
              have dX:ae (Iq.heap[iQ]? = some (.cells #[.int .u8 gQ,.int .u8 gy,.int .u8 fU,.int .u8 fJ,.int .i64 eY] 55 (0,0))):=⟨Zt⟩
              have dW:ae (Iq.heap[eQ]? = some (.cells #[.int .u8 dM,.int .u8 dL,.int .u8 dK,.int .u8 dJ,.int .i64 dI] 55 (0,0))):=⟨Rf⟩
              have dU:ae (Iq.heap[dG]? = some (.cells #[.int .u8 0,.int .u8 0,.int .u8 0,.int .u8 0,.int .i64 0] 55 (0,0))):=⟨Zr⟩
              have iq:ae (w.heap.size≤dG):=⟨Zq⟩
              have mr:ae (w.heap.size≤dG):=⟨Zp⟩
              have ny:ae (iQ ≠ dG):=⟨Zo⟩
              have oz:ae (dG ≠ iQ):=⟨Zn⟩
              have xk:ae (eQ ≠ dG):=⟨Zm⟩
              have xh:ae (dG ≠ eQ):=⟨Zl⟩
              have zq:ae (Below w.heap.size w Iq):=⟨Zk⟩
              clear fO
              clear cu
              clear HB
              clear Zt Rf Zr Zq Zp Zo Zn Zm Zl Zk
              have fO:=dX
              have cu:=dW
              have iV:=dU
              have sG:=iq
              have mF:=mr
              have eP:=ny
              have gX:=oz
              have bH:=xk
              have iy:=xh
              have HB:=zq
              clear dX dW dU iq mr ny oz xk xh zq
              have hHeld:Iq.cell? ⟨eQ,0,none⟩=some (.int .u8 dM)∧Iq.cell? ⟨eQ,1,none⟩=some (.int .u8 dL)∧Iq.cell? ⟨eQ,2,none⟩=some (.int .u8 dK)∧Iq.cell? ⟨eQ,3,none⟩=some (.int .u8 dJ)∧Iq.cell? ⟨eQ,4,none⟩=some (.int .i64 dI):=Yh
              refine je (a':=?_) ?_ ?_
              rotate_left
              ·
               simp only [l7,Act.put,List.setIfInBounds_toArray,List.set_cons_zero,List.set_cons_succ]
               rfl
              refine oP (i:=10) (N:=none) #[true,true,true,true,true,true,true,true,true,true,true,false] rfl rfl (nP lT.out (by kernel_rfl)) (by decide) (fun K hK=>?_)
              have arE:Iq.cell? ⟨dG,0,none⟩=some (.int .u8 0):=(ax iV.out 0).trans rfl
              have apH:=aC iV.out 0
              have ahb:=eP.out
              have aha:=bH.out
              have ahF:=gX.out
              have ahE:=iy.out
              have arD:Iq.cell? ⟨dG,1,none⟩=some (.int .u8 0):=(ax iV.out 1).trans rfl
              have apG:=aC iV.out 1
              have ag9:=eP.out
              have ag8:=bH.out
              have ahD:=gX.out
              have ahC:=iy.out
              have arC:Iq.cell? ⟨dG,2,none⟩=some (.int .u8 0):=(ax iV.out 2).trans rfl
              have apF:=aC iV.out 2
              have ag7:=eP.out
              have ag6:=bH.out
              have ahB:=gX.out
              have ahA:=iy.out
              have arB:Iq.cell? ⟨dG,3,none⟩=some (.int .u8 0):=(ax iV.out 3).trans rfl
              have apE:=aC iV.out 3
              have ag5:=eP.out
              have ag4:=bH.out
              have ahz:=gX.out
              have ahy:=iy.out
              have arA:Iq.cell? ⟨dG,4,none⟩=some (.int .i64 0):=(ax iV.out 4).trans rfl
              have apD:=aC iV.out 4
              have ag3:=eP.out
              have ag2:=bH.out
              have ahx:=gX.out
              have ahw:=iy.out
              refine Dw (w1:=?_) (by rfl) rfl ?_ ?_
              rotate_left
              ·
               go_simp
               rfl
              refine hK.out _ _ ⟨((cell_far (p:=⟨dG,_,none⟩) bH.out _).trans (((cell_far (p:=⟨dG,_,none⟩) bH.out _).trans (((cell_far (p:=⟨dG,_,none⟩) bH.out _).trans (((cell_far (p:=⟨dG,_,none⟩) bH.out _).trans (((cell_far (p:=⟨dG,_,none⟩) bH.out _).trans (hHeld.1)))))))))),((cell_far (p:=⟨dG,_,none⟩) bH.out _).trans (((cell_far (p:=⟨dG,_,none⟩) bH.out _).trans (((cell_far (p:=⟨dG,_,none⟩) bH.out _).trans (((cell_far (p:=⟨dG,_,none⟩) bH.out _).trans (((cell_far (p:=⟨dG,_,none⟩) bH.out _).trans (hHeld.2.1)))))))))),((cell_far (p:=⟨dG,_,none⟩) bH.out _).trans (((cell_far (p:=⟨dG,_,none⟩) bH.out _).trans (((cell_far (p:=⟨dG,_,none⟩) bH.out _).trans (((cell_far (p:=⟨dG,_,none⟩) bH.out _).trans (((cell_far (p:=⟨dG,_,none⟩) bH.out _).trans (hHeld.2.2.1)))))))))),((cell_far (p:=⟨dG,_,none⟩) bH.out _).trans (((cell_far (p:=⟨dG,_,none⟩) bH.out _).trans (((cell_far (p:=⟨dG,_,none⟩) bH.out _).trans (((cell_far (p:=⟨dG,_,none⟩) bH.out _).trans (((cell_far (p:=⟨dG,_,none⟩) bH.out _).trans (hHeld.2.2.2.1)))))))))),((cell_far (p:=⟨dG,_,none⟩) bH.out _).trans (((cell_far (p:=⟨dG,_,none⟩) bH.out _).trans (((cell_far (p:=⟨dG,_,none⟩) bH.out _).trans (((cell_far (p:=⟨dG,_,none⟩) bH.out _).trans (((cell_far (p:=⟨dG,_,none⟩) bH.out _).trans (hHeld.2.2.2.2))))))))))⟩ (fun hHeld=>?_)
              clear hK K
              refine gZ (i:=11) (N:=some 12) (v:=?_) (a':=?_) #[true,true,true,true,true,true,true,true,true,true,true,true] rfl rfl (iP lT.out (by kernel_rfl)) (fun _ _ _ h=>h) (Or.inl ⟨by rfl,?_⟩) ?_ ?_
              rotate_left
              ·
               intro w'
               go_simp
               with_reducible rfl
              rotate_left
              ·
               simp only [Act.put,List.setIfInBounds_toArray,List.set_cons_zero,List.set_cons_succ,bT,bW]
               rfl
              refine tq (wL lT.out (by kernel_rfl)) ?_
              have adt:=kJ.out
              have adi:=tK.out
              have apf:=eP.out
              have aoO:=gX.out
              obtain ⟨LW,LV,LU,LQ,LP,KN,KL,KJ,KI,KH⟩:=kF fO.out
              try go_wp2
              refine bodyPost_ret (mJ rfl _ _ iQ 55 #[.int .u8 0,.int .u8 0,.int .u8 0,.int .u8 0,.int .i64 0] (0,0) _ rfl (by (with_reducible repeat (first|refine au ?_ _|refine ay ?_|refine ak ?_ _));refine dR (cs:=#[.int .u8 0,.int .u8 0,.int .u8 0,.int .u8 0,.int .i64 eY]) ?_ 4 _ rfl;(with_reducible repeat (first|refine au ?_ _|refine ay ?_|refine ak ?_ _));refine dR (cs:=#[.int .u8 0,.int .u8 0,.int .u8 0,.int .u8 fJ,.int .i64 eY]) ?_ 3 _ rfl;(with_reducible repeat (first|refine au ?_ _|refine ay ?_|refine ak ?_ _));refine dR (cs:=#[.int .u8 0,.int .u8 0,.int .u8 fU,.int .u8 fJ,.int .i64 eY]) ?_ 2 _ rfl;(with_reducible repeat (first|refine au ?_ _|refine ay ?_|refine ak ?_ _));refine dR (cs:=#[.int .u8 0,.int .u8 gy,.int .u8 fU,.int .u8 fJ,.int .i64 eY]) ?_ 1 _ rfl;(with_reducible repeat (first|refine au ?_ _|refine ay ?_|refine ak ?_ _));refine dR (cs:=#[.int .u8 gQ,.int .u8 gy,.int .u8 fU,.int .u8 fJ,.int .i64 eY]) ?_ 0 _ rfl;(with_reducible repeat (first|refine au ?_ _|refine ay ?_|refine ak ?_ _));refine fV ?_ eP.out _;(with_reducible repeat (first|refine au ?_ _|refine ay ?_|refine ak ?_ _));refine fV ?_ eP.out _;(with_reducible repeat (first|refine au ?_ _|refine ay ?_|refine ak ?_ _));refine fV ?_ eP.out _;(with_reducible repeat (first|refine au ?_ _|refine ay ?_|refine ak ?_ _));refine fV ?_ eP.out _;(with_reducible repeat (first|refine au ?_ _|refine ay ?_|refine ak ?_ _));refine fV ?_ eP.out _;(with_reducible repeat (first|refine au ?_ _|refine ay ?_|refine ak ?_ _));exact fO.out) Tryd.underlying55 rfl (by kernel_rfl)) rfl ?_
              exact ⟨by first|rfl|(simp [aQ,aN] <;> rfl)|(simp only [← xX];first|rfl|(simp [aQ,aN] <;> rfl))|(simp [*,aQ,aN] <;> rfl),by repeat (first|(with_reducible first|exact HB.out|apply ah|apply ag|apply ai|refine aj ?_ jS.out|refine aj ?_ jP.out|refine aj ?_ mF.out)|exact HB.out)⟩
            ·
             rw [if_neg c17] at H
             exact absurd H (by simp)
           ·
            rw [if_neg c15] at H
            exact absurd H (by simp)
          ·
           rw [if_neg c14] at H
           exact absurd H (by simp)
         ·
          rw [if_neg c12] at H
          have xq:decide (nN < (t112.size:Int))=false:=decide_eq_false c12
          clear c12
          simp only [Option.some.injEq,Prod.mk.injEq] at H
          obtain ⟨rfl,rfl,rfl,rfl,rfl,rfl⟩:=H
          have ape:=tK.out
          have aoN:=kJ.out
          obtain ⟨WM,WL,WI,WH,WG,U2,U1,U0,UZ,UY⟩:=kF cu.out
          obtain ⟨WE,WC,WB,WA,Wx,UX,UW,UU,UT,UR⟩:=kF fO.out
          go_wp2
          refine bodyPost_ret (mJ rfl _ _ iQ 55 #[.int .u8 dM,.int .u8 dL,.int .u8 dK,.int .u8 dJ,.int .i64 dI] (0,0) _ rfl (by (with_reducible repeat (first|refine au ?_ _|refine ay ?_|refine ak ?_ _));refine dR (cs:=#[.int .u8 dM,.int .u8 dL,.int .u8 dK,.int .u8 dJ,.int .i64 eY]) ?_ 4 _ rfl;(with_reducible repeat (first|refine au ?_ _|refine ay ?_|refine ak ?_ _));refine dR (cs:=#[.int .u8 dM,.int .u8 dL,.int .u8 dK,.int .u8 fJ,.int .i64 eY]) ?_ 3 _ rfl;(with_reducible repeat (first|refine au ?_ _|refine ay ?_|refine ak ?_ _));refine dR (cs:=#[.int .u8 dM,.int .u8 dL,.int .u8 fU,.int .u8 fJ,.int .i64 eY]) ?_ 2 _ rfl;(with_reducible repeat (first|refine au ?_ _|refine ay ?_|refine ak ?_ _));refine dR (cs:=#[.int .u8 dM,.int .u8 gy,.int .u8 fU,.int .u8 fJ,.int .i64 eY]) ?_ 1 _ rfl;(with_reducible repeat (first|refine au ?_ _|refine ay ?_|refine ak ?_ _));refine dR (cs:=#[.int .u8 gQ,.int .u8 gy,.int .u8 fU,.int .u8 fJ,.int .i64 eY]) ?_ 0 _ rfl;(with_reducible repeat (first|refine au ?_ _|refine ay ?_|refine ak ?_ _));exact fO.out) Tryd.underlying55 rfl (by kernel_rfl)) rfl ?_
          exact ⟨by first|rfl|(simp [aQ,aN] <;> rfl)|(simp [*,aQ,aN] <;> rfl),by repeat (first|(with_reducible first|exact HB.out|apply ah|apply ag|apply ai|refine aj ?_ jS.out|refine aj ?_ jP.out)|exact HB.out)⟩
   ·
    rw [if_neg c3] at H
    have oG:decide (tY≤15)=false:=decide_eq_false c3
    clear c3
    simp only [Option.some.injEq,Prod.mk.injEq] at H
    obtain ⟨rfl,rfl,rfl,rfl,rfl,rfl⟩:=H
    obtain ⟨ak9,ak8,ak7,ak6,ak5,aiU,aiT,aiS,aiR,aiQ⟩:=kF fO.out
    go_wp2
    refine bodyPost_ret (mJ rfl _ _ iQ 55 #[.int .u8 0,.int .u8 0,.int .u8 0,.int .u8 0,.int .i64 0] (0,0) _ rfl (by (with_reducible repeat (first|refine au ?_ _|refine ay ?_|refine ak ?_ _));refine dR (cs:=#[.int .u8 0,.int .u8 0,.int .u8 0,.int .u8 0,.int .i64 lJ]) ?_ 4 _ rfl;(with_reducible repeat (first|refine au ?_ _|refine ay ?_|refine ak ?_ _));refine dR (cs:=#[.int .u8 0,.int .u8 0,.int .u8 0,.int .u8 lZ,.int .i64 lJ]) ?_ 3 _ rfl;(with_reducible repeat (first|refine au ?_ _|refine ay ?_|refine ak ?_ _));refine dR (cs:=#[.int .u8 0,.int .u8 0,.int .u8 ni,.int .u8 lZ,.int .i64 lJ]) ?_ 2 _ rfl;(with_reducible repeat (first|refine au ?_ _|refine ay ?_|refine ak ?_ _));refine dR (cs:=#[.int .u8 0,.int .u8 nY,.int .u8 ni,.int .u8 lZ,.int .i64 lJ]) ?_ 1 _ rfl;(with_reducible repeat (first|refine au ?_ _|refine ay ?_|refine ak ?_ _));refine dR (cs:=#[.int .u8 oV,.int .u8 nY,.int .u8 ni,.int .u8 lZ,.int .i64 lJ]) ?_ 0 _ rfl;(with_reducible repeat (first|refine au ?_ _|refine ay ?_|refine ak ?_ _));exact fO.out) Tryd.underlying55 rfl (by kernel_rfl)) rfl ?_
    exact ⟨by first|rfl|(simp [aQ,aN] <;> rfl)|(simp [*,aQ,aN] <;> rfl),by repeat (first|(with_reducible first|exact HB.out|apply ah|apply ag|apply ai|refine aj ?_ jS.out)|exact HB.out)⟩
end Go.Proofs.YtlemecdddhdagaaDoor.P
end
