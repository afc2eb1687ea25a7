/- Parts of the proof of ModelRuns: what the functions that it reaches compute, and plain facts about that. -/
import Derived.Test.YtlemecdddhdagaaDoorYab
import Derived.Test.YtlemecdddhdagaaDoorYal
import Derived.Test.YtlemecdddhdagaaDoorYam
set_option linter.unusedVariables false
set_option linter.unusedSimpArgs false
section
namespace Go.Proofs.YtlemecdddhdagaaDoor.P
open Go.RowKit Go.Proofs.af.bD Go.Proofs.af.dB Go.Proofs.af.dM
attribute [local go_sem] lq lg mG mF jY jX lh kZ
mutual
def aJ.l0:Nat→List ByteArray→Int→Option (Int × Int × Int × Int × Int × Bool)
 | 0,_,_=>none
 | k+1,x0,x4=>if x4≤15 then ((fG.f x4).bind fun MP=>(if 0 < (x0.length:Int) then (if (dY ByteArray.empty x0 0).toList=MP.1.toList then (aJ.j1 k x0 x4 MP.2 ((x0.length:Int) != (wrap64 ((MP.2.size:Int)+1)))) else (aJ.j1 k x0 x4 MP.2 true)) else (none))) else (some (0,0,0,0,0,false))
def aJ.j1:Nat→List ByteArray→Int→ByteArray→Bool→Option (Int × Int × Int × Int × Int × Bool)
 | 0,_,_,_,_=>none
 | k+1,x0,x4,x6,x34=>if x34=true then (aJ.l0 k x0 ((x4+1) % 256)) else (aJ.l1 k x0 x6 0 x4 0 0 0 0)
def aJ.l1:Nat→List ByteArray→ByteArray→Int→Int→Int→Int→Int→Int→Option (Int × Int × Int × Int × Int × Bool)
 | 0,_,_,_,_,_,_,_,_=>none
 | k+1,x0,x6,x8,JI,JH,JG,JF,JE=>if x8 < (x6.size:Int) then (if 0≤(wrap64 (x8+1)) then (if (wrap64 (x8+1)) < (x0.length:Int) then ((aH.f k (dY ByteArray.empty x0 (wrap64 (x8+1)))).bind fun G5=>(if 0≤x8 then ((bf.f k JI JH JG JF JE (bt x6 x8) G5.1).bind fun mf=>(if G5.2=0 then (if mf.2.2.2.2.2=true then (aJ.l1 k x0 x6 (wrap64 (x8+1)) mf.1 mf.2.1 mf.2.2.1 mf.2.2.2.1 mf.2.2.2.2.1) else (some (0,0,0,0,0,false))) else (some (0,0,0,0,0,false)))) else (none))) else (none)) else (none)) else (some (JI,JH,JG,JF,JE,true))
end
def aJ.f (k:Nat) (l0:List ByteArray):Option (Int × Int × Int × Int × Int × Bool):=aJ.l0 k l0 1
theorem aJ.iD:∀ k,(∀ y0 y1,dO (aJ.l0 k y0 y1) (aJ.l0 (k+1) y0 y1))∧(∀ y0 y1 y2 y3,dO (aJ.j1 k y0 y1 y2 y3) (aJ.j1 (k+1) y0 y1 y2 y3))∧(∀ y0 y1 y2 y3 y4 y5 y6 y7,dO (aJ.l1 k y0 y1 y2 y3 y4 y5 y6 y7) (aJ.l1 (k+1) y0 y1 y2 y3 y4 y5 y6 y7))
 | 0=>⟨fun _ _ r h=>by simp [aJ.l0] at h,fun _ _ _ _ r h=>by simp [aJ.j1] at h,fun _ _ _ _ _ _ _ _ r h=>by simp [aJ.l1] at h⟩
 | k+1=>by
  obtain ⟨lS,ih1,ih2⟩:=aJ.iD k
  refine ⟨?_,?_,?_⟩
  ·
   intro y0 y1
   unfold aJ.l0
   repeat' with_reducible first|apply lS|apply ih1|apply ih2|apply aH.mono|apply bf.mono|exact dO.refl _|exact dO.none _|refine dO.ite ?_ ?_|refine dO.bind ?_ (fun _=>?_)
  ·
   intro y0 y1 y2 y3
   unfold aJ.j1
   repeat' with_reducible first|apply lS|apply ih1|apply ih2|apply aH.mono|apply bf.mono|exact dO.refl _|exact dO.none _|refine dO.ite ?_ ?_|refine dO.bind ?_ (fun _=>?_)
  ·
   intro y0 y1 y2 y3 y4 y5 y6 y7
   unfold aJ.l1
   repeat' with_reducible first|apply lS|apply ih1|apply ih2|apply aH.mono|apply bf.mono|exact dO.refl _|exact dO.none _|refine dO.ite ?_ ?_|refine dO.bind ?_ (fun _=>?_)
theorem aJ.mono:∀ a0 k,dO (aJ.f k a0) (aJ.f (k+1) a0):=by
 intro a0 k
 obtain ⟨lS,ih1,ih2⟩:=aJ.iD k
 unfold aJ.f
 repeat' with_reducible first|apply lS|apply ih1|apply ih2|apply aH.mono|apply bf.mono|exact dO.refl _|exact dO.none _|refine dO.ite ?_ ?_|refine dO.bind ?_ (fun _=>?_)
def aJ.T11:Bool × List (List Nat × List Nat):=(true,[([],[]),([],[]),([],[]),([1,2],[1,2]),([],[]),([0,3,4],[0,3,4]),([5],[5]),([6],[6]),([6],[6]),([],[]),([9,7,5,0,1,2,3,4,5,6,7,9],[7,9]),([8,10,0,1,2,3,4,5,6,7,8,9,10],[8])])
def aJ.B11:List Nat:=[0,0,0,6,0,31,63,127,127,0,767,2047]
theorem aJ.Ph:qG .any (opsOf Tryd.f46 11)=aJ.T11:=by kernel_rfl
theorem aJ.I9:rO aJ.T11.2 aJ.B11=true:=by kernel_rfl
set_option maxHeartbeats 8000000 in
set_option maxRecDepth 100000 in
theorem aJ.calls (k:Nat) (A0:Option Addr) (c0:Nat) (l0:List ByteArray) (r1:Int) (r2:Int) (r3:Int) (r4:Int) (r5:Int) (r6:Bool) (w:World) (hr0:Kd.C Kd.string w A0 l0.length l0) (hc0:l0.length≤c0) (h:aJ.f k l0=some (r1,r2,r3,r4,r5,r6)) :
  Calls Tryd.prog 46 #[.slice A0 l0.length c0] w fun e w'=>e=.returned (.tuple #[.agg #[.int .u8 r1,.int .u8 r2,.int .u8 r3,.int .u8 r4,.int .i64 r5],.bool r6])∧Below w.heap.size w w':=by
 have BV:=Tryd.underlying55
 have HR0:=ae.mk hr0
 have sZ:=ae.mk hc0
 clear hr0 hc0
 have HB:=ae.mk (Below.refl w.heap.size w)
 have H:(aJ.l0 k l0 1)=some (r1,r2,r3,r4,r5,r6):=h
 clear h
 have H':=ae.mk H
 clear H
 go_enter Tryd.func46,Tryd.ntmps46
 go_wp2_with (first|((with_reducible refine bI (N:=2) rfl ?_);(try (refine nN (by rfl) ?_;dsimp only));refine fF ?hg (N:=2) ?hd (cs:=#[.int .u8 0,.int .u8 0,.int .u8 0,.int .u8 0,.int .i64 0]) (t:=55) ?hr ?_;(case hd=>rfl);(case hg=>rfl);(case hr=>first|(go_simp;done)|(go_simp;rfl));intro iP hg w2 hbox hb;have dV:=ae.mk (bn (by repeat (first|(with_reducible first|exact HB.out|apply ah|apply ag|apply ai)|exact HB.out)) hb);have dU:=ae.mk (hbox);have dR:=ae.mk ((by rw [hg];exact (bU (by repeat (first|(with_reducible first|exact HB.out|apply ah|apply ag|apply ai)|exact HB.out))):w.heap.size≤iP));have gZ:=dR;clear HB;have HB:=dV;have fM:=dU;have apY:=dR;have jK:=gZ;clear dV dU dR gZ;clear hb hbox hg))
 go_loopg [4] k (fun kq v4 w'=>∃ (tq:Int) (oO:Int) (nS:Int) (mX:Int) (lV:Int) (lG:Int),v4=.int .u8 tq∧ae (aJ.l0 kq l0 tq=some (r1,r2,r3,r4,r5,r6))∧ae (kq≤k)∧ae (w'.heap[iP]? = some (.cells #[.int .u8 oO,.int .u8 nS,.int .u8 mX,.int .u8 lV,.int .i64 lG] 55 (0,0)))∧ae (Below w.heap.size w w'))
 case atStart=>exact ⟨(1),(0),(0),(0),(0),(0),(by first|rfl|(simp;done)|(simp [*];done)),H',⟨Nat.le_refl _⟩,⟨by (with_reducible repeat (first|refine au ?_ _|refine ay ?_|refine ak ?_ _));exact fM.out⟩,⟨by repeat (first|(with_reducible first|exact HB.out|apply ah|apply ag|apply ai|refine aj ?_ jK.out)|exact HB.out)⟩⟩
 case round =>
  clear H'
  obtain ⟨tq,oO,nS,mX,lV,lG,rfl,HA,qO,fM,HB⟩:=hrel
  cases gk with
  | zero=>exact absurd HA.out (by simp [aJ.l0])
  | succ k1 =>
   have H:=HA.out
   clear HA
   simp only [aJ.l0] at H
   by_cases c3:tq≤15
   ·
    rw [if_pos c3] at H
    have ou:decide (tq≤15)=true:=decide_eq_true c3
    clear c3
    replace H:=Option.bind_eq_some_iff.mp H
    obtain ⟨⟨t111,t112⟩,BL,H⟩:=H
    replace H:(if 0 < (l0.length:Int) then (if (dY ByteArray.empty l0 0).toList=t111.toList then (aJ.j1 k1 l0 tq t112 ((l0.length:Int) != (wrap64 ((t112.size:Int)+1)))) else (aJ.j1 k1 l0 tq t112 true)) else (none))=some (r1,r2,r3,r4,r5,r6):=H
    have A4:=ae.mk BL
    clear BL
    have Jk:=ae.mk H
    clear H
    go_upto_region 5 with (first|((with_reducible refine bz (f:=45) rfl ?_);refine dS (some 19) rfl rfl Tryd.func45 (by kernel_rfl) rfl #[.int .u8 tq] rfl (by (try simp only [List.map_toArray,List.map_cons,List.map_nil]);first|done|rfl|(simp only [List.length_drop,List.length_take];rfl)) ?_;(with_reducible refine (fG.calls tq t111 t112 _ A4.out).mono ?_);rintro e w' ⟨rfl,⟨nd,rfl⟩⟩;refine ⟨_,rfl,?_⟩))
    (try simp only [Act.put,List.setIfInBounds_toArray,List.set_cons_zero,List.set_cons_succ])
    go_cut [34] (fun v34 wc=>∃ (kq:Nat) (Jn:Bool),v34=.bool Jn∧ae (aJ.j1 kq l0 tq t112 Jn=some (r1,r2,r3,r4,r5,r6))∧ae (kq≤k1)∧ae (wc.heap[iP]? = some (.cells #[.int .u8 oO,.int .u8 nS,.int .u8 mX,.int .u8 lV,.int .i64 lG] 55 (0,0)))∧ae (Below w.heap.size w wc))
    case first =>
     have H:=Jk.out
     clear Jk
     by_cases c6:0 < (l0.length:Int)
     ·
      rw [if_pos c6] at H
      have oH:decide (0 < (l0.length:Int))=true:=decide_eq_true c6
      have yC:decide (0 < l0.length)=true:=decide_eq_true (by omega)
      clear c6
      (first|rw [oH]|(simp only [bW,cu];rw [oH])|skip)
      by_cases c7:(dY ByteArray.empty l0 0).toList=t111.toList
      ·
       rw [if_pos c7] at H
       have oM:((dY ByteArray.empty l0 0).toList == t111.toList)=true:=beq_iff_eq.mpr c7
       have xR:((dY ByteArray.empty l0 0).toList != t111.toList)=false:=bne_eq_false_iff_eq.mpr c7
       clear c7
       have H':=ae.mk H
       clear H
       have Iw:0≤(0:Int):=(by omega)
       have Ig:0 < (l0.length:Int):=of_decide_eq_true (by first|(with_reducible assumption)|assumption)
       obtain ⟨aeI,aat,pg⟩:=Kd.kN HR0.out 0 Iw Ig
       cases aat
       have abP:(0 < l0.length)=True:=eq_true (by omega)
       (try rw [show ((0:Int)).toNat=0 from rfl] at pg)
       (try rw [Addr.add_zero'] at pg)
       replace pg:=(HB.out.cell (World.block_lt_of_cell? w _ pg)).trans pg
       replace Iw:=eq_true Iw
       replace Ig:=eq_true Ig
       go_wp2
       go_meet
       case rel=>exact ⟨_,(((l0.length:Int) != (wrap64 ((t112.size:Int)+1)))),(by first|rfl|(simp;done)|(simp [*];done)),H',⟨by have:=qO.out;first|omega|exact Nat.le_refl _⟩,⟨by (with_reducible repeat (first|refine au ?_ _|refine ay ?_|refine ak ?_ _));exact fM.out⟩,⟨by repeat (first|(with_reducible first|exact HB.out|apply ah|apply ag|apply ai|refine aj ?_ jK.out)|exact HB.out)⟩⟩
      ·
       rw [if_neg c7] at H
       have oM:((dY ByteArray.empty l0 0).toList == t111.toList)=false:=beq_eq_false_iff_ne.mpr c7
       have xR:((dY ByteArray.empty l0 0).toList != t111.toList)=true:=bne_iff_ne.mpr c7
       have H':=ae.mk H
       clear H
       have Iw:0≤(0:Int):=(by omega)
       have Ig:0 < (l0.length:Int):=of_decide_eq_true (by first|(with_reducible assumption)|assumption)
       obtain ⟨aeI,aat,pg⟩:=Kd.kN HR0.out 0 Iw Ig
       cases aat
       have abP:(0 < l0.length)=True:=eq_true (by omega)
       (try rw [show ((0:Int)).toNat=0 from rfl] at pg)
       (try rw [Addr.add_zero'] at pg)
       replace pg:=(HB.out.cell (World.block_lt_of_cell? w _ pg)).trans pg
       replace Iw:=eq_true Iw
       replace Ig:=eq_true Ig
       go_wp2
       go_meet
       case rel=>exact ⟨_,(true),(by first|rfl|(simp;done)|(simp [*];done)),H',⟨by have:=qO.out;first|omega|exact Nat.le_refl _⟩,⟨by (with_reducible repeat (first|refine au ?_ _|refine ay ?_|refine ak ?_ _));exact fM.out⟩,⟨by repeat (first|(with_reducible first|exact HB.out|apply ah|apply ag|apply ai|refine aj ?_ jK.out)|exact HB.out)⟩⟩
     ·
      rw [if_neg c6] at H
      exact absurd H (by simp)
    case rest =>
     clear Jk
     obtain ⟨kq,Jn,rfl,HA,Jj,fM,HB⟩:=hcut
     cases kq with
     | zero=>exact absurd HA.out (by simp [aJ.j1])
     | succ vK =>
      have H:=HA.out
      clear HA
      simp only [aJ.j1] at H
      by_cases c8:Jn=true
      ·
       subst c8
       have H1:(aJ.l0 vK l0 ((tq+1) % 256))=some (r1,r2,r3,r4,r5,r6):=by rw [if_pos rfl] at H;exact H
       clear H
       have H:=H1
       clear H1
       have H':=ae.mk H
       clear H
       go_wp2
       go_roundg vK
       case measure=>have:=qO.out;have:=Jj.out;omega
       case rel=>exact ⟨((tq+1) % 256),(oO),(nS),(mX),(lV),(lG),(by first|rfl|(simp;done)|(simp [*];done)),H',⟨by have:=qO.out;have:=Jj.out;omega⟩,⟨by (with_reducible repeat (first|refine au ?_ _|refine ay ?_|refine ak ?_ _));exact fM.out⟩,⟨by repeat (first|(with_reducible first|exact HB.out|apply ah|apply ag|apply ai|refine aj ?_ jK.out)|exact HB.out)⟩⟩
      ·
       replace c8:=Bool.eq_false_iff.mpr c8
       subst c8
       have H1:(aJ.l1 vK l0 t112 0 tq 0 0 0 0)=some (r1,r2,r3,r4,r5,r6):=by rw [if_neg (show ¬ (false=true) by decide)] at H;exact H
       clear H
       have H:=H1
       clear H1
       have H':=ae.mk H
       clear H
       go_wp2_with (first|((with_reducible refine bI (N:=7) rfl ?_);(try (refine nN (by rfl) ?_;dsimp only));refine fF ?hg (N:=7) ?hd (cs:=#[.int .u8 0,.int .u8 0,.int .u8 0,.int .u8 0,.int .i64 0]) (t:=55) ?hr ?_;(case hd=>rfl);(case hg=>rfl);(case hr=>first|(go_simp;done)|(go_simp;rfl));intro eP hg w9 hbox hb;have dV:=ae.mk (bg (g:=iP) (o:=.cells #[.int .u8 oO,.int .u8 nS,.int .u8 mX,.int .u8 lV,.int .i64 lG] 55 (0,0)) (by (with_reducible repeat (first|refine au ?_ _|refine ay ?_|refine ak ?_ _));exact fM.out) hb);have dU:=ae.mk (bn (by repeat (first|(with_reducible first|exact HB.out|apply ah|apply ag|apply ai|refine aj ?_ jK.out)|exact HB.out)) hb);have dR:=ae.mk (hbox);have gZ:=ae.mk ((by rw [hg];exact (bU (by repeat (first|(with_reducible first|exact HB.out|apply ah|apply ag|apply ai|refine aj ?_ jK.out)|exact HB.out))):w.heap.size≤eP));have l9:=gZ;have mY:=ae.mk ((by rw [hg];exact Nat.ne_of_lt (kK (g:=iP) (o:=.cells #[.int .u8 oO,.int .u8 nS,.int .u8 mX,.int .u8 lV,.int .i64 lG] 55 (0,0)) (by (with_reducible repeat (first|refine au ?_ _|refine ay ?_|refine ak ?_ _));exact fM.out)):iP ≠ eP));have nY:=ae.mk mY.out.symm;clear fM;clear HB;have fM:=dV;have HB:=dU;have bY:=dR;have Nr:=gZ;have jH:=l9;have ku:=mY;have sU:=nY;clear dV dU dR gZ l9 mY nY;clear hb hbox hg;have aoI:=sU.out;have aoh:=ku.out;obtain ⟨zS,zQ,zO,zN,XB,zI,zH,zG,zF,VL⟩:=jZ bY.out))
       go_loopg [8] vK (fun kq v8 w'=>∃ (nH:Int) (gG:Int) (gu:Int) (fQ:Int) (fH:Int) (eX:Int) (dL:Int) (dK:Int) (dJ:Int) (dI:Int) (dH:Int),v8=.int .i64 nH∧ae (aJ.l1 kq l0 t112 nH dL dK dJ dI dH=some (r1,r2,r3,r4,r5,r6))∧ae (kq≤vK)∧ae (w'.heap[iP]? = some (.cells #[.int .u8 gG,.int .u8 gu,.int .u8 fQ,.int .u8 fH,.int .i64 eX] 55 (0,0)))∧ae (w'.heap[eP]? = some (.cells #[.int .u8 dL,.int .u8 dK,.int .u8 dJ,.int .u8 dI,.int .i64 dH] 55 (0,0)))∧ae (Below w.heap.size w w'))
       case atStart=>exact ⟨(0),(oO),(nS),(mX),(lV),(lG),(tq),(0),(0),(0),(0),(by first|rfl|(simp;done)|(simp [*];done)),H',⟨Nat.le_refl _⟩,⟨by (with_reducible repeat (first|refine au ?_ _|refine ay ?_|refine ak ?_ _));refine fV ?_ ku.out _;(with_reducible repeat (first|refine au ?_ _|refine ay ?_|refine ak ?_ _));refine fV ?_ ku.out _;(with_reducible repeat (first|refine au ?_ _|refine ay ?_|refine ak ?_ _));refine fV ?_ ku.out _;(with_reducible repeat (first|refine au ?_ _|refine ay ?_|refine ak ?_ _));refine fV ?_ ku.out _;(with_reducible repeat (first|refine au ?_ _|refine ay ?_|refine ak ?_ _));refine fV ?_ ku.out _;(with_reducible repeat (first|refine au ?_ _|refine ay ?_|refine ak ?_ _));exact fM.out⟩,⟨by (with_reducible repeat (first|refine au ?_ _|refine ay ?_|refine ak ?_ _));refine dQ (cs:=#[.int .u8 tq,.int .u8 0,.int .u8 0,.int .u8 0,.int .i64 0]) ?_ 4 _ rfl;(with_reducible repeat (first|refine au ?_ _|refine ay ?_|refine ak ?_ _));refine dQ (cs:=#[.int .u8 tq,.int .u8 0,.int .u8 0,.int .u8 0,.int .i64 0]) ?_ 3 _ rfl;(with_reducible repeat (first|refine au ?_ _|refine ay ?_|refine ak ?_ _));refine dQ (cs:=#[.int .u8 tq,.int .u8 0,.int .u8 0,.int .u8 0,.int .i64 0]) ?_ 2 _ rfl;(with_reducible repeat (first|refine au ?_ _|refine ay ?_|refine ak ?_ _));refine dQ (cs:=#[.int .u8 tq,.int .u8 0,.int .u8 0,.int .u8 0,.int .i64 0]) ?_ 1 _ rfl;(with_reducible repeat (first|refine au ?_ _|refine ay ?_|refine ak ?_ _));refine dQ (cs:=#[.int .u8 0,.int .u8 0,.int .u8 0,.int .u8 0,.int .i64 0]) ?_ 0 _ rfl;(with_reducible repeat (first|refine au ?_ _|refine ay ?_|refine ak ?_ _));exact bY.out⟩,⟨by repeat (first|(with_reducible first|exact HB.out|apply ah|apply ag|apply ai|refine aj ?_ jK.out|refine aj ?_ jH.out)|exact HB.out)⟩⟩
       case round =>
        clear H'
        obtain ⟨nH,gG,gu,fQ,fH,eX,dL,dK,dJ,dI,dH,rfl,HA,xZ,fM,bY,HB⟩:=hrel
        cases gk with
        | zero=>exact absurd HA.out (by simp [aJ.l1])
        | succ k3 =>
         have H:=HA.out
         clear HA
         simp only [aJ.l1] at H
         by_cases c12:nH < (t112.size:Int)
         ·
          rw [if_pos c12] at H
          have wY:decide (nH < (t112.size:Int))=true:=decide_eq_true c12
          clear c12
          obtain ⟨pK,xB⟩:∃ j_:Int,(wrap64 (nH+1))=j_:=⟨_,rfl⟩
          replace H:(if 0≤(pK) then (if (pK) < (l0.length:Int) then ((aH.f k3 (dY ByteArray.empty l0 (pK))).bind fun G5=>(if 0≤nH then ((bf.f k3 dL dK dJ dI dH (bt t112 nH) G5.1).bind fun mf=>(if G5.2=0 then (if mf.2.2.2.2.2=true then (aJ.l1 k3 l0 t112 pK mf.1 mf.2.1 mf.2.2.1 mf.2.2.2.1 mf.2.2.2.2.1) else (some (0,0,0,0,0,false))) else (some (0,0,0,0,0,false)))) else (none))) else (none)) else (none))=some (r1,r2,r3,r4,r5,r6):=by first|(rw [xB] at H;exact H)|(simp only [xB] at H ⊢;exact H)
          have amc:(IntKind.i64.wrap (nH+1))=pK:=(bW _).trans xB
          by_cases c14:0≤(pK)
          ·
           rw [if_pos c14] at H
           have DC:decide (0≤(pK))=true:=decide_eq_true c14
           clear c14
           by_cases c15:(pK) < (l0.length:Int)
           ·
            rw [if_pos c15] at H
            have qK:decide ((pK) < (l0.length:Int))=true:=decide_eq_true c15
            clear c15
            replace H:=Option.bind_eq_some_iff.mp H
            obtain ⟨⟨t116,t117⟩,Hq,H⟩:=H
            replace H:(if 0≤nH then ((bf.f k3 dL dK dJ dI dH (bt t112 nH) t116).bind fun mf=>(if t117=0 then (if mf.2.2.2.2.2=true then (aJ.l1 k3 l0 t112 pK mf.1 mf.2.1 mf.2.2.1 mf.2.2.2.1 mf.2.2.2.2.1) else (some (0,0,0,0,0,false))) else (some (0,0,0,0,0,false)))) else (none))=some (r1,r2,r3,r4,r5,r6):=H
            have A16:=ae.mk Hq
            clear Hq
            by_cases c17:0≤nH
            ·
             rw [if_pos c17] at H
             have yQ:decide (0≤nH)=true:=decide_eq_true c17
             clear c17
             replace H:=Option.bind_eq_some_iff.mp H
             obtain ⟨⟨t118,t119,t120,t121,t122,t123⟩,Ho,H⟩:=H
             replace H:(if t117=0 then (if t123=true then (aJ.l1 k3 l0 t112 pK t118 t119 t120 t121 t122) else (some (0,0,0,0,0,false))) else (some (0,0,0,0,0,false)))=some (r1,r2,r3,r4,r5,r6):=H
             have Sv:=ae.mk Ho
             clear Ho
             by_cases c20:t117=0
             ·
              rw [if_pos c20] at H
              have YY:(t117 == 0)=true:=beq_iff_eq.mpr c20
              have aex:(t117 != 0)=false:=bne_eq_false_iff_eq.mpr c20
              clear c20
              by_cases c21:t123=true
              ·
               subst c21
               have H1:(aJ.l1 k3 l0 t112 pK t118 t119 t120 t121 t122)=some (r1,r2,r3,r4,r5,r6):=by rw [if_pos rfl] at H;exact H
               clear H
               have H:=H1
               clear H1
               have H':=ae.mk H
               clear H
               have Ar:0≤((pK):Int):=of_decide_eq_true (by first|(with_reducible assumption)|assumption)
               have Ap:(pK) < (l0.length:Int):=of_decide_eq_true (by first|(with_reducible assumption)|assumption)
               obtain ⟨Y2,e115,o9⟩:=Kd.kN HR0.out (pK) Ar Ap
               cases e115
               replace o9:=(HB.out.cell (World.block_lt_of_cell? w _ o9)).trans o9
               replace Ar:=eq_true Ar
               replace Ap:=eq_true Ap
               try go_wp2_with (first|((with_reducible refine bz (f:=64) rfl ?_);refine dS (some 49) rfl rfl Tryd.func64 (by kernel_rfl) rfl #[.string (dY ByteArray.empty l0 (pK))] rfl (by (try simp only [List.map_toArray,List.map_cons,List.map_nil]);first|done|(simp only [xB];rfl)|rfl|(simp only [List.length_drop,List.length_take];rfl)) ?_;(with_reducible refine (aH.calls k3 (dY ByteArray.empty l0 (pK)) t116 t117 _ A16.out).mono ?_);rintro e w' ⟨rfl,⟨nd,rfl⟩⟩;refine ⟨_,rfl,?_⟩;(try (rw [rE wr];generalize BK:World.drewN wr _=wr;have dV:ae (wr.heap[iP]? = some (.cells #[.int .u8 gG,.int .u8 gu,.int .u8 fQ,.int .u8 fH,.int .i64 eX] 55 (0,0))):=⟨by rw [← BK];exact (by (with_reducible repeat (first|refine au ?_ _|refine ay ?_|refine ak ?_ _));exact fM.out)⟩;have dU:ae (wr.heap[eP]? = some (.cells #[.int .u8 dL,.int .u8 dK,.int .u8 dJ,.int .u8 dI,.int .i64 dH] 55 (0,0))):=⟨by rw [← BK];exact (by (with_reducible repeat (first|refine au ?_ _|refine ay ?_|refine ak ?_ _));exact bY.out)⟩;have dR:ae (Below w.heap.size w wr):=⟨by rw [← BK];exact (by repeat (first|(with_reducible first|exact HB.out|apply ah|apply ag|apply ai|refine aj ?_ jK.out|refine aj ?_ jH.out)|exact HB.out))⟩;clear fM bY HB BK;have fM:=dV;have bY:=dU;have HB:=dR;clear dV dU dR))))
               have dV:=ae.mk (ay fM.out)
               have dU:=ae.mk (ay bY.out)
               have dR:=ae.mk (ai HB.out)
               clear fM
               clear bY
               clear HB
               have fM:=dV
               have bY:=dU
               have HB:=dR
               clear dV dU dR
               have FV:0≤(nH:Int):=of_decide_eq_true (by first|(with_reducible assumption)|assumption)
               have FQ:nH < (t112.size:Int):=of_decide_eq_true (by first|(with_reducible assumption)|assumption)
               have P5:=kR t112 nH
               replace FV:=eq_true FV
               replace FQ:=eq_true FQ
               refine rf (n:=12) (S:=fun w'=>w'.cell? ⟨eP,0,none⟩=some (.int .u8 dL)∧w'.cell? ⟨eP,1,none⟩=some (.int .u8 dK)∧w'.cell? ⟨eP,2,none⟩=some (.int .u8 dJ)∧w'.cell? ⟨eP,3,none⟩=some (.int .u8 dI)∧w'.cell? ⟨eP,4,none⟩=some (.int .i64 dH)) (ds:=[]) #[false,false,false,false,false,false,false,false,false,false,false,false] (by kernel_rfl) rfl rfl ⟨(ax bY.out 0).trans rfl,(ax bY.out 1).trans rfl,(ax bY.out 2).trans rfl,(ax bY.out 3).trans rfl,(ax bY.out 4).trans rfl⟩ (fun hHeld=>?_);refine qV aJ.Ph aJ.I9 (fun lL Cf=>?_)
               generalize wr.drew=Zl at fM bY HB hHeld ⊢
               refine iy (i:=1) (N:=some 54) (v:=?_) (a':=?_) #[false,true,false,false,false,false,false,false,false,false,false,false] rfl rfl (iO lL.out (by kernel_rfl)) (fun _ _ _ h=>h) (Or.inl ⟨by rfl,?_⟩) ?_ ?_
               rotate_left
               ·
                intro w'
                go_simp
                with_reducible rfl
               rotate_left
               ·
                simp only [Act.put,List.setIfInBounds_toArray,List.set_cons_zero,List.set_cons_succ,bW,cu]
                rfl
               refine iy (i:=2) (N:=some 55) (v:=?_) (a':=?_) #[false,true,true,false,false,false,false,false,false,false,false,false] rfl rfl (iO lL.out (by kernel_rfl)) (fun _ _ _ h=>h) (Or.inl ⟨by rfl,?_⟩) ?_ ?_
               rotate_left
               ·
                intro w'
                go_simp
                with_reducible rfl
               rotate_left
               ·
                simp only [Act.put,List.setIfInBounds_toArray,List.set_cons_zero,List.set_cons_succ,bW,cu]
                rfl
               refine iy (i:=4) (N:=some 57) (v:=?_) (a':=?_) #[false,true,true,false,true,false,false,false,false,false,false,false] rfl rfl (iO lL.out (by kernel_rfl)) (fun _ _ _ h=>h) (Or.inl ⟨by rfl,?_⟩) ?_ ?_
               rotate_left
               ·
                intro w'
                go_simp
                with_reducible rfl
               rotate_left
               ·
                simp only [Act.put,List.setIfInBounds_toArray,List.set_cons_zero,List.set_cons_succ,bW,cu]
                rfl
               refine kU (i:=0) (N:=some 53) (v:=?_) (a':=?_) #[true,true,true,false,true,false,false,false,false,false,false,false] rfl rfl (kQ lL.out Cf.out (by kernel_rfl)) (fun _ _ _ h=>h) (Or.inl ⟨by rfl,?_⟩) hHeld ?_ ?_
               rotate_left
               ·
                rintro w' ⟨s0,s1,s2,s3,s4⟩
                go_simp
                with_reducible rfl
               rotate_left
               ·
                simp only [Act.put,List.setIfInBounds_toArray,List.set_cons_zero,List.set_cons_succ,bW,cu]
                rfl
               refine kU (i:=3) (N:=some 56) (v:=?_) (a':=?_) #[true,true,true,true,true,false,false,false,false,false,false,false] rfl rfl (kQ lL.out Cf.out (by kernel_rfl)) (fun _ _ _ h=>h) (Or.inl ⟨by rfl,?_⟩) hHeld ?_ ?_
               rotate_left
               ·
                rintro w' ⟨s0,s1,s2,s3,s4⟩
                go_simp
                with_reducible rfl
               rotate_left
               ·
                simp only [Act.put,List.setIfInBounds_toArray,List.set_cons_zero,List.set_cons_succ,bW,cu]
                rfl
               refine JZ (σ:=Nat) 2 #[true,true,true,true,true,true,true,true,true,true,false,false] (fun s_=>[(58,.tuple #[.agg #[.int .u8 t118,.int .u8 t119,.int .u8 t120,.int .u8 t121,.int .i64 t122],.bool true]),(11,.pointer (some ⟨s_,0,none⟩)),(52,.tuple #[.agg #[.int .u8 t118,.int .u8 t119,.int .u8 t120,.int .u8 t121,.int .i64 t122],.bool true]),(59,.agg #[.int .u8 t118,.int .u8 t119,.int .u8 t120,.int .u8 t121,.int .i64 t122]),(60,.bool true)]) (fun s_ w'=>(w'.cell? ⟨eP,0,none⟩=some (.int .u8 dL)∧w'.cell? ⟨eP,1,none⟩=some (.int .u8 dK)∧w'.cell? ⟨eP,2,none⟩=some (.int .u8 dJ)∧w'.cell? ⟨eP,3,none⟩=some (.int .u8 dI)∧w'.cell? ⟨eP,4,none⟩=some (.int .i64 dH))∧(w'.heap[iP]? = some (.cells #[.int .u8 gG,.int .u8 gu,.int .u8 fQ,.int .u8 fH,.int .i64 eX] 55 (0,0)))∧(w'.heap[eP]? = some (.cells #[.int .u8 dL,.int .u8 dK,.int .u8 dJ,.int .u8 dI,.int .i64 dH] 55 (0,0)))∧(w'.heap[s_]? = some (.cells #[.int .u8 0,.int .u8 0,.int .u8 0,.int .u8 0,.int .i64 0] 55 (0,0)))∧(w.heap.size≤s_)∧(w.heap.size≤s_)∧(iP ≠ s_)∧(s_ ≠ iP)∧(eP ≠ s_)∧(s_ ≠ eP)∧(Below w.heap.size w w')) ?_ ?_
               rotate_left
               ·
                intro yO
                refine Tn (i:=5) (j:=9) (Ni:=some 58) (Nj:=some 11) #[true,true,true,true,true,true,false,false,false,false,false,false] #[true,true,true,true,true,false,false,false,false,true,false,false] rfl rfl rfl rfl (H5 lL.out (by kernel_rfl)) (by decide) (by decide) (fun K hK=>?_) (fun K hK=>?_)
                ·
                 skip
                 refine qy Tryd.func65 (by kernel_rfl) rfl #[.agg #[.int .u8 dL,.int .u8 dK,.int .u8 dJ,.int .u8 dI,.int .i64 dH],.int .u8 (bt t112 nH),.int .i64 t116] (by rfl) rfl rfl (by (try simp only [List.map_toArray,List.map_cons,List.map_nil]);first|done|rfl|(simp only [List.length_drop,List.length_take];rfl)) ?_
                 with_reducible refine (bf.calls k3 dL dK dJ dI dH (bt t112 nH) t116 t118 t119 t120 t121 t122 true _ Sv.out).mono ?_
                 rintro e w23 ⟨rfl,hb⟩
                 refine ⟨_,rfl,?_⟩
                 have dV:=ae.mk (bg (g:=iP) (o:=.cells #[.int .u8 gG,.int .u8 gu,.int .u8 fQ,.int .u8 fH,.int .i64 eX] 55 (0,0)) (by (with_reducible repeat (first|refine au ?_ _|refine ay ?_|refine ak ?_ _));exact fM.out) hb)
                 have dU:=ae.mk (bg (g:=eP) (o:=.cells #[.int .u8 dL,.int .u8 dK,.int .u8 dJ,.int .u8 dI,.int .i64 dH] 55 (0,0)) (by (with_reducible repeat (first|refine au ?_ _|refine ay ?_|refine ak ?_ _));exact bY.out) hb)
                 have dR:=ae.mk (bn (by repeat (first|(with_reducible first|exact HB.out|apply ah|apply ag|apply ai|refine aj ?_ jK.out|refine aj ?_ jH.out)|exact HB.out)) hb)
                 clear fM
                 clear bY
                 clear HB
                 have fM:=dV
                 have bY:=dU
                 have HB:=dR
                 clear dV dU dR
                 (try clear hb)
                 (try clear hb2)
                 (try clear hk)
                 (try clear hi)
                 refine hK.out _ _ ⟨(ax bY.out 0).trans rfl,(ax bY.out 1).trans rfl,(ax bY.out 2).trans rfl,(ax bY.out 3).trans rfl,(ax bY.out 4).trans rfl⟩ (fun hHeld=>?_)
                 clear hK K
                 refine ji (a':=?_) ?_ ?_
                 rotate_left
                 ·
                  show Act.put _ (some 58) _=_
                  simp only [Act.put,List.setIfInBounds_toArray,List.set_cons_zero,List.set_cons_succ,bW,cu]
                  rfl
                 refine iy (i:=6) (N:=some 52) (v:=?_) (a':=?_) #[true,true,true,true,true,true,true,false,false,false,false,false] rfl rfl (iO lL.out (by kernel_rfl)) (fun _ _ _ h=>h) (Or.inl ⟨by rfl,?_⟩) ?_ ?_
                 rotate_left
                 ·
                  intro w'
                  go_simp
                  with_reducible rfl
                 rotate_left
                 ·
                  simp only [Act.put,List.setIfInBounds_toArray,List.set_cons_zero,List.set_cons_succ,bW,cu]
                  rfl
                 refine iy (i:=7) (N:=some 59) (v:=?_) (a':=?_) #[true,true,true,true,true,true,true,true,false,false,false,false] rfl rfl (iO lL.out (by kernel_rfl)) (fun _ _ _ h=>h) (Or.inl ⟨by rfl,?_⟩) ?_ ?_
                 rotate_left
                 ·
                  intro w'
                  go_simp
                  with_reducible rfl
                 rotate_left
                 ·
                  simp only [Act.put,List.setIfInBounds_toArray,List.set_cons_zero,List.set_cons_succ,bW,cu]
                  rfl
                 refine iy (i:=8) (N:=some 60) (v:=?_) (a':=?_) #[true,true,true,true,true,true,true,true,true,false,false,false] rfl rfl (iO lL.out (by kernel_rfl)) (fun _ _ _ h=>h) (Or.inl ⟨by rfl,?_⟩) ?_ ?_
                 rotate_left
                 ·
                  intro w'
                  go_simp
                  with_reducible rfl
                 rotate_left
                 ·
                  simp only [Act.put,List.setIfInBounds_toArray,List.set_cons_zero,List.set_cons_succ,bW,cu]
                  rfl
                 refine o6 (i:=9) (N:=some 11) #[true,true,true,true,true,true,true,true,true,true,false,false] rfl rfl (nJ lL.out (by kernel_rfl)) (by decide) (fun K hK=>?_)
                 refine sS ?hg (N:=11) ?hd (cs:=#[.int .u8 0,.int .u8 0,.int .u8 0,.int .u8 0,.int .i64 0]) (t:=55) ?hr ?_;(case hd=>rfl);(case hg=>rfl);(case hr=>first|(go_simp;done)|(go_simp;rfl))
                 intro dE hg Tj hbox hb
                 have dV:=ae.mk (bg (g:=iP) (o:=.cells #[.int .u8 gG,.int .u8 gu,.int .u8 fQ,.int .u8 fH,.int .i64 eX] 55 (0,0)) (by (with_reducible repeat (first|refine au ?_ _|refine ay ?_|refine ak ?_ _));exact fM.out) hb)
                 have dU:=ae.mk (bg (g:=eP) (o:=.cells #[.int .u8 dL,.int .u8 dK,.int .u8 dJ,.int .u8 dI,.int .i64 dH] 55 (0,0)) (by (with_reducible repeat (first|refine au ?_ _|refine ay ?_|refine ak ?_ _));exact bY.out) hb)
                 have dR:=ae.mk (bn (by repeat (first|(with_reducible first|exact HB.out|apply ah|apply ag|apply ai|refine aj ?_ jK.out|refine aj ?_ jH.out)|exact HB.out)) hb)
                 have gZ:=ae.mk (hbox)
                 have l9:=ae.mk ((by rw [hg];exact (bU (by repeat (first|(with_reducible first|exact HB.out|apply ah|apply ag|apply ai|refine aj ?_ jK.out|refine aj ?_ jH.out)|exact HB.out))):w.heap.size≤dE))
                 have mY:=l9
                 have nY:=ae.mk ((by rw [hg];exact Nat.ne_of_lt (kK (g:=iP) (o:=.cells #[.int .u8 gG,.int .u8 gu,.int .u8 fQ,.int .u8 fH,.int .i64 eX] 55 (0,0)) (by (with_reducible repeat (first|refine au ?_ _|refine ay ?_|refine ak ?_ _));exact fM.out)):iP ≠ dE))
                 have wV:=ae.mk nY.out.symm
                 have wU:=ae.mk ((by rw [hg];exact Nat.ne_of_lt (kK (g:=eP) (o:=.cells #[.int .u8 dL,.int .u8 dK,.int .u8 dJ,.int .u8 dI,.int .i64 dH] 55 (0,0)) (by (with_reducible repeat (first|refine au ?_ _|refine ay ?_|refine ak ?_ _));exact bY.out)):eP ≠ dE))
                 have yM:=ae.mk wU.out.symm
                 clear fM
                 clear bY
                 clear HB
                 have fM:=dV
                 have bY:=dU
                 have HB:=dR
                 have iU:=gZ
                 have rV:=l9
                 have mg:=mY
                 have eH:=nY
                 have gK:=wV
                 have bG:=wU
                 have ik:=yM
                 clear dV dU dR gZ l9 mY nY wV wU yM
                 clear hb hbox hg
                 refine hK.out _ _ ⟨(ax bY.out 0).trans rfl,(ax bY.out 1).trans rfl,(ax bY.out 2).trans rfl,(ax bY.out 3).trans rfl,(ax bY.out 4).trans rfl⟩ (fun hHeld=>?_)
                 clear hK K
                 refine ji (a':=?_) ?_ ?_
                 rotate_left
                 ·
                  show Act.put _ (some 11) _=_
                  simp only [Act.put,List.setIfInBounds_toArray,List.set_cons_zero,List.set_cons_succ,bW,cu]
                  rfl
                 exact ji (by simp only [lW,Act.put,List.setIfInBounds_toArray,List.set_cons_zero,List.set_cons_succ]) (yO (dE) _ ⟨hHeld,(by (with_reducible repeat (first|refine au ?_ _|refine ay ?_|refine ak ?_ _));exact fM.out),(by (with_reducible repeat (first|refine au ?_ _|refine ay ?_|refine ak ?_ _));exact bY.out),(by (with_reducible repeat (first|refine au ?_ _|refine ay ?_|refine ak ?_ _));exact iU.out),rV.out,mg.out,eH.out,gK.out,bG.out,ik.out,(by repeat (first|(with_reducible first|exact HB.out|apply ah|apply ag|apply ai|refine aj ?_ jK.out|refine aj ?_ jH.out|refine aj ?_ mg.out)|exact HB.out))⟩)
                ·
                 skip
                 refine sS ?hg (N:=11) ?hd (cs:=#[.int .u8 0,.int .u8 0,.int .u8 0,.int .u8 0,.int .i64 0]) (t:=55) ?hr ?_;(case hd=>rfl);(case hg=>rfl);(case hr=>first|(go_simp;done)|(go_simp;rfl))
                 intro dE hg w23 hbox hb
                 have dV:=ae.mk (bg (g:=iP) (o:=.cells #[.int .u8 gG,.int .u8 gu,.int .u8 fQ,.int .u8 fH,.int .i64 eX] 55 (0,0)) (by (with_reducible repeat (first|refine au ?_ _|refine ay ?_|refine ak ?_ _));exact fM.out) hb)
                 have dU:=ae.mk (bg (g:=eP) (o:=.cells #[.int .u8 dL,.int .u8 dK,.int .u8 dJ,.int .u8 dI,.int .i64 dH] 55 (0,0)) (by (with_reducible repeat (first|refine au ?_ _|refine ay ?_|refine ak ?_ _));exact bY.out) hb)
                 have dR:=ae.mk (bn (by repeat (first|(with_reducible first|exact HB.out|apply ah|apply ag|apply ai|refine aj ?_ jK.out|refine aj ?_ jH.out)|exact HB.out)) hb)
                 have gZ:=ae.mk (hbox)
                 have l9:=ae.mk ((by rw [hg];exact (bU (by repeat (first|(with_reducible first|exact HB.out|apply ah|apply ag|apply ai|refine aj ?_ jK.out|refine aj ?_ jH.out)|exact HB.out))):w.heap.size≤dE))
                 have mY:=l9
                 have nY:=ae.mk ((by rw [hg];exact Nat.ne_of_lt (kK (g:=iP) (o:=.cells #[.int .u8 gG,.int .u8 gu,.int .u8 fQ,.int .u8 fH,.int .i64 eX] 55 (0,0)) (by (with_reducible repeat (first|refine au ?_ _|refine ay ?_|refine ak ?_ _));exact fM.out)):iP ≠ dE))
                 have wV:=ae.mk nY.out.symm
                 have wU:=ae.mk ((by rw [hg];exact Nat.ne_of_lt (kK (g:=eP) (o:=.cells #[.int .u8 dL,.int .u8 dK,.int .u8 dJ,.int .u8 dI,.int .i64 dH] 55 (0,0)) (by (with_reducible repeat (first|refine au ?_ _|refine ay ?_|refine ak ?_ _));exact bY.out)):eP ≠ dE))
                 have yM:=ae.mk wU.out.symm
                 clear fM
                 clear bY
                 clear HB
                 have fM:=dV
                 have bY:=dU
                 have HB:=dR
                 have iU:=gZ
                 have rV:=l9
                 have mg:=mY
                 have eH:=nY
                 have gK:=wV
                 have bG:=wU
                 have ik:=yM
                 clear dV dU dR gZ l9 mY nY wV wU yM
                 clear hb hbox hg
                 refine hK.out _ _ ⟨(ax bY.out 0).trans rfl,(ax bY.out 1).trans rfl,(ax bY.out 2).trans rfl,(ax bY.out 3).trans rfl,(ax bY.out 4).trans rfl⟩ (fun hHeld=>?_)
                 clear hK K
                 refine ji (a':=?_) ?_ ?_
                 rotate_left
                 ·
                  show Act.put _ (some 11) _=_
                  simp only [Act.put,List.setIfInBounds_toArray,List.set_cons_zero,List.set_cons_succ,bW,cu]
                  rfl
                 refine o6 (i:=5) (N:=some 58) #[true,true,true,true,true,true,false,false,false,true,false,false] rfl rfl (nJ lL.out (by kernel_rfl)) (by decide) (fun K hK=>?_)
                 refine qy Tryd.func65 (by kernel_rfl) rfl #[.agg #[.int .u8 dL,.int .u8 dK,.int .u8 dJ,.int .u8 dI,.int .i64 dH],.int .u8 (bt t112 nH),.int .i64 t116] (by rfl) rfl rfl (by (try simp only [List.map_toArray,List.map_cons,List.map_nil]);first|done|rfl|(simp only [List.length_drop,List.length_take];rfl)) ?_
                 with_reducible refine (bf.calls k3 dL dK dJ dI dH (bt t112 nH) t116 t118 t119 t120 t121 t122 true _ Sv.out).mono ?_
                 rintro e Tj ⟨rfl,hb⟩
                 refine ⟨_,rfl,?_⟩
                 have dV:=ae.mk (bg (g:=iP) (o:=.cells #[.int .u8 gG,.int .u8 gu,.int .u8 fQ,.int .u8 fH,.int .i64 eX] 55 (0,0)) (by (with_reducible repeat (first|refine au ?_ _|refine ay ?_|refine ak ?_ _));exact fM.out) hb)
                 have dU:=ae.mk (bg (g:=eP) (o:=.cells #[.int .u8 dL,.int .u8 dK,.int .u8 dJ,.int .u8 dI,.int .i64 dH] 55 (0,0)) (by (with_reducible repeat (first|refine au ?_ _|refine ay ?_|refine ak ?_ _));exact bY.out) hb)
                 have dR:=ae.mk (bg (g:=dE) (o:=.cells #[.int .u8 0,.int .u8 0,.int .u8 0,.int .u8 0,.int .i64 0] 55 (0,0)) (by (with_reducible repeat (first|refine au ?_ _|refine ay ?_|refine ak ?_ _));exact iU.out) hb)
                 have gZ:=ae.mk (bn (by repeat (first|(with_reducible first|exact HB.out|apply ah|apply ag|apply ai|refine aj ?_ jK.out|refine aj ?_ jH.out|refine aj ?_ mg.out)|exact HB.out)) hb)
                 clear fM
                 clear bY
                 clear iU
                 clear HB
                 have fM:=dV
                 have bY:=dU
                 have iU:=dR
                 have HB:=gZ
                 clear dV dU dR gZ
                 (try clear hb)
                 (try clear hb2)
                 (try clear hk)
                 (try clear hi)
                 refine hK.out _ _ ⟨(ax bY.out 0).trans rfl,(ax bY.out 1).trans rfl,(ax bY.out 2).trans rfl,(ax bY.out 3).trans rfl,(ax bY.out 4).trans rfl⟩ (fun hHeld=>?_)
                 clear hK K
                 refine ji (a':=?_) ?_ ?_
                 rotate_left
                 ·
                  show Act.put _ (some 58) _=_
                  simp only [Act.put,List.setIfInBounds_toArray,List.set_cons_zero,List.set_cons_succ,bW,cu]
                  rfl
                 refine iy (i:=6) (N:=some 52) (v:=?_) (a':=?_) #[true,true,true,true,true,true,true,false,false,true,false,false] rfl rfl (iO lL.out (by kernel_rfl)) (fun _ _ _ h=>h) (Or.inl ⟨by rfl,?_⟩) ?_ ?_
                 rotate_left
                 ·
                  intro w'
                  go_simp
                  with_reducible rfl
                 rotate_left
                 ·
                  simp only [Act.put,List.setIfInBounds_toArray,List.set_cons_zero,List.set_cons_succ,bW,cu]
                  rfl
                 refine iy (i:=7) (N:=some 59) (v:=?_) (a':=?_) #[true,true,true,true,true,true,true,true,false,true,false,false] rfl rfl (iO lL.out (by kernel_rfl)) (fun _ _ _ h=>h) (Or.inl ⟨by rfl,?_⟩) ?_ ?_
                 rotate_left
                 ·
                  intro w'
                  go_simp
                  with_reducible rfl
                 rotate_left
                 ·
                  simp only [Act.put,List.setIfInBounds_toArray,List.set_cons_zero,List.set_cons_succ,bW,cu]
                  rfl
                 refine iy (i:=8) (N:=some 60) (v:=?_) (a':=?_) #[true,true,true,true,true,true,true,true,true,true,false,false] rfl rfl (iO lL.out (by kernel_rfl)) (fun _ _ _ h=>h) (Or.inl ⟨by rfl,?_⟩) ?_ ?_
                 rotate_left
                 ·
                  intro w'
                  go_simp
                  with_reducible rfl
                 rotate_left
                 ·
                  simp only [Act.put,List.setIfInBounds_toArray,List.set_cons_zero,List.set_cons_succ,bW,cu]
                  rfl
                 exact ji (by simp only [lW,Act.put,List.setIfInBounds_toArray,List.set_cons_zero,List.set_cons_succ]) (yO (dE) _ ⟨hHeld,(by (with_reducible repeat (first|refine au ?_ _|refine ay ?_|refine ak ?_ _));exact fM.out),(by (with_reducible repeat (first|refine au ?_ _|refine ay ?_|refine ak ?_ _));exact bY.out),(by (with_reducible repeat (first|refine au ?_ _|refine ay ?_|refine ak ?_ _));exact iU.out),rV.out,mg.out,eH.out,gK.out,bG.out,ik.out,(by repeat (first|(with_reducible first|exact HB.out|apply ah|apply ag|apply ai|refine aj ?_ jK.out|refine aj ?_ jH.out|refine aj ?_ mg.out)|exact HB.out))⟩)
               rintro dE qW ⟨XN,YU,QN,YT,YS,YR,YQ,YP,YO,YN,YM⟩
               have dV:ae (qW.heap[iP]? = some (.cells #[.int .u8 gG,.int .u8 gu,.int .u8 fQ,.int .u8 fH,.int .i64 eX] 55 (0,0))):=⟨YU⟩
               have dU:ae (qW.heap[eP]? = some (.cells #[.int .u8 dL,.int .u8 dK,.int .u8 dJ,.int .u8 dI,.int .i64 dH] 55 (0,0))):=⟨QN⟩
               have dR:ae (qW.heap[dE]? = some (.cells #[.int .u8 0,.int .u8 0,.int .u8 0,.int .u8 0,.int .i64 0] 55 (0,0))):=⟨YT⟩
               have gZ:ae (w.heap.size≤dE):=⟨YS⟩
               have l9:ae (w.heap.size≤dE):=⟨YR⟩
               have mY:ae (iP ≠ dE):=⟨YQ⟩
               have nY:ae (dE ≠ iP):=⟨YP⟩
               have wV:ae (eP ≠ dE):=⟨YO⟩
               have wU:ae (dE ≠ eP):=⟨YN⟩
               have yM:ae (Below w.heap.size w qW):=⟨YM⟩
               clear fM
               clear bY
               clear HB
               clear YU QN YT YS YR YQ YP YO YN YM
               have fM:=dV
               have bY:=dU
               have iU:=dR
               have rV:=gZ
               have mg:=l9
               have eH:=mY
               have gK:=nY
               have bG:=wV
               have ik:=wU
               have HB:=yM
               clear dV dU dR gZ l9 mY nY wV wU yM
               have hHeld:qW.cell? ⟨eP,0,none⟩=some (.int .u8 dL)∧qW.cell? ⟨eP,1,none⟩=some (.int .u8 dK)∧qW.cell? ⟨eP,2,none⟩=some (.int .u8 dJ)∧qW.cell? ⟨eP,3,none⟩=some (.int .u8 dI)∧qW.cell? ⟨eP,4,none⟩=some (.int .i64 dH):=XN
               refine ji (a':=?_) ?_ ?_
               rotate_left
               ·
                simp only [lW,Act.put,List.setIfInBounds_toArray,List.set_cons_zero,List.set_cons_succ]
                rfl
               refine o6 (i:=10) (N:=none) #[true,true,true,true,true,true,true,true,true,true,true,false] rfl rfl (nJ lL.out (by kernel_rfl)) (by decide) (fun K hK=>?_)
               have aqR:qW.cell? ⟨dE,0,none⟩=some (.int .u8 0):=(ax iU.out 0).trans rfl
               have ao1:=aC iU.out 0
               have agD:=eH.out
               have agC:=bG.out
               have ag7:=gK.out
               have ag6:=ik.out
               have aqQ:qW.cell? ⟨dE,1,none⟩=some (.int .u8 0):=(ax iU.out 1).trans rfl
               have ao0:=aC iU.out 1
               have agB:=eH.out
               have agA:=bG.out
               have ag5:=gK.out
               have ag4:=ik.out
               have aqP:qW.cell? ⟨dE,2,none⟩=some (.int .u8 0):=(ax iU.out 2).trans rfl
               have aoZ:=aC iU.out 2
               have agz:=eH.out
               have agy:=bG.out
               have ag3:=gK.out
               have ag2:=ik.out
               have aqO:qW.cell? ⟨dE,3,none⟩=some (.int .u8 0):=(ax iU.out 3).trans rfl
               have aoY:=aC iU.out 3
               have agx:=eH.out
               have agw:=bG.out
               have ag1:=gK.out
               have ag0:=ik.out
               have aqN:qW.cell? ⟨dE,4,none⟩=some (.int .i64 0):=(ax iU.out 4).trans rfl
               have aoX:=aC iU.out 4
               have agv:=eH.out
               have agu:=bG.out
               have agZ:=gK.out
               have agY:=ik.out
               refine FB (w1:=?_) (by rfl) rfl ?_ ?_
               rotate_left
               ·
                go_simp
                rfl
               refine hK.out _ _ ⟨((cell_far (p:=⟨dE,_,none⟩) bG.out _).trans (((cell_far (p:=⟨dE,_,none⟩) bG.out _).trans (((cell_far (p:=⟨dE,_,none⟩) bG.out _).trans (((cell_far (p:=⟨dE,_,none⟩) bG.out _).trans (((cell_far (p:=⟨dE,_,none⟩) bG.out _).trans (hHeld.1)))))))))),((cell_far (p:=⟨dE,_,none⟩) bG.out _).trans (((cell_far (p:=⟨dE,_,none⟩) bG.out _).trans (((cell_far (p:=⟨dE,_,none⟩) bG.out _).trans (((cell_far (p:=⟨dE,_,none⟩) bG.out _).trans (((cell_far (p:=⟨dE,_,none⟩) bG.out _).trans (hHeld.2.1)))))))))),((cell_far (p:=⟨dE,_,none⟩) bG.out _).trans (((cell_far (p:=⟨dE,_,none⟩) bG.out _).trans (((cell_far (p:=⟨dE,_,none⟩) bG.out _).trans (((cell_far (p:=⟨dE,_,none⟩) bG.out _).trans (((cell_far (p:=⟨dE,_,none⟩) bG.out _).trans (hHeld.2.2.1)))))))))),((cell_far (p:=⟨dE,_,none⟩) bG.out _).trans (((cell_far (p:=⟨dE,_,none⟩) bG.out _).trans (((cell_far (p:=⟨dE,_,none⟩) bG.out _).trans (((cell_far (p:=⟨dE,_,none⟩) bG.out _).trans (((cell_far (p:=⟨dE,_,none⟩) bG.out _).trans (hHeld.2.2.2.1)))))))))),((cell_far (p:=⟨dE,_,none⟩) bG.out _).trans (((cell_far (p:=⟨dE,_,none⟩) bG.out _).trans (((cell_far (p:=⟨dE,_,none⟩) bG.out _).trans (((cell_far (p:=⟨dE,_,none⟩) bG.out _).trans (((cell_far (p:=⟨dE,_,none⟩) bG.out _).trans (hHeld.2.2.2.2))))))))))⟩ (fun hHeld=>?_)
               clear hK K
               refine iy (i:=11) (N:=some 12) (v:=?_) (a':=?_) #[true,true,true,true,true,true,true,true,true,true,true,true] rfl rfl (iO lL.out (by kernel_rfl)) (fun _ _ _ h=>h) (Or.inl ⟨by rfl,?_⟩) ?_ ?_
               rotate_left
               ·
                intro w'
                go_simp
                with_reducible rfl
               rotate_left
               ·
                simp only [Act.put,List.setIfInBounds_toArray,List.set_cons_zero,List.set_cons_succ,bW,cu]
                rfl
               refine uQ (wB lL.out (by kernel_rfl)) ?_
               have aoA:=gK.out
               have an9:=eH.out
               have aoz:=ik.out
               have an8:=bG.out
               obtain ⟨ak3,ak2,ak1,ak0,akZ,aiO,aiN,aiM,aiL,aiK⟩:=jZ iU.out
               have Yv:=sU.out
               have Yt:=ku.out
               obtain ⟨LK,LJ,LH,LG,WW,KF,KE,KD,KC,Vd⟩:=jZ bY.out
               try go_wp2
               go_roundg k3
               case measure=>have:=qO.out;have:=Jj.out;have:=xZ.out;omega
               case rel=>exact ⟨(pK),(gG),(gu),(fQ),(fH),(eX),(t118),(t119),(t120),(t121),(t122),(by first|rfl|(simp;done)|(simp only [← xB] <;> (first|rfl|simp))|(simp [*];done)),H',⟨by have:=qO.out;have:=Jj.out;have:=xZ.out;omega⟩,⟨by (with_reducible repeat (first|refine au ?_ _|refine ay ?_|refine ak ?_ _));refine fV ?_ ku.out _;(with_reducible repeat (first|refine au ?_ _|refine ay ?_|refine ak ?_ _));refine fV ?_ ku.out _;(with_reducible repeat (first|refine au ?_ _|refine ay ?_|refine ak ?_ _));refine fV ?_ ku.out _;(with_reducible repeat (first|refine au ?_ _|refine ay ?_|refine ak ?_ _));refine fV ?_ ku.out _;(with_reducible repeat (first|refine au ?_ _|refine ay ?_|refine ak ?_ _));refine fV ?_ ku.out _;(with_reducible repeat (first|refine au ?_ _|refine ay ?_|refine ak ?_ _));refine fV ?_ eH.out _;(with_reducible repeat (first|refine au ?_ _|refine ay ?_|refine ak ?_ _));refine fV ?_ eH.out _;(with_reducible repeat (first|refine au ?_ _|refine ay ?_|refine ak ?_ _));refine fV ?_ eH.out _;(with_reducible repeat (first|refine au ?_ _|refine ay ?_|refine ak ?_ _));refine fV ?_ eH.out _;(with_reducible repeat (first|refine au ?_ _|refine ay ?_|refine ak ?_ _));refine fV ?_ eH.out _;(with_reducible repeat (first|refine au ?_ _|refine ay ?_|refine ak ?_ _));exact fM.out⟩,⟨by (with_reducible repeat (first|refine au ?_ _|refine ay ?_|refine ak ?_ _));refine dQ (cs:=#[.int .u8 t118,.int .u8 t119,.int .u8 t120,.int .u8 t121,.int .i64 dH]) ?_ 4 _ rfl;(with_reducible repeat (first|refine au ?_ _|refine ay ?_|refine ak ?_ _));refine dQ (cs:=#[.int .u8 t118,.int .u8 t119,.int .u8 t120,.int .u8 dI,.int .i64 dH]) ?_ 3 _ rfl;(with_reducible repeat (first|refine au ?_ _|refine ay ?_|refine ak ?_ _));refine dQ (cs:=#[.int .u8 t118,.int .u8 t119,.int .u8 dJ,.int .u8 dI,.int .i64 dH]) ?_ 2 _ rfl;(with_reducible repeat (first|refine au ?_ _|refine ay ?_|refine ak ?_ _));refine dQ (cs:=#[.int .u8 t118,.int .u8 dK,.int .u8 dJ,.int .u8 dI,.int .i64 dH]) ?_ 1 _ rfl;(with_reducible repeat (first|refine au ?_ _|refine ay ?_|refine ak ?_ _));refine dQ (cs:=#[.int .u8 dL,.int .u8 dK,.int .u8 dJ,.int .u8 dI,.int .i64 dH]) ?_ 0 _ rfl;(with_reducible repeat (first|refine au ?_ _|refine ay ?_|refine ak ?_ _));refine fV ?_ bG.out _;(with_reducible repeat (first|refine au ?_ _|refine ay ?_|refine ak ?_ _));refine fV ?_ bG.out _;(with_reducible repeat (first|refine au ?_ _|refine ay ?_|refine ak ?_ _));refine fV ?_ bG.out _;(with_reducible repeat (first|refine au ?_ _|refine ay ?_|refine ak ?_ _));refine fV ?_ bG.out _;(with_reducible repeat (first|refine au ?_ _|refine ay ?_|refine ak ?_ _));refine fV ?_ bG.out _;(with_reducible repeat (first|refine au ?_ _|refine ay ?_|refine ak ?_ _));exact bY.out⟩,⟨by repeat (first|(with_reducible first|exact HB.out|apply ah|apply ag|apply ai|refine aj ?_ jK.out|refine aj ?_ jH.out|refine aj ?_ mg.out)|exact HB.out)⟩⟩
              ·
               replace c21:=Bool.eq_false_iff.mpr c21
               subst c21
               have H1:(some (0,0,0,0,0,false))=some (r1,r2,r3,r4,r5,r6):=by rw [if_neg (show ¬ (false=true) by decide)] at H;exact H
               clear H
               have H:=H1
               clear H1
               simp only [Option.some.injEq,Prod.mk.injEq] at H
               obtain ⟨rfl,rfl,rfl,rfl,rfl,rfl⟩:=H
               have Ar:0≤((pK):Int):=of_decide_eq_true (by first|(with_reducible assumption)|assumption)
               have Ap:(pK) < (l0.length:Int):=of_decide_eq_true (by first|(with_reducible assumption)|assumption)
               obtain ⟨Y2,e115,o9⟩:=Kd.kN HR0.out (pK) Ar Ap
               cases e115
               replace o9:=(HB.out.cell (World.block_lt_of_cell? w _ o9)).trans o9
               replace Ar:=eq_true Ar
               replace Ap:=eq_true Ap
               try go_wp2_with (first|((with_reducible refine bz (f:=64) rfl ?_);refine dS (some 49) rfl rfl Tryd.func64 (by kernel_rfl) rfl #[.string (dY ByteArray.empty l0 (pK))] rfl (by (try simp only [List.map_toArray,List.map_cons,List.map_nil]);first|done|(simp only [xB];rfl)|rfl|(simp only [List.length_drop,List.length_take];rfl)) ?_;(with_reducible refine (aH.calls k3 (dY ByteArray.empty l0 (pK)) t116 t117 _ A16.out).mono ?_);rintro e w' ⟨rfl,⟨nd,rfl⟩⟩;refine ⟨_,rfl,?_⟩;(try (rw [rE wr];generalize BK:World.drewN wr _=wr;have dV:ae (wr.heap[iP]? = some (.cells #[.int .u8 gG,.int .u8 gu,.int .u8 fQ,.int .u8 fH,.int .i64 eX] 55 (0,0))):=⟨by rw [← BK];exact (by (with_reducible repeat (first|refine au ?_ _|refine ay ?_|refine ak ?_ _));exact fM.out)⟩;have dU:ae (wr.heap[eP]? = some (.cells #[.int .u8 dL,.int .u8 dK,.int .u8 dJ,.int .u8 dI,.int .i64 dH] 55 (0,0))):=⟨by rw [← BK];exact (by (with_reducible repeat (first|refine au ?_ _|refine ay ?_|refine ak ?_ _));exact bY.out)⟩;have dR:ae (Below w.heap.size w wr):=⟨by rw [← BK];exact (by repeat (first|(with_reducible first|exact HB.out|apply ah|apply ag|apply ai|refine aj ?_ jK.out|refine aj ?_ jH.out)|exact HB.out))⟩;clear fM bY HB BK;have fM:=dV;have bY:=dU;have HB:=dR;clear dV dU dR))))
               have dV:=ae.mk (ay fM.out)
               have dU:=ae.mk (ay bY.out)
               have dR:=ae.mk (ai HB.out)
               clear fM
               clear bY
               clear HB
               have fM:=dV
               have bY:=dU
               have HB:=dR
               clear dV dU dR
               have FV:0≤(nH:Int):=of_decide_eq_true (by first|(with_reducible assumption)|assumption)
               have FQ:nH < (t112.size:Int):=of_decide_eq_true (by first|(with_reducible assumption)|assumption)
               have P5:=kR t112 nH
               replace FV:=eq_true FV
               replace FQ:=eq_true FQ
               refine rf (n:=12) (S:=fun w'=>w'.cell? ⟨eP,0,none⟩=some (.int .u8 dL)∧w'.cell? ⟨eP,1,none⟩=some (.int .u8 dK)∧w'.cell? ⟨eP,2,none⟩=some (.int .u8 dJ)∧w'.cell? ⟨eP,3,none⟩=some (.int .u8 dI)∧w'.cell? ⟨eP,4,none⟩=some (.int .i64 dH)) (ds:=[]) #[false,false,false,false,false,false,false,false,false,false,false,false] (by kernel_rfl) rfl rfl ⟨(ax bY.out 0).trans rfl,(ax bY.out 1).trans rfl,(ax bY.out 2).trans rfl,(ax bY.out 3).trans rfl,(ax bY.out 4).trans rfl⟩ (fun hHeld=>?_);refine qV aJ.Ph aJ.I9 (fun lL Cf=>?_)
               generalize wr.drew=w36 at fM bY HB hHeld ⊢
               refine iy (i:=1) (N:=some 54) (v:=?_) (a':=?_) #[false,true,false,false,false,false,false,false,false,false,false,false] rfl rfl (iO lL.out (by kernel_rfl)) (fun _ _ _ h=>h) (Or.inl ⟨by rfl,?_⟩) ?_ ?_
               rotate_left
               ·
                intro w'
                go_simp
                with_reducible rfl
               rotate_left
               ·
                simp only [Act.put,List.setIfInBounds_toArray,List.set_cons_zero,List.set_cons_succ,bW,cu]
                rfl
               refine iy (i:=2) (N:=some 55) (v:=?_) (a':=?_) #[false,true,true,false,false,false,false,false,false,false,false,false] rfl rfl (iO lL.out (by kernel_rfl)) (fun _ _ _ h=>h) (Or.inl ⟨by rfl,?_⟩) ?_ ?_
               rotate_left
               ·
                intro w'
                go_simp
                with_reducible rfl
               rotate_left
               ·
                simp only [Act.put,List.setIfInBounds_toArray,List.set_cons_zero,List.set_cons_succ,bW,cu]
                rfl
               refine iy (i:=4) (N:=some 57) (v:=?_) (a':=?_) #[false,true,true,false,true,false,false,false,false,false,false,false] rfl rfl (iO lL.out (by kernel_rfl)) (fun _ _ _ h=>h) (Or.inl ⟨by rfl,?_⟩) ?_ ?_
               rotate_left
               ·
                intro w'
                go_simp
                with_reducible rfl
               rotate_left
               ·
                simp only [Act.put,List.setIfInBounds_toArray,List.set_cons_zero,List.set_cons_succ,bW,cu]
                rfl
               refine kU (i:=0) (N:=some 53) (v:=?_) (a':=?_) #[true,true,true,false,true,false,false,false,false,false,false,false] rfl rfl (kQ lL.out Cf.out (by kernel_rfl)) (fun _ _ _ h=>h) (Or.inl ⟨by rfl,?_⟩) hHeld ?_ ?_
               rotate_left
               ·
                rintro w' ⟨s0,s1,s2,s3,s4⟩
                go_simp
                with_reducible rfl
               rotate_left
               ·
                simp only [Act.put,List.setIfInBounds_toArray,List.set_cons_zero,List.set_cons_succ,bW,cu]
                rfl
               refine kU (i:=3) (N:=some 56) (v:=?_) (a':=?_) #[true,true,true,true,true,false,false,false,false,false,false,false] rfl rfl (kQ lL.out Cf.out (by kernel_rfl)) (fun _ _ _ h=>h) (Or.inl ⟨by rfl,?_⟩) hHeld ?_ ?_
               rotate_left
               ·
                rintro w' ⟨s0,s1,s2,s3,s4⟩
                go_simp
                with_reducible rfl
               rotate_left
               ·
                simp only [Act.put,List.setIfInBounds_toArray,List.set_cons_zero,List.set_cons_succ,bW,cu]
                rfl
               refine JZ (σ:=Nat) 2 #[true,true,true,true,true,true,true,true,true,true,false,false] (fun s_=>[(58,.tuple #[.agg #[.int .u8 t118,.int .u8 t119,.int .u8 t120,.int .u8 t121,.int .i64 t122],.bool false]),(11,.pointer (some ⟨s_,0,none⟩)),(52,.tuple #[.agg #[.int .u8 t118,.int .u8 t119,.int .u8 t120,.int .u8 t121,.int .i64 t122],.bool false]),(59,.agg #[.int .u8 t118,.int .u8 t119,.int .u8 t120,.int .u8 t121,.int .i64 t122]),(60,.bool false)]) (fun s_ w'=>(w'.cell? ⟨eP,0,none⟩=some (.int .u8 dL)∧w'.cell? ⟨eP,1,none⟩=some (.int .u8 dK)∧w'.cell? ⟨eP,2,none⟩=some (.int .u8 dJ)∧w'.cell? ⟨eP,3,none⟩=some (.int .u8 dI)∧w'.cell? ⟨eP,4,none⟩=some (.int .i64 dH))∧(w'.heap[iP]? = some (.cells #[.int .u8 gG,.int .u8 gu,.int .u8 fQ,.int .u8 fH,.int .i64 eX] 55 (0,0)))∧(w'.heap[eP]? = some (.cells #[.int .u8 dL,.int .u8 dK,.int .u8 dJ,.int .u8 dI,.int .i64 dH] 55 (0,0)))∧(w'.heap[s_]? = some (.cells #[.int .u8 0,.int .u8 0,.int .u8 0,.int .u8 0,.int .i64 0] 55 (0,0)))∧(w.heap.size≤s_)∧(w.heap.size≤s_)∧(iP ≠ s_)∧(s_ ≠ iP)∧(eP ≠ s_)∧(s_ ≠ eP)∧(Below w.heap.size w w')) ?_ ?_
               rotate_left
               ·
                intro yO
                refine Tn (i:=5) (j:=9) (Ni:=some 58) (Nj:=some 11) #[true,true,true,true,true,true,false,false,false,false,false,false] #[true,true,true,true,true,false,false,false,false,true,false,false] rfl rfl rfl rfl (H5 lL.out (by kernel_rfl)) (by decide) (by decide) (fun K hK=>?_) (fun K hK=>?_)
                ·
                 skip
                 refine qy Tryd.func65 (by kernel_rfl) rfl #[.agg #[.int .u8 dL,.int .u8 dK,.int .u8 dJ,.int .u8 dI,.int .i64 dH],.int .u8 (bt t112 nH),.int .i64 t116] (by rfl) rfl rfl (by (try simp only [List.map_toArray,List.map_cons,List.map_nil]);first|done|rfl|(simp only [List.length_drop,List.length_take];rfl)) ?_
                 with_reducible refine (bf.calls k3 dL dK dJ dI dH (bt t112 nH) t116 t118 t119 t120 t121 t122 false _ Sv.out).mono ?_
                 rintro e w37 ⟨rfl,hb⟩
                 refine ⟨_,rfl,?_⟩
                 have dV:=ae.mk (bg (g:=iP) (o:=.cells #[.int .u8 gG,.int .u8 gu,.int .u8 fQ,.int .u8 fH,.int .i64 eX] 55 (0,0)) (by (with_reducible repeat (first|refine au ?_ _|refine ay ?_|refine ak ?_ _));exact fM.out) hb)
                 have dU:=ae.mk (bg (g:=eP) (o:=.cells #[.int .u8 dL,.int .u8 dK,.int .u8 dJ,.int .u8 dI,.int .i64 dH] 55 (0,0)) (by (with_reducible repeat (first|refine au ?_ _|refine ay ?_|refine ak ?_ _));exact bY.out) hb)
                 have dR:=ae.mk (bn (by repeat (first|(with_reducible first|exact HB.out|apply ah|apply ag|apply ai|refine aj ?_ jK.out|refine aj ?_ jH.out)|exact HB.out)) hb)
                 clear fM
                 clear bY
                 clear HB
                 have fM:=dV
                 have bY:=dU
                 have HB:=dR
                 clear dV dU dR
                 (try clear hb)
                 (try clear hb2)
                 (try clear hk)
                 (try clear hi)
                 refine hK.out _ _ ⟨(ax bY.out 0).trans rfl,(ax bY.out 1).trans rfl,(ax bY.out 2).trans rfl,(ax bY.out 3).trans rfl,(ax bY.out 4).trans rfl⟩ (fun hHeld=>?_)
                 clear hK K
                 refine ji (a':=?_) ?_ ?_
                 rotate_left
                 ·
                  show Act.put _ (some 58) _=_
                  simp only [Act.put,List.setIfInBounds_toArray,List.set_cons_zero,List.set_cons_succ,bW,cu]
                  rfl
                 refine iy (i:=6) (N:=some 52) (v:=?_) (a':=?_) #[true,true,true,true,true,true,true,false,false,false,false,false] rfl rfl (iO lL.out (by kernel_rfl)) (fun _ _ _ h=>h) (Or.inl ⟨by rfl,?_⟩) ?_ ?_
                 rotate_left
                 ·
                  intro w'
                  go_simp
                  with_reducible rfl
                 rotate_left
                 ·
                  simp only [Act.put,List.setIfInBounds_toArray,List.set_cons_zero,List.set_cons_succ,bW,cu]
                  rfl
                 refine iy (i:=7) (N:=some 59) (v:=?_) (a':=?_) #[true,true,true,true,true,true,true,true,false,false,false,false] rfl rfl (iO lL.out (by kernel_rfl)) (fun _ _ _ h=>h) (Or.inl ⟨by rfl,?_⟩) ?_ ?_
                 rotate_left
                 ·
                  intro w'
                  go_simp
                  with_reducible rfl
                 rotate_left
                 ·
                  simp only [Act.put,List.setIfInBounds_toArray,List.set_cons_zero,List.set_cons_succ,bW,cu]
                  rfl
                 refine iy (i:=8) (N:=some 60) (v:=?_) (a':=?_) #[true,true,true,true,true,true,true,true,true,false,false,false] rfl rfl (iO lL.out (by kernel_rfl)) (fun _ _ _ h=>h) (Or.inl ⟨by rfl,?_⟩) ?_ ?_
                 rotate_left
                 ·
                  intro w'
                  go_simp
                  with_reducible rfl
                 rotate_left
                 ·
                  simp only [Act.put,List.setIfInBounds_toArray,List.set_cons_zero,List.set_cons_succ,bW,cu]
                  rfl
                 refine o6 (i:=9) (N:=some 11) #[true,true,true,true,true,true,true,true,true,true,false,false] rfl rfl (nJ lL.out (by kernel_rfl)) (by decide) (fun K hK=>?_)
                 refine sS ?hg (N:=11) ?hd (cs:=#[.int .u8 0,.int .u8 0,.int .u8 0,.int .u8 0,.int .i64 0]) (t:=55) ?hr ?_;(case hd=>rfl);(case hg=>rfl);(case hr=>first|(go_simp;done)|(go_simp;rfl))
                 intro dE hg w38 hbox hb
                 have dV:=ae.mk (bg (g:=iP) (o:=.cells #[.int .u8 gG,.int .u8 gu,.int .u8 fQ,.int .u8 fH,.int .i64 eX] 55 (0,0)) (by (with_reducible repeat (first|refine au ?_ _|refine ay ?_|refine ak ?_ _));exact fM.out) hb)
                 have dU:=ae.mk (bg (g:=eP) (o:=.cells #[.int .u8 dL,.int .u8 dK,.int .u8 dJ,.int .u8 dI,.int .i64 dH] 55 (0,0)) (by (with_reducible repeat (first|refine au ?_ _|refine ay ?_|refine ak ?_ _));exact bY.out) hb)
                 have dR:=ae.mk (bn (by repeat (first|(with_reducible first|exact HB.out|apply ah|apply ag|apply ai|refine aj ?_ jK.out|refine aj ?_ jH.out)|exact HB.out)) hb)
                 have gZ:=ae.mk (hbox)
                 have l9:=ae.mk ((by rw [hg];exact (bU (by repeat (first|(with_reducible first|exact HB.out|apply ah|apply ag|apply ai|refine aj ?_ jK.out|refine aj ?_ jH.out)|exact HB.out))):w.heap.size≤dE))
                 have mY:=l9
                 have nY:=ae.mk ((by rw [hg];exact Nat.ne_of_lt (kK (g:=iP) (o:=.cells #[.int .u8 gG,.int .u8 gu,.int .u8 fQ,.int .u8 fH,.int .i64 eX] 55 (0,0)) (by (with_reducible repeat (first|refine au ?_ _|refine ay ?_|refine ak ?_ _));exact fM.out)):iP ≠ dE))
                 have wV:=ae.mk nY.out.symm
                 have wU:=ae.mk ((by rw [hg];exact Nat.ne_of_lt (kK (g:=eP) (o:=.cells #[.int .u8 dL,.int .u8 dK,.int .u8 dJ,.int .u8 dI,.int .i64 dH] 55 (0,0)) (by (with_reducible repeat (first|refine au ?_ _|refine ay ?_|refine ak ?_ _));exact bY.out)):eP ≠ dE))
                 have yM:=ae.mk wU.out.symm
                 clear fM
                 clear bY
                 clear HB
                 have fM:=dV
                 have bY:=dU
                 have HB:=dR
                 have iU:=gZ
                 have rV:=l9
                 have mg:=mY
                 have eH:=nY
                 have gK:=wV
                 have bG:=wU
                 have ik:=yM
                 clear dV dU dR gZ l9 mY nY wV wU yM
                 clear hb hbox hg
                 refine hK.out _ _ ⟨(ax bY.out 0).trans rfl,(ax bY.out 1).trans rfl,(ax bY.out 2).trans rfl,(ax bY.out 3).trans rfl,(ax bY.out 4).trans rfl⟩ (fun hHeld=>?_)
                 clear hK K
                 refine ji (a':=?_) ?_ ?_
                 rotate_left
                 ·
                  show Act.put _ (some 11) _=_
                  simp only [Act.put,List.setIfInBounds_toArray,List.set_cons_zero,List.set_cons_succ,bW,cu]
                  rfl
                 exact ji (by simp only [lW,Act.put,List.setIfInBounds_toArray,List.set_cons_zero,List.set_cons_succ]) (yO (dE) _ ⟨hHeld,(by (with_reducible repeat (first|refine au ?_ _|refine ay ?_|refine ak ?_ _));exact fM.out),(by (with_reducible repeat (first|refine au ?_ _|refine ay ?_|refine ak ?_ _));exact bY.out),(by (with_reducible repeat (first|refine au ?_ _|refine ay ?_|refine ak ?_ _));exact iU.out),rV.out,mg.out,eH.out,gK.out,bG.out,ik.out,(by repeat (first|(with_reducible first|exact HB.out|apply ah|apply ag|apply ai|refine aj ?_ jK.out|refine aj ?_ jH.out|refine aj ?_ mg.out)|exact HB.out))⟩)
                ·
                 skip
                 refine sS ?hg (N:=11) ?hd (cs:=#[.int .u8 0,.int .u8 0,.int .u8 0,.int .u8 0,.int .i64 0]) (t:=55) ?hr ?_;(case hd=>rfl);(case hg=>rfl);(case hr=>first|(go_simp;done)|(go_simp;rfl))
                 intro dE hg w37 hbox hb
                 have dV:=ae.mk (bg (g:=iP) (o:=.cells #[.int .u8 gG,.int .u8 gu,.int .u8 fQ,.int .u8 fH,.int .i64 eX] 55 (0,0)) (by (with_reducible repeat (first|refine au ?_ _|refine ay ?_|refine ak ?_ _));exact fM.out) hb)
                 have dU:=ae.mk (bg (g:=eP) (o:=.cells #[.int .u8 dL,.int .u8 dK,.int .u8 dJ,.int .u8 dI,.int .i64 dH] 55 (0,0)) (by (with_reducible repeat (first|refine au ?_ _|refine ay ?_|refine ak ?_ _));exact bY.out) hb)
                 have dR:=ae.mk (bn (by repeat (first|(with_reducible first|exact HB.out|apply ah|apply ag|apply ai|refine aj ?_ jK.out|refine aj ?_ jH.out)|exact HB.out)) hb)
                 have gZ:=ae.mk (hbox)
                 have l9:=ae.mk ((by rw [hg];exact (bU (by repeat (first|(with_reducible first|exact HB.out|apply ah|apply ag|apply ai|refine aj ?_ jK.out|refine aj ?_ jH.out)|exact HB.out))):w.heap.size≤dE))
                 have mY:=l9
                 have nY:=ae.mk ((by rw [hg];exact Nat.ne_of_lt (kK (g:=iP) (o:=.cells #[.int .u8 gG,.int .u8 gu,.int .u8 fQ,.int .u8 fH,.int .i64 eX] 55 (0,0)) (by (with_reducible repeat (first|refine au ?_ _|refine ay ?_|refine ak ?_ _));exact fM.out)):iP ≠ dE))
                 have wV:=ae.mk nY.out.symm
                 have wU:=ae.mk ((by rw [hg];exact Nat.ne_of_lt (kK (g:=eP) (o:=.cells #[.int .u8 dL,.int .u8 dK,.int .u8 dJ,.int .u8 dI,.int .i64 dH] 55 (0,0)) (by (with_reducible repeat (first|refine au ?_ _|refine ay ?_|refine ak ?_ _));exact bY.out)):eP ≠ dE))
                 have yM:=ae.mk wU.out.symm
                 clear fM
                 clear bY
                 clear HB
                 have fM:=dV
                 have bY:=dU
                 have HB:=dR
                 have iU:=gZ
                 have rV:=l9
                 have mg:=mY
                 have eH:=nY
                 have gK:=wV
                 have bG:=wU
                 have ik:=yM
                 clear dV dU dR gZ l9 mY nY wV wU yM
                 clear hb hbox hg
                 refine hK.out _ _ ⟨(ax bY.out 0).trans rfl,(ax bY.out 1).trans rfl,(ax bY.out 2).trans rfl,(ax bY.out 3).trans rfl,(ax bY.out 4).trans rfl⟩ (fun hHeld=>?_)
                 clear hK K
                 refine ji (a':=?_) ?_ ?_
                 rotate_left
                 ·
                  show Act.put _ (some 11) _=_
                  simp only [Act.put,List.setIfInBounds_toArray,List.set_cons_zero,List.set_cons_succ,bW,cu]
                  rfl
                 refine o6 (i:=5) (N:=some 58) #[true,true,true,true,true,true,false,false,false,true,false,false] rfl rfl (nJ lL.out (by kernel_rfl)) (by decide) (fun K hK=>?_)
                 refine qy Tryd.func65 (by kernel_rfl) rfl #[.agg #[.int .u8 dL,.int .u8 dK,.int .u8 dJ,.int .u8 dI,.int .i64 dH],.int .u8 (bt t112 nH),.int .i64 t116] (by rfl) rfl rfl (by (try simp only [List.map_toArray,List.map_cons,List.map_nil]);first|done|rfl|(simp only [List.length_drop,List.length_take];rfl)) ?_
                 with_reducible refine (bf.calls k3 dL dK dJ dI dH (bt t112 nH) t116 t118 t119 t120 t121 t122 false _ Sv.out).mono ?_
                 rintro e w38 ⟨rfl,hb⟩
                 refine ⟨_,rfl,?_⟩
                 have dV:=ae.mk (bg (g:=iP) (o:=.cells #[.int .u8 gG,.int .u8 gu,.int .u8 fQ,.int .u8 fH,.int .i64 eX] 55 (0,0)) (by (with_reducible repeat (first|refine au ?_ _|refine ay ?_|refine ak ?_ _));exact fM.out) hb)
                 have dU:=ae.mk (bg (g:=eP) (o:=.cells #[.int .u8 dL,.int .u8 dK,.int .u8 dJ,.int .u8 dI,.int .i64 dH] 55 (0,0)) (by (with_reducible repeat (first|refine au ?_ _|refine ay ?_|refine ak ?_ _));exact bY.out) hb)
                 have dR:=ae.mk (bg (g:=dE) (o:=.cells #[.int .u8 0,.int .u8 0,.int .u8 0,.int .u8 0,.int .i64 0] 55 (0,0)) (by (with_reducible repeat (first|refine au ?_ _|refine ay ?_|refine ak ?_ _));exact iU.out) hb)
                 have gZ:=ae.mk (bn (by repeat (first|(with_reducible first|exact HB.out|apply ah|apply ag|apply ai|refine aj ?_ jK.out|refine aj ?_ jH.out|refine aj ?_ mg.out)|exact HB.out)) hb)
                 clear fM
                 clear bY
                 clear iU
                 clear HB
                 have fM:=dV
                 have bY:=dU
                 have iU:=dR
                 have HB:=gZ
                 clear dV dU dR gZ
                 (try clear hb)
                 (try clear hb2)
                 (try clear hk)
                 (try clear hi)
                 refine hK.out _ _ ⟨(ax bY.out 0).trans rfl,(ax bY.out 1).trans rfl,(ax bY.out 2).trans rfl,(ax bY.out 3).trans rfl,(ax bY.out 4).trans rfl⟩ (fun hHeld=>?_)
                 clear hK K
                 refine ji (a':=?_) ?_ ?_
                 rotate_left
                 ·
                  show Act.put _ (some 58) _=_
                  simp only [Act.put,List.setIfInBounds_toArray,List.set_cons_zero,List.set_cons_succ,bW,cu]
                  rfl
                 refine iy (i:=6) (N:=some 52) (v:=?_) (a':=?_) #[true,true,true,true,true,true,true,false,false,true,false,false] rfl rfl (iO lL.out (by kernel_rfl)) (fun _ _ _ h=>h) (Or.inl ⟨by rfl,?_⟩) ?_ ?_
                 rotate_left
                 ·
                  intro w'
                  go_simp
                  with_reducible rfl
                 rotate_left
                 ·
                  simp only [Act.put,List.setIfInBounds_toArray,List.set_cons_zero,List.set_cons_succ,bW,cu]
                  rfl
                 refine iy (i:=7) (N:=some 59) (v:=?_) (a':=?_) #[true,true,true,true,true,true,true,true,false,true,false,false] rfl rfl (iO lL.out (by kernel_rfl)) (fun _ _ _ h=>h) (Or.inl ⟨by rfl,?_⟩) ?_ ?_
                 rotate_left
                 ·
                  intro w'
                  go_simp
                  with_reducible rfl
                 rotate_left
                 ·
                  simp only [Act.put,List.setIfInBounds_toArray,List.set_cons_zero,List.set_cons_succ,bW,cu]
                  rfl
                 refine iy (i:=8) (N:=some 60) (v:=?_) (a':=?_) #[true,true,true,true,true,true,true,true,true,true,false,false] rfl rfl (iO lL.out (by kernel_rfl)) (fun _ _ _ h=>h) (Or.inl ⟨by rfl,?_⟩) ?_ ?_
                 rotate_left
                 ·
                  intro w'
                  go_simp
                  with_reducible rfl
                 rotate_left
                 ·
                  simp only [Act.put,List.setIfInBounds_toArray,List.set_cons_zero,List.set_cons_succ,bW,cu]
                  rfl
                 exact ji (by simp only [lW,Act.put,List.setIfInBounds_toArray,List.set_cons_zero,List.set_cons_succ]) (yO (dE) _ ⟨hHeld,(by (with_reducible repeat (first|refine au ?_ _|refine ay ?_|refine ak ?_ _));exact fM.out),(by (with_reducible repeat (first|refine au ?_ _|refine ay ?_|refine ak ?_ _));exact bY.out),(by (with_reducible repeat (first|refine au ?_ _|refine ay ?_|refine ak ?_ _));exact iU.out),rV.out,mg.out,eH.out,gK.out,bG.out,ik.out,(by repeat (first|(with_reducible first|exact HB.out|apply ah|apply ag|apply ai|refine aj ?_ jK.out|refine aj ?_ jH.out|refine aj ?_ mg.out)|exact HB.out))⟩)
               rintro dE JK ⟨XN,YU,QN,YT,YS,YR,YQ,YP,YO,YN,YM⟩
               have dV:ae (JK.heap[iP]? = some (.cells #[.int .u8 gG,.int .u8 gu,.int .u8 fQ,.int .u8 fH,.int .i64 eX] 55 (0,0))):=⟨YU⟩
               have dU:ae (JK.heap[eP]? = some (.cells #[.int .u8 dL,.int .u8 dK,.int .u8 dJ,.int .u8 dI,.int .i64 dH] 55 (0,0))):=⟨QN⟩
               have dR:ae (JK.heap[dE]? = some (.cells #[.int .u8 0,.int .u8 0,.int .u8 0,.int .u8 0,.int .i64 0] 55 (0,0))):=⟨YT⟩
               have gZ:ae (w.heap.size≤dE):=⟨YS⟩
               have l9:ae (w.heap.size≤dE):=⟨YR⟩
               have mY:ae (iP ≠ dE):=⟨YQ⟩
               have nY:ae (dE ≠ iP):=⟨YP⟩
               have wV:ae (eP ≠ dE):=⟨YO⟩
               have wU:ae (dE ≠ eP):=⟨YN⟩
               have yM:ae (Below w.heap.size w JK):=⟨YM⟩
               clear fM
               clear bY
               clear HB
               clear YU QN YT YS YR YQ YP YO YN YM
               have fM:=dV
               have bY:=dU
               have iU:=dR
               have rV:=gZ
               have mg:=l9
               have eH:=mY
               have gK:=nY
               have bG:=wV
               have ik:=wU
               have HB:=yM
               clear dV dU dR gZ l9 mY nY wV wU yM
               have hHeld:JK.cell? ⟨eP,0,none⟩=some (.int .u8 dL)∧JK.cell? ⟨eP,1,none⟩=some (.int .u8 dK)∧JK.cell? ⟨eP,2,none⟩=some (.int .u8 dJ)∧JK.cell? ⟨eP,3,none⟩=some (.int .u8 dI)∧JK.cell? ⟨eP,4,none⟩=some (.int .i64 dH):=XN
               refine ji (a':=?_) ?_ ?_
               rotate_left
               ·
                simp only [lW,Act.put,List.setIfInBounds_toArray,List.set_cons_zero,List.set_cons_succ]
                rfl
               refine o6 (i:=10) (N:=none) #[true,true,true,true,true,true,true,true,true,true,true,false] rfl rfl (nJ lL.out (by kernel_rfl)) (by decide) (fun K hK=>?_)
               have aqM:JK.cell? ⟨dE,0,none⟩=some (.int .u8 0):=(ax iU.out 0).trans rfl
               have aoW:=aC iU.out 0
               have agt:=eH.out
               have ags:=bG.out
               have agX:=gK.out
               have agW:=ik.out
               have aqL:JK.cell? ⟨dE,1,none⟩=some (.int .u8 0):=(ax iU.out 1).trans rfl
               have aoV:=aC iU.out 1
               have agr:=eH.out
               have agq:=bG.out
               have agV:=gK.out
               have agU:=ik.out
               have aqK:JK.cell? ⟨dE,2,none⟩=some (.int .u8 0):=(ax iU.out 2).trans rfl
               have aoU:=aC iU.out 2
               have agp:=eH.out
               have agn:=bG.out
               have agT:=gK.out
               have agS:=ik.out
               have aqJ:JK.cell? ⟨dE,3,none⟩=some (.int .u8 0):=(ax iU.out 3).trans rfl
               have aoT:=aC iU.out 3
               have agm:=eH.out
               have agl:=bG.out
               have agR:=gK.out
               have agQ:=ik.out
               have aqI:JK.cell? ⟨dE,4,none⟩=some (.int .i64 0):=(ax iU.out 4).trans rfl
               have aoS:=aC iU.out 4
               have agk:=eH.out
               have agj:=bG.out
               have agP:=gK.out
               have agO:=ik.out
               refine FB (w1:=?_) (by rfl) rfl ?_ ?_
               rotate_left
               ·
                go_simp
                rfl
               refine hK.out _ _ ⟨((cell_far (p:=⟨dE,_,none⟩) bG.out _).trans (((cell_far (p:=⟨dE,_,none⟩) bG.out _).trans (((cell_far (p:=⟨dE,_,none⟩) bG.out _).trans (((cell_far (p:=⟨dE,_,none⟩) bG.out _).trans (((cell_far (p:=⟨dE,_,none⟩) bG.out _).trans (hHeld.1)))))))))),((cell_far (p:=⟨dE,_,none⟩) bG.out _).trans (((cell_far (p:=⟨dE,_,none⟩) bG.out _).trans (((cell_far (p:=⟨dE,_,none⟩) bG.out _).trans (((cell_far (p:=⟨dE,_,none⟩) bG.out _).trans (((cell_far (p:=⟨dE,_,none⟩) bG.out _).trans (hHeld.2.1)))))))))),((cell_far (p:=⟨dE,_,none⟩) bG.out _).trans (((cell_far (p:=⟨dE,_,none⟩) bG.out _).trans (((cell_far (p:=⟨dE,_,none⟩) bG.out _).trans (((cell_far (p:=⟨dE,_,none⟩) bG.out _).trans (((cell_far (p:=⟨dE,_,none⟩) bG.out _).trans (hHeld.2.2.1)))))))))),((cell_far (p:=⟨dE,_,none⟩) bG.out _).trans (((cell_far (p:=⟨dE,_,none⟩) bG.out _).trans (((cell_far (p:=⟨dE,_,none⟩) bG.out _).trans (((cell_far (p:=⟨dE,_,none⟩) bG.out _).trans (((cell_far (p:=⟨dE,_,none⟩) bG.out _).trans (hHeld.2.2.2.1)))))))))),((cell_far (p:=⟨dE,_,none⟩) bG.out _).trans (((cell_far (p:=⟨dE,_,none⟩) bG.out _).trans (((cell_far (p:=⟨dE,_,none⟩) bG.out _).trans (((cell_far (p:=⟨dE,_,none⟩) bG.out _).trans (((cell_far (p:=⟨dE,_,none⟩) bG.out _).trans (hHeld.2.2.2.2))))))))))⟩ (fun hHeld=>?_)
               clear hK K
               refine iy (i:=11) (N:=some 12) (v:=?_) (a':=?_) #[true,true,true,true,true,true,true,true,true,true,true,true] rfl rfl (iO lL.out (by kernel_rfl)) (fun _ _ _ h=>h) (Or.inl ⟨by rfl,?_⟩) ?_ ?_
               rotate_left
               ·
                intro w'
                go_simp
                with_reducible rfl
               rotate_left
               ·
                simp only [Act.put,List.setIfInBounds_toArray,List.set_cons_zero,List.set_cons_succ,bW,cu]
                rfl
               refine uQ (wB lL.out (by kernel_rfl)) ?_
               have acA:=ku.out
               have aco:=sU.out
               have acz:=eH.out
               have acn:=gK.out
               obtain ⟨Ls,Lr,Lp,Lm,Ll,Kv,Ku,Kt,Kr,Kq⟩:=jZ fM.out
               try go_wp2
               refine bodyPost_ret (mr rfl _ _ iP 55 #[.int .u8 0,.int .u8 0,.int .u8 0,.int .u8 0,.int .i64 0] (0,0) _ rfl (by (with_reducible repeat (first|refine au ?_ _|refine ay ?_|refine ak ?_ _));refine dQ (cs:=#[.int .u8 0,.int .u8 0,.int .u8 0,.int .u8 0,.int .i64 eX]) ?_ 4 _ rfl;(with_reducible repeat (first|refine au ?_ _|refine ay ?_|refine ak ?_ _));refine dQ (cs:=#[.int .u8 0,.int .u8 0,.int .u8 0,.int .u8 fH,.int .i64 eX]) ?_ 3 _ rfl;(with_reducible repeat (first|refine au ?_ _|refine ay ?_|refine ak ?_ _));refine dQ (cs:=#[.int .u8 0,.int .u8 0,.int .u8 fQ,.int .u8 fH,.int .i64 eX]) ?_ 2 _ rfl;(with_reducible repeat (first|refine au ?_ _|refine ay ?_|refine ak ?_ _));refine dQ (cs:=#[.int .u8 0,.int .u8 gu,.int .u8 fQ,.int .u8 fH,.int .i64 eX]) ?_ 1 _ rfl;(with_reducible repeat (first|refine au ?_ _|refine ay ?_|refine ak ?_ _));refine dQ (cs:=#[.int .u8 gG,.int .u8 gu,.int .u8 fQ,.int .u8 fH,.int .i64 eX]) ?_ 0 _ rfl;(with_reducible repeat (first|refine au ?_ _|refine ay ?_|refine ak ?_ _));refine fV ?_ eH.out _;(with_reducible repeat (first|refine au ?_ _|refine ay ?_|refine ak ?_ _));refine fV ?_ eH.out _;(with_reducible repeat (first|refine au ?_ _|refine ay ?_|refine ak ?_ _));refine fV ?_ eH.out _;(with_reducible repeat (first|refine au ?_ _|refine ay ?_|refine ak ?_ _));refine fV ?_ eH.out _;(with_reducible repeat (first|refine au ?_ _|refine ay ?_|refine ak ?_ _));refine fV ?_ eH.out _;(with_reducible repeat (first|refine au ?_ _|refine ay ?_|refine ak ?_ _));exact fM.out) Tryd.underlying55 rfl (by kernel_rfl)) rfl ?_
               exact ⟨by first|rfl|(simp [aQ,aN] <;> rfl)|(simp only [← xB];first|rfl|(simp [aQ,aN] <;> rfl))|(simp [*,aQ,aN] <;> rfl),by repeat (first|(with_reducible first|exact HB.out|apply ah|apply ag|apply ai|refine aj ?_ jK.out|refine aj ?_ jH.out|refine aj ?_ mg.out)|exact HB.out)⟩
             ·
              rw [if_neg c20] at H
              have YY:(t117 == 0)=false:=beq_eq_false_iff_ne.mpr c20
              have aex:(t117 != 0)=true:=bne_iff_ne.mpr c20
              simp only [Option.some.injEq,Prod.mk.injEq] at H
              obtain ⟨rfl,rfl,rfl,rfl,rfl,rfl⟩:=H
              have Ar:0≤((pK):Int):=of_decide_eq_true (by first|(with_reducible assumption)|assumption)
              have Ap:(pK) < (l0.length:Int):=of_decide_eq_true (by first|(with_reducible assumption)|assumption)
              obtain ⟨Y2,e115,o9⟩:=Kd.kN HR0.out (pK) Ar Ap
              cases e115
              replace o9:=(HB.out.cell (World.block_lt_of_cell? w _ o9)).trans o9
              replace Ar:=eq_true Ar
              replace Ap:=eq_true Ap
              try go_wp2_with (first|((with_reducible refine bz (f:=64) rfl ?_);refine dS (some 49) rfl rfl Tryd.func64 (by kernel_rfl) rfl #[.string (dY ByteArray.empty l0 (pK))] rfl (by (try simp only [List.map_toArray,List.map_cons,List.map_nil]);first|done|(simp only [xB];rfl)|rfl|(simp only [List.length_drop,List.length_take];rfl)) ?_;(with_reducible refine (aH.calls k3 (dY ByteArray.empty l0 (pK)) t116 t117 _ A16.out).mono ?_);rintro e w' ⟨rfl,⟨nd,rfl⟩⟩;refine ⟨_,rfl,?_⟩;(try (rw [rE wr];generalize BK:World.drewN wr _=wr;have dV:ae (wr.heap[iP]? = some (.cells #[.int .u8 gG,.int .u8 gu,.int .u8 fQ,.int .u8 fH,.int .i64 eX] 55 (0,0))):=⟨by rw [← BK];exact (by (with_reducible repeat (first|refine au ?_ _|refine ay ?_|refine ak ?_ _));exact fM.out)⟩;have dU:ae (wr.heap[eP]? = some (.cells #[.int .u8 dL,.int .u8 dK,.int .u8 dJ,.int .u8 dI,.int .i64 dH] 55 (0,0))):=⟨by rw [← BK];exact (by (with_reducible repeat (first|refine au ?_ _|refine ay ?_|refine ak ?_ _));exact bY.out)⟩;have dR:ae (Below w.heap.size w wr):=⟨by rw [← BK];exact (by repeat (first|(with_reducible first|exact HB.out|apply ah|apply ag|apply ai|refine aj ?_ jK.out|refine aj ?_ jH.out)|exact HB.out))⟩;clear fM bY HB BK;have fM:=dV;have bY:=dU;have HB:=dR;clear dV dU dR))))
              have dV:=ae.mk (ay fM.out)
              have dU:=ae.mk (ay bY.out)
              have dR:=ae.mk (ai HB.out)
              clear fM
              clear bY
              clear HB
              have fM:=dV
              have bY:=dU
              have HB:=dR
              clear dV dU dR
              have FV:0≤(nH:Int):=of_decide_eq_true (by first|(with_reducible assumption)|assumption)
              have FQ:nH < (t112.size:Int):=of_decide_eq_true (by first|(with_reducible assumption)|assumption)
              have P5:=kR t112 nH
              replace FV:=eq_true FV
              replace FQ:=eq_true FQ
              refine rf (n:=12) (S:=fun w'=>w'.cell? ⟨eP,0,none⟩=some (.int .u8 dL)∧w'.cell? ⟨eP,1,none⟩=some (.int .u8 dK)∧w'.cell? ⟨eP,2,none⟩=some (.int .u8 dJ)∧w'.cell? ⟨eP,3,none⟩=some (.int .u8 dI)∧w'.cell? ⟨eP,4,none⟩=some (.int .i64 dH)) (ds:=[]) #[false,false,false,false,false,false,false,false,false,false,false,false] (by kernel_rfl) rfl rfl ⟨(ax bY.out 0).trans rfl,(ax bY.out 1).trans rfl,(ax bY.out 2).trans rfl,(ax bY.out 3).trans rfl,(ax bY.out 4).trans rfl⟩ (fun hHeld=>?_);refine qV aJ.Ph aJ.I9 (fun lL Cf=>?_)
              generalize wr.drew=w48 at fM bY HB hHeld ⊢
              refine iy (i:=1) (N:=some 54) (v:=?_) (a':=?_) #[false,true,false,false,false,false,false,false,false,false,false,false] rfl rfl (iO lL.out (by kernel_rfl)) (fun _ _ _ h=>h) (Or.inl ⟨by rfl,?_⟩) ?_ ?_
              rotate_left
              ·
               intro w'
               go_simp
               with_reducible rfl
              rotate_left
              ·
               simp only [Act.put,List.setIfInBounds_toArray,List.set_cons_zero,List.set_cons_succ,bW,cu]
               rfl
              refine iy (i:=2) (N:=some 55) (v:=?_) (a':=?_) #[false,true,true,false,false,false,false,false,false,false,false,false] rfl rfl (iO lL.out (by kernel_rfl)) (fun _ _ _ h=>h) (Or.inl ⟨by rfl,?_⟩) ?_ ?_
              rotate_left
              ·
               intro w'
               go_simp
               with_reducible rfl
              rotate_left
              ·
               simp only [Act.put,List.setIfInBounds_toArray,List.set_cons_zero,List.set_cons_succ,bW,cu]
               rfl
              refine iy (i:=4) (N:=some 57) (v:=?_) (a':=?_) #[false,true,true,false,true,false,false,false,false,false,false,false] rfl rfl (iO lL.out (by kernel_rfl)) (fun _ _ _ h=>h) (Or.inl ⟨by rfl,?_⟩) ?_ ?_
              rotate_left
              ·
               intro w'
               go_simp
               with_reducible rfl
              rotate_left
              ·
               simp only [Act.put,List.setIfInBounds_toArray,List.set_cons_zero,List.set_cons_succ,bW,cu]
               rfl
              refine kU (i:=0) (N:=some 53) (v:=?_) (a':=?_) #[true,true,true,false,true,false,false,false,false,false,false,false] rfl rfl (kQ lL.out Cf.out (by kernel_rfl)) (fun _ _ _ h=>h) (Or.inl ⟨by rfl,?_⟩) hHeld ?_ ?_
              rotate_left
              ·
               rintro w' ⟨s0,s1,s2,s3,s4⟩
               go_simp
               with_reducible rfl
              rotate_left
              ·
               simp only [Act.put,List.setIfInBounds_toArray,List.set_cons_zero,List.set_cons_succ,bW,cu]
               rfl
              refine kU (i:=3) (N:=some 56) (v:=?_) (a':=?_) #[true,true,true,true,true,false,false,false,false,false,false,false] rfl rfl (kQ lL.out Cf.out (by kernel_rfl)) (fun _ _ _ h=>h) (Or.inl ⟨by rfl,?_⟩) hHeld ?_ ?_
              rotate_left
              ·
               rintro w' ⟨s0,s1,s2,s3,s4⟩
               go_simp
               with_reducible rfl
              rotate_left
              ·
               simp only [Act.put,List.setIfInBounds_toArray,List.set_cons_zero,List.set_cons_succ,bW,cu]
               rfl
              refine JZ (σ:=Nat) 2 #[true,true,true,true,true,true,true,true,true,true,false,false] (fun s_=>[(58,.tuple #[.agg #[.int .u8 t118,.int .u8 t119,.int .u8 t120,.int .u8 t121,.int .i64 t122],.bool t123]),(11,.pointer (some ⟨s_,0,none⟩)),(52,.tuple #[.agg #[.int .u8 t118,.int .u8 t119,.int .u8 t120,.int .u8 t121,.int .i64 t122],.bool t123]),(59,.agg #[.int .u8 t118,.int .u8 t119,.int .u8 t120,.int .u8 t121,.int .i64 t122]),(60,.bool t123)]) (fun s_ w'=>(w'.cell? ⟨eP,0,none⟩=some (.int .u8 dL)∧w'.cell? ⟨eP,1,none⟩=some (.int .u8 dK)∧w'.cell? ⟨eP,2,none⟩=some (.int .u8 dJ)∧w'.cell? ⟨eP,3,none⟩=some (.int .u8 dI)∧w'.cell? ⟨eP,4,none⟩=some (.int .i64 dH))∧(w'.heap[iP]? = some (.cells #[.int .u8 gG,.int .u8 gu,.int .u8 fQ,.int .u8 fH,.int .i64 eX] 55 (0,0)))∧(w'.heap[eP]? = some (.cells #[.int .u8 dL,.int .u8 dK,.int .u8 dJ,.int .u8 dI,.int .i64 dH] 55 (0,0)))∧(w'.heap[s_]? = some (.cells #[.int .u8 0,.int .u8 0,.int .u8 0,.int .u8 0,.int .i64 0] 55 (0,0)))∧(w.heap.size≤s_)∧(w.heap.size≤s_)∧(iP ≠ s_)∧(s_ ≠ iP)∧(eP ≠ s_)∧(s_ ≠ eP)∧(Below w.heap.size w w')) ?_ ?_
              rotate_left
              ·
               intro yO
               refine Tn (i:=5) (j:=9) (Ni:=some 58) (Nj:=some 11) #[true,true,true,true,true,true,false,false,false,false,false,false] #[true,true,true,true,true,false,false,false,false,true,false,false] rfl rfl rfl rfl (H5 lL.out (by kernel_rfl)) (by decide) (by decide) (fun K hK=>?_) (fun K hK=>?_)
               ·
                skip
                refine qy Tryd.func65 (by kernel_rfl) rfl #[.agg #[.int .u8 dL,.int .u8 dK,.int .u8 dJ,.int .u8 dI,.int .i64 dH],.int .u8 (bt t112 nH),.int .i64 t116] (by rfl) rfl rfl (by (try simp only [List.map_toArray,List.map_cons,List.map_nil]);first|done|rfl|(simp only [List.length_drop,List.length_take];rfl)) ?_
                with_reducible refine (bf.calls k3 dL dK dJ dI dH (bt t112 nH) t116 t118 t119 t120 t121 t122 t123 _ Sv.out).mono ?_
                rintro e w49 ⟨rfl,hb⟩
                refine ⟨_,rfl,?_⟩
                have dV:=ae.mk (bg (g:=iP) (o:=.cells #[.int .u8 gG,.int .u8 gu,.int .u8 fQ,.int .u8 fH,.int .i64 eX] 55 (0,0)) (by (with_reducible repeat (first|refine au ?_ _|refine ay ?_|refine ak ?_ _));exact fM.out) hb)
                have dU:=ae.mk (bg (g:=eP) (o:=.cells #[.int .u8 dL,.int .u8 dK,.int .u8 dJ,.int .u8 dI,.int .i64 dH] 55 (0,0)) (by (with_reducible repeat (first|refine au ?_ _|refine ay ?_|refine ak ?_ _));exact bY.out) hb)
                have dR:=ae.mk (bn (by repeat (first|(with_reducible first|exact HB.out|apply ah|apply ag|apply ai|refine aj ?_ jK.out|refine aj ?_ jH.out)|exact HB.out)) hb)
                clear fM
                clear bY
                clear HB
                have fM:=dV
                have bY:=dU
                have HB:=dR
                clear dV dU dR
                (try clear hb)
                (try clear hb2)
                (try clear hk)
                (try clear hi)
                refine hK.out _ _ ⟨(ax bY.out 0).trans rfl,(ax bY.out 1).trans rfl,(ax bY.out 2).trans rfl,(ax bY.out 3).trans rfl,(ax bY.out 4).trans rfl⟩ (fun hHeld=>?_)
                clear hK K
                refine ji (a':=?_) ?_ ?_
                rotate_left
                ·
                 show Act.put _ (some 58) _=_
                 simp only [Act.put,List.setIfInBounds_toArray,List.set_cons_zero,List.set_cons_succ,bW,cu]
                 rfl
                refine iy (i:=6) (N:=some 52) (v:=?_) (a':=?_) #[true,true,true,true,true,true,true,false,false,false,false,false] rfl rfl (iO lL.out (by kernel_rfl)) (fun _ _ _ h=>h) (Or.inl ⟨by rfl,?_⟩) ?_ ?_
                rotate_left
                ·
                 intro w'
                 go_simp
                 with_reducible rfl
                rotate_left
                ·
                 simp only [Act.put,List.setIfInBounds_toArray,List.set_cons_zero,List.set_cons_succ,bW,cu]
                 rfl
                refine iy (i:=7) (N:=some 59) (v:=?_) (a':=?_) #[true,true,true,true,true,true,true,true,false,false,false,false] rfl rfl (iO lL.out (by kernel_rfl)) (fun _ _ _ h=>h) (Or.inl ⟨by rfl,?_⟩) ?_ ?_
                rotate_left
                ·
                 intro w'
                 go_simp
                 with_reducible rfl
                rotate_left
                ·
                 simp only [Act.put,List.setIfInBounds_toArray,List.set_cons_zero,List.set_cons_succ,bW,cu]
                 rfl
                refine iy (i:=8) (N:=some 60) (v:=?_) (a':=?_) #[true,true,true,true,true,true,true,true,true,false,false,false] rfl rfl (iO lL.out (by kernel_rfl)) (fun _ _ _ h=>h) (Or.inl ⟨by rfl,?_⟩) ?_ ?_
                rotate_left
                ·
                 intro w'
                 go_simp
                 with_reducible rfl
                rotate_left
                ·
                 simp only [Act.put,List.setIfInBounds_toArray,List.set_cons_zero,List.set_cons_succ,bW,cu]
                 rfl
                refine o6 (i:=9) (N:=some 11) #[true,true,true,true,true,true,true,true,true,true,false,false] rfl rfl (nJ lL.out (by kernel_rfl)) (by decide) (fun K hK=>?_)
                refine sS ?hg (N:=11) ?hd (cs:=#[.int .u8 0,.int .u8 0,.int .u8 0,.int .u8 0,.int .i64 0]) (t:=55) ?hr ?_;(case hd=>rfl);(case hg=>rfl);(case hr=>first|(go_simp;done)|(go_simp;rfl))
                intro dE hg w50 hbox hb
                have dV:=ae.mk (bg (g:=iP) (o:=.cells #[.int .u8 gG,.int .u8 gu,.int .u8 fQ,.int .u8 fH,.int .i64 eX] 55 (0,0)) (by (with_reducible repeat (first|refine au ?_ _|refine ay ?_|refine ak ?_ _));exact fM.out) hb)
                have dU:=ae.mk (bg (g:=eP) (o:=.cells #[.int .u8 dL,.int .u8 dK,.int .u8 dJ,.int .u8 dI,.int .i64 dH] 55 (0,0)) (by (with_reducible repeat (first|refine au ?_ _|refine ay ?_|refine ak ?_ _));exact bY.out) hb)
                have dR:=ae.mk (bn (by repeat (first|(with_reducible first|exact HB.out|apply ah|apply ag|apply ai|refine aj ?_ jK.out|refine aj ?_ jH.out)|exact HB.out)) hb)
                have gZ:=ae.mk (hbox)
                have l9:=ae.mk ((by rw [hg];exact (bU (by repeat (first|(with_reducible first|exact HB.out|apply ah|apply ag|apply ai|refine aj ?_ jK.out|refine aj ?_ jH.out)|exact HB.out))):w.heap.size≤dE))
                have mY:=l9
                have nY:=ae.mk ((by rw [hg];exact Nat.ne_of_lt (kK (g:=iP) (o:=.cells #[.int .u8 gG,.int .u8 gu,.int .u8 fQ,.int .u8 fH,.int .i64 eX] 55 (0,0)) (by (with_reducible repeat (first|refine au ?_ _|refine ay ?_|refine ak ?_ _));exact fM.out)):iP ≠ dE))
                have wV:=ae.mk nY.out.symm
                have wU:=ae.mk ((by rw [hg];exact Nat.ne_of_lt (kK (g:=eP) (o:=.cells #[.int .u8 dL,.int .u8 dK,.int .u8 dJ,.int .u8 dI,.int .i64 dH] 55 (0,0)) (by (with_reducible repeat (first|refine au ?_ _|refine ay ?_|refine ak ?_ _));exact bY.out)):eP ≠ dE))
                have yM:=ae.mk wU.out.symm
                clear fM
                clear bY
                clear HB
                have fM:=dV
                have bY:=dU
                have HB:=dR
                have iU:=gZ
                have rV:=l9
                have mg:=mY
                have eH:=nY
                have gK:=wV
                have bG:=wU
                have ik:=yM
                clear dV dU dR gZ l9 mY nY wV wU yM
                clear hb hbox hg
                refine hK.out _ _ ⟨(ax bY.out 0).trans rfl,(ax bY.out 1).trans rfl,(ax bY.out 2).trans rfl,(ax bY.out 3).trans rfl,(ax bY.out 4).trans rfl⟩ (fun hHeld=>?_)
                clear hK K
                refine ji (a':=?_) ?_ ?_
                rotate_left
                ·
                 show Act.put _ (some 11) _=_
                 simp only [Act.put,List.setIfInBounds_toArray,List.set_cons_zero,List.set_cons_succ,bW,cu]
                 rfl
                exact ji (by simp only [lW,Act.put,List.setIfInBounds_toArray,List.set_cons_zero,List.set_cons_succ]) (yO (dE) _ ⟨hHeld,(by (with_reducible repeat (first|refine au ?_ _|refine ay ?_|refine ak ?_ _));exact fM.out),(by (with_reducible repeat (first|refine au ?_ _|refine ay ?_|refine ak ?_ _));exact bY.out),(by (with_reducible repeat (first|refine au ?_ _|refine ay ?_|refine ak ?_ _));exact iU.out),rV.out,mg.out,eH.out,gK.out,bG.out,ik.out,(by repeat (first|(with_reducible first|exact HB.out|apply ah|apply ag|apply ai|refine aj ?_ jK.out|refine aj ?_ jH.out|refine aj ?_ mg.out)|exact HB.out))⟩)
               ·
                skip
                refine sS ?hg (N:=11) ?hd (cs:=#[.int .u8 0,.int .u8 0,.int .u8 0,.int .u8 0,.int .i64 0]) (t:=55) ?hr ?_;(case hd=>rfl);(case hg=>rfl);(case hr=>first|(go_simp;done)|(go_simp;rfl))
                intro dE hg w49 hbox hb
                have dV:=ae.mk (bg (g:=iP) (o:=.cells #[.int .u8 gG,.int .u8 gu,.int .u8 fQ,.int .u8 fH,.int .i64 eX] 55 (0,0)) (by (with_reducible repeat (first|refine au ?_ _|refine ay ?_|refine ak ?_ _));exact fM.out) hb)
                have dU:=ae.mk (bg (g:=eP) (o:=.cells #[.int .u8 dL,.int .u8 dK,.int .u8 dJ,.int .u8 dI,.int .i64 dH] 55 (0,0)) (by (with_reducible repeat (first|refine au ?_ _|refine ay ?_|refine ak ?_ _));exact bY.out) hb)
                have dR:=ae.mk (bn (by repeat (first|(with_reducible first|exact HB.out|apply ah|apply ag|apply ai|refine aj ?_ jK.out|refine aj ?_ jH.out)|exact HB.out)) hb)
                have gZ:=ae.mk (hbox)
                have l9:=ae.mk ((by rw [hg];exact (bU (by repeat (first|(with_reducible first|exact HB.out|apply ah|apply ag|apply ai|refine aj ?_ jK.out|refine aj ?_ jH.out)|exact HB.out))):w.heap.size≤dE))
                have mY:=l9
                have nY:=ae.mk ((by rw [hg];exact Nat.ne_of_lt (kK (g:=iP) (o:=.cells #[.int .u8 gG,.int .u8 gu,.int .u8 fQ,.int .u8 fH,.int .i64 eX] 55 (0,0)) (by (with_reducible repeat (first|refine au ?_ _|refine ay ?_|refine ak ?_ _));exact fM.out)):iP ≠ dE))
                have wV:=ae.mk nY.out.symm
                have wU:=ae.mk ((by rw [hg];exact Nat.ne_of_lt (kK (g:=eP) (o:=.cells #[.int .u8 dL,.int .u8 dK,.int .u8 dJ,.int .u8 dI,.int .i64 dH] 55 (0,0)) (by (with_reducible repeat (first|refine au ?_ _|refine ay ?_|refine ak ?_ _));exact bY.out)):eP ≠ dE))
                have yM:=ae.mk wU.out.symm
                clear fM
                clear bY
                clear HB
                have fM:=dV
                have bY:=dU
                have HB:=dR
                have iU:=gZ
                have rV:=l9
                have mg:=mY
                have eH:=nY
                have gK:=wV
                have bG:=wU
                have ik:=yM
                clear dV dU dR gZ l9 mY nY wV wU yM
                clear hb hbox hg
                refine hK.out _ _ ⟨(ax bY.out 0).trans rfl,(ax bY.out 1).trans rfl,(ax bY.out 2).trans rfl,(ax bY.out 3).trans rfl,(ax bY.out 4).trans rfl⟩ (fun hHeld=>?_)
                clear hK K
                refine ji (a':=?_) ?_ ?_
                rotate_left
                ·
                 show Act.put _ (some 11) _=_
                 simp only [Act.put,List.setIfInBounds_toArray,List.set_cons_zero,List.set_cons_succ,bW,cu]
                 rfl
                refine o6 (i:=5) (N:=some 58) #[true,true,true,true,true,true,false,false,false,true,false,false] rfl rfl (nJ lL.out (by kernel_rfl)) (by decide) (fun K hK=>?_)
                refine qy Tryd.func65 (by kernel_rfl) rfl #[.agg #[.int .u8 dL,.int .u8 dK,.int .u8 dJ,.int .u8 dI,.int .i64 dH],.int .u8 (bt t112 nH),.int .i64 t116] (by rfl) rfl rfl (by (try simp only [List.map_toArray,List.map_cons,List.map_nil]);first|done|rfl|(simp only [List.length_drop,List.length_take];rfl)) ?_
                with_reducible refine (bf.calls k3 dL dK dJ dI dH (bt t112 nH) t116 t118 t119 t120 t121 t122 t123 _ Sv.out).mono ?_
                rintro e w50 ⟨rfl,hb⟩
                refine ⟨_,rfl,?_⟩
                have dV:=ae.mk (bg (g:=iP) (o:=.cells #[.int .u8 gG,.int .u8 gu,.int .u8 fQ,.int .u8 fH,.int .i64 eX] 55 (0,0)) (by (with_reducible repeat (first|refine au ?_ _|refine ay ?_|refine ak ?_ _));exact fM.out) hb)
                have dU:=ae.mk (bg (g:=eP) (o:=.cells #[.int .u8 dL,.int .u8 dK,.int .u8 dJ,.int .u8 dI,.int .i64 dH] 55 (0,0)) (by (with_reducible repeat (first|refine au ?_ _|refine ay ?_|refine ak ?_ _));exact bY.out) hb)
                have dR:=ae.mk (bg (g:=dE) (o:=.cells #[.int .u8 0,.int .u8 0,.int .u8 0,.int .u8 0,.int .i64 0] 55 (0,0)) (by (with_reducible repeat (first|refine au ?_ _|refine ay ?_|refine ak ?_ _));exact iU.out) hb)
                have gZ:=ae.mk (bn (by repeat (first|(with_reducible first|exact HB.out|apply ah|apply ag|apply ai|refine aj ?_ jK.out|refine aj ?_ jH.out|refine aj ?_ mg.out)|exact HB.out)) hb)
                clear fM
                clear bY
                clear iU
                clear HB
                have fM:=dV
                have bY:=dU
                have iU:=dR
                have HB:=gZ
                clear dV dU dR gZ
                (try clear hb)
                (try clear hb2)
                (try clear hk)
                (try clear hi)
                refine hK.out _ _ ⟨(ax bY.out 0).trans rfl,(ax bY.out 1).trans rfl,(ax bY.out 2).trans rfl,(ax bY.out 3).trans rfl,(ax bY.out 4).trans rfl⟩ (fun hHeld=>?_)
                clear hK K
                refine ji (a':=?_) ?_ ?_
                rotate_left
                ·
                 show Act.put _ (some 58) _=_
                 simp only [Act.put,List.setIfInBounds_toArray,List.set_cons_zero,List.set_cons_succ,bW,cu]
                 rfl
                refine iy (i:=6) (N:=some 52) (v:=?_) (a':=?_) #[true,true,true,true,true,true,true,false,false,true,false,false] rfl rfl (iO lL.out (by kernel_rfl)) (fun _ _ _ h=>h) (Or.inl ⟨by rfl,?_⟩) ?_ ?_
                rotate_left
                ·
                 intro w'
                 go_simp
                 with_reducible rfl
                rotate_left
                ·
                 simp only [Act.put,List.setIfInBounds_toArray,List.set_cons_zero,List.set_cons_succ,bW,cu]
                 rfl
                refine iy (i:=7) (N:=some 59) (v:=?_) (a':=?_) #[true,true,true,true,true,true,true,true,false,true,false,false] rfl rfl (iO lL.out (by kernel_rfl)) (fun _ _ _ h=>h) (Or.inl ⟨by rfl,?_⟩) ?_ ?_
                rotate_left
                ·
                 intro w'
                 go_simp
                 with_reducible rfl
                rotate_left
                ·
                 simp only [Act.put,List.setIfInBounds_toArray,List.set_cons_zero,List.set_cons_succ,bW,cu]
                 rfl
                refine iy (i:=8) (N:=some 60) (v:=?_) (a':=?_) #[true,true,true,true,true,true,true,true,true,true,false,false] rfl rfl (iO lL.out (by kernel_rfl)) (fun _ _ _ h=>h) (Or.inl ⟨by rfl,?_⟩) ?_ ?_
                rotate_left
                ·
                 intro w'
                 go_simp
                 with_reducible rfl
                rotate_left
                ·
                 simp only [Act.put,List.setIfInBounds_toArray,List.set_cons_zero,List.set_cons_succ,bW,cu]
                 rfl
                exact ji (by simp only [lW,Act.put,List.setIfInBounds_toArray,List.set_cons_zero,List.set_cons_succ]) (yO (dE) _ ⟨hHeld,(by (with_reducible repeat (first|refine au ?_ _|refine ay ?_|refine ak ?_ _));exact fM.out),(by (with_reducible repeat (first|refine au ?_ _|refine ay ?_|refine ak ?_ _));exact bY.out),(by (with_reducible repeat (first|refine au ?_ _|refine ay ?_|refine ak ?_ _));exact iU.out),rV.out,mg.out,eH.out,gK.out,bG.out,ik.out,(by repeat (first|(with_reducible first|exact HB.out|apply ah|apply ag|apply ai|refine aj ?_ jK.out|refine aj ?_ jH.out|refine aj ?_ mg.out)|exact HB.out))⟩)
              rintro dE Hz ⟨XN,YU,QN,YT,YS,YR,YQ,YP,YO,YN,YM⟩
              have dV:ae (Hz.heap[iP]? = some (.cells #[.int .u8 gG,.int .u8 gu,.int .u8 fQ,.int .u8 fH,.int .i64 eX] 55 (0,0))):=⟨YU⟩
              have dU:ae (Hz.heap[eP]? = some (.cells #[.int .u8 dL,.int .u8 dK,.int .u8 dJ,.int .u8 dI,.int .i64 dH] 55 (0,0))):=⟨QN⟩
              have dR:ae (Hz.heap[dE]? = some (.cells #[.int .u8 0,.int .u8 0,.int .u8 0,.int .u8 0,.int .i64 0] 55 (0,0))):=⟨YT⟩
              have gZ:ae (w.heap.size≤dE):=⟨YS⟩
              have l9:ae (w.heap.size≤dE):=⟨YR⟩
              have mY:ae (iP ≠ dE):=⟨YQ⟩
              have nY:ae (dE ≠ iP):=⟨YP⟩
              have wV:ae (eP ≠ dE):=⟨YO⟩
              have wU:ae (dE ≠ eP):=⟨YN⟩
              have yM:ae (Below w.heap.size w Hz):=⟨YM⟩
              clear fM
              clear bY
              clear HB
              clear YU QN YT YS YR YQ YP YO YN YM
              have fM:=dV
              have bY:=dU
              have iU:=dR
              have rV:=gZ
              have mg:=l9
              have eH:=mY
              have gK:=nY
              have bG:=wV
              have ik:=wU
              have HB:=yM
              clear dV dU dR gZ l9 mY nY wV wU yM
              have hHeld:Hz.cell? ⟨eP,0,none⟩=some (.int .u8 dL)∧Hz.cell? ⟨eP,1,none⟩=some (.int .u8 dK)∧Hz.cell? ⟨eP,2,none⟩=some (.int .u8 dJ)∧Hz.cell? ⟨eP,3,none⟩=some (.int .u8 dI)∧Hz.cell? ⟨eP,4,none⟩=some (.int .i64 dH):=XN
              refine ji (a':=?_) ?_ ?_
              rotate_left
              ·
               simp only [lW,Act.put,List.setIfInBounds_toArray,List.set_cons_zero,List.set_cons_succ]
               rfl
              refine o6 (i:=10) (N:=none) #[true,true,true,true,true,true,true,true,true,true,true,false] rfl rfl (nJ lL.out (by kernel_rfl)) (by decide) (fun K hK=>?_)
              have aqG:Hz.cell? ⟨dE,0,none⟩=some (.int .u8 0):=(ax iU.out 0).trans rfl
              have aoR:=aC iU.out 0
              have agi:=eH.out
              have agh:=bG.out
              have agN:=gK.out
              have agM:=ik.out
              have aqF:Hz.cell? ⟨dE,1,none⟩=some (.int .u8 0):=(ax iU.out 1).trans rfl
              have aoQ:=aC iU.out 1
              have agf:=eH.out
              have age:=bG.out
              have agL:=gK.out
              have agK:=ik.out
              have aqE:Hz.cell? ⟨dE,2,none⟩=some (.int .u8 0):=(ax iU.out 2).trans rfl
              have aoP:=aC iU.out 2
              have agd:=eH.out
              have agc:=bG.out
              have agJ:=gK.out
              have agI:=ik.out
              have aqD:Hz.cell? ⟨dE,3,none⟩=some (.int .u8 0):=(ax iU.out 3).trans rfl
              have aoO:=aC iU.out 3
              have agb:=eH.out
              have aga:=bG.out
              have agH:=gK.out
              have agG:=ik.out
              have aqC:Hz.cell? ⟨dE,4,none⟩=some (.int .i64 0):=(ax iU.out 4).trans rfl
              have aoN:=aC iU.out 4
              have af9:=eH.out
              have af8:=bG.out
              have agF:=gK.out
              have agE:=ik.out
              refine FB (w1:=?_) (by rfl) rfl ?_ ?_
              rotate_left
              ·
               go_simp
               rfl
              refine hK.out _ _ ⟨((cell_far (p:=⟨dE,_,none⟩) bG.out _).trans (((cell_far (p:=⟨dE,_,none⟩) bG.out _).trans (((cell_far (p:=⟨dE,_,none⟩) bG.out _).trans (((cell_far (p:=⟨dE,_,none⟩) bG.out _).trans (((cell_far (p:=⟨dE,_,none⟩) bG.out _).trans (hHeld.1)))))))))),((cell_far (p:=⟨dE,_,none⟩) bG.out _).trans (((cell_far (p:=⟨dE,_,none⟩) bG.out _).trans (((cell_far (p:=⟨dE,_,none⟩) bG.out _).trans (((cell_far (p:=⟨dE,_,none⟩) bG.out _).trans (((cell_far (p:=⟨dE,_,none⟩) bG.out _).trans (hHeld.2.1)))))))))),((cell_far (p:=⟨dE,_,none⟩) bG.out _).trans (((cell_far (p:=⟨dE,_,none⟩) bG.out _).trans (((cell_far (p:=⟨dE,_,none⟩) bG.out _).trans (((cell_far (p:=⟨dE,_,none⟩) bG.out _).trans (((cell_far (p:=⟨dE,_,none⟩) bG.out _).trans (hHeld.2.2.1)))))))))),((cell_far (p:=⟨dE,_,none⟩) bG.out _).trans (((cell_far (p:=⟨dE,_,none⟩) bG.out _).trans (((cell_far (p:=⟨dE,_,none⟩) bG.out _).trans (((cell_far (p:=⟨dE,_,none⟩) bG.out _).trans (((cell_far (p:=⟨dE,_,none⟩) bG.out _).trans (hHeld.2.2.2.1)))))))))),((cell_far (p:=⟨dE,_,none⟩) bG.out _).trans (((cell_far (p:=⟨dE,_,none⟩) bG.out _).trans (((cell_far (p:=⟨dE,_,none⟩) bG.out _).trans (((cell_far (p:=⟨dE,_,none⟩) bG.out _).trans (((cell_far (p:=⟨dE,_,none⟩) bG.out _).trans (hHeld.2.2.2.2))))))))))⟩ (fun hHeld=>?_)
              clear hK K
              refine iy (i:=11) (N:=some 12) (v:=?_) (a':=?_) #[true,true,true,true,true,true,true,true,true,true,true,true] rfl rfl (iO lL.out (by kernel_rfl)) (fun _ _ _ h=>h) (Or.inl ⟨by rfl,?_⟩) ?_ ?_
              rotate_left
              ·
               intro w'
               go_simp
               with_reducible rfl
              rotate_left
              ·
               simp only [Act.put,List.setIfInBounds_toArray,List.set_cons_zero,List.set_cons_succ,bW,cu]
               rfl
              refine uQ (wB lL.out (by kernel_rfl)) ?_
              have acw:=ku.out
              have acj:=sU.out
              have aop:=eH.out
              have anY:=gK.out
              obtain ⟨Lj,Lh,Le,Ld,Lc,Ko,J9,J8,J7,J6⟩:=jZ fM.out
              try go_wp2
              refine bodyPost_ret (mr rfl _ _ iP 55 #[.int .u8 0,.int .u8 0,.int .u8 0,.int .u8 0,.int .i64 0] (0,0) _ rfl (by (with_reducible repeat (first|refine au ?_ _|refine ay ?_|refine ak ?_ _));refine dQ (cs:=#[.int .u8 0,.int .u8 0,.int .u8 0,.int .u8 0,.int .i64 eX]) ?_ 4 _ rfl;(with_reducible repeat (first|refine au ?_ _|refine ay ?_|refine ak ?_ _));refine dQ (cs:=#[.int .u8 0,.int .u8 0,.int .u8 0,.int .u8 fH,.int .i64 eX]) ?_ 3 _ rfl;(with_reducible repeat (first|refine au ?_ _|refine ay ?_|refine ak ?_ _));refine dQ (cs:=#[.int .u8 0,.int .u8 0,.int .u8 fQ,.int .u8 fH,.int .i64 eX]) ?_ 2 _ rfl;(with_reducible repeat (first|refine au ?_ _|refine ay ?_|refine ak ?_ _));refine dQ (cs:=#[.int .u8 0,.int .u8 gu,.int .u8 fQ,.int .u8 fH,.int .i64 eX]) ?_ 1 _ rfl;(with_reducible repeat (first|refine au ?_ _|refine ay ?_|refine ak ?_ _));refine dQ (cs:=#[.int .u8 gG,.int .u8 gu,.int .u8 fQ,.int .u8 fH,.int .i64 eX]) ?_ 0 _ rfl;(with_reducible repeat (first|refine au ?_ _|refine ay ?_|refine ak ?_ _));refine fV ?_ eH.out _;(with_reducible repeat (first|refine au ?_ _|refine ay ?_|refine ak ?_ _));refine fV ?_ eH.out _;(with_reducible repeat (first|refine au ?_ _|refine ay ?_|refine ak ?_ _));refine fV ?_ eH.out _;(with_reducible repeat (first|refine au ?_ _|refine ay ?_|refine ak ?_ _));refine fV ?_ eH.out _;(with_reducible repeat (first|refine au ?_ _|refine ay ?_|refine ak ?_ _));refine fV ?_ eH.out _;(with_reducible repeat (first|refine au ?_ _|refine ay ?_|refine ak ?_ _));exact fM.out) Tryd.underlying55 rfl (by kernel_rfl)) rfl ?_
              exact ⟨by first|rfl|(simp [aQ,aN] <;> rfl)|(simp only [← xB];first|rfl|(simp [aQ,aN] <;> rfl))|(simp [*,aQ,aN] <;> rfl),by repeat (first|(with_reducible first|exact HB.out|apply ah|apply ag|apply ai|refine aj ?_ jK.out|refine aj ?_ jH.out|refine aj ?_ mg.out)|exact HB.out)⟩
            ·
             rw [if_neg c17] at H
             exact absurd H (by simp)
           ·
            rw [if_neg c15] at H
            exact absurd H (by simp)
          ·
           rw [if_neg c14] at H
           exact absurd H (by simp)
         ·
          rw [if_neg c12] at H
          have wY:decide (nH < (t112.size:Int))=false:=decide_eq_false c12
          clear c12
          simp only [Option.some.injEq,Prod.mk.injEq] at H
          obtain ⟨rfl,rfl,rfl,rfl,rfl,rfl⟩:=H
          have aoo:=sU.out
          have anX:=ku.out
          obtain ⟨V4,V3,VZ,VY,VX,Uz,Uy,Ux,Uw,Uu⟩:=jZ bY.out
          obtain ⟨VW,VV,VU,VT,VS,Ut,Us,Ur,Uo,Un⟩:=jZ fM.out
          go_wp2
          refine bodyPost_ret (mr rfl _ _ iP 55 #[.int .u8 dL,.int .u8 dK,.int .u8 dJ,.int .u8 dI,.int .i64 dH] (0,0) _ rfl (by (with_reducible repeat (first|refine au ?_ _|refine ay ?_|refine ak ?_ _));refine dQ (cs:=#[.int .u8 dL,.int .u8 dK,.int .u8 dJ,.int .u8 dI,.int .i64 eX]) ?_ 4 _ rfl;(with_reducible repeat (first|refine au ?_ _|refine ay ?_|refine ak ?_ _));refine dQ (cs:=#[.int .u8 dL,.int .u8 dK,.int .u8 dJ,.int .u8 fH,.int .i64 eX]) ?_ 3 _ rfl;(with_reducible repeat (first|refine au ?_ _|refine ay ?_|refine ak ?_ _));refine dQ (cs:=#[.int .u8 dL,.int .u8 dK,.int .u8 fQ,.int .u8 fH,.int .i64 eX]) ?_ 2 _ rfl;(with_reducible repeat (first|refine au ?_ _|refine ay ?_|refine ak ?_ _));refine dQ (cs:=#[.int .u8 dL,.int .u8 gu,.int .u8 fQ,.int .u8 fH,.int .i64 eX]) ?_ 1 _ rfl;(with_reducible repeat (first|refine au ?_ _|refine ay ?_|refine ak ?_ _));refine dQ (cs:=#[.int .u8 gG,.int .u8 gu,.int .u8 fQ,.int .u8 fH,.int .i64 eX]) ?_ 0 _ rfl;(with_reducible repeat (first|refine au ?_ _|refine ay ?_|refine ak ?_ _));exact fM.out) Tryd.underlying55 rfl (by kernel_rfl)) rfl ?_
          exact ⟨by first|rfl|(simp [aQ,aN] <;> rfl)|(simp [*,aQ,aN] <;> rfl),by repeat (first|(with_reducible first|exact HB.out|apply ah|apply ag|apply ai|refine aj ?_ jK.out|refine aj ?_ jH.out)|exact HB.out)⟩
   ·
    rw [if_neg c3] at H
    have ou:decide (tq≤15)=false:=decide_eq_false c3
    clear c3
    simp only [Option.some.injEq,Prod.mk.injEq] at H
    obtain ⟨rfl,rfl,rfl,rfl,rfl,rfl⟩:=H
    obtain ⟨aki,akh,akg,akf,ake,ah2,ah1,ah0,ahZ,ahY⟩:=jZ fM.out
    go_wp2
    refine bodyPost_ret (mr rfl _ _ iP 55 #[.int .u8 0,.int .u8 0,.int .u8 0,.int .u8 0,.int .i64 0] (0,0) _ rfl (by (with_reducible repeat (first|refine au ?_ _|refine ay ?_|refine ak ?_ _));refine dQ (cs:=#[.int .u8 0,.int .u8 0,.int .u8 0,.int .u8 0,.int .i64 lG]) ?_ 4 _ rfl;(with_reducible repeat (first|refine au ?_ _|refine ay ?_|refine ak ?_ _));refine dQ (cs:=#[.int .u8 0,.int .u8 0,.int .u8 0,.int .u8 lV,.int .i64 lG]) ?_ 3 _ rfl;(with_reducible repeat (first|refine au ?_ _|refine ay ?_|refine ak ?_ _));refine dQ (cs:=#[.int .u8 0,.int .u8 0,.int .u8 mX,.int .u8 lV,.int .i64 lG]) ?_ 2 _ rfl;(with_reducible repeat (first|refine au ?_ _|refine ay ?_|refine ak ?_ _));refine dQ (cs:=#[.int .u8 0,.int .u8 nS,.int .u8 mX,.int .u8 lV,.int .i64 lG]) ?_ 1 _ rfl;(with_reducible repeat (first|refine au ?_ _|refine ay ?_|refine ak ?_ _));refine dQ (cs:=#[.int .u8 oO,.int .u8 nS,.int .u8 mX,.int .u8 lV,.int .i64 lG]) ?_ 0 _ rfl;(with_reducible repeat (first|refine au ?_ _|refine ay ?_|refine ak ?_ _));exact fM.out) Tryd.underlying55 rfl (by kernel_rfl)) rfl ?_
    exact ⟨by first|rfl|(simp [aQ,aN] <;> rfl)|(simp [*,aQ,aN] <;> rfl),by repeat (first|(with_reducible first|exact HB.out|apply ah|apply ag|apply ai|refine aj ?_ jK.out)|exact HB.out)⟩
end Go.Proofs.YtlemecdddhdagaaDoor.P
end
