/- Parts of the proof of LeakTrue: what the functions that it reaches compute, and plain facts about that. -/
import Derived.Test.YtgfnpdfhdgenbaaDoorTab
import Derived.Test.YtgfnpdfhdgenbaaDoorTac
import Derived.Test.YtgfnpdfhdgenbaaDoorTad
set_option linter.unusedVariables false
set_option linter.unusedSimpArgs false
section
namespace Go.Proofs.YtgfnpdfhdgenbaaDoor.P
open Go.RowKit Go.Proofs.ae.bf Go.Proofs.ae.bY Go.Proofs.ae.cZ
attribute [local go_sem] kU kS mF mD jR jQ kT kR
mutual
def aH.l0:Nat→List ByteArray→Int→Option (Int × Int × Int × Int × Int × Bool)
 | 0,_,_=>none
 | k+1,x0,x4=>if x4≤15 then ((dY.f x4).bind fun KF=>(if 0 < (x0.length:Int) then (if (eG ByteArray.empty x0 0).toList=KF.1.toList then (aH.j1 k x0 x4 KF.2 ((x0.length:Int) != (wrap64 ((KF.2.size:Int)+1)))) else (aH.j1 k x0 x4 KF.2 true)) else (none))) else (some (0,0,0,0,0,false))
def aH.j1:Nat→List ByteArray→Int→ByteArray→Bool→Option (Int × Int × Int × Int × Int × Bool)
 | 0,_,_,_,_=>none
 | k+1,x0,x4,x6,x34=>if x34=true then (aH.l0 k x0 ((x4+1) % 256)) else (aH.l1 k x0 x6 0 x4 0 0 0 0)
def aH.l1:Nat→List ByteArray→ByteArray→Int→Int→Int→Int→Int→Int→Option (Int × Int × Int × Int × Int × Bool)
 | 0,_,_,_,_,_,_,_,_=>none
 | k+1,x0,x6,x8,IP,IM,IL,IK,IJ=>if x8 < (x6.size:Int) then (if 0≤(wrap64 (x8+1)) then (if (wrap64 (x8+1)) < (x0.length:Int) then ((aA.f k (eG ByteArray.empty x0 (wrap64 (x8+1)))).bind fun Ff=>(if 0≤x8 then ((aV.f k IP IM IL IK IJ (bt x6 x8) Ff.1).bind fun ny=>(if Ff.2=0 then (if ny.2.2.2.2.2=true then (aH.l1 k x0 x6 (wrap64 (x8+1)) ny.1 ny.2.1 ny.2.2.1 ny.2.2.2.1 ny.2.2.2.2.1) else (some (0,0,0,0,0,false))) else (some (0,0,0,0,0,false)))) else (none))) else (none)) else (none)) else (some (IP,IM,IL,IK,IJ,true))
end
def aH.f (k:Nat) (l0:List ByteArray):Option (Int × Int × Int × Int × Int × Bool):=aH.l0 k l0 1
theorem aH.iF:∀ k,(∀ y0 y1,eu (aH.l0 k y0 y1) (aH.l0 (k+1) y0 y1))∧(∀ y0 y1 y2 y3,eu (aH.j1 k y0 y1 y2 y3) (aH.j1 (k+1) y0 y1 y2 y3))∧(∀ y0 y1 y2 y3 y4 y5 y6 y7,eu (aH.l1 k y0 y1 y2 y3 y4 y5 y6 y7) (aH.l1 (k+1) y0 y1 y2 y3 y4 y5 y6 y7))
 | 0=>⟨fun _ _ r h=>by simp [aH.l0] at h,fun _ _ _ _ r h=>by simp [aH.j1] at h,fun _ _ _ _ _ _ _ _ r h=>by simp [aH.l1] at h⟩
 | k+1=>by
  obtain ⟨nI,ih1,ih2⟩:=aH.iF k
  refine ⟨?_,?_,?_⟩
  ·
   intro y0 y1
   unfold aH.l0
   repeat' with_reducible first|apply nI|apply ih1|apply ih2|apply aA.mono|apply aV.mono|exact eu.refl _|exact eu.none _|refine eu.ite ?_ ?_|refine eu.bind ?_ (fun _=>?_)
  ·
   intro y0 y1 y2 y3
   unfold aH.j1
   repeat' with_reducible first|apply nI|apply ih1|apply ih2|apply aA.mono|apply aV.mono|exact eu.refl _|exact eu.none _|refine eu.ite ?_ ?_|refine eu.bind ?_ (fun _=>?_)
  ·
   intro y0 y1 y2 y3 y4 y5 y6 y7
   unfold aH.l1
   repeat' with_reducible first|apply nI|apply ih1|apply ih2|apply aA.mono|apply aV.mono|exact eu.refl _|exact eu.none _|refine eu.ite ?_ ?_|refine eu.bind ?_ (fun _=>?_)
theorem aH.mono:∀ a0 k,eu (aH.f k a0) (aH.f (k+1) a0):=by
 intro a0 k
 obtain ⟨nI,ih1,ih2⟩:=aH.iF k
 unfold aH.f
 repeat' with_reducible first|apply nI|apply ih1|apply ih2|apply aA.mono|apply aV.mono|exact eu.refl _|exact eu.none _|refine eu.ite ?_ ?_|refine eu.bind ?_ (fun _=>?_)
def aH.T11:Bool × List (List Nat × List Nat):=(true,[([],[]),([],[]),([],[]),([1,2],[1,2]),([],[]),([0,3,4],[0,3,4]),([5],[5]),([6],[6]),([6],[6]),([],[]),([9,7,5,0,1,2,3,4,5,6,7,9],[7,9]),([8,10,0,1,2,3,4,5,6,7,8,9,10],[8])])
def aH.B11:List Nat:=[0,0,0,6,0,31,63,127,127,0,767,2047]
theorem aH.MS:oz .any (opsOf Tryd.f31 11)=aH.T11:=by kernel_rfl
theorem aH.Ie:nM aH.T11.2 aH.B11=true:=by kernel_rfl
set_option maxHeartbeats 8000000 in
set_option maxRecDepth 100000 in
theorem aH.calls (k:Nat) (A0:Option Addr) (c0:Nat) (l0:List ByteArray) (r1:Int) (r2:Int) (r3:Int) (r4:Int) (r5:Int) (r6:Bool) (w:World) (hr0:Kd.C Kd.string w A0 l0.length l0) (hc0:l0.length≤c0) (h:aH.f k l0=some (r1,r2,r3,r4,r5,r6)) :
  Calls Tryd.prog 31 #[.slice A0 l0.length c0] w fun e w'=>e=.returned (.tuple #[.agg #[.int .u8 r1,.int .u8 r2,.int .u8 r3,.int .u8 r4,.int .i64 r5],.bool r6])∧Below w.heap.size w w':=by
 have zl:=Tryd.underlying45
 have HR0:=af.mk hr0
 have Ed:=af.mk hc0
 clear hr0 hc0
 have HB:=af.mk (Below.refl w.heap.size w)
 have H:(aH.l0 k l0 1)=some (r1,r2,r3,r4,r5,r6):=h
 clear h
 have H':=af.mk H
 clear H
 go_enter Tryd.func31,Tryd.ntmps31
 go_wp2_with (first|((with_reducible refine bD (N:=2) rfl ?_);(try (refine iw (by rfl) ?_;dsimp only));refine ed ?hg (N:=2) ?hd (cs:=#[.int .u8 0,.int .u8 0,.int .u8 0,.int .u8 0,.int .i64 0]) (t:=45) ?hr ?_;(case hd=>rfl);(case hg=>rfl);(case hr=>first|(go_simp;done)|(go_simp;rfl));intro gZ hg w2 hbox hb;have dW:=af.mk (bC (by repeat (first|(with_reducible first|exact HB.out|apply aj|apply ag|apply ak)|exact HB.out)) hb);have dV:=af.mk (hbox);have dQ:=af.mk ((by rw [hg];exact (df (by repeat (first|(with_reducible first|exact HB.out|apply aj|apply ag|apply ak)|exact HB.out))):w.heap.size≤gZ));have gK:=dQ;clear HB;have HB:=dW;have eF:=dV;have alc:=dQ;have jh:=gK;clear dW dV dQ gK;clear hb hbox hg))
 go_loopg [4] k (fun kq v4 w'=>∃ (rq:Int) (ng:Int) (mi:Int) (lK:Int) (kN:Int) (kC:Int),v4=.int .u8 rq∧af (aH.l0 kq l0 rq=some (r1,r2,r3,r4,r5,r6))∧af (kq≤k)∧af (w'.heap[gZ]? = some (.cells #[.int .u8 ng,.int .u8 mi,.int .u8 lK,.int .u8 kN,.int .i64 kC] 45 (0,0)))∧af (Below w.heap.size w w'))
 case atStart=>exact ⟨(1),(0),(0),(0),(0),(0),(by first|rfl|(simp;done)|(simp [*];done)),H',⟨Nat.le_refl _⟩,⟨by (with_reducible repeat (first|refine ai ?_ _|refine ax ?_|refine ah ?_ _));exact eF.out⟩,⟨by repeat (first|(with_reducible first|exact HB.out|apply aj|apply ag|apply ak|refine ay ?_ jh.out)|exact HB.out)⟩⟩
 case round =>
  clear H'
  obtain ⟨rq,ng,mi,lK,kN,kC,rfl,HA,uG,eF,HB⟩:=hrel
  cases gk with
  | zero=>exact absurd HA.out (by simp [aH.l0])
  | succ k1 =>
   have H:=HA.out
   clear HA
   simp only [aH.l0] at H
   by_cases c3:rq≤15
   ·
    rw [if_pos c3] at H
    have qx:decide (rq≤15)=true:=decide_eq_true c3
    clear c3
    replace H:=Option.bind_eq_some_iff.mp H
    obtain ⟨⟨t113,t114⟩,FQ,H⟩:=H
    replace H:(if 0 < (l0.length:Int) then (if (eG ByteArray.empty l0 0).toList=t113.toList then (aH.j1 k1 l0 rq t114 ((l0.length:Int) != (wrap64 ((t114.size:Int)+1)))) else (aH.j1 k1 l0 rq t114 true)) else (none))=some (r1,r2,r3,r4,r5,r6):=H
    have A4:=af.mk FQ
    clear FQ
    have XZ:=af.mk H
    clear H
    go_upto_region 5 with (first|((with_reducible refine bV (f:=30) rfl ?_);refine fU (some 19) rfl rfl Tryd.func30 (by kernel_rfl) rfl #[.int .u8 rq] rfl (by (try simp only [List.map_toArray,List.map_cons,List.map_nil]);first|done|rfl|(simp only [List.length_drop,List.length_take];rfl)) ?_;(with_reducible refine (dY.calls rq t113 t114 _ A4.out).mono ?_);rintro e w' ⟨rfl,⟨nd,rfl⟩⟩;refine ⟨_,rfl,?_⟩))
    (try simp only [Act.put,List.setIfInBounds_toArray,List.set_cons_zero,List.set_cons_succ])
    go_cut [34] (fun v34 wc=>∃ (kq:Nat) (Io:Bool),v34=.bool Io∧af (aH.j1 kq l0 rq t114 Io=some (r1,r2,r3,r4,r5,r6))∧af (kq≤k1)∧af (wc.heap[gZ]? = some (.cells #[.int .u8 ng,.int .u8 mi,.int .u8 lK,.int .u8 kN,.int .i64 kC] 45 (0,0)))∧af (Below w.heap.size w wc))
    case first =>
     have H:=XZ.out
     clear XZ
     by_cases c6:0 < (l0.length:Int)
     ·
      rw [if_pos c6] at H
      have tK:decide (0 < (l0.length:Int))=true:=decide_eq_true c6
      have DV:decide (0 < l0.length)=true:=decide_eq_true (by omega)
      clear c6
      (first|rw [tK]|(simp only [aX,aY];rw [tK])|skip)
      by_cases c7:(eG ByteArray.empty l0 0).toList=t113.toList
      ·
       rw [if_pos c7] at H
       have pU:((eG ByteArray.empty l0 0).toList == t113.toList)=true:=beq_iff_eq.mpr c7
       have Ai:((eG ByteArray.empty l0 0).toList != t113.toList)=false:=bne_eq_false_iff_eq.mpr c7
       clear c7
       have H':=af.mk H
       clear H
       have Gs:0≤(0:Int):=(by omega)
       have Gg:0 < (l0.length:Int):=of_decide_eq_true (by first|(with_reducible assumption)|assumption)
       obtain ⟨Z5,e115,nS⟩:=Kd.kX HR0.out 0 Gs Gg
       cases e115
       have YB:(0 < l0.length)=True:=eq_true (by omega)
       (try rw [show ((0:Int)).toNat=0 from rfl] at nS)
       (try rw [Addr.add_zero'] at nS)
       replace nS:=(HB.out.cell (World.block_lt_of_cell? w _ nS)).trans nS
       replace Gs:=eq_true Gs
       replace Gg:=eq_true Gg
       go_wp2
       go_meet
       case rel=>exact ⟨_,(((l0.length:Int) != (wrap64 ((t114.size:Int)+1)))),(by first|rfl|(simp;done)|(simp [*];done)),H',⟨by have:=uG.out;first|omega|exact Nat.le_refl _⟩,⟨by (with_reducible repeat (first|refine ai ?_ _|refine ax ?_|refine ah ?_ _));exact eF.out⟩,⟨by repeat (first|(with_reducible first|exact HB.out|apply aj|apply ag|apply ak|refine ay ?_ jh.out)|exact HB.out)⟩⟩
      ·
       rw [if_neg c7] at H
       have pU:((eG ByteArray.empty l0 0).toList == t113.toList)=false:=beq_eq_false_iff_ne.mpr c7
       have Ai:((eG ByteArray.empty l0 0).toList != t113.toList)=true:=bne_iff_ne.mpr c7
       have H':=af.mk H
       clear H
       have Gs:0≤(0:Int):=(by omega)
       have Gg:0 < (l0.length:Int):=of_decide_eq_true (by first|(with_reducible assumption)|assumption)
       obtain ⟨Z5,e115,nS⟩:=Kd.kX HR0.out 0 Gs Gg
       cases e115
       have YB:(0 < l0.length)=True:=eq_true (by omega)
       (try rw [show ((0:Int)).toNat=0 from rfl] at nS)
       (try rw [Addr.add_zero'] at nS)
       replace nS:=(HB.out.cell (World.block_lt_of_cell? w _ nS)).trans nS
       replace Gs:=eq_true Gs
       replace Gg:=eq_true Gg
       go_wp2
       go_meet
       case rel=>exact ⟨_,(true),(by first|rfl|(simp;done)|(simp [*];done)),H',⟨by have:=uG.out;first|omega|exact Nat.le_refl _⟩,⟨by (with_reducible repeat (first|refine ai ?_ _|refine ax ?_|refine ah ?_ _));exact eF.out⟩,⟨by repeat (first|(with_reducible first|exact HB.out|apply aj|apply ag|apply ak|refine ay ?_ jh.out)|exact HB.out)⟩⟩
     ·
      rw [if_neg c6] at H
      exact absurd H (by simp)
    case rest =>
     clear XZ
     obtain ⟨kq,Io,rfl,HA,HJ4,eF,HB⟩:=hcut
     cases kq with
     | zero=>exact absurd HA.out (by simp [aH.j1])
     | succ Bg =>
      have H:=HA.out
      clear HA
      simp only [aH.j1] at H
      by_cases c8:Io=true
      ·
       subst c8
       have H1:(aH.l0 Bg l0 ((rq+1) % 256))=some (r1,r2,r3,r4,r5,r6):=by rw [if_pos rfl] at H;exact H
       clear H
       have H:=H1
       clear H1
       have H':=af.mk H
       clear H
       go_wp2
       go_roundg Bg
       case measure=>have:=uG.out;have:=HJ4.out;omega
       case rel=>exact ⟨((rq+1) % 256),(ng),(mi),(lK),(kN),(kC),(by first|rfl|(simp;done)|(simp [*];done)),H',⟨by have:=uG.out;have:=HJ4.out;omega⟩,⟨by (with_reducible repeat (first|refine ai ?_ _|refine ax ?_|refine ah ?_ _));exact eF.out⟩,⟨by repeat (first|(with_reducible first|exact HB.out|apply aj|apply ag|apply ak|refine ay ?_ jh.out)|exact HB.out)⟩⟩
      ·
       replace c8:=Bool.eq_false_iff.mpr c8
       subst c8
       have H1:(aH.l1 Bg l0 t114 0 rq 0 0 0 0)=some (r1,r2,r3,r4,r5,r6):=by rw [if_neg (show ¬ (false=true) by decide)] at H;exact H
       clear H
       have H:=H1
       clear H1
       have H':=af.mk H
       clear H
       go_wp2_with (first|((with_reducible refine bD (N:=7) rfl ?_);(try (refine iw (by rfl) ?_;dsimp only));refine ed ?hg (N:=7) ?hd (cs:=#[.int .u8 0,.int .u8 0,.int .u8 0,.int .u8 0,.int .i64 0]) (t:=45) ?hr ?_;(case hd=>rfl);(case hg=>rfl);(case hr=>first|(go_simp;done)|(go_simp;rfl));intro eU hg w9 hbox hb;have dW:=af.mk (bJ (g:=gZ) (o:=.cells #[.int .u8 ng,.int .u8 mi,.int .u8 lK,.int .u8 kN,.int .i64 kC] 45 (0,0)) (by (with_reducible repeat (first|refine ai ?_ _|refine ax ?_|refine ah ?_ _));exact eF.out) hb);have dV:=af.mk (bC (by repeat (first|(with_reducible first|exact HB.out|apply aj|apply ag|apply ak|refine ay ?_ jh.out)|exact HB.out)) hb);have dQ:=af.mk (hbox);have gK:=af.mk ((by rw [hg];exact (df (by repeat (first|(with_reducible first|exact HB.out|apply aj|apply ag|apply ak|refine ay ?_ jh.out)|exact HB.out))):w.heap.size≤eU));have jT:=gK;have lL:=af.mk ((by rw [hg];exact Nat.ne_of_lt (iC (g:=gZ) (o:=.cells #[.int .u8 ng,.int .u8 mi,.int .u8 lK,.int .u8 kN,.int .i64 kC] 45 (0,0)) (by (with_reducible repeat (first|refine ai ?_ _|refine ax ?_|refine ah ?_ _));exact eF.out)):gZ ≠ eU));have kQ:=af.mk lL.out.symm;clear eF;clear HB;have eF:=dW;have HB:=dV;have cu:=dQ;have alb:=gK;have jP:=jT;have jy:=lL;have rf:=kQ;clear dW dV dQ gK jT lL kQ;clear hb hbox hg;have ajK:=rf.out;have ajn:=jy.out;obtain ⟨yE,yD,yC,yB,TK,yu,yt,yl,yj,RI⟩:=iV cu.out))
       go_loopg [8] Bg (fun kq v8 w'=>∃ (l7:Int) (fM:Int) (fF:Int) (eX:Int) (dZ:Int) (dP:Int) (dC:Int) (dB:Int) (dA:Int) (dw:Int) (dn:Int),v8=.int .i64 l7∧af (aH.l1 kq l0 t114 l7 dC dB dA dw dn=some (r1,r2,r3,r4,r5,r6))∧af (kq≤Bg)∧af (w'.heap[gZ]? = some (.cells #[.int .u8 fM,.int .u8 fF,.int .u8 eX,.int .u8 dZ,.int .i64 dP] 45 (0,0)))∧af (w'.heap[eU]? = some (.cells #[.int .u8 dC,.int .u8 dB,.int .u8 dA,.int .u8 dw,.int .i64 dn] 45 (0,0)))∧af (Below w.heap.size w w'))
       case atStart=>exact ⟨(0),(ng),(mi),(lK),(kN),(kC),(rq),(0),(0),(0),(0),(by first|rfl|(simp;done)|(simp [*];done)),H',⟨Nat.le_refl _⟩,⟨by (with_reducible repeat (first|refine ai ?_ _|refine ax ?_|refine ah ?_ _));refine dD ?_ jy.out _;(with_reducible repeat (first|refine ai ?_ _|refine ax ?_|refine ah ?_ _));refine dD ?_ jy.out _;(with_reducible repeat (first|refine ai ?_ _|refine ax ?_|refine ah ?_ _));refine dD ?_ jy.out _;(with_reducible repeat (first|refine ai ?_ _|refine ax ?_|refine ah ?_ _));refine dD ?_ jy.out _;(with_reducible repeat (first|refine ai ?_ _|refine ax ?_|refine ah ?_ _));refine dD ?_ jy.out _;(with_reducible repeat (first|refine ai ?_ _|refine ax ?_|refine ah ?_ _));exact eF.out⟩,⟨by (with_reducible repeat (first|refine ai ?_ _|refine ax ?_|refine ah ?_ _));refine dh (cs:=#[.int .u8 rq,.int .u8 0,.int .u8 0,.int .u8 0,.int .i64 0]) ?_ 4 _ rfl;(with_reducible repeat (first|refine ai ?_ _|refine ax ?_|refine ah ?_ _));refine dh (cs:=#[.int .u8 rq,.int .u8 0,.int .u8 0,.int .u8 0,.int .i64 0]) ?_ 3 _ rfl;(with_reducible repeat (first|refine ai ?_ _|refine ax ?_|refine ah ?_ _));refine dh (cs:=#[.int .u8 rq,.int .u8 0,.int .u8 0,.int .u8 0,.int .i64 0]) ?_ 2 _ rfl;(with_reducible repeat (first|refine ai ?_ _|refine ax ?_|refine ah ?_ _));refine dh (cs:=#[.int .u8 rq,.int .u8 0,.int .u8 0,.int .u8 0,.int .i64 0]) ?_ 1 _ rfl;(with_reducible repeat (first|refine ai ?_ _|refine ax ?_|refine ah ?_ _));refine dh (cs:=#[.int .u8 0,.int .u8 0,.int .u8 0,.int .u8 0,.int .i64 0]) ?_ 0 _ rfl;(with_reducible repeat (first|refine ai ?_ _|refine ax ?_|refine ah ?_ _));exact cu.out⟩,⟨by repeat (first|(with_reducible first|exact HB.out|apply aj|apply ag|apply ak|refine ay ?_ jh.out|refine ay ?_ jP.out)|exact HB.out)⟩⟩
       case round =>
        clear H'
        obtain ⟨l7,fM,fF,eX,dZ,dP,dC,dB,dA,dw,dn,rfl,HA,Ec,eF,cu,HB⟩:=hrel
        cases gk with
        | zero=>exact absurd HA.out (by simp [aH.l1])
        | succ k3 =>
         have H:=HA.out
         clear HA
         simp only [aH.l1] at H
         by_cases c12:l7 < (t114.size:Int)
         ·
          rw [if_pos c12] at H
          have vZ:decide (l7 < (t114.size:Int))=true:=decide_eq_true c12
          clear c12
          obtain ⟨oC,vI⟩:∃ j_:Int,(wrap64 (l7+1))=j_:=⟨_,rfl⟩
          replace H:(if 0≤(oC) then (if (oC) < (l0.length:Int) then ((aA.f k3 (eG ByteArray.empty l0 (oC))).bind fun Ff=>(if 0≤l7 then ((aV.f k3 dC dB dA dw dn (bt t114 l7) Ff.1).bind fun ny=>(if Ff.2=0 then (if ny.2.2.2.2.2=true then (aH.l1 k3 l0 t114 oC ny.1 ny.2.1 ny.2.2.1 ny.2.2.2.1 ny.2.2.2.2.1) else (some (0,0,0,0,0,false))) else (some (0,0,0,0,0,false)))) else (none))) else (none)) else (none))=some (r1,r2,r3,r4,r5,r6):=by first|(rw [vI] at H;exact H)|(simp only [vI] at H ⊢;exact H)
          have agZ:(IntKind.i64.wrap (l7+1))=oC:=(aX _).trans vI
          by_cases c14:0≤(oC)
          ·
           rw [if_pos c14] at H
           have OE:decide (0≤(oC))=true:=decide_eq_true c14
           clear c14
           by_cases c15:(oC) < (l0.length:Int)
           ·
            rw [if_pos c15] at H
            have pW:decide ((oC) < (l0.length:Int))=true:=decide_eq_true c15
            clear c15
            replace H:=Option.bind_eq_some_iff.mp H
            obtain ⟨⟨t118,t119⟩,Po,H⟩:=H
            replace H:(if 0≤l7 then ((aV.f k3 dC dB dA dw dn (bt t114 l7) t118).bind fun ny=>(if t119=0 then (if ny.2.2.2.2.2=true then (aH.l1 k3 l0 t114 oC ny.1 ny.2.1 ny.2.2.1 ny.2.2.2.1 ny.2.2.2.2.1) else (some (0,0,0,0,0,false))) else (some (0,0,0,0,0,false)))) else (none))=some (r1,r2,r3,r4,r5,r6):=H
            have A16:=af.mk Po
            clear Po
            by_cases c17:0≤l7
            ·
             rw [if_pos c17] at H
             have xB:decide (0≤l7)=true:=decide_eq_true c17
             clear c17
             replace H:=Option.bind_eq_some_iff.mp H
             obtain ⟨⟨t120,t121,t122,t123,t124,t125⟩,Pn,H⟩:=H
             replace H:(if t119=0 then (if t125=true then (aH.l1 k3 l0 t114 oC t120 t121 t122 t123 t124) else (some (0,0,0,0,0,false))) else (some (0,0,0,0,0,false)))=some (r1,r2,r3,r4,r5,r6):=H
             have VO:=af.mk Pn
             clear Pn
             by_cases c20:t119=0
             ·
              rw [if_pos c20] at H
              have KE:(t119 == 0)=true:=beq_iff_eq.mpr c20
              have Vo:(t119 != 0)=false:=bne_eq_false_iff_eq.mpr c20
              clear c20
              by_cases c21:t125=true
              ·
               subst c21
               have H1:(aH.l1 k3 l0 t114 oC t120 t121 t122 t123 t124)=some (r1,r2,r3,r4,r5,r6):=by rw [if_pos rfl] at H;exact H
               clear H
               have H:=H1
               clear H1
               have H':=af.mk H
               clear H
               have yZ:0≤((oC):Int):=of_decide_eq_true (by first|(with_reducible assumption)|assumption)
               have yX:(oC) < (l0.length:Int):=of_decide_eq_true (by first|(with_reducible assumption)|assumption)
               obtain ⟨Vu,e117,nR⟩:=Kd.kX HR0.out (oC) yZ yX
               cases e117
               replace nR:=(HB.out.cell (World.block_lt_of_cell? w _ nR)).trans nR
               replace yZ:=eq_true yZ
               replace yX:=eq_true yX
               try go_wp2_with (first|((with_reducible refine bV (f:=39) rfl ?_);refine fU (some 49) rfl rfl Tryd.func39 (by kernel_rfl) rfl #[.string (eG ByteArray.empty l0 (oC))] rfl (by (try simp only [List.map_toArray,List.map_cons,List.map_nil]);first|done|(simp only [vI];rfl)|rfl|(simp only [List.length_drop,List.length_take];rfl)) ?_;(with_reducible refine (aA.calls k3 (eG ByteArray.empty l0 (oC)) t118 t119 _ A16.out).mono ?_);rintro e w' ⟨rfl,⟨nd,rfl⟩⟩;refine ⟨_,rfl,?_⟩;(try (rw [qo wr];generalize zS:World.drewN wr _=wr;have dW:af (wr.heap[gZ]? = some (.cells #[.int .u8 fM,.int .u8 fF,.int .u8 eX,.int .u8 dZ,.int .i64 dP] 45 (0,0))):=⟨by rw [← zS];exact (by (with_reducible repeat (first|refine ai ?_ _|refine ax ?_|refine ah ?_ _));exact eF.out)⟩;have dV:af (wr.heap[eU]? = some (.cells #[.int .u8 dC,.int .u8 dB,.int .u8 dA,.int .u8 dw,.int .i64 dn] 45 (0,0))):=⟨by rw [← zS];exact (by (with_reducible repeat (first|refine ai ?_ _|refine ax ?_|refine ah ?_ _));exact cu.out)⟩;have dQ:af (Below w.heap.size w wr):=⟨by rw [← zS];exact (by repeat (first|(with_reducible first|exact HB.out|apply aj|apply ag|apply ak|refine ay ?_ jh.out|refine ay ?_ jP.out)|exact HB.out))⟩;clear eF cu HB zS;have eF:=dW;have cu:=dV;have HB:=dQ;clear dW dV dQ))))
               have dW:=af.mk (ax eF.out)
               have dV:=af.mk (ax cu.out)
               have dQ:=af.mk (ak HB.out)
               clear eF
               clear cu
               clear HB
               have eF:=dW
               have cu:=dV
               have HB:=dQ
               clear dW dV dQ
               have Ep:0≤(l7:Int):=of_decide_eq_true (by first|(with_reducible assumption)|assumption)
               have Eo:l7 < (t114.size:Int):=of_decide_eq_true (by first|(with_reducible assumption)|assumption)
               have NH:=lI t114 l7
               replace Ep:=eq_true Ep
               replace Eo:=eq_true Eo
               refine oJ (n:=12) (S:=fun w'=>w'.cell? ⟨eU,0,none⟩=some (.int .u8 dC)∧w'.cell? ⟨eU,1,none⟩=some (.int .u8 dB)∧w'.cell? ⟨eU,2,none⟩=some (.int .u8 dA)∧w'.cell? ⟨eU,3,none⟩=some (.int .u8 dw)∧w'.cell? ⟨eU,4,none⟩=some (.int .i64 dn)) (ds:=[]) #[false,false,false,false,false,false,false,false,false,false,false,false] (by kernel_rfl) rfl rfl ⟨(aJ cu.out 0).trans rfl,(aJ cu.out 1).trans rfl,(aJ cu.out 2).trans rfl,(aJ cu.out 3).trans rfl,(aJ cu.out 4).trans rfl⟩ (fun hHeld=>?_);refine kP aH.MS aH.Ie (fun fH qy=>?_)
               generalize wr.drew=w22 at eF cu HB hHeld ⊢
               refine bW (i:=1) (N:=some 54) (v:=?_) (a':=?_) #[false,true,false,false,false,false,false,false,false,false,false,false] rfl rfl (bG fH.out (by kernel_rfl)) (fun _ _ _ h=>h) (Or.inl ⟨by rfl,?_⟩) ?_ ?_
               rotate_left
               ·
                intro w'
                go_simp
                with_reducible rfl
               rotate_left
               ·
                simp only [Act.put,List.setIfInBounds_toArray,List.set_cons_zero,List.set_cons_succ,aX,aY]
                rfl
               refine bW (i:=2) (N:=some 55) (v:=?_) (a':=?_) #[false,true,true,false,false,false,false,false,false,false,false,false] rfl rfl (bG fH.out (by kernel_rfl)) (fun _ _ _ h=>h) (Or.inl ⟨by rfl,?_⟩) ?_ ?_
               rotate_left
               ·
                intro w'
                go_simp
                with_reducible rfl
               rotate_left
               ·
                simp only [Act.put,List.setIfInBounds_toArray,List.set_cons_zero,List.set_cons_succ,aX,aY]
                rfl
               refine bW (i:=4) (N:=some 57) (v:=?_) (a':=?_) #[false,true,true,false,true,false,false,false,false,false,false,false] rfl rfl (bG fH.out (by kernel_rfl)) (fun _ _ _ h=>h) (Or.inl ⟨by rfl,?_⟩) ?_ ?_
               rotate_left
               ·
                intro w'
                go_simp
                with_reducible rfl
               rotate_left
               ·
                simp only [Act.put,List.setIfInBounds_toArray,List.set_cons_zero,List.set_cons_succ,aX,aY]
                rfl
               refine jf (i:=0) (N:=some 53) (v:=?_) (a':=?_) #[true,true,true,false,true,false,false,false,false,false,false,false] rfl rfl (gm fH.out qy.out (by kernel_rfl)) (fun _ _ _ h=>h) (Or.inl ⟨by rfl,?_⟩) hHeld ?_ ?_
               rotate_left
               ·
                rintro w' ⟨s0,s1,s2,s3,s4⟩
                go_simp
                with_reducible rfl
               rotate_left
               ·
                simp only [Act.put,List.setIfInBounds_toArray,List.set_cons_zero,List.set_cons_succ,aX,aY]
                rfl
               refine jf (i:=3) (N:=some 56) (v:=?_) (a':=?_) #[true,true,true,true,true,false,false,false,false,false,false,false] rfl rfl (gm fH.out qy.out (by kernel_rfl)) (fun _ _ _ h=>h) (Or.inl ⟨by rfl,?_⟩) hHeld ?_ ?_
               rotate_left
               ·
                rintro w' ⟨s0,s1,s2,s3,s4⟩
                go_simp
                with_reducible rfl
               rotate_left
               ·
                simp only [Act.put,List.setIfInBounds_toArray,List.set_cons_zero,List.set_cons_succ,aX,aY]
                rfl
               refine Jc (σ:=Nat) 2 #[true,true,true,true,true,true,true,true,true,true,false,false] (fun s_=>[(58,.tuple #[.agg #[.int .u8 t120,.int .u8 t121,.int .u8 t122,.int .u8 t123,.int .i64 t124],.bool true]),(11,.pointer (some ⟨s_,0,none⟩)),(52,.tuple #[.agg #[.int .u8 t120,.int .u8 t121,.int .u8 t122,.int .u8 t123,.int .i64 t124],.bool true]),(59,.agg #[.int .u8 t120,.int .u8 t121,.int .u8 t122,.int .u8 t123,.int .i64 t124]),(60,.bool true)]) (fun s_ w'=>(w'.cell? ⟨eU,0,none⟩=some (.int .u8 dC)∧w'.cell? ⟨eU,1,none⟩=some (.int .u8 dB)∧w'.cell? ⟨eU,2,none⟩=some (.int .u8 dA)∧w'.cell? ⟨eU,3,none⟩=some (.int .u8 dw)∧w'.cell? ⟨eU,4,none⟩=some (.int .i64 dn))∧(w'.heap[gZ]? = some (.cells #[.int .u8 fM,.int .u8 fF,.int .u8 eX,.int .u8 dZ,.int .i64 dP] 45 (0,0)))∧(w'.heap[eU]? = some (.cells #[.int .u8 dC,.int .u8 dB,.int .u8 dA,.int .u8 dw,.int .i64 dn] 45 (0,0)))∧(w'.heap[s_]? = some (.cells #[.int .u8 0,.int .u8 0,.int .u8 0,.int .u8 0,.int .i64 0] 45 (0,0)))∧(w.heap.size≤s_)∧(w.heap.size≤s_)∧(gZ ≠ s_)∧(s_ ≠ gZ)∧(eU ≠ s_)∧(s_ ≠ eU)∧(Below w.heap.size w w')) ?_ ?_
               rotate_left
               ·
                intro xx
                refine P7 (i:=5) (j:=9) (Ni:=some 58) (Nj:=some 11) #[true,true,true,true,true,true,false,false,false,false,false,false] #[true,true,true,true,true,false,false,false,false,true,false,false] rfl rfl rfl rfl (FU fH.out (by kernel_rfl)) (by decide) (by decide) (fun K hK=>?_) (fun K hK=>?_)
                ·
                 skip
                 refine qm Tryd.func40 (by kernel_rfl) rfl #[.agg #[.int .u8 dC,.int .u8 dB,.int .u8 dA,.int .u8 dw,.int .i64 dn],.int .u8 (bt t114 l7),.int .i64 t118] (by rfl) rfl rfl (by (try simp only [List.map_toArray,List.map_cons,List.map_nil]);first|done|rfl|(simp only [List.length_drop,List.length_take];rfl)) ?_
                 with_reducible refine (aV.calls k3 dC dB dA dw dn (bt t114 l7) t118 t120 t121 t122 t123 t124 true _ VO.out).mono ?_
                 rintro e Yd ⟨rfl,hb⟩
                 refine ⟨_,rfl,?_⟩
                 have dW:=af.mk (bJ (g:=gZ) (o:=.cells #[.int .u8 fM,.int .u8 fF,.int .u8 eX,.int .u8 dZ,.int .i64 dP] 45 (0,0)) (by (with_reducible repeat (first|refine ai ?_ _|refine ax ?_|refine ah ?_ _));exact eF.out) hb)
                 have dV:=af.mk (bJ (g:=eU) (o:=.cells #[.int .u8 dC,.int .u8 dB,.int .u8 dA,.int .u8 dw,.int .i64 dn] 45 (0,0)) (by (with_reducible repeat (first|refine ai ?_ _|refine ax ?_|refine ah ?_ _));exact cu.out) hb)
                 have dQ:=af.mk (bC (by repeat (first|(with_reducible first|exact HB.out|apply aj|apply ag|apply ak|refine ay ?_ jh.out|refine ay ?_ jP.out)|exact HB.out)) hb)
                 clear eF
                 clear cu
                 clear HB
                 have eF:=dW
                 have cu:=dV
                 have HB:=dQ
                 clear dW dV dQ
                 (try clear hb)
                 (try clear hb2)
                 (try clear hk)
                 (try clear hi)
                 refine hK.out _ _ ⟨(aJ cu.out 0).trans rfl,(aJ cu.out 1).trans rfl,(aJ cu.out 2).trans rfl,(aJ cu.out 3).trans rfl,(aJ cu.out 4).trans rfl⟩ (fun hHeld=>?_)
                 clear hK K
                 refine iT (a':=?_) ?_ ?_
                 rotate_left
                 ·
                  show Act.put _ (some 58) _=_
                  simp only [Act.put,List.setIfInBounds_toArray,List.set_cons_zero,List.set_cons_succ,aX,aY]
                  rfl
                 refine bW (i:=6) (N:=some 52) (v:=?_) (a':=?_) #[true,true,true,true,true,true,true,false,false,false,false,false] rfl rfl (bG fH.out (by kernel_rfl)) (fun _ _ _ h=>h) (Or.inl ⟨by rfl,?_⟩) ?_ ?_
                 rotate_left
                 ·
                  intro w'
                  go_simp
                  with_reducible rfl
                 rotate_left
                 ·
                  simp only [Act.put,List.setIfInBounds_toArray,List.set_cons_zero,List.set_cons_succ,aX,aY]
                  rfl
                 refine bW (i:=7) (N:=some 59) (v:=?_) (a':=?_) #[true,true,true,true,true,true,true,true,false,false,false,false] rfl rfl (bG fH.out (by kernel_rfl)) (fun _ _ _ h=>h) (Or.inl ⟨by rfl,?_⟩) ?_ ?_
                 rotate_left
                 ·
                  intro w'
                  go_simp
                  with_reducible rfl
                 rotate_left
                 ·
                  simp only [Act.put,List.setIfInBounds_toArray,List.set_cons_zero,List.set_cons_succ,aX,aY]
                  rfl
                 refine bW (i:=8) (N:=some 60) (v:=?_) (a':=?_) #[true,true,true,true,true,true,true,true,true,false,false,false] rfl rfl (bG fH.out (by kernel_rfl)) (fun _ _ _ h=>h) (Or.inl ⟨by rfl,?_⟩) ?_ ?_
                 rotate_left
                 ·
                  intro w'
                  go_simp
                  with_reducible rfl
                 rotate_left
                 ·
                  simp only [Act.put,List.setIfInBounds_toArray,List.set_cons_zero,List.set_cons_succ,aX,aY]
                  rfl
                 refine nN (i:=9) (N:=some 11) #[true,true,true,true,true,true,true,true,true,true,false,false] rfl rfl (jU fH.out (by kernel_rfl)) (by decide) (fun K hK=>?_)
                 refine qZ ?hg (N:=11) ?hd (cs:=#[.int .u8 0,.int .u8 0,.int .u8 0,.int .u8 0,.int .i64 0]) (t:=45) ?hr ?_;(case hd=>rfl);(case hg=>rfl);(case hr=>first|(go_simp;done)|(go_simp;rfl))
                 intro di hg w24 hbox hb
                 have dW:=af.mk (bJ (g:=gZ) (o:=.cells #[.int .u8 fM,.int .u8 fF,.int .u8 eX,.int .u8 dZ,.int .i64 dP] 45 (0,0)) (by (with_reducible repeat (first|refine ai ?_ _|refine ax ?_|refine ah ?_ _));exact eF.out) hb)
                 have dV:=af.mk (bJ (g:=eU) (o:=.cells #[.int .u8 dC,.int .u8 dB,.int .u8 dA,.int .u8 dw,.int .i64 dn] 45 (0,0)) (by (with_reducible repeat (first|refine ai ?_ _|refine ax ?_|refine ah ?_ _));exact cu.out) hb)
                 have dQ:=af.mk (bC (by repeat (first|(with_reducible first|exact HB.out|apply aj|apply ag|apply ak|refine ay ?_ jh.out|refine ay ?_ jP.out)|exact HB.out)) hb)
                 have gK:=af.mk (hbox)
                 have jT:=af.mk ((by rw [hg];exact (df (by repeat (first|(with_reducible first|exact HB.out|apply aj|apply ag|apply ak|refine ay ?_ jh.out|refine ay ?_ jP.out)|exact HB.out))):w.heap.size≤di))
                 have lL:=jT
                 have kQ:=af.mk ((by rw [hg];exact Nat.ne_of_lt (iC (g:=gZ) (o:=.cells #[.int .u8 fM,.int .u8 fF,.int .u8 eX,.int .u8 dZ,.int .i64 dP] 45 (0,0)) (by (with_reducible repeat (first|refine ai ?_ _|refine ax ?_|refine ah ?_ _));exact eF.out)):gZ ≠ di))
                 have o9:=af.mk kQ.out.symm
                 have uA:=af.mk ((by rw [hg];exact Nat.ne_of_lt (iC (g:=eU) (o:=.cells #[.int .u8 dC,.int .u8 dB,.int .u8 dA,.int .u8 dw,.int .i64 dn] 45 (0,0)) (by (with_reducible repeat (first|refine ai ?_ _|refine ax ?_|refine ah ?_ _));exact cu.out)):eU ≠ di))
                 have xq:=af.mk uA.out.symm
                 clear eF
                 clear cu
                 clear HB
                 have eF:=dW
                 have cu:=dV
                 have HB:=dQ
                 have iq:=gK
                 have qH:=jT
                 have lh:=lL
                 have dO:=kQ
                 have fP:=o9
                 have bg:=uA
                 have fZ:=xq
                 clear dW dV dQ gK jT lL kQ o9 uA xq
                 clear hb hbox hg
                 refine hK.out _ _ ⟨(aJ cu.out 0).trans rfl,(aJ cu.out 1).trans rfl,(aJ cu.out 2).trans rfl,(aJ cu.out 3).trans rfl,(aJ cu.out 4).trans rfl⟩ (fun hHeld=>?_)
                 clear hK K
                 refine iT (a':=?_) ?_ ?_
                 rotate_left
                 ·
                  show Act.put _ (some 11) _=_
                  simp only [Act.put,List.setIfInBounds_toArray,List.set_cons_zero,List.set_cons_succ,aX,aY]
                  rfl
                 exact iT (by simp only [jm,Act.put,List.setIfInBounds_toArray,List.set_cons_zero,List.set_cons_succ]) (xx (di) _ ⟨hHeld,(by (with_reducible repeat (first|refine ai ?_ _|refine ax ?_|refine ah ?_ _));exact eF.out),(by (with_reducible repeat (first|refine ai ?_ _|refine ax ?_|refine ah ?_ _));exact cu.out),(by (with_reducible repeat (first|refine ai ?_ _|refine ax ?_|refine ah ?_ _));exact iq.out),qH.out,lh.out,dO.out,fP.out,bg.out,fZ.out,(by repeat (first|(with_reducible first|exact HB.out|apply aj|apply ag|apply ak|refine ay ?_ jh.out|refine ay ?_ jP.out|refine ay ?_ lh.out)|exact HB.out))⟩)
                ·
                 skip
                 refine qZ ?hg (N:=11) ?hd (cs:=#[.int .u8 0,.int .u8 0,.int .u8 0,.int .u8 0,.int .i64 0]) (t:=45) ?hr ?_;(case hd=>rfl);(case hg=>rfl);(case hr=>first|(go_simp;done)|(go_simp;rfl))
                 intro di hg Yd hbox hb
                 have dW:=af.mk (bJ (g:=gZ) (o:=.cells #[.int .u8 fM,.int .u8 fF,.int .u8 eX,.int .u8 dZ,.int .i64 dP] 45 (0,0)) (by (with_reducible repeat (first|refine ai ?_ _|refine ax ?_|refine ah ?_ _));exact eF.out) hb)
                 have dV:=af.mk (bJ (g:=eU) (o:=.cells #[.int .u8 dC,.int .u8 dB,.int .u8 dA,.int .u8 dw,.int .i64 dn] 45 (0,0)) (by (with_reducible repeat (first|refine ai ?_ _|refine ax ?_|refine ah ?_ _));exact cu.out) hb)
                 have dQ:=af.mk (bC (by repeat (first|(with_reducible first|exact HB.out|apply aj|apply ag|apply ak|refine ay ?_ jh.out|refine ay ?_ jP.out)|exact HB.out)) hb)
                 have gK:=af.mk (hbox)
                 have jT:=af.mk ((by rw [hg];exact (df (by repeat (first|(with_reducible first|exact HB.out|apply aj|apply ag|apply ak|refine ay ?_ jh.out|refine ay ?_ jP.out)|exact HB.out))):w.heap.size≤di))
                 have lL:=jT
                 have kQ:=af.mk ((by rw [hg];exact Nat.ne_of_lt (iC (g:=gZ) (o:=.cells #[.int .u8 fM,.int .u8 fF,.int .u8 eX,.int .u8 dZ,.int .i64 dP] 45 (0,0)) (by (with_reducible repeat (first|refine ai ?_ _|refine ax ?_|refine ah ?_ _));exact eF.out)):gZ ≠ di))
                 have o9:=af.mk kQ.out.symm
                 have uA:=af.mk ((by rw [hg];exact Nat.ne_of_lt (iC (g:=eU) (o:=.cells #[.int .u8 dC,.int .u8 dB,.int .u8 dA,.int .u8 dw,.int .i64 dn] 45 (0,0)) (by (with_reducible repeat (first|refine ai ?_ _|refine ax ?_|refine ah ?_ _));exact cu.out)):eU ≠ di))
                 have xq:=af.mk uA.out.symm
                 clear eF
                 clear cu
                 clear HB
                 have eF:=dW
                 have cu:=dV
                 have HB:=dQ
                 have iq:=gK
                 have qH:=jT
                 have lh:=lL
                 have dO:=kQ
                 have fP:=o9
                 have bg:=uA
                 have fZ:=xq
                 clear dW dV dQ gK jT lL kQ o9 uA xq
                 clear hb hbox hg
                 refine hK.out _ _ ⟨(aJ cu.out 0).trans rfl,(aJ cu.out 1).trans rfl,(aJ cu.out 2).trans rfl,(aJ cu.out 3).trans rfl,(aJ cu.out 4).trans rfl⟩ (fun hHeld=>?_)
                 clear hK K
                 refine iT (a':=?_) ?_ ?_
                 rotate_left
                 ·
                  show Act.put _ (some 11) _=_
                  simp only [Act.put,List.setIfInBounds_toArray,List.set_cons_zero,List.set_cons_succ,aX,aY]
                  rfl
                 refine nN (i:=5) (N:=some 58) #[true,true,true,true,true,true,false,false,false,true,false,false] rfl rfl (jU fH.out (by kernel_rfl)) (by decide) (fun K hK=>?_)
                 refine qm Tryd.func40 (by kernel_rfl) rfl #[.agg #[.int .u8 dC,.int .u8 dB,.int .u8 dA,.int .u8 dw,.int .i64 dn],.int .u8 (bt t114 l7),.int .i64 t118] (by rfl) rfl rfl (by (try simp only [List.map_toArray,List.map_cons,List.map_nil]);first|done|rfl|(simp only [List.length_drop,List.length_take];rfl)) ?_
                 with_reducible refine (aV.calls k3 dC dB dA dw dn (bt t114 l7) t118 t120 t121 t122 t123 t124 true _ VO.out).mono ?_
                 rintro e w24 ⟨rfl,hb⟩
                 refine ⟨_,rfl,?_⟩
                 have dW:=af.mk (bJ (g:=gZ) (o:=.cells #[.int .u8 fM,.int .u8 fF,.int .u8 eX,.int .u8 dZ,.int .i64 dP] 45 (0,0)) (by (with_reducible repeat (first|refine ai ?_ _|refine ax ?_|refine ah ?_ _));exact eF.out) hb)
                 have dV:=af.mk (bJ (g:=eU) (o:=.cells #[.int .u8 dC,.int .u8 dB,.int .u8 dA,.int .u8 dw,.int .i64 dn] 45 (0,0)) (by (with_reducible repeat (first|refine ai ?_ _|refine ax ?_|refine ah ?_ _));exact cu.out) hb)
                 have dQ:=af.mk (bJ (g:=di) (o:=.cells #[.int .u8 0,.int .u8 0,.int .u8 0,.int .u8 0,.int .i64 0] 45 (0,0)) (by (with_reducible repeat (first|refine ai ?_ _|refine ax ?_|refine ah ?_ _));exact iq.out) hb)
                 have gK:=af.mk (bC (by repeat (first|(with_reducible first|exact HB.out|apply aj|apply ag|apply ak|refine ay ?_ jh.out|refine ay ?_ jP.out|refine ay ?_ lh.out)|exact HB.out)) hb)
                 clear eF
                 clear cu
                 clear iq
                 clear HB
                 have eF:=dW
                 have cu:=dV
                 have iq:=dQ
                 have HB:=gK
                 clear dW dV dQ gK
                 (try clear hb)
                 (try clear hb2)
                 (try clear hk)
                 (try clear hi)
                 refine hK.out _ _ ⟨(aJ cu.out 0).trans rfl,(aJ cu.out 1).trans rfl,(aJ cu.out 2).trans rfl,(aJ cu.out 3).trans rfl,(aJ cu.out 4).trans rfl⟩ (fun hHeld=>?_)
                 clear hK K
                 refine iT (a':=?_) ?_ ?_
                 rotate_left
                 ·
                  show Act.put _ (some 58) _=_
                  simp only [Act.put,List.setIfInBounds_toArray,List.set_cons_zero,List.set_cons_succ,aX,aY]
                  rfl
                 refine bW (i:=6) (N:=some 52) (v:=?_) (a':=?_) #[true,true,true,true,true,true,true,false,false,true,false,false] rfl rfl (bG fH.out (by kernel_rfl)) (fun _ _ _ h=>h) (Or.inl ⟨by rfl,?_⟩) ?_ ?_
                 rotate_left
                 ·
                  intro w'
                  go_simp
                  with_reducible rfl
                 rotate_left
                 ·
                  simp only [Act.put,List.setIfInBounds_toArray,List.set_cons_zero,List.set_cons_succ,aX,aY]
                  rfl
                 refine bW (i:=7) (N:=some 59) (v:=?_) (a':=?_) #[true,true,true,true,true,true,true,true,false,true,false,false] rfl rfl (bG fH.out (by kernel_rfl)) (fun _ _ _ h=>h) (Or.inl ⟨by rfl,?_⟩) ?_ ?_
                 rotate_left
                 ·
                  intro w'
                  go_simp
                  with_reducible rfl
                 rotate_left
                 ·
                  simp only [Act.put,List.setIfInBounds_toArray,List.set_cons_zero,List.set_cons_succ,aX,aY]
                  rfl
                 refine bW (i:=8) (N:=some 60) (v:=?_) (a':=?_) #[true,true,true,true,true,true,true,true,true,true,false,false] rfl rfl (bG fH.out (by kernel_rfl)) (fun _ _ _ h=>h) (Or.inl ⟨by rfl,?_⟩) ?_ ?_
                 rotate_left
                 ·
                  intro w'
                  go_simp
                  with_reducible rfl
                 rotate_left
                 ·
                  simp only [Act.put,List.setIfInBounds_toArray,List.set_cons_zero,List.set_cons_succ,aX,aY]
                  rfl
                 exact iT (by simp only [jm,Act.put,List.setIfInBounds_toArray,List.set_cons_zero,List.set_cons_succ]) (xx (di) _ ⟨hHeld,(by (with_reducible repeat (first|refine ai ?_ _|refine ax ?_|refine ah ?_ _));exact eF.out),(by (with_reducible repeat (first|refine ai ?_ _|refine ax ?_|refine ah ?_ _));exact cu.out),(by (with_reducible repeat (first|refine ai ?_ _|refine ax ?_|refine ah ?_ _));exact iq.out),qH.out,lh.out,dO.out,fP.out,bg.out,fZ.out,(by repeat (first|(with_reducible first|exact HB.out|apply aj|apply ag|apply ak|refine ay ?_ jh.out|refine ay ?_ jP.out|refine ay ?_ lh.out)|exact HB.out))⟩)
               rintro di IV ⟨pg,Ve,Vd,Vb,Va,U9,U7,U6,U5,U4,U3⟩
               have dW:af (IV.heap[gZ]? = some (.cells #[.int .u8 fM,.int .u8 fF,.int .u8 eX,.int .u8 dZ,.int .i64 dP] 45 (0,0))):=⟨Ve⟩
               have dV:af (IV.heap[eU]? = some (.cells #[.int .u8 dC,.int .u8 dB,.int .u8 dA,.int .u8 dw,.int .i64 dn] 45 (0,0))):=⟨Vd⟩
               have dQ:af (IV.heap[di]? = some (.cells #[.int .u8 0,.int .u8 0,.int .u8 0,.int .u8 0,.int .i64 0] 45 (0,0))):=⟨Vb⟩
               have gK:af (w.heap.size≤di):=⟨Va⟩
               have jT:af (w.heap.size≤di):=⟨U9⟩
               have lL:af (gZ ≠ di):=⟨U7⟩
               have kQ:af (di ≠ gZ):=⟨U6⟩
               have o9:af (eU ≠ di):=⟨U5⟩
               have uA:af (di ≠ eU):=⟨U4⟩
               have xq:af (Below w.heap.size w IV):=⟨U3⟩
               clear eF
               clear cu
               clear HB
               clear Ve Vd Vb Va U9 U7 U6 U5 U4 U3
               have eF:=dW
               have cu:=dV
               have iq:=dQ
               have qH:=gK
               have lh:=jT
               have dO:=lL
               have fP:=kQ
               have bg:=o9
               have fZ:=uA
               have HB:=xq
               clear dW dV dQ gK jT lL kQ o9 uA xq
               have hHeld:IV.cell? ⟨eU,0,none⟩=some (.int .u8 dC)∧IV.cell? ⟨eU,1,none⟩=some (.int .u8 dB)∧IV.cell? ⟨eU,2,none⟩=some (.int .u8 dA)∧IV.cell? ⟨eU,3,none⟩=some (.int .u8 dw)∧IV.cell? ⟨eU,4,none⟩=some (.int .i64 dn):=pg
               refine iT (a':=?_) ?_ ?_
               rotate_left
               ·
                simp only [jm,Act.put,List.setIfInBounds_toArray,List.set_cons_zero,List.set_cons_succ]
                rfl
               refine nN (i:=10) (N:=none) #[true,true,true,true,true,true,true,true,true,true,true,false] rfl rfl (jU fH.out (by kernel_rfl)) (by decide) (fun K hK=>?_)
               have al9:IV.cell? ⟨di,0,none⟩=some (.int .u8 0):=(aJ iq.out 0).trans rfl
               have aj2:=gu iq.out 0
               have abH:=dO.out
               have abG:=bg.out
               have ace:=fP.out
               have acd:=fZ.out
               have al8:IV.cell? ⟨di,1,none⟩=some (.int .u8 0):=(aJ iq.out 1).trans rfl
               have aj1:=gu iq.out 1
               have abE:=dO.out
               have abD:=bg.out
               have acb:=fP.out
               have aca:=fZ.out
               have al7:IV.cell? ⟨di,2,none⟩=some (.int .u8 0):=(aJ iq.out 2).trans rfl
               have aj0:=gu iq.out 2
               have abC:=dO.out
               have abB:=bg.out
               have ab9:=fP.out
               have ab8:=fZ.out
               have al6:IV.cell? ⟨di,3,none⟩=some (.int .u8 0):=(aJ iq.out 3).trans rfl
               have ajZ:=gu iq.out 3
               have abA:=dO.out
               have abz:=bg.out
               have ab7:=fP.out
               have ab6:=fZ.out
               have al5:IV.cell? ⟨di,4,none⟩=some (.int .i64 0):=(aJ iq.out 4).trans rfl
               have ajY:=gu iq.out 4
               have aby:=dO.out
               have abx:=bg.out
               have ab5:=fP.out
               have ab4:=fZ.out
               refine MW (w1:=?_) (by rfl) rfl ?_ ?_
               rotate_left
               ·
                go_simp
                rfl
               refine hK.out _ _ ⟨((cell_far (p:=⟨di,_,none⟩) bg.out _).trans (((cell_far (p:=⟨di,_,none⟩) bg.out _).trans (((cell_far (p:=⟨di,_,none⟩) bg.out _).trans (((cell_far (p:=⟨di,_,none⟩) bg.out _).trans (((cell_far (p:=⟨di,_,none⟩) bg.out _).trans (hHeld.1)))))))))),((cell_far (p:=⟨di,_,none⟩) bg.out _).trans (((cell_far (p:=⟨di,_,none⟩) bg.out _).trans (((cell_far (p:=⟨di,_,none⟩) bg.out _).trans (((cell_far (p:=⟨di,_,none⟩) bg.out _).trans (((cell_far (p:=⟨di,_,none⟩) bg.out _).trans (hHeld.2.1)))))))))),((cell_far (p:=⟨di,_,none⟩) bg.out _).trans (((cell_far (p:=⟨di,_,none⟩) bg.out _).trans (((cell_far (p:=⟨di,_,none⟩) bg.out _).trans (((cell_far (p:=⟨di,_,none⟩) bg.out _).trans (((cell_far (p:=⟨di,_,none⟩) bg.out _).trans (hHeld.2.2.1)))))))))),((cell_far (p:=⟨di,_,none⟩) bg.out _).trans (((cell_far (p:=⟨di,_,none⟩) bg.out _).trans (((cell_far (p:=⟨di,_,none⟩) bg.out _).trans (((cell_far (p:=⟨di,_,none⟩) bg.out _).trans (((cell_far (p:=⟨di,_,none⟩) bg.out _).trans (hHeld.2.2.2.1)))))))))),((cell_far (p:=⟨di,_,none⟩) bg.out _).trans (((cell_far (p:=⟨di,_,none⟩) bg.out _).trans (((cell_far (p:=⟨di,_,none⟩) bg.out _).trans (((cell_far (p:=⟨di,_,none⟩) bg.out _).trans (((cell_far (p:=⟨di,_,none⟩) bg.out _).trans (hHeld.2.2.2.2))))))))))⟩ (fun hHeld=>?_)
               clear hK K
               refine bW (i:=11) (N:=some 12) (v:=?_) (a':=?_) #[true,true,true,true,true,true,true,true,true,true,true,true] rfl rfl (bG fH.out (by kernel_rfl)) (fun _ _ _ h=>h) (Or.inl ⟨by rfl,?_⟩) ?_ ?_
               rotate_left
               ·
                intro w'
                go_simp
                with_reducible rfl
               rotate_left
               ·
                simp only [Act.put,List.setIfInBounds_toArray,List.set_cons_zero,List.set_cons_succ,aX,aY]
                rfl
               refine qW (nV fH.out (by kernel_rfl)) ?_
               have ajC:=fP.out
               have ajf:=dO.out
               have ajB:=fZ.out
               have aje:=bg.out
               obtain ⟨J4,J3,JZ,JY,Tc,Jz,Jy,Jw,Jv,Q9⟩:=iV iq.out
               have UT:=rf.out
               have UO:=jy.out
               obtain ⟨Dt,Dq,Dp,Dn,S9,CY,CX,CW,CV,Q8⟩:=iV cu.out
               try go_wp2
               go_roundg k3
               case measure=>have:=uG.out;have:=HJ4.out;have:=Ec.out;omega
               case rel=>exact ⟨(oC),(fM),(fF),(eX),(dZ),(dP),(t120),(t121),(t122),(t123),(t124),(by first|rfl|(simp;done)|(simp only [← vI] <;> (first|rfl|simp))|(simp [*];done)),H',⟨by have:=uG.out;have:=HJ4.out;have:=Ec.out;omega⟩,⟨by (with_reducible repeat (first|refine ai ?_ _|refine ax ?_|refine ah ?_ _));refine dD ?_ jy.out _;(with_reducible repeat (first|refine ai ?_ _|refine ax ?_|refine ah ?_ _));refine dD ?_ jy.out _;(with_reducible repeat (first|refine ai ?_ _|refine ax ?_|refine ah ?_ _));refine dD ?_ jy.out _;(with_reducible repeat (first|refine ai ?_ _|refine ax ?_|refine ah ?_ _));refine dD ?_ jy.out _;(with_reducible repeat (first|refine ai ?_ _|refine ax ?_|refine ah ?_ _));refine dD ?_ jy.out _;(with_reducible repeat (first|refine ai ?_ _|refine ax ?_|refine ah ?_ _));refine dD ?_ dO.out _;(with_reducible repeat (first|refine ai ?_ _|refine ax ?_|refine ah ?_ _));refine dD ?_ dO.out _;(with_reducible repeat (first|refine ai ?_ _|refine ax ?_|refine ah ?_ _));refine dD ?_ dO.out _;(with_reducible repeat (first|refine ai ?_ _|refine ax ?_|refine ah ?_ _));refine dD ?_ dO.out _;(with_reducible repeat (first|refine ai ?_ _|refine ax ?_|refine ah ?_ _));refine dD ?_ dO.out _;(with_reducible repeat (first|refine ai ?_ _|refine ax ?_|refine ah ?_ _));exact eF.out⟩,⟨by (with_reducible repeat (first|refine ai ?_ _|refine ax ?_|refine ah ?_ _));refine dh (cs:=#[.int .u8 t120,.int .u8 t121,.int .u8 t122,.int .u8 t123,.int .i64 dn]) ?_ 4 _ rfl;(with_reducible repeat (first|refine ai ?_ _|refine ax ?_|refine ah ?_ _));refine dh (cs:=#[.int .u8 t120,.int .u8 t121,.int .u8 t122,.int .u8 dw,.int .i64 dn]) ?_ 3 _ rfl;(with_reducible repeat (first|refine ai ?_ _|refine ax ?_|refine ah ?_ _));refine dh (cs:=#[.int .u8 t120,.int .u8 t121,.int .u8 dA,.int .u8 dw,.int .i64 dn]) ?_ 2 _ rfl;(with_reducible repeat (first|refine ai ?_ _|refine ax ?_|refine ah ?_ _));refine dh (cs:=#[.int .u8 t120,.int .u8 dB,.int .u8 dA,.int .u8 dw,.int .i64 dn]) ?_ 1 _ rfl;(with_reducible repeat (first|refine ai ?_ _|refine ax ?_|refine ah ?_ _));refine dh (cs:=#[.int .u8 dC,.int .u8 dB,.int .u8 dA,.int .u8 dw,.int .i64 dn]) ?_ 0 _ rfl;(with_reducible repeat (first|refine ai ?_ _|refine ax ?_|refine ah ?_ _));refine dD ?_ bg.out _;(with_reducible repeat (first|refine ai ?_ _|refine ax ?_|refine ah ?_ _));refine dD ?_ bg.out _;(with_reducible repeat (first|refine ai ?_ _|refine ax ?_|refine ah ?_ _));refine dD ?_ bg.out _;(with_reducible repeat (first|refine ai ?_ _|refine ax ?_|refine ah ?_ _));refine dD ?_ bg.out _;(with_reducible repeat (first|refine ai ?_ _|refine ax ?_|refine ah ?_ _));refine dD ?_ bg.out _;(with_reducible repeat (first|refine ai ?_ _|refine ax ?_|refine ah ?_ _));exact cu.out⟩,⟨by repeat (first|(with_reducible first|exact HB.out|apply aj|apply ag|apply ak|refine ay ?_ jh.out|refine ay ?_ jP.out|refine ay ?_ lh.out)|exact HB.out)⟩⟩
              ·
               replace c21:=Bool.eq_false_iff.mpr c21
               subst c21
               have H1:(some (0,0,0,0,0,false))=some (r1,r2,r3,r4,r5,r6):=by rw [if_neg (show ¬ (false=true) by decide)] at H;exact H
               clear H
               have H:=H1
               clear H1
               simp only [Option.some.injEq,Prod.mk.injEq] at H
               obtain ⟨rfl,rfl,rfl,rfl,rfl,rfl⟩:=H
               have yZ:0≤((oC):Int):=of_decide_eq_true (by first|(with_reducible assumption)|assumption)
               have yX:(oC) < (l0.length:Int):=of_decide_eq_true (by first|(with_reducible assumption)|assumption)
               obtain ⟨Vu,e117,nR⟩:=Kd.kX HR0.out (oC) yZ yX
               cases e117
               replace nR:=(HB.out.cell (World.block_lt_of_cell? w _ nR)).trans nR
               replace yZ:=eq_true yZ
               replace yX:=eq_true yX
               try go_wp2_with (first|((with_reducible refine bV (f:=39) rfl ?_);refine fU (some 49) rfl rfl Tryd.func39 (by kernel_rfl) rfl #[.string (eG ByteArray.empty l0 (oC))] rfl (by (try simp only [List.map_toArray,List.map_cons,List.map_nil]);first|done|(simp only [vI];rfl)|rfl|(simp only [List.length_drop,List.length_take];rfl)) ?_;(with_reducible refine (aA.calls k3 (eG ByteArray.empty l0 (oC)) t118 t119 _ A16.out).mono ?_);rintro e w' ⟨rfl,⟨nd,rfl⟩⟩;refine ⟨_,rfl,?_⟩;(try (rw [qo wr];generalize zS:World.drewN wr _=wr;have dW:af (wr.heap[gZ]? = some (.cells #[.int .u8 fM,.int .u8 fF,.int .u8 eX,.int .u8 dZ,.int .i64 dP] 45 (0,0))):=⟨by rw [← zS];exact (by (with_reducible repeat (first|refine ai ?_ _|refine ax ?_|refine ah ?_ _));exact eF.out)⟩;have dV:af (wr.heap[eU]? = some (.cells #[.int .u8 dC,.int .u8 dB,.int .u8 dA,.int .u8 dw,.int .i64 dn] 45 (0,0))):=⟨by rw [← zS];exact (by (with_reducible repeat (first|refine ai ?_ _|refine ax ?_|refine ah ?_ _));exact cu.out)⟩;have dQ:af (Below w.heap.size w wr):=⟨by rw [← zS];exact (by repeat (first|(with_reducible first|exact HB.out|apply aj|apply ag|apply ak|refine ay ?_ jh.out|refine ay ?_ jP.out)|exact HB.out))⟩;clear eF cu HB zS;have eF:=dW;have cu:=dV;have HB:=dQ;clear dW dV dQ))))
               have dW:=af.mk (ax eF.out)
               have dV:=af.mk (ax cu.out)
               have dQ:=af.mk (ak HB.out)
               clear eF
               clear cu
               clear HB
               have eF:=dW
               have cu:=dV
               have HB:=dQ
               clear dW dV dQ
               have Ep:0≤(l7:Int):=of_decide_eq_true (by first|(with_reducible assumption)|assumption)
               have Eo:l7 < (t114.size:Int):=of_decide_eq_true (by first|(with_reducible assumption)|assumption)
               have NH:=lI t114 l7
               replace Ep:=eq_true Ep
               replace Eo:=eq_true Eo
               refine oJ (n:=12) (S:=fun w'=>w'.cell? ⟨eU,0,none⟩=some (.int .u8 dC)∧w'.cell? ⟨eU,1,none⟩=some (.int .u8 dB)∧w'.cell? ⟨eU,2,none⟩=some (.int .u8 dA)∧w'.cell? ⟨eU,3,none⟩=some (.int .u8 dw)∧w'.cell? ⟨eU,4,none⟩=some (.int .i64 dn)) (ds:=[]) #[false,false,false,false,false,false,false,false,false,false,false,false] (by kernel_rfl) rfl rfl ⟨(aJ cu.out 0).trans rfl,(aJ cu.out 1).trans rfl,(aJ cu.out 2).trans rfl,(aJ cu.out 3).trans rfl,(aJ cu.out 4).trans rfl⟩ (fun hHeld=>?_);refine kP aH.MS aH.Ie (fun fH qy=>?_)
               generalize wr.drew=w36 at eF cu HB hHeld ⊢
               refine bW (i:=1) (N:=some 54) (v:=?_) (a':=?_) #[false,true,false,false,false,false,false,false,false,false,false,false] rfl rfl (bG fH.out (by kernel_rfl)) (fun _ _ _ h=>h) (Or.inl ⟨by rfl,?_⟩) ?_ ?_
               rotate_left
               ·
                intro w'
                go_simp
                with_reducible rfl
               rotate_left
               ·
                simp only [Act.put,List.setIfInBounds_toArray,List.set_cons_zero,List.set_cons_succ,aX,aY]
                rfl
               refine bW (i:=2) (N:=some 55) (v:=?_) (a':=?_) #[false,true,true,false,false,false,false,false,false,false,false,false] rfl rfl (bG fH.out (by kernel_rfl)) (fun _ _ _ h=>h) (Or.inl ⟨by rfl,?_⟩) ?_ ?_
               rotate_left
               ·
                intro w'
                go_simp
                with_reducible rfl
               rotate_left
               ·
                simp only [Act.put,List.setIfInBounds_toArray,List.set_cons_zero,List.set_cons_succ,aX,aY]
                rfl
               refine bW (i:=4) (N:=some 57) (v:=?_) (a':=?_) #[false,true,true,false,true,false,false,false,false,false,false,false] rfl rfl (bG fH.out (by kernel_rfl)) (fun _ _ _ h=>h) (Or.inl ⟨by rfl,?_⟩) ?_ ?_
               rotate_left
               ·
                intro w'
                go_simp
                with_reducible rfl
               rotate_left
               ·
                simp only [Act.put,List.setIfInBounds_toArray,List.set_cons_zero,List.set_cons_succ,aX,aY]
                rfl
               refine jf (i:=0) (N:=some 53) (v:=?_) (a':=?_) #[true,true,true,false,true,false,false,false,false,false,false,false] rfl rfl (gm fH.out qy.out (by kernel_rfl)) (fun _ _ _ h=>h) (Or.inl ⟨by rfl,?_⟩) hHeld ?_ ?_
               rotate_left
               ·
                rintro w' ⟨s0,s1,s2,s3,s4⟩
                go_simp
                with_reducible rfl
               rotate_left
               ·
                simp only [Act.put,List.setIfInBounds_toArray,List.set_cons_zero,List.set_cons_succ,aX,aY]
                rfl
               refine jf (i:=3) (N:=some 56) (v:=?_) (a':=?_) #[true,true,true,true,true,false,false,false,false,false,false,false] rfl rfl (gm fH.out qy.out (by kernel_rfl)) (fun _ _ _ h=>h) (Or.inl ⟨by rfl,?_⟩) hHeld ?_ ?_
               rotate_left
               ·
                rintro w' ⟨s0,s1,s2,s3,s4⟩
                go_simp
                with_reducible rfl
               rotate_left
               ·
                simp only [Act.put,List.setIfInBounds_toArray,List.set_cons_zero,List.set_cons_succ,aX,aY]
                rfl
               refine Jc (σ:=Nat) 2 #[true,true,true,true,true,true,true,true,true,true,false,false] (fun s_=>[(58,.tuple #[.agg #[.int .u8 t120,.int .u8 t121,.int .u8 t122,.int .u8 t123,.int .i64 t124],.bool false]),(11,.pointer (some ⟨s_,0,none⟩)),(52,.tuple #[.agg #[.int .u8 t120,.int .u8 t121,.int .u8 t122,.int .u8 t123,.int .i64 t124],.bool false]),(59,.agg #[.int .u8 t120,.int .u8 t121,.int .u8 t122,.int .u8 t123,.int .i64 t124]),(60,.bool false)]) (fun s_ w'=>(w'.cell? ⟨eU,0,none⟩=some (.int .u8 dC)∧w'.cell? ⟨eU,1,none⟩=some (.int .u8 dB)∧w'.cell? ⟨eU,2,none⟩=some (.int .u8 dA)∧w'.cell? ⟨eU,3,none⟩=some (.int .u8 dw)∧w'.cell? ⟨eU,4,none⟩=some (.int .i64 dn))∧(w'.heap[gZ]? = some (.cells #[.int .u8 fM,.int .u8 fF,.int .u8 eX,.int .u8 dZ,.int .i64 dP] 45 (0,0)))∧(w'.heap[eU]? = some (.cells #[.int .u8 dC,.int .u8 dB,.int .u8 dA,.int .u8 dw,.int .i64 dn] 45 (0,0)))∧(w'.heap[s_]? = some (.cells #[.int .u8 0,.int .u8 0,.int .u8 0,.int .u8 0,.int .i64 0] 45 (0,0)))∧(w.heap.size≤s_)∧(w.heap.size≤s_)∧(gZ ≠ s_)∧(s_ ≠ gZ)∧(eU ≠ s_)∧(s_ ≠ eU)∧(Below w.heap.size w w')) ?_ ?_
               rotate_left
               ·
                intro xx
                refine P7 (i:=5) (j:=9) (Ni:=some 58) (Nj:=some 11) #[true,true,true,true,true,true,false,false,false,false,false,false] #[true,true,true,true,true,false,false,false,false,true,false,false] rfl rfl rfl rfl (FU fH.out (by kernel_rfl)) (by decide) (by decide) (fun K hK=>?_) (fun K hK=>?_)
                ·
                 skip
                 refine qm Tryd.func40 (by kernel_rfl) rfl #[.agg #[.int .u8 dC,.int .u8 dB,.int .u8 dA,.int .u8 dw,.int .i64 dn],.int .u8 (bt t114 l7),.int .i64 t118] (by rfl) rfl rfl (by (try simp only [List.map_toArray,List.map_cons,List.map_nil]);first|done|rfl|(simp only [List.length_drop,List.length_take];rfl)) ?_
                 with_reducible refine (aV.calls k3 dC dB dA dw dn (bt t114 l7) t118 t120 t121 t122 t123 t124 false _ VO.out).mono ?_
                 rintro e w37 ⟨rfl,hb⟩
                 refine ⟨_,rfl,?_⟩
                 have dW:=af.mk (bJ (g:=gZ) (o:=.cells #[.int .u8 fM,.int .u8 fF,.int .u8 eX,.int .u8 dZ,.int .i64 dP] 45 (0,0)) (by (with_reducible repeat (first|refine ai ?_ _|refine ax ?_|refine ah ?_ _));exact eF.out) hb)
                 have dV:=af.mk (bJ (g:=eU) (o:=.cells #[.int .u8 dC,.int .u8 dB,.int .u8 dA,.int .u8 dw,.int .i64 dn] 45 (0,0)) (by (with_reducible repeat (first|refine ai ?_ _|refine ax ?_|refine ah ?_ _));exact cu.out) hb)
                 have dQ:=af.mk (bC (by repeat (first|(with_reducible first|exact HB.out|apply aj|apply ag|apply ak|refine ay ?_ jh.out|refine ay ?_ jP.out)|exact HB.out)) hb)
                 clear eF
                 clear cu
                 clear HB
                 have eF:=dW
                 have cu:=dV
                 have HB:=dQ
                 clear dW dV dQ
                 (try clear hb)
                 (try clear hb2)
                 (try clear hk)
                 (try clear hi)
                 refine hK.out _ _ ⟨(aJ cu.out 0).trans rfl,(aJ cu.out 1).trans rfl,(aJ cu.out 2).trans rfl,(aJ cu.out 3).trans rfl,(aJ cu.out 4).trans rfl⟩ (fun hHeld=>?_)
                 clear hK K
                 refine iT (a':=?_) ?_ ?_
                 rotate_left
                 ·
                  show Act.put _ (some 58) _=_
                  simp only [Act.put,List.setIfInBounds_toArray,List.set_cons_zero,List.set_cons_succ,aX,aY]
                  rfl
                 refine bW (i:=6) (N:=some 52) (v:=?_) (a':=?_) #[true,true,true,true,true,true,true,false,false,false,false,false] rfl rfl (bG fH.out (by kernel_rfl)) (fun _ _ _ h=>h) (Or.inl ⟨by rfl,?_⟩) ?_ ?_
                 rotate_left
                 ·
                  intro w'
                  go_simp
                  with_reducible rfl
                 rotate_left
                 ·
                  simp only [Act.put,List.setIfInBounds_toArray,List.set_cons_zero,List.set_cons_succ,aX,aY]
                  rfl
                 refine bW (i:=7) (N:=some 59) (v:=?_) (a':=?_) #[true,true,true,true,true,true,true,true,false,false,false,false] rfl rfl (bG fH.out (by kernel_rfl)) (fun _ _ _ h=>h) (Or.inl ⟨by rfl,?_⟩) ?_ ?_
                 rotate_left
                 ·
                  intro w'
                  go_simp
                  with_reducible rfl
                 rotate_left
                 ·
                  simp only [Act.put,List.setIfInBounds_toArray,List.set_cons_zero,List.set_cons_succ,aX,aY]
                  rfl
                 refine bW (i:=8) (N:=some 60) (v:=?_) (a':=?_) #[true,true,true,true,true,true,true,true,true,false,false,false] rfl rfl (bG fH.out (by kernel_rfl)) (fun _ _ _ h=>h) (Or.inl ⟨by rfl,?_⟩) ?_ ?_
                 rotate_left
                 ·
                  intro w'
                  go_simp
                  with_reducible rfl
                 rotate_left
                 ·
                  simp only [Act.put,List.setIfInBounds_toArray,List.set_cons_zero,List.set_cons_succ,aX,aY]
                  rfl
                 refine nN (i:=9) (N:=some 11) #[true,true,true,true,true,true,true,true,true,true,false,false] rfl rfl (jU fH.out (by kernel_rfl)) (by decide) (fun K hK=>?_)
                 refine qZ ?hg (N:=11) ?hd (cs:=#[.int .u8 0,.int .u8 0,.int .u8 0,.int .u8 0,.int .i64 0]) (t:=45) ?hr ?_;(case hd=>rfl);(case hg=>rfl);(case hr=>first|(go_simp;done)|(go_simp;rfl))
                 intro di hg w38 hbox hb
                 have dW:=af.mk (bJ (g:=gZ) (o:=.cells #[.int .u8 fM,.int .u8 fF,.int .u8 eX,.int .u8 dZ,.int .i64 dP] 45 (0,0)) (by (with_reducible repeat (first|refine ai ?_ _|refine ax ?_|refine ah ?_ _));exact eF.out) hb)
                 have dV:=af.mk (bJ (g:=eU) (o:=.cells #[.int .u8 dC,.int .u8 dB,.int .u8 dA,.int .u8 dw,.int .i64 dn] 45 (0,0)) (by (with_reducible repeat (first|refine ai ?_ _|refine ax ?_|refine ah ?_ _));exact cu.out) hb)
                 have dQ:=af.mk (bC (by repeat (first|(with_reducible first|exact HB.out|apply aj|apply ag|apply ak|refine ay ?_ jh.out|refine ay ?_ jP.out)|exact HB.out)) hb)
                 have gK:=af.mk (hbox)
                 have jT:=af.mk ((by rw [hg];exact (df (by repeat (first|(with_reducible first|exact HB.out|apply aj|apply ag|apply ak|refine ay ?_ jh.out|refine ay ?_ jP.out)|exact HB.out))):w.heap.size≤di))
                 have lL:=jT
                 have kQ:=af.mk ((by rw [hg];exact Nat.ne_of_lt (iC (g:=gZ) (o:=.cells #[.int .u8 fM,.int .u8 fF,.int .u8 eX,.int .u8 dZ,.int .i64 dP] 45 (0,0)) (by (with_reducible repeat (first|refine ai ?_ _|refine ax ?_|refine ah ?_ _));exact eF.out)):gZ ≠ di))
                 have o9:=af.mk kQ.out.symm
                 have uA:=af.mk ((by rw [hg];exact Nat.ne_of_lt (iC (g:=eU) (o:=.cells #[.int .u8 dC,.int .u8 dB,.int .u8 dA,.int .u8 dw,.int .i64 dn] 45 (0,0)) (by (with_reducible repeat (first|refine ai ?_ _|refine ax ?_|refine ah ?_ _));exact cu.out)):eU ≠ di))
                 have xq:=af.mk uA.out.symm
                 clear eF
                 clear cu
                 clear HB
                 have eF:=dW
                 have cu:=dV
                 have HB:=dQ
                 have iq:=gK
                 have qH:=jT
                 have lh:=lL
                 have dO:=kQ
                 have fP:=o9
                 have bg:=uA
                 have fZ:=xq
                 clear dW dV dQ gK jT lL kQ o9 uA xq
                 clear hb hbox hg
                 refine hK.out _ _ ⟨(aJ cu.out 0).trans rfl,(aJ cu.out 1).trans rfl,(aJ cu.out 2).trans rfl,(aJ cu.out 3).trans rfl,(aJ cu.out 4).trans rfl⟩ (fun hHeld=>?_)
                 clear hK K
                 refine iT (a':=?_) ?_ ?_
                 rotate_left
                 ·
                  show Act.put _ (some 11) _=_
                  simp only [Act.put,List.setIfInBounds_toArray,List.set_cons_zero,List.set_cons_succ,aX,aY]
                  rfl
                 exact iT (by simp only [jm,Act.put,List.setIfInBounds_toArray,List.set_cons_zero,List.set_cons_succ]) (xx (di) _ ⟨hHeld,(by (with_reducible repeat (first|refine ai ?_ _|refine ax ?_|refine ah ?_ _));exact eF.out),(by (with_reducible repeat (first|refine ai ?_ _|refine ax ?_|refine ah ?_ _));exact cu.out),(by (with_reducible repeat (first|refine ai ?_ _|refine ax ?_|refine ah ?_ _));exact iq.out),qH.out,lh.out,dO.out,fP.out,bg.out,fZ.out,(by repeat (first|(with_reducible first|exact HB.out|apply aj|apply ag|apply ak|refine ay ?_ jh.out|refine ay ?_ jP.out|refine ay ?_ lh.out)|exact HB.out))⟩)
                ·
                 skip
                 refine qZ ?hg (N:=11) ?hd (cs:=#[.int .u8 0,.int .u8 0,.int .u8 0,.int .u8 0,.int .i64 0]) (t:=45) ?hr ?_;(case hd=>rfl);(case hg=>rfl);(case hr=>first|(go_simp;done)|(go_simp;rfl))
                 intro di hg w37 hbox hb
                 have dW:=af.mk (bJ (g:=gZ) (o:=.cells #[.int .u8 fM,.int .u8 fF,.int .u8 eX,.int .u8 dZ,.int .i64 dP] 45 (0,0)) (by (with_reducible repeat (first|refine ai ?_ _|refine ax ?_|refine ah ?_ _));exact eF.out) hb)
                 have dV:=af.mk (bJ (g:=eU) (o:=.cells #[.int .u8 dC,.int .u8 dB,.int .u8 dA,.int .u8 dw,.int .i64 dn] 45 (0,0)) (by (with_reducible repeat (first|refine ai ?_ _|refine ax ?_|refine ah ?_ _));exact cu.out) hb)
                 have dQ:=af.mk (bC (by repeat (first|(with_reducible first|exact HB.out|apply aj|apply ag|apply ak|refine ay ?_ jh.out|refine ay ?_ jP.out)|exact HB.out)) hb)
                 have gK:=af.mk (hbox)
                 have jT:=af.mk ((by rw [hg];exact (df (by repeat (first|(with_reducible first|exact HB.out|apply aj|apply ag|apply ak|refine ay ?_ jh.out|refine ay ?_ jP.out)|exact HB.out))):w.heap.size≤di))
                 have lL:=jT
                 have kQ:=af.mk ((by rw [hg];exact Nat.ne_of_lt (iC (g:=gZ) (o:=.cells #[.int .u8 fM,.int .u8 fF,.int .u8 eX,.int .u8 dZ,.int .i64 dP] 45 (0,0)) (by (with_reducible repeat (first|refine ai ?_ _|refine ax ?_|refine ah ?_ _));exact eF.out)):gZ ≠ di))
                 have o9:=af.mk kQ.out.symm
                 have uA:=af.mk ((by rw [hg];exact Nat.ne_of_lt (iC (g:=eU) (o:=.cells #[.int .u8 dC,.int .u8 dB,.int .u8 dA,.int .u8 dw,.int .i64 dn] 45 (0,0)) (by (with_reducible repeat (first|refine ai ?_ _|refine ax ?_|refine ah ?_ _));exact cu.out)):eU ≠ di))
                 have xq:=af.mk uA.out.symm
                 clear eF
                 clear cu
                 clear HB
                 have eF:=dW
                 have cu:=dV
                 have HB:=dQ
                 have iq:=gK
                 have qH:=jT
                 have lh:=lL
                 have dO:=kQ
                 have fP:=o9
                 have bg:=uA
                 have fZ:=xq
                 clear dW dV dQ gK jT lL kQ o9 uA xq
                 clear hb hbox hg
                 refine hK.out _ _ ⟨(aJ cu.out 0).trans rfl,(aJ cu.out 1).trans rfl,(aJ cu.out 2).trans rfl,(aJ cu.out 3).trans rfl,(aJ cu.out 4).trans rfl⟩ (fun hHeld=>?_)
                 clear hK K
                 refine iT (a':=?_) ?_ ?_
                 rotate_left
                 ·
                  show Act.put _ (some 11) _=_
                  simp only [Act.put,List.setIfInBounds_toArray,List.set_cons_zero,List.set_cons_succ,aX,aY]
                  rfl
                 refine nN (i:=5) (N:=some 58) #[true,true,true,true,true,true,false,false,false,true,false,false] rfl rfl (jU fH.out (by kernel_rfl)) (by decide) (fun K hK=>?_)
                 refine qm Tryd.func40 (by kernel_rfl) rfl #[.agg #[.int .u8 dC,.int .u8 dB,.int .u8 dA,.int .u8 dw,.int .i64 dn],.int .u8 (bt t114 l7),.int .i64 t118] (by rfl) rfl rfl (by (try simp only [List.map_toArray,List.map_cons,List.map_nil]);first|done|rfl|(simp only [List.length_drop,List.length_take];rfl)) ?_
                 with_reducible refine (aV.calls k3 dC dB dA dw dn (bt t114 l7) t118 t120 t121 t122 t123 t124 false _ VO.out).mono ?_
                 rintro e w38 ⟨rfl,hb⟩
                 refine ⟨_,rfl,?_⟩
                 have dW:=af.mk (bJ (g:=gZ) (o:=.cells #[.int .u8 fM,.int .u8 fF,.int .u8 eX,.int .u8 dZ,.int .i64 dP] 45 (0,0)) (by (with_reducible repeat (first|refine ai ?_ _|refine ax ?_|refine ah ?_ _));exact eF.out) hb)
                 have dV:=af.mk (bJ (g:=eU) (o:=.cells #[.int .u8 dC,.int .u8 dB,.int .u8 dA,.int .u8 dw,.int .i64 dn] 45 (0,0)) (by (with_reducible repeat (first|refine ai ?_ _|refine ax ?_|refine ah ?_ _));exact cu.out) hb)
                 have dQ:=af.mk (bJ (g:=di) (o:=.cells #[.int .u8 0,.int .u8 0,.int .u8 0,.int .u8 0,.int .i64 0] 45 (0,0)) (by (with_reducible repeat (first|refine ai ?_ _|refine ax ?_|refine ah ?_ _));exact iq.out) hb)
                 have gK:=af.mk (bC (by repeat (first|(with_reducible first|exact HB.out|apply aj|apply ag|apply ak|refine ay ?_ jh.out|refine ay ?_ jP.out|refine ay ?_ lh.out)|exact HB.out)) hb)
                 clear eF
                 clear cu
                 clear iq
                 clear HB
                 have eF:=dW
                 have cu:=dV
                 have iq:=dQ
                 have HB:=gK
                 clear dW dV dQ gK
                 (try clear hb)
                 (try clear hb2)
                 (try clear hk)
                 (try clear hi)
                 refine hK.out _ _ ⟨(aJ cu.out 0).trans rfl,(aJ cu.out 1).trans rfl,(aJ cu.out 2).trans rfl,(aJ cu.out 3).trans rfl,(aJ cu.out 4).trans rfl⟩ (fun hHeld=>?_)
                 clear hK K
                 refine iT (a':=?_) ?_ ?_
                 rotate_left
                 ·
                  show Act.put _ (some 58) _=_
                  simp only [Act.put,List.setIfInBounds_toArray,List.set_cons_zero,List.set_cons_succ,aX,aY]
                  rfl
                 refine bW (i:=6) (N:=some 52) (v:=?_) (a':=?_) #[true,true,true,true,true,true,true,false,false,true,false,false] rfl rfl (bG fH.out (by kernel_rfl)) (fun _ _ _ h=>h) (Or.inl ⟨by rfl,?_⟩) ?_ ?_
                 rotate_left
                 ·
                  intro w'
                  go_simp
                  with_reducible rfl
                 rotate_left
                 ·
                  simp only [Act.put,List.setIfInBounds_toArray,List.set_cons_zero,List.set_cons_succ,aX,aY]
                  rfl
                 refine bW (i:=7) (N:=some 59) (v:=?_) (a':=?_) #[true,true,true,true,true,true,true,true,false,true,false,false] rfl rfl (bG fH.out (by kernel_rfl)) (fun _ _ _ h=>h) (Or.inl ⟨by rfl,?_⟩) ?_ ?_
                 rotate_left
                 ·
                  intro w'
                  go_simp
                  with_reducible rfl
                 rotate_left
                 ·
                  simp only [Act.put,List.setIfInBounds_toArray,List.set_cons_zero,List.set_cons_succ,aX,aY]
                  rfl
                 refine bW (i:=8) (N:=some 60) (v:=?_) (a':=?_) #[true,true,true,true,true,true,true,true,true,true,false,false] rfl rfl (bG fH.out (by kernel_rfl)) (fun _ _ _ h=>h) (Or.inl ⟨by rfl,?_⟩) ?_ ?_
                 rotate_left
                 ·
                  intro w'
                  go_simp
                  with_reducible rfl
                 rotate_left
                 ·
                  simp only [Act.put,List.setIfInBounds_toArray,List.set_cons_zero,List.set_cons_succ,aX,aY]
                  rfl
                 exact iT (by simp only [jm,Act.put,List.setIfInBounds_toArray,List.set_cons_zero,List.set_cons_succ]) (xx (di) _ ⟨hHeld,(by (with_reducible repeat (first|refine ai ?_ _|refine ax ?_|refine ah ?_ _));exact eF.out),(by (with_reducible repeat (first|refine ai ?_ _|refine ax ?_|refine ah ?_ _));exact cu.out),(by (with_reducible repeat (first|refine ai ?_ _|refine ax ?_|refine ah ?_ _));exact iq.out),qH.out,lh.out,dO.out,fP.out,bg.out,fZ.out,(by repeat (first|(with_reducible first|exact HB.out|apply aj|apply ag|apply ak|refine ay ?_ jh.out|refine ay ?_ jP.out|refine ay ?_ lh.out)|exact HB.out))⟩)
               rintro di IU ⟨pg,Ve,Vd,Vb,Va,U9,U7,U6,U5,U4,U3⟩
               have dW:af (IU.heap[gZ]? = some (.cells #[.int .u8 fM,.int .u8 fF,.int .u8 eX,.int .u8 dZ,.int .i64 dP] 45 (0,0))):=⟨Ve⟩
               have dV:af (IU.heap[eU]? = some (.cells #[.int .u8 dC,.int .u8 dB,.int .u8 dA,.int .u8 dw,.int .i64 dn] 45 (0,0))):=⟨Vd⟩
               have dQ:af (IU.heap[di]? = some (.cells #[.int .u8 0,.int .u8 0,.int .u8 0,.int .u8 0,.int .i64 0] 45 (0,0))):=⟨Vb⟩
               have gK:af (w.heap.size≤di):=⟨Va⟩
               have jT:af (w.heap.size≤di):=⟨U9⟩
               have lL:af (gZ ≠ di):=⟨U7⟩
               have kQ:af (di ≠ gZ):=⟨U6⟩
               have o9:af (eU ≠ di):=⟨U5⟩
               have uA:af (di ≠ eU):=⟨U4⟩
               have xq:af (Below w.heap.size w IU):=⟨U3⟩
               clear eF
               clear cu
               clear HB
               clear Ve Vd Vb Va U9 U7 U6 U5 U4 U3
               have eF:=dW
               have cu:=dV
               have iq:=dQ
               have qH:=gK
               have lh:=jT
               have dO:=lL
               have fP:=kQ
               have bg:=o9
               have fZ:=uA
               have HB:=xq
               clear dW dV dQ gK jT lL kQ o9 uA xq
               have hHeld:IU.cell? ⟨eU,0,none⟩=some (.int .u8 dC)∧IU.cell? ⟨eU,1,none⟩=some (.int .u8 dB)∧IU.cell? ⟨eU,2,none⟩=some (.int .u8 dA)∧IU.cell? ⟨eU,3,none⟩=some (.int .u8 dw)∧IU.cell? ⟨eU,4,none⟩=some (.int .i64 dn):=pg
               refine iT (a':=?_) ?_ ?_
               rotate_left
               ·
                simp only [jm,Act.put,List.setIfInBounds_toArray,List.set_cons_zero,List.set_cons_succ]
                rfl
               refine nN (i:=10) (N:=none) #[true,true,true,true,true,true,true,true,true,true,true,false] rfl rfl (jU fH.out (by kernel_rfl)) (by decide) (fun K hK=>?_)
               have al4:IU.cell? ⟨di,0,none⟩=some (.int .u8 0):=(aJ iq.out 0).trans rfl
               have ajX:=gu iq.out 0
               have abw:=dO.out
               have abv:=bg.out
               have ab3:=fP.out
               have ab1:=fZ.out
               have al3:IU.cell? ⟨di,1,none⟩=some (.int .u8 0):=(aJ iq.out 1).trans rfl
               have ajW:=gu iq.out 1
               have abu:=dO.out
               have abt:=bg.out
               have abZ:=fP.out
               have abY:=fZ.out
               have al2:IU.cell? ⟨di,2,none⟩=some (.int .u8 0):=(aJ iq.out 2).trans rfl
               have ajV:=gu iq.out 2
               have abr:=dO.out
               have abq:=bg.out
               have abX:=fP.out
               have abW:=fZ.out
               have al1:IU.cell? ⟨di,3,none⟩=some (.int .u8 0):=(aJ iq.out 3).trans rfl
               have ajU:=gu iq.out 3
               have abp:=dO.out
               have abo:=bg.out
               have abV:=fP.out
               have abU:=fZ.out
               have al0:IU.cell? ⟨di,4,none⟩=some (.int .i64 0):=(aJ iq.out 4).trans rfl
               have ajT:=gu iq.out 4
               have abn:=dO.out
               have abm:=bg.out
               have abT:=fP.out
               have abS:=fZ.out
               refine MW (w1:=?_) (by rfl) rfl ?_ ?_
               rotate_left
               ·
                go_simp
                rfl
               refine hK.out _ _ ⟨((cell_far (p:=⟨di,_,none⟩) bg.out _).trans (((cell_far (p:=⟨di,_,none⟩) bg.out _).trans (((cell_far (p:=⟨di,_,none⟩) bg.out _).trans (((cell_far (p:=⟨di,_,none⟩) bg.out _).trans (((cell_far (p:=⟨di,_,none⟩) bg.out _).trans (hHeld.1)))))))))),((cell_far (p:=⟨di,_,none⟩) bg.out _).trans (((cell_far (p:=⟨di,_,none⟩) bg.out _).trans (((cell_far (p:=⟨di,_,none⟩) bg.out _).trans (((cell_far (p:=⟨di,_,none⟩) bg.out _).trans (((cell_far (p:=⟨di,_,none⟩) bg.out _).trans (hHeld.2.1)))))))))),((cell_far (p:=⟨di,_,none⟩) bg.out _).trans (((cell_far (p:=⟨di,_,none⟩) bg.out _).trans (((cell_far (p:=⟨di,_,none⟩) bg.out _).trans (((cell_far (p:=⟨di,_,none⟩) bg.out _).trans (((cell_far (p:=⟨di,_,none⟩) bg.out _).trans (hHeld.2.2.1)))))))))),((cell_far (p:=⟨di,_,none⟩) bg.out _).trans (((cell_far (p:=⟨di,_,none⟩) bg.out _).trans (((cell_far (p:=⟨di,_,none⟩) bg.out _).trans (((cell_far (p:=⟨di,_,none⟩) bg.out _).trans (((cell_far (p:=⟨di,_,none⟩) bg.out _).trans (hHeld.2.2.2.1)))))))))),((cell_far (p:=⟨di,_,none⟩) bg.out _).trans (((cell_far (p:=⟨di,_,none⟩) bg.out _).trans (((cell_far (p:=⟨di,_,none⟩) bg.out _).trans (((cell_far (p:=⟨di,_,none⟩) bg.out _).trans (((cell_far (p:=⟨di,_,none⟩) bg.out _).trans (hHeld.2.2.2.2))))))))))⟩ (fun hHeld=>?_)
               clear hK K
               refine bW (i:=11) (N:=some 12) (v:=?_) (a':=?_) #[true,true,true,true,true,true,true,true,true,true,true,true] rfl rfl (bG fH.out (by kernel_rfl)) (fun _ _ _ h=>h) (Or.inl ⟨by rfl,?_⟩) ?_ ?_
               rotate_left
               ·
                intro w'
                go_simp
                with_reducible rfl
               rotate_left
               ·
                simp only [Act.put,List.setIfInBounds_toArray,List.set_cons_zero,List.set_cons_succ,aX,aY]
                rfl
               refine qW (nV fH.out (by kernel_rfl)) ?_
               have ajw:=jy.out
               have ai9:=rf.out
               have ajv:=dO.out
               have ai8:=fP.out
               obtain ⟨afb,afa,ae9,ae8,ae7,ac7,ac6,ac5,ac4,ac3⟩:=iV eF.out
               try go_wp2
               refine bodyPost_ret (lq rfl _ _ gZ 45 #[.int .u8 0,.int .u8 0,.int .u8 0,.int .u8 0,.int .i64 0] (0,0) _ rfl (by (with_reducible repeat (first|refine ai ?_ _|refine ax ?_|refine ah ?_ _));refine dh (cs:=#[.int .u8 0,.int .u8 0,.int .u8 0,.int .u8 0,.int .i64 dP]) ?_ 4 _ rfl;(with_reducible repeat (first|refine ai ?_ _|refine ax ?_|refine ah ?_ _));refine dh (cs:=#[.int .u8 0,.int .u8 0,.int .u8 0,.int .u8 dZ,.int .i64 dP]) ?_ 3 _ rfl;(with_reducible repeat (first|refine ai ?_ _|refine ax ?_|refine ah ?_ _));refine dh (cs:=#[.int .u8 0,.int .u8 0,.int .u8 eX,.int .u8 dZ,.int .i64 dP]) ?_ 2 _ rfl;(with_reducible repeat (first|refine ai ?_ _|refine ax ?_|refine ah ?_ _));refine dh (cs:=#[.int .u8 0,.int .u8 fF,.int .u8 eX,.int .u8 dZ,.int .i64 dP]) ?_ 1 _ rfl;(with_reducible repeat (first|refine ai ?_ _|refine ax ?_|refine ah ?_ _));refine dh (cs:=#[.int .u8 fM,.int .u8 fF,.int .u8 eX,.int .u8 dZ,.int .i64 dP]) ?_ 0 _ rfl;(with_reducible repeat (first|refine ai ?_ _|refine ax ?_|refine ah ?_ _));refine dD ?_ dO.out _;(with_reducible repeat (first|refine ai ?_ _|refine ax ?_|refine ah ?_ _));refine dD ?_ dO.out _;(with_reducible repeat (first|refine ai ?_ _|refine ax ?_|refine ah ?_ _));refine dD ?_ dO.out _;(with_reducible repeat (first|refine ai ?_ _|refine ax ?_|refine ah ?_ _));refine dD ?_ dO.out _;(with_reducible repeat (first|refine ai ?_ _|refine ax ?_|refine ah ?_ _));refine dD ?_ dO.out _;(with_reducible repeat (first|refine ai ?_ _|refine ax ?_|refine ah ?_ _));exact eF.out) Tryd.underlying45 rfl (by kernel_rfl)) rfl ?_
               exact ⟨by first|rfl|(simp [aU,aT] <;> rfl)|(simp only [← vI];first|rfl|(simp [aU,aT] <;> rfl))|(simp [*,aU,aT] <;> rfl),by repeat (first|(with_reducible first|exact HB.out|apply aj|apply ag|apply ak|refine ay ?_ jh.out|refine ay ?_ jP.out|refine ay ?_ lh.out)|exact HB.out)⟩
             ·
              rw [if_neg c20] at H
              have KE:(t119 == 0)=false:=beq_eq_false_iff_ne.mpr c20
              have Vo:(t119 != 0)=true:=bne_iff_ne.mpr c20
              simp only [Option.some.injEq,Prod.mk.injEq] at H
              obtain ⟨rfl,rfl,rfl,rfl,rfl,rfl⟩:=H
              have yZ:0≤((oC):Int):=of_decide_eq_true (by first|(with_reducible assumption)|assumption)
              have yX:(oC) < (l0.length:Int):=of_decide_eq_true (by first|(with_reducible assumption)|assumption)
              obtain ⟨Vu,e117,nR⟩:=Kd.kX HR0.out (oC) yZ yX
              cases e117
              replace nR:=(HB.out.cell (World.block_lt_of_cell? w _ nR)).trans nR
              replace yZ:=eq_true yZ
              replace yX:=eq_true yX
              try go_wp2_with (first|((with_reducible refine bV (f:=39) rfl ?_);refine fU (some 49) rfl rfl Tryd.func39 (by kernel_rfl) rfl #[.string (eG ByteArray.empty l0 (oC))] rfl (by (try simp only [List.map_toArray,List.map_cons,List.map_nil]);first|done|(simp only [vI];rfl)|rfl|(simp only [List.length_drop,List.length_take];rfl)) ?_;(with_reducible refine (aA.calls k3 (eG ByteArray.empty l0 (oC)) t118 t119 _ A16.out).mono ?_);rintro e w' ⟨rfl,⟨nd,rfl⟩⟩;refine ⟨_,rfl,?_⟩;(try (rw [qo wr];generalize zS:World.drewN wr _=wr;have dW:af (wr.heap[gZ]? = some (.cells #[.int .u8 fM,.int .u8 fF,.int .u8 eX,.int .u8 dZ,.int .i64 dP] 45 (0,0))):=⟨by rw [← zS];exact (by (with_reducible repeat (first|refine ai ?_ _|refine ax ?_|refine ah ?_ _));exact eF.out)⟩;have dV:af (wr.heap[eU]? = some (.cells #[.int .u8 dC,.int .u8 dB,.int .u8 dA,.int .u8 dw,.int .i64 dn] 45 (0,0))):=⟨by rw [← zS];exact (by (with_reducible repeat (first|refine ai ?_ _|refine ax ?_|refine ah ?_ _));exact cu.out)⟩;have dQ:af (Below w.heap.size w wr):=⟨by rw [← zS];exact (by repeat (first|(with_reducible first|exact HB.out|apply aj|apply ag|apply ak|refine ay ?_ jh.out|refine ay ?_ jP.out)|exact HB.out))⟩;clear eF cu HB zS;have eF:=dW;have cu:=dV;have HB:=dQ;clear dW dV dQ))))
              have dW:=af.mk (ax eF.out)
              have dV:=af.mk (ax cu.out)
              have dQ:=af.mk (ak HB.out)
              clear eF
              clear cu
              clear HB
              have eF:=dW
              have cu:=dV
              have HB:=dQ
              clear dW dV dQ
              have Ep:0≤(l7:Int):=of_decide_eq_true (by first|(with_reducible assumption)|assumption)
              have Eo:l7 < (t114.size:Int):=of_decide_eq_true (by first|(with_reducible assumption)|assumption)
              have NH:=lI t114 l7
              replace Ep:=eq_true Ep
              replace Eo:=eq_true Eo
              refine oJ (n:=12) (S:=fun w'=>w'.cell? ⟨eU,0,none⟩=some (.int .u8 dC)∧w'.cell? ⟨eU,1,none⟩=some (.int .u8 dB)∧w'.cell? ⟨eU,2,none⟩=some (.int .u8 dA)∧w'.cell? ⟨eU,3,none⟩=some (.int .u8 dw)∧w'.cell? ⟨eU,4,none⟩=some (.int .i64 dn)) (ds:=[]) #[false,false,false,false,false,false,false,false,false,false,false,false] (by kernel_rfl) rfl rfl ⟨(aJ cu.out 0).trans rfl,(aJ cu.out 1).trans rfl,(aJ cu.out 2).trans rfl,(aJ cu.out 3).trans rfl,(aJ cu.out 4).trans rfl⟩ (fun hHeld=>?_);refine kP aH.MS aH.Ie (fun fH qy=>?_)
              generalize wr.drew=w48 at eF cu HB hHeld ⊢
              refine bW (i:=1) (N:=some 54) (v:=?_) (a':=?_) #[false,true,false,false,false,false,false,false,false,false,false,false] rfl rfl (bG fH.out (by kernel_rfl)) (fun _ _ _ h=>h) (Or.inl ⟨by rfl,?_⟩) ?_ ?_
              rotate_left
              ·
               intro w'
               go_simp
               with_reducible rfl
              rotate_left
              ·
               simp only [Act.put,List.setIfInBounds_toArray,List.set_cons_zero,List.set_cons_succ,aX,aY]
               rfl
              refine bW (i:=2) (N:=some 55) (v:=?_) (a':=?_) #[false,true,true,false,false,false,false,false,false,false,false,false] rfl rfl (bG fH.out (by kernel_rfl)) (fun _ _ _ h=>h) (Or.inl ⟨by rfl,?_⟩) ?_ ?_
              rotate_left
              ·
               intro w'
               go_simp
               with_reducible rfl
              rotate_left
              ·
               simp only [Act.put,List.setIfInBounds_toArray,List.set_cons_zero,List.set_cons_succ,aX,aY]
               rfl
              refine bW (i:=4) (N:=some 57) (v:=?_) (a':=?_) #[false,true,true,false,true,false,false,false,false,false,false,false] rfl rfl (bG fH.out (by kernel_rfl)) (fun _ _ _ h=>h) (Or.inl ⟨by rfl,?_⟩) ?_ ?_
              rotate_left
              ·
               intro w'
               go_simp
               with_reducible rfl
              rotate_left
              ·
               simp only [Act.put,List.setIfInBounds_toArray,List.set_cons_zero,List.set_cons_succ,aX,aY]
               rfl
              refine jf (i:=0) (N:=some 53) (v:=?_) (a':=?_) #[true,true,true,false,true,false,false,false,false,false,false,false] rfl rfl (gm fH.out qy.out (by kernel_rfl)) (fun _ _ _ h=>h) (Or.inl ⟨by rfl,?_⟩) hHeld ?_ ?_
              rotate_left
              ·
               rintro w' ⟨s0,s1,s2,s3,s4⟩
               go_simp
               with_reducible rfl
              rotate_left
              ·
               simp only [Act.put,List.setIfInBounds_toArray,List.set_cons_zero,List.set_cons_succ,aX,aY]
               rfl
              refine jf (i:=3) (N:=some 56) (v:=?_) (a':=?_) #[true,true,true,true,true,false,false,false,false,false,false,false] rfl rfl (gm fH.out qy.out (by kernel_rfl)) (fun _ _ _ h=>h) (Or.inl ⟨by rfl,?_⟩) hHeld ?_ ?_
              rotate_left
              ·
               rintro w' ⟨s0,s1,s2,s3,s4⟩
               go_simp
               with_reducible rfl
              rotate_left
              ·
               simp only [Act.put,List.setIfInBounds_toArray,List.set_cons_zero,List.set_cons_succ,aX,aY]
               rfl
              refine Jc (σ:=Nat) 2 #[true,true,true,true,true,true,true,true,true,true,false,false] (fun s_=>[(58,.tuple #[.agg #[.int .u8 t120,.int .u8 t121,.int .u8 t122,.int .u8 t123,.int .i64 t124],.bool t125]),(11,.pointer (some ⟨s_,0,none⟩)),(52,.tuple #[.agg #[.int .u8 t120,.int .u8 t121,.int .u8 t122,.int .u8 t123,.int .i64 t124],.bool t125]),(59,.agg #[.int .u8 t120,.int .u8 t121,.int .u8 t122,.int .u8 t123,.int .i64 t124]),(60,.bool t125)]) (fun s_ w'=>(w'.cell? ⟨eU,0,none⟩=some (.int .u8 dC)∧w'.cell? ⟨eU,1,none⟩=some (.int .u8 dB)∧w'.cell? ⟨eU,2,none⟩=some (.int .u8 dA)∧w'.cell? ⟨eU,3,none⟩=some (.int .u8 dw)∧w'.cell? ⟨eU,4,none⟩=some (.int .i64 dn))∧(w'.heap[gZ]? = some (.cells #[.int .u8 fM,.int .u8 fF,.int .u8 eX,.int .u8 dZ,.int .i64 dP] 45 (0,0)))∧(w'.heap[eU]? = some (.cells #[.int .u8 dC,.int .u8 dB,.int .u8 dA,.int .u8 dw,.int .i64 dn] 45 (0,0)))∧(w'.heap[s_]? = some (.cells #[.int .u8 0,.int .u8 0,.int .u8 0,.int .u8 0,.int .i64 0] 45 (0,0)))∧(w.heap.size≤s_)∧(w.heap.size≤s_)∧(gZ ≠ s_)∧(s_ ≠ gZ)∧(eU ≠ s_)∧(s_ ≠ eU)∧(Below w.heap.size w w')) ?_ ?_
              rotate_left
              ·
               intro xx
               refine P7 (i:=5) (j:=9) (Ni:=some 58) (Nj:=some 11) #[true,true,true,true,true,true,false,false,false,false,false,false] #[true,true,true,true,true,false,false,false,false,true,false,false] rfl rfl rfl rfl (FU fH.out (by kernel_rfl)) (by decide) (by decide) (fun K hK=>?_) (fun K hK=>?_)
               ·
                skip
                refine qm Tryd.func40 (by kernel_rfl) rfl #[.agg #[.int .u8 dC,.int .u8 dB,.int .u8 dA,.int .u8 dw,.int .i64 dn],.int .u8 (bt t114 l7),.int .i64 t118] (by rfl) rfl rfl (by (try simp only [List.map_toArray,List.map_cons,List.map_nil]);first|done|rfl|(simp only [List.length_drop,List.length_take];rfl)) ?_
                with_reducible refine (aV.calls k3 dC dB dA dw dn (bt t114 l7) t118 t120 t121 t122 t123 t124 t125 _ VO.out).mono ?_
                rintro e w49 ⟨rfl,hb⟩
                refine ⟨_,rfl,?_⟩
                have dW:=af.mk (bJ (g:=gZ) (o:=.cells #[.int .u8 fM,.int .u8 fF,.int .u8 eX,.int .u8 dZ,.int .i64 dP] 45 (0,0)) (by (with_reducible repeat (first|refine ai ?_ _|refine ax ?_|refine ah ?_ _));exact eF.out) hb)
                have dV:=af.mk (bJ (g:=eU) (o:=.cells #[.int .u8 dC,.int .u8 dB,.int .u8 dA,.int .u8 dw,.int .i64 dn] 45 (0,0)) (by (with_reducible repeat (first|refine ai ?_ _|refine ax ?_|refine ah ?_ _));exact cu.out) hb)
                have dQ:=af.mk (bC (by repeat (first|(with_reducible first|exact HB.out|apply aj|apply ag|apply ak|refine ay ?_ jh.out|refine ay ?_ jP.out)|exact HB.out)) hb)
                clear eF
                clear cu
                clear HB
                have eF:=dW
                have cu:=dV
                have HB:=dQ
                clear dW dV dQ
                (try clear hb)
                (try clear hb2)
                (try clear hk)
                (try clear hi)
                refine hK.out _ _ ⟨(aJ cu.out 0).trans rfl,(aJ cu.out 1).trans rfl,(aJ cu.out 2).trans rfl,(aJ cu.out 3).trans rfl,(aJ cu.out 4).trans rfl⟩ (fun hHeld=>?_)
                clear hK K
                refine iT (a':=?_) ?_ ?_
                rotate_left
                ·
                 show Act.put _ (some 58) _=_
                 simp only [Act.put,List.setIfInBounds_toArray,List.set_cons_zero,List.set_cons_succ,aX,aY]
                 rfl
                refine bW (i:=6) (N:=some 52) (v:=?_) (a':=?_) #[true,true,true,true,true,true,true,false,false,false,false,false] rfl rfl (bG fH.out (by kernel_rfl)) (fun _ _ _ h=>h) (Or.inl ⟨by rfl,?_⟩) ?_ ?_
                rotate_left
                ·
                 intro w'
                 go_simp
                 with_reducible rfl
                rotate_left
                ·
                 simp only [Act.put,List.setIfInBounds_toArray,List.set_cons_zero,List.set_cons_succ,aX,aY]
                 rfl
                refine bW (i:=7) (N:=some 59) (v:=?_) (a':=?_) #[true,true,true,true,true,true,true,true,false,false,false,false] rfl rfl (bG fH.out (by kernel_rfl)) (fun _ _ _ h=>h) (Or.inl ⟨by rfl,?_⟩) ?_ ?_
                rotate_left
                ·
                 intro w'
                 go_simp
                 with_reducible rfl
                rotate_left
                ·
                 simp only [Act.put,List.setIfInBounds_toArray,List.set_cons_zero,List.set_cons_succ,aX,aY]
                 rfl
                refine bW (i:=8) (N:=some 60) (v:=?_) (a':=?_) #[true,true,true,true,true,true,true,true,true,false,false,false] rfl rfl (bG fH.out (by kernel_rfl)) (fun _ _ _ h=>h) (Or.inl ⟨by rfl,?_⟩) ?_ ?_
                rotate_left
                ·
                 intro w'
                 go_simp
                 with_reducible rfl
                rotate_left
                ·
                 simp only [Act.put,List.setIfInBounds_toArray,List.set_cons_zero,List.set_cons_succ,aX,aY]
                 rfl
                refine nN (i:=9) (N:=some 11) #[true,true,true,true,true,true,true,true,true,true,false,false] rfl rfl (jU fH.out (by kernel_rfl)) (by decide) (fun K hK=>?_)
                refine qZ ?hg (N:=11) ?hd (cs:=#[.int .u8 0,.int .u8 0,.int .u8 0,.int .u8 0,.int .i64 0]) (t:=45) ?hr ?_;(case hd=>rfl);(case hg=>rfl);(case hr=>first|(go_simp;done)|(go_simp;rfl))
                intro di hg Yb hbox hb
                have dW:=af.mk (bJ (g:=gZ) (o:=.cells #[.int .u8 fM,.int .u8 fF,.int .u8 eX,.int .u8 dZ,.int .i64 dP] 45 (0,0)) (by (with_reducible repeat (first|refine ai ?_ _|refine ax ?_|refine ah ?_ _));exact eF.out) hb)
                have dV:=af.mk (bJ (g:=eU) (o:=.cells #[.int .u8 dC,.int .u8 dB,.int .u8 dA,.int .u8 dw,.int .i64 dn] 45 (0,0)) (by (with_reducible repeat (first|refine ai ?_ _|refine ax ?_|refine ah ?_ _));exact cu.out) hb)
                have dQ:=af.mk (bC (by repeat (first|(with_reducible first|exact HB.out|apply aj|apply ag|apply ak|refine ay ?_ jh.out|refine ay ?_ jP.out)|exact HB.out)) hb)
                have gK:=af.mk (hbox)
                have jT:=af.mk ((by rw [hg];exact (df (by repeat (first|(with_reducible first|exact HB.out|apply aj|apply ag|apply ak|refine ay ?_ jh.out|refine ay ?_ jP.out)|exact HB.out))):w.heap.size≤di))
                have lL:=jT
                have kQ:=af.mk ((by rw [hg];exact Nat.ne_of_lt (iC (g:=gZ) (o:=.cells #[.int .u8 fM,.int .u8 fF,.int .u8 eX,.int .u8 dZ,.int .i64 dP] 45 (0,0)) (by (with_reducible repeat (first|refine ai ?_ _|refine ax ?_|refine ah ?_ _));exact eF.out)):gZ ≠ di))
                have o9:=af.mk kQ.out.symm
                have uA:=af.mk ((by rw [hg];exact Nat.ne_of_lt (iC (g:=eU) (o:=.cells #[.int .u8 dC,.int .u8 dB,.int .u8 dA,.int .u8 dw,.int .i64 dn] 45 (0,0)) (by (with_reducible repeat (first|refine ai ?_ _|refine ax ?_|refine ah ?_ _));exact cu.out)):eU ≠ di))
                have xq:=af.mk uA.out.symm
                clear eF
                clear cu
                clear HB
                have eF:=dW
                have cu:=dV
                have HB:=dQ
                have iq:=gK
                have qH:=jT
                have lh:=lL
                have dO:=kQ
                have fP:=o9
                have bg:=uA
                have fZ:=xq
                clear dW dV dQ gK jT lL kQ o9 uA xq
                clear hb hbox hg
                refine hK.out _ _ ⟨(aJ cu.out 0).trans rfl,(aJ cu.out 1).trans rfl,(aJ cu.out 2).trans rfl,(aJ cu.out 3).trans rfl,(aJ cu.out 4).trans rfl⟩ (fun hHeld=>?_)
                clear hK K
                refine iT (a':=?_) ?_ ?_
                rotate_left
                ·
                 show Act.put _ (some 11) _=_
                 simp only [Act.put,List.setIfInBounds_toArray,List.set_cons_zero,List.set_cons_succ,aX,aY]
                 rfl
                exact iT (by simp only [jm,Act.put,List.setIfInBounds_toArray,List.set_cons_zero,List.set_cons_succ]) (xx (di) _ ⟨hHeld,(by (with_reducible repeat (first|refine ai ?_ _|refine ax ?_|refine ah ?_ _));exact eF.out),(by (with_reducible repeat (first|refine ai ?_ _|refine ax ?_|refine ah ?_ _));exact cu.out),(by (with_reducible repeat (first|refine ai ?_ _|refine ax ?_|refine ah ?_ _));exact iq.out),qH.out,lh.out,dO.out,fP.out,bg.out,fZ.out,(by repeat (first|(with_reducible first|exact HB.out|apply aj|apply ag|apply ak|refine ay ?_ jh.out|refine ay ?_ jP.out|refine ay ?_ lh.out)|exact HB.out))⟩)
               ·
                skip
                refine qZ ?hg (N:=11) ?hd (cs:=#[.int .u8 0,.int .u8 0,.int .u8 0,.int .u8 0,.int .i64 0]) (t:=45) ?hr ?_;(case hd=>rfl);(case hg=>rfl);(case hr=>first|(go_simp;done)|(go_simp;rfl))
                intro di hg w49 hbox hb
                have dW:=af.mk (bJ (g:=gZ) (o:=.cells #[.int .u8 fM,.int .u8 fF,.int .u8 eX,.int .u8 dZ,.int .i64 dP] 45 (0,0)) (by (with_reducible repeat (first|refine ai ?_ _|refine ax ?_|refine ah ?_ _));exact eF.out) hb)
                have dV:=af.mk (bJ (g:=eU) (o:=.cells #[.int .u8 dC,.int .u8 dB,.int .u8 dA,.int .u8 dw,.int .i64 dn] 45 (0,0)) (by (with_reducible repeat (first|refine ai ?_ _|refine ax ?_|refine ah ?_ _));exact cu.out) hb)
                have dQ:=af.mk (bC (by repeat (first|(with_reducible first|exact HB.out|apply aj|apply ag|apply ak|refine ay ?_ jh.out|refine ay ?_ jP.out)|exact HB.out)) hb)
                have gK:=af.mk (hbox)
                have jT:=af.mk ((by rw [hg];exact (df (by repeat (first|(with_reducible first|exact HB.out|apply aj|apply ag|apply ak|refine ay ?_ jh.out|refine ay ?_ jP.out)|exact HB.out))):w.heap.size≤di))
                have lL:=jT
                have kQ:=af.mk ((by rw [hg];exact Nat.ne_of_lt (iC (g:=gZ) (o:=.cells #[.int .u8 fM,.int .u8 fF,.int .u8 eX,.int .u8 dZ,.int .i64 dP] 45 (0,0)) (by (with_reducible repeat (first|refine ai ?_ _|refine ax ?_|refine ah ?_ _));exact eF.out)):gZ ≠ di))
                have o9:=af.mk kQ.out.symm
                have uA:=af.mk ((by rw [hg];exact Nat.ne_of_lt (iC (g:=eU) (o:=.cells #[.int .u8 dC,.int .u8 dB,.int .u8 dA,.int .u8 dw,.int .i64 dn] 45 (0,0)) (by (with_reducible repeat (first|refine ai ?_ _|refine ax ?_|refine ah ?_ _));exact cu.out)):eU ≠ di))
                have xq:=af.mk uA.out.symm
                clear eF
                clear cu
                clear HB
                have eF:=dW
                have cu:=dV
                have HB:=dQ
                have iq:=gK
                have qH:=jT
                have lh:=lL
                have dO:=kQ
                have fP:=o9
                have bg:=uA
                have fZ:=xq
                clear dW dV dQ gK jT lL kQ o9 uA xq
                clear hb hbox hg
                refine hK.out _ _ ⟨(aJ cu.out 0).trans rfl,(aJ cu.out 1).trans rfl,(aJ cu.out 2).trans rfl,(aJ cu.out 3).trans rfl,(aJ cu.out 4).trans rfl⟩ (fun hHeld=>?_)
                clear hK K
                refine iT (a':=?_) ?_ ?_
                rotate_left
                ·
                 show Act.put _ (some 11) _=_
                 simp only [Act.put,List.setIfInBounds_toArray,List.set_cons_zero,List.set_cons_succ,aX,aY]
                 rfl
                refine nN (i:=5) (N:=some 58) #[true,true,true,true,true,true,false,false,false,true,false,false] rfl rfl (jU fH.out (by kernel_rfl)) (by decide) (fun K hK=>?_)
                refine qm Tryd.func40 (by kernel_rfl) rfl #[.agg #[.int .u8 dC,.int .u8 dB,.int .u8 dA,.int .u8 dw,.int .i64 dn],.int .u8 (bt t114 l7),.int .i64 t118] (by rfl) rfl rfl (by (try simp only [List.map_toArray,List.map_cons,List.map_nil]);first|done|rfl|(simp only [List.length_drop,List.length_take];rfl)) ?_
                with_reducible refine (aV.calls k3 dC dB dA dw dn (bt t114 l7) t118 t120 t121 t122 t123 t124 t125 _ VO.out).mono ?_
                rintro e Yb ⟨rfl,hb⟩
                refine ⟨_,rfl,?_⟩
                have dW:=af.mk (bJ (g:=gZ) (o:=.cells #[.int .u8 fM,.int .u8 fF,.int .u8 eX,.int .u8 dZ,.int .i64 dP] 45 (0,0)) (by (with_reducible repeat (first|refine ai ?_ _|refine ax ?_|refine ah ?_ _));exact eF.out) hb)
                have dV:=af.mk (bJ (g:=eU) (o:=.cells #[.int .u8 dC,.int .u8 dB,.int .u8 dA,.int .u8 dw,.int .i64 dn] 45 (0,0)) (by (with_reducible repeat (first|refine ai ?_ _|refine ax ?_|refine ah ?_ _));exact cu.out) hb)
                have dQ:=af.mk (bJ (g:=di) (o:=.cells #[.int .u8 0,.int .u8 0,.int .u8 0,.int .u8 0,.int .i64 0] 45 (0,0)) (by (with_reducible repeat (first|refine ai ?_ _|refine ax ?_|refine ah ?_ _));exact iq.out) hb)
                have gK:=af.mk (bC (by repeat (first|(with_reducible first|exact HB.out|apply aj|apply ag|apply ak|refine ay ?_ jh.out|refine ay ?_ jP.out|refine ay ?_ lh.out)|exact HB.out)) hb)
                clear eF
                clear cu
                clear iq
                clear HB
                have eF:=dW
                have cu:=dV
                have iq:=dQ
                have HB:=gK
                clear dW dV dQ gK
                (try clear hb)
                (try clear hb2)
                (try clear hk)
                (try clear hi)
                refine hK.out _ _ ⟨(aJ cu.out 0).trans rfl,(aJ cu.out 1).trans rfl,(aJ cu.out 2).trans rfl,(aJ cu.out 3).trans rfl,(aJ cu.out 4).trans rfl⟩ (fun hHeld=>?_)
                clear hK K
                refine iT (a':=?_) ?_ ?_
                rotate_left
                ·
                 show Act.put _ (some 58) _=_
                 simp only [Act.put,List.setIfInBounds_toArray,List.set_cons_zero,List.set_cons_succ,aX,aY]
                 rfl
                refine bW (i:=6) (N:=some 52) (v:=?_) (a':=?_) #[true,true,true,true,true,true,true,false,false,true,false,false] rfl rfl (bG fH.out (by kernel_rfl)) (fun _ _ _ h=>h) (Or.inl ⟨by rfl,?_⟩) ?_ ?_
                rotate_left
                ·
                 intro w'
                 go_simp
                 with_reducible rfl
                rotate_left
                ·
                 simp only [Act.put,List.setIfInBounds_toArray,List.set_cons_zero,List.set_cons_succ,aX,aY]
                 rfl
                refine bW (i:=7) (N:=some 59) (v:=?_) (a':=?_) #[true,true,true,true,true,true,true,true,false,true,false,false] rfl rfl (bG fH.out (by kernel_rfl)) (fun _ _ _ h=>h) (Or.inl ⟨by rfl,?_⟩) ?_ ?_
                rotate_left
                ·
                 intro w'
                 go_simp
                 with_reducible rfl
                rotate_left
                ·
                 simp only [Act.put,List.setIfInBounds_toArray,List.set_cons_zero,List.set_cons_succ,aX,aY]
                 rfl
                refine bW (i:=8) (N:=some 60) (v:=?_) (a':=?_) #[true,true,true,true,true,true,true,true,true,true,false,false] rfl rfl (bG fH.out (by kernel_rfl)) (fun _ _ _ h=>h) (Or.inl ⟨by rfl,?_⟩) ?_ ?_
                rotate_left
                ·
                 intro w'
                 go_simp
                 with_reducible rfl
                rotate_left
                ·
                 simp only [Act.put,List.setIfInBounds_toArray,List.set_cons_zero,List.set_cons_succ,aX,aY]
                 rfl
                exact iT (by simp only [jm,Act.put,List.setIfInBounds_toArray,List.set_cons_zero,List.set_cons_succ]) (xx (di) _ ⟨hHeld,(by (with_reducible repeat (first|refine ai ?_ _|refine ax ?_|refine ah ?_ _));exact eF.out),(by (with_reducible repeat (first|refine ai ?_ _|refine ax ?_|refine ah ?_ _));exact cu.out),(by (with_reducible repeat (first|refine ai ?_ _|refine ax ?_|refine ah ?_ _));exact iq.out),qH.out,lh.out,dO.out,fP.out,bg.out,fZ.out,(by repeat (first|(with_reducible first|exact HB.out|apply aj|apply ag|apply ak|refine ay ?_ jh.out|refine ay ?_ jP.out|refine ay ?_ lh.out)|exact HB.out))⟩)
              rintro di FT ⟨pg,Ve,Vd,Vb,Va,U9,U7,U6,U5,U4,U3⟩
              have dW:af (FT.heap[gZ]? = some (.cells #[.int .u8 fM,.int .u8 fF,.int .u8 eX,.int .u8 dZ,.int .i64 dP] 45 (0,0))):=⟨Ve⟩
              have dV:af (FT.heap[eU]? = some (.cells #[.int .u8 dC,.int .u8 dB,.int .u8 dA,.int .u8 dw,.int .i64 dn] 45 (0,0))):=⟨Vd⟩
              have dQ:af (FT.heap[di]? = some (.cells #[.int .u8 0,.int .u8 0,.int .u8 0,.int .u8 0,.int .i64 0] 45 (0,0))):=⟨Vb⟩
              have gK:af (w.heap.size≤di):=⟨Va⟩
              have jT:af (w.heap.size≤di):=⟨U9⟩
              have lL:af (gZ ≠ di):=⟨U7⟩
              have kQ:af (di ≠ gZ):=⟨U6⟩
              have o9:af (eU ≠ di):=⟨U5⟩
              have uA:af (di ≠ eU):=⟨U4⟩
              have xq:af (Below w.heap.size w FT):=⟨U3⟩
              clear eF
              clear cu
              clear HB
              clear Ve Vd Vb Va U9 U7 U6 U5 U4 U3
              have eF:=dW
              have cu:=dV
              have iq:=dQ
              have qH:=gK
              have lh:=jT
              have dO:=lL
              have fP:=kQ
              have bg:=o9
              have fZ:=uA
              have HB:=xq
              clear dW dV dQ gK jT lL kQ o9 uA xq
              have hHeld:FT.cell? ⟨eU,0,none⟩=some (.int .u8 dC)∧FT.cell? ⟨eU,1,none⟩=some (.int .u8 dB)∧FT.cell? ⟨eU,2,none⟩=some (.int .u8 dA)∧FT.cell? ⟨eU,3,none⟩=some (.int .u8 dw)∧FT.cell? ⟨eU,4,none⟩=some (.int .i64 dn):=pg
              refine iT (a':=?_) ?_ ?_
              rotate_left
              ·
               simp only [jm,Act.put,List.setIfInBounds_toArray,List.set_cons_zero,List.set_cons_succ]
               rfl
              refine nN (i:=10) (N:=none) #[true,true,true,true,true,true,true,true,true,true,true,false] rfl rfl (jU fH.out (by kernel_rfl)) (by decide) (fun K hK=>?_)
              have alZ:FT.cell? ⟨di,0,none⟩=some (.int .u8 0):=(aJ iq.out 0).trans rfl
              have ajS:=gu iq.out 0
              have abl:=dO.out
              have abk:=bg.out
              have abR:=fP.out
              have abQ:=fZ.out
              have alY:FT.cell? ⟨di,1,none⟩=some (.int .u8 0):=(aJ iq.out 1).trans rfl
              have ajR:=gu iq.out 1
              have abj:=dO.out
              have abh:=bg.out
              have abP:=fP.out
              have abO:=fZ.out
              have alX:FT.cell? ⟨di,2,none⟩=some (.int .u8 0):=(aJ iq.out 2).trans rfl
              have ajQ:=gu iq.out 2
              have abg:=dO.out
              have abf:=bg.out
              have abN:=fP.out
              have abM:=fZ.out
              have alW:FT.cell? ⟨di,3,none⟩=some (.int .u8 0):=(aJ iq.out 3).trans rfl
              have ajP:=gu iq.out 3
              have abe:=dO.out
              have abd:=bg.out
              have abL:=fP.out
              have abK:=fZ.out
              have alV:FT.cell? ⟨di,4,none⟩=some (.int .i64 0):=(aJ iq.out 4).trans rfl
              have ajO:=gu iq.out 4
              have abb:=dO.out
              have aba:=bg.out
              have abJ:=fP.out
              have abI:=fZ.out
              refine MW (w1:=?_) (by rfl) rfl ?_ ?_
              rotate_left
              ·
               go_simp
               rfl
              refine hK.out _ _ ⟨((cell_far (p:=⟨di,_,none⟩) bg.out _).trans (((cell_far (p:=⟨di,_,none⟩) bg.out _).trans (((cell_far (p:=⟨di,_,none⟩) bg.out _).trans (((cell_far (p:=⟨di,_,none⟩) bg.out _).trans (((cell_far (p:=⟨di,_,none⟩) bg.out _).trans (hHeld.1)))))))))),((cell_far (p:=⟨di,_,none⟩) bg.out _).trans (((cell_far (p:=⟨di,_,none⟩) bg.out _).trans (((cell_far (p:=⟨di,_,none⟩) bg.out _).trans (((cell_far (p:=⟨di,_,none⟩) bg.out _).trans (((cell_far (p:=⟨di,_,none⟩) bg.out _).trans (hHeld.2.1)))))))))),((cell_far (p:=⟨di,_,none⟩) bg.out _).trans (((cell_far (p:=⟨di,_,none⟩) bg.out _).trans (((cell_far (p:=⟨di,_,none⟩) bg.out _).trans (((cell_far (p:=⟨di,_,none⟩) bg.out _).trans (((cell_far (p:=⟨di,_,none⟩) bg.out _).trans (hHeld.2.2.1)))))))))),((cell_far (p:=⟨di,_,none⟩) bg.out _).trans (((cell_far (p:=⟨di,_,none⟩) bg.out _).trans (((cell_far (p:=⟨di,_,none⟩) bg.out _).trans (((cell_far (p:=⟨di,_,none⟩) bg.out _).trans (((cell_far (p:=⟨di,_,none⟩) bg.out _).trans (hHeld.2.2.2.1)))))))))),((cell_far (p:=⟨di,_,none⟩) bg.out _).trans (((cell_far (p:=⟨di,_,none⟩) bg.out _).trans (((cell_far (p:=⟨di,_,none⟩) bg.out _).trans (((cell_far (p:=⟨di,_,none⟩) bg.out _).trans (((cell_far (p:=⟨di,_,none⟩) bg.out _).trans (hHeld.2.2.2.2))))))))))⟩ (fun hHeld=>?_)
              clear hK K
              refine bW (i:=11) (N:=some 12) (v:=?_) (a':=?_) #[true,true,true,true,true,true,true,true,true,true,true,true] rfl rfl (bG fH.out (by kernel_rfl)) (fun _ _ _ h=>h) (Or.inl ⟨by rfl,?_⟩) ?_ ?_
              rotate_left
              ·
               intro w'
               go_simp
               with_reducible rfl
              rotate_left
              ·
               simp only [Act.put,List.setIfInBounds_toArray,List.set_cons_zero,List.set_cons_succ,aX,aY]
               rfl
              refine qW (nV fH.out (by kernel_rfl)) ?_
              have YZ:=jy.out
              have YV:=rf.out
              have ajp:=dO.out
              have ai2:=fP.out
              obtain ⟨JX,JW,JV,JU,JS,Ju,Jt,Js,Jr,Jq⟩:=iV eF.out
              try go_wp2
              refine bodyPost_ret (lq rfl _ _ gZ 45 #[.int .u8 0,.int .u8 0,.int .u8 0,.int .u8 0,.int .i64 0] (0,0) _ rfl (by (with_reducible repeat (first|refine ai ?_ _|refine ax ?_|refine ah ?_ _));refine dh (cs:=#[.int .u8 0,.int .u8 0,.int .u8 0,.int .u8 0,.int .i64 dP]) ?_ 4 _ rfl;(with_reducible repeat (first|refine ai ?_ _|refine ax ?_|refine ah ?_ _));refine dh (cs:=#[.int .u8 0,.int .u8 0,.int .u8 0,.int .u8 dZ,.int .i64 dP]) ?_ 3 _ rfl;(with_reducible repeat (first|refine ai ?_ _|refine ax ?_|refine ah ?_ _));refine dh (cs:=#[.int .u8 0,.int .u8 0,.int .u8 eX,.int .u8 dZ,.int .i64 dP]) ?_ 2 _ rfl;(with_reducible repeat (first|refine ai ?_ _|refine ax ?_|refine ah ?_ _));refine dh (cs:=#[.int .u8 0,.int .u8 fF,.int .u8 eX,.int .u8 dZ,.int .i64 dP]) ?_ 1 _ rfl;(with_reducible repeat (first|refine ai ?_ _|refine ax ?_|refine ah ?_ _));refine dh (cs:=#[.int .u8 fM,.int .u8 fF,.int .u8 eX,.int .u8 dZ,.int .i64 dP]) ?_ 0 _ rfl;(with_reducible repeat (first|refine ai ?_ _|refine ax ?_|refine ah ?_ _));refine dD ?_ dO.out _;(with_reducible repeat (first|refine ai ?_ _|refine ax ?_|refine ah ?_ _));refine dD ?_ dO.out _;(with_reducible repeat (first|refine ai ?_ _|refine ax ?_|refine ah ?_ _));refine dD ?_ dO.out _;(with_reducible repeat (first|refine ai ?_ _|refine ax ?_|refine ah ?_ _));refine dD ?_ dO.out _;(with_reducible repeat (first|refine ai ?_ _|refine ax ?_|refine ah ?_ _));refine dD ?_ dO.out _;(with_reducible repeat (first|refine ai ?_ _|refine ax ?_|refine ah ?_ _));exact eF.out) Tryd.underlying45 rfl (by kernel_rfl)) rfl ?_
              exact ⟨by first|rfl|(simp [aU,aT] <;> rfl)|(simp only [← vI];first|rfl|(simp [aU,aT] <;> rfl))|(simp [*,aU,aT] <;> rfl),by repeat (first|(with_reducible first|exact HB.out|apply aj|apply ag|apply ak|refine ay ?_ jh.out|refine ay ?_ jP.out|refine ay ?_ lh.out)|exact HB.out)⟩
            ·
             rw [if_neg c17] at H
             exact absurd H (by simp)
           ·
            rw [if_neg c15] at H
            exact absurd H (by simp)
          ·
           rw [if_neg c14] at H
           exact absurd H (by simp)
         ·
          rw [if_neg c12] at H
          have vZ:decide (l7 < (t114.size:Int))=false:=decide_eq_false c12
          clear c12
          simp only [Option.some.injEq,Prod.mk.injEq] at H
          obtain ⟨rfl,rfl,rfl,rfl,rfl,rfl⟩:=H
          have YY:=rf.out
          have YU:=jy.out
          obtain ⟨Sl,Sj,Si,RZ,RY,QJ,QI,QH,QG,QF⟩:=iV cu.out
          obtain ⟨RX,RV,RU,RS,RQ,QE,QD,QC,QB,QA⟩:=iV eF.out
          go_wp2
          refine bodyPost_ret (lq rfl _ _ gZ 45 #[.int .u8 dC,.int .u8 dB,.int .u8 dA,.int .u8 dw,.int .i64 dn] (0,0) _ rfl (by (with_reducible repeat (first|refine ai ?_ _|refine ax ?_|refine ah ?_ _));refine dh (cs:=#[.int .u8 dC,.int .u8 dB,.int .u8 dA,.int .u8 dw,.int .i64 dP]) ?_ 4 _ rfl;(with_reducible repeat (first|refine ai ?_ _|refine ax ?_|refine ah ?_ _));refine dh (cs:=#[.int .u8 dC,.int .u8 dB,.int .u8 dA,.int .u8 dZ,.int .i64 dP]) ?_ 3 _ rfl;(with_reducible repeat (first|refine ai ?_ _|refine ax ?_|refine ah ?_ _));refine dh (cs:=#[.int .u8 dC,.int .u8 dB,.int .u8 eX,.int .u8 dZ,.int .i64 dP]) ?_ 2 _ rfl;(with_reducible repeat (first|refine ai ?_ _|refine ax ?_|refine ah ?_ _));refine dh (cs:=#[.int .u8 dC,.int .u8 fF,.int .u8 eX,.int .u8 dZ,.int .i64 dP]) ?_ 1 _ rfl;(with_reducible repeat (first|refine ai ?_ _|refine ax ?_|refine ah ?_ _));refine dh (cs:=#[.int .u8 fM,.int .u8 fF,.int .u8 eX,.int .u8 dZ,.int .i64 dP]) ?_ 0 _ rfl;(with_reducible repeat (first|refine ai ?_ _|refine ax ?_|refine ah ?_ _));exact eF.out) Tryd.underlying45 rfl (by kernel_rfl)) rfl ?_
          exact ⟨by first|rfl|(simp [aU,aT] <;> rfl)|(simp [*,aU,aT] <;> rfl),by repeat (first|(with_reducible first|exact HB.out|apply aj|apply ag|apply ak|refine ay ?_ jh.out|refine ay ?_ jP.out)|exact HB.out)⟩
   ·
    rw [if_neg c3] at H
    have qx:decide (rq≤15)=false:=decide_eq_false c3
    clear c3
    simp only [Option.some.injEq,Prod.mk.injEq] at H
    obtain ⟨rfl,rfl,rfl,rfl,rfl,rfl⟩:=H
    obtain ⟨aeA,aez,aey,aex,aew,acw,acv,acu,acs,acr⟩:=iV eF.out
    go_wp2
    refine bodyPost_ret (lq rfl _ _ gZ 45 #[.int .u8 0,.int .u8 0,.int .u8 0,.int .u8 0,.int .i64 0] (0,0) _ rfl (by (with_reducible repeat (first|refine ai ?_ _|refine ax ?_|refine ah ?_ _));refine dh (cs:=#[.int .u8 0,.int .u8 0,.int .u8 0,.int .u8 0,.int .i64 kC]) ?_ 4 _ rfl;(with_reducible repeat (first|refine ai ?_ _|refine ax ?_|refine ah ?_ _));refine dh (cs:=#[.int .u8 0,.int .u8 0,.int .u8 0,.int .u8 kN,.int .i64 kC]) ?_ 3 _ rfl;(with_reducible repeat (first|refine ai ?_ _|refine ax ?_|refine ah ?_ _));refine dh (cs:=#[.int .u8 0,.int .u8 0,.int .u8 lK,.int .u8 kN,.int .i64 kC]) ?_ 2 _ rfl;(with_reducible repeat (first|refine ai ?_ _|refine ax ?_|refine ah ?_ _));refine dh (cs:=#[.int .u8 0,.int .u8 mi,.int .u8 lK,.int .u8 kN,.int .i64 kC]) ?_ 1 _ rfl;(with_reducible repeat (first|refine ai ?_ _|refine ax ?_|refine ah ?_ _));refine dh (cs:=#[.int .u8 ng,.int .u8 mi,.int .u8 lK,.int .u8 kN,.int .i64 kC]) ?_ 0 _ rfl;(with_reducible repeat (first|refine ai ?_ _|refine ax ?_|refine ah ?_ _));exact eF.out) Tryd.underlying45 rfl (by kernel_rfl)) rfl ?_
    exact ⟨by first|rfl|(simp [aU,aT] <;> rfl)|(simp [*,aU,aT] <;> rfl),by repeat (first|(with_reducible first|exact HB.out|apply aj|apply ag|apply ak|refine ay ?_ jh.out)|exact HB.out)⟩
end Go.Proofs.YtgfnpdfhdgenbaaDoor.P
end
