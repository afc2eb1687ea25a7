/- Parts of the proof of FullTrue: what the functions that it reaches compute, and plain facts about that. -/
import Derived.Test.YtbmhmlgfpijmhaaDoorFab
import Derived.Test.YtbmhmlgfpijmhaaDoorFaf
set_option linter.unusedVariables false
set_option linter.unusedSimpArgs false
section
namespace Go.Proofs.YtbmhmlgfpijmhaaDoor.P
open Go.RowKit Go.Proofs.af.bG Go.Proofs.af.dD Go.Proofs.af.dM
attribute [local go_sem] kF kD lK lJ jH jG kE kC
mutual
def aI.l0:Nat→List ByteArray→Int→Option (Int × Int × Int × Int × Int × Bool)
 | 0,_,_=>none
 | k+1,x0,x4=>if x4≤15 then ((fG.f x4).bind fun KI=>(if 0 < (x0.length:Int) then (if (dV ByteArray.empty x0 0).toList=KI.1.toList then (aI.j1 k x0 x4 KI.2 ((x0.length:Int) != (wrap64 ((KI.2.size:Int)+1)))) else (aI.j1 k x0 x4 KI.2 true)) else (none))) else (some (0,0,0,0,0,false))
def aI.j1:Nat→List ByteArray→Int→ByteArray→Bool→Option (Int × Int × Int × Int × Int × Bool)
 | 0,_,_,_,_=>none
 | k+1,x0,x4,x6,x34=>if x34=true then (aI.l0 k x0 ((x4+1) % 256)) else (aI.l1 k x0 x6 0 x4 0 0 0 0)
def aI.l1:Nat→List ByteArray→ByteArray→Int→Int→Int→Int→Int→Int→Option (Int × Int × Int × Int × Int × Bool)
 | 0,_,_,_,_,_,_,_,_=>none
 | k+1,x0,x6,x8,Ik,Ij,Ii,Ih,Ig=>if x8 < (x6.size:Int) then (if 0≤(wrap64 (x8+1)) then (if (wrap64 (x8+1)) < (x0.length:Int) then ((aH.f k (dV ByteArray.empty x0 (wrap64 (x8+1)))).bind fun FP=>(if 0≤x8 then ((bf.f k Ik Ij Ii Ih Ig (bt x6 x8) FP.1).bind fun nZ=>(if FP.2=0 then (if nZ.2.2.2.2.2=true then (aI.l1 k x0 x6 (wrap64 (x8+1)) nZ.1 nZ.2.1 nZ.2.2.1 nZ.2.2.2.1 nZ.2.2.2.2.1) else (some (0,0,0,0,0,false))) else (some (0,0,0,0,0,false)))) else (none))) else (none)) else (none)) else (some (Ik,Ij,Ii,Ih,Ig,true))
end
def aI.f (k:Nat) (l0:List ByteArray):Option (Int × Int × Int × Int × Int × Bool):=aI.l0 k l0 1
theorem aI.iq:∀ k,(∀ y0 y1,dN (aI.l0 k y0 y1) (aI.l0 (k+1) y0 y1))∧(∀ y0 y1 y2 y3,dN (aI.j1 k y0 y1 y2 y3) (aI.j1 (k+1) y0 y1 y2 y3))∧(∀ y0 y1 y2 y3 y4 y5 y6 y7,dN (aI.l1 k y0 y1 y2 y3 y4 y5 y6 y7) (aI.l1 (k+1) y0 y1 y2 y3 y4 y5 y6 y7))
 | 0=>⟨fun _ _ r h=>by simp [aI.l0] at h,fun _ _ _ _ r h=>by simp [aI.j1] at h,fun _ _ _ _ _ _ _ _ r h=>by simp [aI.l1] at h⟩
 | k+1=>by
  obtain ⟨kZ,ih1,ih2⟩:=aI.iq k
  refine ⟨?_,?_,?_⟩
  ·
   intro y0 y1
   unfold aI.l0
   repeat' with_reducible first|apply kZ|apply ih1|apply ih2|apply aH.mono|apply bf.mono|exact dN.refl _|exact dN.none _|refine dN.ite ?_ ?_|refine dN.bind ?_ (fun _=>?_)
  ·
   intro y0 y1 y2 y3
   unfold aI.j1
   repeat' with_reducible first|apply kZ|apply ih1|apply ih2|apply aH.mono|apply bf.mono|exact dN.refl _|exact dN.none _|refine dN.ite ?_ ?_|refine dN.bind ?_ (fun _=>?_)
  ·
   intro y0 y1 y2 y3 y4 y5 y6 y7
   unfold aI.l1
   repeat' with_reducible first|apply kZ|apply ih1|apply ih2|apply aH.mono|apply bf.mono|exact dN.refl _|exact dN.none _|refine dN.ite ?_ ?_|refine dN.bind ?_ (fun _=>?_)
theorem aI.mono:∀ a0 k,dN (aI.f k a0) (aI.f (k+1) a0):=by
 intro a0 k
 obtain ⟨kZ,ih1,ih2⟩:=aI.iq k
 unfold aI.f
 repeat' with_reducible first|apply kZ|apply ih1|apply ih2|apply aH.mono|apply bf.mono|exact dN.refl _|exact dN.none _|refine dN.ite ?_ ?_|refine dN.bind ?_ (fun _=>?_)
def aI.T11:Bool × List (List Nat × List Nat):=(true,[([],[]),([],[]),([],[]),([1,2],[1,2]),([],[]),([0,3,4],[0,3,4]),([5],[5]),([6],[6]),([6],[6]),([],[]),([9,7,5,0,1,2,3,4,5,6,7,9],[7,9]),([8,10,0,1,2,3,4,5,6,7,8,9,10],[8])])
def aI.B11:List Nat:=[0,0,0,6,0,31,63,127,127,0,767,2047]
theorem aI.MM:pG .any (opsOf Tryd.f37 11)=aI.T11:=by kernel_rfl
theorem aI.G9:pW aI.T11.2 aI.B11=true:=by kernel_rfl
set_option maxHeartbeats 8000000 in
set_option maxRecDepth 100000 in
theorem aI.calls (k:Nat) (A0:Option Addr) (c0:Nat) (l0:List ByteArray) (r1:Int) (r2:Int) (r3:Int) (r4:Int) (r5:Int) (r6:Bool) (w:World) (hr0:Kd.C Kd.string w A0 l0.length l0) (hc0:l0.length≤c0) (h:aI.f k l0=some (r1,r2,r3,r4,r5,r6)) :
  Calls Tryd.prog 37 #[.slice A0 l0.length c0] w fun e w'=>e=.returned (.tuple #[.agg #[.int .u8 r1,.int .u8 r2,.int .u8 r3,.int .u8 r4,.int .i64 r5],.bool r6])∧Below w.heap.size w w':=by
 have Ai:=Tryd.underlying39
 have HR0:=ae.mk hr0
 have vS:=ae.mk hc0
 clear hr0 hc0
 have HB:=ae.mk (Below.refl w.heap.size w)
 have H:(aI.l0 k l0 1)=some (r1,r2,r3,r4,r5,r6):=h
 clear h
 have H':=ae.mk H
 clear H
 go_enter Tryd.func37,Tryd.ntmps37
 go_wp2_with (first|((with_reducible refine bI (N:=2) rfl ?_);(try (refine iP (by rfl) ?_;dsimp only));refine dZ ?hg (N:=2) ?hd (cs:=#[.int .u8 0,.int .u8 0,.int .u8 0,.int .u8 0,.int .i64 0]) (t:=39) ?hr ?_;(case hd=>rfl);(case hg=>rfl);(case hr=>first|(go_simp;done)|(go_simp;rfl));intro gQ hg w2 hbox hb;have eU:=ae.mk (bz (by repeat (first|(with_reducible first|exact HB.out|apply ay|apply ai|apply ax)|exact HB.out)) hb);have eQ:=ae.mk (hbox);have eu:=ae.mk ((by rw [hg];exact (cu (by repeat (first|(with_reducible first|exact HB.out|apply ay|apply ai|apply ax)|exact HB.out))):w.heap.size≤gQ));have ig:=eu;clear HB;have HB:=eU;have dO:=eQ;have ajz:=eu;have jF:=ig;clear eU eQ eu ig;clear hb hbox hg))
 go_loopg [4] k (fun kq v4 w'=>∃ (sD:Int) (nG:Int) (mD:Int) (lL:Int) (lg:Int) (kT:Int),v4=.int .u8 sD∧ae (aI.l0 kq l0 sD=some (r1,r2,r3,r4,r5,r6))∧ae (kq≤k)∧ae (w'.heap[gQ]? = some (.cells #[.int .u8 nG,.int .u8 mD,.int .u8 lL,.int .u8 lg,.int .i64 kT] 39 (0,0)))∧ae (Below w.heap.size w w'))
 case atStart=>exact ⟨(1),(0),(0),(0),(0),(0),(by first|rfl|(simp;done)|(simp [*];done)),H',⟨Nat.le_refl _⟩,⟨by (with_reducible repeat (first|refine au ?_ _|refine aC ?_|refine ak ?_ _));exact dO.out⟩,⟨by repeat (first|(with_reducible first|exact HB.out|apply ay|apply ai|apply ax|refine aA ?_ jF.out)|exact HB.out)⟩⟩
 case round =>
  clear H'
  obtain ⟨sD,nG,mD,lL,lg,kT,rfl,HA,rD,dO,HB⟩:=hrel
  cases gk with
  | zero=>exact absurd HA.out (by simp [aI.l0])
  | succ k1 =>
   have H:=HA.out
   clear HA
   simp only [aI.l0] at H
   by_cases c3:sD≤15
   ·
    rw [if_pos c3] at H
    have oQ:decide (sD≤15)=true:=decide_eq_true c3
    clear c3
    replace H:=Option.bind_eq_some_iff.mp H
    obtain ⟨⟨t148,t149⟩,Md,H⟩:=H
    replace H:(if 0 < (l0.length:Int) then (if (dV ByteArray.empty l0 0).toList=t148.toList then (aI.j1 k1 l0 sD t149 ((l0.length:Int) != (wrap64 ((t149.size:Int)+1)))) else (aI.j1 k1 l0 sD t149 true)) else (none))=some (r1,r2,r3,r4,r5,r6):=H
    have A4:=ae.mk Md
    clear Md
    have O8:=ae.mk H
    clear H
    go_upto_region 5 with (first|((with_reducible refine bT (f:=36) rfl ?_);refine gp (some 19) rfl rfl Tryd.func36 (by kernel_rfl) rfl #[.int .u8 sD] rfl (by (try simp only [List.map_toArray,List.map_cons,List.map_nil]);first|done|rfl|(simp only [List.length_drop,List.length_take];rfl)) ?_;(with_reducible refine (fG.calls sD t148 t149 _ A4.out).mono ?_);rintro e w' ⟨rfl,⟨nd,rfl⟩⟩;refine ⟨_,rfl,?_⟩))
    (try simp only [Act.put,List.setIfInBounds_toArray,List.set_cons_zero,List.set_cons_succ])
    go_cut [34] (fun v34 wc=>∃ (kq:Nat) (Hl:Bool),v34=.bool Hl∧ae (aI.j1 kq l0 sD t149 Hl=some (r1,r2,r3,r4,r5,r6))∧ae (kq≤k1)∧ae (wc.heap[gQ]? = some (.cells #[.int .u8 nG,.int .u8 mD,.int .u8 lL,.int .u8 lg,.int .i64 kT] 39 (0,0)))∧ae (Below w.heap.size w wc))
    case first =>
     have H:=O8.out
     clear O8
     by_cases c6:0 < (l0.length:Int)
     ·
      rw [if_pos c6] at H
      have oP:decide (0 < (l0.length:Int))=true:=decide_eq_true c6
      have xw:decide (0 < l0.length)=true:=decide_eq_true (by omega)
      clear c6
      (first|rw [oP]|(simp only [bY,bZ];rw [oP])|skip)
      by_cases c7:(dV ByteArray.empty l0 0).toList=t148.toList
      ·
       rw [if_pos c7] at H
       have pJ:((dV ByteArray.empty l0 0).toList == t148.toList)=true:=beq_iff_eq.mpr c7
       have zL:((dV ByteArray.empty l0 0).toList != t148.toList)=false:=bne_eq_false_iff_eq.mpr c7
       clear c7
       have H':=ae.mk H
       clear H
       have Gx:0≤(0:Int):=(by omega)
       have Gu:0 < (l0.length:Int):=of_decide_eq_true (by first|(with_reducible assumption)|assumption)
       obtain ⟨aas,XD,oN⟩:=Kd.kU HR0.out 0 Gx Gu
       cases XD
       have YE:(0 < l0.length)=True:=eq_true (by omega)
       (try rw [show ((0:Int)).toNat=0 from rfl] at oN)
       (try rw [Addr.add_zero'] at oN)
       replace oN:=(HB.out.cell (World.block_lt_of_cell? w _ oN)).trans oN
       replace Gx:=eq_true Gx
       replace Gu:=eq_true Gu
       go_wp2
       go_meet
       case rel=>exact ⟨_,(((l0.length:Int) != (wrap64 ((t149.size:Int)+1)))),(by first|rfl|(simp;done)|(simp [*];done)),H',⟨by have:=rD.out;first|omega|exact Nat.le_refl _⟩,⟨by (with_reducible repeat (first|refine au ?_ _|refine aC ?_|refine ak ?_ _));exact dO.out⟩,⟨by repeat (first|(with_reducible first|exact HB.out|apply ay|apply ai|apply ax|refine aA ?_ jF.out)|exact HB.out)⟩⟩
      ·
       rw [if_neg c7] at H
       have pJ:((dV ByteArray.empty l0 0).toList == t148.toList)=false:=beq_eq_false_iff_ne.mpr c7
       have zL:((dV ByteArray.empty l0 0).toList != t148.toList)=true:=bne_iff_ne.mpr c7
       have H':=ae.mk H
       clear H
       have Gx:0≤(0:Int):=(by omega)
       have Gu:0 < (l0.length:Int):=of_decide_eq_true (by first|(with_reducible assumption)|assumption)
       obtain ⟨aas,XD,oN⟩:=Kd.kU HR0.out 0 Gx Gu
       cases XD
       have YE:(0 < l0.length)=True:=eq_true (by omega)
       (try rw [show ((0:Int)).toNat=0 from rfl] at oN)
       (try rw [Addr.add_zero'] at oN)
       replace oN:=(HB.out.cell (World.block_lt_of_cell? w _ oN)).trans oN
       replace Gx:=eq_true Gx
       replace Gu:=eq_true Gu
       go_wp2
       go_meet
       case rel=>exact ⟨_,(true),(by first|rfl|(simp;done)|(simp [*];done)),H',⟨by have:=rD.out;first|omega|exact Nat.le_refl _⟩,⟨by (with_reducible repeat (first|refine au ?_ _|refine aC ?_|refine ak ?_ _));exact dO.out⟩,⟨by repeat (first|(with_reducible first|exact HB.out|apply ay|apply ai|apply ax|refine aA ?_ jF.out)|exact HB.out)⟩⟩
     ·
      rw [if_neg c6] at H
      exact absurd H (by simp)
    case rest =>
     clear O8
     obtain ⟨kq,Hl,rfl,HA,MC,dO,HB⟩:=hcut
     cases kq with
     | zero=>exact absurd HA.out (by simp [aI.j1])
     | succ yB =>
      have H:=HA.out
      clear HA
      simp only [aI.j1] at H
      by_cases c8:Hl=true
      ·
       subst c8
       have H1:(aI.l0 yB l0 ((sD+1) % 256))=some (r1,r2,r3,r4,r5,r6):=by rw [if_pos rfl] at H;exact H
       clear H
       have H:=H1
       clear H1
       have H':=ae.mk H
       clear H
       go_wp2
       go_roundg yB
       case measure=>have:=rD.out;have:=MC.out;omega
       case rel=>exact ⟨((sD+1) % 256),(nG),(mD),(lL),(lg),(kT),(by first|rfl|(simp;done)|(simp [*];done)),H',⟨by have:=rD.out;have:=MC.out;omega⟩,⟨by (with_reducible repeat (first|refine au ?_ _|refine aC ?_|refine ak ?_ _));exact dO.out⟩,⟨by repeat (first|(with_reducible first|exact HB.out|apply ay|apply ai|apply ax|refine aA ?_ jF.out)|exact HB.out)⟩⟩
      ·
       replace c8:=Bool.eq_false_iff.mpr c8
       subst c8
       have H1:(aI.l1 yB l0 t149 0 sD 0 0 0 0)=some (r1,r2,r3,r4,r5,r6):=by rw [if_neg (show ¬ (false=true) by decide)] at H;exact H
       clear H
       have H:=H1
       clear H1
       have H':=ae.mk H
       clear H
       go_wp2_with (first|((with_reducible refine bI (N:=7) rfl ?_);(try (refine iP (by rfl) ?_;dsimp only));refine dZ ?hg (N:=7) ?hd (cs:=#[.int .u8 0,.int .u8 0,.int .u8 0,.int .u8 0,.int .i64 0]) (t:=39) ?hr ?_;(case hd=>rfl);(case hg=>rfl);(case hr=>first|(go_simp;done)|(go_simp;rfl));intro eY hg w9 hbox hb;have eU:=ae.mk (bK (g:=gQ) (o:=.cells #[.int .u8 nG,.int .u8 mD,.int .u8 lL,.int .u8 lg,.int .i64 kT] 39 (0,0)) (by (with_reducible repeat (first|refine au ?_ _|refine aC ?_|refine ak ?_ _));exact dO.out) hb);have eQ:=ae.mk (bz (by repeat (first|(with_reducible first|exact HB.out|apply ay|apply ai|apply ax|refine aA ?_ jF.out)|exact HB.out)) hb);have eu:=ae.mk (hbox);have ig:=ae.mk ((by rw [hg];exact (cu (by repeat (first|(with_reducible first|exact HB.out|apply ay|apply ai|apply ax|refine aA ?_ jF.out)|exact HB.out))):w.heap.size≤eY));have mW:=ig;have mM:=ae.mk ((by rw [hg];exact Nat.ne_of_lt (jJ (g:=gQ) (o:=.cells #[.int .u8 nG,.int .u8 mD,.int .u8 lL,.int .u8 lg,.int .i64 kT] 39 (0,0)) (by (with_reducible repeat (first|refine au ?_ _|refine aC ?_|refine ak ?_ _));exact dO.out)):gQ ≠ eY));have nD:=ae.mk mM.out.symm;clear dO;clear HB;have dO:=eU;have HB:=eQ;have bU:=eu;have ajy:=ig;have kS:=mW;have jP:=mM;have rZ:=nD;clear eU eQ eu ig mW mM nD;clear hb hbox hg;have aiz:=rZ.out;have aif:=jP.out;have D9:w9.cell? ⟨eY,0,none⟩=some (.int .u8 0):=(ah bU.out 0).trans rfl;have D8:w9.cell? ⟨eY,1,none⟩=some (.int .u8 0):=(ah bU.out 1).trans rfl;have D7:w9.cell? ⟨eY,2,none⟩=some (.int .u8 0):=(ah bU.out 2).trans rfl;have D6:w9.cell? ⟨eY,3,none⟩=some (.int .u8 0):=(ah bU.out 3).trans rfl;have Ud:w9.cell? ⟨eY,4,none⟩=some (.int .i64 0):=(ah bU.out 4).trans rfl;have DN:=ag bU.out 0;have DL:=ag bU.out 1;have DK:=ag bU.out 2;have DJ:=ag bU.out 3;have RI:=ag bU.out 4))
       go_loopg [8] yB (fun kq v8 w'=>∃ (mZ:Int) (fZ:Int) (fO:Int) (fH:Int) (fC:Int) (dY:Int) (dK:Int) (dJ:Int) (dI:Int) (dH:Int) (dG:Int),v8=.int .i64 mZ∧ae (aI.l1 kq l0 t149 mZ dK dJ dI dH dG=some (r1,r2,r3,r4,r5,r6))∧ae (kq≤yB)∧ae (w'.heap[gQ]? = some (.cells #[.int .u8 fZ,.int .u8 fO,.int .u8 fH,.int .u8 fC,.int .i64 dY] 39 (0,0)))∧ae (w'.heap[eY]? = some (.cells #[.int .u8 dK,.int .u8 dJ,.int .u8 dI,.int .u8 dH,.int .i64 dG] 39 (0,0)))∧ae (Below w.heap.size w w'))
       case atStart=>exact ⟨(0),(nG),(mD),(lL),(lg),(kT),(sD),(0),(0),(0),(0),(by first|rfl|(simp;done)|(simp [*];done)),H',⟨Nat.le_refl _⟩,⟨by (with_reducible repeat (first|refine au ?_ _|refine aC ?_|refine ak ?_ _));refine fA ?_ jP.out _;(with_reducible repeat (first|refine au ?_ _|refine aC ?_|refine ak ?_ _));refine fA ?_ jP.out _;(with_reducible repeat (first|refine au ?_ _|refine aC ?_|refine ak ?_ _));refine fA ?_ jP.out _;(with_reducible repeat (first|refine au ?_ _|refine aC ?_|refine ak ?_ _));refine fA ?_ jP.out _;(with_reducible repeat (first|refine au ?_ _|refine aC ?_|refine ak ?_ _));refine fA ?_ jP.out _;(with_reducible repeat (first|refine au ?_ _|refine aC ?_|refine ak ?_ _));exact dO.out⟩,⟨by (with_reducible repeat (first|refine au ?_ _|refine aC ?_|refine ak ?_ _));refine dw (cs:=#[.int .u8 sD,.int .u8 0,.int .u8 0,.int .u8 0,.int .i64 0]) ?_ 4 _ rfl;(with_reducible repeat (first|refine au ?_ _|refine aC ?_|refine ak ?_ _));refine dw (cs:=#[.int .u8 sD,.int .u8 0,.int .u8 0,.int .u8 0,.int .i64 0]) ?_ 3 _ rfl;(with_reducible repeat (first|refine au ?_ _|refine aC ?_|refine ak ?_ _));refine dw (cs:=#[.int .u8 sD,.int .u8 0,.int .u8 0,.int .u8 0,.int .i64 0]) ?_ 2 _ rfl;(with_reducible repeat (first|refine au ?_ _|refine aC ?_|refine ak ?_ _));refine dw (cs:=#[.int .u8 sD,.int .u8 0,.int .u8 0,.int .u8 0,.int .i64 0]) ?_ 1 _ rfl;(with_reducible repeat (first|refine au ?_ _|refine aC ?_|refine ak ?_ _));refine dw (cs:=#[.int .u8 0,.int .u8 0,.int .u8 0,.int .u8 0,.int .i64 0]) ?_ 0 _ rfl;(with_reducible repeat (first|refine au ?_ _|refine aC ?_|refine ak ?_ _));exact bU.out⟩,⟨by repeat (first|(with_reducible first|exact HB.out|apply ay|apply ai|apply ax|refine aA ?_ jF.out|refine aA ?_ kS.out)|exact HB.out)⟩⟩
       case round =>
        clear H'
        obtain ⟨mZ,fZ,fO,fH,fC,dY,dK,dJ,dI,dH,dG,rfl,HA,yl,dO,bU,HB⟩:=hrel
        cases gk with
        | zero=>exact absurd HA.out (by simp [aI.l1])
        | succ k3 =>
         have H:=HA.out
         clear HA
         simp only [aI.l1] at H
         by_cases c12:mZ < (t149.size:Int)
         ·
          rw [if_pos c12] at H
          have um:decide (mZ < (t149.size:Int))=true:=decide_eq_true c12
          clear c12
          obtain ⟨o8,wI⟩:∃ j_:Int,(wrap64 (mZ+1))=j_:=⟨_,rfl⟩
          replace H:(if 0≤(o8) then (if (o8) < (l0.length:Int) then ((aH.f k3 (dV ByteArray.empty l0 (o8))).bind fun FP=>(if 0≤mZ then ((bf.f k3 dK dJ dI dH dG (bt t149 mZ) FP.1).bind fun nZ=>(if FP.2=0 then (if nZ.2.2.2.2.2=true then (aI.l1 k3 l0 t149 o8 nZ.1 nZ.2.1 nZ.2.2.1 nZ.2.2.2.1 nZ.2.2.2.2.1) else (some (0,0,0,0,0,false))) else (some (0,0,0,0,0,false)))) else (none))) else (none)) else (none))=some (r1,r2,r3,r4,r5,r6):=by first|(rw [wI] at H;exact H)|(simp only [wI] at H ⊢;exact H)
          have agy:(IntKind.i64.wrap (mZ+1))=o8:=(bY _).trans wI
          by_cases c14:0≤(o8)
          ·
           rw [if_pos c14] at H
           have Vq:decide (0≤(o8))=true:=decide_eq_true c14
           clear c14
           by_cases c15:(o8) < (l0.length:Int)
           ·
            rw [if_pos c15] at H
            have qF:decide ((o8) < (l0.length:Int))=true:=decide_eq_true c15
            clear c15
            replace H:=Option.bind_eq_some_iff.mp H
            obtain ⟨⟨t153,t154⟩,Pq,H⟩:=H
            replace H:(if 0≤mZ then ((bf.f k3 dK dJ dI dH dG (bt t149 mZ) t153).bind fun nZ=>(if t154=0 then (if nZ.2.2.2.2.2=true then (aI.l1 k3 l0 t149 o8 nZ.1 nZ.2.1 nZ.2.2.1 nZ.2.2.2.1 nZ.2.2.2.2.1) else (some (0,0,0,0,0,false))) else (some (0,0,0,0,0,false)))) else (none))=some (r1,r2,r3,r4,r5,r6):=H
            have A16:=ae.mk Pq
            clear Pq
            by_cases c17:0≤mZ
            ·
             rw [if_pos c17] at H
             have zO:decide (0≤mZ)=true:=decide_eq_true c17
             clear c17
             replace H:=Option.bind_eq_some_iff.mp H
             obtain ⟨⟨t155,t156,t157,t158,t159,t160⟩,Po,H⟩:=H
             replace H:(if t154=0 then (if t160=true then (aI.l1 k3 l0 t149 o8 t155 t156 t157 t158 t159) else (some (0,0,0,0,0,false))) else (some (0,0,0,0,0,false)))=some (r1,r2,r3,r4,r5,r6):=H
             have VL:=ae.mk Po
             clear Po
             by_cases c20:t154=0
             ·
              rw [if_pos c20] at H
              have OG:(t154 == 0)=true:=beq_iff_eq.mpr c20
              have Vo:(t154 != 0)=false:=bne_eq_false_iff_eq.mpr c20
              clear c20
              by_cases c21:t160=true
              ·
               subst c21
               have H1:(aI.l1 k3 l0 t149 o8 t155 t156 t157 t158 t159)=some (r1,r2,r3,r4,r5,r6):=by rw [if_pos rfl] at H;exact H
               clear H
               have H:=H1
               clear H1
               have H':=ae.mk H
               clear H
               have zn:0≤((o8):Int):=of_decide_eq_true (by first|(with_reducible assumption)|assumption)
               have zk:(o8) < (l0.length:Int):=of_decide_eq_true (by first|(with_reducible assumption)|assumption)
               obtain ⟨Vt,e152,oM⟩:=Kd.kU HR0.out (o8) zn zk
               cases e152
               replace oM:=(HB.out.cell (World.block_lt_of_cell? w _ oM)).trans oM
               replace zn:=eq_true zn
               replace zk:=eq_true zk
               try go_wp2_with (first|((with_reducible refine bT (f:=46) rfl ?_);refine gp (some 49) rfl rfl Tryd.func46 (by kernel_rfl) rfl #[.string (dV ByteArray.empty l0 (o8))] rfl (by (try simp only [List.map_toArray,List.map_cons,List.map_nil]);first|done|(simp only [wI];rfl)|rfl|(simp only [List.length_drop,List.length_take];rfl)) ?_;(with_reducible refine (aH.calls k3 (dV ByteArray.empty l0 (o8)) t153 t154 _ A16.out).mono ?_);rintro e w' ⟨rfl,⟨nd,rfl⟩⟩;refine ⟨_,rfl,?_⟩;(try (rw [qO wr];generalize zX:World.drewN wr _=wr;have eU:ae (wr.heap[gQ]? = some (.cells #[.int .u8 fZ,.int .u8 fO,.int .u8 fH,.int .u8 fC,.int .i64 dY] 39 (0,0))):=⟨by rw [← zX];exact (by (with_reducible repeat (first|refine au ?_ _|refine aC ?_|refine ak ?_ _));exact dO.out)⟩;have eQ:ae (wr.heap[eY]? = some (.cells #[.int .u8 dK,.int .u8 dJ,.int .u8 dI,.int .u8 dH,.int .i64 dG] 39 (0,0))):=⟨by rw [← zX];exact (by (with_reducible repeat (first|refine au ?_ _|refine aC ?_|refine ak ?_ _));exact bU.out)⟩;have eu:ae (Below w.heap.size w wr):=⟨by rw [← zX];exact (by repeat (first|(with_reducible first|exact HB.out|apply ay|apply ai|apply ax|refine aA ?_ jF.out|refine aA ?_ kS.out)|exact HB.out))⟩;clear dO bU HB zX;have dO:=eU;have bU:=eQ;have HB:=eu;clear eU eQ eu))))
               have eU:=ae.mk (aC dO.out)
               have eQ:=ae.mk (aC bU.out)
               have eu:=ae.mk (ax HB.out)
               clear dO
               clear bU
               clear HB
               have dO:=eU
               have bU:=eQ
               have HB:=eu
               clear eU eQ eu
               have EH:0≤(mZ:Int):=of_decide_eq_true (by first|(with_reducible assumption)|assumption)
               have EF:mZ < (t149.size:Int):=of_decide_eq_true (by first|(with_reducible assumption)|assumption)
               have NF:=kP t149 mZ
               replace EH:=eq_true EH
               replace EF:=eq_true EF
               refine qy (n:=12) (S:=fun w'=>w'.cell? ⟨eY,0,none⟩=some (.int .u8 dK)∧w'.cell? ⟨eY,1,none⟩=some (.int .u8 dJ)∧w'.cell? ⟨eY,2,none⟩=some (.int .u8 dI)∧w'.cell? ⟨eY,3,none⟩=some (.int .u8 dH)∧w'.cell? ⟨eY,4,none⟩=some (.int .i64 dG)) (ds:=[]) #[false,false,false,false,false,false,false,false,false,false,false,false] (by kernel_rfl) rfl rfl ⟨(ah bU.out 0).trans rfl,(ah bU.out 1).trans rfl,(ah bU.out 2).trans rfl,(ah bU.out 3).trans rfl,(ah bU.out 4).trans rfl⟩ (fun hHeld=>?_);refine mF aI.MM aI.G9 (fun jh tN=>?_)
               generalize wr.drew=w22 at dO bU HB hHeld ⊢
               refine iC (i:=1) (N:=some 54) (v:=?_) (a':=?_) #[false,true,false,false,false,false,false,false,false,false,false,false] rfl rfl (gq jh.out (by kernel_rfl)) (fun _ _ _ h=>h) (Or.inl ⟨by rfl,?_⟩) ?_ ?_
               rotate_left
               ·
                intro w'
                go_simp
                with_reducible rfl
               rotate_left
               ·
                simp only [Act.put,List.setIfInBounds_toArray,List.set_cons_zero,List.set_cons_succ,bY,bZ]
                rfl
               refine iC (i:=2) (N:=some 55) (v:=?_) (a':=?_) #[false,true,true,false,false,false,false,false,false,false,false,false] rfl rfl (gq jh.out (by kernel_rfl)) (fun _ _ _ h=>h) (Or.inl ⟨by rfl,?_⟩) ?_ ?_
               rotate_left
               ·
                intro w'
                go_simp
                with_reducible rfl
               rotate_left
               ·
                simp only [Act.put,List.setIfInBounds_toArray,List.set_cons_zero,List.set_cons_succ,bY,bZ]
                rfl
               refine iC (i:=4) (N:=some 57) (v:=?_) (a':=?_) #[false,true,true,false,true,false,false,false,false,false,false,false] rfl rfl (gq jh.out (by kernel_rfl)) (fun _ _ _ h=>h) (Or.inl ⟨by rfl,?_⟩) ?_ ?_
               rotate_left
               ·
                intro w'
                go_simp
                with_reducible rfl
               rotate_left
               ·
                simp only [Act.put,List.setIfInBounds_toArray,List.set_cons_zero,List.set_cons_succ,bY,bZ]
                rfl
               refine kM (i:=0) (N:=some 53) (v:=?_) (a':=?_) #[true,true,true,false,true,false,false,false,false,false,false,false] rfl rfl (iO jh.out tN.out (by kernel_rfl)) (fun _ _ _ h=>h) (Or.inl ⟨by rfl,?_⟩) hHeld ?_ ?_
               rotate_left
               ·
                rintro w' ⟨s0,s1,s2,s3,s4⟩
                go_simp
                with_reducible rfl
               rotate_left
               ·
                simp only [Act.put,List.setIfInBounds_toArray,List.set_cons_zero,List.set_cons_succ,bY,bZ]
                rfl
               refine kM (i:=3) (N:=some 56) (v:=?_) (a':=?_) #[true,true,true,true,true,false,false,false,false,false,false,false] rfl rfl (iO jh.out tN.out (by kernel_rfl)) (fun _ _ _ h=>h) (Or.inl ⟨by rfl,?_⟩) hHeld ?_ ?_
               rotate_left
               ·
                rintro w' ⟨s0,s1,s2,s3,s4⟩
                go_simp
                with_reducible rfl
               rotate_left
               ·
                simp only [Act.put,List.setIfInBounds_toArray,List.set_cons_zero,List.set_cons_succ,bY,bZ]
                rfl
               refine II (σ:=Nat) 2 #[true,true,true,true,true,true,true,true,true,true,false,false] (fun s_=>[(58,.tuple #[.agg #[.int .u8 t155,.int .u8 t156,.int .u8 t157,.int .u8 t158,.int .i64 t159],.bool true]),(11,.pointer (some ⟨s_,0,none⟩)),(52,.tuple #[.agg #[.int .u8 t155,.int .u8 t156,.int .u8 t157,.int .u8 t158,.int .i64 t159],.bool true]),(59,.agg #[.int .u8 t155,.int .u8 t156,.int .u8 t157,.int .u8 t158,.int .i64 t159]),(60,.bool true)]) (fun s_ w'=>(w'.cell? ⟨eY,0,none⟩=some (.int .u8 dK)∧w'.cell? ⟨eY,1,none⟩=some (.int .u8 dJ)∧w'.cell? ⟨eY,2,none⟩=some (.int .u8 dI)∧w'.cell? ⟨eY,3,none⟩=some (.int .u8 dH)∧w'.cell? ⟨eY,4,none⟩=some (.int .i64 dG))∧(w'.heap[gQ]? = some (.cells #[.int .u8 fZ,.int .u8 fO,.int .u8 fH,.int .u8 fC,.int .i64 dY] 39 (0,0)))∧(w'.heap[eY]? = some (.cells #[.int .u8 dK,.int .u8 dJ,.int .u8 dI,.int .u8 dH,.int .i64 dG] 39 (0,0)))∧(w'.heap[s_]? = some (.cells #[.int .u8 0,.int .u8 0,.int .u8 0,.int .u8 0,.int .i64 0] 39 (0,0)))∧(w.heap.size≤s_)∧(w.heap.size≤s_)∧(gQ ≠ s_)∧(s_ ≠ gQ)∧(eY ≠ s_)∧(s_ ≠ eY)∧(Below w.heap.size w w')) ?_ ?_
               rotate_left
               ·
                intro xM
                refine PX (i:=5) (j:=9) (Ni:=some 58) (Nj:=some 11) #[true,true,true,true,true,true,false,false,false,false,false,false] #[true,true,true,true,true,false,false,false,false,true,false,false] rfl rfl rfl rfl (Gl jh.out (by kernel_rfl)) (by decide) (by decide) (fun K hK=>?_) (fun K hK=>?_)
                ·
                 skip
                 refine nR Tryd.func47 (by kernel_rfl) rfl #[.agg #[.int .u8 dK,.int .u8 dJ,.int .u8 dI,.int .u8 dH,.int .i64 dG],.int .u8 (bt t149 mZ),.int .i64 t153] (by rfl) rfl rfl (by (try simp only [List.map_toArray,List.map_cons,List.map_nil]);first|done|rfl|(simp only [List.length_drop,List.length_take];rfl)) ?_
                 with_reducible refine (bf.calls k3 dK dJ dI dH dG (bt t149 mZ) t153 t155 t156 t157 t158 t159 true _ VL.out).mono ?_
                 rintro e vT ⟨rfl,hb⟩
                 refine ⟨_,rfl,?_⟩
                 have eU:=ae.mk (bK (g:=gQ) (o:=.cells #[.int .u8 fZ,.int .u8 fO,.int .u8 fH,.int .u8 fC,.int .i64 dY] 39 (0,0)) (by (with_reducible repeat (first|refine au ?_ _|refine aC ?_|refine ak ?_ _));exact dO.out) hb)
                 have eQ:=ae.mk (bK (g:=eY) (o:=.cells #[.int .u8 dK,.int .u8 dJ,.int .u8 dI,.int .u8 dH,.int .i64 dG] 39 (0,0)) (by (with_reducible repeat (first|refine au ?_ _|refine aC ?_|refine ak ?_ _));exact bU.out) hb)
                 have eu:=ae.mk (bz (by repeat (first|(with_reducible first|exact HB.out|apply ay|apply ai|apply ax|refine aA ?_ jF.out|refine aA ?_ kS.out)|exact HB.out)) hb)
                 clear dO
                 clear bU
                 clear HB
                 have dO:=eU
                 have bU:=eQ
                 have HB:=eu
                 clear eU eQ eu
                 (try clear hb)
                 (try clear hb2)
                 (try clear hk)
                 (try clear hi)
                 refine hK.out _ _ ⟨(ah bU.out 0).trans rfl,(ah bU.out 1).trans rfl,(ah bU.out 2).trans rfl,(ah bU.out 3).trans rfl,(ah bU.out 4).trans rfl⟩ (fun hHeld=>?_)
                 clear hK K
                 refine je (a':=?_) ?_ ?_
                 rotate_left
                 ·
                  show Act.put _ (some 58) _=_
                  simp only [Act.put,List.setIfInBounds_toArray,List.set_cons_zero,List.set_cons_succ,bY,bZ]
                  rfl
                 refine iC (i:=6) (N:=some 52) (v:=?_) (a':=?_) #[true,true,true,true,true,true,true,false,false,false,false,false] rfl rfl (gq jh.out (by kernel_rfl)) (fun _ _ _ h=>h) (Or.inl ⟨by rfl,?_⟩) ?_ ?_
                 rotate_left
                 ·
                  intro w'
                  go_simp
                  with_reducible rfl
                 rotate_left
                 ·
                  simp only [Act.put,List.setIfInBounds_toArray,List.set_cons_zero,List.set_cons_succ,bY,bZ]
                  rfl
                 refine iC (i:=7) (N:=some 59) (v:=?_) (a':=?_) #[true,true,true,true,true,true,true,true,false,false,false,false] rfl rfl (gq jh.out (by kernel_rfl)) (fun _ _ _ h=>h) (Or.inl ⟨by rfl,?_⟩) ?_ ?_
                 rotate_left
                 ·
                  intro w'
                  go_simp
                  with_reducible rfl
                 rotate_left
                 ·
                  simp only [Act.put,List.setIfInBounds_toArray,List.set_cons_zero,List.set_cons_succ,bY,bZ]
                  rfl
                 refine iC (i:=8) (N:=some 60) (v:=?_) (a':=?_) #[true,true,true,true,true,true,true,true,true,false,false,false] rfl rfl (gq jh.out (by kernel_rfl)) (fun _ _ _ h=>h) (Or.inl ⟨by rfl,?_⟩) ?_ ?_
                 rotate_left
                 ·
                  intro w'
                  go_simp
                  with_reducible rfl
                 rotate_left
                 ·
                  simp only [Act.put,List.setIfInBounds_toArray,List.set_cons_zero,List.set_cons_succ,bY,bZ]
                  rfl
                 refine oD (i:=9) (N:=some 11) #[true,true,true,true,true,true,true,true,true,true,false,false] rfl rfl (kG jh.out (by kernel_rfl)) (by decide) (fun K hK=>?_)
                 refine rY ?hg (N:=11) ?hd (cs:=#[.int .u8 0,.int .u8 0,.int .u8 0,.int .u8 0,.int .i64 0]) (t:=39) ?hr ?_;(case hd=>rfl);(case hg=>rfl);(case hr=>first|(go_simp;done)|(go_simp;rfl))
                 intro dm hg w24 hbox hb
                 have eU:=ae.mk (bK (g:=gQ) (o:=.cells #[.int .u8 fZ,.int .u8 fO,.int .u8 fH,.int .u8 fC,.int .i64 dY] 39 (0,0)) (by (with_reducible repeat (first|refine au ?_ _|refine aC ?_|refine ak ?_ _));exact dO.out) hb)
                 have eQ:=ae.mk (bK (g:=eY) (o:=.cells #[.int .u8 dK,.int .u8 dJ,.int .u8 dI,.int .u8 dH,.int .i64 dG] 39 (0,0)) (by (with_reducible repeat (first|refine au ?_ _|refine aC ?_|refine ak ?_ _));exact bU.out) hb)
                 have eu:=ae.mk (bz (by repeat (first|(with_reducible first|exact HB.out|apply ay|apply ai|apply ax|refine aA ?_ jF.out|refine aA ?_ kS.out)|exact HB.out)) hb)
                 have ig:=ae.mk (hbox)
                 have mW:=ae.mk ((by rw [hg];exact (cu (by repeat (first|(with_reducible first|exact HB.out|apply ay|apply ai|apply ax|refine aA ?_ jF.out|refine aA ?_ kS.out)|exact HB.out))):w.heap.size≤dm))
                 have mM:=mW
                 have nD:=ae.mk ((by rw [hg];exact Nat.ne_of_lt (jJ (g:=gQ) (o:=.cells #[.int .u8 fZ,.int .u8 fO,.int .u8 fH,.int .u8 fC,.int .i64 dY] 39 (0,0)) (by (with_reducible repeat (first|refine au ?_ _|refine aC ?_|refine ak ?_ _));exact dO.out)):gQ ≠ dm))
                 have uS:=ae.mk nD.out.symm
                 have uQ:=ae.mk ((by rw [hg];exact Nat.ne_of_lt (jJ (g:=eY) (o:=.cells #[.int .u8 dK,.int .u8 dJ,.int .u8 dI,.int .u8 dH,.int .i64 dG] 39 (0,0)) (by (with_reducible repeat (first|refine au ?_ _|refine aC ?_|refine ak ?_ _));exact bU.out)):eY ≠ dm))
                 have xJ:=ae.mk uQ.out.symm
                 clear dO
                 clear bU
                 clear HB
                 have dO:=eU
                 have bU:=eQ
                 have HB:=eu
                 have iD:=ig
                 have rE:=mW
                 have lV:=mM
                 have eG:=nD
                 have gW:=uS
                 have bu:=uQ
                 have gY:=xJ
                 clear eU eQ eu ig mW mM nD uS uQ xJ
                 clear hb hbox hg
                 refine hK.out _ _ ⟨(ah bU.out 0).trans rfl,(ah bU.out 1).trans rfl,(ah bU.out 2).trans rfl,(ah bU.out 3).trans rfl,(ah bU.out 4).trans rfl⟩ (fun hHeld=>?_)
                 clear hK K
                 refine je (a':=?_) ?_ ?_
                 rotate_left
                 ·
                  show Act.put _ (some 11) _=_
                  simp only [Act.put,List.setIfInBounds_toArray,List.set_cons_zero,List.set_cons_succ,bY,bZ]
                  rfl
                 exact je (by simp only [jO,Act.put,List.setIfInBounds_toArray,List.set_cons_zero,List.set_cons_succ]) (xM (dm) _ ⟨hHeld,(by (with_reducible repeat (first|refine au ?_ _|refine aC ?_|refine ak ?_ _));exact dO.out),(by (with_reducible repeat (first|refine au ?_ _|refine aC ?_|refine ak ?_ _));exact bU.out),(by (with_reducible repeat (first|refine au ?_ _|refine aC ?_|refine ak ?_ _));exact iD.out),rE.out,lV.out,eG.out,gW.out,bu.out,gY.out,(by repeat (first|(with_reducible first|exact HB.out|apply ay|apply ai|apply ax|refine aA ?_ jF.out|refine aA ?_ kS.out|refine aA ?_ lV.out)|exact HB.out))⟩)
                ·
                 skip
                 refine rY ?hg (N:=11) ?hd (cs:=#[.int .u8 0,.int .u8 0,.int .u8 0,.int .u8 0,.int .i64 0]) (t:=39) ?hr ?_;(case hd=>rfl);(case hg=>rfl);(case hr=>first|(go_simp;done)|(go_simp;rfl))
                 intro dm hg vT hbox hb
                 have eU:=ae.mk (bK (g:=gQ) (o:=.cells #[.int .u8 fZ,.int .u8 fO,.int .u8 fH,.int .u8 fC,.int .i64 dY] 39 (0,0)) (by (with_reducible repeat (first|refine au ?_ _|refine aC ?_|refine ak ?_ _));exact dO.out) hb)
                 have eQ:=ae.mk (bK (g:=eY) (o:=.cells #[.int .u8 dK,.int .u8 dJ,.int .u8 dI,.int .u8 dH,.int .i64 dG] 39 (0,0)) (by (with_reducible repeat (first|refine au ?_ _|refine aC ?_|refine ak ?_ _));exact bU.out) hb)
                 have eu:=ae.mk (bz (by repeat (first|(with_reducible first|exact HB.out|apply ay|apply ai|apply ax|refine aA ?_ jF.out|refine aA ?_ kS.out)|exact HB.out)) hb)
                 have ig:=ae.mk (hbox)
                 have mW:=ae.mk ((by rw [hg];exact (cu (by repeat (first|(with_reducible first|exact HB.out|apply ay|apply ai|apply ax|refine aA ?_ jF.out|refine aA ?_ kS.out)|exact HB.out))):w.heap.size≤dm))
                 have mM:=mW
                 have nD:=ae.mk ((by rw [hg];exact Nat.ne_of_lt (jJ (g:=gQ) (o:=.cells #[.int .u8 fZ,.int .u8 fO,.int .u8 fH,.int .u8 fC,.int .i64 dY] 39 (0,0)) (by (with_reducible repeat (first|refine au ?_ _|refine aC ?_|refine ak ?_ _));exact dO.out)):gQ ≠ dm))
                 have uS:=ae.mk nD.out.symm
                 have uQ:=ae.mk ((by rw [hg];exact Nat.ne_of_lt (jJ (g:=eY) (o:=.cells #[.int .u8 dK,.int .u8 dJ,.int .u8 dI,.int .u8 dH,.int .i64 dG] 39 (0,0)) (by (with_reducible repeat (first|refine au ?_ _|refine aC ?_|refine ak ?_ _));exact bU.out)):eY ≠ dm))
                 have xJ:=ae.mk uQ.out.symm
                 clear dO
                 clear bU
                 clear HB
                 have dO:=eU
                 have bU:=eQ
                 have HB:=eu
                 have iD:=ig
                 have rE:=mW
                 have lV:=mM
                 have eG:=nD
                 have gW:=uS
                 have bu:=uQ
                 have gY:=xJ
                 clear eU eQ eu ig mW mM nD uS uQ xJ
                 clear hb hbox hg
                 refine hK.out _ _ ⟨(ah bU.out 0).trans rfl,(ah bU.out 1).trans rfl,(ah bU.out 2).trans rfl,(ah bU.out 3).trans rfl,(ah bU.out 4).trans rfl⟩ (fun hHeld=>?_)
                 clear hK K
                 refine je (a':=?_) ?_ ?_
                 rotate_left
                 ·
                  show Act.put _ (some 11) _=_
                  simp only [Act.put,List.setIfInBounds_toArray,List.set_cons_zero,List.set_cons_succ,bY,bZ]
                  rfl
                 refine oD (i:=5) (N:=some 58) #[true,true,true,true,true,true,false,false,false,true,false,false] rfl rfl (kG jh.out (by kernel_rfl)) (by decide) (fun K hK=>?_)
                 refine nR Tryd.func47 (by kernel_rfl) rfl #[.agg #[.int .u8 dK,.int .u8 dJ,.int .u8 dI,.int .u8 dH,.int .i64 dG],.int .u8 (bt t149 mZ),.int .i64 t153] (by rfl) rfl rfl (by (try simp only [List.map_toArray,List.map_cons,List.map_nil]);first|done|rfl|(simp only [List.length_drop,List.length_take];rfl)) ?_
                 with_reducible refine (bf.calls k3 dK dJ dI dH dG (bt t149 mZ) t153 t155 t156 t157 t158 t159 true _ VL.out).mono ?_
                 rintro e w24 ⟨rfl,hb⟩
                 refine ⟨_,rfl,?_⟩
                 have eU:=ae.mk (bK (g:=gQ) (o:=.cells #[.int .u8 fZ,.int .u8 fO,.int .u8 fH,.int .u8 fC,.int .i64 dY] 39 (0,0)) (by (with_reducible repeat (first|refine au ?_ _|refine aC ?_|refine ak ?_ _));exact dO.out) hb)
                 have eQ:=ae.mk (bK (g:=eY) (o:=.cells #[.int .u8 dK,.int .u8 dJ,.int .u8 dI,.int .u8 dH,.int .i64 dG] 39 (0,0)) (by (with_reducible repeat (first|refine au ?_ _|refine aC ?_|refine ak ?_ _));exact bU.out) hb)
                 have eu:=ae.mk (bK (g:=dm) (o:=.cells #[.int .u8 0,.int .u8 0,.int .u8 0,.int .u8 0,.int .i64 0] 39 (0,0)) (by (with_reducible repeat (first|refine au ?_ _|refine aC ?_|refine ak ?_ _));exact iD.out) hb)
                 have ig:=ae.mk (bz (by repeat (first|(with_reducible first|exact HB.out|apply ay|apply ai|apply ax|refine aA ?_ jF.out|refine aA ?_ kS.out|refine aA ?_ lV.out)|exact HB.out)) hb)
                 clear dO
                 clear bU
                 clear iD
                 clear HB
                 have dO:=eU
                 have bU:=eQ
                 have iD:=eu
                 have HB:=ig
                 clear eU eQ eu ig
                 (try clear hb)
                 (try clear hb2)
                 (try clear hk)
                 (try clear hi)
                 refine hK.out _ _ ⟨(ah bU.out 0).trans rfl,(ah bU.out 1).trans rfl,(ah bU.out 2).trans rfl,(ah bU.out 3).trans rfl,(ah bU.out 4).trans rfl⟩ (fun hHeld=>?_)
                 clear hK K
                 refine je (a':=?_) ?_ ?_
                 rotate_left
                 ·
                  show Act.put _ (some 58) _=_
                  simp only [Act.put,List.setIfInBounds_toArray,List.set_cons_zero,List.set_cons_succ,bY,bZ]
                  rfl
                 refine iC (i:=6) (N:=some 52) (v:=?_) (a':=?_) #[true,true,true,true,true,true,true,false,false,true,false,false] rfl rfl (gq jh.out (by kernel_rfl)) (fun _ _ _ h=>h) (Or.inl ⟨by rfl,?_⟩) ?_ ?_
                 rotate_left
                 ·
                  intro w'
                  go_simp
                  with_reducible rfl
                 rotate_left
                 ·
                  simp only [Act.put,List.setIfInBounds_toArray,List.set_cons_zero,List.set_cons_succ,bY,bZ]
                  rfl
                 refine iC (i:=7) (N:=some 59) (v:=?_) (a':=?_) #[true,true,true,true,true,true,true,true,false,true,false,false] rfl rfl (gq jh.out (by kernel_rfl)) (fun _ _ _ h=>h) (Or.inl ⟨by rfl,?_⟩) ?_ ?_
                 rotate_left
                 ·
                  intro w'
                  go_simp
                  with_reducible rfl
                 rotate_left
                 ·
                  simp only [Act.put,List.setIfInBounds_toArray,List.set_cons_zero,List.set_cons_succ,bY,bZ]
                  rfl
                 refine iC (i:=8) (N:=some 60) (v:=?_) (a':=?_) #[true,true,true,true,true,true,true,true,true,true,false,false] rfl rfl (gq jh.out (by kernel_rfl)) (fun _ _ _ h=>h) (Or.inl ⟨by rfl,?_⟩) ?_ ?_
                 rotate_left
                 ·
                  intro w'
                  go_simp
                  with_reducible rfl
                 rotate_left
                 ·
                  simp only [Act.put,List.setIfInBounds_toArray,List.set_cons_zero,List.set_cons_succ,bY,bZ]
                  rfl
                 exact je (by simp only [jO,Act.put,List.setIfInBounds_toArray,List.set_cons_zero,List.set_cons_succ]) (xM (dm) _ ⟨hHeld,(by (with_reducible repeat (first|refine au ?_ _|refine aC ?_|refine ak ?_ _));exact dO.out),(by (with_reducible repeat (first|refine au ?_ _|refine aC ?_|refine ak ?_ _));exact bU.out),(by (with_reducible repeat (first|refine au ?_ _|refine aC ?_|refine ak ?_ _));exact iD.out),rE.out,lV.out,eG.out,gW.out,bu.out,gY.out,(by repeat (first|(with_reducible first|exact HB.out|apply ay|apply ai|apply ax|refine aA ?_ jF.out|refine aA ?_ kS.out|refine aA ?_ lV.out)|exact HB.out))⟩)
               rintro dm xC ⟨xq,Vf,Ve,Vd,Vb,Va,U9,U7,U6,U5,U4⟩
               have eU:ae (xC.heap[gQ]? = some (.cells #[.int .u8 fZ,.int .u8 fO,.int .u8 fH,.int .u8 fC,.int .i64 dY] 39 (0,0))):=⟨Vf⟩
               have eQ:ae (xC.heap[eY]? = some (.cells #[.int .u8 dK,.int .u8 dJ,.int .u8 dI,.int .u8 dH,.int .i64 dG] 39 (0,0))):=⟨Ve⟩
               have eu:ae (xC.heap[dm]? = some (.cells #[.int .u8 0,.int .u8 0,.int .u8 0,.int .u8 0,.int .i64 0] 39 (0,0))):=⟨Vd⟩
               have ig:ae (w.heap.size≤dm):=⟨Vb⟩
               have mW:ae (w.heap.size≤dm):=⟨Va⟩
               have mM:ae (gQ ≠ dm):=⟨U9⟩
               have nD:ae (dm ≠ gQ):=⟨U7⟩
               have uS:ae (eY ≠ dm):=⟨U6⟩
               have uQ:ae (dm ≠ eY):=⟨U5⟩
               have xJ:ae (Below w.heap.size w xC):=⟨U4⟩
               clear dO
               clear bU
               clear HB
               clear Vf Ve Vd Vb Va U9 U7 U6 U5 U4
               have dO:=eU
               have bU:=eQ
               have iD:=eu
               have rE:=ig
               have lV:=mW
               have eG:=mM
               have gW:=nD
               have bu:=uS
               have gY:=uQ
               have HB:=xJ
               clear eU eQ eu ig mW mM nD uS uQ xJ
               have hHeld:xC.cell? ⟨eY,0,none⟩=some (.int .u8 dK)∧xC.cell? ⟨eY,1,none⟩=some (.int .u8 dJ)∧xC.cell? ⟨eY,2,none⟩=some (.int .u8 dI)∧xC.cell? ⟨eY,3,none⟩=some (.int .u8 dH)∧xC.cell? ⟨eY,4,none⟩=some (.int .i64 dG):=xq
               refine je (a':=?_) ?_ ?_
               rotate_left
               ·
                simp only [jO,Act.put,List.setIfInBounds_toArray,List.set_cons_zero,List.set_cons_succ]
                rfl
               refine oD (i:=10) (N:=none) #[true,true,true,true,true,true,true,true,true,true,true,false] rfl rfl (kG jh.out (by kernel_rfl)) (by decide) (fun K hK=>?_)
               have akt:xC.cell? ⟨dm,0,none⟩=some (.int .u8 0):=(ah iD.out 0).trans rfl
               have aiQ:=ag iD.out 0
               have ab1:=eG.out
               have abZ:=bu.out
               have acA:=gW.out
               have acz:=gY.out
               have aks:xC.cell? ⟨dm,1,none⟩=some (.int .u8 0):=(ah iD.out 1).trans rfl
               have aiP:=ag iD.out 1
               have abY:=eG.out
               have abX:=bu.out
               have acy:=gW.out
               have acx:=gY.out
               have akr:xC.cell? ⟨dm,2,none⟩=some (.int .u8 0):=(ah iD.out 2).trans rfl
               have aiO:=ag iD.out 2
               have abW:=eG.out
               have abV:=bu.out
               have acw:=gW.out
               have acv:=gY.out
               have akq:xC.cell? ⟨dm,3,none⟩=some (.int .u8 0):=(ah iD.out 3).trans rfl
               have aiN:=ag iD.out 3
               have abU:=eG.out
               have abT:=bu.out
               have acu:=gW.out
               have acs:=gY.out
               have akp:xC.cell? ⟨dm,4,none⟩=some (.int .i64 0):=(ah iD.out 4).trans rfl
               have aiM:=ag iD.out 4
               have abS:=eG.out
               have abR:=bu.out
               have acr:=gW.out
               have acp:=gY.out
               refine MQ (w1:=?_) (by rfl) rfl ?_ ?_
               rotate_left
               ·
                go_simp
                rfl
               refine hK.out _ _ ⟨((cell_far (p:=⟨dm,_,none⟩) bu.out _).trans (((cell_far (p:=⟨dm,_,none⟩) bu.out _).trans (((cell_far (p:=⟨dm,_,none⟩) bu.out _).trans (((cell_far (p:=⟨dm,_,none⟩) bu.out _).trans (((cell_far (p:=⟨dm,_,none⟩) bu.out _).trans (hHeld.1)))))))))),((cell_far (p:=⟨dm,_,none⟩) bu.out _).trans (((cell_far (p:=⟨dm,_,none⟩) bu.out _).trans (((cell_far (p:=⟨dm,_,none⟩) bu.out _).trans (((cell_far (p:=⟨dm,_,none⟩) bu.out _).trans (((cell_far (p:=⟨dm,_,none⟩) bu.out _).trans (hHeld.2.1)))))))))),((cell_far (p:=⟨dm,_,none⟩) bu.out _).trans (((cell_far (p:=⟨dm,_,none⟩) bu.out _).trans (((cell_far (p:=⟨dm,_,none⟩) bu.out _).trans (((cell_far (p:=⟨dm,_,none⟩) bu.out _).trans (((cell_far (p:=⟨dm,_,none⟩) bu.out _).trans (hHeld.2.2.1)))))))))),((cell_far (p:=⟨dm,_,none⟩) bu.out _).trans (((cell_far (p:=⟨dm,_,none⟩) bu.out _).trans (((cell_far (p:=⟨dm,_,none⟩) bu.out _).trans (((cell_far (p:=⟨dm,_,none⟩) bu.out _).trans (((cell_far (p:=⟨dm,_,none⟩) bu.out _).trans (hHeld.2.2.2.1)))))))))),((cell_far (p:=⟨dm,_,none⟩) bu.out _).trans (((cell_far (p:=⟨dm,_,none⟩) bu.out _).trans (((cell_far (p:=⟨dm,_,none⟩) bu.out _).trans (((cell_far (p:=⟨dm,_,none⟩) bu.out _).trans (((cell_far (p:=⟨dm,_,none⟩) bu.out _).trans (hHeld.2.2.2.2))))))))))⟩ (fun hHeld=>?_)
               clear hK K
               refine iC (i:=11) (N:=some 12) (v:=?_) (a':=?_) #[true,true,true,true,true,true,true,true,true,true,true,true] rfl rfl (gq jh.out (by kernel_rfl)) (fun _ _ _ h=>h) (Or.inl ⟨by rfl,?_⟩) ?_ ?_
               rotate_left
               ·
                intro w'
                go_simp
                with_reducible rfl
               rotate_left
               ·
                simp only [Act.put,List.setIfInBounds_toArray,List.set_cons_zero,List.set_cons_succ,bY,bZ]
                rfl
               refine tu (pX jh.out (by kernel_rfl)) ?_
               have UW:=gW.out
               have UT:=eG.out
               have ait:=gY.out
               have ah9:=bu.out
               have ae9:xC.cell? ⟨dm,0,none⟩=some (.int .u8 0):=(ah iD.out 0).trans rfl
               have ae8:xC.cell? ⟨dm,1,none⟩=some (.int .u8 0):=(ah iD.out 1).trans rfl
               have ae7:xC.cell? ⟨dm,2,none⟩=some (.int .u8 0):=(ah iD.out 2).trans rfl
               have ae6:xC.cell? ⟨dm,3,none⟩=some (.int .u8 0):=(ah iD.out 3).trans rfl
               have ae5:xC.cell? ⟨dm,4,none⟩=some (.int .i64 0):=(ah iD.out 4).trans rfl
               have adF:=ag iD.out 0
               have adE:=ag iD.out 1
               have adD:=ag iD.out 2
               have adC:=ag iD.out 3
               have adB:=ag iD.out 4
               have UU:=rZ.out
               have UR:=jP.out
               have JU:xC.cell? ⟨eY,0,none⟩=some (.int .u8 dK):=(ah bU.out 0).trans rfl
               have JS:xC.cell? ⟨eY,1,none⟩=some (.int .u8 dJ):=(ah bU.out 1).trans rfl
               have JR:xC.cell? ⟨eY,2,none⟩=some (.int .u8 dI):=(ah bU.out 2).trans rfl
               have JQ:xC.cell? ⟨eY,3,none⟩=some (.int .u8 dH):=(ah bU.out 3).trans rfl
               have Tj:xC.cell? ⟨eY,4,none⟩=some (.int .i64 dG):=(ah bU.out 4).trans rfl
               have Jd:=ag bU.out 0
               have Jc:=ag bU.out 1
               have Jb:=ag bU.out 2
               have Ja:=ag bU.out 3
               have QU:=ag bU.out 4
               try go_wp2
               go_roundg k3
               case measure=>have:=rD.out;have:=MC.out;have:=yl.out;omega
               case rel=>exact ⟨(o8),(fZ),(fO),(fH),(fC),(dY),(t155),(t156),(t157),(t158),(t159),(by first|rfl|(simp;done)|(simp only [← wI] <;> (first|rfl|simp))|(simp [*];done)),H',⟨by have:=rD.out;have:=MC.out;have:=yl.out;omega⟩,⟨by (with_reducible repeat (first|refine au ?_ _|refine aC ?_|refine ak ?_ _));refine fA ?_ jP.out _;(with_reducible repeat (first|refine au ?_ _|refine aC ?_|refine ak ?_ _));refine fA ?_ jP.out _;(with_reducible repeat (first|refine au ?_ _|refine aC ?_|refine ak ?_ _));refine fA ?_ jP.out _;(with_reducible repeat (first|refine au ?_ _|refine aC ?_|refine ak ?_ _));refine fA ?_ jP.out _;(with_reducible repeat (first|refine au ?_ _|refine aC ?_|refine ak ?_ _));refine fA ?_ jP.out _;(with_reducible repeat (first|refine au ?_ _|refine aC ?_|refine ak ?_ _));refine fA ?_ eG.out _;(with_reducible repeat (first|refine au ?_ _|refine aC ?_|refine ak ?_ _));refine fA ?_ eG.out _;(with_reducible repeat (first|refine au ?_ _|refine aC ?_|refine ak ?_ _));refine fA ?_ eG.out _;(with_reducible repeat (first|refine au ?_ _|refine aC ?_|refine ak ?_ _));refine fA ?_ eG.out _;(with_reducible repeat (first|refine au ?_ _|refine aC ?_|refine ak ?_ _));refine fA ?_ eG.out _;(with_reducible repeat (first|refine au ?_ _|refine aC ?_|refine ak ?_ _));exact dO.out⟩,⟨by (with_reducible repeat (first|refine au ?_ _|refine aC ?_|refine ak ?_ _));refine dw (cs:=#[.int .u8 t155,.int .u8 t156,.int .u8 t157,.int .u8 t158,.int .i64 dG]) ?_ 4 _ rfl;(with_reducible repeat (first|refine au ?_ _|refine aC ?_|refine ak ?_ _));refine dw (cs:=#[.int .u8 t155,.int .u8 t156,.int .u8 t157,.int .u8 dH,.int .i64 dG]) ?_ 3 _ rfl;(with_reducible repeat (first|refine au ?_ _|refine aC ?_|refine ak ?_ _));refine dw (cs:=#[.int .u8 t155,.int .u8 t156,.int .u8 dI,.int .u8 dH,.int .i64 dG]) ?_ 2 _ rfl;(with_reducible repeat (first|refine au ?_ _|refine aC ?_|refine ak ?_ _));refine dw (cs:=#[.int .u8 t155,.int .u8 dJ,.int .u8 dI,.int .u8 dH,.int .i64 dG]) ?_ 1 _ rfl;(with_reducible repeat (first|refine au ?_ _|refine aC ?_|refine ak ?_ _));refine dw (cs:=#[.int .u8 dK,.int .u8 dJ,.int .u8 dI,.int .u8 dH,.int .i64 dG]) ?_ 0 _ rfl;(with_reducible repeat (first|refine au ?_ _|refine aC ?_|refine ak ?_ _));refine fA ?_ bu.out _;(with_reducible repeat (first|refine au ?_ _|refine aC ?_|refine ak ?_ _));refine fA ?_ bu.out _;(with_reducible repeat (first|refine au ?_ _|refine aC ?_|refine ak ?_ _));refine fA ?_ bu.out _;(with_reducible repeat (first|refine au ?_ _|refine aC ?_|refine ak ?_ _));refine fA ?_ bu.out _;(with_reducible repeat (first|refine au ?_ _|refine aC ?_|refine ak ?_ _));refine fA ?_ bu.out _;(with_reducible repeat (first|refine au ?_ _|refine aC ?_|refine ak ?_ _));exact bU.out⟩,⟨by repeat (first|(with_reducible first|exact HB.out|apply ay|apply ai|apply ax|refine aA ?_ jF.out|refine aA ?_ kS.out|refine aA ?_ lV.out)|exact HB.out)⟩⟩
              ·
               replace c21:=Bool.eq_false_iff.mpr c21
               subst c21
               have H1:(some (0,0,0,0,0,false))=some (r1,r2,r3,r4,r5,r6):=by rw [if_neg (show ¬ (false=true) by decide)] at H;exact H
               clear H
               have H:=H1
               clear H1
               simp only [Option.some.injEq,Prod.mk.injEq] at H
               obtain ⟨rfl,rfl,rfl,rfl,rfl,rfl⟩:=H
               have zn:0≤((o8):Int):=of_decide_eq_true (by first|(with_reducible assumption)|assumption)
               have zk:(o8) < (l0.length:Int):=of_decide_eq_true (by first|(with_reducible assumption)|assumption)
               obtain ⟨Vt,e152,oM⟩:=Kd.kU HR0.out (o8) zn zk
               cases e152
               replace oM:=(HB.out.cell (World.block_lt_of_cell? w _ oM)).trans oM
               replace zn:=eq_true zn
               replace zk:=eq_true zk
               try go_wp2_with (first|((with_reducible refine bT (f:=46) rfl ?_);refine gp (some 49) rfl rfl Tryd.func46 (by kernel_rfl) rfl #[.string (dV ByteArray.empty l0 (o8))] rfl (by (try simp only [List.map_toArray,List.map_cons,List.map_nil]);first|done|(simp only [wI];rfl)|rfl|(simp only [List.length_drop,List.length_take];rfl)) ?_;(with_reducible refine (aH.calls k3 (dV ByteArray.empty l0 (o8)) t153 t154 _ A16.out).mono ?_);rintro e w' ⟨rfl,⟨nd,rfl⟩⟩;refine ⟨_,rfl,?_⟩;(try (rw [qO wr];generalize zX:World.drewN wr _=wr;have eU:ae (wr.heap[gQ]? = some (.cells #[.int .u8 fZ,.int .u8 fO,.int .u8 fH,.int .u8 fC,.int .i64 dY] 39 (0,0))):=⟨by rw [← zX];exact (by (with_reducible repeat (first|refine au ?_ _|refine aC ?_|refine ak ?_ _));exact dO.out)⟩;have eQ:ae (wr.heap[eY]? = some (.cells #[.int .u8 dK,.int .u8 dJ,.int .u8 dI,.int .u8 dH,.int .i64 dG] 39 (0,0))):=⟨by rw [← zX];exact (by (with_reducible repeat (first|refine au ?_ _|refine aC ?_|refine ak ?_ _));exact bU.out)⟩;have eu:ae (Below w.heap.size w wr):=⟨by rw [← zX];exact (by repeat (first|(with_reducible first|exact HB.out|apply ay|apply ai|apply ax|refine aA ?_ jF.out|refine aA ?_ kS.out)|exact HB.out))⟩;clear dO bU HB zX;have dO:=eU;have bU:=eQ;have HB:=eu;clear eU eQ eu))))
               have eU:=ae.mk (aC dO.out)
               have eQ:=ae.mk (aC bU.out)
               have eu:=ae.mk (ax HB.out)
               clear dO
               clear bU
               clear HB
               have dO:=eU
               have bU:=eQ
               have HB:=eu
               clear eU eQ eu
               have EH:0≤(mZ:Int):=of_decide_eq_true (by first|(with_reducible assumption)|assumption)
               have EF:mZ < (t149.size:Int):=of_decide_eq_true (by first|(with_reducible assumption)|assumption)
               have NF:=kP t149 mZ
               replace EH:=eq_true EH
               replace EF:=eq_true EF
               refine qy (n:=12) (S:=fun w'=>w'.cell? ⟨eY,0,none⟩=some (.int .u8 dK)∧w'.cell? ⟨eY,1,none⟩=some (.int .u8 dJ)∧w'.cell? ⟨eY,2,none⟩=some (.int .u8 dI)∧w'.cell? ⟨eY,3,none⟩=some (.int .u8 dH)∧w'.cell? ⟨eY,4,none⟩=some (.int .i64 dG)) (ds:=[]) #[false,false,false,false,false,false,false,false,false,false,false,false] (by kernel_rfl) rfl rfl ⟨(ah bU.out 0).trans rfl,(ah bU.out 1).trans rfl,(ah bU.out 2).trans rfl,(ah bU.out 3).trans rfl,(ah bU.out 4).trans rfl⟩ (fun hHeld=>?_);refine mF aI.MM aI.G9 (fun jh tN=>?_)
               generalize wr.drew=Gi at dO bU HB hHeld ⊢
               refine iC (i:=1) (N:=some 54) (v:=?_) (a':=?_) #[false,true,false,false,false,false,false,false,false,false,false,false] rfl rfl (gq jh.out (by kernel_rfl)) (fun _ _ _ h=>h) (Or.inl ⟨by rfl,?_⟩) ?_ ?_
               rotate_left
               ·
                intro w'
                go_simp
                with_reducible rfl
               rotate_left
               ·
                simp only [Act.put,List.setIfInBounds_toArray,List.set_cons_zero,List.set_cons_succ,bY,bZ]
                rfl
               refine iC (i:=2) (N:=some 55) (v:=?_) (a':=?_) #[false,true,true,false,false,false,false,false,false,false,false,false] rfl rfl (gq jh.out (by kernel_rfl)) (fun _ _ _ h=>h) (Or.inl ⟨by rfl,?_⟩) ?_ ?_
               rotate_left
               ·
                intro w'
                go_simp
                with_reducible rfl
               rotate_left
               ·
                simp only [Act.put,List.setIfInBounds_toArray,List.set_cons_zero,List.set_cons_succ,bY,bZ]
                rfl
               refine iC (i:=4) (N:=some 57) (v:=?_) (a':=?_) #[false,true,true,false,true,false,false,false,false,false,false,false] rfl rfl (gq jh.out (by kernel_rfl)) (fun _ _ _ h=>h) (Or.inl ⟨by rfl,?_⟩) ?_ ?_
               rotate_left
               ·
                intro w'
                go_simp
                with_reducible rfl
               rotate_left
               ·
                simp only [Act.put,List.setIfInBounds_toArray,List.set_cons_zero,List.set_cons_succ,bY,bZ]
                rfl
               refine kM (i:=0) (N:=some 53) (v:=?_) (a':=?_) #[true,true,true,false,true,false,false,false,false,false,false,false] rfl rfl (iO jh.out tN.out (by kernel_rfl)) (fun _ _ _ h=>h) (Or.inl ⟨by rfl,?_⟩) hHeld ?_ ?_
               rotate_left
               ·
                rintro w' ⟨s0,s1,s2,s3,s4⟩
                go_simp
                with_reducible rfl
               rotate_left
               ·
                simp only [Act.put,List.setIfInBounds_toArray,List.set_cons_zero,List.set_cons_succ,bY,bZ]
                rfl
               refine kM (i:=3) (N:=some 56) (v:=?_) (a':=?_) #[true,true,true,true,true,false,false,false,false,false,false,false] rfl rfl (iO jh.out tN.out (by kernel_rfl)) (fun _ _ _ h=>h) (Or.inl ⟨by rfl,?_⟩) hHeld ?_ ?_
               rotate_left
               ·
                rintro w' ⟨s0,s1,s2,s3,s4⟩
                go_simp
                with_reducible rfl
               rotate_left
               ·
                simp only [Act.put,List.setIfInBounds_toArray,List.set_cons_zero,List.set_cons_succ,bY,bZ]
                rfl
               refine II (σ:=Nat) 2 #[true,true,true,true,true,true,true,true,true,true,false,false] (fun s_=>[(58,.tuple #[.agg #[.int .u8 t155,.int .u8 t156,.int .u8 t157,.int .u8 t158,.int .i64 t159],.bool false]),(11,.pointer (some ⟨s_,0,none⟩)),(52,.tuple #[.agg #[.int .u8 t155,.int .u8 t156,.int .u8 t157,.int .u8 t158,.int .i64 t159],.bool false]),(59,.agg #[.int .u8 t155,.int .u8 t156,.int .u8 t157,.int .u8 t158,.int .i64 t159]),(60,.bool false)]) (fun s_ w'=>(w'.cell? ⟨eY,0,none⟩=some (.int .u8 dK)∧w'.cell? ⟨eY,1,none⟩=some (.int .u8 dJ)∧w'.cell? ⟨eY,2,none⟩=some (.int .u8 dI)∧w'.cell? ⟨eY,3,none⟩=some (.int .u8 dH)∧w'.cell? ⟨eY,4,none⟩=some (.int .i64 dG))∧(w'.heap[gQ]? = some (.cells #[.int .u8 fZ,.int .u8 fO,.int .u8 fH,.int .u8 fC,.int .i64 dY] 39 (0,0)))∧(w'.heap[eY]? = some (.cells #[.int .u8 dK,.int .u8 dJ,.int .u8 dI,.int .u8 dH,.int .i64 dG] 39 (0,0)))∧(w'.heap[s_]? = some (.cells #[.int .u8 0,.int .u8 0,.int .u8 0,.int .u8 0,.int .i64 0] 39 (0,0)))∧(w.heap.size≤s_)∧(w.heap.size≤s_)∧(gQ ≠ s_)∧(s_ ≠ gQ)∧(eY ≠ s_)∧(s_ ≠ eY)∧(Below w.heap.size w w')) ?_ ?_
               rotate_left
               ·
                intro xM
                refine PX (i:=5) (j:=9) (Ni:=some 58) (Nj:=some 11) #[true,true,true,true,true,true,false,false,false,false,false,false] #[true,true,true,true,true,false,false,false,false,true,false,false] rfl rfl rfl rfl (Gl jh.out (by kernel_rfl)) (by decide) (by decide) (fun K hK=>?_) (fun K hK=>?_)
                ·
                 skip
                 refine nR Tryd.func47 (by kernel_rfl) rfl #[.agg #[.int .u8 dK,.int .u8 dJ,.int .u8 dI,.int .u8 dH,.int .i64 dG],.int .u8 (bt t149 mZ),.int .i64 t153] (by rfl) rfl rfl (by (try simp only [List.map_toArray,List.map_cons,List.map_nil]);first|done|rfl|(simp only [List.length_drop,List.length_take];rfl)) ?_
                 with_reducible refine (bf.calls k3 dK dJ dI dH dG (bt t149 mZ) t153 t155 t156 t157 t158 t159 false _ VL.out).mono ?_
                 rintro e VR ⟨rfl,hb⟩
                 refine ⟨_,rfl,?_⟩
                 have eU:=ae.mk (bK (g:=gQ) (o:=.cells #[.int .u8 fZ,.int .u8 fO,.int .u8 fH,.int .u8 fC,.int .i64 dY] 39 (0,0)) (by (with_reducible repeat (first|refine au ?_ _|refine aC ?_|refine ak ?_ _));exact dO.out) hb)
                 have eQ:=ae.mk (bK (g:=eY) (o:=.cells #[.int .u8 dK,.int .u8 dJ,.int .u8 dI,.int .u8 dH,.int .i64 dG] 39 (0,0)) (by (with_reducible repeat (first|refine au ?_ _|refine aC ?_|refine ak ?_ _));exact bU.out) hb)
                 have eu:=ae.mk (bz (by repeat (first|(with_reducible first|exact HB.out|apply ay|apply ai|apply ax|refine aA ?_ jF.out|refine aA ?_ kS.out)|exact HB.out)) hb)
                 clear dO
                 clear bU
                 clear HB
                 have dO:=eU
                 have bU:=eQ
                 have HB:=eu
                 clear eU eQ eu
                 (try clear hb)
                 (try clear hb2)
                 (try clear hk)
                 (try clear hi)
                 refine hK.out _ _ ⟨(ah bU.out 0).trans rfl,(ah bU.out 1).trans rfl,(ah bU.out 2).trans rfl,(ah bU.out 3).trans rfl,(ah bU.out 4).trans rfl⟩ (fun hHeld=>?_)
                 clear hK K
                 refine je (a':=?_) ?_ ?_
                 rotate_left
                 ·
                  show Act.put _ (some 58) _=_
                  simp only [Act.put,List.setIfInBounds_toArray,List.set_cons_zero,List.set_cons_succ,bY,bZ]
                  rfl
                 refine iC (i:=6) (N:=some 52) (v:=?_) (a':=?_) #[true,true,true,true,true,true,true,false,false,false,false,false] rfl rfl (gq jh.out (by kernel_rfl)) (fun _ _ _ h=>h) (Or.inl ⟨by rfl,?_⟩) ?_ ?_
                 rotate_left
                 ·
                  intro w'
                  go_simp
                  with_reducible rfl
                 rotate_left
                 ·
                  simp only [Act.put,List.setIfInBounds_toArray,List.set_cons_zero,List.set_cons_succ,bY,bZ]
                  rfl
                 refine iC (i:=7) (N:=some 59) (v:=?_) (a':=?_) #[true,true,true,true,true,true,true,true,false,false,false,false] rfl rfl (gq jh.out (by kernel_rfl)) (fun _ _ _ h=>h) (Or.inl ⟨by rfl,?_⟩) ?_ ?_
                 rotate_left
                 ·
                  intro w'
                  go_simp
                  with_reducible rfl
                 rotate_left
                 ·
                  simp only [Act.put,List.setIfInBounds_toArray,List.set_cons_zero,List.set_cons_succ,bY,bZ]
                  rfl
                 refine iC (i:=8) (N:=some 60) (v:=?_) (a':=?_) #[true,true,true,true,true,true,true,true,true,false,false,false] rfl rfl (gq jh.out (by kernel_rfl)) (fun _ _ _ h=>h) (Or.inl ⟨by rfl,?_⟩) ?_ ?_
                 rotate_left
                 ·
                  intro w'
                  go_simp
                  with_reducible rfl
                 rotate_left
                 ·
                  simp only [Act.put,List.setIfInBounds_toArray,List.set_cons_zero,List.set_cons_succ,bY,bZ]
                  rfl
                 refine oD (i:=9) (N:=some 11) #[true,true,true,true,true,true,true,true,true,true,false,false] rfl rfl (kG jh.out (by kernel_rfl)) (by decide) (fun K hK=>?_)
                 refine rY ?hg (N:=11) ?hd (cs:=#[.int .u8 0,.int .u8 0,.int .u8 0,.int .u8 0,.int .i64 0]) (t:=39) ?hr ?_;(case hd=>rfl);(case hg=>rfl);(case hr=>first|(go_simp;done)|(go_simp;rfl))
                 intro dm hg w38 hbox hb
                 have eU:=ae.mk (bK (g:=gQ) (o:=.cells #[.int .u8 fZ,.int .u8 fO,.int .u8 fH,.int .u8 fC,.int .i64 dY] 39 (0,0)) (by (with_reducible repeat (first|refine au ?_ _|refine aC ?_|refine ak ?_ _));exact dO.out) hb)
                 have eQ:=ae.mk (bK (g:=eY) (o:=.cells #[.int .u8 dK,.int .u8 dJ,.int .u8 dI,.int .u8 dH,.int .i64 dG] 39 (0,0)) (by (with_reducible repeat (first|refine au ?_ _|refine aC ?_|refine ak ?_ _));exact bU.out) hb)
                 have eu:=ae.mk (bz (by repeat (first|(with_reducible first|exact HB.out|apply ay|apply ai|apply ax|refine aA ?_ jF.out|refine aA ?_ kS.out)|exact HB.out)) hb)
                 have ig:=ae.mk (hbox)
                 have mW:=ae.mk ((by rw [hg];exact (cu (by repeat (first|(with_reducible first|exact HB.out|apply ay|apply ai|apply ax|refine aA ?_ jF.out|refine aA ?_ kS.out)|exact HB.out))):w.heap.size≤dm))
                 have mM:=mW
                 have nD:=ae.mk ((by rw [hg];exact Nat.ne_of_lt (jJ (g:=gQ) (o:=.cells #[.int .u8 fZ,.int .u8 fO,.int .u8 fH,.int .u8 fC,.int .i64 dY] 39 (0,0)) (by (with_reducible repeat (first|refine au ?_ _|refine aC ?_|refine ak ?_ _));exact dO.out)):gQ ≠ dm))
                 have uS:=ae.mk nD.out.symm
                 have uQ:=ae.mk ((by rw [hg];exact Nat.ne_of_lt (jJ (g:=eY) (o:=.cells #[.int .u8 dK,.int .u8 dJ,.int .u8 dI,.int .u8 dH,.int .i64 dG] 39 (0,0)) (by (with_reducible repeat (first|refine au ?_ _|refine aC ?_|refine ak ?_ _));exact bU.out)):eY ≠ dm))
                 have xJ:=ae.mk uQ.out.symm
                 clear dO
                 clear bU
                 clear HB
                 have dO:=eU
                 have bU:=eQ
                 have HB:=eu
                 have iD:=ig
                 have rE:=mW
                 have lV:=mM
                 have eG:=nD
                 have gW:=uS
                 have bu:=uQ
                 have gY:=xJ
                 clear eU eQ eu ig mW mM nD uS uQ xJ
                 clear hb hbox hg
                 refine hK.out _ _ ⟨(ah bU.out 0).trans rfl,(ah bU.out 1).trans rfl,(ah bU.out 2).trans rfl,(ah bU.out 3).trans rfl,(ah bU.out 4).trans rfl⟩ (fun hHeld=>?_)
                 clear hK K
                 refine je (a':=?_) ?_ ?_
                 rotate_left
                 ·
                  show Act.put _ (some 11) _=_
                  simp only [Act.put,List.setIfInBounds_toArray,List.set_cons_zero,List.set_cons_succ,bY,bZ]
                  rfl
                 exact je (by simp only [jO,Act.put,List.setIfInBounds_toArray,List.set_cons_zero,List.set_cons_succ]) (xM (dm) _ ⟨hHeld,(by (with_reducible repeat (first|refine au ?_ _|refine aC ?_|refine ak ?_ _));exact dO.out),(by (with_reducible repeat (first|refine au ?_ _|refine aC ?_|refine ak ?_ _));exact bU.out),(by (with_reducible repeat (first|refine au ?_ _|refine aC ?_|refine ak ?_ _));exact iD.out),rE.out,lV.out,eG.out,gW.out,bu.out,gY.out,(by repeat (first|(with_reducible first|exact HB.out|apply ay|apply ai|apply ax|refine aA ?_ jF.out|refine aA ?_ kS.out|refine aA ?_ lV.out)|exact HB.out))⟩)
                ·
                 skip
                 refine rY ?hg (N:=11) ?hd (cs:=#[.int .u8 0,.int .u8 0,.int .u8 0,.int .u8 0,.int .i64 0]) (t:=39) ?hr ?_;(case hd=>rfl);(case hg=>rfl);(case hr=>first|(go_simp;done)|(go_simp;rfl))
                 intro dm hg VR hbox hb
                 have eU:=ae.mk (bK (g:=gQ) (o:=.cells #[.int .u8 fZ,.int .u8 fO,.int .u8 fH,.int .u8 fC,.int .i64 dY] 39 (0,0)) (by (with_reducible repeat (first|refine au ?_ _|refine aC ?_|refine ak ?_ _));exact dO.out) hb)
                 have eQ:=ae.mk (bK (g:=eY) (o:=.cells #[.int .u8 dK,.int .u8 dJ,.int .u8 dI,.int .u8 dH,.int .i64 dG] 39 (0,0)) (by (with_reducible repeat (first|refine au ?_ _|refine aC ?_|refine ak ?_ _));exact bU.out) hb)
                 have eu:=ae.mk (bz (by repeat (first|(with_reducible first|exact HB.out|apply ay|apply ai|apply ax|refine aA ?_ jF.out|refine aA ?_ kS.out)|exact HB.out)) hb)
                 have ig:=ae.mk (hbox)
                 have mW:=ae.mk ((by rw [hg];exact (cu (by repeat (first|(with_reducible first|exact HB.out|apply ay|apply ai|apply ax|refine aA ?_ jF.out|refine aA ?_ kS.out)|exact HB.out))):w.heap.size≤dm))
                 have mM:=mW
                 have nD:=ae.mk ((by rw [hg];exact Nat.ne_of_lt (jJ (g:=gQ) (o:=.cells #[.int .u8 fZ,.int .u8 fO,.int .u8 fH,.int .u8 fC,.int .i64 dY] 39 (0,0)) (by (with_reducible repeat (first|refine au ?_ _|refine aC ?_|refine ak ?_ _));exact dO.out)):gQ ≠ dm))
                 have uS:=ae.mk nD.out.symm
                 have uQ:=ae.mk ((by rw [hg];exact Nat.ne_of_lt (jJ (g:=eY) (o:=.cells #[.int .u8 dK,.int .u8 dJ,.int .u8 dI,.int .u8 dH,.int .i64 dG] 39 (0,0)) (by (with_reducible repeat (first|refine au ?_ _|refine aC ?_|refine ak ?_ _));exact bU.out)):eY ≠ dm))
                 have xJ:=ae.mk uQ.out.symm
                 clear dO
                 clear bU
                 clear HB
                 have dO:=eU
                 have bU:=eQ
                 have HB:=eu
                 have iD:=ig
                 have rE:=mW
                 have lV:=mM
                 have eG:=nD
                 have gW:=uS
                 have bu:=uQ
                 have gY:=xJ
                 clear eU eQ eu ig mW mM nD uS uQ xJ
                 clear hb hbox hg
                 refine hK.out _ _ ⟨(ah bU.out 0).trans rfl,(ah bU.out 1).trans rfl,(ah bU.out 2).trans rfl,(ah bU.out 3).trans rfl,(ah bU.out 4).trans rfl⟩ (fun hHeld=>?_)
                 clear hK K
                 refine je (a':=?_) ?_ ?_
                 rotate_left
                 ·
                  show Act.put _ (some 11) _=_
                  simp only [Act.put,List.setIfInBounds_toArray,List.set_cons_zero,List.set_cons_succ,bY,bZ]
                  rfl
                 refine oD (i:=5) (N:=some 58) #[true,true,true,true,true,true,false,false,false,true,false,false] rfl rfl (kG jh.out (by kernel_rfl)) (by decide) (fun K hK=>?_)
                 refine nR Tryd.func47 (by kernel_rfl) rfl #[.agg #[.int .u8 dK,.int .u8 dJ,.int .u8 dI,.int .u8 dH,.int .i64 dG],.int .u8 (bt t149 mZ),.int .i64 t153] (by rfl) rfl rfl (by (try simp only [List.map_toArray,List.map_cons,List.map_nil]);first|done|rfl|(simp only [List.length_drop,List.length_take];rfl)) ?_
                 with_reducible refine (bf.calls k3 dK dJ dI dH dG (bt t149 mZ) t153 t155 t156 t157 t158 t159 false _ VL.out).mono ?_
                 rintro e w38 ⟨rfl,hb⟩
                 refine ⟨_,rfl,?_⟩
                 have eU:=ae.mk (bK (g:=gQ) (o:=.cells #[.int .u8 fZ,.int .u8 fO,.int .u8 fH,.int .u8 fC,.int .i64 dY] 39 (0,0)) (by (with_reducible repeat (first|refine au ?_ _|refine aC ?_|refine ak ?_ _));exact dO.out) hb)
                 have eQ:=ae.mk (bK (g:=eY) (o:=.cells #[.int .u8 dK,.int .u8 dJ,.int .u8 dI,.int .u8 dH,.int .i64 dG] 39 (0,0)) (by (with_reducible repeat (first|refine au ?_ _|refine aC ?_|refine ak ?_ _));exact bU.out) hb)
                 have eu:=ae.mk (bK (g:=dm) (o:=.cells #[.int .u8 0,.int .u8 0,.int .u8 0,.int .u8 0,.int .i64 0] 39 (0,0)) (by (with_reducible repeat (first|refine au ?_ _|refine aC ?_|refine ak ?_ _));exact iD.out) hb)
                 have ig:=ae.mk (bz (by repeat (first|(with_reducible first|exact HB.out|apply ay|apply ai|apply ax|refine aA ?_ jF.out|refine aA ?_ kS.out|refine aA ?_ lV.out)|exact HB.out)) hb)
                 clear dO
                 clear bU
                 clear iD
                 clear HB
                 have dO:=eU
                 have bU:=eQ
                 have iD:=eu
                 have HB:=ig
                 clear eU eQ eu ig
                 (try clear hb)
                 (try clear hb2)
                 (try clear hk)
                 (try clear hi)
                 refine hK.out _ _ ⟨(ah bU.out 0).trans rfl,(ah bU.out 1).trans rfl,(ah bU.out 2).trans rfl,(ah bU.out 3).trans rfl,(ah bU.out 4).trans rfl⟩ (fun hHeld=>?_)
                 clear hK K
                 refine je (a':=?_) ?_ ?_
                 rotate_left
                 ·
                  show Act.put _ (some 58) _=_
                  simp only [Act.put,List.setIfInBounds_toArray,List.set_cons_zero,List.set_cons_succ,bY,bZ]
                  rfl
                 refine iC (i:=6) (N:=some 52) (v:=?_) (a':=?_) #[true,true,true,true,true,true,true,false,false,true,false,false] rfl rfl (gq jh.out (by kernel_rfl)) (fun _ _ _ h=>h) (Or.inl ⟨by rfl,?_⟩) ?_ ?_
                 rotate_left
                 ·
                  intro w'
                  go_simp
                  with_reducible rfl
                 rotate_left
                 ·
                  simp only [Act.put,List.setIfInBounds_toArray,List.set_cons_zero,List.set_cons_succ,bY,bZ]
                  rfl
                 refine iC (i:=7) (N:=some 59) (v:=?_) (a':=?_) #[true,true,true,true,true,true,true,true,false,true,false,false] rfl rfl (gq jh.out (by kernel_rfl)) (fun _ _ _ h=>h) (Or.inl ⟨by rfl,?_⟩) ?_ ?_
                 rotate_left
                 ·
                  intro w'
                  go_simp
                  with_reducible rfl
                 rotate_left
                 ·
                  simp only [Act.put,List.setIfInBounds_toArray,List.set_cons_zero,List.set_cons_succ,bY,bZ]
                  rfl
                 refine iC (i:=8) (N:=some 60) (v:=?_) (a':=?_) #[true,true,true,true,true,true,true,true,true,true,false,false] rfl rfl (gq jh.out (by kernel_rfl)) (fun _ _ _ h=>h) (Or.inl ⟨by rfl,?_⟩) ?_ ?_
                 rotate_left
                 ·
                  intro w'
                  go_simp
                  with_reducible rfl
                 rotate_left
                 ·
                  simp only [Act.put,List.setIfInBounds_toArray,List.set_cons_zero,List.set_cons_succ,bY,bZ]
                  rfl
                 exact je (by simp only [jO,Act.put,List.setIfInBounds_toArray,List.set_cons_zero,List.set_cons_succ]) (xM (dm) _ ⟨hHeld,(by (with_reducible repeat (first|refine au ?_ _|refine aC ?_|refine ak ?_ _));exact dO.out),(by (with_reducible repeat (first|refine au ?_ _|refine aC ?_|refine ak ?_ _));exact bU.out),(by (with_reducible repeat (first|refine au ?_ _|refine aC ?_|refine ak ?_ _));exact iD.out),rE.out,lV.out,eG.out,gW.out,bu.out,gY.out,(by repeat (first|(with_reducible first|exact HB.out|apply ay|apply ai|apply ax|refine aA ?_ jF.out|refine aA ?_ kS.out|refine aA ?_ lV.out)|exact HB.out))⟩)
               rintro dm yz ⟨xq,Vf,Ve,Vd,Vb,Va,U9,U7,U6,U5,U4⟩
               have eU:ae (yz.heap[gQ]? = some (.cells #[.int .u8 fZ,.int .u8 fO,.int .u8 fH,.int .u8 fC,.int .i64 dY] 39 (0,0))):=⟨Vf⟩
               have eQ:ae (yz.heap[eY]? = some (.cells #[.int .u8 dK,.int .u8 dJ,.int .u8 dI,.int .u8 dH,.int .i64 dG] 39 (0,0))):=⟨Ve⟩
               have eu:ae (yz.heap[dm]? = some (.cells #[.int .u8 0,.int .u8 0,.int .u8 0,.int .u8 0,.int .i64 0] 39 (0,0))):=⟨Vd⟩
               have ig:ae (w.heap.size≤dm):=⟨Vb⟩
               have mW:ae (w.heap.size≤dm):=⟨Va⟩
               have mM:ae (gQ ≠ dm):=⟨U9⟩
               have nD:ae (dm ≠ gQ):=⟨U7⟩
               have uS:ae (eY ≠ dm):=⟨U6⟩
               have uQ:ae (dm ≠ eY):=⟨U5⟩
               have xJ:ae (Below w.heap.size w yz):=⟨U4⟩
               clear dO
               clear bU
               clear HB
               clear Vf Ve Vd Vb Va U9 U7 U6 U5 U4
               have dO:=eU
               have bU:=eQ
               have iD:=eu
               have rE:=ig
               have lV:=mW
               have eG:=mM
               have gW:=nD
               have bu:=uS
               have gY:=uQ
               have HB:=xJ
               clear eU eQ eu ig mW mM nD uS uQ xJ
               have hHeld:yz.cell? ⟨eY,0,none⟩=some (.int .u8 dK)∧yz.cell? ⟨eY,1,none⟩=some (.int .u8 dJ)∧yz.cell? ⟨eY,2,none⟩=some (.int .u8 dI)∧yz.cell? ⟨eY,3,none⟩=some (.int .u8 dH)∧yz.cell? ⟨eY,4,none⟩=some (.int .i64 dG):=xq
               refine je (a':=?_) ?_ ?_
               rotate_left
               ·
                simp only [jO,Act.put,List.setIfInBounds_toArray,List.set_cons_zero,List.set_cons_succ]
                rfl
               refine oD (i:=10) (N:=none) #[true,true,true,true,true,true,true,true,true,true,true,false] rfl rfl (kG jh.out (by kernel_rfl)) (by decide) (fun K hK=>?_)
               have ako:yz.cell? ⟨dm,0,none⟩=some (.int .u8 0):=(ah iD.out 0).trans rfl
               have aiL:=ag iD.out 0
               have abQ:=eG.out
               have abP:=bu.out
               have aco:=gW.out
               have acn:=gY.out
               have akn:yz.cell? ⟨dm,1,none⟩=some (.int .u8 0):=(ah iD.out 1).trans rfl
               have aiK:=ag iD.out 1
               have abO:=eG.out
               have abN:=bu.out
               have acm:=gW.out
               have ack:=gY.out
               have akm:yz.cell? ⟨dm,2,none⟩=some (.int .u8 0):=(ah iD.out 2).trans rfl
               have aiJ:=ag iD.out 2
               have abM:=eG.out
               have abL:=bu.out
               have acj:=gW.out
               have aci:=gY.out
               have akl:yz.cell? ⟨dm,3,none⟩=some (.int .u8 0):=(ah iD.out 3).trans rfl
               have aiI:=ag iD.out 3
               have abK:=eG.out
               have abJ:=bu.out
               have ach:=gW.out
               have acg:=gY.out
               have akk:yz.cell? ⟨dm,4,none⟩=some (.int .i64 0):=(ah iD.out 4).trans rfl
               have aiH:=ag iD.out 4
               have abI:=eG.out
               have abH:=bu.out
               have acf:=gW.out
               have ace:=gY.out
               refine MQ (w1:=?_) (by rfl) rfl ?_ ?_
               rotate_left
               ·
                go_simp
                rfl
               refine hK.out _ _ ⟨((cell_far (p:=⟨dm,_,none⟩) bu.out _).trans (((cell_far (p:=⟨dm,_,none⟩) bu.out _).trans (((cell_far (p:=⟨dm,_,none⟩) bu.out _).trans (((cell_far (p:=⟨dm,_,none⟩) bu.out _).trans (((cell_far (p:=⟨dm,_,none⟩) bu.out _).trans (hHeld.1)))))))))),((cell_far (p:=⟨dm,_,none⟩) bu.out _).trans (((cell_far (p:=⟨dm,_,none⟩) bu.out _).trans (((cell_far (p:=⟨dm,_,none⟩) bu.out _).trans (((cell_far (p:=⟨dm,_,none⟩) bu.out _).trans (((cell_far (p:=⟨dm,_,none⟩) bu.out _).trans (hHeld.2.1)))))))))),((cell_far (p:=⟨dm,_,none⟩) bu.out _).trans (((cell_far (p:=⟨dm,_,none⟩) bu.out _).trans (((cell_far (p:=⟨dm,_,none⟩) bu.out _).trans (((cell_far (p:=⟨dm,_,none⟩) bu.out _).trans (((cell_far (p:=⟨dm,_,none⟩) bu.out _).trans (hHeld.2.2.1)))))))))),((cell_far (p:=⟨dm,_,none⟩) bu.out _).trans (((cell_far (p:=⟨dm,_,none⟩) bu.out _).trans (((cell_far (p:=⟨dm,_,none⟩) bu.out _).trans (((cell_far (p:=⟨dm,_,none⟩) bu.out _).trans (((cell_far (p:=⟨dm,_,none⟩) bu.out _).trans (hHeld.2.2.2.1)))))))))),((cell_far (p:=⟨dm,_,none⟩) bu.out _).trans (((cell_far (p:=⟨dm,_,none⟩) bu.out _).trans (((cell_far (p:=⟨dm,_,none⟩) bu.out _).trans (((cell_far (p:=⟨dm,_,none⟩) bu.out _).trans (((cell_far (p:=⟨dm,_,none⟩) bu.out _).trans (hHeld.2.2.2.2))))))))))⟩ (fun hHeld=>?_)
               clear hK K
               refine iC (i:=11) (N:=some 12) (v:=?_) (a':=?_) #[true,true,true,true,true,true,true,true,true,true,true,true] rfl rfl (gq jh.out (by kernel_rfl)) (fun _ _ _ h=>h) (Or.inl ⟨by rfl,?_⟩) ?_ ?_
               rotate_left
               ·
                intro w'
                go_simp
                with_reducible rfl
               rotate_left
               ·
                simp only [Act.put,List.setIfInBounds_toArray,List.set_cons_zero,List.set_cons_succ,bY,bZ]
                rfl
               refine tu (pX jh.out (by kernel_rfl)) ?_
               have aip:=jP.out
               have ah5:=rZ.out
               have aio:=eG.out
               have ah4:=gW.out
               have aeU:yz.cell? ⟨gQ,0,none⟩=some (.int .u8 fZ):=(ah dO.out 0).trans rfl
               have aeT:yz.cell? ⟨gQ,1,none⟩=some (.int .u8 fO):=(ah dO.out 1).trans rfl
               have aeS:yz.cell? ⟨gQ,2,none⟩=some (.int .u8 fH):=(ah dO.out 2).trans rfl
               have aeR:yz.cell? ⟨gQ,3,none⟩=some (.int .u8 fC):=(ah dO.out 3).trans rfl
               have aeQ:yz.cell? ⟨gQ,4,none⟩=some (.int .i64 dY):=(ah dO.out 4).trans rfl
               have adq:=ag dO.out 0
               have adp:=ag dO.out 1
               have ado:=ag dO.out 2
               have adn:=ag dO.out 3
               have adm:=ag dO.out 4
               try go_wp2
               refine bodyPost_ret (l7 rfl _ _ gQ 39 #[.int .u8 0,.int .u8 0,.int .u8 0,.int .u8 0,.int .i64 0] (0,0) _ rfl (by (with_reducible repeat (first|refine au ?_ _|refine aC ?_|refine ak ?_ _));refine dw (cs:=#[.int .u8 0,.int .u8 0,.int .u8 0,.int .u8 0,.int .i64 dY]) ?_ 4 _ rfl;(with_reducible repeat (first|refine au ?_ _|refine aC ?_|refine ak ?_ _));refine dw (cs:=#[.int .u8 0,.int .u8 0,.int .u8 0,.int .u8 fC,.int .i64 dY]) ?_ 3 _ rfl;(with_reducible repeat (first|refine au ?_ _|refine aC ?_|refine ak ?_ _));refine dw (cs:=#[.int .u8 0,.int .u8 0,.int .u8 fH,.int .u8 fC,.int .i64 dY]) ?_ 2 _ rfl;(with_reducible repeat (first|refine au ?_ _|refine aC ?_|refine ak ?_ _));refine dw (cs:=#[.int .u8 0,.int .u8 fO,.int .u8 fH,.int .u8 fC,.int .i64 dY]) ?_ 1 _ rfl;(with_reducible repeat (first|refine au ?_ _|refine aC ?_|refine ak ?_ _));refine dw (cs:=#[.int .u8 fZ,.int .u8 fO,.int .u8 fH,.int .u8 fC,.int .i64 dY]) ?_ 0 _ rfl;(with_reducible repeat (first|refine au ?_ _|refine aC ?_|refine ak ?_ _));refine fA ?_ eG.out _;(with_reducible repeat (first|refine au ?_ _|refine aC ?_|refine ak ?_ _));refine fA ?_ eG.out _;(with_reducible repeat (first|refine au ?_ _|refine aC ?_|refine ak ?_ _));refine fA ?_ eG.out _;(with_reducible repeat (first|refine au ?_ _|refine aC ?_|refine ak ?_ _));refine fA ?_ eG.out _;(with_reducible repeat (first|refine au ?_ _|refine aC ?_|refine ak ?_ _));refine fA ?_ eG.out _;(with_reducible repeat (first|refine au ?_ _|refine aC ?_|refine ak ?_ _));exact dO.out) Tryd.underlying39 rfl (by kernel_rfl)) rfl ?_
               exact ⟨by first|rfl|(simp [aT,aQ] <;> rfl)|(simp only [← wI];first|rfl|(simp [aT,aQ] <;> rfl))|(simp [*,aT,aQ] <;> rfl),by repeat (first|(with_reducible first|exact HB.out|apply ay|apply ai|apply ax|refine aA ?_ jF.out|refine aA ?_ kS.out|refine aA ?_ lV.out)|exact HB.out)⟩
             ·
              rw [if_neg c20] at H
              have OG:(t154 == 0)=false:=beq_eq_false_iff_ne.mpr c20
              have Vo:(t154 != 0)=true:=bne_iff_ne.mpr c20
              simp only [Option.some.injEq,Prod.mk.injEq] at H
              obtain ⟨rfl,rfl,rfl,rfl,rfl,rfl⟩:=H
              have zn:0≤((o8):Int):=of_decide_eq_true (by first|(with_reducible assumption)|assumption)
              have zk:(o8) < (l0.length:Int):=of_decide_eq_true (by first|(with_reducible assumption)|assumption)
              obtain ⟨Vt,e152,oM⟩:=Kd.kU HR0.out (o8) zn zk
              cases e152
              replace oM:=(HB.out.cell (World.block_lt_of_cell? w _ oM)).trans oM
              replace zn:=eq_true zn
              replace zk:=eq_true zk
              try go_wp2_with (first|((with_reducible refine bT (f:=46) rfl ?_);refine gp (some 49) rfl rfl Tryd.func46 (by kernel_rfl) rfl #[.string (dV ByteArray.empty l0 (o8))] rfl (by (try simp only [List.map_toArray,List.map_cons,List.map_nil]);first|done|(simp only [wI];rfl)|rfl|(simp only [List.length_drop,List.length_take];rfl)) ?_;(with_reducible refine (aH.calls k3 (dV ByteArray.empty l0 (o8)) t153 t154 _ A16.out).mono ?_);rintro e w' ⟨rfl,⟨nd,rfl⟩⟩;refine ⟨_,rfl,?_⟩;(try (rw [qO wr];generalize zX:World.drewN wr _=wr;have eU:ae (wr.heap[gQ]? = some (.cells #[.int .u8 fZ,.int .u8 fO,.int .u8 fH,.int .u8 fC,.int .i64 dY] 39 (0,0))):=⟨by rw [← zX];exact (by (with_reducible repeat (first|refine au ?_ _|refine aC ?_|refine ak ?_ _));exact dO.out)⟩;have eQ:ae (wr.heap[eY]? = some (.cells #[.int .u8 dK,.int .u8 dJ,.int .u8 dI,.int .u8 dH,.int .i64 dG] 39 (0,0))):=⟨by rw [← zX];exact (by (with_reducible repeat (first|refine au ?_ _|refine aC ?_|refine ak ?_ _));exact bU.out)⟩;have eu:ae (Below w.heap.size w wr):=⟨by rw [← zX];exact (by repeat (first|(with_reducible first|exact HB.out|apply ay|apply ai|apply ax|refine aA ?_ jF.out|refine aA ?_ kS.out)|exact HB.out))⟩;clear dO bU HB zX;have dO:=eU;have bU:=eQ;have HB:=eu;clear eU eQ eu))))
              have eU:=ae.mk (aC dO.out)
              have eQ:=ae.mk (aC bU.out)
              have eu:=ae.mk (ax HB.out)
              clear dO
              clear bU
              clear HB
              have dO:=eU
              have bU:=eQ
              have HB:=eu
              clear eU eQ eu
              have EH:0≤(mZ:Int):=of_decide_eq_true (by first|(with_reducible assumption)|assumption)
              have EF:mZ < (t149.size:Int):=of_decide_eq_true (by first|(with_reducible assumption)|assumption)
              have NF:=kP t149 mZ
              replace EH:=eq_true EH
              replace EF:=eq_true EF
              refine qy (n:=12) (S:=fun w'=>w'.cell? ⟨eY,0,none⟩=some (.int .u8 dK)∧w'.cell? ⟨eY,1,none⟩=some (.int .u8 dJ)∧w'.cell? ⟨eY,2,none⟩=some (.int .u8 dI)∧w'.cell? ⟨eY,3,none⟩=some (.int .u8 dH)∧w'.cell? ⟨eY,4,none⟩=some (.int .i64 dG)) (ds:=[]) #[false,false,false,false,false,false,false,false,false,false,false,false] (by kernel_rfl) rfl rfl ⟨(ah bU.out 0).trans rfl,(ah bU.out 1).trans rfl,(ah bU.out 2).trans rfl,(ah bU.out 3).trans rfl,(ah bU.out 4).trans rfl⟩ (fun hHeld=>?_);refine mF aI.MM aI.G9 (fun jh tN=>?_)
              generalize wr.drew=w48 at dO bU HB hHeld ⊢
              refine iC (i:=1) (N:=some 54) (v:=?_) (a':=?_) #[false,true,false,false,false,false,false,false,false,false,false,false] rfl rfl (gq jh.out (by kernel_rfl)) (fun _ _ _ h=>h) (Or.inl ⟨by rfl,?_⟩) ?_ ?_
              rotate_left
              ·
               intro w'
               go_simp
               with_reducible rfl
              rotate_left
              ·
               simp only [Act.put,List.setIfInBounds_toArray,List.set_cons_zero,List.set_cons_succ,bY,bZ]
               rfl
              refine iC (i:=2) (N:=some 55) (v:=?_) (a':=?_) #[false,true,true,false,false,false,false,false,false,false,false,false] rfl rfl (gq jh.out (by kernel_rfl)) (fun _ _ _ h=>h) (Or.inl ⟨by rfl,?_⟩) ?_ ?_
              rotate_left
              ·
               intro w'
               go_simp
               with_reducible rfl
              rotate_left
              ·
               simp only [Act.put,List.setIfInBounds_toArray,List.set_cons_zero,List.set_cons_succ,bY,bZ]
               rfl
              refine iC (i:=4) (N:=some 57) (v:=?_) (a':=?_) #[false,true,true,false,true,false,false,false,false,false,false,false] rfl rfl (gq jh.out (by kernel_rfl)) (fun _ _ _ h=>h) (Or.inl ⟨by rfl,?_⟩) ?_ ?_
              rotate_left
              ·
               intro w'
               go_simp
               with_reducible rfl
              rotate_left
              ·
               simp only [Act.put,List.setIfInBounds_toArray,List.set_cons_zero,List.set_cons_succ,bY,bZ]
               rfl
              refine kM (i:=0) (N:=some 53) (v:=?_) (a':=?_) #[true,true,true,false,true,false,false,false,false,false,false,false] rfl rfl (iO jh.out tN.out (by kernel_rfl)) (fun _ _ _ h=>h) (Or.inl ⟨by rfl,?_⟩) hHeld ?_ ?_
              rotate_left
              ·
               rintro w' ⟨s0,s1,s2,s3,s4⟩
               go_simp
               with_reducible rfl
              rotate_left
              ·
               simp only [Act.put,List.setIfInBounds_toArray,List.set_cons_zero,List.set_cons_succ,bY,bZ]
               rfl
              refine kM (i:=3) (N:=some 56) (v:=?_) (a':=?_) #[true,true,true,true,true,false,false,false,false,false,false,false] rfl rfl (iO jh.out tN.out (by kernel_rfl)) (fun _ _ _ h=>h) (Or.inl ⟨by rfl,?_⟩) hHeld ?_ ?_
              rotate_left
              ·
               rintro w' ⟨s0,s1,s2,s3,s4⟩
               go_simp
               with_reducible rfl
              rotate_left
              ·
               simp only [Act.put,List.setIfInBounds_toArray,List.set_cons_zero,List.set_cons_succ,bY,bZ]
               rfl
              refine II (σ:=Nat) 2 #[true,true,true,true,true,true,true,true,true,true,false,false] (fun s_=>[(58,.tuple #[.agg #[.int .u8 t155,.int .u8 t156,.int .u8 t157,.int .u8 t158,.int .i64 t159],.bool t160]),(11,.pointer (some ⟨s_,0,none⟩)),(52,.tuple #[.agg #[.int .u8 t155,.int .u8 t156,.int .u8 t157,.int .u8 t158,.int .i64 t159],.bool t160]),(59,.agg #[.int .u8 t155,.int .u8 t156,.int .u8 t157,.int .u8 t158,.int .i64 t159]),(60,.bool t160)]) (fun s_ w'=>(w'.cell? ⟨eY,0,none⟩=some (.int .u8 dK)∧w'.cell? ⟨eY,1,none⟩=some (.int .u8 dJ)∧w'.cell? ⟨eY,2,none⟩=some (.int .u8 dI)∧w'.cell? ⟨eY,3,none⟩=some (.int .u8 dH)∧w'.cell? ⟨eY,4,none⟩=some (.int .i64 dG))∧(w'.heap[gQ]? = some (.cells #[.int .u8 fZ,.int .u8 fO,.int .u8 fH,.int .u8 fC,.int .i64 dY] 39 (0,0)))∧(w'.heap[eY]? = some (.cells #[.int .u8 dK,.int .u8 dJ,.int .u8 dI,.int .u8 dH,.int .i64 dG] 39 (0,0)))∧(w'.heap[s_]? = some (.cells #[.int .u8 0,.int .u8 0,.int .u8 0,.int .u8 0,.int .i64 0] 39 (0,0)))∧(w.heap.size≤s_)∧(w.heap.size≤s_)∧(gQ ≠ s_)∧(s_ ≠ gQ)∧(eY ≠ s_)∧(s_ ≠ eY)∧(Below w.heap.size w w')) ?_ ?_
              rotate_left
              ·
               intro xM
               refine PX (i:=5) (j:=9) (Ni:=some 58) (Nj:=some 11) #[true,true,true,true,true,true,false,false,false,false,false,false] #[true,true,true,true,true,false,false,false,false,true,false,false] rfl rfl rfl rfl (Gl jh.out (by kernel_rfl)) (by decide) (by decide) (fun K hK=>?_) (fun K hK=>?_)
               ·
                skip
                refine nR Tryd.func47 (by kernel_rfl) rfl #[.agg #[.int .u8 dK,.int .u8 dJ,.int .u8 dI,.int .u8 dH,.int .i64 dG],.int .u8 (bt t149 mZ),.int .i64 t153] (by rfl) rfl rfl (by (try simp only [List.map_toArray,List.map_cons,List.map_nil]);first|done|rfl|(simp only [List.length_drop,List.length_take];rfl)) ?_
                with_reducible refine (bf.calls k3 dK dJ dI dH dG (bt t149 mZ) t153 t155 t156 t157 t158 t159 t160 _ VL.out).mono ?_
                rintro e w49 ⟨rfl,hb⟩
                refine ⟨_,rfl,?_⟩
                have eU:=ae.mk (bK (g:=gQ) (o:=.cells #[.int .u8 fZ,.int .u8 fO,.int .u8 fH,.int .u8 fC,.int .i64 dY] 39 (0,0)) (by (with_reducible repeat (first|refine au ?_ _|refine aC ?_|refine ak ?_ _));exact dO.out) hb)
                have eQ:=ae.mk (bK (g:=eY) (o:=.cells #[.int .u8 dK,.int .u8 dJ,.int .u8 dI,.int .u8 dH,.int .i64 dG] 39 (0,0)) (by (with_reducible repeat (first|refine au ?_ _|refine aC ?_|refine ak ?_ _));exact bU.out) hb)
                have eu:=ae.mk (bz (by repeat (first|(with_reducible first|exact HB.out|apply ay|apply ai|apply ax|refine aA ?_ jF.out|refine aA ?_ kS.out)|exact HB.out)) hb)
                clear dO
                clear bU
                clear HB
                have dO:=eU
                have bU:=eQ
                have HB:=eu
                clear eU eQ eu
                (try clear hb)
                (try clear hb2)
                (try clear hk)
                (try clear hi)
                refine hK.out _ _ ⟨(ah bU.out 0).trans rfl,(ah bU.out 1).trans rfl,(ah bU.out 2).trans rfl,(ah bU.out 3).trans rfl,(ah bU.out 4).trans rfl⟩ (fun hHeld=>?_)
                clear hK K
                refine je (a':=?_) ?_ ?_
                rotate_left
                ·
                 show Act.put _ (some 58) _=_
                 simp only [Act.put,List.setIfInBounds_toArray,List.set_cons_zero,List.set_cons_succ,bY,bZ]
                 rfl
                refine iC (i:=6) (N:=some 52) (v:=?_) (a':=?_) #[true,true,true,true,true,true,true,false,false,false,false,false] rfl rfl (gq jh.out (by kernel_rfl)) (fun _ _ _ h=>h) (Or.inl ⟨by rfl,?_⟩) ?_ ?_
                rotate_left
                ·
                 intro w'
                 go_simp
                 with_reducible rfl
                rotate_left
                ·
                 simp only [Act.put,List.setIfInBounds_toArray,List.set_cons_zero,List.set_cons_succ,bY,bZ]
                 rfl
                refine iC (i:=7) (N:=some 59) (v:=?_) (a':=?_) #[true,true,true,true,true,true,true,true,false,false,false,false] rfl rfl (gq jh.out (by kernel_rfl)) (fun _ _ _ h=>h) (Or.inl ⟨by rfl,?_⟩) ?_ ?_
                rotate_left
                ·
                 intro w'
                 go_simp
                 with_reducible rfl
                rotate_left
                ·
                 simp only [Act.put,List.setIfInBounds_toArray,List.set_cons_zero,List.set_cons_succ,bY,bZ]
                 rfl
                refine iC (i:=8) (N:=some 60) (v:=?_) (a':=?_) #[true,true,true,true,true,true,true,true,true,false,false,false] rfl rfl (gq jh.out (by kernel_rfl)) (fun _ _ _ h=>h) (Or.inl ⟨by rfl,?_⟩) ?_ ?_
                rotate_left
                ·
                 intro w'
                 go_simp
                 with_reducible rfl
                rotate_left
                ·
                 simp only [Act.put,List.setIfInBounds_toArray,List.set_cons_zero,List.set_cons_succ,bY,bZ]
                 rfl
                refine oD (i:=9) (N:=some 11) #[true,true,true,true,true,true,true,true,true,true,false,false] rfl rfl (kG jh.out (by kernel_rfl)) (by decide) (fun K hK=>?_)
                refine rY ?hg (N:=11) ?hd (cs:=#[.int .u8 0,.int .u8 0,.int .u8 0,.int .u8 0,.int .i64 0]) (t:=39) ?hr ?_;(case hd=>rfl);(case hg=>rfl);(case hr=>first|(go_simp;done)|(go_simp;rfl))
                intro dm hg w50 hbox hb
                have eU:=ae.mk (bK (g:=gQ) (o:=.cells #[.int .u8 fZ,.int .u8 fO,.int .u8 fH,.int .u8 fC,.int .i64 dY] 39 (0,0)) (by (with_reducible repeat (first|refine au ?_ _|refine aC ?_|refine ak ?_ _));exact dO.out) hb)
                have eQ:=ae.mk (bK (g:=eY) (o:=.cells #[.int .u8 dK,.int .u8 dJ,.int .u8 dI,.int .u8 dH,.int .i64 dG] 39 (0,0)) (by (with_reducible repeat (first|refine au ?_ _|refine aC ?_|refine ak ?_ _));exact bU.out) hb)
                have eu:=ae.mk (bz (by repeat (first|(with_reducible first|exact HB.out|apply ay|apply ai|apply ax|refine aA ?_ jF.out|refine aA ?_ kS.out)|exact HB.out)) hb)
                have ig:=ae.mk (hbox)
                have mW:=ae.mk ((by rw [hg];exact (cu (by repeat (first|(with_reducible first|exact HB.out|apply ay|apply ai|apply ax|refine aA ?_ jF.out|refine aA ?_ kS.out)|exact HB.out))):w.heap.size≤dm))
                have mM:=mW
                have nD:=ae.mk ((by rw [hg];exact Nat.ne_of_lt (jJ (g:=gQ) (o:=.cells #[.int .u8 fZ,.int .u8 fO,.int .u8 fH,.int .u8 fC,.int .i64 dY] 39 (0,0)) (by (with_reducible repeat (first|refine au ?_ _|refine aC ?_|refine ak ?_ _));exact dO.out)):gQ ≠ dm))
                have uS:=ae.mk nD.out.symm
                have uQ:=ae.mk ((by rw [hg];exact Nat.ne_of_lt (jJ (g:=eY) (o:=.cells #[.int .u8 dK,.int .u8 dJ,.int .u8 dI,.int .u8 dH,.int .i64 dG] 39 (0,0)) (by (with_reducible repeat (first|refine au ?_ _|refine aC ?_|refine ak ?_ _));exact bU.out)):eY ≠ dm))
                have xJ:=ae.mk uQ.out.symm
                clear dO
                clear bU
                clear HB
                have dO:=eU
                have bU:=eQ
                have HB:=eu
                have iD:=ig
                have rE:=mW
                have lV:=mM
                have eG:=nD
                have gW:=uS
                have bu:=uQ
                have gY:=xJ
                clear eU eQ eu ig mW mM nD uS uQ xJ
                clear hb hbox hg
                refine hK.out _ _ ⟨(ah bU.out 0).trans rfl,(ah bU.out 1).trans rfl,(ah bU.out 2).trans rfl,(ah bU.out 3).trans rfl,(ah bU.out 4).trans rfl⟩ (fun hHeld=>?_)
                clear hK K
                refine je (a':=?_) ?_ ?_
                rotate_left
                ·
                 show Act.put _ (some 11) _=_
                 simp only [Act.put,List.setIfInBounds_toArray,List.set_cons_zero,List.set_cons_succ,bY,bZ]
                 rfl
                exact je (by simp only [jO,Act.put,List.setIfInBounds_toArray,List.set_cons_zero,List.set_cons_succ]) (xM (dm) _ ⟨hHeld,(by (with_reducible repeat (first|refine au ?_ _|refine aC ?_|refine ak ?_ _));exact dO.out),(by (with_reducible repeat (first|refine au ?_ _|refine aC ?_|refine ak ?_ _));exact bU.out),(by (with_reducible repeat (first|refine au ?_ _|refine aC ?_|refine ak ?_ _));exact iD.out),rE.out,lV.out,eG.out,gW.out,bu.out,gY.out,(by repeat (first|(with_reducible first|exact HB.out|apply ay|apply ai|apply ax|refine aA ?_ jF.out|refine aA ?_ kS.out|refine aA ?_ lV.out)|exact HB.out))⟩)
               ·
                skip
                refine rY ?hg (N:=11) ?hd (cs:=#[.int .u8 0,.int .u8 0,.int .u8 0,.int .u8 0,.int .i64 0]) (t:=39) ?hr ?_;(case hd=>rfl);(case hg=>rfl);(case hr=>first|(go_simp;done)|(go_simp;rfl))
                intro dm hg w49 hbox hb
                have eU:=ae.mk (bK (g:=gQ) (o:=.cells #[.int .u8 fZ,.int .u8 fO,.int .u8 fH,.int .u8 fC,.int .i64 dY] 39 (0,0)) (by (with_reducible repeat (first|refine au ?_ _|refine aC ?_|refine ak ?_ _));exact dO.out) hb)
                have eQ:=ae.mk (bK (g:=eY) (o:=.cells #[.int .u8 dK,.int .u8 dJ,.int .u8 dI,.int .u8 dH,.int .i64 dG] 39 (0,0)) (by (with_reducible repeat (first|refine au ?_ _|refine aC ?_|refine ak ?_ _));exact bU.out) hb)
                have eu:=ae.mk (bz (by repeat (first|(with_reducible first|exact HB.out|apply ay|apply ai|apply ax|refine aA ?_ jF.out|refine aA ?_ kS.out)|exact HB.out)) hb)
                have ig:=ae.mk (hbox)
                have mW:=ae.mk ((by rw [hg];exact (cu (by repeat (first|(with_reducible first|exact HB.out|apply ay|apply ai|apply ax|refine aA ?_ jF.out|refine aA ?_ kS.out)|exact HB.out))):w.heap.size≤dm))
                have mM:=mW
                have nD:=ae.mk ((by rw [hg];exact Nat.ne_of_lt (jJ (g:=gQ) (o:=.cells #[.int .u8 fZ,.int .u8 fO,.int .u8 fH,.int .u8 fC,.int .i64 dY] 39 (0,0)) (by (with_reducible repeat (first|refine au ?_ _|refine aC ?_|refine ak ?_ _));exact dO.out)):gQ ≠ dm))
                have uS:=ae.mk nD.out.symm
                have uQ:=ae.mk ((by rw [hg];exact Nat.ne_of_lt (jJ (g:=eY) (o:=.cells #[.int .u8 dK,.int .u8 dJ,.int .u8 dI,.int .u8 dH,.int .i64 dG] 39 (0,0)) (by (with_reducible repeat (first|refine au ?_ _|refine aC ?_|refine ak ?_ _));exact bU.out)):eY ≠ dm))
                have xJ:=ae.mk uQ.out.symm
                clear dO
                clear bU
                clear HB
                have dO:=eU
                have bU:=eQ
                have HB:=eu
                have iD:=ig
                have rE:=mW
                have lV:=mM
                have eG:=nD
                have gW:=uS
                have bu:=uQ
                have gY:=xJ
                clear eU eQ eu ig mW mM nD uS uQ xJ
                clear hb hbox hg
                refine hK.out _ _ ⟨(ah bU.out 0).trans rfl,(ah bU.out 1).trans rfl,(ah bU.out 2).trans rfl,(ah bU.out 3).trans rfl,(ah bU.out 4).trans rfl⟩ (fun hHeld=>?_)
                clear hK K
                refine je (a':=?_) ?_ ?_
                rotate_left
                ·
                 show Act.put _ (some 11) _=_
                 simp only [Act.put,List.setIfInBounds_toArray,List.set_cons_zero,List.set_cons_succ,bY,bZ]
                 rfl
                refine oD (i:=5) (N:=some 58) #[true,true,true,true,true,true,false,false,false,true,false,false] rfl rfl (kG jh.out (by kernel_rfl)) (by decide) (fun K hK=>?_)
                refine nR Tryd.func47 (by kernel_rfl) rfl #[.agg #[.int .u8 dK,.int .u8 dJ,.int .u8 dI,.int .u8 dH,.int .i64 dG],.int .u8 (bt t149 mZ),.int .i64 t153] (by rfl) rfl rfl (by (try simp only [List.map_toArray,List.map_cons,List.map_nil]);first|done|rfl|(simp only [List.length_drop,List.length_take];rfl)) ?_
                with_reducible refine (bf.calls k3 dK dJ dI dH dG (bt t149 mZ) t153 t155 t156 t157 t158 t159 t160 _ VL.out).mono ?_
                rintro e w50 ⟨rfl,hb⟩
                refine ⟨_,rfl,?_⟩
                have eU:=ae.mk (bK (g:=gQ) (o:=.cells #[.int .u8 fZ,.int .u8 fO,.int .u8 fH,.int .u8 fC,.int .i64 dY] 39 (0,0)) (by (with_reducible repeat (first|refine au ?_ _|refine aC ?_|refine ak ?_ _));exact dO.out) hb)
                have eQ:=ae.mk (bK (g:=eY) (o:=.cells #[.int .u8 dK,.int .u8 dJ,.int .u8 dI,.int .u8 dH,.int .i64 dG] 39 (0,0)) (by (with_reducible repeat (first|refine au ?_ _|refine aC ?_|refine ak ?_ _));exact bU.out) hb)
                have eu:=ae.mk (bK (g:=dm) (o:=.cells #[.int .u8 0,.int .u8 0,.int .u8 0,.int .u8 0,.int .i64 0] 39 (0,0)) (by (with_reducible repeat (first|refine au ?_ _|refine aC ?_|refine ak ?_ _));exact iD.out) hb)
                have ig:=ae.mk (bz (by repeat (first|(with_reducible first|exact HB.out|apply ay|apply ai|apply ax|refine aA ?_ jF.out|refine aA ?_ kS.out|refine aA ?_ lV.out)|exact HB.out)) hb)
                clear dO
                clear bU
                clear iD
                clear HB
                have dO:=eU
                have bU:=eQ
                have iD:=eu
                have HB:=ig
                clear eU eQ eu ig
                (try clear hb)
                (try clear hb2)
                (try clear hk)
                (try clear hi)
                refine hK.out _ _ ⟨(ah bU.out 0).trans rfl,(ah bU.out 1).trans rfl,(ah bU.out 2).trans rfl,(ah bU.out 3).trans rfl,(ah bU.out 4).trans rfl⟩ (fun hHeld=>?_)
                clear hK K
                refine je (a':=?_) ?_ ?_
                rotate_left
                ·
                 show Act.put _ (some 58) _=_
                 simp only [Act.put,List.setIfInBounds_toArray,List.set_cons_zero,List.set_cons_succ,bY,bZ]
                 rfl
                refine iC (i:=6) (N:=some 52) (v:=?_) (a':=?_) #[true,true,true,true,true,true,true,false,false,true,false,false] rfl rfl (gq jh.out (by kernel_rfl)) (fun _ _ _ h=>h) (Or.inl ⟨by rfl,?_⟩) ?_ ?_
                rotate_left
                ·
                 intro w'
                 go_simp
                 with_reducible rfl
                rotate_left
                ·
                 simp only [Act.put,List.setIfInBounds_toArray,List.set_cons_zero,List.set_cons_succ,bY,bZ]
                 rfl
                refine iC (i:=7) (N:=some 59) (v:=?_) (a':=?_) #[true,true,true,true,true,true,true,true,false,true,false,false] rfl rfl (gq jh.out (by kernel_rfl)) (fun _ _ _ h=>h) (Or.inl ⟨by rfl,?_⟩) ?_ ?_
                rotate_left
                ·
                 intro w'
                 go_simp
                 with_reducible rfl
                rotate_left
                ·
                 simp only [Act.put,List.setIfInBounds_toArray,List.set_cons_zero,List.set_cons_succ,bY,bZ]
                 rfl
                refine iC (i:=8) (N:=some 60) (v:=?_) (a':=?_) #[true,true,true,true,true,true,true,true,true,true,false,false] rfl rfl (gq jh.out (by kernel_rfl)) (fun _ _ _ h=>h) (Or.inl ⟨by rfl,?_⟩) ?_ ?_
                rotate_left
                ·
                 intro w'
                 go_simp
                 with_reducible rfl
                rotate_left
                ·
                 simp only [Act.put,List.setIfInBounds_toArray,List.set_cons_zero,List.set_cons_succ,bY,bZ]
                 rfl
                exact je (by simp only [jO,Act.put,List.setIfInBounds_toArray,List.set_cons_zero,List.set_cons_succ]) (xM (dm) _ ⟨hHeld,(by (with_reducible repeat (first|refine au ?_ _|refine aC ?_|refine ak ?_ _));exact dO.out),(by (with_reducible repeat (first|refine au ?_ _|refine aC ?_|refine ak ?_ _));exact bU.out),(by (with_reducible repeat (first|refine au ?_ _|refine aC ?_|refine ak ?_ _));exact iD.out),rE.out,lV.out,eG.out,gW.out,bu.out,gY.out,(by repeat (first|(with_reducible first|exact HB.out|apply ay|apply ai|apply ax|refine aA ?_ jF.out|refine aA ?_ kS.out|refine aA ?_ lV.out)|exact HB.out))⟩)
              rintro dm vW ⟨xq,Vf,Ve,Vd,Vb,Va,U9,U7,U6,U5,U4⟩
              have eU:ae (vW.heap[gQ]? = some (.cells #[.int .u8 fZ,.int .u8 fO,.int .u8 fH,.int .u8 fC,.int .i64 dY] 39 (0,0))):=⟨Vf⟩
              have eQ:ae (vW.heap[eY]? = some (.cells #[.int .u8 dK,.int .u8 dJ,.int .u8 dI,.int .u8 dH,.int .i64 dG] 39 (0,0))):=⟨Ve⟩
              have eu:ae (vW.heap[dm]? = some (.cells #[.int .u8 0,.int .u8 0,.int .u8 0,.int .u8 0,.int .i64 0] 39 (0,0))):=⟨Vd⟩
              have ig:ae (w.heap.size≤dm):=⟨Vb⟩
              have mW:ae (w.heap.size≤dm):=⟨Va⟩
              have mM:ae (gQ ≠ dm):=⟨U9⟩
              have nD:ae (dm ≠ gQ):=⟨U7⟩
              have uS:ae (eY ≠ dm):=⟨U6⟩
              have uQ:ae (dm ≠ eY):=⟨U5⟩
              have xJ:ae (Below w.heap.size w vW):=⟨U4⟩
              clear dO
              clear bU
              clear HB
              clear Vf Ve Vd Vb Va U9 U7 U6 U5 U4
              have dO:=eU
              have bU:=eQ
              have iD:=eu
              have rE:=ig
              have lV:=mW
              have eG:=mM
              have gW:=nD
              have bu:=uS
              have gY:=uQ
              have HB:=xJ
              clear eU eQ eu ig mW mM nD uS uQ xJ
              have hHeld:vW.cell? ⟨eY,0,none⟩=some (.int .u8 dK)∧vW.cell? ⟨eY,1,none⟩=some (.int .u8 dJ)∧vW.cell? ⟨eY,2,none⟩=some (.int .u8 dI)∧vW.cell? ⟨eY,3,none⟩=some (.int .u8 dH)∧vW.cell? ⟨eY,4,none⟩=some (.int .i64 dG):=xq
              refine je (a':=?_) ?_ ?_
              rotate_left
              ·
               simp only [jO,Act.put,List.setIfInBounds_toArray,List.set_cons_zero,List.set_cons_succ]
               rfl
              refine oD (i:=10) (N:=none) #[true,true,true,true,true,true,true,true,true,true,true,false] rfl rfl (kG jh.out (by kernel_rfl)) (by decide) (fun K hK=>?_)
              have akj:vW.cell? ⟨dm,0,none⟩=some (.int .u8 0):=(ah iD.out 0).trans rfl
              have aiG:=ag iD.out 0
              have abG:=eG.out
              have abE:=bu.out
              have acd:=gW.out
              have acb:=gY.out
              have aki:vW.cell? ⟨dm,1,none⟩=some (.int .u8 0):=(ah iD.out 1).trans rfl
              have aiF:=ag iD.out 1
              have abD:=eG.out
              have abC:=bu.out
              have aca:=gW.out
              have ab9:=gY.out
              have akh:vW.cell? ⟨dm,2,none⟩=some (.int .u8 0):=(ah iD.out 2).trans rfl
              have aiE:=ag iD.out 2
              have abB:=eG.out
              have abA:=bu.out
              have ab8:=gW.out
              have ab7:=gY.out
              have akg:vW.cell? ⟨dm,3,none⟩=some (.int .u8 0):=(ah iD.out 3).trans rfl
              have aiD:=ag iD.out 3
              have abz:=eG.out
              have aby:=bu.out
              have ab6:=gW.out
              have ab5:=gY.out
              have akf:vW.cell? ⟨dm,4,none⟩=some (.int .i64 0):=(ah iD.out 4).trans rfl
              have aiC:=ag iD.out 4
              have abx:=eG.out
              have abw:=bu.out
              have ab4:=gW.out
              have ab3:=gY.out
              refine MQ (w1:=?_) (by rfl) rfl ?_ ?_
              rotate_left
              ·
               go_simp
               rfl
              refine hK.out _ _ ⟨((cell_far (p:=⟨dm,_,none⟩) bu.out _).trans (((cell_far (p:=⟨dm,_,none⟩) bu.out _).trans (((cell_far (p:=⟨dm,_,none⟩) bu.out _).trans (((cell_far (p:=⟨dm,_,none⟩) bu.out _).trans (((cell_far (p:=⟨dm,_,none⟩) bu.out _).trans (hHeld.1)))))))))),((cell_far (p:=⟨dm,_,none⟩) bu.out _).trans (((cell_far (p:=⟨dm,_,none⟩) bu.out _).trans (((cell_far (p:=⟨dm,_,none⟩) bu.out _).trans (((cell_far (p:=⟨dm,_,none⟩) bu.out _).trans (((cell_far (p:=⟨dm,_,none⟩) bu.out _).trans (hHeld.2.1)))))))))),((cell_far (p:=⟨dm,_,none⟩) bu.out _).trans (((cell_far (p:=⟨dm,_,none⟩) bu.out _).trans (((cell_far (p:=⟨dm,_,none⟩) bu.out _).trans (((cell_far (p:=⟨dm,_,none⟩) bu.out _).trans (((cell_far (p:=⟨dm,_,none⟩) bu.out _).trans (hHeld.2.2.1)))))))))),((cell_far (p:=⟨dm,_,none⟩) bu.out _).trans (((cell_far (p:=⟨dm,_,none⟩) bu.out _).trans (((cell_far (p:=⟨dm,_,none⟩) bu.out _).trans (((cell_far (p:=⟨dm,_,none⟩) bu.out _).trans (((cell_far (p:=⟨dm,_,none⟩) bu.out _).trans (hHeld.2.2.2.1)))))))))),((cell_far (p:=⟨dm,_,none⟩) bu.out _).trans (((cell_far (p:=⟨dm,_,none⟩) bu.out _).trans (((cell_far (p:=⟨dm,_,none⟩) bu.out _).trans (((cell_far (p:=⟨dm,_,none⟩) bu.out _).trans (((cell_far (p:=⟨dm,_,none⟩) bu.out _).trans (hHeld.2.2.2.2))))))))))⟩ (fun hHeld=>?_)
              clear hK K
              refine iC (i:=11) (N:=some 12) (v:=?_) (a':=?_) #[true,true,true,true,true,true,true,true,true,true,true,true] rfl rfl (gq jh.out (by kernel_rfl)) (fun _ _ _ h=>h) (Or.inl ⟨by rfl,?_⟩) ?_ ?_
              rotate_left
              ·
               intro w'
               go_simp
               with_reducible rfl
              rotate_left
              ·
               simp only [Act.put,List.setIfInBounds_toArray,List.set_cons_zero,List.set_cons_succ,bY,bZ]
               rfl
              refine tu (pX jh.out (by kernel_rfl)) ?_
              have Zg:=jP.out
              have Y6:=rZ.out
              have aij:=eG.out
              have ahZ:=gW.out
              have JK:vW.cell? ⟨gQ,0,none⟩=some (.int .u8 fZ):=(ah dO.out 0).trans rfl
              have JJ:vW.cell? ⟨gQ,1,none⟩=some (.int .u8 fO):=(ah dO.out 1).trans rfl
              have JI:vW.cell? ⟨gQ,2,none⟩=some (.int .u8 fH):=(ah dO.out 2).trans rfl
              have JH:vW.cell? ⟨gQ,3,none⟩=some (.int .u8 fC):=(ah dO.out 3).trans rfl
              have JG:vW.cell? ⟨gQ,4,none⟩=some (.int .i64 dY):=(ah dO.out 4).trans rfl
              have I4:=ag dO.out 0
              have IZ:=ag dO.out 1
              have IY:=ag dO.out 2
              have IX:=ag dO.out 3
              have IW:=ag dO.out 4
              try go_wp2
              refine bodyPost_ret (l7 rfl _ _ gQ 39 #[.int .u8 0,.int .u8 0,.int .u8 0,.int .u8 0,.int .i64 0] (0,0) _ rfl (by (with_reducible repeat (first|refine au ?_ _|refine aC ?_|refine ak ?_ _));refine dw (cs:=#[.int .u8 0,.int .u8 0,.int .u8 0,.int .u8 0,.int .i64 dY]) ?_ 4 _ rfl;(with_reducible repeat (first|refine au ?_ _|refine aC ?_|refine ak ?_ _));refine dw (cs:=#[.int .u8 0,.int .u8 0,.int .u8 0,.int .u8 fC,.int .i64 dY]) ?_ 3 _ rfl;(with_reducible repeat (first|refine au ?_ _|refine aC ?_|refine ak ?_ _));refine dw (cs:=#[.int .u8 0,.int .u8 0,.int .u8 fH,.int .u8 fC,.int .i64 dY]) ?_ 2 _ rfl;(with_reducible repeat (first|refine au ?_ _|refine aC ?_|refine ak ?_ _));refine dw (cs:=#[.int .u8 0,.int .u8 fO,.int .u8 fH,.int .u8 fC,.int .i64 dY]) ?_ 1 _ rfl;(with_reducible repeat (first|refine au ?_ _|refine aC ?_|refine ak ?_ _));refine dw (cs:=#[.int .u8 fZ,.int .u8 fO,.int .u8 fH,.int .u8 fC,.int .i64 dY]) ?_ 0 _ rfl;(with_reducible repeat (first|refine au ?_ _|refine aC ?_|refine ak ?_ _));refine fA ?_ eG.out _;(with_reducible repeat (first|refine au ?_ _|refine aC ?_|refine ak ?_ _));refine fA ?_ eG.out _;(with_reducible repeat (first|refine au ?_ _|refine aC ?_|refine ak ?_ _));refine fA ?_ eG.out _;(with_reducible repeat (first|refine au ?_ _|refine aC ?_|refine ak ?_ _));refine fA ?_ eG.out _;(with_reducible repeat (first|refine au ?_ _|refine aC ?_|refine ak ?_ _));refine fA ?_ eG.out _;(with_reducible repeat (first|refine au ?_ _|refine aC ?_|refine ak ?_ _));exact dO.out) Tryd.underlying39 rfl (by kernel_rfl)) rfl ?_
              exact ⟨by first|rfl|(simp [aT,aQ] <;> rfl)|(simp only [← wI];first|rfl|(simp [aT,aQ] <;> rfl))|(simp [*,aT,aQ] <;> rfl),by repeat (first|(with_reducible first|exact HB.out|apply ay|apply ai|apply ax|refine aA ?_ jF.out|refine aA ?_ kS.out|refine aA ?_ lV.out)|exact HB.out)⟩
            ·
             rw [if_neg c17] at H
             exact absurd H (by simp)
           ·
            rw [if_neg c15] at H
            exact absurd H (by simp)
          ·
           rw [if_neg c14] at H
           exact absurd H (by simp)
         ·
          rw [if_neg c12] at H
          have um:decide (mZ < (t149.size:Int))=false:=decide_eq_false c12
          clear c12
          simp only [Option.some.injEq,Prod.mk.injEq] at H
          obtain ⟨rfl,rfl,rfl,rfl,rfl,rfl⟩:=H
          have aii:=rZ.out
          have ahY:=jP.out
          have aew:wr.cell? ⟨eY,0,none⟩=some (.int .u8 dK):=(ah bU.out 0).trans rfl
          have aev:wr.cell? ⟨eY,1,none⟩=some (.int .u8 dJ):=(ah bU.out 1).trans rfl
          have aeu:wr.cell? ⟨eY,2,none⟩=some (.int .u8 dI):=(ah bU.out 2).trans rfl
          have aet:wr.cell? ⟨eY,3,none⟩=some (.int .u8 dH):=(ah bU.out 3).trans rfl
          have aes:wr.cell? ⟨eY,4,none⟩=some (.int .i64 dG):=(ah bU.out 4).trans rfl
          have acZ:=ag bU.out 0
          have acY:=ag bU.out 1
          have acX:=ag bU.out 2
          have acW:=ag bU.out 3
          have acV:=ag bU.out 4
          have JF:wr.cell? ⟨gQ,0,none⟩=some (.int .u8 fZ):=(ah dO.out 0).trans rfl
          have JE:wr.cell? ⟨gQ,1,none⟩=some (.int .u8 fO):=(ah dO.out 1).trans rfl
          have JD:wr.cell? ⟨gQ,2,none⟩=some (.int .u8 fH):=(ah dO.out 2).trans rfl
          have JC:wr.cell? ⟨gQ,3,none⟩=some (.int .u8 fC):=(ah dO.out 3).trans rfl
          have JB:wr.cell? ⟨gQ,4,none⟩=some (.int .i64 dY):=(ah dO.out 4).trans rfl
          have IV:=ag dO.out 0
          have IU:=ag dO.out 1
          have IQ:=ag dO.out 2
          have IP:=ag dO.out 3
          have IM:=ag dO.out 4
          go_wp2
          refine bodyPost_ret (l7 rfl _ _ gQ 39 #[.int .u8 dK,.int .u8 dJ,.int .u8 dI,.int .u8 dH,.int .i64 dG] (0,0) _ rfl (by (with_reducible repeat (first|refine au ?_ _|refine aC ?_|refine ak ?_ _));refine dw (cs:=#[.int .u8 dK,.int .u8 dJ,.int .u8 dI,.int .u8 dH,.int .i64 dY]) ?_ 4 _ rfl;(with_reducible repeat (first|refine au ?_ _|refine aC ?_|refine ak ?_ _));refine dw (cs:=#[.int .u8 dK,.int .u8 dJ,.int .u8 dI,.int .u8 fC,.int .i64 dY]) ?_ 3 _ rfl;(with_reducible repeat (first|refine au ?_ _|refine aC ?_|refine ak ?_ _));refine dw (cs:=#[.int .u8 dK,.int .u8 dJ,.int .u8 fH,.int .u8 fC,.int .i64 dY]) ?_ 2 _ rfl;(with_reducible repeat (first|refine au ?_ _|refine aC ?_|refine ak ?_ _));refine dw (cs:=#[.int .u8 dK,.int .u8 fO,.int .u8 fH,.int .u8 fC,.int .i64 dY]) ?_ 1 _ rfl;(with_reducible repeat (first|refine au ?_ _|refine aC ?_|refine ak ?_ _));refine dw (cs:=#[.int .u8 fZ,.int .u8 fO,.int .u8 fH,.int .u8 fC,.int .i64 dY]) ?_ 0 _ rfl;(with_reducible repeat (first|refine au ?_ _|refine aC ?_|refine ak ?_ _));exact dO.out) Tryd.underlying39 rfl (by kernel_rfl)) rfl ?_
          exact ⟨by first|rfl|(simp [aT,aQ] <;> rfl)|(simp [*,aT,aQ] <;> rfl),by repeat (first|(with_reducible first|exact HB.out|apply ay|apply ai|apply ax|refine aA ?_ jF.out|refine aA ?_ kS.out)|exact HB.out)⟩
   ·
    rw [if_neg c3] at H
    have oQ:decide (sD≤15)=false:=decide_eq_false c3
    clear c3
    simp only [Option.some.injEq,Prod.mk.injEq] at H
    obtain ⟨rfl,rfl,rfl,rfl,rfl,rfl⟩:=H
    have aer:wr.cell? ⟨gQ,0,none⟩=some (.int .u8 nG):=(ah dO.out 0).trans rfl
    have aeq:wr.cell? ⟨gQ,1,none⟩=some (.int .u8 mD):=(ah dO.out 1).trans rfl
    have aep:wr.cell? ⟨gQ,2,none⟩=some (.int .u8 lL):=(ah dO.out 2).trans rfl
    have aeo:wr.cell? ⟨gQ,3,none⟩=some (.int .u8 lg):=(ah dO.out 3).trans rfl
    have aen:wr.cell? ⟨gQ,4,none⟩=some (.int .i64 kT):=(ah dO.out 4).trans rfl
    have acU:=ag dO.out 0
    have acT:=ag dO.out 1
    have acS:=ag dO.out 2
    have acR:=ag dO.out 3
    have acQ:=ag dO.out 4
    go_wp2
    refine bodyPost_ret (l7 rfl _ _ gQ 39 #[.int .u8 0,.int .u8 0,.int .u8 0,.int .u8 0,.int .i64 0] (0,0) _ rfl (by (with_reducible repeat (first|refine au ?_ _|refine aC ?_|refine ak ?_ _));refine dw (cs:=#[.int .u8 0,.int .u8 0,.int .u8 0,.int .u8 0,.int .i64 kT]) ?_ 4 _ rfl;(with_reducible repeat (first|refine au ?_ _|refine aC ?_|refine ak ?_ _));refine dw (cs:=#[.int .u8 0,.int .u8 0,.int .u8 0,.int .u8 lg,.int .i64 kT]) ?_ 3 _ rfl;(with_reducible repeat (first|refine au ?_ _|refine aC ?_|refine ak ?_ _));refine dw (cs:=#[.int .u8 0,.int .u8 0,.int .u8 lL,.int .u8 lg,.int .i64 kT]) ?_ 2 _ rfl;(with_reducible repeat (first|refine au ?_ _|refine aC ?_|refine ak ?_ _));refine dw (cs:=#[.int .u8 0,.int .u8 mD,.int .u8 lL,.int .u8 lg,.int .i64 kT]) ?_ 1 _ rfl;(with_reducible repeat (first|refine au ?_ _|refine aC ?_|refine ak ?_ _));refine dw (cs:=#[.int .u8 nG,.int .u8 mD,.int .u8 lL,.int .u8 lg,.int .i64 kT]) ?_ 0 _ rfl;(with_reducible repeat (first|refine au ?_ _|refine aC ?_|refine ak ?_ _));exact dO.out) Tryd.underlying39 rfl (by kernel_rfl)) rfl ?_
    exact ⟨by first|rfl|(simp [aT,aQ] <;> rfl)|(simp [*,aT,aQ] <;> rfl),by repeat (first|(with_reducible first|exact HB.out|apply ay|apply ai|apply ax|refine aA ?_ jF.out)|exact HB.out)⟩
end Go.Proofs.YtbmhmlgfpijmhaaDoor.P
end
