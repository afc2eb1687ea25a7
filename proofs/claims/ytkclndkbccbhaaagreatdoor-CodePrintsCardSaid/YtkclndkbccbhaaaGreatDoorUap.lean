/- Parts of the proof of CodePrints: what the functions that it reaches compute, and plain facts about that. -/
import Derived.Test.YtkclndkbccbhaaaGreatDoorUac
import Derived.Test.YtkclndkbccbhaaaGreatDoorUam
import Derived.Test.YtkclndkbccbhaaaGreatDoorUao
set_option linter.unusedVariables false
set_option linter.unusedSimpArgs false
section
namespace Go.Proofs.YtkclndkbccbhaaaGreatDoor.P
open Go.RowKit Go.Proofs.ag.bJ Go.Proofs.ag.eX Go.Proofs.ag.gp
attribute [local go_sem] kM kK lT lS jE jD kL kJ
mutual
def aG.l0:Nat→List ByteArray→Int→Option (Int × Int × Int × Int × Int × Bool)
  | 0,_,_=>none
  | k+1,x0,x4=>if x4≤15 then ((eY.f x4).bind fun LQ=>(if 0 < (x0.length:Int) then (if (gI ByteArray.empty x0 0).toList=LQ.1.toList then (aG.j1 k x0 x4 LQ.2 ((x0.length:Int) != (wrap64 ((LQ.2.size:Int)+1)))) else (aG.j1 k x0 x4 LQ.2 true)) else (none))) else (some (0,0,0,0,0,false))
def aG.j1:Nat→List ByteArray→Int→ByteArray→Bool→Option (Int × Int × Int × Int × Int × Bool)
  | 0,_,_,_,_=>none
  | k+1,x0,x4,x6,x34=>if x34=true then (aG.l0 k x0 ((x4+1) % 256)) else (aG.l1 k x0 x6 0 x4 0 0 0 0)
def aG.l1:Nat→List ByteArray→ByteArray→Int→Int→Int→Int→Int→Int→Option (Int × Int × Int × Int × Int × Bool)
  | 0,_,_,_,_,_,_,_,_=>none
  | k+1,x0,x6,x8,Jj,Ji,Jh,Jg,Jf=>if x8 < (x6.size:Int) then (if 0≤(wrap64 (x8+1)) then (if (wrap64 (x8+1)) < (x0.length:Int) then ((aC.f k (gI ByteArray.empty x0 (wrap64 (x8+1)))).bind fun Hg=>(if 0≤x8 then ((aU.f k Jj Ji Jh Jg Jf (bt x6 x8) Hg.1).bind fun oP=>(if Hg.2=0 then (if oP.2.2.2.2.2=true then (aG.l1 k x0 x6 (wrap64 (x8+1)) oP.1 oP.2.1 oP.2.2.1 oP.2.2.2.1 oP.2.2.2.2.1) else (some (0,0,0,0,0,false))) else (some (0,0,0,0,0,false)))) else (none))) else (none)) else (none)) else (some (Jj,Ji,Jh,Jg,Jf,true))
end
def aG.f (k:Nat) (l0:List ByteArray):Option (Int × Int × Int × Int × Int × Bool):=aG.l0 k l0 1
theorem aG.gY:∀ k,(∀ y0 y1,dH (aG.l0 k y0 y1) (aG.l0 (k+1) y0 y1))∧(∀ y0 y1 y2 y3,dH (aG.j1 k y0 y1 y2 y3) (aG.j1 (k+1) y0 y1 y2 y3))∧(∀ y0 y1 y2 y3 y4 y5 y6 y7,dH (aG.l1 k y0 y1 y2 y3 y4 y5 y6 y7) (aG.l1 (k+1) y0 y1 y2 y3 y4 y5 y6 y7))
  | 0=>⟨fun _ _ r h=>by simp [aG.l0] at h,fun _ _ _ _ r h=>by simp [aG.j1] at h,fun _ _ _ _ _ _ _ _ r h=>by simp [aG.l1] at h⟩
  | k+1=>by
    obtain ⟨jK,ih1,ih2⟩:=aG.gY k
    refine ⟨?_,?_,?_⟩
    · intro y0 y1
      unfold aG.l0
      repeat' first
      | (with_reducible exact jK _ _)
      | (with_reducible exact ih1 _ _ _ _)
      | (with_reducible exact ih2 _ _ _ _ _ _ _ _)
      | (with_reducible exact aC.mono _ _)
      | (with_reducible exact aU.mono _ _ _ _ _ _ _ _)
      | (with_reducible exact dH.refl _)
      | (with_reducible exact dH.none _)
      | (with_reducible refine dH.ite ?_ ?_)
      | (with_reducible refine dH.bind ?_ (fun _=>?_))
      | exact jK _ _
      | exact ih1 _ _ _ _
      | exact ih2 _ _ _ _ _ _ _ _
      | exact aC.mono _ _
      | exact aU.mono _ _ _ _ _ _ _ _
      | exact dH.none _
      | refine dH.ite ?_ ?_
      | refine dH.bind ?_ (fun _=>?_)
    · intro y0 y1 y2 y3
      unfold aG.j1
      repeat' first
      | (with_reducible exact jK _ _)
      | (with_reducible exact ih1 _ _ _ _)
      | (with_reducible exact ih2 _ _ _ _ _ _ _ _)
      | (with_reducible exact aC.mono _ _)
      | (with_reducible exact aU.mono _ _ _ _ _ _ _ _)
      | (with_reducible exact dH.refl _)
      | (with_reducible exact dH.none _)
      | (with_reducible refine dH.ite ?_ ?_)
      | (with_reducible refine dH.bind ?_ (fun _=>?_))
      | exact jK _ _
      | exact ih1 _ _ _ _
      | exact ih2 _ _ _ _ _ _ _ _
      | exact aC.mono _ _
      | exact aU.mono _ _ _ _ _ _ _ _
      | exact dH.none _
      | refine dH.ite ?_ ?_
      | refine dH.bind ?_ (fun _=>?_)
    · intro y0 y1 y2 y3 y4 y5 y6 y7
      unfold aG.l1
      repeat' first
      | (with_reducible exact jK _ _)
      | (with_reducible exact ih1 _ _ _ _)
      | (with_reducible exact ih2 _ _ _ _ _ _ _ _)
      | (with_reducible exact aC.mono _ _)
      | (with_reducible exact aU.mono _ _ _ _ _ _ _ _)
      | (with_reducible exact dH.refl _)
      | (with_reducible exact dH.none _)
      | (with_reducible refine dH.ite ?_ ?_)
      | (with_reducible refine dH.bind ?_ (fun _=>?_))
      | exact jK _ _
      | exact ih1 _ _ _ _
      | exact ih2 _ _ _ _ _ _ _ _
      | exact aC.mono _ _
      | exact aU.mono _ _ _ _ _ _ _ _
      | exact dH.none _
      | refine dH.ite ?_ ?_
      | refine dH.bind ?_ (fun _=>?_)
theorem aG.mono:∀ a0 k,dH (aG.f k a0) (aG.f (k+1) a0):=by
  intro a0 k
  obtain ⟨jK,ih1,ih2⟩:=aG.gY k
  unfold aG.f
  repeat' first
      | (with_reducible exact jK _ _)
      | (with_reducible exact ih1 _ _ _ _)
      | (with_reducible exact ih2 _ _ _ _ _ _ _ _)
      | (with_reducible exact aC.mono _ _)
      | (with_reducible exact aU.mono _ _ _ _ _ _ _ _)
      | (with_reducible exact dH.refl _)
      | (with_reducible exact dH.none _)
      | (with_reducible refine dH.ite ?_ ?_)
      | (with_reducible refine dH.bind ?_ (fun _=>?_))
      | exact jK _ _
      | exact ih1 _ _ _ _
      | exact ih2 _ _ _ _ _ _ _ _
      | exact aC.mono _ _
      | exact aU.mono _ _ _ _ _ _ _ _
      | exact dH.none _
      | refine dH.ite ?_ ?_
      | refine dH.bind ?_ (fun _=>?_)
def aG.T11:Bool × List (List Nat × List Nat):=(true,[([],[]),([],[]),([],[]),([1,2],[1,2]),([],[]),([0,3,4],[0,3,4]),([5],[5]),([6],[6]),([6],[6]),([],[]),([9,7,5,0,1,2,3,4,5,6,7,9],[7,9]),([8,10,0,1,2,3,4,5,6,7,8,9,10],[8])])
def aG.B11:List Nat:=[0,0,0,6,0,31,63,127,127,0,767,2047]
theorem aG.Oo:pg .any (opsOf Tryz.f28 11)=aG.T11:=by kernel_rfl
theorem aG.I4:oD aG.T11.2 aG.B11=true:=by kernel_rfl
set_option maxHeartbeats 8000000 in
set_option maxRecDepth 100000 in
theorem aG.calls (k:Nat) (A0:Option Addr) (c0:Nat) (l0:List ByteArray) (r1:Int) (r2:Int) (r3:Int) (r4:Int) (r5:Int) (r6:Bool) (w:World) (hr0:Kd.C Kd.string w A0 l0.length l0) (hc0:l0.length≤c0) (h:aG.f k l0=some (r1,r2,r3,r4,r5,r6)) :
    Calls Tryz.prog 28 #[.slice A0 l0.length c0] w fun e w'=>e=.returned (.tuple #[.agg #[.int .u8 r1,.int .u8 r2,.int .u8 r3,.int .u8 r4,.int .i64 r5],.bool r6])∧Below w.heap.size w w':=by
  have BR:=Tryz.underlying27
  have HR0:=ae.mk hr0
  have Yd:=ae.mk hc0
  clear hr0 hc0
  have HB:=ae.mk (Below.refl w.heap.size w)
  have H:(aG.l0 k l0 1)=some (r1,r2,r3,r4,r5,r6):=h
  clear h
  have H':=ae.mk H
  clear H
  go_enter Tryz.func28,Tryz.ntmps28
  go_wp2_with (first|((with_reducible refine eQ (N:=2) rfl ?_);(try (refine mY (by rfl) ?_;dsimp only));refine fF ?hg (N:=2) ?hd (cs:=#[.int .u8 0,.int .u8 0,.int .u8 0,.int .u8 0,.int .i64 0]) (t:=27) ?hr ?_;(case hd=>rfl);(case hg=>rfl);(case hr=>first|(go_simp;done)|(go_simp;rfl));intro fE hg w2 hbox hb;have di:=ae.mk (aQ (by repeat (first|(with_reducible first|exact HB.out|apply aj|apply af|apply ai)|exact HB.out)) hb);have dm:=ae.mk (hbox);have dE:=ae.mk ((by rw [hg];exact (bn (by repeat (first|(with_reducible first|exact HB.out|apply aj|apply af|apply ai)|exact HB.out))):w.heap.size≤fE));have gq:=ae.mk ((by rw [hg];exact (bn (by repeat (first|(with_reducible first|exact HB.out|apply aj|apply af|apply ai)|exact HB.out))):w.heap.size≤fE));clear HB;have HB:=di;have dC:=dm;have ahI:=dE;have iV:=gq;clear di dm dE gq;clear hb hbox hg))
  go_loopg [4] k (fun kq v4 w'=>∃ (fK:Int) (nz:Int) (mg:Int) (lu:Int) (kV:Int) (kH:Int),v4=.int .u8 fK∧ae (aG.l0 kq l0 fK=some (r1,r2,r3,r4,r5,r6))∧ae (kq≤k)∧ae (w'.heap[fE]? = some (.cells #[.int .u8 nz,.int .u8 mg,.int .u8 lu,.int .u8 kV,.int .i64 kH] 27 (0,0)))∧ae (Below w.heap.size w w'))
  case atStart=>exact ⟨(1),(0),(0),(0),(0),(0),(by first|rfl|(simp;done)|(simp [*];done)),H',⟨Nat.le_refl _⟩,⟨by (with_reducible repeat (first|refine au ?_ _|refine ay ?_|refine ak ?_ _));exact dC.out⟩,⟨by repeat (first|(with_reducible first|exact HB.out|apply aj|apply af|apply ai|refine az ?_ iV.out)|exact HB.out)⟩⟩
  case round =>
    clear H'
    try clear c2
    try clear p2
    obtain ⟨fK,nz,mg,lu,kV,kH,rfl,HA,nZ,dC,HB⟩:=hrel
    cases gk with
    | zero=>exact absurd HA.out (by simp [aG.l0])
    | succ k1 =>
      have H:=HA.out
      clear HA
      simp only [aG.l0] at H
      by_cases c3:fK≤15
      · rw [if_pos c3] at H
        have qo:decide (fK≤15)=true:=decide_eq_true c3
        clear c3
        replace H:=Option.bind_eq_some_iff.mp H
        obtain ⟨⟨t216,t217⟩,A40,H⟩:=H
        replace H:(if 0 < (l0.length:Int) then (if (gI ByteArray.empty l0 0).toList=t216.toList then (aG.j1 k1 l0 fK t217 ((l0.length:Int) != (wrap64 ((t217.size:Int)+1)))) else (aG.j1 k1 l0 fK t217 true)) else (none))=some (r1,r2,r3,r4,r5,r6):=H
        have A4:=ae.mk A40
        clear A40
        have HC5:=ae.mk H
        clear H
        go_upto_region 5 with (first|((with_reducible refine bU (f:=27) rfl ?_);refine gy (some 19) rfl rfl Tryz.func27 (by kernel_rfl) rfl #[.int .u8 fK] rfl (by (try simp only [List.map_toArray,List.map_cons,List.map_nil]);first|done|rfl|(simp only [List.length_drop,List.length_take];rfl)) ?_;(with_reducible refine (eY.calls fK t216 t217 _ A4.out).mono ?_);rintro e w' ⟨rfl,⟨nd,rfl⟩⟩;refine ⟨_,rfl,?_⟩))
        (try simp only [Act.put,List.setIfInBounds_toArray,List.set_cons_zero,List.set_cons_succ])
        go_cut [34] (fun v34 wc=>∃ (kq:Nat) (Jd:Bool),v34=.bool Jd∧ae (aG.j1 kq l0 fK t217 Jd=some (r1,r2,r3,r4,r5,r6))∧ae (kq≤k1)∧ae (wc.heap[fE]? = some (.cells #[.int .u8 nz,.int .u8 mg,.int .u8 lu,.int .u8 kV,.int .i64 kH] 27 (0,0)))∧ae (Below w.heap.size w wc))
        case first =>
          have H:=HC5.out
          clear HC5
          by_cases c6:0 < (l0.length:Int)
          · rw [if_pos c6] at H
            have qW:decide (0 < (l0.length:Int))=true:=decide_eq_true c6
            have yR:decide (0 < l0.length)=true:=decide_eq_true (by omega)
            clear c6
            (first|rw [qW]|(simp only [aI,aJ];rw [qW])|skip)
            by_cases c7:(gI ByteArray.empty l0 0).toList=t216.toList
            · rw [if_pos c7] at H
              have nX:((gI ByteArray.empty l0 0).toList == t216.toList)=true:=beq_iff_eq.mpr c7
              have vY:((gI ByteArray.empty l0 0).toList != t216.toList)=false:=bne_eq_false_iff_eq.mpr c7
              clear c7
              have H':=ae.mk H
              clear H
              have D5:0≤(0:Int):=(by omega)
              have DY:0 < (l0.length:Int):=of_decide_eq_true (by first|(with_reducible assumption)|assumption)
              obtain ⟨Zl,XT,nT⟩:=Kd.gB HR0.out 0 D5 DY
              cases XT
              have YD:(0 < l0.length)=True:=eq_true (by omega)
              (try rw [show ((0:Int)).toNat=0 from rfl] at nT)
              (try rw [Addr.add_zero'] at nT)
              replace nT:=(HB.out.cell (World.block_lt_of_cell? w _ nT)).trans nT
              replace D5:=eq_true D5
              replace DY:=eq_true DY
              go_wp2
              go_meet
              case rel=>exact ⟨_,(((l0.length:Int) != (wrap64 ((t217.size:Int)+1)))),(by first|rfl|(simp;done)|(simp [*];done)),H',⟨by have:=nZ.out;first|omega|exact Nat.le_refl _⟩,⟨by (with_reducible repeat (first|refine au ?_ _|refine ay ?_|refine ak ?_ _));exact dC.out⟩,⟨by repeat (first|(with_reducible first|exact HB.out|apply aj|apply af|apply ai|refine az ?_ iV.out)|exact HB.out)⟩⟩
            · rw [if_neg c7] at H
              have nX:((gI ByteArray.empty l0 0).toList == t216.toList)=false:=beq_eq_false_iff_ne.mpr c7
              have vY:((gI ByteArray.empty l0 0).toList != t216.toList)=true:=bne_iff_ne.mpr c7
              have H':=ae.mk H
              clear H
              have D5:0≤(0:Int):=(by omega)
              have DY:0 < (l0.length:Int):=of_decide_eq_true (by first|(with_reducible assumption)|assumption)
              obtain ⟨Zl,XT,nT⟩:=Kd.gB HR0.out 0 D5 DY
              cases XT
              have YD:(0 < l0.length)=True:=eq_true (by omega)
              (try rw [show ((0:Int)).toNat=0 from rfl] at nT)
              (try rw [Addr.add_zero'] at nT)
              replace nT:=(HB.out.cell (World.block_lt_of_cell? w _ nT)).trans nT
              replace D5:=eq_true D5
              replace DY:=eq_true DY
              go_wp2
              go_meet
              case rel=>exact ⟨_,(true),(by first|rfl|(simp;done)|(simp [*];done)),H',⟨by have:=nZ.out;first|omega|exact Nat.le_refl _⟩,⟨by (with_reducible repeat (first|refine au ?_ _|refine ay ?_|refine ak ?_ _));exact dC.out⟩,⟨by repeat (first|(with_reducible first|exact HB.out|apply aj|apply af|apply ai|refine az ?_ iV.out)|exact HB.out)⟩⟩
          · rw [if_neg c6] at H
            exact absurd H (by simp)
        case rest =>
          clear HC5
          try clear c2
          try clear p2
          try clear q2
          try clear hx2
          try clear qi2
          try clear c3
          try clear qo
          try clear c6
          try clear qW
          try clear yR
          try clear p6
          try clear c7
          try clear nX
          try clear vY
          try clear nT
          try clear p2
          try clear D5
          try clear DY
          obtain ⟨kq,Jd,rfl,HA,HJ4,dC,HB⟩:=hcut
          cases kq with
          | zero=>exact absurd HA.out (by simp [aG.j1])
          | succ YL =>
            have H:=HA.out
            clear HA
            simp only [aG.j1] at H
            by_cases c8:Jd=true
            · subst c8
              have H1:(aG.l0 YL l0 ((fK+1) % 256))=some (r1,r2,r3,r4,r5,r6):=by rw [if_pos rfl] at H;exact H
              clear H
              have H:=H1
              clear H1
              have H':=ae.mk H
              clear H
              go_wp2
              go_roundg YL
              case measure=>have:=nZ.out;have:=HJ4.out;omega
              case rel=>exact ⟨((fK+1) % 256),(nz),(mg),(lu),(kV),(kH),(by first|rfl|(simp;done)|(simp [*];done)),H',⟨by have:=nZ.out;have:=HJ4.out;omega⟩,⟨by (with_reducible repeat (first|refine au ?_ _|refine ay ?_|refine ak ?_ _));exact dC.out⟩,⟨by repeat (first|(with_reducible first|exact HB.out|apply aj|apply af|apply ai|refine az ?_ iV.out)|exact HB.out)⟩⟩
            · replace c8:=Bool.eq_false_iff.mpr c8
              subst c8
              have H1:(aG.l1 YL l0 t217 0 fK 0 0 0 0)=some (r1,r2,r3,r4,r5,r6):=by rw [if_neg (show ¬ (false=true) by decide)] at H;exact H
              clear H
              have H:=H1
              clear H1
              have H':=ae.mk H
              clear H
              go_wp2_with (first|((with_reducible refine eQ (N:=7) rfl ?_);(try (refine mY (by rfl) ?_;dsimp only));refine fF ?hg (N:=7) ?hd (cs:=#[.int .u8 0,.int .u8 0,.int .u8 0,.int .u8 0,.int .i64 0]) (t:=27) ?hr ?_;(case hd=>rfl);(case hg=>rfl);(case hr=>first|(go_simp;done)|(go_simp;rfl));intro dM hg w9 hbox hb;have di:=ae.mk (aV (g:=fE) (o:=.cells #[.int .u8 nz,.int .u8 mg,.int .u8 lu,.int .u8 kV,.int .i64 kH] 27 (0,0)) (by (with_reducible repeat (first|refine au ?_ _|refine ay ?_|refine ak ?_ _));exact dC.out) hb);have dm:=ae.mk (aQ (by repeat (first|(with_reducible first|exact HB.out|apply aj|apply af|apply ai|refine az ?_ iV.out)|exact HB.out)) hb);have dE:=ae.mk (hbox);have gq:=ae.mk ((by rw [hg];exact (bn (by repeat (first|(with_reducible first|exact HB.out|apply aj|apply af|apply ai|refine az ?_ iV.out)|exact HB.out))):w.heap.size≤dM));have jC:=ae.mk ((by rw [hg];exact (bn (by repeat (first|(with_reducible first|exact HB.out|apply aj|apply af|apply ai|refine az ?_ iV.out)|exact HB.out))):w.heap.size≤dM));have lN:=ae.mk ((by rw [hg];exact Nat.ne_of_lt (gZ (g:=fE) (o:=.cells #[.int .u8 nz,.int .u8 mg,.int .u8 lu,.int .u8 kV,.int .i64 kH] 27 (0,0)) (by (with_reducible repeat (first|refine au ?_ _|refine ay ?_|refine ak ?_ _));exact dC.out)):fE ≠ dM));have nC:=ae.mk ((by rw [hg];exact Nat.ne_of_gt (gZ (g:=fE) (o:=.cells #[.int .u8 nz,.int .u8 mg,.int .u8 lu,.int .u8 kV,.int .i64 kH] 27 (0,0)) (by (with_reducible repeat (first|refine au ?_ _|refine ay ?_|refine ak ?_ _));exact dC.out)):dM ≠ fE));clear dC;clear HB;have dC:=di;have HB:=dm;have bQ:=dE;have ahH:=gq;have jH:=jC;have jY:=lN;have um:=nC;clear di dm dE gq jC lN nC;clear hb hbox hg;have ag4:=um.out;have agN:=jY.out;have ET:w9.cell? ⟨dM,0,none⟩=some (.int .u8 0):=(ah bQ.out 0).trans rfl;have ES:w9.cell? ⟨dM,1,none⟩=some (.int .u8 0):=(ah bQ.out 1).trans rfl;have ER:w9.cell? ⟨dM,2,none⟩=some (.int .u8 0):=(ah bQ.out 2).trans rfl;have EP:w9.cell? ⟨dM,3,none⟩=some (.int .u8 0):=(ah bQ.out 3).trans rfl;have Lj:w9.cell? ⟨dM,4,none⟩=some (.int .i64 0):=(ah bQ.out 4).trans rfl;have EG:=ax bQ.out 0;have EF:=ax bQ.out 1;have EE:=ax bQ.out 2;have ED:=ax bQ.out 3;have KA:=ax bQ.out 4))
              go_loopg [8] YL (fun kq v8 w'=>∃ (nK:Int) (fB:Int) (eG:Int) (dS:Int) (dN:Int) (dI:Int) (dh:Int) (df:Int) (cZ:Int) (cO:Int) (cu:Int),v8=.int .i64 nK∧ae (aG.l1 kq l0 t217 nK dh df cZ cO cu=some (r1,r2,r3,r4,r5,r6))∧ae (kq≤YL)∧ae (w'.heap[fE]? = some (.cells #[.int .u8 fB,.int .u8 eG,.int .u8 dS,.int .u8 dN,.int .i64 dI] 27 (0,0)))∧ae (w'.heap[dM]? = some (.cells #[.int .u8 dh,.int .u8 df,.int .u8 cZ,.int .u8 cO,.int .i64 cu] 27 (0,0)))∧ae (Below w.heap.size w w'))
              case atStart=>exact ⟨(0),(nz),(mg),(lu),(kV),(kH),(fK),(0),(0),(0),(0),(by first|rfl|(simp;done)|(simp [*];done)),H',⟨Nat.le_refl _⟩,⟨by (with_reducible repeat (first|refine au ?_ _|refine ay ?_|refine ak ?_ _));refine fC ?_ jY.out _;(with_reducible repeat (first|refine au ?_ _|refine ay ?_|refine ak ?_ _));refine fC ?_ jY.out _;(with_reducible repeat (first|refine au ?_ _|refine ay ?_|refine ak ?_ _));refine fC ?_ jY.out _;(with_reducible repeat (first|refine au ?_ _|refine ay ?_|refine ak ?_ _));refine fC ?_ jY.out _;(with_reducible repeat (first|refine au ?_ _|refine ay ?_|refine ak ?_ _));refine fC ?_ jY.out _;(with_reducible repeat (first|refine au ?_ _|refine ay ?_|refine ak ?_ _));exact dC.out⟩,⟨by (with_reducible repeat (first|refine au ?_ _|refine ay ?_|refine ak ?_ _));refine dB (cs:=#[.int .u8 fK,.int .u8 0,.int .u8 0,.int .u8 0,.int .i64 0]) ?_ 4 _ rfl;(with_reducible repeat (first|refine au ?_ _|refine ay ?_|refine ak ?_ _));refine dB (cs:=#[.int .u8 fK,.int .u8 0,.int .u8 0,.int .u8 0,.int .i64 0]) ?_ 3 _ rfl;(with_reducible repeat (first|refine au ?_ _|refine ay ?_|refine ak ?_ _));refine dB (cs:=#[.int .u8 fK,.int .u8 0,.int .u8 0,.int .u8 0,.int .i64 0]) ?_ 2 _ rfl;(with_reducible repeat (first|refine au ?_ _|refine ay ?_|refine ak ?_ _));refine dB (cs:=#[.int .u8 fK,.int .u8 0,.int .u8 0,.int .u8 0,.int .i64 0]) ?_ 1 _ rfl;(with_reducible repeat (first|refine au ?_ _|refine ay ?_|refine ak ?_ _));refine dB (cs:=#[.int .u8 0,.int .u8 0,.int .u8 0,.int .u8 0,.int .i64 0]) ?_ 0 _ rfl;(with_reducible repeat (first|refine au ?_ _|refine ay ?_|refine ak ?_ _));exact bQ.out⟩,⟨by repeat (first|(with_reducible first|exact HB.out|apply aj|apply af|apply ai|refine az ?_ iV.out|refine az ?_ jH.out)|exact HB.out)⟩⟩
              case round =>
                clear H'
                try clear c1
                try clear c2
                try clear p2
                try clear q2
                try clear hx2
                try clear qi2
                try clear c3
                try clear qo
                try clear c6
                try clear qW
                try clear yR
                try clear p6
                try clear c7
                try clear nX
                try clear vY
                try clear c8
                try clear c10
                try clear ET
                try clear ES
                try clear ER
                try clear EP
                try clear Lj
                try clear EG
                try clear EF
                try clear EE
                try clear ED
                try clear KA
                try clear nT
                try clear p2
                try clear D5
                try clear p6
                try clear q2
                try clear DY
                obtain ⟨nK,fB,eG,dS,dN,dI,dh,df,cZ,cO,cu,rfl,HA,HK3,dC,bQ,HB⟩:=hrel
                cases gk with
                | zero=>exact absurd HA.out (by simp [aG.l1])
                | succ k3 =>
                  have H:=HA.out
                  clear HA
                  simp only [aG.l1] at H
                  by_cases c12:nK < (t217.size:Int)
                  · rw [if_pos c12] at H
                    have ve:decide (nK < (t217.size:Int))=true:=decide_eq_true c12
                    clear c12
                    obtain ⟨qm,yu⟩:∃ j_:Int,(wrap64 (nK+1))=j_:=⟨_,rfl⟩
                    replace H:(if 0≤(qm) then (if (qm) < (l0.length:Int) then ((aC.f k3 (gI ByteArray.empty l0 (qm))).bind fun Hg=>(if 0≤nK then ((aU.f k3 dh df cZ cO cu (bt t217 nK) Hg.1).bind fun oP=>(if Hg.2=0 then (if oP.2.2.2.2.2=true then (aG.l1 k3 l0 t217 qm oP.1 oP.2.1 oP.2.2.1 oP.2.2.2.1 oP.2.2.2.2.1) else (some (0,0,0,0,0,false))) else (some (0,0,0,0,0,false)))) else (none))) else (none)) else (none))=some (r1,r2,r3,r4,r5,r6):=by first|(rw [yu] at H;exact H)|(simp only [yu] at H ⊢;exact H)
                    have ae8:(IntKind.i64.wrap (nK+1))=qm:=(aI _).trans yu
                    by_cases c14:0≤(qm)
                    · rw [if_pos c14] at H
                      have yB:decide (0≤(qm))=true:=decide_eq_true c14
                      clear c14
                      by_cases c15:(qm) < (l0.length:Int)
                      · rw [if_pos c15] at H
                        have wo:decide ((qm) < (l0.length:Int))=true:=decide_eq_true c15
                        clear c15
                        replace H:=Option.bind_eq_some_iff.mp H
                        obtain ⟨⟨t221,t222⟩,BJ,H⟩:=H
                        replace H:(if 0≤nK then ((aU.f k3 dh df cZ cO cu (bt t217 nK) t221).bind fun oP=>(if t222=0 then (if oP.2.2.2.2.2=true then (aG.l1 k3 l0 t217 qm oP.1 oP.2.1 oP.2.2.1 oP.2.2.2.1 oP.2.2.2.2.1) else (some (0,0,0,0,0,false))) else (some (0,0,0,0,0,false)))) else (none))=some (r1,r2,r3,r4,r5,r6):=H
                        have Q9:=ae.mk BJ
                        clear BJ
                        by_cases c17:0≤nK
                        · rw [if_pos c17] at H
                          have Dp:decide (0≤nK)=true:=decide_eq_true c17
                          clear c17
                          replace H:=Option.bind_eq_some_iff.mp H
                          obtain ⟨⟨t223,t224,t225,t226,t227,t228⟩,aaw,H⟩:=H
                          replace H:(if t222=0 then (if t228=true then (aG.l1 k3 l0 t217 qm t223 t224 t225 t226 t227) else (some (0,0,0,0,0,false))) else (some (0,0,0,0,0,false)))=some (r1,r2,r3,r4,r5,r6):=H
                          have Yn:=ae.mk aaw
                          clear aaw
                          by_cases c20:t222=0
                          · rw [if_pos c20] at H
                            have Zb:(t222 == 0)=true:=beq_iff_eq.mpr c20
                            have Za:(t222 != 0)=false:=bne_eq_false_iff_eq.mpr c20
                            clear c20
                            by_cases c21:t228=true
                            · subst c21
                              have H1:(aG.l1 k3 l0 t217 qm t223 t224 t225 t226 t227)=some (r1,r2,r3,r4,r5,r6):=by rw [if_pos rfl] at H;exact H
                              clear H
                              have H:=H1
                              clear H1
                              have H':=ae.mk H
                              clear H
                              have Ap:0≤((qm):Int):=of_decide_eq_true (by first|(with_reducible assumption)|assumption)
                              have Ah:(qm) < (l0.length:Int):=of_decide_eq_true (by first|(with_reducible assumption)|assumption)
                              obtain ⟨V6,e220,pF⟩:=Kd.gB HR0.out (qm) Ap Ah
                              cases e220
                              replace pF:=(HB.out.cell (World.block_lt_of_cell? w _ pF)).trans pF
                              replace Ap:=eq_true Ap
                              replace Ah:=eq_true Ah
                              try go_wp2_with (first|((with_reducible refine bU (f:=47) rfl ?_);refine gy (some 49) rfl rfl Tryz.func47 (by kernel_rfl) rfl #[.string (gI ByteArray.empty l0 (qm))] rfl (by (try simp only [List.map_toArray,List.map_cons,List.map_nil]);first|done|(simp only [yu];rfl)|rfl|(simp only [List.length_drop,List.length_take];rfl)) ?_;(with_reducible refine (aC.calls k3 (gI ByteArray.empty l0 (qm)) t221 t222 _ Q9.out).mono ?_);rintro e w' ⟨rfl,⟨nd,rfl⟩⟩;refine ⟨_,rfl,?_⟩;(try (rw [rX wr];generalize BK:World.drewN wr _=wr;have di:ae (wr.heap[fE]? = some (.cells #[.int .u8 fB,.int .u8 eG,.int .u8 dS,.int .u8 dN,.int .i64 dI] 27 (0,0))):=⟨by rw [← BK];exact (by (with_reducible repeat (first|refine au ?_ _|refine ay ?_|refine ak ?_ _));exact dC.out)⟩;have dm:ae (wr.heap[dM]? = some (.cells #[.int .u8 dh,.int .u8 df,.int .u8 cZ,.int .u8 cO,.int .i64 cu] 27 (0,0))):=⟨by rw [← BK];exact (by (with_reducible repeat (first|refine au ?_ _|refine ay ?_|refine ak ?_ _));exact bQ.out)⟩;have dE:ae (Below w.heap.size w wr):=⟨by rw [← BK];exact (by repeat (first|(with_reducible first|exact HB.out|apply aj|apply af|apply ai|refine az ?_ iV.out|refine az ?_ jH.out)|exact HB.out))⟩;clear dC bQ HB BK;have dC:=di;have bQ:=dm;have HB:=dE;clear di dm dE))))
                              have di:=ae.mk (ay dC.out)
                              have dm:=ae.mk (ay bQ.out)
                              have dE:=ae.mk (ai HB.out)
                              clear dC
                              clear bQ
                              clear HB
                              have dC:=di
                              have bQ:=dm
                              have HB:=dE
                              clear di dm dE
                              have F8:0≤(nK:Int):=of_decide_eq_true (by first|(with_reducible assumption)|assumption)
                              have FZ:nK < (t217.size:Int):=of_decide_eq_true (by first|(with_reducible assumption)|assumption)
                              have Ph:=lL t217 nK
                              replace F8:=eq_true F8
                              replace FZ:=eq_true FZ
                              refine nM (n:=12) (S:=fun w'=>w'.cell? ⟨dM,0,none⟩=some (.int .u8 dh)∧w'.cell? ⟨dM,1,none⟩=some (.int .u8 df)∧w'.cell? ⟨dM,2,none⟩=some (.int .u8 cZ)∧w'.cell? ⟨dM,3,none⟩=some (.int .u8 cO)∧w'.cell? ⟨dM,4,none⟩=some (.int .i64 cu)) (ds:=[]) #[false,false,false,false,false,false,false,false,false,false,false,false] (by kernel_rfl) rfl rfl ⟨(ah bQ.out 0).trans rfl,(ah bQ.out 1).trans rfl,(ah bQ.out 2).trans rfl,(ah bQ.out 3).trans rfl,(ah bQ.out 4).trans rfl⟩ (fun hHeld=>?_);refine je aG.Oo aG.I4 (fun dD lK=>?_)
                              generalize wr.drew=Oi at dC bQ HB hHeld ⊢
                              refine bu (i:=1) (N:=some 54) (v:=?_) (a':=?_) #[false,true,false,false,false,false,false,false,false,false,false,false] rfl rfl (aN dD.out (by kernel_rfl)) (fun _ _ _ h=>h) (Or.inl ⟨by rfl,?_⟩) ?_ ?_
                              rotate_left
                              · intro w'
                                go_simp
                                with_reducible rfl
                              rotate_left
                              · simp only [Act.put,List.setIfInBounds_toArray,List.set_cons_zero,List.set_cons_succ,aI,aJ]
                                rfl
                              refine bu (i:=2) (N:=some 55) (v:=?_) (a':=?_) #[false,true,true,false,false,false,false,false,false,false,false,false] rfl rfl (aN dD.out (by kernel_rfl)) (fun _ _ _ h=>h) (Or.inl ⟨by rfl,?_⟩) ?_ ?_
                              rotate_left
                              · intro w'
                                go_simp
                                with_reducible rfl
                              rotate_left
                              · simp only [Act.put,List.setIfInBounds_toArray,List.set_cons_zero,List.set_cons_succ,aI,aJ]
                                rfl
                              refine bu (i:=4) (N:=some 57) (v:=?_) (a':=?_) #[false,true,true,false,true,false,false,false,false,false,false,false] rfl rfl (aN dD.out (by kernel_rfl)) (fun _ _ _ h=>h) (Or.inl ⟨by rfl,?_⟩) ?_ ?_
                              rotate_left
                              · intro w'
                                go_simp
                                with_reducible rfl
                              rotate_left
                              · simp only [Act.put,List.setIfInBounds_toArray,List.set_cons_zero,List.set_cons_succ,aI,aJ]
                                rfl
                              refine gQ (i:=0) (N:=some 53) (v:=?_) (a':=?_) #[true,true,true,false,true,false,false,false,false,false,false,false] rfl rfl (dw dD.out lK.out (by kernel_rfl)) (fun _ _ _ h=>h) (Or.inl ⟨by rfl,?_⟩) hHeld ?_ ?_
                              rotate_left
                              · rintro w' ⟨s0,s1,s2,s3,s4⟩
                                go_simp
                                with_reducible rfl
                              rotate_left
                              · simp only [Act.put,List.setIfInBounds_toArray,List.set_cons_zero,List.set_cons_succ,aI,aJ]
                                rfl
                              refine gQ (i:=3) (N:=some 56) (v:=?_) (a':=?_) #[true,true,true,true,true,false,false,false,false,false,false,false] rfl rfl (dw dD.out lK.out (by kernel_rfl)) (fun _ _ _ h=>h) (Or.inl ⟨by rfl,?_⟩) hHeld ?_ ?_
                              rotate_left
                              · rintro w' ⟨s0,s1,s2,s3,s4⟩
                                go_simp
                                with_reducible rfl
                              rotate_left
                              · simp only [Act.put,List.setIfInBounds_toArray,List.set_cons_zero,List.set_cons_succ,aI,aJ]
                                rfl
                              refine Gq (σ:=Nat) 2 #[true,true,true,true,true,true,true,true,true,true,false,false] (fun s_=>[(58,.tuple #[.agg #[.int .u8 t223,.int .u8 t224,.int .u8 t225,.int .u8 t226,.int .i64 t227],.bool true]),(11,.pointer (some ⟨s_,0,none⟩)),(52,.tuple #[.agg #[.int .u8 t223,.int .u8 t224,.int .u8 t225,.int .u8 t226,.int .i64 t227],.bool true]),(59,.agg #[.int .u8 t223,.int .u8 t224,.int .u8 t225,.int .u8 t226,.int .i64 t227]),(60,.bool true)]) (fun s_ w'=>(w'.cell? ⟨dM,0,none⟩=some (.int .u8 dh)∧w'.cell? ⟨dM,1,none⟩=some (.int .u8 df)∧w'.cell? ⟨dM,2,none⟩=some (.int .u8 cZ)∧w'.cell? ⟨dM,3,none⟩=some (.int .u8 cO)∧w'.cell? ⟨dM,4,none⟩=some (.int .i64 cu))∧(w'.heap[fE]? = some (.cells #[.int .u8 fB,.int .u8 eG,.int .u8 dS,.int .u8 dN,.int .i64 dI] 27 (0,0)))∧(w'.heap[dM]? = some (.cells #[.int .u8 dh,.int .u8 df,.int .u8 cZ,.int .u8 cO,.int .i64 cu] 27 (0,0)))∧(w'.heap[s_]? = some (.cells #[.int .u8 0,.int .u8 0,.int .u8 0,.int .u8 0,.int .i64 0] 27 (0,0)))∧(w.heap.size≤s_)∧(w.heap.size≤s_)∧(fE ≠ s_)∧(s_ ≠ fE)∧(dM ≠ s_)∧(s_ ≠ dM)∧(Below w.heap.size w w')) ?_ ?_
                              rotate_left
                              · intro rq
                                refine Ia (i:=5) (j:=9) (Ni:=some 58) (Nj:=some 11) #[true,true,true,true,true,true,false,false,false,false,false,false] #[true,true,true,true,true,false,false,false,false,true,false,false] rfl rfl rfl rfl (xG dD.out (by kernel_rfl)) (by decide) (by decide) (fun K hK=>?_) (fun K hK=>?_)
                                · skip
                                  refine mG Tryz.func48 (by kernel_rfl) rfl #[.agg #[.int .u8 dh,.int .u8 df,.int .u8 cZ,.int .u8 cO,.int .i64 cu],.int .u8 (bt t217 nK),.int .i64 t221] (by rfl) rfl rfl (by (try simp only [List.map_toArray,List.map_cons,List.map_nil]);first|done|rfl|(simp only [List.length_drop,List.length_take];rfl)) ?_
                                  with_reducible refine (aU.calls k3 dh df cZ cO cu (bt t217 nK) t221 t223 t224 t225 t226 t227 true _ Yn.out).mono ?_
                                  rintro e zI ⟨rfl,hb⟩
                                  refine ⟨_,rfl,?_⟩
                                  have di:=ae.mk (aV (g:=fE) (o:=.cells #[.int .u8 fB,.int .u8 eG,.int .u8 dS,.int .u8 dN,.int .i64 dI] 27 (0,0)) (by (with_reducible repeat (first|refine au ?_ _|refine ay ?_|refine ak ?_ _));exact dC.out) hb)
                                  have dm:=ae.mk (aV (g:=dM) (o:=.cells #[.int .u8 dh,.int .u8 df,.int .u8 cZ,.int .u8 cO,.int .i64 cu] 27 (0,0)) (by (with_reducible repeat (first|refine au ?_ _|refine ay ?_|refine ak ?_ _));exact bQ.out) hb)
                                  have dE:=ae.mk (aQ (by repeat (first|(with_reducible first|exact HB.out|apply aj|apply af|apply ai|refine az ?_ iV.out|refine az ?_ jH.out)|exact HB.out)) hb)
                                  clear dC
                                  clear bQ
                                  clear HB
                                  have dC:=di
                                  have bQ:=dm
                                  have HB:=dE
                                  clear di dm dE
                                  (try clear hb)
                                  (try clear hb2)
                                  (try clear hk)
                                  (try clear hi)
                                  refine hK.out _ _ ⟨(ah bQ.out 0).trans rfl,(ah bQ.out 1).trans rfl,(ah bQ.out 2).trans rfl,(ah bQ.out 3).trans rfl,(ah bQ.out 4).trans rfl⟩ (fun hHeld=>?_)
                                  clear hK K
                                  refine gX (a':=?_) ?_ ?_
                                  rotate_left
                                  · show Act.put _ (some 58) _=_
                                    simp only [Act.put,List.setIfInBounds_toArray,List.set_cons_zero,List.set_cons_succ,aI,aJ]
                                    rfl
                                  refine bu (i:=6) (N:=some 52) (v:=?_) (a':=?_) #[true,true,true,true,true,true,true,false,false,false,false,false] rfl rfl (aN dD.out (by kernel_rfl)) (fun _ _ _ h=>h) (Or.inl ⟨by rfl,?_⟩) ?_ ?_
                                  rotate_left
                                  · intro w'
                                    go_simp
                                    with_reducible rfl
                                  rotate_left
                                  · simp only [Act.put,List.setIfInBounds_toArray,List.set_cons_zero,List.set_cons_succ,aI,aJ]
                                    rfl
                                  refine bu (i:=7) (N:=some 59) (v:=?_) (a':=?_) #[true,true,true,true,true,true,true,true,false,false,false,false] rfl rfl (aN dD.out (by kernel_rfl)) (fun _ _ _ h=>h) (Or.inl ⟨by rfl,?_⟩) ?_ ?_
                                  rotate_left
                                  · intro w'
                                    go_simp
                                    with_reducible rfl
                                  rotate_left
                                  · simp only [Act.put,List.setIfInBounds_toArray,List.set_cons_zero,List.set_cons_succ,aI,aJ]
                                    rfl
                                  refine bu (i:=8) (N:=some 60) (v:=?_) (a':=?_) #[true,true,true,true,true,true,true,true,true,false,false,false] rfl rfl (aN dD.out (by kernel_rfl)) (fun _ _ _ h=>h) (Or.inl ⟨by rfl,?_⟩) ?_ ?_
                                  rotate_left
                                  · intro w'
                                    go_simp
                                    with_reducible rfl
                                  rotate_left
                                  · simp only [Act.put,List.setIfInBounds_toArray,List.set_cons_zero,List.set_cons_succ,aI,aJ]
                                    rfl
                                  refine mD (i:=9) (N:=some 11) #[true,true,true,true,true,true,true,true,true,true,false,false] rfl rfl (iD dD.out (by kernel_rfl)) (by decide) (fun K hK=>?_)
                                  refine uk ?hg (N:=11) ?hd (cs:=#[.int .u8 0,.int .u8 0,.int .u8 0,.int .u8 0,.int .i64 0]) (t:=27) ?hr ?_;(case hd=>rfl);(case hg=>rfl);(case hr=>first|(go_simp;done)|(go_simp;rfl))
                                  intro bW hg w24 hbox hb
                                  have di:=ae.mk (aV (g:=fE) (o:=.cells #[.int .u8 fB,.int .u8 eG,.int .u8 dS,.int .u8 dN,.int .i64 dI] 27 (0,0)) (by (with_reducible repeat (first|refine au ?_ _|refine ay ?_|refine ak ?_ _));exact dC.out) hb)
                                  have dm:=ae.mk (aV (g:=dM) (o:=.cells #[.int .u8 dh,.int .u8 df,.int .u8 cZ,.int .u8 cO,.int .i64 cu] 27 (0,0)) (by (with_reducible repeat (first|refine au ?_ _|refine ay ?_|refine ak ?_ _));exact bQ.out) hb)
                                  have dE:=ae.mk (aQ (by repeat (first|(with_reducible first|exact HB.out|apply aj|apply af|apply ai|refine az ?_ iV.out|refine az ?_ jH.out)|exact HB.out)) hb)
                                  have gq:=ae.mk (hbox)
                                  have jC:=ae.mk ((by rw [hg];exact (bn (by repeat (first|(with_reducible first|exact HB.out|apply aj|apply af|apply ai|refine az ?_ iV.out|refine az ?_ jH.out)|exact HB.out))):w.heap.size≤bW))
                                  have lN:=ae.mk ((by rw [hg];exact (bn (by repeat (first|(with_reducible first|exact HB.out|apply aj|apply af|apply ai|refine az ?_ iV.out|refine az ?_ jH.out)|exact HB.out))):w.heap.size≤bW))
                                  have nC:=ae.mk ((by rw [hg];exact Nat.ne_of_lt (gZ (g:=fE) (o:=.cells #[.int .u8 fB,.int .u8 eG,.int .u8 dS,.int .u8 dN,.int .i64 dI] 27 (0,0)) (by (with_reducible repeat (first|refine au ?_ _|refine ay ?_|refine ak ?_ _));exact dC.out)):fE ≠ bW))
                                  have uX:=ae.mk ((by rw [hg];exact Nat.ne_of_gt (gZ (g:=fE) (o:=.cells #[.int .u8 fB,.int .u8 eG,.int .u8 dS,.int .u8 dN,.int .i64 dI] 27 (0,0)) (by (with_reducible repeat (first|refine au ?_ _|refine ay ?_|refine ak ?_ _));exact dC.out)):bW ≠ fE))
                                  have yj:=ae.mk ((by rw [hg];exact Nat.ne_of_lt (gZ (g:=dM) (o:=.cells #[.int .u8 dh,.int .u8 df,.int .u8 cZ,.int .u8 cO,.int .i64 cu] 27 (0,0)) (by (with_reducible repeat (first|refine au ?_ _|refine ay ?_|refine ak ?_ _));exact bQ.out)):dM ≠ bW))
                                  have yh:=ae.mk ((by rw [hg];exact Nat.ne_of_gt (gZ (g:=dM) (o:=.cells #[.int .u8 dh,.int .u8 df,.int .u8 cZ,.int .u8 cO,.int .i64 cu] 27 (0,0)) (by (with_reducible repeat (first|refine au ?_ _|refine ay ?_|refine ak ?_ _));exact bQ.out)):bW ≠ dM))
                                  clear dC
                                  clear bQ
                                  clear HB
                                  have dC:=di
                                  have bQ:=dm
                                  have HB:=dE
                                  have iy:=gq
                                  have sW:=jC
                                  have mV:=lN
                                  have dY:=nC
                                  have gG:=uX
                                  have bz:=yj
                                  have gK:=yh
                                  clear di dm dE gq jC lN nC uX yj yh
                                  clear hb hbox hg
                                  refine hK.out _ _ ⟨(ah bQ.out 0).trans rfl,(ah bQ.out 1).trans rfl,(ah bQ.out 2).trans rfl,(ah bQ.out 3).trans rfl,(ah bQ.out 4).trans rfl⟩ (fun hHeld=>?_)
                                  clear hK K
                                  refine gX (a':=?_) ?_ ?_
                                  rotate_left
                                  · show Act.put _ (some 11) _=_
                                    simp only [Act.put,List.setIfInBounds_toArray,List.set_cons_zero,List.set_cons_succ,aI,aJ]
                                    rfl
                                  exact gX (by simp only [jJ,Act.put,List.setIfInBounds_toArray,List.set_cons_zero,List.set_cons_succ]) (rq (bW) _ ⟨hHeld,(by (with_reducible repeat (first|refine au ?_ _|refine ay ?_|refine ak ?_ _));exact dC.out),(by (with_reducible repeat (first|refine au ?_ _|refine ay ?_|refine ak ?_ _));exact bQ.out),(by (with_reducible repeat (first|refine au ?_ _|refine ay ?_|refine ak ?_ _));exact iy.out),sW.out,mV.out,dY.out,gG.out,bz.out,gK.out,(by repeat (first|(with_reducible first|exact HB.out|apply aj|apply af|apply ai|refine az ?_ iV.out|refine az ?_ jH.out|refine az ?_ mV.out)|exact HB.out))⟩)
                                · skip
                                  refine uk ?hg (N:=11) ?hd (cs:=#[.int .u8 0,.int .u8 0,.int .u8 0,.int .u8 0,.int .i64 0]) (t:=27) ?hr ?_;(case hd=>rfl);(case hg=>rfl);(case hr=>first|(go_simp;done)|(go_simp;rfl))
                                  intro bW hg zI hbox hb
                                  have di:=ae.mk (aV (g:=fE) (o:=.cells #[.int .u8 fB,.int .u8 eG,.int .u8 dS,.int .u8 dN,.int .i64 dI] 27 (0,0)) (by (with_reducible repeat (first|refine au ?_ _|refine ay ?_|refine ak ?_ _));exact dC.out) hb)
                                  have dm:=ae.mk (aV (g:=dM) (o:=.cells #[.int .u8 dh,.int .u8 df,.int .u8 cZ,.int .u8 cO,.int .i64 cu] 27 (0,0)) (by (with_reducible repeat (first|refine au ?_ _|refine ay ?_|refine ak ?_ _));exact bQ.out) hb)
                                  have dE:=ae.mk (aQ (by repeat (first|(with_reducible first|exact HB.out|apply aj|apply af|apply ai|refine az ?_ iV.out|refine az ?_ jH.out)|exact HB.out)) hb)
                                  have gq:=ae.mk (hbox)
                                  have jC:=ae.mk ((by rw [hg];exact (bn (by repeat (first|(with_reducible first|exact HB.out|apply aj|apply af|apply ai|refine az ?_ iV.out|refine az ?_ jH.out)|exact HB.out))):w.heap.size≤bW))
                                  have lN:=ae.mk ((by rw [hg];exact (bn (by repeat (first|(with_reducible first|exact HB.out|apply aj|apply af|apply ai|refine az ?_ iV.out|refine az ?_ jH.out)|exact HB.out))):w.heap.size≤bW))
                                  have nC:=ae.mk ((by rw [hg];exact Nat.ne_of_lt (gZ (g:=fE) (o:=.cells #[.int .u8 fB,.int .u8 eG,.int .u8 dS,.int .u8 dN,.int .i64 dI] 27 (0,0)) (by (with_reducible repeat (first|refine au ?_ _|refine ay ?_|refine ak ?_ _));exact dC.out)):fE ≠ bW))
                                  have uX:=ae.mk ((by rw [hg];exact Nat.ne_of_gt (gZ (g:=fE) (o:=.cells #[.int .u8 fB,.int .u8 eG,.int .u8 dS,.int .u8 dN,.int .i64 dI] 27 (0,0)) (by (with_reducible repeat (first|refine au ?_ _|refine ay ?_|refine ak ?_ _));exact dC.out)):bW ≠ fE))
                                  have yj:=ae.mk ((by rw [hg];exact Nat.ne_of_lt (gZ (g:=dM) (o:=.cells #[.int .u8 dh,.int .u8 df,.int .u8 cZ,.int .u8 cO,.int .i64 cu] 27 (0,0)) (by (with_reducible repeat (first|refine au ?_ _|refine ay ?_|refine ak ?_ _));exact bQ.out)):dM ≠ bW))
                                  have yh:=ae.mk ((by rw [hg];exact Nat.ne_of_gt (gZ (g:=dM) (o:=.cells #[.int .u8 dh,.int .u8 df,.int .u8 cZ,.int .u8 cO,.int .i64 cu] 27 (0,0)) (by (with_reducible repeat (first|refine au ?_ _|refine ay ?_|refine ak ?_ _));exact bQ.out)):bW ≠ dM))
                                  clear dC
                                  clear bQ
                                  clear HB
                                  have dC:=di
                                  have bQ:=dm
                                  have HB:=dE
                                  have iy:=gq
                                  have sW:=jC
                                  have mV:=lN
                                  have dY:=nC
                                  have gG:=uX
                                  have bz:=yj
                                  have gK:=yh
                                  clear di dm dE gq jC lN nC uX yj yh
                                  clear hb hbox hg
                                  refine hK.out _ _ ⟨(ah bQ.out 0).trans rfl,(ah bQ.out 1).trans rfl,(ah bQ.out 2).trans rfl,(ah bQ.out 3).trans rfl,(ah bQ.out 4).trans rfl⟩ (fun hHeld=>?_)
                                  clear hK K
                                  refine gX (a':=?_) ?_ ?_
                                  rotate_left
                                  · show Act.put _ (some 11) _=_
                                    simp only [Act.put,List.setIfInBounds_toArray,List.set_cons_zero,List.set_cons_succ,aI,aJ]
                                    rfl
                                  refine mD (i:=5) (N:=some 58) #[true,true,true,true,true,true,false,false,false,true,false,false] rfl rfl (iD dD.out (by kernel_rfl)) (by decide) (fun K hK=>?_)
                                  refine mG Tryz.func48 (by kernel_rfl) rfl #[.agg #[.int .u8 dh,.int .u8 df,.int .u8 cZ,.int .u8 cO,.int .i64 cu],.int .u8 (bt t217 nK),.int .i64 t221] (by rfl) rfl rfl (by (try simp only [List.map_toArray,List.map_cons,List.map_nil]);first|done|rfl|(simp only [List.length_drop,List.length_take];rfl)) ?_
                                  with_reducible refine (aU.calls k3 dh df cZ cO cu (bt t217 nK) t221 t223 t224 t225 t226 t227 true _ Yn.out).mono ?_
                                  rintro e w24 ⟨rfl,hb⟩
                                  refine ⟨_,rfl,?_⟩
                                  have di:=ae.mk (aV (g:=fE) (o:=.cells #[.int .u8 fB,.int .u8 eG,.int .u8 dS,.int .u8 dN,.int .i64 dI] 27 (0,0)) (by (with_reducible repeat (first|refine au ?_ _|refine ay ?_|refine ak ?_ _));exact dC.out) hb)
                                  have dm:=ae.mk (aV (g:=dM) (o:=.cells #[.int .u8 dh,.int .u8 df,.int .u8 cZ,.int .u8 cO,.int .i64 cu] 27 (0,0)) (by (with_reducible repeat (first|refine au ?_ _|refine ay ?_|refine ak ?_ _));exact bQ.out) hb)
                                  have dE:=ae.mk (aV (g:=bW) (o:=.cells #[.int .u8 0,.int .u8 0,.int .u8 0,.int .u8 0,.int .i64 0] 27 (0,0)) (by (with_reducible repeat (first|refine au ?_ _|refine ay ?_|refine ak ?_ _));exact iy.out) hb)
                                  have gq:=ae.mk (aQ (by repeat (first|(with_reducible first|exact HB.out|apply aj|apply af|apply ai|refine az ?_ iV.out|refine az ?_ jH.out|refine az ?_ mV.out)|exact HB.out)) hb)
                                  clear dC
                                  clear bQ
                                  clear iy
                                  clear HB
                                  have dC:=di
                                  have bQ:=dm
                                  have iy:=dE
                                  have HB:=gq
                                  clear di dm dE gq
                                  (try clear hb)
                                  (try clear hb2)
                                  (try clear hk)
                                  (try clear hi)
                                  refine hK.out _ _ ⟨(ah bQ.out 0).trans rfl,(ah bQ.out 1).trans rfl,(ah bQ.out 2).trans rfl,(ah bQ.out 3).trans rfl,(ah bQ.out 4).trans rfl⟩ (fun hHeld=>?_)
                                  clear hK K
                                  refine gX (a':=?_) ?_ ?_
                                  rotate_left
                                  · show Act.put _ (some 58) _=_
                                    simp only [Act.put,List.setIfInBounds_toArray,List.set_cons_zero,List.set_cons_succ,aI,aJ]
                                    rfl
                                  refine bu (i:=6) (N:=some 52) (v:=?_) (a':=?_) #[true,true,true,true,true,true,true,false,false,true,false,false] rfl rfl (aN dD.out (by kernel_rfl)) (fun _ _ _ h=>h) (Or.inl ⟨by rfl,?_⟩) ?_ ?_
                                  rotate_left
                                  · intro w'
                                    go_simp
                                    with_reducible rfl
                                  rotate_left
                                  · simp only [Act.put,List.setIfInBounds_toArray,List.set_cons_zero,List.set_cons_succ,aI,aJ]
                                    rfl
                                  refine bu (i:=7) (N:=some 59) (v:=?_) (a':=?_) #[true,true,true,true,true,true,true,true,false,true,false,false] rfl rfl (aN dD.out (by kernel_rfl)) (fun _ _ _ h=>h) (Or.inl ⟨by rfl,?_⟩) ?_ ?_
                                  rotate_left
                                  · intro w'
                                    go_simp
                                    with_reducible rfl
                                  rotate_left
                                  · simp only [Act.put,List.setIfInBounds_toArray,List.set_cons_zero,List.set_cons_succ,aI,aJ]
                                    rfl
                                  refine bu (i:=8) (N:=some 60) (v:=?_) (a':=?_) #[true,true,true,true,true,true,true,true,true,true,false,false] rfl rfl (aN dD.out (by kernel_rfl)) (fun _ _ _ h=>h) (Or.inl ⟨by rfl,?_⟩) ?_ ?_
                                  rotate_left
                                  · intro w'
                                    go_simp
                                    with_reducible rfl
                                  rotate_left
                                  · simp only [Act.put,List.setIfInBounds_toArray,List.set_cons_zero,List.set_cons_succ,aI,aJ]
                                    rfl
                                  exact gX (by simp only [jJ,Act.put,List.setIfInBounds_toArray,List.set_cons_zero,List.set_cons_succ]) (rq (bW) _ ⟨hHeld,(by (with_reducible repeat (first|refine au ?_ _|refine ay ?_|refine ak ?_ _));exact dC.out),(by (with_reducible repeat (first|refine au ?_ _|refine ay ?_|refine ak ?_ _));exact bQ.out),(by (with_reducible repeat (first|refine au ?_ _|refine ay ?_|refine ak ?_ _));exact iy.out),sW.out,mV.out,dY.out,gG.out,bz.out,gK.out,(by repeat (first|(with_reducible first|exact HB.out|apply aj|apply af|apply ai|refine az ?_ iV.out|refine az ?_ jH.out|refine az ?_ mV.out)|exact HB.out))⟩)
                              rintro bW rG ⟨jL,LD,LC,Lu,Lt,Ls,VW,VV,VU,VT,VS⟩
                              have di:ae (rG.heap[fE]? = some (.cells #[.int .u8 fB,.int .u8 eG,.int .u8 dS,.int .u8 dN,.int .i64 dI] 27 (0,0))):=⟨LD⟩
                              have dm:ae (rG.heap[dM]? = some (.cells #[.int .u8 dh,.int .u8 df,.int .u8 cZ,.int .u8 cO,.int .i64 cu] 27 (0,0))):=⟨LC⟩
                              have dE:ae (rG.heap[bW]? = some (.cells #[.int .u8 0,.int .u8 0,.int .u8 0,.int .u8 0,.int .i64 0] 27 (0,0))):=⟨Lu⟩
                              have gq:ae (w.heap.size≤bW):=⟨Lt⟩
                              have jC:ae (w.heap.size≤bW):=⟨Ls⟩
                              have lN:ae (fE ≠ bW):=⟨VW⟩
                              have nC:ae (bW ≠ fE):=⟨VV⟩
                              have uX:ae (dM ≠ bW):=⟨VU⟩
                              have yj:ae (bW ≠ dM):=⟨VT⟩
                              have yh:ae (Below w.heap.size w rG):=⟨VS⟩
                              clear dC
                              clear bQ
                              clear HB
                              clear LD LC Lu Lt Ls VW VV VU VT VS
                              have dC:=di
                              have bQ:=dm
                              have iy:=dE
                              have sW:=gq
                              have mV:=jC
                              have dY:=lN
                              have gG:=nC
                              have bz:=uX
                              have gK:=yj
                              have HB:=yh
                              clear di dm dE gq jC lN nC uX yj yh
                              have hHeld:rG.cell? ⟨dM,0,none⟩=some (.int .u8 dh)∧rG.cell? ⟨dM,1,none⟩=some (.int .u8 df)∧rG.cell? ⟨dM,2,none⟩=some (.int .u8 cZ)∧rG.cell? ⟨dM,3,none⟩=some (.int .u8 cO)∧rG.cell? ⟨dM,4,none⟩=some (.int .i64 cu):=jL
                              refine gX (a':=?_) ?_ ?_
                              rotate_left
                              · simp only [jJ,Act.put,List.setIfInBounds_toArray,List.set_cons_zero,List.set_cons_succ]
                                rfl
                              refine mD (i:=10) (N:=none) #[true,true,true,true,true,true,true,true,true,true,true,false] rfl rfl (iD dD.out (by kernel_rfl)) (by decide) (fun K hK=>?_)
                              have aiI:rG.cell? ⟨bW,0,none⟩=some (.int .u8 0):=(ah iy.out 0).trans rfl
                              have ahl:=ax iy.out 0
                              have abf:=dY.out
                              have abe:=bz.out
                              have abM:=gG.out
                              have abL:=gK.out
                              have aiH:rG.cell? ⟨bW,1,none⟩=some (.int .u8 0):=(ah iy.out 1).trans rfl
                              have ahk:=ax iy.out 1
                              have abd:=dY.out
                              have abb:=bz.out
                              have abK:=gG.out
                              have abJ:=gK.out
                              have aiG:rG.cell? ⟨bW,2,none⟩=some (.int .u8 0):=(ah iy.out 2).trans rfl
                              have ahj:=ax iy.out 2
                              have aba:=dY.out
                              have aa9:=bz.out
                              have abI:=gG.out
                              have abH:=gK.out
                              have aiF:rG.cell? ⟨bW,3,none⟩=some (.int .u8 0):=(ah iy.out 3).trans rfl
                              have ahi:=ax iy.out 3
                              have aa8:=dY.out
                              have aa7:=bz.out
                              have abG:=gG.out
                              have abE:=gK.out
                              have aiE:rG.cell? ⟨bW,4,none⟩=some (.int .i64 0):=(ah iy.out 4).trans rfl
                              have ahh:=ax iy.out 4
                              have aa6:=dY.out
                              have aa5:=bz.out
                              have abD:=gG.out
                              have abC:=gK.out
                              refine Aa (w1:=?_) (by rfl) rfl ?_ ?_
                              rotate_left
                              · go_simp
                                rfl
                              refine hK.out _ _ ⟨((cell_far (p:=⟨bW,_,none⟩) bz.out _).trans (((cell_far (p:=⟨bW,_,none⟩) bz.out _).trans (((cell_far (p:=⟨bW,_,none⟩) bz.out _).trans (((cell_far (p:=⟨bW,_,none⟩) bz.out _).trans (((cell_far (p:=⟨bW,_,none⟩) bz.out _).trans (hHeld.1)))))))))),((cell_far (p:=⟨bW,_,none⟩) bz.out _).trans (((cell_far (p:=⟨bW,_,none⟩) bz.out _).trans (((cell_far (p:=⟨bW,_,none⟩) bz.out _).trans (((cell_far (p:=⟨bW,_,none⟩) bz.out _).trans (((cell_far (p:=⟨bW,_,none⟩) bz.out _).trans (hHeld.2.1)))))))))),((cell_far (p:=⟨bW,_,none⟩) bz.out _).trans (((cell_far (p:=⟨bW,_,none⟩) bz.out _).trans (((cell_far (p:=⟨bW,_,none⟩) bz.out _).trans (((cell_far (p:=⟨bW,_,none⟩) bz.out _).trans (((cell_far (p:=⟨bW,_,none⟩) bz.out _).trans (hHeld.2.2.1)))))))))),((cell_far (p:=⟨bW,_,none⟩) bz.out _).trans (((cell_far (p:=⟨bW,_,none⟩) bz.out _).trans (((cell_far (p:=⟨bW,_,none⟩) bz.out _).trans (((cell_far (p:=⟨bW,_,none⟩) bz.out _).trans (((cell_far (p:=⟨bW,_,none⟩) bz.out _).trans (hHeld.2.2.2.1)))))))))),((cell_far (p:=⟨bW,_,none⟩) bz.out _).trans (((cell_far (p:=⟨bW,_,none⟩) bz.out _).trans (((cell_far (p:=⟨bW,_,none⟩) bz.out _).trans (((cell_far (p:=⟨bW,_,none⟩) bz.out _).trans (((cell_far (p:=⟨bW,_,none⟩) bz.out _).trans (hHeld.2.2.2.2))))))))))⟩ (fun hHeld=>?_)
                              clear hK K
                              refine bu (i:=11) (N:=some 12) (v:=?_) (a':=?_) #[true,true,true,true,true,true,true,true,true,true,true,true] rfl rfl (aN dD.out (by kernel_rfl)) (fun _ _ _ h=>h) (Or.inl ⟨by rfl,?_⟩) ?_ ?_
                              rotate_left
                              · intro w'
                                go_simp
                                with_reducible rfl
                              rotate_left
                              · simp only [Act.put,List.setIfInBounds_toArray,List.set_cons_zero,List.set_cons_succ,aI,aJ]
                                rfl
                              refine qL (lG dD.out (by kernel_rfl)) ?_
                              have agY:=gG.out
                              have agH:=dY.out
                              have agX:=gK.out
                              have agG:=bz.out
                              have aep:rG.cell? ⟨bW,0,none⟩=some (.int .u8 0):=(ah iy.out 0).trans rfl
                              have aeo:rG.cell? ⟨bW,1,none⟩=some (.int .u8 0):=(ah iy.out 1).trans rfl
                              have aen:rG.cell? ⟨bW,2,none⟩=some (.int .u8 0):=(ah iy.out 2).trans rfl
                              have aem:rG.cell? ⟨bW,3,none⟩=some (.int .u8 0):=(ah iy.out 3).trans rfl
                              have ael:rG.cell? ⟨bW,4,none⟩=some (.int .i64 0):=(ah iy.out 4).trans rfl
                              have acX:=ax iy.out 0
                              have acW:=ax iy.out 1
                              have acV:=ax iy.out 2
                              have acU:=ax iy.out 3
                              have acT:=ax iy.out 4
                              have agW:=um.out
                              have agF:=jY.out
                              have Un:rG.cell? ⟨dM,0,none⟩=some (.int .u8 dh):=(ah bQ.out 0).trans rfl
                              have Um:rG.cell? ⟨dM,1,none⟩=some (.int .u8 df):=(ah bQ.out 1).trans rfl
                              have Ul:rG.cell? ⟨dM,2,none⟩=some (.int .u8 cZ):=(ah bQ.out 2).trans rfl
                              have Uk:rG.cell? ⟨dM,3,none⟩=some (.int .u8 cO):=(ah bQ.out 3).trans rfl
                              have aek:rG.cell? ⟨dM,4,none⟩=some (.int .i64 cu):=(ah bQ.out 4).trans rfl
                              have Td:=ax bQ.out 0
                              have Tc:=ax bQ.out 1
                              have S9:=ax bQ.out 2
                              have SY:=ax bQ.out 3
                              have acS:=ax bQ.out 4
                              try go_wp2
                              go_roundg k3
                              case measure=>have:=nZ.out;have:=HJ4.out;have:=HK3.out;omega
                              case rel=>exact ⟨(qm),(fB),(eG),(dS),(dN),(dI),(t223),(t224),(t225),(t226),(t227),(by first|rfl|(simp;done)|(simp only [← yu] <;> (first|rfl|simp))|(simp [*];done)),H',⟨by have:=nZ.out;have:=HJ4.out;have:=HK3.out;omega⟩,⟨by (with_reducible repeat (first|refine au ?_ _|refine ay ?_|refine ak ?_ _));refine fC ?_ jY.out _;(with_reducible repeat (first|refine au ?_ _|refine ay ?_|refine ak ?_ _));refine fC ?_ jY.out _;(with_reducible repeat (first|refine au ?_ _|refine ay ?_|refine ak ?_ _));refine fC ?_ jY.out _;(with_reducible repeat (first|refine au ?_ _|refine ay ?_|refine ak ?_ _));refine fC ?_ jY.out _;(with_reducible repeat (first|refine au ?_ _|refine ay ?_|refine ak ?_ _));refine fC ?_ jY.out _;(with_reducible repeat (first|refine au ?_ _|refine ay ?_|refine ak ?_ _));refine fC ?_ dY.out _;(with_reducible repeat (first|refine au ?_ _|refine ay ?_|refine ak ?_ _));refine fC ?_ dY.out _;(with_reducible repeat (first|refine au ?_ _|refine ay ?_|refine ak ?_ _));refine fC ?_ dY.out _;(with_reducible repeat (first|refine au ?_ _|refine ay ?_|refine ak ?_ _));refine fC ?_ dY.out _;(with_reducible repeat (first|refine au ?_ _|refine ay ?_|refine ak ?_ _));refine fC ?_ dY.out _;(with_reducible repeat (first|refine au ?_ _|refine ay ?_|refine ak ?_ _));exact dC.out⟩,⟨by (with_reducible repeat (first|refine au ?_ _|refine ay ?_|refine ak ?_ _));refine dB (cs:=#[.int .u8 t223,.int .u8 t224,.int .u8 t225,.int .u8 t226,.int .i64 cu]) ?_ 4 _ rfl;(with_reducible repeat (first|refine au ?_ _|refine ay ?_|refine ak ?_ _));refine dB (cs:=#[.int .u8 t223,.int .u8 t224,.int .u8 t225,.int .u8 cO,.int .i64 cu]) ?_ 3 _ rfl;(with_reducible repeat (first|refine au ?_ _|refine ay ?_|refine ak ?_ _));refine dB (cs:=#[.int .u8 t223,.int .u8 t224,.int .u8 cZ,.int .u8 cO,.int .i64 cu]) ?_ 2 _ rfl;(with_reducible repeat (first|refine au ?_ _|refine ay ?_|refine ak ?_ _));refine dB (cs:=#[.int .u8 t223,.int .u8 df,.int .u8 cZ,.int .u8 cO,.int .i64 cu]) ?_ 1 _ rfl;(with_reducible repeat (first|refine au ?_ _|refine ay ?_|refine ak ?_ _));refine dB (cs:=#[.int .u8 dh,.int .u8 df,.int .u8 cZ,.int .u8 cO,.int .i64 cu]) ?_ 0 _ rfl;(with_reducible repeat (first|refine au ?_ _|refine ay ?_|refine ak ?_ _));refine fC ?_ bz.out _;(with_reducible repeat (first|refine au ?_ _|refine ay ?_|refine ak ?_ _));refine fC ?_ bz.out _;(with_reducible repeat (first|refine au ?_ _|refine ay ?_|refine ak ?_ _));refine fC ?_ bz.out _;(with_reducible repeat (first|refine au ?_ _|refine ay ?_|refine ak ?_ _));refine fC ?_ bz.out _;(with_reducible repeat (first|refine au ?_ _|refine ay ?_|refine ak ?_ _));refine fC ?_ bz.out _;(with_reducible repeat (first|refine au ?_ _|refine ay ?_|refine ak ?_ _));exact bQ.out⟩,⟨by repeat (first|(with_reducible first|exact HB.out|apply aj|apply af|apply ai|refine az ?_ iV.out|refine az ?_ jH.out|refine az ?_ mV.out)|exact HB.out)⟩⟩
                            · replace c21:=Bool.eq_false_iff.mpr c21
                              subst c21
                              have H1:(some (0,0,0,0,0,false))=some (r1,r2,r3,r4,r5,r6):=by rw [if_neg (show ¬ (false=true) by decide)] at H;exact H
                              clear H
                              have H:=H1
                              clear H1
                              simp only [Option.some.injEq,Prod.mk.injEq] at H
                              obtain ⟨rfl,rfl,rfl,rfl,rfl,rfl⟩:=H
                              have Ap:0≤((qm):Int):=of_decide_eq_true (by first|(with_reducible assumption)|assumption)
                              have Ah:(qm) < (l0.length:Int):=of_decide_eq_true (by first|(with_reducible assumption)|assumption)
                              obtain ⟨V6,e220,pF⟩:=Kd.gB HR0.out (qm) Ap Ah
                              cases e220
                              replace pF:=(HB.out.cell (World.block_lt_of_cell? w _ pF)).trans pF
                              replace Ap:=eq_true Ap
                              replace Ah:=eq_true Ah
                              try go_wp2_with (first|((with_reducible refine bU (f:=47) rfl ?_);refine gy (some 49) rfl rfl Tryz.func47 (by kernel_rfl) rfl #[.string (gI ByteArray.empty l0 (qm))] rfl (by (try simp only [List.map_toArray,List.map_cons,List.map_nil]);first|done|(simp only [yu];rfl)|rfl|(simp only [List.length_drop,List.length_take];rfl)) ?_;(with_reducible refine (aC.calls k3 (gI ByteArray.empty l0 (qm)) t221 t222 _ Q9.out).mono ?_);rintro e w' ⟨rfl,⟨nd,rfl⟩⟩;refine ⟨_,rfl,?_⟩;(try (rw [rX wr];generalize BK:World.drewN wr _=wr;have di:ae (wr.heap[fE]? = some (.cells #[.int .u8 fB,.int .u8 eG,.int .u8 dS,.int .u8 dN,.int .i64 dI] 27 (0,0))):=⟨by rw [← BK];exact (by (with_reducible repeat (first|refine au ?_ _|refine ay ?_|refine ak ?_ _));exact dC.out)⟩;have dm:ae (wr.heap[dM]? = some (.cells #[.int .u8 dh,.int .u8 df,.int .u8 cZ,.int .u8 cO,.int .i64 cu] 27 (0,0))):=⟨by rw [← BK];exact (by (with_reducible repeat (first|refine au ?_ _|refine ay ?_|refine ak ?_ _));exact bQ.out)⟩;have dE:ae (Below w.heap.size w wr):=⟨by rw [← BK];exact (by repeat (first|(with_reducible first|exact HB.out|apply aj|apply af|apply ai|refine az ?_ iV.out|refine az ?_ jH.out)|exact HB.out))⟩;clear dC bQ HB BK;have dC:=di;have bQ:=dm;have HB:=dE;clear di dm dE))))
                              have di:=ae.mk (ay dC.out)
                              have dm:=ae.mk (ay bQ.out)
                              have dE:=ae.mk (ai HB.out)
                              clear dC
                              clear bQ
                              clear HB
                              have dC:=di
                              have bQ:=dm
                              have HB:=dE
                              clear di dm dE
                              have F8:0≤(nK:Int):=of_decide_eq_true (by first|(with_reducible assumption)|assumption)
                              have FZ:nK < (t217.size:Int):=of_decide_eq_true (by first|(with_reducible assumption)|assumption)
                              have Ph:=lL t217 nK
                              replace F8:=eq_true F8
                              replace FZ:=eq_true FZ
                              refine nM (n:=12) (S:=fun w'=>w'.cell? ⟨dM,0,none⟩=some (.int .u8 dh)∧w'.cell? ⟨dM,1,none⟩=some (.int .u8 df)∧w'.cell? ⟨dM,2,none⟩=some (.int .u8 cZ)∧w'.cell? ⟨dM,3,none⟩=some (.int .u8 cO)∧w'.cell? ⟨dM,4,none⟩=some (.int .i64 cu)) (ds:=[]) #[false,false,false,false,false,false,false,false,false,false,false,false] (by kernel_rfl) rfl rfl ⟨(ah bQ.out 0).trans rfl,(ah bQ.out 1).trans rfl,(ah bQ.out 2).trans rfl,(ah bQ.out 3).trans rfl,(ah bQ.out 4).trans rfl⟩ (fun hHeld=>?_);refine je aG.Oo aG.I4 (fun dD lK=>?_)
                              generalize wr.drew=Yh at dC bQ HB hHeld ⊢
                              refine bu (i:=1) (N:=some 54) (v:=?_) (a':=?_) #[false,true,false,false,false,false,false,false,false,false,false,false] rfl rfl (aN dD.out (by kernel_rfl)) (fun _ _ _ h=>h) (Or.inl ⟨by rfl,?_⟩) ?_ ?_
                              rotate_left
                              · intro w'
                                go_simp
                                with_reducible rfl
                              rotate_left
                              · simp only [Act.put,List.setIfInBounds_toArray,List.set_cons_zero,List.set_cons_succ,aI,aJ]
                                rfl
                              refine bu (i:=2) (N:=some 55) (v:=?_) (a':=?_) #[false,true,true,false,false,false,false,false,false,false,false,false] rfl rfl (aN dD.out (by kernel_rfl)) (fun _ _ _ h=>h) (Or.inl ⟨by rfl,?_⟩) ?_ ?_
                              rotate_left
                              · intro w'
                                go_simp
                                with_reducible rfl
                              rotate_left
                              · simp only [Act.put,List.setIfInBounds_toArray,List.set_cons_zero,List.set_cons_succ,aI,aJ]
                                rfl
                              refine bu (i:=4) (N:=some 57) (v:=?_) (a':=?_) #[false,true,true,false,true,false,false,false,false,false,false,false] rfl rfl (aN dD.out (by kernel_rfl)) (fun _ _ _ h=>h) (Or.inl ⟨by rfl,?_⟩) ?_ ?_
                              rotate_left
                              · intro w'
                                go_simp
                                with_reducible rfl
                              rotate_left
                              · simp only [Act.put,List.setIfInBounds_toArray,List.set_cons_zero,List.set_cons_succ,aI,aJ]
                                rfl
                              refine gQ (i:=0) (N:=some 53) (v:=?_) (a':=?_) #[true,true,true,false,true,false,false,false,false,false,false,false] rfl rfl (dw dD.out lK.out (by kernel_rfl)) (fun _ _ _ h=>h) (Or.inl ⟨by rfl,?_⟩) hHeld ?_ ?_
                              rotate_left
                              · rintro w' ⟨s0,s1,s2,s3,s4⟩
                                go_simp
                                with_reducible rfl
                              rotate_left
                              · simp only [Act.put,List.setIfInBounds_toArray,List.set_cons_zero,List.set_cons_succ,aI,aJ]
                                rfl
                              refine gQ (i:=3) (N:=some 56) (v:=?_) (a':=?_) #[true,true,true,true,true,false,false,false,false,false,false,false] rfl rfl (dw dD.out lK.out (by kernel_rfl)) (fun _ _ _ h=>h) (Or.inl ⟨by rfl,?_⟩) hHeld ?_ ?_
                              rotate_left
                              · rintro w' ⟨s0,s1,s2,s3,s4⟩
                                go_simp
                                with_reducible rfl
                              rotate_left
                              · simp only [Act.put,List.setIfInBounds_toArray,List.set_cons_zero,List.set_cons_succ,aI,aJ]
                                rfl
                              refine Gq (σ:=Nat) 2 #[true,true,true,true,true,true,true,true,true,true,false,false] (fun s_=>[(58,.tuple #[.agg #[.int .u8 t223,.int .u8 t224,.int .u8 t225,.int .u8 t226,.int .i64 t227],.bool false]),(11,.pointer (some ⟨s_,0,none⟩)),(52,.tuple #[.agg #[.int .u8 t223,.int .u8 t224,.int .u8 t225,.int .u8 t226,.int .i64 t227],.bool false]),(59,.agg #[.int .u8 t223,.int .u8 t224,.int .u8 t225,.int .u8 t226,.int .i64 t227]),(60,.bool false)]) (fun s_ w'=>(w'.cell? ⟨dM,0,none⟩=some (.int .u8 dh)∧w'.cell? ⟨dM,1,none⟩=some (.int .u8 df)∧w'.cell? ⟨dM,2,none⟩=some (.int .u8 cZ)∧w'.cell? ⟨dM,3,none⟩=some (.int .u8 cO)∧w'.cell? ⟨dM,4,none⟩=some (.int .i64 cu))∧(w'.heap[fE]? = some (.cells #[.int .u8 fB,.int .u8 eG,.int .u8 dS,.int .u8 dN,.int .i64 dI] 27 (0,0)))∧(w'.heap[dM]? = some (.cells #[.int .u8 dh,.int .u8 df,.int .u8 cZ,.int .u8 cO,.int .i64 cu] 27 (0,0)))∧(w'.heap[s_]? = some (.cells #[.int .u8 0,.int .u8 0,.int .u8 0,.int .u8 0,.int .i64 0] 27 (0,0)))∧(w.heap.size≤s_)∧(w.heap.size≤s_)∧(fE ≠ s_)∧(s_ ≠ fE)∧(dM ≠ s_)∧(s_ ≠ dM)∧(Below w.heap.size w w')) ?_ ?_
                              rotate_left
                              · intro rq
                                refine Ia (i:=5) (j:=9) (Ni:=some 58) (Nj:=some 11) #[true,true,true,true,true,true,false,false,false,false,false,false] #[true,true,true,true,true,false,false,false,false,true,false,false] rfl rfl rfl rfl (xG dD.out (by kernel_rfl)) (by decide) (by decide) (fun K hK=>?_) (fun K hK=>?_)
                                · skip
                                  refine mG Tryz.func48 (by kernel_rfl) rfl #[.agg #[.int .u8 dh,.int .u8 df,.int .u8 cZ,.int .u8 cO,.int .i64 cu],.int .u8 (bt t217 nK),.int .i64 t221] (by rfl) rfl rfl (by (try simp only [List.map_toArray,List.map_cons,List.map_nil]);first|done|rfl|(simp only [List.length_drop,List.length_take];rfl)) ?_
                                  with_reducible refine (aU.calls k3 dh df cZ cO cu (bt t217 nK) t221 t223 t224 t225 t226 t227 false _ Yn.out).mono ?_
                                  rintro e w37 ⟨rfl,hb⟩
                                  refine ⟨_,rfl,?_⟩
                                  have di:=ae.mk (aV (g:=fE) (o:=.cells #[.int .u8 fB,.int .u8 eG,.int .u8 dS,.int .u8 dN,.int .i64 dI] 27 (0,0)) (by (with_reducible repeat (first|refine au ?_ _|refine ay ?_|refine ak ?_ _));exact dC.out) hb)
                                  have dm:=ae.mk (aV (g:=dM) (o:=.cells #[.int .u8 dh,.int .u8 df,.int .u8 cZ,.int .u8 cO,.int .i64 cu] 27 (0,0)) (by (with_reducible repeat (first|refine au ?_ _|refine ay ?_|refine ak ?_ _));exact bQ.out) hb)
                                  have dE:=ae.mk (aQ (by repeat (first|(with_reducible first|exact HB.out|apply aj|apply af|apply ai|refine az ?_ iV.out|refine az ?_ jH.out)|exact HB.out)) hb)
                                  clear dC
                                  clear bQ
                                  clear HB
                                  have dC:=di
                                  have bQ:=dm
                                  have HB:=dE
                                  clear di dm dE
                                  (try clear hb)
                                  (try clear hb2)
                                  (try clear hk)
                                  (try clear hi)
                                  refine hK.out _ _ ⟨(ah bQ.out 0).trans rfl,(ah bQ.out 1).trans rfl,(ah bQ.out 2).trans rfl,(ah bQ.out 3).trans rfl,(ah bQ.out 4).trans rfl⟩ (fun hHeld=>?_)
                                  clear hK K
                                  refine gX (a':=?_) ?_ ?_
                                  rotate_left
                                  · show Act.put _ (some 58) _=_
                                    simp only [Act.put,List.setIfInBounds_toArray,List.set_cons_zero,List.set_cons_succ,aI,aJ]
                                    rfl
                                  refine bu (i:=6) (N:=some 52) (v:=?_) (a':=?_) #[true,true,true,true,true,true,true,false,false,false,false,false] rfl rfl (aN dD.out (by kernel_rfl)) (fun _ _ _ h=>h) (Or.inl ⟨by rfl,?_⟩) ?_ ?_
                                  rotate_left
                                  · intro w'
                                    go_simp
                                    with_reducible rfl
                                  rotate_left
                                  · simp only [Act.put,List.setIfInBounds_toArray,List.set_cons_zero,List.set_cons_succ,aI,aJ]
                                    rfl
                                  refine bu (i:=7) (N:=some 59) (v:=?_) (a':=?_) #[true,true,true,true,true,true,true,true,false,false,false,false] rfl rfl (aN dD.out (by kernel_rfl)) (fun _ _ _ h=>h) (Or.inl ⟨by rfl,?_⟩) ?_ ?_
                                  rotate_left
                                  · intro w'
                                    go_simp
                                    with_reducible rfl
                                  rotate_left
                                  · simp only [Act.put,List.setIfInBounds_toArray,List.set_cons_zero,List.set_cons_succ,aI,aJ]
                                    rfl
                                  refine bu (i:=8) (N:=some 60) (v:=?_) (a':=?_) #[true,true,true,true,true,true,true,true,true,false,false,false] rfl rfl (aN dD.out (by kernel_rfl)) (fun _ _ _ h=>h) (Or.inl ⟨by rfl,?_⟩) ?_ ?_
                                  rotate_left
                                  · intro w'
                                    go_simp
                                    with_reducible rfl
                                  rotate_left
                                  · simp only [Act.put,List.setIfInBounds_toArray,List.set_cons_zero,List.set_cons_succ,aI,aJ]
                                    rfl
                                  refine mD (i:=9) (N:=some 11) #[true,true,true,true,true,true,true,true,true,true,false,false] rfl rfl (iD dD.out (by kernel_rfl)) (by decide) (fun K hK=>?_)
                                  refine uk ?hg (N:=11) ?hd (cs:=#[.int .u8 0,.int .u8 0,.int .u8 0,.int .u8 0,.int .i64 0]) (t:=27) ?hr ?_;(case hd=>rfl);(case hg=>rfl);(case hr=>first|(go_simp;done)|(go_simp;rfl))
                                  intro bW hg Rh hbox hb
                                  have di:=ae.mk (aV (g:=fE) (o:=.cells #[.int .u8 fB,.int .u8 eG,.int .u8 dS,.int .u8 dN,.int .i64 dI] 27 (0,0)) (by (with_reducible repeat (first|refine au ?_ _|refine ay ?_|refine ak ?_ _));exact dC.out) hb)
                                  have dm:=ae.mk (aV (g:=dM) (o:=.cells #[.int .u8 dh,.int .u8 df,.int .u8 cZ,.int .u8 cO,.int .i64 cu] 27 (0,0)) (by (with_reducible repeat (first|refine au ?_ _|refine ay ?_|refine ak ?_ _));exact bQ.out) hb)
                                  have dE:=ae.mk (aQ (by repeat (first|(with_reducible first|exact HB.out|apply aj|apply af|apply ai|refine az ?_ iV.out|refine az ?_ jH.out)|exact HB.out)) hb)
                                  have gq:=ae.mk (hbox)
                                  have jC:=ae.mk ((by rw [hg];exact (bn (by repeat (first|(with_reducible first|exact HB.out|apply aj|apply af|apply ai|refine az ?_ iV.out|refine az ?_ jH.out)|exact HB.out))):w.heap.size≤bW))
                                  have lN:=ae.mk ((by rw [hg];exact (bn (by repeat (first|(with_reducible first|exact HB.out|apply aj|apply af|apply ai|refine az ?_ iV.out|refine az ?_ jH.out)|exact HB.out))):w.heap.size≤bW))
                                  have nC:=ae.mk ((by rw [hg];exact Nat.ne_of_lt (gZ (g:=fE) (o:=.cells #[.int .u8 fB,.int .u8 eG,.int .u8 dS,.int .u8 dN,.int .i64 dI] 27 (0,0)) (by (with_reducible repeat (first|refine au ?_ _|refine ay ?_|refine ak ?_ _));exact dC.out)):fE ≠ bW))
                                  have uX:=ae.mk ((by rw [hg];exact Nat.ne_of_gt (gZ (g:=fE) (o:=.cells #[.int .u8 fB,.int .u8 eG,.int .u8 dS,.int .u8 dN,.int .i64 dI] 27 (0,0)) (by (with_reducible repeat (first|refine au ?_ _|refine ay ?_|refine ak ?_ _));exact dC.out)):bW ≠ fE))
                                  have yj:=ae.mk ((by rw [hg];exact Nat.ne_of_lt (gZ (g:=dM) (o:=.cells #[.int .u8 dh,.int .u8 df,.int .u8 cZ,.int .u8 cO,.int .i64 cu] 27 (0,0)) (by (with_reducible repeat (first|refine au ?_ _|refine ay ?_|refine ak ?_ _));exact bQ.out)):dM ≠ bW))
                                  have yh:=ae.mk ((by rw [hg];exact Nat.ne_of_gt (gZ (g:=dM) (o:=.cells #[.int .u8 dh,.int .u8 df,.int .u8 cZ,.int .u8 cO,.int .i64 cu] 27 (0,0)) (by (with_reducible repeat (first|refine au ?_ _|refine ay ?_|refine ak ?_ _));exact bQ.out)):bW ≠ dM))
                                  clear dC
                                  clear bQ
                                  clear HB
                                  have dC:=di
                                  have bQ:=dm
                                  have HB:=dE
                                  have iy:=gq
                                  have sW:=jC
                                  have mV:=lN
                                  have dY:=nC
                                  have gG:=uX
                                  have bz:=yj
                                  have gK:=yh
                                  clear di dm dE gq jC lN nC uX yj yh
                                  clear hb hbox hg
                                  refine hK.out _ _ ⟨(ah bQ.out 0).trans rfl,(ah bQ.out 1).trans rfl,(ah bQ.out 2).trans rfl,(ah bQ.out 3).trans rfl,(ah bQ.out 4).trans rfl⟩ (fun hHeld=>?_)
                                  clear hK K
                                  refine gX (a':=?_) ?_ ?_
                                  rotate_left
                                  · show Act.put _ (some 11) _=_
                                    simp only [Act.put,List.setIfInBounds_toArray,List.set_cons_zero,List.set_cons_succ,aI,aJ]
                                    rfl
                                  exact gX (by simp only [jJ,Act.put,List.setIfInBounds_toArray,List.set_cons_zero,List.set_cons_succ]) (rq (bW) _ ⟨hHeld,(by (with_reducible repeat (first|refine au ?_ _|refine ay ?_|refine ak ?_ _));exact dC.out),(by (with_reducible repeat (first|refine au ?_ _|refine ay ?_|refine ak ?_ _));exact bQ.out),(by (with_reducible repeat (first|refine au ?_ _|refine ay ?_|refine ak ?_ _));exact iy.out),sW.out,mV.out,dY.out,gG.out,bz.out,gK.out,(by repeat (first|(with_reducible first|exact HB.out|apply aj|apply af|apply ai|refine az ?_ iV.out|refine az ?_ jH.out|refine az ?_ mV.out)|exact HB.out))⟩)
                                · skip
                                  refine uk ?hg (N:=11) ?hd (cs:=#[.int .u8 0,.int .u8 0,.int .u8 0,.int .u8 0,.int .i64 0]) (t:=27) ?hr ?_;(case hd=>rfl);(case hg=>rfl);(case hr=>first|(go_simp;done)|(go_simp;rfl))
                                  intro bW hg w37 hbox hb
                                  have di:=ae.mk (aV (g:=fE) (o:=.cells #[.int .u8 fB,.int .u8 eG,.int .u8 dS,.int .u8 dN,.int .i64 dI] 27 (0,0)) (by (with_reducible repeat (first|refine au ?_ _|refine ay ?_|refine ak ?_ _));exact dC.out) hb)
                                  have dm:=ae.mk (aV (g:=dM) (o:=.cells #[.int .u8 dh,.int .u8 df,.int .u8 cZ,.int .u8 cO,.int .i64 cu] 27 (0,0)) (by (with_reducible repeat (first|refine au ?_ _|refine ay ?_|refine ak ?_ _));exact bQ.out) hb)
                                  have dE:=ae.mk (aQ (by repeat (first|(with_reducible first|exact HB.out|apply aj|apply af|apply ai|refine az ?_ iV.out|refine az ?_ jH.out)|exact HB.out)) hb)
                                  have gq:=ae.mk (hbox)
                                  have jC:=ae.mk ((by rw [hg];exact (bn (by repeat (first|(with_reducible first|exact HB.out|apply aj|apply af|apply ai|refine az ?_ iV.out|refine az ?_ jH.out)|exact HB.out))):w.heap.size≤bW))
                                  have lN:=ae.mk ((by rw [hg];exact (bn (by repeat (first|(with_reducible first|exact HB.out|apply aj|apply af|apply ai|refine az ?_ iV.out|refine az ?_ jH.out)|exact HB.out))):w.heap.size≤bW))
                                  have nC:=ae.mk ((by rw [hg];exact Nat.ne_of_lt (gZ (g:=fE) (o:=.cells #[.int .u8 fB,.int .u8 eG,.int .u8 dS,.int .u8 dN,.int .i64 dI] 27 (0,0)) (by (with_reducible repeat (first|refine au ?_ _|refine ay ?_|refine ak ?_ _));exact dC.out)):fE ≠ bW))
                                  have uX:=ae.mk ((by rw [hg];exact Nat.ne_of_gt (gZ (g:=fE) (o:=.cells #[.int .u8 fB,.int .u8 eG,.int .u8 dS,.int .u8 dN,.int .i64 dI] 27 (0,0)) (by (with_reducible repeat (first|refine au ?_ _|refine ay ?_|refine ak ?_ _));exact dC.out)):bW ≠ fE))
                                  have yj:=ae.mk ((by rw [hg];exact Nat.ne_of_lt (gZ (g:=dM) (o:=.cells #[.int .u8 dh,.int .u8 df,.int .u8 cZ,.int .u8 cO,.int .i64 cu] 27 (0,0)) (by (with_reducible repeat (first|refine au ?_ _|refine ay ?_|refine ak ?_ _));exact bQ.out)):dM ≠ bW))
                                  have yh:=ae.mk ((by rw [hg];exact Nat.ne_of_gt (gZ (g:=dM) (o:=.cells #[.int .u8 dh,.int .u8 df,.int .u8 cZ,.int .u8 cO,.int .i64 cu] 27 (0,0)) (by (with_reducible repeat (first|refine au ?_ _|refine ay ?_|refine ak ?_ _));exact bQ.out)):bW ≠ dM))
                                  clear dC
                                  clear bQ
                                  clear HB
                                  have dC:=di
                                  have bQ:=dm
                                  have HB:=dE
                                  have iy:=gq
                                  have sW:=jC
                                  have mV:=lN
                                  have dY:=nC
                                  have gG:=uX
                                  have bz:=yj
                                  have gK:=yh
                                  clear di dm dE gq jC lN nC uX yj yh
                                  clear hb hbox hg
                                  refine hK.out _ _ ⟨(ah bQ.out 0).trans rfl,(ah bQ.out 1).trans rfl,(ah bQ.out 2).trans rfl,(ah bQ.out 3).trans rfl,(ah bQ.out 4).trans rfl⟩ (fun hHeld=>?_)
                                  clear hK K
                                  refine gX (a':=?_) ?_ ?_
                                  rotate_left
                                  · show Act.put _ (some 11) _=_
                                    simp only [Act.put,List.setIfInBounds_toArray,List.set_cons_zero,List.set_cons_succ,aI,aJ]
                                    rfl
                                  refine mD (i:=5) (N:=some 58) #[true,true,true,true,true,true,false,false,false,true,false,false] rfl rfl (iD dD.out (by kernel_rfl)) (by decide) (fun K hK=>?_)
                                  refine mG Tryz.func48 (by kernel_rfl) rfl #[.agg #[.int .u8 dh,.int .u8 df,.int .u8 cZ,.int .u8 cO,.int .i64 cu],.int .u8 (bt t217 nK),.int .i64 t221] (by rfl) rfl rfl (by (try simp only [List.map_toArray,List.map_cons,List.map_nil]);first|done|rfl|(simp only [List.length_drop,List.length_take];rfl)) ?_
                                  with_reducible refine (aU.calls k3 dh df cZ cO cu (bt t217 nK) t221 t223 t224 t225 t226 t227 false _ Yn.out).mono ?_
                                  rintro e Rh ⟨rfl,hb⟩
                                  refine ⟨_,rfl,?_⟩
                                  have di:=ae.mk (aV (g:=fE) (o:=.cells #[.int .u8 fB,.int .u8 eG,.int .u8 dS,.int .u8 dN,.int .i64 dI] 27 (0,0)) (by (with_reducible repeat (first|refine au ?_ _|refine ay ?_|refine ak ?_ _));exact dC.out) hb)
                                  have dm:=ae.mk (aV (g:=dM) (o:=.cells #[.int .u8 dh,.int .u8 df,.int .u8 cZ,.int .u8 cO,.int .i64 cu] 27 (0,0)) (by (with_reducible repeat (first|refine au ?_ _|refine ay ?_|refine ak ?_ _));exact bQ.out) hb)
                                  have dE:=ae.mk (aV (g:=bW) (o:=.cells #[.int .u8 0,.int .u8 0,.int .u8 0,.int .u8 0,.int .i64 0] 27 (0,0)) (by (with_reducible repeat (first|refine au ?_ _|refine ay ?_|refine ak ?_ _));exact iy.out) hb)
                                  have gq:=ae.mk (aQ (by repeat (first|(with_reducible first|exact HB.out|apply aj|apply af|apply ai|refine az ?_ iV.out|refine az ?_ jH.out|refine az ?_ mV.out)|exact HB.out)) hb)
                                  clear dC
                                  clear bQ
                                  clear iy
                                  clear HB
                                  have dC:=di
                                  have bQ:=dm
                                  have iy:=dE
                                  have HB:=gq
                                  clear di dm dE gq
                                  (try clear hb)
                                  (try clear hb2)
                                  (try clear hk)
                                  (try clear hi)
                                  refine hK.out _ _ ⟨(ah bQ.out 0).trans rfl,(ah bQ.out 1).trans rfl,(ah bQ.out 2).trans rfl,(ah bQ.out 3).trans rfl,(ah bQ.out 4).trans rfl⟩ (fun hHeld=>?_)
                                  clear hK K
                                  refine gX (a':=?_) ?_ ?_
                                  rotate_left
                                  · show Act.put _ (some 58) _=_
                                    simp only [Act.put,List.setIfInBounds_toArray,List.set_cons_zero,List.set_cons_succ,aI,aJ]
                                    rfl
                                  refine bu (i:=6) (N:=some 52) (v:=?_) (a':=?_) #[true,true,true,true,true,true,true,false,false,true,false,false] rfl rfl (aN dD.out (by kernel_rfl)) (fun _ _ _ h=>h) (Or.inl ⟨by rfl,?_⟩) ?_ ?_
                                  rotate_left
                                  · intro w'
                                    go_simp
                                    with_reducible rfl
                                  rotate_left
                                  · simp only [Act.put,List.setIfInBounds_toArray,List.set_cons_zero,List.set_cons_succ,aI,aJ]
                                    rfl
                                  refine bu (i:=7) (N:=some 59) (v:=?_) (a':=?_) #[true,true,true,true,true,true,true,true,false,true,false,false] rfl rfl (aN dD.out (by kernel_rfl)) (fun _ _ _ h=>h) (Or.inl ⟨by rfl,?_⟩) ?_ ?_
                                  rotate_left
                                  · intro w'
                                    go_simp
                                    with_reducible rfl
                                  rotate_left
                                  · simp only [Act.put,List.setIfInBounds_toArray,List.set_cons_zero,List.set_cons_succ,aI,aJ]
                                    rfl
                                  refine bu (i:=8) (N:=some 60) (v:=?_) (a':=?_) #[true,true,true,true,true,true,true,true,true,true,false,false] rfl rfl (aN dD.out (by kernel_rfl)) (fun _ _ _ h=>h) (Or.inl ⟨by rfl,?_⟩) ?_ ?_
                                  rotate_left
                                  · intro w'
                                    go_simp
                                    with_reducible rfl
                                  rotate_left
                                  · simp only [Act.put,List.setIfInBounds_toArray,List.set_cons_zero,List.set_cons_succ,aI,aJ]
                                    rfl
                                  exact gX (by simp only [jJ,Act.put,List.setIfInBounds_toArray,List.set_cons_zero,List.set_cons_succ]) (rq (bW) _ ⟨hHeld,(by (with_reducible repeat (first|refine au ?_ _|refine ay ?_|refine ak ?_ _));exact dC.out),(by (with_reducible repeat (first|refine au ?_ _|refine ay ?_|refine ak ?_ _));exact bQ.out),(by (with_reducible repeat (first|refine au ?_ _|refine ay ?_|refine ak ?_ _));exact iy.out),sW.out,mV.out,dY.out,gG.out,bz.out,gK.out,(by repeat (first|(with_reducible first|exact HB.out|apply aj|apply af|apply ai|refine az ?_ iV.out|refine az ?_ jH.out|refine az ?_ mV.out)|exact HB.out))⟩)
                              rintro bW Ci ⟨jL,LD,LC,Lu,Lt,Ls,VW,VV,VU,VT,VS⟩
                              have di:ae (Ci.heap[fE]? = some (.cells #[.int .u8 fB,.int .u8 eG,.int .u8 dS,.int .u8 dN,.int .i64 dI] 27 (0,0))):=⟨LD⟩
                              have dm:ae (Ci.heap[dM]? = some (.cells #[.int .u8 dh,.int .u8 df,.int .u8 cZ,.int .u8 cO,.int .i64 cu] 27 (0,0))):=⟨LC⟩
                              have dE:ae (Ci.heap[bW]? = some (.cells #[.int .u8 0,.int .u8 0,.int .u8 0,.int .u8 0,.int .i64 0] 27 (0,0))):=⟨Lu⟩
                              have gq:ae (w.heap.size≤bW):=⟨Lt⟩
                              have jC:ae (w.heap.size≤bW):=⟨Ls⟩
                              have lN:ae (fE ≠ bW):=⟨VW⟩
                              have nC:ae (bW ≠ fE):=⟨VV⟩
                              have uX:ae (dM ≠ bW):=⟨VU⟩
                              have yj:ae (bW ≠ dM):=⟨VT⟩
                              have yh:ae (Below w.heap.size w Ci):=⟨VS⟩
                              clear dC
                              clear bQ
                              clear HB
                              clear LD LC Lu Lt Ls VW VV VU VT VS
                              have dC:=di
                              have bQ:=dm
                              have iy:=dE
                              have sW:=gq
                              have mV:=jC
                              have dY:=lN
                              have gG:=nC
                              have bz:=uX
                              have gK:=yj
                              have HB:=yh
                              clear di dm dE gq jC lN nC uX yj yh
                              have hHeld:Ci.cell? ⟨dM,0,none⟩=some (.int .u8 dh)∧Ci.cell? ⟨dM,1,none⟩=some (.int .u8 df)∧Ci.cell? ⟨dM,2,none⟩=some (.int .u8 cZ)∧Ci.cell? ⟨dM,3,none⟩=some (.int .u8 cO)∧Ci.cell? ⟨dM,4,none⟩=some (.int .i64 cu):=jL
                              refine gX (a':=?_) ?_ ?_
                              rotate_left
                              · simp only [jJ,Act.put,List.setIfInBounds_toArray,List.set_cons_zero,List.set_cons_succ]
                                rfl
                              refine mD (i:=10) (N:=none) #[true,true,true,true,true,true,true,true,true,true,true,false] rfl rfl (iD dD.out (by kernel_rfl)) (by decide) (fun K hK=>?_)
                              have aiD:Ci.cell? ⟨bW,0,none⟩=some (.int .u8 0):=(ah iy.out 0).trans rfl
                              have ahg:=ax iy.out 0
                              have aa4:=dY.out
                              have aa3:=bz.out
                              have abB:=gG.out
                              have abA:=gK.out
                              have aiC:Ci.cell? ⟨bW,1,none⟩=some (.int .u8 0):=(ah iy.out 1).trans rfl
                              have ahf:=ax iy.out 1
                              have aa2:=dY.out
                              have aa1:=bz.out
                              have abz:=gG.out
                              have aby:=gK.out
                              have aiB:Ci.cell? ⟨bW,2,none⟩=some (.int .u8 0):=(ah iy.out 2).trans rfl
                              have ahe:=ax iy.out 2
                              have aa0:=dY.out
                              have aaZ:=bz.out
                              have abx:=gG.out
                              have abw:=gK.out
                              have aiA:Ci.cell? ⟨bW,3,none⟩=some (.int .u8 0):=(ah iy.out 3).trans rfl
                              have ahd:=ax iy.out 3
                              have aaY:=dY.out
                              have aaX:=bz.out
                              have abv:=gG.out
                              have abu:=gK.out
                              have aiz:Ci.cell? ⟨bW,4,none⟩=some (.int .i64 0):=(ah iy.out 4).trans rfl
                              have ahc:=ax iy.out 4
                              have aaW:=dY.out
                              have aaV:=bz.out
                              have abt:=gG.out
                              have abr:=gK.out
                              refine Aa (w1:=?_) (by rfl) rfl ?_ ?_
                              rotate_left
                              · go_simp
                                rfl
                              refine hK.out _ _ ⟨((cell_far (p:=⟨bW,_,none⟩) bz.out _).trans (((cell_far (p:=⟨bW,_,none⟩) bz.out _).trans (((cell_far (p:=⟨bW,_,none⟩) bz.out _).trans (((cell_far (p:=⟨bW,_,none⟩) bz.out _).trans (((cell_far (p:=⟨bW,_,none⟩) bz.out _).trans (hHeld.1)))))))))),((cell_far (p:=⟨bW,_,none⟩) bz.out _).trans (((cell_far (p:=⟨bW,_,none⟩) bz.out _).trans (((cell_far (p:=⟨bW,_,none⟩) bz.out _).trans (((cell_far (p:=⟨bW,_,none⟩) bz.out _).trans (((cell_far (p:=⟨bW,_,none⟩) bz.out _).trans (hHeld.2.1)))))))))),((cell_far (p:=⟨bW,_,none⟩) bz.out _).trans (((cell_far (p:=⟨bW,_,none⟩) bz.out _).trans (((cell_far (p:=⟨bW,_,none⟩) bz.out _).trans (((cell_far (p:=⟨bW,_,none⟩) bz.out _).trans (((cell_far (p:=⟨bW,_,none⟩) bz.out _).trans (hHeld.2.2.1)))))))))),((cell_far (p:=⟨bW,_,none⟩) bz.out _).trans (((cell_far (p:=⟨bW,_,none⟩) bz.out _).trans (((cell_far (p:=⟨bW,_,none⟩) bz.out _).trans (((cell_far (p:=⟨bW,_,none⟩) bz.out _).trans (((cell_far (p:=⟨bW,_,none⟩) bz.out _).trans (hHeld.2.2.2.1)))))))))),((cell_far (p:=⟨bW,_,none⟩) bz.out _).trans (((cell_far (p:=⟨bW,_,none⟩) bz.out _).trans (((cell_far (p:=⟨bW,_,none⟩) bz.out _).trans (((cell_far (p:=⟨bW,_,none⟩) bz.out _).trans (((cell_far (p:=⟨bW,_,none⟩) bz.out _).trans (hHeld.2.2.2.2))))))))))⟩ (fun hHeld=>?_)
                              clear hK K
                              refine bu (i:=11) (N:=some 12) (v:=?_) (a':=?_) #[true,true,true,true,true,true,true,true,true,true,true,true] rfl rfl (aN dD.out (by kernel_rfl)) (fun _ _ _ h=>h) (Or.inl ⟨by rfl,?_⟩) ?_ ?_
                              rotate_left
                              · intro w'
                                go_simp
                                with_reducible rfl
                              rotate_left
                              · simp only [Act.put,List.setIfInBounds_toArray,List.set_cons_zero,List.set_cons_succ,aI,aJ]
                                rfl
                              refine qL (lG dD.out (by kernel_rfl)) ?_
                              have agT:=jY.out
                              have agC:=um.out
                              have agS:=dY.out
                              have agB:=gG.out
                              have Uj:Ci.cell? ⟨fE,0,none⟩=some (.int .u8 fB):=(ah dC.out 0).trans rfl
                              have Ui:Ci.cell? ⟨fE,1,none⟩=some (.int .u8 eG):=(ah dC.out 1).trans rfl
                              have Uh:Ci.cell? ⟨fE,2,none⟩=some (.int .u8 dS):=(ah dC.out 2).trans rfl
                              have Ug:Ci.cell? ⟨fE,3,none⟩=some (.int .u8 dN):=(ah dC.out 3).trans rfl
                              have adJ:Ci.cell? ⟨fE,4,none⟩=some (.int .i64 dI):=(ah dC.out 4).trans rfl
                              have SX:=ax dC.out 0
                              have SV:=ax dC.out 1
                              have SS:=ax dC.out 2
                              have SQ:=ax dC.out 3
                              have ach:=ax dC.out 4
                              try go_wp2
                              refine bodyPost_ret (jV rfl _ _ fE 27 #[.int .u8 0,.int .u8 0,.int .u8 0,.int .u8 0,.int .i64 0] (0,0) _ rfl (by (with_reducible repeat (first|refine au ?_ _|refine ay ?_|refine ak ?_ _));refine dB (cs:=#[.int .u8 0,.int .u8 0,.int .u8 0,.int .u8 0,.int .i64 dI]) ?_ 4 _ rfl;(with_reducible repeat (first|refine au ?_ _|refine ay ?_|refine ak ?_ _));refine dB (cs:=#[.int .u8 0,.int .u8 0,.int .u8 0,.int .u8 dN,.int .i64 dI]) ?_ 3 _ rfl;(with_reducible repeat (first|refine au ?_ _|refine ay ?_|refine ak ?_ _));refine dB (cs:=#[.int .u8 0,.int .u8 0,.int .u8 dS,.int .u8 dN,.int .i64 dI]) ?_ 2 _ rfl;(with_reducible repeat (first|refine au ?_ _|refine ay ?_|refine ak ?_ _));refine dB (cs:=#[.int .u8 0,.int .u8 eG,.int .u8 dS,.int .u8 dN,.int .i64 dI]) ?_ 1 _ rfl;(with_reducible repeat (first|refine au ?_ _|refine ay ?_|refine ak ?_ _));refine dB (cs:=#[.int .u8 fB,.int .u8 eG,.int .u8 dS,.int .u8 dN,.int .i64 dI]) ?_ 0 _ rfl;(with_reducible repeat (first|refine au ?_ _|refine ay ?_|refine ak ?_ _));refine fC ?_ dY.out _;(with_reducible repeat (first|refine au ?_ _|refine ay ?_|refine ak ?_ _));refine fC ?_ dY.out _;(with_reducible repeat (first|refine au ?_ _|refine ay ?_|refine ak ?_ _));refine fC ?_ dY.out _;(with_reducible repeat (first|refine au ?_ _|refine ay ?_|refine ak ?_ _));refine fC ?_ dY.out _;(with_reducible repeat (first|refine au ?_ _|refine ay ?_|refine ak ?_ _));refine fC ?_ dY.out _;(with_reducible repeat (first|refine au ?_ _|refine ay ?_|refine ak ?_ _));exact dC.out) Tryz.underlying27 rfl (by kernel_rfl)) rfl ?_
                              exact ⟨by first|rfl|(simp [bH,bG] <;> rfl)|(simp only [← yu];first|rfl|(simp [bH,bG] <;> rfl))|(simp [*,bH,bG] <;> rfl),by repeat (first|(with_reducible first|exact HB.out|apply aj|apply af|apply ai|refine az ?_ iV.out|refine az ?_ jH.out|refine az ?_ mV.out)|exact HB.out)⟩
                          · rw [if_neg c20] at H
                            have Zb:(t222 == 0)=false:=beq_eq_false_iff_ne.mpr c20
                            have Za:(t222 != 0)=true:=bne_iff_ne.mpr c20
                            simp only [Option.some.injEq,Prod.mk.injEq] at H
                            obtain ⟨rfl,rfl,rfl,rfl,rfl,rfl⟩:=H
                            have Ap:0≤((qm):Int):=of_decide_eq_true (by first|(with_reducible assumption)|assumption)
                            have Ah:(qm) < (l0.length:Int):=of_decide_eq_true (by first|(with_reducible assumption)|assumption)
                            obtain ⟨V6,e220,pF⟩:=Kd.gB HR0.out (qm) Ap Ah
                            cases e220
                            replace pF:=(HB.out.cell (World.block_lt_of_cell? w _ pF)).trans pF
                            replace Ap:=eq_true Ap
                            replace Ah:=eq_true Ah
                            try go_wp2_with (first|((with_reducible refine bU (f:=47) rfl ?_);refine gy (some 49) rfl rfl Tryz.func47 (by kernel_rfl) rfl #[.string (gI ByteArray.empty l0 (qm))] rfl (by (try simp only [List.map_toArray,List.map_cons,List.map_nil]);first|done|(simp only [yu];rfl)|rfl|(simp only [List.length_drop,List.length_take];rfl)) ?_;(with_reducible refine (aC.calls k3 (gI ByteArray.empty l0 (qm)) t221 t222 _ Q9.out).mono ?_);rintro e w' ⟨rfl,⟨nd,rfl⟩⟩;refine ⟨_,rfl,?_⟩;(try (rw [rX wr];generalize BK:World.drewN wr _=wr;have di:ae (wr.heap[fE]? = some (.cells #[.int .u8 fB,.int .u8 eG,.int .u8 dS,.int .u8 dN,.int .i64 dI] 27 (0,0))):=⟨by rw [← BK];exact (by (with_reducible repeat (first|refine au ?_ _|refine ay ?_|refine ak ?_ _));exact dC.out)⟩;have dm:ae (wr.heap[dM]? = some (.cells #[.int .u8 dh,.int .u8 df,.int .u8 cZ,.int .u8 cO,.int .i64 cu] 27 (0,0))):=⟨by rw [← BK];exact (by (with_reducible repeat (first|refine au ?_ _|refine ay ?_|refine ak ?_ _));exact bQ.out)⟩;have dE:ae (Below w.heap.size w wr):=⟨by rw [← BK];exact (by repeat (first|(with_reducible first|exact HB.out|apply aj|apply af|apply ai|refine az ?_ iV.out|refine az ?_ jH.out)|exact HB.out))⟩;clear dC bQ HB BK;have dC:=di;have bQ:=dm;have HB:=dE;clear di dm dE))))
                            have di:=ae.mk (ay dC.out)
                            have dm:=ae.mk (ay bQ.out)
                            have dE:=ae.mk (ai HB.out)
                            clear dC
                            clear bQ
                            clear HB
                            have dC:=di
                            have bQ:=dm
                            have HB:=dE
                            clear di dm dE
                            have F8:0≤(nK:Int):=of_decide_eq_true (by first|(with_reducible assumption)|assumption)
                            have FZ:nK < (t217.size:Int):=of_decide_eq_true (by first|(with_reducible assumption)|assumption)
                            have Ph:=lL t217 nK
                            replace F8:=eq_true F8
                            replace FZ:=eq_true FZ
                            refine nM (n:=12) (S:=fun w'=>w'.cell? ⟨dM,0,none⟩=some (.int .u8 dh)∧w'.cell? ⟨dM,1,none⟩=some (.int .u8 df)∧w'.cell? ⟨dM,2,none⟩=some (.int .u8 cZ)∧w'.cell? ⟨dM,3,none⟩=some (.int .u8 cO)∧w'.cell? ⟨dM,4,none⟩=some (.int .i64 cu)) (ds:=[]) #[false,false,false,false,false,false,false,false,false,false,false,false] (by kernel_rfl) rfl rfl ⟨(ah bQ.out 0).trans rfl,(ah bQ.out 1).trans rfl,(ah bQ.out 2).trans rfl,(ah bQ.out 3).trans rfl,(ah bQ.out 4).trans rfl⟩ (fun hHeld=>?_);refine je aG.Oo aG.I4 (fun dD lK=>?_)
                            generalize wr.drew=w48 at dC bQ HB hHeld ⊢
                            refine bu (i:=1) (N:=some 54) (v:=?_) (a':=?_) #[false,true,false,false,false,false,false,false,false,false,false,false] rfl rfl (aN dD.out (by kernel_rfl)) (fun _ _ _ h=>h) (Or.inl ⟨by rfl,?_⟩) ?_ ?_
                            rotate_left
                            · intro w'
                              go_simp
                              with_reducible rfl
                            rotate_left
                            · simp only [Act.put,List.setIfInBounds_toArray,List.set_cons_zero,List.set_cons_succ,aI,aJ]
                              rfl
                            refine bu (i:=2) (N:=some 55) (v:=?_) (a':=?_) #[false,true,true,false,false,false,false,false,false,false,false,false] rfl rfl (aN dD.out (by kernel_rfl)) (fun _ _ _ h=>h) (Or.inl ⟨by rfl,?_⟩) ?_ ?_
                            rotate_left
                            · intro w'
                              go_simp
                              with_reducible rfl
                            rotate_left
                            · simp only [Act.put,List.setIfInBounds_toArray,List.set_cons_zero,List.set_cons_succ,aI,aJ]
                              rfl
                            refine bu (i:=4) (N:=some 57) (v:=?_) (a':=?_) #[false,true,true,false,true,false,false,false,false,false,false,false] rfl rfl (aN dD.out (by kernel_rfl)) (fun _ _ _ h=>h) (Or.inl ⟨by rfl,?_⟩) ?_ ?_
                            rotate_left
                            · intro w'
                              go_simp
                              with_reducible rfl
                            rotate_left
                            · simp only [Act.put,List.setIfInBounds_toArray,List.set_cons_zero,List.set_cons_succ,aI,aJ]
                              rfl
                            refine gQ (i:=0) (N:=some 53) (v:=?_) (a':=?_) #[true,true,true,false,true,false,false,false,false,false,false,false] rfl rfl (dw dD.out lK.out (by kernel_rfl)) (fun _ _ _ h=>h) (Or.inl ⟨by rfl,?_⟩) hHeld ?_ ?_
                            rotate_left
                            · rintro w' ⟨s0,s1,s2,s3,s4⟩
                              go_simp
                              with_reducible rfl
                            rotate_left
                            · simp only [Act.put,List.setIfInBounds_toArray,List.set_cons_zero,List.set_cons_succ,aI,aJ]
                              rfl
                            refine gQ (i:=3) (N:=some 56) (v:=?_) (a':=?_) #[true,true,true,true,true,false,false,false,false,false,false,false] rfl rfl (dw dD.out lK.out (by kernel_rfl)) (fun _ _ _ h=>h) (Or.inl ⟨by rfl,?_⟩) hHeld ?_ ?_
                            rotate_left
                            · rintro w' ⟨s0,s1,s2,s3,s4⟩
                              go_simp
                              with_reducible rfl
                            rotate_left
                            · simp only [Act.put,List.setIfInBounds_toArray,List.set_cons_zero,List.set_cons_succ,aI,aJ]
                              rfl
                            refine Gq (σ:=Nat) 2 #[true,true,true,true,true,true,true,true,true,true,false,false] (fun s_=>[(58,.tuple #[.agg #[.int .u8 t223,.int .u8 t224,.int .u8 t225,.int .u8 t226,.int .i64 t227],.bool t228]),(11,.pointer (some ⟨s_,0,none⟩)),(52,.tuple #[.agg #[.int .u8 t223,.int .u8 t224,.int .u8 t225,.int .u8 t226,.int .i64 t227],.bool t228]),(59,.agg #[.int .u8 t223,.int .u8 t224,.int .u8 t225,.int .u8 t226,.int .i64 t227]),(60,.bool t228)]) (fun s_ w'=>(w'.cell? ⟨dM,0,none⟩=some (.int .u8 dh)∧w'.cell? ⟨dM,1,none⟩=some (.int .u8 df)∧w'.cell? ⟨dM,2,none⟩=some (.int .u8 cZ)∧w'.cell? ⟨dM,3,none⟩=some (.int .u8 cO)∧w'.cell? ⟨dM,4,none⟩=some (.int .i64 cu))∧(w'.heap[fE]? = some (.cells #[.int .u8 fB,.int .u8 eG,.int .u8 dS,.int .u8 dN,.int .i64 dI] 27 (0,0)))∧(w'.heap[dM]? = some (.cells #[.int .u8 dh,.int .u8 df,.int .u8 cZ,.int .u8 cO,.int .i64 cu] 27 (0,0)))∧(w'.heap[s_]? = some (.cells #[.int .u8 0,.int .u8 0,.int .u8 0,.int .u8 0,.int .i64 0] 27 (0,0)))∧(w.heap.size≤s_)∧(w.heap.size≤s_)∧(fE ≠ s_)∧(s_ ≠ fE)∧(dM ≠ s_)∧(s_ ≠ dM)∧(Below w.heap.size w w')) ?_ ?_
                            rotate_left
                            · intro rq
                              refine Ia (i:=5) (j:=9) (Ni:=some 58) (Nj:=some 11) #[true,true,true,true,true,true,false,false,false,false,false,false] #[true,true,true,true,true,false,false,false,false,true,false,false] rfl rfl rfl rfl (xG dD.out (by kernel_rfl)) (by decide) (by decide) (fun K hK=>?_) (fun K hK=>?_)
                              · skip
                                refine mG Tryz.func48 (by kernel_rfl) rfl #[.agg #[.int .u8 dh,.int .u8 df,.int .u8 cZ,.int .u8 cO,.int .i64 cu],.int .u8 (bt t217 nK),.int .i64 t221] (by rfl) rfl rfl (by (try simp only [List.map_toArray,List.map_cons,List.map_nil]);first|done|rfl|(simp only [List.length_drop,List.length_take];rfl)) ?_
                                with_reducible refine (aU.calls k3 dh df cZ cO cu (bt t217 nK) t221 t223 t224 t225 t226 t227 t228 _ Yn.out).mono ?_
                                rintro e w49 ⟨rfl,hb⟩
                                refine ⟨_,rfl,?_⟩
                                have di:=ae.mk (aV (g:=fE) (o:=.cells #[.int .u8 fB,.int .u8 eG,.int .u8 dS,.int .u8 dN,.int .i64 dI] 27 (0,0)) (by (with_reducible repeat (first|refine au ?_ _|refine ay ?_|refine ak ?_ _));exact dC.out) hb)
                                have dm:=ae.mk (aV (g:=dM) (o:=.cells #[.int .u8 dh,.int .u8 df,.int .u8 cZ,.int .u8 cO,.int .i64 cu] 27 (0,0)) (by (with_reducible repeat (first|refine au ?_ _|refine ay ?_|refine ak ?_ _));exact bQ.out) hb)
                                have dE:=ae.mk (aQ (by repeat (first|(with_reducible first|exact HB.out|apply aj|apply af|apply ai|refine az ?_ iV.out|refine az ?_ jH.out)|exact HB.out)) hb)
                                clear dC
                                clear bQ
                                clear HB
                                have dC:=di
                                have bQ:=dm
                                have HB:=dE
                                clear di dm dE
                                (try clear hb)
                                (try clear hb2)
                                (try clear hk)
                                (try clear hi)
                                refine hK.out _ _ ⟨(ah bQ.out 0).trans rfl,(ah bQ.out 1).trans rfl,(ah bQ.out 2).trans rfl,(ah bQ.out 3).trans rfl,(ah bQ.out 4).trans rfl⟩ (fun hHeld=>?_)
                                clear hK K
                                refine gX (a':=?_) ?_ ?_
                                rotate_left
                                · show Act.put _ (some 58) _=_
                                  simp only [Act.put,List.setIfInBounds_toArray,List.set_cons_zero,List.set_cons_succ,aI,aJ]
                                  rfl
                                refine bu (i:=6) (N:=some 52) (v:=?_) (a':=?_) #[true,true,true,true,true,true,true,false,false,false,false,false] rfl rfl (aN dD.out (by kernel_rfl)) (fun _ _ _ h=>h) (Or.inl ⟨by rfl,?_⟩) ?_ ?_
                                rotate_left
                                · intro w'
                                  go_simp
                                  with_reducible rfl
                                rotate_left
                                · simp only [Act.put,List.setIfInBounds_toArray,List.set_cons_zero,List.set_cons_succ,aI,aJ]
                                  rfl
                                refine bu (i:=7) (N:=some 59) (v:=?_) (a':=?_) #[true,true,true,true,true,true,true,true,false,false,false,false] rfl rfl (aN dD.out (by kernel_rfl)) (fun _ _ _ h=>h) (Or.inl ⟨by rfl,?_⟩) ?_ ?_
                                rotate_left
                                · intro w'
                                  go_simp
                                  with_reducible rfl
                                rotate_left
                                · simp only [Act.put,List.setIfInBounds_toArray,List.set_cons_zero,List.set_cons_succ,aI,aJ]
                                  rfl
                                refine bu (i:=8) (N:=some 60) (v:=?_) (a':=?_) #[true,true,true,true,true,true,true,true,true,false,false,false] rfl rfl (aN dD.out (by kernel_rfl)) (fun _ _ _ h=>h) (Or.inl ⟨by rfl,?_⟩) ?_ ?_
                                rotate_left
                                · intro w'
                                  go_simp
                                  with_reducible rfl
                                rotate_left
                                · simp only [Act.put,List.setIfInBounds_toArray,List.set_cons_zero,List.set_cons_succ,aI,aJ]
                                  rfl
                                refine mD (i:=9) (N:=some 11) #[true,true,true,true,true,true,true,true,true,true,false,false] rfl rfl (iD dD.out (by kernel_rfl)) (by decide) (fun K hK=>?_)
                                refine uk ?hg (N:=11) ?hd (cs:=#[.int .u8 0,.int .u8 0,.int .u8 0,.int .u8 0,.int .i64 0]) (t:=27) ?hr ?_;(case hd=>rfl);(case hg=>rfl);(case hr=>first|(go_simp;done)|(go_simp;rfl))
                                intro bW hg w50 hbox hb
                                have di:=ae.mk (aV (g:=fE) (o:=.cells #[.int .u8 fB,.int .u8 eG,.int .u8 dS,.int .u8 dN,.int .i64 dI] 27 (0,0)) (by (with_reducible repeat (first|refine au ?_ _|refine ay ?_|refine ak ?_ _));exact dC.out) hb)
                                have dm:=ae.mk (aV (g:=dM) (o:=.cells #[.int .u8 dh,.int .u8 df,.int .u8 cZ,.int .u8 cO,.int .i64 cu] 27 (0,0)) (by (with_reducible repeat (first|refine au ?_ _|refine ay ?_|refine ak ?_ _));exact bQ.out) hb)
                                have dE:=ae.mk (aQ (by repeat (first|(with_reducible first|exact HB.out|apply aj|apply af|apply ai|refine az ?_ iV.out|refine az ?_ jH.out)|exact HB.out)) hb)
                                have gq:=ae.mk (hbox)
                                have jC:=ae.mk ((by rw [hg];exact (bn (by repeat (first|(with_reducible first|exact HB.out|apply aj|apply af|apply ai|refine az ?_ iV.out|refine az ?_ jH.out)|exact HB.out))):w.heap.size≤bW))
                                have lN:=ae.mk ((by rw [hg];exact (bn (by repeat (first|(with_reducible first|exact HB.out|apply aj|apply af|apply ai|refine az ?_ iV.out|refine az ?_ jH.out)|exact HB.out))):w.heap.size≤bW))
                                have nC:=ae.mk ((by rw [hg];exact Nat.ne_of_lt (gZ (g:=fE) (o:=.cells #[.int .u8 fB,.int .u8 eG,.int .u8 dS,.int .u8 dN,.int .i64 dI] 27 (0,0)) (by (with_reducible repeat (first|refine au ?_ _|refine ay ?_|refine ak ?_ _));exact dC.out)):fE ≠ bW))
                                have uX:=ae.mk ((by rw [hg];exact Nat.ne_of_gt (gZ (g:=fE) (o:=.cells #[.int .u8 fB,.int .u8 eG,.int .u8 dS,.int .u8 dN,.int .i64 dI] 27 (0,0)) (by (with_reducible repeat (first|refine au ?_ _|refine ay ?_|refine ak ?_ _));exact dC.out)):bW ≠ fE))
                                have yj:=ae.mk ((by rw [hg];exact Nat.ne_of_lt (gZ (g:=dM) (o:=.cells #[.int .u8 dh,.int .u8 df,.int .u8 cZ,.int .u8 cO,.int .i64 cu] 27 (0,0)) (by (with_reducible repeat (first|refine au ?_ _|refine ay ?_|refine ak ?_ _));exact bQ.out)):dM ≠ bW))
                                have yh:=ae.mk ((by rw [hg];exact Nat.ne_of_gt (gZ (g:=dM) (o:=.cells #[.int .u8 dh,.int .u8 df,.int .u8 cZ,.int .u8 cO,.int .i64 cu] 27 (0,0)) (by (with_reducible repeat (first|refine au ?_ _|refine ay ?_|refine ak ?_ _));exact bQ.out)):bW ≠ dM))
                                clear dC
                                clear bQ
                                clear HB
                                have dC:=di
                                have bQ:=dm
                                have HB:=dE
                                have iy:=gq
                                have sW:=jC
                                have mV:=lN
                                have dY:=nC
                                have gG:=uX
                                have bz:=yj
                                have gK:=yh
                                clear di dm dE gq jC lN nC uX yj yh
                                clear hb hbox hg
                                refine hK.out _ _ ⟨(ah bQ.out 0).trans rfl,(ah bQ.out 1).trans rfl,(ah bQ.out 2).trans rfl,(ah bQ.out 3).trans rfl,(ah bQ.out 4).trans rfl⟩ (fun hHeld=>?_)
                                clear hK K
                                refine gX (a':=?_) ?_ ?_
                                rotate_left
                                · show Act.put _ (some 11) _=_
                                  simp only [Act.put,List.setIfInBounds_toArray,List.set_cons_zero,List.set_cons_succ,aI,aJ]
                                  rfl
                                exact gX (by simp only [jJ,Act.put,List.setIfInBounds_toArray,List.set_cons_zero,List.set_cons_succ]) (rq (bW) _ ⟨hHeld,(by (with_reducible repeat (first|refine au ?_ _|refine ay ?_|refine ak ?_ _));exact dC.out),(by (with_reducible repeat (first|refine au ?_ _|refine ay ?_|refine ak ?_ _));exact bQ.out),(by (with_reducible repeat (first|refine au ?_ _|refine ay ?_|refine ak ?_ _));exact iy.out),sW.out,mV.out,dY.out,gG.out,bz.out,gK.out,(by repeat (first|(with_reducible first|exact HB.out|apply aj|apply af|apply ai|refine az ?_ iV.out|refine az ?_ jH.out|refine az ?_ mV.out)|exact HB.out))⟩)
                              · skip
                                refine uk ?hg (N:=11) ?hd (cs:=#[.int .u8 0,.int .u8 0,.int .u8 0,.int .u8 0,.int .i64 0]) (t:=27) ?hr ?_;(case hd=>rfl);(case hg=>rfl);(case hr=>first|(go_simp;done)|(go_simp;rfl))
                                intro bW hg w49 hbox hb
                                have di:=ae.mk (aV (g:=fE) (o:=.cells #[.int .u8 fB,.int .u8 eG,.int .u8 dS,.int .u8 dN,.int .i64 dI] 27 (0,0)) (by (with_reducible repeat (first|refine au ?_ _|refine ay ?_|refine ak ?_ _));exact dC.out) hb)
                                have dm:=ae.mk (aV (g:=dM) (o:=.cells #[.int .u8 dh,.int .u8 df,.int .u8 cZ,.int .u8 cO,.int .i64 cu] 27 (0,0)) (by (with_reducible repeat (first|refine au ?_ _|refine ay ?_|refine ak ?_ _));exact bQ.out) hb)
                                have dE:=ae.mk (aQ (by repeat (first|(with_reducible first|exact HB.out|apply aj|apply af|apply ai|refine az ?_ iV.out|refine az ?_ jH.out)|exact HB.out)) hb)
                                have gq:=ae.mk (hbox)
                                have jC:=ae.mk ((by rw [hg];exact (bn (by repeat (first|(with_reducible first|exact HB.out|apply aj|apply af|apply ai|refine az ?_ iV.out|refine az ?_ jH.out)|exact HB.out))):w.heap.size≤bW))
                                have lN:=ae.mk ((by rw [hg];exact (bn (by repeat (first|(with_reducible first|exact HB.out|apply aj|apply af|apply ai|refine az ?_ iV.out|refine az ?_ jH.out)|exact HB.out))):w.heap.size≤bW))
                                have nC:=ae.mk ((by rw [hg];exact Nat.ne_of_lt (gZ (g:=fE) (o:=.cells #[.int .u8 fB,.int .u8 eG,.int .u8 dS,.int .u8 dN,.int .i64 dI] 27 (0,0)) (by (with_reducible repeat (first|refine au ?_ _|refine ay ?_|refine ak ?_ _));exact dC.out)):fE ≠ bW))
                                have uX:=ae.mk ((by rw [hg];exact Nat.ne_of_gt (gZ (g:=fE) (o:=.cells #[.int .u8 fB,.int .u8 eG,.int .u8 dS,.int .u8 dN,.int .i64 dI] 27 (0,0)) (by (with_reducible repeat (first|refine au ?_ _|refine ay ?_|refine ak ?_ _));exact dC.out)):bW ≠ fE))
                                have yj:=ae.mk ((by rw [hg];exact Nat.ne_of_lt (gZ (g:=dM) (o:=.cells #[.int .u8 dh,.int .u8 df,.int .u8 cZ,.int .u8 cO,.int .i64 cu] 27 (0,0)) (by (with_reducible repeat (first|refine au ?_ _|refine ay ?_|refine ak ?_ _));exact bQ.out)):dM ≠ bW))
                                have yh:=ae.mk ((by rw [hg];exact Nat.ne_of_gt (gZ (g:=dM) (o:=.cells #[.int .u8 dh,.int .u8 df,.int .u8 cZ,.int .u8 cO,.int .i64 cu] 27 (0,0)) (by (with_reducible repeat (first|refine au ?_ _|refine ay ?_|refine ak ?_ _));exact bQ.out)):bW ≠ dM))
                                clear dC
                                clear bQ
                                clear HB
                                have dC:=di
                                have bQ:=dm
                                have HB:=dE
                                have iy:=gq
                                have sW:=jC
                                have mV:=lN
                                have dY:=nC
                                have gG:=uX
                                have bz:=yj
                                have gK:=yh
                                clear di dm dE gq jC lN nC uX yj yh
                                clear hb hbox hg
                                refine hK.out _ _ ⟨(ah bQ.out 0).trans rfl,(ah bQ.out 1).trans rfl,(ah bQ.out 2).trans rfl,(ah bQ.out 3).trans rfl,(ah bQ.out 4).trans rfl⟩ (fun hHeld=>?_)
                                clear hK K
                                refine gX (a':=?_) ?_ ?_
                                rotate_left
                                · show Act.put _ (some 11) _=_
                                  simp only [Act.put,List.setIfInBounds_toArray,List.set_cons_zero,List.set_cons_succ,aI,aJ]
                                  rfl
                                refine mD (i:=5) (N:=some 58) #[true,true,true,true,true,true,false,false,false,true,false,false] rfl rfl (iD dD.out (by kernel_rfl)) (by decide) (fun K hK=>?_)
                                refine mG Tryz.func48 (by kernel_rfl) rfl #[.agg #[.int .u8 dh,.int .u8 df,.int .u8 cZ,.int .u8 cO,.int .i64 cu],.int .u8 (bt t217 nK),.int .i64 t221] (by rfl) rfl rfl (by (try simp only [List.map_toArray,List.map_cons,List.map_nil]);first|done|rfl|(simp only [List.length_drop,List.length_take];rfl)) ?_
                                with_reducible refine (aU.calls k3 dh df cZ cO cu (bt t217 nK) t221 t223 t224 t225 t226 t227 t228 _ Yn.out).mono ?_
                                rintro e w50 ⟨rfl,hb⟩
                                refine ⟨_,rfl,?_⟩
                                have di:=ae.mk (aV (g:=fE) (o:=.cells #[.int .u8 fB,.int .u8 eG,.int .u8 dS,.int .u8 dN,.int .i64 dI] 27 (0,0)) (by (with_reducible repeat (first|refine au ?_ _|refine ay ?_|refine ak ?_ _));exact dC.out) hb)
                                have dm:=ae.mk (aV (g:=dM) (o:=.cells #[.int .u8 dh,.int .u8 df,.int .u8 cZ,.int .u8 cO,.int .i64 cu] 27 (0,0)) (by (with_reducible repeat (first|refine au ?_ _|refine ay ?_|refine ak ?_ _));exact bQ.out) hb)
                                have dE:=ae.mk (aV (g:=bW) (o:=.cells #[.int .u8 0,.int .u8 0,.int .u8 0,.int .u8 0,.int .i64 0] 27 (0,0)) (by (with_reducible repeat (first|refine au ?_ _|refine ay ?_|refine ak ?_ _));exact iy.out) hb)
                                have gq:=ae.mk (aQ (by repeat (first|(with_reducible first|exact HB.out|apply aj|apply af|apply ai|refine az ?_ iV.out|refine az ?_ jH.out|refine az ?_ mV.out)|exact HB.out)) hb)
                                clear dC
                                clear bQ
                                clear iy
                                clear HB
                                have dC:=di
                                have bQ:=dm
                                have iy:=dE
                                have HB:=gq
                                clear di dm dE gq
                                (try clear hb)
                                (try clear hb2)
                                (try clear hk)
                                (try clear hi)
                                refine hK.out _ _ ⟨(ah bQ.out 0).trans rfl,(ah bQ.out 1).trans rfl,(ah bQ.out 2).trans rfl,(ah bQ.out 3).trans rfl,(ah bQ.out 4).trans rfl⟩ (fun hHeld=>?_)
                                clear hK K
                                refine gX (a':=?_) ?_ ?_
                                rotate_left
                                · show Act.put _ (some 58) _=_
                                  simp only [Act.put,List.setIfInBounds_toArray,List.set_cons_zero,List.set_cons_succ,aI,aJ]
                                  rfl
                                refine bu (i:=6) (N:=some 52) (v:=?_) (a':=?_) #[true,true,true,true,true,true,true,false,false,true,false,false] rfl rfl (aN dD.out (by kernel_rfl)) (fun _ _ _ h=>h) (Or.inl ⟨by rfl,?_⟩) ?_ ?_
                                rotate_left
                                · intro w'
                                  go_simp
                                  with_reducible rfl
                                rotate_left
                                · simp only [Act.put,List.setIfInBounds_toArray,List.set_cons_zero,List.set_cons_succ,aI,aJ]
                                  rfl
                                refine bu (i:=7) (N:=some 59) (v:=?_) (a':=?_) #[true,true,true,true,true,true,true,true,false,true,false,false] rfl rfl (aN dD.out (by kernel_rfl)) (fun _ _ _ h=>h) (Or.inl ⟨by rfl,?_⟩) ?_ ?_
                                rotate_left
                                · intro w'
                                  go_simp
                                  with_reducible rfl
                                rotate_left
                                · simp only [Act.put,List.setIfInBounds_toArray,List.set_cons_zero,List.set_cons_succ,aI,aJ]
                                  rfl
                                refine bu (i:=8) (N:=some 60) (v:=?_) (a':=?_) #[true,true,true,true,true,true,true,true,true,true,false,false] rfl rfl (aN dD.out (by kernel_rfl)) (fun _ _ _ h=>h) (Or.inl ⟨by rfl,?_⟩) ?_ ?_
                                rotate_left
                                · intro w'
                                  go_simp
                                  with_reducible rfl
                                rotate_left
                                · simp only [Act.put,List.setIfInBounds_toArray,List.set_cons_zero,List.set_cons_succ,aI,aJ]
                                  rfl
                                exact gX (by simp only [jJ,Act.put,List.setIfInBounds_toArray,List.set_cons_zero,List.set_cons_succ]) (rq (bW) _ ⟨hHeld,(by (with_reducible repeat (first|refine au ?_ _|refine ay ?_|refine ak ?_ _));exact dC.out),(by (with_reducible repeat (first|refine au ?_ _|refine ay ?_|refine ak ?_ _));exact bQ.out),(by (with_reducible repeat (first|refine au ?_ _|refine ay ?_|refine ak ?_ _));exact iy.out),sW.out,mV.out,dY.out,gG.out,bz.out,gK.out,(by repeat (first|(with_reducible first|exact HB.out|apply aj|apply af|apply ai|refine az ?_ iV.out|refine az ?_ jH.out|refine az ?_ mV.out)|exact HB.out))⟩)
                            rintro bW Cf ⟨jL,LD,LC,Lu,Lt,Ls,VW,VV,VU,VT,VS⟩
                            have di:ae (Cf.heap[fE]? = some (.cells #[.int .u8 fB,.int .u8 eG,.int .u8 dS,.int .u8 dN,.int .i64 dI] 27 (0,0))):=⟨LD⟩
                            have dm:ae (Cf.heap[dM]? = some (.cells #[.int .u8 dh,.int .u8 df,.int .u8 cZ,.int .u8 cO,.int .i64 cu] 27 (0,0))):=⟨LC⟩
                            have dE:ae (Cf.heap[bW]? = some (.cells #[.int .u8 0,.int .u8 0,.int .u8 0,.int .u8 0,.int .i64 0] 27 (0,0))):=⟨Lu⟩
                            have gq:ae (w.heap.size≤bW):=⟨Lt⟩
                            have jC:ae (w.heap.size≤bW):=⟨Ls⟩
                            have lN:ae (fE ≠ bW):=⟨VW⟩
                            have nC:ae (bW ≠ fE):=⟨VV⟩
                            have uX:ae (dM ≠ bW):=⟨VU⟩
                            have yj:ae (bW ≠ dM):=⟨VT⟩
                            have yh:ae (Below w.heap.size w Cf):=⟨VS⟩
                            clear dC
                            clear bQ
                            clear HB
                            clear LD LC Lu Lt Ls VW VV VU VT VS
                            have dC:=di
                            have bQ:=dm
                            have iy:=dE
                            have sW:=gq
                            have mV:=jC
                            have dY:=lN
                            have gG:=nC
                            have bz:=uX
                            have gK:=yj
                            have HB:=yh
                            clear di dm dE gq jC lN nC uX yj yh
                            have hHeld:Cf.cell? ⟨dM,0,none⟩=some (.int .u8 dh)∧Cf.cell? ⟨dM,1,none⟩=some (.int .u8 df)∧Cf.cell? ⟨dM,2,none⟩=some (.int .u8 cZ)∧Cf.cell? ⟨dM,3,none⟩=some (.int .u8 cO)∧Cf.cell? ⟨dM,4,none⟩=some (.int .i64 cu):=jL
                            refine gX (a':=?_) ?_ ?_
                            rotate_left
                            · simp only [jJ,Act.put,List.setIfInBounds_toArray,List.set_cons_zero,List.set_cons_succ]
                              rfl
                            refine mD (i:=10) (N:=none) #[true,true,true,true,true,true,true,true,true,true,true,false] rfl rfl (iD dD.out (by kernel_rfl)) (by decide) (fun K hK=>?_)
                            have aiy:Cf.cell? ⟨bW,0,none⟩=some (.int .u8 0):=(ah iy.out 0).trans rfl
                            have ahb:=ax iy.out 0
                            have aaU:=dY.out
                            have aaT:=bz.out
                            have abq:=gG.out
                            have abp:=gK.out
                            have aix:Cf.cell? ⟨bW,1,none⟩=some (.int .u8 0):=(ah iy.out 1).trans rfl
                            have aha:=ax iy.out 1
                            have aaS:=dY.out
                            have aaR:=bz.out
                            have abo:=gG.out
                            have abn:=gK.out
                            have aiw:Cf.cell? ⟨bW,2,none⟩=some (.int .u8 0):=(ah iy.out 2).trans rfl
                            have ag9:=ax iy.out 2
                            have aaQ:=dY.out
                            have aaP:=bz.out
                            have abm:=gG.out
                            have abl:=gK.out
                            have aiv:Cf.cell? ⟨bW,3,none⟩=some (.int .u8 0):=(ah iy.out 3).trans rfl
                            have ag8:=ax iy.out 3
                            have aaO:=dY.out
                            have aaN:=bz.out
                            have abk:=gG.out
                            have abj:=gK.out
                            have aiu:Cf.cell? ⟨bW,4,none⟩=some (.int .i64 0):=(ah iy.out 4).trans rfl
                            have ag7:=ax iy.out 4
                            have aaM:=dY.out
                            have aaL:=bz.out
                            have abh:=gG.out
                            have abg:=gK.out
                            refine Aa (w1:=?_) (by rfl) rfl ?_ ?_
                            rotate_left
                            · go_simp
                              rfl
                            refine hK.out _ _ ⟨((cell_far (p:=⟨bW,_,none⟩) bz.out _).trans (((cell_far (p:=⟨bW,_,none⟩) bz.out _).trans (((cell_far (p:=⟨bW,_,none⟩) bz.out _).trans (((cell_far (p:=⟨bW,_,none⟩) bz.out _).trans (((cell_far (p:=⟨bW,_,none⟩) bz.out _).trans (hHeld.1)))))))))),((cell_far (p:=⟨bW,_,none⟩) bz.out _).trans (((cell_far (p:=⟨bW,_,none⟩) bz.out _).trans (((cell_far (p:=⟨bW,_,none⟩) bz.out _).trans (((cell_far (p:=⟨bW,_,none⟩) bz.out _).trans (((cell_far (p:=⟨bW,_,none⟩) bz.out _).trans (hHeld.2.1)))))))))),((cell_far (p:=⟨bW,_,none⟩) bz.out _).trans (((cell_far (p:=⟨bW,_,none⟩) bz.out _).trans (((cell_far (p:=⟨bW,_,none⟩) bz.out _).trans (((cell_far (p:=⟨bW,_,none⟩) bz.out _).trans (((cell_far (p:=⟨bW,_,none⟩) bz.out _).trans (hHeld.2.2.1)))))))))),((cell_far (p:=⟨bW,_,none⟩) bz.out _).trans (((cell_far (p:=⟨bW,_,none⟩) bz.out _).trans (((cell_far (p:=⟨bW,_,none⟩) bz.out _).trans (((cell_far (p:=⟨bW,_,none⟩) bz.out _).trans (((cell_far (p:=⟨bW,_,none⟩) bz.out _).trans (hHeld.2.2.2.1)))))))))),((cell_far (p:=⟨bW,_,none⟩) bz.out _).trans (((cell_far (p:=⟨bW,_,none⟩) bz.out _).trans (((cell_far (p:=⟨bW,_,none⟩) bz.out _).trans (((cell_far (p:=⟨bW,_,none⟩) bz.out _).trans (((cell_far (p:=⟨bW,_,none⟩) bz.out _).trans (hHeld.2.2.2.2))))))))))⟩ (fun hHeld=>?_)
                            clear hK K
                            refine bu (i:=11) (N:=some 12) (v:=?_) (a':=?_) #[true,true,true,true,true,true,true,true,true,true,true,true] rfl rfl (aN dD.out (by kernel_rfl)) (fun _ _ _ h=>h) (Or.inl ⟨by rfl,?_⟩) ?_ ?_
                            rotate_left
                            · intro w'
                              go_simp
                              with_reducible rfl
                            rotate_left
                            · simp only [Act.put,List.setIfInBounds_toArray,List.set_cons_zero,List.set_cons_succ,aI,aJ]
                              rfl
                            refine qL (lG dD.out (by kernel_rfl)) ?_
                            have agQ:=jY.out
                            have agz:=um.out
                            have agP:=dY.out
                            have agy:=gG.out
                            have adA:Cf.cell? ⟨fE,0,none⟩=some (.int .u8 fB):=(ah dC.out 0).trans rfl
                            have adz:Cf.cell? ⟨fE,1,none⟩=some (.int .u8 eG):=(ah dC.out 1).trans rfl
                            have adw:Cf.cell? ⟨fE,2,none⟩=some (.int .u8 dS):=(ah dC.out 2).trans rfl
                            have adv:Cf.cell? ⟨fE,3,none⟩=some (.int .u8 dN):=(ah dC.out 3).trans rfl
                            have adu:Cf.cell? ⟨fE,4,none⟩=some (.int .i64 dI):=(ah dC.out 4).trans rfl
                            have ab7:=ax dC.out 0
                            have ab6:=ax dC.out 1
                            have ab5:=ax dC.out 2
                            have ab4:=ax dC.out 3
                            have ab3:=ax dC.out 4
                            try go_wp2
                            refine bodyPost_ret (jV rfl _ _ fE 27 #[.int .u8 0,.int .u8 0,.int .u8 0,.int .u8 0,.int .i64 0] (0,0) _ rfl (by (with_reducible repeat (first|refine au ?_ _|refine ay ?_|refine ak ?_ _));refine dB (cs:=#[.int .u8 0,.int .u8 0,.int .u8 0,.int .u8 0,.int .i64 dI]) ?_ 4 _ rfl;(with_reducible repeat (first|refine au ?_ _|refine ay ?_|refine ak ?_ _));refine dB (cs:=#[.int .u8 0,.int .u8 0,.int .u8 0,.int .u8 dN,.int .i64 dI]) ?_ 3 _ rfl;(with_reducible repeat (first|refine au ?_ _|refine ay ?_|refine ak ?_ _));refine dB (cs:=#[.int .u8 0,.int .u8 0,.int .u8 dS,.int .u8 dN,.int .i64 dI]) ?_ 2 _ rfl;(with_reducible repeat (first|refine au ?_ _|refine ay ?_|refine ak ?_ _));refine dB (cs:=#[.int .u8 0,.int .u8 eG,.int .u8 dS,.int .u8 dN,.int .i64 dI]) ?_ 1 _ rfl;(with_reducible repeat (first|refine au ?_ _|refine ay ?_|refine ak ?_ _));refine dB (cs:=#[.int .u8 fB,.int .u8 eG,.int .u8 dS,.int .u8 dN,.int .i64 dI]) ?_ 0 _ rfl;(with_reducible repeat (first|refine au ?_ _|refine ay ?_|refine ak ?_ _));refine fC ?_ dY.out _;(with_reducible repeat (first|refine au ?_ _|refine ay ?_|refine ak ?_ _));refine fC ?_ dY.out _;(with_reducible repeat (first|refine au ?_ _|refine ay ?_|refine ak ?_ _));refine fC ?_ dY.out _;(with_reducible repeat (first|refine au ?_ _|refine ay ?_|refine ak ?_ _));refine fC ?_ dY.out _;(with_reducible repeat (first|refine au ?_ _|refine ay ?_|refine ak ?_ _));refine fC ?_ dY.out _;(with_reducible repeat (first|refine au ?_ _|refine ay ?_|refine ak ?_ _));exact dC.out) Tryz.underlying27 rfl (by kernel_rfl)) rfl ?_
                            exact ⟨by first|rfl|(simp [bH,bG] <;> rfl)|(simp only [← yu];first|rfl|(simp [bH,bG] <;> rfl))|(simp [*,bH,bG] <;> rfl),by repeat (first|(with_reducible first|exact HB.out|apply aj|apply af|apply ai|refine az ?_ iV.out|refine az ?_ jH.out|refine az ?_ mV.out)|exact HB.out)⟩
                        · rw [if_neg c17] at H
                          exact absurd H (by simp)
                      · rw [if_neg c15] at H
                        exact absurd H (by simp)
                    · rw [if_neg c14] at H
                      exact absurd H (by simp)
                  · rw [if_neg c12] at H
                    have ve:decide (nK < (t217.size:Int))=false:=decide_eq_false c12
                    clear c12
                    simp only [Option.some.injEq,Prod.mk.injEq] at H
                    obtain ⟨rfl,rfl,rfl,rfl,rfl,rfl⟩:=H
                    have agO:=um.out
                    have agx:=jY.out
                    have adt:wr.cell? ⟨dM,0,none⟩=some (.int .u8 dh):=(ah bQ.out 0).trans rfl
                    have ads:wr.cell? ⟨dM,1,none⟩=some (.int .u8 df):=(ah bQ.out 1).trans rfl
                    have adr:wr.cell? ⟨dM,2,none⟩=some (.int .u8 cZ):=(ah bQ.out 2).trans rfl
                    have adq:wr.cell? ⟨dM,3,none⟩=some (.int .u8 cO):=(ah bQ.out 3).trans rfl
                    have adp:wr.cell? ⟨dM,4,none⟩=some (.int .i64 cu):=(ah bQ.out 4).trans rfl
                    have ab2:=ax bQ.out 0
                    have ab1:=ax bQ.out 1
                    have abZ:=ax bQ.out 2
                    have abY:=ax bQ.out 3
                    have abX:=ax bQ.out 4
                    have ado:wr.cell? ⟨fE,0,none⟩=some (.int .u8 fB):=(ah dC.out 0).trans rfl
                    have adn:wr.cell? ⟨fE,1,none⟩=some (.int .u8 eG):=(ah dC.out 1).trans rfl
                    have adm:wr.cell? ⟨fE,2,none⟩=some (.int .u8 dS):=(ah dC.out 2).trans rfl
                    have adl:wr.cell? ⟨fE,3,none⟩=some (.int .u8 dN):=(ah dC.out 3).trans rfl
                    have adk:wr.cell? ⟨fE,4,none⟩=some (.int .i64 dI):=(ah dC.out 4).trans rfl
                    have abW:=ax dC.out 0
                    have abV:=ax dC.out 1
                    have abU:=ax dC.out 2
                    have abT:=ax dC.out 3
                    have abS:=ax dC.out 4
                    go_wp2
                    refine bodyPost_ret (jV rfl _ _ fE 27 #[.int .u8 dh,.int .u8 df,.int .u8 cZ,.int .u8 cO,.int .i64 cu] (0,0) _ rfl (by (with_reducible repeat (first|refine au ?_ _|refine ay ?_|refine ak ?_ _));refine dB (cs:=#[.int .u8 dh,.int .u8 df,.int .u8 cZ,.int .u8 cO,.int .i64 dI]) ?_ 4 _ rfl;(with_reducible repeat (first|refine au ?_ _|refine ay ?_|refine ak ?_ _));refine dB (cs:=#[.int .u8 dh,.int .u8 df,.int .u8 cZ,.int .u8 dN,.int .i64 dI]) ?_ 3 _ rfl;(with_reducible repeat (first|refine au ?_ _|refine ay ?_|refine ak ?_ _));refine dB (cs:=#[.int .u8 dh,.int .u8 df,.int .u8 dS,.int .u8 dN,.int .i64 dI]) ?_ 2 _ rfl;(with_reducible repeat (first|refine au ?_ _|refine ay ?_|refine ak ?_ _));refine dB (cs:=#[.int .u8 dh,.int .u8 eG,.int .u8 dS,.int .u8 dN,.int .i64 dI]) ?_ 1 _ rfl;(with_reducible repeat (first|refine au ?_ _|refine ay ?_|refine ak ?_ _));refine dB (cs:=#[.int .u8 fB,.int .u8 eG,.int .u8 dS,.int .u8 dN,.int .i64 dI]) ?_ 0 _ rfl;(with_reducible repeat (first|refine au ?_ _|refine ay ?_|refine ak ?_ _));exact dC.out) Tryz.underlying27 rfl (by kernel_rfl)) rfl ?_
                    exact ⟨by first|rfl|(simp [bH,bG] <;> rfl)|(simp [*,bH,bG] <;> rfl),by repeat (first|(with_reducible first|exact HB.out|apply aj|apply af|apply ai|refine az ?_ iV.out|refine az ?_ jH.out)|exact HB.out)⟩
      · rw [if_neg c3] at H
        have qo:decide (fK≤15)=false:=decide_eq_false c3
        clear c3
        simp only [Option.some.injEq,Prod.mk.injEq] at H
        obtain ⟨rfl,rfl,rfl,rfl,rfl,rfl⟩:=H
        have adi:wr.cell? ⟨fE,0,none⟩=some (.int .u8 nz):=(ah dC.out 0).trans rfl
        have adh:wr.cell? ⟨fE,1,none⟩=some (.int .u8 mg):=(ah dC.out 1).trans rfl
        have adg:wr.cell? ⟨fE,2,none⟩=some (.int .u8 lu):=(ah dC.out 2).trans rfl
        have adf:wr.cell? ⟨fE,3,none⟩=some (.int .u8 kV):=(ah dC.out 3).trans rfl
        have ade:wr.cell? ⟨fE,4,none⟩=some (.int .i64 kH):=(ah dC.out 4).trans rfl
        have abR:=ax dC.out 0
        have abQ:=ax dC.out 1
        have abP:=ax dC.out 2
        have abO:=ax dC.out 3
        have abN:=ax dC.out 4
        go_wp2
        refine bodyPost_ret (jV rfl _ _ fE 27 #[.int .u8 0,.int .u8 0,.int .u8 0,.int .u8 0,.int .i64 0] (0,0) _ rfl (by (with_reducible repeat (first|refine au ?_ _|refine ay ?_|refine ak ?_ _));refine dB (cs:=#[.int .u8 0,.int .u8 0,.int .u8 0,.int .u8 0,.int .i64 kH]) ?_ 4 _ rfl;(with_reducible repeat (first|refine au ?_ _|refine ay ?_|refine ak ?_ _));refine dB (cs:=#[.int .u8 0,.int .u8 0,.int .u8 0,.int .u8 kV,.int .i64 kH]) ?_ 3 _ rfl;(with_reducible repeat (first|refine au ?_ _|refine ay ?_|refine ak ?_ _));refine dB (cs:=#[.int .u8 0,.int .u8 0,.int .u8 lu,.int .u8 kV,.int .i64 kH]) ?_ 2 _ rfl;(with_reducible repeat (first|refine au ?_ _|refine ay ?_|refine ak ?_ _));refine dB (cs:=#[.int .u8 0,.int .u8 mg,.int .u8 lu,.int .u8 kV,.int .i64 kH]) ?_ 1 _ rfl;(with_reducible repeat (first|refine au ?_ _|refine ay ?_|refine ak ?_ _));refine dB (cs:=#[.int .u8 nz,.int .u8 mg,.int .u8 lu,.int .u8 kV,.int .i64 kH]) ?_ 0 _ rfl;(with_reducible repeat (first|refine au ?_ _|refine ay ?_|refine ak ?_ _));exact dC.out) Tryz.underlying27 rfl (by kernel_rfl)) rfl ?_
        exact ⟨by first|rfl|(simp [bH,bG] <;> rfl)|(simp [*,bH,bG] <;> rfl),by repeat (first|(with_reducible first|exact HB.out|apply aj|apply af|apply ai|refine az ?_ iV.out)|exact HB.out)⟩
end Go.Proofs.YtkclndkbccbhaaaGreatDoor.P
end
