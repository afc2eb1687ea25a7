/- Parts of the proof of CodePrints: what the functions that it reaches compute, and plain facts about that. -/
import Derived.Test.YtkclndkbccbhaaaGreatDoorUac
import Derived.Test.YtkclndkbccbhaaaGreatDoorUad
set_option linter.unusedVariables false
set_option linter.unusedSimpArgs false
section
namespace Go.Proofs.YtkclndkbccbhaaaGreatDoor.P
open Go.RowKit Go.Proofs.ag.bJ Go.Proofs.ag.eX Go.Proofs.ag.gp
attribute [local go_sem] kM kK lT lS jE jD kL kJ
def gu.f (a0:ByteArray):Option (Bool):=if (a0.size:Int)≤30 then ((jc.f a0 (⟨#[97,98,99,100,101,102,103,104,105,106,107,108,109,110,111,112,113,114,115,116,117,118,119,120,121,122,48,49,50,51,52,53,54,55,56,57]⟩:ByteArray)).bind fun t101=>(some (t101.toList == ([]:List UInt8)))) else (some false)
set_option maxHeartbeats 8000000 in
set_option maxRecDepth 100000 in
theorem gu.calls (a0:ByteArray) (r:Bool) (w:World) (h:gu.f a0=some r) :
    Calls Tryz.prog 37 #[.string a0] w fun e w'=>e=.returned (.bool r)∧Below w.heap.size w w':=by
  have HB:=ae.mk (Below.refl w.heap.size w)
  have H:(if (a0.size:Int)≤30 then ((jc.f a0 (⟨#[97,98,99,100,101,102,103,104,105,106,107,108,109,110,111,112,113,114,115,116,117,118,119,120,121,122,48,49,50,51,52,53,54,55,56,57]⟩:ByteArray)).bind fun t101=>(some (t101.toList == ([]:List UInt8)))) else (some false))=some r:=h
  clear h
  by_cases c2:(a0.size:Int)≤30
  · rw [if_pos c2] at H
    have sH:decide ((a0.size:Int)≤30)=true:=decide_eq_true c2
    have xO:decide (a0.size≤30)=true:=decide_eq_true (by omega)
    clear c2
    replace H:=Option.bind_eq_some_iff.mp H
    obtain ⟨t101,DI,H⟩:=H
    replace H:(some (t101.toList == ([]:List UInt8)))=some r:=H
    have A3:=ae.mk DI
    clear DI
    obtain rfl:=Option.some.inj H
    go_enter Tryz.func37,Tryz.ntmps37
    go_wp2_with (first|(go_at_call 54;(with_reducible refine (jc.calls a0 (⟨#[97,98,99,100,101,102,103,104,105,106,107,108,109,110,111,112,113,114,115,116,117,118,119,120,121,122,48,49,50,51,52,53,54,55,56,57]⟩:ByteArray) t101 _ A3.out).mono ?_);rintro e w4 ⟨rfl,hb⟩;have di:=ae.mk (aQ (by repeat (first|(with_reducible first|exact HB.out|apply aj|apply af|apply ai)|exact HB.out)) hb);clear HB;have HB:=di;clear di;(try clear hb);(try clear hb2);(try clear hk);(try clear hi)))
    go_ret
    exact ⟨by first|rfl|(simp [bH,bG] <;> rfl)|(simp [*,bH,bG] <;> rfl),by repeat (first|(with_reducible first|exact HB.out|apply aj|apply af|apply ai)|exact HB.out)⟩
  · rw [if_neg c2] at H
    have sH:decide ((a0.size:Int)≤30)=false:=decide_eq_false c2
    have xO:decide (a0.size≤30)=false:=decide_eq_false (by omega)
    clear c2
    obtain rfl:=Option.some.inj H
    go_enter Tryz.func37,Tryz.ntmps37
    go_wp2
    go_ret
    exact ⟨by first|rfl|(simp [bH,bG] <;> rfl)|(simp [*,bH,bG] <;> rfl),by repeat (first|(with_reducible first|exact HB.out|apply aj|apply af|apply ai)|exact HB.out)⟩
mutual
def dX.l0:Nat→List ByteArray→Int→Int→List ByteArray→ByteArray→ByteArray→List (jZ)→Option (Bool)
  | 0,_,_,_,_,_,_,_=>none
  | k+1,x8,x9,x10,zH,xZ,xY,uu=>if x10 < x9 then (if 0≤x10 then (if x10 < (x8.length:Int) then (if (gI ByteArray.empty x8 x10).toList=([]:List UInt8) then (some false) else ((gu.f (gI ByteArray.empty x8 x10)).bind fun t104=>(if t104=true then (dX.l0 k x8 x9 (wrap64 (x10+1)) zH xZ xY uu) else (some false)))) else (none)) else (none)) else (dX.l1 k uu (uu.length:Int) 0 zH xZ xY uu)
def dX.l1:Nat→List (jZ)→Int→Int→List ByteArray→ByteArray→ByteArray→List (jZ)→Option (Bool)
  | 0,_,_,_,_,_,_,_=>none
  | k+1,WE,x24,x25,zH,xZ,xY,uu=>if x25 < x24 then (if 0≤x25 then (if x25 < (WE.length:Int) then ((eu.f ((aZ WE x25).f0) ((aZ WE x25).f1) ((aZ WE x25).f2) ((aZ WE x25).f3) ((aZ WE x25).f4)).bind fun t107=>(if t107=true then (dX.l1 k WE x24 (wrap64 (x25+1)) zH xZ xY uu) else (some false))) else (none)) else (none)) else ((gu.f xZ).bind fun t108=>(if t108=true then ((gu.f xY).bind fun t109=>(if t109=true then (some (decide ((uu.length:Int)≤200))) else (some false))) else (some false)))
end
def dX.f (k:Nat) (bD:List ByteArray) (aY:ByteArray) (aX:ByteArray) (aW:List (jZ)):Option (Bool):=dX.l0 k bD (bD.length:Int) 0 bD aY aX aW
theorem dX.gY:∀ k,(∀ y0 y1 y2 y3 y4 y5 y6,dH (dX.l0 k y0 y1 y2 y3 y4 y5 y6) (dX.l0 (k+1) y0 y1 y2 y3 y4 y5 y6))∧(∀ y0 y1 y2 y3 y4 y5 y6,dH (dX.l1 k y0 y1 y2 y3 y4 y5 y6) (dX.l1 (k+1) y0 y1 y2 y3 y4 y5 y6))
  | 0=>⟨fun _ _ _ _ _ _ _ r h=>by simp [dX.l0] at h,fun _ _ _ _ _ _ _ r h=>by simp [dX.l1] at h⟩
  | k+1=>by
    obtain ⟨jK,ih1⟩:=dX.gY k
    refine ⟨?_,?_⟩
    · intro y0 y1 y2 y3 y4 y5 y6
      unfold dX.l0
      repeat' first
      | (with_reducible exact jK _ _ _ _ _ _ _)
      | (with_reducible exact ih1 _ _ _ _ _ _ _)
      | (with_reducible exact dH.refl _)
      | (with_reducible exact dH.none _)
      | (with_reducible refine dH.ite ?_ ?_)
      | (with_reducible refine dH.bind ?_ (fun _=>?_))
      | exact jK _ _ _ _ _ _ _
      | exact ih1 _ _ _ _ _ _ _
      | exact dH.none _
      | refine dH.ite ?_ ?_
      | refine dH.bind ?_ (fun _=>?_)
    · intro y0 y1 y2 y3 y4 y5 y6
      unfold dX.l1
      repeat' first
      | (with_reducible exact jK _ _ _ _ _ _ _)
      | (with_reducible exact ih1 _ _ _ _ _ _ _)
      | (with_reducible exact dH.refl _)
      | (with_reducible exact dH.none _)
      | (with_reducible refine dH.ite ?_ ?_)
      | (with_reducible refine dH.bind ?_ (fun _=>?_))
      | exact jK _ _ _ _ _ _ _
      | exact ih1 _ _ _ _ _ _ _
      | exact dH.none _
      | refine dH.ite ?_ ?_
      | refine dH.bind ?_ (fun _=>?_)
theorem dX.mono:∀ a0 a1 a2 a3 k,dH (dX.f k a0 a1 a2 a3) (dX.f (k+1) a0 a1 a2 a3):=by
  intro a0 a1 a2 a3 k
  obtain ⟨jK,ih1⟩:=dX.gY k
  unfold dX.f
  repeat' first
      | (with_reducible exact jK _ _ _ _ _ _ _)
      | (with_reducible exact ih1 _ _ _ _ _ _ _)
      | (with_reducible exact dH.refl _)
      | (with_reducible exact dH.none _)
      | (with_reducible refine dH.ite ?_ ?_)
      | (with_reducible refine dH.bind ?_ (fun _=>?_))
      | exact jK _ _ _ _ _ _ _
      | exact ih1 _ _ _ _ _ _ _
      | exact dH.none _
      | refine dH.ite ?_ ?_
      | refine dH.bind ?_ (fun _=>?_)
set_option maxHeartbeats 8000000 in
set_option maxRecDepth 100000 in
theorem dX.calls (k:Nat) (dO:Option Addr) (dK:Nat) (bD:List ByteArray) (aY:ByteArray) (aX:ByteArray) (dV:Option Addr) (dJ:Nat) (aW:List (jZ)) (r:Bool) (w:World) (qG:Kd.C Kd.string w dO bD.length bD) (qJ:bD.length≤dK) (qF:Kd.C k27 w dV aW.length aW) (qI:aW.length≤dJ) (jM:Kd.C tu w tC lJ.length lJ) (h:dX.f k bD aY aX aW=some r) :
    Calls Tryz.prog 18 #[.agg #[.slice dO bD.length dK,.string aY,.string aX,.slice dV aW.length dJ]] w fun e w'=>e=.returned (.bool r)∧Below w.heap.size w w':=by
  have Nw:=Tryz.underlying25
  have BR:=Tryz.underlying27
  have kZ:=ae.mk qG
  have qj:=ae.mk qJ
  clear qG qJ
  have ny:=ae.mk qF
  have qi:=ae.mk qI
  clear qF qI
  have ry:=ae.mk jM
  clear jM
  have HB:=ae.mk (Below.refl w.heap.size w)
  have H:(dX.l0 k bD (bD.length:Int) 0 bD aY aX aW)=some r:=h
  clear h
  have H':=ae.mk H
  clear H
  go_enter Tryz.func18,Tryz.ntmps18
  go_wp2_with (first|((with_reducible refine eQ (N:=1) rfl ?_);(try (refine mY (by rfl) ?_;dsimp only));refine fF ?hg (N:=1) ?hd (cs:=#[.slice dO bD.length dK,.string aY,.string aX,.slice dV aW.length dJ]) (t:=25) ?hr ?_;(case hd=>rfl);(case hg=>rfl);(case hr=>first|(go_simp;done)|(go_simp;rfl));intro iJ hg w2 hbox hb;have di:=ae.mk (aQ (by repeat (first|(with_reducible first|exact HB.out|apply aj|apply af|apply ai)|exact HB.out)) hb);have dm:=ae.mk (hbox);have dE:=ae.mk ((by rw [hg];exact (bn (by repeat (first|(with_reducible first|exact HB.out|apply aj|apply af|apply ai)|exact HB.out))):w.heap.size≤iJ));have gq:=ae.mk ((by rw [hg];exact (bn (by repeat (first|(with_reducible first|exact HB.out|apply aj|apply af|apply ai)|exact HB.out))):w.heap.size≤iJ));clear HB;have HB:=di;have eF:=dm;have ahO:=dE;have mP:=gq;clear di dm dE gq;clear hb hbox hg;have EK:w2.cell? ⟨iJ,0,none⟩=some (.slice dO bD.length dK):=(ah eF.out 0).trans rfl;have EJ:w2.cell? ⟨iJ,1,none⟩=some (.string aY):=(ah eF.out 1).trans rfl;have EI:w2.cell? ⟨iJ,2,none⟩=some (.string aX):=(ah eF.out 2).trans rfl;have EH:w2.cell? ⟨iJ,3,none⟩=some (.slice dV aW.length dJ):=(ah eF.out 3).trans rfl;have Eu:=ax eF.out 0;have Et:=ax eF.out 1;have Es:=ax eF.out 2;have Ep:=ax eF.out 3))
  go_loopg [10] k (fun kq v10 w'=>∃ (lC:Int),v10=.int .i64 lC∧ae (dX.l0 kq bD (bD.length:Int) lC bD aY aX aW=some r)∧ae (kq≤k)∧ae (w'.heap[iJ]? = some (.cells #[(.slice dO bD.length dK),.string aY,.string aX,(.slice dV aW.length dJ)] 25 (0,0)))∧ae (Below w.heap.size w w'))
  case atStart=>exact ⟨(0),(by first|rfl|(simp;done)|(simp [*];done)),H',⟨Nat.le_refl _⟩,⟨by (with_reducible repeat (first|refine au ?_ _|refine ay ?_|refine ak ?_ _));exact eF.out⟩,⟨by repeat (first|(with_reducible first|exact HB.out|apply aj|apply af|apply ai|refine az ?_ mP.out)|exact HB.out)⟩⟩
  case round =>
    clear H'
    try clear c1
    try clear p2
    try clear EK
    try clear EJ
    try clear EI
    try clear EH
    try clear Eu
    try clear Et
    try clear Es
    try clear Ep
    obtain ⟨lC,rfl,HA,nZ,eF,HB⟩:=hrel
    cases gk with
    | zero=>exact absurd HA.out (by simp [dX.l0])
    | succ k1 =>
      have H:=HA.out
      clear HA
      simp only [dX.l0] at H
      by_cases c4:lC < (bD.length:Int)
      · rw [if_pos c4] at H
        have rF:decide (lC < (bD.length:Int))=true:=decide_eq_true c4
        clear c4
        by_cases c5:0≤lC
        · rw [if_pos c5] at H
          have xm:decide (0≤lC)=true:=decide_eq_true c5
          clear c5
          by_cases c6:lC < (bD.length:Int)
          · rw [if_pos c6] at H
            have qW:decide (lC < (bD.length:Int))=true:=decide_eq_true c6
            clear c6
            by_cases c7:(gI ByteArray.empty bD lC).toList=([]:List UInt8)
            · rw [if_pos c7] at H
              have nX:((gI ByteArray.empty bD lC).toList == ([]:List UInt8))=true:=beq_iff_eq.mpr c7
              have vY:((gI ByteArray.empty bD lC).toList != ([]:List UInt8))=false:=bne_eq_false_iff_eq.mpr c7
              clear c7
              obtain rfl:=Option.some.inj H
              have zC:0≤(lC:Int):=of_decide_eq_true (by first|(with_reducible assumption)|assumption)
              have zB:lC < (bD.length:Int):=of_decide_eq_true (by first|(with_reducible assumption)|assumption)
              obtain ⟨LZ,Qu,oG⟩:=Kd.gB kZ.out lC zC zB
              cases Qu
              replace oG:=(HB.out.cell (World.block_lt_of_cell? w _ oG)).trans oG
              replace zC:=eq_true zC
              replace zB:=eq_true zB
              go_wp2
              go_ret
              exact ⟨by first|rfl|(simp [bH,bG] <;> rfl)|(simp [*,bH,bG] <;> rfl),by repeat (first|(with_reducible first|exact HB.out|apply aj|apply af|apply ai|refine az ?_ mP.out)|exact HB.out)⟩
            · rw [if_neg c7] at H
              have nX:((gI ByteArray.empty bD lC).toList == ([]:List UInt8))=false:=beq_eq_false_iff_ne.mpr c7
              have vY:((gI ByteArray.empty bD lC).toList != ([]:List UInt8))=true:=bne_iff_ne.mpr c7
              replace H:=Option.bind_eq_some_iff.mp H
              obtain ⟨t104,A80,H⟩:=H
              replace H:(if t104=true then (dX.l0 k1 bD (bD.length:Int) (wrap64 (lC+1)) bD aY aX aW) else (some false))=some r:=H
              have A8:=ae.mk A80
              clear A80
              by_cases c9:t104=true
              · subst c9
                have H1:(dX.l0 k1 bD (bD.length:Int) (wrap64 (lC+1)) bD aY aX aW)=some r:=by rw [if_pos rfl] at H;exact H
                clear H
                have H:=H1
                clear H1
                have H':=ae.mk H
                clear H
                have zC:0≤(lC:Int):=of_decide_eq_true (by first|(with_reducible assumption)|assumption)
                have zB:lC < (bD.length:Int):=of_decide_eq_true (by first|(with_reducible assumption)|assumption)
                obtain ⟨LZ,Qu,oG⟩:=Kd.gB kZ.out lC zC zB
                cases Qu
                replace oG:=(HB.out.cell (World.block_lt_of_cell? w _ oG)).trans oG
                replace zC:=eq_true zC
                replace zB:=eq_true zB
                go_wp2_with (first|(go_at_call 37;(with_reducible refine (gu.calls (gI ByteArray.empty bD lC) true _ A8.out).mono ?_);rintro e w10 ⟨rfl,hb⟩;have di:=ae.mk (aV (g:=iJ) (o:=.cells #[.slice (some LZ) bD.length dK,.string aY,.string aX,.slice dV aW.length dJ] 25 (0,0)) (by (with_reducible repeat (first|refine au ?_ _|refine ay ?_|refine ak ?_ _));exact eF.out) hb);have dm:=ae.mk (aQ (by repeat (first|(with_reducible first|exact HB.out|apply aj|apply af|apply ai|refine az ?_ mP.out)|exact HB.out)) hb);clear eF;clear HB;have eF:=di;have HB:=dm;clear di dm;(try clear hb);(try clear hb2);(try clear hk);(try clear hi)))
                go_roundg k1
                case measure=>have:=nZ.out;omega
                case rel=>exact ⟨(wrap64 (lC+1)),(by first|rfl|(simp;done)|(simp [*];done)),H',⟨by have:=nZ.out;omega⟩,⟨by (with_reducible repeat (first|refine au ?_ _|refine ay ?_|refine ak ?_ _));exact eF.out⟩,⟨by repeat (first|(with_reducible first|exact HB.out|apply aj|apply af|apply ai|refine az ?_ mP.out)|exact HB.out)⟩⟩
              · replace c9:=Bool.eq_false_iff.mpr c9
                subst c9
                have H1:(some false)=some r:=by rw [if_neg (show ¬ (false=true) by decide)] at H;exact H
                clear H
                have H:=H1
                clear H1
                obtain rfl:=Option.some.inj H
                have zC:0≤(lC:Int):=of_decide_eq_true (by first|(with_reducible assumption)|assumption)
                have zB:lC < (bD.length:Int):=of_decide_eq_true (by first|(with_reducible assumption)|assumption)
                obtain ⟨LZ,Qu,oG⟩:=Kd.gB kZ.out lC zC zB
                cases Qu
                replace oG:=(HB.out.cell (World.block_lt_of_cell? w _ oG)).trans oG
                replace zC:=eq_true zC
                replace zB:=eq_true zB
                go_wp2_with (first|(go_at_call 37;(with_reducible refine (gu.calls (gI ByteArray.empty bD lC) false _ A8.out).mono ?_);rintro e w11 ⟨rfl,hb⟩;have di:=ae.mk (aV (g:=iJ) (o:=.cells #[.slice (some LZ) bD.length dK,.string aY,.string aX,.slice dV aW.length dJ] 25 (0,0)) (by (with_reducible repeat (first|refine au ?_ _|refine ay ?_|refine ak ?_ _));exact eF.out) hb);have dm:=ae.mk (aQ (by repeat (first|(with_reducible first|exact HB.out|apply aj|apply af|apply ai|refine az ?_ mP.out)|exact HB.out)) hb);clear eF;clear HB;have eF:=di;have HB:=dm;clear di dm;(try clear hb);(try clear hb2);(try clear hk);(try clear hi)))
                go_ret
                exact ⟨by first|rfl|(simp [bH,bG] <;> rfl)|(simp [*,bH,bG] <;> rfl),by repeat (first|(with_reducible first|exact HB.out|apply aj|apply af|apply ai|refine az ?_ mP.out)|exact HB.out)⟩
          · rw [if_neg c6] at H
            exact absurd H (by simp)
        · rw [if_neg c5] at H
          exact absurd H (by simp)
      · rw [if_neg c4] at H
        have rF:decide (lC < (bD.length:Int))=false:=decide_eq_false c4
        clear c4
        have H':=ae.mk H
        clear H
        have U4:wr.cell? ⟨iJ,0,none⟩=some (.slice dO bD.length dK):=(ah eF.out 0).trans rfl
        have U3:wr.cell? ⟨iJ,1,none⟩=some (.string aY):=(ah eF.out 1).trans rfl
        have U2:wr.cell? ⟨iJ,2,none⟩=some (.string aX):=(ah eF.out 2).trans rfl
        have U1:wr.cell? ⟨iJ,3,none⟩=some (.slice dV aW.length dJ):=(ah eF.out 3).trans rfl
        have Ud:=ax eF.out 0
        have Uc:=ax eF.out 1
        have Ub:=ax eF.out 2
        have Ua:=ax eF.out 3
        go_wp2
        go_loopg [25] k1 (fun kq v25 w'=>∃ (gW:Int),v25=.int .i64 gW∧ae (dX.l1 kq aW (aW.length:Int) gW bD aY aX aW=some r)∧ae (kq≤k1)∧ae (w'.heap[iJ]? = some (.cells #[(.slice dO bD.length dK),.string aY,.string aX,(.slice dV aW.length dJ)] 25 (0,0)))∧ae (Below w.heap.size w w'))
        case atStart=>exact ⟨(0),(by first|rfl|(simp;done)|(simp [*];done)),H',⟨Nat.le_refl _⟩,⟨by (with_reducible repeat (first|refine au ?_ _|refine ay ?_|refine ak ?_ _));exact eF.out⟩,⟨by repeat (first|(with_reducible first|exact HB.out|apply aj|apply af|apply ai|refine az ?_ mP.out)|exact HB.out)⟩⟩
        case round =>
          clear H'
          try clear c1
          try clear p1
          try clear q1
          try clear hx1
          try clear p2
          try clear c4
          try clear rF
          try clear c5
          try clear xm
          try clear c6
          try clear qW
          try clear p6
          try clear c7
          try clear nX
          try clear vY
          try clear c9
          try clear p10
          try clear q10
          try clear ait
          try clear U4
          try clear U3
          try clear U2
          try clear U1
          try clear EK
          try clear EJ
          try clear EI
          try clear EH
          try clear Ud
          try clear Uc
          try clear Ub
          try clear Ua
          try clear Eu
          try clear Et
          try clear Es
          try clear Ep
          try clear oG
          try clear zC
          try clear p2
          try clear zB
          obtain ⟨gW,rfl,HA,xB,eF,HB⟩:=hrel
          cases gk with
          | zero=>exact absurd HA.out (by simp [dX.l1])
          | succ k2 =>
            have H:=HA.out
            clear HA
            simp only [dX.l1] at H
            by_cases c13:gW < (aW.length:Int)
            · rw [if_pos c13] at H
              have rZ:decide (gW < (aW.length:Int))=true:=decide_eq_true c13
              clear c13
              by_cases c14:0≤gW
              · rw [if_pos c14] at H
                have yB:decide (0≤gW)=true:=decide_eq_true c14
                clear c14
                by_cases c15:gW < (aW.length:Int)
                · rw [if_pos c15] at H
                  have wo:decide (gW < (aW.length:Int))=true:=decide_eq_true c15
                  clear c15
                  replace H:=Option.bind_eq_some_iff.mp H
                  obtain ⟨t107,BJ,H⟩:=H
                  replace H:(if t107=true then (dX.l1 k2 aW (aW.length:Int) (wrap64 (gW+1)) bD aY aX aW) else (some false))=some r:=H
                  have Q9:=ae.mk BJ
                  clear BJ
                  by_cases c17:t107=true
                  · subst c17
                    have H1:(dX.l1 k2 aW (aW.length:Int) (wrap64 (gW+1)) bD aY aX aW)=some r:=by rw [if_pos rfl] at H;exact H
                    clear H
                    have H:=H1
                    clear H1
                    have H':=ae.mk H
                    clear H
                    have Iu:0≤(gW:Int):=of_decide_eq_true (by first|(with_reducible assumption)|assumption)
                    have Il:gW < (aW.length:Int):=of_decide_eq_true (by first|(with_reducible assumption)|assumption)
                    obtain ⟨yC,XU,uN,uM,uK,uJ,uI⟩:=wz ny.out gW Iu Il
                    cases XU
                    replace uN:=(HB.out.cell (World.block_lt_of_cell? w _ uN)).trans uN
                    replace uM:=(HB.out.cell (World.block_lt_of_cell? w _ uM)).trans uM
                    replace uK:=(HB.out.cell (World.block_lt_of_cell? w _ uK)).trans uK
                    replace uJ:=(HB.out.cell (World.block_lt_of_cell? w _ uJ)).trans uJ
                    replace uI:=(HB.out.cell (World.block_lt_of_cell? w _ uI)).trans uI
                    replace Iu:=eq_true Iu
                    replace Il:=eq_true Il
                    go_wp2_with (first|((with_reducible refine eQ (N:=6) rfl ?_);(try (refine mY (by rfl) ?_;dsimp only));refine fF ?hg (N:=6) ?hd (cs:=#[.int .u8 0,.int .u8 0,.int .u8 0,.int .u8 0,.int .i64 0]) (t:=27) ?hr ?_;(case hd=>rfl);(case hg=>rfl);(case hr=>first|(go_simp;done)|(go_simp;rfl));intro ou hg yZ hbox hb;have di:=ae.mk (aV (g:=iJ) (o:=.cells #[.slice dO bD.length dK,.string aY,.string aX,.slice (some yC) aW.length dJ] 25 (0,0)) (by (with_reducible repeat (first|refine au ?_ _|refine ay ?_|refine ak ?_ _));exact eF.out) hb);have dm:=ae.mk (aQ (by repeat (first|(with_reducible first|exact HB.out|apply aj|apply af|apply ai|refine az ?_ mP.out)|exact HB.out)) hb);have dE:=ae.mk (hbox);have gq:=ae.mk ((by rw [hg];exact (bn (by repeat (first|(with_reducible first|exact HB.out|apply aj|apply af|apply ai|refine az ?_ mP.out)|exact HB.out))):w.heap.size≤ou));have jC:=ae.mk ((by rw [hg];exact (bn (by repeat (first|(with_reducible first|exact HB.out|apply aj|apply af|apply ai|refine az ?_ mP.out)|exact HB.out))):w.heap.size≤ou));have lN:=ae.mk ((by rw [hg];exact Nat.ne_of_lt (gZ (g:=iJ) (o:=.cells #[.slice dO bD.length dK,.string aY,.string aX,.slice (some yC) aW.length dJ] 25 (0,0)) (by (with_reducible repeat (first|refine au ?_ _|refine ay ?_|refine ak ?_ _));exact eF.out)):iJ ≠ ou));have nC:=ae.mk ((by rw [hg];exact Nat.ne_of_gt (gZ (g:=iJ) (o:=.cells #[.slice dO bD.length dK,.string aY,.string aX,.slice (some yC) aW.length dJ] 25 (0,0)) (by (with_reducible repeat (first|refine au ?_ _|refine ay ?_|refine ak ?_ _));exact eF.out)):ou ≠ iJ));clear eF;clear HB;have eF:=di;have HB:=dm;have mQ:=dE;have aai:=gq;have BG:=jC;have kW:=lN;have yV:=nC;clear di dm dE gq jC lN nC;clear hb hbox hg;have YT:=yV.out;have YQ:=kW.out;have UT:yZ.cell? ⟨ou,0,none⟩=some (.int .u8 0):=(ah mQ.out 0).trans rfl;have UR:yZ.cell? ⟨ou,1,none⟩=some (.int .u8 0):=(ah mQ.out 1).trans rfl;have UQ:yZ.cell? ⟨ou,2,none⟩=some (.int .u8 0):=(ah mQ.out 2).trans rfl;have UO:yZ.cell? ⟨ou,3,none⟩=some (.int .u8 0):=(ah mQ.out 3).trans rfl;have UN:yZ.cell? ⟨ou,4,none⟩=some (.int .i64 0):=(ah mQ.out 4).trans rfl;have TS:=ax mQ.out 0;have TR:=ax mQ.out 1;have TQ:=ax mQ.out 2;have TP:=ax mQ.out 3;have TN:=ax mQ.out 4)|((with_reducible refine bU (f:=11) rfl ?_);refine gy (some 30) rfl rfl Tryz.func11 (by kernel_rfl) rfl #[.agg #[.int .u8 ((aZ aW gW).f0),.int .u8 ((aZ aW gW).f1),.int .u8 ((aZ aW gW).f2),.int .u8 ((aZ aW gW).f3),.int .i64 ((aZ aW gW).f4)]] rfl (by (try simp only [List.map_toArray,List.map_cons,List.map_nil]);first|done|rfl|(simp only [List.length_drop,List.length_take];rfl)) ?_;(with_reducible refine (eu.calls ((aZ aW gW).f0) ((aZ aW gW).f1) ((aZ aW gW).f2) ((aZ aW gW).f3) ((aZ aW gW).f4) true _ ?fD Q9.out).mono ?_);(case fD=>exact Kd.dF ry.out (by repeat (first|(with_reducible first|exact HB.out|apply aj|apply af|apply ai|refine az ?_ mP.out|refine az ?_ BG.out)|exact HB.out)));rintro e VF ⟨rfl,hb⟩;refine ⟨_,rfl,?_⟩;have di:=ae.mk (aV (g:=iJ) (o:=.cells #[.slice dO bD.length dK,.string aY,.string aX,.slice (some yC) aW.length dJ] 25 (0,0)) (by (with_reducible repeat (first|refine au ?_ _|refine ay ?_|refine ak ?_ _));refine fC ?_ kW.out _;(with_reducible repeat (first|refine au ?_ _|refine ay ?_|refine ak ?_ _));refine fC ?_ kW.out _;(with_reducible repeat (first|refine au ?_ _|refine ay ?_|refine ak ?_ _));refine fC ?_ kW.out _;(with_reducible repeat (first|refine au ?_ _|refine ay ?_|refine ak ?_ _));refine fC ?_ kW.out _;(with_reducible repeat (first|refine au ?_ _|refine ay ?_|refine ak ?_ _));refine fC ?_ kW.out _;(with_reducible repeat (first|refine au ?_ _|refine ay ?_|refine ak ?_ _));exact eF.out) hb);have dm:=ae.mk (aV (g:=ou) (o:=.cells #[.int .u8 ((aZ aW gW).f0),.int .u8 ((aZ aW gW).f1),.int .u8 ((aZ aW gW).f2),.int .u8 ((aZ aW gW).f3),.int .i64 ((aZ aW gW).f4)] 27 (0,0)) (by (with_reducible repeat (first|refine au ?_ _|refine ay ?_|refine ak ?_ _));refine dB (cs:=#[.int .u8 ((aZ aW gW).f0),.int .u8 ((aZ aW gW).f1),.int .u8 ((aZ aW gW).f2),.int .u8 ((aZ aW gW).f3),.int .i64 0]) ?_ 4 _ rfl;(with_reducible repeat (first|refine au ?_ _|refine ay ?_|refine ak ?_ _));refine dB (cs:=#[.int .u8 ((aZ aW gW).f0),.int .u8 ((aZ aW gW).f1),.int .u8 ((aZ aW gW).f2),.int .u8 0,.int .i64 0]) ?_ 3 _ rfl;(with_reducible repeat (first|refine au ?_ _|refine ay ?_|refine ak ?_ _));refine dB (cs:=#[.int .u8 ((aZ aW gW).f0),.int .u8 ((aZ aW gW).f1),.int .u8 0,.int .u8 0,.int .i64 0]) ?_ 2 _ rfl;(with_reducible repeat (first|refine au ?_ _|refine ay ?_|refine ak ?_ _));refine dB (cs:=#[.int .u8 ((aZ aW gW).f0),.int .u8 0,.int .u8 0,.int .u8 0,.int .i64 0]) ?_ 1 _ rfl;(with_reducible repeat (first|refine au ?_ _|refine ay ?_|refine ak ?_ _));refine dB (cs:=#[.int .u8 0,.int .u8 0,.int .u8 0,.int .u8 0,.int .i64 0]) ?_ 0 _ rfl;(with_reducible repeat (first|refine au ?_ _|refine ay ?_|refine ak ?_ _));exact mQ.out) hb);have dE:=ae.mk (aQ (by repeat (first|(with_reducible first|exact HB.out|apply aj|apply af|apply ai|refine az ?_ mP.out|refine az ?_ BG.out)|exact HB.out)) hb);clear eF;clear mQ;clear HB;have eF:=di;have mQ:=dm;have HB:=dE;clear di dm dE;(try clear hb);(try clear hb2);(try clear hk);(try clear hi)))
                    go_roundg k2
                    case measure=>have:=nZ.out;have:=xB.out;omega
                    case rel=>exact ⟨(wrap64 (gW+1)),(by first|rfl|(simp;done)|(simp [*];done)),H',⟨by have:=nZ.out;have:=xB.out;omega⟩,⟨by (with_reducible repeat (first|refine au ?_ _|refine ay ?_|refine ak ?_ _));exact eF.out⟩,⟨by repeat (first|(with_reducible first|exact HB.out|apply aj|apply af|apply ai|refine az ?_ mP.out|refine az ?_ BG.out)|exact HB.out)⟩⟩
                  · replace c17:=Bool.eq_false_iff.mpr c17
                    subst c17
                    have H1:(some false)=some r:=by rw [if_neg (show ¬ (false=true) by decide)] at H;exact H
                    clear H
                    have H:=H1
                    clear H1
                    obtain rfl:=Option.some.inj H
                    have Iu:0≤(gW:Int):=of_decide_eq_true (by first|(with_reducible assumption)|assumption)
                    have Il:gW < (aW.length:Int):=of_decide_eq_true (by first|(with_reducible assumption)|assumption)
                    obtain ⟨yC,XU,uN,uM,uK,uJ,uI⟩:=wz ny.out gW Iu Il
                    cases XU
                    replace uN:=(HB.out.cell (World.block_lt_of_cell? w _ uN)).trans uN
                    replace uM:=(HB.out.cell (World.block_lt_of_cell? w _ uM)).trans uM
                    replace uK:=(HB.out.cell (World.block_lt_of_cell? w _ uK)).trans uK
                    replace uJ:=(HB.out.cell (World.block_lt_of_cell? w _ uJ)).trans uJ
                    replace uI:=(HB.out.cell (World.block_lt_of_cell? w _ uI)).trans uI
                    replace Iu:=eq_true Iu
                    replace Il:=eq_true Il
                    go_wp2_with (first|((with_reducible refine eQ (N:=6) rfl ?_);(try (refine mY (by rfl) ?_;dsimp only));refine fF ?hg (N:=6) ?hd (cs:=#[.int .u8 0,.int .u8 0,.int .u8 0,.int .u8 0,.int .i64 0]) (t:=27) ?hr ?_;(case hd=>rfl);(case hg=>rfl);(case hr=>first|(go_simp;done)|(go_simp;rfl));intro ou hg Oi hbox hb;have di:=ae.mk (aV (g:=iJ) (o:=.cells #[.slice dO bD.length dK,.string aY,.string aX,.slice (some yC) aW.length dJ] 25 (0,0)) (by (with_reducible repeat (first|refine au ?_ _|refine ay ?_|refine ak ?_ _));exact eF.out) hb);have dm:=ae.mk (aQ (by repeat (first|(with_reducible first|exact HB.out|apply aj|apply af|apply ai|refine az ?_ mP.out)|exact HB.out)) hb);have dE:=ae.mk (hbox);have gq:=ae.mk ((by rw [hg];exact (bn (by repeat (first|(with_reducible first|exact HB.out|apply aj|apply af|apply ai|refine az ?_ mP.out)|exact HB.out))):w.heap.size≤ou));have jC:=ae.mk ((by rw [hg];exact (bn (by repeat (first|(with_reducible first|exact HB.out|apply aj|apply af|apply ai|refine az ?_ mP.out)|exact HB.out))):w.heap.size≤ou));have lN:=ae.mk ((by rw [hg];exact Nat.ne_of_lt (gZ (g:=iJ) (o:=.cells #[.slice dO bD.length dK,.string aY,.string aX,.slice (some yC) aW.length dJ] 25 (0,0)) (by (with_reducible repeat (first|refine au ?_ _|refine ay ?_|refine ak ?_ _));exact eF.out)):iJ ≠ ou));have nC:=ae.mk ((by rw [hg];exact Nat.ne_of_gt (gZ (g:=iJ) (o:=.cells #[.slice dO bD.length dK,.string aY,.string aX,.slice (some yC) aW.length dJ] 25 (0,0)) (by (with_reducible repeat (first|refine au ?_ _|refine ay ?_|refine ak ?_ _));exact eF.out)):ou ≠ iJ));clear eF;clear HB;have eF:=di;have HB:=dm;have mQ:=dE;have aai:=gq;have BG:=jC;have kW:=lN;have yV:=nC;clear di dm dE gq jC lN nC;clear hb hbox hg;have YS:=yV.out;have YP:=kW.out;have KP:Oi.cell? ⟨ou,0,none⟩=some (.int .u8 0):=(ah mQ.out 0).trans rfl;have KO:Oi.cell? ⟨ou,1,none⟩=some (.int .u8 0):=(ah mQ.out 1).trans rfl;have KN:Oi.cell? ⟨ou,2,none⟩=some (.int .u8 0):=(ah mQ.out 2).trans rfl;have KL:Oi.cell? ⟨ou,3,none⟩=some (.int .u8 0):=(ah mQ.out 3).trans rfl;have UI:Oi.cell? ⟨ou,4,none⟩=some (.int .i64 0):=(ah mQ.out 4).trans rfl;have J6:=ax mQ.out 0;have J5:=ax mQ.out 1;have J4:=ax mQ.out 2;have J3:=ax mQ.out 3;have TI:=ax mQ.out 4)|((with_reducible refine bU (f:=11) rfl ?_);refine gy (some 30) rfl rfl Tryz.func11 (by kernel_rfl) rfl #[.agg #[.int .u8 ((aZ aW gW).f0),.int .u8 ((aZ aW gW).f1),.int .u8 ((aZ aW gW).f2),.int .u8 ((aZ aW gW).f3),.int .i64 ((aZ aW gW).f4)]] rfl (by (try simp only [List.map_toArray,List.map_cons,List.map_nil]);first|done|rfl|(simp only [List.length_drop,List.length_take];rfl)) ?_;(with_reducible refine (eu.calls ((aZ aW gW).f0) ((aZ aW gW).f1) ((aZ aW gW).f2) ((aZ aW gW).f3) ((aZ aW gW).f4) false _ ?fD Q9.out).mono ?_);(case fD=>exact Kd.dF ry.out (by repeat (first|(with_reducible first|exact HB.out|apply aj|apply af|apply ai|refine az ?_ mP.out|refine az ?_ BG.out)|exact HB.out)));rintro e rG ⟨rfl,hb⟩;refine ⟨_,rfl,?_⟩;have di:=ae.mk (aV (g:=iJ) (o:=.cells #[.slice dO bD.length dK,.string aY,.string aX,.slice (some yC) aW.length dJ] 25 (0,0)) (by (with_reducible repeat (first|refine au ?_ _|refine ay ?_|refine ak ?_ _));refine fC ?_ kW.out _;(with_reducible repeat (first|refine au ?_ _|refine ay ?_|refine ak ?_ _));refine fC ?_ kW.out _;(with_reducible repeat (first|refine au ?_ _|refine ay ?_|refine ak ?_ _));refine fC ?_ kW.out _;(with_reducible repeat (first|refine au ?_ _|refine ay ?_|refine ak ?_ _));refine fC ?_ kW.out _;(with_reducible repeat (first|refine au ?_ _|refine ay ?_|refine ak ?_ _));refine fC ?_ kW.out _;(with_reducible repeat (first|refine au ?_ _|refine ay ?_|refine ak ?_ _));exact eF.out) hb);have dm:=ae.mk (aV (g:=ou) (o:=.cells #[.int .u8 ((aZ aW gW).f0),.int .u8 ((aZ aW gW).f1),.int .u8 ((aZ aW gW).f2),.int .u8 ((aZ aW gW).f3),.int .i64 ((aZ aW gW).f4)] 27 (0,0)) (by (with_reducible repeat (first|refine au ?_ _|refine ay ?_|refine ak ?_ _));refine dB (cs:=#[.int .u8 ((aZ aW gW).f0),.int .u8 ((aZ aW gW).f1),.int .u8 ((aZ aW gW).f2),.int .u8 ((aZ aW gW).f3),.int .i64 0]) ?_ 4 _ rfl;(with_reducible repeat (first|refine au ?_ _|refine ay ?_|refine ak ?_ _));refine dB (cs:=#[.int .u8 ((aZ aW gW).f0),.int .u8 ((aZ aW gW).f1),.int .u8 ((aZ aW gW).f2),.int .u8 0,.int .i64 0]) ?_ 3 _ rfl;(with_reducible repeat (first|refine au ?_ _|refine ay ?_|refine ak ?_ _));refine dB (cs:=#[.int .u8 ((aZ aW gW).f0),.int .u8 ((aZ aW gW).f1),.int .u8 0,.int .u8 0,.int .i64 0]) ?_ 2 _ rfl;(with_reducible repeat (first|refine au ?_ _|refine ay ?_|refine ak ?_ _));refine dB (cs:=#[.int .u8 ((aZ aW gW).f0),.int .u8 0,.int .u8 0,.int .u8 0,.int .i64 0]) ?_ 1 _ rfl;(with_reducible repeat (first|refine au ?_ _|refine ay ?_|refine ak ?_ _));refine dB (cs:=#[.int .u8 0,.int .u8 0,.int .u8 0,.int .u8 0,.int .i64 0]) ?_ 0 _ rfl;(with_reducible repeat (first|refine au ?_ _|refine ay ?_|refine ak ?_ _));exact mQ.out) hb);have dE:=ae.mk (aQ (by repeat (first|(with_reducible first|exact HB.out|apply aj|apply af|apply ai|refine az ?_ mP.out|refine az ?_ BG.out)|exact HB.out)) hb);clear eF;clear mQ;clear HB;have eF:=di;have mQ:=dm;have HB:=dE;clear di dm dE;(try clear hb);(try clear hb2);(try clear hk);(try clear hi)))
                    go_ret
                    exact ⟨by first|rfl|(simp [bH,bG] <;> rfl)|(simp [*,bH,bG] <;> rfl),by repeat (first|(with_reducible first|exact HB.out|apply aj|apply af|apply ai|refine az ?_ mP.out|refine az ?_ BG.out)|exact HB.out)⟩
                · rw [if_neg c15] at H
                  exact absurd H (by simp)
              · rw [if_neg c14] at H
                exact absurd H (by simp)
            · rw [if_neg c13] at H
              have rZ:decide (gW < (aW.length:Int))=false:=decide_eq_false c13
              clear c13
              replace H:=Option.bind_eq_some_iff.mp H
              obtain ⟨t108,aat,H⟩:=H
              replace H:(if t108=true then ((gu.f aX).bind fun t109=>(if t109=true then (some (decide ((aW.length:Int)≤200))) else (some false))) else (some false))=some r:=H
              have A26:=ae.mk aat
              clear aat
              by_cases c27:t108=true
              · subst c27
                have H1:((gu.f aX).bind fun t109=>(if t109=true then (some (decide ((aW.length:Int)≤200))) else (some false)))=some r:=by rw [if_pos rfl] at H;exact H
                clear H
                have H:=H1
                clear H1
                replace H:=Option.bind_eq_some_iff.mp H
                obtain ⟨t109,aas,H⟩:=H
                replace H:(if t109=true then (some (decide ((aW.length:Int)≤200))) else (some false))=some r:=H
                have A28:=ae.mk aas
                clear aas
                by_cases c29:t109=true
                · subst c29
                  have H1:(some (decide ((aW.length:Int)≤200)))=some r:=by rw [if_pos rfl] at H;exact H
                  clear H
                  have H:=H1
                  clear H1
                  obtain rfl:=Option.some.inj H
                  have Uy:wr.cell? ⟨iJ,0,none⟩=some (.slice dO bD.length dK):=(ah eF.out 0).trans rfl
                  have Ux:wr.cell? ⟨iJ,1,none⟩=some (.string aY):=(ah eF.out 1).trans rfl
                  have Uw:wr.cell? ⟨iJ,2,none⟩=some (.string aX):=(ah eF.out 2).trans rfl
                  have Uu:wr.cell? ⟨iJ,3,none⟩=some (.slice dV aW.length dJ):=(ah eF.out 3).trans rfl
                  have Tu:=ax eF.out 0
                  have Tt:=ax eF.out 1
                  have Tq:=ax eF.out 2
                  have Tn:=ax eF.out 3
                  go_wp2_with (first|((with_reducible refine bU (f:=37) rfl ?_);refine gy (some 35) rfl rfl Tryz.func37 (by kernel_rfl) rfl #[.string aY] rfl (by (try simp only [List.map_toArray,List.map_cons,List.map_nil]);first|done|rfl|(simp only [List.length_drop,List.length_take];rfl)) ?_;(with_reducible refine (gu.calls aY true _ A26.out).mono ?_);rintro e Rw ⟨rfl,hb⟩;refine ⟨_,rfl,?_⟩;have di:=ae.mk (aV (g:=iJ) (o:=.cells #[.slice dO bD.length dK,.string aY,.string aX,.slice dV aW.length dJ] 25 (0,0)) (by (with_reducible repeat (first|refine au ?_ _|refine ay ?_|refine ak ?_ _));exact eF.out) hb);have dm:=ae.mk (aQ (by repeat (first|(with_reducible first|exact HB.out|apply aj|apply af|apply ai|refine az ?_ mP.out)|exact HB.out)) hb);clear eF;clear HB;have eF:=di;have HB:=dm;clear di dm;(try clear hb);(try clear hb2);(try clear hk);(try clear hi);have EO:Rw.cell? ⟨iJ,0,none⟩=some (.slice dO bD.length dK):=(ah eF.out 0).trans rfl;have EN:Rw.cell? ⟨iJ,1,none⟩=some (.string aY):=(ah eF.out 1).trans rfl;have EM:Rw.cell? ⟨iJ,2,none⟩=some (.string aX):=(ah eF.out 2).trans rfl;have EL:Rw.cell? ⟨iJ,3,none⟩=some (.slice dV aW.length dJ):=(ah eF.out 3).trans rfl;have EC:=ax eF.out 0;have Ez:=ax eF.out 1;have Ey:=ax eF.out 2;have Ew:=ax eF.out 3)|(go_at_call 37;(with_reducible refine (gu.calls aX true _ A28.out).mono ?_);rintro e Ru ⟨rfl,hb⟩;have di:=ae.mk (aV (g:=iJ) (o:=.cells #[.slice dO bD.length dK,.string aY,.string aX,.slice dV aW.length dJ] 25 (0,0)) (by (with_reducible repeat (first|refine au ?_ _|refine ay ?_|refine ak ?_ _));exact eF.out) hb);have dm:=ae.mk (aQ (by repeat (first|(with_reducible first|exact HB.out|apply aj|apply af|apply ai|refine az ?_ mP.out)|exact HB.out)) hb);clear eF;clear HB;have eF:=di;have HB:=dm;clear di dm;(try clear hb);(try clear hb2);(try clear hk);(try clear hi);have Ut:Ru.cell? ⟨iJ,0,none⟩=some (.slice dO bD.length dK):=(ah eF.out 0).trans rfl;have Us:Ru.cell? ⟨iJ,1,none⟩=some (.string aY):=(ah eF.out 1).trans rfl;have Ur:Ru.cell? ⟨iJ,2,none⟩=some (.string aX):=(ah eF.out 2).trans rfl;have Uo:Ru.cell? ⟨iJ,3,none⟩=some (.slice dV aW.length dJ):=(ah eF.out 3).trans rfl;have Tm:=ax eF.out 0;have Tj:=ax eF.out 1;have Ti:=ax eF.out 2;have Tf:=ax eF.out 3))
                  go_ret
                  exact ⟨by first|rfl|(simp [bH,bG] <;> rfl)|(simp [*,bH,bG] <;> rfl),by repeat (first|(with_reducible first|exact HB.out|apply aj|apply af|apply ai|refine az ?_ mP.out)|exact HB.out)⟩
                · replace c29:=Bool.eq_false_iff.mpr c29
                  subst c29
                  have H1:(some false)=some r:=by rw [if_neg (show ¬ (false=true) by decide)] at H;exact H
                  clear H
                  have H:=H1
                  clear H1
                  obtain rfl:=Option.some.inj H
                  have Un:wr.cell? ⟨iJ,0,none⟩=some (.slice dO bD.length dK):=(ah eF.out 0).trans rfl
                  have Um:wr.cell? ⟨iJ,1,none⟩=some (.string aY):=(ah eF.out 1).trans rfl
                  have Ul:wr.cell? ⟨iJ,2,none⟩=some (.string aX):=(ah eF.out 2).trans rfl
                  have Uk:wr.cell? ⟨iJ,3,none⟩=some (.slice dV aW.length dJ):=(ah eF.out 3).trans rfl
                  have Td:=ax eF.out 0
                  have Tc:=ax eF.out 1
                  have S9:=ax eF.out 2
                  have SY:=ax eF.out 3
                  go_wp2_with (first|((with_reducible refine bU (f:=37) rfl ?_);refine gy (some 35) rfl rfl Tryz.func37 (by kernel_rfl) rfl #[.string aY] rfl (by (try simp only [List.map_toArray,List.map_cons,List.map_nil]);first|done|rfl|(simp only [List.length_drop,List.length_take];rfl)) ?_;(with_reducible refine (gu.calls aY true _ A26.out).mono ?_);rintro e Yh ⟨rfl,hb⟩;refine ⟨_,rfl,?_⟩;have di:=ae.mk (aV (g:=iJ) (o:=.cells #[.slice dO bD.length dK,.string aY,.string aX,.slice dV aW.length dJ] 25 (0,0)) (by (with_reducible repeat (first|refine au ?_ _|refine ay ?_|refine ak ?_ _));exact eF.out) hb);have dm:=ae.mk (aQ (by repeat (first|(with_reducible first|exact HB.out|apply aj|apply af|apply ai|refine az ?_ mP.out)|exact HB.out)) hb);clear eF;clear HB;have eF:=di;have HB:=dm;clear di dm;(try clear hb);(try clear hb2);(try clear hk);(try clear hi);have aef:Yh.cell? ⟨iJ,0,none⟩=some (.slice dO bD.length dK):=(ah eF.out 0).trans rfl;have aee:Yh.cell? ⟨iJ,1,none⟩=some (.string aY):=(ah eF.out 1).trans rfl;have aed:Yh.cell? ⟨iJ,2,none⟩=some (.string aX):=(ah eF.out 2).trans rfl;have aec:Yh.cell? ⟨iJ,3,none⟩=some (.slice dV aW.length dJ):=(ah eF.out 3).trans rfl;have acN:=ax eF.out 0;have acM:=ax eF.out 1;have acL:=ax eF.out 2;have acK:=ax eF.out 3)|(go_at_call 37;(with_reducible refine (gu.calls aX false _ A28.out).mono ?_);rintro e Rh ⟨rfl,hb⟩;have di:=ae.mk (aV (g:=iJ) (o:=.cells #[.slice dO bD.length dK,.string aY,.string aX,.slice dV aW.length dJ] 25 (0,0)) (by (with_reducible repeat (first|refine au ?_ _|refine ay ?_|refine ak ?_ _));exact eF.out) hb);have dm:=ae.mk (aQ (by repeat (first|(with_reducible first|exact HB.out|apply aj|apply af|apply ai|refine az ?_ mP.out)|exact HB.out)) hb);clear eF;clear HB;have eF:=di;have HB:=dm;clear di dm;(try clear hb);(try clear hb2);(try clear hk);(try clear hi)))
                  go_ret
                  exact ⟨by first|rfl|(simp [bH,bG] <;> rfl)|(simp [*,bH,bG] <;> rfl),by repeat (first|(with_reducible first|exact HB.out|apply aj|apply af|apply ai|refine az ?_ mP.out)|exact HB.out)⟩
              · replace c27:=Bool.eq_false_iff.mpr c27
                subst c27
                have H1:(some false)=some r:=by rw [if_neg (show ¬ (false=true) by decide)] at H;exact H
                clear H
                have H:=H1
                clear H1
                obtain rfl:=Option.some.inj H
                have aeb:wr.cell? ⟨iJ,0,none⟩=some (.slice dO bD.length dK):=(ah eF.out 0).trans rfl
                have aea:wr.cell? ⟨iJ,1,none⟩=some (.string aY):=(ah eF.out 1).trans rfl
                have ad9:wr.cell? ⟨iJ,2,none⟩=some (.string aX):=(ah eF.out 2).trans rfl
                have ad8:wr.cell? ⟨iJ,3,none⟩=some (.slice dV aW.length dJ):=(ah eF.out 3).trans rfl
                have acJ:=ax eF.out 0
                have acI:=ax eF.out 1
                have acH:=ax eF.out 2
                have acG:=ax eF.out 3
                go_wp2_with (first|((with_reducible refine bU (f:=37) rfl ?_);refine gy (some 35) rfl rfl Tryz.func37 (by kernel_rfl) rfl #[.string aY] rfl (by (try simp only [List.map_toArray,List.map_cons,List.map_nil]);first|done|rfl|(simp only [List.length_drop,List.length_take];rfl)) ?_;(with_reducible refine (gu.calls aY false _ A26.out).mono ?_);rintro e w40 ⟨rfl,hb⟩;refine ⟨_,rfl,?_⟩;have di:=ae.mk (aV (g:=iJ) (o:=.cells #[.slice dO bD.length dK,.string aY,.string aX,.slice dV aW.length dJ] 25 (0,0)) (by (with_reducible repeat (first|refine au ?_ _|refine ay ?_|refine ak ?_ _));exact eF.out) hb);have dm:=ae.mk (aQ (by repeat (first|(with_reducible first|exact HB.out|apply aj|apply af|apply ai|refine az ?_ mP.out)|exact HB.out)) hb);clear eF;clear HB;have eF:=di;have HB:=dm;clear di dm;(try clear hb);(try clear hb2);(try clear hk);(try clear hi)))
                go_ret
                exact ⟨by first|rfl|(simp [bH,bG] <;> rfl)|(simp [*,bH,bG] <;> rfl),by repeat (first|(with_reducible first|exact HB.out|apply aj|apply af|apply ai|refine az ?_ mP.out)|exact HB.out)⟩
def mJ.f (a0:ByteArray):Option (ByteArray):=if a0.toList=([]:List UInt8) then (some (⟨#[45]⟩:ByteArray)) else (some a0)
set_option maxHeartbeats 8000000 in
set_option maxRecDepth 100000 in
theorem mJ.calls (a0:ByteArray) (r:ByteArray) (w:World) (h:mJ.f a0=some r) :
    Calls Tryz.prog 19 #[.string a0] w fun e w'=>e=.returned (.string r)∧bC w w':=by
  have H:(if a0.toList=([]:List UInt8) then (some (⟨#[45]⟩:ByteArray)) else (some a0))=some r:=h
  clear h
  by_cases c2:a0.toList=([]:List UInt8)
  · rw [if_pos c2] at H
    have sH:(a0.toList == ([]:List UInt8))=true:=beq_iff_eq.mpr c2
    have xO:(a0.toList != ([]:List UInt8))=false:=bne_eq_false_iff_eq.mpr c2
    clear c2
    obtain rfl:=Option.some.inj H
    go_enter Tryz.func19,Tryz.ntmps19
    go_wp2
    go_ret
    exact ⟨by first|rfl|(simp;done)|(simp [*];done),by repeat (first|exact bC.refl _|apply bC.step)⟩
  · rw [if_neg c2] at H
    have sH:(a0.toList == ([]:List UInt8))=false:=beq_eq_false_iff_ne.mpr c2
    have xO:(a0.toList != ([]:List UInt8))=true:=bne_iff_ne.mpr c2
    obtain rfl:=Option.some.inj H
    go_enter Tryz.func19,Tryz.ntmps19
    go_wp2
    go_ret
    exact ⟨by first|rfl|(simp;done)|(simp [*];done),by repeat (first|exact bC.refl _|apply bC.step)⟩
end Go.Proofs.YtkclndkbccbhaaaGreatDoor.P
end
