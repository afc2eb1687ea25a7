/- Parts of the proof of CodeBack: what the functions that it reaches compute, and plain facts about that. -/
import Derived.Test.YtkclndkbccbhaaaDoorVac
import Derived.Test.YtkclndkbccbhaaaDoorVad
set_option linter.unusedVariables false
set_option linter.unusedSimpArgs false
section
namespace Go.Proofs.YtkclndkbccbhaaaDoor.P
open Go.RowKit Go.Proofs.ay.bY Go.Proofs.ay.fJ Go.Proofs.ay.gG
attribute [local go_sem] nS nP pR pO mi mg nR nO
def fH.f (a0:ByteArray):Option (Bool):=if (a0.size:Int)≤30 then ((iL.f a0 (⟨#[97,98,99,100,101,102,103,104,105,106,107,108,109,110,111,112,113,114,115,116,117,118,119,120,121,122,48,49,50,51,52,53,54,55,56,57]⟩:ByteArray)).bind fun t101=>(some (t101.toList == ([]:List UInt8)))) else (some false)
set_option maxHeartbeats 8000000 in
set_option maxRecDepth 100000 in
theorem fH.calls (a0:ByteArray) (r:Bool) (w:World) (h:fH.f a0=some r) :
    Calls Tryd.prog 23 #[.string a0] w fun e w'=>e=.returned (.bool r)∧Below w.heap.size w w':=by
  have HB:=af.mk (Below.refl w.heap.size w)
  have H:(if (a0.size:Int)≤30 then ((iL.f a0 (⟨#[97,98,99,100,101,102,103,104,105,106,107,108,109,110,111,112,113,114,115,116,117,118,119,120,121,122,48,49,50,51,52,53,54,55,56,57]⟩:ByteArray)).bind fun t101=>(some (t101.toList == ([]:List UInt8)))) else (some false))=some r:=h
  clear h
  by_cases c2:(a0.size:Int)≤30
  · rw [if_pos c2] at H
    have EC:decide ((a0.size:Int)≤30)=true:=decide_eq_true c2
    have Ez:decide (a0.size≤30)=true:=decide_eq_true (by omega)
    clear c2
    replace H:=Option.bind_eq_some_iff.mp H
    obtain ⟨t101,Ah,H⟩:=H
    replace H:(some (t101.toList == ([]:List UInt8)))=some r:=H
    have A3:=af.mk Ah
    clear Ah
    obtain rfl:=Option.some.inj H
    go_enter Tryd.func23,Tryd.ntmps23
    go_wp2_with (first|(go_at_call 35;(with_reducible refine (iL.calls a0 (⟨#[97,98,99,100,101,102,103,104,105,106,107,108,109,110,111,112,113,114,115,116,117,118,119,120,121,122,48,49,50,51,52,53,54,55,56,57]⟩:ByteArray) t101 _ A3.out).mono ?_);rintro e w4 ⟨rfl,hb⟩;have dE:=af.mk (aI (by repeat (first|(with_reducible first|exact HB.out|apply ah|apply ae|apply ag)|exact HB.out)) hb);clear HB;have HB:=dE;clear dE;(try clear hb);(try clear hb2);(try clear hk);(try clear hi)))
    go_ret
    exact ⟨by first|rfl|(simp [bT,bQ] <;> rfl)|(simp [*,bT,bQ] <;> rfl),by repeat (first|(with_reducible first|exact HB.out|apply ah|apply ae|apply ag)|exact HB.out)⟩
  · rw [if_neg c2] at H
    have EC:decide ((a0.size:Int)≤30)=false:=decide_eq_false c2
    have Ez:decide (a0.size≤30)=false:=decide_eq_false (by omega)
    clear c2
    obtain rfl:=Option.some.inj H
    go_enter Tryd.func23,Tryd.ntmps23
    go_wp2
    go_ret
    exact ⟨by first|rfl|(simp [bT,bQ] <;> rfl)|(simp [*,bT,bQ] <;> rfl),by repeat (first|(with_reducible first|exact HB.out|apply ah|apply ae|apply ag)|exact HB.out)⟩
mutual
def dR.l0:Nat→List ByteArray→Int→Int→List ByteArray→ByteArray→ByteArray→List (iZ)→Option (Bool)
  | 0,_,_,_,_,_,_,_=>none
  | k+1,x8,x9,x10,yu,vW,vU,qN=>if x10 < x9 then (if 0≤x10 then (if x10 < (x8.length:Int) then (if (iD ByteArray.empty x8 x10).toList=([]:List UInt8) then (some false) else ((fH.f (iD ByteArray.empty x8 x10)).bind fun t104=>(if t104=true then (dR.l0 k x8 x9 (wrap64 (x10+1)) yu vW vU qN) else (some false)))) else (none)) else (none)) else (dR.l1 k qN (qN.length:Int) 0 yu vW vU qN)
def dR.l1:Nat→List (iZ)→Int→Int→List ByteArray→ByteArray→ByteArray→List (iZ)→Option (Bool)
  | 0,_,_,_,_,_,_,_=>none
  | k+1,Vb,x24,x25,yu,vW,vU,qN=>if x25 < x24 then (if 0≤x25 then (if x25 < (Vb.length:Int) then ((fO.f ((aN Vb x25).f0) ((aN Vb x25).f1) ((aN Vb x25).f2) ((aN Vb x25).f3) ((aN Vb x25).f4)).bind fun t107=>(if t107=true then (dR.l1 k Vb x24 (wrap64 (x25+1)) yu vW vU qN) else (some false))) else (none)) else (none)) else ((fH.f vW).bind fun t108=>(if t108=true then ((fH.f vU).bind fun t109=>(if t109=true then (some (decide ((qN.length:Int)≤200))) else (some false))) else (some false)))
end
def dR.f (k:Nat) (bn:List ByteArray) (bF:ByteArray) (bD:ByteArray) (aU:List (iZ)):Option (Bool):=dR.l0 k bn (bn.length:Int) 0 bn bF bD aU
theorem dR.kZ:∀ k,(∀ y0 y1 y2 y3 y4 y5 y6,gQ (dR.l0 k y0 y1 y2 y3 y4 y5 y6) (dR.l0 (k+1) y0 y1 y2 y3 y4 y5 y6))∧(∀ y0 y1 y2 y3 y4 y5 y6,gQ (dR.l1 k y0 y1 y2 y3 y4 y5 y6) (dR.l1 (k+1) y0 y1 y2 y3 y4 y5 y6))
  | 0=>⟨fun _ _ _ _ _ _ _ r h=>by simp [dR.l0] at h,fun _ _ _ _ _ _ _ r h=>by simp [dR.l1] at h⟩
  | k+1=>by
    obtain ⟨o8,ih1⟩:=dR.kZ k
    refine ⟨?_,?_⟩
    · intro y0 y1 y2 y3 y4 y5 y6
      unfold dR.l0
      repeat' first
      | (with_reducible exact o8 _ _ _ _ _ _ _)
      | (with_reducible exact ih1 _ _ _ _ _ _ _)
      | (with_reducible exact gQ.refl _)
      | (with_reducible exact gQ.none _)
      | (with_reducible refine gQ.ite ?_ ?_)
      | (with_reducible refine gQ.bind ?_ (fun _=>?_))
      | exact o8 _ _ _ _ _ _ _
      | exact ih1 _ _ _ _ _ _ _
      | exact gQ.none _
      | refine gQ.ite ?_ ?_
      | refine gQ.bind ?_ (fun _=>?_)
    · intro y0 y1 y2 y3 y4 y5 y6
      unfold dR.l1
      repeat' first
      | (with_reducible exact o8 _ _ _ _ _ _ _)
      | (with_reducible exact ih1 _ _ _ _ _ _ _)
      | (with_reducible exact gQ.refl _)
      | (with_reducible exact gQ.none _)
      | (with_reducible refine gQ.ite ?_ ?_)
      | (with_reducible refine gQ.bind ?_ (fun _=>?_))
      | exact o8 _ _ _ _ _ _ _
      | exact ih1 _ _ _ _ _ _ _
      | exact gQ.none _
      | refine gQ.ite ?_ ?_
      | refine gQ.bind ?_ (fun _=>?_)
theorem dR.mono:∀ a0 a1 a2 a3 k,gQ (dR.f k a0 a1 a2 a3) (dR.f (k+1) a0 a1 a2 a3):=by
  intro a0 a1 a2 a3 k
  obtain ⟨o8,ih1⟩:=dR.kZ k
  unfold dR.f
  repeat' first
      | (with_reducible exact o8 _ _ _ _ _ _ _)
      | (with_reducible exact ih1 _ _ _ _ _ _ _)
      | (with_reducible exact gQ.refl _)
      | (with_reducible exact gQ.none _)
      | (with_reducible refine gQ.ite ?_ ?_)
      | (with_reducible refine gQ.bind ?_ (fun _=>?_))
      | exact o8 _ _ _ _ _ _ _
      | exact ih1 _ _ _ _ _ _ _
      | exact gQ.none _
      | refine gQ.ite ?_ ?_
      | refine gQ.bind ?_ (fun _=>?_)
set_option maxHeartbeats 8000000 in
set_option maxRecDepth 100000 in
theorem dR.calls (k:Nat) (dN:Option Addr) (dM:Nat) (bn:List ByteArray) (bF:ByteArray) (bD:ByteArray) (dV:Option Addr) (dL:Nat) (aU:List (iZ)) (r:Bool) (w:World) (pX:Kd.C Kd.string w dN bn.length bn) (qc:bn.length≤dM) (pW:Kd.C sG w dV aU.length aU) (pY:aU.length≤dL) (jC:Kd.C sQ w sS kX.length kX) (h:dR.f k bn bF bD aU=some r) :
    Calls Tryd.prog 12 #[.agg #[.slice dN bn.length dM,.string bF,.string bD,.slice dV aU.length dL]] w fun e w'=>e=.returned (.bool r)∧Below w.heap.size w w':=by
  have Nc:=Tryd.underlying25
  have Vy:=Tryd.underlying35
  have kF:=af.mk pX
  have ny:=af.mk qc
  clear pX qc
  have kU:=af.mk pW
  have ni:=af.mk pY
  clear pW pY
  have lu:=af.mk jC
  clear jC
  have HB:=af.mk (Below.refl w.heap.size w)
  have H:(dR.l0 k bn (bn.length:Int) 0 bn bF bD aU)=some r:=h
  clear h
  have H':=af.mk H
  clear H
  go_enter Tryd.func12,Tryd.ntmps12
  go_wp2_with (first|((with_reducible refine dX (N:=1) rfl ?_);(try (refine fF (by rfl) ?_;dsimp only));refine eG ?hg (N:=1) ?hd (cs:=#[.slice dN bn.length dM,.string bF,.string bD,.slice dV aU.length dL]) (t:=25) ?hr ?_;(case hd=>rfl);(case hg=>rfl);(case hr=>first|(go_simp;done)|(go_simp;rfl));intro ig hg w2 hbox hb;have dE:=af.mk (aI (by repeat (first|(with_reducible first|exact HB.out|apply ah|apply ae|apply ag)|exact HB.out)) hb);have dG:=af.mk (hbox);have dH:=af.mk ((by rw [hg];exact (aC (by repeat (first|(with_reducible first|exact HB.out|apply ah|apply ae|apply ag)|exact HB.out))):w.heap.size≤ig));have eX:=af.mk ((by rw [hg];exact (aC (by repeat (first|(with_reducible first|exact HB.out|apply ah|apply ae|apply ag)|exact HB.out))):w.heap.size≤ig));clear HB;have HB:=dE;have dY:=dG;have ahX:=dH;have ku:=eX;clear dE dG dH eX;clear hb hbox hg;have DN:w2.cell? ⟨ig,0,none⟩=some (.slice dN bn.length dM):=(ax dY.out 0).trans rfl;have DL:w2.cell? ⟨ig,1,none⟩=some (.string bF):=(ax dY.out 1).trans rfl;have DK:w2.cell? ⟨ig,2,none⟩=some (.string bD):=(ax dY.out 2).trans rfl;have DJ:w2.cell? ⟨ig,3,none⟩=some (.slice dV aU.length dL):=(ax dY.out 3).trans rfl;have CX:=ai dY.out 0;have CW:=ai dY.out 1;have CV:=ai dY.out 2;have CU:=ai dY.out 3))
  go_loopg [10] k (fun kq v10 w'=>∃ (jO:Int),v10=.int .i64 jO∧af (dR.l0 kq bn (bn.length:Int) jO bn bF bD aU=some r)∧af (kq≤k)∧af (w'.heap[ig]? = some (.cells #[(.slice dN bn.length dM),.string bF,.string bD,(.slice dV aU.length dL)] 25 (0,0)))∧af (Below w.heap.size w w'))
  case atStart=>exact ⟨(0),(by first|rfl|(simp;done)|(simp [*];done)),H',⟨Nat.le_refl _⟩,⟨by (with_reducible repeat (first|refine ak ?_ _|refine az ?_|refine au ?_ _));exact dY.out⟩,⟨by repeat (first|(with_reducible first|exact HB.out|apply ah|apply ae|apply ag|refine aj ?_ ku.out)|exact HB.out)⟩⟩
  case round =>
    clear H'
    try clear c1
    try clear p2
    try clear DN
    try clear DL
    try clear DK
    try clear DJ
    try clear CX
    try clear CW
    try clear CV
    try clear CU
    obtain ⟨jO,rfl,HA,AA,dY,HB⟩:=hrel
    cases gk with
    | zero=>exact absurd HA.out (by simp [dR.l0])
    | succ k1 =>
      have H:=HA.out
      clear HA
      simp only [dR.l0] at H
      by_cases c4:jO < (bn.length:Int)
      · rw [if_pos c4] at H
        have Lh:decide (jO < (bn.length:Int))=true:=decide_eq_true c4
        clear c4
        by_cases c5:0≤jO
        · rw [if_pos c5] at H
          have OX:decide (0≤jO)=true:=decide_eq_true c5
          clear c5
          by_cases c6:jO < (bn.length:Int)
          · rw [if_pos c6] at H
            have sJ:decide (jO < (bn.length:Int))=true:=decide_eq_true c6
            clear c6
            by_cases c7:(iD ByteArray.empty bn jO).toList=([]:List UInt8)
            · rw [if_pos c7] at H
              have xE:((iD ByteArray.empty bn jO).toList == ([]:List UInt8))=true:=beq_iff_eq.mpr c7
              have Ey:((iD ByteArray.empty bn jO).toList != ([]:List UInt8))=false:=bne_eq_false_iff_eq.mpr c7
              clear c7
              obtain rfl:=Option.some.inj H
              have xZ:0≤(jO:Int):=of_decide_eq_true (by first|(with_reducible assumption)|assumption)
              have xY:jO < (bn.length:Int):=of_decide_eq_true (by first|(with_reducible assumption)|assumption)
              obtain ⟨JK,OG,lU⟩:=Kd.ik kF.out jO xZ xY
              cases OG
              replace lU:=(HB.out.cell (World.block_lt_of_cell? w _ lU)).trans lU
              replace xZ:=eq_true xZ
              replace xY:=eq_true xY
              go_wp2
              go_ret
              exact ⟨by first|rfl|(simp [bT,bQ] <;> rfl)|(simp [*,bT,bQ] <;> rfl),by repeat (first|(with_reducible first|exact HB.out|apply ah|apply ae|apply ag|refine aj ?_ ku.out)|exact HB.out)⟩
            · rw [if_neg c7] at H
              have xE:((iD ByteArray.empty bn jO).toList == ([]:List UInt8))=false:=beq_eq_false_iff_ne.mpr c7
              have Ey:((iD ByteArray.empty bn jO).toList != ([]:List UInt8))=true:=bne_iff_ne.mpr c7
              replace H:=Option.bind_eq_some_iff.mp H
              obtain ⟨t104,A80,H⟩:=H
              replace H:(if t104=true then (dR.l0 k1 bn (bn.length:Int) (wrap64 (jO+1)) bn bF bD aU) else (some false))=some r:=H
              have A8:=af.mk A80
              clear A80
              by_cases c9:t104=true
              · subst c9
                have H1:(dR.l0 k1 bn (bn.length:Int) (wrap64 (jO+1)) bn bF bD aU)=some r:=by rw [if_pos rfl] at H;exact H
                clear H
                have H:=H1
                clear H1
                have H':=af.mk H
                clear H
                have xZ:0≤(jO:Int):=of_decide_eq_true (by first|(with_reducible assumption)|assumption)
                have xY:jO < (bn.length:Int):=of_decide_eq_true (by first|(with_reducible assumption)|assumption)
                obtain ⟨JK,OG,lU⟩:=Kd.ik kF.out jO xZ xY
                cases OG
                replace lU:=(HB.out.cell (World.block_lt_of_cell? w _ lU)).trans lU
                replace xZ:=eq_true xZ
                replace xY:=eq_true xY
                go_wp2_with (first|(go_at_call 23;(with_reducible refine (fH.calls (iD ByteArray.empty bn jO) true _ A8.out).mono ?_);rintro e w10 ⟨rfl,hb⟩;have dE:=af.mk (aQ (g:=ig) (o:=.cells #[.slice (some JK) bn.length dM,.string bF,.string bD,.slice dV aU.length dL] 25 (0,0)) (by (with_reducible repeat (first|refine ak ?_ _|refine az ?_|refine au ?_ _));exact dY.out) hb);have dG:=af.mk (aI (by repeat (first|(with_reducible first|exact HB.out|apply ah|apply ae|apply ag|refine aj ?_ ku.out)|exact HB.out)) hb);clear dY;clear HB;have dY:=dE;have HB:=dG;clear dE dG;(try clear hb);(try clear hb2);(try clear hk);(try clear hi)))
                go_roundg k1
                case measure=>have:=AA.out;omega
                case rel=>exact ⟨(wrap64 (jO+1)),(by first|rfl|(simp;done)|(simp [*];done)),H',⟨by have:=AA.out;omega⟩,⟨by (with_reducible repeat (first|refine ak ?_ _|refine az ?_|refine au ?_ _));exact dY.out⟩,⟨by repeat (first|(with_reducible first|exact HB.out|apply ah|apply ae|apply ag|refine aj ?_ ku.out)|exact HB.out)⟩⟩
              · replace c9:=Bool.eq_false_iff.mpr c9
                subst c9
                have H1:(some false)=some r:=by rw [if_neg (show ¬ (false=true) by decide)] at H;exact H
                clear H
                have H:=H1
                clear H1
                obtain rfl:=Option.some.inj H
                have xZ:0≤(jO:Int):=of_decide_eq_true (by first|(with_reducible assumption)|assumption)
                have xY:jO < (bn.length:Int):=of_decide_eq_true (by first|(with_reducible assumption)|assumption)
                obtain ⟨JK,OG,lU⟩:=Kd.ik kF.out jO xZ xY
                cases OG
                replace lU:=(HB.out.cell (World.block_lt_of_cell? w _ lU)).trans lU
                replace xZ:=eq_true xZ
                replace xY:=eq_true xY
                go_wp2_with (first|(go_at_call 23;(with_reducible refine (fH.calls (iD ByteArray.empty bn jO) false _ A8.out).mono ?_);rintro e w11 ⟨rfl,hb⟩;have dE:=af.mk (aQ (g:=ig) (o:=.cells #[.slice (some JK) bn.length dM,.string bF,.string bD,.slice dV aU.length dL] 25 (0,0)) (by (with_reducible repeat (first|refine ak ?_ _|refine az ?_|refine au ?_ _));exact dY.out) hb);have dG:=af.mk (aI (by repeat (first|(with_reducible first|exact HB.out|apply ah|apply ae|apply ag|refine aj ?_ ku.out)|exact HB.out)) hb);clear dY;clear HB;have dY:=dE;have HB:=dG;clear dE dG;(try clear hb);(try clear hb2);(try clear hk);(try clear hi)))
                go_ret
                exact ⟨by first|rfl|(simp [bT,bQ] <;> rfl)|(simp [*,bT,bQ] <;> rfl),by repeat (first|(with_reducible first|exact HB.out|apply ah|apply ae|apply ag|refine aj ?_ ku.out)|exact HB.out)⟩
          · rw [if_neg c6] at H
            exact absurd H (by simp)
        · rw [if_neg c5] at H
          exact absurd H (by simp)
      · rw [if_neg c4] at H
        have Lh:decide (jO < (bn.length:Int))=false:=decide_eq_false c4
        clear c4
        have H':=af.mk H
        clear H
        have TJ:wr.cell? ⟨ig,0,none⟩=some (.slice dN bn.length dM):=(ax dY.out 0).trans rfl
        have TI:wr.cell? ⟨ig,1,none⟩=some (.string bF):=(ax dY.out 1).trans rfl
        have TG:wr.cell? ⟨ig,2,none⟩=some (.string bD):=(ax dY.out 2).trans rfl
        have TF:wr.cell? ⟨ig,3,none⟩=some (.slice dV aU.length dL):=(ax dY.out 3).trans rfl
        have RS:=ai dY.out 0
        have RQ:=ai dY.out 1
        have RP:=ai dY.out 2
        have RN:=ai dY.out 3
        go_wp2
        go_loopg [25] k1 (fun kq v25 w'=>∃ (fQ:Int),v25=.int .i64 fQ∧af (dR.l1 kq aU (aU.length:Int) fQ bn bF bD aU=some r)∧af (kq≤k1)∧af (w'.heap[ig]? = some (.cells #[(.slice dN bn.length dM),.string bF,.string bD,(.slice dV aU.length dL)] 25 (0,0)))∧af (Below w.heap.size w w'))
        case atStart=>exact ⟨(0),(by first|rfl|(simp;done)|(simp [*];done)),H',⟨Nat.le_refl _⟩,⟨by (with_reducible repeat (first|refine ak ?_ _|refine az ?_|refine au ?_ _));exact dY.out⟩,⟨by repeat (first|(with_reducible first|exact HB.out|apply ah|apply ae|apply ag|refine aj ?_ ku.out)|exact HB.out)⟩⟩
        case round =>
          clear H'
          try clear c1
          try clear p1
          try clear q1
          try clear hx1
          try clear p2
          try clear c4
          try clear Lh
          try clear c5
          try clear OX
          try clear c6
          try clear sJ
          try clear p6
          try clear c7
          try clear xE
          try clear Ey
          try clear c9
          try clear p10
          try clear q10
          try clear aiC
          try clear c12
          try clear TJ
          try clear TI
          try clear TG
          try clear TF
          try clear DN
          try clear DL
          try clear DK
          try clear DJ
          try clear RS
          try clear RQ
          try clear RP
          try clear RN
          try clear CX
          try clear CW
          try clear CV
          try clear CU
          try clear lU
          try clear xZ
          try clear p2
          try clear xY
          obtain ⟨fQ,rfl,HA,EK,dY,HB⟩:=hrel
          cases gk with
          | zero=>exact absurd HA.out (by simp [dR.l1])
          | succ k2 =>
            have H:=HA.out
            clear HA
            simp only [dR.l1] at H
            by_cases c13:fQ < (aU.length:Int)
            · rw [if_pos c13] at H
              have Zj:decide (fQ < (aU.length:Int))=true:=decide_eq_true c13
              clear c13
              by_cases c14:0≤fQ
              · rw [if_pos c14] at H
                have UZ:decide (0≤fQ)=true:=decide_eq_true c14
                clear c14
                by_cases c15:fQ < (aU.length:Int)
                · rw [if_pos c15] at H
                  have Zi:decide (fQ < (aU.length:Int))=true:=decide_eq_true c15
                  clear c15
                  replace H:=Option.bind_eq_some_iff.mp H
                  obtain ⟨t107,PO,H⟩:=H
                  replace H:(if t107=true then (dR.l1 k2 aU (aU.length:Int) (wrap64 (fQ+1)) bn bF bD aU) else (some false))=some r:=H
                  have A16:=af.mk PO
                  clear PO
                  by_cases c17:t107=true
                  · subst c17
                    have H1:(dR.l1 k2 aU (aU.length:Int) (wrap64 (fQ+1)) bn bF bD aU)=some r:=by rw [if_pos rfl] at H;exact H
                    clear H
                    have H:=H1
                    clear H1
                    have H':=af.mk H
                    clear H
                    have Ho:0≤(fQ:Int):=of_decide_eq_true (by first|(with_reducible assumption)|assumption)
                    have He:fQ < (aU.length:Int):=of_decide_eq_true (by first|(with_reducible assumption)|assumption)
                    obtain ⟨wV,VP,rP,rO,rM,rJ,rH⟩:=lI kU.out fQ Ho He
                    cases VP
                    replace rP:=(HB.out.cell (World.block_lt_of_cell? w _ rP)).trans rP
                    replace rO:=(HB.out.cell (World.block_lt_of_cell? w _ rO)).trans rO
                    replace rM:=(HB.out.cell (World.block_lt_of_cell? w _ rM)).trans rM
                    replace rJ:=(HB.out.cell (World.block_lt_of_cell? w _ rJ)).trans rJ
                    replace rH:=(HB.out.cell (World.block_lt_of_cell? w _ rH)).trans rH
                    replace Ho:=eq_true Ho
                    replace He:=eq_true He
                    go_wp2_with (first|((with_reducible refine dX (N:=6) rfl ?_);(try (refine fF (by rfl) ?_;dsimp only));refine eG ?hg (N:=6) ?hd (cs:=#[.int .u8 0,.int .u8 0,.int .u8 0,.int .u8 0,.int .i64 0]) (t:=35) ?hr ?_;(case hd=>rfl);(case hg=>rfl);(case hr=>first|(go_simp;done)|(go_simp;rfl));intro lM hg WN hbox hb;have dE:=af.mk (aQ (g:=ig) (o:=.cells #[.slice dN bn.length dM,.string bF,.string bD,.slice (some wV) aU.length dL] 25 (0,0)) (by (with_reducible repeat (first|refine ak ?_ _|refine az ?_|refine au ?_ _));exact dY.out) hb);have dG:=af.mk (aI (by repeat (first|(with_reducible first|exact HB.out|apply ah|apply ae|apply ag|refine aj ?_ ku.out)|exact HB.out)) hb);have dH:=af.mk (hbox);have eX:=af.mk ((by rw [hg];exact (aC (by repeat (first|(with_reducible first|exact HB.out|apply ah|apply ae|apply ag|refine aj ?_ ku.out)|exact HB.out))):w.heap.size≤lM));have gB:=af.mk ((by rw [hg];exact (aC (by repeat (first|(with_reducible first|exact HB.out|apply ah|apply ae|apply ag|refine aj ?_ ku.out)|exact HB.out))):w.heap.size≤lM));have iH:=af.mk ((by rw [hg];exact Nat.ne_of_lt (fG (g:=ig) (o:=.cells #[.slice dN bn.length dM,.string bF,.string bD,.slice (some wV) aU.length dL] 25 (0,0)) (by (with_reducible repeat (first|refine ak ?_ _|refine az ?_|refine au ?_ _));exact dY.out)):ig ≠ lM));have kL:=af.mk ((by rw [hg];exact Nat.ne_of_gt (fG (g:=ig) (o:=.cells #[.slice dN bn.length dM,.string bF,.string bD,.slice (some wV) aU.length dL] 25 (0,0)) (by (with_reducible repeat (first|refine ak ?_ _|refine az ?_|refine au ?_ _));exact dY.out)):lM ≠ ig));clear dY;clear HB;have dY:=dE;have HB:=dG;have kC:=dH;have aaf:=eX;have zX:=gB;have jI:=iH;have xH:=kL;clear dE dG dH eX gB iH kL;clear hb hbox hg;have ahr:=xH.out;have agY:=jI.out;have yK:WN.cell? ⟨lM,0,none⟩=some (.int .u8 0):=(ax kC.out 0).trans rfl;have yJ:WN.cell? ⟨lM,1,none⟩=some (.int .u8 0):=(ax kC.out 1).trans rfl;have yI:WN.cell? ⟨lM,2,none⟩=some (.int .u8 0):=(ax kC.out 2).trans rfl;have yH:WN.cell? ⟨lM,3,none⟩=some (.int .u8 0):=(ax kC.out 3).trans rfl;have aeP:WN.cell? ⟨lM,4,none⟩=some (.int .i64 0):=(ax kC.out 4).trans rfl;have yC:=ai kC.out 0;have yB:=ai kC.out 1;have yA:=ai kC.out 2;have yz:=ai kC.out 3;have acM:=ai kC.out 4)|((with_reducible refine bG (f:=11) rfl ?_);refine eP (some 30) rfl rfl Tryd.func11 (by kernel_rfl) rfl #[.agg #[.int .u8 ((aN aU fQ).f0),.int .u8 ((aN aU fQ).f1),.int .u8 ((aN aU fQ).f2),.int .u8 ((aN aU fQ).f3),.int .i64 ((aN aU fQ).f4)]] rfl (by (try simp only [List.map_toArray,List.map_cons,List.map_nil]);first|done|rfl|(simp only [List.length_drop,List.length_take];rfl)) ?_;(with_reducible refine (fO.calls ((aN aU fQ).f0) ((aN aU fQ).f1) ((aN aU fQ).f2) ((aN aU fQ).f3) ((aN aU fQ).f4) true _ ?di A16.out).mono ?_);(case di=>exact Kd.bP lu.out (by repeat (first|(with_reducible first|exact HB.out|apply ah|apply ae|apply ag|refine aj ?_ ku.out|refine aj ?_ zX.out)|exact HB.out)));rintro e WM ⟨rfl,hb⟩;refine ⟨_,rfl,?_⟩;have dE:=af.mk (aQ (g:=ig) (o:=.cells #[.slice dN bn.length dM,.string bF,.string bD,.slice (some wV) aU.length dL] 25 (0,0)) (by (with_reducible repeat (first|refine ak ?_ _|refine az ?_|refine au ?_ _));refine fD ?_ jI.out _;(with_reducible repeat (first|refine ak ?_ _|refine az ?_|refine au ?_ _));refine fD ?_ jI.out _;(with_reducible repeat (first|refine ak ?_ _|refine az ?_|refine au ?_ _));refine fD ?_ jI.out _;(with_reducible repeat (first|refine ak ?_ _|refine az ?_|refine au ?_ _));refine fD ?_ jI.out _;(with_reducible repeat (first|refine ak ?_ _|refine az ?_|refine au ?_ _));refine fD ?_ jI.out _;(with_reducible repeat (first|refine ak ?_ _|refine az ?_|refine au ?_ _));exact dY.out) hb);have dG:=af.mk (aQ (g:=lM) (o:=.cells #[.int .u8 ((aN aU fQ).f0),.int .u8 ((aN aU fQ).f1),.int .u8 ((aN aU fQ).f2),.int .u8 ((aN aU fQ).f3),.int .i64 ((aN aU fQ).f4)] 35 (0,0)) (by (with_reducible repeat (first|refine ak ?_ _|refine az ?_|refine au ?_ _));refine dF (cs:=#[.int .u8 ((aN aU fQ).f0),.int .u8 ((aN aU fQ).f1),.int .u8 ((aN aU fQ).f2),.int .u8 ((aN aU fQ).f3),.int .i64 0]) ?_ 4 _ rfl;(with_reducible repeat (first|refine ak ?_ _|refine az ?_|refine au ?_ _));refine dF (cs:=#[.int .u8 ((aN aU fQ).f0),.int .u8 ((aN aU fQ).f1),.int .u8 ((aN aU fQ).f2),.int .u8 0,.int .i64 0]) ?_ 3 _ rfl;(with_reducible repeat (first|refine ak ?_ _|refine az ?_|refine au ?_ _));refine dF (cs:=#[.int .u8 ((aN aU fQ).f0),.int .u8 ((aN aU fQ).f1),.int .u8 0,.int .u8 0,.int .i64 0]) ?_ 2 _ rfl;(with_reducible repeat (first|refine ak ?_ _|refine az ?_|refine au ?_ _));refine dF (cs:=#[.int .u8 ((aN aU fQ).f0),.int .u8 0,.int .u8 0,.int .u8 0,.int .i64 0]) ?_ 1 _ rfl;(with_reducible repeat (first|refine ak ?_ _|refine az ?_|refine au ?_ _));refine dF (cs:=#[.int .u8 0,.int .u8 0,.int .u8 0,.int .u8 0,.int .i64 0]) ?_ 0 _ rfl;(with_reducible repeat (first|refine ak ?_ _|refine az ?_|refine au ?_ _));exact kC.out) hb);have dH:=af.mk (aI (by repeat (first|(with_reducible first|exact HB.out|apply ah|apply ae|apply ag|refine aj ?_ ku.out|refine aj ?_ zX.out)|exact HB.out)) hb);clear dY;clear kC;clear HB;have dY:=dE;have kC:=dG;have HB:=dH;clear dE dG dH;(try clear hb);(try clear hb2);(try clear hk);(try clear hi)))
                    go_roundg k2
                    case measure=>have:=AA.out;have:=EK.out;omega
                    case rel=>exact ⟨(wrap64 (fQ+1)),(by first|rfl|(simp;done)|(simp [*];done)),H',⟨by have:=AA.out;have:=EK.out;omega⟩,⟨by (with_reducible repeat (first|refine ak ?_ _|refine az ?_|refine au ?_ _));exact dY.out⟩,⟨by repeat (first|(with_reducible first|exact HB.out|apply ah|apply ae|apply ag|refine aj ?_ ku.out|refine aj ?_ zX.out)|exact HB.out)⟩⟩
                  · replace c17:=Bool.eq_false_iff.mpr c17
                    subst c17
                    have H1:(some false)=some r:=by rw [if_neg (show ¬ (false=true) by decide)] at H;exact H
                    clear H
                    have H:=H1
                    clear H1
                    obtain rfl:=Option.some.inj H
                    have Ho:0≤(fQ:Int):=of_decide_eq_true (by first|(with_reducible assumption)|assumption)
                    have He:fQ < (aU.length:Int):=of_decide_eq_true (by first|(with_reducible assumption)|assumption)
                    obtain ⟨wV,VP,rP,rO,rM,rJ,rH⟩:=lI kU.out fQ Ho He
                    cases VP
                    replace rP:=(HB.out.cell (World.block_lt_of_cell? w _ rP)).trans rP
                    replace rO:=(HB.out.cell (World.block_lt_of_cell? w _ rO)).trans rO
                    replace rM:=(HB.out.cell (World.block_lt_of_cell? w _ rM)).trans rM
                    replace rJ:=(HB.out.cell (World.block_lt_of_cell? w _ rJ)).trans rJ
                    replace rH:=(HB.out.cell (World.block_lt_of_cell? w _ rH)).trans rH
                    replace Ho:=eq_true Ho
                    replace He:=eq_true He
                    go_wp2_with (first|((with_reducible refine dX (N:=6) rfl ?_);(try (refine fF (by rfl) ?_;dsimp only));refine eG ?hg (N:=6) ?hd (cs:=#[.int .u8 0,.int .u8 0,.int .u8 0,.int .u8 0,.int .i64 0]) (t:=35) ?hr ?_;(case hd=>rfl);(case hg=>rfl);(case hr=>first|(go_simp;done)|(go_simp;rfl));intro lM hg Vd hbox hb;have dE:=af.mk (aQ (g:=ig) (o:=.cells #[.slice dN bn.length dM,.string bF,.string bD,.slice (some wV) aU.length dL] 25 (0,0)) (by (with_reducible repeat (first|refine ak ?_ _|refine az ?_|refine au ?_ _));exact dY.out) hb);have dG:=af.mk (aI (by repeat (first|(with_reducible first|exact HB.out|apply ah|apply ae|apply ag|refine aj ?_ ku.out)|exact HB.out)) hb);have dH:=af.mk (hbox);have eX:=af.mk ((by rw [hg];exact (aC (by repeat (first|(with_reducible first|exact HB.out|apply ah|apply ae|apply ag|refine aj ?_ ku.out)|exact HB.out))):w.heap.size≤lM));have gB:=af.mk ((by rw [hg];exact (aC (by repeat (first|(with_reducible first|exact HB.out|apply ah|apply ae|apply ag|refine aj ?_ ku.out)|exact HB.out))):w.heap.size≤lM));have iH:=af.mk ((by rw [hg];exact Nat.ne_of_lt (fG (g:=ig) (o:=.cells #[.slice dN bn.length dM,.string bF,.string bD,.slice (some wV) aU.length dL] 25 (0,0)) (by (with_reducible repeat (first|refine ak ?_ _|refine az ?_|refine au ?_ _));exact dY.out)):ig ≠ lM));have kL:=af.mk ((by rw [hg];exact Nat.ne_of_gt (fG (g:=ig) (o:=.cells #[.slice dN bn.length dM,.string bF,.string bD,.slice (some wV) aU.length dL] 25 (0,0)) (by (with_reducible repeat (first|refine ak ?_ _|refine az ?_|refine au ?_ _));exact dY.out)):lM ≠ ig));clear dY;clear HB;have dY:=dE;have HB:=dG;have kC:=dH;have aaf:=eX;have zX:=gB;have jI:=iH;have xH:=kL;clear dE dG dH eX gB iH kL;clear hb hbox hg;have ahq:=xH.out;have agX:=jI.out;have aeO:Vd.cell? ⟨lM,0,none⟩=some (.int .u8 0):=(ax kC.out 0).trans rfl;have aeN:Vd.cell? ⟨lM,1,none⟩=some (.int .u8 0):=(ax kC.out 1).trans rfl;have aeM:Vd.cell? ⟨lM,2,none⟩=some (.int .u8 0):=(ax kC.out 2).trans rfl;have aeL:Vd.cell? ⟨lM,3,none⟩=some (.int .u8 0):=(ax kC.out 3).trans rfl;have aeK:Vd.cell? ⟨lM,4,none⟩=some (.int .i64 0):=(ax kC.out 4).trans rfl;have acL:=ai kC.out 0;have acK:=ai kC.out 1;have acJ:=ai kC.out 2;have acI:=ai kC.out 3;have acH:=ai kC.out 4)|((with_reducible refine bG (f:=11) rfl ?_);refine eP (some 30) rfl rfl Tryd.func11 (by kernel_rfl) rfl #[.agg #[.int .u8 ((aN aU fQ).f0),.int .u8 ((aN aU fQ).f1),.int .u8 ((aN aU fQ).f2),.int .u8 ((aN aU fQ).f3),.int .i64 ((aN aU fQ).f4)]] rfl (by (try simp only [List.map_toArray,List.map_cons,List.map_nil]);first|done|rfl|(simp only [List.length_drop,List.length_take];rfl)) ?_;(with_reducible refine (fO.calls ((aN aU fQ).f0) ((aN aU fQ).f1) ((aN aU fQ).f2) ((aN aU fQ).f3) ((aN aU fQ).f4) false _ ?di A16.out).mono ?_);(case di=>exact Kd.bP lu.out (by repeat (first|(with_reducible first|exact HB.out|apply ah|apply ae|apply ag|refine aj ?_ ku.out|refine aj ?_ zX.out)|exact HB.out)));rintro e Lu ⟨rfl,hb⟩;refine ⟨_,rfl,?_⟩;have dE:=af.mk (aQ (g:=ig) (o:=.cells #[.slice dN bn.length dM,.string bF,.string bD,.slice (some wV) aU.length dL] 25 (0,0)) (by (with_reducible repeat (first|refine ak ?_ _|refine az ?_|refine au ?_ _));refine fD ?_ jI.out _;(with_reducible repeat (first|refine ak ?_ _|refine az ?_|refine au ?_ _));refine fD ?_ jI.out _;(with_reducible repeat (first|refine ak ?_ _|refine az ?_|refine au ?_ _));refine fD ?_ jI.out _;(with_reducible repeat (first|refine ak ?_ _|refine az ?_|refine au ?_ _));refine fD ?_ jI.out _;(with_reducible repeat (first|refine ak ?_ _|refine az ?_|refine au ?_ _));refine fD ?_ jI.out _;(with_reducible repeat (first|refine ak ?_ _|refine az ?_|refine au ?_ _));exact dY.out) hb);have dG:=af.mk (aQ (g:=lM) (o:=.cells #[.int .u8 ((aN aU fQ).f0),.int .u8 ((aN aU fQ).f1),.int .u8 ((aN aU fQ).f2),.int .u8 ((aN aU fQ).f3),.int .i64 ((aN aU fQ).f4)] 35 (0,0)) (by (with_reducible repeat (first|refine ak ?_ _|refine az ?_|refine au ?_ _));refine dF (cs:=#[.int .u8 ((aN aU fQ).f0),.int .u8 ((aN aU fQ).f1),.int .u8 ((aN aU fQ).f2),.int .u8 ((aN aU fQ).f3),.int .i64 0]) ?_ 4 _ rfl;(with_reducible repeat (first|refine ak ?_ _|refine az ?_|refine au ?_ _));refine dF (cs:=#[.int .u8 ((aN aU fQ).f0),.int .u8 ((aN aU fQ).f1),.int .u8 ((aN aU fQ).f2),.int .u8 0,.int .i64 0]) ?_ 3 _ rfl;(with_reducible repeat (first|refine ak ?_ _|refine az ?_|refine au ?_ _));refine dF (cs:=#[.int .u8 ((aN aU fQ).f0),.int .u8 ((aN aU fQ).f1),.int .u8 0,.int .u8 0,.int .i64 0]) ?_ 2 _ rfl;(with_reducible repeat (first|refine ak ?_ _|refine az ?_|refine au ?_ _));refine dF (cs:=#[.int .u8 ((aN aU fQ).f0),.int .u8 0,.int .u8 0,.int .u8 0,.int .i64 0]) ?_ 1 _ rfl;(with_reducible repeat (first|refine ak ?_ _|refine az ?_|refine au ?_ _));refine dF (cs:=#[.int .u8 0,.int .u8 0,.int .u8 0,.int .u8 0,.int .i64 0]) ?_ 0 _ rfl;(with_reducible repeat (first|refine ak ?_ _|refine az ?_|refine au ?_ _));exact kC.out) hb);have dH:=af.mk (aI (by repeat (first|(with_reducible first|exact HB.out|apply ah|apply ae|apply ag|refine aj ?_ ku.out|refine aj ?_ zX.out)|exact HB.out)) hb);clear dY;clear kC;clear HB;have dY:=dE;have kC:=dG;have HB:=dH;clear dE dG dH;(try clear hb);(try clear hb2);(try clear hk);(try clear hi)))
                    go_ret
                    exact ⟨by first|rfl|(simp [bT,bQ] <;> rfl)|(simp [*,bT,bQ] <;> rfl),by repeat (first|(with_reducible first|exact HB.out|apply ah|apply ae|apply ag|refine aj ?_ ku.out|refine aj ?_ zX.out)|exact HB.out)⟩
                · rw [if_neg c15] at H
                  exact absurd H (by simp)
              · rw [if_neg c14] at H
                exact absurd H (by simp)
            · rw [if_neg c13] at H
              have Zj:decide (fQ < (aU.length:Int))=false:=decide_eq_false c13
              clear c13
              replace H:=Option.bind_eq_some_iff.mp H
              obtain ⟨t108,aap,H⟩:=H
              replace H:(if t108=true then ((fH.f bD).bind fun t109=>(if t109=true then (some (decide ((aU.length:Int)≤200))) else (some false))) else (some false))=some r:=H
              have A26:=af.mk aap
              clear aap
              by_cases c27:t108=true
              · subst c27
                have H1:((fH.f bD).bind fun t109=>(if t109=true then (some (decide ((aU.length:Int)≤200))) else (some false)))=some r:=by rw [if_pos rfl] at H;exact H
                clear H
                have H:=H1
                clear H1
                replace H:=Option.bind_eq_some_iff.mp H
                obtain ⟨t109,aan,H⟩:=H
                replace H:(if t109=true then (some (decide ((aU.length:Int)≤200))) else (some false))=some r:=H
                have A28:=af.mk aan
                clear aan
                by_cases c29:t109=true
                · subst c29
                  have H1:(some (decide ((aU.length:Int)≤200)))=some r:=by rw [if_pos rfl] at H;exact H
                  clear H
                  have H:=H1
                  clear H1
                  obtain rfl:=Option.some.inj H
                  have Jw:wr.cell? ⟨ig,0,none⟩=some (.slice dN bn.length dM):=(ax dY.out 0).trans rfl
                  have Jv:wr.cell? ⟨ig,1,none⟩=some (.string bF):=(ax dY.out 1).trans rfl
                  have Ju:wr.cell? ⟨ig,2,none⟩=some (.string bD):=(ax dY.out 2).trans rfl
                  have Jt:wr.cell? ⟨ig,3,none⟩=some (.slice dV aU.length dL):=(ax dY.out 3).trans rfl
                  have Jg:=ai dY.out 0
                  have Jf:=ai dY.out 1
                  have Je:=ai dY.out 2
                  have Jd:=ai dY.out 3
                  go_wp2_with (first|((with_reducible refine bG (f:=23) rfl ?_);refine eP (some 35) rfl rfl Tryd.func23 (by kernel_rfl) rfl #[.string bF] rfl (by (try simp only [List.map_toArray,List.map_cons,List.map_nil]);first|done|rfl|(simp only [List.length_drop,List.length_take];rfl)) ?_;(with_reducible refine (fH.calls bF true _ A26.out).mono ?_);rintro e WJ ⟨rfl,hb⟩;refine ⟨_,rfl,?_⟩;have dE:=af.mk (aQ (g:=ig) (o:=.cells #[.slice dN bn.length dM,.string bF,.string bD,.slice dV aU.length dL] 25 (0,0)) (by (with_reducible repeat (first|refine ak ?_ _|refine az ?_|refine au ?_ _));exact dY.out) hb);have dG:=af.mk (aI (by repeat (first|(with_reducible first|exact HB.out|apply ah|apply ae|apply ag|refine aj ?_ ku.out)|exact HB.out)) hb);clear dY;clear HB;have dY:=dE;have HB:=dG;clear dE dG;(try clear hb);(try clear hb2);(try clear hk);(try clear hi);have DV:WJ.cell? ⟨ig,0,none⟩=some (.slice dN bn.length dM):=(ax dY.out 0).trans rfl;have DU:WJ.cell? ⟨ig,1,none⟩=some (.string bF):=(ax dY.out 1).trans rfl;have DT:WJ.cell? ⟨ig,2,none⟩=some (.string bD):=(ax dY.out 2).trans rfl;have DR:WJ.cell? ⟨ig,3,none⟩=some (.slice dV aU.length dL):=(ax dY.out 3).trans rfl;have Dc:=ai dY.out 0;have C9:=ai dY.out 1;have CZ:=ai dY.out 2;have CY:=ai dY.out 3)|(go_at_call 23;(with_reducible refine (fH.calls bD true _ A28.out).mono ?_);rintro e PZ ⟨rfl,hb⟩;have dE:=af.mk (aQ (g:=ig) (o:=.cells #[.slice dN bn.length dM,.string bF,.string bD,.slice dV aU.length dL] 25 (0,0)) (by (with_reducible repeat (first|refine ak ?_ _|refine az ?_|refine au ?_ _));exact dY.out) hb);have dG:=af.mk (aI (by repeat (first|(with_reducible first|exact HB.out|apply ah|apply ae|apply ag|refine aj ?_ ku.out)|exact HB.out)) hb);clear dY;clear HB;have dY:=dE;have HB:=dG;clear dE dG;(try clear hb);(try clear hb2);(try clear hk);(try clear hi);have Js:PZ.cell? ⟨ig,0,none⟩=some (.slice dN bn.length dM):=(ax dY.out 0).trans rfl;have Jr:PZ.cell? ⟨ig,1,none⟩=some (.string bF):=(ax dY.out 1).trans rfl;have Jq:PZ.cell? ⟨ig,2,none⟩=some (.string bD):=(ax dY.out 2).trans rfl;have Jp:PZ.cell? ⟨ig,3,none⟩=some (.slice dV aU.length dL):=(ax dY.out 3).trans rfl;have Jc:=ai dY.out 0;have Jb:=ai dY.out 1;have Ja:=ai dY.out 2;have I9:=ai dY.out 3))
                  go_ret
                  exact ⟨by first|rfl|(simp [bT,bQ] <;> rfl)|(simp [*,bT,bQ] <;> rfl),by repeat (first|(with_reducible first|exact HB.out|apply ah|apply ae|apply ag|refine aj ?_ ku.out)|exact HB.out)⟩
                · replace c29:=Bool.eq_false_iff.mpr c29
                  subst c29
                  have H1:(some false)=some r:=by rw [if_neg (show ¬ (false=true) by decide)] at H;exact H
                  clear H
                  have H:=H1
                  clear H1
                  obtain rfl:=Option.some.inj H
                  have aeF:wr.cell? ⟨ig,0,none⟩=some (.slice dN bn.length dM):=(ax dY.out 0).trans rfl
                  have aeE:wr.cell? ⟨ig,1,none⟩=some (.string bF):=(ax dY.out 1).trans rfl
                  have aeD:wr.cell? ⟨ig,2,none⟩=some (.string bD):=(ax dY.out 2).trans rfl
                  have aeC:wr.cell? ⟨ig,3,none⟩=some (.slice dV aU.length dL):=(ax dY.out 3).trans rfl
                  have acC:=ai dY.out 0
                  have acB:=ai dY.out 1
                  have acA:=ai dY.out 2
                  have acz:=ai dY.out 3
                  go_wp2_with (first|((with_reducible refine bG (f:=23) rfl ?_);refine eP (some 35) rfl rfl Tryd.func23 (by kernel_rfl) rfl #[.string bF] rfl (by (try simp only [List.map_toArray,List.map_cons,List.map_nil]);first|done|rfl|(simp only [List.length_drop,List.length_take];rfl)) ?_;(with_reducible refine (fH.calls bF true _ A26.out).mono ?_);rintro e Wj ⟨rfl,hb⟩;refine ⟨_,rfl,?_⟩;have dE:=af.mk (aQ (g:=ig) (o:=.cells #[.slice dN bn.length dM,.string bF,.string bD,.slice dV aU.length dL] 25 (0,0)) (by (with_reducible repeat (first|refine ak ?_ _|refine az ?_|refine au ?_ _));exact dY.out) hb);have dG:=af.mk (aI (by repeat (first|(with_reducible first|exact HB.out|apply ah|apply ae|apply ag|refine aj ?_ ku.out)|exact HB.out)) hb);clear dY;clear HB;have dY:=dE;have HB:=dG;clear dE dG;(try clear hb);(try clear hb2);(try clear hk);(try clear hi);have aeB:Wj.cell? ⟨ig,0,none⟩=some (.slice dN bn.length dM):=(ax dY.out 0).trans rfl;have aeA:Wj.cell? ⟨ig,1,none⟩=some (.string bF):=(ax dY.out 1).trans rfl;have aez:Wj.cell? ⟨ig,2,none⟩=some (.string bD):=(ax dY.out 2).trans rfl;have aey:Wj.cell? ⟨ig,3,none⟩=some (.slice dV aU.length dL):=(ax dY.out 3).trans rfl;have acy:=ai dY.out 0;have acx:=ai dY.out 1;have acw:=ai dY.out 2;have acv:=ai dY.out 3)|(go_at_call 23;(with_reducible refine (fH.calls bD false _ A28.out).mono ?_);rintro e GU ⟨rfl,hb⟩;have dE:=af.mk (aQ (g:=ig) (o:=.cells #[.slice dN bn.length dM,.string bF,.string bD,.slice dV aU.length dL] 25 (0,0)) (by (with_reducible repeat (first|refine ak ?_ _|refine az ?_|refine au ?_ _));exact dY.out) hb);have dG:=af.mk (aI (by repeat (first|(with_reducible first|exact HB.out|apply ah|apply ae|apply ag|refine aj ?_ ku.out)|exact HB.out)) hb);clear dY;clear HB;have dY:=dE;have HB:=dG;clear dE dG;(try clear hb);(try clear hb2);(try clear hk);(try clear hi)))
                  go_ret
                  exact ⟨by first|rfl|(simp [bT,bQ] <;> rfl)|(simp [*,bT,bQ] <;> rfl),by repeat (first|(with_reducible first|exact HB.out|apply ah|apply ae|apply ag|refine aj ?_ ku.out)|exact HB.out)⟩
              · replace c27:=Bool.eq_false_iff.mpr c27
                subst c27
                have H1:(some false)=some r:=by rw [if_neg (show ¬ (false=true) by decide)] at H;exact H
                clear H
                have H:=H1
                clear H1
                obtain rfl:=Option.some.inj H
                have SV:wr.cell? ⟨ig,0,none⟩=some (.slice dN bn.length dM):=(ax dY.out 0).trans rfl
                have SS:wr.cell? ⟨ig,1,none⟩=some (.string bF):=(ax dY.out 1).trans rfl
                have SQ:wr.cell? ⟨ig,2,none⟩=some (.string bD):=(ax dY.out 2).trans rfl
                have SN:wr.cell? ⟨ig,3,none⟩=some (.slice dV aU.length dL):=(ax dY.out 3).trans rfl
                have Rf:=ai dY.out 0
                have Q9:=ai dY.out 1
                have Q8:=ai dY.out 2
                have Q7:=ai dY.out 3
                go_wp2_with (first|((with_reducible refine bG (f:=23) rfl ?_);refine eP (some 35) rfl rfl Tryd.func23 (by kernel_rfl) rfl #[.string bF] rfl (by (try simp only [List.map_toArray,List.map_cons,List.map_nil]);first|done|rfl|(simp only [List.length_drop,List.length_take];rfl)) ?_;(with_reducible refine (fH.calls bF false _ A26.out).mono ?_);rintro e w40 ⟨rfl,hb⟩;refine ⟨_,rfl,?_⟩;have dE:=af.mk (aQ (g:=ig) (o:=.cells #[.slice dN bn.length dM,.string bF,.string bD,.slice dV aU.length dL] 25 (0,0)) (by (with_reducible repeat (first|refine ak ?_ _|refine az ?_|refine au ?_ _));exact dY.out) hb);have dG:=af.mk (aI (by repeat (first|(with_reducible first|exact HB.out|apply ah|apply ae|apply ag|refine aj ?_ ku.out)|exact HB.out)) hb);clear dY;clear HB;have dY:=dE;have HB:=dG;clear dE dG;(try clear hb);(try clear hb2);(try clear hk);(try clear hi)))
                go_ret
                exact ⟨by first|rfl|(simp [bT,bQ] <;> rfl)|(simp [*,bT,bQ] <;> rfl),by repeat (first|(with_reducible first|exact HB.out|apply ah|apply ae|apply ag|refine aj ?_ ku.out)|exact HB.out)⟩
def jX.f (a0:ByteArray):Option (ByteArray):=if a0.toList=([]:List UInt8) then (some (⟨#[45]⟩:ByteArray)) else (some a0)
set_option maxHeartbeats 8000000 in
set_option maxRecDepth 100000 in
theorem jX.calls (a0:ByteArray) (r:ByteArray) (w:World) (h:jX.f a0=some r) :
    Calls Tryd.prog 13 #[.string a0] w fun e w'=>e=.returned (.string r)∧jv w w':=by
  have H:(if a0.toList=([]:List UInt8) then (some (⟨#[45]⟩:ByteArray)) else (some a0))=some r:=h
  clear h
  by_cases c2:a0.toList=([]:List UInt8)
  · rw [if_pos c2] at H
    have EC:(a0.toList == ([]:List UInt8))=true:=beq_iff_eq.mpr c2
    have Ez:(a0.toList != ([]:List UInt8))=false:=bne_eq_false_iff_eq.mpr c2
    clear c2
    obtain rfl:=Option.some.inj H
    go_enter Tryd.func13,Tryd.ntmps13
    go_wp2
    go_ret
    exact ⟨by first|rfl|(simp;done)|(simp [*];done),by repeat (first|exact jv.refl _|apply jv.step)⟩
  · rw [if_neg c2] at H
    have EC:(a0.toList == ([]:List UInt8))=false:=beq_eq_false_iff_ne.mpr c2
    have Ez:(a0.toList != ([]:List UInt8))=true:=bne_iff_ne.mpr c2
    obtain rfl:=Option.some.inj H
    go_enter Tryd.func13,Tryd.ntmps13
    go_wp2
    go_ret
    exact ⟨by first|rfl|(simp;done)|(simp [*];done),by repeat (first|exact jv.refl _|apply jv.step)⟩
end Go.Proofs.YtkclndkbccbhaaaDoor.P
end
