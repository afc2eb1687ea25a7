/- Parts of the proof of CodeParses: what the functions that it reaches compute, and plain facts about that. -/
import Derived.Test.YtkclndkbccbhaaaGreatDoorRac
import Derived.Test.YtkclndkbccbhaaaGreatDoorRad
set_option linter.unusedVariables false
set_option linter.unusedSimpArgs false
section
namespace Go.Proofs.YtkclndkbccbhaaaGreatDoor.P
open Go.RowKit Go.Proofs.ag.bK Go.Proofs.ag.dV Go.Proofs.ag.fE
attribute [local go_sem] lI lG ny ni jW jV lH lF
def fQ.f (a0:ByteArray):Option (Bool):=if (a0.size:Int)≤30 then ((jw.f a0 (⟨#[97,98,99,100,101,102,103,104,105,106,107,108,109,110,111,112,113,114,115,116,117,118,119,120,121,122,48,49,50,51,52,53,54,55,56,57]⟩:ByteArray)).bind fun t101=>(some (t101.toList == ([]:List UInt8)))) else (some false)
set_option maxHeartbeats 8000000 in
set_option maxRecDepth 100000 in
theorem fQ.calls (a0:ByteArray) (r:Bool) (w:World) (h:fQ.f a0=some r) :
    Calls Tryz.prog 37 #[.string a0] w fun e w'=>e=.returned (.bool r)∧Below w.heap.size w w':=by
  have HB:=ae.mk (Below.refl w.heap.size w)
  have H:(if (a0.size:Int)≤30 then ((jw.f a0 (⟨#[97,98,99,100,101,102,103,104,105,106,107,108,109,110,111,112,113,114,115,116,117,118,119,120,121,122,48,49,50,51,52,53,54,55,56,57]⟩:ByteArray)).bind fun t101=>(some (t101.toList == ([]:List UInt8)))) else (some false))=some r:=h
  clear h
  by_cases c2:(a0.size:Int)≤30
  · rw [if_pos c2] at H
    have uS:decide ((a0.size:Int)≤30)=true:=decide_eq_true c2
    have zy:decide (a0.size≤30)=true:=decide_eq_true (by omega)
    clear c2
    replace H:=Option.bind_eq_some_iff.mp H
    obtain ⟨t101,Jg,H⟩:=H
    replace H:(some (t101.toList == ([]:List UInt8)))=some r:=H
    have A3:=ae.mk Jg
    clear Jg
    obtain rfl:=Option.some.inj H
    go_enter Tryz.func37,Tryz.ntmps37
    go_wp2_with (first|(go_at_call 54;(with_reducible refine (jw.calls a0 (⟨#[97,98,99,100,101,102,103,104,105,106,107,108,109,110,111,112,113,114,115,116,117,118,119,120,121,122,48,49,50,51,52,53,54,55,56,57]⟩:ByteArray) t101 _ A3.out).mono ?_);rintro e w4 ⟨rfl,hb⟩;have dG:=ae.mk (bf (by repeat (first|(with_reducible first|exact HB.out|apply au|apply af|apply aj)|exact HB.out)) hb);clear HB;have HB:=dG;clear dG;(try clear hb);(try clear hb2);(try clear hk);(try clear hi)))
    go_ret
    exact ⟨by first|rfl|(simp [bF,bD] <;> rfl)|(simp [*,bF,bD] <;> rfl),by repeat (first|(with_reducible first|exact HB.out|apply au|apply af|apply aj)|exact HB.out)⟩
  · rw [if_neg c2] at H
    have uS:decide ((a0.size:Int)≤30)=false:=decide_eq_false c2
    have zy:decide (a0.size≤30)=false:=decide_eq_false (by omega)
    clear c2
    obtain rfl:=Option.some.inj H
    go_enter Tryz.func37,Tryz.ntmps37
    go_wp2
    go_ret
    exact ⟨by first|rfl|(simp [bF,bD] <;> rfl)|(simp [*,bF,bD] <;> rfl),by repeat (first|(with_reducible first|exact HB.out|apply au|apply af|apply aj)|exact HB.out)⟩
mutual
def eY.l0:Nat→List ByteArray→Int→Int→List ByteArray→ByteArray→ByteArray→List (jR)→Option (Bool)
  | 0,_,_,_,_,_,_,_=>none
  | k+1,x8,x9,x10,CG,zG,zF,vZ=>if x10 < x9 then (if 0≤x10 then (if x10 < (x8.length:Int) then (if (eF ByteArray.empty x8 x10).toList=([]:List UInt8) then (some false) else ((fQ.f (eF ByteArray.empty x8 x10)).bind fun t104=>(if t104=true then (eY.l0 k x8 x9 (wrap64 (x10+1)) CG zG zF vZ) else (some false)))) else (none)) else (none)) else (eY.l1 k vZ (vZ.length:Int) 0 CG zG zF vZ)
def eY.l1:Nat→List (jR)→Int→Int→List ByteArray→ByteArray→ByteArray→List (jR)→Option (Bool)
  | 0,_,_,_,_,_,_,_=>none
  | k+1,Y4,x24,x25,CG,zG,zF,vZ=>if x25 < x24 then (if 0≤x25 then (if x25 < (Y4.length:Int) then ((ig.f ((aU Y4 x25).f0) ((aU Y4 x25).f1) ((aU Y4 x25).f2) ((aU Y4 x25).f3) ((aU Y4 x25).f4)).bind fun t107=>(if t107=true then (eY.l1 k Y4 x24 (wrap64 (x25+1)) CG zG zF vZ) else (some false))) else (none)) else (none)) else ((fQ.f zG).bind fun t108=>(if t108=true then ((fQ.f zF).bind fun t109=>(if t109=true then (some (decide ((vZ.length:Int)≤200))) else (some false))) else (some false)))
end
def eY.f (k:Nat) (dn:List ByteArray) (bU:ByteArray) (bV:ByteArray) (bM:List (jR)):Option (Bool):=eY.l0 k dn (dn.length:Int) 0 dn bU bV bM
theorem eY.iq:∀ k,(∀ y0 y1 y2 y3 y4 y5 y6,dC (eY.l0 k y0 y1 y2 y3 y4 y5 y6) (eY.l0 (k+1) y0 y1 y2 y3 y4 y5 y6))∧(∀ y0 y1 y2 y3 y4 y5 y6,dC (eY.l1 k y0 y1 y2 y3 y4 y5 y6) (eY.l1 (k+1) y0 y1 y2 y3 y4 y5 y6))
  | 0=>⟨fun _ _ _ _ _ _ _ r h=>by simp [eY.l0] at h,fun _ _ _ _ _ _ _ r h=>by simp [eY.l1] at h⟩
  | k+1=>by
    obtain ⟨jY,ih1⟩:=eY.iq k
    refine ⟨?_,?_⟩
    · intro y0 y1 y2 y3 y4 y5 y6
      unfold eY.l0
      repeat' first
      | (with_reducible exact jY _ _ _ _ _ _ _)
      | (with_reducible exact ih1 _ _ _ _ _ _ _)
      | (with_reducible exact dC.refl _)
      | (with_reducible exact dC.none _)
      | (with_reducible refine dC.ite ?_ ?_)
      | (with_reducible refine dC.bind ?_ (fun _=>?_))
      | exact jY _ _ _ _ _ _ _
      | exact ih1 _ _ _ _ _ _ _
      | exact dC.none _
      | refine dC.ite ?_ ?_
      | refine dC.bind ?_ (fun _=>?_)
    · intro y0 y1 y2 y3 y4 y5 y6
      unfold eY.l1
      repeat' first
      | (with_reducible exact jY _ _ _ _ _ _ _)
      | (with_reducible exact ih1 _ _ _ _ _ _ _)
      | (with_reducible exact dC.refl _)
      | (with_reducible exact dC.none _)
      | (with_reducible refine dC.ite ?_ ?_)
      | (with_reducible refine dC.bind ?_ (fun _=>?_))
      | exact jY _ _ _ _ _ _ _
      | exact ih1 _ _ _ _ _ _ _
      | exact dC.none _
      | refine dC.ite ?_ ?_
      | refine dC.bind ?_ (fun _=>?_)
theorem eY.mono:∀ a0 a1 a2 a3 k,dC (eY.f k a0 a1 a2 a3) (eY.f (k+1) a0 a1 a2 a3):=by
  intro a0 a1 a2 a3 k
  obtain ⟨jY,ih1⟩:=eY.iq k
  unfold eY.f
  repeat' first
      | (with_reducible exact jY _ _ _ _ _ _ _)
      | (with_reducible exact ih1 _ _ _ _ _ _ _)
      | (with_reducible exact dC.refl _)
      | (with_reducible exact dC.none _)
      | (with_reducible refine dC.ite ?_ ?_)
      | (with_reducible refine dC.bind ?_ (fun _=>?_))
      | exact jY _ _ _ _ _ _ _
      | exact ih1 _ _ _ _ _ _ _
      | exact dC.none _
      | refine dC.ite ?_ ?_
      | refine dC.bind ?_ (fun _=>?_)
set_option maxHeartbeats 8000000 in
set_option maxRecDepth 100000 in
theorem eY.calls (k:Nat) (iR:Option Addr) (iH:Nat) (dn:List ByteArray) (bU:ByteArray) (bV:ByteArray) (jg:Option Addr) (iG:Nat) (bM:List (jR)) (r:Bool) (w:World) (BD:Kd.C Kd.string w iR dn.length dn) (BG:dn.length≤iH) (BC:Kd.C k27 w jg bM.length bM) (BF:bM.length≤iG) (lC:Kd.C xE w xG oL.length oL) (h:eY.f k dn bU bV bM=some r) :
    Calls Tryz.prog 18 #[.agg #[.slice iR dn.length iH,.string bU,.string bV,.slice jg bM.length iG]] w fun e w'=>e=.returned (.bool r)∧Below w.heap.size w w':=by
  have Qq:=Tryz.underlying25
  have Oz:=Tryz.underlying27
  have yY:=ae.mk BD
  have NM:=ae.mk BG
  clear BD BG
  have Ak:=ae.mk BC
  have NL:=ae.mk BF
  clear BC BF
  have Ai:=ae.mk lC
  clear lC
  have HB:=ae.mk (Below.refl w.heap.size w)
  have H:(eY.l0 k dn (dn.length:Int) 0 dn bU bV bM)=some r:=h
  clear h
  have H':=ae.mk H
  clear H
  go_enter Tryz.func18,Tryz.ntmps18
  go_wp2_with (first|((with_reducible refine fF (N:=1) rfl ?_);(try (refine iU (by rfl) ?_;dsimp only));refine gu ?hg (N:=1) ?hd (cs:=#[.slice iR dn.length iH,.string bU,.string bV,.slice jg bM.length iG]) (t:=25) ?hr ?_;(case hd=>rfl);(case hg=>rfl);(case hr=>first|(go_simp;done)|(go_simp;rfl));intro ja hg w2 hbox hb;have dG:=ae.mk (bf (by repeat (first|(with_reducible first|exact HB.out|apply au|apply af|apply aj)|exact HB.out)) hb);have dM:=ae.mk (hbox);have dW:=ae.mk ((by rw [hg];exact (aZ (by repeat (first|(with_reducible first|exact HB.out|apply au|apply af|apply aj)|exact HB.out))):w.heap.size≤ja));have fK:=ae.mk ((by rw [hg];exact (aZ (by repeat (first|(with_reducible first|exact HB.out|apply au|apply af|apply aj)|exact HB.out))):w.heap.size≤ja));clear HB;have HB:=dG;have dS:=dM;have ams:=dW;have nT:=fK;clear dG dM dW fK;clear hb hbox hg;have QT:w2.cell? ⟨ja,0,none⟩=some (.slice iR dn.length iH):=(ax dS.out 0).trans rfl;have QS:w2.cell? ⟨ja,1,none⟩=some (.string bU):=(ax dS.out 1).trans rfl;have QR:w2.cell? ⟨ja,2,none⟩=some (.string bV):=(ax dS.out 2).trans rfl;have QQ:w2.cell? ⟨ja,3,none⟩=some (.slice jg bM.length iG):=(ax dS.out 3).trans rfl;have QH:=ay dS.out 0;have QG:=ay dS.out 1;have QF:=ay dS.out 2;have QE:=ay dS.out 3))
  go_loopg [10] k (fun kq v10 w'=>∃ (mr:Int),v10=.int .i64 mr∧ae (eY.l0 kq dn (dn.length:Int) mr dn bU bV bM=some r)∧ae (kq≤k)∧ae (w'.heap[ja]? = some (.cells #[(.slice iR dn.length iH),.string bU,.string bV,(.slice jg bM.length iG)] 25 (0,0)))∧ae (Below w.heap.size w w'))
  case atStart=>exact ⟨(0),(by first|rfl|(simp;done)|(simp [*];done)),H',⟨Nat.le_refl _⟩,⟨by (with_reducible repeat (first|refine ah ?_ _|refine ak ?_|refine ai ?_ _));exact dS.out⟩,⟨by repeat (first|(with_reducible first|exact HB.out|apply au|apply af|apply aj|refine az ?_ nT.out)|exact HB.out)⟩⟩
  case round =>
    clear H'
    try clear c1
    try clear p2
    try clear QT
    try clear QS
    try clear QR
    try clear QQ
    try clear QH
    try clear QG
    try clear QF
    try clear QE
    obtain ⟨mr,rfl,HA,pJ,dS,HB⟩:=hrel
    cases gk with
    | zero=>exact absurd HA.out (by simp [eY.l0])
    | succ k1 =>
      have H:=HA.out
      clear HA
      simp only [eY.l0] at H
      by_cases c4:mr < (dn.length:Int)
      · rw [if_pos c4] at H
        have uo:decide (mr < (dn.length:Int))=true:=decide_eq_true c4
        clear c4
        by_cases c5:0≤mr
        · rw [if_pos c5] at H
          have wX:decide (0≤mr)=true:=decide_eq_true c5
          clear c5
          by_cases c6:mr < (dn.length:Int)
          · rw [if_pos c6] at H
            have oP:decide (mr < (dn.length:Int))=true:=decide_eq_true c6
            clear c6
            by_cases c7:(eF ByteArray.empty dn mr).toList=([]:List UInt8)
            · rw [if_pos c7] at H
              have qR:((eF ByteArray.empty dn mr).toList == ([]:List UInt8))=true:=beq_iff_eq.mpr c7
              have xy:((eF ByteArray.empty dn mr).toList != ([]:List UInt8))=false:=bne_eq_false_iff_eq.mpr c7
              clear c7
              obtain rfl:=Option.some.inj H
              have BZ:0≤(mr:Int):=of_decide_eq_true (by first|(with_reducible assumption)|assumption)
              have BX:mr < (dn.length:Int):=of_decide_eq_true (by first|(with_reducible assumption)|assumption)
              obtain ⟨Nw,RF,pY⟩:=Kd.fO yY.out mr BZ BX
              cases RF
              replace pY:=(HB.out.cell (World.block_lt_of_cell? w _ pY)).trans pY
              replace BZ:=eq_true BZ
              replace BX:=eq_true BX
              go_wp2
              go_ret
              exact ⟨by first|rfl|(simp [bF,bD] <;> rfl)|(simp [*,bF,bD] <;> rfl),by repeat (first|(with_reducible first|exact HB.out|apply au|apply af|apply aj|refine az ?_ nT.out)|exact HB.out)⟩
            · rw [if_neg c7] at H
              have qR:((eF ByteArray.empty dn mr).toList == ([]:List UInt8))=false:=beq_eq_false_iff_ne.mpr c7
              have xy:((eF ByteArray.empty dn mr).toList != ([]:List UInt8))=true:=bne_iff_ne.mpr c7
              replace H:=Option.bind_eq_some_iff.mp H
              obtain ⟨t104,A80,H⟩:=H
              replace H:(if t104=true then (eY.l0 k1 dn (dn.length:Int) (wrap64 (mr+1)) dn bU bV bM) else (some false))=some r:=H
              have A8:=ae.mk A80
              clear A80
              by_cases c9:t104=true
              · subst c9
                have H1:(eY.l0 k1 dn (dn.length:Int) (wrap64 (mr+1)) dn bU bV bM)=some r:=by rw [if_pos rfl] at H;exact H
                clear H
                have H:=H1
                clear H1
                have H':=ae.mk H
                clear H
                have BZ:0≤(mr:Int):=of_decide_eq_true (by first|(with_reducible assumption)|assumption)
                have BX:mr < (dn.length:Int):=of_decide_eq_true (by first|(with_reducible assumption)|assumption)
                obtain ⟨Nw,RF,pY⟩:=Kd.fO yY.out mr BZ BX
                cases RF
                replace pY:=(HB.out.cell (World.block_lt_of_cell? w _ pY)).trans pY
                replace BZ:=eq_true BZ
                replace BX:=eq_true BX
                go_wp2_with (first|(go_at_call 37;(with_reducible refine (fQ.calls (eF ByteArray.empty dn mr) true _ A8.out).mono ?_);rintro e w10 ⟨rfl,hb⟩;have dG:=ae.mk (bH (g:=ja) (o:=.cells #[.slice (some Nw) dn.length iH,.string bU,.string bV,.slice jg bM.length iG] 25 (0,0)) (by (with_reducible repeat (first|refine ah ?_ _|refine ak ?_|refine ai ?_ _));exact dS.out) hb);have dM:=ae.mk (bf (by repeat (first|(with_reducible first|exact HB.out|apply au|apply af|apply aj|refine az ?_ nT.out)|exact HB.out)) hb);clear dS;clear HB;have dS:=dG;have HB:=dM;clear dG dM;(try clear hb);(try clear hb2);(try clear hk);(try clear hi)))
                go_roundg k1
                case measure=>have:=pJ.out;omega
                case rel=>exact ⟨(wrap64 (mr+1)),(by first|rfl|(simp;done)|(simp [*];done)),H',⟨by have:=pJ.out;omega⟩,⟨by (with_reducible repeat (first|refine ah ?_ _|refine ak ?_|refine ai ?_ _));exact dS.out⟩,⟨by repeat (first|(with_reducible first|exact HB.out|apply au|apply af|apply aj|refine az ?_ nT.out)|exact HB.out)⟩⟩
              · replace c9:=Bool.eq_false_iff.mpr c9
                subst c9
                have H1:(some false)=some r:=by rw [if_neg (show ¬ (false=true) by decide)] at H;exact H
                clear H
                have H:=H1
                clear H1
                obtain rfl:=Option.some.inj H
                have BZ:0≤(mr:Int):=of_decide_eq_true (by first|(with_reducible assumption)|assumption)
                have BX:mr < (dn.length:Int):=of_decide_eq_true (by first|(with_reducible assumption)|assumption)
                obtain ⟨Nw,RF,pY⟩:=Kd.fO yY.out mr BZ BX
                cases RF
                replace pY:=(HB.out.cell (World.block_lt_of_cell? w _ pY)).trans pY
                replace BZ:=eq_true BZ
                replace BX:=eq_true BX
                go_wp2_with (first|(go_at_call 37;(with_reducible refine (fQ.calls (eF ByteArray.empty dn mr) false _ A8.out).mono ?_);rintro e w11 ⟨rfl,hb⟩;have dG:=ae.mk (bH (g:=ja) (o:=.cells #[.slice (some Nw) dn.length iH,.string bU,.string bV,.slice jg bM.length iG] 25 (0,0)) (by (with_reducible repeat (first|refine ah ?_ _|refine ak ?_|refine ai ?_ _));exact dS.out) hb);have dM:=ae.mk (bf (by repeat (first|(with_reducible first|exact HB.out|apply au|apply af|apply aj|refine az ?_ nT.out)|exact HB.out)) hb);clear dS;clear HB;have dS:=dG;have HB:=dM;clear dG dM;(try clear hb);(try clear hb2);(try clear hk);(try clear hi)))
                go_ret
                exact ⟨by first|rfl|(simp [bF,bD] <;> rfl)|(simp [*,bF,bD] <;> rfl),by repeat (first|(with_reducible first|exact HB.out|apply au|apply af|apply aj|refine az ?_ nT.out)|exact HB.out)⟩
          · rw [if_neg c6] at H
            exact absurd H (by simp)
        · rw [if_neg c5] at H
          exact absurd H (by simp)
      · rw [if_neg c4] at H
        have uo:decide (mr < (dn.length:Int))=false:=decide_eq_false c4
        clear c4
        have H':=ae.mk H
        clear H
        have Xj:wr.cell? ⟨ja,0,none⟩=some (.slice iR dn.length iH):=(ax dS.out 0).trans rfl
        have Xi:wr.cell? ⟨ja,1,none⟩=some (.string bU):=(ax dS.out 1).trans rfl
        have Xh:wr.cell? ⟨ja,2,none⟩=some (.string bV):=(ax dS.out 2).trans rfl
        have Xg:wr.cell? ⟨ja,3,none⟩=some (.slice jg bM.length iG):=(ax dS.out 3).trans rfl
        have VH:=ay dS.out 0
        have VG:=ay dS.out 1
        have VF:=ay dS.out 2
        have VE:=ay dS.out 3
        go_wp2
        go_loopg [25] k1 (fun kq v25 w'=>∃ (gU:Int),v25=.int .i64 gU∧ae (eY.l1 kq bM (bM.length:Int) gU dn bU bV bM=some r)∧ae (kq≤k1)∧ae (w'.heap[ja]? = some (.cells #[(.slice iR dn.length iH),.string bU,.string bV,(.slice jg bM.length iG)] 25 (0,0)))∧ae (Below w.heap.size w w'))
        case atStart=>exact ⟨(0),(by first|rfl|(simp;done)|(simp [*];done)),H',⟨Nat.le_refl _⟩,⟨by (with_reducible repeat (first|refine ah ?_ _|refine ak ?_|refine ai ?_ _));exact dS.out⟩,⟨by repeat (first|(with_reducible first|exact HB.out|apply au|apply af|apply aj|refine az ?_ nT.out)|exact HB.out)⟩⟩
        case round =>
          clear H'
          try clear c1
          try clear p1
          try clear q1
          try clear hx1
          try clear p2
          try clear c4
          try clear uo
          try clear c5
          try clear wX
          try clear c6
          try clear oP
          try clear p6
          try clear c7
          try clear qR
          try clear xy
          try clear c9
          try clear p10
          try clear q10
          try clear am2
          try clear Xj
          try clear Xi
          try clear Xh
          try clear Xg
          try clear QT
          try clear QS
          try clear QR
          try clear QQ
          try clear VH
          try clear VG
          try clear VF
          try clear VE
          try clear QH
          try clear QG
          try clear QF
          try clear QE
          try clear pY
          try clear BZ
          try clear p2
          try clear BX
          obtain ⟨gU,rfl,HA,CX,dS,HB⟩:=hrel
          cases gk with
          | zero=>exact absurd HA.out (by simp [eY.l1])
          | succ k2 =>
            have H:=HA.out
            clear HA
            simp only [eY.l1] at H
            by_cases c13:gU < (bM.length:Int)
            · rw [if_pos c13] at H
              have uh:decide (gU < (bM.length:Int))=true:=decide_eq_true c13
              clear c13
              by_cases c14:0≤gU
              · rw [if_pos c14] at H
                have vH:decide (0≤gU)=true:=decide_eq_true c14
                clear c14
                by_cases c15:gU < (bM.length:Int)
                · rw [if_pos c15] at H
                  have vG:decide (gU < (bM.length:Int))=true:=decide_eq_true c15
                  clear c15
                  replace H:=Option.bind_eq_some_iff.mp H
                  obtain ⟨t107,Ep,H⟩:=H
                  replace H:(if t107=true then (eY.l1 k2 bM (bM.length:Int) (wrap64 (gU+1)) dn bU bV bM) else (some false))=some r:=H
                  have Tc:=ae.mk Ep
                  clear Ep
                  by_cases c17:t107=true
                  · subst c17
                    have H1:(eY.l1 k2 bM (bM.length:Int) (wrap64 (gU+1)) dn bU bV bM)=some r:=by rw [if_pos rfl] at H;exact H
                    clear H
                    have H:=H1
                    clear H1
                    have H':=ae.mk H
                    clear H
                    have JF:0≤(gU:Int):=of_decide_eq_true (by first|(with_reducible assumption)|assumption)
                    have Jv:gU < (bM.length:Int):=of_decide_eq_true (by first|(with_reducible assumption)|assumption)
                    obtain ⟨Ag,aaj,wU,wS,wR,wQ,wP⟩:=xe Ak.out gU JF Jv
                    cases aaj
                    replace wU:=(HB.out.cell (World.block_lt_of_cell? w _ wU)).trans wU
                    replace wS:=(HB.out.cell (World.block_lt_of_cell? w _ wS)).trans wS
                    replace wR:=(HB.out.cell (World.block_lt_of_cell? w _ wR)).trans wR
                    replace wQ:=(HB.out.cell (World.block_lt_of_cell? w _ wQ)).trans wQ
                    replace wP:=(HB.out.cell (World.block_lt_of_cell? w _ wP)).trans wP
                    replace JF:=eq_true JF
                    replace Jv:=eq_true Jv
                    go_wp2_with (first|((with_reducible refine fF (N:=6) rfl ?_);(try (refine iU (by rfl) ?_;dsimp only));refine gu ?hg (N:=6) ?hd (cs:=#[.int .u8 0,.int .u8 0,.int .u8 0,.int .u8 0,.int .i64 0]) (t:=27) ?hr ?_;(case hd=>rfl);(case hg=>rfl);(case hr=>first|(go_simp;done)|(go_simp;rfl));intro pR hg KN hbox hb;have dG:=ae.mk (bH (g:=ja) (o:=.cells #[.slice iR dn.length iH,.string bU,.string bV,.slice (some Ag) bM.length iG] 25 (0,0)) (by (with_reducible repeat (first|refine ah ?_ _|refine ak ?_|refine ai ?_ _));exact dS.out) hb);have dM:=ae.mk (bf (by repeat (first|(with_reducible first|exact HB.out|apply au|apply af|apply aj|refine az ?_ nT.out)|exact HB.out)) hb);have dW:=ae.mk (hbox);have fK:=ae.mk ((by rw [hg];exact (aZ (by repeat (first|(with_reducible first|exact HB.out|apply au|apply af|apply aj|refine az ?_ nT.out)|exact HB.out))):w.heap.size≤pR));have iO:=ae.mk ((by rw [hg];exact (aZ (by repeat (first|(with_reducible first|exact HB.out|apply au|apply af|apply aj|refine az ?_ nT.out)|exact HB.out))):w.heap.size≤pR));have jE:=ae.mk ((by rw [hg];exact Nat.ne_of_lt (gG (g:=ja) (o:=.cells #[.slice iR dn.length iH,.string bU,.string bV,.slice (some Ag) bM.length iG] 25 (0,0)) (by (with_reducible repeat (first|refine ah ?_ _|refine ak ?_|refine ai ?_ _));exact dS.out)):ja ≠ pR));have lg:=ae.mk ((by rw [hg];exact Nat.ne_of_gt (gG (g:=ja) (o:=.cells #[.slice iR dn.length iH,.string bU,.string bV,.slice (some Ag) bM.length iG] 25 (0,0)) (by (with_reducible repeat (first|refine ah ?_ _|refine ak ?_|refine ai ?_ _));exact dS.out)):pR ≠ ja));clear dS;clear HB;have dS:=dG;have HB:=dM;have nU:=dW;have adt:=fK;have Ef:=iO;have lV:=jE;have Bi:=lg;clear dG dM dW fK iO jE lg;clear hb hbox hg;have abP:=Bi.out;have abG:=lV.out;have MP:KN.cell? ⟨pR,0,none⟩=some (.int .u8 0):=(ax nU.out 0).trans rfl;have MO:KN.cell? ⟨pR,1,none⟩=some (.int .u8 0):=(ax nU.out 1).trans rfl;have MN:KN.cell? ⟨pR,2,none⟩=some (.int .u8 0):=(ax nU.out 2).trans rfl;have MM:KN.cell? ⟨pR,3,none⟩=some (.int .u8 0):=(ax nU.out 3).trans rfl;have WY:KN.cell? ⟨pR,4,none⟩=some (.int .i64 0):=(ax nU.out 4).trans rfl;have LY:=ay nU.out 0;have LX:=ay nU.out 1;have LW:=ay nU.out 2;have LV:=ay nU.out 3;have Vu:=ay nU.out 4)|((with_reducible refine bQ (f:=11) rfl ?_);refine fZ (some 30) rfl rfl Tryz.func11 (by kernel_rfl) rfl #[.agg #[.int .u8 ((aU bM gU).f0),.int .u8 ((aU bM gU).f1),.int .u8 ((aU bM gU).f2),.int .u8 ((aU bM gU).f3),.int .i64 ((aU bM gU).f4)]] rfl (by (try simp only [List.map_toArray,List.map_cons,List.map_nil]);first|done|rfl|(simp only [List.length_drop,List.length_take];rfl)) ?_;(with_reducible refine (ig.calls ((aU bM gU).f0) ((aU bM gU).f1) ((aU bM gU).f2) ((aU bM gU).f3) ((aU bM gU).f4) true _ ?gV Tc.out).mono ?_);(case gV=>exact Kd.gY Ai.out (by repeat (first|(with_reducible first|exact HB.out|apply au|apply af|apply aj|refine az ?_ nT.out|refine az ?_ Ef.out)|exact HB.out)));rintro e w21 ⟨rfl,hb⟩;refine ⟨_,rfl,?_⟩;have dG:=ae.mk (bH (g:=ja) (o:=.cells #[.slice iR dn.length iH,.string bU,.string bV,.slice (some Ag) bM.length iG] 25 (0,0)) (by (with_reducible repeat (first|refine ah ?_ _|refine ak ?_|refine ai ?_ _));refine di ?_ lV.out _;(with_reducible repeat (first|refine ah ?_ _|refine ak ?_|refine ai ?_ _));refine di ?_ lV.out _;(with_reducible repeat (first|refine ah ?_ _|refine ak ?_|refine ai ?_ _));refine di ?_ lV.out _;(with_reducible repeat (first|refine ah ?_ _|refine ak ?_|refine ai ?_ _));refine di ?_ lV.out _;(with_reducible repeat (first|refine ah ?_ _|refine ak ?_|refine ai ?_ _));refine di ?_ lV.out _;(with_reducible repeat (first|refine ah ?_ _|refine ak ?_|refine ai ?_ _));exact dS.out) hb);have dM:=ae.mk (bH (g:=pR) (o:=.cells #[.int .u8 ((aU bM gU).f0),.int .u8 ((aU bM gU).f1),.int .u8 ((aU bM gU).f2),.int .u8 ((aU bM gU).f3),.int .i64 ((aU bM gU).f4)] 27 (0,0)) (by (with_reducible repeat (first|refine ah ?_ _|refine ak ?_|refine ai ?_ _));refine bu (cs:=#[.int .u8 ((aU bM gU).f0),.int .u8 ((aU bM gU).f1),.int .u8 ((aU bM gU).f2),.int .u8 ((aU bM gU).f3),.int .i64 0]) ?_ 4 _ rfl;(with_reducible repeat (first|refine ah ?_ _|refine ak ?_|refine ai ?_ _));refine bu (cs:=#[.int .u8 ((aU bM gU).f0),.int .u8 ((aU bM gU).f1),.int .u8 ((aU bM gU).f2),.int .u8 0,.int .i64 0]) ?_ 3 _ rfl;(with_reducible repeat (first|refine ah ?_ _|refine ak ?_|refine ai ?_ _));refine bu (cs:=#[.int .u8 ((aU bM gU).f0),.int .u8 ((aU bM gU).f1),.int .u8 0,.int .u8 0,.int .i64 0]) ?_ 2 _ rfl;(with_reducible repeat (first|refine ah ?_ _|refine ak ?_|refine ai ?_ _));refine bu (cs:=#[.int .u8 ((aU bM gU).f0),.int .u8 0,.int .u8 0,.int .u8 0,.int .i64 0]) ?_ 1 _ rfl;(with_reducible repeat (first|refine ah ?_ _|refine ak ?_|refine ai ?_ _));refine bu (cs:=#[.int .u8 0,.int .u8 0,.int .u8 0,.int .u8 0,.int .i64 0]) ?_ 0 _ rfl;(with_reducible repeat (first|refine ah ?_ _|refine ak ?_|refine ai ?_ _));exact nU.out) hb);have dW:=ae.mk (bf (by repeat (first|(with_reducible first|exact HB.out|apply au|apply af|apply aj|refine az ?_ nT.out|refine az ?_ Ef.out)|exact HB.out)) hb);clear dS;clear nU;clear HB;have dS:=dG;have nU:=dM;have HB:=dW;clear dG dM dW;(try clear hb);(try clear hb2);(try clear hk);(try clear hi)))
                    go_roundg k2
                    case measure=>have:=pJ.out;have:=CX.out;omega
                    case rel=>exact ⟨(wrap64 (gU+1)),(by first|rfl|(simp;done)|(simp [*];done)),H',⟨by have:=pJ.out;have:=CX.out;omega⟩,⟨by (with_reducible repeat (first|refine ah ?_ _|refine ak ?_|refine ai ?_ _));exact dS.out⟩,⟨by repeat (first|(with_reducible first|exact HB.out|apply au|apply af|apply aj|refine az ?_ nT.out|refine az ?_ Ef.out)|exact HB.out)⟩⟩
                  · replace c17:=Bool.eq_false_iff.mpr c17
                    subst c17
                    have H1:(some false)=some r:=by rw [if_neg (show ¬ (false=true) by decide)] at H;exact H
                    clear H
                    have H:=H1
                    clear H1
                    obtain rfl:=Option.some.inj H
                    have JF:0≤(gU:Int):=of_decide_eq_true (by first|(with_reducible assumption)|assumption)
                    have Jv:gU < (bM.length:Int):=of_decide_eq_true (by first|(with_reducible assumption)|assumption)
                    obtain ⟨Ag,aaj,wU,wS,wR,wQ,wP⟩:=xe Ak.out gU JF Jv
                    cases aaj
                    replace wU:=(HB.out.cell (World.block_lt_of_cell? w _ wU)).trans wU
                    replace wS:=(HB.out.cell (World.block_lt_of_cell? w _ wS)).trans wS
                    replace wR:=(HB.out.cell (World.block_lt_of_cell? w _ wR)).trans wR
                    replace wQ:=(HB.out.cell (World.block_lt_of_cell? w _ wQ)).trans wQ
                    replace wP:=(HB.out.cell (World.block_lt_of_cell? w _ wP)).trans wP
                    replace JF:=eq_true JF
                    replace Jv:=eq_true Jv
                    go_wp2_with (first|((with_reducible refine fF (N:=6) rfl ?_);(try (refine iU (by rfl) ?_;dsimp only));refine gu ?hg (N:=6) ?hd (cs:=#[.int .u8 0,.int .u8 0,.int .u8 0,.int .u8 0,.int .i64 0]) (t:=27) ?hr ?_;(case hd=>rfl);(case hg=>rfl);(case hr=>first|(go_simp;done)|(go_simp;rfl));intro pR hg X7 hbox hb;have dG:=ae.mk (bH (g:=ja) (o:=.cells #[.slice iR dn.length iH,.string bU,.string bV,.slice (some Ag) bM.length iG] 25 (0,0)) (by (with_reducible repeat (first|refine ah ?_ _|refine ak ?_|refine ai ?_ _));exact dS.out) hb);have dM:=ae.mk (bf (by repeat (first|(with_reducible first|exact HB.out|apply au|apply af|apply aj|refine az ?_ nT.out)|exact HB.out)) hb);have dW:=ae.mk (hbox);have fK:=ae.mk ((by rw [hg];exact (aZ (by repeat (first|(with_reducible first|exact HB.out|apply au|apply af|apply aj|refine az ?_ nT.out)|exact HB.out))):w.heap.size≤pR));have iO:=ae.mk ((by rw [hg];exact (aZ (by repeat (first|(with_reducible first|exact HB.out|apply au|apply af|apply aj|refine az ?_ nT.out)|exact HB.out))):w.heap.size≤pR));have jE:=ae.mk ((by rw [hg];exact Nat.ne_of_lt (gG (g:=ja) (o:=.cells #[.slice iR dn.length iH,.string bU,.string bV,.slice (some Ag) bM.length iG] 25 (0,0)) (by (with_reducible repeat (first|refine ah ?_ _|refine ak ?_|refine ai ?_ _));exact dS.out)):ja ≠ pR));have lg:=ae.mk ((by rw [hg];exact Nat.ne_of_gt (gG (g:=ja) (o:=.cells #[.slice iR dn.length iH,.string bU,.string bV,.slice (some Ag) bM.length iG] 25 (0,0)) (by (with_reducible repeat (first|refine ah ?_ _|refine ak ?_|refine ai ?_ _));exact dS.out)):pR ≠ ja));clear dS;clear HB;have dS:=dG;have HB:=dM;have nU:=dW;have adt:=fK;have Ef:=iO;have lV:=jE;have Bi:=lg;clear dG dM dW fK iO jE lg;clear hb hbox hg;have abO:=Bi.out;have abE:=lV.out;have WT:X7.cell? ⟨pR,0,none⟩=some (.int .u8 0):=(ax nU.out 0).trans rfl;have WS:X7.cell? ⟨pR,1,none⟩=some (.int .u8 0):=(ax nU.out 1).trans rfl;have WR:X7.cell? ⟨pR,2,none⟩=some (.int .u8 0):=(ax nU.out 2).trans rfl;have WQ:X7.cell? ⟨pR,3,none⟩=some (.int .u8 0):=(ax nU.out 3).trans rfl;have WO:X7.cell? ⟨pR,4,none⟩=some (.int .i64 0):=(ax nU.out 4).trans rfl;have Vp:=ay nU.out 0;have Vo:=ay nU.out 1;have Vm:=ay nU.out 2;have Vl:=ay nU.out 3;have Vk:=ay nU.out 4)|((with_reducible refine bQ (f:=11) rfl ?_);refine fZ (some 30) rfl rfl Tryz.func11 (by kernel_rfl) rfl #[.agg #[.int .u8 ((aU bM gU).f0),.int .u8 ((aU bM gU).f1),.int .u8 ((aU bM gU).f2),.int .u8 ((aU bM gU).f3),.int .i64 ((aU bM gU).f4)]] rfl (by (try simp only [List.map_toArray,List.map_cons,List.map_nil]);first|done|rfl|(simp only [List.length_drop,List.length_take];rfl)) ?_;(with_reducible refine (ig.calls ((aU bM gU).f0) ((aU bM gU).f1) ((aU bM gU).f2) ((aU bM gU).f3) ((aU bM gU).f4) false _ ?gV Tc.out).mono ?_);(case gV=>exact Kd.gY Ai.out (by repeat (first|(with_reducible first|exact HB.out|apply au|apply af|apply aj|refine az ?_ nT.out|refine az ?_ Ef.out)|exact HB.out)));rintro e xq ⟨rfl,hb⟩;refine ⟨_,rfl,?_⟩;have dG:=ae.mk (bH (g:=ja) (o:=.cells #[.slice iR dn.length iH,.string bU,.string bV,.slice (some Ag) bM.length iG] 25 (0,0)) (by (with_reducible repeat (first|refine ah ?_ _|refine ak ?_|refine ai ?_ _));refine di ?_ lV.out _;(with_reducible repeat (first|refine ah ?_ _|refine ak ?_|refine ai ?_ _));refine di ?_ lV.out _;(with_reducible repeat (first|refine ah ?_ _|refine ak ?_|refine ai ?_ _));refine di ?_ lV.out _;(with_reducible repeat (first|refine ah ?_ _|refine ak ?_|refine ai ?_ _));refine di ?_ lV.out _;(with_reducible repeat (first|refine ah ?_ _|refine ak ?_|refine ai ?_ _));refine di ?_ lV.out _;(with_reducible repeat (first|refine ah ?_ _|refine ak ?_|refine ai ?_ _));exact dS.out) hb);have dM:=ae.mk (bH (g:=pR) (o:=.cells #[.int .u8 ((aU bM gU).f0),.int .u8 ((aU bM gU).f1),.int .u8 ((aU bM gU).f2),.int .u8 ((aU bM gU).f3),.int .i64 ((aU bM gU).f4)] 27 (0,0)) (by (with_reducible repeat (first|refine ah ?_ _|refine ak ?_|refine ai ?_ _));refine bu (cs:=#[.int .u8 ((aU bM gU).f0),.int .u8 ((aU bM gU).f1),.int .u8 ((aU bM gU).f2),.int .u8 ((aU bM gU).f3),.int .i64 0]) ?_ 4 _ rfl;(with_reducible repeat (first|refine ah ?_ _|refine ak ?_|refine ai ?_ _));refine bu (cs:=#[.int .u8 ((aU bM gU).f0),.int .u8 ((aU bM gU).f1),.int .u8 ((aU bM gU).f2),.int .u8 0,.int .i64 0]) ?_ 3 _ rfl;(with_reducible repeat (first|refine ah ?_ _|refine ak ?_|refine ai ?_ _));refine bu (cs:=#[.int .u8 ((aU bM gU).f0),.int .u8 ((aU bM gU).f1),.int .u8 0,.int .u8 0,.int .i64 0]) ?_ 2 _ rfl;(with_reducible repeat (first|refine ah ?_ _|refine ak ?_|refine ai ?_ _));refine bu (cs:=#[.int .u8 ((aU bM gU).f0),.int .u8 0,.int .u8 0,.int .u8 0,.int .i64 0]) ?_ 1 _ rfl;(with_reducible repeat (first|refine ah ?_ _|refine ak ?_|refine ai ?_ _));refine bu (cs:=#[.int .u8 0,.int .u8 0,.int .u8 0,.int .u8 0,.int .i64 0]) ?_ 0 _ rfl;(with_reducible repeat (first|refine ah ?_ _|refine ak ?_|refine ai ?_ _));exact nU.out) hb);have dW:=ae.mk (bf (by repeat (first|(with_reducible first|exact HB.out|apply au|apply af|apply aj|refine az ?_ nT.out|refine az ?_ Ef.out)|exact HB.out)) hb);clear dS;clear nU;clear HB;have dS:=dG;have nU:=dM;have HB:=dW;clear dG dM dW;(try clear hb);(try clear hb2);(try clear hk);(try clear hi)))
                    go_ret
                    exact ⟨by first|rfl|(simp [bF,bD] <;> rfl)|(simp [*,bF,bD] <;> rfl),by repeat (first|(with_reducible first|exact HB.out|apply au|apply af|apply aj|refine az ?_ nT.out|refine az ?_ Ef.out)|exact HB.out)⟩
                · rw [if_neg c15] at H
                  exact absurd H (by simp)
              · rw [if_neg c14] at H
                exact absurd H (by simp)
            · rw [if_neg c13] at H
              have uh:decide (gU < (bM.length:Int))=false:=decide_eq_false c13
              clear c13
              replace H:=Option.bind_eq_some_iff.mp H
              obtain ⟨t108,SX,H⟩:=H
              replace H:(if t108=true then ((fQ.f bV).bind fun t109=>(if t109=true then (some (decide ((bM.length:Int)≤200))) else (some false))) else (some false))=some r:=H
              have A26:=ae.mk SX
              clear SX
              by_cases XH:t108=true
              · subst XH
                have H1:((fQ.f bV).bind fun t109=>(if t109=true then (some (decide ((bM.length:Int)≤200))) else (some false)))=some r:=by rw [if_pos rfl] at H;exact H
                clear H
                have H:=H1
                clear H1
                replace H:=Option.bind_eq_some_iff.mp H
                obtain ⟨t109,SV,H⟩:=H
                replace H:(if t109=true then (some (decide ((bM.length:Int)≤200))) else (some false))=some r:=H
                have A28:=ae.mk SV
                clear SV
                by_cases c29:t109=true
                · subst c29
                  have H1:(some (decide ((bM.length:Int)≤200)))=some r:=by rw [if_pos rfl] at H;exact H
                  clear H
                  have H:=H1
                  clear H1
                  obtain rfl:=Option.some.inj H
                  have WC:wr.cell? ⟨ja,0,none⟩=some (.slice iR dn.length iH):=(ax dS.out 0).trans rfl
                  have WB:wr.cell? ⟨ja,1,none⟩=some (.string bU):=(ax dS.out 1).trans rfl
                  have WA:wr.cell? ⟨ja,2,none⟩=some (.string bV):=(ax dS.out 2).trans rfl
                  have Wy:wr.cell? ⟨ja,3,none⟩=some (.slice jg bM.length iG):=(ax dS.out 3).trans rfl
                  have U9:=ay dS.out 0
                  have U8:=ay dS.out 1
                  have U7:=ay dS.out 2
                  have U6:=ay dS.out 3
                  go_wp2_with (first|((with_reducible refine bQ (f:=37) rfl ?_);refine fZ (some 35) rfl rfl Tryz.func37 (by kernel_rfl) rfl #[.string bU] rfl (by (try simp only [List.map_toArray,List.map_cons,List.map_nil]);first|done|rfl|(simp only [List.length_drop,List.length_take];rfl)) ?_;(with_reducible refine (fQ.calls bU true _ A26.out).mono ?_);rintro e w31 ⟨rfl,hb⟩;refine ⟨_,rfl,?_⟩;have dG:=ae.mk (bH (g:=ja) (o:=.cells #[.slice iR dn.length iH,.string bU,.string bV,.slice jg bM.length iG] 25 (0,0)) (by (with_reducible repeat (first|refine ah ?_ _|refine ak ?_|refine ai ?_ _));exact dS.out) hb);have dM:=ae.mk (bf (by repeat (first|(with_reducible first|exact HB.out|apply au|apply af|apply aj|refine az ?_ nT.out)|exact HB.out)) hb);clear dS;clear HB;have dS:=dG;have HB:=dM;clear dG dM;(try clear hb);(try clear hb2);(try clear hk);(try clear hi);have Gy:w31.cell? ⟨ja,0,none⟩=some (.slice iR dn.length iH):=(ax dS.out 0).trans rfl;have Gx:w31.cell? ⟨ja,1,none⟩=some (.string bU):=(ax dS.out 1).trans rfl;have Gw:w31.cell? ⟨ja,2,none⟩=some (.string bV):=(ax dS.out 2).trans rfl;have Gv:w31.cell? ⟨ja,3,none⟩=some (.slice jg bM.length iG):=(ax dS.out 3).trans rfl;have Gu:=ay dS.out 0;have Gt:=ay dS.out 1;have Gs:=ay dS.out 2;have Gq:=ay dS.out 3)|(go_at_call 37;(with_reducible refine (fQ.calls bV true _ A28.out).mono ?_);rintro e w33 ⟨rfl,hb⟩;have dG:=ae.mk (bH (g:=ja) (o:=.cells #[.slice iR dn.length iH,.string bU,.string bV,.slice jg bM.length iG] 25 (0,0)) (by (with_reducible repeat (first|refine ah ?_ _|refine ak ?_|refine ai ?_ _));exact dS.out) hb);have dM:=ae.mk (bf (by repeat (first|(with_reducible first|exact HB.out|apply au|apply af|apply aj|refine az ?_ nT.out)|exact HB.out)) hb);clear dS;clear HB;have dS:=dG;have HB:=dM;clear dG dM;(try clear hb);(try clear hb2);(try clear hk);(try clear hi);have aiv:w33.cell? ⟨ja,0,none⟩=some (.slice iR dn.length iH):=(ax dS.out 0).trans rfl;have aiu:w33.cell? ⟨ja,1,none⟩=some (.string bU):=(ax dS.out 1).trans rfl;have ait:w33.cell? ⟨ja,2,none⟩=some (.string bV):=(ax dS.out 2).trans rfl;have ais:w33.cell? ⟨ja,3,none⟩=some (.slice jg bM.length iG):=(ax dS.out 3).trans rfl;have agm:=ay dS.out 0;have agl:=ay dS.out 1;have agk:=ay dS.out 2;have agj:=ay dS.out 3))
                  go_ret
                  exact ⟨by first|rfl|(simp [bF,bD] <;> rfl)|(simp [*,bF,bD] <;> rfl),by repeat (first|(with_reducible first|exact HB.out|apply au|apply af|apply aj|refine az ?_ nT.out)|exact HB.out)⟩
                · replace c29:=Bool.eq_false_iff.mpr c29
                  subst c29
                  have H1:(some false)=some r:=by rw [if_neg (show ¬ (false=true) by decide)] at H;exact H
                  clear H
                  have H:=H1
                  clear H1
                  obtain rfl:=Option.some.inj H
                  have MH:wr.cell? ⟨ja,0,none⟩=some (.slice iR dn.length iH):=(ax dS.out 0).trans rfl
                  have MG:wr.cell? ⟨ja,1,none⟩=some (.string bU):=(ax dS.out 1).trans rfl
                  have MF:wr.cell? ⟨ja,2,none⟩=some (.string bV):=(ax dS.out 2).trans rfl
                  have MC:wr.cell? ⟨ja,3,none⟩=some (.slice jg bM.length iG):=(ax dS.out 3).trans rfl
                  have LK:=ay dS.out 0
                  have LJ:=ay dS.out 1
                  have LH:=ay dS.out 2
                  have LG:=ay dS.out 3
                  go_wp2_with (first|((with_reducible refine bQ (f:=37) rfl ?_);refine fZ (some 35) rfl rfl Tryz.func37 (by kernel_rfl) rfl #[.string bU] rfl (by (try simp only [List.map_toArray,List.map_cons,List.map_nil]);first|done|rfl|(simp only [List.length_drop,List.length_take];rfl)) ?_;(with_reducible refine (fQ.calls bU true _ A26.out).mono ?_);rintro e w36 ⟨rfl,hb⟩;refine ⟨_,rfl,?_⟩;have dG:=ae.mk (bH (g:=ja) (o:=.cells #[.slice iR dn.length iH,.string bU,.string bV,.slice jg bM.length iG] 25 (0,0)) (by (with_reducible repeat (first|refine ah ?_ _|refine ak ?_|refine ai ?_ _));exact dS.out) hb);have dM:=ae.mk (bf (by repeat (first|(with_reducible first|exact HB.out|apply au|apply af|apply aj|refine az ?_ nT.out)|exact HB.out)) hb);clear dS;clear HB;have dS:=dG;have HB:=dM;clear dG dM;(try clear hb);(try clear hb2);(try clear hk);(try clear hi);have Wl:w36.cell? ⟨ja,0,none⟩=some (.slice iR dn.length iH):=(ax dS.out 0).trans rfl;have Wj:w36.cell? ⟨ja,1,none⟩=some (.string bU):=(ax dS.out 1).trans rfl;have Wi:w36.cell? ⟨ja,2,none⟩=some (.string bV):=(ax dS.out 2).trans rfl;have Wh:w36.cell? ⟨ja,3,none⟩=some (.slice jg bM.length iG):=(ax dS.out 3).trans rfl;have U1:=ay dS.out 0;have U0:=ay dS.out 1;have UZ:=ay dS.out 2;have UY:=ay dS.out 3)|(go_at_call 37;(with_reducible refine (fQ.calls bV false _ A28.out).mono ?_);rintro e Tf ⟨rfl,hb⟩;have dG:=ae.mk (bH (g:=ja) (o:=.cells #[.slice iR dn.length iH,.string bU,.string bV,.slice jg bM.length iG] 25 (0,0)) (by (with_reducible repeat (first|refine ah ?_ _|refine ak ?_|refine ai ?_ _));exact dS.out) hb);have dM:=ae.mk (bf (by repeat (first|(with_reducible first|exact HB.out|apply au|apply af|apply aj|refine az ?_ nT.out)|exact HB.out)) hb);clear dS;clear HB;have dS:=dG;have HB:=dM;clear dG dM;(try clear hb);(try clear hb2);(try clear hk);(try clear hi)))
                  go_ret
                  exact ⟨by first|rfl|(simp [bF,bD] <;> rfl)|(simp [*,bF,bD] <;> rfl),by repeat (first|(with_reducible first|exact HB.out|apply au|apply af|apply aj|refine az ?_ nT.out)|exact HB.out)⟩
              · replace XH:=Bool.eq_false_iff.mpr XH
                subst XH
                have H1:(some false)=some r:=by rw [if_neg (show ¬ (false=true) by decide)] at H;exact H
                clear H
                have H:=H1
                clear H1
                obtain rfl:=Option.some.inj H
                have We:wr.cell? ⟨ja,0,none⟩=some (.slice iR dn.length iH):=(ax dS.out 0).trans rfl
                have V9:wr.cell? ⟨ja,1,none⟩=some (.string bU):=(ax dS.out 1).trans rfl
                have V8:wr.cell? ⟨ja,2,none⟩=some (.string bV):=(ax dS.out 2).trans rfl
                have V7:wr.cell? ⟨ja,3,none⟩=some (.slice jg bM.length iG):=(ax dS.out 3).trans rfl
                have UX:=ay dS.out 0
                have UW:=ay dS.out 1
                have UU:=ay dS.out 2
                have UT:=ay dS.out 3
                go_wp2_with (first|((with_reducible refine bQ (f:=37) rfl ?_);refine fZ (some 35) rfl rfl Tryz.func37 (by kernel_rfl) rfl #[.string bU] rfl (by (try simp only [List.map_toArray,List.map_cons,List.map_nil]);first|done|rfl|(simp only [List.length_drop,List.length_take];rfl)) ?_;(with_reducible refine (fQ.calls bU false _ A26.out).mono ?_);rintro e w40 ⟨rfl,hb⟩;refine ⟨_,rfl,?_⟩;have dG:=ae.mk (bH (g:=ja) (o:=.cells #[.slice iR dn.length iH,.string bU,.string bV,.slice jg bM.length iG] 25 (0,0)) (by (with_reducible repeat (first|refine ah ?_ _|refine ak ?_|refine ai ?_ _));exact dS.out) hb);have dM:=ae.mk (bf (by repeat (first|(with_reducible first|exact HB.out|apply au|apply af|apply aj|refine az ?_ nT.out)|exact HB.out)) hb);clear dS;clear HB;have dS:=dG;have HB:=dM;clear dG dM;(try clear hb);(try clear hb2);(try clear hk);(try clear hi)))
                go_ret
                exact ⟨by first|rfl|(simp [bF,bD] <;> rfl)|(simp [*,bF,bD] <;> rfl),by repeat (first|(with_reducible first|exact HB.out|apply au|apply af|apply aj|refine az ?_ nT.out)|exact HB.out)⟩
def o7.f (a0:ByteArray):Option (ByteArray):=if a0.toList=([]:List UInt8) then (some (⟨#[45]⟩:ByteArray)) else (some a0)
set_option maxHeartbeats 8000000 in
set_option maxRecDepth 100000 in
theorem o7.calls (a0:ByteArray) (r:ByteArray) (w:World) (h:o7.f a0=some r) :
    Calls Tryz.prog 19 #[.string a0] w fun e w'=>e=.returned (.string r)∧bz w w':=by
  have H:(if a0.toList=([]:List UInt8) then (some (⟨#[45]⟩:ByteArray)) else (some a0))=some r:=h
  clear h
  by_cases c2:a0.toList=([]:List UInt8)
  · rw [if_pos c2] at H
    have uS:(a0.toList == ([]:List UInt8))=true:=beq_iff_eq.mpr c2
    have zy:(a0.toList != ([]:List UInt8))=false:=bne_eq_false_iff_eq.mpr c2
    clear c2
    obtain rfl:=Option.some.inj H
    go_enter Tryz.func19,Tryz.ntmps19
    go_wp2
    go_ret
    exact ⟨by first|rfl|(simp;done)|(simp [*];done),by repeat (first|exact bz.refl _|apply bz.step)⟩
  · rw [if_neg c2] at H
    have uS:(a0.toList == ([]:List UInt8))=false:=beq_eq_false_iff_ne.mpr c2
    have zy:(a0.toList != ([]:List UInt8))=true:=bne_iff_ne.mpr c2
    obtain rfl:=Option.some.inj H
    go_enter Tryz.func19,Tryz.ntmps19
    go_wp2
    go_ret
    exact ⟨by first|rfl|(simp;done)|(simp [*];done),by repeat (first|exact bz.refl _|apply bz.step)⟩
end Go.Proofs.YtkclndkbccbhaaaGreatDoor.P
end
