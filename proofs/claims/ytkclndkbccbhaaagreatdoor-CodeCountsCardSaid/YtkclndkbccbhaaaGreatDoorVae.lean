/- Parts of the proof of CodeCounts: what the functions that it reaches compute, and plain facts about that. -/
import Derived.Test.YtkclndkbccbhaaaGreatDoorVac
import Derived.Test.YtkclndkbccbhaaaGreatDoorVad
set_option linter.unusedVariables false
set_option linter.unusedSimpArgs false
section
namespace Go.Proofs.YtkclndkbccbhaaaGreatDoor.P
open Go.RowKit Go.Proofs.ae.aX Go.Proofs.ae.dh Go.Proofs.ae.dI
attribute [local go_sem] iY iV jL jK iy iw iW iU
def dC.f (a0:ByteArray):Option (Bool):=if (a0.size:Int)≤30 then ((fG.f a0 (⟨#[97,98,99,100,101,102,103,104,105,106,107,108,109,110,111,112,113,114,115,116,117,118,119,120,121,122,48,49,50,51,52,53,54,55,56,57]⟩:ByteArray)).bind fun t101=>(some (t101.toList == ([]:List UInt8)))) else (some false)
set_option maxHeartbeats 8000000 in
set_option maxRecDepth 100000 in
theorem dC.calls (a0:ByteArray) (r:Bool) (w:World) (h:dC.f a0=some r) :
    Calls Tryz.prog 37 #[.string a0] w fun e w'=>e=.returned (.bool r)∧Below w.heap.size w w':=by
  have HB:=af.mk (Below.refl w.heap.size w)
  have H:(if (a0.size:Int)≤30 then ((fG.f a0 (⟨#[97,98,99,100,101,102,103,104,105,106,107,108,109,110,111,112,113,114,115,116,117,118,119,120,121,122,48,49,50,51,52,53,54,55,56,57]⟩:ByteArray)).bind fun t101=>(some (t101.toList == ([]:List UInt8)))) else (some false))=some r:=h
  clear h
  by_cases c2:(a0.size:Int)≤30
  · rw [if_pos c2] at H
    have rJ:decide ((a0.size:Int)≤30)=true:=decide_eq_true c2
    have wE:decide (a0.size≤30)=true:=decide_eq_true (by omega)
    clear c2
    replace H:=Option.bind_eq_some_iff.mp H
    obtain ⟨t101,BI,H⟩:=H
    replace H:(some (t101.toList == ([]:List UInt8)))=some r:=H
    have A3:=af.mk BI
    clear BI
    obtain rfl:=Option.some.inj H
    go_enter Tryz.func37,Tryz.ntmps37
    go_wp2_with (first|(go_at_call 54;(with_reducible refine (fG.calls a0 (⟨#[97,98,99,100,101,102,103,104,105,106,107,108,109,110,111,112,113,114,115,116,117,118,119,120,121,122,48,49,50,51,52,53,54,55,56,57]⟩:ByteArray) t101 _ A3.out).mono ?_);rintro e w4 ⟨rfl,hb⟩;have dM:=af.mk (bf (by repeat (first|(with_reducible first|exact HB.out|apply ai|apply ag|apply ah)|exact HB.out)) hb);clear HB;have HB:=dM;clear dM;(try clear hb);(try clear hb2);(try clear hk);(try clear hi)))
    go_ret
    exact ⟨by first|rfl|(simp [bC,bz] <;> rfl)|(simp [*,bC,bz] <;> rfl),by repeat (first|(with_reducible first|exact HB.out|apply ai|apply ag|apply ah)|exact HB.out)⟩
  · rw [if_neg c2] at H
    have rJ:decide ((a0.size:Int)≤30)=false:=decide_eq_false c2
    have wE:decide (a0.size≤30)=false:=decide_eq_false (by omega)
    clear c2
    obtain rfl:=Option.some.inj H
    go_enter Tryz.func37,Tryz.ntmps37
    go_wp2
    go_ret
    exact ⟨by first|rfl|(simp [bC,bz] <;> rfl)|(simp [*,bC,bz] <;> rfl),by repeat (first|(with_reducible first|exact HB.out|apply ai|apply ag|apply ah)|exact HB.out)⟩
mutual
def bV.l0:Nat→List ByteArray→Int→Int→List ByteArray→ByteArray→ByteArray→List (iQ)→Option (Bool)
  | 0,_,_,_,_,_,_,_=>none
  | k+1,x8,x9,x10,uO,rU,rQ,oJ=>if x10 < x9 then (if 0≤x10 then (if x10 < (x8.length:Int) then (if (dZ ByteArray.empty x8 x10).toList=([]:List UInt8) then (some false) else ((dC.f (dZ ByteArray.empty x8 x10)).bind fun t104=>(if t104=true then (bV.l0 k x8 x9 (wrap64 (x10+1)) uO rU rQ oJ) else (some false)))) else (none)) else (none)) else (bV.l1 k oJ (oJ.length:Int) 0 uO rU rQ oJ)
def bV.l1:Nat→List (iQ)→Int→Int→List ByteArray→ByteArray→ByteArray→List (iQ)→Option (Bool)
  | 0,_,_,_,_,_,_,_=>none
  | k+1,NU,x24,x25,uO,rU,rQ,oJ=>if x25 < x24 then (if 0≤x25 then (if x25 < (NU.length:Int) then ((dD.f ((aQ NU x25).f0) ((aQ NU x25).f1) ((aQ NU x25).f2) ((aQ NU x25).f3) ((aQ NU x25).f4)).bind fun t107=>(if t107=true then (bV.l1 k NU x24 (wrap64 (x25+1)) uO rU rQ oJ) else (some false))) else (none)) else (none)) else ((dC.f rU).bind fun t108=>(if t108=true then ((dC.f rQ).bind fun t109=>(if t109=true then (some (decide ((oJ.length:Int)≤200))) else (some false))) else (some false)))
end
def bV.f (k:Nat) (bn:List ByteArray) (bD:ByteArray) (bu:ByteArray) (aV:List (iQ)):Option (Bool):=bV.l0 k bn (bn.length:Int) 0 bn bD bu aV
theorem bV.dR:∀ k,(∀ y0 y1 y2 y3 y4 y5 y6,bM (bV.l0 k y0 y1 y2 y3 y4 y5 y6) (bV.l0 (k+1) y0 y1 y2 y3 y4 y5 y6))∧(∀ y0 y1 y2 y3 y4 y5 y6,bM (bV.l1 k y0 y1 y2 y3 y4 y5 y6) (bV.l1 (k+1) y0 y1 y2 y3 y4 y5 y6))
  | 0=>⟨fun _ _ _ _ _ _ _ r h=>by simp [bV.l0] at h,fun _ _ _ _ _ _ _ r h=>by simp [bV.l1] at h⟩
  | k+1=>by
    obtain ⟨gV,ih1⟩:=bV.dR k
    refine ⟨?_,?_⟩
    · intro y0 y1 y2 y3 y4 y5 y6
      unfold bV.l0
      repeat' first
      | (with_reducible exact gV _ _ _ _ _ _ _)
      | (with_reducible exact ih1 _ _ _ _ _ _ _)
      | (with_reducible exact bM.refl _)
      | (with_reducible exact bM.none _)
      | (with_reducible refine bM.ite ?_ ?_)
      | (with_reducible refine bM.bind ?_ (fun _=>?_))
      | exact gV _ _ _ _ _ _ _
      | exact ih1 _ _ _ _ _ _ _
      | exact bM.none _
      | refine bM.ite ?_ ?_
      | refine bM.bind ?_ (fun _=>?_)
    · intro y0 y1 y2 y3 y4 y5 y6
      unfold bV.l1
      repeat' first
      | (with_reducible exact gV _ _ _ _ _ _ _)
      | (with_reducible exact ih1 _ _ _ _ _ _ _)
      | (with_reducible exact bM.refl _)
      | (with_reducible exact bM.none _)
      | (with_reducible refine bM.ite ?_ ?_)
      | (with_reducible refine bM.bind ?_ (fun _=>?_))
      | exact gV _ _ _ _ _ _ _
      | exact ih1 _ _ _ _ _ _ _
      | exact bM.none _
      | refine bM.ite ?_ ?_
      | refine bM.bind ?_ (fun _=>?_)
theorem bV.mono:∀ a0 a1 a2 a3 k,bM (bV.f k a0 a1 a2 a3) (bV.f (k+1) a0 a1 a2 a3):=by
  intro a0 a1 a2 a3 k
  obtain ⟨gV,ih1⟩:=bV.dR k
  unfold bV.f
  repeat' first
      | (with_reducible exact gV _ _ _ _ _ _ _)
      | (with_reducible exact ih1 _ _ _ _ _ _ _)
      | (with_reducible exact bM.refl _)
      | (with_reducible exact bM.none _)
      | (with_reducible refine bM.ite ?_ ?_)
      | (with_reducible refine bM.bind ?_ (fun _=>?_))
      | exact gV _ _ _ _ _ _ _
      | exact ih1 _ _ _ _ _ _ _
      | exact bM.none _
      | refine bM.ite ?_ ?_
      | refine bM.bind ?_ (fun _=>?_)
set_option maxHeartbeats 8000000 in
set_option maxRecDepth 100000 in
theorem bV.calls (k:Nat) (dN:Option Addr) (dK:Nat) (bn:List ByteArray) (bD:ByteArray) (bu:ByteArray) (dQ:Option Addr) (dJ:Nat) (aV:List (iQ)) (r:Bool) (w:World) (pV:Kd.C Kd.string w dN bn.length bn) (pX:bn.length≤dK) (pU:Kd.C k27 w dQ aV.length aV) (pW:aV.length≤dJ) (iC:Kd.C pK w pM jO.length jO) (h:bV.f k bn bD bu aV=some r) :
    Calls Tryz.prog 18 #[.agg #[.slice dN bn.length dK,.string bD,.string bu,.slice dQ aV.length dJ]] w fun e w'=>e=.returned (.bool r)∧Below w.heap.size w w':=by
  have KJ:=Tryz.underlying25
  have PY:=Tryz.underlying27
  have nH:=af.mk pV
  have ru:=af.mk pX
  clear pV pX
  have oH:=af.mk pU
  have rq:=af.mk pW
  clear pU pW
  have uo:=af.mk iC
  clear iC
  have HB:=af.mk (Below.refl w.heap.size w)
  have H:(bV.l0 k bn (bn.length:Int) 0 bn bD bu aV)=some r:=h
  clear h
  have H':=af.mk H
  clear H
  go_enter Tryz.func18,Tryz.ntmps18
  go_wp2_with (first|((with_reducible refine eu (N:=1) rfl ?_);(try (refine jd (by rfl) ?_;dsimp only));refine iK ?hg (N:=1) ?hd (cs:=#[.slice dN bn.length dK,.string bD,.string bu,.slice dQ aV.length dJ]) (t:=25) ?hr ?_;(case hd=>rfl);(case hg=>rfl);(case hr=>first|(go_simp;done)|(go_simp;rfl));intro dY hg w2 hbox hb;have dM:=af.mk (bf (by repeat (first|(with_reducible first|exact HB.out|apply ai|apply ag|apply ah)|exact HB.out)) hb);have dP:=af.mk (hbox);have eY:=af.mk ((by rw [hg];exact (bG (by repeat (first|(with_reducible first|exact HB.out|apply ai|apply ag|apply ah)|exact HB.out))):w.heap.size≤dY));have iD:=af.mk ((by rw [hg];exact (bG (by repeat (first|(with_reducible first|exact HB.out|apply ai|apply ag|apply ah)|exact HB.out))):w.heap.size≤dY));clear HB;have HB:=dM;have bZ:=dP;have XN:=eY;have jy:=iD;clear dM dP eY iD;clear hb hbox hg;have zi:w2.cell? ⟨dY,0,none⟩=some (.slice dN bn.length dK):=(ak bZ.out 0).trans rfl;have zh:w2.cell? ⟨dY,1,none⟩=some (.string bD):=(ak bZ.out 1).trans rfl;have zg:w2.cell? ⟨dY,2,none⟩=some (.string bu):=(ak bZ.out 2).trans rfl;have zf:w2.cell? ⟨dY,3,none⟩=some (.slice dQ aV.length dJ):=(ak bZ.out 3).trans rfl;have y9:=ax bZ.out 0;have yZ:=ax bZ.out 1;have yY:=ax bZ.out 2;have yX:=ax bZ.out 3))
  go_loopg [10] k (fun kq v10 w'=>∃ (iT:Int),v10=.int .i64 iT∧af (bV.l0 kq bn (bn.length:Int) iT bn bD bu aV=some r)∧af (kq≤k)∧af (w'.heap[dY]? = some (.cells #[(.slice dN bn.length dK),.string bD,.string bu,(.slice dQ aV.length dJ)] 25 (0,0)))∧af (Below w.heap.size w w'))
  case atStart=>exact ⟨(0),(by first|rfl|(simp;done)|(simp [*];done)),H',⟨Nat.le_refl _⟩,⟨by (with_reducible repeat (first|refine aC ?_ _|refine aK ?_|refine aG ?_ _));exact bZ.out⟩,⟨by repeat (first|(with_reducible first|exact HB.out|apply ai|apply ag|apply ah|refine az ?_ jy.out)|exact HB.out)⟩⟩
  case round =>
    clear H'
    try clear c1
    try clear p2
    try clear zi
    try clear zh
    try clear zg
    try clear zf
    try clear y9
    try clear yZ
    try clear yY
    try clear yX
    obtain ⟨iT,rfl,HA,lH,bZ,HB⟩:=hrel
    cases gk with
    | zero=>exact absurd HA.out (by simp [bV.l0])
    | succ k1 =>
      have H:=HA.out
      clear HA
      simp only [bV.l0] at H
      by_cases c4:iT < (bn.length:Int)
      · rw [if_pos c4] at H
        have Jb:decide (iT < (bn.length:Int))=true:=decide_eq_true c4
        clear c4
        by_cases c5:0≤iT
        · rw [if_pos c5] at H
          have sK:decide (0≤iT)=true:=decide_eq_true c5
          clear c5
          by_cases c6:iT < (bn.length:Int)
          · rw [if_pos c6] at H
            have uh:decide (iT < (bn.length:Int))=true:=decide_eq_true c6
            clear c6
            by_cases c7:(dZ ByteArray.empty bn iT).toList=([]:List UInt8)
            · rw [if_pos c7] at H
              have uK:((dZ ByteArray.empty bn iT).toList == ([]:List UInt8))=true:=beq_iff_eq.mpr c7
              have F8:((dZ ByteArray.empty bn iT).toList != ([]:List UInt8))=false:=bne_eq_false_iff_eq.mpr c7
              clear c7
              obtain rfl:=Option.some.inj H
              have uI:0≤(iT:Int):=of_decide_eq_true (by first|(with_reducible assumption)|assumption)
              have uH:iT < (bn.length:Int):=of_decide_eq_true (by first|(with_reducible assumption)|assumption)
              obtain ⟨EC,IZ,kC⟩:=Kd.ed nH.out iT uI uH
              cases IZ
              replace kC:=(HB.out.cell (World.block_lt_of_cell? w _ kC)).trans kC
              replace uI:=eq_true uI
              replace uH:=eq_true uH
              go_wp2
              go_ret
              exact ⟨by first|rfl|(simp [bC,bz] <;> rfl)|(simp [*,bC,bz] <;> rfl),by repeat (first|(with_reducible first|exact HB.out|apply ai|apply ag|apply ah|refine az ?_ jy.out)|exact HB.out)⟩
            · rw [if_neg c7] at H
              have uK:((dZ ByteArray.empty bn iT).toList == ([]:List UInt8))=false:=beq_eq_false_iff_ne.mpr c7
              have F8:((dZ ByteArray.empty bn iT).toList != ([]:List UInt8))=true:=bne_iff_ne.mpr c7
              replace H:=Option.bind_eq_some_iff.mp H
              obtain ⟨t104,XQ,H⟩:=H
              replace H:(if t104=true then (bV.l0 k1 bn (bn.length:Int) (wrap64 (iT+1)) bn bD bu aV) else (some false))=some r:=H
              have A8:=af.mk XQ
              clear XQ
              by_cases c9:t104=true
              · subst c9
                have H1:(bV.l0 k1 bn (bn.length:Int) (wrap64 (iT+1)) bn bD bu aV)=some r:=by rw [if_pos rfl] at H;exact H
                clear H
                have H:=H1
                clear H1
                have H':=af.mk H
                clear H
                have uI:0≤(iT:Int):=of_decide_eq_true (by first|(with_reducible assumption)|assumption)
                have uH:iT < (bn.length:Int):=of_decide_eq_true (by first|(with_reducible assumption)|assumption)
                obtain ⟨EC,IZ,kC⟩:=Kd.ed nH.out iT uI uH
                cases IZ
                replace kC:=(HB.out.cell (World.block_lt_of_cell? w _ kC)).trans kC
                replace uI:=eq_true uI
                replace uH:=eq_true uH
                go_wp2_with (first|(go_at_call 37;(with_reducible refine (dC.calls (dZ ByteArray.empty bn iT) true _ A8.out).mono ?_);rintro e w10 ⟨rfl,hb⟩;have dM:=af.mk (bW (g:=dY) (o:=.cells #[.slice (some EC) bn.length dK,.string bD,.string bu,.slice dQ aV.length dJ] 25 (0,0)) (by (with_reducible repeat (first|refine aC ?_ _|refine aK ?_|refine aG ?_ _));exact bZ.out) hb);have dP:=af.mk (bf (by repeat (first|(with_reducible first|exact HB.out|apply ai|apply ag|apply ah|refine az ?_ jy.out)|exact HB.out)) hb);clear bZ;clear HB;have bZ:=dM;have HB:=dP;clear dM dP;(try clear hb);(try clear hb2);(try clear hk);(try clear hi)))
                go_roundg k1
                case measure=>have:=lH.out;omega
                case rel=>exact ⟨(wrap64 (iT+1)),(by first|rfl|(simp;done)|(simp [*];done)),H',⟨by have:=lH.out;omega⟩,⟨by (with_reducible repeat (first|refine aC ?_ _|refine aK ?_|refine aG ?_ _));exact bZ.out⟩,⟨by repeat (first|(with_reducible first|exact HB.out|apply ai|apply ag|apply ah|refine az ?_ jy.out)|exact HB.out)⟩⟩
              · replace c9:=Bool.eq_false_iff.mpr c9
                subst c9
                have H1:(some false)=some r:=by rw [if_neg (show ¬ (false=true) by decide)] at H;exact H
                clear H
                have H:=H1
                clear H1
                obtain rfl:=Option.some.inj H
                have uI:0≤(iT:Int):=of_decide_eq_true (by first|(with_reducible assumption)|assumption)
                have uH:iT < (bn.length:Int):=of_decide_eq_true (by first|(with_reducible assumption)|assumption)
                obtain ⟨EC,IZ,kC⟩:=Kd.ed nH.out iT uI uH
                cases IZ
                replace kC:=(HB.out.cell (World.block_lt_of_cell? w _ kC)).trans kC
                replace uI:=eq_true uI
                replace uH:=eq_true uH
                go_wp2_with (first|(go_at_call 37;(with_reducible refine (dC.calls (dZ ByteArray.empty bn iT) false _ A8.out).mono ?_);rintro e Pg ⟨rfl,hb⟩;have dM:=af.mk (bW (g:=dY) (o:=.cells #[.slice (some EC) bn.length dK,.string bD,.string bu,.slice dQ aV.length dJ] 25 (0,0)) (by (with_reducible repeat (first|refine aC ?_ _|refine aK ?_|refine aG ?_ _));exact bZ.out) hb);have dP:=af.mk (bf (by repeat (first|(with_reducible first|exact HB.out|apply ai|apply ag|apply ah|refine az ?_ jy.out)|exact HB.out)) hb);clear bZ;clear HB;have bZ:=dM;have HB:=dP;clear dM dP;(try clear hb);(try clear hb2);(try clear hk);(try clear hi)))
                go_ret
                exact ⟨by first|rfl|(simp [bC,bz] <;> rfl)|(simp [*,bC,bz] <;> rfl),by repeat (first|(with_reducible first|exact HB.out|apply ai|apply ag|apply ah|refine az ?_ jy.out)|exact HB.out)⟩
          · rw [if_neg c6] at H
            exact absurd H (by simp)
        · rw [if_neg c5] at H
          exact absurd H (by simp)
      · rw [if_neg c4] at H
        have Jb:decide (iT < (bn.length:Int))=false:=decide_eq_false c4
        clear c4
        have H':=af.mk H
        clear H
        have En:wr.cell? ⟨dY,0,none⟩=some (.slice dN bn.length dK):=(ak bZ.out 0).trans rfl
        have Em:wr.cell? ⟨dY,1,none⟩=some (.string bD):=(ak bZ.out 1).trans rfl
        have Ej:wr.cell? ⟨dY,2,none⟩=some (.string bu):=(ak bZ.out 2).trans rfl
        have Ei:wr.cell? ⟨dY,3,none⟩=some (.slice dQ aV.length dJ):=(ak bZ.out 3).trans rfl
        have Ed:=ax bZ.out 0
        have Ec:=ax bZ.out 1
        have Eb:=ax bZ.out 2
        have Ea:=ax bZ.out 3
        go_wp2
        go_loopg [25] k1 (fun kq v25 w'=>∃ (dO:Int),v25=.int .i64 dO∧af (bV.l1 kq aV (aV.length:Int) dO bn bD bu aV=some r)∧af (kq≤k1)∧af (w'.heap[dY]? = some (.cells #[(.slice dN bn.length dK),.string bD,.string bu,(.slice dQ aV.length dJ)] 25 (0,0)))∧af (Below w.heap.size w w'))
        case atStart=>exact ⟨(0),(by first|rfl|(simp;done)|(simp [*];done)),H',⟨Nat.le_refl _⟩,⟨by (with_reducible repeat (first|refine aC ?_ _|refine aK ?_|refine aG ?_ _));exact bZ.out⟩,⟨by repeat (first|(with_reducible first|exact HB.out|apply ai|apply ag|apply ah|refine az ?_ jy.out)|exact HB.out)⟩⟩
        case round =>
          clear H'
          try clear c1
          try clear p1
          try clear q1
          try clear hx1
          try clear p2
          try clear c4
          try clear Jb
          try clear c5
          try clear sK
          try clear c6
          try clear uh
          try clear p6
          try clear c7
          try clear uK
          try clear F8
          try clear c9
          try clear p10
          try clear q10
          try clear Ym
          try clear En
          try clear Em
          try clear Ej
          try clear Ei
          try clear zi
          try clear zh
          try clear zg
          try clear zf
          try clear Ed
          try clear Ec
          try clear Eb
          try clear Ea
          try clear y9
          try clear yZ
          try clear yY
          try clear yX
          try clear kC
          try clear uI
          try clear p2
          try clear uH
          obtain ⟨dO,rfl,HA,EI,bZ,HB⟩:=hrel
          cases gk with
          | zero=>exact absurd HA.out (by simp [bV.l1])
          | succ k2 =>
            have H:=HA.out
            clear HA
            simp only [bV.l1] at H
            by_cases c13:dO < (aV.length:Int)
            · rw [if_pos c13] at H
              have Ji:decide (dO < (aV.length:Int))=true:=decide_eq_true c13
              clear c13
              by_cases c14:0≤dO
              · rw [if_pos c14] at H
                have sN:decide (0≤dO)=true:=decide_eq_true c14
                clear c14
                by_cases c15:dO < (aV.length:Int)
                · rw [if_pos c15] at H
                  have yh:decide (dO < (aV.length:Int))=true:=decide_eq_true c15
                  clear c15
                  replace H:=Option.bind_eq_some_iff.mp H
                  obtain ⟨t107,BJ,H⟩:=H
                  replace H:(if t107=true then (bV.l1 k2 aV (aV.length:Int) (wrap64 (dO+1)) bn bD bu aV) else (some false))=some r:=H
                  have O9:=af.mk BJ
                  clear BJ
                  by_cases c17:t107=true
                  · subst c17
                    have H1:(bV.l1 k2 aV (aV.length:Int) (wrap64 (dO+1)) bn bD bu aV)=some r:=by rw [if_pos rfl] at H;exact H
                    clear H
                    have H:=H1
                    clear H1
                    have H':=af.mk H
                    clear H
                    have BX:0≤(dO:Int):=of_decide_eq_true (by first|(with_reducible assumption)|assumption)
                    have BR:dO < (aV.length:Int):=of_decide_eq_true (by first|(with_reducible assumption)|assumption)
                    obtain ⟨sO,OM,oZ,oW,oV,oU,oQ⟩:=wG oH.out dO BX BR
                    cases OM
                    replace oZ:=(HB.out.cell (World.block_lt_of_cell? w _ oZ)).trans oZ
                    replace oW:=(HB.out.cell (World.block_lt_of_cell? w _ oW)).trans oW
                    replace oV:=(HB.out.cell (World.block_lt_of_cell? w _ oV)).trans oV
                    replace oU:=(HB.out.cell (World.block_lt_of_cell? w _ oU)).trans oU
                    replace oQ:=(HB.out.cell (World.block_lt_of_cell? w _ oQ)).trans oQ
                    replace BX:=eq_true BX
                    replace BR:=eq_true BR
                    go_wp2_with (first|((with_reducible refine eu (N:=6) rfl ?_);(try (refine jd (by rfl) ?_;dsimp only));refine iK ?hg (N:=6) ?hd (cs:=#[.int .u8 0,.int .u8 0,.int .u8 0,.int .u8 0,.int .i64 0]) (t:=27) ?hr ?_;(case hd=>rfl);(case hg=>rfl);(case hr=>first|(go_simp;done)|(go_simp;rfl));intro jY hg PK hbox hb;have dM:=af.mk (bW (g:=dY) (o:=.cells #[.slice dN bn.length dK,.string bD,.string bu,.slice (some sO) aV.length dJ] 25 (0,0)) (by (with_reducible repeat (first|refine aC ?_ _|refine aK ?_|refine aG ?_ _));exact bZ.out) hb);have dP:=af.mk (bf (by repeat (first|(with_reducible first|exact HB.out|apply ai|apply ag|apply ah|refine az ?_ jy.out)|exact HB.out)) hb);have eY:=af.mk (hbox);have iD:=af.mk ((by rw [hg];exact (bG (by repeat (first|(with_reducible first|exact HB.out|apply ai|apply ag|apply ah|refine az ?_ jy.out)|exact HB.out))):w.heap.size≤jY));have mZ:=af.mk ((by rw [hg];exact (bG (by repeat (first|(with_reducible first|exact HB.out|apply ai|apply ag|apply ah|refine az ?_ jy.out)|exact HB.out))):w.heap.size≤jY));have vP:=af.mk ((by rw [hg];exact Nat.ne_of_lt (l9 (g:=dY) (o:=.cells #[.slice dN bn.length dK,.string bD,.string bu,.slice (some sO) aV.length dJ] 25 (0,0)) (by (with_reducible repeat (first|refine aC ?_ _|refine aK ?_|refine aG ?_ _));exact bZ.out)):dY ≠ jY));have Ak:=af.mk ((by rw [hg];exact Nat.ne_of_gt (l9 (g:=dY) (o:=.cells #[.slice dN bn.length dK,.string bD,.string bu,.slice (some sO) aV.length dJ] 25 (0,0)) (by (with_reducible repeat (first|refine aC ?_ _|refine aK ?_|refine aG ?_ _));exact bZ.out)):jY ≠ dY));clear bZ;clear HB;have bZ:=dM;have HB:=dP;have jA:=eY;have Rx:=iD;have wM:=mZ;have iL:=vP;have uk:=Ak;clear dM dP eY iD mZ vP Ak;clear hb hbox hg;have Xk:=uk.out;have Xg:=iL.out;have Va:PK.cell? ⟨jY,0,none⟩=some (.int .u8 0):=(ak jA.out 0).trans rfl;have U9:PK.cell? ⟨jY,1,none⟩=some (.int .u8 0):=(ak jA.out 1).trans rfl;have U8:PK.cell? ⟨jY,2,none⟩=some (.int .u8 0):=(ak jA.out 2).trans rfl;have U7:PK.cell? ⟨jY,3,none⟩=some (.int .u8 0):=(ak jA.out 3).trans rfl;have U6:PK.cell? ⟨jY,4,none⟩=some (.int .i64 0):=(ak jA.out 4).trans rfl;have TW:=ax jA.out 0;have TV:=ax jA.out 1;have TU:=ax jA.out 2;have TT:=ax jA.out 3;have TS:=ax jA.out 4)|((with_reducible refine bY (f:=11) rfl ?_);refine eQ (some 30) rfl rfl Tryz.func11 (by kernel_rfl) rfl #[.agg #[.int .u8 ((aQ aV dO).f0),.int .u8 ((aQ aV dO).f1),.int .u8 ((aQ aV dO).f2),.int .u8 ((aQ aV dO).f3),.int .i64 ((aQ aV dO).f4)]] rfl (by (try simp only [List.map_toArray,List.map_cons,List.map_nil]);first|done|rfl|(simp only [List.length_drop,List.length_take];rfl)) ?_;(with_reducible refine (dD.calls ((aQ aV dO).f0) ((aQ aV dO).f1) ((aQ aV dO).f2) ((aQ aV dO).f3) ((aQ aV dO).f4) true _ ?fA O9.out).mono ?_);(case fA=>exact Kd.dB uo.out (by repeat (first|(with_reducible first|exact HB.out|apply ai|apply ag|apply ah|refine az ?_ jy.out|refine az ?_ wM.out)|exact HB.out)));rintro e PI ⟨rfl,hb⟩;refine ⟨_,rfl,?_⟩;have dM:=af.mk (bW (g:=dY) (o:=.cells #[.slice dN bn.length dK,.string bD,.string bu,.slice (some sO) aV.length dJ] 25 (0,0)) (by (with_reducible repeat (first|refine aC ?_ _|refine aK ?_|refine aG ?_ _));refine fU ?_ iL.out _;(with_reducible repeat (first|refine aC ?_ _|refine aK ?_|refine aG ?_ _));refine fU ?_ iL.out _;(with_reducible repeat (first|refine aC ?_ _|refine aK ?_|refine aG ?_ _));refine fU ?_ iL.out _;(with_reducible repeat (first|refine aC ?_ _|refine aK ?_|refine aG ?_ _));refine fU ?_ iL.out _;(with_reducible repeat (first|refine aC ?_ _|refine aK ?_|refine aG ?_ _));refine fU ?_ iL.out _;(with_reducible repeat (first|refine aC ?_ _|refine aK ?_|refine aG ?_ _));exact bZ.out) hb);have dP:=af.mk (bW (g:=jY) (o:=.cells #[.int .u8 ((aQ aV dO).f0),.int .u8 ((aQ aV dO).f1),.int .u8 ((aQ aV dO).f2),.int .u8 ((aQ aV dO).f3),.int .i64 ((aQ aV dO).f4)] 27 (0,0)) (by (with_reducible repeat (first|refine aC ?_ _|refine aK ?_|refine aG ?_ _));refine eF (cs:=#[.int .u8 ((aQ aV dO).f0),.int .u8 ((aQ aV dO).f1),.int .u8 ((aQ aV dO).f2),.int .u8 ((aQ aV dO).f3),.int .i64 0]) ?_ 4 _ rfl;(with_reducible repeat (first|refine aC ?_ _|refine aK ?_|refine aG ?_ _));refine eF (cs:=#[.int .u8 ((aQ aV dO).f0),.int .u8 ((aQ aV dO).f1),.int .u8 ((aQ aV dO).f2),.int .u8 0,.int .i64 0]) ?_ 3 _ rfl;(with_reducible repeat (first|refine aC ?_ _|refine aK ?_|refine aG ?_ _));refine eF (cs:=#[.int .u8 ((aQ aV dO).f0),.int .u8 ((aQ aV dO).f1),.int .u8 0,.int .u8 0,.int .i64 0]) ?_ 2 _ rfl;(with_reducible repeat (first|refine aC ?_ _|refine aK ?_|refine aG ?_ _));refine eF (cs:=#[.int .u8 ((aQ aV dO).f0),.int .u8 0,.int .u8 0,.int .u8 0,.int .i64 0]) ?_ 1 _ rfl;(with_reducible repeat (first|refine aC ?_ _|refine aK ?_|refine aG ?_ _));refine eF (cs:=#[.int .u8 0,.int .u8 0,.int .u8 0,.int .u8 0,.int .i64 0]) ?_ 0 _ rfl;(with_reducible repeat (first|refine aC ?_ _|refine aK ?_|refine aG ?_ _));exact jA.out) hb);have eY:=af.mk (bf (by repeat (first|(with_reducible first|exact HB.out|apply ai|apply ag|apply ah|refine az ?_ jy.out|refine az ?_ wM.out)|exact HB.out)) hb);clear bZ;clear jA;clear HB;have bZ:=dM;have jA:=dP;have HB:=eY;clear dM dP eY;(try clear hb);(try clear hb2);(try clear hk);(try clear hi)))
                    go_roundg k2
                    case measure=>have:=lH.out;have:=EI.out;omega
                    case rel=>exact ⟨(wrap64 (dO+1)),(by first|rfl|(simp;done)|(simp [*];done)),H',⟨by have:=lH.out;have:=EI.out;omega⟩,⟨by (with_reducible repeat (first|refine aC ?_ _|refine aK ?_|refine aG ?_ _));exact bZ.out⟩,⟨by repeat (first|(with_reducible first|exact HB.out|apply ai|apply ag|apply ah|refine az ?_ jy.out|refine az ?_ wM.out)|exact HB.out)⟩⟩
                  · replace c17:=Bool.eq_false_iff.mpr c17
                    subst c17
                    have H1:(some false)=some r:=by rw [if_neg (show ¬ (false=true) by decide)] at H;exact H
                    clear H
                    have H:=H1
                    clear H1
                    obtain rfl:=Option.some.inj H
                    have BX:0≤(dO:Int):=of_decide_eq_true (by first|(with_reducible assumption)|assumption)
                    have BR:dO < (aV.length:Int):=of_decide_eq_true (by first|(with_reducible assumption)|assumption)
                    obtain ⟨sO,OM,oZ,oW,oV,oU,oQ⟩:=wG oH.out dO BX BR
                    cases OM
                    replace oZ:=(HB.out.cell (World.block_lt_of_cell? w _ oZ)).trans oZ
                    replace oW:=(HB.out.cell (World.block_lt_of_cell? w _ oW)).trans oW
                    replace oV:=(HB.out.cell (World.block_lt_of_cell? w _ oV)).trans oV
                    replace oU:=(HB.out.cell (World.block_lt_of_cell? w _ oU)).trans oU
                    replace oQ:=(HB.out.cell (World.block_lt_of_cell? w _ oQ)).trans oQ
                    replace BX:=eq_true BX
                    replace BR:=eq_true BR
                    go_wp2_with (first|((with_reducible refine eu (N:=6) rfl ?_);(try (refine jd (by rfl) ?_;dsimp only));refine iK ?hg (N:=6) ?hd (cs:=#[.int .u8 0,.int .u8 0,.int .u8 0,.int .u8 0,.int .i64 0]) (t:=27) ?hr ?_;(case hd=>rfl);(case hg=>rfl);(case hr=>first|(go_simp;done)|(go_simp;rfl));intro jY hg NV hbox hb;have dM:=af.mk (bW (g:=dY) (o:=.cells #[.slice dN bn.length dK,.string bD,.string bu,.slice (some sO) aV.length dJ] 25 (0,0)) (by (with_reducible repeat (first|refine aC ?_ _|refine aK ?_|refine aG ?_ _));exact bZ.out) hb);have dP:=af.mk (bf (by repeat (first|(with_reducible first|exact HB.out|apply ai|apply ag|apply ah|refine az ?_ jy.out)|exact HB.out)) hb);have eY:=af.mk (hbox);have iD:=af.mk ((by rw [hg];exact (bG (by repeat (first|(with_reducible first|exact HB.out|apply ai|apply ag|apply ah|refine az ?_ jy.out)|exact HB.out))):w.heap.size≤jY));have mZ:=af.mk ((by rw [hg];exact (bG (by repeat (first|(with_reducible first|exact HB.out|apply ai|apply ag|apply ah|refine az ?_ jy.out)|exact HB.out))):w.heap.size≤jY));have vP:=af.mk ((by rw [hg];exact Nat.ne_of_lt (l9 (g:=dY) (o:=.cells #[.slice dN bn.length dK,.string bD,.string bu,.slice (some sO) aV.length dJ] 25 (0,0)) (by (with_reducible repeat (first|refine aC ?_ _|refine aK ?_|refine aG ?_ _));exact bZ.out)):dY ≠ jY));have Ak:=af.mk ((by rw [hg];exact Nat.ne_of_gt (l9 (g:=dY) (o:=.cells #[.slice dN bn.length dK,.string bD,.string bu,.slice (some sO) aV.length dJ] 25 (0,0)) (by (with_reducible repeat (first|refine aC ?_ _|refine aK ?_|refine aG ?_ _));exact bZ.out)):jY ≠ dY));clear bZ;clear HB;have bZ:=dM;have HB:=dP;have jA:=eY;have Rx:=iD;have wM:=mZ;have iL:=vP;have uk:=Ak;clear dM dP eY iD mZ vP Ak;clear hb hbox hg;have Xj:=uk.out;have Xf:=iL.out;have U5:NV.cell? ⟨jY,0,none⟩=some (.int .u8 0):=(ak jA.out 0).trans rfl;have U4:NV.cell? ⟨jY,1,none⟩=some (.int .u8 0):=(ak jA.out 1).trans rfl;have U3:NV.cell? ⟨jY,2,none⟩=some (.int .u8 0):=(ak jA.out 2).trans rfl;have U2:NV.cell? ⟨jY,3,none⟩=some (.int .u8 0):=(ak jA.out 3).trans rfl;have U1:NV.cell? ⟨jY,4,none⟩=some (.int .i64 0):=(ak jA.out 4).trans rfl;have TR:=ax jA.out 0;have TQ:=ax jA.out 1;have TP:=ax jA.out 2;have TN:=ax jA.out 3;have TM:=ax jA.out 4)|((with_reducible refine bY (f:=11) rfl ?_);refine eQ (some 30) rfl rfl Tryz.func11 (by kernel_rfl) rfl #[.agg #[.int .u8 ((aQ aV dO).f0),.int .u8 ((aQ aV dO).f1),.int .u8 ((aQ aV dO).f2),.int .u8 ((aQ aV dO).f3),.int .i64 ((aQ aV dO).f4)]] rfl (by (try simp only [List.map_toArray,List.map_cons,List.map_nil]);first|done|rfl|(simp only [List.length_drop,List.length_take];rfl)) ?_;(with_reducible refine (dD.calls ((aQ aV dO).f0) ((aQ aV dO).f1) ((aQ aV dO).f2) ((aQ aV dO).f3) ((aQ aV dO).f4) false _ ?fA O9.out).mono ?_);(case fA=>exact Kd.dB uo.out (by repeat (first|(with_reducible first|exact HB.out|apply ai|apply ag|apply ah|refine az ?_ jy.out|refine az ?_ wM.out)|exact HB.out)));rintro e Gn ⟨rfl,hb⟩;refine ⟨_,rfl,?_⟩;have dM:=af.mk (bW (g:=dY) (o:=.cells #[.slice dN bn.length dK,.string bD,.string bu,.slice (some sO) aV.length dJ] 25 (0,0)) (by (with_reducible repeat (first|refine aC ?_ _|refine aK ?_|refine aG ?_ _));refine fU ?_ iL.out _;(with_reducible repeat (first|refine aC ?_ _|refine aK ?_|refine aG ?_ _));refine fU ?_ iL.out _;(with_reducible repeat (first|refine aC ?_ _|refine aK ?_|refine aG ?_ _));refine fU ?_ iL.out _;(with_reducible repeat (first|refine aC ?_ _|refine aK ?_|refine aG ?_ _));refine fU ?_ iL.out _;(with_reducible repeat (first|refine aC ?_ _|refine aK ?_|refine aG ?_ _));refine fU ?_ iL.out _;(with_reducible repeat (first|refine aC ?_ _|refine aK ?_|refine aG ?_ _));exact bZ.out) hb);have dP:=af.mk (bW (g:=jY) (o:=.cells #[.int .u8 ((aQ aV dO).f0),.int .u8 ((aQ aV dO).f1),.int .u8 ((aQ aV dO).f2),.int .u8 ((aQ aV dO).f3),.int .i64 ((aQ aV dO).f4)] 27 (0,0)) (by (with_reducible repeat (first|refine aC ?_ _|refine aK ?_|refine aG ?_ _));refine eF (cs:=#[.int .u8 ((aQ aV dO).f0),.int .u8 ((aQ aV dO).f1),.int .u8 ((aQ aV dO).f2),.int .u8 ((aQ aV dO).f3),.int .i64 0]) ?_ 4 _ rfl;(with_reducible repeat (first|refine aC ?_ _|refine aK ?_|refine aG ?_ _));refine eF (cs:=#[.int .u8 ((aQ aV dO).f0),.int .u8 ((aQ aV dO).f1),.int .u8 ((aQ aV dO).f2),.int .u8 0,.int .i64 0]) ?_ 3 _ rfl;(with_reducible repeat (first|refine aC ?_ _|refine aK ?_|refine aG ?_ _));refine eF (cs:=#[.int .u8 ((aQ aV dO).f0),.int .u8 ((aQ aV dO).f1),.int .u8 0,.int .u8 0,.int .i64 0]) ?_ 2 _ rfl;(with_reducible repeat (first|refine aC ?_ _|refine aK ?_|refine aG ?_ _));refine eF (cs:=#[.int .u8 ((aQ aV dO).f0),.int .u8 0,.int .u8 0,.int .u8 0,.int .i64 0]) ?_ 1 _ rfl;(with_reducible repeat (first|refine aC ?_ _|refine aK ?_|refine aG ?_ _));refine eF (cs:=#[.int .u8 0,.int .u8 0,.int .u8 0,.int .u8 0,.int .i64 0]) ?_ 0 _ rfl;(with_reducible repeat (first|refine aC ?_ _|refine aK ?_|refine aG ?_ _));exact jA.out) hb);have eY:=af.mk (bf (by repeat (first|(with_reducible first|exact HB.out|apply ai|apply ag|apply ah|refine az ?_ jy.out|refine az ?_ wM.out)|exact HB.out)) hb);clear bZ;clear jA;clear HB;have bZ:=dM;have jA:=dP;have HB:=eY;clear dM dP eY;(try clear hb);(try clear hb2);(try clear hk);(try clear hi)))
                    go_ret
                    exact ⟨by first|rfl|(simp [bC,bz] <;> rfl)|(simp [*,bC,bz] <;> rfl),by repeat (first|(with_reducible first|exact HB.out|apply ai|apply ag|apply ah|refine az ?_ jy.out|refine az ?_ wM.out)|exact HB.out)⟩
                · rw [if_neg c15] at H
                  exact absurd H (by simp)
              · rw [if_neg c14] at H
                exact absurd H (by simp)
            · rw [if_neg c13] at H
              have Ji:decide (dO < (aV.length:Int))=false:=decide_eq_false c13
              clear c13
              replace H:=Option.bind_eq_some_iff.mp H
              obtain ⟨t108,RJ,H⟩:=H
              replace H:(if t108=true then ((dC.f bu).bind fun t109=>(if t109=true then (some (decide ((aV.length:Int)≤200))) else (some false))) else (some false))=some r:=H
              have WQ:=af.mk RJ
              clear RJ
              by_cases Vr:t108=true
              · subst Vr
                have H1:((dC.f bu).bind fun t109=>(if t109=true then (some (decide ((aV.length:Int)≤200))) else (some false)))=some r:=by rw [if_pos rfl] at H;exact H
                clear H
                have H:=H1
                clear H1
                replace H:=Option.bind_eq_some_iff.mp H
                obtain ⟨t109,RI,H⟩:=H
                replace H:(if t109=true then (some (decide ((aV.length:Int)≤200))) else (some false))=some r:=H
                have XU:=af.mk RI
                clear RI
                by_cases c29:t109=true
                · subst c29
                  have H1:(some (decide ((aV.length:Int)≤200)))=some r:=by rw [if_pos rfl] at H;exact H
                  clear H
                  have H:=H1
                  clear H1
                  obtain rfl:=Option.some.inj H
                  have UW:wr.cell? ⟨dY,0,none⟩=some (.slice dN bn.length dK):=(ak bZ.out 0).trans rfl
                  have UU:wr.cell? ⟨dY,1,none⟩=some (.string bD):=(ak bZ.out 1).trans rfl
                  have UT:wr.cell? ⟨dY,2,none⟩=some (.string bu):=(ak bZ.out 2).trans rfl
                  have UR:wr.cell? ⟨dY,3,none⟩=some (.slice dQ aV.length dJ):=(ak bZ.out 3).trans rfl
                  have TG:=ax bZ.out 0
                  have TF:=ax bZ.out 1
                  have TE:=ax bZ.out 2
                  have TD:=ax bZ.out 3
                  go_wp2_with (first|((with_reducible refine bY (f:=37) rfl ?_);refine eQ (some 35) rfl rfl Tryz.func37 (by kernel_rfl) rfl #[.string bD] rfl (by (try simp only [List.map_toArray,List.map_cons,List.map_nil]);first|done|rfl|(simp only [List.length_drop,List.length_take];rfl)) ?_;(with_reducible refine (dC.calls bD true _ WQ.out).mono ?_);rintro e Sl ⟨rfl,hb⟩;refine ⟨_,rfl,?_⟩;have dM:=af.mk (bW (g:=dY) (o:=.cells #[.slice dN bn.length dK,.string bD,.string bu,.slice dQ aV.length dJ] 25 (0,0)) (by (with_reducible repeat (first|refine aC ?_ _|refine aK ?_|refine aG ?_ _));exact bZ.out) hb);have dP:=af.mk (bf (by repeat (first|(with_reducible first|exact HB.out|apply ai|apply ag|apply ah|refine az ?_ jy.out)|exact HB.out)) hb);clear bZ;clear HB;have bZ:=dM;have HB:=dP;clear dM dP;(try clear hb);(try clear hb2);(try clear hk);(try clear hi);have Eh:Sl.cell? ⟨dY,0,none⟩=some (.slice dN bn.length dK):=(ak bZ.out 0).trans rfl;have Eg:Sl.cell? ⟨dY,1,none⟩=some (.string bD):=(ak bZ.out 1).trans rfl;have Ef:Sl.cell? ⟨dY,2,none⟩=some (.string bu):=(ak bZ.out 2).trans rfl;have Ee:Sl.cell? ⟨dY,3,none⟩=some (.slice dQ aV.length dJ):=(ak bZ.out 3).trans rfl;have D9:=ax bZ.out 0;have D8:=ax bZ.out 1;have D7:=ax bZ.out 2;have D6:=ax bZ.out 3)|(go_at_call 37;(with_reducible refine (dC.calls bu true _ XU.out).mono ?_);rintro e JJ ⟨rfl,hb⟩;have dM:=af.mk (bW (g:=dY) (o:=.cells #[.slice dN bn.length dK,.string bD,.string bu,.slice dQ aV.length dJ] 25 (0,0)) (by (with_reducible repeat (first|refine aC ?_ _|refine aK ?_|refine aG ?_ _));exact bZ.out) hb);have dP:=af.mk (bf (by repeat (first|(with_reducible first|exact HB.out|apply ai|apply ag|apply ah|refine az ?_ jy.out)|exact HB.out)) hb);clear bZ;clear HB;have bZ:=dM;have HB:=dP;clear dM dP;(try clear hb);(try clear hb2);(try clear hk);(try clear hi);have Lt:JJ.cell? ⟨dY,0,none⟩=some (.slice dN bn.length dK):=(ak bZ.out 0).trans rfl;have Ls:JJ.cell? ⟨dY,1,none⟩=some (.string bD):=(ak bZ.out 1).trans rfl;have Lr:JJ.cell? ⟨dY,2,none⟩=some (.string bu):=(ak bZ.out 2).trans rfl;have Lp:JJ.cell? ⟨dY,3,none⟩=some (.slice dQ aV.length dJ):=(ak bZ.out 3).trans rfl;have KW:=ax bZ.out 0;have KU:=ax bZ.out 1;have KT:=ax bZ.out 2;have KR:=ax bZ.out 3))
                  go_ret
                  exact ⟨by first|rfl|(simp [bC,bz] <;> rfl)|(simp [*,bC,bz] <;> rfl),by repeat (first|(with_reducible first|exact HB.out|apply ai|apply ag|apply ah|refine az ?_ jy.out)|exact HB.out)⟩
                · replace c29:=Bool.eq_false_iff.mpr c29
                  subst c29
                  have H1:(some false)=some r:=by rw [if_neg (show ¬ (false=true) by decide)] at H;exact H
                  clear H
                  have H:=H1
                  clear H1
                  obtain rfl:=Option.some.inj H
                  have UL:wr.cell? ⟨dY,0,none⟩=some (.slice dN bn.length dK):=(ak bZ.out 0).trans rfl
                  have UK:wr.cell? ⟨dY,1,none⟩=some (.string bD):=(ak bZ.out 1).trans rfl
                  have UJ:wr.cell? ⟨dY,2,none⟩=some (.string bu):=(ak bZ.out 2).trans rfl
                  have UI:wr.cell? ⟨dY,3,none⟩=some (.slice dQ aV.length dJ):=(ak bZ.out 3).trans rfl
                  have Tv:=ax bZ.out 0
                  have Tu:=ax bZ.out 1
                  have Tt:=ax bZ.out 2
                  have Tq:=ax bZ.out 3
                  go_wp2_with (first|((with_reducible refine bY (f:=37) rfl ?_);refine eQ (some 35) rfl rfl Tryz.func37 (by kernel_rfl) rfl #[.string bD] rfl (by (try simp only [List.map_toArray,List.map_cons,List.map_nil]);first|done|rfl|(simp only [List.length_drop,List.length_take];rfl)) ?_;(with_reducible refine (dC.calls bD true _ WQ.out).mono ?_);rintro e Si ⟨rfl,hb⟩;refine ⟨_,rfl,?_⟩;have dM:=af.mk (bW (g:=dY) (o:=.cells #[.slice dN bn.length dK,.string bD,.string bu,.slice dQ aV.length dJ] 25 (0,0)) (by (with_reducible repeat (first|refine aC ?_ _|refine aK ?_|refine aG ?_ _));exact bZ.out) hb);have dP:=af.mk (bf (by repeat (first|(with_reducible first|exact HB.out|apply ai|apply ag|apply ah|refine az ?_ jy.out)|exact HB.out)) hb);clear bZ;clear HB;have bZ:=dM;have HB:=dP;clear dM dP;(try clear hb);(try clear hb2);(try clear hk);(try clear hi);have UD:Si.cell? ⟨dY,0,none⟩=some (.slice dN bn.length dK):=(ak bZ.out 0).trans rfl;have UC:Si.cell? ⟨dY,1,none⟩=some (.string bD):=(ak bZ.out 1).trans rfl;have UB:Si.cell? ⟨dY,2,none⟩=some (.string bu):=(ak bZ.out 2).trans rfl;have UA:Si.cell? ⟨dY,3,none⟩=some (.slice dQ aV.length dJ):=(ak bZ.out 3).trans rfl;have Tf:=ax bZ.out 0;have Td:=ax bZ.out 1;have Tc:=ax bZ.out 2;have S9:=ax bZ.out 3)|(go_at_call 37;(with_reducible refine (dC.calls bu false _ XU.out).mono ?_);rintro e Gm ⟨rfl,hb⟩;have dM:=af.mk (bW (g:=dY) (o:=.cells #[.slice dN bn.length dK,.string bD,.string bu,.slice dQ aV.length dJ] 25 (0,0)) (by (with_reducible repeat (first|refine aC ?_ _|refine aK ?_|refine aG ?_ _));exact bZ.out) hb);have dP:=af.mk (bf (by repeat (first|(with_reducible first|exact HB.out|apply ai|apply ag|apply ah|refine az ?_ jy.out)|exact HB.out)) hb);clear bZ;clear HB;have bZ:=dM;have HB:=dP;clear dM dP;(try clear hb);(try clear hb2);(try clear hk);(try clear hi)))
                  go_ret
                  exact ⟨by first|rfl|(simp [bC,bz] <;> rfl)|(simp [*,bC,bz] <;> rfl),by repeat (first|(with_reducible first|exact HB.out|apply ai|apply ag|apply ah|refine az ?_ jy.out)|exact HB.out)⟩
              · replace Vr:=Bool.eq_false_iff.mpr Vr
                subst Vr
                have H1:(some false)=some r:=by rw [if_neg (show ¬ (false=true) by decide)] at H;exact H
                clear H
                have H:=H1
                clear H1
                obtain rfl:=Option.some.inj H
                have Lm:wr.cell? ⟨dY,0,none⟩=some (.slice dN bn.length dK):=(ak bZ.out 0).trans rfl
                have Ll:wr.cell? ⟨dY,1,none⟩=some (.string bD):=(ak bZ.out 1).trans rfl
                have Lj:wr.cell? ⟨dY,2,none⟩=some (.string bu):=(ak bZ.out 2).trans rfl
                have Lh:wr.cell? ⟨dY,3,none⟩=some (.slice dQ aV.length dJ):=(ak bZ.out 3).trans rfl
                have KQ:=ax bZ.out 0
                have KP:=ax bZ.out 1
                have KO:=ax bZ.out 2
                have KN:=ax bZ.out 3
                go_wp2_with (first|((with_reducible refine bY (f:=37) rfl ?_);refine eQ (some 35) rfl rfl Tryz.func37 (by kernel_rfl) rfl #[.string bD] rfl (by (try simp only [List.map_toArray,List.map_cons,List.map_nil]);first|done|rfl|(simp only [List.length_drop,List.length_take];rfl)) ?_;(with_reducible refine (dC.calls bD false _ WQ.out).mono ?_);rintro e PG ⟨rfl,hb⟩;refine ⟨_,rfl,?_⟩;have dM:=af.mk (bW (g:=dY) (o:=.cells #[.slice dN bn.length dK,.string bD,.string bu,.slice dQ aV.length dJ] 25 (0,0)) (by (with_reducible repeat (first|refine aC ?_ _|refine aK ?_|refine aG ?_ _));exact bZ.out) hb);have dP:=af.mk (bf (by repeat (first|(with_reducible first|exact HB.out|apply ai|apply ag|apply ah|refine az ?_ jy.out)|exact HB.out)) hb);clear bZ;clear HB;have bZ:=dM;have HB:=dP;clear dM dP;(try clear hb);(try clear hb2);(try clear hk);(try clear hi)))
                go_ret
                exact ⟨by first|rfl|(simp [bC,bz] <;> rfl)|(simp [*,bC,bz] <;> rfl),by repeat (first|(with_reducible first|exact HB.out|apply ai|apply ag|apply ah|refine az ?_ jy.out)|exact HB.out)⟩
def jv.f (a0:ByteArray):Option (ByteArray):=if a0.toList=([]:List UInt8) then (some (⟨#[45]⟩:ByteArray)) else (some a0)
set_option maxHeartbeats 8000000 in
set_option maxRecDepth 100000 in
theorem jv.calls (a0:ByteArray) (r:ByteArray) (w:World) (h:jv.f a0=some r) :
    Calls Tryz.prog 19 #[.string a0] w fun e w'=>e=.returned (.string r)∧dE w w':=by
  have H:(if a0.toList=([]:List UInt8) then (some (⟨#[45]⟩:ByteArray)) else (some a0))=some r:=h
  clear h
  by_cases c2:a0.toList=([]:List UInt8)
  · rw [if_pos c2] at H
    have rJ:(a0.toList == ([]:List UInt8))=true:=beq_iff_eq.mpr c2
    have wE:(a0.toList != ([]:List UInt8))=false:=bne_eq_false_iff_eq.mpr c2
    clear c2
    obtain rfl:=Option.some.inj H
    go_enter Tryz.func19,Tryz.ntmps19
    go_wp2
    go_ret
    exact ⟨by first|rfl|(simp;done)|(simp [*];done),by repeat (first|exact dE.refl _|apply dE.step)⟩
  · rw [if_neg c2] at H
    have rJ:(a0.toList == ([]:List UInt8))=false:=beq_eq_false_iff_ne.mpr c2
    have wE:(a0.toList != ([]:List UInt8))=true:=bne_iff_ne.mpr c2
    obtain rfl:=Option.some.inj H
    go_enter Tryz.func19,Tryz.ntmps19
    go_wp2
    go_ret
    exact ⟨by first|rfl|(simp;done)|(simp [*];done),by repeat (first|exact dE.refl _|apply dE.step)⟩
end Go.Proofs.YtkclndkbccbhaaaGreatDoor.P
end
